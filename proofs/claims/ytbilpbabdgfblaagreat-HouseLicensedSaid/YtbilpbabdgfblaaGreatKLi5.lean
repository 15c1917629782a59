/- Parts of the proof: contracts of functions. No condition. -/
import Derived.Test.YtbilpbabdgfblaaGreatKLi4
set_option maxHeartbeats 16000000
set_option linter.unusedSimpArgs false
set_option linter.unusedVariables false
namespace Go.Proofs.YtbilpbabdgfblaaGreat
open Go.RowKit
theorem ty1:TyIs Tryz.prog 1 ⟨.func,1,8,.nilFunc⟩:=⟨by kernel_rfl,by kernel_rfl⟩
theorem ty2:TyIs Tryz.prog 2 ⟨.int .i64,1,8,.int .i64 0⟩:=⟨by kernel_rfl,by kernel_rfl⟩
theorem ty3:TyIs Tryz.prog 3 ⟨.int .i64,1,8,.int .i64 0⟩:=⟨by kernel_rfl,by kernel_rfl⟩
theorem ty4:TyIs Tryz.prog 4 ⟨.bool,1,1,.bool false⟩:=⟨by kernel_rfl,by kernel_rfl⟩
theorem ty5:TyIs Tryz.prog 5 ⟨.int .u8,1,1,.int .u8 0⟩:=⟨by kernel_rfl,by kernel_rfl⟩
theorem ty6:TyIs Tryz.prog 6 ⟨.int .u8,1,1,.int .u8 0⟩:=⟨by kernel_rfl,by kernel_rfl⟩
theorem ty7:TyIs Tryz.prog 7 ⟨.struct [(2,0),(3,1),(4,2),(6,3)],4,24,.agg #[.int .i64 0,.int .i64 0,.bool false,.int .u8 0]⟩:=⟨by kernel_rfl,by kernel_rfl⟩
theorem ty8:TyIs Tryz.prog 8 ⟨.struct [(2,0),(3,1),(4,2),(6,3)],4,24,.agg #[.int .i64 0,.int .i64 0,.bool false,.int .u8 0]⟩:=⟨by kernel_rfl,by kernel_rfl⟩
theorem ty12:TyIs Tryz.prog 12 ⟨.int .u64,1,8,.int .u64 0⟩:=⟨by kernel_rfl,by kernel_rfl⟩
theorem ty15:TyIs Tryz.prog 15 ⟨.ptr 255,1,8,.pointer none⟩:=⟨by kernel_rfl,by kernel_rfl⟩
theorem ty16:TyIs Tryz.prog 16 ⟨.ptr 258,1,8,.pointer none⟩:=⟨by kernel_rfl,by kernel_rfl⟩
theorem ty17:TyIs Tryz.prog 17 ⟨.ptr 266,1,8,.pointer none⟩:=⟨by kernel_rfl,by kernel_rfl⟩
theorem ty18:TyIs Tryz.prog 18 ⟨.struct [(17,0)],1,8,.agg #[.pointer none]⟩:=⟨by kernel_rfl,by kernel_rfl⟩
theorem ty19:TyIs Tryz.prog 19 ⟨.struct [(17,0)],1,8,.agg #[.pointer none]⟩:=⟨by kernel_rfl,by kernel_rfl⟩
theorem ty20:TyIs Tryz.prog 20 ⟨.iface true,1,16,.nilIface⟩:=⟨by kernel_rfl,by kernel_rfl⟩
theorem ty21:TyIs Tryz.prog 21 ⟨.int .i32,1,4,.int .i32 0⟩:=⟨by kernel_rfl,by kernel_rfl⟩
theorem ty22:TyIs Tryz.prog 22 ⟨.slice 48,1,24,.slice none 0 0⟩:=⟨by kernel_rfl,by kernel_rfl⟩
theorem ty23:TyIs Tryz.prog 23 ⟨.func,1,8,.nilFunc⟩:=⟨by kernel_rfl,by kernel_rfl⟩
theorem ty24:TyIs Tryz.prog 24 ⟨.slice 148,1,24,.slice none 0 0⟩:=⟨by kernel_rfl,by kernel_rfl⟩
theorem ty25:TyIs Tryz.prog 25 ⟨.slice 89,1,24,.slice none 0 0⟩:=⟨by kernel_rfl,by kernel_rfl⟩
theorem ty26:TyIs Tryz.prog 26 ⟨.struct [(3,0),(24,1),(25,2)],3,56,.agg #[.int .i64 0,.slice none 0 0,.slice none 0 0]⟩:=⟨by kernel_rfl,by kernel_rfl⟩
theorem ty27:TyIs Tryz.prog 27 ⟨.struct [(3,0),(24,1),(25,2)],3,56,.agg #[.int .i64 0,.slice none 0 0,.slice none 0 0]⟩:=⟨by kernel_rfl,by kernel_rfl⟩
theorem ty28:TyIs Tryz.prog 28 ⟨.slice 66,1,24,.slice none 0 0⟩:=⟨by kernel_rfl,by kernel_rfl⟩
theorem ty29:TyIs Tryz.prog 29 ⟨.slice 98,1,24,.slice none 0 0⟩:=⟨by kernel_rfl,by kernel_rfl⟩
theorem ty30:TyIs Tryz.prog 30 ⟨.slice 64,1,24,.slice none 0 0⟩:=⟨by kernel_rfl,by kernel_rfl⟩
theorem ty31:TyIs Tryz.prog 31 ⟨.slice 3,1,24,.slice none 0 0⟩:=⟨by kernel_rfl,by kernel_rfl⟩
theorem ty32:TyIs Tryz.prog 32 ⟨.struct [(3,0),(3,1),(27,2),(28,5),(29,6),(30,7),(31,8),(31,9)],10,192,.agg #[.int .i64 0,.int .i64 0,.int .i64 0,.slice none 0 0,.slice none 0 0,.slice none 0 0,.slice none 0 0,.slice none 0 0,.slice none 0 0,.slice none 0 0]⟩:=⟨by kernel_rfl,by kernel_rfl⟩
theorem ty33:TyIs Tryz.prog 33 ⟨.struct [(3,0),(3,1),(27,2),(28,5),(29,6),(30,7),(31,8),(31,9)],10,192,.agg #[.int .i64 0,.int .i64 0,.int .i64 0,.slice none 0 0,.slice none 0 0,.slice none 0 0,.slice none 0 0,.slice none 0 0,.slice none 0 0,.slice none 0 0]⟩:=⟨by kernel_rfl,by kernel_rfl⟩
theorem ty34:TyIs Tryz.prog 34 ⟨.int .i64,1,8,.int .i64 0⟩:=⟨by kernel_rfl,by kernel_rfl⟩
theorem ty36:TyIs Tryz.prog 36 ⟨.func,1,8,.nilFunc⟩:=⟨by kernel_rfl,by kernel_rfl⟩
theorem ty38:TyIs Tryz.prog 38 ⟨.func,1,8,.nilFunc⟩:=⟨by kernel_rfl,by kernel_rfl⟩
theorem ty39:TyIs Tryz.prog 39 ⟨.func,1,8,.nilFunc⟩:=⟨by kernel_rfl,by kernel_rfl⟩
theorem ty40:TyIs Tryz.prog 40 ⟨.func,1,8,.nilFunc⟩:=⟨by kernel_rfl,by kernel_rfl⟩
theorem ty41:TyIs Tryz.prog 41 ⟨.struct [(5,0),(3,1),(3,2),(3,3)],4,32,.agg #[.int .u8 0,.int .i64 0,.int .i64 0,.int .i64 0]⟩:=⟨by kernel_rfl,by kernel_rfl⟩
theorem ty42:TyIs Tryz.prog 42 ⟨.struct [(5,0),(3,1),(3,2),(3,3)],4,32,.agg #[.int .u8 0,.int .i64 0,.int .i64 0,.int .i64 0]⟩:=⟨by kernel_rfl,by kernel_rfl⟩
theorem ty43:TyIs Tryz.prog 43 ⟨.struct [(3,0),(3,1),(3,2),(3,3),(3,4)],5,40,.agg #[.int .i64 0,.int .i64 0,.int .i64 0,.int .i64 0,.int .i64 0]⟩:=⟨by kernel_rfl,by kernel_rfl⟩
theorem ty44:TyIs Tryz.prog 44 ⟨.struct [(3,0),(3,1),(3,2),(3,3),(3,4)],5,40,.agg #[.int .i64 0,.int .i64 0,.int .i64 0,.int .i64 0,.int .i64 0]⟩:=⟨by kernel_rfl,by kernel_rfl⟩
theorem ty45:TyIs Tryz.prog 45 ⟨.slice 31,1,24,.slice none 0 0⟩:=⟨by kernel_rfl,by kernel_rfl⟩
theorem ty46:TyIs Tryz.prog 46 ⟨.slice 31,1,24,.slice none 0 0⟩:=⟨by kernel_rfl,by kernel_rfl⟩
theorem ty47:TyIs Tryz.prog 47 ⟨.struct [(5,0),(3,1),(3,2),(3,3),(3,4),(3,5),(42,6),(44,10),(46,15)],16,144,.agg #[.int .u8 0,.int .i64 0,.int .i64 0,.int .i64 0,.int .i64 0,.int .i64 0,.int .u8 0,.int .i64 0,.int .i64 0,.int .i64 0,.int .i64 0,.int .i64 0,.int .i64 0,.int .i64 0,.int .i64 0,.slice none 0 0]⟩:=⟨by kernel_rfl,by kernel_rfl⟩
theorem ty48:TyIs Tryz.prog 48 ⟨.struct [(5,0),(3,1),(3,2),(3,3),(3,4),(3,5),(42,6),(44,10),(46,15)],16,144,.agg #[.int .u8 0,.int .i64 0,.int .i64 0,.int .i64 0,.int .i64 0,.int .i64 0,.int .u8 0,.int .i64 0,.int .i64 0,.int .i64 0,.int .i64 0,.int .i64 0,.int .i64 0,.int .i64 0,.int .i64 0,.slice none 0 0]⟩:=⟨by kernel_rfl,by kernel_rfl⟩
theorem ty49:TyIs Tryz.prog 49 ⟨.func,1,8,.nilFunc⟩:=⟨by kernel_rfl,by kernel_rfl⟩
theorem ty50:TyIs Tryz.prog 50 ⟨.func,1,8,.nilFunc⟩:=⟨by kernel_rfl,by kernel_rfl⟩
theorem ty51:TyIs Tryz.prog 51 ⟨.func,1,8,.nilFunc⟩:=⟨by kernel_rfl,by kernel_rfl⟩
theorem ty53:TyIs Tryz.prog 53 ⟨.func,1,8,.nilFunc⟩:=⟨by kernel_rfl,by kernel_rfl⟩
theorem ty55:TyIs Tryz.prog 55 ⟨.func,1,8,.nilFunc⟩:=⟨by kernel_rfl,by kernel_rfl⟩
theorem ty56:TyIs Tryz.prog 56 ⟨.func,1,8,.nilFunc⟩:=⟨by kernel_rfl,by kernel_rfl⟩
theorem ty57:TyIs Tryz.prog 57 ⟨.func,1,8,.nilFunc⟩:=⟨by kernel_rfl,by kernel_rfl⟩
theorem ty58:TyIs Tryz.prog 58 ⟨.func,1,8,.nilFunc⟩:=⟨by kernel_rfl,by kernel_rfl⟩
theorem ty59:TyIs Tryz.prog 59 ⟨.func,1,8,.nilFunc⟩:=⟨by kernel_rfl,by kernel_rfl⟩
theorem ty60:TyIs Tryz.prog 60 ⟨.map 62 3,1,8,.map none⟩:=⟨by kernel_rfl,by kernel_rfl⟩
theorem ty61:TyIs Tryz.prog 61 ⟨.struct [(3,0),(3,1)],2,16,.agg #[.int .i64 0,.int .i64 0]⟩:=⟨by kernel_rfl,by kernel_rfl⟩
theorem ty62:TyIs Tryz.prog 62 ⟨.struct [(3,0),(3,1)],2,16,.agg #[.int .i64 0,.int .i64 0]⟩:=⟨by kernel_rfl,by kernel_rfl⟩
theorem ty63:TyIs Tryz.prog 63 ⟨.struct [(3,0),(3,1),(3,2),(4,3)],4,32,.agg #[.int .i64 0,.int .i64 0,.int .i64 0,.bool false]⟩:=⟨by kernel_rfl,by kernel_rfl⟩
theorem ty64:TyIs Tryz.prog 64 ⟨.struct [(3,0),(3,1),(3,2),(4,3)],4,32,.agg #[.int .i64 0,.int .i64 0,.int .i64 0,.bool false]⟩:=⟨by kernel_rfl,by kernel_rfl⟩
theorem ty65:TyIs Tryz.prog 65 ⟨.struct [(3,0),(44,1),(46,6)],7,72,.agg #[.int .i64 0,.int .i64 0,.int .i64 0,.int .i64 0,.int .i64 0,.int .i64 0,.slice none 0 0]⟩:=⟨by kernel_rfl,by kernel_rfl⟩
theorem ty66:TyIs Tryz.prog 66 ⟨.struct [(3,0),(44,1),(46,6)],7,72,.agg #[.int .i64 0,.int .i64 0,.int .i64 0,.int .i64 0,.int .i64 0,.int .i64 0,.slice none 0 0]⟩:=⟨by kernel_rfl,by kernel_rfl⟩
theorem ty68:TyIs Tryz.prog 68 ⟨.func,1,8,.nilFunc⟩:=⟨by kernel_rfl,by kernel_rfl⟩
theorem ty69:TyIs Tryz.prog 69 ⟨.slice 4,1,24,.slice none 0 0⟩:=⟨by kernel_rfl,by kernel_rfl⟩
theorem ty71:TyIs Tryz.prog 71 ⟨.func,1,8,.nilFunc⟩:=⟨by kernel_rfl,by kernel_rfl⟩
theorem ty72:TyIs Tryz.prog 72 ⟨.struct [(3,0),(3,1),(3,2),(31,3),(3,4)],5,56,.agg #[.int .i64 0,.int .i64 0,.int .i64 0,.slice none 0 0,.int .i64 0]⟩:=⟨by kernel_rfl,by kernel_rfl⟩
theorem ty73:TyIs Tryz.prog 73 ⟨.struct [(3,0),(3,1),(3,2),(31,3),(3,4)],5,56,.agg #[.int .i64 0,.int .i64 0,.int .i64 0,.slice none 0 0,.int .i64 0]⟩:=⟨by kernel_rfl,by kernel_rfl⟩
theorem ty75:TyIs Tryz.prog 75 ⟨.func,1,8,.nilFunc⟩:=⟨by kernel_rfl,by kernel_rfl⟩
theorem ty76:TyIs Tryz.prog 76 ⟨.slice 69,1,24,.slice none 0 0⟩:=⟨by kernel_rfl,by kernel_rfl⟩
theorem ty77:TyIs Tryz.prog 77 ⟨.func,1,8,.nilFunc⟩:=⟨by kernel_rfl,by kernel_rfl⟩
theorem ty78:TyIs Tryz.prog 78 ⟨.slice 82,1,24,.slice none 0 0⟩:=⟨by kernel_rfl,by kernel_rfl⟩
theorem ty80:TyIs Tryz.prog 80 ⟨.func,1,8,.nilFunc⟩:=⟨by kernel_rfl,by kernel_rfl⟩
theorem ty81:TyIs Tryz.prog 81 ⟨.struct [(3,0),(3,1),(3,2)],3,24,.agg #[.int .i64 0,.int .i64 0,.int .i64 0]⟩:=⟨by kernel_rfl,by kernel_rfl⟩
theorem ty82:TyIs Tryz.prog 82 ⟨.struct [(3,0),(3,1),(3,2)],3,24,.agg #[.int .i64 0,.int .i64 0,.int .i64 0]⟩:=⟨by kernel_rfl,by kernel_rfl⟩
theorem ty83:TyIs Tryz.prog 83 ⟨.func,1,8,.nilFunc⟩:=⟨by kernel_rfl,by kernel_rfl⟩
theorem ty84:TyIs Tryz.prog 84 ⟨.func,1,8,.nilFunc⟩:=⟨by kernel_rfl,by kernel_rfl⟩
theorem ty85:TyIs Tryz.prog 85 ⟨.func,1,8,.nilFunc⟩:=⟨by kernel_rfl,by kernel_rfl⟩
theorem ty87:TyIs Tryz.prog 87 ⟨.func,1,8,.nilFunc⟩:=⟨by kernel_rfl,by kernel_rfl⟩
theorem ty88:TyIs Tryz.prog 88 ⟨.struct [(3,0),(5,1)],2,16,.agg #[.int .i64 0,.int .u8 0]⟩:=⟨by kernel_rfl,by kernel_rfl⟩
theorem ty89:TyIs Tryz.prog 89 ⟨.struct [(3,0),(5,1)],2,16,.agg #[.int .i64 0,.int .u8 0]⟩:=⟨by kernel_rfl,by kernel_rfl⟩
theorem ty90:TyIs Tryz.prog 90 ⟨.func,1,8,.nilFunc⟩:=⟨by kernel_rfl,by kernel_rfl⟩
theorem ty91:TyIs Tryz.prog 91 ⟨.func,1,8,.nilFunc⟩:=⟨by kernel_rfl,by kernel_rfl⟩
theorem ty92:TyIs Tryz.prog 92 ⟨.func,1,8,.nilFunc⟩:=⟨by kernel_rfl,by kernel_rfl⟩
theorem ty93:TyIs Tryz.prog 93 ⟨.func,1,8,.nilFunc⟩:=⟨by kernel_rfl,by kernel_rfl⟩
theorem ty94:TyIs Tryz.prog 94 ⟨.func,1,8,.nilFunc⟩:=⟨by kernel_rfl,by kernel_rfl⟩
theorem ty95:TyIs Tryz.prog 95 ⟨.func,1,8,.nilFunc⟩:=⟨by kernel_rfl,by kernel_rfl⟩
theorem ty96:TyIs Tryz.prog 96 ⟨.func,1,8,.nilFunc⟩:=⟨by kernel_rfl,by kernel_rfl⟩
theorem ty97:TyIs Tryz.prog 97 ⟨.struct [(3,0),(3,1),(3,2),(3,3)],4,32,.agg #[.int .i64 0,.int .i64 0,.int .i64 0,.int .i64 0]⟩:=⟨by kernel_rfl,by kernel_rfl⟩
theorem ty98:TyIs Tryz.prog 98 ⟨.struct [(3,0),(3,1),(3,2),(3,3)],4,32,.agg #[.int .i64 0,.int .i64 0,.int .i64 0,.int .i64 0]⟩:=⟨by kernel_rfl,by kernel_rfl⟩
theorem ty99:TyIs Tryz.prog 99 ⟨.func,1,8,.nilFunc⟩:=⟨by kernel_rfl,by kernel_rfl⟩
theorem ty100:TyIs Tryz.prog 100 ⟨.struct [(3,0),(3,1)],2,16,.agg #[.int .i64 0,.int .i64 0]⟩:=⟨by kernel_rfl,by kernel_rfl⟩
theorem ty101:TyIs Tryz.prog 101 ⟨.struct [(3,0),(3,1)],2,16,.agg #[.int .i64 0,.int .i64 0]⟩:=⟨by kernel_rfl,by kernel_rfl⟩
theorem ty103:TyIs Tryz.prog 103 ⟨.func,1,8,.nilFunc⟩:=⟨by kernel_rfl,by kernel_rfl⟩
theorem ty105:TyIs Tryz.prog 105 ⟨.func,1,8,.nilFunc⟩:=⟨by kernel_rfl,by kernel_rfl⟩
theorem ty107:TyIs Tryz.prog 107 ⟨.func,1,8,.nilFunc⟩:=⟨by kernel_rfl,by kernel_rfl⟩
theorem ty108:TyIs Tryz.prog 108 ⟨.func,1,8,.nilFunc⟩:=⟨by kernel_rfl,by kernel_rfl⟩
theorem ty109:TyIs Tryz.prog 109 ⟨.func,1,8,.nilFunc⟩:=⟨by kernel_rfl,by kernel_rfl⟩
theorem ty110:TyIs Tryz.prog 110 ⟨.ptr 116,1,8,.pointer none⟩:=⟨by kernel_rfl,by kernel_rfl⟩
theorem ty112:TyIs Tryz.prog 112 ⟨.func,1,8,.nilFunc⟩:=⟨by kernel_rfl,by kernel_rfl⟩
theorem ty113:TyIs Tryz.prog 113 ⟨.func,1,8,.nilFunc⟩:=⟨by kernel_rfl,by kernel_rfl⟩
theorem ty114:TyIs Tryz.prog 114 ⟨.map 3 125,1,8,.map none⟩:=⟨by kernel_rfl,by kernel_rfl⟩
theorem ty115:TyIs Tryz.prog 115 ⟨.struct [(33,0),(114,10)],11,200,.agg #[.int .i64 0,.int .i64 0,.int .i64 0,.slice none 0 0,.slice none 0 0,.slice none 0 0,.slice none 0 0,.slice none 0 0,.slice none 0 0,.slice none 0 0,.map none]⟩:=⟨by kernel_rfl,by kernel_rfl⟩
theorem ty116:TyIs Tryz.prog 116 ⟨.struct [(33,0),(114,10)],11,200,.agg #[.int .i64 0,.int .i64 0,.int .i64 0,.slice none 0 0,.slice none 0 0,.slice none 0 0,.slice none 0 0,.slice none 0 0,.slice none 0 0,.slice none 0 0,.map none]⟩:=⟨by kernel_rfl,by kernel_rfl⟩
theorem ty117:TyIs Tryz.prog 117 ⟨.func,1,8,.nilFunc⟩:=⟨by kernel_rfl,by kernel_rfl⟩
theorem ty118:TyIs Tryz.prog 118 ⟨.func,1,8,.nilFunc⟩:=⟨by kernel_rfl,by kernel_rfl⟩
theorem ty119:TyIs Tryz.prog 119 ⟨.func,1,8,.nilFunc⟩:=⟨by kernel_rfl,by kernel_rfl⟩
theorem ty120:TyIs Tryz.prog 120 ⟨.func,1,8,.nilFunc⟩:=⟨by kernel_rfl,by kernel_rfl⟩
theorem ty121:TyIs Tryz.prog 121 ⟨.func,1,8,.nilFunc⟩:=⟨by kernel_rfl,by kernel_rfl⟩
theorem ty122:TyIs Tryz.prog 122 ⟨.func,1,8,.nilFunc⟩:=⟨by kernel_rfl,by kernel_rfl⟩
theorem ty123:TyIs Tryz.prog 123 ⟨.func,1,8,.nilFunc⟩:=⟨by kernel_rfl,by kernel_rfl⟩
theorem ty124:TyIs Tryz.prog 124 ⟨.array 3 3,3,24,.agg #[.int .i64 0,.int .i64 0,.int .i64 0]⟩:=⟨by kernel_rfl,by kernel_rfl⟩
theorem ty125:TyIs Tryz.prog 125 ⟨.array 3 3,3,24,.agg #[.int .i64 0,.int .i64 0,.int .i64 0]⟩:=⟨by kernel_rfl,by kernel_rfl⟩
theorem ty127:TyIs Tryz.prog 127 ⟨.func,1,8,.nilFunc⟩:=⟨by kernel_rfl,by kernel_rfl⟩
theorem ty128:TyIs Tryz.prog 128 ⟨.func,1,8,.nilFunc⟩:=⟨by kernel_rfl,by kernel_rfl⟩
theorem ty129:TyIs Tryz.prog 129 ⟨.func,1,8,.nilFunc⟩:=⟨by kernel_rfl,by kernel_rfl⟩
theorem ty130:TyIs Tryz.prog 130 ⟨.array 21 4,21,21,.agg #[.bool false,.bool false,.bool false,.bool false,.bool false,.bool false,.bool false,.bool false,.bool false,.bool false,.bool false,.bool false,.bool false,.bool false,.bool false,.bool false,.bool false,.bool false,.bool false,.bool false,.bool false]⟩:=⟨by kernel_rfl,by kernel_rfl⟩
theorem ty131:TyIs Tryz.prog 131 ⟨.array 8 130,168,168,.agg #[.bool false,.bool false,.bool false,.bool false,.bool false,.bool false,.bool false,.bool false,.bool false,.bool false,.bool false,.bool false,.bool false,.bool false,.bool false,.bool false,.bool false,.bool false,.bool false,.bool false,.bool false,.bool false,.bool false,.bool false,.bool false,.bool false,.bool false,.bool false,.bool false,.bool false,.bool false,.bool false,.bool false,.bool false,.bool false,.bool false,.bool false,.bool false,.bool false,.bool false,.bool false,.bool false,.bool false,.bool false,.bool false,.bool false,.bool false,.bool false,.bool false,.bool false,.bool false,.bool false,.bool false,.bool false,.bool false,.bool false,.bool false,.bool false,.bool false,.bool false,.bool false,.bool false,.bool false,.bool false,.bool false,.bool false,.bool false,.bool false,.bool false,.bool false,.bool false,.bool false,.bool false,.bool false,.bool false,.bool false,.bool false,.bool false,.bool false,.bool false,.bool false,.bool false,.bool false,.bool false,.bool false,.bool false,.bool false,.bool false,.bool false,.bool false,.bool false,.bool false,.bool false,.bool false,.bool false,.bool false,.bool false,.bool false,.bool false,.bool false,.bool false,.bool false,.bool false,.bool false,.bool false,.bool false,.bool false,.bool false,.bool false,.bool false,.bool false,.bool false,.bool false,.bool false,.bool false,.bool false,.bool false,.bool false,.bool false,.bool false,.bool false,.bool false,.bool false,.bool false,.bool false,.bool false,.bool false,.bool false,.bool false,.bool false,.bool false,.bool false,.bool false,.bool false,.bool false,.bool false,.bool false,.bool false,.bool false,.bool false,.bool false,.bool false,.bool false,.bool false,.bool false,.bool false,.bool false,.bool false,.bool false,.bool false,.bool false,.bool false,.bool false,.bool false,.bool false,.bool false,.bool false,.bool false,.bool false,.bool false,.bool false,.bool false,.bool false,.bool false,.bool false,.bool false,.bool false,.bool false]⟩:=⟨by kernel_rfl,by kernel_rfl⟩
theorem ty132:TyIs Tryz.prog 132 ⟨.func,1,8,.nilFunc⟩:=⟨by kernel_rfl,by kernel_rfl⟩
theorem ty133:TyIs Tryz.prog 133 ⟨.func,1,8,.nilFunc⟩:=⟨by kernel_rfl,by kernel_rfl⟩
theorem ty134:TyIs Tryz.prog 134 ⟨.func,1,8,.nilFunc⟩:=⟨by kernel_rfl,by kernel_rfl⟩
theorem ty135:TyIs Tryz.prog 135 ⟨.func,1,8,.nilFunc⟩:=⟨by kernel_rfl,by kernel_rfl⟩
theorem ty136:TyIs Tryz.prog 136 ⟨.ptr 141,1,8,.pointer none⟩:=⟨by kernel_rfl,by kernel_rfl⟩
theorem ty138:TyIs Tryz.prog 138 ⟨.func,1,8,.nilFunc⟩:=⟨by kernel_rfl,by kernel_rfl⟩
theorem ty139:TyIs Tryz.prog 139 ⟨.map 3 3,1,8,.map none⟩:=⟨by kernel_rfl,by kernel_rfl⟩
theorem ty140:TyIs Tryz.prog 140 ⟨.struct [(27,0),(139,3)],4,64,.agg #[.int .i64 0,.slice none 0 0,.slice none 0 0,.map none]⟩:=⟨by kernel_rfl,by kernel_rfl⟩
theorem ty141:TyIs Tryz.prog 141 ⟨.struct [(27,0),(139,3)],4,64,.agg #[.int .i64 0,.slice none 0 0,.slice none 0 0,.map none]⟩:=⟨by kernel_rfl,by kernel_rfl⟩
theorem ty142:TyIs Tryz.prog 142 ⟨.func,1,8,.nilFunc⟩:=⟨by kernel_rfl,by kernel_rfl⟩
theorem ty143:TyIs Tryz.prog 143 ⟨.func,1,8,.nilFunc⟩:=⟨by kernel_rfl,by kernel_rfl⟩
theorem ty144:TyIs Tryz.prog 144 ⟨.func,1,8,.nilFunc⟩:=⟨by kernel_rfl,by kernel_rfl⟩
theorem ty145:TyIs Tryz.prog 145 ⟨.func,1,8,.nilFunc⟩:=⟨by kernel_rfl,by kernel_rfl⟩
theorem ty146:TyIs Tryz.prog 146 ⟨.func,1,8,.nilFunc⟩:=⟨by kernel_rfl,by kernel_rfl⟩
theorem ty147:TyIs Tryz.prog 147 ⟨.struct [(5,0),(3,1),(3,2),(3,3),(4,4)],5,40,.agg #[.int .u8 0,.int .i64 0,.int .i64 0,.int .i64 0,.bool false]⟩:=⟨by kernel_rfl,by kernel_rfl⟩
theorem ty148:TyIs Tryz.prog 148 ⟨.struct [(5,0),(3,1),(3,2),(3,3),(4,4)],5,40,.agg #[.int .u8 0,.int .i64 0,.int .i64 0,.int .i64 0,.bool false]⟩:=⟨by kernel_rfl,by kernel_rfl⟩
theorem ty150:TyIs Tryz.prog 150 ⟨.func,1,8,.nilFunc⟩:=⟨by kernel_rfl,by kernel_rfl⟩
theorem ty151:TyIs Tryz.prog 151 ⟨.func,1,8,.nilFunc⟩:=⟨by kernel_rfl,by kernel_rfl⟩
theorem ty152:TyIs Tryz.prog 152 ⟨.func,1,8,.nilFunc⟩:=⟨by kernel_rfl,by kernel_rfl⟩
theorem ty153:TyIs Tryz.prog 153 ⟨.func,1,8,.nilFunc⟩:=⟨by kernel_rfl,by kernel_rfl⟩
theorem ty154:TyIs Tryz.prog 154 ⟨.func,1,8,.nilFunc⟩:=⟨by kernel_rfl,by kernel_rfl⟩
theorem ty155:TyIs Tryz.prog 155 ⟨.func,1,8,.nilFunc⟩:=⟨by kernel_rfl,by kernel_rfl⟩
theorem ty156:TyIs Tryz.prog 156 ⟨.array 3 4,3,3,.agg #[.bool false,.bool false,.bool false]⟩:=⟨by kernel_rfl,by kernel_rfl⟩
theorem ty157:TyIs Tryz.prog 157 ⟨.array 5 156,15,15,.agg #[.bool false,.bool false,.bool false,.bool false,.bool false,.bool false,.bool false,.bool false,.bool false,.bool false,.bool false,.bool false,.bool false,.bool false,.bool false]⟩:=⟨by kernel_rfl,by kernel_rfl⟩
theorem ty158:TyIs Tryz.prog 158 ⟨.array 5 156,15,15,.agg #[.bool false,.bool false,.bool false,.bool false,.bool false,.bool false,.bool false,.bool false,.bool false,.bool false,.bool false,.bool false,.bool false,.bool false,.bool false]⟩:=⟨by kernel_rfl,by kernel_rfl⟩
theorem ty159:TyIs Tryz.prog 159 ⟨.func,1,8,.nilFunc⟩:=⟨by kernel_rfl,by kernel_rfl⟩
theorem ty160:TyIs Tryz.prog 160 ⟨.func,1,8,.nilFunc⟩:=⟨by kernel_rfl,by kernel_rfl⟩
theorem ty161:TyIs Tryz.prog 161 ⟨.func,1,8,.nilFunc⟩:=⟨by kernel_rfl,by kernel_rfl⟩
theorem ty162:TyIs Tryz.prog 162 ⟨.func,1,8,.nilFunc⟩:=⟨by kernel_rfl,by kernel_rfl⟩
theorem ty163:TyIs Tryz.prog 163 ⟨.func,1,8,.nilFunc⟩:=⟨by kernel_rfl,by kernel_rfl⟩
theorem ty164:TyIs Tryz.prog 164 ⟨.func,1,8,.nilFunc⟩:=⟨by kernel_rfl,by kernel_rfl⟩
theorem ty165:TyIs Tryz.prog 165 ⟨.func,1,8,.nilFunc⟩:=⟨by kernel_rfl,by kernel_rfl⟩
theorem ty166:TyIs Tryz.prog 166 ⟨.func,1,8,.nilFunc⟩:=⟨by kernel_rfl,by kernel_rfl⟩
theorem ty167:TyIs Tryz.prog 167 ⟨.func,1,8,.nilFunc⟩:=⟨by kernel_rfl,by kernel_rfl⟩
theorem ty168:TyIs Tryz.prog 168 ⟨.struct [(34,0)],1,8,.agg #[.int .i64 0]⟩:=⟨by kernel_rfl,by kernel_rfl⟩
theorem ty169:TyIs Tryz.prog 169 ⟨.struct [(34,0)],1,8,.agg #[.int .i64 0]⟩:=⟨by kernel_rfl,by kernel_rfl⟩
theorem ty171:TyIs Tryz.prog 171 ⟨.func,1,8,.nilFunc⟩:=⟨by kernel_rfl,by kernel_rfl⟩
theorem ty172:TyIs Tryz.prog 172 ⟨.array 9 171,9,72,.agg #[.nilFunc,.nilFunc,.nilFunc,.nilFunc,.nilFunc,.nilFunc,.nilFunc,.nilFunc,.nilFunc]⟩:=⟨by kernel_rfl,by kernel_rfl⟩
theorem ty173:TyIs Tryz.prog 173 ⟨.func,1,8,.nilFunc⟩:=⟨by kernel_rfl,by kernel_rfl⟩
theorem ty174:TyIs Tryz.prog 174 ⟨.func,1,8,.nilFunc⟩:=⟨by kernel_rfl,by kernel_rfl⟩
theorem ty175:TyIs Tryz.prog 175 ⟨.func,1,8,.nilFunc⟩:=⟨by kernel_rfl,by kernel_rfl⟩
theorem ty176:TyIs Tryz.prog 176 ⟨.func,1,8,.nilFunc⟩:=⟨by kernel_rfl,by kernel_rfl⟩
theorem ty177:TyIs Tryz.prog 177 ⟨.func,1,8,.nilFunc⟩:=⟨by kernel_rfl,by kernel_rfl⟩
theorem ty178:TyIs Tryz.prog 178 ⟨.func,1,8,.nilFunc⟩:=⟨by kernel_rfl,by kernel_rfl⟩
theorem ty179:TyIs Tryz.prog 179 ⟨.func,1,8,.nilFunc⟩:=⟨by kernel_rfl,by kernel_rfl⟩
theorem ty180:TyIs Tryz.prog 180 ⟨.slice 214,1,24,.slice none 0 0⟩:=⟨by kernel_rfl,by kernel_rfl⟩
theorem ty181:TyIs Tryz.prog 181 ⟨.func,1,8,.nilFunc⟩:=⟨by kernel_rfl,by kernel_rfl⟩
theorem ty182:TyIs Tryz.prog 182 ⟨.func,1,8,.nilFunc⟩:=⟨by kernel_rfl,by kernel_rfl⟩
theorem ty183:TyIs Tryz.prog 183 ⟨.func,1,8,.nilFunc⟩:=⟨by kernel_rfl,by kernel_rfl⟩
theorem ty184:TyIs Tryz.prog 184 ⟨.int .u64,1,8,.int .u64 0⟩:=⟨by kernel_rfl,by kernel_rfl⟩
theorem ty186:TyIs Tryz.prog 186 ⟨.func,1,8,.nilFunc⟩:=⟨by kernel_rfl,by kernel_rfl⟩
theorem ty187:TyIs Tryz.prog 187 ⟨.func,1,8,.nilFunc⟩:=⟨by kernel_rfl,by kernel_rfl⟩
theorem ty188:TyIs Tryz.prog 188 ⟨.func,1,8,.nilFunc⟩:=⟨by kernel_rfl,by kernel_rfl⟩
theorem ty189:TyIs Tryz.prog 189 ⟨.func,1,8,.nilFunc⟩:=⟨by kernel_rfl,by kernel_rfl⟩
theorem ty190:TyIs Tryz.prog 190 ⟨.func,1,8,.nilFunc⟩:=⟨by kernel_rfl,by kernel_rfl⟩
theorem ty191:TyIs Tryz.prog 191 ⟨.func,1,8,.nilFunc⟩:=⟨by kernel_rfl,by kernel_rfl⟩
theorem ty192:TyIs Tryz.prog 192 ⟨.func,1,8,.nilFunc⟩:=⟨by kernel_rfl,by kernel_rfl⟩
theorem ty193:TyIs Tryz.prog 193 ⟨.func,1,8,.nilFunc⟩:=⟨by kernel_rfl,by kernel_rfl⟩
theorem ty194:TyIs Tryz.prog 194 ⟨.func,1,8,.nilFunc⟩:=⟨by kernel_rfl,by kernel_rfl⟩
theorem ty195:TyIs Tryz.prog 195 ⟨.func,1,8,.nilFunc⟩:=⟨by kernel_rfl,by kernel_rfl⟩
theorem ty196:TyIs Tryz.prog 196 ⟨.func,1,8,.nilFunc⟩:=⟨by kernel_rfl,by kernel_rfl⟩
theorem ty197:TyIs Tryz.prog 197 ⟨.func,1,8,.nilFunc⟩:=⟨by kernel_rfl,by kernel_rfl⟩
theorem ty198:TyIs Tryz.prog 198 ⟨.func,1,8,.nilFunc⟩:=⟨by kernel_rfl,by kernel_rfl⟩
theorem ty199:TyIs Tryz.prog 199 ⟨.func,1,8,.nilFunc⟩:=⟨by kernel_rfl,by kernel_rfl⟩
theorem ty200:TyIs Tryz.prog 200 ⟨.func,1,8,.nilFunc⟩:=⟨by kernel_rfl,by kernel_rfl⟩
theorem ty202:TyIs Tryz.prog 202 ⟨.func,1,8,.nilFunc⟩:=⟨by kernel_rfl,by kernel_rfl⟩
theorem ty203:TyIs Tryz.prog 203 ⟨.func,1,8,.nilFunc⟩:=⟨by kernel_rfl,by kernel_rfl⟩
theorem ty204:TyIs Tryz.prog 204 ⟨.func,1,8,.nilFunc⟩:=⟨by kernel_rfl,by kernel_rfl⟩
theorem ty205:TyIs Tryz.prog 205 ⟨.func,1,8,.nilFunc⟩:=⟨by kernel_rfl,by kernel_rfl⟩
theorem ty206:TyIs Tryz.prog 206 ⟨.func,1,8,.nilFunc⟩:=⟨by kernel_rfl,by kernel_rfl⟩
theorem ty208:TyIs Tryz.prog 208 ⟨.func,1,8,.nilFunc⟩:=⟨by kernel_rfl,by kernel_rfl⟩
theorem ty209:TyIs Tryz.prog 209 ⟨.func,1,8,.nilFunc⟩:=⟨by kernel_rfl,by kernel_rfl⟩
theorem ty210:TyIs Tryz.prog 210 ⟨.func,1,8,.nilFunc⟩:=⟨by kernel_rfl,by kernel_rfl⟩
theorem ty211:TyIs Tryz.prog 211 ⟨.func,1,8,.nilFunc⟩:=⟨by kernel_rfl,by kernel_rfl⟩
theorem ty212:TyIs Tryz.prog 212 ⟨.func,1,8,.nilFunc⟩:=⟨by kernel_rfl,by kernel_rfl⟩
theorem ty213:TyIs Tryz.prog 213 ⟨.struct [(3,0),(3,1),(3,2)],3,24,.agg #[.int .i64 0,.int .i64 0,.int .i64 0]⟩:=⟨by kernel_rfl,by kernel_rfl⟩
theorem ty214:TyIs Tryz.prog 214 ⟨.struct [(3,0),(3,1),(3,2)],3,24,.agg #[.int .i64 0,.int .i64 0,.int .i64 0]⟩:=⟨by kernel_rfl,by kernel_rfl⟩
theorem ty216:TyIs Tryz.prog 216 ⟨.int .u32,1,4,.int .u32 0⟩:=⟨by kernel_rfl,by kernel_rfl⟩
theorem ty218:TyIs Tryz.prog 218 ⟨.func,1,8,.nilFunc⟩:=⟨by kernel_rfl,by kernel_rfl⟩
theorem ty219:TyIs Tryz.prog 219 ⟨.int .u64,1,8,.int .u64 0⟩:=⟨by kernel_rfl,by kernel_rfl⟩
theorem ty221:TyIs Tryz.prog 221 ⟨.func,1,8,.nilFunc⟩:=⟨by kernel_rfl,by kernel_rfl⟩
theorem ty222:TyIs Tryz.prog 222 ⟨.func,1,8,.nilFunc⟩:=⟨by kernel_rfl,by kernel_rfl⟩
theorem ty223:TyIs Tryz.prog 223 ⟨.func,1,8,.nilFunc⟩:=⟨by kernel_rfl,by kernel_rfl⟩
theorem ty224:TyIs Tryz.prog 224 ⟨.func,1,8,.nilFunc⟩:=⟨by kernel_rfl,by kernel_rfl⟩
theorem ty225:TyIs Tryz.prog 225 ⟨.ptr 98,1,8,.pointer none⟩:=⟨by kernel_rfl,by kernel_rfl⟩
theorem ty226:TyIs Tryz.prog 226 ⟨.func,1,8,.nilFunc⟩:=⟨by kernel_rfl,by kernel_rfl⟩
theorem ty227:TyIs Tryz.prog 227 ⟨.func,1,8,.nilFunc⟩:=⟨by kernel_rfl,by kernel_rfl⟩
theorem ty228:TyIs Tryz.prog 228 ⟨.ptr 64,1,8,.pointer none⟩:=⟨by kernel_rfl,by kernel_rfl⟩
theorem ty229:TyIs Tryz.prog 229 ⟨.ptr 89,1,8,.pointer none⟩:=⟨by kernel_rfl,by kernel_rfl⟩
theorem ty230:TyIs Tryz.prog 230 ⟨.func,1,8,.nilFunc⟩:=⟨by kernel_rfl,by kernel_rfl⟩
theorem ty231:TyIs Tryz.prog 231 ⟨.func,1,8,.nilFunc⟩:=⟨by kernel_rfl,by kernel_rfl⟩
theorem ty232:TyIs Tryz.prog 232 ⟨.func,1,8,.nilFunc⟩:=⟨by kernel_rfl,by kernel_rfl⟩
theorem ty233:TyIs Tryz.prog 233 ⟨.func,1,8,.nilFunc⟩:=⟨by kernel_rfl,by kernel_rfl⟩
theorem ty234:TyIs Tryz.prog 234 ⟨.func,1,8,.nilFunc⟩:=⟨by kernel_rfl,by kernel_rfl⟩
theorem ty235:TyIs Tryz.prog 235 ⟨.func,1,8,.nilFunc⟩:=⟨by kernel_rfl,by kernel_rfl⟩
theorem ty236:TyIs Tryz.prog 236 ⟨.func,1,8,.nilFunc⟩:=⟨by kernel_rfl,by kernel_rfl⟩
theorem ty238:TyIs Tryz.prog 238 ⟨.func,1,8,.nilFunc⟩:=⟨by kernel_rfl,by kernel_rfl⟩
theorem ty239:TyIs Tryz.prog 239 ⟨.func,1,8,.nilFunc⟩:=⟨by kernel_rfl,by kernel_rfl⟩
theorem ty240:TyIs Tryz.prog 240 ⟨.func,1,8,.nilFunc⟩:=⟨by kernel_rfl,by kernel_rfl⟩
theorem ty241:TyIs Tryz.prog 241 ⟨.int .i64,1,8,.int .i64 0⟩:=⟨by kernel_rfl,by kernel_rfl⟩
theorem ty242:TyIs Tryz.prog 242 ⟨.func,1,8,.nilFunc⟩:=⟨by kernel_rfl,by kernel_rfl⟩
theorem ty243:TyIs Tryz.prog 243 ⟨.array 8 242,8,64,.agg #[.nilFunc,.nilFunc,.nilFunc,.nilFunc,.nilFunc,.nilFunc,.nilFunc,.nilFunc]⟩:=⟨by kernel_rfl,by kernel_rfl⟩
theorem ty244:TyIs Tryz.prog 244 ⟨.func,1,8,.nilFunc⟩:=⟨by kernel_rfl,by kernel_rfl⟩
theorem ty245:TyIs Tryz.prog 245 ⟨.func,1,8,.nilFunc⟩:=⟨by kernel_rfl,by kernel_rfl⟩
theorem ty246:TyIs Tryz.prog 246 ⟨.ptr 148,1,8,.pointer none⟩:=⟨by kernel_rfl,by kernel_rfl⟩
theorem ty247:TyIs Tryz.prog 247 ⟨.func,1,8,.nilFunc⟩:=⟨by kernel_rfl,by kernel_rfl⟩
theorem ty248:TyIs Tryz.prog 248 ⟨.func,1,8,.nilFunc⟩:=⟨by kernel_rfl,by kernel_rfl⟩
theorem ty249:TyIs Tryz.prog 249 ⟨.func,1,8,.nilFunc⟩:=⟨by kernel_rfl,by kernel_rfl⟩
theorem ty250:TyIs Tryz.prog 250 ⟨.func,1,8,.nilFunc⟩:=⟨by kernel_rfl,by kernel_rfl⟩
theorem ty251:TyIs Tryz.prog 251 ⟨.func,1,8,.nilFunc⟩:=⟨by kernel_rfl,by kernel_rfl⟩
theorem ty252:TyIs Tryz.prog 252 ⟨.func,1,8,.nilFunc⟩:=⟨by kernel_rfl,by kernel_rfl⟩
theorem ty253:TyIs Tryz.prog 253 ⟨.func,1,8,.nilFunc⟩:=⟨by kernel_rfl,by kernel_rfl⟩
theorem ty259:TyIs Tryz.prog 259 ⟨.int .u8,1,1,.int .u8 0⟩:=⟨by kernel_rfl,by kernel_rfl⟩
theorem ty260:TyIs Tryz.prog 260 ⟨.int .u8,1,1,.int .u8 0⟩:=⟨by kernel_rfl,by kernel_rfl⟩
theorem ty261:TyIs Tryz.prog 261 ⟨.func,1,8,.nilFunc⟩:=⟨by kernel_rfl,by kernel_rfl⟩
theorem ty262:TyIs Tryz.prog 262 ⟨.ptr 5,1,8,.pointer none⟩:=⟨by kernel_rfl,by kernel_rfl⟩
theorem ty263:TyIs Tryz.prog 263 ⟨.int .i32,1,4,.int .i32 0⟩:=⟨by kernel_rfl,by kernel_rfl⟩
theorem ty264:TyIs Tryz.prog 264 ⟨.int .i32,1,4,.int .i32 0⟩:=⟨by kernel_rfl,by kernel_rfl⟩
theorem ty265:TyIs Tryz.prog 265 ⟨.struct [(12,0),(12,1),(216,2),(259,3),(5,4),(5,5),(260,6),(261,7),(262,8),(263,9),(264,10)],11,48,.agg #[.int .u64 0,.int .u64 0,.int .u32 0,.int .u8 0,.int .u8 0,.int .u8 0,.int .u8 0,.nilFunc,.pointer none,.int .i32 0,.int .i32 0]⟩:=⟨by kernel_rfl,by kernel_rfl⟩
theorem ty266:TyIs Tryz.prog 266 ⟨.struct [(12,0),(12,1),(216,2),(259,3),(5,4),(5,5),(260,6),(261,7),(262,8),(263,9),(264,10)],11,48,.agg #[.int .u64 0,.int .u64 0,.int .u32 0,.int .u8 0,.int .u8 0,.int .u8 0,.int .u8 0,.nilFunc,.pointer none,.int .i32 0,.int .i32 0]⟩:=⟨by kernel_rfl,by kernel_rfl⟩
theorem sq7:SeqOk Tryz.prog 7 [(2,0,false),(3,1,false),(4,2,false),(6,3,false)]:=⟨by kernel_rfl,by kernel_rfl,by kernel_rfl,by kernel_rfl⟩
theorem sq8:SeqOk Tryz.prog 8 [(2,0,false),(3,1,false),(4,2,false),(6,3,false)]:=⟨by kernel_rfl,by kernel_rfl,by kernel_rfl,by kernel_rfl⟩
theorem sq41:SeqOk Tryz.prog 41 [(5,0,false),(3,1,false),(3,2,false),(3,3,false)]:=⟨by kernel_rfl,by kernel_rfl,by kernel_rfl,by kernel_rfl⟩
theorem sq42:SeqOk Tryz.prog 42 [(5,0,false),(3,1,false),(3,2,false),(3,3,false)]:=⟨by kernel_rfl,by kernel_rfl,by kernel_rfl,by kernel_rfl⟩
theorem sq43:SeqOk Tryz.prog 43 [(3,0,false),(3,1,false),(3,2,false),(3,3,false),(3,4,false)]:=⟨by kernel_rfl,by kernel_rfl,by kernel_rfl,by kernel_rfl⟩
theorem sq44:SeqOk Tryz.prog 44 [(3,0,false),(3,1,false),(3,2,false),(3,3,false),(3,4,false)]:=⟨by kernel_rfl,by kernel_rfl,by kernel_rfl,by kernel_rfl⟩
theorem sq61:SeqOk Tryz.prog 61 [(3,0,false),(3,1,false)]:=⟨by kernel_rfl,by kernel_rfl,by kernel_rfl,by kernel_rfl⟩
theorem sq62:SeqOk Tryz.prog 62 [(3,0,false),(3,1,false)]:=⟨by kernel_rfl,by kernel_rfl,by kernel_rfl,by kernel_rfl⟩
theorem sq63:SeqOk Tryz.prog 63 [(3,0,false),(3,1,false),(3,2,false),(4,3,false)]:=⟨by kernel_rfl,by kernel_rfl,by kernel_rfl,by kernel_rfl⟩
theorem sq64:SeqOk Tryz.prog 64 [(3,0,false),(3,1,false),(3,2,false),(4,3,false)]:=⟨by kernel_rfl,by kernel_rfl,by kernel_rfl,by kernel_rfl⟩
theorem sq81:SeqOk Tryz.prog 81 [(3,0,false),(3,1,false),(3,2,false)]:=⟨by kernel_rfl,by kernel_rfl,by kernel_rfl,by kernel_rfl⟩
theorem sq82:SeqOk Tryz.prog 82 [(3,0,false),(3,1,false),(3,2,false)]:=⟨by kernel_rfl,by kernel_rfl,by kernel_rfl,by kernel_rfl⟩
theorem sq88:SeqOk Tryz.prog 88 [(3,0,false),(5,1,false)]:=⟨by kernel_rfl,by kernel_rfl,by kernel_rfl,by kernel_rfl⟩
theorem sq89:SeqOk Tryz.prog 89 [(3,0,false),(5,1,false)]:=⟨by kernel_rfl,by kernel_rfl,by kernel_rfl,by kernel_rfl⟩
theorem sq97:SeqOk Tryz.prog 97 [(3,0,false),(3,1,false),(3,2,false),(3,3,false)]:=⟨by kernel_rfl,by kernel_rfl,by kernel_rfl,by kernel_rfl⟩
theorem sq98:SeqOk Tryz.prog 98 [(3,0,false),(3,1,false),(3,2,false),(3,3,false)]:=⟨by kernel_rfl,by kernel_rfl,by kernel_rfl,by kernel_rfl⟩
theorem sq100:SeqOk Tryz.prog 100 [(3,0,false),(3,1,false)]:=⟨by kernel_rfl,by kernel_rfl,by kernel_rfl,by kernel_rfl⟩
theorem sq101:SeqOk Tryz.prog 101 [(3,0,false),(3,1,false)]:=⟨by kernel_rfl,by kernel_rfl,by kernel_rfl,by kernel_rfl⟩
theorem sq147:SeqOk Tryz.prog 147 [(5,0,false),(3,1,false),(3,2,false),(3,3,false),(4,4,false)]:=⟨by kernel_rfl,by kernel_rfl,by kernel_rfl,by kernel_rfl⟩
theorem sq148:SeqOk Tryz.prog 148 [(5,0,false),(3,1,false),(3,2,false),(3,3,false),(4,4,false)]:=⟨by kernel_rfl,by kernel_rfl,by kernel_rfl,by kernel_rfl⟩
theorem sq168:SeqOk Tryz.prog 168 [(34,0,false)]:=⟨by kernel_rfl,by kernel_rfl,by kernel_rfl,by kernel_rfl⟩
theorem sq169:SeqOk Tryz.prog 169 [(34,0,false)]:=⟨by kernel_rfl,by kernel_rfl,by kernel_rfl,by kernel_rfl⟩
theorem sq213:SeqOk Tryz.prog 213 [(3,0,false),(3,1,false),(3,2,false)]:=⟨by kernel_rfl,by kernel_rfl,by kernel_rfl,by kernel_rfl⟩
theorem sq214:SeqOk Tryz.prog 214 [(3,0,false),(3,1,false),(3,2,false)]:=⟨by kernel_rfl,by kernel_rfl,by kernel_rfl,by kernel_rfl⟩
inductive TyT where
  | leaf
  | node (l:TyT) (k:Nat) (d:TyD) (r:TyT)
def tyL:TyT:=(.node (.node (.node (.node (.node (.node (.node (.node .leaf 1 ⟨.func,1,8,.nilFunc⟩ .leaf) 2 ⟨.int .i64,1,8,.int .i64 0⟩ (.node .leaf 3 ⟨.int .i64,1,8,.int .i64 0⟩ .leaf)) 4 ⟨.bool,1,1,.bool false⟩ (.node (.node .leaf 5 ⟨.int .u8,1,1,.int .u8 0⟩ .leaf) 6 ⟨.int .u8,1,1,.int .u8 0⟩ (.node .leaf 7 ⟨.struct [(2,0),(3,1),(4,2),(6,3)],4,24,.agg #[.int .i64 0,.int .i64 0,.bool false,.int .u8 0]⟩ .leaf))) 8 ⟨.struct [(2,0),(3,1),(4,2),(6,3)],4,24,.agg #[.int .i64 0,.int .i64 0,.bool false,.int .u8 0]⟩ (.node (.node (.node .leaf 12 ⟨.int .u64,1,8,.int .u64 0⟩ .leaf) 15 ⟨.ptr 255,1,8,.pointer none⟩ (.node .leaf 16 ⟨.ptr 258,1,8,.pointer none⟩ .leaf)) 17 ⟨.ptr 266,1,8,.pointer none⟩ (.node (.node .leaf 18 ⟨.struct [(17,0)],1,8,.agg #[.pointer none]⟩ .leaf) 19 ⟨.struct [(17,0)],1,8,.agg #[.pointer none]⟩ .leaf))) 20 ⟨.iface true,1,16,.nilIface⟩ (.node (.node (.node (.node .leaf 21 ⟨.int .i32,1,4,.int .i32 0⟩ .leaf) 22 ⟨.slice 48,1,24,.slice none 0 0⟩ (.node .leaf 23 ⟨.func,1,8,.nilFunc⟩ .leaf)) 24 ⟨.slice 148,1,24,.slice none 0 0⟩ (.node (.node .leaf 25 ⟨.slice 89,1,24,.slice none 0 0⟩ .leaf) 26 ⟨.struct [(3,0),(24,1),(25,2)],3,56,.agg #[.int .i64 0,.slice none 0 0,.slice none 0 0]⟩ (.node .leaf 27 ⟨.struct [(3,0),(24,1),(25,2)],3,56,.agg #[.int .i64 0,.slice none 0 0,.slice none 0 0]⟩ .leaf))) 28 ⟨.slice 66,1,24,.slice none 0 0⟩ (.node (.node (.node .leaf 29 ⟨.slice 98,1,24,.slice none 0 0⟩ .leaf) 30 ⟨.slice 64,1,24,.slice none 0 0⟩ (.node .leaf 31 ⟨.slice 3,1,24,.slice none 0 0⟩ .leaf)) 32 ⟨.struct [(3,0),(3,1),(27,2),(28,5),(29,6),(30,7),(31,8),(31,9)],10,192,.agg #[.int .i64 0,.int .i64 0,.int .i64 0,.slice none 0 0,.slice none 0 0,.slice none 0 0,.slice none 0 0,.slice none 0 0,.slice none 0 0,.slice none 0 0]⟩ (.node (.node .leaf 33 ⟨.struct [(3,0),(3,1),(27,2),(28,5),(29,6),(30,7),(31,8),(31,9)],10,192,.agg #[.int .i64 0,.int .i64 0,.int .i64 0,.slice none 0 0,.slice none 0 0,.slice none 0 0,.slice none 0 0,.slice none 0 0,.slice none 0 0,.slice none 0 0]⟩ .leaf) 34 ⟨.int .i64,1,8,.int .i64 0⟩ .leaf)))) 36 ⟨.func,1,8,.nilFunc⟩ (.node (.node (.node (.node (.node .leaf 38 ⟨.func,1,8,.nilFunc⟩ .leaf) 39 ⟨.func,1,8,.nilFunc⟩ (.node .leaf 40 ⟨.func,1,8,.nilFunc⟩ .leaf)) 41 ⟨.struct [(5,0),(3,1),(3,2),(3,3)],4,32,.agg #[.int .u8 0,.int .i64 0,.int .i64 0,.int .i64 0]⟩ (.node (.node .leaf 42 ⟨.struct [(5,0),(3,1),(3,2),(3,3)],4,32,.agg #[.int .u8 0,.int .i64 0,.int .i64 0,.int .i64 0]⟩ .leaf) 43 ⟨.struct [(3,0),(3,1),(3,2),(3,3),(3,4)],5,40,.agg #[.int .i64 0,.int .i64 0,.int .i64 0,.int .i64 0,.int .i64 0]⟩ (.node .leaf 44 ⟨.struct [(3,0),(3,1),(3,2),(3,3),(3,4)],5,40,.agg #[.int .i64 0,.int .i64 0,.int .i64 0,.int .i64 0,.int .i64 0]⟩ .leaf))) 45 ⟨.slice 31,1,24,.slice none 0 0⟩ (.node (.node (.node .leaf 46 ⟨.slice 31,1,24,.slice none 0 0⟩ .leaf) 47 ⟨.struct [(5,0),(3,1),(3,2),(3,3),(3,4),(3,5),(42,6),(44,10),(46,15)],16,144,.agg #[.int .u8 0,.int .i64 0,.int .i64 0,.int .i64 0,.int .i64 0,.int .i64 0,.int .u8 0,.int .i64 0,.int .i64 0,.int .i64 0,.int .i64 0,.int .i64 0,.int .i64 0,.int .i64 0,.int .i64 0,.slice none 0 0]⟩ (.node .leaf 48 ⟨.struct [(5,0),(3,1),(3,2),(3,3),(3,4),(3,5),(42,6),(44,10),(46,15)],16,144,.agg #[.int .u8 0,.int .i64 0,.int .i64 0,.int .i64 0,.int .i64 0,.int .i64 0,.int .u8 0,.int .i64 0,.int .i64 0,.int .i64 0,.int .i64 0,.int .i64 0,.int .i64 0,.int .i64 0,.int .i64 0,.slice none 0 0]⟩ .leaf)) 49 ⟨.func,1,8,.nilFunc⟩ (.node (.node .leaf 50 ⟨.func,1,8,.nilFunc⟩ .leaf) 51 ⟨.func,1,8,.nilFunc⟩ .leaf))) 53 ⟨.func,1,8,.nilFunc⟩ (.node (.node (.node (.node .leaf 55 ⟨.func,1,8,.nilFunc⟩ .leaf) 56 ⟨.func,1,8,.nilFunc⟩ (.node .leaf 57 ⟨.func,1,8,.nilFunc⟩ .leaf)) 58 ⟨.func,1,8,.nilFunc⟩ (.node (.node .leaf 59 ⟨.func,1,8,.nilFunc⟩ .leaf) 60 ⟨.map 62 3,1,8,.map none⟩ .leaf)) 61 ⟨.struct [(3,0),(3,1)],2,16,.agg #[.int .i64 0,.int .i64 0]⟩ (.node (.node (.node .leaf 62 ⟨.struct [(3,0),(3,1)],2,16,.agg #[.int .i64 0,.int .i64 0]⟩ .leaf) 63 ⟨.struct [(3,0),(3,1),(3,2),(4,3)],4,32,.agg #[.int .i64 0,.int .i64 0,.int .i64 0,.bool false]⟩ (.node .leaf 64 ⟨.struct [(3,0),(3,1),(3,2),(4,3)],4,32,.agg #[.int .i64 0,.int .i64 0,.int .i64 0,.bool false]⟩ .leaf)) 65 ⟨.struct [(3,0),(44,1),(46,6)],7,72,.agg #[.int .i64 0,.int .i64 0,.int .i64 0,.int .i64 0,.int .i64 0,.int .i64 0,.slice none 0 0]⟩ (.node (.node .leaf 66 ⟨.struct [(3,0),(44,1),(46,6)],7,72,.agg #[.int .i64 0,.int .i64 0,.int .i64 0,.int .i64 0,.int .i64 0,.int .i64 0,.slice none 0 0]⟩ .leaf) 68 ⟨.func,1,8,.nilFunc⟩ .leaf))))) 69 ⟨.slice 4,1,24,.slice none 0 0⟩ (.node (.node (.node (.node (.node (.node .leaf 71 ⟨.func,1,8,.nilFunc⟩ .leaf) 72 ⟨.struct [(3,0),(3,1),(3,2),(31,3),(3,4)],5,56,.agg #[.int .i64 0,.int .i64 0,.int .i64 0,.slice none 0 0,.int .i64 0]⟩ (.node .leaf 73 ⟨.struct [(3,0),(3,1),(3,2),(31,3),(3,4)],5,56,.agg #[.int .i64 0,.int .i64 0,.int .i64 0,.slice none 0 0,.int .i64 0]⟩ .leaf)) 75 ⟨.func,1,8,.nilFunc⟩ (.node (.node .leaf 76 ⟨.slice 69,1,24,.slice none 0 0⟩ .leaf) 77 ⟨.func,1,8,.nilFunc⟩ (.node .leaf 78 ⟨.slice 82,1,24,.slice none 0 0⟩ .leaf))) 80 ⟨.func,1,8,.nilFunc⟩ (.node (.node (.node .leaf 81 ⟨.struct [(3,0),(3,1),(3,2)],3,24,.agg #[.int .i64 0,.int .i64 0,.int .i64 0]⟩ .leaf) 82 ⟨.struct [(3,0),(3,1),(3,2)],3,24,.agg #[.int .i64 0,.int .i64 0,.int .i64 0]⟩ (.node .leaf 83 ⟨.func,1,8,.nilFunc⟩ .leaf)) 84 ⟨.func,1,8,.nilFunc⟩ (.node (.node .leaf 85 ⟨.func,1,8,.nilFunc⟩ .leaf) 87 ⟨.func,1,8,.nilFunc⟩ .leaf))) 88 ⟨.struct [(3,0),(5,1)],2,16,.agg #[.int .i64 0,.int .u8 0]⟩ (.node (.node (.node (.node .leaf 89 ⟨.struct [(3,0),(5,1)],2,16,.agg #[.int .i64 0,.int .u8 0]⟩ .leaf) 90 ⟨.func,1,8,.nilFunc⟩ (.node .leaf 91 ⟨.func,1,8,.nilFunc⟩ .leaf)) 92 ⟨.func,1,8,.nilFunc⟩ (.node (.node .leaf 93 ⟨.func,1,8,.nilFunc⟩ .leaf) 94 ⟨.func,1,8,.nilFunc⟩ .leaf)) 95 ⟨.func,1,8,.nilFunc⟩ (.node (.node (.node .leaf 96 ⟨.func,1,8,.nilFunc⟩ .leaf) 97 ⟨.struct [(3,0),(3,1),(3,2),(3,3)],4,32,.agg #[.int .i64 0,.int .i64 0,.int .i64 0,.int .i64 0]⟩ (.node .leaf 98 ⟨.struct [(3,0),(3,1),(3,2),(3,3)],4,32,.agg #[.int .i64 0,.int .i64 0,.int .i64 0,.int .i64 0]⟩ .leaf)) 99 ⟨.func,1,8,.nilFunc⟩ (.node (.node .leaf 100 ⟨.struct [(3,0),(3,1)],2,16,.agg #[.int .i64 0,.int .i64 0]⟩ .leaf) 101 ⟨.struct [(3,0),(3,1)],2,16,.agg #[.int .i64 0,.int .i64 0]⟩ .leaf)))) 103 ⟨.func,1,8,.nilFunc⟩ (.node (.node (.node (.node (.node .leaf 105 ⟨.func,1,8,.nilFunc⟩ .leaf) 107 ⟨.func,1,8,.nilFunc⟩ (.node .leaf 108 ⟨.func,1,8,.nilFunc⟩ .leaf)) 109 ⟨.func,1,8,.nilFunc⟩ (.node (.node .leaf 110 ⟨.ptr 116,1,8,.pointer none⟩ .leaf) 112 ⟨.func,1,8,.nilFunc⟩ (.node .leaf 113 ⟨.func,1,8,.nilFunc⟩ .leaf))) 114 ⟨.map 3 125,1,8,.map none⟩ (.node (.node (.node .leaf 115 ⟨.struct [(33,0),(114,10)],11,200,.agg #[.int .i64 0,.int .i64 0,.int .i64 0,.slice none 0 0,.slice none 0 0,.slice none 0 0,.slice none 0 0,.slice none 0 0,.slice none 0 0,.slice none 0 0,.map none]⟩ .leaf) 116 ⟨.struct [(33,0),(114,10)],11,200,.agg #[.int .i64 0,.int .i64 0,.int .i64 0,.slice none 0 0,.slice none 0 0,.slice none 0 0,.slice none 0 0,.slice none 0 0,.slice none 0 0,.slice none 0 0,.map none]⟩ (.node .leaf 117 ⟨.func,1,8,.nilFunc⟩ .leaf)) 118 ⟨.func,1,8,.nilFunc⟩ (.node (.node .leaf 119 ⟨.func,1,8,.nilFunc⟩ .leaf) 120 ⟨.func,1,8,.nilFunc⟩ .leaf))) 121 ⟨.func,1,8,.nilFunc⟩ (.node (.node (.node (.node .leaf 122 ⟨.func,1,8,.nilFunc⟩ .leaf) 123 ⟨.func,1,8,.nilFunc⟩ (.node .leaf 124 ⟨.array 3 3,3,24,.agg #[.int .i64 0,.int .i64 0,.int .i64 0]⟩ .leaf)) 125 ⟨.array 3 3,3,24,.agg #[.int .i64 0,.int .i64 0,.int .i64 0]⟩ (.node (.node .leaf 127 ⟨.func,1,8,.nilFunc⟩ .leaf) 128 ⟨.func,1,8,.nilFunc⟩ .leaf)) 129 ⟨.func,1,8,.nilFunc⟩ (.node (.node (.node .leaf 130 ⟨.array 21 4,21,21,.agg #[.bool false,.bool false,.bool false,.bool false,.bool false,.bool false,.bool false,.bool false,.bool false,.bool false,.bool false,.bool false,.bool false,.bool false,.bool false,.bool false,.bool false,.bool false,.bool false,.bool false,.bool false]⟩ .leaf) 131 ⟨.array 8 130,168,168,.agg #[.bool false,.bool false,.bool false,.bool false,.bool false,.bool false,.bool false,.bool false,.bool false,.bool false,.bool false,.bool false,.bool false,.bool false,.bool false,.bool false,.bool false,.bool false,.bool false,.bool false,.bool false,.bool false,.bool false,.bool false,.bool false,.bool false,.bool false,.bool false,.bool false,.bool false,.bool false,.bool false,.bool false,.bool false,.bool false,.bool false,.bool false,.bool false,.bool false,.bool false,.bool false,.bool false,.bool false,.bool false,.bool false,.bool false,.bool false,.bool false,.bool false,.bool false,.bool false,.bool false,.bool false,.bool false,.bool false,.bool false,.bool false,.bool false,.bool false,.bool false,.bool false,.bool false,.bool false,.bool false,.bool false,.bool false,.bool false,.bool false,.bool false,.bool false,.bool false,.bool false,.bool false,.bool false,.bool false,.bool false,.bool false,.bool false,.bool false,.bool false,.bool false,.bool false,.bool false,.bool false,.bool false,.bool false,.bool false,.bool false,.bool false,.bool false,.bool false,.bool false,.bool false,.bool false,.bool false,.bool false,.bool false,.bool false,.bool false,.bool false,.bool false,.bool false,.bool false,.bool false,.bool false,.bool false,.bool false,.bool false,.bool false,.bool false,.bool false,.bool false,.bool false,.bool false,.bool false,.bool false,.bool false,.bool false,.bool false,.bool false,.bool false,.bool false,.bool false,.bool false,.bool false,.bool false,.bool false,.bool false,.bool false,.bool false,.bool false,.bool false,.bool false,.bool false,.bool false,.bool false,.bool false,.bool false,.bool false,.bool false,.bool false,.bool false,.bool false,.bool false,.bool false,.bool false,.bool false,.bool false,.bool false,.bool false,.bool false,.bool false,.bool false,.bool false,.bool false,.bool false,.bool false,.bool false,.bool false,.bool false,.bool false,.bool false,.bool false,.bool false,.bool false,.bool false,.bool false,.bool false]⟩ (.node .leaf 132 ⟨.func,1,8,.nilFunc⟩ .leaf)) 133 ⟨.func,1,8,.nilFunc⟩ (.node (.node .leaf 134 ⟨.func,1,8,.nilFunc⟩ .leaf) 135 ⟨.func,1,8,.nilFunc⟩ .leaf)))))) 136 ⟨.ptr 141,1,8,.pointer none⟩ (.node (.node (.node (.node (.node (.node (.node .leaf 138 ⟨.func,1,8,.nilFunc⟩ .leaf) 139 ⟨.map 3 3,1,8,.map none⟩ (.node .leaf 140 ⟨.struct [(27,0),(139,3)],4,64,.agg #[.int .i64 0,.slice none 0 0,.slice none 0 0,.map none]⟩ .leaf)) 141 ⟨.struct [(27,0),(139,3)],4,64,.agg #[.int .i64 0,.slice none 0 0,.slice none 0 0,.map none]⟩ (.node (.node .leaf 142 ⟨.func,1,8,.nilFunc⟩ .leaf) 143 ⟨.func,1,8,.nilFunc⟩ (.node .leaf 144 ⟨.func,1,8,.nilFunc⟩ .leaf))) 145 ⟨.func,1,8,.nilFunc⟩ (.node (.node (.node .leaf 146 ⟨.func,1,8,.nilFunc⟩ .leaf) 147 ⟨.struct [(5,0),(3,1),(3,2),(3,3),(4,4)],5,40,.agg #[.int .u8 0,.int .i64 0,.int .i64 0,.int .i64 0,.bool false]⟩ (.node .leaf 148 ⟨.struct [(5,0),(3,1),(3,2),(3,3),(4,4)],5,40,.agg #[.int .u8 0,.int .i64 0,.int .i64 0,.int .i64 0,.bool false]⟩ .leaf)) 150 ⟨.func,1,8,.nilFunc⟩ (.node (.node .leaf 151 ⟨.func,1,8,.nilFunc⟩ .leaf) 152 ⟨.func,1,8,.nilFunc⟩ .leaf))) 153 ⟨.func,1,8,.nilFunc⟩ (.node (.node (.node (.node .leaf 154 ⟨.func,1,8,.nilFunc⟩ .leaf) 155 ⟨.func,1,8,.nilFunc⟩ (.node .leaf 156 ⟨.array 3 4,3,3,.agg #[.bool false,.bool false,.bool false]⟩ .leaf)) 157 ⟨.array 5 156,15,15,.agg #[.bool false,.bool false,.bool false,.bool false,.bool false,.bool false,.bool false,.bool false,.bool false,.bool false,.bool false,.bool false,.bool false,.bool false,.bool false]⟩ (.node (.node .leaf 158 ⟨.array 5 156,15,15,.agg #[.bool false,.bool false,.bool false,.bool false,.bool false,.bool false,.bool false,.bool false,.bool false,.bool false,.bool false,.bool false,.bool false,.bool false,.bool false]⟩ .leaf) 159 ⟨.func,1,8,.nilFunc⟩ .leaf)) 160 ⟨.func,1,8,.nilFunc⟩ (.node (.node (.node .leaf 161 ⟨.func,1,8,.nilFunc⟩ .leaf) 162 ⟨.func,1,8,.nilFunc⟩ (.node .leaf 163 ⟨.func,1,8,.nilFunc⟩ .leaf)) 164 ⟨.func,1,8,.nilFunc⟩ (.node (.node .leaf 165 ⟨.func,1,8,.nilFunc⟩ .leaf) 166 ⟨.func,1,8,.nilFunc⟩ .leaf)))) 167 ⟨.func,1,8,.nilFunc⟩ (.node (.node (.node (.node (.node .leaf 168 ⟨.struct [(34,0)],1,8,.agg #[.int .i64 0]⟩ .leaf) 169 ⟨.struct [(34,0)],1,8,.agg #[.int .i64 0]⟩ (.node .leaf 171 ⟨.func,1,8,.nilFunc⟩ .leaf)) 172 ⟨.array 9 171,9,72,.agg #[.nilFunc,.nilFunc,.nilFunc,.nilFunc,.nilFunc,.nilFunc,.nilFunc,.nilFunc,.nilFunc]⟩ (.node (.node .leaf 173 ⟨.func,1,8,.nilFunc⟩ .leaf) 174 ⟨.func,1,8,.nilFunc⟩ (.node .leaf 175 ⟨.func,1,8,.nilFunc⟩ .leaf))) 176 ⟨.func,1,8,.nilFunc⟩ (.node (.node (.node .leaf 177 ⟨.func,1,8,.nilFunc⟩ .leaf) 178 ⟨.func,1,8,.nilFunc⟩ (.node .leaf 179 ⟨.func,1,8,.nilFunc⟩ .leaf)) 180 ⟨.slice 214,1,24,.slice none 0 0⟩ (.node (.node .leaf 181 ⟨.func,1,8,.nilFunc⟩ .leaf) 182 ⟨.func,1,8,.nilFunc⟩ .leaf))) 183 ⟨.func,1,8,.nilFunc⟩ (.node (.node (.node (.node .leaf 184 ⟨.int .u64,1,8,.int .u64 0⟩ .leaf) 186 ⟨.func,1,8,.nilFunc⟩ (.node .leaf 187 ⟨.func,1,8,.nilFunc⟩ .leaf)) 188 ⟨.func,1,8,.nilFunc⟩ (.node (.node .leaf 189 ⟨.func,1,8,.nilFunc⟩ .leaf) 190 ⟨.func,1,8,.nilFunc⟩ .leaf)) 191 ⟨.func,1,8,.nilFunc⟩ (.node (.node (.node .leaf 192 ⟨.func,1,8,.nilFunc⟩ .leaf) 193 ⟨.func,1,8,.nilFunc⟩ (.node .leaf 194 ⟨.func,1,8,.nilFunc⟩ .leaf)) 195 ⟨.func,1,8,.nilFunc⟩ (.node (.node .leaf 196 ⟨.func,1,8,.nilFunc⟩ .leaf) 197 ⟨.func,1,8,.nilFunc⟩ .leaf))))) 198 ⟨.func,1,8,.nilFunc⟩ (.node (.node (.node (.node (.node (.node .leaf 199 ⟨.func,1,8,.nilFunc⟩ .leaf) 200 ⟨.func,1,8,.nilFunc⟩ (.node .leaf 202 ⟨.func,1,8,.nilFunc⟩ .leaf)) 203 ⟨.func,1,8,.nilFunc⟩ (.node (.node .leaf 204 ⟨.func,1,8,.nilFunc⟩ .leaf) 205 ⟨.func,1,8,.nilFunc⟩ (.node .leaf 206 ⟨.func,1,8,.nilFunc⟩ .leaf))) 208 ⟨.func,1,8,.nilFunc⟩ (.node (.node (.node .leaf 209 ⟨.func,1,8,.nilFunc⟩ .leaf) 210 ⟨.func,1,8,.nilFunc⟩ (.node .leaf 211 ⟨.func,1,8,.nilFunc⟩ .leaf)) 212 ⟨.func,1,8,.nilFunc⟩ (.node (.node .leaf 213 ⟨.struct [(3,0),(3,1),(3,2)],3,24,.agg #[.int .i64 0,.int .i64 0,.int .i64 0]⟩ .leaf) 214 ⟨.struct [(3,0),(3,1),(3,2)],3,24,.agg #[.int .i64 0,.int .i64 0,.int .i64 0]⟩ .leaf))) 216 ⟨.int .u32,1,4,.int .u32 0⟩ (.node (.node (.node (.node .leaf 218 ⟨.func,1,8,.nilFunc⟩ .leaf) 219 ⟨.int .u64,1,8,.int .u64 0⟩ (.node .leaf 221 ⟨.func,1,8,.nilFunc⟩ .leaf)) 222 ⟨.func,1,8,.nilFunc⟩ (.node (.node .leaf 223 ⟨.func,1,8,.nilFunc⟩ .leaf) 224 ⟨.func,1,8,.nilFunc⟩ .leaf)) 225 ⟨.ptr 98,1,8,.pointer none⟩ (.node (.node (.node .leaf 226 ⟨.func,1,8,.nilFunc⟩ .leaf) 227 ⟨.func,1,8,.nilFunc⟩ (.node .leaf 228 ⟨.ptr 64,1,8,.pointer none⟩ .leaf)) 229 ⟨.ptr 89,1,8,.pointer none⟩ (.node (.node .leaf 230 ⟨.func,1,8,.nilFunc⟩ .leaf) 231 ⟨.func,1,8,.nilFunc⟩ .leaf)))) 232 ⟨.func,1,8,.nilFunc⟩ (.node (.node (.node (.node (.node .leaf 233 ⟨.func,1,8,.nilFunc⟩ .leaf) 234 ⟨.func,1,8,.nilFunc⟩ (.node .leaf 235 ⟨.func,1,8,.nilFunc⟩ .leaf)) 236 ⟨.func,1,8,.nilFunc⟩ (.node (.node .leaf 238 ⟨.func,1,8,.nilFunc⟩ .leaf) 239 ⟨.func,1,8,.nilFunc⟩ (.node .leaf 240 ⟨.func,1,8,.nilFunc⟩ .leaf))) 241 ⟨.int .i64,1,8,.int .i64 0⟩ (.node (.node (.node .leaf 242 ⟨.func,1,8,.nilFunc⟩ .leaf) 243 ⟨.array 8 242,8,64,.agg #[.nilFunc,.nilFunc,.nilFunc,.nilFunc,.nilFunc,.nilFunc,.nilFunc,.nilFunc]⟩ (.node .leaf 244 ⟨.func,1,8,.nilFunc⟩ .leaf)) 245 ⟨.func,1,8,.nilFunc⟩ (.node (.node .leaf 246 ⟨.ptr 148,1,8,.pointer none⟩ .leaf) 247 ⟨.func,1,8,.nilFunc⟩ .leaf))) 248 ⟨.func,1,8,.nilFunc⟩ (.node (.node (.node (.node .leaf 249 ⟨.func,1,8,.nilFunc⟩ .leaf) 250 ⟨.func,1,8,.nilFunc⟩ (.node .leaf 251 ⟨.func,1,8,.nilFunc⟩ .leaf)) 252 ⟨.func,1,8,.nilFunc⟩ (.node (.node .leaf 253 ⟨.func,1,8,.nilFunc⟩ .leaf) 259 ⟨.int .u8,1,1,.int .u8 0⟩ .leaf)) 260 ⟨.int .u8,1,1,.int .u8 0⟩ (.node (.node (.node .leaf 261 ⟨.func,1,8,.nilFunc⟩ .leaf) 262 ⟨.ptr 5,1,8,.pointer none⟩ (.node .leaf 263 ⟨.int .i32,1,4,.int .i32 0⟩ .leaf)) 264 ⟨.int .i32,1,4,.int .i32 0⟩ (.node (.node .leaf 265 ⟨.struct [(12,0),(12,1),(216,2),(259,3),(5,4),(5,5),(260,6),(261,7),(262,8),(263,9),(264,10)],11,48,.agg #[.int .u64 0,.int .u64 0,.int .u32 0,.int .u8 0,.int .u8 0,.int .u8 0,.int .u8 0,.nilFunc,.pointer none,.int .i32 0,.int .i32 0]⟩ .leaf) 266 ⟨.struct [(12,0),(12,1),(216,2),(259,3),(5,4),(5,5),(260,6),(261,7),(262,8),(263,9),(264,10)],11,48,.agg #[.int .u64 0,.int .u64 0,.int .u32 0,.int .u8 0,.int .u8 0,.int .u8 0,.int .u8 0,.nilFunc,.pointer none,.int .i32 0,.int .i32 0]⟩ .leaf)))))))
def lookT:TyT→Nat→Option TyD
  | .leaf,_=>none
  | .node l k d r,t=>bif Nat.blt t k then lookT l t else bif Nat.beq k t then some d else lookT r t
def AllTy (P:Program):TyT→Prop
  | .leaf=>True
  | .node l k d r=>AllTy P l∧TyIs P k d∧AllTy P r
theorem allTy_look {P:Program}:∀ {l:TyT}{T:Nat}{d:TyD},AllTy P l→lookT l T=some d→TyIs P T d
  | .leaf,_,_,_,h=>by cases h
  | .node l k v r,T,d,ha,h=>by
    simp only [lookT] at h
    cases hc:Nat.blt T k
    · rw [hc] at h
      cases hb:Nat.beq k T
      · rw [hb] at h;exact allTy_look ha.2.2 h
      · rw [hb] at h;cases h;rw [← Nat.eq_of_beq_eq_true hb];exact ha.2.1
    · rw [hc] at h;exact allTy_look ha.1 h
theorem tyL_ok:AllTy Tryz.prog tyL:=⟨⟨⟨⟨⟨⟨⟨⟨trivial,ty1,trivial⟩,ty2,⟨trivial,ty3,trivial⟩⟩,ty4,⟨⟨trivial,ty5,trivial⟩,ty6,⟨trivial,ty7,trivial⟩⟩⟩,ty8,⟨⟨⟨trivial,ty12,trivial⟩,ty15,⟨trivial,ty16,trivial⟩⟩,ty17,⟨⟨trivial,ty18,trivial⟩,ty19,trivial⟩⟩⟩,ty20,⟨⟨⟨⟨trivial,ty21,trivial⟩,ty22,⟨trivial,ty23,trivial⟩⟩,ty24,⟨⟨trivial,ty25,trivial⟩,ty26,⟨trivial,ty27,trivial⟩⟩⟩,ty28,⟨⟨⟨trivial,ty29,trivial⟩,ty30,⟨trivial,ty31,trivial⟩⟩,ty32,⟨⟨trivial,ty33,trivial⟩,ty34,trivial⟩⟩⟩⟩,ty36,⟨⟨⟨⟨⟨trivial,ty38,trivial⟩,ty39,⟨trivial,ty40,trivial⟩⟩,ty41,⟨⟨trivial,ty42,trivial⟩,ty43,⟨trivial,ty44,trivial⟩⟩⟩,ty45,⟨⟨⟨trivial,ty46,trivial⟩,ty47,⟨trivial,ty48,trivial⟩⟩,ty49,⟨⟨trivial,ty50,trivial⟩,ty51,trivial⟩⟩⟩,ty53,⟨⟨⟨⟨trivial,ty55,trivial⟩,ty56,⟨trivial,ty57,trivial⟩⟩,ty58,⟨⟨trivial,ty59,trivial⟩,ty60,trivial⟩⟩,ty61,⟨⟨⟨trivial,ty62,trivial⟩,ty63,⟨trivial,ty64,trivial⟩⟩,ty65,⟨⟨trivial,ty66,trivial⟩,ty68,trivial⟩⟩⟩⟩⟩,ty69,⟨⟨⟨⟨⟨⟨trivial,ty71,trivial⟩,ty72,⟨trivial,ty73,trivial⟩⟩,ty75,⟨⟨trivial,ty76,trivial⟩,ty77,⟨trivial,ty78,trivial⟩⟩⟩,ty80,⟨⟨⟨trivial,ty81,trivial⟩,ty82,⟨trivial,ty83,trivial⟩⟩,ty84,⟨⟨trivial,ty85,trivial⟩,ty87,trivial⟩⟩⟩,ty88,⟨⟨⟨⟨trivial,ty89,trivial⟩,ty90,⟨trivial,ty91,trivial⟩⟩,ty92,⟨⟨trivial,ty93,trivial⟩,ty94,trivial⟩⟩,ty95,⟨⟨⟨trivial,ty96,trivial⟩,ty97,⟨trivial,ty98,trivial⟩⟩,ty99,⟨⟨trivial,ty100,trivial⟩,ty101,trivial⟩⟩⟩⟩,ty103,⟨⟨⟨⟨⟨trivial,ty105,trivial⟩,ty107,⟨trivial,ty108,trivial⟩⟩,ty109,⟨⟨trivial,ty110,trivial⟩,ty112,⟨trivial,ty113,trivial⟩⟩⟩,ty114,⟨⟨⟨trivial,ty115,trivial⟩,ty116,⟨trivial,ty117,trivial⟩⟩,ty118,⟨⟨trivial,ty119,trivial⟩,ty120,trivial⟩⟩⟩,ty121,⟨⟨⟨⟨trivial,ty122,trivial⟩,ty123,⟨trivial,ty124,trivial⟩⟩,ty125,⟨⟨trivial,ty127,trivial⟩,ty128,trivial⟩⟩,ty129,⟨⟨⟨trivial,ty130,trivial⟩,ty131,⟨trivial,ty132,trivial⟩⟩,ty133,⟨⟨trivial,ty134,trivial⟩,ty135,trivial⟩⟩⟩⟩⟩⟩,ty136,⟨⟨⟨⟨⟨⟨⟨trivial,ty138,trivial⟩,ty139,⟨trivial,ty140,trivial⟩⟩,ty141,⟨⟨trivial,ty142,trivial⟩,ty143,⟨trivial,ty144,trivial⟩⟩⟩,ty145,⟨⟨⟨trivial,ty146,trivial⟩,ty147,⟨trivial,ty148,trivial⟩⟩,ty150,⟨⟨trivial,ty151,trivial⟩,ty152,trivial⟩⟩⟩,ty153,⟨⟨⟨⟨trivial,ty154,trivial⟩,ty155,⟨trivial,ty156,trivial⟩⟩,ty157,⟨⟨trivial,ty158,trivial⟩,ty159,trivial⟩⟩,ty160,⟨⟨⟨trivial,ty161,trivial⟩,ty162,⟨trivial,ty163,trivial⟩⟩,ty164,⟨⟨trivial,ty165,trivial⟩,ty166,trivial⟩⟩⟩⟩,ty167,⟨⟨⟨⟨⟨trivial,ty168,trivial⟩,ty169,⟨trivial,ty171,trivial⟩⟩,ty172,⟨⟨trivial,ty173,trivial⟩,ty174,⟨trivial,ty175,trivial⟩⟩⟩,ty176,⟨⟨⟨trivial,ty177,trivial⟩,ty178,⟨trivial,ty179,trivial⟩⟩,ty180,⟨⟨trivial,ty181,trivial⟩,ty182,trivial⟩⟩⟩,ty183,⟨⟨⟨⟨trivial,ty184,trivial⟩,ty186,⟨trivial,ty187,trivial⟩⟩,ty188,⟨⟨trivial,ty189,trivial⟩,ty190,trivial⟩⟩,ty191,⟨⟨⟨trivial,ty192,trivial⟩,ty193,⟨trivial,ty194,trivial⟩⟩,ty195,⟨⟨trivial,ty196,trivial⟩,ty197,trivial⟩⟩⟩⟩⟩,ty198,⟨⟨⟨⟨⟨⟨trivial,ty199,trivial⟩,ty200,⟨trivial,ty202,trivial⟩⟩,ty203,⟨⟨trivial,ty204,trivial⟩,ty205,⟨trivial,ty206,trivial⟩⟩⟩,ty208,⟨⟨⟨trivial,ty209,trivial⟩,ty210,⟨trivial,ty211,trivial⟩⟩,ty212,⟨⟨trivial,ty213,trivial⟩,ty214,trivial⟩⟩⟩,ty216,⟨⟨⟨⟨trivial,ty218,trivial⟩,ty219,⟨trivial,ty221,trivial⟩⟩,ty222,⟨⟨trivial,ty223,trivial⟩,ty224,trivial⟩⟩,ty225,⟨⟨⟨trivial,ty226,trivial⟩,ty227,⟨trivial,ty228,trivial⟩⟩,ty229,⟨⟨trivial,ty230,trivial⟩,ty231,trivial⟩⟩⟩⟩,ty232,⟨⟨⟨⟨⟨trivial,ty233,trivial⟩,ty234,⟨trivial,ty235,trivial⟩⟩,ty236,⟨⟨trivial,ty238,trivial⟩,ty239,⟨trivial,ty240,trivial⟩⟩⟩,ty241,⟨⟨⟨trivial,ty242,trivial⟩,ty243,⟨trivial,ty244,trivial⟩⟩,ty245,⟨⟨trivial,ty246,trivial⟩,ty247,trivial⟩⟩⟩,ty248,⟨⟨⟨⟨trivial,ty249,trivial⟩,ty250,⟨trivial,ty251,trivial⟩⟩,ty252,⟨⟨trivial,ty253,trivial⟩,ty259,trivial⟩⟩,ty260,⟨⟨⟨trivial,ty261,trivial⟩,ty262,⟨trivial,ty263,trivial⟩⟩,ty264,⟨⟨trivial,ty265,trivial⟩,ty266,trivial⟩⟩⟩⟩⟩⟩⟩
def sizesL:List (TypeId × Nat)→Option (List Nat)
  | []=>some []
  | (E,_)::fs=>match lookT tyL E,sizesL fs with
    | some d,some ns=>some (d.size::ns)
    | _,_=>none
theorem sizes:∀ {fs:List (TypeId × Nat)}{ns:List Nat},sizesL fs=some ns→SizesAre Tryz.prog fs ns
  | [],ns,h=>by cases h;trivial
  | (E,_)::fs,ns,h=>by
    simp only [sizesL] at h
    cases h1:lookT tyL E with
    | none=>rw [h1] at h;cases h
    | some d =>
      cases h2:sizesL fs with
      | none=>rw [h1,h2] at h;cases h
      | some ms=>rw [h1,h2] at h;cases h;exact ⟨⟨d,allTy_look tyL_ok h1,rfl⟩,sizes h2⟩
theorem ty {T:TypeId}{d:TyD}(h:lookT tyL T=some d):TyIs Tryz.prog T d:=allTy_look tyL_ok h
def seqL:List (Nat × List (TypeId × Nat × Bool)):=[(7,[(2,0,false),(3,1,false),(4,2,false),(6,3,false)]),(8,[(2,0,false),(3,1,false),(4,2,false),(6,3,false)]),(41,[(5,0,false),(3,1,false),(3,2,false),(3,3,false)]),(42,[(5,0,false),(3,1,false),(3,2,false),(3,3,false)]),(43,[(3,0,false),(3,1,false),(3,2,false),(3,3,false),(3,4,false)]),(44,[(3,0,false),(3,1,false),(3,2,false),(3,3,false),(3,4,false)]),(61,[(3,0,false),(3,1,false)]),(62,[(3,0,false),(3,1,false)]),(63,[(3,0,false),(3,1,false),(3,2,false),(4,3,false)]),(64,[(3,0,false),(3,1,false),(3,2,false),(4,3,false)]),(81,[(3,0,false),(3,1,false),(3,2,false)]),(82,[(3,0,false),(3,1,false),(3,2,false)]),(88,[(3,0,false),(5,1,false)]),(89,[(3,0,false),(5,1,false)]),(97,[(3,0,false),(3,1,false),(3,2,false),(3,3,false)]),(98,[(3,0,false),(3,1,false),(3,2,false),(3,3,false)]),(100,[(3,0,false),(3,1,false)]),(101,[(3,0,false),(3,1,false)]),(147,[(5,0,false),(3,1,false),(3,2,false),(3,3,false),(4,4,false)]),(148,[(5,0,false),(3,1,false),(3,2,false),(3,3,false),(4,4,false)]),(168,[(34,0,false)]),(169,[(34,0,false)]),(213,[(3,0,false),(3,1,false),(3,2,false)]),(214,[(3,0,false),(3,1,false),(3,2,false)])]
def lookS:List (Nat × List (TypeId × Nat × Bool))→Nat→Option (List (TypeId × Nat × Bool))
  | [],_=>none
  | (k,v)::e,t=>bif Nat.beq k t then some v else lookS e t
def AllSeq (P:Program):List (Nat × List (TypeId × Nat × Bool))→Prop
  | []=>True
  | (k,v)::e=>SeqOk P k v∧AllSeq P e
theorem allSeq_look {P:Program}:∀ {l:List (Nat × List (TypeId × Nat × Bool))}{T:Nat}{d:List (TypeId × Nat × Bool)},AllSeq P l→lookS l T=some d→SeqOk P T d
  | [],_,_,_,h=>by cases h
  | (k,v)::e,T,d,ha,h=>by
    simp only [lookS] at h
    cases hb:Nat.beq k T
    · rw [hb] at h;exact allSeq_look ha.2 h
    · rw [hb] at h;cases h;rw [← Nat.eq_of_beq_eq_true hb];exact ha.1
theorem seqL_ok:AllSeq Tryz.prog seqL:=⟨sq7,sq8,sq41,sq42,sq43,sq44,sq61,sq62,sq63,sq64,sq81,sq82,sq88,sq89,sq97,sq98,sq100,sq101,sq147,sq148,sq168,sq169,sq213,sq214,trivial⟩
theorem seq {T:TypeId}{d:List (TypeId × Nat × Bool)}(h:lookS seqL T=some d):SeqOk Tryz.prog T d:=allSeq_look seqL_ok h
theorem fn13:FnOk Tryz.prog 13:=fnOk Tryz.func13 rfl (by kernel_rfl)
theorem fn14:FnOk Tryz.prog 14:=fnOk Tryz.func14 rfl (by kernel_rfl)
theorem fn18:FnOk Tryz.prog 18:=fnOk Tryz.func18 rfl (by kernel_rfl)
theorem fn24:FnOk Tryz.prog 24:=fnOk Tryz.func24 rfl (by kernel_rfl)
theorem fn25:FnOk Tryz.prog 25:=fnOk Tryz.func25 rfl (by kernel_rfl)
theorem fn26:FnOk Tryz.prog 26:=fnOk Tryz.func26 rfl (by kernel_rfl)
theorem fn27:FnOk Tryz.prog 27:=fnOk Tryz.func27 rfl (by kernel_rfl)
theorem fn29:FnOk Tryz.prog 29:=fnOk Tryz.func29 rfl (by kernel_rfl)
theorem fn30:FnOk Tryz.prog 30:=fnOk Tryz.func30 rfl (by kernel_rfl)
theorem fn31:FnOk Tryz.prog 31:=fnOk Tryz.func31 rfl (by kernel_rfl)
theorem fn32:FnOk Tryz.prog 32:=fnOk Tryz.func32 rfl (by kernel_rfl)
theorem fn33:FnOk Tryz.prog 33:=fnOk Tryz.func33 rfl (by kernel_rfl)
theorem fn34:FnOk Tryz.prog 34:=fnOk Tryz.func34 rfl (by kernel_rfl)
theorem fn35:FnOk Tryz.prog 35:=fnOk Tryz.func35 rfl (by kernel_rfl)
theorem fn36:FnOk Tryz.prog 36:=fnOk Tryz.func36 rfl (by kernel_rfl)
theorem fn43:FnOk Tryz.prog 43:=fnOk Tryz.func43 rfl (by kernel_rfl)
theorem fn44:FnOk Tryz.prog 44:=fnOk Tryz.func44 rfl (by kernel_rfl)
theorem fn51:FnOk Tryz.prog 51:=fnOk Tryz.func51 rfl (by kernel_rfl)
theorem fn52:FnOk Tryz.prog 52:=fnOk Tryz.func52 rfl (by kernel_rfl)
theorem fn53:FnOk Tryz.prog 53:=fnOk Tryz.func53 rfl (by kernel_rfl)
theorem fn54:FnOk Tryz.prog 54:=fnOk Tryz.func54 rfl (by kernel_rfl)
theorem fn55:FnOk Tryz.prog 55:=fnOk Tryz.func55 rfl (by kernel_rfl)
theorem fn56:FnOk Tryz.prog 56:=fnOk Tryz.func56 rfl (by kernel_rfl)
theorem fn57:FnOk Tryz.prog 57:=fnOk Tryz.func57 rfl (by kernel_rfl)
theorem fn58:FnOk Tryz.prog 58:=fnOk Tryz.func58 rfl (by kernel_rfl)
theorem fn59:FnOk Tryz.prog 59:=fnOk Tryz.func59 rfl (by kernel_rfl)
theorem fn60:FnOk Tryz.prog 60:=fnOk Tryz.func60 rfl (by kernel_rfl)
theorem fn61:FnOk Tryz.prog 61:=fnOk Tryz.func61 rfl (by kernel_rfl)
theorem fn62:FnOk Tryz.prog 62:=fnOk Tryz.func62 rfl (by kernel_rfl)
theorem fn63:FnOk Tryz.prog 63:=fnOk Tryz.func63 rfl (by kernel_rfl)
theorem fn64:FnOk Tryz.prog 64:=fnOk Tryz.func64 rfl (by kernel_rfl)
theorem fn65:FnOk Tryz.prog 65:=fnOk Tryz.func65 rfl (by kernel_rfl)
theorem fn70:FnOk Tryz.prog 70:=fnOk Tryz.func70 rfl (by kernel_rfl)
theorem fn79:FnOk Tryz.prog 79:=fnOk Tryz.func79 rfl (by kernel_rfl)
theorem fn80:FnOk Tryz.prog 80:=fnOk Tryz.func80 rfl (by kernel_rfl)
theorem fn81:FnOk Tryz.prog 81:=fnOk Tryz.func81 rfl (by kernel_rfl)
theorem fn82:FnOk Tryz.prog 82:=fnOk Tryz.func82 rfl (by kernel_rfl)
theorem fn83:FnOk Tryz.prog 83:=fnOk Tryz.func83 rfl (by kernel_rfl)
theorem fn85:FnOk Tryz.prog 85:=fnOk Tryz.func85 rfl (by kernel_rfl)
theorem fn86:FnOk Tryz.prog 86:=fnOk Tryz.func86 rfl (by kernel_rfl)
theorem fn99:FnOk Tryz.prog 99:=fnOk Tryz.func99 rfl (by kernel_rfl)
theorem fn100:FnOk Tryz.prog 100:=fnOk Tryz.func100 rfl (by kernel_rfl)
theorem fn101:FnOk Tryz.prog 101:=fnOk Tryz.func101 rfl (by kernel_rfl)
theorem fn102:FnOk Tryz.prog 102:=fnOk Tryz.func102 rfl (by kernel_rfl)
theorem fn103:FnOk Tryz.prog 103:=fnOk Tryz.func103 rfl (by kernel_rfl)
theorem fn104:FnOk Tryz.prog 104:=fnOk Tryz.func104 rfl (by kernel_rfl)
theorem fn105:FnOk Tryz.prog 105:=fnOk Tryz.func105 rfl (by kernel_rfl)
theorem fn106:FnOk Tryz.prog 106:=fnOk Tryz.func106 rfl (by kernel_rfl)
theorem fn109:FnOk Tryz.prog 109:=fnOk Tryz.func109 rfl (by kernel_rfl)
theorem fn111:FnOk Tryz.prog 111:=fnOk Tryz.func111 rfl (by kernel_rfl)
theorem fn114:FnOk Tryz.prog 114:=fnOk Tryz.func114 rfl (by kernel_rfl)
theorem fn115:FnOk Tryz.prog 115:=fnOk Tryz.func115 rfl (by kernel_rfl)
theorem fn116:FnOk Tryz.prog 116:=fnOk Tryz.func116 rfl (by kernel_rfl)
theorem fn117:FnOk Tryz.prog 117:=fnOk Tryz.func117 rfl (by kernel_rfl)
theorem fn118:FnOk Tryz.prog 118:=fnOk Tryz.func118 rfl (by kernel_rfl)
theorem fn119:FnOk Tryz.prog 119:=fnOk Tryz.func119 rfl (by kernel_rfl)
theorem fn120:FnOk Tryz.prog 120:=fnOk Tryz.func120 rfl (by kernel_rfl)
theorem fn121:FnOk Tryz.prog 121:=fnOk Tryz.func121 rfl (by kernel_rfl)
theorem fn122:FnOk Tryz.prog 122:=fnOk Tryz.func122 rfl (by kernel_rfl)
theorem fn123:FnOk Tryz.prog 123:=fnOk Tryz.func123 rfl (by kernel_rfl)
theorem fn124:FnOk Tryz.prog 124:=fnOk Tryz.func124 rfl (by kernel_rfl)
theorem fn125:FnOk Tryz.prog 125:=fnOk Tryz.func125 rfl (by kernel_rfl)
theorem fn126:FnOk Tryz.prog 126:=fnOk Tryz.func126 rfl (by kernel_rfl)
theorem fn127:FnOk Tryz.prog 127:=fnOk Tryz.func127 rfl (by kernel_rfl)
theorem fn128:FnOk Tryz.prog 128:=fnOk Tryz.func128 rfl (by kernel_rfl)
theorem fn129:FnOk Tryz.prog 129:=fnOk Tryz.func129 rfl (by kernel_rfl)
theorem fn130:FnOk Tryz.prog 130:=fnOk Tryz.func130 rfl (by kernel_rfl)
theorem fn131:FnOk Tryz.prog 131:=fnOk Tryz.func131 rfl (by kernel_rfl)
theorem fn132:FnOk Tryz.prog 132:=fnOk Tryz.func132 rfl (by kernel_rfl)
theorem fn133:FnOk Tryz.prog 133:=fnOk Tryz.func133 rfl (by kernel_rfl)
theorem fn134:FnOk Tryz.prog 134:=fnOk Tryz.func134 rfl (by kernel_rfl)
theorem fn135:FnOk Tryz.prog 135:=fnOk Tryz.func135 rfl (by kernel_rfl)
theorem fn146:FnOk Tryz.prog 146:=fnOk Tryz.func146 rfl (by kernel_rfl)
theorem fn147:FnOk Tryz.prog 147:=fnOk Tryz.func147 rfl (by kernel_rfl)
theorem fn148:FnOk Tryz.prog 148:=fnOk Tryz.func148 rfl (by kernel_rfl)
theorem fn149:FnOk Tryz.prog 149:=fnOk Tryz.func149 rfl (by kernel_rfl)
theorem fn152:FnOk Tryz.prog 152:=fnOk Tryz.func152 rfl (by kernel_rfl)
theorem fn154:FnOk Tryz.prog 154:=fnOk Tryz.func154 rfl (by kernel_rfl)
theorem fn155:FnOk Tryz.prog 155:=fnOk Tryz.func155 rfl (by kernel_rfl)
theorem fn156:FnOk Tryz.prog 156:=fnOk Tryz.func156 rfl (by kernel_rfl)
theorem fn157:FnOk Tryz.prog 157:=fnOk Tryz.func157 rfl (by kernel_rfl)
theorem fn158:FnOk Tryz.prog 158:=fnOk Tryz.func158 rfl (by kernel_rfl)
theorem fn169:FnOk Tryz.prog 169:=fnOk Tryz.func169 rfl (by kernel_rfl)
theorem fn173:FnOk Tryz.prog 173:=fnOk Tryz.func173 rfl (by kernel_rfl)
theorem fn176:FnOk Tryz.prog 176:=fnOk Tryz.func176 rfl (by kernel_rfl)
theorem fn177:FnOk Tryz.prog 177:=fnOk Tryz.func177 rfl (by kernel_rfl)
theorem fn178:FnOk Tryz.prog 178:=fnOk Tryz.func178 rfl (by kernel_rfl)
theorem fn179:FnOk Tryz.prog 179:=fnOk Tryz.func179 rfl (by kernel_rfl)
theorem fn180:FnOk Tryz.prog 180:=fnOk Tryz.func180 rfl (by kernel_rfl)
theorem fn181:FnOk Tryz.prog 181:=fnOk Tryz.func181 rfl (by kernel_rfl)
theorem fn182:FnOk Tryz.prog 182:=fnOk Tryz.func182 rfl (by kernel_rfl)
theorem fn183:FnOk Tryz.prog 183:=fnOk Tryz.func183 rfl (by kernel_rfl)
theorem fn184:FnOk Tryz.prog 184:=fnOk Tryz.func184 rfl (by kernel_rfl)
theorem fn185:FnOk Tryz.prog 185:=fnOk Tryz.func185 rfl (by kernel_rfl)
theorem fn186:FnOk Tryz.prog 186:=fnOk Tryz.func186 rfl (by kernel_rfl)
theorem fn187:FnOk Tryz.prog 187:=fnOk Tryz.func187 rfl (by kernel_rfl)
theorem fn188:FnOk Tryz.prog 188:=fnOk Tryz.func188 rfl (by kernel_rfl)
theorem fn189:FnOk Tryz.prog 189:=fnOk Tryz.func189 rfl (by kernel_rfl)
theorem fn190:FnOk Tryz.prog 190:=fnOk Tryz.func190 rfl (by kernel_rfl)
theorem fn191:FnOk Tryz.prog 191:=fnOk Tryz.func191 rfl (by kernel_rfl)
theorem mixed:Tryz.prog.follows .mixedOrders=true:=by kernel_rfl
end Go.Proofs.YtbilpbabdgfblaaGreat
namespace Go.Proofs.YtbilpbabdgfblaaGreat
open Go.ChangeShapes Go.WideShapes Go.ChangeAt Go.RowKit Go.Deep
theorem own_knob:ownKnob Tryz.prog.godebug=none:=by kernel_rfl
theorem laid_out:laidOutB Tryz.prog=true:=by kernel_rfl
def snap (w:World):Imm:=fun b=>w.heap[b]?
def CellsAre (I:Imm) (v:V) (cs:List Value):Prop:=v.cells.length=cs.length∧∀ (j:Nat) x u,v.cells[j]?=some x→cs[j]?=some u→VRel I [] x u
structure ReadsV (P:Program) (t:TypeId) {α:Type} (e:α→V) (ok:α→Prop) (sz:Nat):Prop where
  cells:P.cellsOf t=sz
  pos:0<sz
  read:∀ {H:Type} {enc:TypeId × Value→H} {w:World} {base:Nat} {spare:Nat→Bool} {held:Bool} {fuel:Nat} {cs:List Value} {x:DataW H × List MemPlace},
    DataW.trod enc P w base spare held fuel t cs=some x→∃ a:α,ok a∧cs.length=sz∧CellsAre (snap w) (e a) cs
def i64ok (n:Int):Prop:=-9223372036854775808≤n∧n≤9223372036854775807
theorem rv_int {P:Program}{t:TypeId}(ht:P.underlying t=some (.int .i64)) (hc:P.cellsOf t=1):ReadsV P t vi i64ok 1 :=
  ⟨hc,by omega,fun h=>by
    obtain ⟨n,rfl,_,hw⟩:=DataW.trod_int ht h
    exact ⟨n,bounds_i64 hw,rfl,rfl,fun j x u hx hu=>by
      cases j with
      | zero=>simp [cells_vi] at hx hu;subst hx hu;exact .s _
      | succ j=>simp at hu⟩⟩
theorem cell_block {w:World}{b i:Nat}{sp:Option Nat}{v:Value}(h:w.cell? ⟨b,i,sp⟩=some v):∃ cs ty fz,w.heap[b]?=some (.cells cs ty fz)∧cs[i]?=some v:=by
  unfold World.cell? at h
  simp only at h
  split at h
  · rename_i c ty fz hb
    split at h
    · cases h
    · exact ⟨c,ty,fz,hb,h⟩
  · cases h
theorem add_none (b off n:Nat):(⟨b,off,none⟩:Addr).add n=⟨b,off+n,none⟩:=by
  unfold Addr.add
  split
  · rename_i h;subst h;rfl
  · rfl
theorem read_list {α:Type}[Inhabited α] {P:Program}{t e:TypeId}{ea:α→V}{ok:α→Prop}{sz:Nat}(ht:P.underlying t=some (.slice e)) (R:ReadsV P e ea ok sz)
    {H:Type} {enc:TypeId × Value→H} {w:World} {base:Nat} {spare:Nat→Bool} {held:Bool} {fuel:Nat} {cs:List Value} {x:DataW H × List MemPlace}
    (h:DataW.trod enc P w base spare held fuel t cs=some x):∃ (l:List α) (u:Value),(∀ y,y∈l→ok y)∧cs=[u]∧VRel (snap w) [] (LV sz ea l) u:=by
  rcases open_slice ht h with ⟨rfl,_⟩|⟨a,len,cap,m,n,D,Pl,rfl,_,hl,hc,hm,_,hi⟩
  · exact ⟨[],_,(fun y hy=>by cases hy),rfl,VRel.none_list none⟩
  · have hml:len≤m:=by rw [hm];split<;>omega
    have hex:∀ i:Fin len,∃ y:α,∃ cs',w.cells? base (a.add (i*P.cellsOf e)) (P.cellsOf e)=some cs'∧ok y∧cs'.length=sz∧CellsAre (snap w) (ea y) cs':=fun i=>by
      obtain ⟨cs',h1,h2⟩:=hi i (by omega)
      obtain ⟨y,hy⟩:=R.read h2
      exact ⟨y,cs',h1,hy⟩
    obtain ⟨f,hf⟩:=Classical.skolem.1 hex
    obtain ⟨g,hg⟩:=Classical.skolem.1 hf
    have hel:∀ i (hi:i<len),el (List.ofFn f) i=f ⟨i,hi⟩:=fun i hi=>by rw [el_eq (by simpa using hi)];simp
    refine ⟨List.ofFn f,_,fun y hy=>?_,rfl,?_⟩
    · obtain ⟨k,hk,rfl⟩:=mem_el hy
      rw [hel k (by simpa using hk)]
      exact (hg _).2.1
    obtain ⟨b,off,sp⟩:=a
    have hspot:0<len→sp=none:=fun h0=>by
      obtain ⟨h1,_,h3,_⟩:=hg ⟨0,h0⟩
      obtain ⟨_,hcl,hat⟩:=World.cells?_some h1
      have hpos:=R.pos
      have h5:=hat 0 (by rw [R.cells];exact hpos)
      rw [List.getElem?_eq_getElem (by omega)] at h5
      simpa [Addr.add] using World.cell?_spot h5
    have hcell:∀ (i:Nat) (hi:i<len) (j:Nat),j<sz→∃ cs' ty fz,w.heap[b]?=some (.cells cs' ty fz)∧sp=none∧cs'[off+i*sz+j]?=some ((g ⟨i,hi⟩).getD j undef):=by
      intro i hi j hj
      obtain ⟨h1,_,h3,_⟩:=hg ⟨i,hi⟩
      obtain ⟨_,hcl,hat⟩:=World.cells?_some h1
      have hu:(g ⟨i,hi⟩)[j]?=some ((g ⟨i,hi⟩).getD j undef):=by simp [show j<(g ⟨i,hi⟩).length by omega]
      have h5:=hat j (by rw [R.cells];exact hj)
      rw [hu] at h5
      have hsp:sp=none:=hspot (by omega)
      subst hsp
      rw [add_none,add_none,R.cells] at h5
      obtain ⟨cs',ty,fz,h6,h7⟩:=cell_block h5
      exact ⟨cs',ty,fz,h6,rfl,h7⟩
    have hsz:∀ i (hi:i<len),(ea (el (List.ofFn f) i)).cells.length=sz:=fun i hi=>by
      rw [hel i hi]
      obtain ⟨_,_,h3,h4⟩:=hg ⟨i,hi⟩
      rw [h4.1,h3]
    have hlen:(List.ofFn f).length=len:=by simp
    show VRel (snap w) [] (.list sz (List.ofFn f).length fun i=>ea (el (List.ofFn f) i)) _
    rw [hlen]
    refine .list (us:=fun i j=>if hi:i<len then (g ⟨i,hi⟩).getD j undef else undef) hl (by first|exact hc|(have h:cap≤2 ^ 63-1:=hc;show cap≤maxLen;unfold maxLen;omega)) (fun h0=>?_) (fun i hi=>hsz i hi) (fun i j v hi hj=>?_)
    · obtain ⟨cs',ty,fz,h6,rfl,_⟩:=hcell 0 h0 0 R.pos
      refine ⟨b,off,rfl,fun i hi=>⟨cs',ty,fz,h6,fun j hj=>?_⟩⟩
      obtain ⟨cs2,ty2,fz2,h8,_,h9⟩:=hcell i hi j hj
      rw [h6] at h8
      cases h8
      simpa [hi] using h9
    · obtain ⟨_,_,h3,h4⟩:=hg ⟨i,hi⟩
      have hj2:=(List.getElem?_eq_some_iff.1 hj).1
      rw [hsz i hi] at hj2
      rw [hel i hi] at hj
      have:=h4.2 j v ((g ⟨i,hi⟩).getD j undef) hj (by simp [show j<(g ⟨i,hi⟩).length by omega])
      simpa [hi] using this
theorem rv_list {α:Type}[Inhabited α] {P:Program}{t e:TypeId}{ea:α→V}{ok:α→Prop}{sz:Nat}(ht:P.underlying t=some (.slice e)) (hc:P.cellsOf t=1) (R:ReadsV P e ea ok sz):ReadsV P t (LV sz ea) (fun l=>∀ y,y∈l→ok y) 1 :=
  ⟨hc,by omega,fun h=>by
    obtain ⟨l,u,h1,rfl,h2⟩:=read_list ht R h
    exact ⟨l,h1,rfl,rfl,fun j x u' hx hu=>by
      cases j with
      | zero=>simp [LV_cells] at hx hu;subst hx hu;exact h2
      | succ j=>simp at hu⟩⟩
section
variable {P:Program}{H:Type}{enc:TypeId × Value→H}{w:World}{base:Nat}{spare:Nat→Bool}{held:Bool}{r:Reach}{b0:Nat}{v:Value}{d:DataW H}{p:List MemPlace}{t e:TypeId}
theorem arg_list {α:Type}[Inhabited α] {ea:α→V}{ok:α→Prop}{sz:Nat}(ht:P.underlying t=some (.slice e)) (R:ReadsV P e ea ok sz) (hv:Value.okWide P w r b0 t v) (h:DataW.Trod enc P w base spare held t v d p):∃ l:List α,(∀ y,y∈l→ok y)∧VRel (snap w) [] (LV sz ea l) v:=by
  obtain ⟨a,len,cap,rfl⟩:=okWide_slice ht hv
  obtain ⟨fuel,hf⟩:=h
  obtain ⟨l,u,h1,h2,h3⟩:=read_list ht R hf
  simp only [Value.cells,List.cons.injEq,and_true] at h2
  exact ⟨l,h1,h2▸h3⟩
theorem arg_int (ht:P.underlying t=some (.int .i64)) (hv:Value.okWide P w r b0 t v) (h:DataW.Trod enc P w base spare held t v d p):∃ n:Int,i64ok n∧VRel (snap w) [] (vi n) v:=by
  obtain ⟨n,rfl,_,_,hw⟩:=open_int ht hv h
  exact ⟨n,bounds_i64 hw,.s _⟩
theorem rels_nil {I:Imm}:VRels I [] [] #[]:=⟨rfl,fun j v u h=>by simp at h⟩
theorem rels_cons {I:Imm}{x:V}{u:Value}{vs:List V}{us:List Value}(h:VRel I [] x u) (k:VRels I [] vs us.toArray):VRels I [] (x::vs) (u::us).toArray:=by
  refine ⟨by have:=k.1;simpa using this,fun j v y hj hu=>?_⟩
  cases j with
  | zero=>simp at hj hu;subst hj hu;exact h
  | succ j=>exact k.2 j v y (by simpa using hj) (by simpa using hu)
end
theorem struct_part {P:Program}{t:TypeId}{fs:Array Field}(ht:P.underlying t=some (.struct fs))
    {H:Type} {enc:TypeId × Value→H} {w:World} {base:Nat} {spare:Nat→Bool} {held:Bool} {fuel:Nat} {cs:List Value} {x:DataW H × List MemPlace}
    (h:DataW.trod enc P w base spare held fuel t cs=some x) {α:Type} {ea:α→V} {ok:α→Prop} {sz:Nat} (i:Nat) {f:Field} (hfi:fs[i]?=some f) (R:ReadsV P f.type ea ok sz) :
    ∃ a:α,ok a∧((cs.drop f.offset).take sz).length=sz∧CellsAre (snap w) (ea a) ((cs.drop f.offset).take sz):=by
  obtain ⟨xs,n,_,_,_,hxl,hg⟩:=DataW.trod_struct ht h
  have h3:=hg i f hfi
  have hi:i<fs.size:=(Array.getElem?_eq_some_iff.1 hfi).1
  obtain ⟨a,h1,h2,h4⟩:=R.read (h3.trans (List.getElem?_eq_getElem (by omega)))
  rw [R.cells] at h2 h4
  exact ⟨a,h1,h2,h4⟩
theorem struct_len {P:Program}{t:TypeId}{fs:Array Field}(ht:P.underlying t=some (.struct fs))
    {H:Type} {enc:TypeId × Value→H} {w:World} {base:Nat} {spare:Nat→Bool} {held:Bool} {fuel:Nat} {cs:List Value} {x:DataW H × List MemPlace}
    (h:DataW.trod enc P w base spare held fuel t cs=some x):cs.length=P.cellsOf t:=by
  obtain ⟨_,_,_,_,hlen,_,_⟩:=DataW.trod_struct ht h
  exact hlen
theorem cells_one {I:Imm}{v:V}{cs:List Value}{o:Nat}{u:Value}(h:CellsAre I v ((cs.drop o).take 1)) (hv:v.cells=[v]) (hu:cs[o]?=some u):VRel I [] v u :=
  h.2 0 v u (by rw [hv];rfl) (by simp [hu])
end Go.Proofs.YtbilpbabdgfblaaGreat
