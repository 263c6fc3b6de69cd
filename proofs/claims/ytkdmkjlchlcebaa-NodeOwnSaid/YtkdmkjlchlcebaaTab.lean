/- The tables of this seat: its types, its functions: closed facts. -/
import Derived.Test.YtkdmkjlchlcebaaEff
import Derived.Test.YtkdmkjlchlcebaaProg
namespace Go.Gx
open Go.Proofs
set_option maxRecDepth 100000
theorem ty1 : Ty Try.prog 1 false 1 8 [.nilFunc] := ty_of (z := .nilFunc) Try.underlying1 rfl (by kernel_rfl) rfl rfl
theorem ty2 : Ty Try.prog 2 false 1 8 [.int .i64 0] := ty_of (z := .int .i64 0) Try.underlying2 rfl (by kernel_rfl) rfl rfl
theorem ty3 : Ty Try.prog 3 false 1 8 [.int .i64 0] := ty_of (z := .int .i64 0) Try.underlying3 rfl (by kernel_rfl) rfl rfl
theorem ty4 : Ty Try.prog 4 false 1 1 [.bool false] := ty_of (z := .bool false) Try.underlying4 rfl (by kernel_rfl) rfl rfl
theorem ty5 : Ty Try.prog 5 false 1 1 [.int .u8 0] := ty_of (z := .int .u8 0) Try.underlying5 rfl (by kernel_rfl) rfl rfl
theorem ty6 : Ty Try.prog 6 false 1 1 [.int .u8 0] := ty_of (z := .int .u8 0) Try.underlying6 rfl (by kernel_rfl) rfl rfl
theorem ty7 : Ty Try.prog 7 true 4 24 [.int .i64 0, .int .i64 0, .bool false, .int .u8 0] := ty_of (z := .agg ([.int .i64 0, .int .i64 0, .bool false, .int .u8 0]).toArray) Try.underlying7 rfl (by kernel_rfl) rfl rfl
theorem ty8 : Ty Try.prog 8 true 4 24 [.int .i64 0, .int .i64 0, .bool false, .int .u8 0] := ty_of (z := .agg ([.int .i64 0, .int .i64 0, .bool false, .int .u8 0]).toArray) Try.underlying8 rfl (by kernel_rfl) rfl rfl
theorem ty9 : Ty Try.prog 9 false 1 16 [str []] := ty_of (z := str []) Try.underlying9 rfl (by kernel_rfl) rfl rfl
theorem ty10 : Ty Try.prog 10 false 1 16 [str []] := ty_of (z := str []) Try.underlying10 rfl (by kernel_rfl) rfl rfl
theorem ty11 : Ty Try.prog 11 false 1 16 [str []] := ty_of (z := str []) Try.underlying11 rfl (by kernel_rfl) rfl rfl
theorem ty12 : Ty Try.prog 12 false 1 8 [.int .u64 0] := ty_of (z := .int .u64 0) Try.underlying12 rfl (by kernel_rfl) rfl rfl
theorem ty13 : Ty Try.prog 13 true 2 24 [str [], .int .u64 0] := ty_of (z := .agg ([str [], .int .u64 0]).toArray) Try.underlying13 rfl (by kernel_rfl) rfl rfl
theorem ty14 : Ty Try.prog 14 true 2 24 [str [], .int .u64 0] := ty_of (z := .agg ([str [], .int .u64 0]).toArray) Try.underlying14 rfl (by kernel_rfl) rfl rfl
theorem ty15 : Ty Try.prog 15 false 1 8 [.pointer none] := ty_of (z := .pointer none) Try.underlying15 rfl (by kernel_rfl) rfl rfl
theorem ty16 : Ty Try.prog 16 false 1 8 [.pointer none] := ty_of (z := .pointer none) Try.underlying16 rfl (by kernel_rfl) rfl rfl
theorem ty17 : Ty Try.prog 17 false 1 8 [.pointer none] := ty_of (z := .pointer none) Try.underlying17 rfl (by kernel_rfl) rfl rfl
theorem ty18 : Ty Try.prog 18 true 1 8 [.pointer none] := ty_of (z := .agg ([.pointer none]).toArray) Try.underlying18 rfl (by kernel_rfl) rfl rfl
theorem ty19 : Ty Try.prog 19 true 1 8 [.pointer none] := ty_of (z := .agg ([.pointer none]).toArray) Try.underlying19 rfl (by kernel_rfl) rfl rfl
theorem ty20 : Ty Try.prog 20 false 1 16 [.nilIface] := ty_of (z := .nilIface) Try.underlying20 rfl (by kernel_rfl) rfl rfl
theorem ty21 : Ty Try.prog 21 false 1 4 [.int .i32 0] := ty_of (z := .int .i32 0) Try.underlying21 rfl (by kernel_rfl) rfl rfl
theorem ty22 : Ty Try.prog 22 false 1 24 [.slice none 0 0] := ty_of (z := .slice none 0 0) Try.underlying22 rfl (by kernel_rfl) rfl rfl
theorem ty23 : Ty Try.prog 23 false 1 8 [.nilFunc] := ty_of (z := .nilFunc) Try.underlying23 rfl (by kernel_rfl) rfl rfl
theorem ty24 : Ty Try.prog 24 false 1 8 [.nilFunc] := ty_of (z := .nilFunc) Try.underlying24 rfl (by kernel_rfl) rfl rfl
theorem ty25 : Ty Try.prog 25 false 1 8 [.int .i64 0] := ty_of (z := .int .i64 0) Try.underlying25 rfl (by kernel_rfl) rfl rfl
theorem ty26 : Ty Try.prog 26 false 1 8 [.nilFunc] := ty_of (z := .nilFunc) Try.underlying26 rfl (by kernel_rfl) rfl rfl
theorem ty27 : Ty Try.prog 27 false 1 8 [.nilFunc] := ty_of (z := .nilFunc) Try.underlying27 rfl (by kernel_rfl) rfl rfl
theorem ty28 : Ty Try.prog 28 false 1 8 [.nilFunc] := ty_of (z := .nilFunc) Try.underlying28 rfl (by kernel_rfl) rfl rfl
theorem ty29 : Ty Try.prog 29 false 1 24 [.slice none 0 0] := ty_of (z := .slice none 0 0) Try.underlying29 rfl (by kernel_rfl) rfl rfl
theorem ty31 : Ty Try.prog 31 false 1 8 [.nilFunc] := ty_of (z := .nilFunc) Try.underlying31 rfl (by kernel_rfl) rfl rfl
theorem ty33 : Ty Try.prog 33 false 1 8 [.nilFunc] := ty_of (z := .nilFunc) Try.underlying33 rfl (by kernel_rfl) rfl rfl
theorem ty34 : Ty Try.prog 34 false 1 8 [.nilFunc] := ty_of (z := .nilFunc) Try.underlying34 rfl (by kernel_rfl) rfl rfl
theorem ty35 : Ty Try.prog 35 false 1 8 [.nilFunc] := ty_of (z := .nilFunc) Try.underlying35 rfl (by kernel_rfl) rfl rfl
theorem ty37 : Ty Try.prog 37 false 1 8 [.nilFunc] := ty_of (z := .nilFunc) Try.underlying37 rfl (by kernel_rfl) rfl rfl
theorem ty39 : Ty Try.prog 39 false 1 8 [.nilFunc] := ty_of (z := .nilFunc) Try.underlying39 rfl (by kernel_rfl) rfl rfl
theorem ty40 : Ty Try.prog 40 false 1 8 [.nilFunc] := ty_of (z := .nilFunc) Try.underlying40 rfl (by kernel_rfl) rfl rfl
theorem ty41 : Ty Try.prog 41 false 1 8 [.nilFunc] := ty_of (z := .nilFunc) Try.underlying41 rfl (by kernel_rfl) rfl rfl
theorem ty42 : Ty Try.prog 42 false 1 8 [.nilFunc] := ty_of (z := .nilFunc) Try.underlying42 rfl (by kernel_rfl) rfl rfl
theorem ty43 : Ty Try.prog 43 false 1 8 [.nilFunc] := ty_of (z := .nilFunc) Try.underlying43 rfl (by kernel_rfl) rfl rfl
theorem ty44 : Ty Try.prog 44 false 1 8 [.nilFunc] := ty_of (z := .nilFunc) Try.underlying44 rfl (by kernel_rfl) rfl rfl
theorem ty45 : Ty Try.prog 45 true 32 32 (List.replicate 32 (Value.int .u8 0)) := ty_of (z := .agg ((List.replicate 32 (Value.int .u8 0))).toArray) Try.underlying45 rfl (by kernel_rfl) rfl rfl
theorem ty46 : Ty Try.prog 46 true 32 32 (List.replicate 32 (Value.int .u8 0)) := ty_of (z := .agg ((List.replicate 32 (Value.int .u8 0))).toArray) Try.underlying46 rfl (by kernel_rfl) rfl rfl
theorem ty47 : Ty Try.prog 47 true 34 56 ([str [], Value.int .i64 0] ++ List.replicate 32 (Value.int .u8 0)) := ty_of (z := .agg (([str [], Value.int .i64 0] ++ List.replicate 32 (Value.int .u8 0))).toArray) Try.underlying47 rfl (by kernel_rfl) rfl rfl
theorem ty48 : Ty Try.prog 48 true 34 56 ([str [], Value.int .i64 0] ++ List.replicate 32 (Value.int .u8 0)) := ty_of (z := .agg (([str [], Value.int .i64 0] ++ List.replicate 32 (Value.int .u8 0))).toArray) Try.underlying48 rfl (by kernel_rfl) rfl rfl
theorem ty49 : Ty Try.prog 49 false 1 8 [.nilFunc] := ty_of (z := .nilFunc) Try.underlying49 rfl (by kernel_rfl) rfl rfl
theorem ty51 : Ty Try.prog 51 false 1 8 [.nilFunc] := ty_of (z := .nilFunc) Try.underlying51 rfl (by kernel_rfl) rfl rfl
theorem ty52 : Ty Try.prog 52 false 1 8 [.nilFunc] := ty_of (z := .nilFunc) Try.underlying52 rfl (by kernel_rfl) rfl rfl
theorem ty53 : Ty Try.prog 53 false 1 8 [.nilFunc] := ty_of (z := .nilFunc) Try.underlying53 rfl (by kernel_rfl) rfl rfl
theorem ty54 : Ty Try.prog 54 false 1 24 [.slice none 0 0] := ty_of (z := .slice none 0 0) Try.underlying54 rfl (by kernel_rfl) rfl rfl
theorem ty55 : Ty Try.prog 55 false 1 8 [.nilFunc] := ty_of (z := .nilFunc) Try.underlying55 rfl (by kernel_rfl) rfl rfl
theorem ty56 : Ty Try.prog 56 false 1 24 [.slice none 0 0] := ty_of (z := .slice none 0 0) Try.underlying56 rfl (by kernel_rfl) rfl rfl
theorem ty57 : Ty Try.prog 57 false 1 24 [.slice none 0 0] := ty_of (z := .slice none 0 0) Try.underlying57 rfl (by kernel_rfl) rfl rfl
theorem ty58 : Ty Try.prog 58 false 1 8 [.nilFunc] := ty_of (z := .nilFunc) Try.underlying58 rfl (by kernel_rfl) rfl rfl
theorem ty59 : Ty Try.prog 59 false 1 8 [.nilFunc] := ty_of (z := .nilFunc) Try.underlying59 rfl (by kernel_rfl) rfl rfl
theorem ty60 : Ty Try.prog 60 false 1 8 [.nilFunc] := ty_of (z := .nilFunc) Try.underlying60 rfl (by kernel_rfl) rfl rfl
theorem ty61 : Ty Try.prog 61 false 1 8 [.nilFunc] := ty_of (z := .nilFunc) Try.underlying61 rfl (by kernel_rfl) rfl rfl
theorem ty62 : Ty Try.prog 62 false 1 8 [.nilFunc] := ty_of (z := .nilFunc) Try.underlying62 rfl (by kernel_rfl) rfl rfl
theorem ty63 : Ty Try.prog 63 false 1 8 [.nilFunc] := ty_of (z := .nilFunc) Try.underlying63 rfl (by kernel_rfl) rfl rfl
theorem ty64 : Ty Try.prog 64 false 1 8 [.nilFunc] := ty_of (z := .nilFunc) Try.underlying64 rfl (by kernel_rfl) rfl rfl
theorem ty65 : Ty Try.prog 65 false 1 8 [.pointer none] := ty_of (z := .pointer none) Try.underlying65 rfl (by kernel_rfl) rfl rfl
theorem ty66 : Ty Try.prog 66 false 1 8 [.nilFunc] := ty_of (z := .nilFunc) Try.underlying66 rfl (by kernel_rfl) rfl rfl
theorem ty67 : Ty Try.prog 67 false 1 8 [.nilFunc] := ty_of (z := .nilFunc) Try.underlying67 rfl (by kernel_rfl) rfl rfl
theorem ty68 : Ty Try.prog 68 false 1 8 [.nilFunc] := ty_of (z := .nilFunc) Try.underlying68 rfl (by kernel_rfl) rfl rfl
theorem ty69 : Ty Try.prog 69 false 1 8 [.nilFunc] := ty_of (z := .nilFunc) Try.underlying69 rfl (by kernel_rfl) rfl rfl
theorem ty70 : Ty Try.prog 70 false 1 8 [.nilFunc] := ty_of (z := .nilFunc) Try.underlying70 rfl (by kernel_rfl) rfl rfl
theorem ty71 : Ty Try.prog 71 false 1 8 [.nilFunc] := ty_of (z := .nilFunc) Try.underlying71 rfl (by kernel_rfl) rfl rfl
theorem ty72 : Ty Try.prog 72 true 3 40 [.int .i64 0, .int .i64 0, .slice none 0 0] := ty_of (z := .agg ([.int .i64 0, .int .i64 0, .slice none 0 0]).toArray) Try.underlying72 rfl (by kernel_rfl) rfl rfl
theorem ty73 : Ty Try.prog 73 true 3 40 [.int .i64 0, .int .i64 0, .slice none 0 0] := ty_of (z := .agg ([.int .i64 0, .int .i64 0, .slice none 0 0]).toArray) Try.underlying73 rfl (by kernel_rfl) rfl rfl
theorem ty74 : Ty Try.prog 74 false 1 24 [.slice none 0 0] := ty_of (z := .slice none 0 0) Try.underlying74 rfl (by kernel_rfl) rfl rfl
theorem ty75 : Ty Try.prog 75 false 1 8 [.nilFunc] := ty_of (z := .nilFunc) Try.underlying75 rfl (by kernel_rfl) rfl rfl
theorem ty76 : Ty Try.prog 76 false 1 8 [.nilFunc] := ty_of (z := .nilFunc) Try.underlying76 rfl (by kernel_rfl) rfl rfl
theorem ty77 : Ty Try.prog 77 false 1 8 [.pointer none] := ty_of (z := .pointer none) Try.underlying77 rfl (by kernel_rfl) rfl rfl
theorem ty78 : Ty Try.prog 78 false 1 8 [.nilFunc] := ty_of (z := .nilFunc) Try.underlying78 rfl (by kernel_rfl) rfl rfl
theorem ty79 : Ty Try.prog 79 false 1 8 [.nilFunc] := ty_of (z := .nilFunc) Try.underlying79 rfl (by kernel_rfl) rfl rfl
theorem ty80 : Ty Try.prog 80 false 1 8 [.nilFunc] := ty_of (z := .nilFunc) Try.underlying80 rfl (by kernel_rfl) rfl rfl
theorem ty81 : Ty Try.prog 81 false 1 8 [.nilFunc] := ty_of (z := .nilFunc) Try.underlying81 rfl (by kernel_rfl) rfl rfl
theorem ty82 : Ty Try.prog 82 false 1 8 [.nilFunc] := ty_of (z := .nilFunc) Try.underlying82 rfl (by kernel_rfl) rfl rfl
theorem ty83 : Ty Try.prog 83 false 1 8 [.pointer none] := ty_of (z := .pointer none) Try.underlying83 rfl (by kernel_rfl) rfl rfl
theorem ty84 : Ty Try.prog 84 true 3 40 [.slice none 0 0, .int .i64 0, .int .i64 0] := ty_of (z := .agg ([.slice none 0 0, .int .i64 0, .int .i64 0]).toArray) Try.underlying84 rfl (by kernel_rfl) rfl rfl
theorem ty85 : Ty Try.prog 85 true 3 40 [.slice none 0 0, .int .i64 0, .int .i64 0] := ty_of (z := .agg ([.slice none 0 0, .int .i64 0, .int .i64 0]).toArray) Try.underlying85 rfl (by kernel_rfl) rfl rfl
theorem ty86 : Ty Try.prog 86 false 1 8 [.nilFunc] := ty_of (z := .nilFunc) Try.underlying86 rfl (by kernel_rfl) rfl rfl
theorem ty88 : Ty Try.prog 88 false 1 8 [.nilFunc] := ty_of (z := .nilFunc) Try.underlying88 rfl (by kernel_rfl) rfl rfl
theorem ty90 : Ty Try.prog 90 false 1 8 [.nilFunc] := ty_of (z := .nilFunc) Try.underlying90 rfl (by kernel_rfl) rfl rfl
theorem ty91 : Ty Try.prog 91 false 1 8 [.nilFunc] := ty_of (z := .nilFunc) Try.underlying91 rfl (by kernel_rfl) rfl rfl
theorem ty92 : Ty Try.prog 92 false 1 8 [.nilFunc] := ty_of (z := .nilFunc) Try.underlying92 rfl (by kernel_rfl) rfl rfl
theorem ty93 : Ty Try.prog 93 false 1 8 [.nilFunc] := ty_of (z := .nilFunc) Try.underlying93 rfl (by kernel_rfl) rfl rfl
theorem ty94 : Ty Try.prog 94 false 1 8 [.int .u64 0] := ty_of (z := .int .u64 0) Try.underlying94 rfl (by kernel_rfl) rfl rfl
theorem ty95 : Ty Try.prog 95 false 1 8 [.nilFunc] := ty_of (z := .nilFunc) Try.underlying95 rfl (by kernel_rfl) rfl rfl
theorem ty96 : Ty Try.prog 96 false 1 8 [.nilFunc] := ty_of (z := .nilFunc) Try.underlying96 rfl (by kernel_rfl) rfl rfl
theorem ty97 : Ty Try.prog 97 true 2 32 [.slice none 0 0, .int .i64 0] := ty_of (z := .agg ([.slice none 0 0, .int .i64 0]).toArray) Try.underlying97 rfl (by kernel_rfl) rfl rfl
theorem ty98 : Ty Try.prog 98 true 2 32 [.slice none 0 0, .int .i64 0] := ty_of (z := .agg ([.slice none 0 0, .int .i64 0]).toArray) Try.underlying98 rfl (by kernel_rfl) rfl rfl
theorem ty99 : Ty Try.prog 99 false 1 8 [.nilFunc] := ty_of (z := .nilFunc) Try.underlying99 rfl (by kernel_rfl) rfl rfl
theorem ty100 : Ty Try.prog 100 false 1 8 [.nilFunc] := ty_of (z := .nilFunc) Try.underlying100 rfl (by kernel_rfl) rfl rfl
theorem ty101 : Ty Try.prog 101 false 1 8 [.int .u64 0] := ty_of (z := .int .u64 0) Try.underlying101 rfl (by kernel_rfl) rfl rfl
theorem ty102 : Ty Try.prog 102 false 1 8 [.nilFunc] := ty_of (z := .nilFunc) Try.underlying102 rfl (by kernel_rfl) rfl rfl
theorem ty103 : Ty Try.prog 103 true 4 48 [.slice none 0 0, .int .i64 0, .bool false, .int .i64 0] := ty_of (z := .agg ([.slice none 0 0, .int .i64 0, .bool false, .int .i64 0]).toArray) Try.underlying103 rfl (by kernel_rfl) rfl rfl
theorem ty104 : Ty Try.prog 104 true 4 48 [.slice none 0 0, .int .i64 0, .bool false, .int .i64 0] := ty_of (z := .agg ([.slice none 0 0, .int .i64 0, .bool false, .int .i64 0]).toArray) Try.underlying104 rfl (by kernel_rfl) rfl rfl
theorem ty105 : Ty Try.prog 105 true 1 8 [.pointer none] := ty_of (z := .agg ([.pointer none]).toArray) Try.underlying105 rfl (by kernel_rfl) rfl rfl
theorem ty106 : Ty Try.prog 106 true 1 8 [.pointer none] := ty_of (z := .agg ([.pointer none]).toArray) Try.underlying106 rfl (by kernel_rfl) rfl rfl
theorem ty108 : Ty Try.prog 108 false 1 8 [.nilFunc] := ty_of (z := .nilFunc) Try.underlying108 rfl (by kernel_rfl) rfl rfl
theorem ty109 : Ty Try.prog 109 false 1 8 [.nilFunc] := ty_of (z := .nilFunc) Try.underlying109 rfl (by kernel_rfl) rfl rfl
theorem ty110 : Ty Try.prog 110 false 1 8 [.nilFunc] := ty_of (z := .nilFunc) Try.underlying110 rfl (by kernel_rfl) rfl rfl
theorem ty112 : Ty Try.prog 112 false 1 8 [.nilFunc] := ty_of (z := .nilFunc) Try.underlying112 rfl (by kernel_rfl) rfl rfl
theorem ty114 : Ty Try.prog 114 false 1 8 [.nilFunc] := ty_of (z := .nilFunc) Try.underlying114 rfl (by kernel_rfl) rfl rfl
theorem ty115 : Ty Try.prog 115 false 1 8 [.nilFunc] := ty_of (z := .nilFunc) Try.underlying115 rfl (by kernel_rfl) rfl rfl
theorem ty116 : Ty Try.prog 116 false 1 8 [.nilFunc] := ty_of (z := .nilFunc) Try.underlying116 rfl (by kernel_rfl) rfl rfl
theorem ty117 : Ty Try.prog 117 false 1 8 [.nilFunc] := ty_of (z := .nilFunc) Try.underlying117 rfl (by kernel_rfl) rfl rfl
theorem ty118 : Ty Try.prog 118 false 1 8 [.nilFunc] := ty_of (z := .nilFunc) Try.underlying118 rfl (by kernel_rfl) rfl rfl
theorem ty119 : Ty Try.prog 119 false 1 8 [.nilFunc] := ty_of (z := .nilFunc) Try.underlying119 rfl (by kernel_rfl) rfl rfl
theorem ty120 : Ty Try.prog 120 false 1 8 [.nilFunc] := ty_of (z := .nilFunc) Try.underlying120 rfl (by kernel_rfl) rfl rfl
theorem ty121 : Ty Try.prog 121 false 1 8 [.nilFunc] := ty_of (z := .nilFunc) Try.underlying121 rfl (by kernel_rfl) rfl rfl
theorem ty122 : Ty Try.prog 122 false 1 8 [.nilFunc] := ty_of (z := .nilFunc) Try.underlying122 rfl (by kernel_rfl) rfl rfl
theorem ty123 : Ty Try.prog 123 false 1 8 [.nilFunc] := ty_of (z := .nilFunc) Try.underlying123 rfl (by kernel_rfl) rfl rfl
theorem ty124 : Ty Try.prog 124 true 256 256 (List.replicate 256 (Value.bool false)) := ty_of (z := .agg ((List.replicate 256 (Value.bool false))).toArray) Try.underlying124 rfl (by kernel_rfl) rfl rfl
theorem ty125 : Ty Try.prog 125 true 256 256 (List.replicate 256 (Value.bool false)) := ty_of (z := .agg ((List.replicate 256 (Value.bool false))).toArray) Try.underlying125 rfl (by kernel_rfl) rfl rfl
theorem ty127 : Ty Try.prog 127 false 1 8 [.nilFunc] := ty_of (z := .nilFunc) Try.underlying127 rfl (by kernel_rfl) rfl rfl
theorem ty128 : Ty Try.prog 128 false 1 8 [.nilFunc] := ty_of (z := .nilFunc) Try.underlying128 rfl (by kernel_rfl) rfl rfl
theorem ty129 : Ty Try.prog 129 false 1 8 [.nilFunc] := ty_of (z := .nilFunc) Try.underlying129 rfl (by kernel_rfl) rfl rfl
theorem ty130 : Ty Try.prog 130 false 1 8 [.nilFunc] := ty_of (z := .nilFunc) Try.underlying130 rfl (by kernel_rfl) rfl rfl
theorem ty131 : Ty Try.prog 131 false 1 8 [.pointer none] := ty_of (z := .pointer none) Try.underlying131 rfl (by kernel_rfl) rfl rfl
theorem ty132 : Ty Try.prog 132 true 4 40 [.pointer none, .pointer none, .pointer none, str []] := ty_of (z := .agg ([.pointer none, .pointer none, .pointer none, str []]).toArray) Try.underlying132 rfl (by kernel_rfl) rfl rfl
theorem ty133 : Ty Try.prog 133 true 4 40 [.pointer none, .pointer none, .pointer none, str []] := ty_of (z := .agg ([.pointer none, .pointer none, .pointer none, str []]).toArray) Try.underlying133 rfl (by kernel_rfl) rfl rfl
theorem ty134 : Ty Try.prog 134 true 0 0 [] := ty_of (z := .agg ([]).toArray) Try.underlying134 rfl (by kernel_rfl) rfl rfl
theorem ty135 : Ty Try.prog 135 true 0 0 [] := ty_of (z := .agg ([]).toArray) Try.underlying135 rfl (by kernel_rfl) rfl rfl
theorem ty136 : Ty Try.prog 136 true 0 0 [] := ty_of (z := .agg ([]).toArray) Try.underlying136 rfl (by kernel_rfl) rfl rfl
theorem ty137 : Ty Try.prog 137 false 1 4 [.int .u32 0] := ty_of (z := .int .u32 0) Try.underlying137 rfl (by kernel_rfl) rfl rfl
theorem ty138 : Ty Try.prog 138 false 1 1 [.int .u8 0] := ty_of (z := .int .u8 0) Try.underlying138 rfl (by kernel_rfl) rfl rfl
theorem ty139 : Ty Try.prog 139 false 1 1 [.int .u8 0] := ty_of (z := .int .u8 0) Try.underlying139 rfl (by kernel_rfl) rfl rfl
theorem ty140 : Ty Try.prog 140 false 1 8 [.nilFunc] := ty_of (z := .nilFunc) Try.underlying140 rfl (by kernel_rfl) rfl rfl
theorem ty141 : Ty Try.prog 141 false 1 8 [.pointer none] := ty_of (z := .pointer none) Try.underlying141 rfl (by kernel_rfl) rfl rfl
theorem ty142 : Ty Try.prog 142 false 1 4 [.int .i32 0] := ty_of (z := .int .i32 0) Try.underlying142 rfl (by kernel_rfl) rfl rfl
theorem ty143 : Ty Try.prog 143 false 1 4 [.int .i32 0] := ty_of (z := .int .i32 0) Try.underlying143 rfl (by kernel_rfl) rfl rfl
theorem ty144 : Ty Try.prog 144 true 11 48 ([Value.int .u64 0, Value.int .u64 0, Value.int .u32 0, Value.int .u8 0, Value.int .u8 0, Value.int .u8 0, Value.int .u8 0, Value.nilFunc, Value.pointer none, Value.int .i32 0, Value.int .i32 0]) := ty_of (z := .agg (([Value.int .u64 0, Value.int .u64 0, Value.int .u32 0, Value.int .u8 0, Value.int .u8 0, Value.int .u8 0, Value.int .u8 0, Value.nilFunc, Value.pointer none, Value.int .i32 0, Value.int .i32 0])).toArray) Try.underlying144 rfl (by kernel_rfl) rfl rfl
theorem ty145 : Ty Try.prog 145 true 11 48 ([Value.int .u64 0, Value.int .u64 0, Value.int .u32 0, Value.int .u8 0, Value.int .u8 0, Value.int .u8 0, Value.int .u8 0, Value.nilFunc, Value.pointer none, Value.int .i32 0, Value.int .i32 0]) := ty_of (z := .agg (([Value.int .u64 0, Value.int .u64 0, Value.int .u32 0, Value.int .u8 0, Value.int .u8 0, Value.int .u8 0, Value.int .u8 0, Value.nilFunc, Value.pointer none, Value.int .i32 0, Value.int .i32 0])).toArray) Try.underlying145 rfl (by kernel_rfl) rfl rfl
theorem ty146 : Ty Try.prog 146 false 1 8 [.nilFunc] := ty_of (z := .nilFunc) Try.underlying146 rfl (by kernel_rfl) rfl rfl
theorem en2 : En Try.prog 2 := ⟨Try.f2, Try.func2, rfl, by kernel_rfl⟩
theorem en3 : En Try.prog 3 := ⟨Try.f3, Try.func3, rfl, by kernel_rfl⟩
theorem en4 : En Try.prog 4 := ⟨Try.f4, Try.func4, rfl, by kernel_rfl⟩
theorem en5 : En Try.prog 5 := ⟨Try.f5, Try.func5, rfl, by kernel_rfl⟩
theorem en6 : En Try.prog 6 := ⟨Try.f6, Try.func6, rfl, by kernel_rfl⟩
theorem en7 : En Try.prog 7 := ⟨Try.f7, Try.func7, rfl, by kernel_rfl⟩
theorem en8 : En Try.prog 8 := ⟨Try.f8, Try.func8, rfl, by kernel_rfl⟩
theorem en9 : En Try.prog 9 := ⟨Try.f9, Try.func9, rfl, by kernel_rfl⟩
theorem en10 : En Try.prog 10 := ⟨Try.f10, Try.func10, rfl, by kernel_rfl⟩
theorem en11 : En Try.prog 11 := ⟨Try.f11, Try.func11, rfl, by kernel_rfl⟩
theorem en12 : En Try.prog 12 := ⟨Try.f12, Try.func12, rfl, by kernel_rfl⟩
theorem en13 : En Try.prog 13 := ⟨Try.f13, Try.func13, rfl, by kernel_rfl⟩
theorem en14 : En Try.prog 14 := ⟨Try.f14, Try.func14, rfl, by kernel_rfl⟩
theorem en15 : En Try.prog 15 := ⟨Try.f15, Try.func15, rfl, by kernel_rfl⟩
theorem en16 : En Try.prog 16 := ⟨Try.f16, Try.func16, rfl, by kernel_rfl⟩
theorem en17 : En Try.prog 17 := ⟨Try.f17, Try.func17, rfl, by kernel_rfl⟩
theorem en18 : En Try.prog 18 := ⟨Try.f18, Try.func18, rfl, by kernel_rfl⟩
theorem en19 : En Try.prog 19 := ⟨Try.f19, Try.func19, rfl, by kernel_rfl⟩
theorem en20 : En Try.prog 20 := ⟨Try.f20, Try.func20, rfl, by kernel_rfl⟩
theorem en21 : En Try.prog 21 := ⟨Try.f21, Try.func21, rfl, by kernel_rfl⟩
theorem en22 : En Try.prog 22 := ⟨Try.f22, Try.func22, rfl, by kernel_rfl⟩
theorem en23 : En Try.prog 23 := ⟨Try.f23, Try.func23, rfl, by kernel_rfl⟩
theorem en24 : En Try.prog 24 := ⟨Try.f24, Try.func24, rfl, by kernel_rfl⟩
theorem en25 : En Try.prog 25 := ⟨Try.f25, Try.func25, rfl, by kernel_rfl⟩
theorem en26 : En Try.prog 26 := ⟨Try.f26, Try.func26, rfl, by kernel_rfl⟩
theorem en27 : En Try.prog 27 := ⟨Try.f27, Try.func27, rfl, by kernel_rfl⟩
theorem en28 : En Try.prog 28 := ⟨Try.f28, Try.func28, rfl, by kernel_rfl⟩
theorem en29 : En Try.prog 29 := ⟨Try.f29, Try.func29, rfl, by kernel_rfl⟩
theorem en30 : En Try.prog 30 := ⟨Try.f30, Try.func30, rfl, by kernel_rfl⟩
theorem en31 : En Try.prog 31 := ⟨Try.f31, Try.func31, rfl, by kernel_rfl⟩
theorem en32 : En Try.prog 32 := ⟨Try.f32, Try.func32, rfl, by kernel_rfl⟩
theorem en33 : En Try.prog 33 := ⟨Try.f33, Try.func33, rfl, by kernel_rfl⟩
theorem en34 : En Try.prog 34 := ⟨Try.f34, Try.func34, rfl, by kernel_rfl⟩
theorem en35 : En Try.prog 35 := ⟨Try.f35, Try.func35, rfl, by kernel_rfl⟩
theorem en36 : En Try.prog 36 := ⟨Try.f36, Try.func36, rfl, by kernel_rfl⟩
theorem en37 : En Try.prog 37 := ⟨Try.f37, Try.func37, rfl, by kernel_rfl⟩
theorem en38 : En Try.prog 38 := ⟨Try.f38, Try.func38, rfl, by kernel_rfl⟩
theorem en39 : En Try.prog 39 := ⟨Try.f39, Try.func39, rfl, by kernel_rfl⟩
theorem en40 : En Try.prog 40 := ⟨Try.f40, Try.func40, rfl, by kernel_rfl⟩
theorem en41 : En Try.prog 41 := ⟨Try.f41, Try.func41, rfl, by kernel_rfl⟩
theorem en42 : En Try.prog 42 := ⟨Try.f42, Try.func42, rfl, by kernel_rfl⟩
theorem en43 : En Try.prog 43 := ⟨Try.f43, Try.func43, rfl, by kernel_rfl⟩
theorem en44 : En Try.prog 44 := ⟨Try.f44, Try.func44, rfl, by kernel_rfl⟩
theorem en45 : En Try.prog 45 := ⟨Try.f45, Try.func45, rfl, by kernel_rfl⟩
theorem en46 : En Try.prog 46 := ⟨Try.f46, Try.func46, rfl, by kernel_rfl⟩
theorem en47 : En Try.prog 47 := ⟨Try.f47, Try.func47, rfl, by kernel_rfl⟩
theorem en48 : En Try.prog 48 := ⟨Try.f48, Try.func48, rfl, by kernel_rfl⟩
theorem en49 : En Try.prog 49 := ⟨Try.f49, Try.func49, rfl, by kernel_rfl⟩
theorem en50 : En Try.prog 50 := ⟨Try.f50, Try.func50, rfl, by kernel_rfl⟩
theorem en51 : En Try.prog 51 := ⟨Try.f51, Try.func51, rfl, by kernel_rfl⟩
theorem en52 : En Try.prog 52 := ⟨Try.f52, Try.func52, rfl, by kernel_rfl⟩
theorem en53 : En Try.prog 53 := ⟨Try.f53, Try.func53, rfl, by kernel_rfl⟩
theorem en54 : En Try.prog 54 := ⟨Try.f54, Try.func54, rfl, by kernel_rfl⟩
theorem en55 : En Try.prog 55 := ⟨Try.f55, Try.func55, rfl, by kernel_rfl⟩
theorem en56 : En Try.prog 56 := ⟨Try.f56, Try.func56, rfl, by kernel_rfl⟩
theorem en57 : En Try.prog 57 := ⟨Try.f57, Try.func57, rfl, by kernel_rfl⟩
theorem en58 : En Try.prog 58 := ⟨Try.f58, Try.func58, rfl, by kernel_rfl⟩
theorem en59 : En Try.prog 59 := ⟨Try.f59, Try.func59, rfl, by kernel_rfl⟩
theorem en60 : En Try.prog 60 := ⟨Try.f60, Try.func60, rfl, by kernel_rfl⟩
theorem en61 : En Try.prog 61 := ⟨Try.f61, Try.func61, rfl, by kernel_rfl⟩
theorem en62 : En Try.prog 62 := ⟨Try.f62, Try.func62, rfl, by kernel_rfl⟩
theorem en63 : En Try.prog 63 := ⟨Try.f63, Try.func63, rfl, by kernel_rfl⟩
theorem en64 : En Try.prog 64 := ⟨Try.f64, Try.func64, rfl, by kernel_rfl⟩
theorem en65 : En Try.prog 65 := ⟨Try.f65, Try.func65, rfl, by kernel_rfl⟩
theorem en66 : En Try.prog 66 := ⟨Try.f66, Try.func66, rfl, by kernel_rfl⟩
theorem en67 : En Try.prog 67 := ⟨Try.f67, Try.func67, rfl, by kernel_rfl⟩
theorem en68 : En Try.prog 68 := ⟨Try.f68, Try.func68, rfl, by kernel_rfl⟩
theorem en69 : En Try.prog 69 := ⟨Try.f69, Try.func69, rfl, by kernel_rfl⟩
theorem en70 : En Try.prog 70 := ⟨Try.f70, Try.func70, rfl, by kernel_rfl⟩
theorem en71 : En Try.prog 71 := ⟨Try.f71, Try.func71, rfl, by kernel_rfl⟩
theorem en72 : En Try.prog 72 := ⟨Try.f72, Try.func72, rfl, by kernel_rfl⟩
theorem en73 : En Try.prog 73 := ⟨Try.f73, Try.func73, rfl, by kernel_rfl⟩
theorem en74 : En Try.prog 74 := ⟨Try.f74, Try.func74, rfl, by kernel_rfl⟩
theorem en75 : En Try.prog 75 := ⟨Try.f75, Try.func75, rfl, by kernel_rfl⟩
theorem en76 : En Try.prog 76 := ⟨Try.f76, Try.func76, rfl, by kernel_rfl⟩
theorem en77 : En Try.prog 77 := ⟨Try.f77, Try.func77, rfl, by kernel_rfl⟩
theorem en79 : En Try.prog 79 := ⟨Try.f79, Try.func79, rfl, by kernel_rfl⟩
theorem en80 : En Try.prog 80 := ⟨Try.f80, Try.func80, rfl, by kernel_rfl⟩
theorem en81 : En Try.prog 81 := ⟨Try.f81, Try.func81, rfl, by kernel_rfl⟩
theorem en82 : En Try.prog 82 := ⟨Try.f82, Try.func82, rfl, by kernel_rfl⟩
theorem en83 : En Try.prog 83 := ⟨Try.f83, Try.func83, rfl, by kernel_rfl⟩
theorem en84 : En Try.prog 84 := ⟨Try.f84, Try.func84, rfl, by kernel_rfl⟩
theorem en85 : En Try.prog 85 := ⟨Try.f85, Try.func85, rfl, by kernel_rfl⟩
theorem en86 : En Try.prog 86 := ⟨Try.f86, Try.func86, rfl, by kernel_rfl⟩
theorem en87 : En Try.prog 87 := ⟨Try.f87, Try.func87, rfl, by kernel_rfl⟩
theorem en89 : En Try.prog 89 := ⟨Try.f89, Try.func89, rfl, by kernel_rfl⟩
theorem en90 : En Try.prog 90 := ⟨Try.f90, Try.func90, rfl, by kernel_rfl⟩
theorem en91 : En Try.prog 91 := ⟨Try.f91, Try.func91, rfl, by kernel_rfl⟩
theorem en92 : En Try.prog 92 := ⟨Try.f92, Try.func92, rfl, by kernel_rfl⟩
theorem en93 : En Try.prog 93 := ⟨Try.f93, Try.func93, rfl, by kernel_rfl⟩
theorem en94 : En Try.prog 94 := ⟨Try.f94, Try.func94, rfl, by kernel_rfl⟩
theorem en95 : En Try.prog 95 := ⟨Try.f95, Try.func95, rfl, by kernel_rfl⟩
theorem en96 : En Try.prog 96 := ⟨Try.f96, Try.func96, rfl, by kernel_rfl⟩
theorem en98 : En Try.prog 98 := ⟨Try.f98, Try.func98, rfl, by kernel_rfl⟩
theorem mixedP : Try.prog.follows .mixedOrders = true := by kernel_rfl
end Go.Gx
