/- The tables of this seat: its types, its functions: closed facts. -/
import Derived.Test.YtepaojbhjgefiaaDoorA1
import Derived.Test.YtepaojbhjgefiaaDoorProg
namespace Go.Gx
open Go.Proofs
set_option maxRecDepth 100000
theorem ty1 : Ty Tryd.prog 1 false 1 8 [.nilFunc] := ty_of (z := .nilFunc) Tryd.underlying1 rfl (by kernel_rfl) rfl rfl
theorem ty2 : Ty Tryd.prog 2 false 1 8 [.int .i64 0] := ty_of (z := .int .i64 0) Tryd.underlying2 rfl (by kernel_rfl) rfl rfl
theorem ty3 : Ty Tryd.prog 3 false 1 8 [.int .i64 0] := ty_of (z := .int .i64 0) Tryd.underlying3 rfl (by kernel_rfl) rfl rfl
theorem ty4 : Ty Tryd.prog 4 false 1 1 [.bool false] := ty_of (z := .bool false) Tryd.underlying4 rfl (by kernel_rfl) rfl rfl
theorem ty5 : Ty Tryd.prog 5 false 1 1 [.int .u8 0] := ty_of (z := .int .u8 0) Tryd.underlying5 rfl (by kernel_rfl) rfl rfl
theorem ty6 : Ty Tryd.prog 6 false 1 1 [.int .u8 0] := ty_of (z := .int .u8 0) Tryd.underlying6 rfl (by kernel_rfl) rfl rfl
theorem ty7 : Ty Tryd.prog 7 true 4 24 [.int .i64 0, .int .i64 0, .bool false, .int .u8 0] := ty_of (z := .agg ([.int .i64 0, .int .i64 0, .bool false, .int .u8 0]).toArray) Tryd.underlying7 rfl (by kernel_rfl) rfl rfl
theorem ty8 : Ty Tryd.prog 8 true 4 24 [.int .i64 0, .int .i64 0, .bool false, .int .u8 0] := ty_of (z := .agg ([.int .i64 0, .int .i64 0, .bool false, .int .u8 0]).toArray) Tryd.underlying8 rfl (by kernel_rfl) rfl rfl
theorem ty9 : Ty Tryd.prog 9 false 1 16 [str []] := ty_of (z := str []) Tryd.underlying9 rfl (by kernel_rfl) rfl rfl
theorem ty10 : Ty Tryd.prog 10 false 1 16 [str []] := ty_of (z := str []) Tryd.underlying10 rfl (by kernel_rfl) rfl rfl
theorem ty11 : Ty Tryd.prog 11 false 1 16 [str []] := ty_of (z := str []) Tryd.underlying11 rfl (by kernel_rfl) rfl rfl
theorem ty12 : Ty Tryd.prog 12 false 1 8 [.int .u64 0] := ty_of (z := .int .u64 0) Tryd.underlying12 rfl (by kernel_rfl) rfl rfl
theorem ty13 : Ty Tryd.prog 13 true 2 24 [str [], .int .u64 0] := ty_of (z := .agg ([str [], .int .u64 0]).toArray) Tryd.underlying13 rfl (by kernel_rfl) rfl rfl
theorem ty14 : Ty Tryd.prog 14 true 2 24 [str [], .int .u64 0] := ty_of (z := .agg ([str [], .int .u64 0]).toArray) Tryd.underlying14 rfl (by kernel_rfl) rfl rfl
theorem ty15 : Ty Tryd.prog 15 false 1 8 [.pointer none] := ty_of (z := .pointer none) Tryd.underlying15 rfl (by kernel_rfl) rfl rfl
theorem ty16 : Ty Tryd.prog 16 false 1 8 [.pointer none] := ty_of (z := .pointer none) Tryd.underlying16 rfl (by kernel_rfl) rfl rfl
theorem ty17 : Ty Tryd.prog 17 false 1 8 [.pointer none] := ty_of (z := .pointer none) Tryd.underlying17 rfl (by kernel_rfl) rfl rfl
theorem ty18 : Ty Tryd.prog 18 true 1 8 [.pointer none] := ty_of (z := .agg ([.pointer none]).toArray) Tryd.underlying18 rfl (by kernel_rfl) rfl rfl
theorem ty19 : Ty Tryd.prog 19 true 1 8 [.pointer none] := ty_of (z := .agg ([.pointer none]).toArray) Tryd.underlying19 rfl (by kernel_rfl) rfl rfl
theorem ty20 : Ty Tryd.prog 20 false 1 16 [.nilIface] := ty_of (z := .nilIface) Tryd.underlying20 rfl (by kernel_rfl) rfl rfl
theorem ty21 : Ty Tryd.prog 21 false 1 4 [.int .i32 0] := ty_of (z := .int .i32 0) Tryd.underlying21 rfl (by kernel_rfl) rfl rfl
theorem ty22 : Ty Tryd.prog 22 false 1 24 [.slice none 0 0] := ty_of (z := .slice none 0 0) Tryd.underlying22 rfl (by kernel_rfl) rfl rfl
theorem ty23 : Ty Tryd.prog 23 false 1 24 [.slice none 0 0] := ty_of (z := .slice none 0 0) Tryd.underlying23 rfl (by kernel_rfl) rfl rfl
theorem ty24 : Ty Tryd.prog 24 false 1 8 [.nilFunc] := ty_of (z := .nilFunc) Tryd.underlying24 rfl (by kernel_rfl) rfl rfl
theorem ty25 : Ty Tryd.prog 25 false 1 8 [.pointer none] := ty_of (z := .pointer none) Tryd.underlying25 rfl (by kernel_rfl) rfl rfl
theorem ty26 : Ty Tryd.prog 26 false 1 8 [.int .i64 0] := ty_of (z := .int .i64 0) Tryd.underlying26 rfl (by kernel_rfl) rfl rfl
theorem ty28 : Ty Tryd.prog 28 false 1 8 [.nilFunc] := ty_of (z := .nilFunc) Tryd.underlying28 rfl (by kernel_rfl) rfl rfl
theorem ty29 : Ty Tryd.prog 29 true 3 24 [.int .i64 0, .int .i64 0, .int .i64 0] := ty_of (z := .agg ([.int .i64 0, .int .i64 0, .int .i64 0]).toArray) Tryd.underlying29 rfl (by kernel_rfl) rfl rfl
theorem ty30 : Ty Tryd.prog 30 true 3 24 [.int .i64 0, .int .i64 0, .int .i64 0] := ty_of (z := .agg ([.int .i64 0, .int .i64 0, .int .i64 0]).toArray) Tryd.underlying30 rfl (by kernel_rfl) rfl rfl
theorem ty32 : Ty Tryd.prog 32 false 1 8 [.nilFunc] := ty_of (z := .nilFunc) Tryd.underlying32 rfl (by kernel_rfl) rfl rfl
theorem ty33 : Ty Tryd.prog 33 false 1 8 [.nilFunc] := ty_of (z := .nilFunc) Tryd.underlying33 rfl (by kernel_rfl) rfl rfl
theorem ty34 : Ty Tryd.prog 34 false 1 24 [.slice none 0 0] := ty_of (z := .slice none 0 0) Tryd.underlying34 rfl (by kernel_rfl) rfl rfl
theorem ty35 : Ty Tryd.prog 35 true 3 40 [.int .i64 0, .slice none 0 0, .bool false] := ty_of (z := .agg ([.int .i64 0, .slice none 0 0, .bool false]).toArray) Tryd.underlying35 rfl (by kernel_rfl) rfl rfl
theorem ty36 : Ty Tryd.prog 36 true 3 40 [.int .i64 0, .slice none 0 0, .bool false] := ty_of (z := .agg ([.int .i64 0, .slice none 0 0, .bool false]).toArray) Tryd.underlying36 rfl (by kernel_rfl) rfl rfl
theorem ty37 : Ty Tryd.prog 37 false 1 8 [.nilFunc] := ty_of (z := .nilFunc) Tryd.underlying37 rfl (by kernel_rfl) rfl rfl
theorem ty38 : Ty Tryd.prog 38 false 1 8 [.nilFunc] := ty_of (z := .nilFunc) Tryd.underlying38 rfl (by kernel_rfl) rfl rfl
theorem ty39 : Ty Tryd.prog 39 false 1 8 [.nilFunc] := ty_of (z := .nilFunc) Tryd.underlying39 rfl (by kernel_rfl) rfl rfl
theorem ty40 : Ty Tryd.prog 40 false 1 24 [.slice none 0 0] := ty_of (z := .slice none 0 0) Tryd.underlying40 rfl (by kernel_rfl) rfl rfl
theorem ty41 : Ty Tryd.prog 41 false 1 24 [.slice none 0 0] := ty_of (z := .slice none 0 0) Tryd.underlying41 rfl (by kernel_rfl) rfl rfl
theorem ty42 : Ty Tryd.prog 42 false 1 24 [.slice none 0 0] := ty_of (z := .slice none 0 0) Tryd.underlying42 rfl (by kernel_rfl) rfl rfl
theorem ty43 : Ty Tryd.prog 43 false 1 24 [.slice none 0 0] := ty_of (z := .slice none 0 0) Tryd.underlying43 rfl (by kernel_rfl) rfl rfl
theorem ty44 : Ty Tryd.prog 44 false 1 24 [.slice none 0 0] := ty_of (z := .slice none 0 0) Tryd.underlying44 rfl (by kernel_rfl) rfl rfl
theorem ty45 : Ty Tryd.prog 45 false 1 8 [.nilFunc] := ty_of (z := .nilFunc) Tryd.underlying45 rfl (by kernel_rfl) rfl rfl
theorem ty46 : Ty Tryd.prog 46 true 5 64 [.int .i64 0, .int .i64 0, .int .i64 0, str [], .slice none 0 0] := ty_of (z := .agg ([.int .i64 0, .int .i64 0, .int .i64 0, str [], .slice none 0 0]).toArray) Tryd.underlying46 rfl (by kernel_rfl) rfl rfl
theorem ty47 : Ty Tryd.prog 47 true 5 64 [.int .i64 0, .int .i64 0, .int .i64 0, str [], .slice none 0 0] := ty_of (z := .agg ([.int .i64 0, .int .i64 0, .int .i64 0, str [], .slice none 0 0]).toArray) Tryd.underlying47 rfl (by kernel_rfl) rfl rfl
theorem ty48 : Ty Tryd.prog 48 false 1 8 [.nilFunc] := ty_of (z := .nilFunc) Tryd.underlying48 rfl (by kernel_rfl) rfl rfl
theorem ty49 : Ty Tryd.prog 49 true 3 48 [str [], .bool false, .slice none 0 0] := ty_of (z := .agg ([str [], .bool false, .slice none 0 0]).toArray) Tryd.underlying49 rfl (by kernel_rfl) rfl rfl
theorem ty50 : Ty Tryd.prog 50 true 3 48 [str [], .bool false, .slice none 0 0] := ty_of (z := .agg ([str [], .bool false, .slice none 0 0]).toArray) Tryd.underlying50 rfl (by kernel_rfl) rfl rfl
theorem ty51 : Ty Tryd.prog 51 false 1 24 [.slice none 0 0] := ty_of (z := .slice none 0 0) Tryd.underlying51 rfl (by kernel_rfl) rfl rfl
theorem ty53 : Ty Tryd.prog 53 false 1 8 [.nilFunc] := ty_of (z := .nilFunc) Tryd.underlying53 rfl (by kernel_rfl) rfl rfl
theorem ty55 : Ty Tryd.prog 55 false 1 8 [.nilFunc] := ty_of (z := .nilFunc) Tryd.underlying55 rfl (by kernel_rfl) rfl rfl
theorem ty56 : Ty Tryd.prog 56 false 1 8 [.nilFunc] := ty_of (z := .nilFunc) Tryd.underlying56 rfl (by kernel_rfl) rfl rfl
theorem ty57 : Ty Tryd.prog 57 false 1 8 [.nilFunc] := ty_of (z := .nilFunc) Tryd.underlying57 rfl (by kernel_rfl) rfl rfl
theorem ty58 : Ty Tryd.prog 58 false 1 8 [.nilFunc] := ty_of (z := .nilFunc) Tryd.underlying58 rfl (by kernel_rfl) rfl rfl
theorem ty59 : Ty Tryd.prog 59 false 1 8 [.nilFunc] := ty_of (z := .nilFunc) Tryd.underlying59 rfl (by kernel_rfl) rfl rfl
theorem ty60 : Ty Tryd.prog 60 false 1 8 [.nilFunc] := ty_of (z := .nilFunc) Tryd.underlying60 rfl (by kernel_rfl) rfl rfl
theorem ty61 : Ty Tryd.prog 61 false 1 8 [.nilFunc] := ty_of (z := .nilFunc) Tryd.underlying61 rfl (by kernel_rfl) rfl rfl
theorem ty62 : Ty Tryd.prog 62 false 1 24 [.slice none 0 0] := ty_of (z := .slice none 0 0) Tryd.underlying62 rfl (by kernel_rfl) rfl rfl
theorem ty64 : Ty Tryd.prog 64 false 1 8 [.nilFunc] := ty_of (z := .nilFunc) Tryd.underlying64 rfl (by kernel_rfl) rfl rfl
theorem ty65 : Ty Tryd.prog 65 false 1 8 [.nilFunc] := ty_of (z := .nilFunc) Tryd.underlying65 rfl (by kernel_rfl) rfl rfl
theorem ty66 : Ty Tryd.prog 66 false 1 8 [.nilFunc] := ty_of (z := .nilFunc) Tryd.underlying66 rfl (by kernel_rfl) rfl rfl
theorem ty67 : Ty Tryd.prog 67 false 1 8 [.nilFunc] := ty_of (z := .nilFunc) Tryd.underlying67 rfl (by kernel_rfl) rfl rfl
theorem ty68 : Ty Tryd.prog 68 false 1 8 [.nilFunc] := ty_of (z := .nilFunc) Tryd.underlying68 rfl (by kernel_rfl) rfl rfl
theorem ty69 : Ty Tryd.prog 69 false 1 8 [.nilFunc] := ty_of (z := .nilFunc) Tryd.underlying69 rfl (by kernel_rfl) rfl rfl
theorem ty70 : Ty Tryd.prog 70 false 1 8 [.nilFunc] := ty_of (z := .nilFunc) Tryd.underlying70 rfl (by kernel_rfl) rfl rfl
theorem ty71 : Ty Tryd.prog 71 false 1 8 [.nilFunc] := ty_of (z := .nilFunc) Tryd.underlying71 rfl (by kernel_rfl) rfl rfl
theorem ty72 : Ty Tryd.prog 72 false 1 8 [.map none] := ty_of (z := .map none) Tryd.underlying72 rfl (by kernel_rfl) rfl rfl
theorem ty73 : Ty Tryd.prog 73 false 1 8 [.pointer none] := ty_of (z := .pointer none) Tryd.underlying73 rfl (by kernel_rfl) rfl rfl
theorem ty74 : Ty Tryd.prog 74 true 1 16 [str []] := ty_of (z := .agg ([str []]).toArray) Tryd.underlying74 rfl (by kernel_rfl) rfl rfl
theorem ty75 : Ty Tryd.prog 75 true 1 16 [str []] := ty_of (z := .agg ([str []]).toArray) Tryd.underlying75 rfl (by kernel_rfl) rfl rfl
theorem ty76 : Ty Tryd.prog 76 true 2 24 [str [], .int .i64 0] := ty_of (z := .agg ([str [], .int .i64 0]).toArray) Tryd.underlying76 rfl (by kernel_rfl) rfl rfl
theorem ty77 : Ty Tryd.prog 77 true 2 24 [str [], .int .i64 0] := ty_of (z := .agg ([str [], .int .i64 0]).toArray) Tryd.underlying77 rfl (by kernel_rfl) rfl rfl
theorem ty78 : Ty Tryd.prog 78 false 1 8 [.map none] := ty_of (z := .map none) Tryd.underlying78 rfl (by kernel_rfl) rfl rfl
theorem ty79 : Ty Tryd.prog 79 false 1 24 [.slice none 0 0] := ty_of (z := .slice none 0 0) Tryd.underlying79 rfl (by kernel_rfl) rfl rfl
theorem ty80 : Ty Tryd.prog 80 true 8 80 [.map none, .map none, .slice none 0 0, .int .i64 0, .int .i64 0, .int .i64 0, .int .i64 0, .int .i64 0] := ty_of (z := .agg ([.map none, .map none, .slice none 0 0, .int .i64 0, .int .i64 0, .int .i64 0, .int .i64 0, .int .i64 0]).toArray) Tryd.underlying80 rfl (by kernel_rfl) rfl rfl
theorem ty81 : Ty Tryd.prog 81 true 8 80 [.map none, .map none, .slice none 0 0, .int .i64 0, .int .i64 0, .int .i64 0, .int .i64 0, .int .i64 0] := ty_of (z := .agg ([.map none, .map none, .slice none 0 0, .int .i64 0, .int .i64 0, .int .i64 0, .int .i64 0, .int .i64 0]).toArray) Tryd.underlying81 rfl (by kernel_rfl) rfl rfl
theorem ty82 : Ty Tryd.prog 82 false 1 8 [.nilFunc] := ty_of (z := .nilFunc) Tryd.underlying82 rfl (by kernel_rfl) rfl rfl
theorem ty84 : Ty Tryd.prog 84 false 1 8 [.nilFunc] := ty_of (z := .nilFunc) Tryd.underlying84 rfl (by kernel_rfl) rfl rfl
theorem ty85 : Ty Tryd.prog 85 false 1 8 [.nilFunc] := ty_of (z := .nilFunc) Tryd.underlying85 rfl (by kernel_rfl) rfl rfl
theorem ty86 : Ty Tryd.prog 86 false 1 8 [.pointer none] := ty_of (z := .pointer none) Tryd.underlying86 rfl (by kernel_rfl) rfl rfl
theorem ty87 : Ty Tryd.prog 87 false 1 8 [.nilFunc] := ty_of (z := .nilFunc) Tryd.underlying87 rfl (by kernel_rfl) rfl rfl
theorem ty88 : Ty Tryd.prog 88 true 2 40 [str [], .slice none 0 0] := ty_of (z := .agg ([str [], .slice none 0 0]).toArray) Tryd.underlying88 rfl (by kernel_rfl) rfl rfl
theorem ty89 : Ty Tryd.prog 89 true 2 40 [str [], .slice none 0 0] := ty_of (z := .agg ([str [], .slice none 0 0]).toArray) Tryd.underlying89 rfl (by kernel_rfl) rfl rfl
theorem ty90 : Ty Tryd.prog 90 false 1 8 [.nilFunc] := ty_of (z := .nilFunc) Tryd.underlying90 rfl (by kernel_rfl) rfl rfl
theorem ty91 : Ty Tryd.prog 91 false 1 8 [.pointer none] := ty_of (z := .pointer none) Tryd.underlying91 rfl (by kernel_rfl) rfl rfl
theorem ty92 : Ty Tryd.prog 92 true 3 24 [.pointer none, .int .i64 0, .int .i64 0] := ty_of (z := .agg ([.pointer none, .int .i64 0, .int .i64 0]).toArray) Tryd.underlying92 rfl (by kernel_rfl) rfl rfl
theorem ty93 : Ty Tryd.prog 93 true 3 24 [.pointer none, .int .i64 0, .int .i64 0] := ty_of (z := .agg ([.pointer none, .int .i64 0, .int .i64 0]).toArray) Tryd.underlying93 rfl (by kernel_rfl) rfl rfl
theorem ty95 : Ty Tryd.prog 95 false 1 8 [.nilFunc] := ty_of (z := .nilFunc) Tryd.underlying95 rfl (by kernel_rfl) rfl rfl
theorem ty96 : Ty Tryd.prog 96 false 1 8 [.nilFunc] := ty_of (z := .nilFunc) Tryd.underlying96 rfl (by kernel_rfl) rfl rfl
theorem ty97 : Ty Tryd.prog 97 false 1 8 [.nilFunc] := ty_of (z := .nilFunc) Tryd.underlying97 rfl (by kernel_rfl) rfl rfl
theorem ty98 : Ty Tryd.prog 98 false 1 8 [.nilFunc] := ty_of (z := .nilFunc) Tryd.underlying98 rfl (by kernel_rfl) rfl rfl
theorem ty99 : Ty Tryd.prog 99 false 1 8 [.nilFunc] := ty_of (z := .nilFunc) Tryd.underlying99 rfl (by kernel_rfl) rfl rfl
theorem ty100 : Ty Tryd.prog 100 false 1 8 [.nilFunc] := ty_of (z := .nilFunc) Tryd.underlying100 rfl (by kernel_rfl) rfl rfl
theorem ty101 : Ty Tryd.prog 101 false 1 8 [.nilFunc] := ty_of (z := .nilFunc) Tryd.underlying101 rfl (by kernel_rfl) rfl rfl
theorem ty102 : Ty Tryd.prog 102 false 1 8 [.nilFunc] := ty_of (z := .nilFunc) Tryd.underlying102 rfl (by kernel_rfl) rfl rfl
theorem ty103 : Ty Tryd.prog 103 false 1 8 [.pointer none] := ty_of (z := .pointer none) Tryd.underlying103 rfl (by kernel_rfl) rfl rfl
theorem ty104 : Ty Tryd.prog 104 false 1 8 [.nilFunc] := ty_of (z := .nilFunc) Tryd.underlying104 rfl (by kernel_rfl) rfl rfl
theorem ty105 : Ty Tryd.prog 105 false 1 8 [.nilFunc] := ty_of (z := .nilFunc) Tryd.underlying105 rfl (by kernel_rfl) rfl rfl
theorem ty106 : Ty Tryd.prog 106 false 1 8 [.nilFunc] := ty_of (z := .nilFunc) Tryd.underlying106 rfl (by kernel_rfl) rfl rfl
theorem ty107 : Ty Tryd.prog 107 false 1 8 [.nilFunc] := ty_of (z := .nilFunc) Tryd.underlying107 rfl (by kernel_rfl) rfl rfl
theorem ty108 : Ty Tryd.prog 108 false 1 8 [.nilFunc] := ty_of (z := .nilFunc) Tryd.underlying108 rfl (by kernel_rfl) rfl rfl
theorem ty109 : Ty Tryd.prog 109 false 1 8 [.map none] := ty_of (z := .map none) Tryd.underlying109 rfl (by kernel_rfl) rfl rfl
theorem ty111 : Ty Tryd.prog 111 false 1 8 [.nilFunc] := ty_of (z := .nilFunc) Tryd.underlying111 rfl (by kernel_rfl) rfl rfl
theorem ty113 : Ty Tryd.prog 113 false 1 8 [.nilFunc] := ty_of (z := .nilFunc) Tryd.underlying113 rfl (by kernel_rfl) rfl rfl
theorem ty114 : Ty Tryd.prog 114 false 1 8 [.nilFunc] := ty_of (z := .nilFunc) Tryd.underlying114 rfl (by kernel_rfl) rfl rfl
theorem ty115 : Ty Tryd.prog 115 false 1 8 [.nilFunc] := ty_of (z := .nilFunc) Tryd.underlying115 rfl (by kernel_rfl) rfl rfl
theorem ty116 : Ty Tryd.prog 116 false 1 8 [.nilFunc] := ty_of (z := .nilFunc) Tryd.underlying116 rfl (by kernel_rfl) rfl rfl
theorem ty117 : Ty Tryd.prog 117 false 1 8 [.int .u64 0] := ty_of (z := .int .u64 0) Tryd.underlying117 rfl (by kernel_rfl) rfl rfl
theorem ty118 : Ty Tryd.prog 118 false 1 8 [.nilFunc] := ty_of (z := .nilFunc) Tryd.underlying118 rfl (by kernel_rfl) rfl rfl
theorem ty119 : Ty Tryd.prog 119 false 1 8 [.nilFunc] := ty_of (z := .nilFunc) Tryd.underlying119 rfl (by kernel_rfl) rfl rfl
theorem ty120 : Ty Tryd.prog 120 false 1 8 [.nilFunc] := ty_of (z := .nilFunc) Tryd.underlying120 rfl (by kernel_rfl) rfl rfl
theorem ty121 : Ty Tryd.prog 121 false 1 8 [.nilFunc] := ty_of (z := .nilFunc) Tryd.underlying121 rfl (by kernel_rfl) rfl rfl
theorem ty122 : Ty Tryd.prog 122 false 1 8 [.nilFunc] := ty_of (z := .nilFunc) Tryd.underlying122 rfl (by kernel_rfl) rfl rfl
theorem ty123 : Ty Tryd.prog 123 false 1 8 [.pointer none] := ty_of (z := .pointer none) Tryd.underlying123 rfl (by kernel_rfl) rfl rfl
theorem ty124 : Ty Tryd.prog 124 true 2 32 [.pointer none, .slice none 0 0] := ty_of (z := .agg ([.pointer none, .slice none 0 0]).toArray) Tryd.underlying124 rfl (by kernel_rfl) rfl rfl
theorem ty125 : Ty Tryd.prog 125 true 2 32 [.pointer none, .slice none 0 0] := ty_of (z := .agg ([.pointer none, .slice none 0 0]).toArray) Tryd.underlying125 rfl (by kernel_rfl) rfl rfl
theorem ty126 : Ty Tryd.prog 126 false 1 8 [.nilFunc] := ty_of (z := .nilFunc) Tryd.underlying126 rfl (by kernel_rfl) rfl rfl
theorem ty127 : Ty Tryd.prog 127 false 1 16 [.nilIface] := ty_of (z := .nilIface) Tryd.underlying127 rfl (by kernel_rfl) rfl rfl
theorem ty128 : Ty Tryd.prog 128 false 1 16 [.nilIface] := ty_of (z := .nilIface) Tryd.underlying128 rfl (by kernel_rfl) rfl rfl
theorem ty130 : Ty Tryd.prog 130 false 1 8 [.nilFunc] := ty_of (z := .nilFunc) Tryd.underlying130 rfl (by kernel_rfl) rfl rfl
theorem ty131 : Ty Tryd.prog 131 false 1 8 [.nilFunc] := ty_of (z := .nilFunc) Tryd.underlying131 rfl (by kernel_rfl) rfl rfl
theorem ty132 : Ty Tryd.prog 132 false 1 8 [.int .i64 0] := ty_of (z := .int .i64 0) Tryd.underlying132 rfl (by kernel_rfl) rfl rfl
theorem ty134 : Ty Tryd.prog 134 false 1 8 [.nilFunc] := ty_of (z := .nilFunc) Tryd.underlying134 rfl (by kernel_rfl) rfl rfl
theorem ty135 : Ty Tryd.prog 135 false 1 8 [.nilFunc] := ty_of (z := .nilFunc) Tryd.underlying135 rfl (by kernel_rfl) rfl rfl
theorem ty136 : Ty Tryd.prog 136 false 1 8 [.nilFunc] := ty_of (z := .nilFunc) Tryd.underlying136 rfl (by kernel_rfl) rfl rfl
theorem ty137 : Ty Tryd.prog 137 false 1 8 [.nilFunc] := ty_of (z := .nilFunc) Tryd.underlying137 rfl (by kernel_rfl) rfl rfl
theorem ty138 : Ty Tryd.prog 138 false 1 8 [.nilFunc] := ty_of (z := .nilFunc) Tryd.underlying138 rfl (by kernel_rfl) rfl rfl
theorem ty139 : Ty Tryd.prog 139 false 1 4 [.int .u32 0] := ty_of (z := .int .u32 0) Tryd.underlying139 rfl (by kernel_rfl) rfl rfl
theorem ty140 : Ty Tryd.prog 140 false 1 8 [.nilFunc] := ty_of (z := .nilFunc) Tryd.underlying140 rfl (by kernel_rfl) rfl rfl
theorem ty141 : Ty Tryd.prog 141 false 1 8 [.int .u64 0] := ty_of (z := .int .u64 0) Tryd.underlying141 rfl (by kernel_rfl) rfl rfl
theorem ty142 : Ty Tryd.prog 142 false 1 8 [.nilFunc] := ty_of (z := .nilFunc) Tryd.underlying142 rfl (by kernel_rfl) rfl rfl
theorem ty143 : Ty Tryd.prog 143 false 1 8 [.pointer none] := ty_of (z := .pointer none) Tryd.underlying143 rfl (by kernel_rfl) rfl rfl
theorem ty144 : Ty Tryd.prog 144 false 1 8 [.int .u64 0] := ty_of (z := .int .u64 0) Tryd.underlying144 rfl (by kernel_rfl) rfl rfl
theorem ty145 : Ty Tryd.prog 145 false 1 8 [.nilFunc] := ty_of (z := .nilFunc) Tryd.underlying145 rfl (by kernel_rfl) rfl rfl
theorem ty146 : Ty Tryd.prog 146 false 1 8 [.nilFunc] := ty_of (z := .nilFunc) Tryd.underlying146 rfl (by kernel_rfl) rfl rfl
theorem ty147 : Ty Tryd.prog 147 false 1 8 [.nilFunc] := ty_of (z := .nilFunc) Tryd.underlying147 rfl (by kernel_rfl) rfl rfl
theorem ty148 : Ty Tryd.prog 148 false 1 8 [.pointer none] := ty_of (z := .pointer none) Tryd.underlying148 rfl (by kernel_rfl) rfl rfl
theorem ty149 : Ty Tryd.prog 149 false 1 8 [.nilFunc] := ty_of (z := .nilFunc) Tryd.underlying149 rfl (by kernel_rfl) rfl rfl
theorem ty150 : Ty Tryd.prog 150 false 1 8 [.nilFunc] := ty_of (z := .nilFunc) Tryd.underlying150 rfl (by kernel_rfl) rfl rfl
theorem ty151 : Ty Tryd.prog 151 false 1 8 [.nilFunc] := ty_of (z := .nilFunc) Tryd.underlying151 rfl (by kernel_rfl) rfl rfl
theorem ty152 : Ty Tryd.prog 152 false 1 8 [.nilFunc] := ty_of (z := .nilFunc) Tryd.underlying152 rfl (by kernel_rfl) rfl rfl
theorem ty153 : Ty Tryd.prog 153 true 256 256 (List.replicate 256 (Value.bool false)) := ty_of (z := .agg ((List.replicate 256 (Value.bool false))).toArray) Tryd.underlying153 rfl (by kernel_rfl) rfl rfl
theorem ty154 : Ty Tryd.prog 154 true 256 256 (List.replicate 256 (Value.bool false)) := ty_of (z := .agg ((List.replicate 256 (Value.bool false))).toArray) Tryd.underlying154 rfl (by kernel_rfl) rfl rfl
theorem ty156 : Ty Tryd.prog 156 false 1 8 [.nilFunc] := ty_of (z := .nilFunc) Tryd.underlying156 rfl (by kernel_rfl) rfl rfl
theorem ty157 : Ty Tryd.prog 157 false 1 8 [.nilFunc] := ty_of (z := .nilFunc) Tryd.underlying157 rfl (by kernel_rfl) rfl rfl
theorem ty159 : Ty Tryd.prog 159 false 1 8 [.nilFunc] := ty_of (z := .nilFunc) Tryd.underlying159 rfl (by kernel_rfl) rfl rfl
theorem ty160 : Ty Tryd.prog 160 false 1 8 [.nilFunc] := ty_of (z := .nilFunc) Tryd.underlying160 rfl (by kernel_rfl) rfl rfl
theorem ty161 : Ty Tryd.prog 161 false 1 8 [.pointer none] := ty_of (z := .pointer none) Tryd.underlying161 rfl (by kernel_rfl) rfl rfl
theorem ty163 : Ty Tryd.prog 163 false 1 8 [.nilFunc] := ty_of (z := .nilFunc) Tryd.underlying163 rfl (by kernel_rfl) rfl rfl
theorem ty164 : Ty Tryd.prog 164 false 1 8 [.nilFunc] := ty_of (z := .nilFunc) Tryd.underlying164 rfl (by kernel_rfl) rfl rfl
theorem ty166 : Ty Tryd.prog 166 false 1 8 [.nilFunc] := ty_of (z := .nilFunc) Tryd.underlying166 rfl (by kernel_rfl) rfl rfl
theorem ty167 : Ty Tryd.prog 167 false 1 8 [.nilFunc] := ty_of (z := .nilFunc) Tryd.underlying167 rfl (by kernel_rfl) rfl rfl
theorem ty168 : Ty Tryd.prog 168 false 1 8 [.nilFunc] := ty_of (z := .nilFunc) Tryd.underlying168 rfl (by kernel_rfl) rfl rfl
theorem ty169 : Ty Tryd.prog 169 false 1 8 [.pointer none] := ty_of (z := .pointer none) Tryd.underlying169 rfl (by kernel_rfl) rfl rfl
theorem ty170 : Ty Tryd.prog 170 true 256 256 (List.replicate 256 (Value.int .u8 0)) := ty_of (z := .agg ((List.replicate 256 (Value.int .u8 0))).toArray) Tryd.underlying170 rfl (by kernel_rfl) rfl rfl
theorem ty171 : Ty Tryd.prog 171 true 2 2 [.int .u8 0, .int .u8 0] := ty_of (z := .agg ([.int .u8 0, .int .u8 0]).toArray) Tryd.underlying171 rfl (by kernel_rfl) rfl rfl
theorem ty172 : Ty Tryd.prog 172 true 2 2 [.int .u8 0, .int .u8 0] := ty_of (z := .agg ([.int .u8 0, .int .u8 0]).toArray) Tryd.underlying172 rfl (by kernel_rfl) rfl rfl
theorem ty173 : Ty Tryd.prog 173 true 32 32 (List.replicate 32 (Value.int .u8 0)) := ty_of (z := .agg ((List.replicate 32 (Value.int .u8 0))).toArray) Tryd.underlying173 rfl (by kernel_rfl) rfl rfl
theorem ty175 : Ty Tryd.prog 175 false 1 8 [.nilFunc] := ty_of (z := .nilFunc) Tryd.underlying175 rfl (by kernel_rfl) rfl rfl
theorem ty176 : Ty Tryd.prog 176 true 4 40 [.pointer none, .pointer none, .pointer none, str []] := ty_of (z := .agg ([.pointer none, .pointer none, .pointer none, str []]).toArray) Tryd.underlying176 rfl (by kernel_rfl) rfl rfl
theorem ty177 : Ty Tryd.prog 177 true 4 40 [.pointer none, .pointer none, .pointer none, str []] := ty_of (z := .agg ([.pointer none, .pointer none, .pointer none, str []]).toArray) Tryd.underlying177 rfl (by kernel_rfl) rfl rfl
theorem ty178 : Ty Tryd.prog 178 true 0 0 [] := ty_of (z := .agg ([]).toArray) Tryd.underlying178 rfl (by kernel_rfl) rfl rfl
theorem ty179 : Ty Tryd.prog 179 true 0 0 [] := ty_of (z := .agg ([]).toArray) Tryd.underlying179 rfl (by kernel_rfl) rfl rfl
theorem ty180 : Ty Tryd.prog 180 true 0 0 [] := ty_of (z := .agg ([]).toArray) Tryd.underlying180 rfl (by kernel_rfl) rfl rfl
theorem ty181 : Ty Tryd.prog 181 false 1 1 [.int .u8 0] := ty_of (z := .int .u8 0) Tryd.underlying181 rfl (by kernel_rfl) rfl rfl
theorem ty182 : Ty Tryd.prog 182 false 1 1 [.int .u8 0] := ty_of (z := .int .u8 0) Tryd.underlying182 rfl (by kernel_rfl) rfl rfl
theorem ty183 : Ty Tryd.prog 183 false 1 8 [.nilFunc] := ty_of (z := .nilFunc) Tryd.underlying183 rfl (by kernel_rfl) rfl rfl
theorem ty184 : Ty Tryd.prog 184 false 1 4 [.int .i32 0] := ty_of (z := .int .i32 0) Tryd.underlying184 rfl (by kernel_rfl) rfl rfl
theorem ty185 : Ty Tryd.prog 185 false 1 4 [.int .i32 0] := ty_of (z := .int .i32 0) Tryd.underlying185 rfl (by kernel_rfl) rfl rfl
theorem ty186 : Ty Tryd.prog 186 true 11 48 ([Value.int .u64 0, Value.int .u64 0, Value.int .u32 0, Value.int .u8 0, Value.int .u8 0, Value.int .u8 0, Value.int .u8 0, Value.nilFunc, Value.pointer none, Value.int .i32 0, Value.int .i32 0]) := ty_of (z := .agg (([Value.int .u64 0, Value.int .u64 0, Value.int .u32 0, Value.int .u8 0, Value.int .u8 0, Value.int .u8 0, Value.int .u8 0, Value.nilFunc, Value.pointer none, Value.int .i32 0, Value.int .i32 0])).toArray) Tryd.underlying186 rfl (by kernel_rfl) rfl rfl
theorem ty187 : Ty Tryd.prog 187 true 11 48 ([Value.int .u64 0, Value.int .u64 0, Value.int .u32 0, Value.int .u8 0, Value.int .u8 0, Value.int .u8 0, Value.int .u8 0, Value.nilFunc, Value.pointer none, Value.int .i32 0, Value.int .i32 0]) := ty_of (z := .agg (([Value.int .u64 0, Value.int .u64 0, Value.int .u32 0, Value.int .u8 0, Value.int .u8 0, Value.int .u8 0, Value.int .u8 0, Value.nilFunc, Value.pointer none, Value.int .i32 0, Value.int .i32 0])).toArray) Tryd.underlying187 rfl (by kernel_rfl) rfl rfl
theorem en2 : En Tryd.prog 2 := ⟨Tryd.f2, Tryd.func2, rfl, by kernel_rfl⟩
theorem en3 : En Tryd.prog 3 := ⟨Tryd.f3, Tryd.func3, rfl, by kernel_rfl⟩
theorem en4 : En Tryd.prog 4 := ⟨Tryd.f4, Tryd.func4, rfl, by kernel_rfl⟩
theorem en5 : En Tryd.prog 5 := ⟨Tryd.f5, Tryd.func5, rfl, by kernel_rfl⟩
theorem en6 : En Tryd.prog 6 := ⟨Tryd.f6, Tryd.func6, rfl, by kernel_rfl⟩
theorem en7 : En Tryd.prog 7 := ⟨Tryd.f7, Tryd.func7, rfl, by kernel_rfl⟩
theorem en8 : En Tryd.prog 8 := ⟨Tryd.f8, Tryd.func8, rfl, by kernel_rfl⟩
theorem en9 : En Tryd.prog 9 := ⟨Tryd.f9, Tryd.func9, rfl, by kernel_rfl⟩
theorem en10 : En Tryd.prog 10 := ⟨Tryd.f10, Tryd.func10, rfl, by kernel_rfl⟩
theorem en11 : En Tryd.prog 11 := ⟨Tryd.f11, Tryd.func11, rfl, by kernel_rfl⟩
theorem en12 : En Tryd.prog 12 := ⟨Tryd.f12, Tryd.func12, rfl, by kernel_rfl⟩
theorem en13 : En Tryd.prog 13 := ⟨Tryd.f13, Tryd.func13, rfl, by kernel_rfl⟩
theorem en14 : En Tryd.prog 14 := ⟨Tryd.f14, Tryd.func14, rfl, by kernel_rfl⟩
theorem en15 : En Tryd.prog 15 := ⟨Tryd.f15, Tryd.func15, rfl, by kernel_rfl⟩
theorem en16 : En Tryd.prog 16 := ⟨Tryd.f16, Tryd.func16, rfl, by kernel_rfl⟩
theorem en17 : En Tryd.prog 17 := ⟨Tryd.f17, Tryd.func17, rfl, by kernel_rfl⟩
theorem en18 : En Tryd.prog 18 := ⟨Tryd.f18, Tryd.func18, rfl, by kernel_rfl⟩
theorem en19 : En Tryd.prog 19 := ⟨Tryd.f19, Tryd.func19, rfl, by kernel_rfl⟩
theorem en20 : En Tryd.prog 20 := ⟨Tryd.f20, Tryd.func20, rfl, by kernel_rfl⟩
theorem en21 : En Tryd.prog 21 := ⟨Tryd.f21, Tryd.func21, rfl, by kernel_rfl⟩
theorem en22 : En Tryd.prog 22 := ⟨Tryd.f22, Tryd.func22, rfl, by kernel_rfl⟩
theorem en23 : En Tryd.prog 23 := ⟨Tryd.f23, Tryd.func23, rfl, by kernel_rfl⟩
theorem en24 : En Tryd.prog 24 := ⟨Tryd.f24, Tryd.func24, rfl, by kernel_rfl⟩
theorem en25 : En Tryd.prog 25 := ⟨Tryd.f25, Tryd.func25, rfl, by kernel_rfl⟩
theorem en26 : En Tryd.prog 26 := ⟨Tryd.f26, Tryd.func26, rfl, by kernel_rfl⟩
theorem en27 : En Tryd.prog 27 := ⟨Tryd.f27, Tryd.func27, rfl, by kernel_rfl⟩
theorem en28 : En Tryd.prog 28 := ⟨Tryd.f28, Tryd.func28, rfl, by kernel_rfl⟩
theorem en29 : En Tryd.prog 29 := ⟨Tryd.f29, Tryd.func29, rfl, by kernel_rfl⟩
theorem en30 : En Tryd.prog 30 := ⟨Tryd.f30, Tryd.func30, rfl, by kernel_rfl⟩
theorem en31 : En Tryd.prog 31 := ⟨Tryd.f31, Tryd.func31, rfl, by kernel_rfl⟩
theorem en32 : En Tryd.prog 32 := ⟨Tryd.f32, Tryd.func32, rfl, by kernel_rfl⟩
theorem en33 : En Tryd.prog 33 := ⟨Tryd.f33, Tryd.func33, rfl, by kernel_rfl⟩
theorem en34 : En Tryd.prog 34 := ⟨Tryd.f34, Tryd.func34, rfl, by kernel_rfl⟩
theorem en35 : En Tryd.prog 35 := ⟨Tryd.f35, Tryd.func35, rfl, by kernel_rfl⟩
theorem en36 : En Tryd.prog 36 := ⟨Tryd.f36, Tryd.func36, rfl, by kernel_rfl⟩
theorem en37 : En Tryd.prog 37 := ⟨Tryd.f37, Tryd.func37, rfl, by kernel_rfl⟩
theorem en38 : En Tryd.prog 38 := ⟨Tryd.f38, Tryd.func38, rfl, by kernel_rfl⟩
theorem en39 : En Tryd.prog 39 := ⟨Tryd.f39, Tryd.func39, rfl, by kernel_rfl⟩
theorem en40 : En Tryd.prog 40 := ⟨Tryd.f40, Tryd.func40, rfl, by kernel_rfl⟩
theorem en41 : En Tryd.prog 41 := ⟨Tryd.f41, Tryd.func41, rfl, by kernel_rfl⟩
theorem en42 : En Tryd.prog 42 := ⟨Tryd.f42, Tryd.func42, rfl, by kernel_rfl⟩
theorem en43 : En Tryd.prog 43 := ⟨Tryd.f43, Tryd.func43, rfl, by kernel_rfl⟩
theorem en44 : En Tryd.prog 44 := ⟨Tryd.f44, Tryd.func44, rfl, by kernel_rfl⟩
theorem en45 : En Tryd.prog 45 := ⟨Tryd.f45, Tryd.func45, rfl, by kernel_rfl⟩
theorem en46 : En Tryd.prog 46 := ⟨Tryd.f46, Tryd.func46, rfl, by kernel_rfl⟩
theorem en47 : En Tryd.prog 47 := ⟨Tryd.f47, Tryd.func47, rfl, by kernel_rfl⟩
theorem en48 : En Tryd.prog 48 := ⟨Tryd.f48, Tryd.func48, rfl, by kernel_rfl⟩
theorem en49 : En Tryd.prog 49 := ⟨Tryd.f49, Tryd.func49, rfl, by kernel_rfl⟩
theorem en50 : En Tryd.prog 50 := ⟨Tryd.f50, Tryd.func50, rfl, by kernel_rfl⟩
theorem en51 : En Tryd.prog 51 := ⟨Tryd.f51, Tryd.func51, rfl, by kernel_rfl⟩
theorem en52 : En Tryd.prog 52 := ⟨Tryd.f52, Tryd.func52, rfl, by kernel_rfl⟩
theorem en53 : En Tryd.prog 53 := ⟨Tryd.f53, Tryd.func53, rfl, by kernel_rfl⟩
theorem en54 : En Tryd.prog 54 := ⟨Tryd.f54, Tryd.func54, rfl, by kernel_rfl⟩
theorem en55 : En Tryd.prog 55 := ⟨Tryd.f55, Tryd.func55, rfl, by kernel_rfl⟩
theorem en56 : En Tryd.prog 56 := ⟨Tryd.f56, Tryd.func56, rfl, by kernel_rfl⟩
theorem en57 : En Tryd.prog 57 := ⟨Tryd.f57, Tryd.func57, rfl, by kernel_rfl⟩
theorem en58 : En Tryd.prog 58 := ⟨Tryd.f58, Tryd.func58, rfl, by kernel_rfl⟩
theorem en59 : En Tryd.prog 59 := ⟨Tryd.f59, Tryd.func59, rfl, by kernel_rfl⟩
theorem en60 : En Tryd.prog 60 := ⟨Tryd.f60, Tryd.func60, rfl, by kernel_rfl⟩
theorem en61 : En Tryd.prog 61 := ⟨Tryd.f61, Tryd.func61, rfl, by kernel_rfl⟩
theorem en62 : En Tryd.prog 62 := ⟨Tryd.f62, Tryd.func62, rfl, by kernel_rfl⟩
theorem en63 : En Tryd.prog 63 := ⟨Tryd.f63, Tryd.func63, rfl, by kernel_rfl⟩
theorem en64 : En Tryd.prog 64 := ⟨Tryd.f64, Tryd.func64, rfl, by kernel_rfl⟩
theorem en65 : En Tryd.prog 65 := ⟨Tryd.f65, Tryd.func65, rfl, by kernel_rfl⟩
theorem en66 : En Tryd.prog 66 := ⟨Tryd.f66, Tryd.func66, rfl, by kernel_rfl⟩
theorem en67 : En Tryd.prog 67 := ⟨Tryd.f67, Tryd.func67, rfl, by kernel_rfl⟩
theorem en68 : En Tryd.prog 68 := ⟨Tryd.f68, Tryd.func68, rfl, by kernel_rfl⟩
theorem en69 : En Tryd.prog 69 := ⟨Tryd.f69, Tryd.func69, rfl, by kernel_rfl⟩
theorem en70 : En Tryd.prog 70 := ⟨Tryd.f70, Tryd.func70, rfl, by kernel_rfl⟩
theorem en71 : En Tryd.prog 71 := ⟨Tryd.f71, Tryd.func71, rfl, by kernel_rfl⟩
theorem en72 : En Tryd.prog 72 := ⟨Tryd.f72, Tryd.func72, rfl, by kernel_rfl⟩
theorem en73 : En Tryd.prog 73 := ⟨Tryd.f73, Tryd.func73, rfl, by kernel_rfl⟩
theorem en74 : En Tryd.prog 74 := ⟨Tryd.f74, Tryd.func74, rfl, by kernel_rfl⟩
theorem en75 : En Tryd.prog 75 := ⟨Tryd.f75, Tryd.func75, rfl, by kernel_rfl⟩
theorem en76 : En Tryd.prog 76 := ⟨Tryd.f76, Tryd.func76, rfl, by kernel_rfl⟩
theorem en77 : En Tryd.prog 77 := ⟨Tryd.f77, Tryd.func77, rfl, by kernel_rfl⟩
theorem en78 : En Tryd.prog 78 := ⟨Tryd.f78, Tryd.func78, rfl, by kernel_rfl⟩
theorem en79 : En Tryd.prog 79 := ⟨Tryd.f79, Tryd.func79, rfl, by kernel_rfl⟩
theorem en80 : En Tryd.prog 80 := ⟨Tryd.f80, Tryd.func80, rfl, by kernel_rfl⟩
theorem en81 : En Tryd.prog 81 := ⟨Tryd.f81, Tryd.func81, rfl, by kernel_rfl⟩
theorem en82 : En Tryd.prog 82 := ⟨Tryd.f82, Tryd.func82, rfl, by kernel_rfl⟩
theorem en83 : En Tryd.prog 83 := ⟨Tryd.f83, Tryd.func83, rfl, by kernel_rfl⟩
theorem en84 : En Tryd.prog 84 := ⟨Tryd.f84, Tryd.func84, rfl, by kernel_rfl⟩
theorem en85 : En Tryd.prog 85 := ⟨Tryd.f85, Tryd.func85, rfl, by kernel_rfl⟩
theorem en86 : En Tryd.prog 86 := ⟨Tryd.f86, Tryd.func86, rfl, by kernel_rfl⟩
theorem en87 : En Tryd.prog 87 := ⟨Tryd.f87, Tryd.func87, rfl, by kernel_rfl⟩
theorem en88 : En Tryd.prog 88 := ⟨Tryd.f88, Tryd.func88, rfl, by kernel_rfl⟩
theorem en89 : En Tryd.prog 89 := ⟨Tryd.f89, Tryd.func89, rfl, by kernel_rfl⟩
theorem en90 : En Tryd.prog 90 := ⟨Tryd.f90, Tryd.func90, rfl, by kernel_rfl⟩
theorem en91 : En Tryd.prog 91 := ⟨Tryd.f91, Tryd.func91, rfl, by kernel_rfl⟩
theorem en92 : En Tryd.prog 92 := ⟨Tryd.f92, Tryd.func92, rfl, by kernel_rfl⟩
theorem en93 : En Tryd.prog 93 := ⟨Tryd.f93, Tryd.func93, rfl, by kernel_rfl⟩
theorem en94 : En Tryd.prog 94 := ⟨Tryd.f94, Tryd.func94, rfl, by kernel_rfl⟩
theorem en97 : En Tryd.prog 97 := ⟨Tryd.f97, Tryd.func97, rfl, by kernel_rfl⟩
theorem en98 : En Tryd.prog 98 := ⟨Tryd.f98, Tryd.func98, rfl, by kernel_rfl⟩
theorem en99 : En Tryd.prog 99 := ⟨Tryd.f99, Tryd.func99, rfl, by kernel_rfl⟩
theorem en101 : En Tryd.prog 101 := ⟨Tryd.f101, Tryd.func101, rfl, by kernel_rfl⟩
theorem en102 : En Tryd.prog 102 := ⟨Tryd.f102, Tryd.func102, rfl, by kernel_rfl⟩
theorem en103 : En Tryd.prog 103 := ⟨Tryd.f103, Tryd.func103, rfl, by kernel_rfl⟩
theorem en104 : En Tryd.prog 104 := ⟨Tryd.f104, Tryd.func104, rfl, by kernel_rfl⟩
theorem en106 : En Tryd.prog 106 := ⟨Tryd.f106, Tryd.func106, rfl, by kernel_rfl⟩
theorem en107 : En Tryd.prog 107 := ⟨Tryd.f107, Tryd.func107, rfl, by kernel_rfl⟩
theorem en108 : En Tryd.prog 108 := ⟨Tryd.f108, Tryd.func108, rfl, by kernel_rfl⟩
theorem en110 : En Tryd.prog 110 := ⟨Tryd.f110, Tryd.func110, rfl, by kernel_rfl⟩
theorem en133 : En Tryd.prog 133 := ⟨Tryd.f133, Tryd.func133, rfl, by kernel_rfl⟩
theorem mixedP : Tryd.prog.follows .mixedOrders = true := by kernel_rfl
end Go.Gx
