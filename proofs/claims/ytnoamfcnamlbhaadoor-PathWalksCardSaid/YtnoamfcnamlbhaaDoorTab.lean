/- The tables of this seat: its types, its functions: closed facts. -/
import Derived.Test.YtnoamfcnamlbhaaDoorEff
import Derived.Test.YtnoamfcnamlbhaaDoorProg
namespace Go.Gx
open Go.Proofs
set_option maxRecDepth 100000
theorem ty2 : Ty Tryd.prog 2 false 1 8 [.int .i64 0] := ty_of (z := .int .i64 0) Tryd.underlying2 rfl (by kernel_rfl) rfl rfl
theorem ty3 : Ty Tryd.prog 3 false 1 8 [.int .i64 0] := ty_of (z := .int .i64 0) Tryd.underlying3 rfl (by kernel_rfl) rfl rfl
theorem ty4 : Ty Tryd.prog 4 false 1 1 [.bool false] := ty_of (z := .bool false) Tryd.underlying4 rfl (by kernel_rfl) rfl rfl
theorem ty5 : Ty Tryd.prog 5 false 1 1 [.int .u8 0] := ty_of (z := .int .u8 0) Tryd.underlying5 rfl (by kernel_rfl) rfl rfl
theorem ty6 : Ty Tryd.prog 6 false 1 1 [.int .u8 0] := ty_of (z := .int .u8 0) Tryd.underlying6 rfl (by kernel_rfl) rfl rfl
theorem ty7 : Ty Tryd.prog 7 true 4 24 [.int .i64 0, .int .i64 0, .bool false, .int .u8 0] := ty_of (z := .agg ([.int .i64 0, .int .i64 0, .bool false, .int .u8 0]).toArray) Tryd.underlying7 rfl (by kernel_rfl) rfl rfl
theorem ty8 : Ty Tryd.prog 8 true 4 24 [.int .i64 0, .int .i64 0, .bool false, .int .u8 0] := ty_of (z := .agg ([.int .i64 0, .int .i64 0, .bool false, .int .u8 0]).toArray) Tryd.underlying8 rfl (by kernel_rfl) rfl rfl
theorem ty9 : Ty Tryd.prog 9 false 1 16 [str []] := ty_of (z := str []) Tryd.underlying9 rfl (by kernel_rfl) rfl rfl
theorem ty10 : Ty Tryd.prog 10 false 1 16 [str []] := ty_of (z := str []) Tryd.underlying10 rfl (by kernel_rfl) rfl rfl
theorem ty11 : Ty Tryd.prog 11 false 1 16 [str []] := ty_of (z := str []) Tryd.underlying11 rfl (by kernel_rfl) rfl rfl
theorem ty12 : Ty Tryd.prog 12 false 1 8 [.int .u64 0] := ty_of (z := .int .u64 0) Tryd.underlying12 rfl (by kernel_rfl) rfl rfl
theorem ty13 : Ty Tryd.prog 13 true 2 24 [str [], .int .u64 0] := ty_of (z := .agg ([str [], .int .u64 0]).toArray) Tryd.underlying13 rfl (by kernel_rfl) rfl rfl
theorem ty14 : Ty Tryd.prog 14 true 2 24 [str [], .int .u64 0] := ty_of (z := .agg ([str [], .int .u64 0]).toArray) Tryd.underlying14 rfl (by kernel_rfl) rfl rfl
theorem ty15 : Ty Tryd.prog 15 false 1 8 [.pointer none] := ty_of (z := .pointer none) Tryd.underlying15 rfl (by kernel_rfl) rfl rfl
theorem ty16 : Ty Tryd.prog 16 false 1 8 [.pointer none] := ty_of (z := .pointer none) Tryd.underlying16 rfl (by kernel_rfl) rfl rfl
theorem ty17 : Ty Tryd.prog 17 false 1 8 [.pointer none] := ty_of (z := .pointer none) Tryd.underlying17 rfl (by kernel_rfl) rfl rfl
theorem ty18 : Ty Tryd.prog 18 true 1 8 [.pointer none] := ty_of (z := .agg ([.pointer none]).toArray) Tryd.underlying18 rfl (by kernel_rfl) rfl rfl
theorem ty19 : Ty Tryd.prog 19 true 1 8 [.pointer none] := ty_of (z := .agg ([.pointer none]).toArray) Tryd.underlying19 rfl (by kernel_rfl) rfl rfl
theorem ty21 : Ty Tryd.prog 21 false 1 4 [.int .i32 0] := ty_of (z := .int .i32 0) Tryd.underlying21 rfl (by kernel_rfl) rfl rfl
theorem ty23 : Ty Tryd.prog 23 false 1 8 [.int .i64 0] := ty_of (z := .int .i64 0) Tryd.underlying23 rfl (by kernel_rfl) rfl rfl
theorem ty34 : Ty Tryd.prog 34 false 1 24 [.slice none 0 0] := ty_of (z := .slice none 0 0) Tryd.underlying34 rfl (by kernel_rfl) rfl rfl
theorem ty55 : Ty Tryd.prog 55 false 1 24 [.slice none 0 0] := ty_of (z := .slice none 0 0) Tryd.underlying55 rfl (by kernel_rfl) rfl rfl
theorem ty56 : Ty Tryd.prog 56 false 1 24 [.slice none 0 0] := ty_of (z := .slice none 0 0) Tryd.underlying56 rfl (by kernel_rfl) rfl rfl
theorem ty62 : Ty Tryd.prog 62 false 1 8 [.pointer none] := ty_of (z := .pointer none) Tryd.underlying62 rfl (by kernel_rfl) rfl rfl
theorem ty63 : Ty Tryd.prog 63 false 1 24 [.slice none 0 0] := ty_of (z := .slice none 0 0) Tryd.underlying63 rfl (by kernel_rfl) rfl rfl
theorem ty64 : Ty Tryd.prog 64 true 2 32 [.pointer none, .slice none 0 0] := ty_of (z := .agg ([.pointer none, .slice none 0 0]).toArray) Tryd.underlying64 rfl (by kernel_rfl) rfl rfl
theorem ty65 : Ty Tryd.prog 65 true 2 32 [.pointer none, .slice none 0 0] := ty_of (z := .agg ([.pointer none, .slice none 0 0]).toArray) Tryd.underlying65 rfl (by kernel_rfl) rfl rfl
theorem ty73 : Ty Tryd.prog 73 false 1 8 [.pointer none] := ty_of (z := .pointer none) Tryd.underlying73 rfl (by kernel_rfl) rfl rfl
theorem ty76 : Ty Tryd.prog 76 true 256 256 (List.replicate 256 (Value.bool false)) := ty_of (z := .agg ((List.replicate 256 (Value.bool false))).toArray) Tryd.underlying76 rfl (by kernel_rfl) rfl rfl
theorem ty77 : Ty Tryd.prog 77 true 256 256 (List.replicate 256 (Value.bool false)) := ty_of (z := .agg ((List.replicate 256 (Value.bool false))).toArray) Tryd.underlying77 rfl (by kernel_rfl) rfl rfl
theorem ty87 : Ty Tryd.prog 87 false 1 8 [.int .u64 0] := ty_of (z := .int .u64 0) Tryd.underlying87 rfl (by kernel_rfl) rfl rfl
theorem ty88 : Ty Tryd.prog 88 false 1 8 [.pointer none] := ty_of (z := .pointer none) Tryd.underlying88 rfl (by kernel_rfl) rfl rfl
theorem ty91 : Ty Tryd.prog 91 false 1 4 [.int .u32 0] := ty_of (z := .int .u32 0) Tryd.underlying91 rfl (by kernel_rfl) rfl rfl
theorem ty94 : Ty Tryd.prog 94 true 256 256 (List.replicate 256 (Value.int .u8 0)) := ty_of (z := .agg ((List.replicate 256 (Value.int .u8 0))).toArray) Tryd.underlying94 rfl (by kernel_rfl) rfl rfl
theorem ty95 : Ty Tryd.prog 95 true 2 2 [.int .u8 0, .int .u8 0] := ty_of (z := .agg ([.int .u8 0, .int .u8 0]).toArray) Tryd.underlying95 rfl (by kernel_rfl) rfl rfl
theorem ty96 : Ty Tryd.prog 96 true 2 2 [.int .u8 0, .int .u8 0] := ty_of (z := .agg ([.int .u8 0, .int .u8 0]).toArray) Tryd.underlying96 rfl (by kernel_rfl) rfl rfl
theorem ty97 : Ty Tryd.prog 97 true 32 32 (List.replicate 32 (Value.int .u8 0)) := ty_of (z := .agg ((List.replicate 32 (Value.int .u8 0))).toArray) Tryd.underlying97 rfl (by kernel_rfl) rfl rfl
theorem ty98 : Ty Tryd.prog 98 true 4 40 [.pointer none, .pointer none, .pointer none, str []] := ty_of (z := .agg ([.pointer none, .pointer none, .pointer none, str []]).toArray) Tryd.underlying98 rfl (by kernel_rfl) rfl rfl
theorem ty99 : Ty Tryd.prog 99 true 4 40 [.pointer none, .pointer none, .pointer none, str []] := ty_of (z := .agg ([.pointer none, .pointer none, .pointer none, str []]).toArray) Tryd.underlying99 rfl (by kernel_rfl) rfl rfl
theorem ty100 : Ty Tryd.prog 100 true 0 0 [] := ty_of (z := .agg ([]).toArray) Tryd.underlying100 rfl (by kernel_rfl) rfl rfl
theorem ty101 : Ty Tryd.prog 101 true 0 0 [] := ty_of (z := .agg ([]).toArray) Tryd.underlying101 rfl (by kernel_rfl) rfl rfl
theorem ty102 : Ty Tryd.prog 102 true 0 0 [] := ty_of (z := .agg ([]).toArray) Tryd.underlying102 rfl (by kernel_rfl) rfl rfl
theorem ty104 : Ty Tryd.prog 104 false 1 1 [.int .u8 0] := ty_of (z := .int .u8 0) Tryd.underlying104 rfl (by kernel_rfl) rfl rfl
theorem ty105 : Ty Tryd.prog 105 false 1 1 [.int .u8 0] := ty_of (z := .int .u8 0) Tryd.underlying105 rfl (by kernel_rfl) rfl rfl
theorem ty107 : Ty Tryd.prog 107 false 1 4 [.int .i32 0] := ty_of (z := .int .i32 0) Tryd.underlying107 rfl (by kernel_rfl) rfl rfl
theorem ty108 : Ty Tryd.prog 108 false 1 4 [.int .i32 0] := ty_of (z := .int .i32 0) Tryd.underlying108 rfl (by kernel_rfl) rfl rfl
theorem ty109 : Ty Tryd.prog 109 true 11 48 ([.int .u64 0, .int .u64 0, .int .u32 0, .int .u8 0, .int .u8 0, .int .u8 0, .int .u8 0, .nilFunc, .pointer none, .int .i32 0, .int .i32 0]) := ty_of (z := .agg (([.int .u64 0, .int .u64 0, .int .u32 0, .int .u8 0, .int .u8 0, .int .u8 0, .int .u8 0, .nilFunc, .pointer none, .int .i32 0, .int .i32 0])).toArray) Tryd.underlying109 rfl (by kernel_rfl) rfl rfl
theorem ty110 : Ty Tryd.prog 110 true 11 48 ([.int .u64 0, .int .u64 0, .int .u32 0, .int .u8 0, .int .u8 0, .int .u8 0, .int .u8 0, .nilFunc, .pointer none, .int .i32 0, .int .i32 0]) := ty_of (z := .agg (([.int .u64 0, .int .u64 0, .int .u32 0, .int .u8 0, .int .u8 0, .int .u8 0, .int .u8 0, .nilFunc, .pointer none, .int .i32 0, .int .i32 0])).toArray) Tryd.underlying110 rfl (by kernel_rfl) rfl rfl
theorem en2 : En Tryd.prog 2 := ⟨Tryd.f2, Tryd.func2, rfl, by kernel_rfl⟩
theorem en3 : En Tryd.prog 3 := ⟨Tryd.f3, Tryd.func3, rfl, by kernel_rfl⟩
theorem en4 : En Tryd.prog 4 := ⟨Tryd.f4, Tryd.func4, rfl, by kernel_rfl⟩
theorem en5 : En Tryd.prog 5 := ⟨Tryd.f5, Tryd.func5, rfl, by kernel_rfl⟩
theorem en6 : En Tryd.prog 6 := ⟨Tryd.f6, Tryd.func6, rfl, by kernel_rfl⟩
theorem en7 : En Tryd.prog 7 := ⟨Tryd.f7, Tryd.func7, rfl, by kernel_rfl⟩
theorem en8 : En Tryd.prog 8 := ⟨Tryd.f8, Tryd.func8, rfl, by kernel_rfl⟩
theorem en9 : En Tryd.prog 9 := ⟨Tryd.f9, Tryd.func9, rfl, by kernel_rfl⟩
theorem en10 : En Tryd.prog 10 := ⟨Tryd.f10, Tryd.func10, rfl, by kernel_rfl⟩
theorem en11 : En Tryd.prog 11 := ⟨Tryd.f11, Tryd.func11, rfl, by kernel_rfl⟩
theorem en12 : En Tryd.prog 12 := ⟨Tryd.f12, Tryd.func12, rfl, by kernel_rfl⟩
theorem en13 : En Tryd.prog 13 := ⟨Tryd.f13, Tryd.func13, rfl, by kernel_rfl⟩
theorem en14 : En Tryd.prog 14 := ⟨Tryd.f14, Tryd.func14, rfl, by kernel_rfl⟩
theorem en15 : En Tryd.prog 15 := ⟨Tryd.f15, Tryd.func15, rfl, by kernel_rfl⟩
theorem en16 : En Tryd.prog 16 := ⟨Tryd.f16, Tryd.func16, rfl, by kernel_rfl⟩
theorem en17 : En Tryd.prog 17 := ⟨Tryd.f17, Tryd.func17, rfl, by kernel_rfl⟩
theorem en18 : En Tryd.prog 18 := ⟨Tryd.f18, Tryd.func18, rfl, by kernel_rfl⟩
theorem en19 : En Tryd.prog 19 := ⟨Tryd.f19, Tryd.func19, rfl, by kernel_rfl⟩
theorem en20 : En Tryd.prog 20 := ⟨Tryd.f20, Tryd.func20, rfl, by kernel_rfl⟩
theorem en21 : En Tryd.prog 21 := ⟨Tryd.f21, Tryd.func21, rfl, by kernel_rfl⟩
theorem en22 : En Tryd.prog 22 := ⟨Tryd.f22, Tryd.func22, rfl, by kernel_rfl⟩
theorem en23 : En Tryd.prog 23 := ⟨Tryd.f23, Tryd.func23, rfl, by kernel_rfl⟩
theorem en24 : En Tryd.prog 24 := ⟨Tryd.f24, Tryd.func24, rfl, by kernel_rfl⟩
theorem en25 : En Tryd.prog 25 := ⟨Tryd.f25, Tryd.func25, rfl, by kernel_rfl⟩
theorem en26 : En Tryd.prog 26 := ⟨Tryd.f26, Tryd.func26, rfl, by kernel_rfl⟩
theorem en27 : En Tryd.prog 27 := ⟨Tryd.f27, Tryd.func27, rfl, by kernel_rfl⟩
theorem en28 : En Tryd.prog 28 := ⟨Tryd.f28, Tryd.func28, rfl, by kernel_rfl⟩
theorem en29 : En Tryd.prog 29 := ⟨Tryd.f29, Tryd.func29, rfl, by kernel_rfl⟩
theorem en30 : En Tryd.prog 30 := ⟨Tryd.f30, Tryd.func30, rfl, by kernel_rfl⟩
theorem en31 : En Tryd.prog 31 := ⟨Tryd.f31, Tryd.func31, rfl, by kernel_rfl⟩
theorem en32 : En Tryd.prog 32 := ⟨Tryd.f32, Tryd.func32, rfl, by kernel_rfl⟩
theorem en33 : En Tryd.prog 33 := ⟨Tryd.f33, Tryd.func33, rfl, by kernel_rfl⟩
theorem en34 : En Tryd.prog 34 := ⟨Tryd.f34, Tryd.func34, rfl, by kernel_rfl⟩
theorem en35 : En Tryd.prog 35 := ⟨Tryd.f35, Tryd.func35, rfl, by kernel_rfl⟩
theorem en36 : En Tryd.prog 36 := ⟨Tryd.f36, Tryd.func36, rfl, by kernel_rfl⟩
theorem en37 : En Tryd.prog 37 := ⟨Tryd.f37, Tryd.func37, rfl, by kernel_rfl⟩
theorem en38 : En Tryd.prog 38 := ⟨Tryd.f38, Tryd.func38, rfl, by kernel_rfl⟩
theorem en39 : En Tryd.prog 39 := ⟨Tryd.f39, Tryd.func39, rfl, by kernel_rfl⟩
theorem en40 : En Tryd.prog 40 := ⟨Tryd.f40, Tryd.func40, rfl, by kernel_rfl⟩
theorem en41 : En Tryd.prog 41 := ⟨Tryd.f41, Tryd.func41, rfl, by kernel_rfl⟩
theorem en42 : En Tryd.prog 42 := ⟨Tryd.f42, Tryd.func42, rfl, by kernel_rfl⟩
theorem en43 : En Tryd.prog 43 := ⟨Tryd.f43, Tryd.func43, rfl, by kernel_rfl⟩
theorem en44 : En Tryd.prog 44 := ⟨Tryd.f44, Tryd.func44, rfl, by kernel_rfl⟩
theorem en45 : En Tryd.prog 45 := ⟨Tryd.f45, Tryd.func45, rfl, by kernel_rfl⟩
theorem en46 : En Tryd.prog 46 := ⟨Tryd.f46, Tryd.func46, rfl, by kernel_rfl⟩
theorem en47 : En Tryd.prog 47 := ⟨Tryd.f47, Tryd.func47, rfl, by kernel_rfl⟩
theorem en48 : En Tryd.prog 48 := ⟨Tryd.f48, Tryd.func48, rfl, by kernel_rfl⟩
theorem en49 : En Tryd.prog 49 := ⟨Tryd.f49, Tryd.func49, rfl, by kernel_rfl⟩
theorem en50 : En Tryd.prog 50 := ⟨Tryd.f50, Tryd.func50, rfl, by kernel_rfl⟩
theorem en51 : En Tryd.prog 51 := ⟨Tryd.f51, Tryd.func51, rfl, by kernel_rfl⟩
theorem en52 : En Tryd.prog 52 := ⟨Tryd.f52, Tryd.func52, rfl, by kernel_rfl⟩
theorem en53 : En Tryd.prog 53 := ⟨Tryd.f53, Tryd.func53, rfl, by kernel_rfl⟩
theorem en54 : En Tryd.prog 54 := ⟨Tryd.f54, Tryd.func54, rfl, by kernel_rfl⟩
theorem en55 : En Tryd.prog 55 := ⟨Tryd.f55, Tryd.func55, rfl, by kernel_rfl⟩
theorem en56 : En Tryd.prog 56 := ⟨Tryd.f56, Tryd.func56, rfl, by kernel_rfl⟩
theorem en57 : En Tryd.prog 57 := ⟨Tryd.f57, Tryd.func57, rfl, by kernel_rfl⟩
theorem en58 : En Tryd.prog 58 := ⟨Tryd.f58, Tryd.func58, rfl, by kernel_rfl⟩
theorem en59 : En Tryd.prog 59 := ⟨Tryd.f59, Tryd.func59, rfl, by kernel_rfl⟩
theorem en60 : En Tryd.prog 60 := ⟨Tryd.f60, Tryd.func60, rfl, by kernel_rfl⟩
theorem en61 : En Tryd.prog 61 := ⟨Tryd.f61, Tryd.func61, rfl, by kernel_rfl⟩
theorem en62 : En Tryd.prog 62 := ⟨Tryd.f62, Tryd.func62, rfl, by kernel_rfl⟩
theorem en63 : En Tryd.prog 63 := ⟨Tryd.f63, Tryd.func63, rfl, by kernel_rfl⟩
theorem en64 : En Tryd.prog 64 := ⟨Tryd.f64, Tryd.func64, rfl, by kernel_rfl⟩
theorem en65 : En Tryd.prog 65 := ⟨Tryd.f65, Tryd.func65, rfl, by kernel_rfl⟩
theorem en66 : En Tryd.prog 66 := ⟨Tryd.f66, Tryd.func66, rfl, by kernel_rfl⟩
theorem en67 : En Tryd.prog 67 := ⟨Tryd.f67, Tryd.func67, rfl, by kernel_rfl⟩
theorem en68 : En Tryd.prog 68 := ⟨Tryd.f68, Tryd.func68, rfl, by kernel_rfl⟩
theorem en69 : En Tryd.prog 69 := ⟨Tryd.f69, Tryd.func69, rfl, by kernel_rfl⟩
theorem en70 : En Tryd.prog 70 := ⟨Tryd.f70, Tryd.func70, rfl, by kernel_rfl⟩
theorem en73 : En Tryd.prog 73 := ⟨Tryd.f73, Tryd.func73, rfl, by kernel_rfl⟩
theorem en74 : En Tryd.prog 74 := ⟨Tryd.f74, Tryd.func74, rfl, by kernel_rfl⟩
theorem en75 : En Tryd.prog 75 := ⟨Tryd.f75, Tryd.func75, rfl, by kernel_rfl⟩
theorem en77 : En Tryd.prog 77 := ⟨Tryd.f77, Tryd.func77, rfl, by kernel_rfl⟩
theorem en78 : En Tryd.prog 78 := ⟨Tryd.f78, Tryd.func78, rfl, by kernel_rfl⟩
theorem en79 : En Tryd.prog 79 := ⟨Tryd.f79, Tryd.func79, rfl, by kernel_rfl⟩
theorem en80 : En Tryd.prog 80 := ⟨Tryd.f80, Tryd.func80, rfl, by kernel_rfl⟩
theorem en82 : En Tryd.prog 82 := ⟨Tryd.f82, Tryd.func82, rfl, by kernel_rfl⟩
theorem en83 : En Tryd.prog 83 := ⟨Tryd.f83, Tryd.func83, rfl, by kernel_rfl⟩
theorem en84 : En Tryd.prog 84 := ⟨Tryd.f84, Tryd.func84, rfl, by kernel_rfl⟩
theorem en86 : En Tryd.prog 86 := ⟨Tryd.f86, Tryd.func86, rfl, by kernel_rfl⟩
theorem en109 : En Tryd.prog 109 := ⟨Tryd.f109, Tryd.func109, rfl, by kernel_rfl⟩
theorem mixedP : Tryd.prog.follows .mixedOrders = true := by kernel_rfl
end Go.Gx
