/- The tables of this seat: its types, its functions: closed facts. -/
import Derived.Test.YtepaojbhjgefiaaGreatDoorC1
import Derived.Test.YtepaojbhjgefiaaGreatDoorProg
set_option linter.unusedVariables false
set_option linter.unusedSimpArgs false
namespace Go.Gx
open Go.Proofs
set_option maxRecDepth 100000
theorem ty3 : Ty Tryz.prog 3 false 1 8 [.int .i64 0] := ty_of (z := .int .i64 0) Tryz.underlying3 rfl (by kernel_rfl) rfl rfl
theorem ty4 : Ty Tryz.prog 4 false 1 1 [.bool false] := ty_of (z := .bool false) Tryz.underlying4 rfl (by kernel_rfl) rfl rfl
theorem ty5 : Ty Tryz.prog 5 false 1 1 [.int .u8 0] := ty_of (z := .int .u8 0) Tryz.underlying5 rfl (by kernel_rfl) rfl rfl
theorem ty9 : Ty Tryz.prog 9 false 1 16 [str []] := ty_of (z := str []) Tryz.underlying9 rfl (by kernel_rfl) rfl rfl
theorem ty22 : Ty Tryz.prog 22 false 1 24 [.slice none 0 0] := ty_of (z := .slice none 0 0) Tryz.underlying22 rfl (by kernel_rfl) rfl rfl
theorem ty24 : Ty Tryz.prog 24 true 3 24 [.int .i64 0, .int .i64 0, .int .i64 0] := ty_of (z := .agg ([.int .i64 0, .int .i64 0, .int .i64 0]).toArray) Tryz.underlying24 rfl (by kernel_rfl) rfl rfl
theorem ty32 : Ty Tryz.prog 32 false 1 24 [.slice none 0 0] := ty_of (z := .slice none 0 0) Tryz.underlying32 rfl (by kernel_rfl) rfl rfl
theorem ty38 : Ty Tryz.prog 38 false 1 24 [.slice none 0 0] := ty_of (z := .slice none 0 0) Tryz.underlying38 rfl (by kernel_rfl) rfl rfl
theorem ty40 : Ty Tryz.prog 40 true 5 64 [.int .i64 0, .int .i64 0, .int .i64 0, str [], .slice none 0 0] := ty_of (z := .agg ([.int .i64 0, .int .i64 0, .int .i64 0, str [], .slice none 0 0]).toArray) Tryz.underlying40 rfl (by kernel_rfl) rfl rfl
theorem ty56 : Ty Tryz.prog 56 true 3 48 [str [], .bool false, .slice none 0 0] := ty_of (z := .agg ([str [], .bool false, .slice none 0 0]).toArray) Tryz.underlying56 rfl (by kernel_rfl) rfl rfl
theorem ty57 : Ty Tryz.prog 57 false 1 8 [.map none] := ty_of (z := .map none) Tryz.underlying57 rfl (by kernel_rfl) rfl rfl
theorem ty58 : Ty Tryz.prog 58 false 1 8 [.map none] := ty_of (z := .map none) Tryz.underlying58 rfl (by kernel_rfl) rfl rfl
theorem ty59 : Ty Tryz.prog 59 false 1 24 [.slice none 0 0] := ty_of (z := .slice none 0 0) Tryz.underlying59 rfl (by kernel_rfl) rfl rfl
theorem ty62 : Ty Tryz.prog 62 false 1 8 [.pointer none] := ty_of (z := .pointer none) Tryz.underlying62 rfl (by kernel_rfl) rfl rfl
theorem ty65 : Ty Tryz.prog 65 true 1 16 [str []] := ty_of (z := .agg ([str []]).toArray) Tryz.underlying65 rfl (by kernel_rfl) rfl rfl
theorem ty75 : Ty Tryz.prog 75 false 1 8 [.pointer none] := ty_of (z := .pointer none) Tryz.underlying75 rfl (by kernel_rfl) rfl rfl
theorem ty115 : Ty Tryz.prog 115 true 4 40 [.bool false, str [], .int .i64 0, .int .i64 0] := ty_of (z := .agg ([.bool false, str [], .int .i64 0, .int .i64 0]).toArray) Tryz.underlying115 rfl (by kernel_rfl) rfl rfl
theorem en5 : En Tryz.prog 5 := ⟨Tryz.f5, Tryz.func5, rfl, by kernel_rfl⟩
theorem en6 : En Tryz.prog 6 := ⟨Tryz.f6, Tryz.func6, rfl, by kernel_rfl⟩
theorem en7 : En Tryz.prog 7 := ⟨Tryz.f7, Tryz.func7, rfl, by kernel_rfl⟩
theorem en8 : En Tryz.prog 8 := ⟨Tryz.f8, Tryz.func8, rfl, by kernel_rfl⟩
theorem en9 : En Tryz.prog 9 := ⟨Tryz.f9, Tryz.func9, rfl, by kernel_rfl⟩
theorem en10 : En Tryz.prog 10 := ⟨Tryz.f10, Tryz.func10, rfl, by kernel_rfl⟩
theorem en11 : En Tryz.prog 11 := ⟨Tryz.f11, Tryz.func11, rfl, by kernel_rfl⟩
theorem en12 : En Tryz.prog 12 := ⟨Tryz.f12, Tryz.func12, rfl, by kernel_rfl⟩
theorem en13 : En Tryz.prog 13 := ⟨Tryz.f13, Tryz.func13, rfl, by kernel_rfl⟩
theorem en14 : En Tryz.prog 14 := ⟨Tryz.f14, Tryz.func14, rfl, by kernel_rfl⟩
theorem en15 : En Tryz.prog 15 := ⟨Tryz.f15, Tryz.func15, rfl, by kernel_rfl⟩
theorem en16 : En Tryz.prog 16 := ⟨Tryz.f16, Tryz.func16, rfl, by kernel_rfl⟩
theorem en17 : En Tryz.prog 17 := ⟨Tryz.f17, Tryz.func17, rfl, by kernel_rfl⟩
theorem en18 : En Tryz.prog 18 := ⟨Tryz.f18, Tryz.func18, rfl, by kernel_rfl⟩
theorem en19 : En Tryz.prog 19 := ⟨Tryz.f19, Tryz.func19, rfl, by kernel_rfl⟩
theorem en20 : En Tryz.prog 20 := ⟨Tryz.f20, Tryz.func20, rfl, by kernel_rfl⟩
theorem en21 : En Tryz.prog 21 := ⟨Tryz.f21, Tryz.func21, rfl, by kernel_rfl⟩
theorem en23 : En Tryz.prog 23 := ⟨Tryz.f23, Tryz.func23, rfl, by kernel_rfl⟩
theorem en24 : En Tryz.prog 24 := ⟨Tryz.f24, Tryz.func24, rfl, by kernel_rfl⟩
theorem en25 : En Tryz.prog 25 := ⟨Tryz.f25, Tryz.func25, rfl, by kernel_rfl⟩
theorem en26 : En Tryz.prog 26 := ⟨Tryz.f26, Tryz.func26, rfl, by kernel_rfl⟩
theorem en27 : En Tryz.prog 27 := ⟨Tryz.f27, Tryz.func27, rfl, by kernel_rfl⟩
theorem en28 : En Tryz.prog 28 := ⟨Tryz.f28, Tryz.func28, rfl, by kernel_rfl⟩
theorem en29 : En Tryz.prog 29 := ⟨Tryz.f29, Tryz.func29, rfl, by kernel_rfl⟩
theorem en30 : En Tryz.prog 30 := ⟨Tryz.f30, Tryz.func30, rfl, by kernel_rfl⟩
theorem en31 : En Tryz.prog 31 := ⟨Tryz.f31, Tryz.func31, rfl, by kernel_rfl⟩
theorem en32 : En Tryz.prog 32 := ⟨Tryz.f32, Tryz.func32, rfl, by kernel_rfl⟩
theorem en33 : En Tryz.prog 33 := ⟨Tryz.f33, Tryz.func33, rfl, by kernel_rfl⟩
theorem en34 : En Tryz.prog 34 := ⟨Tryz.f34, Tryz.func34, rfl, by kernel_rfl⟩
theorem en35 : En Tryz.prog 35 := ⟨Tryz.f35, Tryz.func35, rfl, by kernel_rfl⟩
theorem en36 : En Tryz.prog 36 := ⟨Tryz.f36, Tryz.func36, rfl, by kernel_rfl⟩
theorem en37 : En Tryz.prog 37 := ⟨Tryz.f37, Tryz.func37, rfl, by kernel_rfl⟩
theorem en38 : En Tryz.prog 38 := ⟨Tryz.f38, Tryz.func38, rfl, by kernel_rfl⟩
theorem en39 : En Tryz.prog 39 := ⟨Tryz.f39, Tryz.func39, rfl, by kernel_rfl⟩
theorem en40 : En Tryz.prog 40 := ⟨Tryz.f40, Tryz.func40, rfl, by kernel_rfl⟩
theorem en41 : En Tryz.prog 41 := ⟨Tryz.f41, Tryz.func41, rfl, by kernel_rfl⟩
theorem en42 : En Tryz.prog 42 := ⟨Tryz.f42, Tryz.func42, rfl, by kernel_rfl⟩
theorem en43 : En Tryz.prog 43 := ⟨Tryz.f43, Tryz.func43, rfl, by kernel_rfl⟩
theorem en44 : En Tryz.prog 44 := ⟨Tryz.f44, Tryz.func44, rfl, by kernel_rfl⟩
theorem en45 : En Tryz.prog 45 := ⟨Tryz.f45, Tryz.func45, rfl, by kernel_rfl⟩
theorem en46 : En Tryz.prog 46 := ⟨Tryz.f46, Tryz.func46, rfl, by kernel_rfl⟩
theorem en47 : En Tryz.prog 47 := ⟨Tryz.f47, Tryz.func47, rfl, by kernel_rfl⟩
theorem en48 : En Tryz.prog 48 := ⟨Tryz.f48, Tryz.func48, rfl, by kernel_rfl⟩
theorem en49 : En Tryz.prog 49 := ⟨Tryz.f49, Tryz.func49, rfl, by kernel_rfl⟩
theorem en50 : En Tryz.prog 50 := ⟨Tryz.f50, Tryz.func50, rfl, by kernel_rfl⟩
theorem en51 : En Tryz.prog 51 := ⟨Tryz.f51, Tryz.func51, rfl, by kernel_rfl⟩
theorem en52 : En Tryz.prog 52 := ⟨Tryz.f52, Tryz.func52, rfl, by kernel_rfl⟩
theorem en55 : En Tryz.prog 55 := ⟨Tryz.f55, Tryz.func55, rfl, by kernel_rfl⟩
theorem en56 : En Tryz.prog 56 := ⟨Tryz.f56, Tryz.func56, rfl, by kernel_rfl⟩
theorem en57 : En Tryz.prog 57 := ⟨Tryz.f57, Tryz.func57, rfl, by kernel_rfl⟩
theorem en58 : En Tryz.prog 58 := ⟨Tryz.f58, Tryz.func58, rfl, by kernel_rfl⟩
theorem en59 : En Tryz.prog 59 := ⟨Tryz.f59, Tryz.func59, rfl, by kernel_rfl⟩
theorem en60 : En Tryz.prog 60 := ⟨Tryz.f60, Tryz.func60, rfl, by kernel_rfl⟩
theorem en61 : En Tryz.prog 61 := ⟨Tryz.f61, Tryz.func61, rfl, by kernel_rfl⟩
theorem en62 : En Tryz.prog 62 := ⟨Tryz.f62, Tryz.func62, rfl, by kernel_rfl⟩
theorem en63 : En Tryz.prog 63 := ⟨Tryz.f63, Tryz.func63, rfl, by kernel_rfl⟩
theorem en64 : En Tryz.prog 64 := ⟨Tryz.f64, Tryz.func64, rfl, by kernel_rfl⟩
theorem en65 : En Tryz.prog 65 := ⟨Tryz.f65, Tryz.func65, rfl, by kernel_rfl⟩
theorem en66 : En Tryz.prog 66 := ⟨Tryz.f66, Tryz.func66, rfl, by kernel_rfl⟩
theorem en67 : En Tryz.prog 67 := ⟨Tryz.f67, Tryz.func67, rfl, by kernel_rfl⟩
theorem en68 : En Tryz.prog 68 := ⟨Tryz.f68, Tryz.func68, rfl, by kernel_rfl⟩
theorem en69 : En Tryz.prog 69 := ⟨Tryz.f69, Tryz.func69, rfl, by kernel_rfl⟩
theorem en70 : En Tryz.prog 70 := ⟨Tryz.f70, Tryz.func70, rfl, by kernel_rfl⟩
theorem en71 : En Tryz.prog 71 := ⟨Tryz.f71, Tryz.func71, rfl, by kernel_rfl⟩
theorem en72 : En Tryz.prog 72 := ⟨Tryz.f72, Tryz.func72, rfl, by kernel_rfl⟩
theorem en73 : En Tryz.prog 73 := ⟨Tryz.f73, Tryz.func73, rfl, by kernel_rfl⟩
theorem en74 : En Tryz.prog 74 := ⟨Tryz.f74, Tryz.func74, rfl, by kernel_rfl⟩
theorem en75 : En Tryz.prog 75 := ⟨Tryz.f75, Tryz.func75, rfl, by kernel_rfl⟩
theorem en76 : En Tryz.prog 76 := ⟨Tryz.f76, Tryz.func76, rfl, by kernel_rfl⟩
theorem en87 : En Tryz.prog 87 := ⟨Tryz.f87, Tryz.func87, rfl, by kernel_rfl⟩
theorem en88 : En Tryz.prog 88 := ⟨Tryz.f88, Tryz.func88, rfl, by kernel_rfl⟩
theorem en89 : En Tryz.prog 89 := ⟨Tryz.f89, Tryz.func89, rfl, by kernel_rfl⟩
theorem en90 : En Tryz.prog 90 := ⟨Tryz.f90, Tryz.func90, rfl, by kernel_rfl⟩
theorem en91 : En Tryz.prog 91 := ⟨Tryz.f91, Tryz.func91, rfl, by kernel_rfl⟩
theorem en92 : En Tryz.prog 92 := ⟨Tryz.f92, Tryz.func92, rfl, by kernel_rfl⟩
theorem en93 : En Tryz.prog 93 := ⟨Tryz.f93, Tryz.func93, rfl, by kernel_rfl⟩
theorem en94 : En Tryz.prog 94 := ⟨Tryz.f94, Tryz.func94, rfl, by kernel_rfl⟩
theorem en105 : En Tryz.prog 105 := ⟨Tryz.f105, Tryz.func105, rfl, by kernel_rfl⟩
theorem en112 : En Tryz.prog 112 := ⟨Tryz.f112, Tryz.func112, rfl, by kernel_rfl⟩
theorem en113 : En Tryz.prog 113 := ⟨Tryz.f113, Tryz.func113, rfl, by kernel_rfl⟩
theorem en122 : En Tryz.prog 122 := ⟨Tryz.f122, Tryz.func122, rfl, by kernel_rfl⟩
theorem en123 : En Tryz.prog 123 := ⟨Tryz.f123, Tryz.func123, rfl, by kernel_rfl⟩
theorem mixedP : Tryz.prog.follows .mixedOrders = true := by kernel_rfl
end Go.Gx
