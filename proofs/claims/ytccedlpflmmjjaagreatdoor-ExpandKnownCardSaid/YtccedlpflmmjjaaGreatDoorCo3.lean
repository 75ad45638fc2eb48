/- The compiled texts are the functions' code. -/
import Derived.Test.YtccedlpflmmjjaaGreatDoorCo1
import Derived.Test.YtccedlpflmmjjaaGreatDoorCo2
import Derived.Test.YtccedlpflmmjjaaGreatDoorKe2
import Derived.Test.YtccedlpflmmjjaaGreatDoorProg
import Derived.KernelRfl
namespace Go.Am.K19
open Go Go.Am Go.Am.L
open Go.Am.K
def tabT : Tr LF := (nd 119 f119 (nd 59 f59 (nd 31 f31 (nd 17 f17 (nd 10 f10 (nd 6 f6 (nd 4 f4 (lf1 3 f3) (lf1 5 f5)) (nd 8 f8 (lf1 7 f7) (lf1 9 f9))) (nd 14 f14 (nd 12 f12 (lf1 11 f11) (lf1 13 f13)) (nd 16 f16 (lf1 15 f15) .nil))) (nd 24 f24 (nd 21 f21 (nd 19 f19 (lf1 18 f18) (lf1 20 f20)) (nd 23 f23 (lf1 22 f22) .nil)) (nd 28 f28 (nd 26 f26 (lf1 25 f25) (lf1 27 f27)) (nd 30 f30 (lf1 29 f29) .nil)))) (nd 45 f45 (nd 38 f38 (nd 35 f35 (nd 33 f33 (lf1 32 f32) (lf1 34 f34)) (nd 37 f37 (lf1 36 f36) .nil)) (nd 42 f42 (nd 40 f40 (lf1 39 f39) (lf1 41 f41)) (nd 44 f44 (lf1 43 f43) .nil))) (nd 52 f52 (nd 49 f49 (nd 47 f47 (lf1 46 f46) (lf1 48 f48)) (nd 51 f51 (lf1 50 f50) .nil)) (nd 56 f56 (nd 54 f54 (lf1 53 f53) (lf1 55 f55)) (nd 58 f58 (lf1 57 f57) .nil))))) (nd 88 f88 (nd 74 f74 (nd 66 f66 (nd 63 f63 (nd 61 f61 (lf1 60 f60) (lf1 62 f62)) (nd 65 f65 (lf1 64 f64) .nil)) (nd 70 f70 (nd 68 f68 (lf1 67 f67) (lf1 69 f69)) (nd 72 f72 (lf1 71 f71) .nil))) (nd 81 f81 (nd 78 f78 (nd 76 f76 (lf1 75 f75) (lf1 77 f77)) (nd 80 f80 (lf1 79 f79) .nil)) (nd 85 f85 (nd 83 f83 (lf1 82 f82) (lf1 84 f84)) (nd 87 f87 (lf1 86 f86) .nil)))) (nd 102 f102 (nd 95 f95 (nd 92 f92 (nd 90 f90 (lf1 89 f89) (lf1 91 f91)) (nd 94 f94 (lf1 93 f93) .nil)) (nd 99 f99 (nd 97 f97 (lf1 96 f96) (lf1 98 f98)) (nd 101 f101 (lf1 100 f100) .nil))) (nd 109 f109 (nd 106 f106 (nd 104 f104 (lf1 103 f103) (lf1 105 f105)) (nd 108 f108 (lf1 107 f107) .nil)) (nd 116 f116 (nd 114 f114 (lf1 110 f110) (lf1 115 f115)) (nd 118 f118 (lf1 117 f117) .nil)))))) (nd 211 f211 (nd 165 f165 (nd 137 f137 (nd 129 f129 (nd 123 f123 (nd 121 f121 (lf1 120 f120) (lf1 122 f122)) (nd 126 f126 (lf1 125 f125) (lf1 128 f128))) (nd 134 f134 (nd 131 f131 (lf1 130 f130) (lf1 132 f132)) (nd 136 f136 (lf1 135 f135) .nil))) (nd 156 f156 (nd 150 f150 (nd 147 f147 (lf1 143 f143) (lf1 149 f149)) (nd 154 f154 (lf1 152 f152) .nil)) (nd 160 f160 (nd 158 f158 (lf1 157 f157) (lf1 159 f159)) (nd 162 f162 (lf1 161 f161) .nil)))) (nd 185 f185 (nd 173 f173 (nd 169 f169 (nd 167 f167 (lf1 166 f166) (lf1 168 f168)) (nd 172 f172 (lf1 171 f171) .nil)) (nd 182 f182 (nd 180 f180 (lf1 179 f179) (lf1 181 f181)) (nd 184 f184 (lf1 183 f183) .nil))) (nd 201 f201 (nd 194 f194 (nd 187 f187 (lf1 186 f186) (lf1 193 f193)) (nd 200 f200 (lf1 199 f199) .nil)) (nd 208 f208 (nd 203 f203 (lf1 202 f202) (lf1 207 f207)) (nd 210 f210 (lf1 209 f209) .nil))))) (nd 255 f255 (nd 231 f231 (nd 219 f219 (nd 216 f216 (nd 214 f214 (lf1 212 f212) (lf1 215 f215)) (nd 218 f218 (lf1 217 f217) .nil)) (nd 223 f223 (nd 221 f221 (lf1 220 f220) (lf1 222 f222)) (nd 228 f228 (lf1 227 f227) .nil))) (nd 247 f247 (nd 235 f235 (nd 233 f233 (lf1 232 f232) (lf1 234 f234)) (nd 246 f246 (lf1 242 f242) .nil)) (nd 252 f252 (nd 250 f250 (lf1 248 f248) (lf1 251 f251)) (nd 254 f254 (lf1 253 f253) .nil)))) (nd 272 f272 (nd 264 f264 (nd 261 f261 (nd 257 f257 (lf1 256 f256) (lf1 260 f260)) (nd 263 f263 (lf1 262 f262) .nil)) (nd 269 f269 (nd 267 f267 (lf1 265 f265) (lf1 268 f268)) (nd 271 f271 (lf1 270 f270) .nil))) (nd 281 f281 (nd 278 f278 (nd 274 f274 (lf1 273 f273) (lf1 277 f277)) (nd 280 f280 (lf1 279 f279) .nil)) (nd 291 f291 (nd 287 f287 (lf1 283 f283) (lf1 288 f288)) (nd 321 f321 (lf1 292 f292) .nil)))))))
def tabF : Tr Unit := (nd 119 () (nd 62 () (nd 26 () (nd 14 () (nd 8 () (nd 5 () (nd 4 () (lf1 3 ()) .nil) (nd 7 () (lf1 6 ()) .nil)) (nd 11 () (nd 10 () (lf1 9 ()) .nil) (nd 13 () (lf1 12 ()) .nil))) (nd 21 () (nd 17 () (nd 16 () (lf1 15 ()) .nil) (nd 19 () (lf1 18 ()) .nil)) (nd 24 () (nd 23 () (lf1 22 ()) .nil) (lf1 25 ())))) (nd 40 () (nd 35 () (nd 32 () (nd 29 () (lf1 27 ()) .nil) (nd 34 () (lf1 33 ()) .nil)) (nd 38 () (nd 37 () (lf1 36 ()) .nil) (lf1 39 ()))) (nd 57 () (nd 44 () (nd 43 () (lf1 41 ()) .nil) (nd 48 () (lf1 45 ()) .nil)) (nd 60 () (nd 59 () (lf1 58 ()) .nil) (lf1 61 ()))))) (nd 88 () (nd 74 () (nd 68 () (nd 65 () (nd 64 () (lf1 63 ()) .nil) (nd 67 () (lf1 66 ()) .nil)) (nd 71 () (nd 70 () (lf1 69 ()) .nil) (nd 73 () (lf1 72 ()) .nil))) (nd 81 () (nd 78 () (nd 76 () (lf1 75 ()) .nil) (nd 80 () (lf1 79 ()) .nil)) (nd 85 () (nd 84 () (lf1 83 ()) .nil) (lf1 87 ())))) (nd 105 () (nd 100 () (nd 97 () (nd 94 () (lf1 92 ()) .nil) (nd 99 () (lf1 98 ()) .nil)) (nd 103 () (nd 102 () (lf1 101 ()) .nil) (lf1 104 ()))) (nd 113 () (nd 108 () (nd 107 () (lf1 106 ()) .nil) (nd 110 () (lf1 109 ()) .nil)) (nd 116 () (nd 115 () (lf1 114 ()) .nil) (lf1 118 ())))))) (nd 200 () (nd 158 () (nd 135 () (nd 126 () (nd 122 () (nd 121 () (lf1 120 ()) .nil) (nd 124 () (lf1 123 ()) .nil)) (nd 130 () (nd 128 () (lf1 127 ()) .nil) (nd 134 () (lf1 131 ()) .nil))) (nd 152 () (nd 143 () (nd 137 () (lf1 136 ()) .nil) (nd 149 () (lf1 147 ()) .nil)) (nd 156 () (nd 155 () (lf1 154 ()) .nil) (lf1 157 ())))) (nd 179 () (nd 169 () (nd 162 () (nd 161 () (lf1 159 ()) .nil) (nd 168 () (lf1 165 ()) .nil)) (nd 173 () (nd 172 () (lf1 171 ()) .nil) (lf1 174 ()))) (nd 185 () (nd 182 () (nd 181 () (lf1 180 ()) .nil) (nd 184 () (lf1 183 ()) .nil)) (nd 193 () (nd 187 () (lf1 186 ()) .nil) (lf1 199 ()))))) (nd 250 () (nd 223 () (nd 218 () (nd 215 () (nd 206 () (lf1 202 ()) .nil) (nd 217 () (lf1 216 ()) .nil)) (nd 221 () (nd 220 () (lf1 219 ()) .nil) (lf1 222 ()))) (nd 235 () (nd 231 () (nd 228 () (lf1 227 ()) .nil) (nd 234 () (lf1 233 ()) .nil)) (nd 248 () (nd 247 () (lf1 242 ()) .nil) (lf1 249 ())))) (nd 264 () (nd 256 () (nd 253 () (nd 252 () (lf1 251 ()) .nil) (nd 255 () (lf1 254 ()) .nil)) (nd 262 () (nd 261 () (lf1 257 ()) .nil) (lf1 263 ()))) (nd 274 () (nd 268 () (nd 267 () (lf1 265 ()) .nil) (nd 273 () (lf1 271 ()) .nil)) (nd 283 () (nd 280 () (lf1 279 ()) .nil) (lf1 292 ())))))))
end Go.Am.K19

namespace Go.Am.K19
open Go Go.Am Go.Am.L Go.Am.K Go.Proofs
def big : AV := .int .i64 1073741824
def rowOf (l : List (List Nat × Int × Int)) : List AV := l.flatMap fun p => [.str p.1, .int .i64 p.2.1, .int .i64 p.2.2]
def table : List (List Nat × Int × Int) := [([], 0, 0), ([108, 97, 109, 98, 100, 97], 2, 1073741824), ([108, 101, 116], 2, 1073741824), ([108, 101, 116, 42], 2, 1073741824), ([108, 101, 116, 114, 101, 99], 2, 1073741824), ([105, 102], 3, 3), ([99, 111, 110, 100], 1, 1073741824), ([101, 108, 115, 101], 0, 0), ([97, 110, 100], 0, 1073741824), ([111, 114], 0, 1073741824), ([119, 104, 101, 110], 2, 1073741824), ([117, 110, 108, 101, 115, 115], 2, 1073741824), ([98, 101, 103, 105, 110], 1, 1073741824), ([108, 105, 115, 116], 0, 1073741824), ([113, 117, 111, 116, 101], 1, 1), ([100, 101, 102, 105, 110, 101], 2, 1073741824), ([100, 101, 102, 105, 110, 101, 45, 115, 121, 110, 116, 97, 120], 2, 2), ([108, 101, 116, 45, 115, 121, 110, 116, 97, 120], 2, 1073741824), ([115, 121, 110, 116, 97, 120, 45, 114, 117, 108, 101, 115], 1, 21)]
def glob : Nat → Option (List AV) := fun g => if g = 0 then some (rowOf table) else none
def FOk (i : Nat) (lf : LF) : Prop := ∃ fn c, Tryz.prog.funcs[i]? = some fn ∧ fn.body = some c ∧ lf.okIn Tryz.prog glob fn c
noncomputable def E : Env := { prog := Tryz.prog, glob := glob, ovr := fun _ => none, eqv := avb 64 }
noncomputable def fl : Nat → Bool := fun f => (tabF.get f).isSome
set_option maxRecDepth 100000
theorem mix : Tryz.prog.follows .mixedOrders = true := by kernel_rfl
theorem names : Tryz.prog.funcs.toList.all (fun fn => decide (fn.name ≠ "runtime.NumGoroutine")) = true := by kernel_rfl
theorem globOk : GlobOk glob := by
  intro g row h s
  simp only [glob] at h
  split at h
  · cases h
    exact ⟨rfl, rfl⟩
  · cases h
theorem envOk : EnvOk Tryz.prog glob E := by
  refine ⟨rfl, rfl, mix, fun f fn hf _ => ?_, fun a b h => avb_sound 64 a b h, fun f g h => by cases h⟩
  have hm : fn ∈ Tryz.prog.funcs.toList := Array.mem_toList_iff.2 (Array.mem_of_getElem? hf)
  simpa using List.all_eq_true.1 names fn hm
end Go.Am.K19

namespace Go.Am.K19
open Go Go.Am Go.Am.L Go.Am.K Go.Proofs
set_option maxRecDepth 100000
theorem ok3 : FOk 3 f3 := ⟨Tryz.f3, _, Tryz.func3, rfl, by kernel_rfl, by kernel_rfl⟩
theorem ok4 : FOk 4 f4 := ⟨Tryz.f4, _, Tryz.func4, rfl, by kernel_rfl, by kernel_rfl⟩
theorem ok5 : FOk 5 f5 := ⟨Tryz.f5, _, Tryz.func5, rfl, by kernel_rfl, by kernel_rfl⟩
theorem ok6 : FOk 6 f6 := ⟨Tryz.f6, _, Tryz.func6, rfl, by kernel_rfl, by kernel_rfl⟩
theorem ok7 : FOk 7 f7 := ⟨Tryz.f7, _, Tryz.func7, rfl, by kernel_rfl, by kernel_rfl⟩
theorem ok8 : FOk 8 f8 := ⟨Tryz.f8, _, Tryz.func8, rfl, by kernel_rfl, by kernel_rfl⟩
theorem ok9 : FOk 9 f9 := ⟨Tryz.f9, _, Tryz.func9, rfl, by kernel_rfl, by kernel_rfl⟩
theorem ok10 : FOk 10 f10 := ⟨Tryz.f10, _, Tryz.func10, rfl, by kernel_rfl, by kernel_rfl⟩
theorem ok11 : FOk 11 f11 := ⟨Tryz.f11, _, Tryz.func11, rfl, by kernel_rfl, by kernel_rfl⟩
theorem ok12 : FOk 12 f12 := ⟨Tryz.f12, _, Tryz.func12, rfl, by kernel_rfl, by kernel_rfl⟩
theorem ok13 : FOk 13 f13 := ⟨Tryz.f13, _, Tryz.func13, rfl, by kernel_rfl, by kernel_rfl⟩
theorem ok14 : FOk 14 f14 := ⟨Tryz.f14, _, Tryz.func14, rfl, by kernel_rfl, by kernel_rfl⟩
theorem ok15 : FOk 15 f15 := ⟨Tryz.f15, _, Tryz.func15, rfl, by kernel_rfl, by kernel_rfl⟩
theorem ok16 : FOk 16 f16 := ⟨Tryz.f16, _, Tryz.func16, rfl, by kernel_rfl, by kernel_rfl⟩
theorem ok17 : FOk 17 f17 := ⟨Tryz.f17, _, Tryz.func17, rfl, by kernel_rfl, by kernel_rfl⟩
theorem ok18 : FOk 18 f18 := ⟨Tryz.f18, _, Tryz.func18, rfl, by kernel_rfl, by kernel_rfl⟩
theorem ok19 : FOk 19 f19 := ⟨Tryz.f19, _, Tryz.func19, rfl, by kernel_rfl, by kernel_rfl⟩
theorem ok20 : FOk 20 f20 := ⟨Tryz.f20, _, Tryz.func20, rfl, by kernel_rfl, by kernel_rfl⟩
theorem ok21 : FOk 21 f21 := ⟨Tryz.f21, _, Tryz.func21, rfl, by kernel_rfl, by kernel_rfl⟩
theorem ok22 : FOk 22 f22 := ⟨Tryz.f22, _, Tryz.func22, rfl, by kernel_rfl, by kernel_rfl⟩
theorem ok23 : FOk 23 f23 := ⟨Tryz.f23, _, Tryz.func23, rfl, by kernel_rfl, by kernel_rfl⟩
theorem ok24 : FOk 24 f24 := ⟨Tryz.f24, _, Tryz.func24, rfl, by kernel_rfl, by kernel_rfl⟩
theorem ok25 : FOk 25 f25 := ⟨Tryz.f25, _, Tryz.func25, rfl, by kernel_rfl, by kernel_rfl⟩
theorem ok26 : FOk 26 f26 := ⟨Tryz.f26, _, Tryz.func26, rfl, by kernel_rfl, by kernel_rfl⟩
theorem ok27 : FOk 27 f27 := ⟨Tryz.f27, _, Tryz.func27, rfl, by kernel_rfl, by kernel_rfl⟩
theorem ok28 : FOk 28 f28 := ⟨Tryz.f28, _, Tryz.func28, rfl, by kernel_rfl, by kernel_rfl⟩
theorem ok29 : FOk 29 f29 := ⟨Tryz.f29, _, Tryz.func29, rfl, by kernel_rfl, by kernel_rfl⟩
theorem ok30 : FOk 30 f30 := ⟨Tryz.f30, _, Tryz.func30, rfl, by kernel_rfl, by kernel_rfl⟩
theorem ok31 : FOk 31 f31 := ⟨Tryz.f31, _, Tryz.func31, rfl, by kernel_rfl, by kernel_rfl⟩
theorem ok32 : FOk 32 f32 := ⟨Tryz.f32, _, Tryz.func32, rfl, by kernel_rfl, by kernel_rfl⟩
theorem ok33 : FOk 33 f33 := ⟨Tryz.f33, _, Tryz.func33, rfl, by kernel_rfl, by kernel_rfl⟩
theorem ok34 : FOk 34 f34 := ⟨Tryz.f34, _, Tryz.func34, rfl, by kernel_rfl, by kernel_rfl⟩
theorem ok35 : FOk 35 f35 := ⟨Tryz.f35, _, Tryz.func35, rfl, by kernel_rfl, by kernel_rfl⟩
theorem ok36 : FOk 36 f36 := ⟨Tryz.f36, _, Tryz.func36, rfl, by kernel_rfl, by kernel_rfl⟩
theorem ok37 : FOk 37 f37 := ⟨Tryz.f37, _, Tryz.func37, rfl, by kernel_rfl, by kernel_rfl⟩
theorem ok38 : FOk 38 f38 := ⟨Tryz.f38, _, Tryz.func38, rfl, by kernel_rfl, by kernel_rfl⟩
theorem ok39 : FOk 39 f39 := ⟨Tryz.f39, _, Tryz.func39, rfl, by kernel_rfl, by kernel_rfl⟩
theorem ok40 : FOk 40 f40 := ⟨Tryz.f40, _, Tryz.func40, rfl, by kernel_rfl, by kernel_rfl⟩
theorem ok41 : FOk 41 f41 := ⟨Tryz.f41, _, Tryz.func41, rfl, by kernel_rfl, by kernel_rfl⟩
theorem ok42 : FOk 42 f42 := ⟨Tryz.f42, _, Tryz.func42, rfl, by kernel_rfl, by kernel_rfl⟩
theorem ok43 : FOk 43 f43 := ⟨Tryz.f43, _, Tryz.func43, rfl, by kernel_rfl, by kernel_rfl⟩
theorem ok44 : FOk 44 f44 := ⟨Tryz.f44, _, Tryz.func44, rfl, by kernel_rfl, by kernel_rfl⟩
theorem ok45 : FOk 45 f45 := ⟨Tryz.f45, _, Tryz.func45, rfl, by kernel_rfl, by kernel_rfl⟩
theorem ok46 : FOk 46 f46 := ⟨Tryz.f46, _, Tryz.func46, rfl, by kernel_rfl, by kernel_rfl⟩
theorem ok47 : FOk 47 f47 := ⟨Tryz.f47, _, Tryz.func47, rfl, by kernel_rfl, by kernel_rfl⟩
theorem ok48 : FOk 48 f48 := ⟨Tryz.f48, _, Tryz.func48, rfl, by kernel_rfl, by kernel_rfl⟩
theorem ok49 : FOk 49 f49 := ⟨Tryz.f49, _, Tryz.func49, rfl, by kernel_rfl, by kernel_rfl⟩
theorem ok50 : FOk 50 f50 := ⟨Tryz.f50, _, Tryz.func50, rfl, by kernel_rfl, by kernel_rfl⟩
theorem ok51 : FOk 51 f51 := ⟨Tryz.f51, _, Tryz.func51, rfl, by kernel_rfl, by kernel_rfl⟩
theorem ok52 : FOk 52 f52 := ⟨Tryz.f52, _, Tryz.func52, rfl, by kernel_rfl, by kernel_rfl⟩
theorem ok53 : FOk 53 f53 := ⟨Tryz.f53, _, Tryz.func53, rfl, by kernel_rfl, by kernel_rfl⟩
theorem ok54 : FOk 54 f54 := ⟨Tryz.f54, _, Tryz.func54, rfl, by kernel_rfl, by kernel_rfl⟩
theorem ok55 : FOk 55 f55 := ⟨Tryz.f55, _, Tryz.func55, rfl, by kernel_rfl, by kernel_rfl⟩
theorem ok56 : FOk 56 f56 := ⟨Tryz.f56, _, Tryz.func56, rfl, by kernel_rfl, by kernel_rfl⟩
theorem ok57 : FOk 57 f57 := ⟨Tryz.f57, _, Tryz.func57, rfl, by kernel_rfl, by kernel_rfl⟩
theorem ok58 : FOk 58 f58 := ⟨Tryz.f58, _, Tryz.func58, rfl, by kernel_rfl, by kernel_rfl⟩
theorem ok59 : FOk 59 f59 := ⟨Tryz.f59, _, Tryz.func59, rfl, by kernel_rfl, by kernel_rfl⟩
theorem ok60 : FOk 60 f60 := ⟨Tryz.f60, _, Tryz.func60, rfl, by kernel_rfl, by kernel_rfl⟩
theorem ok61 : FOk 61 f61 := ⟨Tryz.f61, _, Tryz.func61, rfl, by kernel_rfl, by kernel_rfl⟩
theorem ok62 : FOk 62 f62 := ⟨Tryz.f62, _, Tryz.func62, rfl, by kernel_rfl, by kernel_rfl⟩
theorem ok63 : FOk 63 f63 := ⟨Tryz.f63, _, Tryz.func63, rfl, by kernel_rfl, by kernel_rfl⟩
theorem ok64 : FOk 64 f64 := ⟨Tryz.f64, _, Tryz.func64, rfl, by kernel_rfl, by kernel_rfl⟩
theorem ok65 : FOk 65 f65 := ⟨Tryz.f65, _, Tryz.func65, rfl, by kernel_rfl, by kernel_rfl⟩
theorem ok66 : FOk 66 f66 := ⟨Tryz.f66, _, Tryz.func66, rfl, by kernel_rfl, by kernel_rfl⟩
theorem ok67 : FOk 67 f67 := ⟨Tryz.f67, _, Tryz.func67, rfl, by kernel_rfl, by kernel_rfl⟩
theorem ok68 : FOk 68 f68 := ⟨Tryz.f68, _, Tryz.func68, rfl, by kernel_rfl, by kernel_rfl⟩
theorem ok69 : FOk 69 f69 := ⟨Tryz.f69, _, Tryz.func69, rfl, by kernel_rfl, by kernel_rfl⟩
theorem ok70 : FOk 70 f70 := ⟨Tryz.f70, _, Tryz.func70, rfl, by kernel_rfl, by kernel_rfl⟩
theorem ok71 : FOk 71 f71 := ⟨Tryz.f71, _, Tryz.func71, rfl, by kernel_rfl, by kernel_rfl⟩
theorem ok72 : FOk 72 f72 := ⟨Tryz.f72, _, Tryz.func72, rfl, by kernel_rfl, by kernel_rfl⟩
theorem ok74 : FOk 74 f74 := ⟨Tryz.f74, _, Tryz.func74, rfl, by kernel_rfl, by kernel_rfl⟩
theorem ok75 : FOk 75 f75 := ⟨Tryz.f75, _, Tryz.func75, rfl, by kernel_rfl, by kernel_rfl⟩
theorem ok76 : FOk 76 f76 := ⟨Tryz.f76, _, Tryz.func76, rfl, by kernel_rfl, by kernel_rfl⟩
theorem ok77 : FOk 77 f77 := ⟨Tryz.f77, _, Tryz.func77, rfl, by kernel_rfl, by kernel_rfl⟩
theorem ok78 : FOk 78 f78 := ⟨Tryz.f78, _, Tryz.func78, rfl, by kernel_rfl, by kernel_rfl⟩
theorem ok79 : FOk 79 f79 := ⟨Tryz.f79, _, Tryz.func79, rfl, by kernel_rfl, by kernel_rfl⟩
theorem ok80 : FOk 80 f80 := ⟨Tryz.f80, _, Tryz.func80, rfl, by kernel_rfl, by kernel_rfl⟩
theorem ok81 : FOk 81 f81 := ⟨Tryz.f81, _, Tryz.func81, rfl, by kernel_rfl, by kernel_rfl⟩
theorem ok82 : FOk 82 f82 := ⟨Tryz.f82, _, Tryz.func82, rfl, by kernel_rfl, by kernel_rfl⟩
theorem ok83 : FOk 83 f83 := ⟨Tryz.f83, _, Tryz.func83, rfl, by kernel_rfl, by kernel_rfl⟩
theorem ok84 : FOk 84 f84 := ⟨Tryz.f84, _, Tryz.func84, rfl, by kernel_rfl, by kernel_rfl⟩
theorem ok85 : FOk 85 f85 := ⟨Tryz.f85, _, Tryz.func85, rfl, by kernel_rfl, by kernel_rfl⟩
theorem ok86 : FOk 86 f86 := ⟨Tryz.f86, _, Tryz.func86, rfl, by kernel_rfl, by kernel_rfl⟩
theorem ok87 : FOk 87 f87 := ⟨Tryz.f87, _, Tryz.func87, rfl, by kernel_rfl, by kernel_rfl⟩
theorem ok88 : FOk 88 f88 := ⟨Tryz.f88, _, Tryz.func88, rfl, by kernel_rfl, by kernel_rfl⟩
theorem ok89 : FOk 89 f89 := ⟨Tryz.f89, _, Tryz.func89, rfl, by kernel_rfl, by kernel_rfl⟩
theorem ok90 : FOk 90 f90 := ⟨Tryz.f90, _, Tryz.func90, rfl, by kernel_rfl, by kernel_rfl⟩
theorem ok91 : FOk 91 f91 := ⟨Tryz.f91, _, Tryz.func91, rfl, by kernel_rfl, by kernel_rfl⟩
theorem ok92 : FOk 92 f92 := ⟨Tryz.f92, _, Tryz.func92, rfl, by kernel_rfl, by kernel_rfl⟩
theorem ok93 : FOk 93 f93 := ⟨Tryz.f93, _, Tryz.func93, rfl, by kernel_rfl, by kernel_rfl⟩
theorem ok94 : FOk 94 f94 := ⟨Tryz.f94, _, Tryz.func94, rfl, by kernel_rfl, by kernel_rfl⟩
theorem ok95 : FOk 95 f95 := ⟨Tryz.f95, _, Tryz.func95, rfl, by kernel_rfl, by kernel_rfl⟩
theorem ok96 : FOk 96 f96 := ⟨Tryz.f96, _, Tryz.func96, rfl, by kernel_rfl, by kernel_rfl⟩
theorem ok97 : FOk 97 f97 := ⟨Tryz.f97, _, Tryz.func97, rfl, by kernel_rfl, by kernel_rfl⟩
theorem ok98 : FOk 98 f98 := ⟨Tryz.f98, _, Tryz.func98, rfl, by kernel_rfl, by kernel_rfl⟩
theorem ok99 : FOk 99 f99 := ⟨Tryz.f99, _, Tryz.func99, rfl, by kernel_rfl, by kernel_rfl⟩
theorem ok100 : FOk 100 f100 := ⟨Tryz.f100, _, Tryz.func100, rfl, by kernel_rfl, by kernel_rfl⟩
theorem ok101 : FOk 101 f101 := ⟨Tryz.f101, _, Tryz.func101, rfl, by kernel_rfl, by kernel_rfl⟩
theorem ok102 : FOk 102 f102 := ⟨Tryz.f102, _, Tryz.func102, rfl, by kernel_rfl, by kernel_rfl⟩
theorem ok103 : FOk 103 f103 := ⟨Tryz.f103, _, Tryz.func103, rfl, by kernel_rfl, by kernel_rfl⟩
theorem ok104 : FOk 104 f104 := ⟨Tryz.f104, _, Tryz.func104, rfl, by kernel_rfl, by kernel_rfl⟩
theorem ok105 : FOk 105 f105 := ⟨Tryz.f105, _, Tryz.func105, rfl, by kernel_rfl, by kernel_rfl⟩
theorem ok106 : FOk 106 f106 := ⟨Tryz.f106, _, Tryz.func106, rfl, by kernel_rfl, by kernel_rfl⟩
theorem ok107 : FOk 107 f107 := ⟨Tryz.f107, _, Tryz.func107, rfl, by kernel_rfl, by kernel_rfl⟩
theorem ok108 : FOk 108 f108 := ⟨Tryz.f108, _, Tryz.func108, rfl, by kernel_rfl, by kernel_rfl⟩
theorem ok109 : FOk 109 f109 := ⟨Tryz.f109, _, Tryz.func109, rfl, by kernel_rfl, by kernel_rfl⟩
theorem ok110 : FOk 110 f110 := ⟨Tryz.f110, _, Tryz.func110, rfl, by kernel_rfl, by kernel_rfl⟩
theorem ok114 : FOk 114 f114 := ⟨Tryz.f114, _, Tryz.func114, rfl, by kernel_rfl, by kernel_rfl⟩
theorem ok115 : FOk 115 f115 := ⟨Tryz.f115, _, Tryz.func115, rfl, by kernel_rfl, by kernel_rfl⟩
theorem ok116 : FOk 116 f116 := ⟨Tryz.f116, _, Tryz.func116, rfl, by kernel_rfl, by kernel_rfl⟩
theorem ok117 : FOk 117 f117 := ⟨Tryz.f117, _, Tryz.func117, rfl, by kernel_rfl, by kernel_rfl⟩
theorem ok118 : FOk 118 f118 := ⟨Tryz.f118, _, Tryz.func118, rfl, by kernel_rfl, by kernel_rfl⟩
theorem ok119 : FOk 119 f119 := ⟨Tryz.f119, _, Tryz.func119, rfl, by kernel_rfl, by kernel_rfl⟩
theorem ok120 : FOk 120 f120 := ⟨Tryz.f120, _, Tryz.func120, rfl, by kernel_rfl, by kernel_rfl⟩
theorem ok121 : FOk 121 f121 := ⟨Tryz.f121, _, Tryz.func121, rfl, by kernel_rfl, by kernel_rfl⟩
theorem ok122 : FOk 122 f122 := ⟨Tryz.f122, _, Tryz.func122, rfl, by kernel_rfl, by kernel_rfl⟩
theorem ok123 : FOk 123 f123 := ⟨Tryz.f123, _, Tryz.func123, rfl, by kernel_rfl, by kernel_rfl⟩
theorem ok125 : FOk 125 f125 := ⟨Tryz.f125, _, Tryz.func125, rfl, by kernel_rfl, by kernel_rfl⟩
theorem ok126 : FOk 126 f126 := ⟨Tryz.f126, _, Tryz.func126, rfl, by kernel_rfl, by kernel_rfl⟩
theorem ok128 : FOk 128 f128 := ⟨Tryz.f128, _, Tryz.func128, rfl, by kernel_rfl, by kernel_rfl⟩
theorem ok129 : FOk 129 f129 := ⟨Tryz.f129, _, Tryz.func129, rfl, by kernel_rfl, by kernel_rfl⟩
theorem ok130 : FOk 130 f130 := ⟨Tryz.f130, _, Tryz.func130, rfl, by kernel_rfl, by kernel_rfl⟩
theorem ok131 : FOk 131 f131 := ⟨Tryz.f131, _, Tryz.func131, rfl, by kernel_rfl, by kernel_rfl⟩
theorem ok132 : FOk 132 f132 := ⟨Tryz.f132, _, Tryz.func132, rfl, by kernel_rfl, by kernel_rfl⟩
theorem ok134 : FOk 134 f134 := ⟨Tryz.f134, _, Tryz.func134, rfl, by kernel_rfl, by kernel_rfl⟩
theorem ok135 : FOk 135 f135 := ⟨Tryz.f135, _, Tryz.func135, rfl, by kernel_rfl, by kernel_rfl⟩
theorem ok136 : FOk 136 f136 := ⟨Tryz.f136, _, Tryz.func136, rfl, by kernel_rfl, by kernel_rfl⟩
theorem ok137 : FOk 137 f137 := ⟨Tryz.f137, _, Tryz.func137, rfl, by kernel_rfl, by kernel_rfl⟩
theorem ok143 : FOk 143 f143 := ⟨Tryz.f143, _, Tryz.func143, rfl, by kernel_rfl, by kernel_rfl⟩
theorem ok147 : FOk 147 f147 := ⟨Tryz.f147, _, Tryz.func147, rfl, by kernel_rfl, by kernel_rfl⟩
theorem ok149 : FOk 149 f149 := ⟨Tryz.f149, _, Tryz.func149, rfl, by kernel_rfl, by kernel_rfl⟩
theorem ok150 : FOk 150 f150 := ⟨Tryz.f150, _, Tryz.func150, rfl, by kernel_rfl, by kernel_rfl⟩
theorem ok152 : FOk 152 f152 := ⟨Tryz.f152, _, Tryz.func152, rfl, by kernel_rfl, by kernel_rfl⟩
theorem ok154 : FOk 154 f154 := ⟨Tryz.f154, _, Tryz.func154, rfl, by kernel_rfl, by kernel_rfl⟩
theorem ok156 : FOk 156 f156 := ⟨Tryz.f156, _, Tryz.func156, rfl, by kernel_rfl, by kernel_rfl⟩
theorem ok157 : FOk 157 f157 := ⟨Tryz.f157, _, Tryz.func157, rfl, by kernel_rfl, by kernel_rfl⟩
theorem ok158 : FOk 158 f158 := ⟨Tryz.f158, _, Tryz.func158, rfl, by kernel_rfl, by kernel_rfl⟩
theorem ok159 : FOk 159 f159 := ⟨Tryz.f159, _, Tryz.func159, rfl, by kernel_rfl, by kernel_rfl⟩
theorem ok160 : FOk 160 f160 := ⟨Tryz.f160, _, Tryz.func160, rfl, by kernel_rfl, by kernel_rfl⟩
theorem ok161 : FOk 161 f161 := ⟨Tryz.f161, _, Tryz.func161, rfl, by kernel_rfl, by kernel_rfl⟩
theorem ok162 : FOk 162 f162 := ⟨Tryz.f162, _, Tryz.func162, rfl, by kernel_rfl, by kernel_rfl⟩
theorem ok165 : FOk 165 f165 := ⟨Tryz.f165, _, Tryz.func165, rfl, by kernel_rfl, by kernel_rfl⟩
theorem ok166 : FOk 166 f166 := ⟨Tryz.f166, _, Tryz.func166, rfl, by kernel_rfl, by kernel_rfl⟩
theorem ok167 : FOk 167 f167 := ⟨Tryz.f167, _, Tryz.func167, rfl, by kernel_rfl, by kernel_rfl⟩
theorem ok168 : FOk 168 f168 := ⟨Tryz.f168, _, Tryz.func168, rfl, by kernel_rfl, by kernel_rfl⟩
theorem ok169 : FOk 169 f169 := ⟨Tryz.f169, _, Tryz.func169, rfl, by kernel_rfl, by kernel_rfl⟩
theorem ok171 : FOk 171 f171 := ⟨Tryz.f171, _, Tryz.func171, rfl, by kernel_rfl, by kernel_rfl⟩
theorem ok172 : FOk 172 f172 := ⟨Tryz.f172, _, Tryz.func172, rfl, by kernel_rfl, by kernel_rfl⟩
theorem ok173 : FOk 173 f173 := ⟨Tryz.f173, _, Tryz.func173, rfl, by kernel_rfl, by kernel_rfl⟩
theorem ok179 : FOk 179 f179 := ⟨Tryz.f179, _, Tryz.func179, rfl, by kernel_rfl, by kernel_rfl⟩
theorem ok180 : FOk 180 f180 := ⟨Tryz.f180, _, Tryz.func180, rfl, by kernel_rfl, by kernel_rfl⟩
theorem ok181 : FOk 181 f181 := ⟨Tryz.f181, _, Tryz.func181, rfl, by kernel_rfl, by kernel_rfl⟩
theorem ok182 : FOk 182 f182 := ⟨Tryz.f182, _, Tryz.func182, rfl, by kernel_rfl, by kernel_rfl⟩
theorem ok183 : FOk 183 f183 := ⟨Tryz.f183, _, Tryz.func183, rfl, by kernel_rfl, by kernel_rfl⟩
theorem ok184 : FOk 184 f184 := ⟨Tryz.f184, _, Tryz.func184, rfl, by kernel_rfl, by kernel_rfl⟩
theorem ok185 : FOk 185 f185 := ⟨Tryz.f185, _, Tryz.func185, rfl, by kernel_rfl, by kernel_rfl⟩
theorem ok186 : FOk 186 f186 := ⟨Tryz.f186, _, Tryz.func186, rfl, by kernel_rfl, by kernel_rfl⟩
theorem ok187 : FOk 187 f187 := ⟨Tryz.f187, _, Tryz.func187, rfl, by kernel_rfl, by kernel_rfl⟩
theorem ok193 : FOk 193 f193 := ⟨Tryz.f193, _, Tryz.func193, rfl, by kernel_rfl, by kernel_rfl⟩
theorem ok194 : FOk 194 f194 := ⟨Tryz.f194, _, Tryz.func194, rfl, by kernel_rfl, by kernel_rfl⟩
theorem ok199 : FOk 199 f199 := ⟨Tryz.f199, _, Tryz.func199, rfl, by kernel_rfl, by kernel_rfl⟩
theorem ok200 : FOk 200 f200 := ⟨Tryz.f200, _, Tryz.func200, rfl, by kernel_rfl, by kernel_rfl⟩
theorem ok201 : FOk 201 f201 := ⟨Tryz.f201, _, Tryz.func201, rfl, by kernel_rfl, by kernel_rfl⟩
theorem ok202 : FOk 202 f202 := ⟨Tryz.f202, _, Tryz.func202, rfl, by kernel_rfl, by kernel_rfl⟩
theorem ok203 : FOk 203 f203 := ⟨Tryz.f203, _, Tryz.func203, rfl, by kernel_rfl, by kernel_rfl⟩
theorem ok207 : FOk 207 f207 := ⟨Tryz.f207, _, Tryz.func207, rfl, by kernel_rfl, by kernel_rfl⟩
theorem ok208 : FOk 208 f208 := ⟨Tryz.f208, _, Tryz.func208, rfl, by kernel_rfl, by kernel_rfl⟩
theorem ok209 : FOk 209 f209 := ⟨Tryz.f209, _, Tryz.func209, rfl, by kernel_rfl, by kernel_rfl⟩
theorem ok210 : FOk 210 f210 := ⟨Tryz.f210, _, Tryz.func210, rfl, by kernel_rfl, by kernel_rfl⟩
theorem ok211 : FOk 211 f211 := ⟨Tryz.f211, _, Tryz.func211, rfl, by kernel_rfl, by kernel_rfl⟩
theorem ok212 : FOk 212 f212 := ⟨Tryz.f212, _, Tryz.func212, rfl, by kernel_rfl, by kernel_rfl⟩
theorem ok214 : FOk 214 f214 := ⟨Tryz.f214, _, Tryz.func214, rfl, by kernel_rfl, by kernel_rfl⟩
theorem ok215 : FOk 215 f215 := ⟨Tryz.f215, _, Tryz.func215, rfl, by kernel_rfl, by kernel_rfl⟩
theorem ok216 : FOk 216 f216 := ⟨Tryz.f216, _, Tryz.func216, rfl, by kernel_rfl, by kernel_rfl⟩
theorem ok217 : FOk 217 f217 := ⟨Tryz.f217, _, Tryz.func217, rfl, by kernel_rfl, by kernel_rfl⟩
theorem ok218 : FOk 218 f218 := ⟨Tryz.f218, _, Tryz.func218, rfl, by kernel_rfl, by kernel_rfl⟩
theorem ok219 : FOk 219 f219 := ⟨Tryz.f219, _, Tryz.func219, rfl, by kernel_rfl, by kernel_rfl⟩
theorem ok220 : FOk 220 f220 := ⟨Tryz.f220, _, Tryz.func220, rfl, by kernel_rfl, by kernel_rfl⟩
theorem ok221 : FOk 221 f221 := ⟨Tryz.f221, _, Tryz.func221, rfl, by kernel_rfl, by kernel_rfl⟩
theorem ok222 : FOk 222 f222 := ⟨Tryz.f222, _, Tryz.func222, rfl, by kernel_rfl, by kernel_rfl⟩
theorem ok223 : FOk 223 f223 := ⟨Tryz.f223, _, Tryz.func223, rfl, by kernel_rfl, by kernel_rfl⟩
theorem ok227 : FOk 227 f227 := ⟨Tryz.f227, _, Tryz.func227, rfl, by kernel_rfl, by kernel_rfl⟩
theorem ok228 : FOk 228 f228 := ⟨Tryz.f228, _, Tryz.func228, rfl, by kernel_rfl, by kernel_rfl⟩
theorem ok231 : FOk 231 f231 := ⟨Tryz.f231, _, Tryz.func231, rfl, by kernel_rfl, by kernel_rfl⟩
theorem ok232 : FOk 232 f232 := ⟨Tryz.f232, _, Tryz.func232, rfl, by kernel_rfl, by kernel_rfl⟩
theorem ok233 : FOk 233 f233 := ⟨Tryz.f233, _, Tryz.func233, rfl, by kernel_rfl, by kernel_rfl⟩
theorem ok234 : FOk 234 f234 := ⟨Tryz.f234, _, Tryz.func234, rfl, by kernel_rfl, by kernel_rfl⟩
theorem ok235 : FOk 235 f235 := ⟨Tryz.f235, _, Tryz.func235, rfl, by kernel_rfl, by kernel_rfl⟩
theorem ok242 : FOk 242 f242 := ⟨Tryz.f242, _, Tryz.func242, rfl, by kernel_rfl, by kernel_rfl⟩
theorem ok246 : FOk 246 f246 := ⟨Tryz.f246, _, Tryz.func246, rfl, by kernel_rfl, by kernel_rfl⟩
theorem ok247 : FOk 247 f247 := ⟨Tryz.f247, _, Tryz.func247, rfl, by kernel_rfl, by kernel_rfl⟩
theorem ok248 : FOk 248 f248 := ⟨Tryz.f248, _, Tryz.func248, rfl, by kernel_rfl, by kernel_rfl⟩
theorem ok250 : FOk 250 f250 := ⟨Tryz.f250, _, Tryz.func250, rfl, by kernel_rfl, by kernel_rfl⟩
theorem ok251 : FOk 251 f251 := ⟨Tryz.f251, _, Tryz.func251, rfl, by kernel_rfl, by kernel_rfl⟩
theorem ok252 : FOk 252 f252 := ⟨Tryz.f252, _, Tryz.func252, rfl, by kernel_rfl, by kernel_rfl⟩
theorem ok253 : FOk 253 f253 := ⟨Tryz.f253, _, Tryz.func253, rfl, by kernel_rfl, by kernel_rfl⟩
theorem ok254 : FOk 254 f254 := ⟨Tryz.f254, _, Tryz.func254, rfl, by kernel_rfl, by kernel_rfl⟩
theorem ok255 : FOk 255 f255 := ⟨Tryz.f255, _, Tryz.func255, rfl, by kernel_rfl, by kernel_rfl⟩
theorem ok256 : FOk 256 f256 := ⟨Tryz.f256, _, Tryz.func256, rfl, by kernel_rfl, by kernel_rfl⟩
theorem ok257 : FOk 257 f257 := ⟨Tryz.f257, _, Tryz.func257, rfl, by kernel_rfl, by kernel_rfl⟩
theorem ok260 : FOk 260 f260 := ⟨Tryz.f260, _, Tryz.func260, rfl, by kernel_rfl, by kernel_rfl⟩
theorem ok261 : FOk 261 f261 := ⟨Tryz.f261, _, Tryz.func261, rfl, by kernel_rfl, by kernel_rfl⟩
theorem ok262 : FOk 262 f262 := ⟨Tryz.f262, _, Tryz.func262, rfl, by kernel_rfl, by kernel_rfl⟩
theorem ok263 : FOk 263 f263 := ⟨Tryz.f263, _, Tryz.func263, rfl, by kernel_rfl, by kernel_rfl⟩
theorem ok264 : FOk 264 f264 := ⟨Tryz.f264, _, Tryz.func264, rfl, by kernel_rfl, by kernel_rfl⟩
theorem ok265 : FOk 265 f265 := ⟨Tryz.f265, _, Tryz.func265, rfl, by kernel_rfl, by kernel_rfl⟩
theorem ok267 : FOk 267 f267 := ⟨Tryz.f267, _, Tryz.func267, rfl, by kernel_rfl, by kernel_rfl⟩
theorem ok268 : FOk 268 f268 := ⟨Tryz.f268, _, Tryz.func268, rfl, by kernel_rfl, by kernel_rfl⟩
theorem ok269 : FOk 269 f269 := ⟨Tryz.f269, _, Tryz.func269, rfl, by kernel_rfl, by kernel_rfl⟩
theorem ok270 : FOk 270 f270 := ⟨Tryz.f270, _, Tryz.func270, rfl, by kernel_rfl, by kernel_rfl⟩
theorem ok271 : FOk 271 f271 := ⟨Tryz.f271, _, Tryz.func271, rfl, by kernel_rfl, by kernel_rfl⟩
theorem ok272 : FOk 272 f272 := ⟨Tryz.f272, _, Tryz.func272, rfl, by kernel_rfl, by kernel_rfl⟩
theorem ok273 : FOk 273 f273 := ⟨Tryz.f273, _, Tryz.func273, rfl, by kernel_rfl, by kernel_rfl⟩
theorem ok274 : FOk 274 f274 := ⟨Tryz.f274, _, Tryz.func274, rfl, by kernel_rfl, by kernel_rfl⟩
theorem ok277 : FOk 277 f277 := ⟨Tryz.f277, _, Tryz.func277, rfl, by kernel_rfl, by kernel_rfl⟩
theorem ok278 : FOk 278 f278 := ⟨Tryz.f278, _, Tryz.func278, rfl, by kernel_rfl, by kernel_rfl⟩
theorem ok279 : FOk 279 f279 := ⟨Tryz.f279, _, Tryz.func279, rfl, by kernel_rfl, by kernel_rfl⟩
theorem ok280 : FOk 280 f280 := ⟨Tryz.f280, _, Tryz.func280, rfl, by kernel_rfl, by kernel_rfl⟩
theorem ok281 : FOk 281 f281 := ⟨Tryz.f281, _, Tryz.func281, rfl, by kernel_rfl, by kernel_rfl⟩
theorem ok283 : FOk 283 f283 := ⟨Tryz.f283, _, Tryz.func283, rfl, by kernel_rfl, by kernel_rfl⟩
theorem ok287 : FOk 287 f287 := ⟨Tryz.f287, _, Tryz.func287, rfl, by kernel_rfl, by kernel_rfl⟩
theorem ok288 : FOk 288 f288 := ⟨Tryz.f288, _, Tryz.func288, rfl, by kernel_rfl, by kernel_rfl⟩
theorem ok291 : FOk 291 f291 := ⟨Tryz.f291, _, Tryz.func291, rfl, by kernel_rfl, by kernel_rfl⟩
theorem ok292 : FOk 292 f292 := ⟨Tryz.f292, _, Tryz.func292, rfl, by kernel_rfl, by kernel_rfl⟩
theorem ok321 : FOk 321 f321 := ⟨Tryz.f321, _, Tryz.func321, rfl, by kernel_rfl, by kernel_rfl⟩
theorem tabT_ok : tabT.All FOk := ⟨ok119, ⟨ok59, ⟨ok31, ⟨ok17, ⟨ok10, ⟨ok6, ⟨ok4, ⟨ok3, trivial, trivial⟩, ⟨ok5, trivial, trivial⟩⟩, ⟨ok8, ⟨ok7, trivial, trivial⟩, ⟨ok9, trivial, trivial⟩⟩⟩, ⟨ok14, ⟨ok12, ⟨ok11, trivial, trivial⟩, ⟨ok13, trivial, trivial⟩⟩, ⟨ok16, ⟨ok15, trivial, trivial⟩, trivial⟩⟩⟩, ⟨ok24, ⟨ok21, ⟨ok19, ⟨ok18, trivial, trivial⟩, ⟨ok20, trivial, trivial⟩⟩, ⟨ok23, ⟨ok22, trivial, trivial⟩, trivial⟩⟩, ⟨ok28, ⟨ok26, ⟨ok25, trivial, trivial⟩, ⟨ok27, trivial, trivial⟩⟩, ⟨ok30, ⟨ok29, trivial, trivial⟩, trivial⟩⟩⟩⟩, ⟨ok45, ⟨ok38, ⟨ok35, ⟨ok33, ⟨ok32, trivial, trivial⟩, ⟨ok34, trivial, trivial⟩⟩, ⟨ok37, ⟨ok36, trivial, trivial⟩, trivial⟩⟩, ⟨ok42, ⟨ok40, ⟨ok39, trivial, trivial⟩, ⟨ok41, trivial, trivial⟩⟩, ⟨ok44, ⟨ok43, trivial, trivial⟩, trivial⟩⟩⟩, ⟨ok52, ⟨ok49, ⟨ok47, ⟨ok46, trivial, trivial⟩, ⟨ok48, trivial, trivial⟩⟩, ⟨ok51, ⟨ok50, trivial, trivial⟩, trivial⟩⟩, ⟨ok56, ⟨ok54, ⟨ok53, trivial, trivial⟩, ⟨ok55, trivial, trivial⟩⟩, ⟨ok58, ⟨ok57, trivial, trivial⟩, trivial⟩⟩⟩⟩⟩, ⟨ok88, ⟨ok74, ⟨ok66, ⟨ok63, ⟨ok61, ⟨ok60, trivial, trivial⟩, ⟨ok62, trivial, trivial⟩⟩, ⟨ok65, ⟨ok64, trivial, trivial⟩, trivial⟩⟩, ⟨ok70, ⟨ok68, ⟨ok67, trivial, trivial⟩, ⟨ok69, trivial, trivial⟩⟩, ⟨ok72, ⟨ok71, trivial, trivial⟩, trivial⟩⟩⟩, ⟨ok81, ⟨ok78, ⟨ok76, ⟨ok75, trivial, trivial⟩, ⟨ok77, trivial, trivial⟩⟩, ⟨ok80, ⟨ok79, trivial, trivial⟩, trivial⟩⟩, ⟨ok85, ⟨ok83, ⟨ok82, trivial, trivial⟩, ⟨ok84, trivial, trivial⟩⟩, ⟨ok87, ⟨ok86, trivial, trivial⟩, trivial⟩⟩⟩⟩, ⟨ok102, ⟨ok95, ⟨ok92, ⟨ok90, ⟨ok89, trivial, trivial⟩, ⟨ok91, trivial, trivial⟩⟩, ⟨ok94, ⟨ok93, trivial, trivial⟩, trivial⟩⟩, ⟨ok99, ⟨ok97, ⟨ok96, trivial, trivial⟩, ⟨ok98, trivial, trivial⟩⟩, ⟨ok101, ⟨ok100, trivial, trivial⟩, trivial⟩⟩⟩, ⟨ok109, ⟨ok106, ⟨ok104, ⟨ok103, trivial, trivial⟩, ⟨ok105, trivial, trivial⟩⟩, ⟨ok108, ⟨ok107, trivial, trivial⟩, trivial⟩⟩, ⟨ok116, ⟨ok114, ⟨ok110, trivial, trivial⟩, ⟨ok115, trivial, trivial⟩⟩, ⟨ok118, ⟨ok117, trivial, trivial⟩, trivial⟩⟩⟩⟩⟩⟩, ⟨ok211, ⟨ok165, ⟨ok137, ⟨ok129, ⟨ok123, ⟨ok121, ⟨ok120, trivial, trivial⟩, ⟨ok122, trivial, trivial⟩⟩, ⟨ok126, ⟨ok125, trivial, trivial⟩, ⟨ok128, trivial, trivial⟩⟩⟩, ⟨ok134, ⟨ok131, ⟨ok130, trivial, trivial⟩, ⟨ok132, trivial, trivial⟩⟩, ⟨ok136, ⟨ok135, trivial, trivial⟩, trivial⟩⟩⟩, ⟨ok156, ⟨ok150, ⟨ok147, ⟨ok143, trivial, trivial⟩, ⟨ok149, trivial, trivial⟩⟩, ⟨ok154, ⟨ok152, trivial, trivial⟩, trivial⟩⟩, ⟨ok160, ⟨ok158, ⟨ok157, trivial, trivial⟩, ⟨ok159, trivial, trivial⟩⟩, ⟨ok162, ⟨ok161, trivial, trivial⟩, trivial⟩⟩⟩⟩, ⟨ok185, ⟨ok173, ⟨ok169, ⟨ok167, ⟨ok166, trivial, trivial⟩, ⟨ok168, trivial, trivial⟩⟩, ⟨ok172, ⟨ok171, trivial, trivial⟩, trivial⟩⟩, ⟨ok182, ⟨ok180, ⟨ok179, trivial, trivial⟩, ⟨ok181, trivial, trivial⟩⟩, ⟨ok184, ⟨ok183, trivial, trivial⟩, trivial⟩⟩⟩, ⟨ok201, ⟨ok194, ⟨ok187, ⟨ok186, trivial, trivial⟩, ⟨ok193, trivial, trivial⟩⟩, ⟨ok200, ⟨ok199, trivial, trivial⟩, trivial⟩⟩, ⟨ok208, ⟨ok203, ⟨ok202, trivial, trivial⟩, ⟨ok207, trivial, trivial⟩⟩, ⟨ok210, ⟨ok209, trivial, trivial⟩, trivial⟩⟩⟩⟩⟩, ⟨ok255, ⟨ok231, ⟨ok219, ⟨ok216, ⟨ok214, ⟨ok212, trivial, trivial⟩, ⟨ok215, trivial, trivial⟩⟩, ⟨ok218, ⟨ok217, trivial, trivial⟩, trivial⟩⟩, ⟨ok223, ⟨ok221, ⟨ok220, trivial, trivial⟩, ⟨ok222, trivial, trivial⟩⟩, ⟨ok228, ⟨ok227, trivial, trivial⟩, trivial⟩⟩⟩, ⟨ok247, ⟨ok235, ⟨ok233, ⟨ok232, trivial, trivial⟩, ⟨ok234, trivial, trivial⟩⟩, ⟨ok246, ⟨ok242, trivial, trivial⟩, trivial⟩⟩, ⟨ok252, ⟨ok250, ⟨ok248, trivial, trivial⟩, ⟨ok251, trivial, trivial⟩⟩, ⟨ok254, ⟨ok253, trivial, trivial⟩, trivial⟩⟩⟩⟩, ⟨ok272, ⟨ok264, ⟨ok261, ⟨ok257, ⟨ok256, trivial, trivial⟩, ⟨ok260, trivial, trivial⟩⟩, ⟨ok263, ⟨ok262, trivial, trivial⟩, trivial⟩⟩, ⟨ok269, ⟨ok267, ⟨ok265, trivial, trivial⟩, ⟨ok268, trivial, trivial⟩⟩, ⟨ok271, ⟨ok270, trivial, trivial⟩, trivial⟩⟩⟩, ⟨ok281, ⟨ok278, ⟨ok274, ⟨ok273, trivial, trivial⟩, ⟨ok277, trivial, trivial⟩⟩, ⟨ok280, ⟨ok279, trivial, trivial⟩, trivial⟩⟩, ⟨ok291, ⟨ok287, ⟨ok283, trivial, trivial⟩, ⟨ok288, trivial, trivial⟩⟩, ⟨ok321, ⟨ok292, trivial, trivial⟩, trivial⟩⟩⟩⟩⟩⟩⟩
end Go.Am.K19

namespace Go.Am.K19
open Go Go.Am Go.Am.L Go.Am.K Go.Proofs
set_option maxRecDepth 1000000
/-- What is known is so. -/
def FactsOk (M : Nat → List AV → Option (AV × List Ent)) : Prop := ∀ f a r, M f a = some r → PureFact Tryz.prog glob f a r ∧ ∃ fn c, Tryz.prog.funcs[f]? = some fn ∧ fn.body = some c
noncomputable def addM (f : Nat) (l : Known) (M : Nat → List AV → Option (AV × List Ent)) : Nat → List AV → Option (AV × List Ent) := fun g a => cond (Nat.beq g f) (match findA l a with | some r => some r | none => M g a) (M g a)
theorem facts_none : FactsOk (fun _ _ => none) := fun _ _ _ h => by cases h
theorem lf_ok {f : Nat} {lf : LF} (h : tabT.get f = some lf) : FOk f lf := Tr.get_all tabT_ok h
theorem tabOk {M : Nat → List AV → Option (AV × List Ent)} (h : FactsOk M) : TabOk Tryz.prog glob tabT.get M where
  lf := fun f lf fn c h1 h2 h3 => by
    obtain ⟨fn', c', e1, e2, e3⟩ := lf_ok h1
    rw [h2] at e1; cases e1
    rw [h3] at e2; cases e2
    exact e3
  fact := fun f a r hM => (h f a r hM).1
theorem tabK {M : Nat → List AV → Option (AV × List Ent)} (h : FactsOk M) : TabK Tryz.prog tabT.get M where
  lf := fun f lf h1 => by
    obtain ⟨fn, c, e1, e2, e3⟩ := lf_ok h1
    exact ⟨fn, c, e1, e2, e3.2⟩
  fact := fun f a r hM => (h f a r hM).2
theorem facts_add {f : Nat} {l : Known} {M : Nat → List AV → Option (AV × List Ent)} (hM : FactsOk M) (hf : ∃ fn c, Tryz.prog.funcs[f]? = some fn ∧ fn.body = some c) (hl : ∀ e ∈ l, PureFact Tryz.prog glob f e.1 e.2) : FactsOk (addM f l M) := by
  intro g a r h
  simp only [addM, natBeq] at h
  by_cases hg : g = f
  · subst hg
    simp only [decide_true, cond_true] at h
    split at h
    · rename_i r' hr
      cases h
      exact ⟨hl _ (findA_mem hr), hf⟩
    · exact hM g a r h
  · simp only [hg, decide_false, cond_false] at h
    exact hM g a r h
theorem facts_addK {f : Nat} {l : Known} {M : Nat → List AV → Option (AV × List Ent)} {fuel : Nat} (hM : FactsOk M) (hf : ∃ fn c, Tryz.prog.funcs[f]? = some fn ∧ fn.body = some c) (hy : Nat.ble (Nat.succ f) yieldBase = true) (h : l.all (factK Tryz.prog tabT.get fl M fuel f) = true) : FactsOk (addM f l M) :=
  facts_add hM hf fun e he => factK_sound envOk globOk (tabOk hM) (tabK hM) (fun _ _ h => h) hy (List.all_eq_true.1 h e he)
theorem facts_addP {f : Nat} {l : Known} {M : Nat → List AV → Option (AV × List Ent)} {fuel : Nat} (hM : FactsOk M) (hf : ∃ fn c, Tryz.prog.funcs[f]? = some fn ∧ fn.body = some c) (hy : Nat.ble (Nat.succ f) yieldBase = true) (h : l.all (factP E tabT.get fl M fuel f) = true) : FactsOk (addM f l M) :=
  facts_add hM hf fun e he => factP_sound envOk globOk (tabOk hM) hy (List.all_eq_true.1 h e he)
end Go.Am.K19
