/- These arguments and results are so: by the kernel, first part. -/
import Derived.Test.YtccedlpflmmjjaaGreatDoorCo3
import Derived.Test.YtccedlpflmmjjaaGreatDoorTa1
namespace Go.Am.K19
open Go Go.Am Go.Am.L Go.Am.K Go.Proofs
set_option maxRecDepth 1000000
noncomputable def M0 : Nat → List AV → Option (AV × List Ent) := fun _ _ => none
theorem F0 : FactsOk M0 := facts_none
theorem q0 : m0.all (factP E tabT.get fl M0 400 73) = true := by kernel_rfl
noncomputable def M1 := addM 73 m0 M0
theorem F1 : FactsOk M1 := facts_addP F0 ⟨_, _, Tryz.func73, rfl⟩ (by kernel_rfl) q0
theorem q1 : m1.all (factK Tryz.prog tabT.get fl M1 400 107) = true := by kernel_rfl
noncomputable def M2 := addM 107 m1 M1
theorem F2 : FactsOk M2 := facts_addK F1 ⟨_, _, Tryz.func107, rfl⟩ (by kernel_rfl) q1
theorem q2 : m2.all (factK Tryz.prog tabT.get fl M2 400 108) = true := by kernel_rfl
noncomputable def M3 := addM 108 m2 M2
theorem F3 : FactsOk M3 := facts_addK F2 ⟨_, _, Tryz.func108, rfl⟩ (by kernel_rfl) q2
theorem q3 : m3.all (factK Tryz.prog tabT.get fl M3 400 120) = true := by kernel_rfl
noncomputable def M4 := addM 120 m3 M3
theorem F4 : FactsOk M4 := facts_addK F3 ⟨_, _, Tryz.func120, rfl⟩ (by kernel_rfl) q3
theorem q4 : m4.all (factK Tryz.prog tabT.get fl M4 400 71) = true := by kernel_rfl
noncomputable def M5 := addM 71 m4 M4
theorem F5 : FactsOk M5 := facts_addK F4 ⟨_, _, Tryz.func71, rfl⟩ (by kernel_rfl) q4
theorem q5 : m5.all (factK Tryz.prog tabT.get fl M5 400 71) = true := by kernel_rfl
noncomputable def M6 := addM 71 m5 M5
theorem F6 : FactsOk M6 := facts_addK F5 ⟨_, _, Tryz.func71, rfl⟩ (by kernel_rfl) q5
theorem q6 : m6.all (factK Tryz.prog tabT.get fl M6 400 40) = true := by kernel_rfl
noncomputable def M7 := addM 40 m6 M6
theorem F7 : FactsOk M7 := facts_addK F6 ⟨_, _, Tryz.func40, rfl⟩ (by kernel_rfl) q6
theorem q7 : m7.all (factP E tabT.get fl M7 400 116) = true := by kernel_rfl
noncomputable def M8 := addM 116 m7 M7
theorem F8 : FactsOk M8 := facts_addP F7 ⟨_, _, Tryz.func116, rfl⟩ (by kernel_rfl) q7
theorem q8 : m8.all (factK Tryz.prog tabT.get fl M8 400 76) = true := by kernel_rfl
noncomputable def M9 := addM 76 m8 M8
theorem F9 : FactsOk M9 := facts_addK F8 ⟨_, _, Tryz.func76, rfl⟩ (by kernel_rfl) q8
theorem q9 : m9.all (factK Tryz.prog tabT.get fl M9 400 24) = true := by kernel_rfl
noncomputable def M10 := addM 24 m9 M9
theorem F10 : FactsOk M10 := facts_addK F9 ⟨_, _, Tryz.func24, rfl⟩ (by kernel_rfl) q9
theorem q10 : m10.all (factK Tryz.prog tabT.get fl M10 400 15) = true := by kernel_rfl
noncomputable def M11 := addM 15 m10 M10
theorem F11 : FactsOk M11 := facts_addK F10 ⟨_, _, Tryz.func15, rfl⟩ (by kernel_rfl) q10
theorem q11 : m11.all (factK Tryz.prog tabT.get fl M11 400 16) = true := by kernel_rfl
noncomputable def M12 := addM 16 m11 M11
theorem F12 : FactsOk M12 := facts_addK F11 ⟨_, _, Tryz.func16, rfl⟩ (by kernel_rfl) q11
theorem q12 : m12.all (factK Tryz.prog tabT.get fl M12 400 98) = true := by kernel_rfl
noncomputable def M13 := addM 98 m12 M12
theorem F13 : FactsOk M13 := facts_addK F12 ⟨_, _, Tryz.func98, rfl⟩ (by kernel_rfl) q12
theorem q13 : m13.all (factK Tryz.prog tabT.get fl M13 400 159) = true := by kernel_rfl
noncomputable def M14 := addM 159 m13 M13
theorem F14 : FactsOk M14 := facts_addK F13 ⟨_, _, Tryz.func159, rfl⟩ (by kernel_rfl) q13
theorem q14 : m14.all (factK Tryz.prog tabT.get fl M14 400 114) = true := by kernel_rfl
noncomputable def M15 := addM 114 m14 M14
theorem F15 : FactsOk M15 := facts_addK F14 ⟨_, _, Tryz.func114, rfl⟩ (by kernel_rfl) q14
theorem q15 : m15.all (factP E tabT.get fl M15 400 155) = true := by kernel_rfl
noncomputable def M16 := addM 155 m15 M15
theorem F16 : FactsOk M16 := facts_addP F15 ⟨_, _, Tryz.func155, rfl⟩ (by kernel_rfl) q15
theorem q16 : m16.all (factP E tabT.get fl M16 400 113) = true := by kernel_rfl
noncomputable def M17 := addM 113 m16 M16
theorem F17 : FactsOk M17 := facts_addP F16 ⟨_, _, Tryz.func113, rfl⟩ (by kernel_rfl) q16
theorem q17 : m17.all (factK Tryz.prog tabT.get fl M17 400 72) = true := by kernel_rfl
noncomputable def M18 := addM 72 m17 M17
theorem F18 : FactsOk M18 := facts_addK F17 ⟨_, _, Tryz.func72, rfl⟩ (by kernel_rfl) q17
theorem q18 : m18.all (factK Tryz.prog tabT.get fl M18 400 169) = true := by kernel_rfl
noncomputable def M19 := addM 169 m18 M18
theorem F19 : FactsOk M19 := facts_addK F18 ⟨_, _, Tryz.func169, rfl⟩ (by kernel_rfl) q18
theorem q19 : m19.all (factK Tryz.prog tabT.get fl M19 400 121) = true := by kernel_rfl
noncomputable def M20 := addM 121 m19 M19
theorem F20 : FactsOk M20 := facts_addK F19 ⟨_, _, Tryz.func121, rfl⟩ (by kernel_rfl) q19
end Go.Am.K19
