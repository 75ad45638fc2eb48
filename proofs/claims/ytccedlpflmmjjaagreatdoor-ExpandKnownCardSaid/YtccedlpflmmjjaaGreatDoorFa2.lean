/- These arguments and results are so: by the kernel, second part. -/
import Derived.Test.YtccedlpflmmjjaaGreatDoorFa1
namespace Go.Am.K19
open Go Go.Am Go.Am.L Go.Am.K Go.Proofs
set_option maxRecDepth 1000000
theorem q20 : m20.all (factP E tabT.get fl M20 400 206) = true := by kernel_rfl
noncomputable def M21 := addM 206 m20 M20
theorem F21 : FactsOk M21 := facts_addP F20 ⟨_, _, Tryz.func206, rfl⟩ (by kernel_rfl) q20
theorem q21 : m21.all (factP E tabT.get fl M21 400 206) = true := by kernel_rfl
noncomputable def M22 := addM 206 m21 M21
theorem F22 : FactsOk M22 := facts_addP F21 ⟨_, _, Tryz.func206, rfl⟩ (by kernel_rfl) q21
theorem q22 : m22.all (factP E tabT.get fl M22 400 206) = true := by kernel_rfl
noncomputable def M23 := addM 206 m22 M22
theorem F23 : FactsOk M23 := facts_addP F22 ⟨_, _, Tryz.func206, rfl⟩ (by kernel_rfl) q22
theorem q23 : m23.all (factP E tabT.get fl M23 400 206) = true := by kernel_rfl
noncomputable def M24 := addM 206 m23 M23
theorem F24 : FactsOk M24 := facts_addP F23 ⟨_, _, Tryz.func206, rfl⟩ (by kernel_rfl) q23
theorem q24 : m24.all (factK Tryz.prog tabT.get fl M24 400 168) = true := by kernel_rfl
noncomputable def M25 := addM 168 m24 M24
theorem F25 : FactsOk M25 := facts_addK F24 ⟨_, _, Tryz.func168, rfl⟩ (by kernel_rfl) q24
theorem q25 : m25.all (factK Tryz.prog tabT.get fl M25 400 168) = true := by kernel_rfl
noncomputable def M26 := addM 168 m25 M25
theorem F26 : FactsOk M26 := facts_addK F25 ⟨_, _, Tryz.func168, rfl⟩ (by kernel_rfl) q25
theorem q26 : m26.all (factK Tryz.prog tabT.get fl M26 400 168) = true := by kernel_rfl
noncomputable def M27 := addM 168 m26 M26
theorem F27 : FactsOk M27 := facts_addK F26 ⟨_, _, Tryz.func168, rfl⟩ (by kernel_rfl) q26
theorem q27 : m27.all (factK Tryz.prog tabT.get fl M27 400 168) = true := by kernel_rfl
noncomputable def M28 := addM 168 m27 M27
theorem F28 : FactsOk M28 := facts_addK F27 ⟨_, _, Tryz.func168, rfl⟩ (by kernel_rfl) q27
theorem q28 : m28.all (factP E tabT.get fl M28 400 123) = true := by kernel_rfl
noncomputable def M29 := addM 123 m28 M28
theorem F29 : FactsOk M29 := facts_addP F28 ⟨_, _, Tryz.func123, rfl⟩ (by kernel_rfl) q28
theorem q29 : m29.all (factP E tabT.get fl M29 400 123) = true := by kernel_rfl
noncomputable def M30 := addM 123 m29 M29
theorem F30 : FactsOk M30 := facts_addP F29 ⟨_, _, Tryz.func123, rfl⟩ (by kernel_rfl) q29
theorem q30 : m30.all (factK Tryz.prog tabT.get fl M30 400 74) = true := by kernel_rfl
noncomputable def M31 := addM 74 m30 M30
theorem F31 : FactsOk M31 := facts_addK F30 ⟨_, _, Tryz.func74, rfl⟩ (by kernel_rfl) q30
theorem q31 : m31.all (factP E tabT.get fl M31 400 249) = true := by kernel_rfl
noncomputable def M32 := addM 249 m31 M31
theorem F32 : FactsOk M32 := facts_addP F31 ⟨_, _, Tryz.func249, rfl⟩ (by kernel_rfl) q31
theorem q32 : m32.all (factP E tabT.get fl M32 400 127) = true := by kernel_rfl
noncomputable def M33 := addM 127 m32 M32
theorem F33 : FactsOk M33 := facts_addP F32 ⟨_, _, Tryz.func127, rfl⟩ (by kernel_rfl) q32
theorem q33 : m33.all (factP E tabT.get fl M33 400 174) = true := by kernel_rfl
noncomputable def M34 := addM 174 m33 M33
theorem F34 : FactsOk M34 := facts_addP F33 ⟨_, _, Tryz.func174, rfl⟩ (by kernel_rfl) q33
theorem q34 : m34.all (factP E tabT.get fl M34 400 124) = true := by kernel_rfl
noncomputable def M35 := addM 124 m34 M34
theorem F35 : FactsOk M35 := facts_addP F34 ⟨_, _, Tryz.func124, rfl⟩ (by kernel_rfl) q34
end Go.Am.K19
