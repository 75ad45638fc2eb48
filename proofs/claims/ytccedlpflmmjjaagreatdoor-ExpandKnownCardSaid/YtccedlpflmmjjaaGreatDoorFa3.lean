/- These arguments and results are so: by the kernel, third part. -/
import Derived.Test.YtccedlpflmmjjaaGreatDoorFa2
namespace Go.Am.K19
open Go Go.Am Go.Am.L Go.Am.K Go.Proofs
set_option maxRecDepth 1000000
theorem q35 : m35.all (factK Tryz.prog tabT.get fl M35 400 13) = true := by kernel_rfl
noncomputable def M36 := addM 13 m35 M35
theorem F36 : FactsOk M36 := facts_addK F35 ⟨_, _, Tryz.func13, rfl⟩ (by kernel_rfl) q35
theorem q36 : m36.all (factK Tryz.prog tabT.get fl M36 400 13) = true := by kernel_rfl
noncomputable def M37 := addM 13 m36 M36
theorem F37 : FactsOk M37 := facts_addK F36 ⟨_, _, Tryz.func13, rfl⟩ (by kernel_rfl) q36
theorem q37 : m37.all (factK Tryz.prog tabT.get fl M37 400 13) = true := by kernel_rfl
noncomputable def M38 := addM 13 m37 M37
theorem F38 : FactsOk M38 := facts_addK F37 ⟨_, _, Tryz.func13, rfl⟩ (by kernel_rfl) q37
theorem q38 : m38.all (factK Tryz.prog tabT.get fl M38 400 13) = true := by kernel_rfl
noncomputable def M39 := addM 13 m38 M38
theorem F39 : FactsOk M39 := facts_addK F38 ⟨_, _, Tryz.func13, rfl⟩ (by kernel_rfl) q38
theorem q39 : m39.all (factK Tryz.prog tabT.get fl M39 400 13) = true := by kernel_rfl
noncomputable def M40 := addM 13 m39 M39
theorem F40 : FactsOk M40 := facts_addK F39 ⟨_, _, Tryz.func13, rfl⟩ (by kernel_rfl) q39
theorem q40 : m40.all (factK Tryz.prog tabT.get fl M40 400 13) = true := by kernel_rfl
noncomputable def M41 := addM 13 m40 M40
theorem F41 : FactsOk M41 := facts_addK F40 ⟨_, _, Tryz.func13, rfl⟩ (by kernel_rfl) q40
theorem q41 : m41.all (factK Tryz.prog tabT.get fl M41 400 13) = true := by kernel_rfl
noncomputable def M42 := addM 13 m41 M41
theorem F42 : FactsOk M42 := facts_addK F41 ⟨_, _, Tryz.func13, rfl⟩ (by kernel_rfl) q41
end Go.Am.K19
