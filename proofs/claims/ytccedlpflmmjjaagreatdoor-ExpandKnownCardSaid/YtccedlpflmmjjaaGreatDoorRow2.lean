/- The given statement, of the run: the closed facts of the row, and its card. -/
import Derived.Test.YtccedlpflmmjjaaGreatDoorRow1
namespace Go.Am.K19
open Go Go.Am Go.Am.L Go.Am.K Go.Proofs
open Go.Proofs.YtccedlpflmmjjaaGreatDoor (Tryz.pinned Rows.expandKnownRow Rows.expandKnownSpec)
set_option maxRecDepth 1000000
theorem j0 : (Rows.expandKnownRow.wf (OpenSpec.ofChange Rows.expandKnownSpec)) = true := by kernel_rfl
theorem j1 : (laidOutB Tryz.prog) = true := by kernel_rfl
theorem j2 : (mapsRowed Tryz.prog) = true := by kernel_rfl
theorem j3 : (Tryz.f3.params.all (Tryz.prog.readableRec ·)) = true := by kernel_rfl
theorem j4 : (namedTie Tryz.prog Rows.expandKnownRow.named Rows.expandKnownSpec.vars) = true := by kernel_rfl
theorem j5 : ((Rows.expandKnownRow.stops == [])) = true := by kernel_rfl
theorem j6 : ((Tryz.prog.stops == [])) = true := by kernel_rfl
theorem j7 : ((Rows.expandKnownRow.knobs == [])) = true := by kernel_rfl
theorem j8 : ((Tryz.prog.stopKnobs == [])) = true := by kernel_rfl
theorem j9 : ((Rows.expandKnownRow.inPlace == Tryz.prog.inPlace 3)) = true := by kernel_rfl
theorem j10 : ((Rows.expandKnownRow.unfollowed == Tryz.prog.unfollowed 3)) = true := by kernel_rfl
theorem j11 : ((Rows.expandKnownRow.recurses == Tryz.prog.recurses 3)) = true := by kernel_rfl
theorem j12 : ((Rows.expandKnownRow.named == Tryz.prog.varsNamed 3)) = true := by kernel_rfl
theorem j13 : ((Rows.expandKnownRow.plainKeys == Tryz.prog.plainKeys)) = true := by kernel_rfl
theorem j14 : (Tryz.prog.stopsHeard) = true := by kernel_rfl
theorem j15 : (Tryz.prog.mayEnter) = true := by kernel_rfl
theorem j16 : ((Rows.expandKnownRow.lifted == Tryz.prog.liftsFinal)) = true := by kernel_rfl
theorem j17 : ((Tryz.prog.make == some Rows.expandKnownRow.make)) = true := by kernel_rfl
theorem joined : joinedFacts Tryz.prog 3 Tryz.f3 Rows.expandKnownSpec Rows.expandKnownRow = true := by
  unfold joinedFacts
  rw [j0, j1, j2, j3, j4, j5, j6, j7, j8, j9, j10, j11, j12, j13, j14, j15, j16, j17]
  kernel_rfl
theorem said (law : Law) : Go.Proofs.YtccedlpflmmjjaaGreatDoor.Rows.ExpandKnownSaid :=
  OpenClaim.holds_of_wide 3 Tryz.f3 rfl rfl rfl rfl rfl rfl rfl ⟨rfl, rfl, rfl, rfl, rfl⟩ rfl rfl rfl rfl rfl (by kernel_rfl) Tryz.func3 joined
    (of_decide_eq_true (by kernel_rfl)) (by unfold Func.isWrapper; rw [if_neg (of_decide_eq_false (by kernel_rfl))]; exact ⟨rfl, rfl⟩)
    (fun os started H enc _ => law_lifted law os started H enc)

theorem card (law : Law) : Go.Proofs.YtccedlpflmmjjaaGreatDoor.Rows.ExpandKnownCardSaid :=
  Claim7.holds_tied_plain_at .later [] [.data, .handle, .data, .pinned] true (true, "a0e166838853feddcbfe11b6322616abd27464893874428d09acd2f951d5e18c") true
    (said law) (fun _ h => by cases h) (by kernel_rfl) (fun _ h => by cases h) Go.Proofs.YtccedlpflmmjjaaGreatDoor.expandKnown_row_tie rfl ⟨rfl, rfl⟩ (by kernel_rfl) rfl
    (fun f fn hf hfn => by
      obtain rfl : f = 3 := Option.some.inj ((show Tryz.prog.funcNamed "mummer/mummerlaw19.ExpandKnown" = some 3 by kernel_rfl).symm.trans hf) |>.symm
      obtain rfl : fn = Tryz.f3 := (Option.some.inj (Tryz.func3.symm.trans hfn)).symm
      exact ⟨by kernel_rfl, fun j t ht => by
        rw [Tryz.params3] at ht
        simp at ht⟩)
    (by kernel_rfl)
end Go.Am.K19
