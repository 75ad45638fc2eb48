/- mummerlaw19.ExpandKnown returns true, with no condition but the given card's own: the listed package-level variables hold their data. -/
import Derived.Test.YtccedlpflmmjjaaGreatDoorFa3
import Derived.Test.YtccedlpflmmjjaaGreatDoorRow2
namespace Go.Am.K19
open Go Go.Am Go.Am.L Go.Am.K Go.Proofs
set_option maxRecDepth 1000000
noncomputable def isT (r : Option CR) : Bool := match r with
  | some c => (match c with
    | .ret v _ _ _ => (match v with | .bool b => b | _ => false)
    | .pan _ _ _ _ => false)
  | none => false
theorem final : isT (enterK Tryz.prog (callK Tryz.prog tabT.get fl M42 400) 400 f3 [] .run 0 []) = true := by kernel_rfl
theorem law : Law := by
  intro W hW
  have hfin := final
  unfold isT at hfin
  split at hfin
  · rename_i c hc
    split at hfin
    · rename_i v md n l
      split at hfin
      · rename_i b
        subst hfin
        have hT := tabOk F42
        have hK := tabK F42
        obtain ⟨fn, c, hfn, hb, hok⟩ := ok3
        have hcall := callP_sound envOk globOk (fl := fl) hT 400
        have h1 := enterK_sound (E := E) (fn := fn) (callK_sound (E := E) (fun _ _ h => h) hK 400) (fun _ _ h => h) hok.2 hc LOk_nil
        obtain ⟨h2, _⟩ := h1
        simp only [toS] at h2
        have h3 := enterL_cl (E := E) (fun a b h => avb_sound 64 a b h) h2
        have hrefl : ∀ v, E.cl.eqv v v = true := fun v => by simp [Env.cl]
        have h4 := enterL_sound (E := E.cl) hrefl hok h3
        have hdreg : DregOk Tryz.prog glob E.cl (callP E tabT.get fl M42 400) := dreg_ok rfl (fun a b h => by simpa [Env.cl] using h) mix hcall
        have h5 := enter_calls (P := Tryz.prog) (G := glob) (E := E.cl) rfl rfl hcall hdreg 400 hfn hb h4 (rel0 hW) (cargs := #[]) VRs.nil
        refine h5.mono fun e W' he => ?_
        cases e with
        | returned c =>
          obtain ⟨X', e1, e2, e3⟩ := he
          cases e3
          exact ⟨rfl, kept_of_ext e1⟩
        | _ => exact absurd he id
      · cases hfin
    · cases hfin
  · cases hfin
end Go.Am.K19
namespace Go.Proofs.YtccedlpflmmjjaaGreatDoor
/-- mummerlaw19.ExpandKnown returns true. -/
theorem expandKnown_holds : Rows.ExpandKnownCardSaid := Go.Am.K19.card Go.Am.K19.law
#print axioms expandKnown_holds
end Go.Proofs.YtccedlpflmmjjaaGreatDoor
