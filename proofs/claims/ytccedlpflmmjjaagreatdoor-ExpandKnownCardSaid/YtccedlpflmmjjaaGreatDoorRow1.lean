/- The given statement, of the run: the condition, a start that meets it, the contract. -/
import Derived.Test.YtccedlpflmmjjaaGreatDoorCo3
import Derived.Test.YtccedlpflmmjjaaGreatDoorAm6
import Derived.Test.YtccedlpflmmjjaaGreatDoorRows
import Derived.Test.YtccedlpflmmjjaaGreatDoorTie
import Derived.Test.YtccedlpflmmjjaaGreatDoorCards
import Derived.ChangeSame
import Derived.ChangeVars
import Derived.JoinedOf
import Derived.RowKit
import Derived.LaidLaws
import Derived.LaidHandle
import Derived.Lay
import Derived.Lib.LaidU8
import Derived.SevenTiedAt
namespace Go.Am.K19
open Go Go.Am Go.Am.L Go.Am.K Go.Proofs
open Go.Proofs.YtccedlpflmmjjaaGreatDoor (Tryz.pinned Rows.laid_unicode_utf8_acceptRanges Rows.laid_errors_errorType Rows.laid_mummer_forms_table Rows.laid_unicode_utf8_first Rows.expandKnownRow Rows.expandKnownSpec)
open Go.ChangeShapes Go.WideShapes Go.RowKit
set_option maxRecDepth 1000000

def laid : List (String × DataW Unit) := Rows.expandKnownRow.laid
def dataL : List (String × DataW Unit) := [("unicode/utf8.acceptRanges", Rows.laid_unicode_utf8_acceptRanges), ("mummer/forms.table", Rows.laid_mummer_forms_table), ("unicode/utf8.first", Rows.laid_unicode_utf8_first)]
theorem laid_data : laid.filter (fun x => x.2.handleName?.isNone) = dataL := by kernel_rfl
theorem table_data : Rows.laid_mummer_forms_table (H := Unit) = .agg (table.map fun p => .agg [.lit (.string (p.1.map UInt8.ofNat)), .lit (.int .i64 p.2.1), .lit (.int .i64 p.2.2)]) := by kernel_rfl

theorem data_of {W : World} (h : laidMetH Tryz.prog laid W) : laidMet Tryz.prog dataL W := by
  unfold laidMetH at h
  split at h
  · rename_i he
    have : (laid.filter fun x => x.2.handleName?.isSome).length = 0 := by rw [he]; rfl
    have h2 : (laid.filter fun x => x.2.handleName?.isSome).length = 1 := by kernel_rfl
    omega
  · rw [laid_data] at h
    exact h.1

theorem gTable : Tryz.prog.globalNamed "mummer/forms.table" = some 0 := by kernel_rfl
theorem tTable : (Tryz.prog.globals[0]?).map (·.type) = some 159 := by kernel_rfl
theorem c158 : Tryz.prog.cellsOf 158 = 3 := by kernel_rfl
theorem c9 : Tryz.prog.cellsOf 9 = 1 := by kernel_rfl
theorem c3 : Tryz.prog.cellsOf 3 = 1 := by kernel_rfl

/-- What the variable's cells hold. -/
theorem table_cells {W : World} (h : laidMet Tryz.prog dataL W) : ∀ i p, table[i]? = some p → (∃ s, cellAt W 0 (i * 3) = some (.string s) ∧ bytesN s = p.1) ∧ cellAt W 0 (i * 3 + 1) = some (.int .i64 p.2.1) ∧ cellAt W 0 (i * 3 + 2) = some (.int .i64 p.2.2) := by
  intro i p hp
  obtain ⟨g, t, cs, fuel, q, hg, hty, hvar, hd⟩ := Lib.laidMet.reads h (n := "mummer/forms.table") (d := Rows.laid_mummer_forms_table) (by simp [dataL])
  obtain rfl := Option.some.inj (gTable.symm.trans hg)
  obtain rfl := Option.some.inj (tTable.symm.trans hty)
  rw [table_data] at hd
  have hi : i < 19 := by
    have := (List.getElem?_eq_some_iff.1 hp).1
    exact this
  obtain ⟨fuel', d, q', hdi, he⟩ := Lib.array_elem Tryz.underlying159 hd i hi
  rw [List.getElem?_map, hp, Option.map_some] at hdi
  obtain rfl := Option.some.inj hdi
  rw [c158] at he
  obtain ⟨xs, n, _, hx, _, hxl, hall⟩ := DataW.trod_struct Tryz.underlying158 he
  have hxs := congrArg Prod.fst hx
  simp only [DataW.agg.injEq] at hxs
  have h0 := hall 0 _ (by rfl)
  have h1 := hall 1 _ (by rfl)
  have h2 := hall 2 _ (by rfl)
  replace h0 : DataW.trod _ _ _ _ _ _ n 9 (List.take (Tryz.prog.cellsOf 9) (List.drop 0 _)) = xs[0]? := h0
  replace h1 : DataW.trod _ _ _ _ _ _ n 3 (List.take (Tryz.prog.cellsOf 3) (List.drop 1 _)) = xs[1]? := h1
  replace h2 : DataW.trod _ _ _ _ _ _ n 3 (List.take (Tryz.prog.cellsOf 3) (List.drop 2 _)) = xs[2]? := h2
  rw [c9] at h0
  rw [c3] at h1 h2
  have hx3 : xs.length = 3 := hxl
  obtain ⟨a, b, c, rfl⟩ : ∃ a b c, xs = [a, b, c] := by
    match xs, hx3 with
    | [a, b, c], _ => exact ⟨a, b, c, rfl⟩
  simp only [List.map_cons, List.map_nil, List.cons.injEq, and_true] at hxs
  obtain ⟨ha, hb, hc⟩ := hxs
  obtain ⟨s, e0, x0, _⟩ := DataW.trod_string Tryz.underlying9 h0
  obtain ⟨n1, e1, x1, _⟩ := DataW.trod_int Tryz.underlying3 h1
  obtain ⟨n2, e2, x2, _⟩ := DataW.trod_int Tryz.underlying3 h2
  subst x0 x1 x2
  simp only [DataW.lit.injEq, Lit.int.injEq, Lit.string.injEq, true_and] at ha hb hc
  have cell : ∀ k v, ((cs.toList.drop (i * 3)).take 3)[k]? = some v → cellAt W 0 (i * 3 + k) = some v := by
    intro k v hk
    show W.cell? ⟨0, i * 3 + k, none⟩ = some v
    rw [World.var?_cell hg hvar (i * 3 + k), ← Array.getElem?_toList]
    rw [List.getElem?_take] at hk
    split at hk
    · rw [List.getElem?_drop] at hk; exact hk
    · cases hk
  have f0 := congrArg (·[0]?) e0
  have f1 := congrArg (·[0]?) e1
  have f2 := congrArg (·[0]?) e2
  simp only [List.getElem?_take, List.getElem?_drop] at f0 f1 f2
  refine ⟨⟨s, ?_, ?_⟩, ?_, ?_⟩
  · refine cell 0 _ ?_
    simpa [List.getElem?_take, List.getElem?_drop] using f0
  · unfold bytesN
    rw [← ha]
    have hb : ∀ p ∈ table, (p.1.map UInt8.ofNat).map (·.toNat) = p.1 := by decide
    exact hb p (List.mem_of_getElem? hp)
  · rw [hb]
    refine cell 1 _ ?_
    simpa [List.getElem?_take, List.getElem?_drop] using f1
  · rw [hc]
    refine cell 2 _ ?_
    simpa [List.getElem?_take, List.getElem?_drop] using f2

theorem rows_vr {X : Ctx} {W : World} : ∀ (tab : List (List Nat × Int × Int)) (off : Nat), (∀ i p, tab[i]? = some p → (∃ s, cellAt W 0 (off + i * 3) = some (.string s) ∧ bytesN s = p.1) ∧ cellAt W 0 (off + (i * 3 + 1)) = some (.int .i64 p.2.1) ∧ cellAt W 0 (off + (i * 3 + 2)) = some (.int .i64 p.2.2)) →
    ∀ j (h : j < (rowOf tab).length), ∃ c, cellAt W 0 (off + j) = some c ∧ VR X W (rowOf tab)[j] c := by
  intro tab
  induction tab with
  | nil => intro off _ j h; simp [rowOf] at h
  | cons p tab ih =>
    intro off H j h
    obtain ⟨⟨s, a1, a2⟩, b, c⟩ := H 0 p rfl
    match j, h with
    | 0, _ => exact ⟨.string s, by simpa using a1, by rw [show (rowOf (p :: tab))[0] = .str p.1 from rfl, ← a2]; exact .str s⟩
    | 1, _ => exact ⟨_, by simpa using b, .int _ _⟩
    | 2, _ => exact ⟨_, by simpa using c, .int _ _⟩
    | j + 3, h =>
      have h' : j < (rowOf tab).length := by simpa [rowOf] using h
      obtain ⟨c, e1, e2⟩ := ih (off + 3) (fun i q hq => by
        obtain ⟨⟨s, a1, a2⟩, b, c⟩ := H (i + 1) q (by simpa using hq)
        refine ⟨⟨s, ?_, a2⟩, ?_, ?_⟩
        · rw [← a1]; congr 1; omega
        · rw [← b]; congr 1; omega
        · rw [← c]; congr 1; omega) j h'
      refine ⟨c, ?_, e2⟩
      rw [← e1]; congr 1; omega

/-- The relation at the start. -/
theorem rel0 {W : World} (h : laidMet Tryz.prog dataL W) : Rel Tryz.prog glob (ctx0 fun b => b < W.heap.size) [] W := by
  have hc := table_cells h
  refine ⟨rfl, fun r e h => by simp [Store.get] at h, fun r b base h => absurd h (Nat.not_lt_zero r), fun r r' b base base' h => absurd h (Nat.not_lt_zero r), fun r b base h => absurd h (Nat.not_lt_zero r), fun b hb => hb, fun g row hg => ?_⟩
  simp only [glob] at hg
  split at hg
  · rename_i h0
    cases hg
    subst h0
    have hv := rows_vr (X := ctx0 fun b => b < W.heap.size) (W := W) table 0 (fun i p hp => by simpa using hc i p hp)
    have h0 : 0 < W.heap.size := by
      obtain ⟨⟨s, a, _⟩, _⟩ := hc 0 _ rfl
      rcases Nat.lt_or_ge 0 W.heap.size with h | h
      · exact h
      · simp [cellAt, World.cell?, Array.getElem?_eq_none h] at a
    refine .rp (rowOf table) 0 0 0 (fun j => (cellAt W 0 (0 + j)).getD Go.undef) h0 (fun j hj => ?_) (fun j hj => ?_)
    · obtain ⟨c, e1, _⟩ := hv j hj
      rw [e1]; rfl
    · obtain ⟨c, e1, e2⟩ := hv j hj
      simp only [e1, Option.getD_some]; exact e2
  · cases hg

theorem kept_of_ext {I : Nat → Prop} {W W' : World} {X' : Ctx} {s' : Store} (h : Ext (ctx0 I) [] W X' s' W') (may : MemPlace → Prop) : W.keptBut W' may := by
  refine ⟨h.os.1, h.os.2, fun i hi => ?_⟩
  rw [h.frame i hi fun ⟨r, _, h2, _⟩ => Nat.not_lt_zero r h2]
  cases W.heap[i]? with
  | none => rfl
  | some o => cases o <;> first | rfl | exact ⟨rfl, rfl, rfl, fun _ _ => rfl⟩ | exact .inr ⟨rfl, rfl⟩

theorem own : ownKnob Tryz.prog.godebug = none := by kernel_rfl
/-- A world that meets the condition. -/
noncomputable def base (os : Os) : World :=
  let w0 := World.holding Tryz.prog os ⟨#[], #[], []⟩
  { w0 with heap := w0.heap.modify 1 fun
      | .cells _ t frozen => .cells #[.iface 377 (.agg #[typeHandle Tryz.prog 241])] t frozen
      | o => o }
noncomputable def laidWorld (os : Os) : World := (base os).layVars Tryz.prog dataL
theorem laidWorld_met (os : Os) (args : Array Value) : laidMetH Tryz.prog laid ((laidWorld os).forCall (fun _ _ => 0) ⟨#[], args, []⟩).memory := by
  have e1 : (dataL.filter fun x => (dataL.map (·.1)).contains x.1) = dataL := List.filter_eq_self.2 fun x hx => List.contains_iff_mem.2 (List.mem_map.2 ⟨x, hx, rfl⟩)
  have e2 : (dataL.filter fun x => !(dataL.map (·.1)).contains x.1) = [] := List.filter_eq_nil_iff.2 fun x hx => by rw [List.contains_iff_mem.2 (List.mem_map.2 ⟨x, hx, rfl⟩)]; simp
  have h : laidMet Tryz.prog dataL (laidWorld os) := laidMet_layVars (w0 := base os) (dataL.map (·.1)) [] (by rw [e1]; rfl) (by rw [e1]; kernel_rfl) (by rw [e1]; kernel_rfl) (by rw [e2]; exact LaidIn.none)
  refine laidMetH_of_parts ?_ (by kernel_rfl)
  rw [laid_data]
  exact h.of_heap (by simp [World.memory, World.forCall, Input.heap])

/-- What the run says: it returns true, and what was there is as it was. -/
def Law : Prop := ∀ W : World, laidMet Tryz.prog dataL W → Calls Tryz.prog 3 #[] W fun e W' => e = .returned (.bool true) ∧ ∀ may, W.keptBut W' may

theorem law_lifted (law : Law) (os : Os) (started : os.Started) (H : Type) (enc : TypeId × Value → H) :
    ReturnsInHanded {} Tryz.checked os 3 .any (fun w args => (Rows.expandKnownSpec.pre enc Tryz.prog Tryz.f3 [] false w args ∧ laidMetH Tryz.prog laid w) ∧ sizedMet enc Tryz.prog Tryz.f3 (OpenSpec.ofChange Rows.expandKnownSpec) false w args)
      (Rows.expandKnownSpec.post enc Tryz.prog Tryz.f3 false true false false) := by
  refine returnsInHanded_of_change_and (C := Tryz.checked) (X := fun w _ => laidMetH Tryz.prog laid w) (fun _ _ _ hh h => h.of_heap hh) own started (by kernel_rfl) Tryz.func3
    (ChangeSpec.witness_shaped (enc := enc) (C := Tryz.checked) (os := os) (X := fun w _ => laidMetH Tryz.prog laid w) false (laidWorld os) #[] 8 rfl (World.shaped_of_ZipB (by kernel_rfl) (by kernel_rfl)) (by kernel_rfl) (by kernel_rfl) (by kernel_rfl) (laidWorld_met os _)) ?_
  intro W base args ds gs before hval0 hW _ _ hL _
  have hW' := hW
  obtain ⟨p, q, hA0, hV0, rfl, hfz, hnd⟩ := hW
  have hA : DataW.TrodAll enc Tryz.prog W 0 (fun _ => true) true Tryz.f3.params.toList args.toList ds p := hA0
  have hV : DataW.TrodVars enc Tryz.prog W (fun _ => true) [] gs q := hV0
  rw [Tryz.params3] at hA
  obtain ⟨hargs, rfl, rfl⟩ := trodAll_nil hA
  obtain rfl : args = #[] := by
    apply Array.ext'
    simpa using hargs
  obtain ⟨rfl, rfl⟩ : gs = [] ∧ q = [] := by
    cases gs with
    | nil => exact ⟨rfl, hV⟩
    | cons g r => exact absurd hV (by intro h; cases h)
  have e1 : Rows.expandKnownSpec.fn H ([] ++ []) = { results := [.lit (.bool true)], args := [] } := rfl
  refine (law W (data_of hL)).mono fun e W' ⟨he, hk⟩ => ?_
  subst he
  refine ⟨_, rfl, _, _, _, [], [], [], hW', ?_, ?_, ?_, hk _, fun h => by cases h⟩
  · rw [e1]; exact trodAll_mk1 (shut_bool Tryz.underlying4 true)
  · rw [e1]; exact trodAll_mk0
  · rw [e1]; rfl

end Go.Am.K19
