/- Operations of AM with effects. -/
import Derived.Test.YtccedlpflmmjjaaGreatDoorAm3
namespace Go.Am
open Go

section
variable {P : Program} {G : Nat → Option (List AV)} {X : Ctx} {s : Store} {w : World}

def NextR (X : Ctx) (w : World) (v : AV) : Next → Prop
  | .value c => VR X w v c
  | .skip => v = .undef
  | _ => False

/-- The machine carries an operation with effects out. -/
def EOk (P : Program) (G : Nat → Option (List AV)) (X : Ctx) (s : Store) (w : World) (v : AV) (s' : Store) (r : Result Next) : Prop :=
  ∃ nx w' X', r = .ok nx w' ∧ Ext X s w X' s' w' ∧ Rel P G X' s' w' ∧ NextR X' w' v nx

theorem Turned.refl (b : Nat) (w : World) : Turned b w w := ⟨Nat.le_refl _, fun _ _ _ => rfl, rfl, rfl⟩
theorem Turned.trans {b : Nat} {w w' w'' : World} (h : Turned b w w') (h' : Turned b w' w'') : Turned b w w'' :=
  ⟨Nat.le_trans h.size h'.size, fun c hc hb => (h'.same c (Nat.lt_of_lt_of_le hc h.size) hb).trans (h.same c hc hb), h'.os.1.trans h.os.1, h'.os.2.trans h.os.2⟩
theorem Grown.turned {w w' : World} (h : Grown w w') (b : Nat) : Turned b w w' := ⟨h.size, fun c hc _ => h.same c hc, h.os⟩

theorem run_storeCells {b o : Nat} {T : TypeId} {lo hi : Nat} : ∀ (vs : List Value) (i : Nat) (cs : Array Value) (w : World), w.heap[b]? = some (.cells cs T (lo, hi)) →
    (∀ o, o < cs.size → ¬ (lo ≤ o ∧ o < hi)) → o + i + vs.length ≤ cs.size → (∀ v ∈ vs, v.oneCell' = true) →
    ∃ w', (storeCells ⟨b, o, none⟩ vs i).run P w = .ok () w' ∧ Turned b w w' ∧ w'.heap.size = w.heap.size ∧
      w'.heap[b]? = some (.cells ((vs.zipIdx i).foldl (fun cs p => cs.setIfInBounds (o + p.2) p.1) cs) T (lo, hi)) := by
  intro vs
  induction vs with
  | nil => intro i cs w hb _ _ _; exact ⟨w, rfl, .refl _ _, rfl, hb⟩
  | cons v vs ih =>
    intro i cs w hb hfz hle hone
    simp only [List.length_cons] at hle
    have hlt : o + i < cs.size := by omega
    have hc : w.cell? ⟨b, o + i, none⟩ = some cs[o + i] := by simp [World.cell?, hb, hlt]
    have hf : w.frozen? ⟨b, o + i, none⟩ = false := by
      simp only [World.frozen?, hb]
      have := hfz (o + i) hlt
      simp only [Bool.and_eq_false_iff, decide_eq_false_iff_not]
      omega
    obtain ⟨hbl, hbe⟩ := Array.getElem?_eq_some_iff.1 hb
    have hw1 : (w.setCell ⟨b, o + i, none⟩ v).heap[b]? = some (.cells (cs.setIfInBounds (o + i) v) T (lo, hi)) := by
      simp only [World.setCell]
      rw [Array.getElem?_modify, if_pos rfl, hb]
      simp
    have ht1 : Turned b w (w.setCell ⟨b, o + i, none⟩ v) := by
      refine ⟨by simp [World.setCell], fun c hc hcb => ?_, rfl, rfl⟩
      simp only [World.setCell]
      rw [Array.getElem?_modify, if_neg (fun e => hcb e.symm)]
    obtain ⟨w', e1, e2, e3, e4⟩ := ih (i + 1) (cs.setIfInBounds (o + i) v) (w.setCell ⟨b, o + i, none⟩ v) hw1 (by simpa using hfz) (by simp; omega) (fun u hu => hone u (List.mem_cons_of_mem _ hu))
    refine ⟨w', ?_, ht1.trans e2, by rw [e3]; simp [World.setCell], ?_⟩
    · simp only [storeCells, Sem.run_bind]
      rw [add_plain rfl, run_store P w _ v _ (hone v (List.mem_cons_self ..)), hc]
      simp only [hf, Bool.false_eq_true, if_false, Result.andThen_ok]
      exact e1
    · simpa [List.zipIdx_cons] using e4

/-- An entry of cells is turned. -/
theorem turn_cells {w' : World} (hr : Rel P G X s w) {r b0 base0 : Nat} (h : Turned b0 w w') (hlt : r < X.n) (hf : X.fz r = false) (hl : X.loc r = some (b0, base0))
    {v sz ce : Nat} {rows : List (List AV)} {l : Nat × Nat} (hl' : l.1 = b0 ∨ (w.heap.size ≤ l.1 ∧ l.1 < w'.heap.size))
    (hk : (v = X.ver r ∧ l = (b0, base0) ∧ sz = X.rl r ∧ rows.length = X.tip r ∧ ce = X.ce r) ∨ X.ver r < v)
    {cs : Array Value} {T : TypeId} {lo hi : Nat} (hh : w'.heap[l.1]? = some (.cells cs T (lo, hi))) (hsz : l.2 + ce * sz ≤ cs.size) (hnf : ∀ o, o < cs.size → ¬ (lo ≤ o ∧ o < hi))
    (hrow : ∀ row ∈ rows, row.length = sz ∧ row.all AV.one = true) (hce : rows.length ≤ ce)
    (hv : ∀ i j (h : i < rows.length) (h' : j < rows[i].length), ∃ c, cs[l.2 + i * sz + j]? = some c ∧ VR X w rows[i][j] c) :
    Ext X s w (X.turn r v l sz rows.length ce) (s.put r (.cells v sz rows false)) w' ∧ Rel P G (X.turn r v l sz rows.length ce) (s.put r (.cells v sz rows false)) w' := by
  have hx : Ext X s w (X.turn r v l sz rows.length ce) (s.put r (.cells v sz rows false)) w' := Ext.turn hr h hlt hf hl _ (hl'.imp id (fun h => h.1)) hk
  refine ⟨hx, Rel.turn hr h hlt hf hl _ hl' hk ?_⟩
  refine ⟨by simp [Ctx.turn], by simp [Ctx.turn], by simp [Ctx.turn], by simp [Ctx.turn, hf], hrow, by simp [Ctx.turn]; exact hce, fun b base hl2 => ?_⟩
  simp only [Ctx.turn, if_true, Option.some.injEq] at hl2
  subst hl2
  refine ⟨cs, T, lo, hi, hh, by simp [Ctx.turn]; exact hsz, hnf, fun i j h1 h2 => ?_⟩
  obtain ⟨c, d1, d2⟩ := hv i j h1 h2
  exact ⟨c, d1, d2.mono hr hx⟩

theorem VRs.one {l : List AV} {cs : List Value} (h : VRs X w l cs) (ho : l.all AV.one = true) : ∀ c ∈ cs, c.oneCell' = true := by
  intro c hc
  obtain ⟨i, hi, rfl⟩ := List.mem_iff_getElem.1 hc
  have hi' : i < l.length := by rw [h.1]; exact hi
  exact ((h.2 i hi' hi).one_cell (List.all_eq_true.1 ho _ (List.getElem_mem hi'))).1

/-- A write into a row of an entry. -/
theorem e_store (hr : Rel P G X s w) {n : Nat} {a x : AV} {ca cx : Value} {s' : Store} (h : storeAt s n a x = some s') (ha : VR X w a ca) (hx : VR X w x cx) {t : TypeId} (hn : n = P.cellsOf t) (hi : (P.info? t).isSome) :
    ∃ w' X', (Instr.storeAt t ca cx).run P w = .ok () w' ∧ Ext X s w X' s' w' ∧ Rel P G X' s' w' := by
  unfold storeAt at h
  split at h
  · rename_i r v i o
    split at h
    · rename_i v' sz rows hg
      split at h
      · rename_i hc
        obtain ⟨rfl, hlen, hone⟩ := hc
        obtain ⟨row, hrow, h⟩ := opt_some h
        split at h
        · rename_i hle
          cases h
          obtain ⟨a1, a2, a3, a4, a5, a6, a7⟩ := hr.ent r _ hg
          have hlt : r < X.n := hr.len ▸ Store.lt_of_get hg
          cases ha with
          | ptr _ _ _ _ ad h1 h2 h3 =>
          obtain ⟨b, base, hl, rfl⟩ := h3 a1.symm
          obtain ⟨cs, T, lo, hi', c1, c2, c3, c4⟩ := a7 b base hl
          obtain ⟨hi2, hrow'⟩ := List.getElem?_eq_some_iff.1 hrow
          have hmem : row ∈ rows := hrow' ▸ List.getElem_mem hi2
          have hrl := (a5 row hmem).1
          have hcells := hx.cells hone
          have hcl : cx.cells.size = n := by have := hcells.1; simp at this; omega
          have hsz : base + rows.length * sz ≤ cs.size := Nat.le_trans (Nat.add_le_add_left (Nat.mul_le_mul_right _ a6) _) c2
          have hfit : base + i * sz + o + cx.cells.size ≤ cs.size := by
            have : (i + 1) * sz ≤ rows.length * sz := Nat.mul_le_mul_right _ hi2
            rw [Nat.add_mul] at this; omega
          obtain ⟨w', e1, e2, e3, e4⟩ := run_storeCells (P := P) (b := b) (o := base + i * sz + o) cx.cells.toList 0 cs w c1 c3 (by simpa using hfit) (hcells.one hone)
          rw [a2]
          have hspl : o + x.cells.length ≤ row.length := by omega
          have hrows : ∀ row' ∈ rows.set i (splice row o x.cells), row'.length = sz ∧ row'.all AV.one = true := by
            intro row' hm
            rcases List.mem_or_eq_of_mem_set hm with hm | rfl
            · exact a5 row' hm
            · refine ⟨by rw [splice_length _ _ _ hspl]; exact hrl, ?_⟩
              have := (a5 row hmem).2
              unfold splice
              simp only [List.all_append, Bool.and_eq_true]
              refine ⟨⟨?_, hone⟩, ?_⟩
              · exact List.all_eq_true.2 fun y hy => List.all_eq_true.1 this y (List.mem_of_mem_take hy)
              · exact List.all_eq_true.2 fun y hy => List.all_eq_true.1 this y (List.mem_of_mem_drop hy)
          have := turn_cells hr (b0 := b) (base0 := base) (w' := w') e2 hlt a4 hl (v := v') (sz := sz) (ce := X.ce r) (rows := rows.set i (splice row o x.cells)) (l := (b, base)) (.inl rfl)
            (.inl ⟨a1.symm, rfl, a2.symm, by simp [a3], rfl⟩) e4 (by rw [foldSet_size]; exact c2) (by rw [foldSet_size]; exact c3) hrows (by simpa using a6) ?_
          · refine ⟨w', _, ?_, this.1, this.2⟩
            simp only [Instr.storeAt, Instr.sureAddr, Sem.run_bind, Sem.run_pure, Result.andThen_ok, storeVar, run_sizeOf' hi]
            rw [if_neg (by rw [hcl, hn]; simp)]
            simpa using e1
          · intro k j hk hj
            have hk' : k < rows.length := by simpa using hk
            have hj' : j < sz := by rw [← (hrows _ (List.getElem_mem hk)).1]; exact hj
            rw [foldSet_get]
            simp only [Nat.add_zero]
            by_cases hki : i = k
            · subst hki
              have hget : (rows.set i (splice row o x.cells))[i] = splice row o x.cells := by simp
              have h5 := splice_get row o x.cells hspl j
              have hspj : (splice row o x.cells)[j]? = some (rows.set i (splice row o x.cells))[i][j] := by
                rw [← List.getElem?_eq_getElem hj]; simp only [hget]
              by_cases hin : o ≤ j ∧ j < o + x.cells.length
              · rw [if_pos hin] at h5
                rw [if_pos ⟨by omega, by simp; omega, by omega⟩]
                have hidx : base + i * sz + j - (base + i * sz + o) = j - o := by omega
                rw [hidx]
                have hjo : j - o < cx.cells.toList.length := by simp; omega
                refine ⟨cx.cells.toList[j - o], List.getElem?_eq_getElem hjo, ?_⟩
                exact hcells.get (h5.symm.trans hspj) (List.getElem?_eq_getElem hjo)
              · rw [if_neg hin] at h5
                rw [if_neg (by simp; omega)]
                obtain ⟨c, d1, d2⟩ := c4 i j hi2 (by rw [hrow']; omega)
                refine ⟨c, d1, ?_⟩
                have : row[j]? = some (rows[i][j]'(by rw [hrow']; omega)) := by subst hrow'; exact List.getElem?_eq_getElem _
                rw [this, hspj] at h5
                rw [Option.some.inj h5]
                exact d2
            · obtain ⟨c, d1, d2⟩ := c4 k j hk' (by rw [(a5 _ (List.getElem_mem hk')).1]; exact hj')
              refine ⟨c, ?_, ?_⟩
              · rw [if_neg, d1]
                have hb1 : i * sz + o + cx.cells.toList.length ≤ (i + 1) * sz := by rw [Nat.add_mul]; simp; omega
                rcases Nat.lt_or_gt_of_ne hki with h6 | h6
                · have : (i + 1) * sz ≤ k * sz := Nat.mul_le_mul_right _ h6
                  omega
                · have : (k + 1) * sz ≤ i * sz := Nat.mul_le_mul_right _ h6
                  rw [Nat.add_mul] at this; omega
              · have : (rows.set i (splice row o x.cells))[k] = rows[k] := by simp [hki]
                simp only [this]; exact d2
        · cases h
      · cases h
    · cases h
  · cases h
end
end Go.Am

namespace Go.Am
open Go

section
variable {P : Program} {G : Nat → Option (List AV)} {X : Ctx} {s : Store} {w : World}

/-- A slice's rows are in the world from an address on. -/
def RowsAt (X : Ctx) (w : World) (sz : Nat) (rows : List (List AV)) (a : Option Addr) : Prop :=
  rows ≠ [] → ∃ b st, a = some ⟨b, st, none⟩ ∧ (∀ row ∈ rows, row.length = sz) ∧
    ∀ i j (h : i < rows.length) (h' : j < rows[i].length), ∃ c, cellAt w b (st + i * sz + j) = some c ∧ VR X w rows[i][j] c

theorem RowsAt.take {sz n : Nat} {rows : List (List AV)} {a : Option Addr} (h : RowsAt X w sz rows a) : RowsAt X w sz (rows.take n) a := by
  intro hne
  obtain ⟨b, st, h1, h2, h3⟩ := h (by intro e; simp [e] at hne)
  refine ⟨b, st, h1, fun row hm => h2 row (List.mem_of_mem_take hm), fun i j hi hj => ?_⟩
  have hi' : i < rows.length := by simp at hi; omega
  have e : (rows.take n)[i] = rows[i] := by simp
  obtain ⟨c, d1, d2⟩ := h3 i j hi' (by rw [← e]; exact hj)
  exact ⟨c, d1, by simpa [e] using d2⟩

theorem splice_get' {α : Type} (row : List α) (o : Nat) (xs : List α) (h : o + xs.length ≤ row.length) (k : Nat) :
    (row.take o ++ xs ++ row.drop (o + xs.length))[k]? = if o ≤ k ∧ k < o + xs.length then xs[k - o]? else row[k]? := by
  rw [List.getElem?_append, List.getElem?_append]
  simp only [List.length_append, List.length_take, List.getElem?_take, List.getElem?_drop]
  have hm : min o row.length = o := by omega
  rw [hm]
  by_cases h1 : k < o
  · rw [if_pos (by omega), if_pos h1, if_pos h1, if_neg (by omega)]
  · by_cases h2 : k < o + xs.length
    · rw [if_pos h2, if_neg h1, if_pos ⟨by omega, h2⟩]
    · rw [if_neg h2, if_neg (by omega)]
      congr 1; omega

theorem rowsSz_all {sz sz' : Nat} {rows : List (List AV)} (h : rowsSz sz rows = true) (h' : ∀ row ∈ rows, row.length = sz') (hne : rows ≠ []) : sz' = sz := by
  cases rows with
  | nil => exact absurd rfl hne
  | cons r rs => simp [rowsSz] at h; rw [← h' r (List.mem_cons_self ..)]; exact h

theorem rowsOf_at (hr : Rel P G X s w) {x : AV} {c : Value} {rows : List (List AV)} {sz : Nat} (h : rowsOf s x = some rows) (hz : rowsSz sz rows = true) (hv : VR X w x c) :
    ∃ a cap, c = .slice a rows.length cap ∧ RowsAt X w sz rows a := by
  obtain ⟨a, cap, h1, h2⟩ := rowsOf_sound hr h hv
  refine ⟨a, cap, h1, fun hne => ?_⟩
  obtain ⟨b, st, sz', e1, e2, e3⟩ := h2 hne
  have := rowsSz_all hz e2 hne
  subst this
  exact ⟨b, st, e1, e2, e3⟩

theorem RowsAt.sizes {sz : Nat} {rows : List (List AV)} {a : Option Addr} (h : RowsAt X w sz rows a) : ∀ row ∈ rows, row.length = sz := by
  intro row hm
  obtain ⟨b, st, _, h2, _⟩ := h (by intro e; simp [e] at hm)
  exact h2 row hm

theorem run_firstCells {sz l cap : Nat} (hsz : 0 < sz) {rows : List (List AV)} {a : Option Addr} (h : RowsAt X w sz rows a) :
    ∃ cells, (∀ w' : World, w'.heap = w.heap → (Builtin.firstCells sz rows.length (.slice a l cap)).run P w' = .ok cells w') ∧ VRs X w rows.flatten cells.toList := by
  by_cases hne : rows = []
  · subst hne
    refine ⟨#[], fun w' hw' => ?_, rfl, fun i h => by simp at h⟩
    cases a with
    | none => rfl
    | some a => simp [Builtin.firstCells, loadCells, loadCellsFrom]
  · obtain ⟨b, st, rfl, h2, h3⟩ := h hne
    have hcell : ∀ k, k < rows.length * sz → ∃ c, cellAt w b (st + k) = some c ∧ ∀ v, rows.flatten[k]? = some v → VR X w v c := by
      intro k hk
      have hi : k / sz < rows.length := (Nat.div_lt_iff_lt_mul hsz).2 hk
      have hj : k % sz < sz := Nat.mod_lt _ hsz
      obtain ⟨c, d1, d2⟩ := h3 (k / sz) (k % sz) hi (by rw [h2 _ (List.getElem_mem hi)]; exact hj)
      have hk' : k / sz * sz + k % sz = k := by rw [Nat.mul_comm]; exact Nat.div_add_mod k sz
      refine ⟨c, by rw [← d1, Nat.add_assoc, hk'], fun v hv => ?_⟩
      have := flatten_get rows h2 (k / sz) (k % sz) rows[k / sz] (List.getElem?_eq_getElem hi) hj
      rw [hk', hv, List.getElem?_eq_getElem (by rw [h2 _ (List.getElem_mem hi)]; exact hj)] at this
      cases this
      exact d2
    have hrun : ∀ w' : World, w'.heap = w.heap → _ := fun w' hw' => run_loadCells (P := P) (w := w') (b := b) (o := st) (fun k => (cellAt w b (st + k)).getD default) (rows.length * sz) fun j hj => by
      obtain ⟨c, d1, _⟩ := hcell j hj
      have : cellAt w' b (st + j) = cellAt w b (st + j) := by simp only [cellAt, World.cell?, hw']
      rw [this, d1]; rfl
    refine ⟨_, hrun, VRs.of_get ?_ fun k v c h1 h2' => ?_⟩
    · simp [flatten_length rows h2]
    · have hk : k < rows.length * sz := by rw [← flatten_length rows h2]; exact (List.getElem?_eq_some_iff.1 h1).1
      simp only [List.getElem?_map, List.getElem?_range hk, Option.map_some, Option.some.injEq] at h2'
      obtain ⟨c', d1, d2⟩ := hcell k hk
      rw [d1] at h2'
      simp only [Option.getD_some] at h2'
      subst h2'
      exact d2 v h1

theorem VRs.append {l l' : List AV} {cs cs' : List Value} (h : VRs X w l cs) (h' : VRs X w l' cs') : VRs X w (l ++ l') (cs ++ cs') := by
  refine VRs.of_get (by simp [h.1, h'.1]) fun k a c h1 h2 => ?_
  rw [List.getElem?_append] at h1 h2
  rw [← h.1] at h2
  split at h1
  · rename_i hk; rw [if_pos hk] at h2; exact h.get h1 h2
  · rename_i hk; rw [if_neg hk] at h2; exact h'.get h1 h2

theorem growBy_le : ∀ (rounds c need : Nat), c < need → Builtin.growBy need rounds c ≤ need + (need + 768) / 4 := by
  intro rounds
  induction rounds with
  | zero => intro c need h; simp only [Builtin.growBy]; omega
  | succ n ih =>
    intro c need h
    simp only [Builtin.growBy]
    rw [if_neg (by omega)]
    by_cases hc : c + (c + 768) / 4 < need
    · exact ih _ _ hc
    · have : Builtin.growBy need n (c + (c + 768) / 4) = c + (c + 768) / 4 := by
        cases n with
        | zero => rfl
        | succ n => simp only [Builtin.growBy]; rw [if_pos (by omega)]
      rw [this]; omega

theorem nextslicecap_le {need cap : Nat} (h : cap < need) : Builtin.nextslicecap need cap ≤ 2 * need + 768 := by
  unfold Builtin.nextslicecap
  split
  · omega
  · split
    · omega
    · have := growBy_le 4 cap need h; omega

/-- What an append asks of its element type. -/
structure ElemOk (P : Program) (el : TypeId) : Prop where
  pos : 0 < P.cellsOf el
  bytes : 0 < P.bytesOf el
  le : P.bytesOf el ≤ 2 ^ 16
  zero : (zeroCells P el).isSome

/-- An append that makes a new row. -/
theorem run_append_grow {t0 t1 el e1 ty : TypeId} {ats : Array TypeId} (h0 : ats[0]? = some t0) (h1 : ats[1]? = some t1) (hu : P.underlying t0 = some (.slice el)) (hu1 : P.underlying t1 = some (.slice e1))
    (he : ElemOk P el) {a b : Option Addr} {cap cap2 : Nat} {old new : List (List AV)} (ho : RowsAt X w (P.cellsOf el) old a) (hn : RowsAt X w (P.cellsOf el) new b) (hcap : cap < old.length + new.length)
    (hle : old.length + new.length ≤ 2 ^ 30) :
    ∃ cells cap' d, (Builtin.append_ ats ty #[.slice a old.length cap, .slice b new.length cap2]).run P w = .ok (.slice (some ⟨w.heap.size, 0, none⟩) (old.length + new.length) cap') { w with heap := w.heap.push (.cells cells el), drawn := d } ∧
      old.length + new.length ≤ cap' ∧ cells.size = cap' * P.cellsOf el ∧ ∀ i j (h : i < (old ++ new).length) (h' : j < (old ++ new)[i].length), ∃ c, cells[i * P.cellsOf el + j]? = some c ∧ VR X w (old ++ new)[i][j] c := by
  obtain ⟨z, hz⟩ := Option.isSome_iff_exists.1 he.zero
  obtain ⟨zc, z1, z2, z3, z4⟩ := zeroCells_sound (X := X) (w := w) hz w
  obtain ⟨inf, hinf⟩ := Option.isSome_iff_exists.1 z4
  have hby : inf.bytes = P.bytesOf el := by simp [Program.bytesOf, hinf]
  obtain ⟨c1, r1, v1⟩ := run_firstCells (P := P) (l := old.length) (cap := cap) he.pos ho
  obtain ⟨c2, r2, v2⟩ := run_firstCells (P := P) (l := new.length) (cap := cap2) he.pos hn
  have hbig : ¬ (Builtin.nextslicecap (old.length + new.length) cap * inf.bytes > 2 ^ 48) := by
    have := nextslicecap_le hcap
    have h3 : Builtin.nextslicecap (old.length + new.length) cap * inf.bytes ≤ 2 ^ 32 * 2 ^ 16 := Nat.mul_le_mul (by omega) (by rw [hby]; exact he.le)
    omega
  have hzs : zc.cells.size = P.cellsOf el := by have := z2.1; simp at this; omega
  have hov := flatten_length old ho.sizes
  have hnv := flatten_length new hn.sizes
  have hc1 : c1.size = old.length * P.cellsOf el := by have := v1.1; simp only [Array.length_toList] at this; omega
  have hc2 : c2.size = new.length * P.cellsOf el := by have := v2.1; simp only [Array.length_toList] at this; omega
  refine ⟨c1 ++ c2 ++ Builtin.zeroCells zc.cells (Question.cut (.appendCap (old.length + new.length) cap el) (w.tape w.drawn (.appendCap (old.length + new.length) cap el)) - (old.length + new.length)), Question.cut (.appendCap (old.length + new.length) cap el) (w.tape w.drawn (.appendCap (old.length + new.length) cap el)), w.drawn + 1, ?_, by simp [Question.cut], ?_, ?_⟩
  · have hneed : ¬ (old.length + new.length ≤ cap) := by omega
    have hb0 : ¬ (inf.bytes = 0) := by have := he.bytes; omega
    have hzv : inf.zero = some zc := by
      simp only [zeroValue, Sem.run_bind, run_info' hinf, Result.andThen_ok] at z1
      split at z1
      · simp at z1; subst z1; assumption
      · cases z1
    have hzr : ∀ w' : World, (zeroValue el).run P w' = .ok zc w' := fun w' => by simp [zeroValue, run_info' hinf, hzv]
    simp [Builtin.append_, h0, h1, run_und hu, run_und hu1, run_sizeOf' z4, Builtin.lenOf, run_info' hinf, hneed, hb0, hbig, r1 w.drew rfl, r2 w.drew rfl, hzr, newRow, Question.forced]
    rfl
  · simp only [Array.size_append, hc1, hc2, Builtin.zeroCells, Array.size_map, Array.size_range, hzs]
    rw [← Nat.add_mul, ← Nat.add_mul]
    congr 1
    simp only [Question.cut]; omega
  · intro i j hi hj
    have hall : ∀ row ∈ old ++ new, row.length = P.cellsOf el := by
      intro row hm
      rcases List.mem_append.1 hm with hm | hm
      · exact ho.sizes row hm
      · exact hn.sizes row hm
    have hv : VRs X w (old ++ new).flatten (c1 ++ c2).toList := by
      rw [List.flatten_append, Array.toList_append]; exact v1.append v2
    obtain ⟨c, d1, d2⟩ := rows_at hall hv i j hi hj
    refine ⟨c, ?_, d2⟩
    rw [Array.getElem?_append_left]
    · exact d1
    · exact (Array.getElem?_eq_some_iff.1 d1).1

theorem run_append_none {t0 t1 el e1 ty : TypeId} {ats : Array TypeId} (h0 : ats[0]? = some t0) (h1 : ats[1]? = some t1) (hu : P.underlying t0 = some (.slice el)) (hu1 : P.underlying t1 = some (.slice e1))
    (he : ElemOk P el) {a b : Option Addr} {l cap cap2 : Nat} (hcap : l ≤ cap) (w : World) : (Builtin.append_ ats ty #[.slice a l cap, .slice b 0 cap2]).run P w = .ok (.slice a l cap) w := by
  have hi := info_of_cells he.pos
  cases b with
  | none => cases a <;> simp [Builtin.append_, h0, h1, run_und hu, run_und hu1, run_sizeOf' hi, Builtin.lenOf, hcap, Builtin.firstCells, storeCells]
  | some b => cases a <;> simp [Builtin.append_, h0, h1, run_und hu, run_und hu1, run_sizeOf' hi, Builtin.lenOf, hcap, Builtin.firstCells, storeCells, loadCells, loadCellsFrom]

theorem run_append_place {t0 t1 el e1 ty : TypeId} {ats : Array TypeId} (h0 : ats[0]? = some t0) (h1 : ats[1]? = some t1) (hu : P.underlying t0 = some (.slice el)) (hu1 : P.underlying t1 = some (.slice e1))
    (he : ElemOk P el) {b0 st l cap cap2 : Nat} {b : Option Addr} {new : List (List AV)} (hn : RowsAt X w (P.cellsOf el) new b) (hone : ∀ row ∈ new, row.all AV.one = true) (hcap : l + new.length ≤ cap) {cs : Array Value} {T : TypeId} {lo hi : Nat}
    (hb : w.heap[b0]? = some (.cells cs T (lo, hi))) (hnf : ∀ o, o < cs.size → ¬ (lo ≤ o ∧ o < hi)) (hfit : st + (l + new.length) * P.cellsOf el ≤ cs.size) :
    ∃ w' cs', (Builtin.append_ ats ty #[.slice (some ⟨b0, st, none⟩) l cap, .slice b new.length cap2]).run P w = .ok (.slice (some ⟨b0, st, none⟩) (l + new.length) cap) w' ∧ Turned b0 w w' ∧ w'.heap.size = w.heap.size ∧
      w'.heap[b0]? = some (.cells cs' T (lo, hi)) ∧ cs'.size = cs.size ∧
      (∀ k, ¬ (st + l * P.cellsOf el ≤ k ∧ k < st + (l + new.length) * P.cellsOf el) → cs'[k]? = cs[k]?) ∧
      (∀ i j (h : i < new.length) (h' : j < new[i].length), ∃ c, cs'[st + (l + i) * P.cellsOf el + j]? = some c ∧ VR X w new[i][j] c) := by
  have hinf := info_of_cells he.pos
  obtain ⟨c2, r2, v2⟩ := run_firstCells (P := P) (l := new.length) (cap := cap2) he.pos hn
  have hnv := flatten_length new hn.sizes
  have hc2 : c2.size = new.length * P.cellsOf el := by have := v2.1; simp only [Array.length_toList] at this; omega
  have hfl : new.flatten.all AV.one = true := by
    rw [List.all_flatten]; exact List.all_eq_true.2 hone
  rw [Nat.add_mul] at hfit
  obtain ⟨w', e1, e2, e3, e4⟩ := run_storeCells (P := P) (b := b0) (o := st + l * P.cellsOf el) c2.toList 0 cs w hb hnf (by simp [hc2]; omega) (v2.one hfl)
  refine ⟨w', _, ?_, e2, e3, e4, foldSet_size _ _ _ _, fun k hk => ?_, fun i j hi hj => ?_⟩
  · have hadd : ({ block := b0, off := st } : Addr).add (l * P.cellsOf el) = ⟨b0, st + l * P.cellsOf el, none⟩ := add_plain rfl _
    simp [Builtin.append_, h0, h1, run_und hu, run_und hu1, run_sizeOf' hinf, Builtin.lenOf, hcap, r2 w rfl, hadd, e1]
  · rw [foldSet_get, if_neg]
    intro h; apply hk
    rw [Nat.add_mul]
    simp only [Nat.add_zero, Array.length_toList, hc2] at h
    omega
  · obtain ⟨c, d1, d2⟩ := rows_at hn.sizes v2 i j hi hj
    refine ⟨c, ?_, d2⟩
    have hlt := (Array.getElem?_eq_some_iff.1 d1).1
    rw [foldSet_get, if_pos]
    · rw [Array.getElem?_toList, ← d1]
      congr 1; rw [Nat.add_mul]; omega
    · rw [Nat.add_mul]
      refine ⟨by omega, by simp; omega, by omega⟩

theorem VR.grown (hr : Rel P G X s w) {w' : World} (h : Grown w w') {v : AV} {c : Value} (hv : VR X w v c) : VR X w' v c := hv.mono hr (Ext.grown (s := s) h)

/-- What rows an entry or a list has: their cells are single ones. -/
def VOk (X : Ctx) (s : Store) (w : World) (v : AV) (s' : Store) (P : Program) (G : Nat → Option (List AV)) (r : Result Value) : Prop :=
  ∃ c w' X', r = .ok c w' ∧ Ext X s w X' s' w' ∧ Rel P G X' s' w' ∧ VR X' w' v c

/-- An append that makes a new entry. -/
theorem e_append_new (hr : Rel P G X s w) {t0 t1 el e1 ty : TypeId} {ats : Array TypeId} (h0 : ats[0]? = some t0) (h1 : ats[1]? = some t1) (hu : P.underlying t0 = some (.slice el)) (hu1 : P.underlying t1 = some (.slice e1))
    (he : ElemOk P el) {a b : Option Addr} {cap cap2 : Nat} {old new : List (List AV)} (ho : RowsAt X w (P.cellsOf el) old a) (hn : RowsAt X w (P.cellsOf el) new b) (hcap : cap < old.length + new.length)
    (hle : old.length + new.length ≤ 2 ^ 30) (hone : ∀ row ∈ old ++ new, row.all AV.one = true) :
    VOk X s w (.sl s.length 0 0 (old.length + new.length) false) (Ent.cells 0 (P.cellsOf el) (old ++ new) false :: s) P G
      ((Builtin.append_ ats ty #[.slice a old.length cap, .slice b new.length cap2]).run P w) := by
  obtain ⟨cells, cap', d, r1, r2, r3, r4⟩ := run_append_grow (ty := ty) (cap2 := cap2) h0 h1 hu hu1 he ho hn hcap hle
  have hg : Grown w { w with heap := w.heap.push (.cells cells el), drawn := d } := Grown.push w _ d
  have hall : ∀ row ∈ old ++ new, row.length = P.cellsOf el ∧ row.all AV.one = true := by
    intro row hm
    refine ⟨?_, hone row hm⟩
    rcases List.mem_append.1 hm with hm | hm
    · exact ho.sizes row hm
    · exact hn.sizes row hm
  have hx := Ext.push (l := some (w.heap.size, 0)) (rl := P.cellsOf el) (tip := (old ++ new).length) (ce := cap') hr hg (Ent.cells 0 (P.cellsOf el) (old ++ new) false) (fun b base h => by cases h; exact Nat.le_refl _)
  refine ⟨_, _, X.push (some (w.heap.size, 0)) (P.cellsOf el) (old ++ new).length cap', r1, hx, Rel.push hr hg _ (fun b base h => by cases h; exact ⟨Nat.le_refl _, by simp⟩) ?_, ?_⟩
  · refine ⟨by simp [Ctx.push], by simp [Ctx.push], by simp [Ctx.push], by simp [Ctx.push], hall, by simp [Ctx.push]; exact r2, fun b base hl => ?_⟩
    simp only [Ctx.push, if_true, Option.some.injEq, Prod.mk.injEq] at hl
    obtain ⟨rfl, rfl⟩ := hl
    refine ⟨cells, el, 0, 0, by simp, by simp [Ctx.push]; omega, fun o _ => by omega, fun i j hi hj => ?_⟩
    obtain ⟨c, d1, d2⟩ := r4 i j hi hj
    exact ⟨c, by rw [Nat.zero_add]; exact d1, d2.mono hr hx⟩
  · refine .sl _ _ _ _ _ _ _ (by simp [Ctx.push, hr.len]) (Nat.zero_le _) r2 (fun e => by cases e) fun _ => ⟨w.heap.size, 0, by simp [Ctx.push, hr.len], ⟨_, rfl, rfl⟩, fun _ => by simp, by simp [Ctx.push, hr.len], fun _ => by simp [Ctx.push, hr.len]⟩

theorem e_append (hr : Rel P G X s w) {t0 t1 el e1 ty : TypeId} {ats : Array TypeId} (h0 : ats[0]? = some t0) (h1 : ats[1]? = some t1) (hu : P.underlying t0 = some (.slice el)) (hu1 : P.underlying t1 = some (.slice e1))
    (he : ElemOk P el) {x y v : AV} {cx cy : Value} {s' : Store} (h : aappend (P.cellsOf el) s x y = some (v, s')) (hx : VR X w x cx) (hy : VR X w y cy) :
    VOk X s w v s' P G ((Builtin.append_ ats ty #[cx, cy]).run P w) := by
  unfold aappend at h
  obtain ⟨new, hnew, h'⟩ := opt_some h
  replace h := h'
  clear h'
  split at h
  · cases h
  rename_i hcond
  simp only [Bool.not_eq_false, Bool.and_eq_true] at hcond
  obtain ⟨b, cap2, rfl, hn⟩ := rowsOf_at hr hnew hcond.1 hy
  have hone : ∀ row ∈ new, row.all AV.one = true := by have := hcond.2; unfold rowsOne at this; exact List.all_eq_true.1 this
  split at h
  · -- a list
    rename_i k rows
    split at h
    · rename_i hnil
      cases h
      subst hnil
      have hcx : ∃ a l cap, cx = .slice a l cap ∧ l ≤ cap := by
        cases hx with
        | lnil => exact ⟨_, _, _, rfl, Nat.le_refl _⟩
        | list _ _ b off sz cap cs hk hsz hi hc hvv hcap hex => exact ⟨_, _, _, rfl, hcap⟩
      obtain ⟨a, l, cap, rfl, hle⟩ := hcx
      exact ⟨_, _, X, run_append_none h0 h1 hu hu1 he hle w, .refl, hr, hx⟩
    · rename_i hnil
      split at h
      · rename_i hc
        simp only [Bool.and_eq_true] at hc
        obtain ⟨hkp, ⟨hrz, hro⟩, hle⟩ := hc
        cases h
        obtain ⟨a, cap, rfl, ho⟩ := rowsOf_at (x := .list k rows) (sz := P.cellsOf el) hr rfl hrz hx
        have hcap : cap = rows.length := by
          cases hx with
          | lnil => rfl
          | list _ _ b off sz cap cs hk hsz hi hc hvv hcap hex =>
            cases k with
            | nil => exact absurd rfl hk
            | plain => exact absurd rfl hkp
            | exact => exact hex rfl
        have hpos : 0 < new.length := List.length_pos_iff.2 hnil
        refine e_append_new hr h0 h1 hu hu1 he ho hn (by omega) hle fun row hm => ?_
        rcases List.mem_append.1 hm with hm | hm
        · unfold rowsOne at hro; exact List.all_eq_true.1 hro row hm
        · exact hone row hm
      · cases h
  · -- a slice of an entry
    rename_i r v0 off len ex
    split at h
    · rename_i v' sz' rows fz hg
      split at h
      · rename_i hc
        obtain ⟨rfl, hsz', hol, hle⟩ := hc
        obtain ⟨a1, a2, a3, a4, a5, a6, a7⟩ := hr.ent r _ hg
        have hlt : r < X.n := hr.len ▸ Store.lt_of_get hg
        have hx' := hx
        cases hx with
        | sl _ _ _ _ _ a cap d1 d2 d3 d4 d5 =>
        obtain ⟨b0, base, f1, ⟨a', rfl, f2⟩, f3, f4, f5⟩ := d5 a1.symm
        split at h
        · rename_i hnil
          cases h
          subst hnil
          exact ⟨_, _, X, run_append_none h0 h1 hu hu1 he d3 w, .refl, hr, hx'⟩
        · rename_i hnil
          have hpos : 0 < new.length := List.length_pos_iff.2 hnil
          have hrz : rowsSz (P.cellsOf el) ((rows.drop off).take len) = true := by
            cases hq : (rows.drop off).take len with
            | nil => rfl
            | cons row l =>
              have hm : row ∈ (rows.drop off).take len := by rw [hq]; exact List.mem_cons_self ..
              simp [rowsSz, (a5 row (List.mem_of_mem_drop (List.mem_of_mem_take hm))).1, hsz']
          have hold : rowsOf s (.sl r v' off len ex) = some ((rows.drop off).take len) := by simp [rowsOf, hg, hol]
          have hlen : ((rows.drop off).take len).length = len := by simp; omega
          obtain ⟨a2', cap2', e2, ho⟩ := rowsOf_at hr hold hrz hx'
          rw [hlen] at e2
          cases e2
          have holdone : ∀ row ∈ (rows.drop off).take len ++ new, row.all AV.one = true := by
            intro row hm
            rcases List.mem_append.1 hm with hm | hm
            · exact (a5 row (List.mem_of_mem_drop (List.mem_of_mem_take hm))).2
            · exact hone row hm
          split at h
          · rename_i hex
            cases h
            have := e_append_new (ty := ty) (cap := cap) (cap2 := cap2) hr h0 h1 hu hu1 he ho hn (by rw [hlen, d4 hex]; omega) (by rw [hlen]; exact hle) holdone
            rw [hlen] at this
            exact this
          · rename_i hex
            have hex' : ex = false := by simpa using hex
            have hce := f5 hex'
            split at h
            · cases h
            rename_i hfz
            have hf0 : X.fz r = false := by rw [a4]; simpa using hfz
            obtain ⟨cs, T, lo, hi, c1, c2, c3, c4⟩ := a7 b0 base f1
            have hallnew : ∀ row ∈ (rows.drop off).take len ++ new, row.length = sz' ∧ row.all AV.one = true := by
              intro row hm
              refine ⟨?_, holdone row hm⟩
              rcases List.mem_append.1 hm with hm | hm
              · exact (a5 row (List.mem_of_mem_drop (List.mem_of_mem_take hm))).1
              · rw [hsz']; exact hn.sizes row hm
            have hbase : cap ≠ 0 → a' = ⟨b0, base + off * sz', none⟩ := by
              intro hc0; have := f3 hc0; rw [a2] at this; exact Option.some.inj this
            split at h
            · -- within the rows that there are
              rename_i hin
              cases h
              have hcapn : len + new.length ≤ cap := by omega
              have ha' := hbase (by omega)
              subst ha'
              have hfit : base + off * sz' + (len + new.length) * P.cellsOf el ≤ cs.size := by
                rw [← hsz']
                have : (off + (len + new.length)) * sz' ≤ X.ce r * sz' := Nat.mul_le_mul_right _ (by omega)
                rw [Nat.add_mul] at this; omega
              obtain ⟨w', cs', g1, g2, g3, g4, g5, g6, g7⟩ := run_append_place (ty := ty) (cap := cap) (cap2 := cap2) h0 h1 hu hu1 he hn hone hcapn c1 c3 hfit
              have hlen2 : (rows.take (off + len) ++ new ++ rows.drop (off + len + new.length)).length = rows.length := by simp; omega
              have hall2 : ∀ row ∈ rows.take (off + len) ++ new ++ rows.drop (off + len + new.length), row.length = sz' ∧ row.all AV.one = true := by
                intro row hm
                rcases List.mem_append.1 hm with hm | hm
                · rcases List.mem_append.1 hm with hm | hm
                  · exact a5 row (List.mem_of_mem_take hm)
                  · exact ⟨by rw [hsz']; exact hn.sizes row hm, hone row hm⟩
                · exact a5 row (List.mem_of_mem_drop hm)
              have ht := turn_cells hr (b0 := b0) (base0 := base) (w' := w') g2 hlt hf0 f1 (v := v') (sz := sz') (ce := X.ce r) (rows := rows.take (off + len) ++ new ++ rows.drop (off + len + new.length)) (l := (b0, base)) (.inl rfl)
                (.inl ⟨a1.symm, rfl, a2.symm, by rw [hlen2, a3], rfl⟩) g4 (by rw [g5]; exact c2) (by rw [g5]; exact c3) hall2 (by rw [hlen2]; exact a6) ?_
              · rw [← hsz'] at *
                refine ⟨_, w', _, g1, ht.1, ht.2, ?_⟩
                refine .sl _ _ _ _ _ _ _ hlt (by simp [Ctx.turn]) hcapn (fun e => by cases e) fun _ => ⟨b0, base, by simp [Ctx.turn], ⟨_, rfl, rfl⟩, fun _ => by simp [Ctx.turn], ?_, fun _ => by simp [Ctx.turn]; exact hce⟩
                simp only [Ctx.turn, if_true, hlen2]; omega
              · intro i j hi' hj
                have hi2 : i < rows.length := by rw [hlen2] at hi'; exact hi'
                have hj2 : j < sz' := by rw [← (hall2 _ (List.getElem_mem hi')).1]; exact hj
                have hget : (rows.take (off + len) ++ new ++ rows.drop (off + len + new.length))[i]? = if off + len ≤ i ∧ i < off + len + new.length then new[i - (off + len)]? else rows[i]? := splice_get' rows (off + len) new (by omega) i
                by_cases hk : off + len ≤ i ∧ i < off + len + new.length
                · rw [if_pos hk] at hget
                  have hi3 : i - (off + len) < new.length := by omega
                  rw [List.getElem?_eq_getElem hi', List.getElem?_eq_getElem hi3] at hget
                  have hrow := Option.some.inj hget
                  obtain ⟨c, k1, k2⟩ := g7 (i - (off + len)) j hi3 (by rw [← hrow]; exact hj)
                  refine ⟨c, ?_, ?_⟩
                  · rw [← k1, ← hsz']
                    congr 1
                    have : i = off + (len + (i - (off + len))) := by omega
                    have h8 : i * sz' = off * sz' + (len + (i - (off + len))) * sz' := by rw [← Nat.add_mul, ← this]
                    omega
                  · simp only [hrow]; exact k2
                · rw [if_neg hk] at hget
                  rw [List.getElem?_eq_getElem hi', List.getElem?_eq_getElem hi2] at hget
                  have hrow := Option.some.inj hget
                  obtain ⟨c, k1, k2⟩ := c4 i j hi2 (by rw [← hrow]; exact hj)
                  refine ⟨c, ?_, ?_⟩
                  · rw [g6, k1]
                    intro hcon
                    apply hk
                    rw [← hsz'] at hcon
                    have e1 : base + off * sz' + len * sz' = base + (off + len) * sz' := by rw [Nat.add_mul]; omega
                    have e2 : base + off * sz' + (len + new.length) * sz' = base + (off + len + new.length) * sz' := by rw [Nat.add_mul, Nat.add_mul, Nat.add_mul]; omega
                    rw [e1, e2] at hcon
                    constructor
                    · refine Nat.le_of_not_lt fun hlt' => ?_
                      have : (i + 1) * sz' ≤ (off + len) * sz' := Nat.mul_le_mul_right _ hlt'
                      rw [Nat.add_mul] at this; omega
                    · refine Nat.lt_of_not_le fun hle' => ?_
                      have : (off + len + new.length) * sz' ≤ i * sz' := Nat.mul_le_mul_right _ hle'
                      omega
                  · simp only [hrow]; exact k2
            · -- past them
              rename_i hin
              cases h
              have hlen3 : ((rows.drop off).take len ++ new).length = len + new.length := by rw [List.length_append, hlen]
              by_cases hcapn : len + new.length ≤ cap
              · have ha' := hbase (by omega)
                subst ha'
                have hfit0 : base + off * sz' + cap * sz' ≤ cs.size := by
                  have e1 : base + off * sz' + cap * sz' = base + X.ce r * sz' := by rw [← hce, Nat.add_mul]; omega
                  rw [e1]; exact c2
                have hfit : base + off * sz' + (len + new.length) * P.cellsOf el ≤ cs.size := by
                  rw [← hsz']
                  have : (len + new.length) * sz' ≤ cap * sz' := Nat.mul_le_mul_right _ hcapn
                  omega
                obtain ⟨w', cs', g1, g2, g3, g4, g5, g6, g7⟩ := run_append_place (ty := ty) (cap := cap) (cap2 := cap2) h0 h1 hu hu1 he hn hone hcapn c1 c3 hfit
                have ht := turn_cells hr (b0 := b0) (base0 := base) (w' := w') g2 hlt hf0 f1 (v := v' + 1) (sz := sz') (ce := cap) (rows := (rows.drop off).take len ++ new) (l := (b0, base + off * sz')) (.inl rfl)
                  (.inr (by omega)) g4 (by rw [g5]; exact hfit0) (by rw [g5]; exact c3) hallnew (by rw [hlen3]; exact hcapn) ?_
                · rw [hlen3] at ht
                  rw [← hsz']
                  refine ⟨_, w', _, g1, ht.1, ht.2, ?_⟩
                  refine .sl _ _ _ _ _ _ _ hlt (by simp [Ctx.turn]) hcapn (fun e => by cases e) fun _ => ⟨b0, base + off * sz', by simp [Ctx.turn], ⟨_, rfl, rfl⟩, fun _ => by simp, by simp [Ctx.turn], fun _ => by simp [Ctx.turn]⟩
                · intro i j hi' hj
                  have hi2 : i < len + new.length := by rw [hlen3] at hi'; exact hi'
                  have hj2 : j < sz' := by rw [← (hallnew _ (List.getElem_mem hi')).1]; exact hj
                  by_cases hk : i < len
                  · have hrow : ((rows.drop off).take len ++ new)[i] = rows[off + i]'(by omega) := by
                      rw [List.getElem_append_left (by rw [hlen]; exact hk)]; simp
                    obtain ⟨c, k1, k2⟩ := c4 (off + i) j (by omega) (by rw [← hrow]; exact hj)
                    refine ⟨c, ?_, by simp only [hrow]; exact k2⟩
                    have e1 : base + (off + i) * sz' = base + off * sz' + i * sz' := by rw [Nat.add_mul]; omega
                    simp only
                    rw [← e1, g6, k1]
                    rw [← hsz', e1]
                    have : (i + 1) * sz' ≤ len * sz' := Nat.mul_le_mul_right _ hk
                    rw [Nat.add_mul] at this; omega
                  · have hi3 : i - len < new.length := by omega
                    have hrow : ((rows.drop off).take len ++ new)[i] = new[i - len] := by
                      rw [List.getElem_append_right (by rw [hlen]; omega)]; simp only [hlen]
                    obtain ⟨c, k1, k2⟩ := g7 (i - len) j hi3 (by rw [← hrow]; exact hj)
                    refine ⟨c, ?_, by simp only [hrow]; exact k2⟩
                    simp only
                    rw [← k1, ← hsz', show len + (i - len) = i from by omega]
              · obtain ⟨cells, cap', d, g1, g2, g3, g4⟩ := run_append_grow (ty := ty) (cap := cap) (cap2 := cap2) h0 h1 hu hu1 he ho hn (by rw [hlen]; omega) (by rw [hlen]; exact hle)
                rw [hlen] at g1 g2
                have hgr : Grown w { w with heap := w.heap.push (.cells cells el), drawn := d } := Grown.push w _ d
                have ht := turn_cells hr (b0 := b0) (base0 := base) (hgr.turned b0) hlt hf0 f1 (v := v' + 1) (sz := sz') (ce := cap') (rows := (rows.drop off).take len ++ new) (l := (w.heap.size, 0)) (.inr ⟨Nat.le_refl _, by simp⟩)
                  (.inr (by omega)) (cs := cells) (T := el) (lo := 0) (hi := 0) (by simp) (by rw [g3, hsz']; simp) (fun o _ => by omega) hallnew (by rw [hlen3]; exact g2) ?_
                · rw [hlen3] at ht
                  rw [← hsz']
                  refine ⟨_, _, _, g1, ht.1, ht.2, ?_⟩
                  refine .sl _ _ _ _ _ _ _ hlt (by simp [Ctx.turn]) g2 (fun e => by cases e) fun _ => ⟨w.heap.size, 0, by simp [Ctx.turn], ⟨_, rfl, rfl⟩, fun _ => by simp, by simp [Ctx.turn], fun _ => by simp [Ctx.turn]⟩
                · intro i j hi' hj
                  obtain ⟨c, k1, k2⟩ := g4 i j hi' hj
                  exact ⟨c, by rw [Nat.zero_add, hsz']; exact k1, k2⟩
      · cases h
    · cases h
  · cases h
end
end Go.Am

namespace Go.Am
open Go

section
variable {P : Program} {G : Nat → Option (List AV)} {X : Ctx} {s : Store} {w : World}

theorem e_copy (hr : Rel P G X s w) {t0 el ty : TypeId} {ats : Array TypeId} (h0 : ats[0]? = some t0) (hu : P.underlying t0 = some (.slice el)) (hpos : 0 < P.cellsOf el)
    {d x v : AV} {cd cx : Value} {s' : Store} (h : acopy (P.cellsOf el) s d x = some (v, s')) (hd : VR X w d cd) (hx : VR X w x cx) :
    VOk X s w v s' P G ((Builtin.copy_ ats ty #[cd, cx]).run P w) := by
  unfold acopy at h
  obtain ⟨new, hnew, h'⟩ := opt_some h
  replace h := h'
  clear h'
  split at h
  · cases h
  rename_i hcond
  simp only [Bool.not_eq_false, Bool.and_eq_true] at hcond
  obtain ⟨b, cap2, rfl, hn⟩ := rowsOf_at hr hnew hcond.1 hx
  have hone : ∀ row ∈ new, row.all AV.one = true := by have := hcond.2; unfold rowsOne at this; exact List.all_eq_true.1 this
  split at h
  · rename_i r v0 off len ex
    split at h
    · rename_i v' sz' rows hg
      split at h
      · rename_i hc
        obtain ⟨rfl, hsz', hol⟩ := hc
        cases h
        obtain ⟨a1, a2, a3, a4, a5, a6, a7⟩ := hr.ent r _ hg
        have hlt : r < X.n := hr.len ▸ Store.lt_of_get hg
        cases hd with
        | sl _ _ _ _ _ a cap d1 d2 d3 d4 d5 =>
        obtain ⟨b0, base, f1, ⟨a', rfl, f2⟩, f3, f4, f5⟩ := d5 a1.symm
        have hnt : RowsAt X w (P.cellsOf el) (new.take len) b := hn.take
        have hntl : (new.take len).length = min new.length len := by simp; omega
        obtain ⟨c2, r2, v2⟩ := run_firstCells (P := P) (l := new.length) (cap := cap2) hpos hnt
        rw [hntl] at r2
        have hnv := flatten_length _ hnt.sizes
        have hc2 : c2.size = min new.length len * P.cellsOf el := by have := v2.1; simp only [Array.length_toList] at this; rw [← hntl]; omega
        have hi := info_of_cells hpos
        obtain ⟨cs, T, lo, hi', c1, c2', c3, c4⟩ := a7 b0 base f1
        have hntone : ∀ row ∈ new.take len, row.all AV.one = true := fun row hm => hone row (List.mem_of_mem_take hm)
        have hfl : (new.take len).flatten.all AV.one = true := by rw [List.all_flatten]; exact List.all_eq_true.2 hntone
        have hmin : Nat.min new.length len = min new.length len := rfl
        by_cases h00 : min new.length len = 0
        · have hc20 : c2 = #[] := by apply Array.eq_empty_of_size_eq_zero; rw [hc2, h00]; simp
          have hrows : rows.take off ++ new.take len ++ rows.drop (off + min new.length len) = rows := by
            have : new.take len = [] := List.length_eq_zero_iff.1 (by rw [hntl]; exact h00)
            rw [this, h00]; simp
          rw [hrows]
          have ht := turn_cells hr (b0 := b0) (base0 := base) (w' := w) (Turned.refl _ _) hlt a4 f1 (v := v') (sz := sz') (ce := X.ce r) (rows := rows) (l := (b0, base)) (.inl rfl)
            (.inl ⟨a1.symm, rfl, a2.symm, a3.symm, rfl⟩) c1 c2' c3 a5 a6 c4
          rw [← hsz']
          refine ⟨_, w, _, ?_, ht.1, ht.2, .int _ _⟩
          have r2' := r2 w rfl
          rw [h00, hc20] at r2'
          simp [Builtin.copy_, h0, run_und hu, run_sizeOf' hi, Builtin.lenOf, hmin, h00, r2', storeCells, goInt]
        · have hcap0 : cap ≠ 0 := by omega
          have ha' : a' = ⟨b0, base + off * sz', none⟩ := by have := f3 hcap0; rw [a2] at this; exact Option.some.inj this
          subst ha'
          have hfit : base + off * sz' + c2.toList.length ≤ cs.size := by
            rw [Array.length_toList, hc2, ← hsz']
            have : (off + min new.length len) * sz' ≤ X.ce r * sz' := Nat.mul_le_mul_right _ (by omega)
            rw [Nat.add_mul] at this; omega
          obtain ⟨w', g1, g2, g3, g4⟩ := run_storeCells (P := P) (b := b0) (o := base + off * sz') c2.toList 0 cs w c1 c3 (by omega) (v2.one hfl)
          have hget : ∀ i, (rows.take off ++ new.take len ++ rows.drop (off + min new.length len))[i]? = if off ≤ i ∧ i < off + min new.length len then (new.take len)[i - off]? else rows[i]? := fun i => by
            have := splice_get' rows off (new.take len) (by rw [hntl]; omega) i
            rw [hntl] at this; exact this
          have hlen2 : (rows.take off ++ new.take len ++ rows.drop (off + min new.length len)).length = rows.length := by simp; omega
          have hall2 : ∀ row ∈ rows.take off ++ new.take len ++ rows.drop (off + min new.length len), row.length = sz' ∧ row.all AV.one = true := by
            intro row hm
            rcases List.mem_append.1 hm with hm | hm
            · rcases List.mem_append.1 hm with hm | hm
              · exact a5 row (List.mem_of_mem_take hm)
              · exact ⟨by rw [hsz']; exact hnt.sizes row hm, hntone row hm⟩
            · exact a5 row (List.mem_of_mem_drop hm)
          have ht := turn_cells hr (b0 := b0) (base0 := base) (w' := w') g2 hlt a4 f1 (v := v') (sz := sz') (ce := X.ce r) (rows := rows.take off ++ new.take len ++ rows.drop (off + min new.length len)) (l := (b0, base)) (.inl rfl)
            (.inl ⟨a1.symm, rfl, a2.symm, by rw [hlen2, a3], rfl⟩) g4 (by rw [foldSet_size]; exact c2') (by rw [foldSet_size]; exact c3) hall2 (by rw [hlen2]; exact a6) ?_
          · rw [hsz'] at ht
            refine ⟨_, w', _, ?_, ht.1, ht.2, .int _ _⟩
            simp [Builtin.copy_, h0, run_und hu, run_sizeOf' hi, Builtin.lenOf, hmin, r2 w rfl, g1, goInt]
          · intro i j hi2 hj
            have hi3 : i < rows.length := by rw [hlen2] at hi2; exact hi2
            have hj2 : j < sz' := by rw [← (hall2 _ (List.getElem_mem hi2)).1]; exact hj
            have hgi := hget i
            rw [foldSet_get]
            simp only [Nat.add_zero, Array.length_toList, hc2]
            by_cases hk : off ≤ i ∧ i < off + min new.length len
            · rw [if_pos hk] at hgi
              have hi4 : i - off < (new.take len).length := by rw [hntl]; omega
              rw [List.getElem?_eq_getElem hi2, List.getElem?_eq_getElem hi4] at hgi
              have hrow := Option.some.inj hgi
              obtain ⟨c, k1, k2⟩ := rows_at hnt.sizes v2 (i - off) j hi4 (by rw [← hrow]; exact hj)
              refine ⟨c, ?_, by simp only [hrow]; exact k2⟩
              have e1 : base + i * sz' + j = base + off * sz' + ((i - off) * sz' + j) := by
                have : i * sz' = off * sz' + (i - off) * sz' := by rw [← Nat.add_mul]; congr 1; omega
                omega
              have e2 : (i - off + 1) * sz' ≤ min new.length len * sz' := Nat.mul_le_mul_right _ (by omega)
              rw [Nat.add_mul] at e2
              rw [Array.length_toList, hc2, ← hsz'] at hfit
              rw [if_pos (by rw [← hsz']; omega), Array.getElem?_toList, e1, Nat.add_sub_cancel_left, hsz']
              exact k1
            · rw [if_neg hk] at hgi
              rw [List.getElem?_eq_getElem hi2, List.getElem?_eq_getElem hi3] at hgi
              have hrow := Option.some.inj hgi
              obtain ⟨c, k1, k2⟩ := c4 i j hi3 (by rw [← hrow]; exact hj)
              refine ⟨c, ?_, by simp only [hrow]; exact k2⟩
              rw [if_neg, k1]
              intro hcon
              apply hk
              rw [← hsz'] at hcon
              constructor
              · refine Nat.le_of_not_lt fun hlt' => ?_
                have : (i + 1) * sz' ≤ off * sz' := Nat.mul_le_mul_right _ hlt'
                rw [Nat.add_mul] at this; omega
              · refine Nat.lt_of_not_le fun hle' => ?_
                have : (off + min new.length len) * sz' ≤ i * sz' := Nat.mul_le_mul_right _ hle'
                rw [Nat.add_mul] at this; omega
      · cases h
    · cases h
  · cases h

theorem findKey_get {kt : KT} {k : AV} : ∀ {es : List (AV × AV × Nat)} {n i : Nat} {v : AV} {b : Nat}, findKey kt k es n = some (some (i, v, b)) →
    ∃ j k', i = n + j ∧ es[j]? = some (k', v, b) ∧ keyEq kt k k' = some true := by
  intro es
  induction es with
  | nil => intro n i v b h; simp [findKey] at h
  | cons e es ih =>
    intro n i v b h
    obtain ⟨k', v', b'⟩ := e
    simp only [findKey] at h
    obtain ⟨t, ht, h'⟩ := opt_some h
    cases t with
    | true =>
      simp only [if_true, Option.some.injEq, Prod.mk.injEq] at h'
      obtain ⟨rfl, rfl, rfl⟩ := h'
      exact ⟨0, k', rfl, rfl, ht⟩
    | false =>
      simp only [Bool.false_eq_true, if_false] at h'
      obtain ⟨j, k2, h1, h2, h3⟩ := ih h'
      exact ⟨j + 1, k2, by omega, h2, h3⟩

theorem simple_bits {k : CK} {x y : AV} {cx cy : Value} (h : simpleEq k x y = some true) (hx : VR X w x cx) (hy : VR X w y cy) (n : Nat) : Instr.sameBits n cy cx = true := by
  unfold simpleEq at h
  split at h
  · cases hx; cases hy; simp at h; subst h; cases n <;> simp [Instr.sameBits]
  · split at h
    · rename_i hk
      subst hk
      cases hx; cases hy; simp at h; subst h; cases n <;> simp [Instr.sameBits]
    · cases h
  · obtain ⟨a, rfl, rfl⟩ := hx.str_inv
    obtain ⟨b, rfl, rfl⟩ := hy.str_inv
    simp only [Option.some.injEq] at h
    have hab := bytesN_inj (beq_iff_eq.1 h)
    subst hab
    rw [bytesN_beq] at h
    cases n <;> simp [Instr.sameBits, h]
  · cases h

theorem cells_bits : ∀ {ks : List CK} {a b : List AV} {ca cb : List Value}, cellsEq ks a b = some true → VRs X w a ca → VRs X w b cb → ∀ n, (cb.zip ca).all (fun p => Instr.sameBits n p.1 p.2) = true := by
  intro ks
  induction ks with
  | nil =>
    intro a b ca cb h ha hb n
    cases a <;> cases b <;> simp [cellsEq] at h
    have : ca = [] := List.length_eq_zero_iff.1 ha.1.symm
    subst this; simp
  | cons k ks ih =>
    intro a b ca cb h ha hb n
    cases a with
    | nil => simp [cellsEq] at h
    | cons x xs =>
      cases b with
      | nil => simp [cellsEq] at h
      | cons y ys =>
        cases ca with
        | nil => exact absurd ha.1 (by simp)
        | cons cx ca =>
          cases cb with
          | nil => exact absurd hb.1 (by simp)
          | cons cy cb =>
            simp only [cellsEq] at h
            obtain ⟨t, ht, h'⟩ := opt_some h
            obtain ⟨t', ht', h''⟩ := opt_some h'
            simp only [Option.some.injEq, Bool.and_eq_true] at h''
            obtain ⟨rfl, rfl⟩ := h''
            simp only [List.zip_cons_cons, List.all_cons, Bool.and_eq_true]
            refine ⟨simple_bits ht (ha.2 0 (by simp) (by simp)) (hb.2 0 (by simp) (by simp)) n, ih ht' ⟨by simpa using ha.1, fun i h1 h2 => ?_⟩ ⟨by simpa using hb.1, fun i h1 h2 => ?_⟩ n⟩
            · exact ha.2 (i + 1) (by simpa using h1) (by simpa using h2)
            · exact hb.2 (i + 1) (by simpa using h1) (by simpa using h2)

theorem key_bits {kt : KT} {k k' : AV} {c c' : Value} (h : keyEq kt k k' = some true) (hv : VR X w k c) (hv' : VR X w k' c') : Instr.sameBits 10000 c' c = true := by
  unfold keyEq at h
  split at h
  · exact simple_bits h hv hv' _
  · rename_i ks a b
    cases hv with
    | agg _ ca h1 h2 =>
      cases hv' with
      | agg _ cb h3 h4 =>
        have hl := cellsEq_length _ _ _ _ h
        have := cells_bits (ca := ca.toList) (cb := cb.toList) h ⟨by simpa using h1, fun i a b => h2 i a (by simpa using b)⟩ ⟨by simpa using h3, fun i a b => h4 i a (by simpa using b)⟩ 9999
        simp only [Instr.sameBits, Bool.and_eq_true, beq_iff_eq]
        exact ⟨by omega, this⟩
  · cases h

theorem run_keyStays {old new : Value} (h : Instr.sameBits 10000 old new = true) (w : World) : (Instr.keyThatStays old new).run P w = .ok new w := by simp [Instr.keyThatStays, h]

/-- A map's block is another map. -/
theorem turn_map (hr : Rel P G X s w) {r a : Nat} {es es' : List (AV × AV × Nat)} {c c' : Nat} (hg : s.get r = some (.map es c)) (hl : X.loc r = some (a, 0)) {ces' : Array MapEntry} (hlen : es'.length = ces'.size)
    (hv : ∀ i (h : i < es'.length) (h' : i < ces'.size), VR X w es'[i].1 ces'[i].key ∧ VR X w es'[i].2.1 ces'[i].val ∧ es'[i].2.2 = ces'[i].born) :
    ∃ w' X', (setObj a (.map ces' c')).run P w = .ok () w' ∧ Ext X s w X' (s.put r (.map es' c')) w' ∧ Rel P G X' (s.put r (.map es' c')) w' := by
  have hlt : r < X.n := hr.len ▸ Store.lt_of_get hg
  obtain ⟨a1, a2, a3⟩ := hr.ent r _ hg
  have hb := hr.locb r a 0 hlt hl
  have ht : Turned a w { w with heap := w.heap.setIfInBounds a (.map ces' c') } := by
    refine ⟨by simp, fun b h1 h2 => ?_, rfl, rfl⟩
    simp only [Array.getElem?_setIfInBounds]
    rw [if_neg (fun e => h2 e.symm)]
  have hk : (X.ver r = X.ver r ∧ (a, 0) = (a, 0) ∧ X.rl r = X.rl r ∧ X.tip r = X.tip r ∧ X.ce r = X.ce r) ∨ X.ver r < X.ver r := .inl ⟨rfl, rfl, rfl, rfl, rfl⟩
  have hx := Ext.turn hr ht hlt a2 hl (.map es' c') (.inl rfl) hk
  refine ⟨{ w with heap := w.heap.setIfInBounds a (.map ces' c') }, X.turn r (X.ver r) (a, 0) (X.rl r) (X.tip r) (X.ce r), ?_, hx, Rel.turn hr ht hlt a2 hl _ (.inl rfl) hk ?_⟩
  · obtain ⟨_, ces0, hm, _⟩ := a3 a 0 hl
    simp [setObj, Sem.run, hm]
  · refine ⟨by simp [Ctx.turn]; exact a1, by simp [Ctx.turn]; exact a2, fun b base h => ?_⟩
    simp only [Ctx.turn, if_true, Option.some.injEq, Prod.mk.injEq] at h
    obtain ⟨rfl, rfl⟩ := h
    refine ⟨rfl, ces', by simp [hb], hlen, fun i h1 h2 => ?_⟩
    obtain ⟨b1, b2, b3⟩ := hv i h1 h2
    exact ⟨b1.mono hr hx, b2.mono hr hx, b3⟩

theorem EsR.set {es : List (AV × AV × Nat)} {ces : Array MapEntry} (he : EsR X w es ces.toList) {i : Nat} {k v : AV} {b : Nat} {f : MapEntry → MapEntry}
    (hf : ∀ (hi : i < ces.size) (hi' : i < es.length), VR X w k (f ces[i]).key ∧ VR X w v (f ces[i]).val ∧ b = (f ces[i]).born) :
    (es.set i (k, v, b)).length = (ces.modify i f).size ∧ ∀ j (h : j < (es.set i (k, v, b)).length) (h' : j < (ces.modify i f).size),
      VR X w (es.set i (k, v, b))[j].1 (ces.modify i f)[j].key ∧ VR X w (es.set i (k, v, b))[j].2.1 (ces.modify i f)[j].val ∧ (es.set i (k, v, b))[j].2.2 = (ces.modify i f)[j].born := by
  have hl : es.length = ces.size := by simpa using he.1
  refine ⟨by simp [hl], fun j h h' => ?_⟩
  have hj : j < es.length := by simpa using h
  have hj' : j < ces.size := by simpa using h'
  by_cases hij : i = j
  · subst hij
    have := hf hj' hj
    simpa [Array.getElem_modify] using this
  · have := he.2 j hj (by simpa using hj')
    simpa [Array.getElem_modify, hij] using this

theorem EsR.push {es : List (AV × AV × Nat)} {ces : Array MapEntry} (he : EsR X w es ces.toList) {k v : AV} {ck cv : Value} {b : Nat} (hk : VR X w k ck) (hv : VR X w v cv) :
    (es ++ [(k, v, b)]).length = (ces.push { key := ck, val := cv, born := b }).size ∧ ∀ j (h : j < (es ++ [(k, v, b)]).length) (h' : j < (ces.push { key := ck, val := cv, born := b }).size),
      VR X w (es ++ [(k, v, b)])[j].1 (ces.push { key := ck, val := cv, born := b })[j].key ∧ VR X w (es ++ [(k, v, b)])[j].2.1 (ces.push { key := ck, val := cv, born := b })[j].val ∧
        (es ++ [(k, v, b)])[j].2.2 = (ces.push { key := ck, val := cv, born := b })[j].born := by
  have hl : es.length = ces.size := by simpa using he.1
  refine ⟨by simp [hl], fun j h h' => ?_⟩
  by_cases hj : j < ces.size
  · have := he.2 j (by omega) (by simpa using hj)
    simp only [List.getElem_append_left (show j < es.length by omega), Array.getElem_push_lt hj]
    simpa using this
  · have hj2 : j = ces.size := by simp at h'; omega
    subst hj2
    simp only [← hl, List.getElem_append_right (Nat.le_refl _)]
    simp [hl, hk, hv]

/-- What a search in a map gives. -/
theorem map_search (hr : Rel P G X s w) {kt : TypeId} {q : KT} (hq : keyT P kt = some q) {r : Nat} {es : List (AV × AV × Nat)} {cl : Nat} (hg : s.get r = some (.map es cl)) {cm ck : Value} {k : AV} (hm : VR X w (.map r) cm) (hk : VR X w k ck)
    {b : Bool} (hb : keyEq q k k = some b) {x : Option (Nat × AV × Nat)} (hf : findKey q k es 0 = some x) :
    ∃ a ces rr, cm = .map (some a) ∧ X.loc r = some (a, 0) ∧ EsR X w es ces.toList ∧ (getObj a).run P w = .ok (.map ces cl) w ∧ (Instr.checkKey false 10000 kt ck).run P w = .ok () w ∧ (Instr.findKey kt ck ces.toList).run P w = .ok rr w ∧
      match x with
      | none => rr = none
      | some (i, v, bo) => ∃ cv k', rr = some (i, cv) ∧ ∃ (h : i < ces.size) (h' : i < es.length), ces[i].val = cv ∧ es[i] = (k', v, bo) ∧ Instr.sameBits 10000 ces[i].key ck = true := by
  obtain ⟨a, ces, rfl, hl, hh, he⟩ := q_getMap hr hg hm
  obtain ⟨rr, h1, h2⟩ := run_findKey hq hk hf he w
  refine ⟨a, ces, rr, rfl, hl, he, run_getObj_map hh, checkKey_sound hq hk (keyEq_keyV hb).1 false w, h1, ?_⟩
  cases x with
  | none => exact h2
  | some p =>
    obtain ⟨i, v, bo⟩ := p
    obtain ⟨j, e1, e2, e3, e4, e5, e6⟩ := h2
    obtain ⟨j', k', f1, f2, f3⟩ := findKey_get hf
    have hij : j = i := by omega
    subst hij
    have hij' : j' = j := by omega
    subst hij'
    have hlt : j' < ces.size := by simpa using e2
    have hkey : es[j'] = (k', v, bo) := by rw [List.getElem?_eq_getElem e3] at f2; exact Option.some.inj f2
    refine ⟨ces[j'].val, k', by simpa using e4, hlt, e3, rfl, hkey, ?_⟩
    have := (he.2 j' e3 e2).1
    rw [hkey] at this
    exact key_bits f3 hk (by simpa using this)

theorem e_mapupd (hr : Rel P G X s w) {t kt el : TypeId} (hu : P.underlying t = some (.map kt el)) {q : KT} (hq : keyT P kt = some q) {m k x v : AV} {cm ck cx : Value} {s' : Store}
    (h : (match m with
      | .map r => match s.get r with
        | some (.map es c) => opt (keyEq q k k) fun _ => opt (findKey q k es 0) fun
          | some (i, _, b) => some (AV.undef, s.put r (.map (es.set i (k, x, b)) c))
          | none => some (.undef, s.put r (.map (es ++ [(k, x, c)]) (c + 1)))
        | _ => none
      | _ => none) = some (v, s')) (hm : VR X w m cm) (hk : VR X w k ck) (hx : VR X w x cx) :
    v = .undef ∧ ∃ w' X', (Instr.mapUpdate t cm ck cx).run P w = .ok () w' ∧ Ext X s w X' s' w' ∧ Rel P G X' s' w' := by
  split at h
  · rename_i r
    split at h
    · rename_i es c hg
      obtain ⟨b, hb, h'⟩ := opt_some h
      obtain ⟨y, hf, h''⟩ := opt_some h'
      obtain ⟨a, ces, rr, rfl, hl, he, r1, r2, r3, r4⟩ := map_search hr hq hg hm hk hb hf
      cases y with
      | none =>
        cases h''
        simp only at r4
        subst r4
        obtain ⟨e1, e2⟩ := he.push (b := c) hk hx
        obtain ⟨w', X', f1, f2, f3⟩ := turn_map (c' := c + 1) hr hg hl e1 e2
        refine ⟨rfl, w', X', ?_, f2, f3⟩
        simp [Instr.mapUpdate, run_und hu, r1, r2, r3, f1]
      | some p =>
        obtain ⟨i, v0, bo⟩ := p
        cases h''
        obtain ⟨cv, k', rfl, hi, hi', g1, g2, g3⟩ := r4
        obtain ⟨e1, e2⟩ := he.set (i := i) (k := k) (v := x) (b := bo) (f := fun e => { e with key := ck, val := cx }) fun h1 h2 => ⟨hk, hx, by
          have := (he.2 i h2 (by simpa using h1)).2.2
          rw [g2] at this; simpa using this⟩
        obtain ⟨w', X', f1, f2, f3⟩ := turn_map (c' := c) hr hg hl e1 e2
        refine ⟨rfl, w', X', ?_, f2, f3⟩
        have hst := run_keyStays (P := P) g3 w
        simp [Instr.mapUpdate, run_und hu, r1, r2, r3, hi, hst, f1]
    · cases h
  · cases h

theorem e_mapent (hr : Rel P G X s w) {t kt el : TypeId} (hu : P.underlying t = some (.map kt el)) {q : KT} (hq : keyT P kt = some q) {z : AV} (hz : zeroOf P el = some z) {m k v : AV} {cm ck : Value} {s' : Store}
    (h : (match m with
      | .map r => match s.get r with
        | some (.map es c) => opt (keyEq q k k) fun _ => opt (findKey q k es 0) fun
          | some (i, v, b) => some (AV.tup [v, .int .i64 b], s.put r (.map (es.set i (k, v, b)) c))
          | none => some (.tup [z, .int .i64 c], s.put r (.map (es ++ [(k, z, c)]) (c + 1)))
        | _ => none
      | _ => none) = some (v, s')) (hm : VR X w m cm) (hk : VR X w k ck) :
    VOk X s w v s' P G ((Instr.mapEntry t cm ck).run P w) := by
  split at h
  · rename_i r
    split at h
    · rename_i es c hg
      obtain ⟨b, hb, h'⟩ := opt_some h
      obtain ⟨y, hf, h''⟩ := opt_some h'
      obtain ⟨a, ces, rr, rfl, hl, he, r1, r2, r3, r4⟩ := map_search hr hq hg hm hk hb hf
      cases y with
      | none =>
        cases h''
        simp only at r4
        subst r4
        obtain ⟨cz, hz1, hz2⟩ := zeroOf_sound (X := X) (w := w) hz w
        obtain ⟨e1, e2⟩ := he.push (b := c) hk hz2
        obtain ⟨w', X', f1, f2, f3⟩ := turn_map (c' := c + 1) hr hg hl e1 e2
        refine ⟨_, w', X', ?_, f2, f3, VR.pair (hz2.mono hr f2) (.int _ _)⟩
        simp [Instr.mapEntry, run_und hu, r1, r2, r3, hz1, f1, goInt]
      | some p =>
        obtain ⟨i, v0, bo⟩ := p
        cases h''
        obtain ⟨cv, k', rfl, hi, hi', g1, g2, g3⟩ := r4
        have hold := he.2 i hi' (by simpa using hi)
        simp only [g2, Array.getElem_toList] at hold
        obtain ⟨e1, e2⟩ := he.set (i := i) (k := k) (v := v0) (b := bo) (f := fun e => { e with key := ck }) fun h1 h2 => ⟨hk, hold.2.1, hold.2.2⟩
        obtain ⟨w', X', f1, f2, f3⟩ := turn_map (c' := c) hr hg hl e1 e2
        refine ⟨_, w', X', ?_, f2, f3, VR.pair (hold.2.1.mono hr f2) (.int _ (bo : Int))⟩
        have hst := run_keyStays (P := P) g3 w
        simp [Instr.mapEntry, run_und hu, r1, r2, r3, hi, hst, f1, goInt, g1, hold.2.2]
    · cases h
  · cases h
end
end Go.Am

namespace Go.Am
open Go

section
variable {P : Program} {G : Nat → Option (List AV)} {X : Ctx} {s : Store} {w : World}

theorem bytesN_back (b : ByteArray) : (⟨((bytesN b).map UInt8.ofNat).toArray⟩ : ByteArray) = b := by
  cases b with
  | mk d => simp [bytesN, Function.comp_def]

theorem findIdx_born {es : List (AV × AV × Nat)} {ces : Array MapEntry} (he : EsR X w es ces.toList) (b : Int) :
    ces.findIdx? (fun e => (e.born : Int) == b) = es.findIdx? (fun e => ((e.2.2 : Nat) : Int) == b) := by
  have h1 : ces.findIdx? (fun e => (e.born : Int) == b) = ces.toList.findIdx? (fun e => (e.born : Int) == b) := by
    cases ces; simp
  rw [h1]
  have h2 : ∀ (es : List (AV × AV × Nat)) (cs : List MapEntry), EsR X w es cs → cs.findIdx? (fun e => (e.born : Int) == b) = es.findIdx? (fun e => ((e.2.2 : Nat) : Int) == b) := by
    intro es
    induction es with
    | nil => intro cs h; have : cs = [] := List.length_eq_zero_iff.1 h.1.symm; subst this; rfl
    | cons e es ih =>
      intro cs h
      cases cs with
      | nil => exact absurd h.1 (by simp)
      | cons c cs =>
        have h0 := (h.2 0 (by simp) (by simp)).2.2
        simp only [List.getElem_cons_zero] at h0
        simp only [List.findIdx?_cons, ih cs h.tail, h0]
  exact h2 es _ he

theorem e_entst (hr : Rel P G X s w) {t : TypeId} {m st x v : AV} {cm cs cx : Value} {s' : Store}
    (h : (match m, st with
      | .map r, .int _ b => match s.get r with
        | some (.map es c) => opt (es.findIdx? (fun e => ((e.2.2 : Nat) : Int) == b)) fun i =>
            some (AV.undef, s.put r (.map (es.modify i fun e => (e.1, x, e.2.2)) c))
        | _ => none
      | _, _ => none) = some (v, s')) (hm : VR X w m cm) (hs : VR X w st cs) (hx : VR X w x cx) :
    v = .undef ∧ ∃ w' X', (Instr.entryStore t cm cs cx).run P w = .ok () w' ∧ Ext X s w X' s' w' ∧ Rel P G X' s' w' := by
  split at h
  · rename_i r k b
    split at h
    · rename_i es c hg
      obtain ⟨i, hi, h'⟩ := opt_some h
      cases h'
      obtain ⟨a, ces, rfl, hl, hh, he⟩ := q_getMap hr hg hm
      have hcs := hs.int_inv
      subst hcs
      have hlen : es.length = ces.size := by simpa using he.1
      obtain ⟨w', X', f1, f2, f3⟩ := turn_map (es' := es.modify i fun e => (e.1, x, e.2.2)) (ces' := ces.modify i fun e => { e with val := cx }) (c' := c) hr hg hl (by simp [hlen]) (by
        intro j h1 h2
        have hj : j < es.length := by simpa using h1
        have hj' : j < ces.size := by simpa using h2
        have := he.2 j hj (by simpa using hj')
        rw [List.getElem_modify, Array.getElem_modify]
        split
        · exact ⟨by simpa using this.1, hx, by simpa using this.2.2⟩
        · simpa using this)
      refine ⟨rfl, w', X', ?_, f2, f3⟩
      have hfi := findIdx_born he b
      rw [hi] at hfi
      simp [Instr.entryStore, run_getObj_map hh, asInt, asIntOf, hfi, f1]
    · cases h
  · cases h

theorem e_srange (hr : Rel P G X s w) {t : TypeId} (hu : P.underlying t = some .string) {b : ByteArray} :
    VOk X s w (.ptr s.length 0 0 0) (Ent.siter (bytesN b) 0 :: s) P G ((Instr.range t (.string b)).run P w) := by
  have hg : Grown w { w with heap := w.heap.push (.stringIter b 0), drawn := w.drawn } := Grown.push w _ _
  have hx := Ext.push (l := some (w.heap.size, 0)) (rl := 0) (tip := 0) (ce := 0) hr hg (Ent.siter (bytesN b) 0) (fun b base h => by cases h; exact Nat.le_refl _)
  refine ⟨.pointer (some ⟨w.heap.size, 0, none⟩), _, X.push (some (w.heap.size, 0)) 0 0 0, ?_, hx, Rel.push hr hg _ (fun b base h => by cases h; exact ⟨Nat.le_refl _, by simp⟩) ?_, ?_⟩
  · simp [Instr.range, run_und hu]
  · refine ⟨by simp [Ctx.push], by simp [Ctx.push], fun b' base hl => ?_⟩
    simp only [Ctx.push, if_true, Option.some.injEq, Prod.mk.injEq] at hl
    obtain ⟨rfl, rfl⟩ := hl
    exact ⟨rfl, b, rfl, by simp⟩
  · exact .ptr _ _ _ _ _ (by simp [Ctx.push, hr.len]) (Nat.zero_le _) fun _ => ⟨w.heap.size, 0, by simp [Ctx.push, hr.len], by simp⟩

theorem e_snext (hr : Rel P G X s w) {ty : TypeId} {x v : AV} {cx : Value} {s' : Store}
    (h : (match x with
      | .ptr r 0 0 0 => match s.get r with
        | some (.siter b p) =>
          if p < b.length then
            some (AV.tup [.bool true, .int .i64 p, .int .i32 (Utf8.decode ⟨(b.map UInt8.ofNat).toArray⟩ p).1], s.put r (.siter b (p + (Utf8.decode ⟨(b.map UInt8.ofNat).toArray⟩ p).2)))
          else some (.tup [.bool false], s)
        | _ => none
      | _ => none) = some (v, s')) (hx : VR X w x cx) : VOk X s w v s' P G ((Instr.next cx true ty).run P w) := by
  split at h
  · rename_i r
    split at h
    · rename_i b p hg
      have hlt : r < X.n := hr.len ▸ Store.lt_of_get hg
      obtain ⟨a1, a2, a3⟩ := hr.ent r _ hg
      cases hx with
      | ptr _ _ _ _ a d1 d2 d3 =>
      obtain ⟨bl, base, hl, rfl⟩ := d3 a1.symm
      obtain ⟨rfl, bs, rfl, hh⟩ := a3 bl base hl
      have hget : (getObj bl).run P w = .ok (.stringIter bs p) w := by simp [getObj, Sem.run, hh]
      rw [bytesN_length, bytesN_back] at h
      simp only [Nat.zero_mul, Nat.add_zero]
      split at h
      · rename_i hp
        cases h
        have ht : Turned bl w { w with heap := w.heap.setIfInBounds bl (.stringIter bs (p + (Utf8.decode bs p).2)) } := by
          refine ⟨by simp, fun b h1 h2 => ?_, rfl, rfl⟩
          simp only [Array.getElem?_setIfInBounds]
          rw [if_neg (fun e => h2 e.symm)]
        have hk : (X.ver r = X.ver r ∧ (bl, 0) = (bl, 0) ∧ X.rl r = X.rl r ∧ X.tip r = X.tip r ∧ X.ce r = X.ce r) ∨ X.ver r < X.ver r := .inl ⟨rfl, rfl, rfl, rfl, rfl⟩
        have hx := Ext.turn hr ht hlt a2 hl (.siter (bytesN bs) (p + (Utf8.decode bs p).2)) (.inl rfl) hk
        refine ⟨.tuple #[.bool true, goInt p, .int .i32 (Utf8.decode bs p).1], { w with heap := w.heap.setIfInBounds bl (.stringIter bs (p + (Utf8.decode bs p).2)) }, X.turn r (X.ver r) (bl, 0) (X.rl r) (X.tip r) (X.ce r), ?_, hx, Rel.turn hr ht hlt a2 hl _ (.inl rfl) hk ?_, ?_⟩
        · simp [Instr.next, hget, hp, setObj, Sem.run, hh, goInt]
        · refine ⟨by simp [Ctx.turn]; exact a1, by simp [Ctx.turn]; exact a2, fun b base h => ?_⟩
          simp only [Ctx.turn, if_true, Option.some.injEq, Prod.mk.injEq] at h
          obtain ⟨rfl, rfl⟩ := h
          exact ⟨rfl, bs, rfl, by simp [hr.locb r bl 0 hlt hl]⟩
        · refine .tup _ _ rfl fun i h h' => ?_
          simp at h
          match i, h with
          | 0, _ => exact .bool _
          | 1, _ => exact .int _ _
          | 2, _ => exact .int _ _
      · rename_i hp
        cases h
        refine ⟨.tuple #[.bool false], w, X, ?_, .refl, hr, .tup _ _ rfl fun i h h' => ?_⟩
        · simp [Instr.next, hget, hp]
        · simp at h; subst h; exact .bool _
    · cases h
  · cases h

theorem EOk.ofV {v : AV} {s' : Store} {m : Sem Value} (h : VOk X s w v s' P G (m.run P w)) : EOk P G X s w v s' ((do pure (Next.value (← m)) : Sem Next).run P w) := by
  obtain ⟨c, w', X', h1, h2, h3, h4⟩ := h
  exact ⟨.value c, w', X', by simp [h1], h2, h3, h4⟩

theorem EOk.ofU {s' : Store} {m : Sem Unit} (h : ∃ w' X', m.run P w = .ok () w' ∧ Ext X s w X' s' w' ∧ Rel P G X' s' w') : EOk P G X s w .undef s' ((do m; pure Next.skip : Sem Next).run P w) := by
  obtain ⟨w', X', h1, h2, h3⟩ := h
  exact ⟨.skip, w', X', by simp [h1], h2, h3, rfl⟩

theorem eop_sound (hr : Rel P G X s w) {tm : List AV} {a : Act} (ht : VRs X w tm a.tmps.toList) (own : Bool) (o : Oper) {v : AV} {s' : Store}
    (h : eop tm s (cOp P G own o) = some (v, s')) : EOk P G X s w v s' ((execOp a.eval o).run P w) := by
  obtain ⟨dst, op, ty, pos, after, guard⟩ := o
  cases op with
  | assign x =>
    simp only [cOp, eop, Option.some.injEq, Prod.mk.injEq] at h
    obtain ⟨rfl, rfl⟩ := h
    exact ⟨.value (a.eval x), w, X, rfl, .refl, hr, opd_sound hr ht x⟩
  | store t x y =>
    simp only [cOp] at h
    split at h
    · rename_i hi
      simp only [eop] at h
      cases hs : storeAt s (P.cellsOf t) (ev tm (cOpd G x)) (ev tm (cOpd G y)) with
      | none => rw [hs] at h; cases h
      | some s2 =>
        rw [hs] at h
        cases h
        obtain ⟨w', X', h1, h2, h3⟩ := e_store hr hs (opd_sound hr ht x) (opd_sound hr ht y) rfl hi
        exact EOk.ofU ⟨w', X', h1, h2, h3⟩
    · simp [eop] at h
  | mapUpdate t m k x =>
    simp only [cOp] at h
    split at h
    · rename_i kt el hu
      split at h
      · rename_i q hq
        obtain ⟨rfl, h2⟩ := e_mapupd hr hu hq h (opd_sound hr ht m) (opd_sound hr ht k) (opd_sound hr ht x)
        exact EOk.ofU h2
      · simp [eop] at h
    · simp [eop] at h
  | insert t m k x =>
    simp only [cOp] at h
    split at h
    · rename_i kt el hu
      split at h
      · rename_i q hq
        obtain ⟨rfl, h2⟩ := e_mapupd hr hu hq h (opd_sound hr ht m) (opd_sound hr ht k) (opd_sound hr ht x)
        exact EOk.ofU h2
      · simp [eop] at h
    · simp [eop] at h
  | mapEntry t m k =>
    simp only [cOp] at h
    split at h
    · rename_i kt el hu
      split at h
      · rename_i z hz
        split at h
        · rename_i q hq
          exact EOk.ofV (e_mapent hr hu hq hz h (opd_sound hr ht m) (opd_sound hr ht k))
        · simp [eop] at h
      · simp [eop] at h
    · simp [eop] at h
  | entryStore t m st x =>
    simp only [cOp] at h
    obtain ⟨rfl, h2⟩ := e_entst hr h (opd_sound hr ht m) (opd_sound hr ht st) (opd_sound hr ht x)
    exact EOk.ofU h2
  | range t x =>
    simp only [cOp] at h
    split at h
    · rename_i hu
      simp only [eop] at h
      split at h
      · rename_i b heq
        have hx := opd_sound hr ht x
        rw [heq] at hx
        obtain ⟨bs, hb, rfl⟩ := hx.str_inv
        cases h
        refine EOk.ofV ?_
        rw [hb]
        exact e_srange hr hu
      · cases h
    · simp [eop] at h
  | next x st =>
    simp only [cOp] at h
    split at h
    · rename_i hst
      subst hst
      exact EOk.ofV (e_snext hr h (opd_sound hr ht x))
    · simp [eop] at h
  | call c =>
    obtain ⟨callee, args, ats⟩ := c
    simp only [cOp, cCall] at h
    have two : ∀ {x' y' : Opd}, args.toList.map (cOpd G) = [x', y'] → ∃ x y, args = #[x, y] ∧ x' = cOpd G x ∧ y' = cOpd G y := by
      intro x' y' he
      obtain ⟨l⟩ := args
      match l, he with
      | [x, y], he => simp at he; exact ⟨x, y, rfl, he.1.symm, he.2.symm⟩
    have typ : ∀ {u : TypeDesc} {i : Nat}, (ats[i]?).bind P.underlying = some u → ∃ t, ats[i]? = some t ∧ P.underlying t = some u := by
      intro u i hu
      cases h0 : ats[i]? with
      | none => rw [h0] at hu; cases hu
      | some t => rw [h0] at hu; exact ⟨t, rfl, hu⟩
    cases callee with
    | value f => simp [eop] at h
    | invoke r n => simp [eop] at h
    | builtin b =>
      simp only at h
      split at h
      · (repeat' split at h) <;> simp [eop] at h
      · rename_i x' y' he
        obtain ⟨x, y, rfl, rfl, rfl⟩ := two he
        split at h
        · rename_i e e1 hu0 hu1
          obtain ⟨t0, h0, u0⟩ := typ hu0
          obtain ⟨t1, h1, u1⟩ := typ hu1
          split at h
          · rename_i hc
            obtain ⟨c, w', X', r1, r2, r3, r4⟩ := e_append (ty := ty) hr h0 h1 u0 u1 ⟨hc.1, hc.2.1, hc.2.2.1, hc.2.2.2⟩ h (opd_sound hr ht x) (opd_sound hr ht y)
            refine ⟨.value c, w', X', ?_, r2, r3, r4⟩
            simp [execOp, resolve, invoke, builtin, r1]
          · simp [eop] at h
        · simp [eop] at h
      · rename_i x' y' he
        obtain ⟨x, y, rfl, rfl, rfl⟩ := two he
        split at h
        · rename_i e hu0
          obtain ⟨t0, h0, u0⟩ := typ hu0
          split at h
          · rename_i hc
            obtain ⟨c, w', X', r1, r2, r3, r4⟩ := e_copy (ty := ty) hr h0 u0 hc h (opd_sound hr ht x) (opd_sound hr ht y)
            refine ⟨.value c, w', X', ?_, r2, r3, r4⟩
            simp [execOp, resolve, invoke, builtin, r1]
          · simp [eop] at h
        · simp [eop] at h
      all_goals simp [eop] at h
  | makeFunc f _ _ => cases f <;> simp [cOp, eop] at h
  | makeMap t r => cases r with
    | none => simp [cOp, eop] at h
    | some x => simp only [cOp] at h; (repeat' split at h) <;> simp [eop] at h
  | _ => first
    | (simp [cOp, eop] at h; done)
    | (simp only [cOp] at h; (repeat' split at h) <;> simp [eop] at h; done)
end
end Go.Am

namespace Go.Am
open Go

/-- A frame that runs. -/
def Fr (b : Frame) (tm : Array Value) (df : List Deferred) (todo : List Item) : Frame :=
  { fn := b.fn, tmps := tm, todo, defers := df, mode := .run, kind := b.kind, roundOf := b.roundOf }
/-- A frame that is left. -/
def FrM (b : Frame) (tm : Array Value) (df : List Deferred) (todo : List Item) (m : FrameMode) : Frame :=
  { fn := b.fn, tmps := tm, todo, defers := df, mode := m, kind := b.kind, roundOf := b.roundOf }

theorem Fr.eval (b : Frame) (tm : Array Value) (df df' : List Deferred) (todo : List Item) : (Fr b tm df todo).eval = (Act.mk tm df').eval := by
  funext x; cases x <;> rfl

section
variable {P : Program} {b : Frame} {tm : Array Value} {df : List Deferred} {k : List Item} {cs : List Frame} {w : World}

theorem fr_skip : step P (lone (Fr b tm df (.code .skip :: k)) cs w) = .next (lone (Fr b tm df k) cs w) :=
  step_lone_go (by simp [stepG, stepG.exec, Fr])
theorem fr_label {l : Nat} : step P (lone (Fr b tm df (.code (.label l) :: k)) cs w) = .next (lone (Fr b tm df k) cs w) :=
  step_lone_go (by simp [stepG, stepG.exec, Fr])
theorem fr_inBlock {id : Nat} : step P (lone (Fr b tm df (.inBlock id :: k)) cs w) = .next (lone (Fr b tm df k) cs w) :=
  step_lone_go (by simp [stepG, stepG.exec, Fr])
theorem fr_inScope {c : Code} : step P (lone (Fr b tm df (.inScope c :: k)) cs w) = .next (lone (Fr b tm df k) cs w) :=
  step_lone_go (by simp [stepG, stepG.exec, Fr])
theorem fr_seq {x y : Code} : step P (lone (Fr b tm df (.code (.seq x y) :: k)) cs w) = .next (lone (Fr b tm df (.code x :: .code y :: k)) cs w) :=
  step_lone_go (by simp [stepG, stepG.exec, Fr])
theorem fr_cond {c : Operand} {x y : Code} {t : Bool} (h : (Act.mk tm df).eval c = .bool t) :
    step P (lone (Fr b tm df (.code (.cond c x y) :: k)) cs w) = .next (lone (Fr b tm df (.code (if t then x else y) :: k)) cs w) :=
  step_lone_go (by
    have := Fr.eval b tm df df (.code (.cond c x y) :: k)
    simp only [Fr] at this
    simp [stepG, stepG.exec, Fr, this, h])
theorem fr_block {id : Nat} {c : Code} : step P (lone (Fr b tm df (.code (.block id c) :: k)) cs w) = .next (lone (Fr b tm df (.code c :: .inBlock id :: k)) cs w) :=
  step_lone_go (by simp [stepG, stepG.exec, Fr])
theorem fr_loop {c : Code} : step P (lone (Fr b tm df (.code (.loop c) :: k)) cs w) = .next (lone (Fr b tm df (.code c :: .inLoop c :: k)) cs w) :=
  step_lone_go (by simp [stepG, stepG.exec, Fr])
theorem fr_inLoop {c : Code} : step P (lone (Fr b tm df (.inLoop c :: k)) cs w) = .next (lone (Fr b tm df (.code c :: .inLoop c :: k)) cs w) :=
  step_lone_go (by simp [stepG, stepG.exec, Fr])
theorem fr_scope {c : Code} : step P (lone (Fr b tm df (.code (.scope c) :: k)) cs w) = .next (lone (Fr b tm df (.code c :: .inScope c :: k)) cs w) :=
  step_lone_go (by simp [stepG, stepG.exec, Fr])
theorem fr_exit {id : Nat} {k' : List Item} (h : exitTo id k = some k') : step P (lone (Fr b tm df (.code (.exit id) :: k)) cs w) = .next (lone (Fr b tm df k') cs w) :=
  step_lone_go (by simp [stepG, stepG.exec, Fr, h])
theorem fr_goto {l : Nat} {k' : List Item} (h : gotoIn l k = some k') : step P (lone (Fr b tm df (.code (.goto l) :: k)) cs w) = .next (lone (Fr b tm df k') cs w) :=
  step_lone_go (by simp [stepG, stepG.exec, Fr, h])
theorem fr_ret (hb : b.roundOf = none) : step P (lone (Fr b tm df (.code .ret :: k)) cs w) = .next (lone (FrM b tm df (.code .ret :: k) .returning) cs w) :=
  step_lone_go (by simp [stepG, stepG.exec, Fr, FrM, hb])
theorem fr_end (hb : b.roundOf = none) : step P (lone (Fr b tm df []) cs w) = .next (lone (FrM b tm df [] .returning) cs w) :=
  step_lone_go (by simp [stepG, stepG.exec, Fr, FrM, hb])
theorem fr_region {ops : Array Oper} {id : Nat} : step P (lone (Fr b tm df (.code (.region id ops false) :: k)) cs w) = .next (lone (Fr b tm df (.inRegion ops (List.range ops.size) :: k)) cs w) :=
  step_lone_go (by simp [stepG, stepG.exec, Fr])
theorem fr_region_draw {ops : Array Oper} {id : Nat} :
    step P (lone (Fr b tm df (.code (.region id ops true) :: k)) cs w) =
      .next (lone (Fr b tm df (.inRegion ops (Region.schedule (P.follows .mixedOrders) ops (w.tape w.drawn (.order b.fn id))) :: k)) cs { w with drawn := w.drawn + 1 }) :=
  step_lone_go (by simp [stepG, stepG.exec, Fr, choose, Sem.run, Question.forced, Question.cut])
theorem fr_region_end {ops : Array Oper} : step P (lone (Fr b tm df (.inRegion ops [] :: k)) cs w) = .next (lone (Fr b tm df k) cs w) :=
  step_lone_go (by simp [stepG, stepG.exec, Fr])

/-- The slots behind an operation. -/
def putV (tm : Array Value) (d : Option Nat) (v : Value) : Array Value := match d with | some d => tm.setIfInBounds d v | none => tm

theorem Fr.finish {ops : Array Oper} {i : Nat} {rest : List Nat} (v : Value) :
    (Fr b tm df (.inRegion ops (i :: rest) :: k)).finish v = Fr b (putV tm ((ops[i]?).bind (·.dst)) v) df (.inRegion ops rest :: k) := by
  cases h : (ops[i]?).bind (·.dst) <;> simp [Frame.finish, Fr, putV, h]

theorem fr_op_skip {ops : Array Oper} {i : Nat} {rest : List Nat} (h : ((ops[i]?).map (Region.wanted · (yielded ops tm))).getD false = false) :
    step P (lone (Fr b tm df (.inRegion ops (i :: rest) :: k)) cs w) = .next (lone (Fr b (putV tm ((ops[i]?).bind (·.dst)) Go.undef) df (.inRegion ops rest :: k)) cs w) := by
  rw [← Fr.finish]
  exact step_lone_go (by
    have h' := h
    simp only [Fr] at *
    simp [stepG, stepG.exec, h'])

/-- Ops that are none but calls that are deferred in a round. -/
def notDeferIn (b : Frame) (o : Oper) : Prop := b.roundOf = none ∨ ∀ c, o.op ≠ .defer c

theorem fr_stepG_op {ops : Array Oper} {i : Nat} {rest : List Nat} {o : Oper} (ho : ops[i]? = some o) (hw : Region.wanted o (yielded ops tm) = true) (hd : notDeferIn b o) :
    stepG P true { frame := Fr b tm df (.inRegion ops (i :: rest) :: k), callers := cs, status := .running, dying := none } w =
      stepG.apply P true (Fr b tm df (.inRegion ops (i :: rest) :: k)) cs none (execOp (Act.mk tm df).eval o) w := by
  have he := Fr.eval b tm df df (.inRegion ops (i :: rest) :: k)
  simp only [Fr] at he
  simp only [stepG, stepG.exec, stepG.oper, Frame.oper?, Fr, ho, Option.map_some, hw, Option.getD_some, if_true, he]
  rcases hd with hd | hd
  · rw [hd]
  · cases hr : b.roundOf with
    | none => rfl
    | some l =>
      cases hop : o.op with
      | defer c => exact absurd hop (hd c)
      | _ => rfl

section ops
variable {ops : Array Oper} {i : Nat} {rest : List Nat} {o : Oper} {w' : World}

theorem fr_value (ho : ops[i]? = some o) (hw : Region.wanted o (yielded ops tm) = true) (hd : notDeferIn b o) {v : Value} (h : (execOp (Act.mk tm df).eval o).run P w = .ok (.value v) w') :
    step P (lone (Fr b tm df (.inRegion ops (i :: rest) :: k)) cs w) = .next (lone (Fr b (putV tm o.dst v) df (.inRegion ops rest :: k)) cs w') := by
  have hf := Fr.finish (b := b) (tm := tm) (df := df) (k := k) (ops := ops) (i := i) (rest := rest) v
  rw [ho] at hf
  refine step_lone_go ?_
  rw [fr_stepG_op ho hw hd]
  simp only [Option.bind_some] at hf
  rw [← hf]
  simp [stepG.apply, h]
theorem fr_unit (ho : ops[i]? = some o) (hw : Region.wanted o (yielded ops tm) = true) (hd : notDeferIn b o) (h : (execOp (Act.mk tm df).eval o).run P w = .ok .skip w') :
    step P (lone (Fr b tm df (.inRegion ops (i :: rest) :: k)) cs w) = .next (lone (Fr b (putV tm o.dst Go.undef) df (.inRegion ops rest :: k)) cs w') := by
  have hf := Fr.finish (b := b) (tm := tm) (df := df) (k := k) (ops := ops) (i := i) (rest := rest) Go.undef
  rw [ho] at hf
  refine step_lone_go ?_
  rw [fr_stepG_op ho hw hd]
  simp only [Option.bind_some] at hf
  rw [← hf]
  simp [stepG.apply, h]
theorem fr_enter (ho : ops[i]? = some o) (hw : Region.wanted o (yielded ops tm) = true) (hd : notDeferIn b o) {f : FuncId} {args : Array Value} (h : (execOp (Act.mk tm df).eval o).run P w = .ok (.enter f args) w') :
    step P (lone (Fr b tm df (.inRegion ops (i :: rest) :: k)) cs w) = .next (lone (Frame.enter P f args .normal) (Fr b tm df (.inRegion ops (i :: rest) :: k) :: cs) w') := by
  refine step_lone_go ?_
  rw [fr_stepG_op ho hw hd]
  simp [stepG.apply, h, Fr]
theorem fr_round (ho : ops[i]? = some o) (hw : Region.wanted o (yielded ops tm) = true) (hd : notDeferIn b o) {l : Nat} {f : FuncId} {t : Array Value} {x y : Code} (h : (execOp (Act.mk tm df).eval o).run P w = .ok (.round l f t x y) w') :
    step P (lone (Fr b tm df (.inRegion ops (i :: rest) :: k)) cs w) = .next (lone (Frame.round l f t x y .normal) (Fr b tm df (.inRegion ops (i :: rest) :: k) :: cs) w') := by
  refine step_lone_go ?_
  rw [fr_stepG_op ho hw hd]
  simp [stepG.apply, h, Fr]
theorem fr_panic (ho : ops[i]? = some o) (hw : Region.wanted o (yielded ops tm) = true) (hd : notDeferIn b o) {v : Value} (h : (execOp (Act.mk tm df).eval o).run P w = .halt (.panic v) w') :
    step P (lone (Fr b tm df (.inRegion ops (i :: rest) :: k)) cs w) = .next (lone (FrM b tm df (.inRegion ops (i :: rest) :: k) (.panicking [{ v, recovered := false }])) cs w') := by
  refine step_lone_go ?_
  rw [fr_stepG_op ho hw hd]
  simp [stepG.apply, h, Fr, FrM, Frame.raise]
theorem fr_defer (ho : ops[i]? = some o) (hw : Region.wanted o (yielded ops tm) = true) (hd : notDeferIn b o) {d : Deferred} (h : (execOp (Act.mk tm df).eval o).run P w = .ok (.defer d) w') :
    step P (lone (Fr b tm df (.inRegion ops (i :: rest) :: k)) cs w) = .next (lone (Fr b (putV tm o.dst Go.undef) (d :: df) (.inRegion ops rest :: k)) cs w') := by
  have hf := Fr.finish (b := b) (tm := tm) (df := d :: df) (k := k) (ops := ops) (i := i) (rest := rest) Go.undef
  rw [ho] at hf
  refine step_lone_go ?_
  rw [fr_stepG_op ho hw hd]
  simp only [Option.bind_some] at hf
  rw [← hf]
  simp [stepG.apply, h, Fr]
theorem fr_recover_nil (ho : ops[i]? = some o) (hw : Region.wanted o (yielded ops tm) = true) (hd : notDeferIn b o) (hr : b.roundOf = none) (h : (execOp (Act.mk tm df).eval o).run P w = .ok .recover w')
    (ht : tryRecover (Fr b tm df (.inRegion ops (i :: rest) :: k)) cs = none) :
    step P (lone (Fr b tm df (.inRegion ops (i :: rest) :: k)) cs w) = .next (lone (Fr b (putV tm o.dst .nilIface) df (.inRegion ops rest :: k)) cs w') := by
  have hf := Fr.finish (b := b) (tm := tm) (df := df) (k := k) (ops := ops) (i := i) (rest := rest) Value.nilIface
  rw [ho] at hf
  refine step_lone_go ?_
  rw [fr_stepG_op ho hw hd]
  simp only [Option.bind_some] at hf
  rw [← hf]
  have hr' : (Fr b tm df (.inRegion ops (i :: rest) :: k)).roundOf = none := hr
  simp [stepG.apply, h, hr', ht]
theorem fr_recover_some (ho : ops[i]? = some o) (hw : Region.wanted o (yielded ops tm) = true) (hd : notDeferIn b o) (hr : b.roundOf = none) (h : (execOp (Act.mk tm df).eval o).run P w = .ok .recover w') {v : Value} {cs' : List Frame}
    (ht : tryRecover (Fr b tm df (.inRegion ops (i :: rest) :: k)) cs = some (v, cs')) :
    step P (lone (Fr b tm df (.inRegion ops (i :: rest) :: k)) cs w) = .next (lone (Fr b (putV tm o.dst v) df (.inRegion ops rest :: k)) cs' w') := by
  have hf := Fr.finish (b := b) (tm := tm) (df := df) (k := k) (ops := ops) (i := i) (rest := rest) v
  rw [ho] at hf
  refine step_lone_go ?_
  rw [fr_stepG_op ho hw hd]
  simp only [Option.bind_some] at hf
  rw [← hf]
  have hr' : (Fr b tm df (.inRegion ops (i :: rest) :: k)).roundOf = none := hr
  simp [stepG.apply, h, hr', ht]
end ops
end
end Go.Am
