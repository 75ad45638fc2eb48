/- Regions that draw their order; AM is sound. -/
import Derived.Test.YtccedlpflmmjjaaGreatDoorAm5
import Derived.Orders
namespace Go.Am
open Go

section
variable {P : Program} {G : Nat → Option (List AV)}

theorem qop_congr {tm tm2 : List AV} {s : Store} {op : AOp} (h : ∀ x ∈ op.opds, ev tm x = ev tm2 x) : qop tm s op = qop tm2 s op := by
  cases op with
  | build z ps =>
    simp only [AOp.opds, List.mem_map, forall_exists_index, and_imp, forall_apply_eq_imp_iff₂] at h
    simp only [qop]
    rw [List.map_congr_left fun p hp => by rw [h p hp]]
  | bsl own z n ps =>
    simp only [AOp.opds, List.mem_map, forall_exists_index, and_imp, forall_apply_eq_imp_iff₂] at h
    cases own with
    | true => rfl
    | false =>
      simp only [qop]
      rw [List.map_congr_left fun p hp => by rw [h p hp]]
  | mkfn f a c =>
    simp only [AOp.opds, List.mem_append] at h
    simp only [qop]
    rw [List.map_congr_left fun p hp => h p (.inl hp), List.map_congr_left fun p hp => h p (.inr hp)]
  | slice str sz x lo hi mx =>
    have e : ∀ y : Option Opd, (∀ z ∈ y.toList, ev tm z = ev tm2 z) → asNatO tm y = asNatO tm2 y := by
      intro y hy
      cases y with
      | none => rfl
      | some z => simp only [asNatO]; rw [hy z (by simp)]
    simp only [AOp.opds, List.mem_append, List.mem_singleton] at h
    simp only [qop]
    rw [e lo fun z hz => h z (by simp [hz]), e hi fun z hz => h z (by simp [hz]), e mx fun z hz => h z (by simp [hz]), h x (by simp)]
  | _ => simp_all [AOp.opds, qop]

theorem aop_congr {tm tm2 : List AV} {s : Store} {op : AOp} (h : ∀ x ∈ op.opds, ev tm x = ev tm2 x) : aop s tm op = aop s tm2 op := by
  cases op with
  | bsl own z n ps =>
    simp only [AOp.opds, List.mem_map, forall_exists_index, and_imp, forall_apply_eq_imp_iff₂] at h
    cases own with
    | false => rfl
    | true =>
      simp only [aop]
      rw [List.map_congr_left fun p hp => by rw [h p hp]]
  | _ => simp_all [AOp.opds, aop]

theorem eop_congr {tm tm2 : List AV} {s : Store} {op : AOp} (h : ∀ x ∈ op.opds, ev tm x = ev tm2 x) : eop tm s op = eop tm2 s op := by
  cases op <;> simp_all [AOp.opds, eop]

theorem fillRows_len {sz n : Nat} : ∀ (ps : List (Nat × AV)) (rows rows' : List (List AV)), (∀ row ∈ rows, row.length = sz) → fillRows sz n rows ps = some rows' → ∀ row ∈ rows', row.length = sz := by
  intro ps
  induction ps with
  | nil => intro rows rows' h hf; cases hf; exact h
  | cons p ps ih =>
    intro rows rows' h hf
    obtain ⟨i, x⟩ := p
    simp only [fillRows] at hf
    split at hf
    · rename_i hc
      refine ih _ _ (fun row hm => ?_) hf
      rcases List.mem_or_eq_of_mem_set hm with hm | rfl
      · exact h row hm
      · exact hc.1
    · cases hf

/-- An entry that is made does not depend on the world. -/
theorem aop_entW {tm : List AV} {s : Store} {op : AOp} {v : AV} {e : Ent} (h : aop s tm op = some (v, e)) : EntW e := by
  cases op with
  | alloc z =>
    simp only [aop] at h
    split at h
    · cases h; exact ⟨rfl, rfl, fun row hm => by simp at hm; subst hm; exact ⟨rfl, by assumption⟩⟩
    · cases h
  | box n x =>
    simp only [aop] at h
    split at h
    · cases h; exact ⟨rfl, rfl, fun row hm => by simp at hm; subst hm; assumption⟩
    · cases h
  | bsl own z n ps =>
    cases own with
    | false => cases h
    | true =>
      simp only [aop] at h
      split at h
      · rename_i hz
        cases hf : fillRows z.length n (List.replicate n z) (ps.map fun p => (p.1, ev tm p.2)) with
        | none => rw [hf] at h; cases h
        | some rows =>
          rw [hf] at h
          cases h
          refine ⟨rfl, rfl, fun row hm => ⟨fillRows_len _ _ _ (fun row hm => by rw [(List.mem_replicate.1 hm).2]) hf row hm, fillRows_one _ _ _ (fun row hm => by rw [(List.mem_replicate.1 hm).2]; exact hz) hf row hm⟩⟩
      · cases h
  | mkmap => cases h; exact ⟨rfl, rfl⟩
  | mksl z b l c =>
    simp only [aop] at h
    obtain ⟨l', _, h'⟩ := opt_some h
    obtain ⟨c', _, h''⟩ := opt_some h'
    split at h''
    · rename_i hc
      cases h''
      exact ⟨rfl, rfl, fun row hm => by rw [(List.mem_replicate.1 hm).2]; exact ⟨rfl, hc.2.2⟩⟩
    · cases h''
  | s2b x =>
    simp only [aop] at h
    split at h
    · split at h
      · cases h
        refine ⟨rfl, rfl, fun row hm => ?_⟩
        obtain ⟨n, _, rfl⟩ := List.mem_map.1 hm
        exact ⟨rfl, rfl⟩
      · cases h
    · cases h
  | _ => cases h

theorem ev_reads {tm tm2 : List AV} {o : AOper} (h : ∀ t ∈ readsOf o, tm.getD t .undef = tm2.getD t .undef) : ∀ x ∈ o.op.opds, ev tm x = ev tm2 x := by
  intro x hx
  cases x with
  | c v => rfl
  | t n => exact h n (List.mem_append_left _ (List.mem_filterMap.2 ⟨.t n, hx, rfl⟩))

theorem wanted_reads {tm tm2 : List AV} {o : AOper} (h : ∀ t ∈ readsOf o, tm.getD t .undef = tm2.getD t .undef) : wanted tm o = wanted tm2 o := by
  unfold wanted
  cases hg : o.guard with
  | none => rfl
  | some p =>
    obtain ⟨t, b⟩ := p
    simp only
    rw [h t (List.mem_append_right _ (by simp [hg]))]

/-- The same step with other slots that the operation does not look at. -/
def OrC (f : St → Option OR) (d : Option Nat) (st : St) (tm2 : List AV) : OR → Prop
  | .next st' => ∃ v, st'.tm = put st.tm d v ∧ f { st with tm := tm2 } = some (.next { st' with tm := put tm2 d v })
  | .leave ch st' => st'.tm = st.tm ∧ f { st with tm := tm2 } = some (.leave ch { st' with tm := tm2 })

theorem doOp_congr {E : Env} {call : CallF} {o : AOper} {st : St} {tm2 : List AV} (h : ∀ t ∈ readsOf o, st.tm.getD t .undef = tm2.getD t .undef) {r : OR} (hr : doOp E call o st = some r) :
    OrC (doOp E call o) o.dst st tm2 r := by
  have hev := ev_reads h
  have hw := wanted_reads (o := o) h
  have hd : doOp E call o { st with tm := tm2 } = doOp E call o { st with tm := tm2 } := rfl
  conv at hd => rhs; unfold doOp
  unfold doOp at hr
  obtain ⟨wt, hwt, hr'⟩ := opt_some hr
  clear hr
  simp only [← hw, hwt, opt] at hd
  have orc : ∀ {x : Option OR}, doOp E call o { st with tm := tm2 } = x → OrC (fun _ => x) o.dst st tm2 r → OrC (doOp E call o) o.dst st tm2 r := by
    intro x hx hc
    cases r with
    | next st' => obtain ⟨v, h1, h2⟩ := hc; exact ⟨v, h1, hx.trans h2⟩
    | leave ch st' => exact ⟨hc.1, hx.trans hc.2⟩
  refine orc hd ?_
  clear orc hd
  cases wt with
  | false =>
    rw [if_pos rfl] at hr' ⊢
    cases hr'
    exact ⟨.undef, rfl, rfl⟩
  | true =>
    rw [if_neg (by simp)] at hr' ⊢
    cases hc : o.op.cls with
    | q =>
      rw [hc] at hr'
      simp only at hr' ⊢
      rw [← qop_congr (s := st.sg) hev]
      cases hq : qop st.tm st.sg o.op with
      | none => rw [hq] at hr'; cases hr'
      | some v => rw [hq] at hr'; cases hr'; exact ⟨v, rfl, rfl⟩
    | a =>
      rw [hc] at hr'
      simp only at hr' ⊢
      rw [← aop_congr (s := st.sg) hev]
      cases hq : aop st.sg st.tm o.op with
      | none => rw [hq] at hr'; cases hr'
      | some p => rw [hq] at hr'; cases hr'; exact ⟨p.1, rfl, rfl⟩
    | e =>
      rw [hc] at hr'
      simp only at hr' ⊢
      have hac : ∀ (p : Option (ARes × AMode × Store)), afterCall o st p = some r → OrC (fun st2 => afterCall o st2 p) o.dst st tm2 r := by
        intro p hp
        unfold afterCall at hp ⊢
        split at hp
        · cases hp; exact ⟨_, rfl, rfl⟩
        · cases hp; exact ⟨rfl, rfl⟩
        · cases hp
      have hop : ∀ {op : AOp}, o.op = op → ∀ x ∈ op.opds, ev st.tm x = ev tm2 x := by rintro op rfl; exact hev
      split at hr'
      · rename_i f args hop'
        have h1 := hop hop'
        simp only [AOp.opds, List.mem_cons] at h1
        have e1 : ev tm2 f = ev st.tm f := (h1 f (.inl rfl)).symm
        have e2 : args.map (ev tm2) = args.map (ev st.tm) := List.map_congr_left fun x hx => (h1 x (.inr hx)).symm
        simp only [e1, e2]
        split at hr'
        · obtain ⟨g, hg, hr''⟩ := opt_some hr'
          rw [hg]
          exact hac _ hr''
        · cases hr'
      · rename_i rv n args hop'
        have h1 := hop hop'
        simp only [AOp.opds, List.mem_cons] at h1
        have e1 : ev tm2 rv = ev st.tm rv := (h1 rv (.inl rfl)).symm
        have e2 : args.map (ev tm2) = args.map (ev st.tm) := List.map_congr_left fun x hx => (h1 x (.inr hx)).symm
        simp only [e1, e2]
        split at hr'
        · obtain ⟨g, hg, hr''⟩ := opt_some hr'
          rw [hg]
          exact hac _ hr''
        · cases hr'
      · rename_i f args hop'
        have h1 := hop hop'
        simp only [AOp.opds, List.mem_cons] at h1
        have e1 : ev tm2 f = ev st.tm f := (h1 f (.inl rfl)).symm
        have e2 : args.map (ev tm2) = args.map (ev st.tm) := List.map_congr_left fun x hx => (h1 x (.inr hx)).symm
        simp only [e1, e2]
        split at hr'
        · cases hr'
        · cases hr'
          rename_i hf hm
          refine ⟨.undef, rfl, ?_⟩
          cases hmd : st.md with
          | round => exact absurd hmd (fun e => by simp_all)
          | _ => simp [hf]
        · cases hr'
      · rename_i hop'
        split at hr'
        · cases hr'
          exact ⟨_, rfl, rfl⟩
        · cases hr'
        · cases hr'
          exact ⟨_, rfl, rfl⟩
      · rename_i x hop'
        have h1 := hop hop'
        simp only [AOp.opds, List.mem_singleton, forall_eq] at h1
        simp only [← h1]
        split at hr'
        · cases hr'
          rename_i hx
          exact ⟨rfl, rfl⟩
        · cases hr'
      · rename_i n1 n2 n3 n4 n5
        have he := eop_congr (s := st.sg) hev
        cases hq : eop st.tm st.sg o.op with
        | none => rw [hq] at hr'; cases hr'
        | some p =>
          rw [hq] at hr'
          cases hr'
          refine ⟨p.1, rfl, ?_⟩
          rw [hq] at he
          rw [← he]; rfl
end
end Go.Am

namespace Go.Am
open Go

def directOf (ops : List Oper) (i : Nat) : List Nat := ((ops.getD i default).after.toList.filter fun e => Region.binds .any e).map (·.on)

structure PlanP (ops : List Oper) (pre : List (List Nat)) (aops : List AOper) (pl : Plan) : Prop where
  len : ops.length = aops.length
  back : ∀ i, i < aops.length → ∀ j ∈ directOf ops i, j < i ∧ j ∈ pre.getD i [] ∧ ∀ k ∈ pre.getD j [], k ∈ pre.getD i []
  preIn : ∀ i, i < aops.length → ∀ k ∈ pre.getD i [], k < i ∧ (k ∈ directOf ops i ∨ ∃ j ∈ directOf ops i, k ∈ pre.getD j [])
  esIn : ∀ e ∈ pl.es, e < aops.length ∧ (aops.getD e default).op.cls = .e
  inEs : ∀ i, i < aops.length → (aops.getD i default).op.cls = .e → i ∈ pl.es
  chain : ∀ k, k < pl.es.length → ∀ j, j < k → pl.es.getD j 0 ∈ pre.getD (pl.es.getD k 0) []
  lo : ∀ i, i < aops.length → (aops.getD i default).op.cls ≠ .e → ∀ k, k < pl.es.length → (pl.es.getD k 0 ∈ pre.getD i [] ↔ k < pl.lo.getD i 0)
  hi : ∀ i, i < aops.length → (aops.getD i default).op.cls ≠ .e → ∀ k, k < pl.es.length → (i ∈ pre.getD (pl.es.getD k 0) [] ↔ pl.hi.getD i 0 ≤ k)
  loLe : ∀ i, i < aops.length → (aops.getD i default).op.cls ≠ .e → pl.lo.getD i 0 ≤ pl.es.length
  hiLe : ∀ i, i < aops.length → (aops.getD i default).op.cls ≠ .e → pl.hi.getD i 0 ≤ pl.es.length
  read : ∀ i, i < aops.length → (aops.getD i default).op.cls ≠ .e → ∀ d, (aops.getD i default).dst = some d → ∀ j, j < aops.length → d ∈ readsOf (aops.getD j default) → i ∈ pre.getD j []
  own : ∀ i, i < aops.length → (aops.getD i default).op.cls ≠ .e → ∀ d, (aops.getD i default).dst = some d → ∀ j, j < aops.length → j ≠ i → (aops.getD j default).dst ≠ some d
  mem : ∀ i, i < aops.length → (aops.getD i default).op.cls = .a → ∀ t ∈ readsOf (aops.getD i default), ∀ e ∈ pl.es, (aops.getD e default).dst ≠ some t

theorem planOk_prop {ops : List Oper} {pre : List (List Nat)} {aops : List AOper} {pl : Plan} (h : planOk ops pre aops pl = true) : PlanP ops pre aops pl := by
  unfold planOk at h
  simp only [Bool.and_eq_true, List.all_eq_true, List.mem_range, beq_iff_eq, decide_eq_true_eq, Bool.or_eq_true, Bool.not_eq_true', bne_iff_ne, ne_eq, List.contains_iff_mem] at h
  obtain ⟨⟨⟨⟨⟨⟨⟨⟨⟨h1, _⟩, _⟩, _⟩, h2⟩, h3⟩, h4⟩, h5⟩, h6⟩, _⟩ := h
  have h6' : ∀ i, i < aops.length → (aops.getD i default).op.cls ≠ .e → _ := fun i hi hc => (h6 i hi).resolve_left hc
  refine ⟨h1, fun i hi j hj => ?_, fun i hi k hk => ?_, fun e he => h3 e he, fun i hi hc => ?_, h5, fun i hi hc k hk => ?_, fun i hi hc k hk => ?_, fun i hi hc => ?_, fun i hi hc => ?_, fun i hi hc d hd j hj hr => ?_, fun i hi hc d hd j hj hne => ?_, fun i hi hc t ht e he => ?_⟩
  · obtain ⟨⟨a, b⟩, c⟩ := (h2 i hi).1 j hj
    exact ⟨a, b, c⟩
  · obtain ⟨a, b⟩ := (h2 i hi).2 k hk
    refine ⟨a, b.imp id fun hb => ?_⟩
    obtain ⟨j, hj, hc⟩ := List.any_eq_true.1 hb
    exact ⟨j, hj, by simpa using hc⟩
  · rcases h4 i hi with h | h
    · rw [hc] at h; exact absurd h (by decide)
    · exact h
  · have := ((h6' i hi hc).1.1.1.1 k hk).1
    rw [← List.contains_iff_mem, this, decide_eq_true_eq]
  · have := ((h6' i hi hc).1.1.1.1 k hk).2
    rw [← List.contains_iff_mem, this, decide_eq_true_eq]
  · exact (h6' i hi hc).1.1.1.2
  · exact (h6' i hi hc).1.1.2
  · have := (h6' i hi hc).1.2
    rw [hd] at this
    simp only [List.all_eq_true, List.mem_range, Bool.and_eq_true, Bool.or_eq_true, Bool.not_eq_true'] at this
    rcases (this j hj).1 with h | h
    · rw [List.contains_iff_mem.2 hr] at h; cases h
    · simpa using h
  · have := (h6' i hi hc).1.2
    rw [hd] at this
    simp only [List.all_eq_true, List.mem_range, Bool.and_eq_true, Bool.or_eq_true, Bool.not_eq_true'] at this
    rcases (this j hj).2 with h | h
    · exact absurd (by simpa using h) hne
    · simpa using h
  · exact ((h6' i hi (by rw [hc]; simp)).2.resolve_left (fun h => h hc)) t ht e he
end Go.Am

namespace Go.Am
open Go

section
variable {P : Program} {G : Nat → Option (List AV)} {X X0 : Ctx} {s s0 : Store} {w w' w0 : World}

/-- An entry gets its place. -/
def Ctx.mat (X : Ctx) (r0 b ce : Nat) : Ctx :=
  { X with loc := fun r => if r = r0 then some (b, 0) else X.loc r, ce := fun r => if r = r0 then ce else X.ce r }

theorem VR.mat (hr : Rel P G X s w) (hg : Grown w w') {r0 b ce : Nat} (hl : X.loc r0 = none) (hv : X.ver r0 = 0) {v : AV} {c : Value} (h : VR X w v c) : VR (X.mat r0 b ce) w' v c := by
  have hne : ∀ r v, v ≤ X.ver r → (v = X.ver r → X.loc r ≠ none) → r ≠ r0 := by
    rintro r v h1 h2 rfl
    exact h2 (by omega) hl
  have himm : ∀ b', X.imm b' → ∀ i, cellAt w' b' i = cellAt w b' i := fun b' hb i => cell_of_heap (hg.same b' (hr.immb b' hb)) i
  induction h with
  | any c => exact .any c
  | bool b => exact .bool b
  | int k n => exact .int k n
  | str s => exact .str s
  | nilp => exact .nilp
  | ptr r v i o a h hv ha =>
    have hn := hne r v hv (fun e h => by obtain ⟨b, base, h1, _⟩ := ha e; rw [h] at h1; cases h1)
    refine .ptr r v i o a h hv fun e => ?_
    simp only [Ctx.mat, if_neg hn]; exact ha e
  | rp row o b base cs hi hc hv ih => exact .rp row o b base cs hi (fun j h => by rw [himm b hi]; exact hc j h) ih
  | lnil => exact .lnil
  | list k rows b off sz cap cs hk hsz hi hc hv hcap hex ih =>
    refine .list k rows b off sz cap cs hk hsz hi (fun i j h h' => ?_) ih hcap hex
    rw [himm b (hi (by intro e; simp [e] at h))]; exact hc i j h h'
  | sl r v off len ex a cap h hv hlen hex ha =>
    have hn := hne r v hv (fun e h => by obtain ⟨b, base, h1, _⟩ := ha e; rw [h] at h1; cases h1)
    refine .sl r v off len ex a cap h hv hlen hex fun e => ?_
    simp only [Ctx.mat, if_neg hn]; exact ha e
  | nilm => exact .nilm
  | map r a h ha =>
    have hn : r ≠ r0 := by rintro rfl; have := ha hv; rw [hl] at this; cases this
    refine .map r a h fun e => ?_
    simp only [Ctx.mat, if_neg hn]; exact ha e
  | fn f f' first cap cf cc hf h1 h2 _ _ ih1 ih2 =>
    refine .fn f f' first cap cf cc ?_ h1 h2 ih1 ih2
    cases hf with
    | same _ h => exact .same _ h
    | yield l b h ha =>
      have hn : l ≠ r0 := by rintro rfl; have := ha hv; rw [hl] at this; cases this
      refine .yield l b h fun e => ?_
      simp only [Ctx.mat, if_neg hn]; exact ha e
  | nilf => exact .nilf
  | ifc t v c _ ih => exact .ifc t v c ih
  | nili => exact .nili
  | agg l cs hl _ ih => exact .agg l cs hl ih
  | tup l cs hl _ ih => exact .tup l cs hl ih

theorem VRs.mat (hr : Rel P G X s w) (hg : Grown w w') {r0 b ce : Nat} (hl : X.loc r0 = none) (hv : X.ver r0 = 0) {l : List AV} {cs : List Value} (h : VRs X w l cs) : VRs (X.mat r0 b ce) w' l cs :=
  ⟨h.1, fun i h1 h2 => (h.2 i h1 h2).mat hr hg hl hv⟩

theorem ChR.mat (hr : Rel P G X s w) (hg : Grown w w') {r0 b ce : Nat} (hl : X.loc r0 = none) (hv : X.ver r0 = 0) {l : List (AV × Bool)} {cs : List PanicEntry} (h : ChR X w l cs) : ChR (X.mat r0 b ce) w' l cs := by
  induction h with
  | nil => exact .nil
  | cons h _ ih => exact .cons (h.mat hr hg hl hv) ih

theorem DfR.mat (hr : Rel P G X s w) (hg : Grown w w') {r0 b ce : Nat} (hl : X.loc r0 = none) (hv : X.ver r0 = 0) {ds : List ADef} {dc : List Deferred} (h : DfR X w ds dc) : DfR (X.mat r0 b ce) w' ds dc := by
  induction h with
  | nil => exact .nil
  | fn hf h1 h2 _ ih =>
    refine .fn ?_ (h1.mat hr hg hl hv) (h2.mat hr hg hl hv) ih
    have := VR.mat (b := b) (ce := ce) hr hg hl hv (VR.fn _ _ [] [] #[] #[] hf rfl rfl (fun i h => by simp at h) (fun i h => by simp at h) : VR X w _ _)
    cases this; assumption
  | mark h _ ih => exact .mark (h.mat hr hg hl hv) ih

theorem MdR.mat (hr : Rel P G X s w) (hg : Grown w w') {r0 b ce : Nat} (hl : X.loc r0 = none) (hv : X.ver r0 = 0) {md : AMode} {fr : Frame} {m : FrameMode} (h : MdR X w md fr m) : MdR (X.mat r0 b ce) w' md fr m := by
  cases md with
  | pan ch => obtain ⟨a, b, chain, c, d⟩ := h; exact ⟨a, b, chain, c, d.mat hr hg hl hv⟩
  | _ => exact h

/-- An entry whose block nobody has touched. -/
theorem EntR.map {X' : Ctx} (hv : ∀ v c, VR X w v c → VR X' w' v c) {r : Nat} {e : Ent}
    (h : EntR P G X w r e) (k1 : X'.ver r = X.ver r) (k2 : X'.rl r = X.rl r) (k3 : X'.tip r = X.tip r) (k4 : X'.ce r = X.ce r) (k5 : X'.fz r = X.fz r)
    (k6 : ∀ b base, X'.loc r = some (b, base) → X.loc r = some (b, base) ∧ w'.heap[b]? = w.heap[b]?) : EntR P G X' w' r e := by
  cases e with
  | cells v sz rows fz =>
    obtain ⟨a1, a2, a3, a4, a5, a6, a7⟩ := h
    refine ⟨by rw [k1, a1], by rw [k2, a2], by rw [k3, a3], by rw [k5, a4], a5, by rw [k4]; exact a6, fun b base hl => ?_⟩
    obtain ⟨hl', hh⟩ := k6 b base hl
    obtain ⟨cs, T, lo, hi, c1, c2, c3, c4⟩ := a7 b base hl'
    refine ⟨cs, T, lo, hi, by rw [hh, c1], by rw [k4]; exact c2, c3, fun i j h1 h2 => ?_⟩
    obtain ⟨c, d1, d2⟩ := c4 i j h1 h2
    exact ⟨c, d1, hv _ _ d2⟩
  | map es clock =>
    obtain ⟨a1, a2, a3⟩ := h
    refine ⟨by rw [k1, a1], by rw [k5, a2], fun b base hl => ?_⟩
    obtain ⟨hl', hh⟩ := k6 b base hl
    obtain ⟨b0, ces, c1, c2, c3⟩ := a3 b base hl'
    exact ⟨b0, ces, by rw [hh, c1], c2, fun i h1 h2 => ⟨hv _ _ (c3 i h1 h2).1, hv _ _ (c3 i h1 h2).2.1, (c3 i h1 h2).2.2⟩⟩
  | siter s pos =>
    obtain ⟨a1, a2, a3⟩ := h
    refine ⟨by rw [k1, a1], by rw [k5, a2], fun b base hl => ?_⟩
    obtain ⟨hl', hh⟩ := k6 b base hl
    obtain ⟨b0, bs, c1, c2⟩ := a3 b base hl'
    exact ⟨b0, bs, c1, by rw [hh, c2]⟩
  | loop st jump tm ps assign body =>
    obtain ⟨a1, a2, a3⟩ := h
    refine ⟨by rw [k1, a1], by rw [k5, a2], fun b base hl => ?_⟩
    obtain ⟨hl', hh⟩ := k6 b base hl
    obtain ⟨b0, L, c1, c2, c3, c3', c4, c5⟩ := a3 b base hl'
    exact ⟨b0, L, by rw [hh, c1], c2, c3, c3', ⟨c4.1, fun i h1 h2 => hv _ _ (c4.2 i h1 h2)⟩, c5⟩
  | dfr op =>
    obtain ⟨a1, a2, a3⟩ := h
    refine ⟨by rw [k1, a1], by rw [k5, a2], fun b base hl => ?_⟩
    obtain ⟨hl', hh⟩ := k6 b base hl
    obtain ⟨b0, c1⟩ := a3 b base hl'
    exact ⟨b0, fun ho => by rw [hh, c1 ho]⟩

theorem Rel.mat (hr : Rel P G X s w) (hg : Grown w w') {r0 b ce : Nat} (hl : X.loc r0 = none) (hv : X.ver r0 = 0) (hf : X.fz r0 = false) (hb : w.heap.size ≤ b) (hb' : b < w'.heap.size) {e : Ent} (he : s.get r0 = some e)
    (hent : EntR P G (X.mat r0 b ce) w' r0 e) : Rel P G (X.mat r0 b ce) s w' := by
  have hvm : ∀ v c, VR X w v c → VR (X.mat r0 b ce) w' v c := fun v c h => h.mat hr hg hl hv
  refine ⟨hr.len, ?_, ?_, ?_, ?_, ?_, ?_⟩
  · intro r e' hg'
    by_cases hrn : r = r0
    · subst hrn; rw [he] at hg'; cases hg'; exact hent
    · refine (hr.ent r e' hg').map hvm rfl rfl rfl (by simp [Ctx.mat, hrn]) rfl fun b' base hl' => ?_
      simp [Ctx.mat, hrn] at hl'
      exact ⟨hl', hg.same b' (hr.locb r b' base (hr.len ▸ Store.lt_of_get hg') hl')⟩
  · intro r b1 base h1 h2
    by_cases hrn : r = r0
    · subst hrn; simp [Ctx.mat] at h2; rw [← h2.1]; exact hb'
    · simp [Ctx.mat, hrn] at h2; exact Nat.lt_of_lt_of_le (hr.locb r b1 base h1 h2) hg.size
  · intro r r' b1 base base' h1 h2 h3 h4
    by_cases hrn : r = r0 <;> by_cases hrn' : r' = r0
    · omega
    · subst hrn; simp [Ctx.mat, hrn'] at h3 h4
      have := hr.locb r' b1 base' h2 h4; omega
    · subst hrn'; simp [Ctx.mat, hrn] at h3 h4
      have := hr.locb r b1 base h1 h3; omega
    · simp [Ctx.mat, hrn, hrn'] at h3 h4
      exact hr.inj r r' b1 base base' h1 h2 h3 h4
  · intro r b1 base h1 h2
    by_cases hrn : r = r0
    · subst hrn; simp [Ctx.mat] at h2 ⊢
      refine ⟨(fun h => by rw [hf] at h; cases h), fun _ hi => ?_⟩
      have := hr.immb b1 hi; omega
    · simp [Ctx.mat, hrn] at h2
      exact hr.fzimm r b1 base h1 h2
  · exact fun b1 hb1 => Nat.lt_of_lt_of_le (hr.immb b1 hb1) hg.size
  · exact fun g row h => hvm _ _ (hr.glob g row h)

theorem Ext.mat (hx : Ext X0 s0 w0 X s w) (hg : Grown w w') {r0 b ce : Nat} (hr0 : X0.n ≤ r0) (hb : w.heap.size ≤ b) : Ext X0 s0 w0 (X.mat r0 b ce) s w' where
  n := hx.n
  keep := fun r hr => by
    have hne : r ≠ r0 := by omega
    simp only [Ctx.mat, if_neg hne]; exact hx.keep r hr
  imm := hx.imm
  size := Nat.le_trans hx.size hg.size
  frame := fun b' hb' hl => (hg.same b' (Nat.lt_of_lt_of_le hb' hx.size)).trans (hx.frame b' hb' hl)
  live := fun b' hb' => by
    obtain ⟨r, base, h1, h2, h3⟩ := hb'
    by_cases e : r = r0
    · subst e; simp [Ctx.mat] at h3; right; have := hx.size; omega
    · simp [Ctx.mat, e] at h3; exact hx.live b' ⟨r, base, h1, h2, h3⟩
  imm' := hx.imm'
  late := fun r hr hn => by
    have hne : r ≠ r0 := by omega
    simp only [Ctx.mat, if_neg hne]; exact hx.late r hr hn
  os := ⟨hg.os.1.trans hx.os.1, hg.os.2.trans hx.os.2⟩

/-- An entry that the evaluator AM makes now, and the machine later. -/
theorem Rel.early (hr : Rel P G X s w) {e : Ent} (he : EntW e) : Rel P G (X.push none e.rl e.tip e.tip) (e :: s) w ∧ Ext X s w (X.push none e.rl e.tip e.tip) (e :: s) w := by
  refine ⟨Rel.push hr (Grown.refl w) e (fun b base h => by cases h) ?_, Ext.push hr (Grown.refl w) e (fun b base h => by cases h)⟩
  cases e with
  | cells v sz rows fz =>
    obtain ⟨rfl, rfl, h3⟩ := he
    refine ⟨by simp [Ctx.push], by simp [Ctx.push, Ent.rl], by simp [Ctx.push, Ent.tip], by simp [Ctx.push], h3, by simp [Ctx.push, Ent.tip], fun b base hl => ?_⟩
    simp [Ctx.push] at hl
  | map es c =>
    refine ⟨by simp [Ctx.push], by simp [Ctx.push], fun b base hl => ?_⟩
    simp [Ctx.push] at hl
  | _ => exact absurd he (by simp [EntW])

theorem PlanP.trans {ops : List Oper} {pre : List (List Nat)} {aops : List AOper} {pl : Plan} (h : PlanP ops pre aops pl) : ∀ j, j < aops.length → ∀ i ∈ pre.getD j [], ∀ k ∈ pre.getD i [], k ∈ pre.getD j [] := by
  intro j
  induction j using Nat.strongRecOn with
  | _ j ih =>
    intro hj i hi k hk
    rcases (h.preIn j hj i hi).2 with hd | ⟨j', hj', hi'⟩
    · exact (h.back j hj i hd).2.2 k hk
    · obtain ⟨a, _, c⟩ := h.back j hj j' hj'
      exact c k (ih j' a (by omega) i hi' k hk)
end
end Go.Am

namespace Go.Am
open Go

section
variable {P : Program} {G : Nat → Option (List AV)} {E : Env} {call : CallF}

theorem getD_put (tm : List AV) (d : Option Nat) (v : AV) (t : Nat) (h : d ≠ some t) : (put tm d v).getD t .undef = tm.getD t .undef := by
  cases d with
  | none => rfl
  | some d =>
    have : d ≠ t := fun e => h (by rw [e])
    simp [put, List.getD_eq_getElem?_getD, List.getElem?_set, this]

theorem getD_put_same (tm : List AV) (d : Nat) (v : AV) : (put tm (some d) v).getD d .undef = if d < tm.length then v else .undef := by
  simp only [put, List.getD_eq_getElem?_getD, List.getElem?_set, if_true]
  split <;> rfl

theorem length_put (tm : List AV) (d : Option Nat) (v : AV) : (put tm d v).length = tm.length := by
  cases d <;> simp [put]

/-- Memory that the evaluator AM has made, and the machine has not. -/
def Pend (n0 : Nat) (X : Ctx) (A : St) (o : AOper) (r : Nat) : Prop :=
  (wanted A.tm o = some false ∧ ∀ d, o.dst = some d → A.tm.getD d .undef = .undef) ∨
  (wanted A.tm o = some true ∧ ∃ (s1 : Store) (v : AV) (e : Ent), s1.length = r ∧ aop s1 A.tm o.op = some (v, e) ∧ (∀ d, o.dst = some d → d < A.tm.length → A.tm.getD d .undef = v) ∧
    A.sg.get r = some e ∧ n0 ≤ r ∧ r < X.n ∧ X.loc r = none ∧ X.ver r = 0 ∧ X.rl r = e.rl ∧ X.tip r = e.tip ∧ X.fz r = false)

theorem Pend.put {n0 : Nat} {X : Ctx} {A : St} {o : AOper} {r : Nat} (h : Pend n0 X A o r) {d : Option Nat} {v : AV} (h1 : ∀ t, d = some t → t ∉ readsOf o) (h2 : ∀ t, o.dst = some t → d ≠ some t) :
    Pend n0 X { A with tm := put A.tm d v } o r := by
  have hr : ∀ t ∈ readsOf o, A.tm.getD t .undef = (Go.Am.put A.tm d v).getD t .undef := fun t ht => (getD_put _ _ _ _ (fun e => h1 t e ht)).symm
  have hw := wanted_reads (o := o) hr
  rcases h with ⟨a, b⟩ | ⟨a, s1, v1, e, b1, b2, b3, b4⟩
  · exact .inl ⟨by rw [← hw]; exact a, fun t ht => by rw [getD_put _ _ _ _ (h2 t ht)]; exact b t ht⟩
  · refine .inr ⟨by rw [← hw]; exact a, s1, v1, e, b1, by rw [← aop_congr (ev_reads hr)]; exact b2, fun t ht hl => ?_, b4⟩
    rw [getD_put _ _ _ _ (h2 t ht)]
    exact b3 t ht (by simpa [length_put] using hl)

/-- The entry stays. -/
theorem Pend.ext {n0 : Nat} {X X' : Ctx} {A : St} {s' : Store} {w w' : World} {o : AOper} {r : Nat} (h : Pend n0 X A o r) (hx : Ext X A.sg w X' s' w') (df : List ADef) (md : AMode) : Pend n0 X' { A with sg := s', df, md } o r := by
  rcases h with ⟨a, b⟩ | ⟨a, s1, v1, e, b1, b2, b3, b4, b5, b6, b7, b8, b9, b10, b11⟩
  · exact .inl ⟨a, b⟩
  · obtain ⟨c1, c2, c3, c4, c5, c6, c7⟩ := hx.late r b6 b7
    exact .inr ⟨a, s1, v1, e, b1, b2, b3, by rw [c2]; exact b4, b5, Nat.lt_of_lt_of_le b6 hx.n, c1, by rw [c3]; exact b8, by rw [c4]; exact b9, by rw [c5]; exact b10, by rw [c7]; exact b11⟩

/-- The evaluator AM and the machine in the midst of a region. -/
structure DI (P : Program) (G : Nat → Option (List AV)) (aops : List AOper) (b : Frame) (X0 : Ctx) (s0 : Store) (w0 : World) (D B : Nat → Prop) (A : St) (X : Ctx) (w : World) (ctm : Array Value) (cdf : List Deferred) (m : FrameMode) (tmM : List AV) (R : Nat → Nat) : Prop where
  ext : Ext X0 s0 w0 X A.sg w
  rel : Rel P G X A.sg w
  vm : VRs X w tmM ctm.toList
  ml : tmM.length = A.tm.length
  known : ∀ t, (∀ i, i < aops.length → (aops.getD i default).op.cls ≠ .e → ¬ D i → (aops.getD i default).dst ≠ some t) → tmM.getD t .undef = A.tm.getD t .undef
  df : DfR X w A.df cdf
  md : MdR X w A.md b m
  pend : ∀ i, i < aops.length → (aops.getD i default).op.cls = .a → ¬ D i → B i → Pend X0.n X A (aops.getD i default) (R i)
  inj : ∀ i j, i < aops.length → j < aops.length → (aops.getD i default).op.cls = .a → (aops.getD j default).op.cls = .a → ¬ D i → ¬ D j → B i → B j → wanted A.tm (aops.getD i default) = some true → wanted A.tm (aops.getD j default) = some true → R i = R j → i = j

theorem pass_sound {opsL : List Oper} {pre : List (List Nat)} {aops : List AOper} {pl : Plan} (hp : PlanP opsL pre aops pl) {b : Frame} {X0 : Ctx} {s0 : Store} {w0 : World} {D : Nat → Prop} {w : World} {ctm : Array Value} {cdf : List Deferred} {m : FrameMode} {tmM : List AV} (s : Nat)
    (hD : ∀ i, i < aops.length → (aops.getD i default).op.cls ≠ .e → pl.lo.getD i 0 = s → ¬ D i) :
    ∀ (rest : List AOper) (j : Nat) (A : St) (X : Ctx) (R : Nat → Nat) (A' : St), aops.drop j = rest → DI P G aops b X0 s0 w0 D (fun i => pl.lo.getD i 0 < s ∨ (pl.lo.getD i 0 = s ∧ i < j)) A X w ctm cdf m tmM R →
      pass E call pl s rest j A = some A' → ∃ X' R', DI P G aops b X0 s0 w0 D (fun i => pl.lo.getD i 0 ≤ s) A' X' w ctm cdf m tmM R' := by
  intro rest
  induction rest with
  | nil =>
    intro j A X R A' hdrop hdi h
    cases h
    have hj : aops.length ≤ j := by
      have := congrArg List.length hdrop
      simp at this; omega
    refine ⟨X, R, { hdi with pend := fun i h1 h2 h3 h4 => hdi.pend i h1 h2 h3 ?_, inj := fun i j' h1 h2 h3 h4 h5 h6 h7 h8 => hdi.inj i j' h1 h2 h3 h4 h5 h6 ?_ ?_ }⟩
    all_goals omega
  | cons o rest ih =>
    intro j A X R A' hdrop hdi h
    have hj : j < aops.length := by
      rcases Nat.lt_or_ge j aops.length with hj | hj
      · exact hj
      · rw [List.drop_eq_nil_of_le hj] at hdrop; cases hdrop
    have hoj : aops.getD j default = o := by
      rw [List.drop_eq_getElem_cons hj] at hdrop
      simp only [List.cons.injEq] at hdrop
      rw [List.getD_eq_getElem?_getD, List.getElem?_eq_getElem hj]; exact hdrop.1
    have hdrop' : aops.drop (j + 1) = rest := by
      rw [List.drop_eq_getElem_cons hj] at hdrop
      simp only [List.cons.injEq] at hdrop
      exact hdrop.2
    simp only [pass] at h
    split at h
    · rename_i hnew
      obtain ⟨hc, hlo⟩ := hnew
      obtain ⟨r, hr, h'⟩ := opt_some h
      clear h
      have hDj : ¬ D j := hD j hj (by rw [hoj]; exact hc) hlo
      -- nobody whom the evaluator has run looks at the slot
      have nodep : ∀ i, i < aops.length → (aops.getD i default).op.cls = .a → (pl.lo.getD i 0 < s ∨ (pl.lo.getD i 0 = s ∧ i < j)) → ∀ d, o.dst = some d → d ∉ readsOf (aops.getD i default) := by
        intro i hi hci hbi d hd hmem
        have hji := hp.read j hj (by rw [hoj]; exact hc) d (by rw [hoj]; exact hd) i hi hmem
        have hlt := (hp.preIn i hi j hji).1
        have hbi' : pl.lo.getD i 0 < s := by rcases hbi with h | h <;> omega
        have hle := hp.loLe j hj (by rw [hoj]; exact hc)
        rw [hlo] at hle
        have h1 := (hp.lo j hj (by rw [hoj]; exact hc) (s - 1) (by omega)).2 (by rw [hlo]; omega)
        have h2 := (hp.lo i hi (by rw [hci]; simp) (s - 1) (by omega)).1 (hp.trans i hi j hji _ h1)
        omega
      have noown : ∀ i, i < aops.length → i ≠ j → ∀ t, (aops.getD i default).dst = some t → o.dst ≠ some t := by
        intro i hi hij t ht hd
        have := hp.own j hj (by rw [hoj]; exact hc) t (by rw [hoj]; exact hd) i hi hij
        exact this ht
      -- only the slot changes
      have slot : ∀ v, DI P G aops b X0 s0 w0 D (fun i => pl.lo.getD i 0 < s ∨ (pl.lo.getD i 0 = s ∧ i < j)) { A with tm := put A.tm o.dst v } X w ctm cdf m tmM R := by
        intro v
        refine { hdi with ml := by rw [hdi.ml]; exact (length_put _ _ _).symm, known := fun t ht => ?_, pend := fun i h1 h2 h3 h4 => ?_, inj := fun i j' h1 h2 h3 h4 h5 h6 h7 h8 h9 h10 => ?_ }
        · rw [getD_put _ _ _ _ (by have := ht j hj (by rw [hoj]; exact hc) hDj; rw [hoj] at this; exact this)]
          exact hdi.known t ht
        · have hij : i ≠ j := by rintro rfl; omega
          exact (hdi.pend i h1 h2 h3 h4).put (fun t ht => nodep i h1 h2 h4 t ht) (fun t ht => noown i h1 hij t ht)
        · have hw : ∀ i, i < aops.length → (aops.getD i default).op.cls = .a → (pl.lo.getD i 0 < s ∨ (pl.lo.getD i 0 = s ∧ i < j)) → wanted (put A.tm o.dst v) (aops.getD i default) = wanted A.tm (aops.getD i default) := by
            intro i hi hci hbi
            exact (wanted_reads fun t ht => (getD_put _ _ _ _ (fun e => nodep i hi hci hbi t e ht)).symm).symm
          rw [hw i h1 h3 h7] at h9
          rw [hw j' h2 h4 h8] at h10
          exact hdi.inj i j' h1 h2 h3 h4 h5 h6 h7 h8 h9 h10
      -- the bookkeeping: j is run now
      have next : ∀ (A1 : St) (X1 : Ctx) (R1 : Nat → Nat), DI P G aops b X0 s0 w0 D (fun i => pl.lo.getD i 0 < s ∨ (pl.lo.getD i 0 = s ∧ i < j)) A1 X1 w ctm cdf m tmM R1 →
          (o.op.cls = .a → Pend X0.n X1 A1 o (R1 j) ∧ (wanted A1.tm o = some true → ∀ i, i < aops.length → i ≠ j → (aops.getD i default).op.cls = .a → ¬ D i → (pl.lo.getD i 0 < s ∨ (pl.lo.getD i 0 = s ∧ i < j)) → wanted A1.tm (aops.getD i default) = some true → R1 i ≠ R1 j)) →
          DI P G aops b X0 s0 w0 D (fun i => pl.lo.getD i 0 < s ∨ (pl.lo.getD i 0 = s ∧ i < j + 1)) A1 X1 w ctm cdf m tmM R1 := by
        intro A1 X1 R1 hd1 hpj
        have old : ∀ i, (pl.lo.getD i 0 < s ∨ (pl.lo.getD i 0 = s ∧ i < j + 1)) → i ≠ j → (pl.lo.getD i 0 < s ∨ (pl.lo.getD i 0 = s ∧ i < j)) := by
          intro i h1 h2; omega
        refine { hd1 with pend := fun i h1 h2 h3 h4 => ?_, inj := fun i j' h1 h2 h3 h4 h5 h6 h7 h8 h9 h10 h11 => ?_ }
        · by_cases hij : i = j
          · subst hij; rw [hoj] at h2 ⊢; exact (hpj h2).1
          · exact hd1.pend i h1 h2 h3 (old i h4 hij)
        · by_cases hij : i = j
          · subst hij
            by_cases hij' : j' = i
            · exact hij'.symm
            · rw [hoj] at h3 h9
              exact absurd h11.symm ((hpj h3).2 h9 j' h2 hij' h4 h6 (old j' h8 hij') h10)
          · by_cases hij' : j' = j
            · subst hij'
              rw [hoj] at h4 h10
              exact absurd h11 ((hpj h4).2 h10 i h1 hij h3 h5 (old i h7 hij) h9)
            · exact hd1.inj i j' h1 h2 h3 h4 h5 h6 (old i h7 hij) (old j' h8 hij') h9 h10 h11
      have noself : ∀ d, o.dst = some d → d ∉ readsOf o := by
        intro d hd hmem
        have := hp.read j hj (by rw [hoj]; exact hc) d (by rw [hoj]; exact hd) j hj (by rw [hoj]; exact hmem)
        have := (hp.preIn j hj j this).1
        omega
      have wself : ∀ v, wanted (put A.tm o.dst v) o = wanted A.tm o := fun v => (wanted_reads fun t ht => (getD_put _ _ _ _ (fun e => noself t e ht)).symm).symm
      unfold doOp at hr
      obtain ⟨wt, hwt, hr'⟩ := opt_some hr
      clear hr
      cases wt with
      | false =>
        rw [if_pos rfl] at hr'
        cases hr'
        simp only at h'
        refine ih (j + 1) _ X R A' hdrop' (next _ X R (slot .undef) fun _ => ⟨.inl ⟨by rw [wself]; exact hwt, fun d hd => ?_⟩, fun hw => ?_⟩) h'
        · simp only [hd]; rw [getD_put_same]; split <;> rfl
        · rw [wself, hwt] at hw; cases hw
      | true =>
        rw [if_neg (by simp)] at hr'
        cases hcl : o.op.cls with
        | e => exact absurd hcl hc
        | q =>
          rw [hcl] at hr'
          simp only at hr'
          cases hq : qop A.tm A.sg o.op with
          | none => rw [hq] at hr'; cases hr'
          | some v =>
            rw [hq] at hr'
            cases hr'
            simp only at h'
            exact ih (j + 1) _ X R A' hdrop' (next _ X R (slot v) fun h => by rw [hcl] at h; cases h) h'
        | a =>
          rw [hcl] at hr'
          simp only at hr'
          cases hq : aop A.sg A.tm o.op with
          | none => rw [hq] at hr'; cases hr'
          | some p =>
            obtain ⟨v, e⟩ := p
            rw [hq] at hr'
            cases hr'
            simp only at h'
            have hew := aop_entW hq
            have hdi1 := slot v
            obtain ⟨g1, g2⟩ := Rel.early hdi1.rel hew
            have hlen : A.sg.length = X.n := hdi.rel.len
            have hRj : ∀ i, i < aops.length → i ≠ j → (if i = j then A.sg.length else R i) = R i := fun i _ hij => if_neg hij
            refine ih (j + 1) { A with tm := put A.tm o.dst v, sg := e :: A.sg } (X.push none e.rl e.tip e.tip) (fun i => if i = j then A.sg.length else R i) A' hdrop' (next _ _ _ ?_ fun _ => ⟨?_, fun _ i h1 h2 h3 h4 h5 h6 => ?_⟩) h'
            · refine ⟨hdi1.ext.trans g2, g1, hdi1.vm.mono hdi1.rel g2, hdi1.ml, hdi1.known, hdi1.df.mono hdi1.rel g2, hdi1.md.mono hdi1.rel g2, fun i h1 h2 h3 h4 => ?_, fun i j' h1 h2 h3 h4 h5 h6 h7 h8 h9 h10 h11 => ?_⟩
              · have hij : i ≠ j := by rintro rfl; omega
                simp only [if_neg hij]
                exact (hdi1.pend i h1 h2 h3 h4).ext g2 A.df A.md
              · have hij : i ≠ j := by rintro rfl; omega
                have hij' : j' ≠ j := by rintro rfl; omega
                simp only [if_neg hij, if_neg hij'] at h11
                exact hdi1.inj i j' h1 h2 h3 h4 h5 h6 h7 h8 h9 h10 h11
            · right
              simp only [if_true]
              refine ⟨by rw [wself]; exact hwt, A.sg, v, e, rfl, ?_, fun d hd hl => ?_, Store.get_new _ _, ?_, by simp [Ctx.push, hlen], by simp [Ctx.push, hlen], by simp [Ctx.push, hlen], by simp [Ctx.push, hlen], by simp [Ctx.push, hlen], by simp [Ctx.push, hlen]⟩
              · rw [← hq]
                exact (aop_congr (ev_reads fun t ht => (getD_put _ _ _ _ (fun e => noself t e ht)).symm)).symm
              · simp only [hd] at hl ⊢
                rw [getD_put_same, if_pos (by simpa [length_put] using hl)]
              · rw [hlen]; exact hdi.ext.n
            · simp only [if_neg h2, if_true]
              rcases hdi1.pend i h1 h3 h4 h5 with ⟨a, _⟩ | ⟨_, s1, v1, e1, _, _, _, _, _, c6, _⟩
              · simp only at h6; rw [a] at h6; cases h6
              · omega
    · rename_i hnew
      refine ih (j + 1) A X R A' hdrop' { hdi with pend := fun i h1 h2 h3 h4 => hdi.pend i h1 h2 h3 ?_, inj := fun i j' h1 h2 h3 h4 h5 h6 h7 h8 => hdi.inj i j' h1 h2 h3 h4 h5 h6 ?_ ?_ } h
      · rcases h4 with h4 | ⟨h4, h5⟩
        · exact .inl h4
        · rcases Nat.lt_or_eq_of_le (Nat.lt_succ_iff.1 h5) with h6 | h6
          · exact .inr ⟨h4, h6⟩
          · subst h6; exact absurd ⟨by rw [← hoj, h2]; simp, h4⟩ hnew
      · rcases h7 with h7 | ⟨h7, h9⟩
        · exact .inl h7
        · rcases Nat.lt_or_eq_of_le (Nat.lt_succ_iff.1 h9) with h10 | h10
          · exact .inr ⟨h7, h10⟩
          · subst h10; exact absurd ⟨by rw [← hoj, h3]; simp, h7⟩ hnew
      · rcases h8 with h8 | ⟨h8, h9⟩
        · exact .inl h8
        · rcases Nat.lt_or_eq_of_le (Nat.lt_succ_iff.1 h9) with h10 | h10
          · exact .inr ⟨h8, h10⟩
          · subst h10; exact absurd ⟨by rw [← hoj, h4]; simp, h8⟩ hnew
end
end Go.Am

namespace Go.Am
open Go

section
variable {P : Program} {G : Nat → Option (List AV)} {E : Env} {call : CallF}

/-- What is left of a drawn region, behind a pass. -/
def drunRest (E : Env) (call : CallF) (pl : Plan) (ops : List AOper) : List Nat → Nat → St → Option (AX × St)
  | [], _, st => some (.normal, st)
  | e :: es, s, st => opt ops[e]? fun o => opt (doOp E call o st) fun
      | .next st => drun E call pl ops es (s + 1) st
      | .leave ch st => some (.panic ch, { st with tm := blur ops st.tm })

theorem drun_eq (pl : Plan) (ops : List AOper) (es : List Nat) (s : Nat) (st : St) :
    drun E call pl ops es s st = opt (pass E call pl s ops 0 st) fun st => if checkAt E pl s st ops 0 then drunRest E call pl ops es s st else none := by
  cases es <;> rfl

theorem checkAt_get {pl : Plan} {s : Nat} {st : St} : ∀ (ops : List AOper) (k : Nat), checkAt E pl s st ops k = true → ∀ i, i < ops.length → (ops.getD i default).op.cls = .q → pl.lo.getD (k + i) 0 ≤ s → s ≤ pl.hi.getD (k + i) 0 →
    ∃ v, qval st.tm st.sg (ops.getD i default) = some v ∧ ∀ d, (ops.getD i default).dst = some d → E.eqv v (st.tm.getD d .undef) = true := by
  intro ops
  induction ops with
  | nil => intro k _ i hi; simp at hi
  | cons o ops ih =>
    intro k h i hi hc h1 h2
    simp only [checkAt, Bool.and_eq_true] at h
    cases i with
    | zero =>
      simp only [Nat.add_zero, List.getD_cons_zero] at *
      rw [if_pos ⟨hc, h1, h2⟩] at h
      obtain ⟨h, _⟩ := h
      split at h
      · rename_i v d hv hd
        exact ⟨v, hv, fun d' hd' => by rw [hd] at hd'; cases hd'; exact h⟩
      · rename_i v hv hd
        exact ⟨v, hv, fun d' hd' => by rw [hd] at hd'; cases hd'⟩
      · cases h
    | succ i =>
      simp only [List.getD_cons_succ] at *
      refine ih (k + 1) h.2 i (by simpa using hi) hc ?_ ?_
      · rw [show k + 1 + i = k + (i + 1) from by omega]; exact h1
      · rw [show k + 1 + i = k + (i + 1) from by omega]; exact h2

theorem blur_get : ∀ (ops : List AOper) (tm : List AV) (t : Nat), (blur ops tm).length = tm.length ∧
    (((∃ i, i < ops.length ∧ (ops.getD i default).op.cls ≠ .e ∧ (ops.getD i default).dst = some t) ∧ t < tm.length ∧ (blur ops tm)[t]? = some .any) ∨
     ((∀ i, i < ops.length → (ops.getD i default).op.cls ≠ .e → (ops.getD i default).dst ≠ some t) ∧ (blur ops tm)[t]? = tm[t]?) ∨ tm.length ≤ t) := by
  intro ops
  induction ops with
  | nil => intro tm t; exact ⟨rfl, .inr (.inl ⟨fun i hi => by simp at hi, rfl⟩)⟩
  | cons o ops ih =>
    intro tm t
    have hb : blur (o :: ops) tm = blur ops (if o.op.cls = .e then tm else put tm o.dst .any) := rfl
    rw [hb]
    have hl : (if o.op.cls = .e then tm else put tm o.dst .any).length = tm.length := by split <;> simp [length_put]
    obtain ⟨h1, h2⟩ := ih (if o.op.cls = .e then tm else put tm o.dst .any) t
    rw [hl] at h1 h2
    refine ⟨h1, ?_⟩
    rcases h2 with ⟨⟨i, hi, hc, hd⟩, h3, h4⟩ | ⟨h3, h4⟩ | h3
    · exact .inl ⟨⟨i + 1, by simpa using hi, by simpa using hc, by simpa using hd⟩, h3, h4⟩
    · by_cases hlt : t < tm.length
      · by_cases ho : o.op.cls ≠ .e ∧ o.dst = some t
        · refine .inl ⟨⟨0, by simp, by simpa using ho.1, by simpa using ho.2⟩, hlt, ?_⟩
          rw [h4, if_neg ho.1, ho.2]
          simp [put, hlt]
        · refine .inr (.inl ⟨fun i hi hc hd => ?_, ?_⟩)
          · cases i with
            | zero => exact ho ⟨by simpa using hc, by simpa using hd⟩
            | succ i => exact h3 i (by simpa using hi) (by simpa using hc) (by simpa using hd)
          · rw [h4]
            split
            · rfl
            · rename_i hne
              cases hdo : o.dst with
              | none => rfl
              | some d =>
                have : d ≠ t := fun e => ho ⟨hne, by rw [hdo, e]⟩
                simp [put, this]
      · exact .inr (.inr (Nat.le_of_not_lt hlt))
    · exact .inr (.inr h3)

theorem ready_mem {ops : Array Oper} {listed : Array Bool} {i : Nat} : i ∈ Region.ready .any ops listed ↔ ∃ hi : i < ops.size, listed.getD i true = false ∧ ∀ e ∈ ops[i].after.toList, Region.binds .any e = true → listed.getD e.on false = true := by
  simp only [Region.ready, List.mem_filter, List.mem_range, Bool.and_eq_true, Bool.not_eq_true']
  constructor
  · rintro ⟨hi, h1, h2⟩
    refine ⟨hi, h1, fun e he hb => ?_⟩
    simp only [Array.getElem?_eq_getElem hi, Option.map_some, Option.getD_some, Array.all_eq_true_iff_forall_mem] at h2
    have := h2 e (by simpa using he)
    simpa [hb] using this
  · rintro ⟨hi, h1, h2⟩
    refine ⟨hi, h1, ?_⟩
    simp only [Array.getElem?_eq_getElem hi, Option.map_some, Option.getD_some, Array.all_eq_true_iff_forall_mem]
    intro e he
    cases hb : Region.binds .any e with
    | false => rfl
    | true => simp [h2 e (by simpa using he) hb]

section
variable {ops : Array Oper} {pl : Plan} (hok : planOk ops.toList (preds ops.toList) (ops.toList.map (cOper P G true ops.toList)) pl = true)
include hok

theorem dreg_run (hE : E.prog = P) (heq : ∀ a b, E.eqv a b = true → a = b) (hcall : CallOk P G call) {b : Frame} {cs : List Frame} {k : List Item} (hcs : b.kind = .deferred → cs ≠ []) {X0 : Ctx} {s0 : Store} {w0 : World} {x : AX} {st' : St} :
    ∀ (fuel t : Nat) (listed : Array Bool) (s : Nat) (A : St) (X : Ctx) (w : World) (ctm : Array Value) (cdf : List Deferred) (m : FrameMode) (tmM : List AV) (R : Nat → Nat),
      listed.size = ops.size → listed.toList.countP (· == false) ≤ fuel →
      (∀ i, i < ops.size → listed.getD i false = true → ∀ j ∈ (preds ops.toList).getD i [], listed.getD j false = true) →
      s ≤ pl.es.length → (∀ k, k < pl.es.length → (listed.getD (pl.es.getD k 0) false = true ↔ k < s)) →
      DI P G (ops.toList.map (cOper P G true ops.toList)) b X0 s0 w0 (fun i => listed.getD i false = true) (fun i => pl.lo.getD i 0 ≤ s) A X w ctm cdf m tmM R →
      checkAt E pl s A (ops.toList.map (cOper P G true ops.toList)) 0 = true →
      drunRest E call pl (ops.toList.map (cOper P G true ops.toList)) (pl.es.drop s) s A = some (x, st') →
      ExOk P G b cs k (lone (Fr b ctm cdf (.inRegion ops (Region.linearise.go .any ops fuel t listed []) :: k)) (wm b cs m) w) X0 s0 w0 x st' := by
  have hp := planOk_prop hok
  have hn : (ops.toList.map (cOper P G true ops.toList)).length = ops.size := by simp
  have hget : ∀ i (hi : i < ops.size), (ops.toList.map (cOper P G true ops.toList)).getD i default = cOper P G true ops.toList ops[i] := by
    intro i hi
    rw [List.getD_eq_getElem?_getD]
    simp [hi]
  have hdirect : ∀ i (hi : i < ops.size), directOf ops.toList i = ((ops[i]).after.toList.filter fun e => Region.binds .any e).map (·.on) := by
    intro i hi
    simp [directOf, hi]
  -- the end
  have fin : ∀ (listed : Array Bool) (s : Nat) (A : St) (X : Ctx) (w : World) (ctm : Array Value) (cdf : List Deferred) (m : FrameMode) (tmM : List AV) (R : Nat → Nat),
      (∀ i, i < ops.size → listed.getD i false = true) → s ≤ pl.es.length → (∀ k, k < pl.es.length → (listed.getD (pl.es.getD k 0) false = true ↔ k < s)) →
      DI P G (ops.toList.map (cOper P G true ops.toList)) b X0 s0 w0 (fun i => listed.getD i false = true) (fun i => pl.lo.getD i 0 ≤ s) A X w ctm cdf m tmM R →
      drunRest E call pl (ops.toList.map (cOper P G true ops.toList)) (pl.es.drop s) s A = some (x, st') → ExOk P G b cs k (lone (Fr b ctm cdf (.inRegion ops [] :: k)) (wm b cs m) w) X0 s0 w0 x st' := by
    intro listed s A X w ctm cdf m tmM R hall hs hes hdi h
    have hse : s = pl.es.length := by
      rcases Nat.lt_or_eq_of_le hs with hlt | he
      · have hmem : pl.es.getD s 0 ∈ pl.es := by rw [List.getD_eq_getElem?_getD, List.getElem?_eq_getElem hlt]; exact List.getElem_mem hlt
        have := (hes s hlt).1 (hall _ (by rw [← hn]; exact (hp.esIn _ hmem).1))
        omega
      · exact he
    rw [hse, List.drop_length] at h
    cases h
    have htm : tmM = st'.tm := by
      refine List.ext_getElem hdi.ml fun i h1 h2 => ?_
      have := hdi.known i (fun j hj _ hD => absurd (hall j (by rw [← hn]; exact hj)) hD)
      rw [List.getD_eq_getElem?_getD, List.getD_eq_getElem?_getD, List.getElem?_eq_getElem h1, List.getElem?_eq_getElem h2] at this
      exact this
    refine ⟨X, w, ctm, cdf, m, hdi.ext, ⟨hdi.rel, by rw [← htm]; exact hdi.vm, hdi.df, hdi.md⟩, .one fr_region_end⟩
  intro fuel
  induction fuel with
  | zero =>
    intro t listed s A X w ctm cdf m tmM R hsz hcnt hcl hs hes hdi hchk h
    refine fin listed s A X w ctm cdf m tmM R (fun i hi => ?_) hs hes hdi h
    have h0 : ∀ a ∈ listed.toList, ¬ ((a == false) = true) := by
      have := Nat.le_zero.1 hcnt
      exact fun a ha => (List.countP_eq_zero.1 this) a ha
    have hi' : i < listed.size := by omega
    have := h0 listed[i] (by simp)
    simp only [Array.getD, hi', dif_pos]
    simpa using this
  | succ fuel ih =>
    intro t listed s A X w ctm cdf m tmM R hsz hcnt hcl hs hes hdi hchk h
    simp only [Region.linearise.go]
    change ExOk P G b cs k (lone (Fr b ctm cdf (.inRegion ops (match (Region.ready .any ops listed)[t % (Region.ready .any ops listed).length]? with
      | some i => Region.linearise.go .any ops fuel (t / (Region.ready .any ops listed).length) (listed.setIfInBounds i true) [i]
      | none => [].reverse) :: k)) (wm b cs m) w) X0 s0 w0 x st'
    cases hpick : (Region.ready .any ops listed)[t % (Region.ready .any ops listed).length]? with
    | none =>
      have hnil : Region.ready .any ops listed = [] := by
        cases hr : Region.ready .any ops listed with
        | nil => rfl
        | cons y ys =>
          rw [hr] at hpick
          have hlt : t % (y :: ys).length < (y :: ys).length := Nat.mod_lt _ (by simp)
          simp at hpick hlt
          omega
      refine fin listed s A X w ctm cdf m tmM R ?_ hs hes hdi h
      intro i
      induction i using Nat.strongRecOn with
      | _ i ihi =>
        intro hi
        cases hl : listed.getD i false with
        | true => rfl
        | false =>
          have : i ∈ Region.ready .any ops listed := by
            refine ready_mem.2 ⟨hi, by rw [← hl]; simp [Array.getD, show i < listed.size by omega], fun e he hb => ?_⟩
            have hd : e.on ∈ directOf ops.toList i := by
              rw [hdirect i hi]
              exact List.mem_map.2 ⟨e, List.mem_filter.2 ⟨he, hb⟩, rfl⟩
            have hlt := (hp.back i (by rw [hn]; exact hi) e.on hd).1
            exact ihi e.on hlt (by omega)
          rw [hnil] at this
          cases this
    | some i =>
      simp only []
      rw [linearise_go_acc, List.reverse_singleton, List.singleton_append]
      obtain ⟨hi, hunl, hdone⟩ := ready_mem.1 (List.mem_of_getElem? hpick)
      generalize hL : Region.linearise.go .any ops fuel (t / (Region.ready .any ops listed).length) (listed.setIfInBounds i true) [] = L
      have ho : ops[i]? = some ops[i] := Array.getElem?_eq_getElem hi
      have hgi := hget i hi
      have hin : i < (ops.toList.map (cOper P G true ops.toList)).length := by rw [hn]; exact hi
      have hDi : ¬ listed.getD i false = true := by
        have hi' : i < listed.size := by omega
        simp only [Array.getD, hi', dif_pos] at hunl ⊢
        rw [hunl]; simp
      have hpre : ∀ j ∈ (preds ops.toList).getD i [], listed.getD j false = true := by
        have hdir : ∀ j ∈ directOf ops.toList i, listed.getD j false = true := by
          intro j hj
          rw [hdirect i hi] at hj
          obtain ⟨e, he, rfl⟩ := List.mem_map.1 hj
          obtain ⟨he1, he2⟩ := List.mem_filter.1 he
          exact hdone e he1 he2
        intro j hj
        rcases (hp.preIn i hin j hj).2 with h1 | ⟨j', h1, h2⟩
        · exact hdir j h1
        · exact hcl j' (by have := (hp.back i hin j' h1).1; omega) (hdir j' h1) j h2
      have hD' : ∀ j, ((listed.setIfInBounds i true).getD j false = true ↔ j = i ∨ listed.getD j false = true) := by
        intro j
        have hi' : i < listed.size := by omega
        simp only [Array.getD_eq_getD_getElem?, Array.getElem?_setIfInBounds]
        by_cases hij : i = j
        · subst hij; simp [hi']
        · rw [if_neg hij]
          constructor
          · exact fun h => .inr h
          · rintro (h | h)
            · exact absurd h.symm hij
            · exact h
      have hsz' : (listed.setIfInBounds i true).size = ops.size := by simpa using hsz
      have hcnt' : (listed.setIfInBounds i true).toList.countP (· == false) ≤ fuel := by
        have hi' : i < listed.toList.length := by simp; omega
        have hli : listed.toList[i] = false := by
          have hi2 : i < listed.size := by omega
          simp only [Array.getD, hi2, dif_pos] at hunl
          simpa using hunl
        rw [Array.toList_setIfInBounds, List.countP_set hi', hli]
        simp at hcnt ⊢; omega
      have hcl' : ∀ i', i' < ops.size → (listed.setIfInBounds i true).getD i' false = true → ∀ j ∈ (preds ops.toList).getD i' [], (listed.setIfInBounds i true).getD j false = true := by
        intro i' hi' hd j hj
        rw [hD'] at hd ⊢
        rcases hd with rfl | hd
        · exact .inr (hpre j hj)
        · exact .inr (hcl i' hi' hd j hj)
      have hne : (cOper P G true ops.toList ops[i]).op.cls ≠ .e → (∀ k, k < pl.es.length → pl.es.getD k 0 ≠ i) := by
        intro hc k hk he
        have hmem : pl.es.getD k 0 ∈ pl.es := by rw [List.getD_eq_getElem?_getD, List.getElem?_eq_getElem hk]; exact List.getElem_mem hk
        have := (hp.esIn _ hmem).2
        rw [he, hgi] at this
        exact hc this
      have hes' : (cOper P G true ops.toList ops[i]).op.cls ≠ .e → ∀ k, k < pl.es.length → ((listed.setIfInBounds i true).getD (pl.es.getD k 0) false = true ↔ k < s) := by
        intro hc k hk
        rw [hD', ← hes k hk]
        exact ⟨fun h => h.resolve_left (hne hc k hk), .inr⟩
      have hreads : ∀ t ∈ readsOf (cOper P G true ops.toList ops[i]), A.tm.getD t .undef = tmM.getD t .undef := by
        intro t ht
        refine (hdi.known t fun j hj hcj hDj hd => hDj ?_).symm
        exact hpre j (hp.read j hj hcj t hd i hin (by rw [hgi]; exact ht))
      have hlo : (cOper P G true ops.toList ops[i]).op.cls ≠ .e → pl.lo.getD i 0 ≤ s := by
        intro hc
        refine Nat.le_of_not_lt fun hlt => ?_
        have hle := hp.loLe i hin (by rw [hgi]; exact hc)
        have h1 := (hp.lo i hin (by rw [hgi]; exact hc) s (by omega)).2 hlt
        have := (hes s (by omega)).1 (hpre _ h1)
        omega
      have hhi : (cOper P G true ops.toList ops[i]).op.cls ≠ .e → s ≤ pl.hi.getD i 0 := by
        intro hc
        refine Nat.le_of_not_lt fun hlt => ?_
        have h1 := (hp.hi i hin (by rw [hgi]; exact hc) (pl.hi.getD i 0) (by omega)).2 (Nat.le_refl _)
        have hmem : pl.es.getD (pl.hi.getD i 0) 0 ∈ pl.es := by rw [List.getD_eq_getElem?_getD, List.getElem?_eq_getElem (by omega)]; exact List.getElem_mem _
        exact hDi (hcl _ (by rw [← hn]; exact (hp.esIn _ hmem).1) ((hes (pl.hi.getD i 0) (by omega)).2 hlt) i h1)
      have known' : ∀ v, (∀ d, ops[i].dst = some d → d < A.tm.length → A.tm.getD d .undef = v) →
          ∀ t, (∀ j, j < (ops.toList.map (cOper P G true ops.toList)).length → ((ops.toList.map (cOper P G true ops.toList)).getD j default).op.cls ≠ .e → ¬ (listed.setIfInBounds i true).getD j false = true → ((ops.toList.map (cOper P G true ops.toList)).getD j default).dst ≠ some t) →
          (put tmM ops[i].dst v).getD t .undef = A.tm.getD t .undef := by
        intro v hv t ht
        by_cases hd : ops[i].dst = some t
        · rw [hd, getD_put_same, hdi.ml]
          split
          · rename_i hl; exact (hv t hd hl).symm
          · rename_i hl; rw [List.getD_eq_getElem?_getD, List.getElem?_eq_none (Nat.le_of_not_lt hl)]; rfl
        · rw [getD_put _ _ _ _ hd]
          refine hdi.known t fun j hj hcj hDj => ?_
          by_cases hji : j = i
          · subst hji; rw [hgi, cOper_dst]; exact hd
          · exact ht j hj hcj (fun h => hDj (((hD' j).1 h).resolve_left hji))
      -- an operation that leaves the store
      have quiet : (cOper P G true ops.toList ops[i]).op.cls ≠ .e → ∀ v, doOp E call (cOper P G true ops.toList ops[i]) { A with tm := tmM } = some (.next { A with tm := put tmM ops[i].dst v }) →
          (∀ d, ops[i].dst = some d → d < A.tm.length → A.tm.getD d .undef = v) →
          ExOk P G b cs k (lone (Fr b ctm cdf (.inRegion ops (i :: L) :: k)) (wm b cs m) w) X0 s0 w0 x st' := by
        intro hc v hdo hv
        obtain ⟨v2, c, X', w', df', m', e1, e2, e3, e4, e5, e6, e7⟩ := op_sound (cs := cs) (k := k) (rest := L) (st := { A with tm := tmM }) hE hcall ho hdi.rel hdi.vm hdi.df hdi.md hcs hdo
        simp only at e1 e3 e4 e5 e6
        have hvm := (hdi.vm.mono hdi.rel e3).putD ops[i].dst e2
        rw [← e1] at hvm
        have hdi' : DI P G (ops.toList.map (cOper P G true ops.toList)) b X0 s0 w0 (fun j => (listed.setIfInBounds i true).getD j false = true) (fun j => pl.lo.getD j 0 ≤ s) A X' w' (putV ctm ops[i].dst c) df' m' (put tmM ops[i].dst v) R := by
          refine ⟨hdi.ext.trans e3, e4, hvm, by rw [length_put]; exact hdi.ml, known' v hv, e5, e6, fun j h1 h2 h3 h4 => ?_, fun j j' h1 h2 h3 h4 h5 h6 h7 h8 h9 h10 h11 => ?_⟩
          · exact (hdi.pend j h1 h2 (fun h => h3 ((hD' j).2 (.inr h))) h4).ext e3 A.df A.md
          · exact hdi.inj j j' h1 h2 h3 h4 (fun h => h5 ((hD' j).2 (.inr h))) (fun h => h6 ((hD' j').2 (.inr h))) h7 h8 h9 h10 h11
        have := ih (t / (Region.ready .any ops listed).length) (listed.setIfInBounds i true) s A X' w' (putV ctm ops[i].dst c) df' m' (put tmM ops[i].dst v) R hsz' hcnt' hcl' hs (hes' hc) hdi' hchk h
        rw [hL] at this
        obtain ⟨X2, w2, tm2, df2, m2, g1, g2, g3⟩ := this
        exact ⟨X2, w2, tm2, df2, m2, g1, g2, g3.of_steps e7⟩
      cases hcl0 : (cOper P G true ops.toList ops[i]).op.cls with
      | q =>
        have hc : (cOper P G true ops.toList ops[i]).op.cls ≠ .e := by rw [hcl0]; simp
        obtain ⟨v, hv1, hv2⟩ := checkAt_get _ 0 hchk i hin (by rw [hgi]; exact hcl0) (by rw [Nat.zero_add]; exact hlo hc) (by rw [Nat.zero_add]; exact hhi hc)
        rw [hgi] at hv1 hv2
        refine quiet hc v ?_ fun d hd _ => (heq _ _ (hv2 d (by rw [cOper_dst]; exact hd))).symm
        unfold qval at hv1
        obtain ⟨wt, hwt, hv3⟩ := opt_some hv1
        unfold doOp
        simp only
        rw [← wanted_reads hreads, hwt]
        simp only [opt]
        cases wt with
        | false =>
          simp only [Bool.false_eq_true, if_false, Option.some.injEq] at hv3
          subst hv3
          rw [if_pos rfl, cOper_dst]
        | true =>
          rw [if_neg (by simp), hcl0]
          simp only [if_true] at hv3
          rw [qop_congr (ev_reads hreads)] at hv3
          simp only [hv3, Option.map_some, cOper_dst]
      | a =>
        have hc : (cOper P G true ops.toList ops[i]).op.cls ≠ .e := by rw [hcl0]; simp
        have hpend := hdi.pend i hin (by rw [hgi]; exact hcl0) hDi (hlo hc)
        rw [hgi] at hpend
        rcases hpend with ⟨hw, hund⟩ | ⟨hw, s1, v, e, q1, q2, q3, q4, q5, q6, q7, q8, q9, q10, q11⟩
        · refine quiet hc .undef ?_ fun d hd _ => hund d (by rw [cOper_dst]; exact hd)
          unfold doOp
          simp only
          rw [← wanted_reads hreads, hw]
          simp only [opt, if_true, cOper_dst]
        · -- memory that AM has made before
          obtain ⟨own, hop⟩ := (cOper_op (P := P) (G := G) true ops.toList ops[i]).resolve_right (fun hb => by rw [hb] at hcl0; cases hcl0)
          rw [aop_congr (ev_reads hreads), hop] at q2
          have hwM : wanted tmM (cOper P G true ops.toList ops[i]) = some true := by rw [← wanted_reads hreads]; exact hw
          have hwm := (wanted_sound (ops := ops) hdi.vm hwM).resolve_left (fun hb => by rw [hb.1] at hcl0; cases hcl0)
          obtain ⟨hew, c, w', bl, ce, r1, r2, r3, r4, r5, r6⟩ := aop_sound (a := Act.mk ctm cdf) hdi.rel hdi.vm own ops[i] q2
          rw [q1] at r6
          have hnd : notDeferIn b ops[i] := by
            right
            intro cc hcc
            rw [hop] at hcl0
            revert hcl0
            generalize ops[i] = oo at hcc ⊢
            obtain ⟨dst, op, ty, pos, after, guard⟩ := oo
            simp only at hcc
            subst hcc
            simp only [cOp]
            split <;> simp [AOp.cls]
          have hstep := fr_value (P := P) (b := b) (tm := ctm) (df := cdf) (k := k) (cs := wm b cs m) (rest := L) ho hwm hnd r1
          have hmono : ∀ v c, VR X w v c → VR (X.mat (R i) bl ce) w' v c := fun v c h => h.mat hdi.rel r2 q7 q8
          have hent := r6 (X.mat (R i) bl ce) q8 (by simp [Ctx.mat]) q9 q10 (by simp [Ctx.mat]) q11 q6 hmono
          have hrel' := Rel.mat hdi.rel r2 q7 q8 q11 r3 r4 q4 hent.1
          have hdi' : DI P G (ops.toList.map (cOper P G true ops.toList)) b X0 s0 w0 (fun j => (listed.setIfInBounds i true).getD j false = true) (fun j => pl.lo.getD j 0 ≤ s) A (X.mat (R i) bl ce) w' (putV ctm ops[i].dst c) cdf m (put tmM ops[i].dst v) R := by
            refine ⟨Ext.mat hdi.ext r2 q5 r3, hrel', (hdi.vm.mat hdi.rel r2 q7 q8).putD _ hent.2, by rw [length_put]; exact hdi.ml, known' v (fun d hd hl => q3 d (by rw [cOper_dst]; exact hd) hl), hdi.df.mat hdi.rel r2 q7 q8, hdi.md.mat hdi.rel r2 q7 q8, fun j h1 h2 h3 h4 => ?_, fun j j' h1 h2 h3 h4 h5 h6 h7 h8 h9 h10 h11 => ?_⟩
            · have hji : j ≠ i := fun e => h3 ((hD' j).2 (.inl e))
              have hDj : ¬ listed.getD j false = true := fun h => h3 ((hD' j).2 (.inr h))
              rcases hdi.pend j h1 h2 hDj h4 with hl | ⟨p0, s2, v2, e2, p1, p2, p3, p4, p5, p6, p7, p8, p9, p10, p11⟩
              · exact .inl hl
              · have hRR : R j ≠ R i := fun hR => hji (hdi.inj j i h1 hin h2 (by rw [hgi]; exact hcl0) hDj hDi h4 (hlo hc) p0 (by rw [hgi]; exact hw) hR)
                exact .inr ⟨p0, s2, v2, e2, p1, p2, p3, p4, p5, p6, by simp only [Ctx.mat, if_neg hRR]; exact p7, p8, p9, p10, p11⟩
            · exact hdi.inj j j' h1 h2 h3 h4 (fun h => h5 ((hD' j).2 (.inr h))) (fun h => h6 ((hD' j').2 (.inr h))) h7 h8 h9 h10 h11
          have := ih (t / (Region.ready .any ops listed).length) (listed.setIfInBounds i true) s A _ w' (putV ctm ops[i].dst c) cdf m (put tmM ops[i].dst v) R hsz' hcnt' hcl' hs (hes' hc) hdi' hchk h
          rw [hL] at this
          obtain ⟨X2, w2, tm2, df2, m2, g1, g2, g3⟩ := this
          exact ⟨X2, w2, tm2, df2, m2, g1, g2, g3.of_steps (.one hstep)⟩
      | e =>
        have hies := hp.inEs i hin (by rw [hgi]; exact hcl0)
        obtain ⟨k0, hk0, hke⟩ := List.mem_iff_getElem.1 hies
        have hkg : pl.es.getD k0 0 = i := by rw [List.getD_eq_getElem?_getD, List.getElem?_eq_getElem hk0]; exact hke
        have hks : k0 = s := by
          have h1 : ¬ k0 < s := fun h => hDi (by rw [← hkg]; exact (hes k0 hk0).2 h)
          have h2 : ¬ s < k0 := fun h => by
            have := hp.chain k0 hk0 s h
            rw [hkg] at this
            have := (hes s (by omega)).1 (hpre _ this)
            omega
          omega
        subst hks
        rw [List.drop_eq_getElem_cons hk0, hke] at h
        simp only [drunRest] at h
        obtain ⟨o1, ho1, h1⟩ := opt_some h
        have ho1' : o1 = cOper P G true ops.toList ops[i] := by
          rw [List.getElem?_eq_getElem hin] at ho1
          have := Option.some.inj ho1
          rw [← this]; simp
        subst ho1'
        obtain ⟨r, hr, h2⟩ := opt_some h1
        clear h h1
        have hcg := doOp_congr hreads hr
        cases r with
        | leave ch A1 =>
          obtain ⟨c1, c2⟩ := hcg
          cases h2
          obtain ⟨e1, X', w', df', m', chain, todo, e3, e4, e5, e6, e7, e8⟩ := op_sound (cs := cs) (k := k) (rest := L) (st := { A with tm := tmM }) hE hcall ho hdi.rel hdi.vm hdi.df hdi.md hcs c2
          refine ⟨X', w', ctm, df', m', hdi.ext.trans e3, ⟨e4, ?_, e5, e6⟩, todo, chain, e7, e8⟩
          simp only
          rw [c1]
          have hvm := hdi.vm.mono hdi.rel e3
          refine VRs.of_get (by rw [(blur_get _ _ 0).1, ← hdi.ml]; exact hvm.1) fun t a c ha hc' => ?_
          rcases (blur_get (ops.toList.map (cOper P G true ops.toList)) A.tm t).2 with ⟨_, _, hb⟩ | ⟨hb1, hb2⟩ | hb
          · rw [hb] at ha; cases ha; exact .any c
          · rw [hb2] at ha
            have hkn := hdi.known t fun j hj hcj _ => hb1 j hj hcj
            obtain ⟨hlt, hat⟩ := List.getElem?_eq_some_iff.1 ha
            have hlt2 : t < tmM.length := by rw [hdi.ml]; exact hlt
            rw [List.getD_eq_getElem?_getD, List.getD_eq_getElem?_getD, List.getElem?_eq_getElem hlt2, ha] at hkn
            simp only [Option.getD_some] at hkn
            exact hvm.get (by rw [List.getElem?_eq_getElem hlt2, hkn]) hc'
          · have := (List.getElem?_eq_some_iff.1 ha).1
            rw [(blur_get _ _ 0).1] at this
            omega
        | next A1 =>
          obtain ⟨v, c1, c2⟩ := hcg
          simp only at h2
          obtain ⟨v2, c, X', w', df', m', e1, e2, e3, e4, e5, e6, e7⟩ := op_sound (cs := cs) (k := k) (rest := L) (st := { A with tm := tmM }) hE hcall ho hdi.rel hdi.vm hdi.df hdi.md hcs c2
          simp only at e1 e3 e4 e5 e6
          rw [cOper_dst] at c1 e1
          have hvm := (hdi.vm.mono hdi.rel e3).putD ops[i].dst e2
          rw [← e1] at hvm
          rw [drun_eq] at h2
          obtain ⟨A2, hA2, h3⟩ := opt_some h2
          split at h3
          rotate_left
          · cases h3
          rename_i hchk2
          have hA1 : A1 = { A with tm := put A.tm ops[i].dst v, sg := A1.sg, df := A1.df, md := A1.md } := by
            cases A1; simp only at c1; subst c1; rfl
          have hnr : ∀ j, j < (ops.toList.map (cOper P G true ops.toList)).length → ((ops.toList.map (cOper P G true ops.toList)).getD j default).op.cls = .a → ∀ t, ops[i].dst = some t → t ∉ readsOf ((ops.toList.map (cOper P G true ops.toList)).getD j default) := by
            intro j hj hcj t ht hmem
            have := hp.mem j hj hcj t hmem i hies
            rw [hgi, cOper_dst] at this
            exact this ht
          have hpd : ∀ j, j < (ops.toList.map (cOper P G true ops.toList)).length → ((ops.toList.map (cOper P G true ops.toList)).getD j default).op.cls = .a → ¬ listed.getD j false = true → pl.lo.getD j 0 ≤ k0 → Pend X0.n X' A1 ((ops.toList.map (cOper P G true ops.toList)).getD j default) (R j) := by
            intro j h1 h2 h3 h4
            rw [hA1]
            refine ((hdi.pend j h1 h2 h3 h4).put (d := ops[i].dst) (v := v) (fun t ht => hnr j h1 h2 t ht) (fun t ht hd => ?_)).ext e3 A1.df A1.md
            have hij : i ≠ j := by rintro rfl; rw [hgi, hcl0] at h2; cases h2
            have := hp.own j h1 (by rw [h2]; simp) t ht i hin hij
            rw [hgi, cOper_dst] at this
            exact this hd
          have hdi1 : DI P G (ops.toList.map (cOper P G true ops.toList)) b X0 s0 w0 (fun j => (listed.setIfInBounds i true).getD j false = true) (fun j => pl.lo.getD j 0 < k0 + 1 ∨ (pl.lo.getD j 0 = k0 + 1 ∧ j < 0)) A1 X' w' (putV ctm ops[i].dst c) df' m' (put tmM ops[i].dst v) R := by
            refine ⟨hdi.ext.trans e3, e4, hvm, by rw [length_put, c1, length_put]; exact hdi.ml, fun t ht => ?_, e5, e6, fun j h1 h2 h3 h4 => ?_, fun j j' h1 h2 h3 h4 h5 h6 h7 h8 h9 h10 h11 => ?_⟩
            · rw [c1]
              by_cases hd : ops[i].dst = some t
              · rw [hd, getD_put_same, getD_put_same, hdi.ml]
              · rw [getD_put _ _ _ _ hd, getD_put _ _ _ _ hd]
                refine hdi.known t fun j hj hcj hDj => ht j hj hcj fun h => ?_
                rcases (hD' j).1 h with rfl | h
                · rw [hgi, hcl0] at hcj; exact hcj rfl
                · exact hDj h
            · exact hpd j h1 h2 (fun h => h3 ((hD' j).2 (.inr h))) (by omega)
            · have hw : ∀ j, j < (ops.toList.map (cOper P G true ops.toList)).length → ((ops.toList.map (cOper P G true ops.toList)).getD j default).op.cls = .a → wanted A1.tm ((ops.toList.map (cOper P G true ops.toList)).getD j default) = wanted A.tm ((ops.toList.map (cOper P G true ops.toList)).getD j default) := by
                intro j hj hcj
                rw [c1]
                exact (wanted_reads fun t ht => (getD_put _ _ _ _ (fun e => hnr j hj hcj t e ht)).symm).symm
              rw [hw j h1 h3] at h9
              rw [hw j' h2 h4] at h10
              exact hdi.inj j j' h1 h2 h3 h4 (fun h => h5 ((hD' j).2 (.inr h))) (fun h => h6 ((hD' j').2 (.inr h))) (by omega) (by omega) h9 h10 h11
          obtain ⟨X2, R2, hdi2⟩ := pass_sound hp (k0 + 1) (fun j hj hcj hlj hDj => by
            rcases (hD' j).1 hDj with rfl | hDj
            · rw [hgi, hcl0] at hcj; exact hcj rfl
            · have := (hp.lo j hj hcj k0 hk0).2 (by omega)
              have := hcl j (by rw [← hn]; exact hj) hDj _ this
              rw [hkg] at this
              exact hDi this) _ 0 A1 X' R A2 rfl hdi1 hA2
          have := ih (t / (Region.ready .any ops listed).length) (listed.setIfInBounds i true) (k0 + 1) A2 X2 w' (putV ctm ops[i].dst c) df' m' (put tmM ops[i].dst v) R2 hsz' hcnt' hcl' hk0 (fun k hk => by
            rw [hD', hes k hk]
            constructor
            · rintro (h | h)
              · have hkk : k = k0 := by
                  rcases Nat.lt_trichotomy k k0 with hlt | he | hlt
                  · exact absurd ((hes k hk).2 hlt) (by rw [h]; exact hDi)
                  · exact he
                  · have := hp.chain k hk k0 hlt
                    rw [h, hkg] at this
                    have := (hp.preIn i hin i this).1
                    omega
                omega
              · omega
            · intro hlt
              rcases Nat.lt_or_eq_of_le (Nat.lt_succ_iff.1 hlt) with h | h
              · exact .inr h
              · subst h; exact .inl hkg) hdi2 hchk2 h3
          rw [hL] at this
          obtain ⟨X3, w3, tm3, df3, m3, g1, g2, g3⟩ := this
          exact ⟨X3, w3, tm3, df3, m3, g1, g2, g3.of_steps e7⟩
end

theorem dreg_ok (hE : E.prog = P) (heq : ∀ a b, E.eqv a b = true → a = b) (hmix : P.follows .mixedOrders = true) (hcall : CallOk P G call) : DregOk P G E call := by
  intro b cs k id ops pl hcomp hcs X w st tm df m x st' hsr h
  have hok : planOk ops.toList (preds ops.toList) (ops.toList.map (cOper P G true ops.toList)) pl = true := by
    simp only [comp, if_true] at hcomp
    split at hcomp
    · rename_i hok
      simp only [AC.dreg.injEq] at hcomp
      rw [← hcomp.1]; exact hok
    · cases hcomp
  have hp := planOk_prop hok
  rw [drun_eq] at h
  obtain ⟨A, hA, h2⟩ := opt_some h
  split at h2
  rotate_left
  · cases h2
  rename_i hchk
  have hg : Grown w { w with drawn := w.drawn + 1 } := Grown.drawn w _
  have hx : Ext X st.sg w X st.sg { w with drawn := w.drawn + 1 } := Ext.grown hg
  have hn : (ops.toList.map (cOper P G true ops.toList)).length = ops.size := by simp
  have hrep : ∀ j, ¬ (Array.replicate ops.size false).getD j false = true := by
    intro j
    simp only [Array.getD]
    split <;> simp
  have hdi : DI P G (ops.toList.map (cOper P G true ops.toList)) b X st.sg w (fun j => (Array.replicate ops.size false).getD j false = true) (fun j => pl.lo.getD j 0 < 0 ∨ (pl.lo.getD j 0 = 0 ∧ j < 0)) st X { w with drawn := w.drawn + 1 } tm df m st.tm (fun _ => 0) :=
    ⟨hx, hsr.rel.grown hg, hsr.tm.mono hsr.rel hx, rfl, fun _ _ => rfl, hsr.df.mono hsr.rel hx, hsr.md.mono hsr.rel hx, fun j _ _ _ h => by omega, fun j j' _ _ _ _ _ _ h => by omega⟩
  obtain ⟨X2, R2, hdi2⟩ := pass_sound hp 0 (fun j _ _ _ => hrep j) _ 0 st X (fun _ => 0) A rfl hdi hA
  refine .head fr_region_draw ?_
  simp only [Region.schedule, hmix, Bool.true_or, if_true, Region.linearise]
  refine dreg_run (k := k) hok hE heq hcall hcs ops.size _ (Array.replicate ops.size false) 0 A X2 _ tm df m st.tm R2 (by simp) ?_ (fun j _ h => absurd h (hrep j)) (Nat.zero_le _) (fun k _ => ⟨fun h => absurd h (hrep _), fun h => by omega⟩) ?_ hchk (by simpa using h2)
  · exact Nat.le_trans List.countP_le_length (by simp)
  · exact { hdi2 with pend := hdi2.pend, inj := hdi2.inj }
end
end Go.Am

namespace Go.Am
open Go

/-- What is asked of the program and of the evaluator's surroundings. -/
structure EnvOk (P : Program) (G : Nat → Option (List AV)) (E : Env) : Prop where
  prog : E.prog = P
  glob : E.glob = G
  mix : P.follows .mixedOrders = true
  name : ∀ (f : Nat) fn, P.funcs[f]? = some fn → fn.body.isSome → fn.name ≠ "runtime.NumGoroutine"
  eqv : ∀ a b, E.eqv a b = true → a = b
  ovr : OvrOk P G E

theorem EnvOk.call {P : Program} {G : Nat → Option (List AV)} {E : Env} (h : EnvOk P G E) (n : Nat) : CallOk P G (callA E n) :=
  callA_sound h.prog h.glob h.name h.ovr (fun _ hc => dreg_ok h.prog h.eqv h.mix hc) n
end Go.Am
#print axioms Go.Am.EnvOk.call

namespace Go.Am
open Go

section
variable {P : Program} {G : Nat → Option (List AV)} {X : Ctx} {s : Store} {w : World}

/-- What a call has returned. -/
def RetR (P : Program) (G : Nat → Option (List AV)) (X : Ctx) (s : Store) (w : World) (v : AV) (s' : Store) : Ending → World → Prop
  | .returned c, w' => ∃ X', Ext X s w X' s' w' ∧ Rel P G X' s' w' ∧ VR X' w' v c
  | _, _ => False

theorem enter_calls {E : Env} (hprog : E.prog = P) (hglob : E.glob = G) {call : CallF} (hcall : CallOk P G call) (hdreg : DregOk P G E call) (n : Nat) {f : FuncId} {fn : Func} {c : Code} (hf : P.funcs[f]? = some fn) (hb : fn.body = some c) {args : List AV} {v : AV} {md' : AMode} {s' : Store}
    (hrun : enter E call n fn c args .run s = some (.ret v, md', s')) (hr : Rel P G X s w) {cargs : Array Value} (ha : VRs X w args cargs.toList) :
    Calls P f cargs w (RetR P G X s w v s') := by
  intro cs
  unfold enter at hrun
  rw [hprog, hglob] at hrun
  obtain ⟨⟨x, st⟩, hx, h'⟩ := opt_some hrun
  clear hrun
  rw [enter_eq hf hb]
  have hex := exec_sound hprog hcall hdreg n (b := enterB f .normal) (cs := cs) (fun h => by cases h) ⟨fn, hf⟩ c none c [] X w _ _ [] .run x st (fun _ => rfl) (fun _ h => by cases h) ⟨hr, args_put ha fn.ntmps, .nil, (show MdR X w .run (enterB f .normal) .run from ⟨rfl, rfl⟩)⟩ hx
  obtain ⟨X1, w1, tm1, df1, m1, e1, e2, e3⟩ := hex
  have hwm : ∀ m, wm (enterB f .normal) cs m = cs := fun m => wm_normal rfl cs m
  have go : ∀ (u : AMode) (mu : FrameMode) (todo : List Item) (r : ARes × Store), UM X1 w1 u mu → leave E call fn st.tm st.df u st.sg = some r → (ARes.ret v, md', s') = (r.1, st.md, r.2) →
      Steps P (lone (Fr (enterB f .normal) (cargs ++ Array.replicate (fn.ntmps - cargs.size) Go.undef) [] [.code c]) cs w) (lone (FrM (enterB f .normal) tm1 df1 todo mu) cs w1) →
      ∃ e w' fr, RetR P G X s w v s' e w' ∧ Comes P (lone (Fr (enterB f .normal) (cargs ++ Array.replicate (fn.ntmps - cargs.size) Go.undef) [] [.code c]) cs w) (lone fr cs w') e ∧ fr.fn = f ∧ fr.leaving P w' e := by
    rintro u mu todo ⟨res2, s2⟩ hu hl heq hst
    simp only [Prod.mk.injEq] at heq
    obtain ⟨rfl, rfl, rfl⟩ := heq
    obtain ⟨X2, w2, m2, g1, g2, g3, rfl, cv, r1, r2⟩ := leave_sound hprog hcall (b := enterB f .normal) (todo := todo) (cs := cs) st.df u X1 st.sg w1 df1 mu _ _ e2.rel e2.tm e2.df hu hl
    exact ⟨.returned cv, w2, _, ⟨X2, e1.trans g1, g2, r2⟩, hst.trans g3, rfl, rfl, rfl, rfl, fn, hf, r1⟩
  cases x with
  | normal =>
    simp only at h'
    cases hl : leave E call fn st.tm st.df .ret st.sg with
    | none => rw [hl] at h'; cases h'
    | some r =>
      rw [hl] at h'
      simp only [Reach, hwm] at e3
      exact go .ret .returning _ r rfl hl (Option.some.inj h').symm (Steps.trans e3 (.one (fr_end rfl)))
  | ret =>
    simp only at h'
    cases hl : leave E call fn st.tm st.df .ret st.sg with
    | none => rw [hl] at h'; cases h'
    | some r =>
      rw [hl] at h'
      simp only [Reach, hwm] at e3
      obtain ⟨k0, e3⟩ := e3
      exact go .ret .returning _ r rfl hl (Option.some.inj h').symm (Steps.trans e3 (.one (fr_ret rfl)))
  | panic ch =>
    simp only at h'
    cases hl : leave E call fn st.tm st.df (.pan ch) st.sg with
    | none => rw [hl] at h'; cases h'
    | some r =>
      rw [hl] at h'
      simp only [Reach, hwm] at e3
      obtain ⟨k0, chain, hc, e3⟩ := e3
      exact go (.pan ch) (.panicking chain) _ r ⟨chain, rfl, hc⟩ hl (Option.some.inj h').symm e3
  | exit id => cases h'
  | goto l => cases h'
end
end Go.Am
