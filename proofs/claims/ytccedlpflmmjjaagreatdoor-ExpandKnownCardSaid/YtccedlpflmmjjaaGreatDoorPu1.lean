/- Calls on values alone, and what is known of functions. -/
import Derived.Test.YtccedlpflmmjjaaGreatDoorLc1
import Derived.Test.YtccedlpflmmjjaaGreatDoorAm6
namespace Go.Am
open Go

def mapL (f : AV → Option AV) : List AV → Option (List AV)
  | [] => some []
  | v :: r => opt (f v) fun v' => (mapL f r).map (v' :: ·)
def mapR (f : AV → Option AV) : List (List AV) → Option (List (List AV))
  | [] => some []
  | row :: r => opt (mapL f row) fun row' => (mapR f r).map (row' :: ·)

/-- The value as it is now, without entries. -/
def pur (s : Store) : Nat → AV → Option AV
  | 0, _ => none
  | n + 1, v => match v with
    | .sl _ _ _ _ ex => opt (rowsOf s v) fun rows => (mapR (pur s n) rows).map (.list (if ex then .exact else .plain))
    | .list k rows => (mapR (pur s n) rows).map (.list k)
    | .rp row o => (mapL (pur s n) row).map (.rp · o)
    | .ifc t v => (pur s n v).map (.ifc t)
    | .agg l => (mapL (pur s n) l).map .agg
    | .tup l => (mapL (pur s n) l).map .tup
    | .fn f a c => match f with
      | .yield _ => none
      | _ => opt (mapL (pur s n) a) fun a => (mapL (pur s n) c).map (.fn f a ·)
    | .ptr .. | .map _ | .any => none
    | v => some v

/-- The entries that it looks at. -/
def prf (s : Store) : Nat → AV → List Nat
  | 0, _ => []
  | n + 1, v => match v with
    | .sl r _ _ _ _ => r :: ((rowsOf s v).getD []).flatMap fun row => row.flatMap (prf s n)
    | .list _ rows => rows.flatMap fun row => row.flatMap (prf s n)
    | .rp row _ => row.flatMap (prf s n)
    | .ifc _ v => prf s n v
    | .agg l | .tup l => l.flatMap (prf s n)
    | .fn _ a c => a.flatMap (prf s n) ++ c.flatMap (prf s n)
    | _ => []

def frzL (s : Store) : List Nat → Store
  | [] => s
  | r :: rs => match s.get r with
    | some (.cells v sz rows _) => frzL (s.put r (.cells v sz rows true)) rs
    | _ => frzL s rs

/-- Whether a value leads to no row that nobody writes. -/
def noL : Nat → AV → Bool
  | 0, _ => false
  | n + 1, v => match v with
    | .list _ rows => rows.isEmpty
    | .rp _ _ => false
    | .ifc _ v => noL n v
    | .agg l | .tup l => l.all (noL n)
    | .fn _ a c => a.all (noL n) && c.all (noL n)
    | _ => true
def noLE (n : Nat) : Ent → Bool
  | .cells _ _ rows _ => rows.all fun row => row.all (noL n)
  | .map es _ => es.all fun e => noL n e.1 && noL n e.2.1
  | _ => true

def ixOf (r : Nat) : List Nat → Nat → Option Nat
  | [], _ => none
  | k :: ks, i => if k = r then some i else ixOf r ks (i + 1)

/-- A value whose entries are these, by their places; what is frozen is taken as it is. -/
def conv (s : Store) (ks : List Nat) : Nat → AV → Option AV
  | 0, _ => none
  | n + 1, v => match v with
    | .sl r v' off len ex => match s.get r with
      | some (.cells v2 _ _ fz) => if v' = v2 then
          if fz then opt (rowsOf s v) fun rows => (mapR (conv s ks n) rows).map (.list (if ex then .exact else .plain))
          else (ixOf r ks 0).map (.sl · v' off len ex)
        else none
      | _ => none
    | .ptr r v' i o => match s.get r with
      | some (.cells v2 _ _ false) => if v' = v2 then (ixOf r ks 0).map (.ptr · v' i o) else none
      | _ => none
    | .map r => match s.get r with
      | some (.map ..) => (ixOf r ks 0).map .map
      | _ => none
    | .list k rows => (mapR (conv s ks n) rows).map (.list k)
    | .rp row o => (mapL (conv s ks n) row).map (.rp · o)
    | .ifc t v => (conv s ks n v).map (.ifc t)
    | .agg l => (mapL (conv s ks n) l).map .agg
    | .tup l => (mapL (conv s ks n) l).map .tup
    | .fn f a c => match f with
      | .yield _ => none
      | _ => opt (mapL (conv s ks n) a) fun a => (mapL (conv s ks n) c).map (.fn f a ·)
    | v => some v

def mapM' (f : AV × AV × Nat → Option (AV × AV × Nat)) : List (AV × AV × Nat) → Option (List (AV × AV × Nat))
  | [] => some []
  | e :: r => opt (f e) fun e' => (mapM' f r).map (e' :: ·)
def entV (f : AV → Option AV) : Ent → Option Ent
  | .cells v sz rows false => (mapR f rows).map (.cells v sz · false)
  | .map es c => (mapM' (fun e => opt (f e.1) fun k => (f e.2.1).map (k, ·, e.2.2)) es).map (.map · c)
  | _ => none
def convEs (s : Store) (ks : List Nat) (n : Nat) : List Nat → Option (List Ent)
  | [] => some []
  | r :: rs => opt (s.get r) fun e => opt (entV (conv s ks n) e) fun e' => (convEs s ks n rs).map (e' :: ·)

def rfs : Nat → AV → List Nat
  | 0, _ => []
  | n + 1, v => match v with
    | .sl r .. | .ptr r .. | .map r => [r]
    | .list _ rows => rows.flatMap fun row => row.flatMap (rfs n)
    | .rp row _ => row.flatMap (rfs n)
    | .ifc _ v => rfs n v
    | .agg l | .tup l => l.flatMap (rfs n)
    | .fn _ a c => a.flatMap (rfs n) ++ c.flatMap (rfs n)
    | _ => []
def rfsE (n : Nat) : Ent → List Nat
  | .cells _ _ rows _ => rows.flatMap fun row => row.flatMap (rfs n)
  | .map es _ => es.flatMap fun e => rfs n e.1 ++ rfs n e.2.1
  | _ => []
/-- The entries that a value leads to; what is frozen is no entry, but what it leads to. -/
def rootsOf (s : Store) (d : Nat) : Nat → List Nat → List Nat → List Nat → List Nat
  | 0, _, _, ks => ks
  | _ + 1, [], _, ks => ks
  | n + 1, r :: rs, seen, ks => if seen.contains r then rootsOf s d n rs seen ks else match s.get r with
    | some (.cells v sz rows fz) => rootsOf s d n (rfsE d (.cells v sz rows fz) ++ rs) (r :: seen) (if fz then ks else ks ++ [r])
    | some e => rootsOf s d n (rfsE d e ++ rs) (r :: seen) (ks ++ [r])
    | none => rootsOf s d n rs (r :: seen) ks

def nodupB : List Nat → Bool
  | [] => true
  | r :: rs => !rs.contains r && nodupB rs

def dep : Nat := 64
/-- The result with the entries that it needs. -/
def gcR (s : Store) (v : AV) : Option (AV × List Ent) :=
  match rfs dep v with
  | [] => (conv s [] dep v).map (·, [])
  | rs =>
    if nodupB (rootsOf s dep 100000 rs [] []) then
      opt (conv s (rootsOf s dep 100000 rs [] []) dep v) fun v' => (convEs s (rootsOf s dep 100000 rs [] []) dep (rootsOf s dep 100000 rs [] [])).map (v', ·)
    else none

/-- The value with its entries elsewhere. -/
def sh (b : Nat) : Nat → AV → Option AV
  | 0, _ => none
  | n + 1, v => match v with
    | .sl r v' off len ex => some (.sl (r + b) v' off len ex)
    | .ptr r v' i o => some (.ptr (r + b) v' i o)
    | .map r => some (.map (r + b))
    | .list k rows => (mapR (sh b n) rows).map (.list k)
    | .rp row o => (mapL (sh b n) row).map (.rp · o)
    | .ifc t v => (sh b n v).map (.ifc t)
    | .agg l => (mapL (sh b n) l).map .agg
    | .tup l => (mapL (sh b n) l).map .tup
    | .fn f a c => match f with
      | .yield _ => none
      | _ => opt (mapL (sh b n) a) fun a => (mapL (sh b n) c).map (.fn f a ·)
    | v => some v
def shEs (b : Nat) : List Ent → Option (List Ent)
  | [] => some []
  | e :: r => opt (entV (sh b dep) e) fun e' => (shEs b r).map (e' :: ·)

def impS (b : Nat) (s1 : Store) (v : AV) : List Ent → Option (AV × Store)
  | [] => some (v, s1)
  | e :: es => opt (sh b dep v) fun v => (shEs b (e :: es)).map fun es' => (v, es'.reverse ++ s1)

/-- The caller's store behind a call on values alone. -/
def impR (s : Store) (args : List AV) (r : AV × List Ent) : Option (AV × Store) :=
  impS s.length (if noL dep r.1 && r.2.all (noLE dep) then s else frzL s (args.flatMap (prf s dep))) r.1 r.2
end Go.Am

namespace Go.Am
open Go

theorem mapL_some {f : AV → Option AV} : ∀ {l l' : List AV}, mapL f l = some l' → l'.length = l.length ∧ ∀ i (h : i < l.length) (h' : i < l'.length), f l[i] = some l'[i] := by
  intro l
  induction l with
  | nil => intro l' h; cases h; exact ⟨rfl, fun i h => by simp at h⟩
  | cons v l ih =>
    intro l' h
    simp only [mapL] at h
    obtain ⟨v', hv, h'⟩ := opt_some h
    obtain ⟨r', hr, rfl⟩ := Option.map_eq_some_iff.1 h'
    obtain ⟨h1, h2⟩ := ih hr
    refine ⟨by simp [h1], fun i hi hi' => ?_⟩
    cases i with
    | zero => exact hv
    | succ i => exact h2 i (by simpa using hi) (by simpa using hi')

theorem mapR_some {f : AV → Option AV} : ∀ {l l' : List (List AV)}, mapR f l = some l' → l'.length = l.length ∧ ∀ i (h : i < l.length) (h' : i < l'.length), mapL f l[i] = some l'[i] := by
  intro l
  induction l with
  | nil => intro l' h; cases h; exact ⟨rfl, fun i h => by simp at h⟩
  | cons v l ih =>
    intro l' h
    simp only [mapR] at h
    obtain ⟨v', hv, h'⟩ := opt_some h
    obtain ⟨r', hr, rfl⟩ := Option.map_eq_some_iff.1 h'
    obtain ⟨h1, h2⟩ := ih hr
    refine ⟨by simp [h1], fun i hi hi' => ?_⟩
    cases i with
    | zero => exact hv
    | succ i => exact h2 i (by simpa using hi) (by simpa using hi')

/-- Nothing is known but what nobody writes. -/
def ctx0 (I : Nat → Prop) : Ctx := { n := 0, ver := fun _ => 0, loc := fun _ => none, rl := fun _ => 0, tip := fun _ => 0, ce := fun _ => 0, fz := fun _ => false, imm := I }

section
variable {P : Program} {G : Nat → Option (List AV)} {X Y Z : Ctx} {s : Store} {w : World} {I : Nat → Prop}

/-- A slice whose rows nobody writes. -/
theorem VR.rows {k : SK} {rows : List (List AV)} {b st sz cap : Nat} (hk : k ≠ .nil) (hsz : ∀ row ∈ rows, row.length = sz) (hi : rows ≠ [] → Y.imm b)
    (hc : ∀ i j (h : i < rows.length) (h' : j < rows[i].length), ∃ c, cellAt w b (st + i * sz + j) = some c ∧ VR Y w rows[i][j] c) (hcap : rows.length ≤ cap) (hex : k = .exact → cap = rows.length) :
    VR Y w (.list k rows) (.slice (some ⟨b, st, none⟩) rows.length cap) := by
  refine .list k rows b st sz cap (fun i j => (cellAt w b (st + i * sz + j)).getD Go.undef) hk hsz hi (fun i j hi' hj => ?_) (fun i j hi' hj => ?_) hcap hex
  · obtain ⟨c, h1, _⟩ := hc i j hi' (by rw [hsz _ (List.getElem_mem hi')]; exact hj)
    simp only [h1, Option.getD_some]
  · obtain ⟨c, h1, h2⟩ := hc i j hi' hj
    simp only [h1, Option.getD_some]; exact h2

/-- What is taken to be as it is now. -/
theorem pur_sound (hr : Rel P G X s w) (hX : ∀ b, X.imm b → I b) : ∀ (n : Nat) (v v' : AV) (c : Value), pur s n v = some v' → VR X w v c → (∀ r ∈ prf s n v, r < X.n → ∀ b base, X.loc r = some (b, base) → I b) → VR (ctx0 I) w v' c := by
  intro n
  induction n with
  | zero => intro v v' c h; cases h
  | succ n ih =>
    intro v v' c h hv hI
    have lists : ∀ {l l' : List AV}, mapL (pur s n) l = some l' → (∀ x ∈ l, ∀ r ∈ prf s n x, r < X.n → ∀ b base, X.loc r = some (b, base) → I b) → ∀ i (h : i < l.length) (h' : i < l'.length) (c : Value), VR X w l[i] c → VR (ctx0 I) w l'[i] c := by
      intro l l' hl hp i hi hi' c hvi
      exact ih _ _ c ((mapL_some hl).2 i hi hi') hvi (hp _ (List.getElem_mem hi))
    cases v with
    | any => cases h
    | bool b => cases h; cases hv; exact .bool b
    | int k m => cases h; cases hv; exact .int k m
    | str t => cases h; cases hv; exact .str _
    | nilp => cases h; cases hv; exact .nilp
    | ptr r v i o => cases h
    | nilm => cases h; cases hv; exact .nilm
    | map r => cases h
    | nilf => cases h; cases hv; exact .nilf
    | nili => cases h; cases hv; exact .nili
    | rp row o =>
      simp only [pur] at h
      obtain ⟨row', hrow, rfl⟩ := Option.map_eq_some_iff.1 h
      obtain ⟨hl, _⟩ := mapL_some hrow
      cases hv with
      | rp _ _ b base cs hi hc hvv =>
        refine .rp row' o b base cs (hX b hi) (fun j hj => hc j (by omega)) (fun j hj => ?_)
        exact lists hrow (fun x hx r hr' => hI r (by simp only [prf]; exact List.mem_flatMap.2 ⟨x, hx, hr'⟩)) j (by omega) hj _ (hvv j (by omega))
    | ifc t v =>
      simp only [pur] at h
      obtain ⟨v1, hv1, rfl⟩ := Option.map_eq_some_iff.1 h
      cases hv with
      | ifc _ _ c hc => exact .ifc t v1 c (ih v v1 c hv1 hc (fun r hr' => hI r (by simpa only [prf] using hr')))
    | agg l =>
      simp only [pur] at h
      obtain ⟨l', hl', rfl⟩ := Option.map_eq_some_iff.1 h
      cases hv with
      | agg _ cs hlen hvv =>
        have hl := (mapL_some hl').1
        exact .agg l' cs (by omega) fun i h1 h2 => lists hl' (fun x hx r hr' => hI r (by simp only [prf]; exact List.mem_flatMap.2 ⟨x, hx, hr'⟩)) i (by omega) h1 _ (hvv i (by omega) h2)
    | tup l =>
      simp only [pur] at h
      obtain ⟨l', hl', rfl⟩ := Option.map_eq_some_iff.1 h
      cases hv with
      | tup _ cs hlen hvv =>
        have hl := (mapL_some hl').1
        exact .tup l' cs (by omega) fun i h1 h2 => lists hl' (fun x hx r hr' => hI r (by simp only [prf]; exact List.mem_flatMap.2 ⟨x, hx, hr'⟩)) i (by omega) h1 _ (hvv i (by omega) h2)
    | fn f a b =>
      simp only [pur] at h
      have hpa : ∀ x ∈ a, ∀ r ∈ prf s n x, r < X.n → ∀ b base, X.loc r = some (b, base) → I b := fun x hx r hr' => hI r (by simp only [prf]; exact List.mem_append_left _ (List.mem_flatMap.2 ⟨x, hx, hr'⟩))
      have hpb : ∀ x ∈ b, ∀ r ∈ prf s n x, r < X.n → ∀ b base, X.loc r = some (b, base) → I b := fun x hx r hr' => hI r (by simp only [prf]; exact List.mem_append_right _ (List.mem_flatMap.2 ⟨x, hx, hr'⟩))
      split at h
      · cases h
      · rename_i hny
        obtain ⟨a', ha', h2⟩ := opt_some h
        obtain ⟨b', hb', rfl⟩ := Option.map_eq_some_iff.1 h2
        have hla := (mapL_some ha').1
        have hlb := (mapL_some hb').1
        cases hv with
        | fn _ f' _ _ cf cc hf h1 h2 h3 h4 =>
          refine .fn f f' a' b' cf cc ?_ (by omega) (by omega) (fun i q1 q2 => lists ha' hpa i (by omega) q1 _ (h3 i (by omega) q2)) (fun i q1 q2 => lists hb' hpb i (by omega) q1 _ (h4 i (by omega) q2))
          cases hf with
          | same _ hy => exact .same _ hy
          | yield l _ _ _ => exact absurd rfl (hny l)
    | list k rows =>
      simp only [pur] at h
      obtain ⟨rows', hrows, rfl⟩ := Option.map_eq_some_iff.1 h
      obtain ⟨hlen, hrr⟩ := mapR_some hrows
      cases hv with
      | lnil => simp only [mapR, Option.some.injEq] at hrows; subst hrows; exact .lnil
      | list _ _ b off sz cap cs hk hsz hi hc hvv hcap hex =>
        rw [← hlen]
        have hne : rows' ≠ [] → rows ≠ [] := by
          rintro h1 rfl
          exact h1 (List.length_eq_zero_iff.1 hlen)
        refine VR.rows (sz := sz) hk (fun row hm => ?_) (fun hne' => hX b (hi (hne hne'))) (fun i j hi' hj => ?_) (by omega) (fun he => by rw [hex he]; exact hlen.symm)
        · obtain ⟨i, hi', rfl⟩ := List.mem_iff_getElem.1 hm
          rw [(mapL_some (hrr i (by omega) hi')).1]
          exact hsz _ (List.getElem_mem _)
        · have hrow := hrr i (by omega) hi'
          have hl := (mapL_some hrow).1
          refine ⟨cs i j, hc i j (by omega) (by rw [← hsz _ (List.getElem_mem (show i < rows.length by omega))]; omega), ?_⟩
          refine lists hrow (fun x hx r hr' => hI r ?_) j (by omega) hj _ (hvv i j (by omega) (by omega))
          simp only [prf]
          exact List.mem_flatMap.2 ⟨_, List.getElem_mem (show i < rows.length by omega), List.mem_flatMap.2 ⟨x, hx, hr'⟩⟩
    | sl r v0 off len ex =>
      simp only [pur] at h
      obtain ⟨rows, hro, h'⟩ := opt_some h
      obtain ⟨rows', hrows, rfl⟩ := Option.map_eq_some_iff.1 h'
      obtain ⟨hlen, hrr⟩ := mapR_some hrows
      have hro' := hro
      unfold rowsOf at hro
      simp only at hro
      split at hro
      · rename_i v1 sz rowsA fz hg
        split at hro
        · rename_i hcond
          obtain ⟨rfl, hle⟩ := hcond
          cases hro
          obtain ⟨a1, a2, a3, a4, a5, a6, a7⟩ := hr.ent r _ hg
          cases hv with
          | sl _ _ _ _ _ a cap d1 d2 d3 d4 d5 =>
          obtain ⟨b, base, e1, ⟨a', rfl, e2⟩, e3, e4, e5⟩ := d5 a1.symm
          have hlr : ((rowsA.drop off).take len).length = len := by simp; omega
          have hk : (if ex = true then SK.exact else SK.plain) ≠ .nil := by split <;> simp
          have hrl : rows'.length = len := by omega
          have hsz : ∀ row ∈ rows', row.length = sz := by
            intro row hm
            obtain ⟨i, hi', rfl⟩ := List.mem_iff_getElem.1 hm
            rw [(mapL_some (hrr i (by omega) hi')).1]
            exact (a5 _ (List.mem_of_mem_drop (List.mem_of_mem_take (List.getElem_mem (by omega))))).1
          have hIb : I b := hI r (by simp only [prf]; exact List.mem_cons_self ..) d1 b base e1
          by_cases hl0 : len = 0
          · subst hl0
            have : rows' = [] := List.length_eq_zero_iff.1 hrl
            subst this
            obtain ⟨ab, ao, asp⟩ := a'
            simp only at e2
            subst e2
            exact VR.rows (sz := sz) (b := ab) (st := ao) hk (fun row hm => by cases hm) (fun h => absurd rfl h) (fun i j hi => by simp at hi) (by simp) (fun he => by
              simp only [List.length_nil]
              exact d4 (by cases ex with | true => rfl | false => simp at he))
          · have ha := e3 (by omega)
            rw [ha, ← hrl]
            refine VR.rows (sz := sz) hk hsz (fun _ => hIb) (fun i j hi' hj => ?_) (by omega) (fun he => by
              rw [hrl]; exact d4 (by cases ex with | true => rfl | false => simp at he))
            obtain ⟨cs, T, lo, hi2, c1, c2, c3, c4⟩ := a7 b base e1
            have hrow := hrr i (by omega) hi'
            have hlj := (mapL_some hrow).1
            have hget : ((rowsA.drop off).take len)[i]'(by omega) = rowsA[off + i]'(by omega) := by simp
            obtain ⟨c, f1, f2⟩ := c4 (off + i) j (by omega) (by rw [← hget]; omega)
            refine ⟨c, ?_, ?_⟩
            · rw [cellAt_cells c1, ← f1, a2]; congr 1; rw [Nat.add_mul]; omega
            · refine lists hrow (fun x hx r' hr' => hI r' ?_) j (by omega) hj _ (by simpa [hget] using f2)
              simp only [prf, hro', Option.getD_some]
              exact List.mem_cons_of_mem _ (List.mem_flatMap.2 ⟨_, List.getElem_mem (show i < ((rowsA.drop off).take len).length by omega), List.mem_flatMap.2 ⟨x, hx, hr'⟩⟩)
        · cases hro
      · cases hro

/-- What it looks at is there. -/
theorem prf_ok (hr : Rel P G X s w) : ∀ (n : Nat) (v v' : AV) (c : Value), pur s n v = some v' → VR X w v c → ∀ r ∈ prf s n v, X.loc r ≠ none ∧ ∃ v sz rows fz, s.get r = some (.cells v sz rows fz) := by
  intro n
  induction n with
  | zero => intro v v' c h; cases h
  | succ n ih =>
    intro v v' c h hv r hm
    have lists : ∀ {l l' : List AV}, mapL (pur s n) l = some l' → (∀ i (h : i < l.length), ∃ c, VR X w l[i] c) → r ∈ l.flatMap (prf s n) → X.loc r ≠ none ∧ ∃ v sz rows fz, s.get r = some (.cells v sz rows fz) := by
      intro l l' hl hvv hm
      obtain ⟨x, hx, hm'⟩ := List.mem_flatMap.1 hm
      obtain ⟨i, hi, rfl⟩ := List.mem_iff_getElem.1 hx
      obtain ⟨c, hc⟩ := hvv i hi
      exact ih _ _ c ((mapL_some hl).2 i hi (by rw [(mapL_some hl).1]; exact hi)) hc r hm'
    have lists2 : ∀ {l l' : List (List AV)}, mapR (pur s n) l = some l' → (∀ i (h : i < l.length) j (h' : j < l[i].length), ∃ c, VR X w l[i][j] c) → r ∈ (l.flatMap fun row => row.flatMap (prf s n)) → X.loc r ≠ none ∧ ∃ v sz rows fz, s.get r = some (.cells v sz rows fz) := by
      intro l l' hl hvv hm
      obtain ⟨x, hx, hm'⟩ := List.mem_flatMap.1 hm
      obtain ⟨i, hi, rfl⟩ := List.mem_iff_getElem.1 hx
      exact lists ((mapR_some hl).2 i hi (by rw [(mapR_some hl).1]; exact hi)) (hvv i hi) hm'
    cases v with
    | rp row o =>
      simp only [pur] at h
      obtain ⟨row', hrow, rfl⟩ := Option.map_eq_some_iff.1 h
      cases hv with
      | rp _ _ b base cs hi hc hvv => exact lists hrow (fun i hi => ⟨_, hvv i hi⟩) (by simpa only [prf] using hm)
    | ifc t v =>
      simp only [pur] at h
      obtain ⟨v1, hv1, rfl⟩ := Option.map_eq_some_iff.1 h
      cases hv with
      | ifc _ _ c hc => exact ih v v1 c hv1 hc r (by simpa only [prf] using hm)
    | agg l =>
      simp only [pur] at h
      obtain ⟨l', hl', rfl⟩ := Option.map_eq_some_iff.1 h
      cases hv with
      | agg _ cs hlen hvv => exact lists hl' (fun i hi => ⟨_, hvv i hi (by omega)⟩) (by simpa only [prf] using hm)
    | tup l =>
      simp only [pur] at h
      obtain ⟨l', hl', rfl⟩ := Option.map_eq_some_iff.1 h
      cases hv with
      | tup _ cs hlen hvv => exact lists hl' (fun i hi => ⟨_, hvv i hi (by omega)⟩) (by simpa only [prf] using hm)
    | fn f a b =>
      simp only [pur] at h
      simp only [prf] at hm
      split at h
      · cases h
      · obtain ⟨a', ha', h2⟩ := opt_some h
        obtain ⟨b', hb', rfl⟩ := Option.map_eq_some_iff.1 h2
        cases hv with
        | fn _ f' _ _ cf cc hf h1 h2 h3 h4 =>
          rcases List.mem_append.1 hm with hm | hm
          · exact lists ha' (fun i hi => ⟨_, h3 i hi (by omega)⟩) hm
          · exact lists hb' (fun i hi => ⟨_, h4 i hi (by omega)⟩) hm
    | list k rows =>
      simp only [pur] at h
      obtain ⟨rows', hrows, rfl⟩ := Option.map_eq_some_iff.1 h
      cases hv with
      | lnil => simp [prf] at hm
      | list _ _ b off sz cap cs hk hsz hi hc hvv hcap hex => exact lists2 hrows (fun i hi j hj => ⟨_, hvv i j hi hj⟩) (by simpa only [prf] using hm)
    | sl r0 v0 off len ex =>
      simp only [pur] at h
      obtain ⟨rows, hro, h'⟩ := opt_some h
      obtain ⟨rows', hrows, rfl⟩ := Option.map_eq_some_iff.1 h'
      have hro' := hro
      unfold rowsOf at hro
      simp only at hro
      split at hro
      · rename_i v1 sz rowsA fz hg
        split at hro
        · rename_i hcond
          obtain ⟨rfl, hle⟩ := hcond
          obtain ⟨a, cap, _, hat⟩ := rowsOf_sound hr hro' hv
          cases hro
          obtain ⟨a1, a2, a3, a4, a5, a6, a7⟩ := hr.ent r0 _ hg
          cases hv with
          | sl _ _ _ _ _ a cap d1 d2 d3 d4 d5 =>
          obtain ⟨b, base, e1, _⟩ := d5 a1.symm
          simp only [prf, hro', Option.getD_some] at hm
          rcases List.mem_cons.1 hm with rfl | hm
          · exact ⟨by rw [e1]; simp, _, _, _, _, hg⟩
          · refine lists2 hrows (fun i hi j hj => ?_) hm
            obtain ⟨b', st, sz', _, _, h3⟩ := hat (List.ne_nil_of_length_pos (by omega))
            obtain ⟨c, _, hc⟩ := h3 i j hi hj
            exact ⟨c, hc⟩
        · cases hro
      · cases hro
    | _ => simp [prf] at hm
end
end Go.Am

namespace Go.Am
open Go

/-- Some of the entries, in an order. -/
def ctxK (X : Ctx) (ks : List Nat) : Ctx where
  n := ks.length
  ver i := X.ver (ks.getD i 0)
  loc i := X.loc (ks.getD i 0)
  rl i := X.rl (ks.getD i 0)
  tip i := X.tip (ks.getD i 0)
  ce i := X.ce (ks.getD i 0)
  fz i := X.fz (ks.getD i 0)
  imm := X.imm

theorem ixOf_some : ∀ {ks : List Nat} {r i k : Nat}, ixOf r ks i = some k → i ≤ k ∧ k < i + ks.length ∧ ks.getD (k - i) 0 = r := by
  intro ks
  induction ks with
  | nil => intro r i k h; cases h
  | cons a ks ih =>
    intro r i k h
    simp only [ixOf] at h
    split at h
    · rename_i he; cases h; subst he; exact ⟨Nat.le_refl _, by simp, by simp⟩
    · obtain ⟨h1, h2, h3⟩ := ih h
      refine ⟨by omega, by simp; omega, ?_⟩
      rw [show k - i = (k - (i + 1)) + 1 from by omega]
      simpa using h3

theorem ixOf0 {ks : List Nat} {r k : Nat} (h : ixOf r ks 0 = some k) : k < ks.length ∧ ks.getD k 0 = r := by
  obtain ⟨_, h2, h3⟩ := ixOf_some h
  exact ⟨by omega, by simpa using h3⟩

section
variable {P : Program} {G : Nat → Option (List AV)} {X Y Z : Ctx} {s : Store} {w : World} {I : Nat → Prop}

theorem conv_sound (hr : Rel P G X s w) (ks : List Nat) : ∀ (n : Nat) (v v' : AV) (c : Value), conv s ks n v = some v' → VR X w v c → VR (ctxK X ks) w v' c := by
  intro n
  induction n with
  | zero => intro v v' c h; cases h
  | succ n ih =>
    intro v v' c h hv
    have lists : ∀ {l l' : List AV}, mapL (conv s ks n) l = some l' → ∀ i (h : i < l.length) (h' : i < l'.length) (c : Value), VR X w l[i] c → VR (ctxK X ks) w l'[i] c := by
      intro l l' hl i hi hi' c hvi
      exact ih _ _ c ((mapL_some hl).2 i hi hi') hvi
    cases v with
    | any => cases h; exact .any c
    | bool b => cases h; cases hv; exact .bool b
    | int k m => cases h; cases hv; exact .int k m
    | str t => cases h; cases hv; exact .str _
    | nilp => cases h; cases hv; exact .nilp
    | nilm => cases h; cases hv; exact .nilm
    | nilf => cases h; cases hv; exact .nilf
    | nili => cases h; cases hv; exact .nili
    | ptr r v0 i o =>
      simp only [conv] at h
      split at h
      · rename_i v2 sz rows hg
        split at h
        · rename_i he; subst he
          obtain ⟨k, hk, rfl⟩ := Option.map_eq_some_iff.1 h
          obtain ⟨hk1, hk2⟩ := ixOf0 hk
          cases hv with
          | ptr _ _ _ _ a d1 d2 d3 => exact .ptr k v0 i o a hk1 (by simp only [ctxK, hk2]; exact d2) (by simp only [ctxK, hk2]; exact d3)
        · cases h
      · cases h
    | map r =>
      simp only [conv] at h
      split at h
      · obtain ⟨k, hk, rfl⟩ := Option.map_eq_some_iff.1 h
        obtain ⟨hk1, hk2⟩ := ixOf0 hk
        cases hv with
        | map _ a d1 d2 => exact .map k a hk1 (by simp only [ctxK, hk2]; exact d2)
      · cases h
    | rp row o =>
      simp only [conv] at h
      obtain ⟨row', hrow, rfl⟩ := Option.map_eq_some_iff.1 h
      obtain ⟨hl, _⟩ := mapL_some hrow
      cases hv with
      | rp _ _ b base cs hi hc hvv => exact .rp row' o b base cs hi (fun j hj => hc j (by omega)) (fun j hj => lists hrow j (by omega) hj _ (hvv j (by omega)))
    | ifc t v =>
      simp only [conv] at h
      obtain ⟨v1, hv1, rfl⟩ := Option.map_eq_some_iff.1 h
      cases hv with
      | ifc _ _ c hc => exact .ifc t v1 c (ih v v1 c hv1 hc)
    | agg l =>
      simp only [conv] at h
      obtain ⟨l', hl', rfl⟩ := Option.map_eq_some_iff.1 h
      have hl := (mapL_some hl').1
      cases hv with
      | agg _ cs hlen hvv => exact .agg l' cs (by omega) fun i h1 h2 => lists hl' i (by omega) h1 _ (hvv i (by omega) h2)
    | tup l =>
      simp only [conv] at h
      obtain ⟨l', hl', rfl⟩ := Option.map_eq_some_iff.1 h
      have hl := (mapL_some hl').1
      cases hv with
      | tup _ cs hlen hvv => exact .tup l' cs (by omega) fun i h1 h2 => lists hl' i (by omega) h1 _ (hvv i (by omega) h2)
    | fn f a b =>
      simp only [conv] at h
      split at h
      · cases h
      · rename_i hny
        obtain ⟨a', ha', h2⟩ := opt_some h
        obtain ⟨b', hb', rfl⟩ := Option.map_eq_some_iff.1 h2
        have hla := (mapL_some ha').1
        have hlb := (mapL_some hb').1
        cases hv with
        | fn _ f' _ _ cf cc hf h1 h2 h3 h4 =>
          refine .fn f f' a' b' cf cc ?_ (by omega) (by omega) (fun i q1 q2 => lists ha' i (by omega) q1 _ (h3 i (by omega) q2)) (fun i q1 q2 => lists hb' i (by omega) q1 _ (h4 i (by omega) q2))
          cases hf with
          | same _ hy => exact .same _ hy
          | yield l _ _ _ => exact absurd rfl (hny l)
    | list k rows =>
      simp only [conv] at h
      obtain ⟨rows', hrows, rfl⟩ := Option.map_eq_some_iff.1 h
      obtain ⟨hlen, hrr⟩ := mapR_some hrows
      cases hv with
      | lnil => simp only [mapR, Option.some.injEq] at hrows; subst hrows; exact .lnil
      | list _ _ b off sz cap cs hk hsz hi hc hvv hcap hex =>
        rw [← hlen]
        have hne : rows' ≠ [] → rows ≠ [] := by
          rintro h1 rfl
          exact h1 (List.length_eq_zero_iff.1 hlen)
        refine VR.rows (sz := sz) hk (fun row hm => ?_) (fun hne' => hi (hne hne')) (fun i j hi' hj => ?_) (by omega) (fun he => by rw [hex he]; exact hlen.symm)
        · obtain ⟨i, hi', rfl⟩ := List.mem_iff_getElem.1 hm
          rw [(mapL_some (hrr i (by omega) hi')).1]
          exact hsz _ (List.getElem_mem _)
        · have hrow := hrr i (by omega) hi'
          have hl := (mapL_some hrow).1
          exact ⟨cs i j, hc i j (by omega) (by rw [← hsz _ (List.getElem_mem (show i < rows.length by omega))]; omega), lists hrow j (by omega) hj _ (hvv i j (by omega) (by omega))⟩
    | sl r v0 off len ex =>
      simp only [conv] at h
      split at h
      · rename_i v2 sz rowsA fz hg
        split at h
        · rename_i he; subst he
          split at h
          · rename_i hfz
            subst hfz
            obtain ⟨rows, hro, h'⟩ := opt_some h
            obtain ⟨rows', hrows, rfl⟩ := Option.map_eq_some_iff.1 h'
            obtain ⟨hlen, hrr⟩ := mapR_some hrows
            unfold rowsOf at hro
            simp only [hg, true_and] at hro
            split at hro
            · rename_i hle
              cases hro
              obtain ⟨a1, a2, a3, a4, a5, a6, a7⟩ := hr.ent r _ hg
              cases hv with
              | sl _ _ _ _ _ a cap d1 d2 d3 d4 d5 =>
              obtain ⟨b, base, e1, ⟨a', rfl, e2⟩, e3, e4, e5⟩ := d5 a1.symm
              have hlr : ((rowsA.drop off).take len).length = len := by simp; omega
              have hk : (if ex = true then SK.exact else SK.plain) ≠ .nil := by split <;> simp
              have hrl : rows'.length = len := by omega
              have hsz : ∀ row ∈ rows', row.length = sz := by
                intro row hm
                obtain ⟨i, hi', rfl⟩ := List.mem_iff_getElem.1 hm
                rw [(mapL_some (hrr i (by omega) hi')).1]
                exact (a5 _ (List.mem_of_mem_drop (List.mem_of_mem_take (List.getElem_mem (by omega))))).1
              have hIb : X.imm b := (hr.fzimm r b base d1 e1).1 a4
              by_cases hl0 : len = 0
              · subst hl0
                have : rows' = [] := List.length_eq_zero_iff.1 hrl
                subst this
                obtain ⟨ab, ao, asp⟩ := a'
                simp only at e2
                subst e2
                exact VR.rows (sz := sz) (b := ab) (st := ao) hk (fun row hm => by cases hm) (fun h => absurd rfl h) (fun i j hi => by simp at hi) (by simp) (fun he => by
                  simp only [List.length_nil]
                  exact d4 (by cases ex with | true => rfl | false => simp at he))
              · have ha := e3 (by omega)
                rw [ha, ← hrl]
                refine VR.rows (sz := sz) hk hsz (fun _ => hIb) (fun i j hi' hj => ?_) (by omega) (fun he => by
                  rw [hrl]; exact d4 (by cases ex with | true => rfl | false => simp at he))
                obtain ⟨cs, T, lo, hi2, c1, c2, c3, c4⟩ := a7 b base e1
                have hrow := hrr i (by omega) hi'
                have hlj := (mapL_some hrow).1
                have hget : ((rowsA.drop off).take len)[i]'(by omega) = rowsA[off + i]'(by omega) := by simp
                obtain ⟨c, f1, f2⟩ := c4 (off + i) j (by omega) (by rw [← hget]; omega)
                refine ⟨c, ?_, lists hrow j (by omega) hj _ (by simpa [hget] using f2)⟩
                rw [cellAt_cells c1, ← f1, a2]; congr 1; rw [Nat.add_mul]; omega
            · cases hro
          · obtain ⟨k, hk, rfl⟩ := Option.map_eq_some_iff.1 h
            obtain ⟨hk1, hk2⟩ := ixOf0 hk
            cases hv with
            | sl _ _ _ _ _ a cap d1 d2 d3 d4 d5 => exact .sl k v0 off len ex a cap hk1 (by simp only [ctxK, hk2]; exact d2) d3 d4 (by simp only [ctxK, hk2]; exact d5)
        · cases h
      · cases h

theorem mapM'_some {f : AV × AV × Nat → Option (AV × AV × Nat)} : ∀ {l l' : List (AV × AV × Nat)}, mapM' f l = some l' → l'.length = l.length ∧ ∀ i (h : i < l.length) (h' : i < l'.length), f l[i] = some l'[i] := by
  intro l
  induction l with
  | nil => intro l' h; cases h; exact ⟨rfl, fun i h => by simp at h⟩
  | cons v l ih =>
    intro l' h
    simp only [mapM'] at h
    obtain ⟨v', hv, h'⟩ := opt_some h
    obtain ⟨r', hr, rfl⟩ := Option.map_eq_some_iff.1 h'
    obtain ⟨h1, h2⟩ := ih hr
    refine ⟨by simp [h1], fun i hi hi' => ?_⟩
    cases i with
    | zero => exact hv
    | succ i => exact h2 i (by simpa using hi) (by simpa using hi')

/-- An entry with its values elsewhere. -/
theorem entV_sound {f : AV → Option AV} {e e' : Ent} {r i : Nat} (h : entV f e = some e') (hf : ∀ v v' c, f v = some v' → VR X w v c → VR Y w v' c) (hone : ∀ v v', f v = some v' → v.one = true → v'.one = true) (he : EntR P G X w r e)
    (k1 : Y.ver i = X.ver r) (k2 : Y.loc i = X.loc r) (k3 : Y.rl i = X.rl r) (k4 : Y.tip i = X.tip r) (k5 : Y.ce i = X.ce r) (k6 : Y.fz i = X.fz r) : EntR P G Y w i e' ∧ X.fz r = false := by
  cases e with
  | cells v sz rows fz =>
    cases fz with
    | true => cases h
    | false =>
      simp only [entV] at h
      obtain ⟨rows', hrows, rfl⟩ := Option.map_eq_some_iff.1 h
      obtain ⟨hlen, hrr⟩ := mapR_some hrows
      obtain ⟨a1, a2, a3, a4, a5, a6, a7⟩ := he
      refine ⟨⟨by rw [k1, a1], by rw [k3, a2], by rw [k4, a3, hlen], by rw [k6, a4], fun row hm => ?_, by rw [k5, hlen]; exact a6, fun b base hl => ?_⟩, a4⟩
      · obtain ⟨j, hj, rfl⟩ := List.mem_iff_getElem.1 hm
        obtain ⟨q1, q2⟩ := mapL_some (hrr j (by omega) hj)
        obtain ⟨p1, p2⟩ := a5 _ (List.getElem_mem (show j < rows.length by omega))
        refine ⟨by omega, List.all_eq_true.2 fun x hx => ?_⟩
        obtain ⟨m, hm', rfl⟩ := List.mem_iff_getElem.1 hx
        exact hone _ _ (q2 m (by omega) hm') (List.all_eq_true.1 p2 _ (List.getElem_mem _))
      · obtain ⟨cs, T, lo, hi, c1, c2, c3, c4⟩ := a7 b base (by rw [← k2]; exact hl)
        refine ⟨cs, T, lo, hi, c1, by rw [k5]; exact c2, c3, fun p q h1 h2 => ?_⟩
        obtain ⟨q1, q2⟩ := mapL_some (hrr p (by omega) h1)
        obtain ⟨c, d1, d2⟩ := c4 p q (by omega) (by omega)
        exact ⟨c, d1, hf _ _ c (q2 q (by omega) h2) d2⟩
  | map es clock =>
    simp only [entV] at h
    obtain ⟨es', hes, rfl⟩ := Option.map_eq_some_iff.1 h
    obtain ⟨hlen, hee⟩ := mapM'_some hes
    obtain ⟨a1, a2, a3⟩ := he
    refine ⟨⟨by rw [k1, a1], by rw [k6, a2], fun b base hl => ?_⟩, a2⟩
    obtain ⟨b0, ces, c1, c2, c3⟩ := a3 b base (by rw [← k2]; exact hl)
    refine ⟨b0, ces, c1, by omega, fun j h1 h2 => ?_⟩
    have hj := hee j (by omega) h1
    obtain ⟨k', hk', h3⟩ := opt_some hj
    obtain ⟨v', hv', h4⟩ := Option.map_eq_some_iff.1 h3
    obtain ⟨d1, d2, d3⟩ := c3 j (by omega) h2
    rw [← h4]
    exact ⟨hf _ _ _ hk' d1, hf _ _ _ hv' d2, d3⟩
  | siter s pos => cases h
  | loop _ _ _ _ _ _ => cases h
  | dfr _ => cases h

theorem conv_one {ks : List Nat} : ∀ {n : Nat} {v v' : AV}, conv s ks n v = some v' → v.one = true → v'.one = true := by
  intro n v v' h ho
  cases n with
  | zero => cases h
  | succ n =>
    cases v with
    | agg l => cases ho
    | tup l => cases ho
    | any => cases ho
    | sl r v0 off len ex =>
      simp only [conv] at h
      split at h
      · split at h
        · split at h
          · obtain ⟨_, _, h'⟩ := opt_some h
            obtain ⟨_, _, rfl⟩ := Option.map_eq_some_iff.1 h'; rfl
          · obtain ⟨_, _, rfl⟩ := Option.map_eq_some_iff.1 h; rfl
        · cases h
      · cases h
    | ptr r v0 i o =>
      simp only [conv] at h
      split at h
      · split at h
        · obtain ⟨_, _, rfl⟩ := Option.map_eq_some_iff.1 h; rfl
        · cases h
      · cases h
    | map r =>
      simp only [conv] at h
      split at h
      · obtain ⟨_, _, rfl⟩ := Option.map_eq_some_iff.1 h; rfl
      · cases h
    | fn f a b =>
      simp only [conv] at h
      split at h
      · cases h
      · obtain ⟨_, _, h'⟩ := opt_some h
        obtain ⟨_, _, rfl⟩ := Option.map_eq_some_iff.1 h'; rfl
    | list k rows => simp only [conv] at h; obtain ⟨_, _, rfl⟩ := Option.map_eq_some_iff.1 h; rfl
    | rp row o => simp only [conv] at h; obtain ⟨_, _, rfl⟩ := Option.map_eq_some_iff.1 h; rfl
    | ifc t v => simp only [conv] at h; obtain ⟨_, _, rfl⟩ := Option.map_eq_some_iff.1 h; rfl
    | _ => cases h; exact ho

theorem convEs_some {ks : List Nat} {n : Nat} : ∀ {rs : List Nat} {es : List Ent}, convEs s ks n rs = some es → es.length = rs.length ∧ ∀ i (h : i < es.length), ∃ e, s.get (rs.getD i 0) = some e ∧ entV (conv s ks n) e = some es[i] := by
  intro rs
  induction rs with
  | nil => intro es h; cases h; exact ⟨rfl, fun i h => by simp at h⟩
  | cons r rs ih =>
    intro es h
    simp only [convEs] at h
    obtain ⟨e, he, h'⟩ := opt_some h
    obtain ⟨e', he', h2⟩ := opt_some h'
    obtain ⟨es', hes', rfl⟩ := Option.map_eq_some_iff.1 h2
    obtain ⟨h3, h4⟩ := ih hes'
    refine ⟨by simp [h3], fun i hi => ?_⟩
    cases i with
    | zero => exact ⟨e, by simpa using he, he'⟩
    | succ i => simpa using h4 i (by simpa using hi)

theorem nodupB_nodup : ∀ {l : List Nat}, nodupB l = true → l.Nodup := by
  intro l
  induction l with
  | nil => intro _; exact List.nodup_nil
  | cons r l ih =>
    intro h
    simp only [nodupB, Bool.and_eq_true, Bool.not_eq_true', List.contains_eq_mem, decide_eq_false_iff_not] at h
    exact List.nodup_cons.2 ⟨h.1, ih h.2⟩

theorem get_reverse (es : List Ent) (r : Nat) : Store.get es.reverse r = es[r]? := by simp [Store.get]

/-- The store of nothing but what the result needs. -/
theorem gc_core {w0 : World} (h0 : Rel P G (ctx0 I) [] w0) (hx : Ext (ctx0 I) [] w0 X s w) (hr : Rel P G X s w) {v v' : AV} {es : List Ent} {c : Value} (hv : VR X w v c) (h : gcR s v = some (v', es)) :
    ∃ Y, Ext (ctx0 I) [] w0 Y es.reverse w ∧ Rel P G Y es.reverse w ∧ VR Y w v' c := by
  have main : ∀ ks : List Nat, ks.Nodup → conv s ks dep v = some v' → convEs s ks dep ks = some es → ∃ Y, Ext (ctx0 I) [] w0 Y es.reverse w ∧ Rel P G Y es.reverse w ∧ VR Y w v' c := by
    intro ks hnd hc hes
    obtain ⟨hlen, hee⟩ := convEs_some hes
    have hlt : ∀ i, i < ks.length → ks.getD i 0 < X.n := by
      intro i hi
      obtain ⟨e, he, _⟩ := hee i (by omega)
      rw [← hr.len]; exact Store.lt_of_get he
    have hent : ∀ i (hi : i < es.length), EntR P G (ctxK X ks) w i es[i] ∧ X.fz (ks.getD i 0) = false := by
      intro i hi
      obtain ⟨e, he, hce⟩ := hee i hi
      exact entV_sound hce (fun v v' c h1 h2 => conv_sound hr ks dep v v' c h1 h2) (fun v v' h1 h2 => conv_one h1 h2) (hr.ent _ e he) rfl rfl rfl rfl rfl rfl
    have hxe : Ext (ctx0 I) [] w0 (ctxK X ks) es.reverse w := {
      n := Nat.zero_le _
      keep := fun r hr => absurd hr (Nat.not_lt_zero r)
      imm := hx.imm
      size := hx.size
      frame := hx.frame
      live := fun b hb => by
        obtain ⟨i, base, h1, h2, h3⟩ := hb
        exact hx.live b ⟨ks.getD i 0, base, hlt i h1, h2, h3⟩
      imm' := hx.imm'
      late := fun r hr => absurd hr (Nat.not_lt_zero r)
      os := hx.os }
    refine ⟨ctxK X ks, hxe, ?_, conv_sound hr ks dep v v' c hc hv⟩
    refine ⟨by simp [ctxK, hlen], fun i e he => ?_, fun i b base h1 h2 => hr.locb _ b base (hlt i h1) h2, fun i j b base base' h1 h2 h3 h4 => ?_, fun i b base h1 h2 => hr.fzimm _ b base (hlt i h1) h2, hr.immb, fun g row hg => (h0.glob g row hg).mono h0 hxe⟩
    · rw [get_reverse] at he
      obtain ⟨hi, rfl⟩ := List.getElem?_eq_some_iff.1 he
      exact (hent i hi).1
    · have h5 := hr.inj _ _ b base base' (hlt i h1) (hlt j h2) h3 h4
      simp only [ctxK] at h1 h2
      rw [List.getD_eq_getElem?_getD, List.getD_eq_getElem?_getD, List.getElem?_eq_getElem h1, List.getElem?_eq_getElem h2] at h5
      exact (List.getElem_inj hnd).1 h5
  unfold gcR at h
  split at h
  · obtain ⟨v1, hv1, h2⟩ := Option.map_eq_some_iff.1 h
    cases h2
    exact main [] List.nodup_nil hv1 rfl
  · rename_i rs _
    split at h
    · rename_i hn
      obtain ⟨v1, hv1, h2⟩ := opt_some h
      obtain ⟨es1, hes1, h3⟩ := Option.map_eq_some_iff.1 h2
      cases h3
      exact main _ (nodupB_nodup hn) hv1 hes1
    · cases h
end
end Go.Am

namespace Go.Am
open Go

section
variable {P : Program} {G : Nat → Option (List AV)} {X Y Z : Ctx} {s : Store} {w : World} {I : Nat → Prop}

/-- Where no entry is known, a value is what it is by what nobody writes. -/
theorem VR.imm0 (h0 : Y.n = 0) (hi : ∀ b, Y.imm b → Z.imm b) {v : AV} {c : Value} (h : VR Y w v c) : VR Z w v c := by
  induction h with
  | any c => exact .any c
  | bool b => exact .bool b
  | int k n => exact .int k n
  | str s => exact .str s
  | nilp => exact .nilp
  | ptr r v i o a h hv ha => omega
  | rp row o b base cs hi' hc hv ih => exact .rp row o b base cs (hi b hi') hc ih
  | lnil => exact .lnil
  | list k rows b off sz cap cs hk hsz hi' hc hv hcap hex ih => exact .list k rows b off sz cap cs hk hsz (fun h => hi b (hi' h)) hc ih hcap hex
  | sl r v off len ex a cap h hv hlen hex ha => omega
  | nilm => exact .nilm
  | map r a h ha => omega
  | fn f f' first cap cf cc hf h1 h2 _ _ ih1 ih2 =>
    refine .fn f f' first cap cf cc ?_ h1 h2 ih1 ih2
    cases hf with
    | same _ h => exact .same _ h
    | yield l b h ha => omega
  | nilf => exact .nilf
  | ifc t v c _ ih => exact .ifc t v c ih
  | nili => exact .nili
  | agg l cs hl _ ih => exact .agg l cs hl ih
  | tup l cs hl _ ih => exact .tup l cs hl ih

theorem VR.noL0 (h0 : Y.n = 0) : ∀ (n : Nat) (v : AV) (c : Value), noL n v = true → VR Y w v c → VR Z w v c := by
  intro n
  induction n with
  | zero => intro v c h; cases h
  | succ n ih =>
    intro v c h hv
    cases hv with
    | any c => exact .any c
    | bool b => exact .bool b
    | int k n => exact .int k n
    | str s => exact .str s
    | nilp => exact .nilp
    | ptr r v i o a h hv ha => omega
    | rp row o b base cs hi' hc hv => cases h
    | lnil => exact .lnil
    | list k rows b off sz cap cs hk hsz hi' hc hv hcap hex =>
      simp only [noL, List.isEmpty_iff] at h
      subst h
      exact .list k [] b off sz cap cs hk hsz (fun h => absurd rfl h) hc (fun i j h => by simp at h) hcap hex
    | sl r v off len ex a cap h hv hlen hex ha => omega
    | nilm => exact .nilm
    | map r a h ha => omega
    | fn f f' first cap cf cc hf h1 h2 h3 h4 =>
      simp only [noL, Bool.and_eq_true] at h
      refine .fn f f' first cap cf cc ?_ h1 h2 (fun i p q => ih _ _ (List.all_eq_true.1 h.1 _ (List.getElem_mem p)) (h3 i p q)) (fun i p q => ih _ _ (List.all_eq_true.1 h.2 _ (List.getElem_mem p)) (h4 i p q))
      cases hf with
      | same _ h => exact .same _ h
      | yield l b h ha => omega
    | nilf => exact .nilf
    | ifc t v c hc => exact .ifc t v c (ih v c (by simpa only [noL] using h) hc)
    | nili => exact .nili
    | agg l cs hl hc => exact .agg l cs hl fun i p q => ih _ _ (List.all_eq_true.1 (by simpa only [noL] using h) _ (List.getElem_mem p)) (hc i p q)
    | tup l cs hl hc => exact .tup l cs hl fun i p q => ih _ _ (List.all_eq_true.1 (by simpa only [noL] using h) _ (List.getElem_mem p)) (hc i p q)

/-- The entries of a call behind the caller's. -/
def ctxP (X Y : Ctx) (W : Nat) : Ctx where
  n := X.n + Y.n
  ver r := if r < X.n then X.ver r else Y.ver (r - X.n)
  loc r := if r < X.n then X.loc r else Y.loc (r - X.n)
  rl r := if r < X.n then X.rl r else Y.rl (r - X.n)
  tip r := if r < X.n then X.tip r else Y.tip (r - X.n)
  ce r := if r < X.n then X.ce r else Y.ce (r - X.n)
  fz r := if r < X.n then X.fz r else Y.fz (r - X.n)
  imm b := X.imm b ∨ (W ≤ b ∧ Y.imm b)

theorem sh_sound {W : Nat} : ∀ (n : Nat) (v v' : AV) (c : Value), sh X.n n v = some v' → VR Y w v c → (noL n v = true ∨ ∀ b, Y.imm b → (ctxP X Y W).imm b) → VR (ctxP X Y W) w v' c := by
  have hge : ∀ r, ¬ (r + X.n < X.n) := fun r => by omega
  have hsub : ∀ r, r + X.n - X.n = r := fun r => by omega
  intro n
  induction n with
  | zero => intro v v' c h; cases h
  | succ n ih =>
    intro v v' c h hv hno
    have lists : ∀ {l l' : List AV}, mapL (sh X.n n) l = some l' → (l.all (noL n) = true ∨ ∀ b, Y.imm b → (ctxP X Y W).imm b) → ∀ i (h : i < l.length) (h' : i < l'.length) (c : Value), VR Y w l[i] c → VR (ctxP X Y W) w l'[i] c := by
      intro l l' hl hno i hi hi' c hvi
      exact ih _ _ c ((mapL_some hl).2 i hi hi') hvi (hno.imp (fun h => List.all_eq_true.1 h _ (List.getElem_mem hi)) id)
    cases v with
    | any => cases h; exact .any c
    | bool b => cases h; cases hv; exact .bool b
    | int k m => cases h; cases hv; exact .int k m
    | str t => cases h; cases hv; exact .str _
    | nilp => cases h; cases hv; exact .nilp
    | nilm => cases h; cases hv; exact .nilm
    | nilf => cases h; cases hv; exact .nilf
    | nili => cases h; cases hv; exact .nili
    | ptr r v0 i o =>
      cases h
      cases hv with
      | ptr _ _ _ _ a d1 d2 d3 => exact .ptr _ v0 i o a (by simp only [ctxP]; omega) (by simp only [ctxP, if_neg (hge r), hsub]; exact d2) (by simp only [ctxP, if_neg (hge r), hsub]; exact d3)
    | map r =>
      cases h
      cases hv with
      | map _ a d1 d2 => exact .map _ a (by simp only [ctxP]; omega) (by simp only [ctxP, if_neg (hge r), hsub]; exact d2)
    | sl r v0 off len ex =>
      cases h
      cases hv with
      | sl _ _ _ _ _ a cap d1 d2 d3 d4 d5 => exact .sl _ v0 off len ex a cap (by simp only [ctxP]; omega) (by simp only [ctxP, if_neg (hge r), hsub]; exact d2) d3 d4 (by simp only [ctxP, if_neg (hge r), hsub]; exact d5)
    | rp row o =>
      simp only [sh] at h
      obtain ⟨row', hrow, rfl⟩ := Option.map_eq_some_iff.1 h
      obtain ⟨hl, _⟩ := mapL_some hrow
      cases hv with
      | rp _ _ b base cs hi hc hvv =>
        have hI : ∀ b, Y.imm b → (ctxP X Y W).imm b := hno.resolve_left (fun h => by cases h)
        exact .rp row' o b base cs (hI b hi) (fun j hj => hc j (by omega)) (fun j hj => lists hrow (.inr hI) j (by omega) hj _ (hvv j (by omega)))
    | ifc t v =>
      simp only [sh] at h
      obtain ⟨v1, hv1, rfl⟩ := Option.map_eq_some_iff.1 h
      cases hv with
      | ifc _ _ c hc => exact .ifc t v1 c (ih v v1 c hv1 hc (by simpa only [noL] using hno))
    | agg l =>
      simp only [sh] at h
      obtain ⟨l', hl', rfl⟩ := Option.map_eq_some_iff.1 h
      have hl := (mapL_some hl').1
      cases hv with
      | agg _ cs hlen hvv => exact .agg l' cs (by omega) fun i h1 h2 => lists hl' (by simpa only [noL] using hno) i (by omega) h1 _ (hvv i (by omega) h2)
    | tup l =>
      simp only [sh] at h
      obtain ⟨l', hl', rfl⟩ := Option.map_eq_some_iff.1 h
      have hl := (mapL_some hl').1
      cases hv with
      | tup _ cs hlen hvv => exact .tup l' cs (by omega) fun i h1 h2 => lists hl' (by simpa only [noL] using hno) i (by omega) h1 _ (hvv i (by omega) h2)
    | fn f a b =>
      simp only [sh] at h
      have hna : a.all (noL n) = true ∨ ∀ b, Y.imm b → (ctxP X Y W).imm b := hno.imp (fun h => by simp only [noL, Bool.and_eq_true] at h; exact h.1) id
      have hnb : b.all (noL n) = true ∨ ∀ b, Y.imm b → (ctxP X Y W).imm b := hno.imp (fun h => by simp only [noL, Bool.and_eq_true] at h; exact h.2) id
      split at h
      · cases h
      · rename_i hny
        obtain ⟨a', ha', h2⟩ := opt_some h
        obtain ⟨b', hb', rfl⟩ := Option.map_eq_some_iff.1 h2
        have hla := (mapL_some ha').1
        have hlb := (mapL_some hb').1
        cases hv with
        | fn _ f' _ _ cf cc hf h1 h2 h3 h4 =>
          refine .fn f f' a' b' cf cc ?_ (by omega) (by omega) (fun i q1 q2 => lists ha' hna i (by omega) q1 _ (h3 i (by omega) q2)) (fun i q1 q2 => lists hb' hnb i (by omega) q1 _ (h4 i (by omega) q2))
          cases hf with
          | same _ hy => exact .same _ hy
          | yield l _ _ _ => exact absurd rfl (hny l)
    | list k rows =>
      simp only [sh] at h
      obtain ⟨rows', hrows, rfl⟩ := Option.map_eq_some_iff.1 h
      obtain ⟨hlen, hrr⟩ := mapR_some hrows
      cases hv with
      | lnil => simp only [mapR, Option.some.injEq] at hrows; subst hrows; exact .lnil
      | list _ _ b off sz cap cs hk hsz hi hc hvv hcap hex =>
        rw [← hlen]
        have hne : rows' ≠ [] → rows ≠ [] := by
          rintro h1 rfl
          exact h1 (List.length_eq_zero_iff.1 hlen)
        have hI : rows ≠ [] → ∀ b, Y.imm b → (ctxP X Y W).imm b := fun hr => hno.resolve_left (fun h => by
          simp only [noL, List.isEmpty_iff] at h; exact hr h)
        refine VR.rows (sz := sz) hk (fun row hm => ?_) (fun hne' => hI (hne hne') b (hi (hne hne'))) (fun i j hi' hj => ?_) (by omega) (fun he => by rw [hex he]; exact hlen.symm)
        · obtain ⟨i, hi', rfl⟩ := List.mem_iff_getElem.1 hm
          rw [(mapL_some (hrr i (by omega) hi')).1]
          exact hsz _ (List.getElem_mem _)
        · have hrow := hrr i (by omega) hi'
          have hl := (mapL_some hrow).1
          have hne1 : rows ≠ [] := List.ne_nil_of_length_pos (by omega)
          exact ⟨cs i j, hc i j (by omega) (by rw [← hsz _ (List.getElem_mem (show i < rows.length by omega))]; omega), lists hrow (.inr (hI hne1)) j (by omega) hj _ (hvv i j (by omega) (by omega))⟩

theorem sh_one {b : Nat} : ∀ {n : Nat} {v v' : AV}, sh b n v = some v' → v.one = true → v'.one = true := by
  intro n v v' h ho
  cases n with
  | zero => cases h
  | succ n =>
    cases v with
    | agg l => cases ho
    | tup l => cases ho
    | any => cases ho
    | fn f a b =>
      simp only [sh] at h
      split at h
      · cases h
      · obtain ⟨_, _, h'⟩ := opt_some h
        obtain ⟨_, _, rfl⟩ := Option.map_eq_some_iff.1 h'; rfl
    | list k rows => simp only [sh] at h; obtain ⟨_, _, rfl⟩ := Option.map_eq_some_iff.1 h; rfl
    | rp row o => simp only [sh] at h; obtain ⟨_, _, rfl⟩ := Option.map_eq_some_iff.1 h; rfl
    | ifc t v => simp only [sh] at h; obtain ⟨_, _, rfl⟩ := Option.map_eq_some_iff.1 h; rfl
    | _ => cases h; exact ho

def Ent.allV (N : AV → Prop) : Ent → Prop
  | .cells _ _ rows _ => ∀ row ∈ rows, ∀ v ∈ row, N v
  | .map es _ => ∀ p ∈ es, N p.1 ∧ N p.2.1
  | _ => True

/-- As 'entV_sound', where what is known depends on the value. -/
theorem entV_sound' {f : AV → Option AV} {N : AV → Prop} {e e' : Ent} {r i : Nat} (h : entV f e = some e') (hN : e.allV N)
    (hf : ∀ v v' c, N v → f v = some v' → VR X w v c → VR Y w v' c) (hone : ∀ v v', f v = some v' → v.one = true → v'.one = true) (he : EntR P G X w r e)
    (k1 : Y.ver i = X.ver r) (k2 : Y.loc i = X.loc r) (k3 : Y.rl i = X.rl r) (k4 : Y.tip i = X.tip r) (k5 : Y.ce i = X.ce r) (k6 : Y.fz i = X.fz r) : EntR P G Y w i e' ∧ X.fz r = false := by
  cases e with
  | cells v sz rows fz =>
    cases fz with
    | true => cases h
    | false =>
      simp only [entV] at h
      obtain ⟨rows', hrows, rfl⟩ := Option.map_eq_some_iff.1 h
      obtain ⟨hlen, hrr⟩ := mapR_some hrows
      obtain ⟨a1, a2, a3, a4, a5, a6, a7⟩ := he
      refine ⟨⟨by rw [k1, a1], by rw [k3, a2], by rw [k4, a3, hlen], by rw [k6, a4], fun row hm => ?_, by rw [k5, hlen]; exact a6, fun b base hl => ?_⟩, a4⟩
      · obtain ⟨j, hj, rfl⟩ := List.mem_iff_getElem.1 hm
        obtain ⟨q1, q2⟩ := mapL_some (hrr j (by omega) hj)
        obtain ⟨p1, p2⟩ := a5 _ (List.getElem_mem (show j < rows.length by omega))
        refine ⟨by omega, List.all_eq_true.2 fun x hx => ?_⟩
        obtain ⟨m, hm', rfl⟩ := List.mem_iff_getElem.1 hx
        exact hone _ _ (q2 m (by omega) hm') (List.all_eq_true.1 p2 _ (List.getElem_mem _))
      · obtain ⟨cs, T, lo, hi, c1, c2, c3, c4⟩ := a7 b base (by rw [← k2]; exact hl)
        refine ⟨cs, T, lo, hi, c1, by rw [k5]; exact c2, c3, fun p q h1 h2 => ?_⟩
        obtain ⟨q1, q2⟩ := mapL_some (hrr p (by omega) h1)
        obtain ⟨c, d1, d2⟩ := c4 p q (by omega) (by omega)
        exact ⟨c, d1, hf _ _ c (hN _ (List.getElem_mem (show p < rows.length by omega)) _ (List.getElem_mem (by omega))) (q2 q (by omega) h2) d2⟩
  | map es clock =>
    simp only [entV] at h
    obtain ⟨es', hes, rfl⟩ := Option.map_eq_some_iff.1 h
    obtain ⟨hlen, hee⟩ := mapM'_some hes
    obtain ⟨a1, a2, a3⟩ := he
    refine ⟨⟨by rw [k1, a1], by rw [k6, a2], fun b base hl => ?_⟩, a2⟩
    obtain ⟨b0, ces, c1, c2, c3⟩ := a3 b base (by rw [← k2]; exact hl)
    refine ⟨b0, ces, c1, by omega, fun j h1 h2 => ?_⟩
    have hj := hee j (by omega) h1
    obtain ⟨k', hk', h3⟩ := opt_some hj
    obtain ⟨v', hv', h4⟩ := Option.map_eq_some_iff.1 h3
    obtain ⟨d1, d2, d3⟩ := c3 j (by omega) h2
    have hn := hN _ (List.getElem_mem (show j < es.length by omega))
    rw [← h4]
    exact ⟨hf _ _ _ hn.1 hk' d1, hf _ _ _ hn.2 hv' d2, d3⟩
  | siter s pos => cases h
  | loop _ _ _ _ _ _ => cases h
  | dfr _ => cases h

theorem shEs_some {b : Nat} : ∀ {es es' : List Ent}, shEs b es = some es' → es'.length = es.length ∧ ∀ i (h : i < es.length) (h' : i < es'.length), entV (sh b dep) es[i] = some es'[i] := by
  intro es
  induction es with
  | nil => intro es' h; cases h; exact ⟨rfl, fun i h => by simp at h⟩
  | cons e es ih =>
    intro es' h
    simp only [shEs] at h
    obtain ⟨e', he, h'⟩ := opt_some h
    obtain ⟨r', hr, rfl⟩ := Option.map_eq_some_iff.1 h'
    obtain ⟨h1, h2⟩ := ih hr
    refine ⟨by simp [h1], fun i hi hi' => ?_⟩
    cases i with
    | zero => exact he
    | succ i => exact h2 i (by simpa using hi) (by simpa using hi')

theorem frzL_rel : ∀ (F : List Nat) (X : Ctx) (s : Store), Rel P G X s w → (∀ r ∈ F, r < X.n → X.loc r ≠ none ∨ ∀ v sz rows fz, s.get r ≠ some (.cells v sz rows fz)) →
    ∃ X1, Rel P G X1 (frzL s F) w ∧ Ext X s w X1 (frzL s F) w ∧ X1.n = X.n ∧ (frzL s F).length = s.length ∧ X1.loc = X.loc ∧ (∀ b, X1.imm b → X.imm b ∨ ∃ r base, r < X.n ∧ X.loc r = some (b, base)) ∧
      ∀ r ∈ F, (∃ v sz rows fz, s.get r = some (.cells v sz rows fz)) → ∀ b base, X.loc r = some (b, base) → X1.imm b := by
  intro F
  induction F with
  | nil => intro X s hr _; exact ⟨X, hr, Ext.refl, rfl, rfl, rfl, fun b h => .inl h, fun r hr => by cases hr⟩
  | cons r0 F ih =>
    intro X s hr hF
    cases hg : s.get r0 with
    | none =>
      obtain ⟨X1, h1, h2, h3, h4, h5, h6, h7⟩ := ih X s hr (fun r hr => hF r (List.mem_cons_of_mem _ hr))
      simp only [frzL, hg]
      refine ⟨X1, h1, h2, h3, h4, h5, h6, fun r hm he => ?_⟩
      rcases List.mem_cons.1 hm with rfl | hm
      · obtain ⟨_, _, _, _, he⟩ := he; rw [hg] at he; cases he
      · exact h7 r hm he
    | some e =>
      have skip : frzL s (r0 :: F) = frzL s F → (∀ v sz rows fz, e ≠ .cells v sz rows fz) → ∃ X1, Rel P G X1 (frzL s (r0 :: F)) w ∧ Ext X s w X1 (frzL s (r0 :: F)) w ∧ X1.n = X.n ∧ (frzL s (r0 :: F)).length = s.length ∧ X1.loc = X.loc ∧ (∀ b, X1.imm b → X.imm b ∨ ∃ r base, r < X.n ∧ X.loc r = some (b, base)) ∧
          ∀ r ∈ r0 :: F, (∃ v sz rows fz, s.get r = some (.cells v sz rows fz)) → ∀ b base, X.loc r = some (b, base) → X1.imm b := by
        intro heq hne
        rw [heq]
        obtain ⟨X1, h1, h2, h3, h4, h5, h6, h7⟩ := ih X s hr (fun r hr => hF r (List.mem_cons_of_mem _ hr))
        refine ⟨X1, h1, h2, h3, h4, h5, h6, fun r hm he => ?_⟩
        rcases List.mem_cons.1 hm with rfl | hm
        · obtain ⟨v, sz, rows, fz, he⟩ := he; rw [hg] at he; cases he; exact absurd rfl (hne v sz rows fz)
        · exact h7 r hm he
      cases e with
      | cells v sz rows fz =>
        have hlt : r0 < X.n := hr.len ▸ Store.lt_of_get hg
        have hloc : X.loc r0 ≠ none := by
          rcases hF r0 (List.mem_cons_self ..) hlt with h | h
          · exact h
          · exact absurd hg (h v sz rows fz)
        have hr1 := Rel.freeze hr hg hloc
        have hx1 := Ext.freeze hr hg hloc
        have hput : ∀ q, (∃ v sz rows fz, s.get q = some (.cells v sz rows fz)) ↔ ∃ v' sz' rows' fz', (s.put r0 (.cells v sz rows true)).get q = some (.cells v' sz' rows' fz') := by
          intro q
          by_cases hq : q = r0
          · subst hq
            rw [Store.get_put_same _ _ _ (Store.lt_of_get hg), hg]
            exact ⟨fun _ => ⟨v, sz, rows, true, rfl⟩, fun _ => ⟨v, sz, rows, fz, rfl⟩⟩
          · rw [Store.get_put_other _ _ _ _ (Store.lt_of_get hg) hq]
        obtain ⟨X1, h1, h2, h3, h4, h5, h6, h7⟩ := ih (X.freeze r0) _ hr1 (fun r hm hlt' => by
          rcases hF r (List.mem_cons_of_mem _ hm) hlt' with h | h
          · exact .inl h
          · refine .inr fun v' sz' rows' fz' he => ?_
            obtain ⟨a1, a2, a3, a4, ha⟩ := (hput r).2 ⟨v', sz', rows', fz', he⟩
            exact h _ _ _ _ ha)
        simp only [frzL, hg]
        refine ⟨X1, h1, hx1.trans h2, h3, by rw [h4, Store.length_put], h5, fun b hb => ?_, fun r hm he b base hl => ?_⟩
        · rcases h6 b hb with (h | ⟨base, h⟩) | h
          · exact .inl h
          · exact .inr ⟨r0, base, hlt, h⟩
          · exact .inr h
        · rcases List.mem_cons.1 hm with rfl | hm
          · exact h2.imm b (.inr ⟨base, hl⟩)
          · exact h7 r hm ((hput r).1 he) b base hl
      | map _ _ => exact skip (by simp only [frzL, hg]) (by simp)
      | siter _ _ => exact skip (by simp only [frzL, hg]) (by simp)
      | loop _ _ _ _ _ _ => exact skip (by simp only [frzL, hg]) (by simp)
      | dfr _ => exact skip (by simp only [frzL, hg]) (by simp)

/-- Behind the call: the caller's entries, and those of the result. -/
theorem imp_core {w0 : World} {X1 : Ctx} {s1 : Store} (hr : Rel P G X s w0) (hr1 : Rel P G X1 s1 w0) (hx1 : Ext X s w0 X1 s1 w0) (hn1 : X1.n = X.n) {es : List Ent} (hxY : Ext (ctx0 I) [] w0 Y es.reverse w) (hrY : Rel P G Y es.reverse w)
    {v : AV} {c : Value} (hv : VR Y w v c) (him : (noL dep v = true ∧ es.all (noLE dep) = true) ∨ ∀ b, I b → X1.imm b) {v' : AV} {s' : Store}
    (h : impS s.length s1 v es = some (v', s')) :
    ∃ X5, Ext X s w0 X5 s' w ∧ Rel P G X5 s' w ∧ VR X5 w v' c := by
  have hYn : Y.n = es.length := by rw [← hrY.len]; simp
  have hnl : X1.n = s.length := by rw [hn1]; exact hr.len.symm
  have himm : (noL dep v = true ∧ es.all (noLE dep) = true) ∨ ∀ b, Y.imm b → (ctxP X1 Y w0.heap.size).imm b := by
    refine him.imp id fun hI b hb => ?_
    rcases hxY.imm' b hb with h1 | h1 | h1
    · exact .inl (hI b h1)
    · obtain ⟨r, _, h2, _⟩ := h1; exact absurd h2 (Nat.not_lt_zero r)
    · exact .inr ⟨h1, hb⟩
  have hframe : ∀ b, b < w0.heap.size → w.heap[b]? = w0.heap[b]? := fun b hb => hxY.frame b hb fun ⟨r, _, h2, _⟩ => Nat.not_lt_zero r h2
  -- the shifted entries
  obtain ⟨es', he1, he2, rfl, hv'⟩ : ∃ es' : List Ent, es'.length = es.length ∧ (∀ i (h : i < es.length) (h' : i < es'.length), entV (sh s.length dep) es[i] = some es'[i]) ∧ s' = es'.reverse ++ s1 ∧ VR (ctxP X1 Y w0.heap.size) w v' c := by
    cases es with
    | nil =>
      cases h
      refine ⟨[], rfl, fun i h => by simp at h, rfl, ?_⟩
      rcases himm with h1 | h1
      · exact VR.noL0 hYn dep v c h1.1 hv
      · exact VR.imm0 hYn h1 hv
    | cons e es =>
      obtain ⟨v1, hv1, h2⟩ := opt_some h
      obtain ⟨es', hes', h3⟩ := Option.map_eq_some_iff.1 h2
      cases h3
      obtain ⟨h4, h5⟩ := shEs_some hes'
      refine ⟨es', h4, h5, rfl, ?_⟩
      rw [← hnl] at hv1
      exact sh_sound dep v _ c hv1 hv (himm.imp (·.1) id)
  have hlen : s1.length = X1.n := hr1.len
  have hgetO : ∀ r, r < X1.n → Store.get (es'.reverse ++ s1) r = s1.get r := by
    intro r hlt
    simp only [Store.get, List.reverse_append, List.reverse_reverse]
    rw [List.getElem?_append_left (by simp; omega)]
  have hgetN : ∀ r, X1.n ≤ r → Store.get (es'.reverse ++ s1) r = es'[r - X1.n]? := by
    intro r hge
    simp only [Store.get, List.reverse_append, List.reverse_reverse]
    rw [List.getElem?_append_right (by simp; omega)]
    simp [hlen]
  have hent : ∀ i (hi : i < es'.length), EntR P G (ctxP X1 Y w0.heap.size) w (X1.n + i) es'[i] ∧ Y.fz i = false := by
    intro i hi
    have hi2 : i < es.length := by omega
    have heY : EntR P G Y w i es[i] := hrY.ent i _ (by rw [get_reverse]; exact List.getElem?_eq_getElem hi2)
    have hge : ¬ (X1.n + i < X1.n) := by omega
    have hsub : X1.n + i - X1.n = i := by omega
    have hsh := he2 i hi2 hi
    rw [← hnl] at hsh
    refine entV_sound' (N := fun v => noL dep v = true ∨ ∀ b, Y.imm b → (ctxP X1 Y w0.heap.size).imm b) hsh ?_ (fun v v' c hN h1 h2 => sh_sound dep v v' c h1 h2 hN) (fun v v' h1 h2 => sh_one h1 h2) heY (by simp only [ctxP, if_neg hge, hsub]) (by simp only [ctxP, if_neg hge, hsub]) (by simp only [ctxP, if_neg hge, hsub]) (by simp only [ctxP, if_neg hge, hsub]) (by simp only [ctxP, if_neg hge, hsub]) (by simp only [ctxP, if_neg hge, hsub])
    rcases himm with h1 | h1
    · have h2 := List.all_eq_true.1 h1.2 _ (List.getElem_mem hi2)
      cases hes : es[i] with
      | cells _ _ rows _ =>
        rw [hes] at h2
        simp only [noLE, List.all_eq_true] at h2
        exact fun row hrow v hv => .inl (h2 row hrow v hv)
      | map ms _ =>
        rw [hes] at h2
        simp only [noLE, List.all_eq_true, Bool.and_eq_true] at h2
        exact fun p hp => ⟨.inl (h2 p hp).1, .inl (h2 p hp).2⟩
      | _ => trivial
    · cases es[i] with
      | cells _ _ rows _ => exact fun row hrow v hv => .inr h1
      | map ms _ => exact fun p hp => ⟨.inr h1, .inr h1⟩
      | _ => trivial
  have hnew : ∀ i b base, i < Y.n → Y.loc i = some (b, base) → w0.heap.size ≤ b := by
    intro i b base hi hl
    have hf := (hent i (by omega)).2
    rcases hxY.live b ⟨i, base, hi, hf, hl⟩ with ⟨r, _, h2, _⟩ | h
    · exact absurd h2 (Nat.not_lt_zero r)
    · exact h
  have hx5 : Ext X1 s1 w0 (ctxP X1 Y w0.heap.size) (es'.reverse ++ s1) w := {
    n := Nat.le_add_right _ _
    keep := fun r hlt => .inl ⟨by simp only [ctxP, if_pos hlt], by simp only [ctxP, if_pos hlt], by simp only [ctxP, if_pos hlt], by simp only [ctxP, if_pos hlt], by simp only [ctxP, if_pos hlt]⟩
    imm := fun b hb => .inl hb
    size := hxY.size
    frame := fun b hb _ => hframe b hb
    live := fun b hb => by
      obtain ⟨r, base, h1, h2, h3⟩ := hb
      by_cases hlt : r < X1.n
      · simp only [ctxP, if_pos hlt] at h2 h3
        exact .inl ⟨r, base, hlt, h2, h3⟩
      · simp only [ctxP, if_neg hlt] at h1 h2 h3
        exact .inr (hnew _ b base (by omega) h3)
    imm' := fun b hb => by
      rcases hb with h | h
      · exact .inl h
      · exact .inr (.inr h.1)
    late := fun r hlt hn => ⟨by simp only [ctxP, if_pos hlt]; exact hn, hgetO r hlt, by simp only [ctxP, if_pos hlt], by simp only [ctxP, if_pos hlt], by simp only [ctxP, if_pos hlt], by simp only [ctxP, if_pos hlt], by simp only [ctxP, if_pos hlt]⟩
    os := hxY.os }
  refine ⟨ctxP X1 Y w0.heap.size, hx1.trans hx5, ?_, hv'⟩
  refine ⟨by simp only [List.length_append, List.length_reverse, ctxP]; omega, fun r e he => ?_, fun r b base h1 h2 => ?_, fun r r' b base base' h1 h2 h3 h4 => ?_, fun r b base h1 h2 => ?_, fun b hb => ?_, fun g row hg => (hr1.glob g row hg).mono hr1 hx5⟩
  · by_cases hlt : r < X1.n
    · rw [hgetO r hlt] at he
      refine (hr1.ent r e he).mono hr1 hx5 (by simp only [ctxP, if_pos hlt]) (by simp only [ctxP, if_pos hlt]) (by simp only [ctxP, if_pos hlt]) (by simp only [ctxP, if_pos hlt]) (by simp only [ctxP, if_pos hlt]) fun b base hl => ?_
      simp only [ctxP, if_pos hlt] at hl
      exact ⟨hl, hframe b (hr1.locb r b base hlt hl)⟩
    · rw [hgetN r (by omega)] at he
      obtain ⟨hi, rfl⟩ := List.getElem?_eq_some_iff.1 he
      have := (hent (r - X1.n) hi).1
      rwa [show X1.n + (r - X1.n) = r from by omega] at this
  · by_cases hlt : r < X1.n
    · simp only [ctxP, if_pos hlt] at h2
      exact Nat.lt_of_lt_of_le (hr1.locb r b base hlt h2) hxY.size
    · simp only [ctxP, if_neg hlt] at h1 h2
      exact hrY.locb _ b base (by omega) h2
  · by_cases hlt : r < X1.n <;> by_cases hlt' : r' < X1.n
    · simp only [ctxP, if_pos hlt, if_pos hlt'] at h3 h4
      exact hr1.inj r r' b base base' hlt hlt' h3 h4
    · simp only [ctxP, if_pos hlt, if_neg hlt'] at h2 h3 h4
      have := hr1.locb r b base hlt h3
      have := hnew _ b base' (by omega) h4
      omega
    · simp only [ctxP, if_neg hlt, if_pos hlt'] at h1 h3 h4
      have := hr1.locb r' b base' hlt' h4
      have := hnew _ b base (by omega) h3
      omega
    · simp only [ctxP, if_neg hlt, if_neg hlt'] at h1 h2 h3 h4
      have := hrY.inj _ _ b base base' (by omega) (by omega) h3 h4
      omega
  · by_cases hlt : r < X1.n
    · simp only [ctxP, if_pos hlt] at h2 ⊢
      have hb := hr1.locb r b base hlt h2
      refine ⟨fun hf => .inl ((hr1.fzimm r b base hlt h2).1 hf), fun hf hi => ?_⟩
      rcases hi with hi | hi
      · exact (hr1.fzimm r b base hlt h2).2 hf hi
      · omega
    · simp only [ctxP, if_neg hlt] at h1 h2 ⊢
      have hb := hnew _ b base (by omega) h2
      have hf := (hent (r - X1.n) (by omega)).2
      refine ⟨(fun hf' => by rw [hf] at hf'; cases hf'), fun _ hi => ?_⟩
      rcases hi with hi | hi
      · have := hr1.immb b hi; omega
      · exact (hrY.fzimm _ b base (by omega) h2).2 hf hi.2
  · rcases hb with hb | hb
    · exact Nat.lt_of_lt_of_le (hr1.immb b hb) hxY.size
    · exact hrY.immb b hb.2
end
end Go.Am

namespace Go.Am
open Go

section
variable {P : Program} {G : Nat → Option (List AV)}

/-- A call of a function of the program that returns. -/
def CallAt (P : Program) (G : Nat → Option (List AV)) (X : Ctx) (s : Store) (w : World) (f : Nat) (cargs : Array Value) (v : AV) (s' : Store) : Prop :=
  ∃ nx w1, (callFunc f cargs).run P w = .ok nx w1 ∧
    ((∃ c X', nx = .value c ∧ Ext X s w X' s' w1 ∧ Rel P G X' s' w1 ∧ VR X' w1 v c) ∨
     (w1 = w ∧ ∀ m, ∃ f0, Starts P .normal nx f0 ∧ ∀ caller cs, CallOut P G X s w (.ret v) .run s' .normal m f0 caller cs))

theorem CallAt.step {X X0 : Ctx} {s s' s0 : Store} {w : World} {f : Nat} {cargs : Array Value} {v v0 : AV} {s0' : Store} (h : CallAt P G X0 s0 w f cargs v0 s0')
    (step : ∀ X' w' c, Ext X0 s0 w X' s0' w' → Rel P G X' s0' w' → VR X' w' v0 c → ∃ X5, Ext X s w X5 s' w' ∧ Rel P G X5 s' w' ∧ VR X5 w' v c) : CallAt P G X s w f cargs v s' := by
  obtain ⟨nx, w1, h1, h2⟩ := h
  refine ⟨nx, w1, h1, ?_⟩
  rcases h2 with ⟨c, X', rfl, e1, e2, e3⟩ | ⟨rfl, h2⟩
  · obtain ⟨X5, g1, g2, g3⟩ := step X' w1 c e1 e2 e3
    exact .inl ⟨c, X5, rfl, g1, g2, g3⟩
  · refine .inr ⟨rfl, fun m => ?_⟩
    obtain ⟨f0, k1, k2⟩ := h2 m
    refine ⟨f0, k1, fun caller cs => ?_⟩
    obtain ⟨X', w', m', e1, e2, e3, c, e4, e5⟩ := k2 caller cs
    obtain ⟨X5, g1, g2, g3⟩ := step X' w' c e1 e2 e4
    exact ⟨X5, w', m', g1, g2, e3, c, g3, e5⟩

/-- What a function makes of values. -/
def PureFact (P : Program) (G : Nat → Option (List AV)) (f : Nat) (args : List AV) (r : AV × List Ent) : Prop :=
  ∀ I w cargs, Rel P G (ctx0 I) [] w → VRs (ctx0 I) w args cargs.toList → CallAt P G (ctx0 I) [] w f cargs r.1 r.2.reverse

theorem fact_of_run {call : CallF} (hc : CallOk P G call) {f : Nat} (hf : f < yieldBase) {args : List AV} {v : AV} {md : AMode} {s : Store} (h : call f args .run [] = some (.ret v, md, s)) {r : AV × List Ent} (hg : gcR s v = some r) : PureFact P G f args r := by
  intro I w cargs hr ha
  obtain ⟨nx, w1, h1, h2⟩ := hc f args .run [] (.ret v) md s h (ctx0 I) w cargs _ hr ha (.func hf)
  have key : CallAt P G (ctx0 I) [] w f cargs v s := by
    refine ⟨nx, w1, h1, ?_⟩
    rcases h2 with ⟨c, v', X', rfl, _, _, hv, e1, e2, e3⟩ | ⟨rfl, h2⟩
    · cases hv; exact .inl ⟨c, X', rfl, e1, e2, e3⟩
    · refine .inr ⟨rfl, fun m => ?_⟩
      obtain ⟨f0, k1, k2⟩ := h2 .normal m rfl (fun _ => rfl)
      refine ⟨f0, k1, fun caller cs => ?_⟩
      obtain ⟨X', w', m', e1, e2, e3, e4⟩ := k2 caller cs
      cases md with
      | run => exact ⟨X', w', m', e1, e2, e3, e4⟩
      | ret => exact absurd e3.1 (by simp)
      | pan ch => exact absurd e3.1 (by simp)
      | round => exact absurd e3 id
  exact key.step fun X' w' c e1 e2 e3 => gc_core hr e1 e2 e3 (v' := r.1) (es := r.2) (by rw [hg])

/-- The rows of the variables lead nowhere. -/
def GlobOk (G : Nat → Option (List AV)) : Prop := ∀ g row, G g = some row → ∀ s, pur s dep (.rp row 0) = some (.rp row 0) ∧ prf s dep (.rp row 0) = []

theorem pure_call (hG : GlobOk G) {f : Nat} {a : List AV} {r : AV × List Ent} (hf : PureFact P G f a r) {X : Ctx} {s : Store} {w : World} (hr : Rel P G X s w) {args : List AV} {cargs : Array Value} (ha : VRs X w args cargs.toList)
    (hp : mapL (pur s dep) args = some a) {v : AV} {s' : Store} (hi : impR s args r = some (v, s')) : CallAt P G X s w f cargs v s' := by
  obtain ⟨hl, hpp⟩ := mapL_some hp
  have args_ok : ∀ I : Nat → Prop, (∀ b, X.imm b → I b) → (∀ x ∈ args, ∀ r ∈ prf s dep x, r < X.n → ∀ b base, X.loc r = some (b, base) → I b) → VRs (ctx0 I) w a cargs.toList := by
    intro I h1 h2
    refine ⟨by rw [hl]; exact ha.1, fun i p q => ?_⟩
    exact pur_sound hr h1 dep _ _ _ (hpp i (by omega) p) (ha.2 i (by omega) q) (h2 _ (List.getElem_mem (by omega)))
  have rel0 : ∀ I : Nat → Prop, (∀ b, X.imm b → I b) → (∀ b, I b → b < w.heap.size) → Rel P G (ctx0 I) [] w := by
    intro I h1 h2
    refine ⟨rfl, fun r e h => by simp [Store.get] at h, fun r b base h => absurd h (Nat.not_lt_zero r), fun r r' b base base' h => absurd h (Nat.not_lt_zero r), fun r b base h => absurd h (Nat.not_lt_zero r), h2, fun g row hg => ?_⟩
    obtain ⟨p1, p2⟩ := hG g row hg s
    exact pur_sound hr h1 dep _ _ _ p1 (hr.glob g row hg) (fun r hm => by rw [p2] at hm; cases hm)
  obtain ⟨v0, es⟩ := r
  simp only [impR] at hi
  by_cases hno : (noL dep v0 && es.all (noLE dep)) = true
  · rw [if_pos hno] at hi
    have hI1 : ∀ b, (X.imm b ∨ ∃ r base, r < X.n ∧ X.loc r = some (b, base)) → b < w.heap.size := by
      rintro b (h | ⟨r, base, h1, h2⟩)
      · exact hr.immb b h
      · exact hr.locb r b base h1 h2
    have h0 := rel0 (fun b => X.imm b ∨ ∃ r base, r < X.n ∧ X.loc r = some (b, base)) (fun b h => .inl h) hI1
    refine (hf _ w cargs h0 (args_ok _ (fun b h => .inl h) fun x hx r hm hlt b base hl => .inr ⟨r, base, hlt, hl⟩)).step fun X' w' c e1 e2 e3 => ?_
    exact imp_core hr hr Ext.refl rfl e1 e2 e3 (.inl (by simpa using hno)) hi
  · rw [if_neg hno] at hi
    have hF : ∀ r ∈ args.flatMap (prf s dep), X.loc r ≠ none ∧ ∃ v sz rows fz, s.get r = some (.cells v sz rows fz) := by
      intro r hm
      obtain ⟨x, hx, hm'⟩ := List.mem_flatMap.1 hm
      obtain ⟨i, hi', rfl⟩ := List.mem_iff_getElem.1 hx
      exact prf_ok hr dep _ _ _ (hpp i hi' (by omega)) (ha.2 i hi' (by have := ha.1; omega)) r hm'
    obtain ⟨X1, h1, h2, h3, h4, h5, h6, h7⟩ := frzL_rel (args.flatMap (prf s dep)) X s hr (fun r hm _ => .inl (hF r hm).1)
    have h0 := rel0 X1.imm (fun b h => h2.imm b h) h1.immb
    refine (hf _ w cargs h0 (args_ok _ (fun b h => h2.imm b h) fun x hx r hm hlt b base hl => h7 r (List.mem_flatMap.2 ⟨x, hx, hm⟩) (hF r (List.mem_flatMap.2 ⟨x, hx, hm⟩)).2 b base hl)).step fun X' w' c e1 e2 e3 => ?_
    exact imp_core hr h1 h2 h3 e1 e2 e3 (.inr fun b h => h) hi

/-- Equality as it is. -/
noncomputable def Env.cl (E : Env) : Env := { E with eqv := fun a b => @decide (a = b) (Classical.propDecidable _) }

theorem target_cl (E : Env) : E.cl.prog = E.prog := rfl

theorem den_cl {E : Env} (heq : ∀ a b, E.eqv a b = true → a = b) {call : CallF} {k : Nat} : ∀ (lc : LC) (st : St) (r : LX × St), den E call k lc st = some r → den E.cl call k lc st = some r := by
  have hl : ∀ g o st, lop E.cl call g o st = lop E call g o st := fun g o st => rfl
  intro lc
  induction lc with
  | fin x vs => intro st r h; exact h
  | op g o k ih =>
    intro st r h
    simp only [den, hl] at h ⊢
    obtain ⟨v, hv, h'⟩ := opt_some h
    rw [hv]
    simp only [opt]
    cases v with
    | val v st' => exact ih _ r h'
    | leave ch st' => exact h'
  | chk g o x k ih =>
    intro st r h
    simp only [den] at h ⊢
    obtain ⟨v, hv, h'⟩ := opt_some h
    rw [hv]
    simp only [opt]
    split at h'
    · rename_i he
      rw [if_pos (by simp only [Env.cl]; exact @decide_eq_true _ (Classical.propDecidable _) (heq _ _ he))]
      exact ih _ r h'
    · cases h'
  | cond c a b iha ihb =>
    intro st r h
    simp only [den] at h ⊢
    split at h
    · exact iha _ r h
    · exact ihb _ r h
    · cases h
  | blk id s a k iha ihk =>
    intro st r h
    simp only [den] at h ⊢
    obtain ⟨⟨x, st'⟩, hv, h'⟩ := opt_some h
    rw [iha _ _ hv]
    simp only [opt]
    cases x with
    | done f =>
      cases f with
      | normal => exact ihk _ r h'
      | exit i =>
        simp only at h' ⊢
        split at h'
        · rename_i hi; rw [if_pos hi]; exact ihk _ r h'
        · rename_i hi; rw [if_neg hi]; exact h'
      | ret => exact h'
    | panic ch => exact h'
  | loop s vs a ih =>
    intro st r h
    simp only [den] at h ⊢
    have : ∀ (n : Nat) (vals : List AV) (st' : St) (r : LX × St), iterL (fun vals st' => den E call k a { st' with tm := vals ++ st.tm }) n vals st' = some r → iterL (fun vals st' => den E.cl call k a { st' with tm := vals ++ st.tm }) n vals st' = some r := by
      intro n
      induction n with
      | zero => intro vals st' r h; cases h
      | succ n ihn =>
        intro vals st' r h
        simp only [iterL] at h ⊢
        obtain ⟨⟨x, st2⟩, hv, h'⟩ := opt_some h
        rw [ih _ _ hv]
        simp only [opt]
        cases x with
        | done f =>
          cases f with
          | normal => exact ihn _ _ r h'
          | _ => exact h'
        | panic ch => exact h'
    exact this k _ st r h
  | tryp vs a ih =>
    intro st r h
    simp only [den] at h ⊢
    obtain ⟨⟨x, st'⟩, hv, h'⟩ := opt_some h
    rw [ih _ _ hv]
    exact h'
  | bad => intro st r h; cases h

theorem leaveL_cl (E : Env) (call : CallF) (fn : Func) (vals : List AV) : ∀ (ds : List ADef) (u : AMode) (s : Store), leaveL E.cl call fn vals ds u s = leaveL E call fn vals ds u s := by
  intro ds
  induction ds with
  | nil => intro u s; cases u <;> rfl
  | cons d ds ih =>
    intro u s
    cases d with
    | mark r => simp only [leaveL, ih]
    | fn f cap args => simp only [leaveL, ih, target_cl]

theorem enterL_cl {E : Env} (heq : ∀ a b, E.eqv a b = true → a = b) {call : CallF} {k : Nat} {fn : Func} {lf : LF} {args : List AV} {md : AMode} {s : Store} {r : ARes × AMode × Store} (h : enterL E call k fn lf args md s = some r) : enterL E.cl call k fn lf args md s = some r := by
  unfold enterL at h ⊢
  split at h
  · rename_i hl
    rw [if_pos hl]
    obtain ⟨⟨x, st⟩, hd, h'⟩ := opt_some h
    rw [den_cl heq _ _ _ hd]
    simp only [opt, leaveL_cl]
    exact h'
  · cases h

/-- The evaluator: compiled functions 'T', functions on values alone 'fl', and what is known of them. -/
def callP (E : Env) (T : Nat → Option LF) (fl : Nat → Bool) (M : Nat → List AV → Option (AV × List Ent)) : Nat → CallF
  | 0, _, _, _, _ => none
  | n + 1, f, args, md, s =>
    if yieldBase ≤ f then round E (callP E T fl M n) n (f - yieldBase) args s else
    opt E.prog.funcs[f]? fun fn => opt fn.body fun c =>
    match md, (if fl f then mapL (pur s dep) args else none) with
    | .run, some a =>
      match M f a with
      | some r => (impR s args r).map fun p => (.ret p.1, .run, p.2)
      | none => opt (match T f with | some lf => enterL E (callP E T fl M n) n fn lf a .run [] | none => enter E (callP E T fl M n) n fn c a .run []) fun
        | (.ret v, _, s2) => opt (gcR s2 v) fun r => (impR s args r).map fun p => (.ret p.1, .run, p.2)
        | _ => none
    | md, _ => match T f with | some lf => enterL E (callP E T fl M n) n fn lf args md s | none => enter E (callP E T fl M n) n fn c args md s

/-- What is asked of the tables. -/
structure TabOk (P : Program) (G : Nat → Option (List AV)) (T : Nat → Option LF) (M : Nat → List AV → Option (AV × List Ent)) : Prop where
  lf : ∀ f lf fn c, T f = some lf → P.funcs[f]? = some fn → fn.body = some c → lf.okIn P G fn c
  fact : ∀ f a r, M f a = some r → PureFact P G f a r

theorem callP_sound {E : Env} (hE : EnvOk P G E) (hG : GlobOk G) {T : Nat → Option LF} {fl : Nat → Bool} {M : Nat → List AV → Option (AV × List Ent)} (hT : TabOk P G T M) : ∀ n, CallOk P G (callP E T fl M n) := by
  intro n
  induction n with
  | zero => intro f args md s res md' s' h; cases h
  | succ n ih =>
    have hdreg : DregOk P G E (callP E T fl M n) := dreg_ok hE.prog hE.eqv hE.mix ih
    have hclE : E.cl.prog = P := hE.prog
    have hdregC : DregOk P G E.cl (callP E T fl M n) := dreg_ok hclE (fun a b h => by simpa [Env.cl] using h) hE.mix ih
    have hrefl : ∀ v, E.cl.eqv v v = true := fun v => by simp [Env.cl]
    -- the body
    have body : ∀ f fn c args md s res md' s', P.funcs[f]? = some fn → fn.body = some c →
        (match T f with | some lf => enterL E (callP E T fl M n) n fn lf args md s | none => enter E (callP E T fl M n) n fn c args md s) = some (res, md', s') → ∀ X w cargs, Rel P G X s w → VRs X w args cargs.toList →
          ∃ nx w1, (callFunc f cargs).run P w = .ok nx w1 ∧ (w1 = w ∧ ∀ kind m, MdC X w md kind m → ∃ f0, Starts P kind nx f0 ∧ ∀ caller cs, CallOut P G X s w res md' s' kind m f0 caller cs) := by
      intro f fn c args md s res md' s' hfn hc h X w cargs hr ha
      refine ⟨.enter f cargs, w, run_callFunc (hE.name f fn hfn (by rw [hc]; rfl)) hfn hc cargs w, rfl, fun kind m hm => ⟨_, rfl, fun caller cs => ?_⟩⟩
      split at h
      · rename_i lf hlf
        have h2 := enterL_cl hE.eqv h
        have h3 := enterL_sound (E := E.cl) hrefl (by rw [hclE, show E.cl.glob = G from hE.glob]; exact hT.lf f lf fn c hlf hfn hc) h2
        exact enter_sound hclE hE.glob ih hdregC n hfn hc h3 hr ha hm caller cs
      · exact enter_sound hE.prog hE.glob ih hdreg n hfn hc h hr ha hm caller cs
    intro f args md s res md' s' h X w cargs st hr ha hst
    unfold callP at h
    cases hst with
    | yield l b hf hl hloc =>
      subst hf
      rw [if_pos (Nat.le_add_right _ _), Nat.add_sub_cancel_left] at h
      obtain ⟨nx, h1, h2⟩ := round_sound hE.prog ih hdreg n h hr ha hloc
      refine ⟨nx, w, h1, .inr ⟨rfl, fun kind m hm hk => ?_⟩⟩
      have := hk (Nat.le_add_right _ _)
      subst this
      exact h2 m
    | func hlt =>
      rw [if_neg (by omega)] at h
      obtain ⟨fn, hfn, h'⟩ := opt_some h
      obtain ⟨c, hc, h''⟩ := opt_some h'
      rw [hE.prog] at hfn
      have direct : (match T f with | some lf => enterL E (callP E T fl M n) n fn lf args md s | none => enter E (callP E T fl M n) n fn c args md s) = some (res, md', s') →
          ∃ nx w1, (callFunc f cargs).run P w = .ok nx w1 ∧
            ((∃ c v X', nx = .value c ∧ md = .run ∧ md' = .run ∧ res = .ret v ∧ Ext X s w X' s' w1 ∧ Rel P G X' s' w1 ∧ VR X' w1 v c) ∨
             (w1 = w ∧ ∀ kind m, MdC X w md kind m → (yieldBase ≤ f → kind = .normal) → ∃ f0, Starts P kind nx f0 ∧ ∀ caller cs, CallOut P G X s w res md' s' kind m f0 caller cs)) := by
        intro hb
        obtain ⟨nx, w1, h1, h2, h3⟩ := body f fn c args md s res md' s' hfn hc hb X w cargs hr ha
        exact ⟨nx, w1, h1, .inr ⟨h2, fun kind m hm _ => h3 kind m hm⟩⟩
      have pure : ∀ a r p, mapL (pur s dep) args = some a → PureFact P G f a r → impR s args r = some p → md = .run → some (ARes.ret p.1, AMode.run, p.2) = some (res, md', s') →
          ∃ nx w1, (callFunc f cargs).run P w = .ok nx w1 ∧
            ((∃ c v X', nx = .value c ∧ md = .run ∧ md' = .run ∧ res = .ret v ∧ Ext X s w X' s' w1 ∧ Rel P G X' s' w1 ∧ VR X' w1 v c) ∨
             (w1 = w ∧ ∀ kind m, MdC X w md kind m → (yieldBase ≤ f → kind = .normal) → ∃ f0, Starts P kind nx f0 ∧ ∀ caller cs, CallOut P G X s w res md' s' kind m f0 caller cs)) := by
        rintro a r ⟨v, s1⟩ hp hf hi rfl heq
        cases heq
        obtain ⟨nx, w1, h1, h2⟩ := pure_call hG hf hr ha hp hi
        refine ⟨nx, w1, h1, ?_⟩
        rcases h2 with ⟨c, X', rfl, e1, e2, e3⟩ | ⟨rfl, h2⟩
        · exact .inl ⟨c, v, X', rfl, rfl, rfl, rfl, e1, e2, e3⟩
        · refine .inr ⟨rfl, fun kind m hm _ => ?_⟩
          have : kind = .normal := hm
          subst this
          exact h2 m
      split at h''
      · rename_i a ha'
        have ha2 : mapL (pur s dep) args = some a := by
          split at ha'
          · exact ha'
          · cases ha'
        split at h''
        · rename_i r hM
          obtain ⟨p, hp, hpe⟩ := Option.map_eq_some_iff.1 h''
          exact pure a r p ha2 (hT.fact f a r hM) hp rfl (by rw [hpe])
        · obtain ⟨⟨res2, md2, s2⟩, hrun, h3⟩ := opt_some h''
          cases res2 with
          | panic ch => cases h3
          | ret v2 =>
            simp only at h3
            obtain ⟨r, hr2, h4⟩ := opt_some h3
            obtain ⟨p, hp, hpe⟩ := Option.map_eq_some_iff.1 h4
            refine pure a r p ha2 ?_ hp rfl (by rw [hpe])
            intro I w2 cargs2 hrel hvr
            obtain ⟨nx, w1, q1, q2, q3⟩ := body f fn c a .run [] _ _ _ hfn hc hrun (ctx0 I) w2 cargs2 hrel hvr
            have key : CallAt P G (ctx0 I) [] w2 f cargs2 v2 s2 := by
              refine ⟨nx, w1, q1, .inr ⟨q2, fun m => ?_⟩⟩
              obtain ⟨f0, k1, k2⟩ := q3 .normal m rfl
              refine ⟨f0, k1, fun caller cs => ?_⟩
              obtain ⟨X', w', m', e1, e2, e3, e4⟩ := k2 caller cs
              cases md2 with
              | run => exact ⟨X', w', m', e1, e2, e3, e4⟩
              | ret => exact absurd e3.1 (by simp)
              | pan ch => exact absurd e3.1 (by simp)
              | round => exact absurd e3 id
            exact key.step fun X' w' c e1 e2 e3 => gc_core hrel e1 e2 e3 (v' := r.1) (es := r.2) (by rw [hr2])
      · exact direct h''
end
end Go.Am
