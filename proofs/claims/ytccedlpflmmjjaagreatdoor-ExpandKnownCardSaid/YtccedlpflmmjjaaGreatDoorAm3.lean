/- Operations of AM that change nothing, and those that make memory. -/
import Derived.Test.YtccedlpflmmjjaaGreatDoorAm2
import Derived.Laws.BytesString
namespace Go.Am
open Go

section
variable {P : Program} {G : Nat → Option (List AV)} {X : Ctx} {s : Store} {w : World}

/-! ### numbers and strings -/
theorem bytesN_length (b : ByteArray) : (bytesN b).length = b.size := by simp [bytesN]

theorem strLt_sound : ∀ (a b : List UInt8), strLt (a.map (·.toNat)) (b.map (·.toNat)) = Op.bytesLess a b := by
  intro a
  induction a with
  | nil => intro b; cases b <;> rfl
  | cons x a ih =>
    intro b
    cases b with
    | nil => rfl
    | cons y b =>
      simp only [List.map_cons, strLt, Op.bytesLess, ih]
      congr 1
      · congr 1
        rw [Bool.eq_iff_iff, beq_iff_eq, beq_iff_eq]
        exact UInt8.toNat_inj

theorem binI_sound {op : BinOp} {k : IntKind} {a b : Int} {v : AV} (h : binI op k a b = some v) (t : TypeId) (w' : World) :
    ∃ c, (Go.binOp op t (.int k a) (.int k b)).run P w' = .ok c w' ∧ VR X w v c := by
  cases op <;> simp only [binI] at h <;> first
    | (cases h; done)
    | (cases h; refine ⟨_, ?_, VR.int _ _⟩; simp [Go.binOp, Op.intArith, Op.intBits]; done)
    | (cases h; refine ⟨_, ?_, VR.bool _⟩; simp [Go.binOp, Op.intCmp]; done)
    | (split at h
       · cases h
       · rename_i hb; cases h; refine ⟨_, ?_, VR.int _ _⟩; simp [Go.binOp, Op.intDiv, hb])

theorem binS_sound {op : BinOp} {a b : ByteArray} {v : AV} (h : binS op (bytesN a) (bytesN b) = some v) (t : TypeId) (w' : World) :
    ∃ c, (Go.binOp op t (.string a) (.string b)).run P w' = .ok c w' ∧ VR X w v c := by
  have e1 : (bytesN a == bytesN b) = (a.toList == b.toList) := by rw [bytesN_beq, beq_toListBytes]
  have e2 : strLt (bytesN a) (bytesN b) = Op.bytesLess a.toList b.toList := by
    rw [ByteArray.toList_eq, ByteArray.toList_eq]; exact strLt_sound _ _
  cases op <;> simp only [binS] at h <;> first
    | (cases h; done)
    | (simp only [e1, e2] at h; cases h; refine ⟨_, ?_, VR.bool _⟩; simp [Go.binOp, Op.stringOp]; done)
    | (split at h
       · rename_i hlt
         cases h
         rw [bytesN_length, bytesN_length] at hlt
         have e3 : bytesN a ++ bytesN b = bytesN (a ++ b) := by simp [bytesN]
         rw [e3]
         refine ⟨_, ?_, VR.str _⟩
         have : ¬ (((a.size + b.size : Nat) : Int) > IntKind.i64.max) := by
           have e : IntKind.i64.max = 9223372036854775807 := by decide
           rw [e]; omega
         simp only [Go.binOp, Op.stringOp]
         rw [if_neg this]; rfl
       · cases h)

theorem bin_sound {op : BinOp} {x y : AV} {cx cy : Value} {v : AV} (h : bin op x y = some v) (hx : VR X w x cx) (hy : VR X w y cy) (t : TypeId) (xo yo : Operand) (w' : World) :
    ∃ c, (do eqGuard op t xo yo cx cy; Go.binOp op t cx cy : Sem Value).run P w' = .ok c w' ∧ VR X w v c := by
  unfold bin at h
  split at h
  · rename_i k a k' b
    cases hx; cases hy
    have hg : (eqGuard op t xo yo (.int k a) (.int k' b)).run P w' = .ok () w' := by cases op <;> simp [eqGuard]
    simp only [Sem.run_bind, hg, Result.andThen_ok]
    split at h
    · split at h
      · cases h
      · rename_i hb; cases h; exact ⟨_, by simp [Go.binOp, Op.shift, hb], VR.int _ _⟩
    · split at h
      · cases h
      · rename_i hb; cases h; exact ⟨_, by simp [Go.binOp, Op.shift, hb], VR.int _ _⟩
    · split at h
      · rename_i hk; subst hk; exact binI_sound h t w'
      · cases h
  · cases hx with
    | str a =>
    cases hy with
    | str b =>
    have hg : (eqGuard op t xo yo (.string a) (.string b)).run P w' = .ok () w' := by cases op <;> simp [eqGuard]
    simp only [Sem.run_bind, hg, Result.andThen_ok]
    exact binS_sound h t w'
  · cases h

/-! ### equality at other types -/
def ekOk (P : Program) (k : EK) (t : TypeId) : Prop :=
  match k with
  | .bool => P.underlying t = some .bool
  | .ptr => ∃ e, P.underlying t = some (.pointer e)
  | .slice => ∃ e, P.underlying t = some (.slice e)
  | .map => ∃ a b, P.underlying t = some (.map a b)
  | .func => ∃ a b c, P.underlying t = some (.func a b c)
  | .iface => ∃ m, P.underlying t = some (.interface m)

theorem list_nil {rows : List (List AV)} {c : Value} (h : VR X w (.list .nil rows) c) : c = .slice none 0 0 ∧ rows = [] := by
  cases h with
  | lnil => exact ⟨rfl, rfl⟩
  | list k rows b off sz cap cs hk => exact absurd rfl hk

theorem list_some {k : SK} {rows : List (List AV)} {c : Value} (h : VR X w (.list k rows) c) (hk : k ≠ .nil) : ∃ a n m, c = .slice (some a) n m := by
  cases h with
  | lnil => exact absurd rfl hk
  | list => exact ⟨_, _, _, rfl⟩

theorem avEq_sound {k : EK} {x y : AV} {cx cy : Value} {r : Bool} (h : avEq k x y = some r) (hx : VR X w x cx) (hy : VR X w y cy) {t : TypeId} (hk : ekOk P k t) (xo yo : Operand) (d : Nat) (w' : World) :
    (eqGuard .eql t xo yo cx cy).run P w' = .ok () w' ∧ (eqGuard .neq t xo yo cx cy).run P w' = .ok () w' ∧ (Op.equalIn (d + 1) t cx cy).run P w' = .ok r w' ∧
      (∀ a b, ¬ (cx = .string a ∧ cy = .string b)) ∧ (∀ a b c d, ¬ (cx = .int a b ∧ cy = .int c d)) ∧ (∀ a b c d, ¬ (cx = .float a b ∧ cy = .float c d)) ∧ (∀ a b c d e f, ¬ (cx = .complex a b c ∧ cy = .complex d e f)) := by
  unfold avEq at h
  split at h
  · cases hx; cases hy; cases h
    simp only [ekOk] at hk
    simp [eqGuard, Op.equalIn, run_und hk]
  · cases hx; cases hy; cases h
    obtain ⟨e, hk⟩ := hk
    simp [eqGuard, Op.equalIn, run_und hk]
  · cases hx; cases hy; cases h
    obtain ⟨e, hk⟩ := hk
    simp [eqGuard, Op.equalIn, run_und hk]
  · cases hx; cases hy; cases h
    obtain ⟨e, hk⟩ := hk
    simp [eqGuard, Op.equalIn, run_und hk]
  · cases hx; cases hy; cases h
    obtain ⟨e, hk⟩ := hk
    simp [eqGuard, Op.equalIn, run_und hk]
  · cases hx; cases hy; cases h
    obtain ⟨e, hk⟩ := hk
    simp [eqGuard, Op.equalIn, run_und hk]
  · cases hx; cases hy; cases h
    obtain ⟨e, hk⟩ := hk
    simp [eqGuard, Op.equalIn, run_und hk]
  · cases hx; cases hy; cases h
    obtain ⟨e, hk⟩ := hk
    simp [eqGuard, Op.equalIn, run_und hk]
  · cases hx; cases hy; cases h
    obtain ⟨e, e', e'', hk⟩ := hk
    simp [eqGuard, Op.equalIn, run_und hk]
  · cases hx; cases hy; cases h
    obtain ⟨e, e', e'', hk⟩ := hk
    simp [eqGuard, Op.equalIn, run_und hk]
  · cases hx; cases hy; cases h
    obtain ⟨e, e', e'', hk⟩ := hk
    simp [eqGuard, Op.equalIn, run_und hk]
  · cases hx; cases hy; cases h
    obtain ⟨e, e', hk⟩ := hk
    simp [eqGuard, Op.equalIn, run_und hk]
  · cases hx; cases hy; cases h
    obtain ⟨e, e', hk⟩ := hk
    simp [eqGuard, Op.equalIn, run_und hk]
  · cases hx; cases hy; cases h
    obtain ⟨e, e', hk⟩ := hk
    simp [eqGuard, Op.equalIn, run_und hk]
  · rename_i q rows rows'
    obtain ⟨rfl, _⟩ := list_nil hy
    obtain ⟨e, hk⟩ := hk
    cases h
    by_cases hq : q = .nil
    · subst hq
      obtain ⟨rfl, _⟩ := list_nil hx
      simp [eqGuard, Op.equalIn, run_und hk]
    · obtain ⟨a, n, m, rfl⟩ := list_some hx hq
      simp [eqGuard, Op.equalIn, run_und hk, hq]
  · rename_i rows q rows' hne
    obtain ⟨rfl, _⟩ := list_nil hx
    obtain ⟨e, hk⟩ := hk
    cases h
    by_cases hq : q = .nil
    · exact absurd hq hne
    · obtain ⟨a, n, m, rfl⟩ := list_some hy hq
      simp [eqGuard, Op.equalIn, run_und hk, hq]
  · cases h

theorem run_eq_of {t : TypeId} {cx cy : Value} {r : Bool} {w' : World} (h1 : (Op.equal t cx cy).run P w' = .ok r w')
    (n1 : ∀ a b, ¬ (cx = .string a ∧ cy = .string b)) (n2 : ∀ a b c d, ¬ (cx = .int a b ∧ cy = .int c d)) (n3 : ∀ a b c d, ¬ (cx = .float a b ∧ cy = .float c d))
    (n4 : ∀ a b c d e f, ¬ (cx = .complex a b c ∧ cy = .complex d e f)) :
    (Go.binOp .eql t cx cy).run P w' = .ok (.bool r) w' ∧ (Go.binOp .neq t cx cy).run P w' = .ok (.bool (!r)) w' := by
  constructor
  · unfold Go.binOp
    split <;> first
      | (rename_i he; cases he; done)
      | (exact absurd ⟨rfl, rfl⟩ (n1 _ _))
      | (exact absurd ⟨rfl, rfl⟩ (n2 _ _ _ _))
      | (exact absurd ⟨rfl, rfl⟩ (n3 _ _ _ _))
      | (exact absurd ⟨rfl, rfl⟩ (n4 _ _ _ _ _ _))
      | (simp [h1]; done)
      | skip
    all_goals simp_all
  · unfold Go.binOp
    split <;> first
      | (rename_i he; cases he; done)
      | (exact absurd ⟨rfl, rfl⟩ (n1 _ _))
      | (exact absurd ⟨rfl, rfl⟩ (n2 _ _ _ _))
      | (exact absurd ⟨rfl, rfl⟩ (n3 _ _ _ _))
      | (exact absurd ⟨rfl, rfl⟩ (n4 _ _ _ _ _ _))
      | (simp [h1]; done)
      | skip
    all_goals simp_all
end
end Go.Am

namespace Go.Am
open Go

section
variable {P : Program} {G : Nat → Option (List AV)} {X : Ctx} {s : Store} {w : World}

/-- The machine carries an operation out, to a value; memory has but grown by blocks that nobody writes. -/
def QOk (P : Program) (G : Nat → Option (List AV)) (X : Ctx) (s : Store) (w : World) (v : AV) (r : Result Next) : Prop :=
  ∃ c w' X', r = .ok (.value c) w' ∧ Ext X s w X' s w' ∧ Rel P G X' s w' ∧ VR X' w' v c ∧ X'.n = X.n ∧ X'.loc = X.loc ∧ X'.ver = X.ver ∧ X'.rl = X.rl ∧ X'.tip = X.tip ∧ X'.ce = X.ce ∧ X'.fz = X.fz

theorem QOk.of (hr : Rel P G X s w) {v : AV} {m : Sem Value} {c : Value} (h : m.run P w = .ok c w) (hv : VR X w v c) :
    QOk P G X s w v ((do pure (Next.value (← m)) : Sem Next).run P w) :=
  ⟨c, w, X, by simp [h], .refl, hr, hv, rfl, rfl, rfl, rfl, rfl, rfl, rfl⟩

theorem info_of_cells {t : TypeId} (h : 0 < P.cellsOf t) : (P.info? t).isSome := by
  unfold Program.cellsOf at h
  cases hi : P.info? t with
  | none => simp [hi] at h
  | some i => rfl

theorem VR.addr {v : AV} {c : Value} (h : VR X w v c) (hp : (∃ r a b o, v = .ptr r a b o) ∨ ∃ row o, v = .rp row o) : ∃ a, c = .pointer (some a) := by
  rcases hp with ⟨r, a, b, o, rfl⟩ | ⟨row, o, rfl⟩
  · cases h; exact ⟨_, rfl⟩
  · cases h; exact ⟨_, rfl⟩

theorem q_faddr {off : Nat} {x v : AV} {c : Value}
    (h : (match x with | .ptr r v i p => some (AV.ptr r v i (p + off)) | .rp row p => some (.rp row (p + off)) | _ => none) = some v) (hv : VR X w x c)
    {t : TypeId} {fs : Array Field} {i : Nat} {f : Field} (hu : P.underlying t = some (.struct fs)) (hf : fs[i]? = some f) (hc : P.cellsOf f.type ≠ 0) (ho : off = f.offset) :
    ∃ c', (Instr.fieldAt t c i).run P w = .ok c' w ∧ VR X w v c' := by
  have hs := run_sizeOf' (w := w) (info_of_cells (P := P) (t := f.type) (by omega))
  have go : ∀ a : Addr, (Instr.fieldAt t (.pointer (some a)) i).run P w = .ok (.pointer (some (a.add f.offset))) w := by
    intro a
    simp [Instr.fieldAt, run_und hu, hf, Instr.sureAddr, fieldPlace, hs, hc]
  cases hv with
  | ptr r v' i' o a h1 h2 h3 =>
    simp only [Option.some.injEq] at h
    subst h
    refine ⟨_, go a, .ptr _ _ _ _ _ h1 h2 fun e => ?_⟩
    obtain ⟨b, base, e1, rfl⟩ := h3 e
    refine ⟨b, base, e1, ?_⟩
    rw [add_plain rfl, ho]; simp only [Nat.add_assoc]
  | rp row o b base cs h1 h2 h3 =>
    simp only [Option.some.injEq] at h
    subst h
    refine ⟨_, go _, ?_⟩
    rw [add_plain rfl, Nat.add_assoc, ← ho]
    exact .rp row _ b base cs h1 h2 h3
  | _ => cases h

theorem q_iaddr (hr : Rel P G X s w) {arr : Option Nat} {sz : Nat} {x iv v : AV} {cx ci : Value}
    (h : (opt (asNat iv) fun i => match arr, x with
      | some n, .ptr r v j o => if i < n then some (AV.ptr r v j (o + i * sz)) else none
      | some n, .rp row o => if i < n then some (.rp row (o + i * sz)) else none
      | none, .list _ rows => opt rows[i]? fun row => if row.length = sz then some (.rp row 0) else none
      | none, .sl r v off len _ => match s.get r with
        | some (.cells v' sz' _ _) => if v' = v ∧ sz' = sz ∧ i < len then some (.ptr r v (off + i) 0) else none
        | _ => none
      | _, _ => none) = some v) (hx : VR X w x cx) (hi : VR X w iv ci)
    {t e : TypeId} (hu : (∃ n, arr = some n ∧ P.underlying t = some (.array n e)) ∨ (arr = none ∧ P.underlying t = some (.slice e))) (hsz : sz = P.cellsOf e) (h0 : 0 < P.cellsOf e) :
    ∃ c', (Instr.indexAt t cx ci).run P w = .ok c' w ∧ VR X w v c' := by
  have hs := run_sizeOf' (w := w) (info_of_cells (P := P) (t := e) h0)
  cases hn : asNat iv with
  | none => simp [hn, opt] at h
  | some i =>
    simp only [hn, opt] at h
    obtain ⟨k, rfl⟩ := asNat_sound hn hi
    rcases hu with ⟨n, rfl, hu⟩ | ⟨rfl, hu⟩
    · have go : ∀ a : Addr, i < n → (Instr.indexAt t (.pointer (some a)) (.int k (i : Int))).run P w = .ok (.pointer (some (a.add (i * sz)))) w := by
        intro a hlt
        simp [Instr.indexAt, asIntOf, run_und hu, Instr.sureAddr, hs, hsz, hlt]
      cases hx with
      | ptr r v' i' o a h1 h2 h3 =>
        simp only at h
        split at h
        · rename_i hlt
          cases h
          refine ⟨_, go a hlt, .ptr _ _ _ _ _ h1 h2 fun e => ?_⟩
          obtain ⟨b, base, e1, rfl⟩ := h3 e
          refine ⟨b, base, e1, ?_⟩
          rw [add_plain rfl]; simp only [Nat.add_assoc]
        · cases h
      | rp row o b base cs h1 h2 h3 =>
        simp only at h
        split at h
        · rename_i hlt
          cases h
          refine ⟨_, go _ hlt, ?_⟩
          rw [add_plain rfl, Nat.add_assoc]
          exact .rp row _ b base cs h1 h2 h3
        · cases h
      | _ => cases h
    · have go : ∀ (a : Addr) (len cap : Nat), i < len → (Instr.indexAt t (.slice (some a) len cap) (.int k (i : Int))).run P w = .ok (.pointer (some (a.add (i * sz)))) w := by
        intro a len cap hlt
        simp [Instr.indexAt, asIntOf, run_und hu, hs, hsz, hlt]
      cases hx with
      | lnil => simp at h
      | list k' rows b off sz' cap cs hk hsz' him hc hv hcap hex =>
        cases hrow : rows[i]? with
        | none => simp [hrow] at h
        | some row =>
          simp only [hrow] at h
          split at h
          · rename_i hlen
            cases h
            obtain ⟨hlt, hrow'⟩ := List.getElem?_eq_some_iff.1 hrow
            have hmem : row ∈ rows := hrow' ▸ List.getElem_mem hlt
            have e2 : sz' = sz := (hsz' row hmem).symm.trans hlen
            subst e2
            refine ⟨_, go _ _ _ hlt, ?_⟩
            rw [add_plain rfl]
            have := VR.rp (X := X) (w := w) row 0 b (off + i * sz') (cs i) (him (by intro e; simp [e] at hlt)) (fun j hj => hc i j hlt (by omega)) (fun j hj => by subst hrow'; exact hv i j hlt hj)
            simpa using this
          · cases h
      | sl r v' off len ex a cap h1 h2 h3 h4 h5 =>
        simp only at h
        split at h
        · rename_i v'' sz' rows fz hg
          split at h
          · rename_i hcond
            obtain ⟨rfl, rfl, hlt⟩ := hcond
            cases h
            obtain ⟨a1, a2, _⟩ := hr.ent r _ hg
            obtain ⟨b, base, e1, _, e3, e4, e5⟩ := h5 a1.symm
            have ea := e3 (by omega)
            subst ea
            refine ⟨_, go _ _ _ hlt, .ptr _ _ _ _ _ h1 h2 fun e => ⟨b, base, e1, ?_⟩⟩
            rw [add_plain rfl, a2]
            simp only [Nat.add_mul, Nat.add_assoc, Nat.add_zero]
          · cases h
        · cases h
      | _ => cases h

theorem q_slice (hr : Rel P G X s w) {sz : Nat} {x v : AV} {cx : Value} (hx : VR X w x cx) {str : Bool} {low high max : Option Value} {lo hi mx : Option Nat}
    (h1 : OptNat low lo) (h2 : OptNat high hi) (h3 : OptNat max mx) (hm : mx.isSome → hi.isSome) (h : aslice s str sz x lo hi mx = some v)
    {t : TypeId} (hu : (str = true ∧ P.underlying t = some .string ∧ max = none) ∨ (str = false ∧ ∃ e, P.underlying t = some (.slice e) ∧ sz = P.cellsOf e ∧ 0 < sz)) :
    ∃ c', (Instr.sliceAt t cx low high max).run P w = .ok c' w ∧ VR X w v c' := by
  unfold aslice at h
  simp only at h
  split at h
  · rename_i b
    split at h
    · rename_i hc
      obtain ⟨c0, c1, c2, rfl⟩ := hc
      cases h
      cases hx with
      | str b =>
      rcases hu with ⟨_, hu, rfl⟩ | ⟨e, _⟩
      · rw [bytesN_length] at c1 c2 ⊢
        refine ⟨.string (b.extract (lo.getD 0) (hi.getD b.size)), ?_, ?_⟩
        · have := run_sliceBounds (P := P) false (len := b.size) (cap := b.size) h1 h2 (mx := none) (max := none) trivial (by simp) (by simp) (by simpa using c2) c1 w
          simp [Instr.sliceAt, run_und hu, Instr.slice, this]
        · have e1 : ((bytesN b).take (hi.getD b.size)).drop (lo.getD 0) = bytesN (b.extract (lo.getD 0) (hi.getD b.size)) := by
            simp only [bytesN, ByteArray.data_extract, Array.toList_extract, List.map_take, List.map_drop, List.take_drop]
            congr 2; omega
          rw [e1]; exact .str _
      · rw [c0] at e; cases e
    · cases h
  · rename_i k rows
    split at h
    · rename_i hc
      obtain ⟨c1, c2, c3, c4⟩ := hc
      rcases hu with ⟨e, _⟩ | ⟨_, e, hu, hsz, hpos⟩
      · rw [c3] at e; cases e
      · have hs := run_sizeOf' (w := w) (info_of_cells (P := P) (t := e) (by omega))
        cases hx with
        | lnil =>
          simp only [List.length_nil] at c1 c2
          have hh : hi.getD 0 = 0 := by omega
          have hl : lo.getD 0 = 0 := by omega
          split at h
          · simp only [if_true, List.take_nil, List.drop_nil] at h
            cases h
            have := run_sliceBounds (P := P) true (len := 0) (cap := 0) h1 h2 (mx := none) (max := max) h3 (by simp) (by simp) (by simp [hh]) (by simp [hl]) w
            refine ⟨.slice none 0 0, ?_, .lnil⟩
            simp [Instr.sliceAt, run_und hu, Instr.slice, this, hs, hh, hl]
          · rename_i m
            split at h
            · rename_i hhm
              simp only [List.length_nil] at hhm
              simp only [if_true, List.take_nil, List.drop_nil] at h
              cases h
              have := run_sliceBounds (P := P) true (len := 0) (cap := 0) h1 h2 (mx := some m) (max := max) h3 hm (by simp; omega) (by simp; omega) (by simp [hl]) w
              refine ⟨.slice none 0 0, ?_, .lnil⟩
              have hm0 : m = 0 := by omega
              simp [Instr.sliceAt, run_und hu, Instr.slice, this, hs, hh, hl, hm0]
            · cases h
        | list k rows b off sz' cap cs hk hsz' him hcc hvv hcap hex =>
          have hszz : rows ≠ [] → sz' = sz := by
            intro hne
            cases rows with
            | nil => exact absurd rfl hne
            | cons row rows => simp [rowsSz] at c4; exact (hsz' row List.mem_cons_self).symm.trans c4
          -- what is cut
          have cut : ∀ (k' : SK) (m : Nat), k' ≠ .nil → m ≤ cap → hi.getD rows.length ≤ m → (k' = .exact → m = hi.getD rows.length) →
              VR X w (.list k' ((rows.take (hi.getD rows.length)).drop (lo.getD 0)))
                (.slice (some (if m = lo.getD 0 then (⟨b, off, none⟩ : Addr) else (⟨b, off, none⟩ : Addr).add (lo.getD 0 * sz))) (hi.getD rows.length - lo.getD 0) (m - lo.getD 0)) := by
            intro k' m hk' hm1 hm2 hm3
            have hlen : ((rows.take (hi.getD rows.length)).drop (lo.getD 0)).length = hi.getD rows.length - lo.getD 0 := by simp; omega
            by_cases hz : hi.getD rows.length = lo.getD 0
            · have hnil : (rows.take (hi.getD rows.length)).drop (lo.getD 0) = [] := List.length_eq_zero_iff.1 (by rw [hlen]; omega)
              rw [hnil, hz, Nat.sub_self]
              have ea : ∃ o, (if m = lo.getD 0 then (⟨b, off, none⟩ : Addr) else (⟨b, off, none⟩ : Addr).add (lo.getD 0 * sz)) = ⟨b, o, none⟩ := by
                split
                · exact ⟨off, rfl⟩
                · exact ⟨_, add_plain rfl _⟩
              obtain ⟨o, ea⟩ := ea
              rw [ea]
              have hm4 : k' = .exact → m - lo.getD 0 = 0 := fun e => by have := hm3 e; omega
              exact VR.list k' [] b o sz' _ cs hk' (fun _ hm => by simp at hm) (fun h => absurd rfl h) (fun i j h => by simp at h) (fun i j h => by simp at h) (by simp) (fun e => by rw [hm4 e]; rfl)
            · have hne : rows ≠ [] := by
                intro e
                have hl : rows.length = 0 := by rw [e]; rfl
                omega
              have hszz' := hszz hne
              rw [if_neg (by omega), add_plain rfl, ← hlen]
              refine VR.list k' _ b (off + lo.getD 0 * sz) sz' _ (fun i j => cs (lo.getD 0 + i) j) hk' (fun row hm => hsz' row (List.mem_of_mem_take (List.mem_of_mem_drop hm))) (fun _ => him hne) (fun i j h h' => ?_) (fun i j h h' => ?_) (by rw [hlen]; omega) (fun e => by rw [hlen]; have := hm3 e; omega)
              · rw [hlen] at h
                have := hcc (lo.getD 0 + i) j (by omega) h'
                rw [← this]; congr 1
                rw [hszz', Nat.add_mul]; omega
              · rw [hlen] at h
                simp only [List.getElem_drop, List.getElem_take] at h' ⊢
                exact hvv _ j (by omega) h'
          split at h
          · rw [if_neg hk] at h
            cases h
            have := run_sliceBounds (P := P) true (len := rows.length) (cap := cap) h1 h2 (mx := none) (max := max) h3 (by simp) (by simp) (by simp; omega) c1 w
            refine ⟨_, ?_, cut _ cap (by split <;> simp) (Nat.le_refl _) (by omega) (fun e => ?_)⟩
            · simp [Instr.sliceAt, run_und hu, Instr.slice, this, hs, hsz]
              split <;> rfl
            · split at e
              · rename_i he; rw [hex he.1, he.2]
              · cases e
          · rename_i m
            split at h
            · rename_i hhm
              have h : some (AV.list SK.exact (List.drop (lo.getD 0) (List.take (hi.getD rows.length) rows))) = some v := by simpa [hk] using h
              cases h
              have := run_sliceBounds (P := P) true (len := rows.length) (cap := cap) h1 h2 (mx := some m) (max := max) h3 hm (by simp; omega) (by simp; omega) c1 w
              refine ⟨_, ?_, cut .exact m (by simp) (by omega) (by omega) (fun _ => hhm.symm)⟩
              simp [Instr.sliceAt, run_und hu, Instr.slice, this, hs, hsz]
              split <;> rfl
            · cases h
    · cases h
  · rename_i r v' off len ex
    split at h
    · rename_i v'' sz' rows fz hg
      split at h
      · rename_i hc
        obtain ⟨hvv, hzz, c1, c3, c4, c5⟩ := hc
        subst hvv; subst hzz
        rcases hu with ⟨e, _⟩ | ⟨_, e, hu, hsz, hpos⟩
        · rw [c3] at e; cases e
        · have hs := run_sizeOf' (w := w) (info_of_cells (P := P) (t := e) (by omega))
          obtain ⟨a1, a2, a3, a4, a5, a6, a7⟩ := hr.ent r _ hg
          cases hx with
          | sl _ _ _ _ _ a cap d1 d2 d3 d4 d5 =>
          obtain ⟨b, base, e1, ⟨a', rfl, e2⟩, e3, e4, e5⟩ := d5 a1.symm
          have hcap : hi.getD len ≤ cap := by
            rcases c5 with c5 | ⟨c5, c6⟩
            · omega
            · have := e5 c5; omega
          have hhi : off + hi.getD len ≤ rows.length := by
            rcases c5 with c5 | ⟨c5, c6⟩ <;> omega
          have cut : ∀ (ex' : Bool) (m : Nat), m ≤ cap → hi.getD len ≤ m → (ex' = true → m = hi.getD len) → (ex' = false → ex = false ∧ m = cap) →
              VR X w (.sl r v'' (off + lo.getD 0) (hi.getD len - lo.getD 0) ex')
                (.slice (some (if m = lo.getD 0 then a' else a'.add (lo.getD 0 * sz'))) (hi.getD len - lo.getD 0) (m - lo.getD 0)) := by
            intro ex' m hm1 hm2 hm3 hm4
            refine .sl r v'' _ _ ex' _ _ d1 d2 (by omega) (fun e => by have := hm3 e; omega) fun _ => ⟨b, base, e1, ?_, fun hne => ?_, by rw [a3]; omega, fun e => ?_⟩
            · split
              · exact ⟨_, rfl, e2⟩
              · exact ⟨_, rfl, by rw [add_plain e2]⟩
            · rw [if_neg (by omega)]
              have := e3 (by omega)
              cases this
              rw [add_plain rfl, a2]
              simp only [Nat.add_mul, Nat.add_assoc]
            · obtain ⟨f1, f2⟩ := hm4 e
              have := e5 f1; omega
          split at h
          · split at h
            · cases h
            · rename_i hexh
              cases h
              have := run_sliceBounds (P := P) true (len := len) (cap := cap) h1 h2 (mx := none) (max := max) h3 (by simp) (by simp) (by simpa using hcap) c1 w
              refine ⟨_, ?_, cut ex cap (Nat.le_refl _) hcap (fun e => ?_) (fun e => ⟨e, rfl⟩)⟩
              · simp [Instr.sliceAt, run_und hu, Instr.slice, this, hs, hsz]
                split <;> rfl
              · have := d4 e
                have : hi.getD len = len := by
                  refine Decidable.byContradiction fun hne => hexh ⟨e, hne⟩
                omega
          · rename_i m
            split at h
            · rename_i hhm
              cases h
              have := run_sliceBounds (P := P) true (len := len) (cap := cap) h1 h2 (mx := some m) (max := max) h3 hm (by simp; omega) (by simp; omega) c1 w
              refine ⟨_, ?_, cut true m (by omega) (by omega) (fun _ => hhm.symm) (fun e => by cases e)⟩
              simp [Instr.sliceAt, run_und hu, Instr.slice, this, hs, hsz]
              split <;> rfl
            · cases h
      · cases h
    · cases h
  · cases h
end
end Go.Am

namespace Go.Am
open Go

section
variable {P : Program} {G : Nat → Option (List AV)} {X : Ctx} {s : Store} {w : World}

theorem parts_map (a : Act) (ps : Array (Nat × Operand)) : (ps.map fun (i, x) => (i, a.eval x)).toList = ps.toList.map fun p => (p.1, a.eval p.2) := by
  simp only [Array.toList_map]

theorem q_build (hr : Rel P G X s w) {tm : List AV} {a : Act} (ht : VRs X w tm a.tmps.toList) {t : TypeId} {ps : Array (Nat × Operand)} {z : List AV} (hz : zeroCells P t = some z) {v : AV}
    (hu : (∃ fs, P.underlying t = some (.struct fs) ∧ (∀ p ∈ ps.toList, p.1 < fs.size) ∧ (∀ f ∈ fs.toList, (P.info? f.type).isSome) ∧
        (fillA z ((ps.toList.map fun p => ((fs.getD p.1 default).offset, P.cellsOf (fs.getD p.1 default).type, cOpd G p.2)).map fun p => (p.1, p.2.1, ev tm p.2.2))).map AV.agg = some v) ∨
      (∃ n e, P.underlying t = some (.array n e) ∧ (P.info? e).isSome ∧
        (fillA z ((ps.toList.map fun p => (p.1 * P.cellsOf e, P.cellsOf e, cOpd G p.2)).map fun p => (p.1, p.2.1, ev tm p.2.2))).map AV.agg = some v)) :
    ∃ c, (Instr.build t (ps.map fun (i, x) => (i, a.eval x))).run P w = .ok c w ∧ VR X w v c := by
  obtain ⟨zc, h1, h2, h3, h4⟩ := zeroCells_sound (X := X) (w := w) hz w
  rcases hu with ⟨fs, hu, hp, hi, h⟩ | ⟨n, e, hu, hi, h⟩
  · cases hf : fillA z ((ps.toList.map fun p => ((fs.getD p.1 default).offset, P.cellsOf (fs.getD p.1 default).type, cOpd G p.2)).map fun p => (p.1, p.2.1, ev tm p.2.2)) with
    | none => rw [hf] at h; cases h
    | some l =>
      rw [hf] at h
      simp only [Option.map_some, Option.some.injEq] at h
      subst h
      have hplaces : (fs.mapM fun f => (do pure (f.offset, ← Go.sizeOf f.type) : Sem (Nat × Nat))).run P w = .ok (fs.map fun f => (f.offset, P.cellsOf f.type)) w := by
        rw [Array.mapM_eq_mapM_toList]
        have key : ∀ (l : List Field), (∀ f ∈ l, (P.info? f.type).isSome) → (l.mapM fun f => (do pure (f.offset, ← Go.sizeOf f.type) : Sem (Nat × Nat))).run P w = .ok (l.map fun f => (f.offset, P.cellsOf f.type)) w := by
          intro l
          induction l with
          | nil => intro _; simp
          | cons f l ih =>
            intro hl
            simp only [List.mapM_cons, Sem.run_bind, run_sizeOf' (hl f List.mem_cons_self), Result.andThen_ok, Sem.run_pure, ih fun g hg => hl g (List.mem_cons_of_mem _ hg), List.map_cons]
        simp only [Sem.run_map, key fs.toList hi, Result.andThen_ok]
        congr 1
        apply Array.ext'
        simp
      obtain ⟨cs', e1, e2⟩ := fill_sound hr ht (fun i => (fs.map fun f => (f.offset, P.cellsOf f.type))[i]?) (fun i => ((fs.getD i default).offset, P.cellsOf (fs.getD i default).type)) ps.toList
        (fun p hm => by have := hp p hm; simp [Array.getD, this]) z l zc.cells h2 hf
      refine ⟨.agg cs', ?_, .agg l cs' (by simpa using e2.1) fun i h h' => by have := e2.2 i h (by simpa using h'); simpa using this⟩
      simp only [Instr.build, Sem.run_bind, h1, Result.andThen_ok, run_und hu, hplaces, parts_map, e1, Sem.run_pure]
  · cases hf : fillA z ((ps.toList.map fun p => (p.1 * P.cellsOf e, P.cellsOf e, cOpd G p.2)).map fun p => (p.1, p.2.1, ev tm p.2.2)) with
    | none => rw [hf] at h; cases h
    | some l =>
      rw [hf] at h
      simp only [Option.map_some, Option.some.injEq] at h
      subst h
      obtain ⟨cs', e1, e2⟩ := fill_sound hr ht (fun i => some (i * P.cellsOf e, P.cellsOf e)) (fun i => (i * P.cellsOf e, P.cellsOf e)) ps.toList (fun p hm => rfl) z l zc.cells h2 hf
      refine ⟨.agg cs', ?_, .agg l cs' (by simpa using e2.1) fun i h h' => by have := e2.2 i h (by simpa using h'); simpa using this⟩
      simp only [Instr.build, Sem.run_bind, h1, Result.andThen_ok, run_und hu, run_sizeOf' hi, parts_map, e1, Sem.run_pure]

theorem init_cells {z : List AV} {zc : Array Value} (hz : VRs X w z zc.toList) (hpos : 0 < z.length) (n : Nat) :
    VRs X w (List.replicate n z).flatten ((Array.range (n * z.length)).map (zc[· % zc.size]!)).toList := by
  have hl : z.length = zc.size := by simpa using hz.1
  have hrows : ∀ row ∈ List.replicate n z, row.length = z.length := fun row hm => by rw [(List.mem_replicate.1 hm).2]
  refine VRs.of_get ?_ fun k a c h1 h2 => ?_
  · rw [flatten_length _ hrows]; simp
  · have hk : k < n * z.length := by
      have := (List.getElem?_eq_some_iff.1 h1).1
      rw [flatten_length _ hrows] at this; simpa using this
    have hq : k / z.length < n := (Nat.div_lt_iff_lt_mul hpos).2 hk
    have hm : k % z.length < z.length := Nat.mod_lt _ hpos
    have e1 := flatten_get (List.replicate n z) hrows (k / z.length) (k % z.length) z (by rw [List.getElem?_replicate]; simp [hq]) hm
    have e2 : k / z.length * z.length + k % z.length = k := by rw [Nat.mul_comm]; exact Nat.div_add_mod k z.length
    rw [e2] at e1
    rw [e1] at h1
    have h3 : zc[k % zc.size]! = c := by
      simp only [Array.toList_map, List.getElem?_map, Array.toList_range, List.getElem?_range hk, Option.map_some, Option.some.injEq] at h2
      exact h2
    have hm2 : k % z.length < zc.size := hl ▸ hm
    have h4 : zc.toList[k % z.length]? = some c := by
      rw [← hl] at h3
      rw [getElem!_pos zc (k % z.length) hm2] at h3
      rw [← h3]; simp [hm2]
    exact hz.get h1 h4

theorem bsl_run (hr : Rel P G X s w) {tm : List AV} {a : Act} (ht : VRs X w tm a.tmps.toList) {t e : TypeId} {n : Nat} {ps : Array (Nat × Operand)} {z : List AV}
    (hu : P.underlying t = some (.slice e)) (hz : zeroCells P e = some z) (hpos : 0 < P.cellsOf e) (hle : n * P.cellsOf e ≤ 2 ^ 24) {rows : List (List AV)}
    (h : fillRows z.length n (List.replicate n z) ((ps.toList.map fun p => (p.1, cOpd G p.2)).map fun p => (p.1, ev tm p.2)) = some rows) :
    ∃ cs', (Instr.buildSlice t n (ps.map fun (i, x) => (i, a.eval x))).run P w = .ok (.slice (some ⟨w.heap.size, 0, none⟩) n n) { w with heap := w.heap.push (.cells cs' e) } ∧
      VRs X w rows.flatten cs'.toList ∧ (∀ row ∈ rows, row.length = P.cellsOf e) ∧ rows.length = n := by
  obtain ⟨zc, h1, h2, h3, h4⟩ := zeroCells_sound (X := X) (w := w) hz w
  have hrep : ∀ row ∈ List.replicate n z, row.length = z.length := fun row hm => by rw [(List.mem_replicate.1 hm).2]
  obtain ⟨f1, f2, f3⟩ := fillRows_flat _ _ _ hrep (by simp) h
  have hzc : zc.cells.size = P.cellsOf e := by have := h2.1; simp at this; omega
  have hinit := init_cells h2 (by omega) n
  rw [h3] at hinit f1 f2
  have f1' : fillA (List.replicate n z).flatten ((ps.toList.map fun p => (p.1 * P.cellsOf e, P.cellsOf e, cOpd G p.2)).map fun p => (p.1, p.2.1, ev tm p.2.2)) = some rows.flatten := by
    rw [← f1]; simp only [List.map_map]; rfl
  obtain ⟨cs', e1, e2⟩ := fill_sound hr ht (fun i => some (i * P.cellsOf e, P.cellsOf e)) (fun i => (i * P.cellsOf e, P.cellsOf e)) ps.toList (fun p hm => rfl) _ rows.flatten _ hinit f1'
  refine ⟨cs', ?_, e2, f2, f3⟩
  have hs := run_sizeOf' (w := w) (info_of_cells (P := P) (t := e) hpos)
  have hn1 : ¬ (n * P.cellsOf e > 2 ^ 24) := by omega
  by_cases hn : n * P.cellsOf e = 0
  · have e1' : Instr.fill (fun i => some (i * P.cellsOf e, P.cellsOf e)) ((Array.range (n * P.cellsOf e)).map (fun x => (#[] : Array Value)[x % (#[] : Array Value).size]!)) (ps.toList.map fun p => (p.1, a.eval p.2)) = some cs' := by
      have er : Array.range (n * P.cellsOf e) = #[] := by rw [hn]; rfl
      rw [er] at e1 ⊢
      simpa using e1
    simp only [Instr.buildSlice, Sem.run_bind, run_und hu, hs, Result.andThen_ok, if_neg hn1, if_pos hn, Sem.run_pure, parts_map, e1', newRow, run_newObj]
  · simp only [Instr.buildSlice, Sem.run_bind, run_und hu, hs, Result.andThen_ok, if_neg hn1, if_neg hn, h1, Sem.run_pure, parts_map, e1, newRow, run_newObj]

/-- Rows that lie one behind the other. -/
theorem rows_at {rows : List (List AV)} {sz : Nat} (hsz : ∀ row ∈ rows, row.length = sz) {cs : Array Value} (h : VRs X w rows.flatten cs.toList) :
    ∀ i j (h : i < rows.length) (h' : j < rows[i].length), ∃ c, cs[i * sz + j]? = some c ∧ VR X w rows[i][j] c := by
  intro i j hi hj
  have hj' : j < sz := by rw [← hsz rows[i] (List.getElem_mem hi)]; exact hj
  have e1 := flatten_get rows hsz i j rows[i] (List.getElem?_eq_getElem hi) hj'
  rw [List.getElem?_eq_getElem hj] at e1
  have hlt := (List.getElem?_eq_some_iff.1 e1).1
  have hlt2 : i * sz + j < cs.size := by have e := h.1; rw [Array.length_toList (xs := cs)] at e; omega
  refine ⟨cs[i * sz + j], Array.getElem?_eq_getElem hlt2, ?_⟩
  exact h.get e1 (by simp [hlt2])

theorem QOk.same (hr : Rel P G X s w) {v : AV} {c : Value} {r : Result Next} (h : r = .ok (.value c) w) (hv : VR X w v c) : QOk P G X s w v r :=
  ⟨c, w, X, h, .refl, hr, hv, rfl, rfl, rfl, rfl, rfl, rfl, rfl⟩

theorem q_bslImm (hr : Rel P G X s w) {rows : List (List AV)} {sz : Nat} {cs : Array Value} {e : TypeId} {n : Nat} (h1 : VRs X w rows.flatten cs.toList) (h2 : ∀ row ∈ rows, row.length = sz) (h3 : rows.length = n) :
    Ext X s w (X.keepBlock w.heap.size) s { w with heap := w.heap.push (.cells cs e) } ∧ Rel P G (X.keepBlock w.heap.size) s { w with heap := w.heap.push (.cells cs e) } ∧
      VR (X.keepBlock w.heap.size) { w with heap := w.heap.push (.cells cs e) } (.list .exact rows) (.slice (some ⟨w.heap.size, 0, none⟩) n n) := by
  have hg : Grown w { w with heap := w.heap.push (.cells cs e) } := Grown.push w _ w.drawn
  have hx : Ext X s w (X.keepBlock w.heap.size) s { w with heap := w.heap.push (.cells cs e) } := Ext.keepBlock hg (Nat.le_refl _)
  refine ⟨hx, hr.keepBlock hg (Nat.le_refl _) (by simp), ?_⟩
  have hat := rows_at h2 h1
  subst h3
  refine .list .exact rows w.heap.size 0 sz rows.length (fun i j => cs[i * sz + j]!) (by simp) h2 (fun _ => .inr rfl) (fun i j hi hj => ?_) (fun i j hi hj => ?_) (Nat.le_refl _) (fun _ => rfl)
  · obtain ⟨c, d1, _⟩ := hat i j hi (by rw [h2 _ (List.getElem_mem hi)]; exact hj)
    rw [cellAt_cells (cs := cs) (T := e) (fr := (0, 0)) (by simp), Nat.zero_add, d1]
    congr 1
    obtain ⟨hlt, hc⟩ := Array.getElem?_eq_some_iff.1 d1
    rw [getElem!_pos cs _ hlt, hc]
  · obtain ⟨c, d1, d2⟩ := hat i j hi hj
    obtain ⟨hlt, hc⟩ := Array.getElem?_eq_some_iff.1 d1
    rw [getElem!_pos cs _ hlt, hc]
    exact d2.mono hr hx

theorem asBytes_sound {l : List (List AV)} {b : List Nat} (h : asBytes l = some b) : ∀ i (hi : i < l.length) , ∃ n : Int, l[i] = [.int .u8 n] ∧ 0 ≤ n ∧ n < 256 ∧ b[i]? = some n.toNat := by
  induction l generalizing b with
  | nil => intro i hi; simp at hi
  | cons row l ih =>
    intro i hi
    unfold asBytes at h
    split at h
    · rename_i heq; cases heq
    · rename_i n rest heq
      cases heq
      split at h
      · rename_i hn
        cases hb : asBytes l with
        | none => simp [hb] at h
        | some b' =>
          simp only [hb, Option.map_some, Option.some.injEq] at h
          subst h
          cases i with
          | zero => exact ⟨n, rfl, hn.1, hn.2, by simp⟩
          | succ i =>
            obtain ⟨m, e1, e2, e3, e4⟩ := ih hb i (by simpa using hi)
            exact ⟨m, by simpa using e1, e2, e3, by simpa using e4⟩
      · cases h
    · cases h

theorem asBytes_length {l : List (List AV)} : ∀ {b : List Nat}, asBytes l = some b → b.length = l.length := by
  induction l with
  | nil => intro b h; simp [asBytes] at h; subst h; rfl
  | cons row l ih =>
    intro b h
    unfold asBytes at h
    split at h
    · rename_i heq; cases heq
    · rename_i n rest heq
      cases heq
      split at h
      · cases hb : asBytes l with
        | none => simp [hb] at h
        | some b' => simp only [hb, Option.map_some, Option.some.injEq] at h; subst h; simp [ih hb]
      · cases h
    · cases h

/-- What a slice's rows are in the world. -/
theorem rowsOf_sound (hr : Rel P G X s w) {x : AV} {c : Value} {rows : List (List AV)} (h : rowsOf s x = some rows) (hv : VR X w x c) :
    ∃ a cap, c = .slice a rows.length cap ∧ (rows ≠ [] → ∃ b st sz, a = some ⟨b, st, none⟩ ∧ (∀ row ∈ rows, row.length = sz) ∧
      ∀ i j (h : i < rows.length) (h' : j < rows[i].length), ∃ c, cellAt w b (st + i * sz + j) = some c ∧ VR X w rows[i][j] c) := by
  unfold rowsOf at h
  split at h
  · cases h
    cases hv with
    | lnil => exact ⟨none, 0, rfl, fun h => absurd rfl h⟩
    | list k rows b off sz cap cs hk hsz him hc hvv hcap hex =>
      exact ⟨_, _, rfl, fun _ => ⟨b, off, sz, rfl, hsz, fun i j hi hj => ⟨cs i j, hc i j hi (by rw [← hsz _ (List.getElem_mem hi)]; exact hj), hvv i j hi hj⟩⟩⟩
  · rename_i r v off len ex
    split at h
    · rename_i v' sz rows' fz hg
      split at h
      · rename_i hc
        obtain ⟨rfl, hle⟩ := hc
        cases h
        obtain ⟨a1, a2, a3, a4, a5, a6, a7⟩ := hr.ent r _ hg
        cases hv with
        | sl _ _ _ _ _ a cap d1 d2 d3 d4 d5 =>
        obtain ⟨b, base, e1, ⟨a', rfl, e2⟩, e3, e4, e5⟩ := d5 a1.symm
        have hlen : ((rows'.drop off).take len).length = len := by simp; omega
        refine ⟨_, cap, by rw [hlen], fun hne => ⟨b, base + off * sz, sz, ?_, fun row hm => (a5 row (List.mem_of_mem_drop (List.mem_of_mem_take hm))).1, fun i j hi hj => ?_⟩⟩
        · have : len ≠ 0 := by intro e; subst e; simp at hne
          rw [← a2]; exact e3 (by omega)
        · obtain ⟨cs, T, lo, hi', c1, c2, c3, c4⟩ := a7 b base e1
          rw [hlen] at hi
          have hget : ((rows'.drop off).take len)[i] = rows'[off + i] := by simp
          obtain ⟨c, f1, f2⟩ := c4 (off + i) j (by omega) (by rw [← hget]; exact hj)
          refine ⟨c, ?_, ?_⟩
          · rw [cellAt_cells c1, ← f1]; congr 1; rw [Nat.add_mul]; omega
          · simpa [hget] using f2
      · cases h
    · cases h
  · cases h
end
end Go.Am

namespace Go.Am
open Go

section
variable {P : Program} {G : Nat → Option (List AV)} {X : Ctx} {s : Store} {w : World}

theorem opt_some {α β : Type} {o : Option α} {f : α → Option β} {b : β} (h : opt o f = some b) : ∃ a, o = some a ∧ f a = some b := by
  cases o with
  | none => cases h
  | some a => exact ⟨a, rfl, h⟩

theorem VR.str_inv {l : List Nat} {c : Value} (h : VR X w (.str l) c) : ∃ b, c = .string b ∧ l = bytesN b := by cases h; exact ⟨_, rfl, rfl⟩

theorem VR.bool_inv {b : Bool} {c : Value} (h : VR X w (.bool b) c) : c = .bool b := by cases h; rfl
theorem VR.int_inv {k : IntKind} {n : Int} {c : Value} (h : VR X w (.int k n) c) : c = .int k n := by cases h; rfl
theorem VR.nili_inv {c : Value} (h : VR X w .nili c) : c = .nilIface := by cases h; rfl
theorem VR.nilm_inv {c : Value} (h : VR X w .nilm c) : c = .map none := by cases h; rfl
theorem VR.ifc_inv {t : Nat} {v : AV} {c : Value} (h : VR X w (.ifc t v) c) : ∃ d, c = .iface t d ∧ VR X w v d := by cases h; exact ⟨_, rfl, by assumption⟩
theorem VR.agg_inv {l : List AV} {c : Value} (h : VR X w (.agg l) c) : ∃ cs, c = .agg cs := by cases h; exact ⟨_, rfl⟩
theorem VR.map_inv {r : Nat} {c : Value} (h : VR X w (.map r) c) : ∃ a, c = .map (some a) ∧ (X.ver r = 0 → X.loc r = some (a, 0)) := by cases h; exact ⟨_, rfl, by assumption⟩
theorem VR.tup_inv {l : List AV} {c : Value} (h : VR X w (.tup l) c) : ∃ cs, c = .tuple cs ∧ VRs X w l cs.toList := by
  cases h with
  | tup _ cs hl hv => exact ⟨cs, rfl, by simpa using hl, fun i h h' => by have := hv i h (by simpa using h'); simpa using this⟩
theorem VR.pair {x y : AV} {c d : Value} (h1 : VR X w x c) (h2 : VR X w y d) : VR X w (.tup [x, y]) (.tuple #[c, d]) := by
  refine .tup _ _ rfl fun i h h' => ?_
  match i, h with
  | 0, _ => exact h1
  | 1, _ => exact h2

theorem q_getMap (hr : Rel P G X s w) {r : Nat} {es : List (AV × AV × Nat)} {cl : Nat} (hg : s.get r = some (.map es cl)) {c : Value} (hv : VR X w (.map r) c) :
    ∃ a ces, c = .map (some a) ∧ X.loc r = some (a, 0) ∧ w.heap[a]? = some (.map ces cl) ∧ EsR X w es ces.toList := by
  obtain ⟨a, rfl, h1⟩ := hv.map_inv
  obtain ⟨a1, a2, a3⟩ := hr.ent r _ hg
  have hl := h1 a1
  obtain ⟨_, ces, c1, c2, c3⟩ := a3 a 0 hl
  exact ⟨a, ces, rfl, hl, c1, by simpa using c2, fun i h h' => by have := c3 i h (by simpa using h'); simpa using this⟩

theorem run_getObj_map {a : Nat} {ces : Array MapEntry} {cl : Nat} (h : w.heap[a]? = some (.map ces cl)) : (getObj a).run P w = .ok (.map ces cl) w := by
  simp [getObj, Sem.run, h]

theorem eq_nilSlice {t e : TypeId} (hu : P.underlying t = some (.slice e)) (d : Nat) {ad : Addr} {n m : Nat} :
    (Op.equalIn (d + 1) t (.slice none 0 0) (.slice (some ad) n m)).run P w = .ok false w ∧ (Op.equalIn (d + 1) t (.slice (some ad) n m) (.slice none 0 0)).run P w = .ok false w := by
  constructor <;> simp [Op.equalIn, run_und hu]
theorem eq_nilIface {t : TypeId} {m : Array (String × TypeId)} (hu : P.underlying t = some (.interface m)) (d : Nat) : (Op.equalIn (d + 1) t .nilIface .nilIface).run P w = .ok true w := by
  simp [Op.equalIn, run_und hu]
theorem guard_nil {t : TypeId} {x y : Operand} (op : BinOp) (h : (isConst x || isConst y) = true) : (eqGuard op t x y .nilIface .nilIface).run P w = .ok () w := by
  cases x <;> cases y <;> simp [isConst] at h <;> cases op <;> simp [eqGuard]

theorem q_eqv (hr : Rel P G X s w) {tm : List AV} {a : Act} {o : Oper} {bo : BinOp} {t yt : TypeId} {x y : Operand} (hx : VR X w (ev tm (cOpd G x)) (a.eval x)) (hy : VR X w (ev tm (cOpd G y)) (a.eval y))
    {k : EK} {neg : Bool} {v : AV} (hk : ekOk P k t) (hbo : bo = if neg then .neq else .eql) (h : qop tm s (.eqv k neg (isConst x || isConst y) (cOpd G x) (cOpd G y)) = some v) (ho : o.op = .binOp bo t x y yt := by rfl) :
    QOk P G X s w v ((execOp a.eval o).run P w) := by
  simp only [qop] at h
  have fin : ∀ r : Bool, (AV.bool (r != neg) = v) → (eqGuard .eql t x y (a.eval x) (a.eval y)).run P w = .ok () w → (eqGuard .neq t x y (a.eval x) (a.eval y)).run P w = .ok () w →
      (Go.binOp .eql t (a.eval x) (a.eval y)).run P w = .ok (.bool r) w → (Go.binOp .neq t (a.eval x) (a.eval y)).run P w = .ok (.bool (!r)) w →
      QOk P G X s w v ((execOp a.eval o).run P w) := by
    intro r hv g1 g2 e1 e2
    subst hv
    refine QOk.same hr (c := .bool (r != neg)) ?_ (.bool _)
    cases neg with
    | true => simp at hbo; subst hbo; simp [execOp, ho, g2, e2]
    | false => simp at hbo; subst hbo; simp [execOp, ho, g1, e1]
  have nils : ∀ r : Bool, a.eval x = .slice none 0 0 ∧ (∃ ad n m, a.eval y = .slice (some ad) n m) ∨ a.eval y = .slice none 0 0 ∧ (∃ ad n m, a.eval x = .slice (some ad) n m) → k = .slice → AV.bool neg = v →
      QOk P G X s w v ((execOp a.eval o).run P w) := by
    intro _ hcase hks hv
    subst hks
    obtain ⟨e, hu⟩ := hk
    rcases hcase with ⟨hx', ad, n, m, hy'⟩ | ⟨hy', ad, n, m, hx'⟩
    all_goals
      have h1 : (Op.equal t (a.eval x) (a.eval y)).run P w = .ok false w := by
        rw [hx', hy']
        first | exact (eq_nilSlice hu 9999).1 | exact (eq_nilSlice hu 9999).2
      obtain ⟨e1, e2⟩ := run_eq_of h1 (by rw [hx', hy']; intro a b h; cases h.1) (by rw [hx', hy']; intro a b c d h; cases h.1) (by rw [hx', hy']; intro a b c d h; cases h.1) (by rw [hx', hy']; intro a b c d e f h; cases h.1)
      exact fin false (by simpa using hv) (by rw [hx', hy']; simp [eqGuard]) (by rw [hx', hy']; simp [eqGuard]) e1 e2
  split at h
  · rename_i hex hey
    split at h
    · rename_i hcst
      obtain ⟨hcst, rfl⟩ := hcst
      simp only [Option.some.injEq] at h
      rw [hex] at hx; rw [hey] at hy
      have hx' := hx.nili_inv
      have hy' := hy.nili_inv
      obtain ⟨m, hu⟩ := hk
      have h1 : (Op.equal t (a.eval x) (a.eval y)).run P w = .ok true w := by rw [hx', hy']; exact eq_nilIface hu 9999
      obtain ⟨e1, e2⟩ := run_eq_of h1 (by rw [hx']; intro a b h; cases h.1) (by rw [hx']; intro a b c d h; cases h.1) (by rw [hx']; intro a b c d h; cases h.1) (by rw [hx']; intro a b c d e f h; cases h.1)
      exact fin true (by rw [← h]; cases neg <;> rfl) (by rw [hx', hy']; exact guard_nil _ hcst) (by rw [hx', hy']; exact guard_nil _ hcst) e1 e2
    · cases h
  · rename_i r v' off len ex rows hex hey
    split at h
    · rename_i hks
      obtain ⟨rs, hrs, h⟩ := opt_some h
      simp only [Option.some.injEq] at h
      rw [hex] at hx; rw [hey] at hy
      have hy' := (list_nil hy).1
      simp only [rowsOf] at hrs
      split at hrs
      · rename_i v'' sz rws fz hg
        split at hrs
        · rename_i hc'
          obtain ⟨a1, _⟩ := hr.ent r _ hg
          generalize hcx : a.eval x = cx at hx
          cases hx with
          | sl _ _ _ _ _ ad cap d1 d2 d3 d4 d5 =>
          obtain ⟨b, base, e1, ⟨a', rfl, e2⟩, _⟩ := d5 (hc'.1 ▸ a1.symm)
          exact nils true (.inr ⟨hy', a', len, cap, hcx⟩) hks h
        · cases hrs
      · cases hrs
    · cases h
  · rename_i rows r v' off len ex hex hey
    split at h
    · rename_i hks
      obtain ⟨rs, hrs, h⟩ := opt_some h
      simp only [Option.some.injEq] at h
      rw [hex] at hx; rw [hey] at hy
      have hx' := (list_nil hx).1
      simp only [rowsOf] at hrs
      split at hrs
      · rename_i v'' sz rws fz hg
        split at hrs
        · rename_i hc'
          obtain ⟨a1, _⟩ := hr.ent r _ hg
          generalize hcy : a.eval y = cy at hy
          cases hy with
          | sl _ _ _ _ _ ad cap d1 d2 d3 d4 d5 =>
          obtain ⟨b, base, e1, ⟨a', rfl, e2⟩, _⟩ := d5 (hc'.1 ▸ a1.symm)
          exact nils true (.inl ⟨hx', a', len, cap, hcy⟩) hks h
        · cases hrs
      · cases hrs
    · cases h
  · cases hq : avEq k (ev tm (cOpd G x)) (ev tm (cOpd G y)) with
    | none => rw [hq] at h; cases h
    | some r =>
      rw [hq] at h
      simp only [Option.map_some, Option.some.injEq] at h
      obtain ⟨g1, g2, g3, n1, n2, n3, n4⟩ := avEq_sound hq hx hy hk x y 9999 w
      obtain ⟨e1, e2⟩ := run_eq_of (show (Op.equal t (a.eval x) (a.eval y)).run P w = .ok r w from g3) n1 n2 n3 n4
      exact fin r h g1 g2 e1 e2

theorem qop_sound (hr : Rel P G X s w) {tm : List AV} {a : Act} (ht : VRs X w tm a.tmps.toList) (own : Bool) (o : Oper) (hc : (cOp P G own o).cls = .q) {v : AV}
    (h : qop tm s (cOp P G own o) = some v) : QOk P G X s w v ((execOp a.eval o).run P w) := by
  obtain ⟨dst, op, ty, pos, after, guard⟩ := o
  cases op with
  | move x =>
    simp only [cOp, qop, Option.some.injEq] at h; subst h
    exact QOk.same hr rfl (opd_sound hr ht x)
  | assign x => simp [cOp, AOp.cls] at hc
  | pick c x y =>
    simp only [cOp, qop] at h
    split at h
    · rename_i t hb
      have hcv := opd_sound hr ht c
      rw [hb] at hcv
      have hcv' := hcv.bool_inv
      simp only [Option.some.injEq] at h; subst h
      refine QOk.same hr (c := if t then a.eval x else a.eval y) ?_ (by cases t <;> exact opd_sound hr ht _)
      simp [execOp, hcv', asBool]
    · cases h
  | alloc e => simp only [cOp] at hc; split at hc <;> simp [AOp.cls] at hc
  | box e x => simp [cOp, AOp.cls] at hc
  | build t ps =>
    simp only [cOp] at h hc
    split at h
    · rename_i fs z hu hz
      split at h
      · rename_i hcond
        simp only [qop] at h
        obtain ⟨c, h1, h2⟩ := q_build hr ht hz (.inl ⟨fs, hu, fun p hm => by simpa using List.all_eq_true.1 hcond.1 p hm, fun f hm => by simpa using List.all_eq_true.1 hcond.2 f hm, h⟩)
        exact QOk.of hr h1 h2
      · cases h
    · rename_i n e z hu hz
      split at h
      · rename_i hi
        simp only [qop] at h
        obtain ⟨c, h1, h2⟩ := q_build hr ht hz (.inr ⟨n, e, hu, hi, h⟩)
        exact QOk.of hr h1 h2
      · cases h
    · cases h
  | buildSlice t n ps =>
    simp only [cOp] at h hc
    split at h
    · rename_i e hu
      split at h
      · rename_i z hz
        split at h
        · rename_i hcond
          cases own with
          | true => simp only [hu, hz, if_pos hcond, AOp.cls] at hc; cases hc
          | false =>
            simp only [qop] at h
            cases hf : fillRows z.length n (List.replicate n z) ((ps.toList.map fun p => (p.1, cOpd G p.2)).map fun p => (p.1, ev tm p.2)) with
            | none => rw [hf] at h; cases h
            | some rows =>
              rw [hf] at h
              simp only [Option.map_some, Option.some.injEq] at h
              subst h
              obtain ⟨cs', e1, e2, e3, e4⟩ := bsl_run hr ht hu hz hcond.1 hcond.2 hf
              obtain ⟨g1, g2, g3⟩ := q_bslImm hr (e := e) e2 e3 e4
              exact ⟨_, _, _, by simp only [execOp, Sem.run_bind, e1, Result.andThen_ok, Sem.run_pure], g1, g2, g3, rfl, rfl, rfl, rfl, rfl, rfl, rfl⟩
        · cases h
      · cases h
    · cases h
  | load t x =>
    simp only [cOp] at h hc
    split at h
    · rename_i hcond
      simp only [qop] at h
      obtain ⟨b, st, row, o, e1, e2, e3⟩ := place_sound hr h (opd_sound hr ht x)
      obtain ⟨c, f1, f2⟩ := getRow_sound e2 hcond.2 e3
      refine QOk.of hr (c := c) ?_ f2
      simp only [e1, Instr.loadAt, Instr.sureAddr, Sem.run_bind, Sem.run_pure, Result.andThen_ok, f1]
    · cases h
  | store t x y => simp only [cOp] at hc; split at hc <;> simp [AOp.cls] at hc
  | nilCheck x =>
    simp only [cOp, qop] at h
    have hx := opd_sound hr ht x
    refine QOk.same hr (c := a.eval x) ?_ ?_
    · split at h
      · rename_i heq; rw [heq] at hx; obtain ⟨d, hd⟩ := hx.addr (.inl ⟨_, _, _, _, rfl⟩); simp [execOp, hd]
      · rename_i heq; rw [heq] at hx; obtain ⟨d, hd⟩ := hx.addr (.inr ⟨_, _, rfl⟩); simp [execOp, hd]
      · rename_i f b c heq
        rw [heq] at hx
        generalize he : a.eval x = cv at hx ⊢
        cases hx with
        | fn _ f' _ _ cf cc hf =>
          cases hf with
          | same _ hne => simp [execOp, he]
      · cases h
    · split at h
      · rename_i heq; cases h; rw [← heq]; exact hx
      · rename_i heq; cases h; rw [← heq]; exact hx
      · rename_i heq; cases h; rw [← heq]; exact hx
      · cases h
  | binOp bo t x y yt =>
    have hx := opd_sound hr ht x
    have hy := opd_sound hr ht y
    have plain : ∀ {v : AV}, Go.Am.bin bo (ev tm (cOpd G x)) (ev tm (cOpd G y)) = some v → QOk P G X s w v ((execOp a.eval { dst := dst, op := .binOp bo t x y yt, type := ty, pos := pos, after := after, guard := guard }).run P w) := fun h => by
      obtain ⟨c, h1, h2⟩ := bin_sound h hx hy t x y w
      exact QOk.of hr h1 h2
    have eqs : ∀ {k : EK} {neg : Bool} {v : AV}, ekOk P k t → (bo = if neg then .neq else .eql) →
        qop tm s (.eqv k neg (isConst x || isConst y) (cOpd G x) (cOpd G y)) = some v → QOk P G X s w v ((execOp a.eval { dst := dst, op := .binOp bo t x y yt, type := ty, pos := pos, after := after, guard := guard }).run P w) :=
      fun hk hbo h => q_eqv hr hx hy hk hbo h
    simp only [cOp] at h hc
    split at h
    · exact plain h
    · exact plain h
    · split at h
      · cases h
      · rename_i neg hneg
        have hbo : bo = if neg then .neq else .eql := by
          cases bo <;> simp at hneg <;> subst hneg <;> rfl
        split at h
        · rename_i hu; exact eqs (k := .bool) hu hbo h
        · rename_i e hu; exact eqs (k := .ptr) ⟨e, hu⟩ hbo h
        · rename_i e hu; exact eqs (k := .slice) ⟨e, hu⟩ hbo h
        · rename_i e e' hu; exact eqs (k := .map) ⟨e, e', hu⟩ hbo h
        · rename_i e e' e'' hu; exact eqs (k := .func) ⟨e, e', e'', hu⟩ hbo h
        · rename_i e hu; exact eqs (k := .iface) ⟨e, hu⟩ hbo h
        · rename_i fs hu
          split at h
          · rename_i ks hks
            split at h
            · cases h
            · rename_i hgt
              simp only [qop] at h
              split at h
              · rename_i l l' hex hey
                cases hq : cellsEq ks l l' with
                | none => rw [hq] at h; cases h
                | some r =>
                  rw [hq] at h
                  simp only [Option.map_some, Option.some.injEq] at h
                  rw [hex] at hx; rw [hey] at hy
                  obtain ⟨xs, hxs⟩ := hx.agg_inv
                  obtain ⟨ys, hys⟩ := hy.agg_inv
                  have hag : aggT P t = true := by simp [aggT, hu]
                  have he : (Op.equal t (a.eval x) (a.eval y)).run P w = .ok r w := by
                    unfold Op.equal
                    refine flat_eq (X := X) (w := w) 5 t ks hks l l' _ _ r hq ?_ _ (by simp [Op.maxDepth]) w
                    rw [hag]; exact ⟨hx, hy⟩
                  obtain ⟨e1, e2⟩ := run_eq_of he (by rw [hxs]; intro a b h; cases h.1) (by rw [hxs]; intro a b c d h; cases h.1) (by rw [hxs]; intro a b c d h; cases h.1) (by rw [hxs]; intro a b c d e f h; cases h.1)
                  have hgt' : P.eqGuardType P.depth t = false := by simpa using hgt
                  subst h
                  refine QOk.same hr (c := .bool (r != neg)) ?_ (.bool _)
                  cases neg with
                  | true => simp at hbo; subst hbo; rw [hxs, hys] at e2; simp [execOp, hxs, hys, eqGuard, hgt', e2]
                  | false => simp at hbo; subst hbo; rw [hxs, hys] at e1; simp [execOp, hxs, hys, eqGuard, hgt', e1]
              · cases h
          · cases h
        · cases h
  | unOp uo t x =>
    simp only [cOp, qop] at h
    have hx := opd_sound hr ht x
    split at h
    · rename_i k n heq
      rw [heq] at hx
      cases h
      refine QOk.same hr (c := .int k (k.wrap (0 - n))) ?_ (.int _ _)
      simp [execOp, hx.int_inv, Op.unary, Op.intArith]
    · rename_i b heq
      rw [heq] at hx
      cases h
      refine QOk.same hr (c := .bool !b) ?_ (.bool _)
      simp [execOp, hx.bool_inv, Op.unary]
    · rename_i k n heq
      rw [heq] at hx
      simp only [binI, Option.some.injEq] at h
      subst h
      refine QOk.same hr ?_ (.int _ _)
      simp [execOp, hx.int_inv, Op.unary, Op.intBits]
    · cases h
  | convert sT dT x =>
    have hx := opd_sound hr ht x
    simp only [cOp] at h hc
    split at h
    · rename_i k0 k hs hd
      simp only [qop] at h
      split at h
      · rename_i k' n heq
        rw [heq] at hx
        cases h
        refine QOk.same hr (c := .int k (k.wrap n)) ?_ (.int _ _)
        simp [execOp, hx.int_inv, convert, run_und hs, run_und hd, Conv.intToInt]
      · cases h
    · rename_i hs hd
      simp only [qop] at h
      split at h
      · rename_i b heq
        rw [heq] at hx
        cases h
        obtain ⟨bs, hb, rfl⟩ := hx.str_inv
        refine QOk.same hr (c := .string bs) ?_ (.str _)
        simp [execOp, hb, convert, run_und hs, run_und hd]
      · cases h
    · rename_i e hs hd
      split at h
      · split at h
        · cases h
        · cases h
      · cases h
    · rename_i e hs hd
      split at h
      · rename_i he
        simp only [qop] at h
        obtain ⟨rows, hrows, h⟩ := opt_some h
        obtain ⟨ad, cap, hcx, hat⟩ := rowsOf_sound hr hrows hx
        cases hb : asBytes rows with
        | none => rw [hb] at h; cases h
        | some bs =>
          rw [hb] at h
          simp only [Option.map_some, Option.some.injEq] at h
          subst h
          have hlen := asBytes_length hb
          cases hrn : rows with
          | nil =>
            subst hrn
            simp only [List.length_nil] at hcx hlen
            have : bs = [] := List.length_eq_zero_iff.1 hlen
            subst this
            refine QOk.same hr (c := .string .empty) ?_ (.str .empty)
            cases ad with
            | none => simp [execOp, hcx, convert, run_und hs, run_und hd, run_und he, Conv.bytesToString]
            | some ad =>
              simp [execOp, hcx, convert, run_und hs, run_und hd, run_und he, Conv.bytesToString, loadCells, loadCellsFrom]
          | cons row0 rows0 =>
            have hpos : 0 < rows.length := by rw [hrn]; simp
            obtain ⟨b, st, sz, rfl, hsz, hcells⟩ := hat (by rw [hrn]; simp)
            have hb0 := asBytes_sound hb
            have hsz1 : sz = 1 := by
              obtain ⟨n, e1, _⟩ := hb0 0 hpos
              have := hsz rows[0] (List.getElem_mem _)
              rw [e1] at this; simpa using this.symm
            subst hsz1
            have hch : ∀ j, ∃ n : Int, j < rows.length → cellAt w b (st + j) = some (.int .u8 n) ∧ 0 ≤ n ∧ n < 256 ∧ bs[j]? = some n.toNat := by
              intro j
              by_cases hj : j < rows.length
              · obtain ⟨n, e1, e2, e3, e4⟩ := hb0 j hj
                have hl0 : 0 < rows[j].length := by rw [e1]; simp
                obtain ⟨c, f1, f2⟩ := hcells j 0 hj hl0
                have : rows[j][0] = .int .u8 n := by simp [e1]
                rw [this] at f2
                have := f2.int_inv
                subst this
                exact ⟨n, fun _ => ⟨by simpa using f1, e2, e3, e4⟩⟩
              · exact ⟨0, fun h => absurd h hj⟩
            obtain ⟨ns, hns⟩ := Classical.axiomOfChoice hch
            have hload := run_loadCells (P := P) (w := w) (b := b) (o := st) (fun j => Value.int .u8 (ns j)) rows.length (fun j hj => (hns j hj).1)
            have hrun := run_bytesToString (P := P) w ⟨b, st, none⟩ rows.length cap ((List.range rows.length).map ns) (by rw [hload]; simp [List.map_map, Function.comp_def])
            have hbytes : ∀ (l : List Int) (acc : ByteArray), bytesN (l.foldl (fun s n => s.push (UInt8.ofNat n.toNat)) acc) = bytesN acc ++ l.map fun n => (UInt8.ofNat n.toNat).toNat := by
              intro l
              induction l with
              | nil => intro acc; simp
              | cons j l ih => intro acc; rw [List.foldl_cons, ih]; simp [bytesN]
            have hfin : bs = bytesN (((List.range rows.length).map ns).foldl (fun s n => s.push (UInt8.ofNat n.toNat)) .empty) := by
              rw [hbytes]
              apply List.ext_getElem?
              intro j
              by_cases hj : j < rows.length
              · rw [(hns j hj).2.2.2]
                have := (hns j hj).2
                simp [bytesN, hj]
                omega
              · rw [List.getElem?_eq_none (by omega), List.getElem?_eq_none (by simp [bytesN]; omega)]
            rw [hfin]
            refine QOk.same hr (c := .string (((List.range rows.length).map ns).foldl (fun s n => s.push (UInt8.ofNat n.toNat)) .empty)) ?_ (.str _)
            simp only [execOp, Sem.run_bind, hcx, convert, run_und hs, run_und hd, run_und he, Result.andThen_ok, hrun, Sem.run_pure]
      · cases h
    · rename_i k hs hd
      simp only [qop] at h
      split at h
      · rename_i k' n heq
        rw [heq] at hx
        cases h
        refine QOk.same hr (c := .string (Utf8.encode n)) ?_ (.str _)
        simp [execOp, hx.int_inv, convert, run_und hs, run_und hd, Conv.intToString]
      · cases h
    · cases h
  | makeInterface t x =>
    simp only [cOp] at h hc
    split at h
    · cases h
    · cases h
    · rename_i hn1 hn2
      simp only [qop, Option.some.injEq] at h
      subst h
      refine QOk.same hr (c := .iface t (a.eval x)) ?_ (.ifc t _ _ (opd_sound hr ht x))
      obtain ⟨u, hu⟩ : ∃ u, P.underlying t = some u := by
        cases hu : P.underlying t with
        | none => exact absurd hu hn2
        | some u => exact ⟨u, rfl⟩
      have hni : ∀ m, u ≠ .interface m := fun m e => hn1 m (e ▸ hu)
      simp only [execOp, Sem.run_bind, Instr.makeInterface, run_und hu, Result.andThen_ok]
      cases u <;> first | (exact absurd rfl (hni _)) | rfl
  | makeFunc f fs cs =>
    cases f with
    | yield l => simp [cOp, AOp.cls] at hc
    | _ =>
      simp only [cOp, qop, Option.some.injEq] at h
      subst h
      refine QOk.same hr (c := .func _ (fs.map a.eval) (cs.map a.eval)) rfl ?_
      have h1 := opds_sound hr ht fs
      have h2 := opds_sound hr ht cs
      refine .fn _ _ _ _ _ _ (.same _ (fun l e => by cases e)) (by simp) (by simp) (fun i h h' => ?_) (fun i h h' => ?_)
      · have := h1.2 i h (by simpa using h'); simpa using this
      · have := h2.2 i h (by simpa using h'); simpa using this
  | slice t x lo hi mx =>
    have hx := opd_sound hr ht x
    simp only [cOp] at h hc
    have run : ∀ {str : Bool} {sz : Nat} {m : Option Operand} , qop tm s (.slice str sz (cOpd G x) (lo.map (cOpd G)) (hi.map (cOpd G)) (m.map (cOpd G))) = some v → m = mx → (mx.isSome → hi.isSome) →
        ((str = true ∧ P.underlying t = some .string ∧ mx = none) ∨ (str = false ∧ ∃ e, P.underlying t = some (.slice e) ∧ sz = P.cellsOf e ∧ 0 < sz)) →
        QOk P G X s w v ((execOp a.eval { dst := dst, op := .slice t x lo hi mx, type := ty, pos := pos, after := after, guard := guard }).run P w) := by
      intro str sz m hq hm hmh hu
      subst hm
      simp only [qop] at hq
      obtain ⟨l', e1, hq⟩ := opt_some hq
      obtain ⟨h', e2, hq⟩ := opt_some hq
      obtain ⟨m', e3, hq⟩ := opt_some hq
      have o3 := asNatO_sound hr ht e3
      have o2 := asNatO_sound hr ht e2
      have hmh' : m'.isSome → h'.isSome := by
        intro hs
        cases m' with
        | none => cases hs
        | some m' =>
          cases m with
          | none => exact absurd o3 (by simp [OptNat])
          | some m =>
            have := hmh rfl
            cases hi with
            | none => cases this
            | some hi => cases h' with
              | none => exact absurd o2 (by simp [OptNat])
              | some h' => rfl
      obtain ⟨c, f1, f2⟩ := q_slice hr hx (asNatO_sound hr ht e1) o2 o3 hmh' hq (hu.imp (fun p => ⟨p.1, p.2.1, by rw [p.2.2]; rfl⟩) id)
      exact QOk.of hr f1 f2
    split at h
    · rename_i hu
      split at h
      · rename_i hm
        have hm : mx = none := by simpa using hm
        subst hm
        exact run (m := none) h rfl (fun h => by cases h) (.inl ⟨rfl, hu, rfl⟩)
      · cases h
    · rename_i e hu
      split at h
      · rename_i hcond
        exact run (m := mx) h rfl (fun hs => by simpa using hcond.2 hs) (.inr ⟨rfl, e, hu, rfl, hcond.1⟩)
      · cases h
    · cases h
  | fieldAddr t x i =>
    have hx := opd_sound hr ht x
    simp only [cOp] at h hc
    split at h
    · rename_i fs hu
      split at h
      · rename_i f hf
        split at h
        · cases h
        · rename_i hne
          simp only [qop] at h
          obtain ⟨c, f1, f2⟩ := q_faddr h hx hu hf hne rfl
          exact QOk.of hr f1 f2
      · cases h
    · cases h
  | field t x i =>
    have hx := opd_sound hr ht x
    simp only [cOp] at h hc
    split at h
    · rename_i fs hu
      split at h
      · rename_i f hf
        split at h
        · rename_i hs
          simp only [qop] at h
          split at h
          · rename_i l heq
            rw [heq] at hx
            obtain ⟨cs, hcs⟩ := hx.agg_inv
            rw [hcs] at hx
            obtain ⟨c, f1, f2⟩ := part_sound hx hs h
            refine QOk.of hr (c := c) ?_ f2
            simp [Instr.field, run_und hu, hf, hcs, asAgg, f1]
          · cases h
        · cases h
      · cases h
    · cases h
  | indexAddr t x i =>
    have hx := opd_sound hr ht x
    have hi := opd_sound hr ht i
    simp only [cOp] at h hc
    split at h
    · rename_i e hu
      split at h
      · rename_i hpos
        simp only [qop] at h
        obtain ⟨c, f1, f2⟩ := q_iaddr hr h hx hi (.inr ⟨rfl, hu⟩) rfl hpos
        exact QOk.of hr f1 f2
      · cases h
    · rename_i n e hu
      split at h
      · rename_i hpos
        simp only [qop] at h
        obtain ⟨c, f1, f2⟩ := q_iaddr hr h hx hi (.inl ⟨n, rfl, hu⟩) rfl hpos
        exact QOk.of hr f1 f2
      · cases h
    · cases h
  | index t x i =>
    have hx := opd_sound hr ht x
    have hi := opd_sound hr ht i
    simp only [cOp] at h hc
    split at h
    · rename_i hu
      simp only [qop] at h
      obtain ⟨n, hn, h⟩ := opt_some h
      obtain ⟨k, hk⟩ := asNat_sound hn hi
      split at h
      · rename_i b heq
        rw [heq] at hx
        obtain ⟨bs, hb, rfl⟩ := hx.str_inv
        obtain ⟨m, hm, h⟩ := opt_some h
        simp only [Option.some.injEq] at h
        subst h
        obtain ⟨hlt, hm⟩ := List.getElem?_eq_some_iff.1 hm
        rw [bytesN_length] at hlt
        have e1 : bs[n]? = some bs[n] := getElem?_pos bs n hlt
        have e2 : bs[n].toNat = m := by rw [← hm]; simp only [bytesN, List.getElem_map, Array.getElem_toList]; rfl
        refine QOk.same hr (c := .int .u8 m) ?_ (.int _ _)
        simp [execOp, Instr.index, hk, hb, asIntOf, run_und hu, e1, e2]
      · rename_i heq _; cases heq
      · cases h
    · rename_i n e hu
      split at h
      · rename_i hs
        simp only [qop] at h
        obtain ⟨j, hn, h⟩ := opt_some h
        obtain ⟨k, hk⟩ := asNat_sound hn hi
        split at h
        · rename_i heq _; cases heq
        · rename_i n' sz g l heq1 heq
          cases heq1
          rw [heq] at hx
          obtain ⟨cs, hcs⟩ := hx.agg_inv
          rw [hcs] at hx
          split at h
          · rename_i hlt
            obtain ⟨c, f1, f2⟩ := part_sound hx hs h
            refine QOk.of hr (c := c) ?_ f2
            simp [Instr.index, hk, hcs, asIntOf, run_und hu, hlt, run_sizeOf' (info_of_und hs), f1]
          · cases h
        · cases h
      · cases h
    · cases h
  | extract x i =>
    have hx := opd_sound hr ht x
    simp only [cOp, qop] at h
    split at h
    · rename_i l heq
      rw [heq] at hx
      obtain ⟨cs, hcs, hv⟩ := hx.tup_inv
      rcases hv.nth i with ⟨h1, _⟩ | ⟨av, c, h1, h2, h3⟩
      · rw [h1] at h; cases h
      · rw [h1] at h; cases h
        refine QOk.same hr (c := c) ?_ h3
        have : cs[i]? = some c := by simpa using h2
        simp [execOp, hcs, Instr.extract, this]
    · cases h
  | lookup t m k ok =>
    have hm := opd_sound hr ht m
    have hk := opd_sound hr ht k
    simp only [cOp] at h hc
    split at h
    · rename_i kt e hu
      split at h
      · rename_i z hz
        split at h
        · rename_i q hq
          simp only [qop] at h
          obtain ⟨zc, z1, z2⟩ := zeroOf_sound (X := X) (w := w) hz w
          have fin : ∀ (av : AV) (b : Bool) (c : Value), VR X w av c → some (if ok = true then AV.tup [av, .bool b] else av) = some v →
              VR X w v (if ok = true then .tuple #[c, .bool b] else c) := by
            intro av b c hv he
            cases he
            cases ok with
            | true => exact hv.pair (.bool b)
            | false => exact hv
          split at h
          · rename_i heq
            rw [heq] at hm
            obtain ⟨r, hr0, h⟩ := opt_some h
            have hck := checkKey_sound hq hk (keyEq_keyV hr0).1 true w
            refine QOk.same hr (c := if ok = true then .tuple #[zc, .bool false] else zc) ?_ (fin z false zc z2 h)
            have e1 : (Instr.findKey kt (a.eval k) []).run P w = .ok none w := by
              obtain ⟨r', r1, r2⟩ := run_findKey hq hk (es := []) (ces := []) (x := none) rfl ⟨rfl, fun i h => by simp at h⟩ w
              simp only [FK] at r2; rw [r1, r2]
            have hmc := hm.nilm_inv
            simp only [execOp, Sem.run_bind, Instr.lookup, run_und hu, Result.andThen_ok, hmc, Sem.run_pure]
            simp only [Array.isEmpty_empty, hck, Result.andThen_ok, e1, Sem.run_bind, z1, Sem.run_pure]
          · rename_i r heq
            rw [heq] at hm
            split at h
            · rename_i es cl hg
              obtain ⟨ad, ces, hmc, hl, hh, hes⟩ := q_getMap hr hg hm
              obtain ⟨r0, hr0, h⟩ := opt_some h
              have hck := checkKey_sound hq hk (keyEq_keyV hr0).1 ces.isEmpty w
              obtain ⟨fk, hfk, h⟩ := opt_some h
              obtain ⟨r', r1, r2⟩ := run_findKey hq hk hfk hes w
              cases fk with
              | none =>
                simp only [FK] at r2
                subst r2
                refine QOk.same hr (c := if ok = true then .tuple #[zc, .bool false] else zc) ?_ (fin z false zc z2 h)
                simp only [execOp, Sem.run_bind, Instr.lookup, run_und hu, Result.andThen_ok, hmc, Sem.run_pure, run_getObj_map hh, hck, r1, z1]
              | some p =>
                obtain ⟨j, av, bn⟩ := p
                obtain ⟨kk, e1, e2, e3, e4, e5, e6⟩ := r2
                subst e4
                have hvv := (hes.2 kk e3 e2).2.1
                rw [e5] at hvv
                refine QOk.same hr (c := if ok = true then .tuple #[ces.toList[kk].val, .bool true] else ces.toList[kk].val) ?_ (fin av true _ hvv h)
                simp only [execOp, Sem.run_bind, Instr.lookup, run_und hu, Result.andThen_ok, hmc, Sem.run_pure, run_getObj_map hh, hck, r1]
            · cases h
          · cases h
        · cases h
      · cases h
    · cases h
  | typeAssert x xT t ok =>
    have hx := opd_sound hr ht x
    simp only [cOp] at h hc
    split at h
    · rename_i ms z hu hz
      simp only [qop] at h
      obtain ⟨zc, z1, z2⟩ := zeroOf_sound (X := X) (w := w) hz w
      split at h
      · rename_i heq
        rw [heq] at hx
        split at h
        · rename_i hok
          subst hok
          cases h
          refine QOk.same hr (c := .tuple #[zc, .bool false]) ?_ (z2.pair (.bool false))
          simp [execOp, hx.nili_inv, Instr.typeAssert, run_und hu, z1]
        · cases h
      · cases h
    · rename_i u z hni hu hz
      simp only [qop] at h
      obtain ⟨zc, z1, z2⟩ := zeroOf_sound (X := X) (w := w) hz w
      split at h
      · rename_i heq
        rw [heq] at hx
        split at h
        · rename_i hok
          subst hok
          cases h
          refine QOk.same hr (c := .tuple #[zc, .bool false]) ?_ (z2.pair (.bool false))
          simp only [execOp, hx.nili_inv, Instr.typeAssert, Sem.run_bind, run_und hu, Result.andThen_ok]
          cases u <;> first | (exact absurd rfl (hni _)) | simp [z1]
        · cases h
      · rename_i t' v' heq
        rw [heq] at hx
        obtain ⟨d, hd, hv⟩ := hx.ifc_inv
        split at h
        · rename_i htt
          cases h
          refine QOk.same hr (c := if ok = true then .tuple #[d, .bool true] else d) ?_ (by cases ok with | true => exact hv.pair (.bool true) | false => exact hv)
          simp only [execOp, hd, Instr.typeAssert, Sem.run_bind, run_und hu, Result.andThen_ok]
          cases u <;> first | (exact absurd rfl (hni _)) | simp [htt]
        · rename_i htt
          split at h
          · rename_i hok
            subst hok
            cases h
            refine QOk.same hr (c := .tuple #[zc, .bool false]) ?_ (z2.pair (.bool false))
            simp only [execOp, hd, Instr.typeAssert, Sem.run_bind, run_und hu, Result.andThen_ok]
            cases u <;> first | (exact absurd rfl (hni _)) | simp [htt, z1]
          · cases h
      · cases h
    · cases h
  | call c =>
    obtain ⟨callee, args, ats⟩ := c
    have ha := opds_sound hr ht args
    simp only [cOp, cCall] at h hc
    cases callee with
    | value f => simp [AOp.cls] at hc
    | invoke r n => simp [AOp.cls] at hc
    | builtin b =>
      have one : ∀ {x' : Opd}, args.toList.map (cOpd G) = [x'] → ∃ x, args = #[x] ∧ x' = cOpd G x := by
        intro x' he
        obtain ⟨l⟩ := args
        cases l with
        | nil => simp at he
        | cons x l => cases l with
          | nil => simp at he; exact ⟨x, rfl, he.symm⟩
          | cons y l => simp at he
      have two : ∀ {x' y' : Opd}, args.toList.map (cOpd G) = [x', y'] → ∃ x y, args = #[x, y] ∧ x' = cOpd G x ∧ y' = cOpd G y := by
        intro x' y' he
        obtain ⟨l⟩ := args
        match l, he with
        | [x, y], he => simp at he; exact ⟨x, y, rfl, he.1.symm, he.2.symm⟩
      have typ : ∀ {u : TypeDesc}, (ats[0]?).bind P.underlying = some u → ∃ t, ats[0]? = some t ∧ P.underlying t = some u := by
        intro u hu
        cases h0 : ats[0]? with
        | none => rw [h0] at hu; cases hu
        | some t => rw [h0] at hu; exact ⟨t, rfl, hu⟩
      simp only at h hc
      split at h
      · -- len
        rename_i x' he
        obtain ⟨x, rfl, rfl⟩ := one he
        have hx := opd_sound hr ht x
        split at h
        · rename_i hu
          obtain ⟨t, h1, h2⟩ := typ hu
          simp only [qop] at h
          split at h
          · rename_i bl _ heq
            rw [heq] at hx
            obtain ⟨bs, hb, rfl⟩ := hx.str_inv
            cases h
            refine QOk.same hr (c := .int .i64 (bytesN bs).length) ?_ (.int _ _)
            simp [execOp, resolve, invoke, builtin, Builtin.len_, h1, run_und h2, hb, goInt, bytesN_length]
          all_goals first | (rename_i heq _; cases heq; done) | (cases h; done) | skip
        · rename_i e hu
          obtain ⟨t, h1, h2⟩ := typ hu
          simp only [qop] at h
          split at h
          · rename_i heq _; cases heq
          · rename_i k rows _ heq
            rw [heq] at hx
            cases h
            have hc2 : ∃ ad cap, a.eval x = .slice ad rows.length cap := by
              generalize a.eval x = cv at hx
              cases hx with
              | lnil => exact ⟨_, _, rfl⟩
              | list => exact ⟨_, _, rfl⟩
            obtain ⟨ad, cap, hc2⟩ := hc2
            refine QOk.same hr (c := .int .i64 rows.length) ?_ (.int _ _)
            simp [execOp, resolve, invoke, builtin, Builtin.len_, h1, run_und h2, hc2, goInt]
          · rename_i r v' off n ex _ heq
            rw [heq] at hx
            cases h
            have hc2 : ∃ ad cap, a.eval x = .slice ad n cap := by
              generalize a.eval x = cv at hx
              cases hx with
              | sl => exact ⟨_, _, rfl⟩
            obtain ⟨ad, cap, hc2⟩ := hc2
            refine QOk.same hr (c := .int .i64 n) ?_ (.int _ _)
            simp [execOp, resolve, invoke, builtin, Builtin.len_, h1, run_und h2, hc2, goInt]
          all_goals first | (rename_i heq _; cases heq; done) | (cases h; done) | skip
        · rename_i k e hu
          obtain ⟨t, h1, h2⟩ := typ hu
          simp only [qop] at h
          split at h
          · rename_i heq _; cases heq
          · rename_i heq _; cases heq
          · rename_i heq _; cases heq
          · rename_i _ heq
            rw [heq] at hx
            cases h
            refine QOk.same hr (c := .int .i64 0) ?_ (.int _ _)
            simp [execOp, resolve, invoke, builtin, Builtin.len_, h1, run_und h2, hx.nilm_inv, goInt]
          · rename_i r _ heq
            rw [heq] at hx
            split at h
            · rename_i es cl hg
              cases h
              obtain ⟨ad, ces, hmc, hl, hh, hes⟩ := q_getMap hr hg hx
              refine QOk.same hr (c := .int .i64 es.length) ?_ (.int _ _)
              have := hes.1
              simp [execOp, resolve, invoke, builtin, Builtin.len_, h1, run_und h2, hmc, run_getObj_map hh, goInt]
              simp at this; omega
            · cases h
          · cases h
        · rename_i n e hu
          obtain ⟨t, h1, h2⟩ := typ hu
          simp only [qop, ev, Option.some.injEq] at h
          subst h
          refine QOk.same hr (c := .int .i64 n) ?_ (.int _ _)
          simp [execOp, resolve, invoke, builtin, Builtin.len_, h1, run_und h2, goInt]
        · rename_i p hu
          obtain ⟨t, h1, h2⟩ := typ hu
          split at h
          · rename_i n e hp
            simp only [qop, ev, Option.some.injEq] at h
            subst h
            refine QOk.same hr (c := .int .i64 n) ?_ (.int _ _)
            simp [execOp, resolve, invoke, builtin, Builtin.len_, h1, run_und h2, run_und hp, goInt]
          · cases h
        · cases h
      · split at h
        · split at h <;> simp only [qop] at h <;> cases h
        · cases h
      · split at h
        · split at h <;> simp only [qop] at h <;> cases h
        · cases h
      · -- min
        rename_i x' y' he
        obtain ⟨x, y, rfl, rfl, rfl⟩ := two he
        have hx := opd_sound hr ht x
        have hy := opd_sound hr ht y
        simp only [qop] at h
        split at h
        · rename_i k i k' j h1 h2
          rw [h1] at hx; rw [h2] at hy
          split at h
          · rename_i hk
            subst hk
            simp only [Bool.false_eq_true, if_false, Option.some.injEq] at h
            subst h
            refine QOk.same hr (c := .int k (if j < i then j else i)) ?_ (.int _ _)
            simp [execOp, resolve, invoke, builtin, Builtin.min_, Builtin.min2, hx.int_inv, hy.int_inv]
          · cases h
        · cases h
      · -- max
        rename_i x' y' he
        obtain ⟨x, y, rfl, rfl, rfl⟩ := two he
        have hx := opd_sound hr ht x
        have hy := opd_sound hr ht y
        simp only [qop] at h
        split at h
        · rename_i k i k' j h1 h2
          rw [h1] at hx; rw [h2] at hy
          split at h
          · rename_i hk
            subst hk
            simp only [if_true, Option.some.injEq] at h
            subst h
            refine QOk.same hr (c := .int k (if j > i then j else i)) ?_ (.int _ _)
            simp [execOp, resolve, invoke, builtin, Builtin.max_, Builtin.max2, hx.int_inv, hy.int_inv]
          · cases h
        · cases h
      · simp only [qop] at h; cases h
      · simp only [qop] at h; cases h
      · simp only [qop] at h; cases h
  | mapUpdate t m k v' => exact absurd hc (by simp only [cOp]; (repeat' split) <;> simp [AOp.cls])
  | insert t m k v' => exact absurd hc (by simp only [cOp]; (repeat' split) <;> simp [AOp.cls])
  | mapEntry t m k => exact absurd hc (by simp only [cOp]; (repeat' split) <;> simp [AOp.cls])
  | makeMap t r =>
    cases r with
    | none => exact absurd hc (by simp [cOp, AOp.cls])
    | some x => exact absurd hc (by simp only [cOp]; (repeat' split) <;> simp [AOp.cls])
  | makeSlice t l c => exact absurd hc (by simp only [cOp]; (repeat' split) <;> simp [AOp.cls])
  | defer c => exact absurd hc (by simp only [cOp]; (repeat' split) <;> simp [AOp.cls])
  | range t x => exact absurd hc (by simp only [cOp]; (repeat' split) <;> simp [AOp.cls])
  | next x b => exact absurd hc (by simp only [cOp]; (repeat' split) <;> simp [AOp.cls])
  | _ => exact absurd hc (by simp [cOp, AOp.cls])
end
end Go.Am

namespace Go.Am
open Go

section
variable {P : Program} {G : Nat → Option (List AV)} {X : Ctx} {s : Store} {w : World}

/-- An entry is well-formed: what can be said of it without the world. -/
def EntW : Ent → Prop
  | .cells v sz rows fz => v = 0 ∧ fz = false ∧ ∀ row ∈ rows, row.length = sz ∧ row.all AV.one = true
  | .map es c => es = [] ∧ c = 0
  | _ => False

def Ent.rl : Ent → Nat
  | .cells _ sz _ _ => sz
  | _ => 0
def Ent.tip : Ent → Nat
  | .cells _ _ rows _ => rows.length
  | _ => 0

/-- The machine makes a block for the entry r0. -/
def AOk (P : Program) (G : Nat → Option (List AV)) (X : Ctx) (w : World) (r0 : Nat) (v : AV) (e : Ent) (r : Result Next) : Prop :=
  EntW e ∧ ∃ c w' b ce, r = .ok (.value c) w' ∧ Grown w w' ∧ w.heap.size ≤ b ∧ b < w'.heap.size ∧ e.tip ≤ ce ∧
    ∀ X'' : Ctx, X''.ver r0 = 0 → X''.loc r0 = some (b, 0) → X''.rl r0 = e.rl → X''.tip r0 = e.tip → X''.ce r0 = ce → X''.fz r0 = false → r0 < X''.n →
      (∀ v c, VR X w v c → VR X'' w' v c) → EntR P G X'' w' r0 e ∧ VR X'' w' v c

theorem AOk.cells {r0 : Nat} {v : AV} {sz : Nat} {rows : List (List AV)} {r : Result Next} {c : Value} {w' : World} {cs : Array Value} {T : TypeId} {lo hi ce : Nat}
    (hw : ∀ row ∈ rows, row.length = sz ∧ row.all AV.one = true) (hr : r = .ok (.value c) w') (hg : Grown w w') (hb : w.heap.size < w'.heap.size) (hh : w'.heap[w.heap.size]? = some (.cells cs T (lo, hi)))
    (hlo : ∀ o, o < cs.size → ¬ (lo ≤ o ∧ o < hi)) (hce : rows.length ≤ ce) (hsz : ce * sz ≤ cs.size) (hv : ∀ i j (h : i < rows.length) (h' : j < rows[i].length), ∃ c, cs[i * sz + j]? = some c ∧ VR X w rows[i][j] c)
    (hval : ∀ X'' : Ctx, X''.ver r0 = 0 → X''.loc r0 = some (w.heap.size, 0) → X''.rl r0 = sz → X''.tip r0 = rows.length → X''.ce r0 = ce → r0 < X''.n → VR X'' w' v c) :
    AOk P G X w r0 v (.cells 0 sz rows false) r := by
  refine ⟨⟨rfl, rfl, hw⟩, c, w', w.heap.size, ce, hr, hg, Nat.le_refl _, hb, hce, fun X'' h1 h2 h3 h4 h5 h6 h7 hm => ⟨?_, hval X'' h1 h2 h3 h4 h5 h7⟩⟩
  refine ⟨h1, h3, h4, h6, hw, by rw [h5]; exact hce, fun b base hl => ?_⟩
  rw [h2] at hl; cases hl
  refine ⟨cs, T, lo, hi, hh, by rw [h5]; omega, hlo, fun i j hi' hj => ?_⟩
  obtain ⟨c, d1, d2⟩ := hv i j hi' hj
  exact ⟨c, by rw [Nat.zero_add]; exact d1, hm _ _ d2⟩

theorem freeze_pushed (w0 : World) (h : Array Obj) (c : Array Value) (t : TypeId) (n d : Nat) :
    World.freeze { w0 with heap := h.push (.cells c t), drawn := d } ⟨h.size, n, none⟩ 1 = { w0 with heap := h.push (.cells c t (n, n + 1)), drawn := d } := by
  simp only [World.freeze, Nat.one_ne_zero, if_false]
  congr 1
  apply Array.ext
  · simp
  · intro i h1 h2
    simp only [Array.getElem_modify, Array.getElem_push]
    split
    · rename_i e; subst e; simp
    · rename_i e
      have : i < h.size := by simp at h1; omega
      simp [this]

theorem aop_sound (hr : Rel P G X s w) {tm : List AV} {a : Act} (ht : VRs X w tm a.tmps.toList) (own : Bool) (o : Oper) {s0 : Store} {v : AV} {e : Ent}
    (h : aop s0 tm (cOp P G own o) = some (v, e)) : AOk P G X w s0.length v e ((execOp a.eval o).run P w) := by
  obtain ⟨dst, op, ty, pos, after, guard⟩ := o
  cases op with
  | alloc t =>
    simp only [cOp] at h
    split at h
    · rename_i z hz
      simp only [aop] at h
      split at h
      · rename_i hone
        cases h
        obtain ⟨zc, h1, h2, h3, h4⟩ := zeroCells_sound (X := X) (w := w) hz w
        have hl : z.length = zc.cells.size := by simpa using h2.1
        refine AOk.cells (c := .pointer (some ⟨w.heap.size, 0, none⟩)) (w' := { w with heap := w.heap.push (.cells zc.cells t) }) (cs := zc.cells) (T := t) (lo := 0) (hi := 0) (ce := 1)
          (fun row hm => by simp at hm; subst hm; exact ⟨rfl, hone⟩) ?_ (Grown.push w _ w.drawn) (by simp) (by simp) (by omega) (by simp) (by omega) ?_ ?_
        · simp [execOp, Instr.alloc, h1, newVar, newRow]
        · intro i j hi hj
          simp at hi; subst hi
          simp at hj
          simp only [List.getElem_cons_zero, Nat.zero_mul, Nat.zero_add]
          have h5 : j < zc.cells.size := by omega
          refine ⟨zc.cells[j], Array.getElem?_eq_getElem h5, ?_⟩
          have := h2.2 j hj (by simpa using h5)
          simpa using this
        · intro X'' e1 e2 e3 e4 e5 e6
          exact .ptr _ _ _ _ _ e6 (by omega) fun _ => ⟨_, _, e2, by simp⟩
      · cases h
    · simp [aop] at h
  | box t x =>
    simp only [cOp, aop] at h
    split at h
    · rename_i hcond
      cases h
      have hx := (opd_sound hr ht x).cells hcond.2
      have hl : (ev tm (cOpd G x)).cells.length = (a.eval x).cells.size := by simpa using hx.1
      refine AOk.cells (c := .pointer (some ⟨w.heap.size, 0, none⟩)) (w' := { w with heap := w.heap.push (.cells (a.eval x).cells t) }) (cs := (a.eval x).cells) (T := t) (lo := 0) (hi := 0) (ce := 1)
        (fun row hm => by simp at hm; subst hm; exact hcond) ?_ (Grown.push w _ w.drawn) (by simp) (by simp) (by omega) (by simp) (by omega) ?_ ?_
      · simp [execOp, Instr.box, newVar, newRow]
      · intro i j hi hj
        simp at hi; subst hi
        simp at hj
        simp only [List.getElem_cons_zero, Nat.zero_mul, Nat.zero_add]
        have h5 : j < (a.eval x).cells.size := by omega
        refine ⟨(a.eval x).cells[j], Array.getElem?_eq_getElem h5, ?_⟩
        have := hx.2 j hj (by simpa using h5)
        simpa using this
      · intro X'' e1 e2 e3 e4 e5 e6
        exact .ptr _ _ _ _ _ e6 (by omega) fun _ => ⟨_, _, e2, by simp⟩
    · cases h
  | buildSlice t n ps =>
    simp only [cOp] at h
    split at h
    · rename_i el hu
      split at h
      · rename_i z hz
        split at h
        · rename_i hcond
          cases own with
          | false => simp [aop] at h
          | true =>
            simp only [aop] at h
            split at h
            case isFalse => cases h
            rename_i hzone
            cases hf : fillRows z.length n (List.replicate n z) ((ps.toList.map fun p => (p.1, cOpd G p.2)).map fun p => (p.1, ev tm p.2)) with
            | none => rw [hf] at h; cases h
            | some rows =>
              rw [hf] at h
              simp only [Option.map_some, Option.some.injEq, Prod.mk.injEq] at h
              obtain ⟨rfl, rfl⟩ := h
              obtain ⟨cs', e1, e2, e3, e4⟩ := bsl_run hr ht hu hz hcond.1 hcond.2 hf
              obtain ⟨zc, h1, h2, h3, h4⟩ := zeroCells_sound (X := X) (w := w) hz w
              have hzl : z.length = P.cellsOf el := h3
              have hone : ∀ row ∈ rows, row.all AV.one = true := fillRows_one _ _ _ (fun row hm => by rw [(List.mem_replicate.1 hm).2]; exact hzone) hf
              refine AOk.cells (c := .slice (some ⟨w.heap.size, 0, none⟩) n n) (w' := { w with heap := w.heap.push (.cells cs' el) }) (cs := cs') (T := el) (lo := 0) (hi := 0) (ce := n)
                (fun row hm => ⟨by rw [hzl]; exact e3 row hm, hone row hm⟩) ?_ (Grown.push w _ w.drawn) (by simp) (by simp) (by omega) (by omega) ?_ ?_ ?_
              · simp only [execOp, Sem.run_bind, e1, Result.andThen_ok, Sem.run_pure]
              · have := e2.1
                rw [flatten_length rows e3, e4, Array.length_toList (xs := cs')] at this
                rw [hzl]; omega
              · rw [hzl]; exact rows_at e3 e2
              · intro X'' f1 f2 f3 f4 f5 f6
                exact .sl _ _ _ _ _ _ _ f6 (by omega) (Nat.le_refl _) (fun e => by cases e) fun _ => ⟨_, _, f2, ⟨_, rfl, rfl⟩, fun _ => by simp, by rw [f4, e4]; omega, fun _ => by rw [f5]; omega⟩
        · simp [aop] at h
      · simp [aop] at h
    · simp [aop] at h
  | makeMap t r =>
    have fin : (execOp a.eval { dst := dst, op := .makeMap t r, type := ty, pos := pos, after := after, guard := guard }).run P w = .ok (.value (.map (some w.heap.size))) { w with heap := w.heap.push (.map #[] 0) } →
        aop s0 tm .mkmap = some (v, e) → AOk P G X w s0.length v e ((execOp a.eval { dst := dst, op := .makeMap t r, type := ty, pos := pos, after := after, guard := guard }).run P w) := by
      intro hrun h
      simp only [aop, Option.some.injEq, Prod.mk.injEq] at h
      obtain ⟨rfl, rfl⟩ := h
      refine ⟨⟨rfl, rfl⟩, _, _, w.heap.size, 0, hrun, Grown.push w _ w.drawn, Nat.le_refl _, by simp, Nat.le_refl _, fun X'' h1 h2 h3 h4 h5 h6 h7 hm => ⟨⟨h1, h6, fun b base hl => ?_⟩, .map _ _ h7 fun _ => h2⟩⟩
      rw [h2] at hl; cases hl
      exact ⟨rfl, #[], by simp, rfl, fun i h => by simp at h⟩
    cases r with
    | none => exact fin (by simp [execOp, Instr.makeMap]) (by simpa [cOp] using h)
    | some x =>
      simp only [cOp] at h
      split at h
      · rename_i k el hu
        split at h
        · rename_i k' n' heq
          exact fin (by simp [execOp, Instr.makeMap, run_und hu, Act.eval, asInt, asIntOf]) h
        · simp [aop] at h
      · simp [aop] at h
  | makeSlice t l c =>
    simp only [cOp] at h
    split at h
    · rename_i el hu
      split at h
      · rename_i z hz
        split at h
        · rename_i hcond
          simp only [aop] at h
          obtain ⟨l', e1, h⟩ := opt_some h
          obtain ⟨c', e2, h⟩ := opt_some h
          split at h
          · rename_i hlc
            cases h
            obtain ⟨k1, hk1⟩ := asNat_sound e1 (opd_sound hr ht l)
            obtain ⟨k2, hk2⟩ := asNat_sound e2 (opd_sound hr ht c)
            obtain ⟨zc, h1, h2, h3, h4⟩ := zeroCells_sound (X := X) (w := w) hz w
            have hzc : zc.cells.size = P.cellsOf el := by have := h2.1; simp at this; omega
            obtain ⟨inf, hinf⟩ := Option.isSome_iff_exists.1 h4
            have hby : inf.bytes = P.bytesOf el := by simp [Program.bytesOf, hinf]
            have hsz : inf.size = P.cellsOf el := by simp [Program.cellsOf, hinf]
            have hprod : P.bytesOf el * c' ≤ 2 ^ 16 * 2 ^ 30 := Nat.mul_le_mul hcond.2 hlc.2.1
            have hprod2 : P.bytesOf el * l' ≤ 2 ^ 16 * 2 ^ 30 := Nat.mul_le_mul hcond.2 (by omega)
            have hw1 : IntKind.i64.wrap (l' : Int) = l' := by
              have e1 : ((l' : Int) % 2 ^ IntKind.i64.bits) = l' := by simp only [IntKind.bits]; omega
              have e2 : ¬ ((l' : Int) ≥ 2 ^ (IntKind.i64.bits - 1)) := by simp only [IntKind.bits]; omega
              simp only [IntKind.wrap, e1]; simp [e2]
            have hw2 : IntKind.i64.wrap (c' : Int) = c' := by
              have e1 : ((c' : Int) % 2 ^ IntKind.i64.bits) = c' := by simp only [IntKind.bits]; omega
              have e2 : ¬ ((c' : Int) ≥ 2 ^ (IntKind.i64.bits - 1)) := by simp only [IntKind.bits]; omega
              simp only [IntKind.wrap, e1]; simp [e2]
            have hbig : ¬ ((P.bytesOf el : Int) * (c' : Int) > 2 ^ 48) := by
              have : ((P.bytesOf el * c' : Nat) : Int) ≤ ((2 ^ 16 * 2 ^ 30 : Nat) : Int) := Int.ofNat_le.2 hprod
              rw [Int.natCast_mul] at this; omega
            have hone : ∀ row ∈ List.replicate c' z, row.length = z.length ∧ row.all AV.one = true := fun row hm => by rw [(List.mem_replicate.1 hm).2]; exact ⟨rfl, hlc.2.2⟩
            have hinit := init_cells h2 (by omega) c'
            rw [h3] at hinit
            have hrun : (execOp a.eval { dst := dst, op := .makeSlice t l c, type := ty, pos := pos, after := after, guard := guard }).run P w =
                .ok (.value (.slice (some ⟨w.heap.size, 0, none⟩) l' c')) { w with heap := w.heap.push (.cells ((Array.range (c' * P.cellsOf el)).map (zc.cells[· % zc.cells.size]!)) el) } := by
              have hc1 : ¬ ((decide ((c' : Int) < 0) || decide ((inf.bytes : Int) * (c' : Int) > 2 ^ 48) || decide ((l' : Int) < 0) || decide ((l' : Int) > (c' : Int))) = true) := by
                rw [hby]
                simp only [Bool.or_eq_true, decide_eq_true_eq]
                omega
              simp only [execOp, Sem.run_bind, Instr.makeSlice, run_und hu, Result.andThen_ok, hk1, hk2, asInt, asIntOf, Sem.run_pure, run_info' hinf, hw1, hw2, if_neg hc1]
              have hn : ∀ m : Nat, ((if m = 0 then (pure #[] : Sem (Array Value)) else do pure (← zeroValue el).cells)).run P w = .ok (if m = 0 then #[] else zc.cells) w := by
                intro m; split <;> simp [h1]
              simp only [run_askRoom, Result.andThen_ok, run_sizeOf' h4, Int.toNat_natCast, Sem.run_bind, hn, newRow, run_newObj, Sem.run_pure]
              by_cases hz0 : c' * P.cellsOf el = 0
              · have er : Array.range (c' * P.cellsOf el) = #[] := by rw [hz0]; rfl
                rw [if_pos hz0, er]; simp
              · rw [if_neg hz0]; simp [h1]
            refine AOk.cells (cs := (Array.range (c' * P.cellsOf el)).map (zc.cells[· % zc.cells.size]!)) (T := el) (lo := 0) (hi := 0) (ce := c') hone hrun (Grown.push w _ w.drawn) (by simp) (by simp) (by omega) (by simp) (by rw [h3]; simp) ?_ ?_
            · rw [h3]; exact rows_at (fun row hm => by rw [(List.mem_replicate.1 hm).2]; exact h3) hinit
            · intro X'' f1 f2 f3 f4 f5 f6
              exact .sl _ _ _ _ _ _ _ f6 (by omega) hlc.1 (fun e => by cases e) fun _ => ⟨_, _, f2, ⟨_, rfl, rfl⟩, fun _ => by simp, by rw [f4]; simp; omega, fun _ => by rw [f5]; omega⟩
          · cases h
        · simp [aop] at h
      · simp [aop] at h
    · simp [aop] at h
  | convert sT dT x =>
    have hx := opd_sound hr ht x
    simp only [cOp] at h
    split at h
    · simp [aop] at h
    · simp [aop] at h
    · rename_i el hs hd
      split at h
      · rename_i he
        split at h
        · rename_i hcell
          simp only [aop] at h
          split at h
          · rename_i b heq
            rw [heq] at hx
            obtain ⟨bs, hb, rfl⟩ := hx.str_inv
            split at h
            · rename_i hle
              cases h
              rw [bytesN_length]
              obtain ⟨cap, hcap1, hcap2⟩ : ∃ cap, (choose (.appendCap bs.size 0 el)).run P w = .ok cap { w with drawn := w.drawn + 1 } ∧ bs.size ≤ cap := by
                refine ⟨_, by simp [run_choose, Question.forced]; rfl, ?_⟩
                simp [Question.cut]
              have hsz : ∀ row ∈ (bytesN bs).map (fun (n : Nat) => [AV.int .u8 n]), row.length = 1 ∧ row.all AV.one = true := by
                intro row hm; obtain ⟨n, _, rfl⟩ := List.mem_map.1 hm; exact ⟨rfl, rfl⟩
              refine AOk.cells (c := .slice (some ⟨w.heap.size, 0, none⟩) bs.size cap) (w' := { w with heap := w.heap.push (.cells (bs.data.map (fun (b : UInt8) => Value.int .u8 b.toNat) ++ Array.replicate (cap - bs.size) (Value.int .u8 0)) el (cap, cap + 1)), drawn := w.drawn + 1 })
                (cs := bs.data.map (fun (b : UInt8) => Value.int .u8 b.toNat) ++ Array.replicate (cap - bs.size) (Value.int .u8 0)) (T := el) (lo := cap) (hi := cap + 1) (ce := cap) hsz ?_ (Grown.push w _ _) (by simp) (by simp) ?_ (by simp [bytesN_length]; exact hcap2) ?_ ?_ ?_
              · have hsize : (bs.data.map (fun (b : UInt8) => Value.int .u8 b.toNat) ++ Array.replicate (cap - bs.size) (Value.int .u8 0)).size = cap := by
                  simp only [Array.size_append, Array.size_map, Array.size_replicate]
                  have : bs.data.size = bs.size := rfl
                  omega
                simp only [execOp, Sem.run_bind, convert, run_und hs, run_und hd, run_und he, Result.andThen_ok, hb, Conv.stringToBytes, hcap1, newRow, run_newObj, Sem.run_pure, markStringish, run_shape]
                have hshape : ({ w with heap := w.heap.push (.cells (bs.data.map (fun (b : UInt8) => Value.int .u8 b.toNat) ++ Array.replicate (cap - bs.size) (Value.int .u8 0)) el), drawn := w.drawn + 1 } : World).shape? w.heap.size = some (el, cap) := by
                  simp only [World.shape?, Array.getElem?_push_size, hsize]
                simp only [hshape, run_freeze, Result.andThen_ok]
                rw [freeze_pushed]
              · intro o ho
                simp only [Array.size_append, Array.size_map, Array.size_replicate] at ho
                have : bs.data.size = bs.size := rfl
                omega
              · simp only [Array.size_append, Array.size_map, Array.size_replicate]
                have : bs.data.size = bs.size := rfl
                omega
              · intro i j hi hj
                simp only [List.length_map, bytesN_length] at hi
                simp only [List.getElem_map, List.length_singleton] at hj
                have hj0 : j = 0 := by omega
                subst hj0
                refine ⟨.int .u8 (bs.data[i]'hi).toNat, ?_, ?_⟩
                · rw [Nat.mul_one, Nat.add_zero, Array.getElem?_append_left (by simpa using hi)]
                  simp [Array.getElem?_eq_getElem hi]
                · simp only [List.getElem_map, List.getElem_cons_zero, bytesN, Array.getElem_toList]
                  exact .int _ _
              · intro X'' f1 f2 f3 f4 f5 f6
                exact .sl _ _ _ _ _ _ _ f6 (by omega) hcap2 (fun e => by cases e) fun _ => ⟨_, _, f2, ⟨_, rfl, rfl⟩, fun _ => by simp, by rw [f4]; simp [bytesN_length], fun _ => by rw [f5]; omega⟩
            · cases h
          · cases h
        · simp [aop] at h
      · simp [aop] at h
    · split at h <;> simp [aop] at h
    · simp [aop] at h
    · simp [aop] at h
  | makeFunc f _ _ => cases f <;> simp [cOp, aop] at h
  | _ => first
    | (simp [cOp, aop] at h; done)
    | (simp only [cOp] at h; (repeat' split at h) <;> simp [aop] at h; done)
    | (simp only [cOp, cCall] at h; (repeat' split at h) <;> simp [aop] at h; done)
end
end Go.Am
