/- How AM's values and store stand for the machine's; operations that change nothing, first part. -/
import Derived.Test.YtccedlpflmmjjaaGreatDoorAm1
import Derived.Calls
import Derived.Laws.World
import Derived.Laws.Sem
import Derived.Laws.Strings
import Derived.Laws.StructEq
namespace Go.Am
open Go

/-- What the entries are in the world: their versions, where their blocks are, how long a row is, how many rows there are, how many rows there may be, whether nobody may write them; and which blocks nobody writes. -/
structure Ctx where
  n : Nat
  ver : Nat → Nat
  loc : Nat → Option (Nat × Nat)
  rl : Nat → Nat
  tip : Nat → Nat
  ce : Nat → Nat
  fz : Nat → Bool
  imm : Nat → Prop

abbrev cellAt (w : World) (b i : Nat) : Option Value := w.cell? ⟨b, i, none⟩

inductive FnR (X : Ctx) : Fn → Fn → Prop where
  | same (f : Fn) (h : ∀ l, f ≠ .yield l) : FnR X f f
  | yield (l b : Nat) (h : l < X.n) (ha : X.ver l = 0 → X.loc l = some (b, 0)) : FnR X (.yield l) (.yield b)

inductive VR (X : Ctx) (w : World) : AV → Value → Prop where
  | any (c : Value) : VR X w .any c
  | bool (b : Bool) : VR X w (.bool b) (.bool b)
  | int (k : IntKind) (n : Int) : VR X w (.int k n) (.int k n)
  | str (s : ByteArray) : VR X w (.str (bytesN s)) (.string s)
  | nilp : VR X w .nilp (.pointer none)
  | ptr (r v i o : Nat) (a : Addr) (h : r < X.n) (hv : v ≤ X.ver r)
      (ha : v = X.ver r → ∃ b base, X.loc r = some (b, base) ∧ a = ⟨b, base + i * X.rl r + o, none⟩) : VR X w (.ptr r v i o) (.pointer (some a))
  | rp (row : List AV) (o b base : Nat) (cs : Nat → Value) (hi : X.imm b) (hc : ∀ j, j < row.length → cellAt w b (base + j) = some (cs j))
      (hv : ∀ j (h : j < row.length), VR X w row[j] (cs j)) : VR X w (.rp row o) (.pointer (some ⟨b, base + o, none⟩))
  | lnil : VR X w (.list .nil []) (.slice none 0 0)
  | list (k : SK) (rows : List (List AV)) (b off sz cap : Nat) (cs : Nat → Nat → Value) (hk : k ≠ .nil) (hsz : ∀ row ∈ rows, row.length = sz)
      (hi : rows ≠ [] → X.imm b) (hc : ∀ i j, i < rows.length → j < sz → cellAt w b (off + i * sz + j) = some (cs i j))
      (hv : ∀ i j (h : i < rows.length) (h' : j < rows[i].length), VR X w rows[i][j] (cs i j)) (hcap : rows.length ≤ cap)
      (hex : k = .exact → cap = rows.length) : VR X w (.list k rows) (.slice (some ⟨b, off, none⟩) rows.length cap)
  | sl (r v off len : Nat) (ex : Bool) (a : Option Addr) (cap : Nat) (h : r < X.n) (hv : v ≤ X.ver r) (hlen : len ≤ cap) (hex : ex = true → cap = len)
      (ha : v = X.ver r → ∃ b base, X.loc r = some (b, base) ∧ (∃ a', a = some a' ∧ a'.spot = none) ∧ (cap ≠ 0 → a = some ⟨b, base + off * X.rl r, none⟩) ∧ off + len ≤ X.tip r ∧ (ex = false → off + cap = X.ce r)) :
      VR X w (.sl r v off len ex) (.slice a len cap)
  | nilm : VR X w .nilm (.map none)
  | map (r a : Nat) (h : r < X.n) (ha : X.ver r = 0 → X.loc r = some (a, 0)) : VR X w (.map r) (.map (some a))
  | fn (f f' : Fn) (first cap : List AV) (cf cc : Array Value) (hf : FnR X f f') (h1 : first.length = cf.size) (h2 : cap.length = cc.size)
      (hv1 : ∀ i (h : i < first.length) (h' : i < cf.size), VR X w first[i] cf[i]) (hv2 : ∀ i (h : i < cap.length) (h' : i < cc.size), VR X w cap[i] cc[i]) :
      VR X w (.fn f first cap) (.func f' cf cc)
  | nilf : VR X w .nilf .nilFunc
  | ifc (t : Nat) (v : AV) (c : Value) (h : VR X w v c) : VR X w (.ifc t v) (.iface t c)
  | nili : VR X w .nili .nilIface
  | agg (l : List AV) (cs : Array Value) (hl : l.length = cs.size) (hv : ∀ i (h : i < l.length) (h' : i < cs.size), VR X w l[i] cs[i]) : VR X w (.agg l) (.agg cs)
  | tup (l : List AV) (cs : Array Value) (hl : l.length = cs.size) (hv : ∀ i (h : i < l.length) (h' : i < cs.size), VR X w l[i] cs[i]) : VR X w (.tup l) (.tuple cs)

/-- Lists, one by one. -/
def VRs (X : Ctx) (w : World) (l : List AV) (cs : List Value) : Prop :=
  l.length = cs.length ∧ ∀ i (h : i < l.length) (h' : i < cs.length), VR X w l[i] cs[i]

def Ctx.live (X : Ctx) (b : Nat) : Prop := ∃ r base, r < X.n ∧ X.fz r = false ∧ X.loc r = some (b, base)

/-- What a step may do. -/
structure Ext (X : Ctx) (s : Store) (w : World) (X' : Ctx) (s' : Store) (w' : World) : Prop where
  n : X.n ≤ X'.n
  keep : ∀ r, r < X.n → (X'.ver r = X.ver r ∧ X'.loc r = X.loc r ∧ X'.rl r = X.rl r ∧ X'.tip r = X.tip r ∧ X'.ce r = X.ce r) ∨ X.ver r < X'.ver r
  imm : ∀ b, X.imm b → X'.imm b
  size : w.heap.size ≤ w'.heap.size
  frame : ∀ b, b < w.heap.size → ¬ X.live b → w'.heap[b]? = w.heap[b]?
  live : ∀ b, X'.live b → X.live b ∨ w.heap.size ≤ b
  imm' : ∀ b, X'.imm b → X.imm b ∨ X.live b ∨ w.heap.size ≤ b
  late : ∀ r, r < X.n → X.loc r = none → X'.loc r = none ∧ s'.get r = s.get r ∧ X'.ver r = X.ver r ∧ X'.rl r = X.rl r ∧ X'.tip r = X.tip r ∧ X'.ce r = X.ce r ∧ X'.fz r = X.fz r
  os : w'.os = w.os ∧ w'.output = w.output

/-- What an entry is in the world. -/
def EntR (P : Program) (G : Nat → Option (List AV)) (X : Ctx) (w : World) (r : Nat) : Ent → Prop
  | .cells v sz rows fz => X.ver r = v ∧ X.rl r = sz ∧ X.tip r = rows.length ∧ X.fz r = fz ∧ (∀ row ∈ rows, row.length = sz ∧ row.all AV.one = true) ∧ rows.length ≤ X.ce r ∧
      ∀ b base, X.loc r = some (b, base) → ∃ cs T lo hi, w.heap[b]? = some (.cells cs T (lo, hi)) ∧ base + X.ce r * sz ≤ cs.size ∧ (∀ o, o < cs.size → ¬ (lo ≤ o ∧ o < hi)) ∧
        ∀ i j (h : i < rows.length) (h' : j < rows[i].length), ∃ c, cs[base + i * sz + j]? = some c ∧ VR X w rows[i][j] c
  | .map es clock => X.ver r = 0 ∧ X.fz r = false ∧ ∀ b base, X.loc r = some (b, base) → base = 0 ∧ ∃ ces : Array MapEntry, w.heap[b]? = some (.map ces clock) ∧ es.length = ces.size ∧
      ∀ i (h : i < es.length) (h' : i < ces.size), VR X w es[i].1 ces[i].key ∧ VR X w es[i].2.1 ces[i].val ∧ es[i].2.2 = ces[i].born
  | .siter s pos => X.ver r = 0 ∧ X.fz r = false ∧ ∀ b base, X.loc r = some (b, base) → base = 0 ∧ ∃ bs, s = bytesN bs ∧ w.heap[b]? = some (.stringIter bs pos)
  | .loop st jump tm ps assign body => X.ver r = 0 ∧ X.fz r = false ∧ ∀ b base, X.loc r = some (b, base) → base = 0 ∧ ∃ L : Loop, w.heap[b]? = some (.loop L) ∧
      (match st with | .ready => L.state = .ready | .busy => L.state = .busy | .done => L.state = .done | .exhausted => L.state = .exhausted) ∧
      L.pending.map (comp P G) = jump ∧ (∀ c, L.pending = some c → c = .ret ∨ (∃ id, c = .exit id) ∨ ∃ l, c = .goto l) ∧ VRs X w tm L.tmps.toList ∧ L.params.toList = ps ∧ comp P G L.assign = assign ∧ comp P G L.body = body ∧ ∃ fn, P.funcs[L.fn]? = some fn
  | .dfr op => X.ver r = 0 ∧ X.fz r = false ∧ ∀ b base, X.loc r = some (b, base) → base = 0 ∧ (op = true → w.heap[b]? = some (.deferred (some [])))

structure Rel (P : Program) (G : Nat → Option (List AV)) (X : Ctx) (s : Store) (w : World) : Prop where
  len : s.length = X.n
  ent : ∀ r e, s.get r = some e → EntR P G X w r e
  locb : ∀ r b base, r < X.n → X.loc r = some (b, base) → b < w.heap.size
  inj : ∀ r r' b base base', r < X.n → r' < X.n → X.loc r = some (b, base) → X.loc r' = some (b, base') → r = r'
  fzimm : ∀ r b base, r < X.n → X.loc r = some (b, base) → (X.fz r = true → X.imm b) ∧ (X.fz r = false → ¬ X.imm b)
  immb : ∀ b, X.imm b → b < w.heap.size
  glob : ∀ g row, G g = some row → VR X w (.rp row 0) (.pointer (some ⟨g, 0, none⟩))

theorem Rel.immlive {P : Program} {G : Nat → Option (List AV)} {X : Ctx} {s : Store} {w : World} (h : Rel P G X s w) {b : Nat} (hi : X.imm b) : ¬ X.live b := by
  rintro ⟨r, base, hr, hf, hl⟩
  exact (h.fzimm r b base hr hl).2 hf hi

theorem Ext.refl {X : Ctx} {s : Store} {w : World} : Ext X s w X s w where
  n := Nat.le_refl _
  keep := fun _ _ => .inl ⟨rfl, rfl, rfl, rfl, rfl⟩
  imm := fun _ h => h
  size := Nat.le_refl _
  frame := fun _ _ _ => rfl
  live := fun _ h => .inl h
  imm' := fun _ h => .inl h
  late := fun _ _ h => ⟨h, rfl, rfl, rfl, rfl, rfl, rfl⟩
  os := ⟨rfl, rfl⟩

theorem Ext.trans {X X' X'' : Ctx} {s s' s'' : Store} {w w' w'' : World} (h : Ext X s w X' s' w') (h' : Ext X' s' w' X'' s'' w'') : Ext X s w X'' s'' w'' where
  n := Nat.le_trans h.n h'.n
  keep := fun r hr => by
    have hr' := Nat.lt_of_lt_of_le hr h.n
    rcases h.keep r hr with ⟨a, b, c, d, e⟩ | a
    · rcases h'.keep r hr' with ⟨a', b', c', d', e'⟩ | a'
      · exact .inl ⟨a'.trans a, b'.trans b, c'.trans c, d'.trans d, e'.trans e⟩
      · exact .inr (by omega)
    · rcases h'.keep r hr' with ⟨a', _⟩ | a'
      · exact .inr (by omega)
      · exact .inr (by omega)
  imm := fun b hb => h'.imm b (h.imm b hb)
  size := Nat.le_trans h.size h'.size
  frame := fun b hb hl => by
    rw [h'.frame b (Nat.lt_of_lt_of_le hb h.size) (fun hl' => ?_), h.frame b hb hl]
    rcases h.live b hl' with h1 | h1
    · exact hl h1
    · omega
  live := fun b hb => by
    rcases h'.live b hb with h1 | h1
    · exact h.live b h1
    · exact .inr (Nat.le_trans h.size h1)
  imm' := fun b hb => by
    rcases h'.imm' b hb with h1 | h1 | h1
    · exact h.imm' b h1
    · rcases h.live b h1 with h2 | h2
      · exact .inr (.inl h2)
      · exact .inr (.inr h2)
    · exact .inr (.inr (Nat.le_trans h.size h1))
  late := fun r hr hl => by
    obtain ⟨a, b, c, d, e, f, g⟩ := h.late r hr hl
    obtain ⟨a', b', c', d', e', f', g'⟩ := h'.late r (Nat.lt_of_lt_of_le hr h.n) a
    exact ⟨a', b'.trans b, c'.trans c, d'.trans d, e'.trans e, f'.trans f, g'.trans g⟩
  os := ⟨h'.os.1.trans h.os.1, h'.os.2.trans h.os.2⟩

theorem cell_of_heap {w w' : World} {b : Nat} (h : w'.heap[b]? = w.heap[b]?) (i : Nat) : cellAt w' b i = cellAt w b i := by
  simp only [cellAt, World.cell?, h]

theorem FnR.mono {X X' : Ctx} {s s' : Store} {w w' : World} {f f' : Fn} (hx : Ext X s w X' s' w') (h : FnR X f f') : FnR X' f f' := by
  cases h with
  | same _ h => exact .same _ h
  | yield l b hl ha =>
    refine .yield l b (Nat.lt_of_lt_of_le hl hx.n) fun hv => ?_
    rcases hx.keep l hl with ⟨a, b', _⟩ | a
    · rw [b']; exact ha (a ▸ hv)
    · omega

theorem VR.mono {P : Program} {G : Nat → Option (List AV)} {X X' : Ctx} {s s' : Store} {w w' : World} (hr : Rel P G X s w) (hx : Ext X s w X' s' w') {v : AV} {c : Value} (h : VR X w v c) : VR X' w' v c := by
  have himm : ∀ b, X.imm b → ∀ i, cellAt w' b i = cellAt w b i := fun b hb i => cell_of_heap (hx.frame b (hr.immb b hb) (hr.immlive hb)) i
  induction h with
  | any c => exact .any c
  | bool b => exact .bool b
  | int k n => exact .int k n
  | str s => exact .str s
  | nilp => exact .nilp
  | ptr r v i o a h hv ha =>
    rcases hx.keep r h with ⟨k1, k2, k3, _⟩ | k1
    · exact .ptr r v i o a (Nat.lt_of_lt_of_le h hx.n) (by omega) fun e => by rw [k2, k3]; exact ha (by omega)
    · exact .ptr r v i o a (Nat.lt_of_lt_of_le h hx.n) (by omega) fun e => by omega
  | rp row o b base cs hi hc hv ih =>
    exact .rp row o b base cs (hx.imm b hi) (fun j h => by rw [himm b hi]; exact hc j h) ih
  | lnil => exact .lnil
  | list k rows b off sz cap cs hk hsz hi hc hv hcap hex ih =>
    refine .list k rows b off sz cap cs hk hsz (fun h => hx.imm b (hi h)) (fun i j h h' => ?_) ih hcap hex
    rw [himm b (hi (by intro e; simp [e] at h))]; exact hc i j h h'
  | sl r v off len ex a cap h hv hlen hex ha =>
    rcases hx.keep r h with ⟨k1, k2, k3, k4, k5⟩ | k1
    · exact .sl r v off len ex a cap (Nat.lt_of_lt_of_le h hx.n) (by omega) hlen hex fun e => by rw [k2, k3, k4, k5]; exact ha (by omega)
    · exact .sl r v off len ex a cap (Nat.lt_of_lt_of_le h hx.n) (by omega) hlen hex fun e => by omega
  | nilm => exact .nilm
  | map r a h ha =>
    rcases hx.keep r h with ⟨k1, k2, _⟩ | k1
    · exact .map r a (Nat.lt_of_lt_of_le h hx.n) fun e => by rw [k2]; exact ha (by omega)
    · exact .map r a (Nat.lt_of_lt_of_le h hx.n) fun e => by omega
  | fn f f' first cap cf cc hf h1 h2 _ _ ih1 ih2 => exact .fn f f' first cap cf cc (hf.mono hx) h1 h2 ih1 ih2
  | nilf => exact .nilf
  | ifc t v c _ ih => exact .ifc t v c ih
  | nili => exact .nili
  | agg l cs hl _ ih => exact .agg l cs hl ih
  | tup l cs hl _ ih => exact .tup l cs hl ih

theorem VRs.mono {P : Program} {G : Nat → Option (List AV)} {X X' : Ctx} {s s' : Store} {w w' : World} (hr : Rel P G X s w) (hx : Ext X s w X' s' w') {l : List AV} {cs : List Value} (h : VRs X w l cs) : VRs X' w' l cs :=
  ⟨h.1, fun i a b => (h.2 i a b).mono hr hx⟩

/-- An entry whose block nobody has touched. -/
theorem EntR.mono {P : Program} {G : Nat → Option (List AV)} {X X' : Ctx} {s s' : Store} {w w' : World} (hr : Rel P G X s w) (hx : Ext X s w X' s' w') {r : Nat} {e : Ent}
    (h : EntR P G X w r e) (k1 : X'.ver r = X.ver r) (k2 : X'.rl r = X.rl r) (k3 : X'.tip r = X.tip r) (k4 : X'.ce r = X.ce r) (k5 : X'.fz r = X.fz r)
    (k6 : ∀ b base, X'.loc r = some (b, base) → X.loc r = some (b, base) ∧ w'.heap[b]? = w.heap[b]?) : EntR P G X' w' r e := by
  cases e with
  | cells v sz rows fz =>
    obtain ⟨a1, a2, a3, a4, a5, a6, a7⟩ := h
    refine ⟨by rw [k1, a1], by rw [k2, a2], by rw [k3, a3], by rw [k5, a4], a5, by rw [k4]; exact a6, fun b base hl => ?_⟩
    obtain ⟨hl', hh⟩ := k6 b base hl
    obtain ⟨cs, T, lo, hi, c1, c2, c3, c4⟩ := a7 b base hl'
    refine ⟨cs, T, lo, hi, by rw [hh, c1], by rw [k4]; exact c2, c3, fun i j h1 h2 => ?_⟩
    obtain ⟨c, d1, d2⟩ := c4 i j h1 h2
    exact ⟨c, d1, d2.mono hr hx⟩
  | map es clock =>
    obtain ⟨a1, a2, a3⟩ := h
    refine ⟨by rw [k1, a1], by rw [k5, a2], fun b base hl => ?_⟩
    obtain ⟨hl', hh⟩ := k6 b base hl
    obtain ⟨b0, ces, c1, c2, c3⟩ := a3 b base hl'
    exact ⟨b0, ces, by rw [hh, c1], c2, fun i h1 h2 => ⟨(c3 i h1 h2).1.mono hr hx, (c3 i h1 h2).2.1.mono hr hx, (c3 i h1 h2).2.2⟩⟩
  | siter s pos =>
    obtain ⟨a1, a2, a3⟩ := h
    refine ⟨by rw [k1, a1], by rw [k5, a2], fun b base hl => ?_⟩
    obtain ⟨hl', hh⟩ := k6 b base hl
    obtain ⟨b0, bs, c1, c2⟩ := a3 b base hl'
    exact ⟨b0, bs, c1, by rw [hh, c2]⟩
  | loop st jump tm ps assign body =>
    obtain ⟨a1, a2, a3⟩ := h
    refine ⟨by rw [k1, a1], by rw [k5, a2], fun b base hl => ?_⟩
    obtain ⟨hl', hh⟩ := k6 b base hl
    obtain ⟨b0, L, c1, c2, c3, c3', c4, c5⟩ := a3 b base hl'
    exact ⟨b0, L, by rw [hh, c1], c2, c3, c3', c4.mono hr hx, c5⟩
  | dfr op =>
    obtain ⟨a1, a2, a3⟩ := h
    refine ⟨by rw [k1, a1], by rw [k5, a2], fun b base hl => ?_⟩
    obtain ⟨hl', hh⟩ := k6 b base hl
    obtain ⟨b0, c1⟩ := a3 b base hl'
    exact ⟨b0, fun ho => by rw [hh, c1 ho]⟩
end Go.Am

namespace Go.Am
open Go

theorem Store.get_cons (e : Ent) (s : Store) (r : Nat) : Store.get (e :: s) r = if r = s.length then some e else s.get r := by
  unfold Store.get
  rw [List.reverse_cons, List.getElem?_append]
  simp only [List.length_reverse]
  split
  · rename_i h
    rw [if_neg (by omega)]
  · rename_i h
    split
    · rename_i h'; simp [h']
    · rename_i h'
      rw [List.getElem?_eq_none (by simp; omega), List.getElem?_eq_none (by simp; omega)]

theorem Store.get_new (e : Ent) (s : Store) : Store.get (e :: s) s.length = some e := by rw [Store.get_cons, if_pos rfl]
theorem Store.get_old (e : Ent) (s : Store) (r : Nat) (h : r ≠ s.length) : Store.get (e :: s) r = s.get r := by rw [Store.get_cons, if_neg h]

theorem Store.get_none {s : Store} {r : Nat} (h : s.length ≤ r) : s.get r = none := by
  unfold Store.get; exact List.getElem?_eq_none (by simpa using h)

theorem Store.lt_of_get {s : Store} {r : Nat} {e : Ent} (h : s.get r = some e) : r < s.length := by
  rcases Nat.lt_or_ge r s.length with h' | h'
  · exact h'
  · rw [Store.get_none h'] at h; cases h

theorem Store.length_put (s : Store) (r : Nat) (e : Ent) : (s.put r e).length = s.length := by simp [Store.put]

theorem Store.get_put (s : Store) (r q : Nat) (e : Ent) (h : r < s.length) : (s.put r e).get q = if q = r then some e else s.get q := by
  unfold Store.get Store.put
  rw [List.reverse_reverse, List.getElem?_set]
  simp only [List.length_reverse]
  split
  · rename_i h1; subst h1; simp [h]
  · rename_i h1; rw [if_neg (fun e => h1 e.symm)]

theorem Store.get_put_same (s : Store) (r : Nat) (e : Ent) (h : r < s.length) : (s.put r e).get r = some e := by rw [Store.get_put s r r e h, if_pos rfl]
theorem Store.get_put_other (s : Store) (r q : Nat) (e : Ent) (h : r < s.length) (hq : q ≠ r) : (s.put r e).get q = s.get q := by rw [Store.get_put s r q e h, if_neg hq]

section
variable {P : Program} {G : Nat → Option (List AV)} {X : Ctx} {s : Store} {w w' : World}

/-- The world has but grown. -/
structure Grown (w w' : World) : Prop where
  size : w.heap.size ≤ w'.heap.size
  same : ∀ b, b < w.heap.size → w'.heap[b]? = w.heap[b]?
  os : w'.os = w.os ∧ w'.output = w.output

theorem Grown.refl (w : World) : Grown w w := ⟨Nat.le_refl _, fun _ _ => rfl, rfl, rfl⟩
theorem Grown.trans {w w' w'' : World} (h : Grown w w') (h' : Grown w' w'') : Grown w w'' :=
  ⟨Nat.le_trans h.size h'.size, fun b hb => (h'.same b (Nat.lt_of_lt_of_le hb h.size)).trans (h.same b hb), h'.os.1.trans h.os.1, h'.os.2.trans h.os.2⟩
theorem Grown.push (w : World) (o : Obj) (d : Nat) : Grown w { w with heap := w.heap.push o, drawn := d } :=
  ⟨by simp, fun b hb => by simp [Array.getElem?_push, Nat.ne_of_lt hb], rfl, rfl⟩
theorem Grown.drawn (w : World) (d : Nat) : Grown w { w with drawn := d } := ⟨Nat.le_refl _, fun _ _ => rfl, rfl, rfl⟩

theorem Ext.grown (h : Grown w w') : Ext X s w X s w' where
  n := Nat.le_refl _
  keep := fun _ _ => .inl ⟨rfl, rfl, rfl, rfl, rfl⟩
  imm := fun _ h => h
  size := h.size
  frame := fun b hb _ => h.same b hb
  live := fun _ h => .inl h
  imm' := fun _ h => .inl h
  late := fun _ _ h => ⟨h, rfl, rfl, rfl, rfl, rfl, rfl⟩
  os := h.os

theorem Rel.grown (hr : Rel P G X s w) (h : Grown w w') : Rel P G X s w' where
  len := hr.len
  ent := fun r e he => (hr.ent r e he).mono hr (Ext.grown h) rfl rfl rfl rfl rfl fun b base hl => ⟨hl, h.same b (hr.locb r b base (hr.len ▸ Store.lt_of_get he) hl)⟩
  locb := fun r b base h1 h2 => Nat.lt_of_lt_of_le (hr.locb r b base h1 h2) h.size
  inj := hr.inj
  fzimm := hr.fzimm
  immb := fun b hb => Nat.lt_of_lt_of_le (hr.immb b hb) h.size
  glob := fun g row hg => (hr.glob g row hg).mono hr (Ext.grown (s := s) h)

def Ctx.push (X : Ctx) (l : Option (Nat × Nat)) (rl tip ce : Nat) : Ctx where
  n := X.n + 1
  ver r := if r = X.n then 0 else X.ver r
  loc r := if r = X.n then l else X.loc r
  rl r := if r = X.n then rl else X.rl r
  tip r := if r = X.n then tip else X.tip r
  ce r := if r = X.n then ce else X.ce r
  fz r := if r = X.n then false else X.fz r
  imm := X.imm

theorem Ext.push (hr : Rel P G X s w) (h : Grown w w') (e : Ent) {l : Option (Nat × Nat)} {rl tip ce : Nat} (hl : ∀ b base, l = some (b, base) → w.heap.size ≤ b) :
    Ext X s w (X.push l rl tip ce) (e :: s) w' where
  n := Nat.le_succ _
  keep := fun r hlt => .inl (by simp [Ctx.push, Nat.ne_of_lt hlt])
  imm := fun _ h => h
  size := h.size
  frame := fun b hb _ => h.same b hb
  live := fun b hb => by
    obtain ⟨r, base, h1, h2, h3⟩ := hb
    by_cases e : r = X.n
    · subst e; simp [Ctx.push] at h3; exact .inr (hl _ _ h3)
    · simp [Ctx.push, e] at h2 h3 h1; exact .inl ⟨r, base, by omega, h2, h3⟩
  imm' := fun _ h => .inl h
  late := fun r hlt hn => by
    have e : r ≠ X.n := Nat.ne_of_lt hlt
    refine ⟨by simp [Ctx.push, e, hn], ?_, by simp [Ctx.push, e], by simp [Ctx.push, e], by simp [Ctx.push, e], by simp [Ctx.push, e], by simp [Ctx.push, e]⟩
    rw [Store.get_old]; rw [hr.len]; exact e
  os := h.os

theorem Rel.push (hr : Rel P G X s w) (h : Grown w w') (e : Ent) {l : Option (Nat × Nat)} {rl tip ce : Nat} (hl : ∀ b base, l = some (b, base) → w.heap.size ≤ b ∧ b < w'.heap.size)
    (he : EntR P G (X.push l rl tip ce) w' X.n e) : Rel P G (X.push l rl tip ce) (e :: s) w' := by
  have hx : Ext X s w (X.push l rl tip ce) (e :: s) w' := Ext.push hr h e (fun b base h => (hl b base h).1)
  have hold : ∀ {r : Nat}, r < X.n + 1 → r ≠ X.n → r < X.n := fun h1 h2 => by omega
  refine ⟨by simp [Ctx.push, hr.len], ?_, ?_, ?_, ?_, ?_, ?_⟩
  · intro r e' hg
    by_cases hrn : r = X.n
    · subst hrn; rw [← hr.len, Store.get_new] at hg; cases hg; exact he
    · rw [Store.get_old _ _ _ (by rw [hr.len]; exact hrn)] at hg
      refine (hr.ent r e' hg).mono hr hx (by simp [Ctx.push, hrn]) (by simp [Ctx.push, hrn]) (by simp [Ctx.push, hrn]) (by simp [Ctx.push, hrn]) (by simp [Ctx.push, hrn]) fun b base hl' => ?_
      simp [Ctx.push, hrn] at hl'
      exact ⟨hl', h.same b (hr.locb r b base (hr.len ▸ Store.lt_of_get hg) hl')⟩
  · intro r b base h1 h2
    by_cases hrn : r = X.n
    · subst hrn; simp [Ctx.push] at h2; exact (hl _ _ h2).2
    · simp [Ctx.push, hrn] at h2; exact Nat.lt_of_lt_of_le (hr.locb r b base (hold h1 hrn) h2) h.size
  · intro r r' b base base' h1 h2 h3 h4
    by_cases hrn : r = X.n <;> by_cases hrn' : r' = X.n
    · omega
    · subst hrn; simp [Ctx.push, hrn'] at h3 h4
      have := (hl _ _ h3).1; have := hr.locb r' b base' (hold h2 hrn') h4; omega
    · subst hrn'; simp [Ctx.push, hrn] at h3 h4
      have := (hl _ _ h4).1; have := hr.locb r b base (hold h1 hrn) h3; omega
    · simp [Ctx.push, hrn, hrn'] at h3 h4
      exact hr.inj r r' b base base' (hold h1 hrn) (hold h2 hrn') h3 h4
  · intro r b base h1 h2
    by_cases hrn : r = X.n
    · subst hrn; simp [Ctx.push] at h2 ⊢
      intro hi; have := hr.immb b hi; have := (hl _ _ h2).1; omega
    · simp [Ctx.push, hrn] at h2 ⊢
      exact hr.fzimm r b base (hold h1 hrn) h2
  · exact fun b hb => Nat.lt_of_lt_of_le (hr.immb b hb) h.size
  · exact fun g row hg => (hr.glob g row hg).mono hr hx

/-- A new block that nobody writes. -/
def Ctx.keepBlock (X : Ctx) (b0 : Nat) : Ctx := { X with imm := fun b => X.imm b ∨ b = b0 }

theorem Ext.keepBlock (h : Grown w w') {b0 : Nat} (hb : w.heap.size ≤ b0) : Ext X s w (X.keepBlock b0) s w' where
  n := Nat.le_refl _
  keep := fun _ _ => .inl ⟨rfl, rfl, rfl, rfl, rfl⟩
  imm := fun _ h => .inl h
  size := h.size
  frame := fun b hb _ => h.same b hb
  live := fun _ h => .inl h
  imm' := fun b h => by
    rcases h with h | h
    · exact .inl h
    · subst h; exact .inr (.inr hb)
  late := fun _ _ h => ⟨h, rfl, rfl, rfl, rfl, rfl, rfl⟩
  os := h.os

theorem Rel.keepBlock (hr : Rel P G X s w) (h : Grown w w') {b0 : Nat} (hb : w.heap.size ≤ b0) (hb' : b0 < w'.heap.size) : Rel P G (X.keepBlock b0) s w' := by
  have hx : Ext X s w (X.keepBlock b0) s w' := Ext.keepBlock h hb
  refine ⟨hr.len, ?_, ?_, hr.inj, ?_, ?_, ?_⟩
  · exact fun r e he => (hr.ent r e he).mono hr hx rfl rfl rfl rfl rfl fun b base hl => ⟨hl, h.same b (hr.locb r b base (hr.len ▸ Store.lt_of_get he) hl)⟩
  · exact fun r b base h1 h2 => Nat.lt_of_lt_of_le (hr.locb r b base h1 h2) h.size
  · intro r b base h1 h2
    have hlt := hr.locb r b base h1 h2
    refine ⟨fun h3 => .inl ((hr.fzimm r b base h1 h2).1 h3), fun h3 h4 => ?_⟩
    rcases h4 with h4 | h4
    · exact (hr.fzimm r b base h1 h2).2 h3 h4
    · omega
  · rintro b (hb1 | hb1)
    · exact Nat.lt_of_lt_of_le (hr.immb b hb1) h.size
    · omega
  · exact fun g row hg => (hr.glob g row hg).mono hr hx

/-- An entry is turned: what it holds, and perhaps its version and place. -/
def Ctx.turn (X : Ctx) (r0 : Nat) (v : Nat) (l : Nat × Nat) (rl tip ce : Nat) : Ctx where
  n := X.n
  ver r := if r = r0 then v else X.ver r
  loc r := if r = r0 then some l else X.loc r
  rl r := if r = r0 then rl else X.rl r
  tip r := if r = r0 then tip else X.tip r
  ce r := if r = r0 then ce else X.ce r
  fz := X.fz
  imm := X.imm

/-- The world has grown, and one block is another one. -/
structure Turned (b0 : Nat) (w w' : World) : Prop where
  size : w.heap.size ≤ w'.heap.size
  same : ∀ b, b < w.heap.size → b ≠ b0 → w'.heap[b]? = w.heap[b]?
  os : w'.os = w.os ∧ w'.output = w.output

theorem Ext.turn (hr : Rel P G X s w) {r0 b0 base0 : Nat} (h : Turned b0 w w') (hlt : r0 < X.n) (hf : X.fz r0 = false) (hl : X.loc r0 = some (b0, base0)) (e : Ent)
    {v : Nat} {l : Nat × Nat} {rl tip ce : Nat} (hl' : l.1 = b0 ∨ w.heap.size ≤ l.1)
    (hk : (v = X.ver r0 ∧ l = (b0, base0) ∧ rl = X.rl r0 ∧ tip = X.tip r0 ∧ ce = X.ce r0) ∨ X.ver r0 < v) : Ext X s w (X.turn r0 v l rl tip ce) (s.put r0 e) w' where
  n := Nat.le_refl _
  keep := fun r hr' => by
    by_cases e : r = r0
    · subst e; simp only [Ctx.turn, if_true]
      rcases hk with ⟨a, b, c, d, f⟩ | a
      · exact .inl ⟨a, by rw [b, hl], c, d, f⟩
      · exact .inr a
    · exact .inl (by simp [Ctx.turn, e])
  imm := fun _ h => h
  size := h.size
  frame := fun b hb hl2 => h.same b hb fun e => hl2 ⟨r0, base0, hlt, hf, e ▸ hl⟩
  live := fun b hb => by
    obtain ⟨r, base, h1, h2, h3⟩ := hb
    by_cases e : r = r0
    · subst e; simp [Ctx.turn] at h3
      rcases hl' with h4 | h4
      · exact .inl ⟨r, base0, hlt, hf, by rw [hl]; rw [h3] at h4; simp at h4; rw [h4]⟩
      · rw [h3] at h4; exact .inr h4
    · simp [Ctx.turn, e] at h2 h3; exact .inl ⟨r, base, h1, h2, h3⟩
  imm' := fun _ h => .inl h
  late := fun r hr' hn => by
    have e : r ≠ r0 := fun e => by subst e; rw [hl] at hn; cases hn
    refine ⟨by simp [Ctx.turn, e, hn], ?_, by simp [Ctx.turn, e], by simp [Ctx.turn, e], by simp [Ctx.turn, e], by simp [Ctx.turn, e], rfl⟩
    rw [Store.get_put_other _ _ _ _ (by rw [hr.len]; exact hlt) e]
  os := h.os

theorem Rel.turn (hr : Rel P G X s w) {r0 b0 base0 : Nat} (h : Turned b0 w w') (hlt : r0 < X.n) (hf : X.fz r0 = false) (hl : X.loc r0 = some (b0, base0)) (e : Ent)
    {v : Nat} {l : Nat × Nat} {rl tip ce : Nat} (hl' : l.1 = b0 ∨ (w.heap.size ≤ l.1 ∧ l.1 < w'.heap.size))
    (hk : (v = X.ver r0 ∧ l = (b0, base0) ∧ rl = X.rl r0 ∧ tip = X.tip r0 ∧ ce = X.ce r0) ∨ X.ver r0 < v) (he : EntR P G (X.turn r0 v l rl tip ce) w' r0 e) :
    Rel P G (X.turn r0 v l rl tip ce) (s.put r0 e) w' := by
  have hx : Ext X s w (X.turn r0 v l rl tip ce) (s.put r0 e) w' := Ext.turn hr h hlt hf hl e (hl'.imp id (fun h => h.1)) hk
  have hlen : r0 < s.length := by rw [hr.len]; exact hlt
  have hother : ∀ {r b base : Nat}, r < X.n → r ≠ r0 → X.loc r = some (b, base) → b ≠ b0 := fun h1 h2 h3 e => h2 (hr.inj _ _ _ _ _ h1 hlt h3 (e ▸ hl))
  have hb0 := hr.locb r0 b0 base0 hlt hl
  refine ⟨by rw [Store.length_put]; exact hr.len, ?_, ?_, ?_, ?_, ?_, ?_⟩
  · intro r e' hg
    by_cases hrn : r = r0
    · subst hrn; rw [Store.get_put_same _ _ _ hlen] at hg; cases hg; exact he
    · rw [Store.get_put_other _ _ _ _ hlen hrn] at hg
      refine (hr.ent r e' hg).mono hr hx (by simp [Ctx.turn, hrn]) (by simp [Ctx.turn, hrn]) (by simp [Ctx.turn, hrn]) (by simp [Ctx.turn, hrn]) rfl fun b base hl' => ?_
      simp [Ctx.turn, hrn] at hl'
      have hlt' : r < X.n := hr.len ▸ Store.lt_of_get hg
      exact ⟨hl', h.same b (hr.locb r b base hlt' hl') (hother hlt' hrn hl')⟩
  · intro r b base h1 h2
    by_cases hrn : r = r0
    · subst hrn; simp [Ctx.turn] at h2; subst h2
      rcases hl' with h3 | h3
      · simp at h3; subst h3; exact Nat.lt_of_lt_of_le hb0 h.size
      · exact h3.2
    · simp [Ctx.turn, hrn] at h2; exact Nat.lt_of_lt_of_le (hr.locb r b base h1 h2) h.size
  · intro r r' b base base' h1 h2 h3 h4
    by_cases hrn : r = r0 <;> by_cases hrn' : r' = r0
    · omega
    · subst hrn; simp [Ctx.turn, hrn'] at h3 h4; subst h3
      rcases hl' with h5 | h5
      · exact absurd h5 (hother h2 hrn' h4)
      · have := hr.locb r' b base' h2 h4; simp at h5; omega
    · subst hrn'; simp [Ctx.turn, hrn] at h3 h4; subst h4
      rcases hl' with h5 | h5
      · exact absurd h5 (hother h1 hrn h3)
      · have := hr.locb r b base h1 h3; simp at h5; omega
    · simp [Ctx.turn, hrn, hrn'] at h3 h4
      exact hr.inj r r' b base base' h1 h2 h3 h4
  · intro r b base h1 h2
    by_cases hrn : r = r0
    · subst hrn; simp [Ctx.turn] at h2 ⊢; subst h2
      refine ⟨(fun h3 => by rw [hf] at h3; cases h3), fun _ hi => ?_⟩
      rcases hl' with h5 | h5
      · simp at h5; subst h5; exact (hr.fzimm r b base0 hlt hl).2 hf hi
      · have := hr.immb b hi; simp at h5; omega
    · simp [Ctx.turn, hrn] at h2 ⊢
      exact hr.fzimm r b base h1 h2
  · exact fun b hb => Nat.lt_of_lt_of_le (hr.immb b hb) h.size
  · exact fun g row hg => (hr.glob g row hg).mono hr hx

/-- An entry that nobody writes any more. -/
def Ctx.freeze (X : Ctx) (r0 : Nat) : Ctx :=
  { X with fz := fun r => if r = r0 then true else X.fz r, imm := fun b => X.imm b ∨ ∃ base, X.loc r0 = some (b, base) }

theorem Ext.freeze (hr : Rel P G X s w) {r0 : Nat} {v sz : Nat} {rows : List (List AV)} {fz : Bool} (hg : s.get r0 = some (.cells v sz rows fz)) (hloc : X.loc r0 ≠ none) :
    Ext X s w (X.freeze r0) (s.put r0 (.cells v sz rows true)) w where
  n := Nat.le_refl _
  keep := fun _ _ => .inl ⟨rfl, rfl, rfl, rfl, rfl⟩
  imm := fun _ h => .inl h
  size := Nat.le_refl _
  frame := fun _ _ _ => rfl
  live := fun b hb => by
    obtain ⟨r, base, h1, h2, h3⟩ := hb
    by_cases e : r = r0
    · subst e; simp [Ctx.freeze] at h2
    · simp [Ctx.freeze, e] at h2; exact .inl ⟨r, base, h1, h2, h3⟩
  imm' := fun b h => by
    rcases h with h | ⟨base, h⟩
    · exact .inl h
    · have hlt : r0 < X.n := hr.len ▸ Store.lt_of_get hg
      cases hf : X.fz r0 with
      | true => exact .inl ((hr.fzimm r0 b base hlt h).1 hf)
      | false => exact .inr (.inl ⟨r0, base, hlt, hf, h⟩)
  late := fun r hlt hn => by
    have e : r ≠ r0 := fun e => by subst e; exact hloc hn
    exact ⟨hn, Store.get_put_other _ _ _ _ (Store.lt_of_get hg) e, rfl, rfl, rfl, rfl, by simp [Ctx.freeze, e]⟩
  os := ⟨rfl, rfl⟩

theorem Rel.freeze (hr : Rel P G X s w) {r0 : Nat} {v sz : Nat} {rows : List (List AV)} {fz : Bool} (hg : s.get r0 = some (.cells v sz rows fz)) (hloc : X.loc r0 ≠ none) :
    Rel P G (X.freeze r0) (s.put r0 (.cells v sz rows true)) w := by
  have hx := Ext.freeze hr hg hloc
  have hlt : r0 < X.n := hr.len ▸ Store.lt_of_get hg
  have hlen := Store.lt_of_get hg
  refine ⟨by rw [Store.length_put]; exact hr.len, ?_, hr.locb, hr.inj, ?_, ?_, fun g row h => (hr.glob g row h).mono hr hx⟩
  · intro r e' hg'
    by_cases hrn : r = r0
    · subst hrn; rw [Store.get_put_same _ _ _ hlen] at hg'; cases hg'
      obtain ⟨a1, a2, a3, a4, a5, a6, a7⟩ := hr.ent r _ hg
      refine ⟨a1, a2, a3, by simp [Ctx.freeze], a5, a6, fun b base hl => ?_⟩
      obtain ⟨cs, T, lo, hi, c1, c2, c3, c4⟩ := a7 b base hl
      refine ⟨cs, T, lo, hi, c1, c2, c3, fun i j h1 h2 => ?_⟩
      obtain ⟨c, d1, d2⟩ := c4 i j h1 h2
      exact ⟨c, d1, d2.mono hr hx⟩
    · rw [Store.get_put_other _ _ _ _ hlen hrn] at hg'
      exact (hr.ent r e' hg').mono hr hx rfl rfl rfl rfl (by simp [Ctx.freeze, hrn]) fun b base hl' => ⟨hl', rfl⟩
  · intro r b base h1 h2
    by_cases hrn : r = r0
    · subst hrn; simp [Ctx.freeze]; exact .inr ⟨base, h2⟩
    · simp only [Ctx.freeze, if_neg hrn]
      refine ⟨fun h3 => .inl ((hr.fzimm r b base h1 h2).1 h3), fun h3 h4 => ?_⟩
      rcases h4 with h4 | ⟨base', h4⟩
      · exact (hr.fzimm r b base h1 h2).2 h3 h4
      · exact hrn (hr.inj r r0 b base base' h1 hlt h2 h4)
  · rintro b (hb | ⟨base, hb⟩)
    · exact hr.immb b hb
    · exact hr.locb r0 b base hlt hb
end
end Go.Am

namespace Go.Am
open Go

section
variable {P : Program} {G : Nat → Option (List AV)} {X : Ctx} {s : Store} {w : World}

theorem VR.undef : VR X w .undef Go.undef := .tup [] #[] rfl (fun i h => by simp at h)

theorem mapM_some {α β : Type} (f : α → Option β) : ∀ (l : List α) (r : List β), l.mapM f = some r → r.length = l.length ∧ ∀ i (h : i < l.length) (h' : i < r.length), f l[i] = some r[i] := by
  intro l
  induction l with
  | nil => intro r h; simp at h; subst h; exact ⟨rfl, fun i h => by simp at h⟩
  | cons a l ih =>
    intro r h
    rw [List.mapM_cons] at h
    cases ha : f a with
    | none => simp [ha] at h
    | some b =>
      cases hl : l.mapM f with
      | none => simp [ha, hl] at h
      | some bs =>
        simp [ha, hl] at h
        subst h
        obtain ⟨h1, h2⟩ := ih bs hl
        refine ⟨by simp [h1], fun i hi hi' => ?_⟩
        cases i with
        | zero => simpa using ha
        | succ i => simpa using h2 i (by simpa using hi) (by simpa using hi')

theorem ofValueN_sound : ∀ (n : Nat) (v : Value) (a : AV), ofValueN n v = some a → VR X w a v := by
  intro n
  induction n with
  | zero => intro v a h; simp [ofValueN] at h
  | succ n ih =>
    intro v a h
    unfold ofValueN at h
    split at h
    · cases h; exact .bool _
    · cases h; exact .int _ _
    · cases h; exact .str _
    · cases h; exact .nilp
    · cases h; exact .lnil
    · cases h; exact .nilm
    · rename_i f
      cases h
      exact .fn _ _ [] [] _ _ (.same _ (fun l e => by cases e)) rfl rfl (fun i h => by simp at h) (fun i h => by simp at h)
    · cases h; exact .nilf
    · cases h; exact .nili
    · rename_i t v
      cases hv : ofValueN n v with
      | none => simp [hv] at h
      | some b => simp [hv] at h; subst h; exact .ifc t b v (ih v b hv)
    · rename_i cs
      cases hv : cs.mapM (ofValueN n) with
      | none => simp [hv] at h
      | some bs =>
        simp [hv] at h; subst h
        obtain ⟨h1, h2⟩ := mapM_some _ _ _ hv
        exact .agg bs _ h1 fun i hi hi' => ih _ _ (h2 i (by simpa using hi') hi)
    · cases h; exact .tup [] _ rfl fun i h => by simp at h
    · cases h

theorem VRs.nth {l : List AV} {cs : List Value} (h : VRs X w l cs) (n : Nat) : (l[n]? = none ∧ cs[n]? = none) ∨ ∃ a c, l[n]? = some a ∧ cs[n]? = some c ∧ VR X w a c := by
  rcases Nat.lt_or_ge n l.length with h1 | h1
  · have h2 : n < cs.length := h.1 ▸ h1
    exact .inr ⟨l[n], cs[n], List.getElem?_eq_getElem h1, List.getElem?_eq_getElem h2, h.2 n h1 h2⟩
  · exact .inl ⟨List.getElem?_eq_none h1, List.getElem?_eq_none (h.1 ▸ h1)⟩

theorem tmp_sound {tm : List AV} {a : Act} (ht : VRs X w tm a.tmps.toList) (t : Nat) : VR X w (tm.getD t .undef) (a.tmps.getD t Go.undef) := by
  have e : a.tmps.getD t Go.undef = (a.tmps.toList[t]?).getD Go.undef := by simp
  rw [e, List.getD_eq_getElem?_getD]
  rcases ht.nth t with ⟨h1, h2⟩ | ⟨x, c, h1, h2, h3⟩
  · rw [h1, h2]; exact VR.undef
  · rw [h1, h2]; exact h3

theorem opd_sound (hr : Rel P G X s w) {tm : List AV} {a : Act} (ht : VRs X w tm a.tmps.toList) (x : Operand) : VR X w (ev tm (cOpd G x)) (a.eval x) := by
  cases x with
  | tmp t => exact tmp_sound ht t
  | const v =>
    simp only [cOpd, Act.eval]
    cases hv : ofValue v with
    | none => exact .any _
    | some b => exact ofValueN_sound _ _ _ hv
  | global g =>
    simp only [cOpd, Act.eval]
    cases hg : G g with
    | none => exact .any _
    | some row => exact hr.glob g row hg
  | func f => exact .fn _ _ [] [] _ _ (.same _ (fun l e => by cases e)) rfl rfl (fun i h => by simp at h) (fun i h => by simp at h)

theorem opds_sound (hr : Rel P G X s w) {tm : List AV} {a : Act} (ht : VRs X w tm a.tmps.toList) (xs : Array Operand) :
    VRs X w ((xs.toList.map (cOpd G)).map (ev tm)) (xs.map a.eval).toList := by
  refine ⟨by simp, fun i h h' => ?_⟩
  simp only [List.getElem_map, Array.toList_map, Array.getElem_toList]
  exact opd_sound hr ht _

/-! ### what the tables say -/
theorem run_und {t : TypeId} {d : TypeDesc} (h : P.underlying t = some d) (w : World) : (Go.underlying t).run P w = .ok d w := by simp [Go.underlying, h]
theorem run_info' {t : TypeId} {i : TypeInfo} (h : P.info? t = some i) (w : World) : (typeInfo t).run P w = .ok i w := by simp [typeInfo, h]
theorem info_of_und {t : TypeId} (h : (P.underlying t).isSome) : (P.info? t).isSome := by
  unfold Program.underlying at h
  cases hi : P.info? t with
  | none => simp [hi] at h
  | some i => rfl
theorem run_sizeOf' {t : TypeId} (h : (P.info? t).isSome) (w : World) : (Go.sizeOf t).run P w = .ok (P.cellsOf t) w := by
  obtain ⟨i, hi⟩ := Option.isSome_iff_exists.1 h
  simp [Go.sizeOf, run_info' hi, Program.cellsOf, hi]
theorem run_isAgg' {t : TypeId} (h : (P.underlying t).isSome) (w : World) : (isAgg t).run P w = .ok (aggT P t) w := by
  obtain ⟨d, hd⟩ := Option.isSome_iff_exists.1 h
  simp only [isAgg, Sem.run_bind, run_und hd, Result.andThen_ok, aggT, hd]
  cases d <;> rfl

/-! ### cells -/
theorem VR.one_cell {v : AV} {c : Value} (h : VR X w v c) (ho : v.one = true) : c.oneCell' = true ∧ c.cells = #[c] ∧ v.cells = [v] := by
  cases h <;> simp_all [AV.one, Value.oneCell', Value.cells, AV.cells]

theorem VR.cells {v : AV} {c : Value} (h : VR X w v c) (ho : v.cells.all AV.one = true) : VRs X w v.cells c.cells.toList := by
  cases h with
  | agg l cs hl hv => exact ⟨by simpa [AV.cells, Value.cells] using hl, fun i h h' => by
      simp only [Value.cells, Array.getElem_toList]
      exact hv i h (by simpa [Value.cells] using h')⟩
  | any c => simp [AV.cells, AV.one] at ho
  | tup l cs => simp [AV.cells, AV.one] at ho
  | _ => exact ⟨rfl, fun i h h' => by
      simp only [AV.cells, List.length_singleton] at h
      have : i = 0 := by omega
      subst this
      simp only [AV.cells, Value.cells, List.getElem_cons_zero]
      first
        | exact VR.bool _ | exact VR.int _ _ | exact VR.str _ | exact VR.nilp | exact VR.lnil | exact VR.nilm | exact VR.nilf | exact VR.nili
        | (constructor <;> assumption)
        | assumption⟩

/-- A row of cells in the world. -/
def RowAt (X : Ctx) (w : World) (row : List AV) (b st : Nat) : Prop := ∀ j (h : j < row.length), ∃ c, cellAt w b (st + j) = some c ∧ VR X w row[j] c

theorem cellAt_cells {b i : Nat} {cs : Array Value} {T : TypeId} {fr : Nat × Nat} (h : w.heap[b]? = some (.cells cs T fr)) : cellAt w b i = cs[i]? := by
  simp [cellAt, World.cell?, h]

theorem rp_row {row : List AV} {o : Nat} {c : Value} (h : VR X w (.rp row o) c) : ∃ b st, c = .pointer (some ⟨b, st + o, none⟩) ∧ RowAt X w row b st := by
  cases h with
  | rp _ _ b base cs hi hc hv => exact ⟨b, base, rfl, fun j h => ⟨cs j, hc j h, hv j h⟩⟩

theorem ptr_row (hr : Rel P G X s w) {r v i o sz : Nat} {rows : List (List AV)} {fz : Bool} {c : Value} {row : List AV} (hg : s.get r = some (.cells v sz rows fz)) (h : VR X w (.ptr r v i o) c)
    (hrow : rows[i]? = some row) : ∃ b st, c = .pointer (some ⟨b, st + o, none⟩) ∧ RowAt X w row b st ∧ row.length = sz ∧ row.all AV.one = true := by
  obtain ⟨a1, a2, a3, a4, a5, a6, a7⟩ := hr.ent r _ hg
  cases h with
  | ptr _ _ _ _ a h hv ha =>
    obtain ⟨b, base, hl, rfl⟩ := ha a1.symm
    obtain ⟨cs, T, lo, hi, c1, c2, c3, c4⟩ := a7 b base hl
    obtain ⟨hi, hrow'⟩ := List.getElem?_eq_some_iff.1 hrow
    have hmem : row ∈ rows := hrow' ▸ List.getElem_mem hi
    refine ⟨b, base + i * sz, by rw [a2], fun j hj => ?_, (a5 row hmem).1, (a5 row hmem).2⟩
    obtain ⟨cv, d1, d2⟩ := c4 i j hi (by rw [hrow']; exact hj)
    subst hrow'
    exact ⟨cv, by rw [cellAt_cells c1]; exact d1, d2⟩

theorem place_sound (hr : Rel P G X s w) {g : Bool} {n : Nat} {a v : AV} {c : Value} (h : loadAt s g n a = some v) (hv : VR X w a c) :
    ∃ b st row o, c = .pointer (some ⟨b, st + o, none⟩) ∧ RowAt X w row b st ∧ getRow g n row o = some v := by
  unfold loadAt at h
  split at h
  · rename_i row o
    obtain ⟨b, st, rfl, hrow⟩ := rp_row hv
    exact ⟨b, st, row, o, rfl, hrow, h⟩
  · rename_i r v' i o
    split at h
    · rename_i v'' sz rows fz hg
      split at h
      · rename_i hvv
        subst hvv
        unfold opt at h
        split at h
        · rename_i row hrow
          obtain ⟨b, st, rfl, hrow', _⟩ := ptr_row hr hg hv hrow
          exact ⟨b, st, row, o, rfl, hrow', h⟩
        · cases h
      · cases h
    · cases h
  · cases h

theorem add_plain {a : Addr} (hs : a.spot = none) (n : Nat) : a.add n = ⟨a.block, a.off + n, none⟩ := by
  cases a with
  | mk b o sp =>
    simp only at hs
    subst hs
    unfold Addr.add
    split
    · rename_i h; subst h; rfl
    · rfl

theorem run_load_cell {a : Addr} {c : Value} (h : w.cell? a = some c) : (load a).run P w = .ok c w := by simp [h]

theorem run_loadCellsFrom {b o : Nat} (cs : Nat → Value) : ∀ (n i : Nat) (acc : Array Value), (∀ j, j < n → cellAt w b (o + (i + j)) = some (cs (i + j))) →
    (loadCellsFrom ⟨b, o, none⟩ i n acc).run P w = .ok (acc ++ ((List.range n).map fun j => cs (i + j)).toArray) w := by
  intro n
  induction n with
  | zero => intro i acc _; simp [loadCellsFrom]
  | succ n ih =>
    intro i acc h
    have h0 := h 0 (by omega)
    simp only [Nat.add_zero] at h0
    simp only [loadCellsFrom, Sem.run_bind]
    rw [add_plain rfl, run_load_cell h0]
    simp only [Result.andThen_ok]
    rw [ih (i + 1) (acc.push (cs i)) fun j hj => by have := h (j + 1) (by omega); rw [show i + 1 + j = i + (j + 1) from by omega]; exact this]
    congr 1
    rw [List.range_succ_eq_map]
    apply Array.ext'
    simp only [Array.toList_append, Array.toList_push, List.map_cons, List.map_map, Nat.add_zero, List.append_assoc, List.cons_append, List.nil_append, Array.toList_append]
    congr 2
    apply List.map_congr_left
    intro j _
    simp only [Function.comp]
    congr 1
    omega

theorem run_loadCells {b o : Nat} (cs : Nat → Value) (n : Nat) (h : ∀ j, j < n → cellAt w b (o + j) = some (cs j)) :
    (loadCells ⟨b, o, none⟩ n).run P w = .ok ((List.range n).map cs).toArray w := by
  unfold loadCells
  rw [run_loadCellsFrom cs n 0 #[] (fun j hj => by rw [Nat.zero_add]; exact h j hj)]
  simp

theorem getRow_sound {row : List AV} {b st : Nat} (hrow : RowAt X w row b st) {t : TypeId} (hu : (P.underlying t).isSome) {o : Nat} {v : AV}
    (h : getRow (aggT P t) (P.cellsOf t) row o = some v) : ∃ c, (loadVar t ⟨b, st + o, none⟩).run P w = .ok c w ∧ VR X w v c := by
  unfold loadVar
  simp only [Sem.run_bind, run_isAgg' hu, Result.andThen_ok]
  unfold getRow at h
  cases hg : aggT P t with
  | true =>
    simp only [hg, if_true] at h ⊢
    split at h
    · rename_i hle
      cases h
      have hch : ∀ j, ∃ c, j < P.cellsOf t → cellAt w b (st + o + j) = some c ∧ ∀ (h : o + j < row.length), VR X w row[o + j] c := by
        intro j
        by_cases hj : j < P.cellsOf t
        · obtain ⟨c, h1, h2⟩ := hrow (o + j) (by omega)
          exact ⟨c, fun _ => ⟨by rw [Nat.add_assoc]; exact h1, fun _ => h2⟩⟩
        · exact ⟨Go.undef, fun h => absurd h hj⟩
      obtain ⟨cs, hcs⟩ := Classical.axiomOfChoice hch
      simp only [Sem.run_bind, run_sizeOf' (info_of_und hu), Result.andThen_ok]
      rw [run_loadCells cs _ fun j hj => (hcs j hj).1]
      refine ⟨_, rfl, .agg _ _ ?_ fun i hi hi' => ?_⟩
      · simp; omega
      · simp only [List.length_take, List.length_drop] at hi
        simp only [List.getElem_take, List.getElem_drop, List.getElem_toArray, List.getElem_map, List.getElem_range]
        exact (hcs i (by omega)).2 (by omega)
    · cases h
  | false =>
    simp only [hg, Bool.false_eq_true, if_false] at h ⊢
    obtain ⟨hlt, hv⟩ := List.getElem?_eq_some_iff.1 h
    obtain ⟨c, h1, h2⟩ := hrow o hlt
    exact ⟨c, run_load_cell h1, hv ▸ h2⟩

theorem part_sound {l : List AV} {cs : Array Value} (hv : VR X w (.agg l) (.agg cs)) {t : TypeId} (hu : (P.underlying t).isSome) {o : Nat} {v : AV}
    (h : getRow (aggT P t) (P.cellsOf t) l o = some v) : ∃ c, (part t cs o).run P w = .ok c w ∧ VR X w v c := by
  cases hv with
  | agg _ _ hl hv =>
  unfold part
  simp only [Sem.run_bind, run_isAgg' hu, Result.andThen_ok]
  unfold getRow at h
  cases hg : aggT P t with
  | true =>
    simp only [hg, if_true] at h ⊢
    split at h
    · rename_i hle
      cases h
      simp only [Sem.run_bind, run_sizeOf' (info_of_und hu), Result.andThen_ok]
      refine ⟨_, rfl, .agg _ _ ?_ fun i hi hi' => ?_⟩
      · simp; omega
      · simp only [List.length_take, List.length_drop] at hi
        simp only [List.getElem_take, List.getElem_drop, Array.getElem_extract]
        exact hv (o + i) (by omega) (by omega)
    · cases h
  | false =>
    simp only [hg, Bool.false_eq_true, if_false] at h ⊢
    obtain ⟨hlt, he⟩ := List.getElem?_eq_some_iff.1 h
    have h2 : o < cs.size := hl ▸ hlt
    rw [Array.getElem?_eq_getElem h2]
    exact ⟨_, rfl, he ▸ hv o hlt h2⟩
end
end Go.Am

namespace Go.Am
open Go

section
variable {P : Program} {G : Nat → Option (List AV)} {X : Ctx} {s : Store} {w : World}

/-! ### filling -/
theorem foldSet_get (l : List Value) : ∀ (i off : Nat) (cs : Array Value) (k : Nat),
    ((l.zipIdx i).foldl (fun cs p => cs.setIfInBounds (off + p.2) p.1) cs)[k]? = if off + i ≤ k ∧ k < off + i + l.length ∧ k < cs.size then l[k - (off + i)]? else cs[k]? := by
  induction l with
  | nil =>
    intro i off cs k
    simp only [List.zipIdx_nil, List.foldl_nil, List.length_nil]
    rw [if_neg (by omega)]
  | cons x l ih =>
    intro i off cs k
    simp only [List.zipIdx_cons, List.foldl_cons, List.length_cons]
    rw [ih (i + 1) off]
    simp only [Array.size_setIfInBounds, Array.getElem?_setIfInBounds]
    by_cases h1 : off + (i + 1) ≤ k ∧ k < off + (i + 1) + l.length ∧ k < cs.size
    · rw [if_pos h1, if_pos (by omega), show k - (off + i) = (k - (off + (i + 1))) + 1 from by omega, List.getElem?_cons_succ]
    · rw [if_neg h1]
      by_cases h2 : off + i = k
      · subst h2
        rw [if_pos rfl]
        by_cases h3 : off + i < cs.size
        · rw [if_pos h3, if_pos ⟨by omega, by omega, h3⟩]; simp
        · rw [if_neg h3, if_neg (by omega), Array.getElem?_eq_none (by omega)]
      · rw [if_neg h2, if_neg (by omega)]

theorem foldSet_size (l : List Value) : ∀ (i off : Nat) (cs : Array Value), ((l.zipIdx i).foldl (fun cs p => cs.setIfInBounds (off + p.2) p.1) cs).size = cs.size := by
  induction l with
  | nil => intro i off cs; rfl
  | cons x l ih => intro i off cs; simp only [List.zipIdx_cons, List.foldl_cons]; rw [ih]; simp

theorem splice_get (row : List AV) (o : Nat) (xs : List AV) (h : o + xs.length ≤ row.length) (k : Nat) :
    (splice row o xs)[k]? = if o ≤ k ∧ k < o + xs.length then xs[k - o]? else row[k]? := by
  unfold splice
  rw [List.getElem?_append, List.getElem?_append]
  simp only [List.length_append, List.length_take, List.getElem?_take, List.getElem?_drop]
  have hm : min o row.length = o := by omega
  rw [hm]
  by_cases h1 : k < o
  · rw [if_pos (by omega), if_pos h1, if_pos h1, if_neg (by omega)]
  · by_cases h2 : k < o + xs.length
    · rw [if_pos h2, if_neg h1, if_pos ⟨by omega, h2⟩]
    · rw [if_neg h2, if_neg (by omega)]
      congr 1; omega

theorem splice_length (row : List AV) (o : Nat) (xs : List AV) (h : o + xs.length ≤ row.length) : (splice row o xs).length = row.length := by
  unfold splice; simp; omega

/-- Lists whose elements, as far as there are any, belong together. -/
theorem VRs.of_get {l : List AV} {cs : List Value} (hl : l.length = cs.length) (h : ∀ (k : Nat) (a : AV) (c : Value), l[k]? = some a → cs[k]? = some c → VR X w a c) : VRs X w l cs :=
  ⟨hl, fun i h1 h2 => h i _ _ (List.getElem?_eq_getElem h1) (List.getElem?_eq_getElem h2)⟩
theorem VRs.get {l : List AV} {cs : List Value} (h : VRs X w l cs) {k : Nat} {a : AV} {c : Value} (h1 : l[k]? = some a) (h2 : cs[k]? = some c) : VR X w a c := by
  obtain ⟨i1, e1⟩ := List.getElem?_eq_some_iff.1 h1
  obtain ⟨i2, e2⟩ := List.getElem?_eq_some_iff.1 h2
  exact e1 ▸ e2 ▸ h.2 k i1 i2

theorem VRs.put {l : List AV} {cs : Array Value} (h : VRs X w l cs.toList) {x : List AV} {y : Array Value} (hx : VRs X w x y.toList) {o : Nat} (hle : o + x.length ≤ l.length) :
    VRs X w (splice l o x) (y.zipIdx.foldl (fun cs p => cs.setIfInBounds (o + p.2) p.1) cs).toList := by
  have hy : y.zipIdx.foldl (fun cs p => cs.setIfInBounds (o + p.2) p.1) cs = (y.toList.zipIdx 0).foldl (fun cs p => cs.setIfInBounds (o + p.2) p.1) cs := by
    rw [← Array.foldl_toList, Array.toList_zipIdx]
  rw [hy]
  have hl1 : l.length = cs.size := by simpa using h.1
  have hx1 : x.length = y.toList.length := hx.1
  refine VRs.of_get ?_ fun k a c h1 h2 => ?_
  · rw [splice_length _ _ _ hle]
    have e := foldSet_size y.toList 0 o cs
    rw [← Array.length_toList] at e
    rw [e, hl1]
  · rw [splice_get _ _ _ hle] at h1
    rw [Array.getElem?_toList, foldSet_get] at h2
    simp only [Nat.add_zero] at h2
    by_cases hk : o ≤ k ∧ k < o + x.length
    · rw [if_pos hk] at h1
      rw [if_pos ⟨hk.1, by omega, by omega⟩] at h2
      exact hx.get h1 h2
    · rw [if_neg hk] at h1
      rw [if_neg (by omega)] at h2
      exact h.get h1 (by rw [Array.getElem?_toList]; exact h2)

theorem fill_sound (hr : Rel P G X s w) {tm : List AV} {a : Act} (ht : VRs X w tm a.tmps.toList) (place : Nat → Option (Nat × Nat)) (f : Nat → Nat × Nat) :
    ∀ (ps : List (Nat × Operand)) (_ : ∀ p ∈ ps, place p.1 = some (f p.1)) (z l : List AV) (cs : Array Value), VRs X w z cs.toList →
      fillA z ((ps.map fun p => ((f p.1).1, (f p.1).2, cOpd G p.2)).map fun p => (p.1, p.2.1, ev tm p.2.2)) = some l →
      ∃ cs', Instr.fill place cs (ps.map fun p => (p.1, a.eval p.2)) = some cs' ∧ VRs X w l cs'.toList := by
  intro ps
  induction ps with
  | nil =>
    intro _ z l cs hz h
    simp only [List.map_nil, fillA] at h
    cases h
    exact ⟨cs, rfl, hz⟩
  | cons p ps ih =>
    intro hp z l cs hz h
    simp only [List.map_cons, fillA] at h
    split at h
    · rename_i hc
      obtain ⟨h1, h2, h3⟩ := hc
      have hx := (opd_sound hr ht p.2).cells h3
      have hsz : z.length = cs.size := by simpa using hz.1
      have hxl : (ev tm (cOpd G p.2)).cells.length = (a.eval p.2).cells.size := by simpa using hx.1
      have := hz.put hx (o := (f p.1).1) (by omega)
      obtain ⟨cs', e1, e2⟩ := ih (fun q hq => hp q (List.mem_cons_of_mem _ hq)) _ l _ this h
      refine ⟨cs', ?_, e2⟩
      simp only [List.map_cons, Instr.fill, hp p List.mem_cons_self]
      rw [if_neg (by simp; omega)]
      exact e1
    · cases h

/-! ### rows and their cells -/
theorem flatten_get {sz : Nat} : ∀ (rows : List (List AV)) (_ : ∀ row ∈ rows, row.length = sz) (i j : Nat) (row : List AV), rows[i]? = some row → j < sz → rows.flatten[i * sz + j]? = row[j]? := by
  intro rows
  induction rows with
  | nil => intro _ i j row h; simp at h
  | cons r rows ih =>
    intro hsz i j row h hj
    have hr := hsz r List.mem_cons_self
    rw [List.flatten_cons, List.getElem?_append]
    cases i with
    | zero => simp at h; subst h; rw [if_pos (by omega)]; simp
    | succ i =>
      simp at h
      rw [if_neg (by rw [hr, Nat.succ_mul]; omega), ← ih (fun q hq => hsz q (List.mem_cons_of_mem _ hq)) i j row h hj]
      congr 1
      rw [hr, Nat.succ_mul]; omega

theorem flatten_length {sz : Nat} : ∀ (rows : List (List AV)) (_ : ∀ row ∈ rows, row.length = sz), rows.flatten.length = rows.length * sz := by
  intro rows
  induction rows with
  | nil => intro _; simp
  | cons r rows ih =>
    intro h
    rw [List.flatten_cons, List.length_append, ih (fun q hq => h q (List.mem_cons_of_mem _ hq)), h r List.mem_cons_self, List.length_cons, Nat.succ_mul]; omega

theorem flatten_set {sz : Nat} : ∀ (rows : List (List AV)) (_ : ∀ row ∈ rows, row.length = sz) (i : Nat) (x : List AV), i < rows.length → x.length = sz →
    (rows.set i x).flatten = splice rows.flatten (i * sz) x := by
  intro rows
  induction rows with
  | nil => intro _ i x h; simp at h
  | cons r rows ih =>
    intro hsz i x hi hx
    have hr := hsz r List.mem_cons_self
    have hrest := fun q hq => hsz q (List.mem_cons_of_mem r hq)
    cases i with
    | zero =>
      simp only [List.set_cons_zero, List.flatten_cons, splice, Nat.zero_mul, List.take_zero, List.nil_append, Nat.zero_add]
      rw [hx, ← hr, List.drop_left]
    | succ i =>
      simp only [List.set_cons_succ, List.flatten_cons]
      rw [ih hrest i x (by simpa using hi) hx]
      unfold splice
      have e : (i + 1) * sz = r.length + i * sz := by rw [hr, Nat.succ_mul]; omega
      rw [e, List.take_length_add_append, Nat.add_assoc, List.drop_length_add_append]
      simp [List.append_assoc]

theorem fillRows_flat {sz n : Nat} : ∀ (ps : List (Nat × AV)) (rows rows' : List (List AV)), (∀ row ∈ rows, row.length = sz) → rows.length = n → fillRows sz n rows ps = some rows' →
    fillA rows.flatten (ps.map fun p => (p.1 * sz, sz, p.2)) = some rows'.flatten ∧ (∀ row ∈ rows', row.length = sz) ∧ rows'.length = n := by
  intro ps
  induction ps with
  | nil => intro rows rows' h1 h2 h; simp only [fillRows] at h; cases h; exact ⟨rfl, h1, h2⟩
  | cons p ps ih =>
    intro rows rows' h1 h2 h
    obtain ⟨i, x⟩ := p
    simp only [fillRows] at h
    split at h
    · rename_i hc
      have h3 : ∀ row ∈ rows.set i x.cells, row.length = sz := fun row hm => by
        rcases List.mem_or_eq_of_mem_set hm with hm | hm
        · exact h1 row hm
        · subst hm; exact hc.1
      obtain ⟨e1, e2, e3⟩ := ih _ rows' h3 (by simp [h2]) h
      refine ⟨?_, e2, e3⟩
      simp only [List.map_cons, fillA]
      rw [if_pos, ← flatten_set rows h1 i x.cells (by omega) hc.1]
      · exact e1
      · refine ⟨hc.1, ?_, hc.2.2⟩
        rw [flatten_length rows h1, h2]
        have : (i + 1) * sz ≤ n * sz := Nat.mul_le_mul_right _ (by omega)
        rw [Nat.succ_mul] at this; exact this
    · cases h

theorem fillRows_one {sz n : Nat} : ∀ (ps : List (Nat × AV)) (rows rows' : List (List AV)), (∀ row ∈ rows, row.all AV.one = true) → fillRows sz n rows ps = some rows' → ∀ row ∈ rows', row.all AV.one = true := by
  intro ps
  induction ps with
  | nil => intro rows rows' h1 h; simp only [fillRows] at h; cases h; exact h1
  | cons p ps ih =>
    intro rows rows' h1 h
    obtain ⟨i, x⟩ := p
    simp only [fillRows] at h
    split at h
    · rename_i hc
      refine ih _ _ (fun row hm => ?_) h
      rcases List.mem_or_eq_of_mem_set hm with hm | hm
      · exact h1 row hm
      · subst hm; exact hc.2.2
    · cases h

theorem zeroOf_sound {t : TypeId} {z : AV} (h : zeroOf P t = some z) (w' : World) : ∃ c, (zeroValue t).run P w' = .ok c w' ∧ VR X w z c := by
  unfold zeroOf at h
  cases hi : P.info? t with
  | none => simp [hi] at h
  | some i =>
    simp only [hi, Option.bind_some] at h
    cases hz : i.zero with
    | none => simp [hz] at h
    | some v =>
      simp only [hz, Option.bind_some] at h
      exact ⟨v, by simp [zeroValue, run_info' hi, hz], ofValueN_sound _ _ _ h⟩

theorem ofValueN_one : ∀ (n : Nat) (v : Value) (a : AV), ofValueN n v = some a → a ≠ .any := by
  intro n v a h
  cases n with
  | zero => simp [ofValueN] at h
  | succ n =>
    unfold ofValueN at h
    split at h <;> first
      | (cases h; done)
      | (cases h; intro e; cases e; done)
      | (rename_i t v; cases hv : ofValueN n v <;> simp [hv] at h; subst h; intro e; cases e)
      | (rename_i cs; cases hv : cs.mapM (ofValueN n) <;> simp [hv] at h; subst h; intro e; cases e)

theorem zeroCells_sound {t : TypeId} {z : List AV} (h : zeroCells P t = some z) (w' : World) :
    ∃ c, (zeroValue t).run P w' = .ok c w' ∧ VRs X w z c.cells.toList ∧ z.length = P.cellsOf t ∧ (P.info? t).isSome := by
  unfold zeroCells at h
  cases hz : zeroOf P t with
  | none => simp [hz] at h
  | some v =>
    simp only [hz, Option.bind_some] at h
    split at h
    · rename_i hl
      cases h
      obtain ⟨c, h1, h2⟩ := zeroOf_sound (X := X) (w := w) hz w'
      refine ⟨c, h1, ?_, hl, ?_⟩
      · have hne : v ≠ .any := by
          unfold zeroOf at hz
          cases hi : P.info? t with
          | none => simp [hi] at hz
          | some i =>
            simp only [hi, Option.bind_some] at hz
            cases hz' : i.zero with
            | none => simp [hz'] at hz
            | some v' => simp only [hz', Option.bind_some] at hz; exact ofValueN_one _ _ _ hz
        cases h2 with
        | any c => exact absurd rfl hne
        | agg l cs hl' hv => exact ⟨by simpa [AV.cells, Value.cells] using hl', fun i h h' => by
            simp only [Value.cells, Array.getElem_toList]; exact hv i h (by simpa [Value.cells] using h')⟩
        | _ => exact ⟨rfl, fun i h h' => by
            simp only [AV.cells, List.length_singleton] at h
            have : i = 0 := by omega
            subst this
            simp only [AV.cells, Value.cells, List.getElem_cons_zero]
            first
              | exact VR.bool _ | exact VR.int _ _ | exact VR.str _ | exact VR.nilp | exact VR.lnil | exact VR.nilm | exact VR.nilf | exact VR.nili
              | (constructor <;> assumption)
              | assumption⟩
      · unfold zeroOf at hz
        cases hi : P.info? t with
        | none => simp [hi] at hz
        | some i => rfl
    · cases h
end
end Go.Am

namespace Go.Am
open Go

section
variable {P : Program} {G : Nat → Option (List AV)} {X : Ctx} {s : Store} {w : World}

def kindOk (P : Program) (k : CK) (t : TypeId) : Prop :=
  match k with
  | .int => ∃ i, P.underlying t = some (.int i)
  | .str => P.underlying t = some .string
  | .bool => P.underlying t = some .bool

theorem bytesN_inj {a b : ByteArray} (h : bytesN a = bytesN b) : a = b := by
  have h2 : a.data.toList = b.data.toList := List.map_inj_right (fun x y h => UInt8.toNat_inj.1 h) |>.1 h
  obtain ⟨⟨x⟩⟩ := a
  obtain ⟨⟨y⟩⟩ := b
  simp at h2
  rw [h2]

theorem bytesN_beq (a b : ByteArray) : (bytesN a == bytesN b) = (a == b) := by
  rw [beq_toListBytes, Bool.eq_iff_iff, beq_iff_eq, beq_iff_eq, ByteArray.toList_eq, ByteArray.toList_eq]
  constructor
  · intro h; rw [bytesN_inj h]
  · intro h; unfold bytesN; rw [h]

theorem simple_sound {k : CK} {x y : AV} {cx cy : Value} {r : Bool} (h : simpleEq k x y = some r) (hx : VR X w x cx) (hy : VR X w y cy) {t : TypeId} (hk : kindOk P k t) (D : Nat) (w' : World) :
    (Op.equalIn (D + 1) t cx cy).run P w' = .ok r w' := by
  unfold simpleEq at h
  split at h
  · cases hx; cases hy; cases h; exact run_equalIn_bool w' D t _ _ hk
  · split at h
    · cases hx; cases hy; cases h
      rename_i hkk; subst hkk
      obtain ⟨i, hi⟩ := hk
      exact run_equalIn_int w' D t _ _ _ _ hi
    · cases h
  · cases hx; cases hy; cases h
    rw [run_equalIn_string w' D t _ _ hk, ← beq_toListBytes, bytesN_beq]
  · cases h

theorem simple_one {k : CK} {x y : AV} {r : Bool} (h : simpleEq k x y = some r) : (x.one = true ∧ x.cells = [x]) ∧ (y.one = true ∧ y.cells = [y]) := by
  unfold simpleEq at h
  split at h
  · exact ⟨⟨rfl, rfl⟩, rfl, rfl⟩
  · exact ⟨⟨rfl, rfl⟩, rfl, rfl⟩
  · exact ⟨⟨rfl, rfl⟩, rfl, rfl⟩
  · cases h

theorem cellsEq_length : ∀ (ks : List CK) (a b : List AV) (r : Bool), cellsEq ks a b = some r → a.length = ks.length ∧ b.length = ks.length := by
  intro ks
  induction ks with
  | nil => intro a b r h; cases a <;> cases b <;> simp [cellsEq] at h ⊢
  | cons k ks ih =>
    intro a b r h
    cases a with
    | nil => simp [cellsEq] at h
    | cons x xs =>
      cases b with
      | nil => simp [cellsEq] at h
      | cons y ys =>
        simp only [cellsEq, opt] at h
        split at h
        · split at h
          · rename_i h2; have := ih _ _ _ h2; simp; omega
          · cases h
        · cases h

theorem cellsEq_append : ∀ (k1 k2 : List CK) (a b : List AV) (r : Bool), cellsEq (k1 ++ k2) a b = some r →
    ∃ r1 r2, cellsEq k1 (a.take k1.length) (b.take k1.length) = some r1 ∧ cellsEq k2 (a.drop k1.length) (b.drop k1.length) = some r2 ∧ r = (r1 && r2) := by
  intro k1
  induction k1 with
  | nil => intro k2 a b r h; exact ⟨true, r, by simp [cellsEq], by simpa using h, by simp⟩
  | cons k k1 ih =>
    intro k2 a b r h
    cases a with
    | nil => simp [cellsEq] at h
    | cons x xs =>
      cases b with
      | nil => simp [cellsEq] at h
      | cons y ys =>
        simp only [List.cons_append, cellsEq, opt] at h
        split at h
        · rename_i r0 h0
          split at h
          · rename_i r' h2
            obtain ⟨r1, r2, e1, e2, e3⟩ := ih k2 xs ys r' h2
            simp only [Option.some.injEq] at h
            refine ⟨r0 && r1, r2, ?_, by simpa using e2, by rw [← h, e3, Bool.and_assoc]⟩
            simp [cellsEq, opt, h0, e1]
          · cases h
        · cases h

def EqOk (P : Program) (X : Ctx) (w : World) (d : Nat) (t : TypeId) (ks : List CK) : Prop :=
  ∀ (a b : List AV) (cx cy : Value) (r : Bool), cellsEq ks a b = some r → (if aggT P t then VR X w (.agg a) cx ∧ VR X w (.agg b) cy else ∃ x y, a = [x] ∧ b = [y] ∧ VR X w x cx ∧ VR X w y cy) →
    ∀ D, d ≤ D → ∀ w', (Op.equalIn D t cx cy).run P w' = .ok r w'

theorem agg_part {l : List AV} {cs : Array Value} (hv : VR X w (.agg l) (.agg cs)) {t : TypeId} (hu : (P.underlying t).isSome) {o : Nat} (ho : o + P.cellsOf t ≤ l.length)
    (h1 : aggT P t = false → P.cellsOf t = 1) (w' : World) : ∃ c, (part t cs o).run P w' = .ok c w' ∧
      (if aggT P t then VR X w (.agg ((l.drop o).take (P.cellsOf t))) c else ∃ x, (l.drop o).take (P.cellsOf t) = [x] ∧ VR X w x c) := by
  cases hv with
  | agg _ _ hlen hv =>
  unfold part
  simp only [Sem.run_bind, run_isAgg' hu, Result.andThen_ok]
  cases hg : aggT P t with
  | true =>
    simp only [if_true, Sem.run_bind, run_sizeOf' (info_of_und hu), Result.andThen_ok]
    refine ⟨_, rfl, .agg _ _ (by simp; omega) fun i hi hi' => ?_⟩
    simp only [List.length_take, List.length_drop] at hi
    simp only [List.getElem_take, List.getElem_drop, Array.getElem_extract]
    exact hv (o + i) (by omega) (by omega)
  | false =>
    have h1' := h1 hg
    have h2 : o < cs.size := by omega
    simp only [Bool.false_eq_true, if_false]
    rw [Array.getElem?_eq_getElem h2]
    refine ⟨_, rfl, l[o], ?_, hv o (by omega) h2⟩
    rw [h1', List.drop_eq_getElem_cons (by omega : o < l.length)]; rfl

theorem underlying_ne_of_flat {d : Nat} {t : TypeId} {ks : List CK} (h : flatT P d t = some ks) : (P.underlying t).isSome := by
  cases d with
  | zero => simp [flatT] at h
  | succ d =>
    cases hu : P.underlying t with
    | none => simp [flatT, hu] at h
    | some u => rfl

theorem aggT_flat {d : Nat} {t : TypeId} {ks : List CK} (h : flatT P d t = some ks) (ha : aggT P t = false) : ks.length = 1 := by
  cases d with
  | zero => simp [flatT] at h
  | succ d =>
    unfold flatT at h
    split at h
    · cases h; rfl
    · cases h; rfl
    · cases h; rfl
    · rename_i hu; simp [aggT, hu] at ha
    · cases h

theorem foldl_none (f : Option (List CK) → Field → Option (List CK)) (hf : ∀ x, f none x = none) : ∀ fs, List.foldl f none fs = none := by
  intro fs
  induction fs with
  | nil => rfl
  | cons x fs ih => rw [List.foldl_cons, hf, ih]

theorem flat_eq : ∀ (d : Nat) (t : TypeId) (ks : List CK), flatT P d t = some ks → EqOk P X w d t ks := by
  intro d
  induction d with
  | zero => intro t ks h; simp [flatT] at h
  | succ d ih =>
    intro t ks h a b cx cy r hc hv D hD w'
    obtain ⟨D, rfl⟩ : ∃ D', D = D' + 1 := ⟨D - 1, by omega⟩
    have one : ∀ (k : CK), kindOk P k t → cellsEq [k] a b = some r → aggT P t = false → (Op.equalIn (D + 1) t cx cy).run P w' = .ok r w' := by
      intro k hk hc ha
      rw [ha] at hv
      obtain ⟨x, y, rfl, rfl, hx, hy⟩ := hv
      simp only [cellsEq, opt] at hc
      split at hc
      · rename_i r0 h0
        simp only [Option.some.injEq, Bool.and_true] at hc
        subst hc
        exact simple_sound h0 hx hy hk D w'
      · cases hc
    unfold flatT at h
    split at h
    · rename_i i hu; cases h; exact one .int ⟨i, hu⟩ hc (by simp [aggT, hu])
    · rename_i hu; cases h; exact one .str hu hc (by simp [aggT, hu])
    · rename_i hu; cases h; exact one .bool hu hc (by simp [aggT, hu])
    · rename_i fs hu
      split at h
      · cases h
      · rename_i hst
        have hst : P.stoodInHeld t = false := by simpa using hst
        have hag : aggT P t = true := by simp [aggT, hu]
        rw [hag] at hv
        obtain ⟨hx, hy⟩ := hv
        cases hx with
        | agg _ xs hlx hvx =>
        cases hy with
        | agg _ ys hly hvy =>
        have hfo : P.fieldsOf t = fs := by simp [Program.fieldsOf, hu]
        rw [run_equalIn_struct w' D t xs ys (by rw [hfo]; exact hu) hst, hfo]
        -- field by field
        have key : ∀ (fl : List Field) (l0 : List CK), fl.foldl (fun (acc : Option (List CK)) f => acc.bind fun l => (flatT P d f.type).bind fun k =>
              if f.name ≠ "_" ∧ f.offset = l.length ∧ k.length = P.cellsOf f.type ∧ (P.info? f.type).isSome then some (l ++ k) else none) (some l0) = some ks →
            ∀ r, (∃ k2, ks = l0 ++ k2 ∧ cellsEq k2 (a.drop l0.length) (b.drop l0.length) = some r) → (Op.eqFields D xs ys fl).run P w' = .ok r w' := by
          intro fl
          induction fl with
          | nil =>
            intro l0 hf r hr
            obtain ⟨k2, e1, e2⟩ := hr
            simp only [List.foldl_nil, Option.some.injEq] at hf
            subst hf
            have : k2 = [] := by
              have h1 := congrArg List.length e1
              simp only [List.length_append] at h1
              exact List.length_eq_zero_iff.1 (by omega)
            subst this
            obtain ⟨h1, h2⟩ := cellsEq_length _ _ _ _ e2
            simp only [List.length_nil] at h1 h2
            rw [List.length_eq_zero_iff.1 h1, List.length_eq_zero_iff.1 h2] at e2
            simp only [cellsEq, Option.some.injEq] at e2
            subst e2
            rfl
          | cons f fl ihf =>
            intro l0 hf r hr
            rw [List.foldl_cons] at hf
            simp only [Option.bind_some] at hf
            cases hk : flatT P d f.type with
            | none => simp only [hk, Option.bind_none] at hf; rw [foldl_none _ (fun x => rfl)] at hf; cases hf
            | some k =>
              simp only [hk, Option.bind_some] at hf
              split at hf
              · rename_i hcond
                obtain ⟨hn, hoff, hklen, hinfo⟩ := hcond
                obtain ⟨k2, e1, e2⟩ := hr
                -- what comes of the rest begins with k
                have hpre : ∃ k3, k2 = k ++ k3 := by
                  have : ∀ (fl : List Field) (l1 : List CK), fl.foldl (fun (acc : Option (List CK)) f => acc.bind fun l => (flatT P d f.type).bind fun k =>
                      if f.name ≠ "_" ∧ f.offset = l.length ∧ k.length = P.cellsOf f.type ∧ (P.info? f.type).isSome then some (l ++ k) else none) (some l1) = some ks → ∃ k3, ks = l1 ++ k3 := by
                    intro fl
                    induction fl with
                    | nil => intro l1 h; simp only [List.foldl_nil, Option.some.injEq] at h; exact ⟨[], by simp [h]⟩
                    | cons f fl ih2 =>
                      intro l1 h
                      rw [List.foldl_cons] at h
                      simp only [Option.bind_some] at h
                      cases hk : flatT P d f.type with
                      | none => simp only [hk, Option.bind_none] at h; rw [foldl_none _ (fun x => rfl)] at h; cases h
                      | some k =>
                        simp only [hk, Option.bind_some] at h
                        split at h
                        · obtain ⟨k3, e⟩ := ih2 _ h; exact ⟨k ++ k3, by rw [e, List.append_assoc]⟩
                        · rw [foldl_none _ (fun x => rfl)] at h; cases h
                  obtain ⟨k3, e3⟩ := this fl _ hf
                  rw [e1, List.append_assoc, List.append_cancel_left_eq] at e3
                  exact ⟨k3, e3⟩
                obtain ⟨k3, rfl⟩ := hpre
                obtain ⟨r1, r2, c1, c2, c3⟩ := cellsEq_append _ _ _ _ _ e2
                have hlen := cellsEq_length _ _ _ _ e2
                simp only [List.length_drop, List.length_append] at hlen
                have hla := (cellsEq_length _ _ _ _ hc).1
                have hlb := (cellsEq_length _ _ _ _ hc).2
                rw [e1] at hla hlb
                simp only [List.length_append] at hla hlb
                have hund := underlying_ne_of_flat hk
                have h1c : aggT P f.type = false → P.cellsOf f.type = 1 := fun ha => by rw [← hklen]; exact aggT_flat hk ha
                obtain ⟨pa, ra, va⟩ := agg_part (.agg a xs hlx hvx) hund (o := f.offset) (by omega) h1c w'
                obtain ⟨pb, rb, vb⟩ := agg_part (.agg b ys hly hvy) hund (o := f.offset) (by omega) h1c w'
                have heq : (Op.equalIn D f.type pa pb).run P w' = .ok r1 w' := by
                  refine ih f.type k hk _ _ pa pb r1 c1 ?_ D (by omega) w'
                  rw [hoff, ← hklen] at va vb
                  cases hg : aggT P f.type with
                  | true => rw [hg] at va vb; simp only [if_true] at va vb ⊢; exact ⟨va, vb⟩
                  | false =>
                    rw [hg] at va vb
                    simp only [Bool.false_eq_true, if_false] at va vb ⊢
                    obtain ⟨x, ex, vx⟩ := va
                    obtain ⟨y, ey, vy⟩ := vb
                    exact ⟨x, y, ex, ey, vx, vy⟩
                simp only [Op.eqFields, if_pos hn, Sem.run_bind, ra, rb, heq, Result.andThen_ok, Sem.run_ite]
                cases r1 with
                | false => simp only [Bool.not_false, if_true, Sem.run_pure, c3, Bool.false_and]
                | true =>
                  simp only [Bool.not_true, Bool.false_eq_true, if_false]
                  rw [ihf _ hf r2 ⟨k3, by rw [e1, List.append_assoc], by simpa [List.drop_drop, Nat.add_comm] using c2⟩, c3, Bool.true_and]
              · rw [foldl_none _ (fun x => rfl)] at hf; cases hf
        exact key fs.toList [] h r ⟨ks, rfl, by simpa using hc⟩
    · cases h
end
end Go.Am

namespace Go.Am
open Go

section
variable {P : Program} {G : Nat → Option (List AV)} {X : Ctx} {s : Store} {w : World}

theorem checkKey_ok (emp : Bool) : ∀ (d : Nat) (t : TypeId) (ks : List CK), flatT P d t = some ks → ∀ (a : List AV) (cx : Value), a.length = ks.length → (aggT P t = true → VR X w (.agg a) cx) →
    ∀ n, d ≤ n → ∀ w', (Instr.checkKey emp n t cx).run P w' = .ok () w' := by
  intro d
  induction d with
  | zero => intro t ks h; simp [flatT] at h
  | succ d ih =>
    intro t ks h a cx hlen hv n hn w'
    obtain ⟨n, rfl⟩ : ∃ n', n = n' + 1 := ⟨n - 1, by omega⟩
    unfold flatT at h
    split at h
    · rename_i i hu; simp [Instr.checkKey, run_und hu]
    · rename_i hu; simp [Instr.checkKey, run_und hu]
    · rename_i hu; simp [Instr.checkKey, run_und hu]
    · rename_i fs hu
      split at h
      · cases h
      · have hag : aggT P t = true := by simp [aggT, hu]
        have hx := hv hag
        cases hx with
        | agg _ xs hlx hvx =>
        simp only [Instr.checkKey, Sem.run_bind, run_und hu, Result.andThen_ok]
        rw [← Array.forIn_toList]
        have key : ∀ (fl : List Field) (l0 : List CK), fl.foldl (fun (acc : Option (List CK)) f => acc.bind fun l => (flatT P d f.type).bind fun k =>
              if f.name ≠ "_" ∧ f.offset = l.length ∧ k.length = P.cellsOf f.type ∧ (P.info? f.type).isSome then some (l ++ k) else none) (some l0) = some ks →
            (forIn fl PUnit.unit (fun f (_ : PUnit) => (if f.name ≠ "_" then do
                let y ← part f.type xs f.offset
                Instr.checkKey emp n f.type y
                pure (ForInStep.yield PUnit.unit)
              else pure (ForInStep.yield PUnit.unit) : Sem (ForInStep PUnit)))).run P w' = .ok PUnit.unit w' ∧ ∃ k3, ks = l0 ++ k3 := by
          intro fl
          induction fl with
          | nil => intro l0 hf; simp only [List.foldl_nil, Option.some.injEq] at hf; exact ⟨by simp, [], by simp [hf]⟩
          | cons f fl ihf =>
            intro l0 hf
            rw [List.foldl_cons] at hf
            simp only [Option.bind_some] at hf
            cases hk : flatT P d f.type with
            | none => simp only [hk, Option.bind_none] at hf; rw [foldl_none _ (fun x => rfl)] at hf; cases hf
            | some k =>
              simp only [hk, Option.bind_some] at hf
              split at hf
              · rename_i hcond
                obtain ⟨hnm, hoff, hklen, hinfo⟩ := hcond
                obtain ⟨e1, k3, e2⟩ := ihf _ hf
                have hund := underlying_ne_of_flat hk
                have h1c : aggT P f.type = false → P.cellsOf f.type = 1 := fun ha => by rw [← hklen]; exact aggT_flat hk ha
                have hle : f.offset + P.cellsOf f.type ≤ a.length := by rw [hlen, e2, hoff, ← hklen]; simp only [List.length_append]; omega
                obtain ⟨pa, ra, va⟩ := agg_part (.agg a xs hlx hvx) hund hle h1c w'
                have hck : (Instr.checkKey emp n f.type pa).run P w' = .ok () w' := by
                  refine ih f.type k hk ((a.drop f.offset).take (P.cellsOf f.type)) pa ?_ (fun hg => ?_) n (by omega) w'
                  · rw [hklen]; simp; omega
                  · rw [hg] at va; simpa using va
                refine ⟨?_, k ++ k3, by rw [e2, List.append_assoc]⟩
                rw [List.forIn_cons]
                simp only [if_pos hnm, Sem.run_bind, ra, hck, Result.andThen_ok, Sem.run_pure]
                exact e1
              · rw [foldl_none _ (fun x => rfl)] at hf; cases hf
        have := (key fs.toList [] h).1
        simp only [Sem.run_pure] at this ⊢
        rw [this]
        rfl
    · cases h

theorem keyT_cases {t : TypeId} {kt : KT} (h : keyT P t = some kt) :
    (∃ fs ks, P.underlying t = some (.struct fs) ∧ flatT P 5 t = some ks ∧ kt = .agg ks) ∨ (∃ k, kt = .one k ∧ kindOk P k t ∧ flatT P 5 t = some [k] ∧ aggT P t = false) := by
  unfold keyT at h
  split at h
  · rename_i fs ks hu hf; cases h; exact .inl ⟨fs, ks, hu, hf, rfl⟩
  · rename_i u k hns hu hf
    cases h
    refine .inr ⟨k, rfl, ?_, hf, ?_⟩
    · unfold flatT at hf
      split at hf
      · rename_i i hu'; cases hf; exact ⟨i, hu'⟩
      · rename_i hu'; cases hf; exact hu'
      · rename_i hu'; cases hf; exact hu'
      · rename_i fs hu'; rw [hu] at hu'; cases hu'; exact absurd rfl (hns _)
      · cases hf
    · unfold aggT
      split
      · rename_i hu'; rw [hu] at hu'; cases hu'; exact absurd rfl (hns _)
      · rename_i hu'; unfold flatT at hf; simp [hu'] at hf
      · rfl
  · cases h

/-- The key is of its type. -/
def KeyV (kt : KT) (k : AV) : Prop := match kt, k with
  | .agg ks, .agg a => a.length = ks.length
  | .one _, _ => True
  | _, _ => False

theorem keyEq_keyV {kt : KT} {k k' : AV} {r : Bool} (h : keyEq kt k k' = some r) : KeyV kt k ∧ KeyV kt k' := by
  unfold keyEq at h
  split at h
  · exact ⟨trivial, trivial⟩
  · exact cellsEq_length _ _ _ _ h
  · cases h

theorem checkKey_sound {t : TypeId} {kt : KT} (h : keyT P t = some kt) {k : AV} {ck : Value} (hv : VR X w k ck) (hk : KeyV kt k) (emp : Bool) (w' : World) :
    (Instr.checkKey emp 10000 t ck).run P w' = .ok () w' := by
  rcases keyT_cases h with ⟨fs, ks, hu, hf, rfl⟩ | ⟨q, rfl, hq, hf, ha⟩
  · cases k with
    | agg a => exact checkKey_ok emp 5 t ks hf a ck hk (fun _ => hv) 10000 (by omega) w'
    | _ => exact absurd hk (by simp [KeyV])
  · exact checkKey_ok (X := X) (w := w) emp 5 t [q] hf [AV.undef] ck rfl (fun hg => by rw [ha] at hg; cases hg) 10000 (by omega) w'

theorem keyEq_sound {t : TypeId} {kt : KT} (h : keyT P t = some kt) {k k' : AV} {ck ck' : Value} {r : Bool} (he : keyEq kt k k' = some r) (hv : VR X w k ck) (hv' : VR X w k' ck') (w' : World) :
    (Op.equal t ck ck').run P w' = .ok r w' ∧ (∀ q, kt = .one q → ∀ u, P.underlying t = some u → Instr.sameNow u ck ck' = some r) := by
  rcases keyT_cases h with ⟨fs, ks, hu, hf, rfl⟩ | ⟨q, rfl, hq, hf, ha⟩
  · refine ⟨?_, fun q e => by cases e⟩
    have hag : aggT P t = true := by simp [aggT, hu]
    cases k <;> cases k' <;> simp only [keyEq] at he <;> try (cases he; done)
    unfold Op.equal
    refine flat_eq (X := X) (w := w) 5 t ks hf _ _ ck ck' r he ?_ _ (by simp [Op.maxDepth]) w'
    rw [hag]; exact ⟨hv, hv'⟩
  · refine ⟨?_, fun q' e u hu => ?_⟩
    · exact simple_sound he hv hv' hq _ w'
    · simp only [keyEq] at he
      unfold simpleEq at he
      split at he
      · cases hv; cases hv'; cases he
        simp only [kindOk] at hq; rw [hq] at hu; cases hu; rfl
      · split at he
        · rename_i hkk; subst hkk
          cases hv; cases hv'; cases he
          obtain ⟨i, hi⟩ := hq; rw [hi] at hu; cases hu
          simp [Instr.sameNow]
        · cases he
      · cases hv; cases hv'; cases he
        simp only [kindOk] at hq; rw [hq] at hu; cases hu
        simp only [Instr.sameNow, bytesN_beq]
      · cases he

/-- Entries of a map, one by one. -/
def EsR (X : Ctx) (w : World) (es : List (AV × AV × Nat)) (ces : List MapEntry) : Prop :=
  es.length = ces.length ∧ ∀ i (h : i < es.length) (h' : i < ces.length), VR X w es[i].1 ces[i].key ∧ VR X w es[i].2.1 ces[i].val ∧ es[i].2.2 = ces[i].born

theorem EsR.tail {e : AV × AV × Nat} {es : List (AV × AV × Nat)} {c : MapEntry} {ces : List MapEntry} (h : EsR X w (e :: es) (c :: ces)) : EsR X w es ces :=
  ⟨by simpa using h.1, fun i h1 h2 => h.2 (i + 1) (by simpa using h1) (by simpa using h2)⟩

/-- What the search for a key has found. -/
def FK (es : List (AV × AV × Nat)) (ces : List MapEntry) (i : Nat) : Option (Nat × AV × Nat) → Option (Nat × Value) → Prop
  | none, r => r = none
  | some (j, v, b), r => ∃ k, j = i + k ∧ ∃ (h : k < ces.length) (h' : k < es.length), r = some (j, (ces[k]'h).val) ∧ (es[k]'h').2.1 = v ∧ (es[k]'h').2.2 = b

theorem FK.cons {e : AV × AV × Nat} {es : List (AV × AV × Nat)} {c : MapEntry} {ces : List MapEntry} {i : Nat} {x : Option (Nat × AV × Nat)} {r : Option (Nat × Value)} (h : FK es ces (i + 1) x r) :
    FK (e :: es) (c :: ces) i x r := by
  cases x with
  | none => exact h
  | some p =>
    obtain ⟨j, v, b⟩ := p
    obtain ⟨k, h1, h2, h3, h4, h5, h6⟩ := h
    exact ⟨k + 1, by omega, by simpa using h2, by simpa using h3, by simpa using h4, by simpa using h5, by simpa using h6⟩

theorem findKey_sound {t : TypeId} {kt : KT} (h : keyT P t = some kt) {k : AV} {ck : Value} (hv : VR X w k ck) (w' : World) :
    ∀ (es : List (AV × AV × Nat)) (ces : List MapEntry) (i : Nat) (x : Option (Nat × AV × Nat)), findKey kt k es i = some x → EsR X w es ces →
      ∃ r, (Instr.findAsking t ck ces i).run P w' = .ok r w' ∧ (∀ q, kt = .one q → ∀ u, P.underlying t = some u → Instr.findNow u ck ces i = some r) ∧ FK es ces i x r := by
  intro es
  induction es with
  | nil =>
    intro ces i x hf he
    have : ces = [] := List.length_eq_zero_iff.1 he.1.symm
    subst this
    simp only [findKey, Option.some.injEq] at hf
    subst hf
    exact ⟨none, rfl, fun _ _ _ _ => rfl, rfl⟩
  | cons e es ih =>
    intro ces i x hf he
    cases ces with
    | nil => simp [EsR] at he
    | cons c ces =>
      obtain ⟨k', v, b⟩ := e
      have h0 := he.2 0 (by simp) (by simp)
      simp only [List.getElem_cons_zero] at h0
      simp only [findKey, opt] at hf
      split at hf
      · rename_i t' ht'
        obtain ⟨e1, e2⟩ := keyEq_sound h ht' hv h0.1 w'
        cases t' with
        | true =>
          simp only [if_true, Option.some.injEq] at hf
          subst hf
          refine ⟨some (i, c.val), ?_, fun q hq u hu => ?_, 0, by omega, by simp, by simp, rfl, rfl, rfl⟩
          · simp [Instr.findAsking, e1]
          · simp [Instr.findNow, e2 q hq u hu]
        | false =>
          simp only [Bool.false_eq_true, if_false] at hf
          obtain ⟨r, r1, r2, r3⟩ := ih ces (i + 1) x hf he.tail
          refine ⟨r, ?_, fun q hq u hu => ?_, r3.cons⟩
          · simp [Instr.findAsking, e1, r1]
          · simp [Instr.findNow, e2 q hq u hu, r2 q hq u hu]
      · cases hf

theorem run_findKey {t : TypeId} {kt : KT} (h : keyT P t = some kt) {k : AV} {ck : Value} (hv : VR X w k ck) {es : List (AV × AV × Nat)} {ces : List MapEntry} {x : Option (Nat × AV × Nat)}
    (hf : findKey kt k es 0 = some x) (he : EsR X w es ces) (w' : World) : ∃ r, (Instr.findKey t ck ces).run P w' = .ok r w' ∧ FK es ces 0 x r := by
  obtain ⟨r, r1, r2, r3⟩ := findKey_sound h hv w' es ces 0 x hf he
  refine ⟨r, ?_, r3⟩
  rcases keyT_cases h with ⟨fs, ks, hu, _, rfl⟩ | ⟨q, rfl, hq, hfl, _⟩
  · simp only [Instr.findKey, Sem.run_bind, run_und hu, Result.andThen_ok]
    cases ces with
    | nil =>
      simp only [Instr.findAsking, Sem.run_pure, Result.ok.injEq, and_true] at r1
      simp [Instr.findNow, r1]
    | cons c ces =>
      have : Instr.findNow (.struct fs) ck (c :: ces) 0 = none := by simp [Instr.findNow, Instr.sameNow]
      rw [this]; exact r1
  · obtain ⟨u, hu⟩ := Option.isSome_iff_exists.1 (underlying_ne_of_flat hfl)
    simp only [Instr.findKey, Sem.run_bind, run_und hu, Result.andThen_ok, r2 q rfl u hu, Sem.run_pure]

/-! ### slicing -/
def OptNat : Option Value → Option Nat → Prop
  | none, none => True
  | some c, some n => ∃ k, c = .int k (n : Int)
  | _, _ => False

theorem asNat_sound {v : AV} {c : Value} {n : Nat} (h : asNat v = some n) (hv : VR X w v c) : ∃ k, c = .int k (n : Int) := by
  unfold asNat at h
  split at h
  · split at h
    · rename_i k m hm
      cases h
      cases hv
      exact ⟨k, by rw [Int.toNat_of_nonneg hm]⟩
    · cases h
  · cases h

theorem asNatO_sound (hr : Rel P G X s w) {tm : List AV} {a : Act} (ht : VRs X w tm a.tmps.toList) {x : Option Operand} {n : Option Nat} (h : asNatO tm (x.map (cOpd G)) = some n) :
    OptNat (x.map a.eval) n := by
  cases x with
  | none => simp only [Option.map_none, asNatO, Option.some.injEq] at h; subst h; trivial
  | some x =>
    simp only [Option.map_some, asNatO] at h
    cases hn : asNat (ev tm (cOpd G x)) with
    | none => simp [hn] at h
    | some m =>
      simp only [hn, Option.map_some, Option.some.injEq] at h
      subst h
      exact asNat_sound hn (opd_sound hr ht x)

theorem run_sliceBound {k : IntKind} {n y : Nat} (h : n ≤ y) (code : BoundsCode) (w' : World) : (Instr.sliceBound (.int k (n : Int)) y code).run P w' = .ok n w' := by
  simp [Instr.sliceBound, asIntOf]
  omega

theorem run_sliceBounds (b : Bool) {len cap : Nat} {low high max : Option Value} {lo hi mx : Option Nat} (h1 : OptNat low lo) (h2 : OptNat high hi) (h3 : OptNat max mx)
    (hm : mx.isSome → hi.isSome) (c1 : mx.getD cap ≤ cap) (c2 : hi.getD len ≤ mx.getD cap) (c3 : lo.getD 0 ≤ hi.getD len) (w' : World) :
    (Instr.sliceBounds b len cap low high max).run P w' = .ok (lo.getD 0, hi.getD len, mx.getD cap) w' := by
  cases low <;> cases lo <;> simp only [OptNat] at h1 <;> cases high <;> cases hi <;> simp only [OptNat] at h2 <;> cases max <;> cases mx <;> simp only [OptNat] at h3
  all_goals
    first
    | (simp at hm; done)
    | (try obtain ⟨k1, rfl⟩ := h1
       try obtain ⟨k2, rfl⟩ := h2
       try obtain ⟨k3, rfl⟩ := h3
       simp only [Option.getD_some, Option.getD_none] at c1 c2 c3 ⊢
       simp only [Instr.sliceBounds, Sem.run_bind, Sem.run_pure, Result.andThen_ok, run_sliceBound, *])
end
end Go.Am
