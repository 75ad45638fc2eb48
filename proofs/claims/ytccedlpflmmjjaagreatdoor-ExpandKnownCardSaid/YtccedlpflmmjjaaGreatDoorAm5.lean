/- Code and calls of AM are those of the machine. -/
import Derived.Test.YtccedlpflmmjjaaGreatDoorAm4
namespace Go.Am
open Go

/-- Chains of panics. -/
inductive ChR (X : Ctx) (w : World) : List (AV × Bool) → List PanicEntry → Prop
  | nil : ChR X w [] []
  | cons {v : AV} {c : Value} {r : Bool} {ch : List (AV × Bool)} {cs : List PanicEntry} (h : VR X w v c) (t : ChR X w ch cs) : ChR X w ((v, r) :: ch) ({ v := c, recovered := r, goexit := false } :: cs)

/-- Deferred calls. -/
inductive DfR (X : Ctx) (w : World) : List ADef → List Deferred → Prop
  | nil : DfR X w [] []
  | fn {f f' : Fn} {cap args : List AV} {cc ca : Array Value} {ds : List ADef} {dc : List Deferred} (hf : FnR X f f') (h1 : VRs X w cap cc.toList) (h2 : VRs X w args ca.toList) (t : DfR X w ds dc) :
      DfR X w (.fn f cap args :: ds) ({ target := .fn f' cc, args := ca } :: dc)
  | mark {r blk : Nat} {ds : List ADef} {dc : List Deferred} (h : VR X w (.map r) (.map (some blk))) (t : DfR X w ds dc) : DfR X w (.mark r :: ds) ({ target := .collected blk, args := #[] } :: dc)

section
variable {P : Program} {G : Nat → Option (List AV)} {X X' : Ctx} {s s' : Store} {w w' : World}

theorem ChR.mono (hr : Rel P G X s w) (hx : Ext X s w X' s' w') {ch : List (AV × Bool)} {cs : List PanicEntry} (h : ChR X w ch cs) : ChR X' w' ch cs := by
  induction h with
  | nil => exact .nil
  | cons h _ ih => exact .cons (h.mono hr hx) ih

theorem DfR.mono (hr : Rel P G X s w) (hx : Ext X s w X' s' w') {ds : List ADef} {dc : List Deferred} (h : DfR X w ds dc) : DfR X' w' ds dc := by
  induction h with
  | nil => exact .nil
  | fn hf h1 h2 _ ih => exact .fn (hf.mono hx) (h1.mono hr hx) (h2.mono hr hx) ih
  | mark h _ ih => exact .mark (h.mono hr hx) ih

theorem ChR.append {ch ch' : List (AV × Bool)} {cs cs' : List PanicEntry} (h : ChR X w ch cs) (h' : ChR X w ch' cs') : ChR X w (ch ++ ch') (cs ++ cs') := by
  induction h with
  | nil => exact h'
  | cons h _ ih => exact .cons h ih

theorem ChR.noexit {ch : List (AV × Bool)} {cs : List PanicEntry} (h : ChR X w ch cs) : cs.dropWhile (!·.goexit) = [] := by
  induction h with
  | nil => rfl
  | cons h _ ih => simp [ih]
end

/-- How the frame that runs was called. -/
def MdR (X : Ctx) (w : World) (md : AMode) (b : Frame) (m : FrameMode) : Prop :=
  match md with
  | .run => b.kind = .normal ∧ b.roundOf = none
  | .round => b.kind = .normal ∧ b.roundOf ≠ none
  | .ret => b.kind = .deferred ∧ b.roundOf = none ∧ m = .returning
  | .pan ch => b.kind = .deferred ∧ b.roundOf = none ∧ ∃ chain, m = .panicking chain ∧ ChR X w ch chain

/-- How a call is made. -/
def MdC (X : Ctx) (w : World) (md : AMode) (kind : CallKind) (m : FrameMode) : Prop :=
  match md with
  | .run => kind = .normal
  | .round => False
  | .ret => kind = .deferred ∧ m = .returning
  | .pan ch => kind = .deferred ∧ ∃ chain, m = .panicking chain ∧ ChR X w ch chain

theorem MdR.mono {P : Program} {G : Nat → Option (List AV)} {X X' : Ctx} {s s' : Store} {w w' : World} (hr : Rel P G X s w) (hx : Ext X s w X' s' w') {md : AMode} {b : Frame} {m : FrameMode} (h : MdR X w md b m) : MdR X' w' md b m := by
  cases md with
  | run => exact h
  | round => exact h
  | ret => exact h
  | pan ch => obtain ⟨a, b, chain, c, d⟩ := h; exact ⟨a, b, chain, c, d.mono hr hx⟩

/-- The callers, the first of which fares so. -/
def setM (kind : CallKind) (caller : Frame) (m : FrameMode) : Frame := match kind with | .deferred => { caller with mode := m } | _ => caller
def wm (b : Frame) (cs : List Frame) (m : FrameMode) : List Frame := match cs with | c :: r => setM b.kind c m :: r | [] => []

theorem setM_set (kind : CallKind) (c : Frame) (m m' : FrameMode) : setM kind (setM kind c m) m' = setM kind c m' := by cases kind <;> rfl

/-- The caller, after a call of its that it deferred. -/
def settled (caller : Frame) : Frame :=
  match caller.mode with
  | .panicking ({ recovered := true, .. } :: older) => match older.dropWhile (!·.goexit) with
    | [] => { caller with mode := .returning }
    | rest => { caller with mode := .panicking rest }
  | _ => caller

def backTo (kind : CallKind) (caller : Frame) (c : Value) : Frame := match kind with | .normal => caller.finish c | _ => settled caller

def Starts (P : Program) (kind : CallKind) : Next → Frame → Prop
  | .enter f args, f0 => f0 = Frame.enter P f args kind
  | .round l f t x y, f0 => f0 = Frame.round l f t x y kind
  | _, _ => False

/-- The machine's start of a call. -/
inductive StartOf (X : Ctx) (f : Nat) (args : Array Value) : Sem Next → Prop
  | func (h : f < yieldBase) : StartOf X f args (callFunc f args)
  | yield (l b : Nat) (h : f = yieldBase + l) (hl : l < X.n) (ha : X.ver l = 0 → X.loc l = some (b, 0)) : StartOf X f args (Instr.yield b args)

/-- How a call ends, that the machine enters. -/
def CallOut (P : Program) (G : Nat → Option (List AV)) (X : Ctx) (s : Store) (w : World) (res : ARes) (md' : AMode) (s' : Store) (kind : CallKind) (m : FrameMode) (f0 caller : Frame) (cs : List Frame) : Prop :=
  ∃ X' w' m', Ext X s w X' s' w' ∧ Rel P G X' s' w' ∧ MdC X' w' md' kind m' ∧ match res with
    | .ret v => ∃ c, VR X' w' v c ∧ Steps P (lone f0 (setM kind caller m :: cs) w) (lone (backTo kind (setM kind caller m') c) cs w')
    | .panic ch => ∃ chain, ChR X' w' ch chain ∧ Steps P (lone f0 (setM kind caller m :: cs) w) (lone ((setM kind caller m').raise chain) cs w')

/-- The machine calls as the evaluator AM does. -/
def CallOk (P : Program) (G : Nat → Option (List AV)) (call : CallF) : Prop :=
  ∀ f args md s res md' s', call f args md s = some (res, md', s') → ∀ X w cargs st, Rel P G X s w → VRs X w args cargs.toList → StartOf X f cargs st →
    ∃ nx w1, st.run P w = .ok nx w1 ∧
      ((∃ c v X', nx = .value c ∧ md = .run ∧ md' = .run ∧ res = .ret v ∧ Ext X s w X' s' w1 ∧ Rel P G X' s' w1 ∧ VR X' w1 v c) ∨
       (w1 = w ∧ ∀ kind m, MdC X w md kind m → (yieldBase ≤ f → kind = .normal) → ∃ f0, Starts P kind nx f0 ∧ ∀ caller cs, CallOut P G X s w res md' s' kind m f0 caller cs))

section
variable {P : Program} {G : Nat → Option (List AV)} {X : Ctx} {s : Store} {w : World}

theorem VRs.nil : VRs X w [] [] := ⟨rfl, fun i h => by simp at h⟩
theorem VRs.cons {v : AV} {c : Value} {l : List AV} {cs : List Value} (h : VR X w v c) (t : VRs X w l cs) : VRs X w (v :: l) (c :: cs) := by
  refine ⟨by simp [t.1], fun i h1 h2 => ?_⟩
  cases i with
  | zero => exact h
  | succ i => exact t.2 i (by simpa using h1) (by simpa using h2)

theorem VRs.toArray {l : List AV} {cs : List Value} (h : VRs X w l cs) : VRs X w l cs.toArray.toList := h

theorem run_callFunc_via {t : TypeId} {u : TypeDesc} (hu : P.underlying t = some u) {f : Nat} {ptr : Bool} {x : Value} {rest : List Value} {cc : Array Value}
    (h : (∃ e, u = .pointer e) ∧ ptr = true ∨ (∀ e, u ≠ .pointer e) ∧ ptr = false) :
    (invoke (.fn (.via t ⟨[]⟩ f ptr) cc) (x :: rest).toArray).run P w = (callFunc f (x :: rest).toArray).run P w := by
  have he : (#[x] ++ (x :: rest).toArray.extract 1 (x :: rest).toArray.size : Array Value) = (x :: rest).toArray := by
    apply Array.ext'
    simp
  rcases h with ⟨⟨e, rfl⟩, rfl⟩ | ⟨hne, rfl⟩
  · simp [invoke, receiverVia, follow, receiverAt, run_und hu, Place.get, he]
  · cases u with
    | pointer e => exact absurd rfl (hne e)
    | _ => simp [invoke, receiverVia, follow, receiverAt, run_und hu, Place.get, he]

theorem target_sound {f f' : Fn} (hf : FnR X f f') {args cap : List AV} {ca cc : Array Value} (ha : VRs X w args ca.toList) (hc : VRs X w cap cc.toList) {g : Nat} {gargs : List AV} (h : target P f args cap = some (g, gargs)) :
    ∃ gc st, VRs X w gargs gc.toList ∧ StartOf X g gc st ∧ (invoke (.fn f' cc) ca).run P w = st.run P w := by
  unfold target at h
  split at h
  · rename_i g'
    split at h
    · rename_i hlt
      cases h
      cases hf
      exact ⟨ca ++ cc, _, by rw [Array.toList_append]; exact ha.append hc, .func hlt, rfl⟩
    · cases h
  · rename_i t g' ptr
    have hcons : args ≠ [] → ∃ x rest, ca = (x :: rest).toArray := by
      intro hne
      obtain ⟨l⟩ := ca
      cases l with
      | nil => exact absurd (List.length_eq_zero_iff.1 ha.1) hne
      | cons x rest => exact ⟨x, rest, rfl⟩
    split at h
    · rename_i e hu
      split at h
      · rename_i hc'
        cases h
        obtain ⟨x, rest, rfl⟩ := hcons hc'.2.2
        cases hf
        exact ⟨_, _, ha, .func hc'.2.1, run_callFunc_via hu (.inl ⟨⟨e, rfl⟩, hc'.1⟩)⟩
      · cases h
    · rename_i u hne hu
      split at h
      · cases h
      rename_i hp
      split at h
      · rename_i hc'
        cases h
        obtain ⟨x, rest, rfl⟩ := hcons hc'.2
        cases hf
        exact ⟨_, _, ha, .func hc'.1, run_callFunc_via hu (.inr ⟨fun e he => hne e he, by simpa using hp⟩)⟩
      · cases h
    · cases h
  · rename_i l
    cases h
    cases hf with
    | same _ h => exact absurd rfl (h l)
    | yield _ b h1 h2 => exact ⟨ca, _, ha, .yield l b rfl h1 h2, rfl⟩
  · cases h

theorem recv_sound {t : Nat} {name : String} {v : AV} {c : Value} (hv : VR X w v c) {g : Nat} {gv : AV} (h : recv P t name v = some (g, gv)) (args : Array Value) :
    gv = v ∧ g < yieldBase ∧ (callMethod (.iface t c) name args).run P w = (callFunc g (#[c] ++ args)).run P w := by
  unfold recv at h
  obtain ⟨i, hi, h'⟩ := opt_some h
  obtain ⟨m, hm, h''⟩ := opt_some h'
  have hfuel : P.types.size + Made.depth = (P.types.size + Made.depth - 1) + 1 := by
    have : 0 < Made.depth := by decide
    omega
  clear h h'
  split at h''
  · rename_i f e h1 h2 h3
    split at h''
    · rename_i hlt
      cases h''
      refine ⟨rfl, hlt, ?_⟩
      simp only [callMethod, Sem.run_bind, run_program, Result.andThen_ok]
      rw [hfuel]
      simp [method, run_info' hi, hm, h1, h2, follow, receiverAt, run_und h3, Place.get]
    · cases h''
  · cases h''
  · rename_i f u hne h1 h2 h3
    split at h''
    · rename_i hlt
      cases h''
      refine ⟨rfl, hlt, ?_⟩
      simp only [callMethod, Sem.run_bind, run_program, Result.andThen_ok]
      rw [hfuel]
      cases u with
      | pointer e => exact absurd rfl (hne e)
      | _ => simp [method, run_info' hi, hm, h1, h2, follow, receiverAt, run_und h3, Place.get]
    · cases h''
  · cases h''
end
end Go.Am

namespace Go.Am
open Go

section
variable {P : Program} {G : Nat → Option (List AV)} {X : Ctx} {s : Store} {w : World}

theorem cOper_dst (d : Bool) (ops : List Oper) (o : Oper) : (cOper P G d ops o).dst = o.dst := by
  unfold cOper; split
  · rfl
  · split <;> rfl

theorem cOper_op (d : Bool) (ops : List Oper) (o : Oper) : (∃ own, (cOper P G d ops o).op = cOp P G own o) ∨ (cOper P G d ops o).op = .bad := by
  unfold cOper; split
  · exact .inl ⟨_, rfl⟩
  · split
    · exact .inl ⟨_, rfl⟩
    · exact .inr rfl

theorem wanted_sound {atm : List AV} {tm : Array Value} (ht : VRs X w atm tm.toList) {d : Bool} {ops : Array Oper} {o : Oper} {b : Bool} (h : wanted atm (cOper P G d ops.toList o) = some b) :
    ((cOper P G d ops.toList o).op = .bad ∧ b = true) ∨ Region.wanted o (yielded ops tm) = b := by
  unfold cOper at h ⊢
  unfold Region.wanted
  cases hg : o.guard with
  | none => simp only [hg, wanted, Option.some.injEq] at h; subst h; exact .inr rfl
  | some p =>
    obtain ⟨j, want⟩ := p
    simp only [hg] at h ⊢
    split at h
    · rename_i t hj
      right
      have hj' : (ops[j]?).bind (·.dst) = some t := by simpa using hj
      simp only [wanted] at h
      simp only [yielded, hj', Option.bind_some]
      rcases ht.nth t with ⟨h1, h2⟩ | ⟨a, c, h1, h2, h3⟩
      · rw [List.getD_eq_getElem?_getD, h1] at h
        have h2' : tm[t]? = none := by simpa using h2
        rw [h2']
        simp at h; subst h; rfl
      · rw [List.getD_eq_getElem?_getD, h1] at h
        have h2' : tm[t]? = some c := by simpa using h2
        rw [h2']
        simp only [Option.getD_some] at h
        split at h
        · cases h3; cases h; cases want <;> rename_i c' <;> cases c' <;> rfl
        · cases h3; cases h; rfl
        · cases h
    · rename_i hj
      left
      simp only [wanted, Option.some.injEq] at h
      simp [hj, h.symm]

/-- What a step of an operation comes to. -/
def OpOut (P : Program) (G : Nat → Option (List AV)) (b : Frame) (cs : List Frame) (k : List Item) (ops : Array Oper) (i : Nat) (rest : List Nat) (o : Oper) (X : Ctx) (st : St) (tm : Array Value) (df : List Deferred) (m : FrameMode) (w : World) : OR → Prop
  | .next st' => ∃ v c X' w' df' m', st'.tm = put st.tm o.dst v ∧ VR X' w' v c ∧ Ext X st.sg w X' st'.sg w' ∧ Rel P G X' st'.sg w' ∧ DfR X' w' st'.df df' ∧ MdR X' w' st'.md b m' ∧
      Steps P (lone (Fr b tm df (.inRegion ops (i :: rest) :: k)) (wm b cs m) w) (lone (Fr b (putV tm o.dst c) df' (.inRegion ops rest :: k)) (wm b cs m') w')
  | .leave ch st' => st'.tm = st.tm ∧ ∃ X' w' df' m' chain todo, Ext X st.sg w X' st'.sg w' ∧ Rel P G X' st'.sg w' ∧ DfR X' w' st'.df df' ∧ MdR X' w' st'.md b m' ∧ ChR X' w' ch chain ∧
      Steps P (lone (Fr b tm df (.inRegion ops (i :: rest) :: k)) (wm b cs m) w) (lone (FrM b tm df' todo (.panicking chain)) (wm b cs m') w')

theorem wm_normal {b : Frame} (hb : b.kind = .normal) (cs : List Frame) (m : FrameMode) : wm b cs m = cs := by
  cases cs with
  | nil => rfl
  | cons c r => simp [wm, setM, hb]

/-- A call within an operation. -/
theorem op_call {E : Env} {call : CallF} (hcall : CallOk P G call) {b : Frame} {cs : List Frame} {k : List Item} {ops : Array Oper} {i : Nat} {rest : List Nat} {o : Oper} {st : St} {tm : Array Value} {df : List Deferred} {m : FrameMode}
    (ho : ops[i]? = some o) (hw : Region.wanted o (yielded ops tm) = true) (hd : notDeferIn b o) (hr : Rel P G X st.sg w) (hdf : DfR X w st.df df) (hmd : MdR X w st.md b m) {ao : AOper} (hdst : ao.dst = o.dst)
    {g : Nat} {gargs : List AV} {gc : Array Value} {sm : Sem Next} (hv : VRs X w gargs gc.toList) (hs : StartOf X g gc sm) (he : (execOp (Act.mk tm df).eval o).run P w = sm.run P w)
    {r : OR} (h : afterCall ao st (call g gargs .run st.sg) = some r) : OpOut P G b cs k ops i rest o X st tm df m w r := by
  cases hc : call g gargs .run st.sg with
  | none => rw [hc] at h; cases h
  | some p =>
    obtain ⟨res, md', s'⟩ := p
    rw [hc] at h
    obtain ⟨nx, w1, h1, h2⟩ := hcall g gargs .run st.sg res md' s' hc X w gc sm hr hv hs
    rw [h1] at he
    rcases h2 with ⟨c, v, X', rfl, _, _, rfl, e1, e2, e3⟩ | ⟨rfl, h2⟩
    · cases h
      refine ⟨v, c, X', w1, df, m, by simp [hdst], e3, e1, e2, hdf.mono hr e1, hmd.mono hr e1, .one (fr_value ho hw hd he)⟩
    · obtain ⟨f0, hst, h3⟩ := h2 .normal m rfl (fun _ => rfl)
      obtain ⟨X', w', m', e1, e2, e3, e4⟩ := h3 (Fr b tm df (.inRegion ops (i :: rest) :: k)) (wm b cs m)
      have hstep : step P (lone (Fr b tm df (.inRegion ops (i :: rest) :: k)) (wm b cs m) w1) = .next (lone f0 (Fr b tm df (.inRegion ops (i :: rest) :: k) :: wm b cs m) w1) := by
        cases nx with
        | enter f args => simp only [Starts] at hst; subst hst; exact fr_enter ho hw hd he
        | round l f t x y => simp only [Starts] at hst; subst hst; exact fr_round ho hw hd he
        | _ => exact absurd hst (by simp [Starts])
      cases res with
      | ret v =>
        cases h
        obtain ⟨c, f1, f2⟩ := e4
        refine ⟨v, c, X', w', df, m, by simp [hdst], f1, e1, e2, hdf.mono hr e1, hmd.mono hr e1, .head hstep ?_⟩
        have hf := Fr.finish (b := b) (tm := tm) (df := df) (k := k) (ops := ops) (i := i) (rest := rest) c
        rw [ho] at hf
        simp only [Option.bind_some] at hf
        simp only [setM, backTo, hf] at f2
        exact f2
      | panic ch =>
        cases h
        obtain ⟨chain, f1, f2⟩ := e4
        exact ⟨rfl, X', w', df, m, chain, _, e1, e2, hdf.mono hr e1, hmd.mono hr e1, f1, .head hstep f2⟩

theorem args_map {a : Act} {tm : List AV} (hr : Rel P G X s w) (ht : VRs X w tm a.tmps.toList) (xs : Array Operand) : VRs X w ((xs.toList.map (cOpd G)).map (ev tm)) (xs.map a.eval).toList := by
  have := opds_sound hr ht xs
  simpa using this

theorem cOp_inv {own : Bool} {o : Oper} :
    (∀ f args, cOp P G own o = .callv f args → ∃ c f', o.op = .call c ∧ c.callee = .value f' ∧ f = cOpd G f' ∧ args = c.args.toList.map (cOpd G)) ∧
    (∀ rv n args, cOp P G own o = .calli rv n args → ∃ c r', o.op = .call c ∧ c.callee = .invoke r' n ∧ rv = cOpd G r' ∧ args = c.args.toList.map (cOpd G)) ∧
    (∀ f args, cOp P G own o = .defer f args → ∃ c f', o.op = .defer c ∧ c.callee = .value f' ∧ f = cOpd G f' ∧ args = c.args.toList.map (cOpd G)) ∧
    (cOp P G own o = .recover → ∃ c, o.op = .call c ∧ c.callee = .builtin .recover) ∧
    (∀ x, cOp P G own o = .panic x → (∃ c x', o.op = .call c ∧ c.callee = .builtin .panic ∧ c.args = #[x'] ∧ x = cOpd G x') ∨ ∃ x', o.op = .panic x' ∧ x = cOpd G x') := by
  obtain ⟨dst, op, ty, pos, after, guard⟩ := o
  refine ⟨fun f args h => ?_, fun rv n args h => ?_, fun f args h => ?_, fun h => ?_, fun x h => ?_⟩ <;>
  cases op with
  | call c =>
    obtain ⟨callee, cargs, ats⟩ := c
    simp only [cOp, cCall] at h
    cases callee with
    | value f' => first | (cases h; done) | (cases h; exact ⟨_, _, rfl, rfl, rfl, rfl⟩)
    | invoke r' n' => first | (cases h; done) | (cases h; exact ⟨_, _, rfl, rfl, rfl, rfl⟩)
    | builtin b =>
      simp only at h
      split at h
      all_goals first
        | (cases h; done)
        | ((repeat' split at h) <;> cases h; done)
        | (cases h; exact ⟨_, rfl, rfl⟩)
        | (rename_i x' he
           cases h
           obtain ⟨l⟩ := cargs
           match l, he with
           | [y], he => simp at he; exact .inl ⟨_, y, rfl, rfl, rfl, he.symm⟩)
  | defer c =>
    obtain ⟨callee, cargs, ats⟩ := c
    simp only [cOp] at h
    cases callee with
    | value f' => first | (cases h; done) | (cases h; exact ⟨_, _, rfl, rfl, rfl, rfl⟩)
    | _ => cases h
  | makeFunc f _ _ => cases f <;> simp [cOp] at h
  | makeMap t r => cases r with
    | none => simp [cOp] at h
    | some x => simp only [cOp] at h; (repeat' split at h) <;> cases h
  | panic x' => first | (cases h; done) | (cases h; exact .inr ⟨_, rfl, rfl⟩)
  | _ => first
    | (simp [cOp] at h; done)
    | (simp only [cOp] at h; (repeat' split at h) <;> cases h; done)
theorem op_sound {E : Env} (hE : E.prog = P) {call : CallF} (hcall : CallOk P G call) {b : Frame} {cs : List Frame} {k : List Item} {ops : Array Oper} {i : Nat} {rest : List Nat} {o : Oper} {st : St} {tm : Array Value} {df : List Deferred} {m : FrameMode}
    (ho : ops[i]? = some o) (hr : Rel P G X st.sg w) (ht : VRs X w st.tm tm.toList) (hdf : DfR X w st.df df) (hmd : MdR X w st.md b m) (hcs : b.kind = .deferred → cs ≠ []) {d : Bool}
    {r : OR} (h : doOp E call (cOper P G d ops.toList o) st = some r) : OpOut P G b cs k ops i rest o X st tm df m w r := by
  unfold doOp at h
  obtain ⟨wt, hwt, h'⟩ := opt_some h
  clear h
  have hws := wanted_sound (ops := ops) ht hwt
  cases wt with
  | false =>
    simp only [if_true, Option.some.injEq] at h'
    subst h'
    rcases hws with ⟨_, hb⟩ | hws
    · cases hb
    · refine ⟨.undef, Go.undef, X, w, df, m, by rw [cOper_dst], .undef, .refl, hr, hdf, hmd, .one ?_⟩
      have := fr_op_skip (P := P) (b := b) (tm := tm) (df := df) (k := k) (cs := wm b cs m) (w := w) (ops := ops) (i := i) (rest := rest) (by rw [ho]; simpa using hws)
      rw [ho] at this
      exact this
  | true =>
    rw [if_neg (by simp)] at h'
    have hbad : (cOper P G d ops.toList o).op ≠ .bad := by
      intro hb
      rw [hb] at h'
      simp [AOp.cls, eop] at h'
    have hw := hws.resolve_left (fun h => hbad h.1)
    obtain ⟨own, hop⟩ := (cOper_op (P := P) (G := G) d ops.toList o).resolve_right hbad
    rw [hop] at h' hbad
    have ha : VRs X w st.tm (Act.mk tm df).tmps.toList := ht
    have hd : notDeferIn b o := by
      by_cases hro : b.roundOf = none
      · exact .inl hro
      · right
        intro c hc
        have hmr : st.md = .round := by
          cases hm : st.md with
          | round => rfl
          | run => rw [hm] at hmd; exact absurd hmd.2 hro
          | ret => rw [hm] at hmd; exact absurd hmd.2.1 hro
          | pan ch => rw [hm] at hmd; exact absurd hmd.2.1 hro
        have hcop : cOp P G own o = .bad ∨ ∃ f xs, cOp P G own o = .defer f xs := by
          obtain ⟨dst, op, ty, pos, after, guard⟩ := o
          simp only at hc
          subst hc
          simp only [cOp]
          split
          · exact .inr ⟨_, _, rfl⟩
          · exact .inl rfl
        rcases hcop with hcop | ⟨f, xs, hcop⟩
        · exact hbad hcop
        · rw [hcop] at h'
          simp [AOp.cls, hmr] at h'
    have hdst : (cOper P G d ops.toList o).dst = o.dst := cOper_dst d _ o
    have key : ∀ (v : AV) (s' : Store), EOk P G X st.sg w v s' ((execOp (Act.mk tm df).eval o).run P w) → ∀ st' : St, st' = { st with tm := put st.tm (cOper P G d ops.toList o).dst v, sg := s' } →
        OpOut P G b cs k ops i rest o X st tm df m w (.next st') := by
      rintro v s' ⟨nx, w', X', e1, e2, e3, e4⟩ st' rfl
      cases nx with
      | value c => exact ⟨v, c, X', w', df, m, by simp [hdst], e4, e2, e3, hdf.mono hr e2, hmd.mono hr e2, .one (fr_value ho hw hd e1)⟩
      | skip =>
        simp only [NextR] at e4
        subst e4
        exact ⟨.undef, Go.undef, X', w', df, m, by simp [hdst], .undef, e2, e3, hdf.mono hr e2, hmd.mono hr e2, .one (fr_unit ho hw hd e1)⟩
      | _ => exact absurd e4 (by simp [NextR])
    cases hcls : (cOp P G own o).cls with
    | q =>
      rw [hcls] at h'
      simp only at h'
      cases hq : qop st.tm st.sg (cOp P G own o) with
      | none => rw [hq] at h'; cases h'
      | some v =>
        rw [hq] at h'
        cases h'
        obtain ⟨c, w', X', e1, e2, e3, e4, _⟩ := qop_sound hr ha own o hcls hq
        exact key v st.sg ⟨.value c, w', X', e1, e2, e3, e4⟩ _ rfl
    | a =>
      rw [hcls] at h'
      simp only at h'
      cases hq : aop st.sg st.tm (cOp P G own o) with
      | none => rw [hq] at h'; cases h'
      | some p =>
        obtain ⟨v, e⟩ := p
        rw [hq] at h'
        cases h'
        obtain ⟨hew, c, w', bl, ce, e1, e2, e3, e4, e5, e6⟩ := aop_sound hr ha own o hq
        have hx := Ext.push (l := some (bl, 0)) (rl := e.rl) (tip := e.tip) (ce := ce) hr e2 e (fun b base h => by cases h; exact e3)
        have h6 := e6 (X.push (some (bl, 0)) e.rl e.tip ce) (by simp [Ctx.push, hr.len]) (by simp [Ctx.push, hr.len]) (by simp [Ctx.push, hr.len]) (by simp [Ctx.push, hr.len]) (by simp [Ctx.push, hr.len]) (by simp [Ctx.push, hr.len]) (by simp [Ctx.push, hr.len])
          (fun v c h => h.mono hr hx)
        refine key v (e :: st.sg) ⟨.value c, w', X.push (some (bl, 0)) e.rl e.tip ce, e1, hx, Rel.push hr e2 e (fun b base h => by cases h; exact ⟨e3, e4⟩) ?_, h6.2⟩ _ rfl
        rw [← hr.len]; exact h6.1
    | e =>
      rw [hcls] at h'
      simp only at h'
      have hinv := cOp_inv (P := P) (G := G) (own := own) (o := o)
      have hev := fun x => opd_sound (P := P) (G := G) hr ha x
      split at h'
      · -- a call of a function value
        rename_i f args hcop
        obtain ⟨c, f', hc, hcal, rfl, rfl⟩ := hinv.1 _ _ hcop
        split at h'
        · rename_i fn first cap hf
          obtain ⟨⟨g, gargs⟩, hg, h''⟩ := opt_some h'
          rw [hE] at hg
          have hfv := hev f'
          rw [hf] at hfv
          have hfa := args_map hr ha c.args
          generalize hfc : (Act.mk tm df).eval f' = fc at hfv
          cases hfv with
          | fn _ fn' _ _ cf cc hfr l1 l2 v1 v2 =>
          have hcf : VRs X w first cf.toList := ⟨by simpa using l1, fun i a b => v1 i a (by simpa using b)⟩
          have hcc : VRs X w cap cc.toList := ⟨by simpa using l2, fun i a b => v2 i a (by simpa using b)⟩
          obtain ⟨gc, sm, t1, t2, t3⟩ := target_sound (ca := cf ++ c.args.map (Act.mk tm df).eval) hfr (by rw [Array.toList_append]; exact hcf.append hfa) hcc hg
          refine op_call (E := E) hcall ho hw hd hr hdf hmd hdst t1 t2 ?_ h''
          rw [← t3]
          obtain ⟨callee, cargs, ats⟩ := c
          simp only at hcal
          subst hcal
          simp [execOp, hc, resolve, hfc, Deferred.ofValue]
        · cases h'
      · -- a call of a method
        rename_i rv n args hcop
        obtain ⟨c, r', hc, hcal, rfl, rfl⟩ := hinv.2.1 _ _ _ hcop
        split at h'
        · rename_i t v hf
          obtain ⟨⟨g, gv⟩, hg, h''⟩ := opt_some h'
          rw [hE] at hg
          have hfv := hev r'
          rw [hf] at hfv
          obtain ⟨cv, hcv, hvv⟩ := hfv.ifc_inv
          have hfa := args_map hr ha c.args
          obtain ⟨rfl, hlt, hrun⟩ := recv_sound (P := P) hvv hg (c.args.map (Act.mk tm df).eval)
          refine op_call (E := E) hcall ho hw hd hr hdf hmd hdst (gc := #[cv] ++ c.args.map (Act.mk tm df).eval) ?_ (.func hlt) ?_ h''
          · rw [Array.toList_append]; exact VRs.cons hvv hfa
          · rw [← hrun]
            obtain ⟨callee, cargs, ats⟩ := c
            simp only at hcal
            subst hcal
            have h0 : (#[Value.iface t cv] ++ cargs.map (Act.mk tm df).eval)[0]? = some (.iface t cv) := by rw [Array.getElem?_append_left (by simp)]; rfl
            have h1 : (#[Value.iface t cv] ++ cargs.map (Act.mk tm df).eval).extract 1 (#[Value.iface t cv] ++ cargs.map (Act.mk tm df).eval).size = cargs.map (Act.mk tm df).eval := by
              apply Array.ext'; simp; exact List.take_of_length_le (by simp)
            simp only [execOp, hc, resolve, hcv, invoke, Sem.run_bind, Sem.run_pure, Result.andThen_ok, h0, h1]
        · cases h'
      · -- a deferred call
        rename_i f args hcop
        obtain ⟨c, f', hc, hcal, rfl, rfl⟩ := hinv.2.2.1 _ _ hcop
        split at h'
        · cases h'
        · rename_i fn first cap hf hmd'
          cases h'
          have hfv := hev f'
          rw [hf] at hfv
          have hfa := args_map hr ha c.args
          generalize hfc : (Act.mk tm df).eval f' = fc at hfv
          cases hfv with
          | fn _ fn' _ _ cf cc hfr l1 l2 v1 v2 =>
          have hcf : VRs X w first cf.toList := ⟨by simpa using l1, fun i a b => v1 i a (by simpa using b)⟩
          have hcc : VRs X w cap cc.toList := ⟨by simpa using l2, fun i a b => v2 i a (by simpa using b)⟩
          refine ⟨.undef, Go.undef, X, w, _, m, by simp [hdst], .undef, .refl, hr, .fn hfr hcc (ca := cf ++ c.args.map (Act.mk tm df).eval) (by rw [Array.toList_append]; exact hcf.append hfa) hdf, hmd, .one (fr_defer ho hw hd ?_)⟩
          obtain ⟨callee, cargs, ats⟩ := c
          simp only at hcal
          subst hcal
          simp [execOp, hc, resolve, hfc, Deferred.ofValue]
        · cases h'
      · -- recover
        rename_i hcop
        obtain ⟨c, hc, hcal⟩ := hinv.2.2.2.1 hcop
        have hrun : (execOp (Act.mk tm df).eval o).run P w = .ok .recover w := by
          obtain ⟨callee, cargs, ats⟩ := c
          simp only at hcal
          subst hcal
          simp [execOp, hc, resolve, invoke, builtin]
        have hnil : b.roundOf = none → tryRecover (Fr b tm df (.inRegion ops (i :: rest) :: k)) (wm b cs m) = none → ∀ st' : St, st' = { st with tm := put st.tm (cOper P G d ops.toList o).dst .nili } → OpOut P G b cs k ops i rest o X st tm df m w (.next st') := by
          rintro hro htr st' rfl
          exact ⟨.nili, .nilIface, X, w, df, m, by simp [hdst], .nili, .refl, hr, hdf, hmd, .one (fr_recover_nil ho hw hd hro hrun htr)⟩
        cases hm : st.md with
        | run =>
          rw [hm] at h' hmd
          cases h'
          exact hnil hmd.2 (by simp [tryRecover, Fr, hmd.1]) _ (by simp [hm])
        | round => rw [hm] at h'; cases h'
        | ret =>
          rw [hm] at h' hmd
          cases h'
          refine hnil hmd.2.1 ?_ _ (by simp [hm])
          cases cs with
          | nil => simp [tryRecover, Fr, hmd.1, wm]
          | cons c r => simp [tryRecover, Fr, hmd.1, wm, setM, hmd.2.2]
        | pan ch =>
          rw [hm] at h' hmd
          obtain ⟨m1, m2, chain, rfl, m4⟩ := hmd
          cases cs with
          | nil => exact absurd rfl (hcs m1)
          | cons c0 r =>
            cases m4 with
            | nil =>
              cases h'
              exact hnil m2 (by simp [tryRecover, Fr, m1, wm, setM]) _ (by simp [hm])
            | cons hvc htl =>
              rename_i v cv rec ch' chain'
              cases rec with
              | true =>
                cases h'
                exact hnil m2 (by simp [tryRecover, Fr, m1, wm, setM]) _ (by simp [hm])
              | false =>
                cases h'
                refine ⟨v, cv, X, w, df, .panicking ({ v := cv, recovered := true } :: chain'), by simp [hdst], hvc, .refl, hr, hdf, ⟨m1, m2, _, rfl, .cons hvc htl⟩, .one (fr_recover_some ho hw hd m2 hrun ?_)⟩
                simp [tryRecover, Fr, m1, wm, setM]
      · -- panic
        rename_i x hcop
        have hx := hinv.2.2.2.2 x hcop
        split at h'
        · rename_i t v hxv
          cases h'
          have hrun : ∃ c, (execOp (Act.mk tm df).eval o).run P w = .halt (.panic c) w ∧ VR X w (.ifc t v) c := by
            rcases hx with ⟨c, x', hc, hcal, hargs, rfl⟩ | ⟨x', hc, rfl⟩
            · have hxx := hev x'
              rw [hxv] at hxx
              obtain ⟨cv, e1, e2⟩ := hxx.ifc_inv
              refine ⟨.iface t cv, ?_, .ifc _ _ _ e2⟩
              obtain ⟨callee, cargs, ats⟩ := c
              simp only at hcal hargs
              subst hcal hargs
              simp [execOp, hc, resolve, invoke, builtin, e1, Instr.panic, goPanic, Sem.run]
            · have hxx := hev x'
              rw [hxv] at hxx
              obtain ⟨cv, e1, e2⟩ := hxx.ifc_inv
              refine ⟨.iface t cv, ?_, .ifc _ _ _ e2⟩
              simp [execOp, hc, e1, Instr.panic, goPanic, Sem.run]
          obtain ⟨c, e1, e2⟩ := hrun
          exact ⟨rfl, X, w, df, m, _, _, .refl, hr, hdf, hmd, .cons e2 .nil, .one (fr_panic ho hw hd e1)⟩
        · cases h'
      · -- the others
        cases hq : eop st.tm st.sg (cOp P G own o) with
        | none => rw [hq] at h'; cases h'
        | some p =>
          obtain ⟨v, s'⟩ := p
          rw [hq] at h'
          cases h'
          exact key v s' (eop_sound hr ha own o hq) _ rfl
end
end Go.Am

namespace Go.Am
open Go

section
variable {P : Program} {G : Nat → Option (List AV)} {X : Ctx} {s : Store} {b : Frame} {tm : Array Value} {df : List Deferred} {k : List Item} {cs : List Frame} {w : World}

/-- The world with a new loop. -/
def loopWorld (w : World) (L : Loop) : World := { w with heap := (w.heap.push (.deferred (some []))).push (.loop L) }
def newLoop (w : World) (fn : FuncId) (tm : Array Value) (ps : Array Tmp) (as bd : Code) : Loop := { state := .ready, pending := none, fn, tmps := tm, params := ps, assign := as, body := bd, defers := w.heap.size }
def loopDf (w : World) (df : List Deferred) : List Deferred := { target := .collected w.heap.size, args := #[] } :: df

def loopCall (w : World) (f : Operand) : Call := { callee := .value f, args := #[.const (.func (.yield (w.heap.size + 1)) #[] #[])], argTypes := #[] }

theorem run_enterLoop {fn : FuncId} {ps : Array Tmp} {as bd : Code} :
    (Instr.enterLoop fn tm ps as bd none).run P w = .ok (w.heap.size + 1, [{ target := .collected w.heap.size, args := #[] }]) (loopWorld w (newLoop w fn tm ps as bd)) := by
  simp [Instr.enterLoop, loopWorld, newLoop]
  rfl

theorem fr_rangeFunc {f : Operand} {ps : Array Tmp} {as bd : Code} (hb : b.roundOf = none) :
    (stepG P true { frame := Fr b tm df (.code (.rangeFunc f ps as bd) :: k), callers := cs, status := .running, dying := none } w).bare =
      (stepG.apply P true (Fr b tm (loopDf w df) (.inRangeFunc (w.heap.size + 1) :: k)) cs none
        (do let d ← resolve (Act.mk tm df).eval (loopCall w f) 0; invoke d.target d.args) (loopWorld w (newLoop w b.fn tm ps as bd))).bare := by
  have he := Fr.eval b tm (loopDf w df) df (.inRangeFunc (w.heap.size + 1) :: k)
  have hr := run_enterLoop (P := P) (w := w) (fn := b.fn) (tm := tm) (ps := ps) (as := as) (bd := bd)
  simp only [Fr, hb, loopDf] at he
  simp only [loopDf, loopCall]
  simp [stepG, stepG.exec, Fr, hb, hr, he]

theorem loop_finish (l : Nat) (v : Value) : (Fr b tm df (.inRangeFunc l :: k)).finish v = Fr b tm df (.endRangeFunc l :: k) := rfl

section
variable {f : Operand} {ps : Array Tmp} {as bd : Code} {w1 : World}
theorem fr_loop_enter (hb : b.roundOf = none) {g : FuncId} {args : Array Value} (h : ((do let d ← resolve (Act.mk tm df).eval (loopCall w f) 0; invoke d.target d.args) : Sem Next).run P (loopWorld w (newLoop w b.fn tm ps as bd)) = .ok (.enter g args) w1) :
    step P (lone (Fr b tm df (.code (.rangeFunc f ps as bd) :: k)) cs w) = .next (lone (Frame.enter P g args .normal) (Fr b tm (loopDf w df) (.inRangeFunc (w.heap.size + 1) :: k) :: cs) w1) := by
  refine step_lone_go ?_
  rw [fr_rangeFunc hb]
  simp only [stepG.apply, Sem.runT_eq, if_true, h]
  simp [Fr]
theorem fr_loop_round (hb : b.roundOf = none) {l : Nat} {g : FuncId} {t : Array Value} {x y : Code} (h : ((do let d ← resolve (Act.mk tm df).eval (loopCall w f) 0; invoke d.target d.args) : Sem Next).run P (loopWorld w (newLoop w b.fn tm ps as bd)) = .ok (.round l g t x y) w1) :
    step P (lone (Fr b tm df (.code (.rangeFunc f ps as bd) :: k)) cs w) = .next (lone (Frame.round l g t x y .normal) (Fr b tm (loopDf w df) (.inRangeFunc (w.heap.size + 1) :: k) :: cs) w1) := by
  refine step_lone_go ?_
  rw [fr_rangeFunc hb]
  simp only [stepG.apply, Sem.runT_eq, if_true, h]
  simp [Fr]
theorem fr_loop_value (hb : b.roundOf = none) {v : Value} (h : ((do let d ← resolve (Act.mk tm df).eval (loopCall w f) 0; invoke d.target d.args) : Sem Next).run P (loopWorld w (newLoop w b.fn tm ps as bd)) = .ok (.value v) w1) :
    step P (lone (Fr b tm df (.code (.rangeFunc f ps as bd) :: k)) cs w) = .next (lone (Fr b tm (loopDf w df) (.endRangeFunc (w.heap.size + 1) :: k)) cs w1) := by
  refine step_lone_go ?_
  rw [fr_rangeFunc hb]
  simp only [stepG.apply, Sem.runT_eq, if_true, h]
  simp [Fr, Frame.finish]
end

theorem fr_endLoop {l : Nat} {L : Loop} (h : w.heap[l]? = some (.loop L)) (hs : L.state ≠ .busy) :
    step P (lone (Fr b tm df (.endRangeFunc l :: k)) cs w) = .next (lone (Fr b tm df ((L.pending.map Item.code).toList ++ k)) cs { w with heap := w.heap.setIfInBounds l (.loop { L with state := .exhausted }) }) := by
  have hrun : (Instr.endLoop l).run P w = .ok L.pending { w with heap := w.heap.setIfInBounds l (.loop { L with state := .exhausted }) } := by
    simp [Instr.endLoop, Instr.getLoop, getObj, setObj, Sem.run, h, hs]
  refine step_lone_go ?_
  simp [stepG, stepG.exec, Fr, hrun]

/-! ### rounds -/
def loopTmps (L : Loop) (args : Array Value) : Array Value := (L.params.zip args).foldl (fun tmps (t, a) => tmps.setIfInBounds t a) L.tmps

theorem run_yield {l : Nat} {L : Loop} (h : w.heap[l]? = some (.loop L)) {args : Array Value} (ha : args.size = L.params.size) :
    (Instr.yield l args).run P w = .ok (.round l L.fn (loopTmps L args) L.assign L.body) w := by
  simp [Instr.yield, Instr.getLoop, getObj, Sem.run, h, ha, loopTmps]

/-- The frame of a round. -/
def roundB (fn : FuncId) (l : Nat) : Frame := { fn, tmps := #[], todo := [], defers := [], mode := .run, kind := .normal, roundOf := some l }

theorem round_eq {l : Nat} {fn : FuncId} {t : Array Value} {x y : Code} : Frame.round l fn t x y .normal = Fr (roundB fn l) t [] [.code x, .beginRound, .code y] := rfl

theorem fr_beginRound {l : Nat} {L : Loop} (hb : b.roundOf = some l) (h : w.heap[l]? = some (.loop L)) (hs : L.state = .ready) :
    step P (lone (Fr b tm df (.beginRound :: k)) cs w) = .next (lone (Fr b tm df k) cs { w with heap := w.heap.setIfInBounds l (.loop { L with state := .busy }) }) := by
  have hrun : ((do (some l).elim (stuck "beginRound: no round") Instr.beginRound; pure Next.skip) : Sem Next).run P w = .ok .skip { w with heap := w.heap.setIfInBounds l (.loop { L with state := .busy }) } := by
    simp [Instr.beginRound, Instr.getLoop, getObj, setObj, Sem.run, h, hs]
  refine step_lone_go ?_
  have : (stepG P true { frame := Fr b tm df (.beginRound :: k), callers := cs, status := .running, dying := none } w) =
      stepG.apply P true (Fr b tm df (.beginRound :: k)) cs none (do (some l).elim (stuck "beginRound: no round") Instr.beginRound; pure Next.skip) w := by
    simp [stepG, stepG.exec, Fr, hb]
  rw [this]
  simp only [stepG.apply, Sem.runT_eq, if_true, hrun]
  simp [Fr, Frame.finish]

def endWorld (w : World) (l : Nat) (L : Loop) (j : Option Code) : World := { w with heap := w.heap.setIfInBounds l (.loop { L with state := if j.isNone then .ready else .done, pending := j }) }

theorem run_endRound {l : Nat} {L : Loop} (h : w.heap[l]? = some (.loop L)) (j : Option Code) : (Instr.endRound l j).run P w = .ok (.bool j.isNone) (endWorld w l L j) := by
  simp [Instr.endRound, Instr.getLoop, getObj, setObj, Sem.run, h, endWorld]

theorem fr_leaveRound {l : Nat} {L : Loop} (hb : b.roundOf = some l) (hk : b.kind = .normal) (h : w.heap[l]? = some (.loop L)) {j : Option Code} {c : Frame} {todo : List Item}
    (ht : (todo = [] ∧ j = none) ∨ (∃ k0, todo = .code .ret :: k0 ∧ j = some .ret) ∨ (∃ id k0, todo = .code (.exit id) :: k0 ∧ j = some (.exit id) ∧ exitTo id k0 = none) ∨ (∃ g k0, todo = .code (.goto g) :: k0 ∧ j = some (.goto g) ∧ gotoIn g k0 = none)) :
    step P (lone (Fr b tm df todo) (c :: cs) w) = .next (lone (c.finish (.bool j.isNone)) cs (endWorld w l L j)) := by
  have hrun := run_endRound (P := P) h j
  refine step_lone_go ?_
  rcases ht with ⟨rfl, rfl⟩ | ⟨k0, rfl, rfl⟩ | ⟨id, k0, rfl, rfl, hx⟩ | ⟨g, k0, rfl, rfl, hx⟩
  · simp only [Option.isNone_none] at hrun ⊢
    simp [stepG, stepG.exec, Fr, hb, hk, hrun, doReturn]
  · simp only [Option.isNone_some] at hrun ⊢
    simp [stepG, stepG.exec, Fr, hb, hk, hrun, doReturn]
  · simp only [Option.isNone_some] at hrun ⊢
    simp [stepG, stepG.exec, Fr, hb, hk, hrun, doReturn, hx]
  · simp only [Option.isNone_some] at hrun ⊢
    simp [stepG, stepG.exec, Fr, hb, hk, hrun, doReturn, hx]
end
end Go.Am

namespace Go.Am
open Go

structure SR (P : Program) (G : Nat → Option (List AV)) (X : Ctx) (w : World) (b : Frame) (st : St) (tm : Array Value) (df : List Deferred) (m : FrameMode) : Prop where
  rel : Rel P G X st.sg w
  tm : VRs X w st.tm tm.toList
  df : DfR X w st.df df
  md : MdR X w st.md b m

/-- Where the machine comes to. -/
def Reach (P : Program) (m0 : Machine) (b : Frame) (cs : List Frame) (k : List Item) (X : Ctx) (w : World) (tm : Array Value) (df : List Deferred) (m : FrameMode) : AX → Prop
  | .normal => Steps P m0 (lone (Fr b tm df k) (wm b cs m) w)
  | .exit id => ∃ k0, exitTo id k0 = exitTo id k ∧ Steps P m0 (lone (Fr b tm df (.code (.exit id) :: k0)) (wm b cs m) w)
  | .goto l => ∃ k0, gotoIn l k0 = gotoIn l k ∧ Steps P m0 (lone (Fr b tm df (.code (.goto l) :: k0)) (wm b cs m) w)
  | .ret => ∃ k0, Steps P m0 (lone (Fr b tm df (.code .ret :: k0)) (wm b cs m) w)
  | .panic ch => ∃ k0 chain, ChR X w ch chain ∧ Steps P m0 (lone (FrM b tm df k0 (.panicking chain)) (wm b cs m) w)

def ExOk (P : Program) (G : Nat → Option (List AV)) (b : Frame) (cs : List Frame) (k : List Item) (m0 : Machine) (X : Ctx) (s : Store) (w : World) (x : AX) (st' : St) : Prop :=
  ∃ X' w' tm' df' m', Ext X s w X' st'.sg w' ∧ SR P G X' w' b st' tm' df' m' ∧ Reach P m0 b cs k X' w' tm' df' m' x

section
variable {P : Program} {G : Nat → Option (List AV)} {X : Ctx} {s : Store} {w : World}

theorem VRs.putD {l : List AV} {tm : Array Value} (h : VRs X w l tm.toList) (d : Option Nat) {v : AV} {c : Value} (hv : VR X w v c) : VRs X w (Go.Am.put l d v) (putV tm d c).toList := by
  cases d with
  | none => exact h
  | some d =>
    have hl : l.length = tm.size := by simpa using h.1
    refine VRs.of_get (by simp [Go.Am.put, putV, hl]) fun k a c' h1 h2 => ?_
    simp only [Go.Am.put, List.getElem?_set] at h1
    simp only [putV, Array.getElem?_toList, Array.getElem?_setIfInBounds] at h2
    by_cases hk : d = k
    · subst hk
      simp only [if_true] at h1 h2
      split at h1
      · split at h2
        · cases h1; cases h2; exact hv
        · cases h2
      · cases h1
    · rw [if_neg hk] at h1 h2
      exact h.get h1 (by simpa using h2)

theorem Reach.of_steps {m0 m1 : Machine} (h : Steps P m0 m1) {b : Frame} {cs : List Frame} {k : List Item} {tm : Array Value} {df : List Deferred} {m : FrameMode} {x : AX} (h' : Reach P m1 b cs k X w tm df m x) : Reach P m0 b cs k X w tm df m x := by
  cases x with
  | normal => exact h.trans h'
  | exit id => obtain ⟨k0, e, h2⟩ := h'; exact ⟨k0, e, h.trans h2⟩
  | goto l => obtain ⟨k0, e, h2⟩ := h'; exact ⟨k0, e, h.trans h2⟩
  | ret => obtain ⟨k0, h2⟩ := h'; exact ⟨k0, h.trans h2⟩
  | panic ch => obtain ⟨k0, c, e, h2⟩ := h'; exact ⟨k0, c, e, h.trans h2⟩

theorem ExOk.trans {b : Frame} {cs : List Frame} {k : List Item} {m0 m1 : Machine} {X' : Ctx} {s' : Store} {w' : World} {x : AX} {st' : St} (hs : Steps P m0 m1) (hx : Ext X s w X' s' w') (h : ExOk P G b cs k m1 X' s' w' x st') :
    ExOk P G b cs k m0 X s w x st' := by
  obtain ⟨X2, w2, tm2, df2, m2, e1, e2, e3⟩ := h
  exact ⟨X2, w2, tm2, df2, m2, hx.trans e1, e2, e3.of_steps hs⟩

theorem ExOk.head {b : Frame} {cs : List Frame} {k : List Item} {m0 m1 : Machine} {x : AX} {st' : St} (hs : step P m0 = .next m1) (h : ExOk P G b cs k m1 X s w x st') : ExOk P G b cs k m0 X s w x st' :=
  .trans (.one hs) .refl h

theorem runOps_sound {E : Env} (hE : E.prog = P) {call : CallF} (hcall : CallOk P G call) {b : Frame} {cs : List Frame} {k : List Item} {ops : Array Oper} {d : Bool} (hcs : b.kind = .deferred → cs ≠ []) :
    ∀ (n i : Nat) (X : Ctx) (w : World) (st : St) (tm : Array Value) (df : List Deferred) (m : FrameMode) (x : AX) (st' : St), i + n = ops.size → SR P G X w b st tm df m →
      runOps E call ((ops.toList.map (cOper P G d ops.toList)).drop i) st = some (x, st') →
      ExOk P G b cs k (lone (Fr b tm df (.inRegion ops (List.range' i n) :: k)) (wm b cs m) w) X st.sg w x st' := by
  intro n
  induction n with
  | zero =>
    intro i X w st tm df m x st' hi hsr h
    rw [List.drop_eq_nil_of_le (by simp; omega)] at h
    cases h
    exact ⟨X, w, tm, df, m, .refl, hsr, .one fr_region_end⟩
  | succ n ih =>
    intro i X w st tm df m x st' hi hsr h
    have hlt : i < ops.size := by omega
    have hdrop : (ops.toList.map (cOper P G d ops.toList)).drop i = cOper P G d ops.toList ops[i] :: (ops.toList.map (cOper P G d ops.toList)).drop (i + 1) := by
      rw [List.drop_eq_getElem_cons (by simpa using hlt)]
      simp
    rw [hdrop] at h
    simp only [runOps] at h
    obtain ⟨r, hr, h'⟩ := opt_some h
    have ho : ops[i]? = some ops[i] := Array.getElem?_eq_getElem hlt
    have hop := op_sound (cs := cs) (k := k) (rest := List.range' (i + 1) n) hE hcall ho hsr.rel hsr.tm hsr.df hsr.md hcs hr
    rw [List.range'_succ]
    cases r with
    | next st1 =>
      obtain ⟨v, c, X', w', df', m', e1, e2, e3, e4, e5, e6, e7⟩ := hop
      refine .trans e7 e3 (ih (i + 1) X' w' st1 _ df' m' x st' (by omega) ⟨e4, ?_, e5, e6⟩ h')
      rw [e1]
      exact (hsr.tm.mono hsr.rel e3).putD _ e2
    | leave ch st1 =>
      obtain ⟨e1, X', w', df', m', chain, todo, e3, e4, e5, e6, e7, e8⟩ := hop
      cases h'
      refine ⟨X', w', tm, df', m', e3, ⟨e4, by rw [e1]; exact hsr.tm.mono hsr.rel e3, e5, e6⟩, todo, chain, e7, e8⟩

/-- A region that draws its order. -/
def DregOk (P : Program) (G : Nat → Option (List AV)) (E : Env) (call : CallF) : Prop :=
  ∀ (b : Frame) (cs : List Frame) (k : List Item) (id : Nat) (ops : Array Oper) (pl : Plan), comp P G (.region id ops true) = .dreg pl (ops.toList.map (cOper P G true ops.toList)) →
    (b.kind = .deferred → cs ≠ []) → ∀ (X : Ctx) (w : World) (st : St) (tm : Array Value) (df : List Deferred) (m : FrameMode) (x : AX) (st' : St), SR P G X w b st tm df m →
      drun E call pl (ops.toList.map (cOper P G true ops.toList)) pl.es 0 st = some (x, st') →
      ExOk P G b cs k (lone (Fr b tm df (.code (.region id ops true) :: k)) (wm b cs m) w) X st.sg w x st'

theorem hasLabel_find (l : Nat) : ∀ c : Code, hasLabel l (comp P G c) = (findLabel c l).isSome := by
  intro c
  induction c with
  | seq a b iha ihb =>
    simp only [comp, hasLabel, findLabel, iha, ihb]
    cases findLabel a l <;> simp
  | label l' =>
    simp only [comp, hasLabel, findLabel]
    by_cases h : l' = l <;> simp [h]
  | region id ops d =>
    simp only [comp, findLabel]
    split
    · split <;> rfl
    · rfl
  | _ => simp [comp, hasLabel, findLabel]

theorem exitTo_skip {id : Nat} {i : Item} {k : List Item} (h : ∀ id', i ≠ .inBlock id') : exitTo id (i :: k) = exitTo id k := by
  cases i with
  | inBlock id' => exact absurd rfl (h id')
  | _ => rfl
theorem gotoIn_skip {l : Nat} {i : Item} {k : List Item} (h : ∀ c, i ≠ .inScope c) : gotoIn l (i :: k) = gotoIn l k := by
  cases i with
  | inScope c => exact absurd rfl (h c)
  | _ => rfl

/-- Through an item that holds no jump up. -/
theorem ExOk.pass {b : Frame} {cs : List Frame} {i : Item} {k : List Item} {m0 : Machine} {x : AX} {st' : St} (h1 : ∀ id', i ≠ .inBlock id') (h2 : ∀ c, i ≠ .inScope c) (hx : x ≠ .normal) (h : ExOk P G b cs (i :: k) m0 X s w x st') :
    ExOk P G b cs k m0 X s w x st' := by
  obtain ⟨X2, w2, tm2, df2, m2, e1, e2, e3⟩ := h
  refine ⟨X2, w2, tm2, df2, m2, e1, e2, ?_⟩
  cases x with
  | normal => exact absurd rfl hx
  | exit id => obtain ⟨k0, e, h2⟩ := e3; exact ⟨k0, by rw [e, exitTo_skip h1], h2⟩
  | goto l => obtain ⟨k0, e, h3⟩ := e3; exact ⟨k0, by rw [e, gotoIn_skip h2], h3⟩
  | ret => exact e3
  | panic ch => exact e3

/-- Behind code that ends as it should, what follows. -/
theorem ExOk.bind {b : Frame} {cs : List Frame} {k k' : List Item} {m0 : Machine} {st1 : St} {x : AX} {st' : St} (h : ExOk P G b cs k m0 X s w .normal st1)
    (hn : ∀ (X' : Ctx) (w' : World) (tm' : Array Value) (df' : List Deferred) (m' : FrameMode), SR P G X' w' b st1 tm' df' m' → ExOk P G b cs k' (lone (Fr b tm' df' k) (wm b cs m') w') X' st1.sg w' x st') :
    ExOk P G b cs k' m0 X s w x st' := by
  obtain ⟨X2, w2, tm2, df2, m2, e1, e2, e3⟩ := h
  exact .trans e3 e1 (hn X2 w2 tm2 df2 m2 e2)

/-- The end of a loop over a function. -/
theorem endLoop_sound {b : Frame} {cs : List Frame} {k : List Item} {tm : Array Value} {df : List Deferred} {m : FrameMode} {st : St} {l bl : Nat} {ls : LS} {jump : Option AC} {tm0 : List AV} {ps : List Nat} {as bd : AC} {x : AX}
    (hsr : SR P G X w b st tm df m) (hg : Store.get st.sg l = some (.loop ls jump tm0 ps as bd)) (hl : X.loc l = some (bl, 0)) (hls : ls ≠ .busy) (hx : jumpX jump = some x) :
    ExOk P G b cs k (lone (Fr b tm df (.endRangeFunc bl :: k)) (wm b cs m) w) X st.sg w x { st with sg := Store.put st.sg l (.loop .exhausted jump tm0 ps as bd) } := by
  obtain ⟨a1, a2, a3⟩ := hsr.rel.ent l _ hg
  have hlt : l < X.n := hsr.rel.len ▸ Store.lt_of_get hg
  obtain ⟨_, L, hh, hst, hp, hpk, htm, hps, has, hbd, hfn⟩ := a3 bl 0 hl
  have hbusy : L.state ≠ .busy := by
    cases ls with
    | busy => exact absurd rfl hls
    | ready => rw [show L.state = .ready from hst]; decide
    | done => rw [show L.state = .done from hst]; decide
    | exhausted => rw [show L.state = .exhausted from hst]; decide
  have hb := hsr.rel.locb l bl 0 hlt hl
  have ht : Turned bl w { w with heap := w.heap.setIfInBounds bl (.loop { L with state := .exhausted }) } := by
    refine ⟨by simp, fun c h1 h2 => ?_, rfl, rfl⟩
    simp only [Array.getElem?_setIfInBounds]
    rw [if_neg (fun e => h2 e.symm)]
  have hk : (X.ver l = X.ver l ∧ (bl, 0) = (bl, 0) ∧ X.rl l = X.rl l ∧ X.tip l = X.tip l ∧ X.ce l = X.ce l) ∨ X.ver l < X.ver l := .inl ⟨rfl, rfl, rfl, rfl, rfl⟩
  have hx' := Ext.turn hsr.rel ht hlt a2 hl (.loop .exhausted jump tm0 ps as bd) (.inl rfl) hk
  have hr' := Rel.turn hsr.rel ht hlt a2 hl (.loop .exhausted jump tm0 ps as bd) (.inl rfl) hk (by
    refine ⟨by simp [Ctx.turn]; exact a1, by simp [Ctx.turn]; exact a2, fun b base h => ?_⟩
    simp only [Ctx.turn, if_true, Option.some.injEq, Prod.mk.injEq] at h
    obtain ⟨rfl, rfl⟩ := h
    exact ⟨rfl, { L with state := .exhausted }, by simp [hb], rfl, hp, hpk, htm.mono hsr.rel hx', hps, has, hbd, hfn⟩)
  refine ⟨_, _, tm, df, m, hx', ⟨hr', hsr.tm.mono hsr.rel hx', hsr.df.mono hsr.rel hx', hsr.md.mono hsr.rel hx'⟩, ?_⟩
  refine Reach.of_steps (.one (fr_endLoop hh hbusy)) ?_
  cases hpe : L.pending with
  | none =>
    rw [hpe] at hp
    simp only [Option.map_none] at hp
    subst hp
    cases hx
    exact .refl _ _
  | some c =>
    rw [hpe] at hp
    simp only [Option.map_some] at hp
    subst hp
    rcases hpk c hpe with rfl | ⟨id, rfl⟩ | ⟨g, rfl⟩
    · cases hx; exact ⟨k, .refl _ _⟩
    · cases hx; exact ⟨k, rfl, .refl _ _⟩
    · cases hx; exact ⟨k, rfl, .refl _ _⟩

theorem rfunc_sound {E : Env} (hE : E.prog = P) {call : CallF} (hcall : CallOk P G call) (n : Nat) {b : Frame} {cs : List Frame} (hfn : ∃ fn, P.funcs[b.fn]? = some fn) {f : Operand} {ps : Array Nat} {as bd : Code} {k : List Item}
    {X : Ctx} {w : World} {st : St} {tm : Array Value} {df : List Deferred} {m : FrameMode} {x : AX} {st' : St} (hsr : SR P G X w b st tm df m)
    (h : exec E call n (.rfunc (cOpd G f) ps.toList (comp P G as) (comp P G bd)) none st = some (x, st')) :
    ExOk P G b cs k (lone (Fr b tm df (.code (.rangeFunc f ps as bd) :: k)) (wm b cs m) w) X st.sg w x st' := by
  simp only [exec] at h
  split at h
  · cases h
  rotate_left
  · cases h
  rename_i fn first cap hf hmd
  have hro : b.roundOf = none := by
    have := hsr.md
    cases hm : st.md with
    | round => exact absurd hm (fun e => hmd e)
    | run => rw [hm] at this; exact this.2
    | ret => rw [hm] at this; exact this.2.1
    | pan ch => rw [hm] at this; exact this.2.1
  obtain ⟨⟨g, gargs⟩, hg, h1⟩ := opt_some h
  obtain ⟨⟨res, md', s'⟩, hc, h2⟩ := opt_some h1
  clear h h1
  rw [hE] at hg
  simp only at hc hg
  have hlen : st.sg.length = X.n := hsr.rel.len
  -- the two new blocks
  have gA : Grown w { w with heap := w.heap.push (.deferred (some [])), drawn := w.drawn } := Grown.push w _ _
  have hxA := Ext.push (l := some (w.heap.size, 0)) (rl := 0) (tip := 0) (ce := 0) hsr.rel gA (Ent.dfr true) (fun b base h => by cases h; exact Nat.le_refl _)
  have hrA := Rel.push (l := some (w.heap.size, 0)) (rl := 0) (tip := 0) (ce := 0) hsr.rel gA (Ent.dfr true) (fun b base h => by cases h; exact ⟨Nat.le_refl _, by simp⟩) (by
    refine ⟨by simp [Ctx.push], by simp [Ctx.push], fun b' base hl => ?_⟩
    simp only [Ctx.push, if_true, Option.some.injEq, Prod.mk.injEq] at hl
    obtain ⟨rfl, rfl⟩ := hl
    exact ⟨rfl, fun _ => by simp⟩)
  generalize hXA : X.push (some (w.heap.size, 0)) 0 0 0 = XA at hxA hrA
  have gB : Grown { w with heap := w.heap.push (.deferred (some [])), drawn := w.drawn } (loopWorld w (newLoop w b.fn tm ps as bd)) := Grown.push _ _ _
  have hsz : ({ w with heap := w.heap.push (.deferred (some [])), drawn := w.drawn } : World).heap.size = w.heap.size + 1 := by simp
  have hxB := Ext.push (l := some (w.heap.size + 1, 0)) (rl := 0) (tip := 0) (ce := 0) hrA gB (Ent.loop .ready none st.tm ps.toList (comp P G as) (comp P G bd)) (fun b base h => by cases h; rw [hsz]; exact Nat.le_refl _)
  have hrB := Rel.push (l := some (w.heap.size + 1, 0)) (rl := 0) (tip := 0) (ce := 0) hrA gB (Ent.loop .ready none st.tm ps.toList (comp P G as) (comp P G bd)) (fun b base h => by cases h; rw [hsz]; exact ⟨Nat.le_refl _, by simp [loopWorld]⟩) (by
    refine ⟨by simp [Ctx.push], by simp [Ctx.push], fun b' base hl => ?_⟩
    simp only [Ctx.push, if_true, Option.some.injEq, Prod.mk.injEq] at hl
    obtain ⟨rfl, rfl⟩ := hl
    refine ⟨rfl, newLoop w b.fn tm ps as bd, ?_, rfl, rfl, (fun c hc => by cases hc), (hsr.tm.mono hsr.rel hxA).mono hrA hxB, rfl, rfl, rfl, hfn⟩
    simp only [loopWorld]; rw [Array.getElem?_push, if_pos (by simp)])
  have hnA : XA.n = X.n + 1 := by subst hXA; rfl
  generalize hXB : XA.push (some (w.heap.size + 1, 0)) 0 0 0 = XB at hxB hrB
  have hx := hxA.trans hxB
  have hlocd : XB.loc st.sg.length = some (w.heap.size, 0) := by subst hXB; subst hXA; simp [Ctx.push, hlen]
  have hlocl : XB.loc (st.sg.length + 1) = some (w.heap.size + 1, 0) := by subst hXB; simp [Ctx.push, hnA, hlen]
  have hverl : XB.ver (st.sg.length + 1) = 0 := by subst hXB; simp [Ctx.push, hnA, hlen]
  have hnB : XB.n = X.n + 2 := by subst hXB; simp [Ctx.push, hnA]
  -- the function
  have hev := (opd_sound (a := Act.mk tm df) hsr.rel hsr.tm f)
  rw [hf] at hev
  have hev2 := hev.mono hsr.rel hx
  generalize hfc : (Act.mk tm df).eval f = fc at hev2
  cases hev2 with
  | fn _ fn' _ _ cf cc hfr l1 l2 v1 v2 =>
  have hcf : VRs XB _ first cf.toList := ⟨by simpa using l1, fun i a b => v1 i a (by simpa using b)⟩
  have hcc : VRs XB _ cap cc.toList := ⟨by simpa using l2, fun i a b => v2 i a (by simpa using b)⟩
  have hy : VR XB (loopWorld w (newLoop w b.fn tm ps as bd)) (.fn (.yield (st.sg.length + 1)) [] []) (.func (.yield (w.heap.size + 1)) #[] #[]) :=
    .fn _ _ _ _ _ _ (.yield _ _ (by rw [hnB, hlen]; omega) fun _ => hlocl) rfl rfl (fun i h => by simp at h) (fun i h => by simp at h)
  obtain ⟨gc, sm, t1, t2, t3⟩ := target_sound (P := P) (ca := cf ++ #[Value.func (.yield (w.heap.size + 1)) #[] #[]]) hfr (by rw [Array.toList_append]; exact hcf.append (VRs.cons hy .nil)) hcc hg
  have hrun : ((do let d ← resolve (Act.mk tm df).eval (loopCall w f) 0; invoke d.target d.args) : Sem Next).run P (loopWorld w (newLoop w b.fn tm ps as bd)) = sm.run P (loopWorld w (newLoop w b.fn tm ps as bd)) := by
    rw [← t3]
    have hres : resolve (Act.mk tm df).eval (loopCall w f) 0 = Deferred.ofValue (.func fn' cf cc) #[Value.func (.yield (w.heap.size + 1)) #[] #[]] := by
      simp only [resolve, loopCall, hfc]
      congr 1
      simp [Act.eval]
    rw [Sem.run_bind, hres]
    simp [Deferred.ofValue]
  obtain ⟨nx, w1, n1, n2⟩ := hcall g gargs .run _ res md' s' hc XB _ gc sm hrB t1 t2
  rw [n1] at hrun
  have hdf' : ∀ (X3 : Ctx) (w3 : World) (s3 : Store), Ext XB (Ent.loop .ready none st.tm ps.toList (comp P G as) (comp P G bd) :: Ent.dfr true :: st.sg) (loopWorld w (newLoop w b.fn tm ps as bd)) X3 s3 w3 →
      DfR X3 w3 (.mark st.sg.length :: st.df) (loopDf w df) := fun X3 w3 s3 he =>
    .mark ((VR.map _ _ (by rw [hnB, hlen]; omega) fun _ => hlocd).mono hrB he) (hsr.df.mono hsr.rel (hx.trans he))
  have fin : ∀ (v : AV) (X3 : Ctx) (w3 : World), res = .ret v → Ext XB (Ent.loop .ready none st.tm ps.toList (comp P G as) (comp P G bd) :: Ent.dfr true :: st.sg) (loopWorld w (newLoop w b.fn tm ps as bd)) X3 s' w3 → Rel P G X3 s' w3 →
      Steps P (lone (Fr b tm df (.code (.rangeFunc f ps as bd) :: k)) (wm b cs m) w) (lone (Fr b tm (loopDf w df) (.endRangeFunc (w.heap.size + 1) :: k)) (wm b cs m) w3) →
      ExOk P G b cs k (lone (Fr b tm df (.code (.rangeFunc f ps as bd) :: k)) (wm b cs m) w) X st.sg w x st' := by
    rintro v X3 w3 rfl he hr3 hsteps
    simp only at h2
    split at h2
    · rename_i ls jump tm' ps' a' b' hgl
      split at h2
      · cases h2
      rename_i hls
      cases hj : jumpX jump with
      | none => rw [hj] at h2; cases h2
      | some y =>
        rw [hj] at h2
        cases h2
        obtain ⟨a1, _⟩ := hr3.ent _ _ hgl
        have hloc3 : X3.loc (st.sg.length + 1) = some (w.heap.size + 1, 0) := by
          rcases he.keep (st.sg.length + 1) (by rw [hnB, hlen]; omega) with ⟨_, k2, _⟩ | k1
          · rw [k2, hlocl]
          · omega
        have hsr3 : SR P G X3 w3 b { st with sg := s', df := .mark st.sg.length :: st.df } tm (loopDf w df) m :=
          ⟨hr3, hsr.tm.mono hsr.rel (hx.trans he), hdf' X3 w3 s' he, hsr.md.mono hsr.rel (hx.trans he)⟩
        exact .trans hsteps (hx.trans he) (endLoop_sound hsr3 hgl hloc3 hls hj)
    · cases h2
  rcases n2 with ⟨c, v, X', rfl, _, _, hres, e1, e2, e3⟩ | ⟨rfl, n3⟩
  · exact fin v X' w1 hres e1 e2 (.one (fr_loop_value hro hrun))
  · obtain ⟨f0, hst, n4⟩ := n3 .normal m rfl (fun _ => rfl)
    obtain ⟨X', w', m', e1, e2, e3, e4⟩ := n4 (Fr b tm (loopDf w df) (.inRangeFunc (w.heap.size + 1) :: k)) (wm b cs m)
    have hstep : step P (lone (Fr b tm df (.code (.rangeFunc f ps as bd) :: k)) (wm b cs m) w) = .next (lone f0 (Fr b tm (loopDf w df) (.inRangeFunc (w.heap.size + 1) :: k) :: wm b cs m) (loopWorld w (newLoop w b.fn tm ps as bd))) := by
      cases nx with
      | enter f args => simp only [Starts] at hst; subst hst; exact fr_loop_enter hro hrun
      | round l f t x y => simp only [Starts] at hst; subst hst; exact fr_loop_round hro hrun
      | _ => exact absurd hst (by simp [Starts])
    cases hres : res with
    | ret v =>
      rw [hres] at e4
      obtain ⟨c, f1, f2⟩ := e4
      refine fin v X' w' hres e1 e2 (.head hstep ?_)
      simp only [setM, backTo, loop_finish] at f2
      exact f2
    | panic ch =>
      rw [hres] at e4 h2
      cases h2
      obtain ⟨chain, f1, f2⟩ := e4
      exact ⟨X', w', tm, loopDf w df, m, hx.trans e1, ⟨e2, hsr.tm.mono hsr.rel (hx.trans e1), hdf' X' w' s' e1, hsr.md.mono hsr.rel (hx.trans e1)⟩, _, chain, f1, .head hstep f2⟩

theorem exec_sound {E : Env} (hE : E.prog = P) {call : CallF} (hcall : CallOk P G call) (hdreg : DregOk P G E call) (n : Nat) {b : Frame} {cs : List Frame} (hcs : b.kind = .deferred → cs ≠ []) (hfn : ∃ fn, P.funcs[b.fn]? = some fn) :
    ∀ (c : Code) (l : Option Nat) (start : Code) (k : List Item) (X : Ctx) (w : World) (st : St) (tm : Array Value) (df : List Deferred) (m : FrameMode) (x : AX) (st' : St),
      (l = none → start = c) → (∀ lb, l = some lb → findLabel c lb = some start) → SR P G X w b st tm df m → exec E call n (comp P G c) l st = some (x, st') →
      ExOk P G b cs k (lone (Fr b tm df (.code start :: k)) (wm b cs m) w) X st.sg w x st' := by
  intro c
  induction c with
  | skip =>
    intro l start k X w st tm df m x st' h1 h2 hsr h
    cases l with
    | some lb => exact absurd (h2 lb rfl) (by simp [findLabel])
    | none =>
      cases h1 rfl
      simp only [comp, exec, Option.some.injEq, Prod.mk.injEq] at h
      obtain ⟨rfl, rfl⟩ := h
      exact ⟨X, w, tm, df, m, .refl, hsr, .one fr_skip⟩
  | region id ops d =>
    intro l start k X w st tm df m x st' h1 h2 hsr h
    cases l with
    | some lb => exact absurd (h2 lb rfl) (by simp [findLabel])
    | none =>
      cases h1 rfl
      cases d with
      | true =>
        simp only [comp, if_true] at h
        split at h
        · rename_i hok
          refine hdreg b cs k id ops (mkPlan (preds ops.toList) (ops.toList.map (cOper P G true ops.toList))) ?_ hcs X w st tm df m x st' hsr ?_
          · simp only [comp, if_true]; rw [if_pos hok]
          · simpa [exec] using h
        · simp [exec] at h
      | false =>
        simp only [comp, Bool.false_eq_true, if_false, exec] at h
        refine .head fr_region ?_
        rw [List.range_eq_range']
        exact runOps_sound hE hcall hcs ops.size 0 X w st tm df m x st' (by omega) hsr (by simpa using h)
  | seq c1 c2 ih1 ih2 =>
    intro l start k X w st tm df m x st' h1 h2 hsr h
    have first : ∀ (l' : Option Nat) (start' : Code), (l' = none → start' = c1) → (∀ lb, l' = some lb → findLabel c1 lb = some start') → start = .seq start' c2 →
        (∃ x1 st1, exec E call n (comp P G c1) l' st = some (x1, st1) ∧ (x1 = .normal ∧ exec E call n (comp P G c2) none st1 = some (x, st') ∨ x1 ≠ .normal ∧ (x1, st1) = (x, st'))) → ExOk P G b cs k (lone (Fr b tm df (.code start :: k)) (wm b cs m) w) X st.sg w x st' := by
      rintro l' start' g1 g2 rfl ⟨x1, st1, hx1, h'⟩
      refine .head fr_seq ?_
      have e1 := ih1 l' start' (.code c2 :: k) X w st tm df m x1 st1 g1 g2 hsr hx1
      rcases h' with ⟨rfl, h'⟩ | ⟨hn, h'⟩
      · exact e1.bind fun X' w' tm' df' m' hsr' => ih2 none c2 k X' w' st1 tm' df' m' x st' (fun _ => rfl) (fun _ h => by cases h) hsr' h'
      · cases h'
        exact e1.pass (fun _ e => by cases e) (fun _ e => by cases e) hn
    have split : ∀ l', (opt (exec E call n (comp P G c1) l' st) fun
          | (.normal, st) => exec E call n (comp P G c2) none st
          | r => some r) = some (x, st') → ∃ x1 st1, exec E call n (comp P G c1) l' st = some (x1, st1) ∧ (x1 = .normal ∧ exec E call n (comp P G c2) none st1 = some (x, st') ∨ x1 ≠ .normal ∧ (x1, st1) = (x, st')) := by
      intro l' h
      obtain ⟨⟨x1, st1⟩, hx1, h'⟩ := opt_some h
      refine ⟨x1, st1, hx1, ?_⟩
      cases x1 with
      | normal => exact .inl ⟨rfl, h'⟩
      | _ => exact .inr ⟨by simp, by simpa using h'⟩
    cases l with
    | none =>
      cases h1 rfl
      refine first none c1 (fun _ => rfl) (fun _ h => by cases h) rfl (split none ?_)
      simp only [comp, exec] at h
      exact h
    | some lb =>
      have hf := h2 lb rfl
      simp only [findLabel] at hf
      simp only [comp, exec, hasLabel_find] at h
      cases hc : findLabel c1 lb with
      | some rest =>
        rw [hc] at hf h
        cases hf
        refine first (some lb) rest (fun h => by cases h) (fun _ h => by cases h; exact hc) rfl (split (some lb) ?_)
        simp only [Option.isSome_some, if_true] at h
        exact h
      | none =>
        rw [hc] at hf h
        exact ih2 (some lb) start k X w st tm df m x st' (fun h => by cases h) (fun _ h => by cases h; exact hf) hsr (by simpa using h)
  | cond c x1 x2 ih1 ih2 =>
    intro l start k X w st tm df m x st' h1 h2 hsr h
    cases l with
    | some lb => exact absurd (h2 lb rfl) (by simp [findLabel])
    | none =>
      cases h1 rfl
      have hc := opd_sound (a := Act.mk tm df) hsr.rel hsr.tm c
      simp only [comp, exec] at h
      split at h
      · rename_i heq
        rw [heq] at hc
        refine .head (fr_cond hc.bool_inv) ?_
        exact ih1 none x1 k X w st tm df m x st' (fun _ => rfl) (fun _ h => by cases h) hsr h
      · rename_i heq
        rw [heq] at hc
        refine .head (fr_cond hc.bool_inv) ?_
        exact ih2 none x2 k X w st tm df m x st' (fun _ => rfl) (fun _ h => by cases h) hsr h
      · cases h
  | block id c ih =>
    intro l start k X w st tm df m x st' h1 h2 hsr h
    cases l with
    | some lb => exact absurd (h2 lb rfl) (by simp [findLabel])
    | none =>
      cases h1 rfl
      simp only [comp, exec] at h
      obtain ⟨⟨x1, st1⟩, hx1, h'⟩ := opt_some h
      refine .head fr_block ?_
      obtain ⟨X2, w2, tm2, df2, m2, e1, e2, e3⟩ := ih none c (.inBlock id :: k) X w st tm df m x1 st1 (fun _ => rfl) (fun _ h => by cases h) hsr hx1
      cases x1 with
      | normal => cases h'; exact ⟨X2, w2, tm2, df2, m2, e1, e2, Steps.trans e3 (.one fr_inBlock)⟩
      | exit id' =>
        obtain ⟨k0, g1, g2⟩ := e3
        simp only at h'
        by_cases hid : id' = id
        · subst hid
          rw [if_pos rfl] at h'
          cases h'
          refine ⟨X2, w2, tm2, df2, m2, e1, e2, g2.trans (.one (fr_exit ?_))⟩
          rw [g1]; simp [exitTo]
        · rw [if_neg hid] at h'
          cases h'
          refine ⟨X2, w2, tm2, df2, m2, e1, e2, k0, ?_, g2⟩
          rw [g1]
          have : (id == id') = false := by simp; exact fun h => hid h.symm
          simp [exitTo, this]
      | goto l => cases h'; obtain ⟨k0, g1, g2⟩ := e3; exact ⟨X2, w2, tm2, df2, m2, e1, e2, k0, by rw [g1]; rfl, g2⟩
      | ret => cases h'; exact ⟨X2, w2, tm2, df2, m2, e1, e2, e3⟩
      | panic ch => cases h'; exact ⟨X2, w2, tm2, df2, m2, e1, e2, e3⟩
  | loop c ih =>
    intro l start k X w st tm df m x st' h1 h2 hsr h
    cases l with
    | some lb => exact absurd (h2 lb rfl) (by simp [findLabel])
    | none =>
      cases h1 rfl
      simp only [comp, exec] at h
      refine .head fr_loop ?_
      have key : ∀ (j : Nat) (X : Ctx) (w : World) (st : St) (tm : Array Value) (df : List Deferred) (m : FrameMode) (x : AX) (st' : St), SR P G X w b st tm df m →
          iter (exec E call n (comp P G c) none) j st = some (x, st') → ExOk P G b cs k (lone (Fr b tm df (.code c :: .inLoop c :: k)) (wm b cs m) w) X st.sg w x st' := by
        intro j
        induction j with
        | zero => intro X w st tm df m x st' _ h; simp [iter] at h
        | succ j ihj =>
          intro X w st tm df m x st' hsr h
          simp only [iter] at h
          obtain ⟨⟨x1, st1⟩, hx1, h'⟩ := opt_some h
          have e1 := ih none c (.inLoop c :: k) X w st tm df m x1 st1 (fun _ => rfl) (fun _ h => by cases h) hsr hx1
          by_cases hn : x1 = .normal
          · subst hn
            exact e1.bind fun X' w' tm' df' m' hsr' => .head fr_inLoop (ihj X' w' st1 tm' df' m' x st' hsr' h')
          · have : (x1, st1) = (x, st') := by
              cases x1 with
              | normal => exact absurd rfl hn
              | _ => simpa using h'
            cases this
            exact e1.pass (fun _ e => by cases e) (fun _ e => by cases e) hn
      exact key n X w st tm df m x st' hsr h
  | rangeFunc f ps as bd ih1 ih2 =>
    intro l start k X w st tm df m x st' h1 h2 hsr h
    cases l with
    | some lb => exact absurd (h2 lb rfl) (by simp [findLabel])
    | none =>
      cases h1 rfl
      exact rfunc_sound hE hcall n hfn hsr (by simpa [comp] using h)
  | exit id =>
    intro l start k X w st tm df m x st' h1 h2 hsr h
    cases l with
    | some lb => exact absurd (h2 lb rfl) (by simp [findLabel])
    | none =>
      cases h1 rfl
      simp only [comp, exec, Option.some.injEq, Prod.mk.injEq] at h
      obtain ⟨rfl, rfl⟩ := h
      exact ⟨X, w, tm, df, m, .refl, hsr, k, rfl, .refl _ _⟩
  | scope c ih =>
    intro l start k X w st tm df m x st' h1 h2 hsr h
    cases l with
    | some lb => exact absurd (h2 lb rfl) (by simp [findLabel])
    | none =>
      cases h1 rfl
      simp only [comp, exec] at h
      refine .head fr_scope ?_
      have key : ∀ (j : Nat) (l : Option Nat) (start : Code) (X : Ctx) (w : World) (st : St) (tm : Array Value) (df : List Deferred) (m : FrameMode) (x : AX) (st' : St), (l = none → start = c) → (∀ lb, l = some lb → findLabel c lb = some start) → SR P G X w b st tm df m →
          scopeIter (comp P G c) (exec E call n (comp P G c)) j l st = some (x, st') → ExOk P G b cs k (lone (Fr b tm df (.code start :: .inScope c :: k)) (wm b cs m) w) X st.sg w x st' := by
        intro j
        induction j with
        | zero => intro l start X w st tm df m x st' _ _ _ h; simp [scopeIter] at h
        | succ j ihj =>
          intro l start X w st tm df m x st' g1 g2 hsr h
          simp only [scopeIter] at h
          obtain ⟨⟨x1, st1⟩, hx1, h'⟩ := opt_some h
          have e1 := ih l start (.inScope c :: k) X w st tm df m x1 st1 g1 g2 hsr hx1
          cases x1 with
          | normal =>
            cases h'
            obtain ⟨X2, w2, tm2, df2, m2, f1, f2, f3⟩ := e1
            exact ⟨X2, w2, tm2, df2, m2, f1, f2, Steps.trans f3 (.one fr_inScope)⟩
          | exit id => cases h'; obtain ⟨X2, w2, tm2, df2, m2, f1, f2, k0, f3, f4⟩ := e1; exact ⟨X2, w2, tm2, df2, m2, f1, f2, k0, by rw [f3]; rfl, f4⟩
          | ret => cases h'; exact e1
          | panic ch => cases h'; exact e1
          | goto lb =>
            obtain ⟨X2, w2, tm2, df2, m2, f1, f2, k0, f3, f4⟩ := e1
            simp only [hasLabel_find] at h'
            cases hc : findLabel c lb with
            | some rest =>
              rw [hc] at h'
              simp only [Option.isSome_some, if_true] at h'
              refine .trans (f4.trans (.one (fr_goto (k' := .code rest :: .inScope c :: k) ?_))) f1 (ihj (some lb) rest X2 w2 st1 tm2 df2 m2 x st' (fun h => by cases h) (fun _ h => by cases h; exact hc) f2 h')
              rw [f3]; simp [gotoIn, hc]
            | none =>
              rw [hc] at h'
              simp only [Option.isSome_none, Bool.false_eq_true, if_false, Option.some.injEq, Prod.mk.injEq] at h'
              obtain ⟨rfl, rfl⟩ := h'
              exact ⟨X2, w2, tm2, df2, m2, f1, f2, k0, by rw [f3]; simp [gotoIn, hc], f4⟩
      exact key n none c X w st tm df m x st' (fun _ => rfl) (fun _ h => by cases h) hsr h
  | label lb =>
    intro l start k X w st tm df m x st' h1 h2 hsr h
    simp only [comp, exec, Option.some.injEq, Prod.mk.injEq] at h
    obtain ⟨rfl, rfl⟩ := h
    cases l with
    | none =>
      cases h1 rfl
      exact ⟨X, w, tm, df, m, .refl, hsr, .one fr_label⟩
    | some lb' =>
      have := h2 lb' rfl
      simp only [findLabel] at this
      split at this
      · cases this
        exact ⟨X, w, tm, df, m, .refl, hsr, .one fr_skip⟩
      · cases this
  | goto lb =>
    intro l start k X w st tm df m x st' h1 h2 hsr h
    cases l with
    | some lb => exact absurd (h2 lb rfl) (by simp [findLabel])
    | none =>
      cases h1 rfl
      simp only [comp, exec, Option.some.injEq, Prod.mk.injEq] at h
      obtain ⟨rfl, rfl⟩ := h
      exact ⟨X, w, tm, df, m, .refl, hsr, k, rfl, .refl _ _⟩
  | ret =>
    intro l start k X w st tm df m x st' h1 h2 hsr h
    cases l with
    | some lb => exact absurd (h2 lb rfl) (by simp [findLabel])
    | none =>
      cases h1 rfl
      simp only [comp, exec, Option.some.injEq, Prod.mk.injEq] at h
      obtain ⟨rfl, rfl⟩ := h
      exact ⟨X, w, tm, df, m, .refl, hsr, k, .refl _ _⟩
  | refuse why =>
    intro l start k X w st tm df m x st' h1 h2 hsr h
    simp [comp, exec] at h
end
end Go.Am

namespace Go.Am
open Go

section
variable {P : Program} {G : Nat → Option (List AV)} {X : Ctx} {s : Store} {w : World}

/-- How a frame is left. -/
def UM (X : Ctx) (w : World) (u : AMode) (m : FrameMode) : Prop :=
  match u with
  | .ret => m = .returning
  | .pan ch => ∃ chain, m = .panicking chain ∧ ChR X w ch chain
  | _ => False

theorem UM.mono {X' : Ctx} {s' : Store} {w' : World} (hr : Rel P G X s w) (hx : Ext X s w X' s' w') {u : AMode} {m : FrameMode} (h : UM X w u m) : UM X' w' u m := by
  cases u with
  | ret => exact h
  | pan ch => obtain ⟨chain, a, b⟩ := h; exact ⟨chain, a, b.mono hr hx⟩
  | _ => exact h

theorem MdC.mono {X' : Ctx} {s' : Store} {w' : World} (hr : Rel P G X s w) (hx : Ext X s w X' s' w') {u : AMode} {kind : CallKind} {m : FrameMode} (h : MdC X w u kind m) : MdC X' w' u kind m := by
  cases u with
  | ret => exact h
  | pan ch => obtain ⟨k, chain, a, b⟩ := h; exact ⟨k, chain, a, b.mono hr hx⟩
  | _ => exact h

theorem UM.mdc {u : AMode} {m : FrameMode} (h : UM X w u m) : MdC X w u .deferred m := by
  cases u with
  | ret => exact ⟨rfl, h⟩
  | pan ch => exact ⟨rfl, h⟩
  | _ => exact absurd h (by simp [UM])

theorem MdC.um {u : AMode} {m : FrameMode} (h : MdC X w u .deferred m) : UM X w u m := by
  cases u with
  | ret => exact h.2
  | pan ch => exact h.2
  | run => exact absurd h (by simp [MdC])
  | round => exact absurd h (by simp [MdC])

theorem run_asAddr_ptr (a : Addr) (w : World) : (asAddr (.pointer (some a))).run P w = .ok a w := by simp [asAddr]

def resOf (ctm : Array Value) : ResultVar → Sem Value
  | .tmp t => pure (ctm.getD t Go.undef)
  | .cell a t => do loadVar t (← asAddr (ctm.getD a Go.undef))

theorem resultA_sound (hr : Rel P G X s w) {tm : List AV} {ctm : Array Value} (ht : VRs X w tm ctm.toList) : ∀ (rs : List ResultVar) (vs : List AV), resultA P tm s rs = some vs →
    ∃ cs, (rs.mapM (resOf ctm) : Sem (List Value)).run P w = .ok cs w ∧ VRs X w vs cs := by
  intro rs
  induction rs with
  | nil => intro vs h; cases h; exact ⟨[], rfl, .nil⟩
  | cons r rs ih =>
    intro vs h
    cases r with
    | tmp t =>
      simp only [resultA] at h
      cases h1 : resultA P tm s rs with
      | none => rw [h1] at h; cases h
      | some vs' =>
        rw [h1] at h
        cases h
        obtain ⟨cs, e1, e2⟩ := ih vs' h1
        refine ⟨ctm.getD t Go.undef :: cs, ?_, .cons (tmp_sound (a := Act.mk ctm []) ht t) e2⟩
        simp only [List.mapM_cons, resOf, Sem.run_bind, Sem.run_pure, Result.andThen_ok, e1]
    | cell a t =>
      simp only [resultA] at h
      split at h
      · rename_i hc
        obtain ⟨v, hv, h'⟩ := opt_some h
        cases h1 : resultA P tm s rs with
        | none => rw [h1] at h'; cases h'
        | some vs' =>
          rw [h1] at h'
          cases h'
          obtain ⟨cs, e1, e2⟩ := ih vs' h1
          obtain ⟨b, st, row, o, f1, f2, f3⟩ := place_sound hr hv (tmp_sound (a := Act.mk ctm []) ht a)
          obtain ⟨c, g1, g2⟩ := getRow_sound f2 hc.2.2 f3
          simp only at f1
          refine ⟨c :: cs, ?_, .cons g2 e2⟩
          simp only [List.mapM_cons, resOf, Sem.run_bind, Sem.run_pure, Result.andThen_ok, e1, f1, run_asAddr_ptr, g1]
      · cases h

theorem results_sound (hr : Rel P G X s w) {tm : List AV} {ctm : Array Value} (ht : VRs X w tm ctm.toList) {fn : Func} {vs : List AV} (h : resultA P tm s fn.results.toList = some vs) :
    ∃ c, (results fn ctm).run P w = .ok c w ∧ VR X w (tupleOf vs) c := by
  obtain ⟨cs, e1, e2⟩ := resultA_sound hr ht _ _ h
  have hm : (results fn ctm).run P w = .ok (if h : cs.toArray.size = 1 then cs.toArray[0] else .tuple cs.toArray) w := by
    have he : results fn ctm = (do let vs ← fn.results.mapM (resOf ctm); pure (if h : vs.size = 1 then vs[0] else .tuple vs)) := by
      unfold results
      congr 1
    rw [he, Array.mapM_eq_mapM_toList]
    simp only [Sem.run_bind, Sem.run_map, e1, Result.andThen_ok, Sem.run_pure]
  refine ⟨_, hm, ?_⟩
  match vs, cs, e2 with
  | [], [], _ => simp only [tupleOf]; exact .tup _ _ rfl (fun i h => by simp at h)
  | [v], [c], e2 => exact e2.2 0 (by simp) (by simp)
  | v1 :: v2 :: vs, c1 :: c2 :: cs, e2 =>
    rw [dif_neg (by simp)]
    simp only [tupleOf]
    exact .tup _ _ (by simpa using e2.1) fun i h1 h2 => e2.2 i h1 (by simpa using h2)
  | [], _ :: _, e2 => exact absurd e2.1 (by simp)
  | _ :: _, [], e2 => exact absurd e2.1 (by simp)
  | [_], _ :: _ :: _, e2 => exact absurd e2.1 (by simp)
  | _ :: _ :: _, [_], e2 => exact absurd e2.1 (by simp)

/-! ### steps -/
section steps
variable {b : Frame} {tm : Array Value} {df : List Deferred} {todo : List Item} {m : FrameMode} {cs : List Frame}

theorem fm_mark {blk : Nat} (hm : m ≠ .run) (h : w.heap[blk]? = some (.deferred (some []))) :
    step P (lone (FrM b tm ({ target := .collected blk, args := #[] } :: df) todo m) cs w) = .next (lone (FrM b tm df todo m) cs { w with heap := w.heap.setIfInBounds blk (.deferred none) }) := by
  have hrun : (Instr.takeDeferred blk).run P w = .ok [] { w with heap := w.heap.setIfInBounds blk (.deferred none) } := by
    simp [Instr.takeDeferred, getObj, setObj, Sem.run, h]
  refine step_lone_go ?_
  cases m with
  | run => exact absurd rfl hm
  | _ => simp [stepG, unwind, FrM, hrun]

theorem fm_defer_enter {t : Fn} {cap args : Array Value} (hm : m ≠ .run) {nx : Next} {f0 : Frame} {w1 : World} (h : (invoke (.fn t cap) args).run P w = .ok nx w1) (hs : Starts P .deferred nx f0) :
    step P (lone (FrM b tm ({ target := .fn t cap, args } :: df) todo m) cs w) = .next (lone f0 (FrM b tm df todo m :: cs) w1) := by
  refine step_lone_go ?_
  cases nx with
  | enter f a =>
    simp only [Starts] at hs; subst hs
    cases m with
    | run => exact absurd rfl hm
    | _ => simp [stepG, unwind, FrM, callDeferred, h]
  | round l f t x y =>
    simp only [Starts] at hs; subst hs
    cases m with
    | run => exact absurd rfl hm
    | _ => simp [stepG, unwind, FrM, callDeferred, h]
  | _ => exact absurd hs (by simp [Starts])

theorem fm_return {fn : Func} {v : Value} {c : Frame} (hb : P.funcs[b.fn]? = some fn) (hk : b.kind = .normal ∨ b.kind = .deferred) (h : (results fn tm).run P w = .ok v w) :
    step P (lone (FrM b tm [] todo .returning) (c :: cs) w) = .next (lone (backTo b.kind c v) cs w) := by
  refine step_lone_go ?_
  rcases hk with hk | hk
  · simp [stepG, unwind, FrM, doReturn, hb, h, hk, backTo]
  · simp only [hk, backTo]
    simp [stepG, unwind, FrM, doReturn, hb, h, hk]
    rfl

theorem fm_panic {fn : Func} {chain : List PanicEntry} {c : Frame} (hb : P.funcs[b.fn]? = some fn) :
    step P (lone (FrM b tm [] todo (.panicking chain)) (c :: cs) w) = .next (lone (c.raise chain) cs w) :=
  step_lone_go (by simp [stepG, unwind, FrM, Frame.catches, hb])
end steps

theorem settle_um {u : AMode} {kind : CallKind} {m : FrameMode} (h : UM X w u m) {b : Frame} {tm : Array Value} {df : List Deferred} {todo : List Item} (_hk : kind = .deferred) :
    ∃ m', settled (FrM b tm df todo m) = FrM b tm df todo m' ∧ UM X w (settleA u) m' := by
  cases u with
  | ret => simp only [UM] at h; subst h; exact ⟨.returning, rfl, rfl⟩
  | pan ch =>
    obtain ⟨chain, rfl, hc⟩ := h
    cases hc with
    | nil => exact ⟨.panicking [], rfl, [], rfl, .nil⟩
    | cons hv ht =>
      rename_i v c r ch' cs'
      cases r with
      | true => refine ⟨.returning, ?_, rfl⟩; simp only [settled, FrM, ht.noexit]
      | false => exact ⟨_, rfl, _, rfl, .cons hv ht⟩
  | _ => exact absurd h (by simp [UM])

theorem raise_um {u : AMode} {m : FrameMode} (h : UM X w u m) {ch : List (AV × Bool)} {chain : List PanicEntry} (hc : ChR X w ch chain) {b : Frame} {tm : Array Value} {df : List Deferred} {todo : List Item} :
    ∃ m', (FrM b tm df todo m).raise chain = FrM b tm df todo m' ∧ UM X w (raisedA u ch) m' := by
  cases u with
  | ret => simp only [UM] at h; subst h; exact ⟨.panicking chain, rfl, _, rfl, hc⟩
  | pan old =>
    obtain ⟨chain', rfl, hc'⟩ := h
    exact ⟨.panicking (chain ++ chain'), rfl, _, rfl, hc.append hc'⟩
  | _ => exact absurd h (by simp [UM])

/-- What is left of a frame. -/
def LeaveOut (P : Program) (G : Nat → Option (List AV)) (b : Frame) (ctm : Array Value) (todo : List Item) (cs : List Frame) (m0 : Machine) (fn : Func) (X : Ctx) (s : Store) (w : World) (res : ARes) (s' : Store) : Prop :=
  ∃ X' w' m', Ext X s w X' s' w' ∧ Rel P G X' s' w' ∧ Steps P m0 (lone (FrM b ctm [] todo m') cs w') ∧ match res with
    | .ret v => m' = .returning ∧ ∃ c, (results fn ctm).run P w' = .ok c w' ∧ VR X' w' v c
    | .panic ch => ∃ chain, m' = .panicking chain ∧ ChR X' w' ch chain

theorem LeaveOut.trans {b : Frame} {ctm : Array Value} {todo : List Item} {cs : List Frame} {m0 m1 : Machine} {fn : Func} {X1 : Ctx} {s1 : Store} {w1 : World} {res : ARes} {s' : Store} (hs : Steps P m0 m1) (hx : Ext X s w X1 s1 w1)
    (h : LeaveOut P G b ctm todo cs m1 fn X1 s1 w1 res s') : LeaveOut P G b ctm todo cs m0 fn X s w res s' := by
  obtain ⟨X', w', m', e1, e2, e3, e4⟩ := h
  exact ⟨X', w', m', hx.trans e1, e2, hs.trans e3, e4⟩

theorem leave_sound {E : Env} (hE : E.prog = P) {call : CallF} (hcall : CallOk P G call) {b : Frame} {ctm : Array Value} {todo : List Item} {cs : List Frame} {fn : Func} {tm : List AV} :
    ∀ (ds : List ADef) (u : AMode) (X : Ctx) (s : Store) (w : World) (df : List Deferred) (m : FrameMode) (res : ARes) (s' : Store), Rel P G X s w → VRs X w tm ctm.toList → DfR X w ds df → UM X w u m →
      leave E call fn tm ds u s = some (res, s') → LeaveOut P G b ctm todo cs (lone (FrM b ctm df todo m) cs w) fn X s w res s' := by
  intro ds
  induction ds with
  | nil =>
    intro u X s w df m res s' hr ht hd hu h
    cases hd
    cases u with
    | ret =>
      simp only [leave] at h
      cases hv : resultA E.prog tm s fn.results.toList with
      | none => rw [hv] at h; cases h
      | some vs =>
        rw [hv] at h
        cases h
        rw [hE] at hv
        obtain ⟨c, e1, e2⟩ := results_sound hr ht hv
        simp only [UM] at hu
        subst hu
        exact ⟨X, w, .returning, .refl, hr, .refl _ _, rfl, c, e1, e2⟩
    | pan ch =>
      cases h
      obtain ⟨chain, rfl, hc⟩ := hu
      exact ⟨X, w, _, .refl, hr, .refl _ _, chain, rfl, hc⟩
    | run => cases h
    | round => cases h
  | cons d ds ih =>
    intro u X s w df m res s' hr ht hd hu h
    have hm : m ≠ .run := by
      cases u with
      | ret => simp only [UM] at hu; subst hu; simp
      | pan ch => obtain ⟨chain, rfl, _⟩ := hu; simp
      | _ => exact absurd hu (by simp [UM])
    cases hd with
    | mark hv hd' =>
      rename_i r blk dc
      simp only [leave] at h
      split at h
      · rename_i hg
        obtain ⟨a, ha, hl⟩ := hv.map_inv
        cases ha
        obtain ⟨a1, a2, a3⟩ := hr.ent r _ hg
        have hlt : r < X.n := hr.len ▸ Store.lt_of_get hg
        have hloc := hl a1
        obtain ⟨_, hh⟩ := a3 blk 0 hloc
        have hb := hr.locb r blk 0 hlt hloc
        have htn : Turned blk w { w with heap := w.heap.setIfInBounds blk (.deferred none) } := by
          refine ⟨by simp, fun c h1 h2 => ?_, rfl, rfl⟩
          simp only [Array.getElem?_setIfInBounds]
          rw [if_neg (fun e => h2 e.symm)]
        have hk : (X.ver r = X.ver r ∧ (blk, 0) = (blk, 0) ∧ X.rl r = X.rl r ∧ X.tip r = X.tip r ∧ X.ce r = X.ce r) ∨ X.ver r < X.ver r := .inl ⟨rfl, rfl, rfl, rfl, rfl⟩
        have hx' := Ext.turn hr htn hlt a2 hloc (.dfr false) (.inl rfl) hk
        have hr' := Rel.turn hr htn hlt a2 hloc (.dfr false) (.inl rfl) hk (by
          refine ⟨by simp [Ctx.turn]; exact a1, by simp [Ctx.turn]; exact a2, fun b base h => ?_⟩
          simp only [Ctx.turn, if_true, Option.some.injEq, Prod.mk.injEq] at h
          exact ⟨h.2.symm, fun e => by cases e⟩)
        exact .trans (.one (fm_mark hm (hh rfl))) hx' (ih u _ _ _ dc m res s' hr' (ht.mono hr hx') (hd'.mono hr hx') (hu.mono hr hx') h)
      · cases h
    | fn hf h1 h2 hd' =>
      rename_i f f' cap args cc ca dc
      simp only [leave] at h
      obtain ⟨⟨g, gargs⟩, hg, h'⟩ := opt_some h
      simp only at h'
      split at h'
      · rename_i hlt
        obtain ⟨⟨res1, u', s1⟩, hc, h''⟩ := opt_some h'
        rw [hE] at hg
        obtain ⟨gc, sm, t1, t2, t3⟩ := target_sound (P := P) hf h2 h1 hg
        obtain ⟨nx, w1, n1, n2⟩ := hcall g gargs u s res1 u' s1 hc X w gc sm hr t1 t2
        rw [n1] at t3
        rcases n2 with ⟨c, v, X', _, hu', _⟩ | ⟨rfl, n3⟩
        · subst hu'; exact absurd hu (by simp [UM])
        · obtain ⟨f0, hst, n4⟩ := n3 .deferred m hu.mdc (fun hle => absurd hlt (by omega))
          obtain ⟨X', w', m', e1, e2, e3, e4⟩ := n4 (FrM b ctm dc todo m) cs
          have hu2 := e3.um
          have hstep := fm_defer_enter (P := P) (b := b) (tm := ctm) (df := dc) (todo := todo) (cs := cs) hm t3 hst
          cases res1 with
          | ret v =>
            obtain ⟨c, f1, f2⟩ := e4
            obtain ⟨m2, g1, g2⟩ := settle_um (b := b) (tm := ctm) (df := dc) (todo := todo) hu2 rfl
            have f3 : Steps P (lone (FrM b ctm (_ :: dc) todo m) cs w1) (lone (FrM b ctm dc todo m2) cs w') := .head hstep (by
              have : backTo .deferred (setM .deferred (FrM b ctm dc todo m) m') c = FrM b ctm dc todo m2 := g1
              rw [← this]; exact f2)
            exact .trans f3 e1 (ih (settleA u') X' s1 w' dc m2 res s' e2 (ht.mono hr e1) (hd'.mono hr e1) g2 h'')
          | panic ch =>
            obtain ⟨chain, f1, f2⟩ := e4
            obtain ⟨m2, g1, g2⟩ := raise_um (b := b) (tm := ctm) (df := dc) (todo := todo) hu2 f1
            have f3 : Steps P (lone (FrM b ctm (_ :: dc) todo m) cs w1) (lone (FrM b ctm dc todo m2) cs w') := .head hstep (by
              have : (setM .deferred (FrM b ctm dc todo m) m').raise chain = FrM b ctm dc todo m2 := g1
              rw [← this]; exact f2)
            exact .trans f3 e1 (ih (raisedA u' ch) X' s1 w' dc m2 res s' e2 (ht.mono hr e1) (hd'.mono hr e1) g2 h'')
      · cases h'
end
end Go.Am

namespace Go.Am
open Go

section
variable {P : Program} {G : Nat → Option (List AV)} {X : Ctx} {s : Store} {w : World}

/-- The frame of a call. -/
def enterB (f : FuncId) (kind : CallKind) : Frame := { fn := f, tmps := #[], todo := [], defers := [], mode := .run, kind, roundOf := none }

theorem enter_eq {f : FuncId} {fn : Func} {c : Code} (hf : P.funcs[f]? = some fn) (hb : fn.body = some c) (args : Array Value) (kind : CallKind) :
    Frame.enter P f args kind = Fr (enterB f kind) (args ++ Array.replicate (fn.ntmps - args.size) Go.undef) [] [.code c] := by
  simp [Frame.enter, Fr, enterB, hf, hb]

theorem wm_cons (b : Frame) (c : Frame) (r : List Frame) (m : FrameMode) : wm b (c :: r) m = setM b.kind c m :: r := rfl

theorem MdC.mdr {md : AMode} {kind : CallKind} {m : FrameMode} {f : FuncId} (h : MdC X w md kind m) : MdR X w md (enterB f kind) m := by
  cases md with
  | run => exact ⟨h, rfl⟩
  | round => exact absurd h (by simp [MdC])
  | ret => exact ⟨h.1, rfl, h.2⟩
  | pan ch => exact ⟨h.1, rfl, h.2⟩

theorem MdR.mdc {md : AMode} {kind : CallKind} {m : FrameMode} {f : FuncId} (h : MdR X w md (enterB f kind) m) : MdC X w md kind m := by
  cases md with
  | run => exact h.1
  | round => exact absurd rfl h.2
  | ret => exact ⟨h.1, h.2.2⟩
  | pan ch => exact ⟨h.1, h.2.2⟩

theorem MdC.kinds {md : AMode} {kind : CallKind} {m : FrameMode} (h : MdC X w md kind m) : kind = .normal ∨ kind = .deferred := by
  cases md with
  | run => exact .inl h
  | round => exact absurd h (by simp [MdC])
  | ret => exact .inr h.1
  | pan ch => exact .inr h.1

theorem args_put {args : List AV} {cargs : Array Value} (h : VRs X w args cargs.toList) (n : Nat) :
    VRs X w (args ++ List.replicate (n - args.length) .undef) (cargs ++ Array.replicate (n - cargs.size) Go.undef).toList := by
  have hl : args.length = cargs.size := by simpa using h.1
  rw [Array.toList_append, Array.toList_replicate, ← hl]
  refine h.append ⟨by simp, fun i h1 h2 => ?_⟩
  simp only [List.getElem_replicate]
  exact .undef

theorem enter_sound {E : Env} (hE : E.prog = P) (hG : E.glob = G) {call : CallF} (hcall : CallOk P G call) (hdreg : DregOk P G E call) (n : Nat) {f : FuncId} {fn : Func} {c : Code} (hf : P.funcs[f]? = some fn) (hb : fn.body = some c)
    {args : List AV} {md : AMode} {res : ARes} {md' : AMode} {s' : Store} (h : enter E call n fn c args md s = some (res, md', s')) (hr : Rel P G X s w) {cargs : Array Value} (ha : VRs X w args cargs.toList)
    {kind : CallKind} {m : FrameMode} (hm : MdC X w md kind m) (caller : Frame) (cs : List Frame) : CallOut P G X s w res md' s' kind m (Frame.enter P f cargs kind) caller cs := by
  unfold enter at h
  rw [hE, hG] at h
  obtain ⟨⟨x, st⟩, hx, h'⟩ := opt_some h
  clear h
  rw [enter_eq hf hb]
  have hex := exec_sound hE hcall hdreg n (b := enterB f kind) (cs := caller :: cs) (fun _ => by simp) ⟨fn, hf⟩ c none c [] X w _ _ [] m x st (fun _ => rfl) (fun _ h => by cases h) ⟨hr, args_put ha fn.ntmps, .nil, hm.mdr⟩ hx
  obtain ⟨X1, w1, tm1, df1, m1, e1, e2, e3⟩ := hex
  rw [wm_cons] at e3
  -- leaving
  have go : ∀ (u : AMode) (mu : FrameMode) (todo : List Item) (r : ARes × Store), UM X1 w1 u mu → leave E call fn st.tm st.df u st.sg = some r → (res, md', s') = (r.1, st.md, r.2) →
      Steps P (lone (Fr (enterB f kind) (cargs ++ Array.replicate (fn.ntmps - cargs.size) Go.undef) [] [.code c]) (setM (enterB f kind).kind caller m :: cs) w) (lone (FrM (enterB f kind) tm1 df1 todo mu) (setM kind caller m1 :: cs) w1) →
      CallOut P G X s w res md' s' kind m (Fr (enterB f kind) (cargs ++ Array.replicate (fn.ntmps - cargs.size) Go.undef) [] [.code c]) caller cs := by
    rintro u mu todo ⟨res2, s2⟩ hu hl heq hst
    simp only [Prod.mk.injEq] at heq
    obtain ⟨rfl, rfl, rfl⟩ := heq
    obtain ⟨X2, w2, m2, g1, g2, g3, g4⟩ := leave_sound hE hcall (b := enterB f kind) (todo := todo) (cs := setM kind caller m1 :: cs) st.df u X1 st.sg w1 df1 mu _ _ e2.rel e2.tm e2.df hu hl
    have hmd2 : MdC X2 w2 st.md kind m1 := (e2.md.mdc).mono e2.rel g1
    refine ⟨X2, w2, m1, e1.trans g1, g2, hmd2, ?_⟩
    cases res with
    | ret v =>
      obtain ⟨rfl, cv, r1, r2⟩ := g4
      exact ⟨cv, r2, (hst.trans g3).trans (.one (fm_return (b := enterB f kind) hf hmd2.kinds r1))⟩
    | panic ch =>
      obtain ⟨chain, rfl, r2⟩ := g4
      exact ⟨chain, r2, (hst.trans g3).trans (.one (fm_panic (b := enterB f kind) hf))⟩
  cases x with
  | normal =>
    simp only at h'
    cases hl : leave E call fn st.tm st.df .ret st.sg with
    | none => rw [hl] at h'; cases h'
    | some r =>
      rw [hl] at h'
      exact go .ret .returning _ r rfl hl (Option.some.inj h').symm (Steps.trans e3 (.one (fr_end rfl)))
  | ret =>
    simp only at h'
    cases hl : leave E call fn st.tm st.df .ret st.sg with
    | none => rw [hl] at h'; cases h'
    | some r =>
      rw [hl] at h'
      obtain ⟨k0, e3⟩ := e3
      exact go .ret .returning _ r rfl hl (Option.some.inj h').symm (Steps.trans e3 (.one (fr_ret rfl)))
  | panic ch =>
    simp only at h'
    cases hl : leave E call fn st.tm st.df (.pan ch) st.sg with
    | none => rw [hl] at h'; cases h'
    | some r =>
      rw [hl] at h'
      obtain ⟨k0, chain, hc, e3⟩ := e3
      exact go (.pan ch) (.panicking chain) _ r ⟨chain, rfl, hc⟩ hl (Option.some.inj h').symm e3
  | exit id => cases h'
  | goto l => cases h'

theorem VRs.fold : ∀ (ps : List Nat) (args : List AV) (cargs : List Value) (l : List AV) (tm : Array Value), VRs X w args cargs → VRs X w l tm.toList →
    VRs X w ((ps.zip args).foldl (fun tm p => tm.set p.1 p.2) l) ((ps.zip cargs).foldl (fun tm p => tm.setIfInBounds p.1 p.2) tm).toList := by
  intro ps
  induction ps with
  | nil => intro args cargs l tm _ h; exact h
  | cons p ps ih =>
    intro args cargs l tm ha h
    cases args with
    | nil =>
      have : cargs = [] := List.length_eq_zero_iff.1 ha.1.symm
      subst this; exact h
    | cons a args =>
      cases cargs with
      | nil => exact absurd ha.1 (by simp)
      | cons c cargs =>
        simp only [List.zip_cons_cons, List.foldl_cons]
        refine ih args cargs _ _ ⟨by simpa using ha.1, fun i h1 h2 => ha.2 (i + 1) (by simpa using h1) (by simpa using h2)⟩ ?_
        exact VRs.putD h (some p) (ha.2 0 (by simp) (by simp))

/-- A loop's block is another loop. -/
theorem turn_loop (hr : Rel P G X s w) {l bl : Nat} {ls : LS} {jump : Option AC} {tm : List AV} {ps : List Nat} {as bd : AC} (hg : s.get l = some (.loop ls jump tm ps as bd)) (hl : X.loc l = some (bl, 0)) {L' : Loop} {ls' : LS} {jump' : Option AC}
    (hL : ∀ L : Loop, w.heap[bl]? = some (.loop L) → L'.tmps = L.tmps ∧ L'.params = L.params ∧ L'.assign = L.assign ∧ L'.body = L.body ∧ L'.fn = L.fn ∧
      (match ls' with | .ready => L'.state = .ready | .busy => L'.state = .busy | .done => L'.state = .done | .exhausted => L'.state = .exhausted) ∧
      ((L.pending.map (comp P G) = jump ∧ (∀ c, L.pending = some c → c = .ret ∨ (∃ id, c = .exit id) ∨ ∃ l, c = .goto l)) → L'.pending.map (comp P G) = jump' ∧ (∀ c, L'.pending = some c → c = .ret ∨ (∃ id, c = .exit id) ∨ ∃ l, c = .goto l))) :
    ∃ X', Ext X s w X' (s.put l (.loop ls' jump' tm ps as bd)) { w with heap := w.heap.setIfInBounds bl (.loop L') } ∧ Rel P G X' (s.put l (.loop ls' jump' tm ps as bd)) { w with heap := w.heap.setIfInBounds bl (.loop L') } ∧ X'.loc l = some (bl, 0) := by
  have hlt : l < X.n := hr.len ▸ Store.lt_of_get hg
  obtain ⟨a1, a2, a3⟩ := hr.ent l _ hg
  obtain ⟨_, L, hh, hst, hp, hpk, htm, hps, has, hbd, hfn⟩ := a3 bl 0 hl
  obtain ⟨b1, b2, b3, b4, b5, b6, b7⟩ := hL L hh
  have hb := hr.locb l bl 0 hlt hl
  have ht : Turned bl w { w with heap := w.heap.setIfInBounds bl (.loop L') } := by
    refine ⟨by simp, fun c h1 h2 => ?_, rfl, rfl⟩
    simp only [Array.getElem?_setIfInBounds]
    rw [if_neg (fun e => h2 e.symm)]
  have hk : (X.ver l = X.ver l ∧ (bl, 0) = (bl, 0) ∧ X.rl l = X.rl l ∧ X.tip l = X.tip l ∧ X.ce l = X.ce l) ∨ X.ver l < X.ver l := .inl ⟨rfl, rfl, rfl, rfl, rfl⟩
  have hx' := Ext.turn hr ht hlt a2 hl (.loop ls' jump' tm ps as bd) (.inl rfl) hk
  refine ⟨_, hx', Rel.turn hr ht hlt a2 hl (.loop ls' jump' tm ps as bd) (.inl rfl) hk ?_, by simp [Ctx.turn]⟩
  refine ⟨by simp [Ctx.turn]; exact a1, by simp [Ctx.turn]; exact a2, fun b base h => ?_⟩
  simp only [Ctx.turn, if_true, Option.some.injEq, Prod.mk.injEq] at h
  obtain ⟨rfl, rfl⟩ := h
  obtain ⟨c1, c2⟩ := b7 ⟨hp, hpk⟩
  refine ⟨rfl, L', by simp [hb], b6, c1, c2, ?_, by rw [b2]; exact hps, by rw [b3]; exact has, by rw [b4]; exact hbd, by rw [b5]; exact hfn⟩
  rw [b1]; exact htm.mono hr hx'

theorem jumpOf_code {x : AX} {j : Option AC} (h : jumpOf x = some j) {P : Program} {m0 : Machine} {b : Frame} {cs : List Frame} {tm : Array Value} {df : List Deferred} {m : FrameMode} (hre : Reach P m0 b cs [] X w tm df m x) :
    ∃ (jc : Option Code) (todo : List Item), jc.map (comp P G) = j ∧ (∀ c, jc = some c → c = .ret ∨ (∃ id, c = .exit id) ∨ ∃ l, c = .goto l) ∧ jc.isNone = j.isNone ∧ Steps P m0 (lone (Fr b tm df todo) (wm b cs m) w) ∧
      ((todo = [] ∧ jc = none) ∨ (∃ k0, todo = .code .ret :: k0 ∧ jc = some .ret) ∨ (∃ id k0, todo = .code (.exit id) :: k0 ∧ jc = some (.exit id) ∧ exitTo id k0 = none) ∨ (∃ g k0, todo = .code (.goto g) :: k0 ∧ jc = some (.goto g) ∧ gotoIn g k0 = none)) := by
  cases x with
  | normal => cases h; exact ⟨none, [], rfl, (fun c h => by cases h), rfl, hre, .inl ⟨rfl, rfl⟩⟩
  | ret => cases h; obtain ⟨k0, h1⟩ := hre; exact ⟨some .ret, _, rfl, (fun c h => by cases h; exact .inl rfl), rfl, h1, .inr (.inl ⟨k0, rfl, rfl⟩)⟩
  | exit id => cases h; obtain ⟨k0, h1, h2⟩ := hre; exact ⟨some (.exit id), _, rfl, (fun c h => by cases h; exact .inr (.inl ⟨id, rfl⟩)), rfl, h2, .inr (.inr (.inl ⟨id, k0, rfl, rfl, h1⟩))⟩
  | goto g => cases h; obtain ⟨k0, h1, h2⟩ := hre; exact ⟨some (.goto g), _, rfl, (fun c h => by cases h; exact .inr (.inr ⟨g, rfl⟩)), rfl, h2, .inr (.inr (.inr ⟨g, k0, rfl, rfl, h1⟩))⟩
  | panic ch => cases h

theorem round_sound {E : Env} (hE : E.prog = P) {call : CallF} (hcall : CallOk P G call) (hdreg : DregOk P G E call) (n : Nat) {l : Nat} {args : List AV} {res : ARes} {md' : AMode} {s' : Store}
    (h : round E call n l args s = some (res, md', s')) (hr : Rel P G X s w) {cargs : Array Value} (ha : VRs X w args cargs.toList) {b : Nat} (hl : X.ver l = 0 → X.loc l = some (b, 0)) :
    ∃ nx, (Instr.yield b cargs).run P w = .ok nx w ∧ ∀ (m : FrameMode), ∃ f0, Starts P .normal nx f0 ∧ ∀ caller cs, CallOut P G X s w res md' s' .normal m f0 caller cs := by
  unfold round at h
  split at h
  · rename_i ls0 j0 tm ps as bd hg
    split at h
    · cases h
    rename_i hlen
    obtain ⟨⟨x1, st1⟩, hx1, h'⟩ := opt_some h
    clear h
    obtain ⟨a1, a2, a3⟩ := hr.ent l _ hg
    have hloc := hl a1
    have hlt : l < X.n := hr.len ▸ Store.lt_of_get hg
    obtain ⟨_, L, hh, hst, hp, hpk, htm, hps, has, hbd, fn, hfn⟩ := a3 b 0 hloc
    have hsz : cargs.size = L.params.size := by
      have h1 : args.length = cargs.size := by simpa using ha.1
      have h2 : L.params.size = ps.length := by rw [← hps]; simp
      omega
    refine ⟨_, run_yield hh hsz, fun m => ⟨_, rfl, fun caller cs => ?_⟩⟩
    rw [round_eq]
    have htm0 : VRs X w ((ps.zip args).foldl (fun tm p => tm.set p.1 p.2) tm) (loopTmps L cargs).toList := by
      have := VRs.fold ps args cargs.toList tm L.tmps ha htm
      have he : loopTmps L cargs = (ps.zip cargs.toList).foldl (fun tm p => tm.setIfInBounds p.1 p.2) L.tmps := by
        unfold loopTmps
        rw [← Array.foldl_toList, Array.toList_zip, hps]
      rw [he]; exact this
    subst has
    subst hbd
    have hex := exec_sound hE hcall hdreg n (b := roundB L.fn b) (cs := caller :: cs) (fun h => by cases h) ⟨fn, hfn⟩ L.assign none L.assign [.beginRound, .code L.body] X w _ _ [] m x1 st1 (fun _ => rfl) (fun _ h => by cases h)
      ⟨hr, htm0, .nil, (show MdR X w .round (roundB L.fn b) m from ⟨rfl, by simp [roundB]⟩)⟩ hx1
    cases x1 with
    | normal =>
      simp only at h'
      split at h'
      · rename_i jump tm' ps' as' bd' hg1
        obtain ⟨⟨x2, st2⟩, hx2, h''⟩ := opt_some h'
        clear h'
        obtain ⟨X1, w1, tm1, df1, m1, e1, e2, e3⟩ := hex
        simp only [Reach, wm_cons] at e3
        obtain ⟨b1, b2, b3⟩ := e2.rel.ent l _ hg1
        have hloc1 : X1.loc l = some (b, 0) := by
          rcases e1.keep l hlt with ⟨_, k2, _⟩ | k1
          · rw [k2, hloc]
          · omega
        obtain ⟨_, L1, hh1, hst1, _⟩ := b3 b 0 hloc1
        obtain ⟨X2, f1, f2, f3⟩ := turn_loop (L' := { L1 with state := .busy }) (ls' := .busy) (jump' := jump) e2.rel hg1 hloc1 (fun L hL => by
          rw [hh1] at hL; cases hL; exact ⟨rfl, rfl, rfl, rfl, rfl, rfl, fun h => h⟩)
        have hstep := fr_beginRound (P := P) (b := roundB L.fn b) (tm := tm1) (df := df1) (k := [.code L.body]) (cs := setM (roundB L.fn b).kind caller m1 :: cs) rfl hh1 hst1
        have hex2 := exec_sound hE hcall hdreg n (b := roundB L.fn b) (cs := caller :: cs) (fun h => by cases h) ⟨fn, hfn⟩ L.body none L.body [] X2 _ { st1 with sg := st1.sg.put l (.loop .busy jump tm' ps' as' bd') } tm1 df1 m1 x2 st2 (fun _ => rfl) (fun _ h => by cases h)
          ⟨f2, e2.tm.mono e2.rel f1, e2.df.mono e2.rel f1, e2.md.mono e2.rel f1⟩ hx2
        obtain ⟨X3, w3, tm3, df3, m3, g1, g2, g3⟩ := hex2
        have hxx := (e1.trans f1).trans g1
        have hs1 : Steps P (lone (Fr (roundB L.fn b) (loopTmps L cargs) [] [.code L.assign, .beginRound, .code L.body]) (setM .normal caller m :: cs) w) (lone (Fr (roundB L.fn b) tm1 df1 [.code L.body]) (wm (roundB L.fn b) (caller :: cs) m1) _) :=
          Steps.trans e3 (.one hstep)
        have hpan : ∀ ch, x2 = .panic ch → st2.df.isEmpty = true → (ARes.panic ch, AMode.run, st2.sg) = (res, md', s') → CallOut P G X s w res md' s' .normal m (Fr (roundB L.fn b) (loopTmps L cargs) [] [.code L.assign, .beginRound, .code L.body]) caller cs := by
          rintro ch rfl hemp heq
          cases heq
          have hd3 : df3 = [] := by
            have := g2.df
            rw [List.isEmpty_iff.1 hemp] at this
            cases this; rfl
          subst hd3
          obtain ⟨k0, chain, r1, r2⟩ := g3
          exact ⟨X3, w3, m3, hxx, g2.rel, rfl, chain, r1, hs1.trans (r2.trans (.one (fm_panic (b := roundB L.fn b) hfn)))⟩
        by_cases hp2 : ∃ ch, x2 = .panic ch
        · obtain ⟨ch, rfl⟩ := hp2
          simp only at h''
          split at h''
          · rename_i hemp
            exact hpan ch rfl hemp (Option.some.inj h'')
          · cases h''
        · have h3 : (if st2.df.isEmpty = false then none else opt (jumpOf x2) fun j =>
              match Store.get st2.sg l with
              | some (.loop _ _ tm' ps' as' bd') => some (ARes.ret (.bool j.isNone), AMode.run, st2.sg.put l (.loop (if j.isNone then .ready else .done) j tm' ps' as' bd'))
              | _ => none) = some (res, md', s') := by
            cases x2 with
            | panic ch => exact absurd ⟨ch, rfl⟩ hp2
            | _ => exact h''
          split at h3
          · cases h3
          rename_i hemp
          obtain ⟨j, hj, h4⟩ := opt_some h3
          clear h3 h''
          split at h4
          · rename_i ls4 j4 tm4 ps4 as4 bd4 hg3
            cases h4
            have hd3 : df3 = [] := by
              have := g2.df
              have hnil : st2.df = [] := by simpa using hemp
              rw [hnil] at this
              cases this; rfl
            subst hd3
            obtain ⟨d1, d2, d3⟩ := g2.rel.ent l _ hg3
            have hlt2 : l < X2.n := Nat.lt_of_lt_of_le hlt (e1.trans f1).n
            have hloc3 : X3.loc l = some (b, 0) := by
              rcases g1.keep l hlt2 with ⟨_, k2, _⟩ | k1
              · rw [k2, f3]
              · omega
            obtain ⟨_, L3, hh3, _⟩ := d3 b 0 hloc3
            obtain ⟨jc, todo, j1, j2, j3, j4, j5⟩ := jumpOf_code (G := G) hj g3
            rw [wm_cons] at j4
            obtain ⟨X4, q1, q2, q3⟩ := turn_loop (L' := { L3 with state := if jc.isNone then .ready else .done, pending := jc }) (ls' := if j.isNone then .ready else .done) (jump' := j) g2.rel hg3 hloc3 (fun L hL => by
              rw [hh3] at hL; cases hL
              refine ⟨rfl, rfl, rfl, rfl, rfl, ?_, fun _ => ⟨j1, j2⟩⟩
              rw [← j3]
              cases jc <;> rfl)
            have hstep3 := fr_leaveRound (P := P) (b := roundB L.fn b) (tm := tm3) (df := []) (cs := cs) (c := setM (roundB L.fn b).kind caller m3) rfl rfl hh3 j5
            refine ⟨X4, _, m3, hxx.trans q1, q2, rfl, .bool jc.isNone, by rw [j3]; exact .bool _, hs1.trans (j4.trans (.one hstep3))⟩
          · cases h4
      · cases h'
    | _ => cases h'
  · cases h

/-- What is taken of the functions that are not run. -/
def OvrOk (P : Program) (G : Nat → Option (List AV)) (E : Env) : Prop :=
  ∀ f g, E.ovr f = some g → f < yieldBase → ∀ args s v s', g args s = some (v, s') → ∀ X w cargs, Rel P G X s w → VRs X w args cargs.toList →
    ∃ nx w1, (callFunc f cargs).run P w = .ok nx w1 ∧
      ((∃ c X', nx = .value c ∧ Ext X s w X' s' w1 ∧ Rel P G X' s' w1 ∧ VR X' w1 v c) ∨
       (w1 = w ∧ ∀ m, ∃ f0, Starts P .normal nx f0 ∧ ∀ caller cs, CallOut P G X s w (.ret v) .run s' .normal m f0 caller cs))

theorem run_callFunc {f : FuncId} {fn : Func} {c : Code} (hng : fn.name ≠ "runtime.NumGoroutine") (hf : P.funcs[f]? = some fn) (hb : fn.body = some c) (args : Array Value) (w : World) : (callFunc f args).run P w = .ok (.enter f args) w := by
  simp [callFunc, hf, hb, hng]

theorem callA_sound {E : Env} (hE : E.prog = P) (hG : E.glob = G) (hng : ∀ (f : Nat) fn, P.funcs[f]? = some fn → fn.body.isSome → fn.name ≠ "runtime.NumGoroutine") (hovr : OvrOk P G E) (hdreg : ∀ call, CallOk P G call → DregOk P G E call) :
    ∀ n, CallOk P G (callA E n) := by
  intro n
  induction n with
  | zero => intro f args md s res md' s' h; cases h
  | succ n ih =>
    intro f args md s res md' s' h X w cargs st hr ha hst
    unfold callA at h
    cases hst with
    | yield l b hf hl hloc =>
      subst hf
      rw [if_pos (Nat.le_add_right _ _), Nat.add_sub_cancel_left] at h
      obtain ⟨nx, h1, h2⟩ := round_sound hE ih (hdreg _ ih) n h hr ha hloc
      refine ⟨nx, w, h1, .inr ⟨rfl, fun kind m hm hk => ?_⟩⟩
      have := hk (Nat.le_add_right _ _)
      subst this
      exact h2 m
    | func hlt =>
      rw [if_neg (by omega)] at h
      split at h
      · rename_i g hg
        split at h
        · cases hgr : g args s with
          | none => rw [hgr] at h; cases h
          | some r =>
            obtain ⟨v, s2⟩ := r
            rw [hgr] at h
            cases h
            obtain ⟨nx, w1, h1, h2⟩ := hovr f g hg hlt args s v _ hgr X w cargs hr ha
            refine ⟨nx, w1, h1, ?_⟩
            rcases h2 with ⟨c, X', rfl, e1, e2, e3⟩ | ⟨rfl, h2⟩
            · exact .inl ⟨c, v, X', rfl, rfl, rfl, rfl, e1, e2, e3⟩
            · refine .inr ⟨rfl, fun kind m hm _ => ?_⟩
              have : kind = .normal := hm
              subst this
              exact h2 m
        · cases h
      · rename_i hg
        obtain ⟨fn, hfn, h'⟩ := opt_some h
        obtain ⟨c, hc, h''⟩ := opt_some h'
        rw [hE] at hfn
        refine ⟨.enter f cargs, w, run_callFunc (hng f fn hfn (by rw [hc]; rfl)) hfn hc cargs w, .inr ⟨rfl, fun kind m hm _ => ⟨_, rfl, fun caller cs => ?_⟩⟩⟩
        exact enter_sound hE hG ih (hdreg _ ih) n hfn hc h'' hr ha hm caller cs
end
end Go.Am
