/- The evaluator for the kernel is the one above; facts of functions by the kernel. -/
import Derived.Test.YtccedlpflmmjjaaGreatDoorKe1
import Derived.Test.YtccedlpflmmjjaaGreatDoorPu1
namespace Go.Am.K
open Go Go.Am

theorem app_eq (a b : List AV) : app a b = a ++ b := by
  induction a with
  | nil => rfl
  | cons x a ih => show x :: app a b = _; rw [ih]; rfl
theorem lenK_eq (a : List AV) : lenK a = a.length := by
  induction a with
  | nil => rfl
  | cons x a ih => show Nat.succ (lenK a) = _; rw [ih]; rfl
theorem eqB_eq (a b : Bool) : eqB a b = (a == b) := by cases a <;> cases b <;> rfl

def CKS (ck : CallK) (ca : CallF) : Prop := ∀ f args md n l c, ck f args md n l = some c → LOk n l → match c with
  | .ret v md' n' l' => ca f args md (toS n l) = some (.ret v, md', toS n' l') ∧ LOk n' l'
  | .pan ch md' n' l' => ca f args md (toS n l) = some (.panic ch, md', toS n' l') ∧ LOk n' l'

def KOk (r : KR) (o : Option (LX × St)) : Prop := match r with
  | .mk x vals n l df md => o = some (x, { tm := vals, df, md, sg := toS n l }) ∧ LOk n l

section
variable {E : Env} {ck : CallK} {call : CallF} {k : Nat}

def DS (E : Env) (call : CallF) (k : Nat) (d : D) (lc : LC) : Prop := ∀ env n l df md r, d env n l df md = some r → LOk n l → KOk r (den E call k lc { tm := env, df, md, sg := toS n l })

/-- An operation that is no call. -/
theorem contW_val {o : AOp} (ho : ctlOf o = .no) {env : List AV} {n : Nat} {l : Log} (hl : LOk n l) {df : List ADef} {md : AMode} {v : AV} {up : Up} (h : opW o (lget l) n env = some (v, up)) :
    valOp E call o { tm := env, df, md, sg := toS n l } = some (.val v { tm := env, df, md, sg := up.apply (toS n l) }) := by
  have h' : opW o (toS n l).get (toS n l).length env = some (v, up) := by rw [get_eq hl, length_toS]; exact h
  unfold valOp
  cases hc : o.cls with
  | q =>
    rw [opW_q _ hc] at h'
    simp only
    cases hq : qop env (toS n l) o with
    | none => rw [hq] at h'; cases h'
    | some w => rw [hq] at h'; cases h'; rfl
  | a =>
    rw [opW_a _ hc] at h'
    simp only
    cases hq : aop (toS n l) env o with
    | none => rw [hq] at h'; cases h'
    | some w => rw [hq] at h'; cases h'; rfl
  | e =>
    have he := opW_e _ hc env h'
    simp only
    cases o <;> first | (cases ho; done) | (simp only; rw [he]; rfl)

theorem stepK_sound (hck : CKS ck call) {o : AOp} {lk : LC} {ih : D} (hih : DS E call k ih lk) {env : List AV} {n : Nat} {l : Log} (hl : LOk n l) {df : List ADef} {md : AMode} {r : KR} (h : stepK E.prog ck o env n l df md ih = some r) :
    KOk r (opt (valOp E call o { tm := env, df, md, sg := toS n l }) fun
      | .val v st' => den E call k lk { st' with tm := v :: env }
      | .leave ch st' => some (.panic ch, { st' with tm := [] })) := by
  -- behind a call
  have after : ∀ (c : Option CR) (fa : Option (ARes × AMode × Store)), (∀ c', c = some c' → match c' with
        | .ret v md' n' l' => fa = some (.ret v, md', toS n' l') ∧ LOk n' l'
        | .pan ch md' n' l' => fa = some (.panic ch, md', toS n' l') ∧ LOk n' l') → afterK c env df md ih = some r →
      KOk r (opt (afterV { tm := env, df, md, sg := toS n l } fa) fun
        | .val v st' => den E call k lk { st' with tm := v :: env }
        | .leave ch st' => some (.panic ch, { st' with tm := [] })) := by
    intro c fa hc hr
    cases c with
    | none => cases hr
    | some c =>
      have := hc c rfl
      cases c with
      | ret v md' n' l' =>
        obtain ⟨h1, h2⟩ := this
        subst h1
        exact hih (v :: env) n' l' df md r hr h2
      | pan ch md' n' l' =>
        obtain ⟨h1, h2⟩ := this
        subst h1
        cases hr
        exact ⟨rfl, h2⟩
  unfold stepK at h
  split at h
  · rename_i hc
    simp only [contW] at h
    split at h
    · rename_i p hp
      obtain ⟨v, up⟩ := p
      rw [contW_val hc hl hp]
      simp only [opt]
      have hu := up_ok hl hp
      cases up with
      | no => exact hih (v :: env) n l df md r h hl
      | put r0 e =>
        obtain ⟨a, b⟩ := hu
        rw [a]
        exact hih (v :: env) n _ df md r h b
      | push e =>
        obtain ⟨a, b⟩ := hu
        rw [a]
        exact hih (v :: env) (n + 1) _ df md r h b
    · cases h
  · rename_i f xs hc
    have ho : o = .callv f xs := by cases o <;> cases hc; rfl
    subst ho
    simp only [kCallv, evk_eq, evs_eq, app_eq] at h
    simp only [valOp, AOp.cls]
    cases hf : ev env f <;> rw [hf] at h <;> try (cases h; done)
    rename_i fn first cap
    simp only at h ⊢
    cases ht : target E.prog fn (first ++ xs.map (ev env)) cap with
    | none => rw [ht] at h; cases h
    | some g =>
      rw [ht] at h
      simp only [opt_match] at h ⊢
      exact after _ _ (fun c' hc' => hck _ _ _ _ _ c' hc' hl) h
  · rename_i f name xs hc
    have ho : o = .calli f name xs := by cases o <;> cases hc; rfl
    subst ho
    simp only [kCalli, evk_eq, evs_eq] at h
    simp only [valOp, AOp.cls]
    cases hf : ev env f <;> rw [hf] at h <;> try (cases h; done)
    rename_i t v
    simp only at h ⊢
    cases ht : recv E.prog t name v with
    | none => rw [ht] at h; cases h
    | some g =>
      rw [ht] at h
      simp only [opt_match] at h ⊢
      exact after _ _ (fun c' hc' => hck _ _ _ _ _ c' hc' hl) h
  · rename_i f xs hc
    have ho : o = .defer f xs := by cases o <;> cases hc; rfl
    subst ho
    simp only [kDefer, evk_eq, evs_eq, app_eq] at h
    simp only [valOp, AOp.cls]
    cases md with
    | round => cases h
    | _ =>
      simp only at h ⊢
      cases hf : ev env f <;> rw [hf] at h <;> try (cases h; done)
      exact hih _ n l _ _ r h hl
  · rename_i hc
    have ho : o = .recover := by cases o <;> cases hc; rfl
    subst ho
    simp only [kRecover] at h
    simp only [valOp, AOp.cls]
    cases md with
    | round => cases h
    | pan ch =>
      rcases ch with _ | ⟨⟨v, _ | _⟩, older⟩
      · exact hih _ n l df _ r h hl
      · exact hih _ n l df _ r h hl
      · exact hih _ n l df _ r h hl
    | run => exact hih _ n l df _ r h hl
    | ret => exact hih _ n l df _ r h hl
  · rename_i x hc
    have ho : o = .panic x := by cases o <;> cases hc; rfl
    subst ho
    simp only [kPanic, evk_eq] at h
    simp only [valOp, AOp.cls]
    cases hf : ev env x <;> rw [hf] at h <;> try (cases h; done)
    cases h
    exact ⟨rfl, hl⟩

theorem qK_eq {g : Option (Opd × Bool)} {o : AOp} {env : List AV} {n : Nat} {l : Log} (hl : LOk n l) {v : AV} (h : qK g o env n l = some v) : lqval env (toS n l) g o = some v := by
  unfold qK at h
  unfold lqval
  split at h
  · cases h
  · rename_i w hw
    rw [hw]
    simp only [opt]
    cases w with
    | false => exact h
    | true =>
      simp only [if_true] at h ⊢
      split at h
      · rename_i hc
        split at h
        · rename_i p hp
          have h' : opW o (toS n l).get (toS n l).length env = some p := by rw [get_eq hl, length_toS]; exact hp
          rw [opW_q _ hc] at h'
          cases hq : qop env (toS n l) o with
          | none => rw [hq] at h'; cases h'
          | some w => rw [hq] at h'; cases h'; exact h
        · cases h
      · cases h

theorem denK_sound (hck : CKS ck call) (heq : ∀ a b, avb 64 a b = true → E.eqv a b = true) : ∀ lc : LC, DS E call k (denK E.prog ck k lc) lc := by
  intro lc
  induction lc with
  | fin x vs =>
    intro env n l df md r h hl
    cases h
    refine ⟨?_, hl⟩
    simp only [den, evs_eq]
  | op g o lk ih =>
    intro env n l df md r h hl
    have h : wantK g env (denK E.prog ck k lk (.undef :: env) n l df md) (stepK E.prog ck o env n l df md (denK E.prog ck k lk)) = some r := h
    simp only [den, lop]
    cases g with
    | none => exact stepK_sound hck ih hl h
    | some p =>
      obtain ⟨x, b⟩ := p
      simp only [wantK, evk_eq] at h
      simp only [wantedG]
      cases hx : ev env x <;> rw [hx] at h <;> try (cases h; done)
      · rename_i c
        simp only [eqB_eq] at h
        simp only [opt]
        cases hcb : (c == b) with
        | true =>
          rw [hcb] at h
          simp only [cond_true] at h
          simp only [Bool.true_eq_false, if_false]
          exact stepK_sound hck ih hl h
        | false =>
          rw [hcb] at h
          simp only [cond_false] at h
          simp only [if_true]
          exact ih _ n l df md r h hl
      · simp only at h
        simp only [opt, if_true]
        exact ih _ n l df md r h hl
  | chk g o x lk ih =>
    intro env n l df md r h hl
    have h : mChk g o x (denK E.prog ck k lk) env n l df md = some r := h
    simp only [mChk, evk_eq] at h
    simp only [den]
    split at h
    · cases h
    · rename_i v hv
      rw [qK_eq hl hv]
      simp only [opt]
      cases he : avb 64 v (ev env x) with
      | false => rw [he] at h; cases h
      | true =>
        rw [he] at h
        rw [if_pos (heq _ _ he)]
        exact ih _ n l df md r h hl
  | cond c a b iha ihb =>
    intro env n l df md r h hl
    have h : mCond c (denK E.prog ck k a) (denK E.prog ck k b) env n l df md = some r := h
    simp only [mCond, evk_eq] at h
    simp only [den]
    cases hx : ev env c <;> rw [hx] at h <;> try (cases h; done)
    rename_i t
    cases t with
    | true => exact iha _ n l df md r h hl
    | false => exact ihb _ n l df md r h hl
  | blk id s a lk iha ihk =>
    intro env n l df md r h hl
    have h : mBlk id (denK E.prog ck k a) (denK E.prog ck k lk) env n l df md = some r := h
    simp only [mBlk] at h
    simp only [den]
    split at h
    · rename_i r1 hr1
      obtain ⟨x, vals, n1, l1, df1, md1⟩ := r1
      obtain ⟨e1, e2⟩ := iha env n l df md _ hr1 hl
      rw [e1]
      simp only [opt]
      cases x with
      | done f =>
        cases f with
        | normal =>
          simp only [app_eq] at h
          exact ihk _ n1 l1 df1 md1 r h e2
        | exit i =>
          cases id with
          | none => cases h; exact ⟨by simp, e2⟩
          | some j =>
            simp only [natBeq, app_eq] at h
            by_cases hj : j = i
            · subst hj
              simp only [decide_true, cond_true] at h
              simp only [if_true]
              exact ihk _ n1 l1 df1 md1 r h e2
            · simp only [hj, decide_false, cond_false] at h
              cases h
              exact ⟨by simp [hj], e2⟩
        | ret => cases h; exact ⟨rfl, e2⟩
      | panic ch => cases h; exact ⟨rfl, e2⟩
    · cases h
  | loop s vs a ih =>
    intro env n l df md r h hl
    have h : mIter (denK E.prog ck k a) env k (evs env vs) n l df md = some r := h
    simp only [den]
    rw [evs_eq] at h
    have key : ∀ (j : Nat) (vals : List AV) (n : Nat) (l : Log) (df : List ADef) (md : AMode) (r : KR) (st0 : List AV), mIter (denK E.prog ck k a) env j vals n l df md = some r → LOk n l →
        KOk r (iterL (fun vals st' => den E call k a { st' with tm := vals ++ env }) j vals { tm := st0, df, md, sg := toS n l }) := by
      intro j
      induction j with
      | zero => intro vals n l df md r st0 h; cases h
      | succ j ihj =>
        intro vals n l df md r st0 h hl
        have h : (match denK E.prog ck k a (app vals env) n l df md with
          | some r => (match r with
            | .mk x vals n l df md => (match x with
              | .done f => (match f with
                | .normal => mIter (denK E.prog ck k a) env j vals n l df md
                | .exit i => some (.mk (.done (.exit i)) vals n l df md)
                | .ret => some (.mk (.done .ret) vals n l df md))
              | .panic ch => some (.mk (.panic ch) vals n l df md)))
          | none => none) = some r := h
        rw [app_eq] at h
        simp only [iterL]
        split at h
        · rename_i r1 hr1
          obtain ⟨x, vals1, n1, l1, df1, md1⟩ := r1
          obtain ⟨e1, e2⟩ := ih _ n l df md _ hr1 hl
          rw [e1]
          simp only [opt]
          cases x with
          | done f =>
            cases f with
            | normal => exact ihj vals1 n1 l1 df1 md1 r vals1 h e2
            | exit i => cases h; exact ⟨rfl, e2⟩
            | ret => cases h; exact ⟨rfl, e2⟩
          | panic ch => cases h; exact ⟨rfl, e2⟩
        · cases h
    exact key k _ n l df md r env h hl
  | tryp vs a ih =>
    intro env n l df md r h hl
    have h : mTryp vs (denK E.prog ck k a) env n l df md = some r := h
    simp only [mTryp, evs_eq] at h
    simp only [den]
    split at h
    · rename_i r1 hr1
      obtain ⟨x, vals, n1, l1, df1, md1⟩ := r1
      obtain ⟨e1, e2⟩ := ih env n l df md _ hr1 hl
      rw [e1]
      simp only [opt]
      cases x with
      | done f => cases h; exact ⟨rfl, e2⟩
      | panic ch => cases h; exact ⟨rfl, e2⟩
    · cases h
  | bad => intro env n l df md r h; cases h
end
end Go.Am.K

namespace Go.Am.K
open Go Go.Am
inductive Tr (α : Type) where | nil | node (k : Nat) (v : α) (a b : Tr α)
noncomputable def Tr.get {α : Type} (t : Tr α) (f : Nat) : Option α := Tr.rec (motive := fun _ => Option α) none (fun k v _ _ iha ihb => cond (Nat.beq f k) (some v) (cond (Nat.ble f k) iha ihb)) t
def Tr.All {α : Type} (p : Nat → α → Prop) : Tr α → Prop
  | .nil => True
  | .node k v a b => p k v ∧ Tr.All p a ∧ Tr.All p b
theorem Tr.get_all {α : Type} {p : Nat → α → Prop} {f : Nat} {v : α} : ∀ {t : Tr α}, t.All p → t.get f = some v → p f v := by
  intro t
  induction t with
  | nil => intro _ h; cases h
  | node k w a b iha ihb =>
    intro h hg
    obtain ⟨h1, h2, h3⟩ := h
    simp only [Tr.get] at hg
    cases hk : Nat.beq f k with
    | true =>
      rw [hk] at hg
      cases hg
      rw [Nat.eq_of_beq_eq_true hk]; exact h1
    | false =>
      rw [hk] at hg
      cases hl : Nat.ble f k with
      | true => rw [hl] at hg; exact iha h2 hg
      | false => rw [hl] at hg; exact ihb h3 hg
/-- What is known of a function: arguments and results. -/
abbrev Known := List (List AV × AV × List Ent)
noncomputable def findA (l : Known) (a : List AV) : Option (AV × List Ent) := List.rec (motive := fun _ => Option (AV × List Ent)) none (fun p _ ih => cond (allB (avb 64) p.1 a) (some p.2) ih) l
noncomputable def known (t : Tr Known) (f : Nat) (a : List AV) : Option (AV × List Ent) := match t.get f with | some l => findA l a | none => none
def nd {α : Type} (k : Nat) (v : α) (a b : Tr α) : Tr α := .node k v a b
def lf1 {α : Type} (k : Nat) (v : α) : Tr α := .node k v .nil .nil
end Go.Am.K

namespace Go.Am.K
open Go Go.Am

/-! ## equality of values -/
theorem allB_sound {f : AV → AV → Bool} (hf : ∀ a b, f a b = true → a = b) : ∀ a b : List AV, allB f a b = true → a = b := by
  intro a
  induction a with
  | nil => intro b h; cases b with | nil => rfl | cons _ _ => cases h
  | cons x a ih =>
    intro b h
    cases b with
    | nil => cases h
    | cons y b =>
      have h : cond (f x y) (allB f a b) false = true := h
      cases hxy : f x y with
      | false => rw [hxy] at h; cases h
      | true => rw [hxy] at h; rw [hf x y hxy, ih b h]
theorem allR_sound {f : AV → AV → Bool} (hf : ∀ a b, f a b = true → a = b) : ∀ a b : List (List AV), allR f a b = true → a = b := by
  intro a
  induction a with
  | nil => intro b h; cases b with | nil => rfl | cons _ _ => cases h
  | cons x a ih =>
    intro b h
    cases b with
    | nil => cases h
    | cons y b =>
      have h : cond (allB f x y) (allR f a b) false = true := h
      cases hxy : allB f x y with
      | false => rw [hxy] at h; cases h
      | true => rw [hxy] at h; rw [allB_sound hf x y hxy, ih b h]
theorem fnEq_sound {f g : Fn} (h : fnEq f g = true) : f = g := by
  cases f <;> cases g <;> simp [fnEq, natBeq] at h
  · rw [h]
  · rw [h]
theorem skN_inj {a b : SK} (h : skN a = skN b) : a = b := by cases a <;> cases b <;> first | rfl | cases h

theorem avb_sound : ∀ (n : Nat) (a b : AV), avb n a b = true → a = b := by
  intro n
  induction n with
  | zero => intro a b h; cases h
  | succ n ih =>
    intro a b h
    cases a with
    | any => cases h
    | bool x => cases b <;> simp [avb, eqB_eq] at h; rw [h]
    | int k x =>
      cases b <;> simp [avb, kind_eq, intEq_eq] at h
      rw [h.1, h.2]
    | str x => cases b <;> simp [avb, beqL_eq] at h; rw [h]
    | nilp => cases b <;> simp [avb] at h; rfl
    | nilm => cases b <;> simp [avb] at h; rfl
    | nilf => cases b <;> simp [avb] at h; rfl
    | nili => cases b <;> simp [avb] at h; rfl
    | ptr r v i o => cases b <;> simp [avb, natBeq] at h; obtain ⟨h1, h2, h3, h4⟩ := h; rw [h1, h2, h3, h4]
    | rp row o => cases b <;> simp [avb, natBeq] at h; rw [h.1, allB_sound ih _ _ h.2]
    | list k rows =>
      cases b <;> simp [avb, natBeq] at h
      rw [skN_inj h.1, allR_sound ih _ _ h.2]
    | sl r v o l e => cases b <;> simp [avb, natBeq, eqB_eq] at h; obtain ⟨h1, h2, h3, h4, h5⟩ := h; rw [h1, h2, h3, h4, h5]
    | map r => cases b <;> simp [avb, natBeq] at h; rw [h]
    | fn f x y =>
      cases b <;> simp [avb] at h
      rw [fnEq_sound h.1, allB_sound ih _ _ h.2.1, allB_sound ih _ _ h.2.2]
    | ifc t v => cases b <;> simp [avb, natBeq] at h; rw [h.1, ih _ _ h.2]
    | agg l => cases b <;> simp [avb] at h; rw [allB_sound ih _ _ h]
    | tup l => cases b <;> simp [avb] at h; rw [allB_sound ih _ _ h]

theorem findA_mem : ∀ {l : Known} {a : List AV} {r : AV × List Ent}, findA l a = some r → (a, r) ∈ l := by
  intro l
  induction l with
  | nil => intro a r h; cases h
  | cons p l ih =>
    intro a r h
    have h : cond (allB (avb 64) p.1 a) (some p.2) (findA l a) = some r := h
    cases hp : allB (avb 64) p.1 a with
    | true =>
      rw [hp] at h
      cases h
      rw [← allB_sound (avb_sound 64) _ _ hp]
      exact List.mem_cons_self ..
    | false => rw [hp] at h; exact List.mem_cons_of_mem _ (ih h)

/-! ## values as they are -/
theorem forceS_eq (s : List Nat) : ∀ κ : List Nat → Option AV, forceS s κ = κ s := by
  induction s with
  | nil => intro κ; rfl
  | cons a s ih =>
    intro κ
    have : forceS (a :: s) κ = forceS s fun t => forceN a fun a => κ (a :: t) := rfl
    rw [this, ih, forceN_eq]
theorem forceZ_eq (k : IntKind) (z : Int) : forceZ k z = some (.int k z) := by cases z <;> simp only [forceZ, forceN_eq]

theorem mapL_congr {f g : AV → Option AV} (h : ∀ v, f v = g v) (l : List AV) : mapL f l = mapL g l := by rw [show f = g from funext h]
theorem mapR_congr {f g : AV → Option AV} (h : ∀ v, f v = g v) (l : List (List AV)) : mapR f l = mapR g l := by rw [show f = g from funext h]

theorem purK_eq (s : Store) : ∀ (n : Nat) (v : AV), purK s.get n v = pur s n v := by
  intro n
  induction n with
  | zero => intro v; rfl
  | succ n ih =>
    intro v
    cases v with
    | int k z => exact forceZ_eq k z
    | str t => exact forceS_eq t _
    | sl r v' off len ex =>
      simp only [purK, pur, rowsK_eq, mapR_congr ih]
      cases rowsOf s _ with
      | none => rfl
      | some rows => simp only [opt]; cases mapR (pur s n) rows <;> cases ex <;> rfl
    | list k rows => simp only [purK, pur, mapR_congr ih]; cases mapR (pur s n) rows <;> rfl
    | rp row o => simp only [purK, pur, mapL_congr ih]; cases mapL (pur s n) row <;> rfl
    | ifc t v => simp only [purK, pur, ih]; cases pur s n v <;> rfl
    | agg l => simp only [purK, pur, mapL_congr ih]; cases mapL (pur s n) l <;> rfl
    | tup l => simp only [purK, pur, mapL_congr ih]; cases mapL (pur s n) l <;> rfl
    | fn f a c =>
      simp only [purK, pur, mapL_congr ih]
      cases f <;> simp only <;> try rfl
      all_goals (cases mapL (pur s n) a with
        | none => rfl
        | some a => simp only [opt]; cases mapL (pur s n) c <;> rfl)
    | _ => rfl

theorem convK_eq (s : Store) (ks : List Nat) : ∀ (n : Nat) (v : AV), convK s.get ks n v = conv s ks n v := by
  intro n
  induction n with
  | zero => intro v; rfl
  | succ n ih =>
    intro v
    cases v with
    | int k z => exact forceZ_eq k z
    | str t => exact forceS_eq t _
    | sl r v' off len ex =>
      simp only [convK, conv, rowsK_eq, mapR_congr ih]
      cases s.get r with
      | none => rfl
      | some e =>
        cases e with
        | cells v2 sz rows fz =>
          simp only
          split
          · cases fz with
            | true =>
              simp only [cond_true, if_true]
              cases rowsOf s _ with
              | none => rfl
              | some rows => simp only [opt]; cases mapR (conv s ks n) rows <;> cases ex <;> rfl
            | false =>
              simp only [cond_false, Bool.false_eq_true, if_false]
              cases ixOf r ks 0 <;> rfl
          · rfl
        | _ => rfl
    | ptr r v' i o =>
      simp only [convK, conv]
      cases s.get r with
      | none => rfl
      | some e =>
        cases e with
        | cells v2 sz rows fz =>
          cases fz with
          | true => rfl
          | false => simp only; split <;> (try rfl); cases ixOf r ks 0 <;> rfl
        | _ => rfl
    | map r =>
      simp only [convK, conv]
      cases s.get r with
      | none => rfl
      | some e =>
        cases e with
        | map es c => simp only; cases ixOf r ks 0 <;> rfl
        | _ => rfl
    | list k rows => simp only [convK, conv, mapR_congr ih]; cases mapR (conv s ks n) rows <;> rfl
    | rp row o => simp only [convK, conv, mapL_congr ih]; cases mapL (conv s ks n) row <;> rfl
    | ifc t v => simp only [convK, conv, ih]; cases conv s ks n v <;> rfl
    | agg l => simp only [convK, conv, mapL_congr ih]; cases mapL (conv s ks n) l <;> rfl
    | tup l => simp only [convK, conv, mapL_congr ih]; cases mapL (conv s ks n) l <;> rfl
    | fn f a c =>
      simp only [convK, conv, mapL_congr ih]
      cases f <;> simp only <;> try rfl
      all_goals (cases mapL (conv s ks n) a with
        | none => rfl
        | some a => simp only [opt]; cases mapL (conv s ks n) c <;> rfl)
    | _ => rfl

theorem convEsK_eq (s : Store) (ks : List Nat) : ∀ rs : List Nat, convEsK s.get ks rs = convEs s ks dep rs := by
  intro rs
  induction rs with
  | nil => rfl
  | cons r rs ih =>
    simp only [convEsK, convEs, ih, show convK s.get ks dep = conv s ks dep from funext (convK_eq s ks dep)]
    cases s.get r with
    | none => rfl
    | some e =>
      simp only [opt]
      cases entV (conv s ks dep) e with
      | none => rfl
      | some e' => simp only; cases convEs s ks dep rs <;> rfl

theorem rootsK_eq (s : Store) (d : Nat) : ∀ (n : Nat) (rs seen ks : List Nat), rootsK s.get d n rs seen ks = rootsOf s d n rs seen ks := by
  intro n
  induction n with
  | zero => intro rs seen ks; rfl
  | succ n ih =>
    intro rs seen ks
    cases rs with
    | nil => rfl
    | cons r rs =>
      simp only [rootsK, rootsOf, ih]
      split
      · rfl
      · cases s.get r with
        | none => rfl
        | some e => cases e <;> rfl

theorem gcK_eq (s : Store) (v : AV) : gcK s.get v = gcR s v := by
  unfold gcK gcR
  split
  · rename_i h
    rw [h]
    simp only [convK_eq]
    cases conv s [] dep v <;> rfl
  · rename_i rs h
    split
    · rename_i h0; rw [h0] at h; exact absurd rfl h
    · rename_i rs' h0
      simp only [gcKs, rootsK_eq, convK_eq, convEsK_eq]
      cases nodupB (rootsOf s dep 100000 (rfs dep v) [] []) with
      | false => simp
      | true =>
        simp only [cond_true, if_true]
        cases conv s _ dep v with
        | none => rfl
        | some v' => simp only [opt]; cases convEs s _ dep _ <;> rfl

theorem prfK_eq (s : Store) : ∀ (n : Nat) (v : AV), prfK s.get n v = prf s n v := by
  intro n
  induction n with
  | zero => intro v; rfl
  | succ n ih =>
    intro v
    have hf : prfK s.get n = prf s n := funext ih
    cases v <;> simp only [prfK, prf, hf, rowsK_eq]

theorem frzK_ok : ∀ (rs : List Nat) (n : Nat) (l : Log), LOk n l → toS n (frzK l rs) = frzL (toS n l) rs ∧ LOk n (frzK l rs) := by
  intro rs
  induction rs with
  | nil => intro n l h; exact ⟨rfl, h⟩
  | cons r rs ih =>
    intro n l h
    simp only [frzK, frzL, get_eq h]
    cases hg : lget l r with
    | none => exact ih n l h
    | some e =>
      cases e with
      | cells v sz rows fz =>
        have hr : r < n := (h r).1 (by rw [hg]; rfl)
        obtain ⟨a, b⟩ := toS_put h hr (.cells v sz rows true)
        simp only
        rw [← a]
        exact ih n _ b
      | _ => exact ih n l h

theorem pushes_ok : ∀ (es : List Ent) (n : Nat) (l : Log), LOk n l → toS (pushes n l es).1 (pushes n l es).2 = es.reverse ++ toS n l ∧ LOk (pushes n l es).1 (pushes n l es).2 := by
  intro es
  induction es with
  | nil => intro n l h; exact ⟨rfl, h⟩
  | cons e es ih =>
    intro n l h
    obtain ⟨a, b⟩ := toS_push h e
    obtain ⟨c, d⟩ := ih (n + 1) _ b
    refine ⟨?_, d⟩
    simp only [pushes]
    rw [c, a]
    simp

theorem impK_ok {args : List AV} {r : AV × List Ent} {n : Nat} {l : Log} (hl : LOk n l) {c : CR} (h : impK args r n l = some c) :
    ∃ v n' l', c = .ret v .run n' l' ∧ impR (toS n l) args r = some (v, toS n' l') ∧ LOk n' l' := by
  have hf : prfK (lget l) dep = prf (toS n l) dep := by rw [← get_eq hl]; exact funext (prfK_eq _ dep)
  obtain ⟨v0, es⟩ := r
  simp only [impK, hf] at h
  obtain ⟨l1, hl1, hs1, hk1⟩ : ∃ l1, cond (and (noL dep v0) (es.all (noLE dep))) l (frzK l (args.flatMap (prf (toS n l) dep))) = l1 ∧
      (if (noL dep v0 && es.all (noLE dep)) = true then toS n l else frzL (toS n l) (args.flatMap (prf (toS n l) dep))) = toS n l1 ∧ LOk n l1 := by
    refine ⟨_, rfl, ?_⟩
    cases (noL dep v0 && es.all (noLE dep)) with
    | true => exact ⟨rfl, hl⟩
    | false =>
      obtain ⟨a, b⟩ := frzK_ok (args.flatMap (prf (toS n l) dep)) n l hl
      exact ⟨a.symm, b⟩
  rw [hl1] at h
  simp only [impR, hs1, length_toS]
  cases es with
  | nil => cases h; exact ⟨v0, n, l1, rfl, rfl, hk1⟩
  | cons e es =>
    simp only [impS] at h ⊢
    cases hv : sh n dep v0 with
    | none => rw [hv] at h; cases h
    | some v1 =>
      rw [hv] at h
      simp only [opt] at h ⊢
      cases he : shEs n (e :: es) with
      | none => rw [he] at h; cases h
      | some es' =>
        rw [he] at h
        cases h
        obtain ⟨a, b⟩ := pushes_ok es' n l1 hk1
        exact ⟨v1, _, _, rfl, by rw [a]; rfl, b⟩

/-! ## functions -/
section
variable {E : Env} {ck : CallK} {call : CallF} {k : Nat}

theorem resK_eq {n : Nat} {l : Log} (hl : LOk n l) (P : Program) : ∀ (rs : List ResultVar) (ks : List (Option (Bool × Nat))) (vals vs : List AV), resChk P rs ks = true → resK l ks vals = some vs → resultL P (toS n l) rs vals = some vs := by
  intro rs
  induction rs with
  | nil =>
    intro ks vals vs hc h
    cases ks with
    | nil => exact h
    | cons _ _ => cases hc
  | cons r rs ih =>
    intro ks vals vs hc h
    cases ks with
    | nil => cases r <;> cases hc
    | cons q ks =>
      cases r with
      | tmp t =>
        cases q with
        | some p => cases hc
        | none =>
          cases vals with
          | nil => cases h
          | cons v vals =>
            simp only [resK] at h
            simp only [resultL]
            cases hr : resK l ks vals with
            | none => rw [hr] at h; cases h
            | some r => rw [hr] at h; cases h; rw [ih ks vals r hc hr]; rfl
      | cell a t =>
        cases q with
        | none => cases hc
        | some p =>
          obtain ⟨g, m⟩ := p
          simp only [resChk, Bool.and_eq_true, decide_eq_true_eq] at hc
          obtain ⟨⟨h1, h2, h3, h4, h5⟩, hc⟩ := hc
          cases vals with
          | nil => cases h
          | cons v vals =>
            simp only [resK] at h
            simp only [resultL]
            rw [if_pos ⟨h1, h2, h3⟩]
            rw [← get_eq hl, loadK_eq] at h
            rw [h4, h5]
            cases hv : loadAt (toS n l) g m v with
            | none => rw [hv] at h; cases h
            | some w =>
              rw [hv] at h
              simp only [Option.map] at h
              simp only [opt]
              cases hr : resK l ks vals with
              | none => rw [hr] at h; cases h
              | some r => rw [hr] at h; cases h; rw [ih ks vals r hc hr]; rfl

def CRIs (c : CR) (md : AMode) (o : Option (ARes × Store)) : Prop := match c with
  | .ret v md' n l => md' = md ∧ o = some (.ret v, toS n l) ∧ LOk n l
  | .pan ch md' n l => md' = md ∧ o = some (.panic ch, toS n l) ∧ LOk n l

theorem leaveK_sound (hck : CKS ck call) {fn : Func} {res : List (Option (Bool × Nat))} (hres : resChk E.prog fn.results.toList res = true) {vals : List AV} {md : AMode} : ∀ (ds : List ADef) (u : AMode) (n : Nat) (l : Log) (c : CR),
    leaveK E.prog ck res vals ds u md n l = some c → LOk n l → CRIs c md (leaveL E call fn vals ds u (toS n l)) := by
  intro ds
  induction ds with
  | nil =>
    intro u n l c h hl
    cases u with
    | ret =>
      simp only [leaveK] at h
      simp only [leaveL]
      cases hr : resK l res vals with
      | none => rw [hr] at h; cases h
      | some vs =>
        rw [hr] at h; cases h
        exact ⟨rfl, by rw [resK_eq hl E.prog _ _ _ _ hres hr]; rfl, hl⟩
    | pan ch => cases h; exact ⟨rfl, rfl, hl⟩
    | run => cases h
    | round => cases h
  | cons d ds ih =>
    intro u n l c h hl
    cases d with
    | mark r => cases h
    | fn f cap args =>
      simp only [leaveK] at h
      simp only [leaveL]
      cases ht : target E.prog f args cap with
      | none => rw [ht] at h; cases h
      | some g =>
        rw [ht] at h
        simp only [natBle] at h
        simp only [opt]
        by_cases hg : g.1 < yieldBase
        · have : decide (Nat.succ g.1 ≤ yieldBase) = true := decide_eq_true hg
          rw [this] at h
          rw [if_pos hg]
          simp only [cond_true] at h
          cases hc : ck g.1 g.2 u n l with
          | none => rw [hc] at h; cases h
          | some c1 =>
            rw [hc] at h
            have h1 := hck _ _ _ _ _ c1 hc hl
            cases c1 with
            | ret v u' n' l' =>
              obtain ⟨e1, e2⟩ := h1
              rw [e1]
              exact ih _ n' l' c h e2
            | pan ch u' n' l' =>
              obtain ⟨e1, e2⟩ := h1
              rw [e1]
              exact ih _ n' l' c h e2
        · have : decide (Nat.succ g.1 ≤ yieldBase) = false := decide_eq_false hg
          rw [this] at h; cases h

def CRIs3 (c : CR) (o : Option (ARes × AMode × Store)) : Prop := match c with
  | .ret v md n l => o = some (.ret v, md, toS n l) ∧ LOk n l
  | .pan ch md n l => o = some (.panic ch, md, toS n l) ∧ LOk n l

theorem enterK_sound (hck : CKS ck call) (heq : ∀ a b, avb 64 a b = true → E.eqv a b = true) {fn : Func} {lf : LF} (hres : resChk E.prog fn.results.toList lf.res = true) {args : List AV} {md : AMode} {n : Nat} {l : Log} {c : CR}
    (h : enterK E.prog ck k lf args md n l = some c) (hl : LOk n l) : CRIs3 c (enterL E call k fn lf args md (toS n l)) := by
  unfold enterK at h
  rw [natBeq, lenK_eq] at h
  unfold enterL
  by_cases hn : args.length = lf.nargs
  · rw [if_pos hn]
    simp only [hn, decide_true, cond_true] at h
    unfold finK at h
    split at h
    · rename_i r hr
      obtain ⟨x, vals, n1, l1, df1, md1⟩ := r
      obtain ⟨e1, e2⟩ := denK_sound hck heq lf.code args.reverse n l [] md _ hr hl
      rw [e1]
      simp only [opt]
      have fin : ∀ u, leaveK E.prog ck lf.res vals df1 u md1 n1 l1 = some c → CRIs3 c ((leaveL E call fn vals df1 u (toS n1 l1)).map fun r => (r.1, md1, r.2)) := by
        intro u hu
        have := leaveK_sound hck hres df1 u n1 l1 c hu e2
        cases c with
        | ret v md2 n2 l2 => obtain ⟨rfl, a, b⟩ := this; exact ⟨by rw [a]; rfl, b⟩
        | pan ch md2 n2 l2 => obtain ⟨rfl, a, b⟩ := this; exact ⟨by rw [a]; rfl, b⟩
      cases x with
      | done f =>
        cases f with
        | normal => exact fin _ h
        | ret => exact fin _ h
        | exit i => cases h
      | panic ch => exact fin _ h
    · cases h
  · simp only [hn, decide_false, cond_false] at h; cases h
end

/-- What is asked of the tables for the kernel. -/
structure TabK (P : Program) (T : Nat → Option LF) (M : Nat → List AV → Option (AV × List Ent)) : Prop where
  lf : ∀ f lf, T f = some lf → ∃ fn c, P.funcs[f]? = some fn ∧ fn.body = some c ∧ resChk P fn.results.toList lf.res = true
  fact : ∀ f a r, M f a = some r → ∃ fn c, P.funcs[f]? = some fn ∧ fn.body = some c

theorem LOk_nil : LOk 0 [] := fun r => ⟨(fun h => by cases h), fun h => absurd h (Nat.not_lt_zero r)⟩

theorem callK_sound {E : Env} (heq : ∀ a b, avb 64 a b = true → E.eqv a b = true) {T : Nat → Option LF} {fl : Nat → Bool} {M : Nat → List AV → Option (AV × List Ent)} (hT : TabK E.prog T M) : ∀ fuel, CKS (callK E.prog T fl M fuel) (callP E T fl M fuel) := by
  intro fuel
  induction fuel with
  | zero => intro f args md n l c h; cases h
  | succ k ih =>
    intro f args md n l c h hl
    have h : stepCall E.prog T fl M (callK E.prog T fl M k) k f args md n l = some c := h
    unfold stepCall at h
    rw [natBle] at h
    by_cases hy : yieldBase ≤ f
    · simp only [hy, decide_true, cond_true] at h; cases h
    · simp only [hy, decide_false, cond_false] at h
      show CRIs3 c (callP E T fl M (k + 1) f args md (toS n l))
      unfold callP
      rw [if_neg hy]
      -- straight
      have dir : ∀ md, dirK E.prog T (callK E.prog T fl M k) k f args md n l = some c → ∃ fn b, E.prog.funcs[f]? = some fn ∧ fn.body = some b ∧
          CRIs3 c (match T f with | some lf => enterL E (callP E T fl M k) k fn lf args md (toS n l) | none => enter E (callP E T fl M k) k fn b args md (toS n l)) := by
        intro md h
        unfold dirK at h
        split at h
        · rename_i lf hlf
          obtain ⟨fn, b, h1, h2, h3⟩ := hT.lf f lf hlf
          refine ⟨fn, b, h1, h2, ?_⟩
          rw [hlf]
          exact enterK_sound ih heq h3 h hl
        · cases h
      have go : ∀ md, dirK E.prog T (callK E.prog T fl M k) k f args md n l = some c → (∀ a, (match md, (if fl f then mapL (pur (toS n l) dep) args else none) with | .run, some x => some x | _, _ => none) ≠ some a) →
          CRIs3 c (opt E.prog.funcs[f]? fun fn => opt fn.body fun c =>
            match md, (if fl f then mapL (pur (toS n l) dep) args else none) with
            | .run, some a =>
              match M f a with
              | some r => (impR (toS n l) args r).map fun p => (.ret p.1, .run, p.2)
              | none => opt (match T f with | some lf => enterL E (callP E T fl M k) k fn lf a .run [] | none => enter E (callP E T fl M k) k fn c a .run []) fun
                | (.ret v, _, s2) => opt (gcR s2 v) fun r => (impR (toS n l) args r).map fun p => (.ret p.1, .run, p.2)
                | _ => none
            | md, _ => match T f with | some lf => enterL E (callP E T fl M k) k fn lf args md (toS n l) | none => enter E (callP E T fl M k) k fn c args md (toS n l)) := by
        intro md h hno
        obtain ⟨fn, b, h1, h2, h3⟩ := dir md h
        rw [h1]
        simp only [opt, h2]
        cases hp : (if fl f then mapL (pur (toS n l) dep) args else none) with
        | none => cases md <;> exact h3
        | some a =>
          cases md with
          | run => exact absurd (by rw [hp]) (hno a)
          | _ => exact h3
      have hpur : mapL (purK (lget l) dep) args = mapL (pur (toS n l) dep) args := by
        rw [← get_eq hl]; exact mapL_congr (purK_eq _ dep) args
      cases md with
      | run =>
        simp only [hpur] at h
        cases hf : fl f with
        | false =>
          rw [hf] at h
          have := go .run h (by intro a; rw [hf]; simp)
          rw [hf] at this
          exact this
        | true =>
          rw [hf] at h
          simp only [cond_true] at h
          cases hp : mapL (pur (toS n l) dep) args with
          | none =>
            rw [hp] at h
            have := go .run h (by intro a; rw [hf, hp]; simp)
            rw [hf, hp] at this
            simp only [if_true] at this ⊢
            exact this
          | some a =>
            rw [hp] at h
            simp only at h
            simp only [if_true]
            unfold pureK at h
            have imp : ∀ r, impK args r n l = some c → CRIs3 c ((impR (toS n l) args r).map fun p => (ARes.ret p.1, AMode.run, p.2)) := by
              intro r hr
              obtain ⟨v, n', l', rfl, e1, e2⟩ := impK_ok hl hr
              exact ⟨by rw [e1]; rfl, e2⟩
            split at h
            · rename_i r hM
              obtain ⟨fn, b, h1, h2⟩ := hT.fact f a r hM
              rw [h1]
              simp only [opt, h2, hM]
              exact imp r h
            · rename_i hM
              split at h
              · rename_i lf hlf
                obtain ⟨fn, b, h1, h2, h3⟩ := hT.lf f lf hlf
                rw [h1]
                simp only [opt, h2, hM, hlf]
                split at h
                · rename_i c1 hc1
                  have := enterK_sound (E := E) (fn := fn) ih heq h3 hc1 LOk_nil
                  cases c1 with
                  | pan ch md2 n2 l2 => cases h
                  | ret v md2 n2 l2 =>
                    obtain ⟨e1, e2⟩ := this
                    simp only [toS] at e1
                    rw [e1]
                    simp only at h ⊢
                    rw [← get_eq e2, gcK_eq] at h
                    cases hg : gcR (toS n2 l2) v with
                    | none => rw [hg] at h; cases h
                    | some r => rw [hg] at h; exact imp r h
                · cases h
              · cases h
      | ret => exact go .ret h (by intro a; simp)
      | pan ch => exact go (.pan ch) h (by intro a; simp)
      | round => exact go .round h (by intro a; simp)
end Go.Am.K

namespace Go.Am.K
open Go Go.Am
noncomputable def allE : List (AV × AV × Nat) → List (AV × AV × Nat) → Bool
  | [], [] => true
  | a :: x, b :: y => and (avb 64 a.1 b.1) (and (avb 64 a.2.1 b.2.1) (and (Nat.beq a.2.2 b.2.2) (allE x y)))
  | _, _ => false
noncomputable def entEq : Ent → Ent → Bool
  | .cells v sz rows fz, .cells v' sz' rows' fz' => and (Nat.beq v v') (and (Nat.beq sz sz') (and (eqB fz fz') (allR (avb 64) rows rows')))
  | .map es c, .map es' c' => and (Nat.beq c c') (allE es es')
  | _, _ => false
noncomputable def entsEq : List Ent → List Ent → Bool
  | [], [] => true
  | a :: x, b :: y => and (entEq a b) (entsEq x y)
  | _, _ => false
noncomputable def resEq (r : Option (AV × List Ent)) (e : AV × List Ent) : Bool := match r with
  | some r => and (avb 64 r.1 e.1) (entsEq r.2 e.2)
  | none => false
theorem allE_sound : ∀ {x y : List (AV × AV × Nat)}, allE x y = true → x = y := by
  intro x
  induction x with
  | nil => intro y h; cases y with | nil => rfl | cons _ _ => cases h
  | cons a x ih =>
    intro y h
    cases y with
    | nil => cases h
    | cons b y =>
      simp only [allE, Bool.and_eq_true] at h
      obtain ⟨h1, h2, h3, h4⟩ := h
      rw [ih h4]
      obtain ⟨a1, a2, a3⟩ := a
      obtain ⟨b1, b2, b3⟩ := b
      simp only at h1 h2 h3
      rw [avb_sound _ _ _ h1, avb_sound _ _ _ h2, Nat.eq_of_beq_eq_true h3]
theorem entEq_sound {a b : Ent} (h : entEq a b = true) : a = b := by
  cases a <;> cases b <;> simp only [entEq, Bool.and_eq_true, Bool.false_eq_true] at h
  · obtain ⟨h1, h2, h3, h4⟩ := h
    rw [Nat.eq_of_beq_eq_true h1, Nat.eq_of_beq_eq_true h2, allR_sound (avb_sound 64) _ _ h4]
    rw [eqB_eq] at h3
    rw [eq_of_beq h3]
  · obtain ⟨h1, h2⟩ := h
    rw [Nat.eq_of_beq_eq_true h1, allE_sound h2]
theorem entsEq_sound : ∀ {x y : List Ent}, entsEq x y = true → x = y := by
  intro x
  induction x with
  | nil => intro y h; cases y with | nil => rfl | cons _ _ => cases h
  | cons a x ih =>
    intro y h
    cases y with
    | nil => cases h
    | cons b y =>
      simp only [entsEq, Bool.and_eq_true] at h
      rw [entEq_sound h.1, ih h.2]
theorem resEq_sound {r : Option (AV × List Ent)} {e : AV × List Ent} (h : resEq r e = true) : r = some e := by
  cases r with
  | none => cases h
  | some r =>
    simp only [resEq, Bool.and_eq_true] at h
    obtain ⟨a, b⟩ := r
    obtain ⟨c, d⟩ := e
    simp only at h
    rw [avb_sound _ _ _ h.1, entsEq_sound h.2]

/-- By the kernel's evaluator. -/
noncomputable def factK (prog : Program) (T : Nat → Option LF) (fl : Nat → Bool) (M : Nat → List AV → Option (AV × List Ent)) (fuel f : Nat) (e : List AV × AV × List Ent) : Bool :=
  match callK prog T fl M fuel f e.1 .run 0 [] with
  | some c => (match c with
    | .ret v _ _ l => resEq (gcK (lget l) v) e.2
    | .pan _ _ _ _ => false)
  | none => false
/-- By the evaluator itself. -/
noncomputable def factP (E : Env) (T : Nat → Option LF) (fl : Nat → Bool) (M : Nat → List AV → Option (AV × List Ent)) (fuel f : Nat) (e : List AV × AV × List Ent) : Bool :=
  match callP E T fl M fuel f e.1 .run [] with
  | some (.ret v, _, s) => resEq (gcR s v) e.2
  | _ => false

section
variable {P : Program} {G : Nat → Option (List AV)} {E : Env} {T : Nat → Option LF} {fl : Nat → Bool} {M : Nat → List AV → Option (AV × List Ent)} {fuel f : Nat} {e : List AV × AV × List Ent}

theorem factP_sound (hE : EnvOk P G E) (hG : GlobOk G) (hT : TabOk P G T M) (hf : Nat.ble (Nat.succ f) yieldBase = true) (h : factP E T fl M fuel f e = true) : PureFact P G f e.1 e.2 := by
  unfold factP at h
  split at h
  · rename_i v md s hc
    exact fact_of_run (callP_sound hE hG hT fuel) (Nat.le_of_ble_eq_true hf) hc (resEq_sound h)
  · cases h

theorem factK_sound (hE : EnvOk P G E) (hG : GlobOk G) (hT : TabOk P G T M) (hK : TabK P T M) (heq : ∀ a b, avb 64 a b = true → E.eqv a b = true) (hf : Nat.ble (Nat.succ f) yieldBase = true) (h : factK P T fl M fuel f e = true) : PureFact P G f e.1 e.2 := by
  unfold factK at h
  split at h
  · rename_i c hc
    split at h
    · rename_i v md n l
      have hp := hE.prog
      subst hp
      obtain ⟨h1, h2⟩ := callK_sound heq hK fuel f e.1 .run 0 [] _ hc LOk_nil
      simp only [toS] at h1
      refine fact_of_run (callP_sound hE hG hT fuel) (Nat.le_of_ble_eq_true hf) h1 ?_
      rw [← gcK_eq, get_eq h2]
      exact resEq_sound h
    · cases h
  · cases h
end
end Go.Am.K
