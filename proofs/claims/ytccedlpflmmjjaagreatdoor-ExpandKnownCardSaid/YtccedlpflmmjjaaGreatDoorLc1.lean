/- LC: code with its values on a stack, and its compiler, proved right. -/
import Derived.Test.YtccedlpflmmjjaaGreatDoorAm1
import Derived.Test.YtccedlpflmmjjaaGreatDoorAm6
namespace Go.Am
open Go

inductive FX where | normal | exit (id : Nat) | ret
inductive LX where | done (x : FX) | panic (ch : List (AV × Bool))

inductive LC where
  | fin (x : FX) (vs : List Opd)
  | op (g : Option (Opd × Bool)) (o : AOp) (k : LC)
  | chk (g : Option (Opd × Bool)) (o : AOp) (x : Opd) (k : LC)
  | cond (c : Opd) (a b : LC)
  | blk (id : Option Nat) (slots : List Nat) (a k : LC)
  | loop (slots : List Nat) (vs : List Opd) (a : LC)
  | tryp (vs : List Opd) (a : LC)
  | bad
  deriving Inhabited

/-- A function: how many arguments it has, and its code. -/
structure LF where
  nargs : Nat
  code : LC
  tp : Bool
  res : List (Option (Bool × Nat))

inductive VO where
  | val (v : AV) (st : St)
  | leave (ch : List (AV × Bool)) (st : St)

def afterV (st : St) : Option (ARes × AMode × Store) → Option VO
  | some (.ret v, _, s) => some (.val v { st with sg := s })
  | some (.panic ch, _, s) => some (.leave ch { st with sg := s })
  | none => none

/-- The value of an operation that is wanted. -/
def valOp (E : Env) (call : CallF) (o : AOp) (st : St) : Option VO :=
  match o.cls with
  | .q => (qop st.tm st.sg o).map fun v => .val v st
  | .a => (aop st.sg st.tm o).map fun p => .val p.1 { st with sg := p.2 :: st.sg }
  | .e =>
    match o with
    | .callv f args => match ev st.tm f with
      | .fn f first cap => opt (target E.prog f (first ++ args.map (ev st.tm)) cap) fun g => afterV st (call g.1 g.2 .run st.sg)
      | _ => none
    | .calli r name args => match ev st.tm r with
      | .ifc t v => opt (recv E.prog t name v) fun g => afterV st (call g.1 (g.2 :: args.map (ev st.tm)) .run st.sg)
      | _ => none
    | .defer f args => match st.md, ev st.tm f with
      | .round, _ => none
      | _, .fn f first cap => some (.val .undef { st with df := .fn f cap (first ++ args.map (ev st.tm)) :: st.df })
      | _, _ => none
    | .recover => match st.md with
      | .pan ((v, false) :: older) => some (.val v { st with md := .pan ((v, true) :: older) })
      | .round => none
      | _ => some (.val .nili st)
    | .panic x => match ev st.tm x with
      | .ifc t v => some (.leave [(.ifc t v, false)] st)
      | _ => none
    | op => (eop st.tm st.sg op).map fun p => .val p.1 { st with sg := p.2 }

def wantedG (tm : List AV) : Option (Opd × Bool) → Option Bool
  | none => some true
  | some (x, b) => match ev tm x with
    | .bool c => some (c == b)
    | .tup _ => some false
    | _ => none

def lop (E : Env) (call : CallF) (g : Option (Opd × Bool)) (o : AOp) (st : St) : Option VO :=
  opt (wantedG st.tm g) fun w => if w = false then some (.val .undef st) else valOp E call o st

def lqval (tm : List AV) (s : Store) (g : Option (Opd × Bool)) (o : AOp) : Option AV :=
  opt (wantedG tm g) fun w => if w then qop tm s o else some .undef

def iterL (body : List AV → St → Option (LX × St)) : Nat → List AV → St → Option (LX × St)
  | 0, _, _ => none
  | n + 1, vals, st => opt (body vals st) fun
    | (.done .normal, st') => iterL body n st'.tm st'
    | r => some r

def den (E : Env) (call : CallF) (n : Nat) : LC → St → Option (LX × St)
  | .fin x vs, st => some (.done x, { st with tm := vs.map (ev st.tm) })
  | .op g o k, st => opt (lop E call g o st) fun
    | .val v st' => den E call n k { st' with tm := v :: st.tm }
    | .leave ch st' => some (.panic ch, { st' with tm := [] })
  | .chk g o x k, st => opt (lqval st.tm st.sg g o) fun v => if E.eqv v (ev st.tm x) then den E call n k st else none
  | .cond c a b, st => match ev st.tm c with
    | .bool true => den E call n a st
    | .bool false => den E call n b st
    | _ => none
  | .blk id _ a k, st => opt (den E call n a st) fun
    | (.done .normal, st') => den E call n k { st' with tm := st'.tm ++ st.tm }
    | (.done (.exit i), st') => if id = some i then den E call n k { st' with tm := st'.tm ++ st.tm } else some (.done (.exit i), st')
    | r => some r
  | .loop _ vs a, st => iterL (fun vals st' => den E call n a { st' with tm := vals ++ st.tm }) n (vs.map (ev st.tm)) st
  | .tryp vs a, st => opt (den E call n a st) fun
    | (.panic ch, st') => some (.panic ch, { st' with tm := vs.map (ev st.tm) })
    | r => some r
  | .bad, _ => none

def resultL (P : Program) (s : Store) : List ResultVar → List AV → Option (List AV)
  | [], _ => some []
  | .tmp _ :: rest, v :: vs => (resultL P s rest vs).map (v :: ·)
  | .cell _ t :: rest, a :: vs => if 0 < P.cellsOf t ∧ (aggT P t ∨ P.cellsOf t = 1) ∧ (P.underlying t).isSome then
      opt (loadAt s (aggT P t) (P.cellsOf t) a) fun v => (resultL P s rest vs).map (v :: ·)
    else none
  | _ :: _, [] => none

def leaveL (E : Env) (call : CallF) (fn : Func) (vals : List AV) : List ADef → AMode → Store → Option (ARes × Store)
  | [], .ret, s => (resultL E.prog s fn.results.toList vals).map fun vs => (.ret (tupleOf vs), s)
  | [], .pan ch, s => some (.panic ch, s)
  | [], .run, _ | [], .round, _ => none
  | .mark r :: ds, u, s => match Store.get s r with
    | some (.dfr true) => leaveL E call fn vals ds u (s.put r (.dfr false))
    | _ => none
  | .fn f cap args :: ds, u, s => opt (target E.prog f args cap) fun g => if g.1 < yieldBase then opt (call g.1 g.2 u s) fun
      | (.ret _, u', s) => leaveL E call fn vals ds (settleA u') s
      | (.panic ch, u', s) => leaveL E call fn vals ds (raisedA u' ch) s
    else none

def enterL (E : Env) (call : CallF) (k : Nat) (fn : Func) (lf : LF) (args : List AV) (md : AMode) (s : Store) : Option (ARes × AMode × Store) :=
  if args.length = lf.nargs then
    opt (den E call k lf.code { tm := args.reverse, df := [], md, sg := s }) fun
    | (.done .normal, st) | (.done .ret, st) => (leaveL E call fn st.tm st.df .ret st.sg).map fun r => (r.1, st.md, r.2)
    | (.panic ch, st) => (leaveL E call fn st.tm st.df (.pan ch) st.sg).map fun r => (r.1, st.md, r.2)
    | _ => none
  else none

/-! ## the compiler -/
inductive LO where | lv (j : Nat) | c (v : AV)
  deriving Inhabited
abbrev Gam := List (Nat × LO)
def look : Gam → Nat → Option LO
  | [], _ => none
  | (d, x) :: r, n => if d = n then some x else look r n
def minus (ws : List Nat) (Γ : Gam) : Gam := Γ.filter fun p => !ws.contains p.1

def LO.opd (h : Nat) : LO → Opd
  | .lv j => .t (h - 1 - j)
  | .c v => .c v
def opdG (Γ : Gam) : Opd → Option LO
  | .t n => look Γ n
  | .c v => some (.c v)
/-- The operand on the stack. -/
def rho (Γ : Gam) (h : Nat) (x : Opd) : Opd := match opdG Γ x with | some y => y.opd h | none => .c .any
def slotsG (Γ : Gam) (h : Nat) : List Nat → Option (List Opd)
  | [] => some []
  | s :: r => opt (look Γ s) fun x => (slotsG Γ h r).map (x.opd h :: ·)

def AOp.mapO (ρ : Opd → Opd) : AOp → AOp
  | .mov x => .mov (ρ x) | .asg x => .asg (ρ x) | .pick a b c => .pick (ρ a) (ρ b) (ρ c) | .alloc z => .alloc z | .box n x => .box n (ρ x)
  | .build z ps => .build z (ps.map fun p => (p.1, p.2.1, ρ p.2.2)) | .bsl o z n ps => .bsl o z n (ps.map fun p => (p.1, ρ p.2))
  | .load g n x => .load g n (ρ x) | .store n a x => .store n (ρ a) (ρ x) | .nilchk x => .nilchk (ρ x) | .bin o x y => .bin o (ρ x) (ρ y)
  | .eqv k n c x y => .eqv k n c (ρ x) (ρ y) | .eqa ks n x y => .eqa ks n (ρ x) (ρ y) | .un o x => .un o (ρ x) | .cint k x => .cint k (ρ x)
  | .cstr x => .cstr (ρ x) | .s2b x => .s2b (ρ x) | .b2s x => .b2s (ρ x) | .i2s x => .i2s (ρ x) | .mkif t x => .mkif t (ρ x)
  | .mkfn f a c => .mkfn f (a.map ρ) (c.map ρ) | .mkmap => .mkmap | .mksl z b l c => .mksl z b (ρ l) (ρ c)
  | .slice s z x a b c => .slice s z (ρ x) (a.map ρ) (b.map ρ) (c.map ρ) | .faddr o x => .faddr o (ρ x) | .iaddr a z x i => .iaddr a z (ρ x) (ρ i)
  | .fld g o n x => .fld g o n (ρ x) | .idx a x i => .idx a (ρ x) (ρ i) | .lookup k z o m x => .lookup k z o (ρ m) (ρ x)
  | .mapupd k m x v => .mapupd k (ρ m) (ρ x) (ρ v) | .mapent k z m x => .mapent k z (ρ m) (ρ x) | .entst m s v => .entst (ρ m) (ρ s) (ρ v)
  | .extract x i => .extract (ρ x) i | .tassert t z o x => .tassert t z o (ρ x) | .tassertI z o x => .tassertI z o (ρ x) | .len k x => .len k (ρ x)
  | .append z b s x => .append z b (ρ s) (ρ x) | .copy z d s => .copy z (ρ d) (ρ s) | .minmax m x y => .minmax m (ρ x) (ρ y) | .srange x => .srange (ρ x)
  | .snext x => .snext (ρ x) | .recover => .recover | .callv f xs => .callv (ρ f) (xs.map ρ) | .calli r n xs => .calli (ρ r) n (xs.map ρ)
  | .defer f xs => .defer (ρ f) (xs.map ρ) | .panic x => .panic (ρ x) | .bad => .bad

/-- Operations that look at no entry of the store. -/
def AOp.still : AOp → Bool
  | .mov _ | .pick .. | .build .. | .bsl false .. | .nilchk _ | .bin .. | .eqa .. | .un .. | .cint .. | .cstr _ | .i2s _ | .mkif .. | .mkfn .. | .faddr .. | .fld .. | .idx .. | .extract .. | .tassert .. | .tassertI .. | .minmax .. | .len .str _ => true
  | _ => false

/-- Where a join is, and what it keeps. -/
inductive Hint where
  | e
  | cond (a b : Hint)
  | blk (slots : List Nat) (a k : Hint)
  | loop (slots : List Nat) (a : Hint)
  | tryp (n : Nat) (a : Hint)
  deriving Inhabited

/-- One operation earlier. -/
def Hint.inc : Hint → Hint
  | .tryp n h => .tryp (n + 1) h
  | h => h
def LC.hint : LC → Hint
  | .fin .. | .bad => .e
  | .op _ _ k => k.hint.inc
  | .chk _ _ _ k => k.hint
  | .cond _ a b => .cond a.hint b.hint
  | .blk _ s a k => .blk s a.hint k.hint
  | .loop s _ a => .loop s a.hint
  | .tryp _ a => .tryp 0 a.hint

/-- What is evaluated: an operation of a region, where its value is, and where the slots are that it read. -/
abbrev Evd := List (Nat × LO × List (Option LO))

/-- Work: code, or steps of a region: run an operation, or look whether it still has its value. -/
inductive WI where
  | ac (a : AC)
  | ops (l : List AOper) (steps : List (Bool × Nat)) (ev : Evd)

def passIx (pl : Plan) (s : Nat) : List AOper → Nat → List (Bool × Nat)
  | [], _ => []
  | o :: r, i => if o.op.cls ≠ .e ∧ pl.lo.getD i 0 = s then (false, i) :: passIx pl s r (i + 1) else passIx pl s r (i + 1)
def checkIx (pl : Plan) (s : Nat) : List AOper → Nat → List (Bool × Nat)
  | [], _ => []
  | o :: r, i => if o.op.cls = .q ∧ pl.lo.getD i 0 ≤ s ∧ s ≤ pl.hi.getD i 0 then (true, i) :: checkIx pl s r (i + 1) else checkIx pl s r (i + 1)
def sched (pl : Plan) (ops : List AOper) : List Nat → Nat → List (Bool × Nat)
  | [], s => passIx pl s ops 0 ++ checkIx pl s ops 0
  | e :: es, s => passIx pl s ops 0 ++ checkIx pl s ops 0 ++ (false, e) :: sched pl ops es (s + 1)

def AC.writes : AC → List Nat
  | .region ops => ops.filterMap (·.dst)
  | .dreg _ ops => ops.filterMap (·.dst)
  | .seq a b => a.writes ++ b.writes
  | .cond _ a b => a.writes ++ b.writes
  | .block _ a => a.writes
  | .loop a => a.writes
  | .scope a => a.writes
  | _ => []
def WI.writes : WI → List Nat
  | .ac a => a.writes
  | .ops l _ _ => l.filterMap (·.dst)

structure Jmp where
  N : Nat
  tp : Bool
  nrm : List Nat
  exits : List (Nat × List Nat)
  ret : List Nat

def exitSlots : List (Nat × List Nat) → Nat → Option (List Nat)
  | [], _ => none
  | (d, x) :: r, n => if d = n then some x else exitSlots r n

/-- The slots that a join has pushed, the last one first. -/
def pushed (h : Nat) : List Nat → Gam
  | [] => []
  | s :: r => (s, .lv (h + r.length)) :: pushed h r

def LO.same : Option LO → Option LO → Bool
  | some (.lv i), some (.lv j) => i == j
  | _, _ => false
def sameL : List (Option LO) → List (Option LO) → Bool
  | [], [] => true
  | a :: x, b :: y => LO.same a b && sameL x y
  | _, _ => false

def known (Γ : Gam) (o : AOper) : Bool := (readsOf o).all fun t => (look Γ t).isSome

def gmap (Γ : Gam) (h : Nat) (g : Option (Nat × Bool)) : Option (Opd × Bool) := g.map fun p => (rho Γ h (.t p.1), p.2)

/-- The slot that is copied, if nothing else is done. -/
def copied (o : AOper) : Option Opd := match o.guard, o.op with
  | none, .mov x => some x
  | none, .asg x => some x
  | _, _ => none

def Hint.isTryp : Hint → Option Hint
  | .tryp 0 a => some a
  | _ => none
/-- One operation later. -/
def Hint.dec : Hint → Hint
  | .tryp (n + 1) a => .tryp n a
  | h => h

def cc : Nat → Jmp → Gam → Nat → List WI → Hint → Option LC
  | 0, _, _, _, _, _ => none
  | n + 1, J, Γ, h, ws, hint =>
    match hint.isTryp with
    | some a => if J.tp = true ∧ J.ret.all (fun s => !(ws.flatMap WI.writes).contains s) = true then opt (slotsG Γ h J.ret) fun vs => (cc n J Γ h ws a).map (.tryp vs) else none
    | none =>
    match ws with
    | [] => (slotsG Γ h J.nrm).map (.fin .normal)
    | .ops _ [] _ :: r => cc n J Γ h r hint
    | .ops l ((true, i) :: st) ev :: r =>
      opt (l.getD i default).dst fun d =>
      if (l.getD i default).op.still = true ∧ ev.any (fun e => e.1 == i && sameL e.2.2 ((readsOf (l.getD i default)).map (look Γ)) && LO.same (look Γ d) (some e.2.1)) = true then cc n J Γ h (.ops l st ev :: r) hint
      else if known Γ (l.getD i default) = true ∧ (look Γ d).isSome = true then
        (cc n J Γ h (.ops l st ev :: r) hint).map (.chk (gmap Γ h (l.getD i default).guard) ((l.getD i default).op.mapO (rho Γ h)) (rho Γ h (.t d)))
      else none
    | .ops l ((false, i) :: st) ev :: r =>
      if known Γ (l.getD i default) = true then
        match copied (l.getD i default), (l.getD i default).dst with
        | some x, some d => if d < J.N then opt (opdG Γ x) fun y => cc n J ((d, y) :: Γ) h (.ops l st ev :: r) hint else none
        | _, some d => if d < J.N then
            (cc n J ((d, .lv h) :: Γ) (h + 1) (.ops l st (if (l.getD i default).op.cls = .q then (i, .lv h, (readsOf (l.getD i default)).map (look Γ)) :: ev else ev) :: r) hint.dec).map
              (.op (gmap Γ h (l.getD i default).guard) ((l.getD i default).op.mapO (rho Γ h)))
          else none
        | _, none => (cc n J Γ (h + 1) (.ops l st ev :: r) hint.dec).map (.op (gmap Γ h (l.getD i default).guard) ((l.getD i default).op.mapO (rho Γ h)))
      else none
    | .ac a :: r =>
      match a with
      | .skip => cc n J Γ h r hint
      | .label _ => cc n J Γ h r hint
      | .seq a b => cc n J Γ h (.ac a :: .ac b :: r) hint
      | .region l => cc n J Γ h (.ops l ((List.range l.length).map (false, ·)) [] :: r) hint
      | .dreg pl l => if pl.es.all (· < l.length) = true ∧ (J.tp = true → J.ret.all (fun s => !(l.filterMap (·.dst)).contains s) = true) then cc n J Γ h (.ops l (sched pl l pl.es 0) [] :: r) hint else none
      | .cond c p q => match hint with
        | .cond x y => opt (opdG Γ c) fun c' => opt (cc n J Γ h (.ac p :: r) x) fun la => (cc n J Γ h (.ac q :: r) y).map (.cond (c'.opd h) la)
        | .blk slots (.cond x y) k => opt (opdG Γ c) fun c' => opt (cc n { J with nrm := slots } Γ h [.ac p] x) fun la => opt (cc n { J with nrm := slots } Γ h [.ac q] y) fun lb =>
            (cc n J (pushed h slots ++ minus (p.writes ++ q.writes) Γ) (h + slots.length) r k).map (.blk none slots (.cond (c'.opd h) la lb))
        | _ => none
      | .block id b => match hint with
        | .blk slots x k => opt (cc n { J with nrm := slots, exits := (id, slots) :: J.exits } Γ h [.ac b] x) fun la =>
            (cc n J (pushed h slots ++ minus b.writes Γ) (h + slots.length) r k).map (.blk (some id) slots la)
        | _ => none
      | .loop b => match hint with
        | .loop slots x => opt (slotsG Γ h slots) fun vs => (cc n { J with nrm := slots } (pushed h slots ++ minus b.writes Γ) (h + slots.length) [.ac b] x).map (.loop slots vs)
        | _ => none
      | .exit id => opt (exitSlots J.exits id) fun slots => (slotsG Γ h slots).map (.fin (.exit id))
      | .ret => (slotsG Γ h J.ret).map (.fin .ret)
      | .bad => some .bad
      | _ => none

def resSlots (fn : Func) : List Nat := fn.results.toList.map fun | .tmp t => t | .cell a _ => a

/-- The function's code, compiled. -/
def ccF (P : Program) (G : Nat → Option (List AV)) (fn : Func) (c : Code) (tp : Bool) (nargs fuel : Nat) (hint : Hint) : Option LC :=
  if nargs ≤ fn.ntmps then
    cc fuel { N := fn.ntmps, tp, nrm := resSlots fn, exits := [], ret := resSlots fn } ((List.range nargs).map fun i => (i, .lv i)) nargs [.ac (comp P G c)] hint
  else none
/-- The results' kinds: a slot's value, or what is in a cell. -/
def resChk (P : Program) : List ResultVar → List (Option (Bool × Nat)) → Bool
  | [], [] => true
  | .tmp _ :: rs, none :: ks => resChk P rs ks
  | .cell _ t :: rs, some (g, n) :: ks => decide (0 < P.cellsOf t ∧ (aggT P t ∨ P.cellsOf t = 1) ∧ (P.underlying t).isSome ∧ aggT P t = g ∧ P.cellsOf t = n) && resChk P rs ks
  | _, _ => false

/-- Whether this is the function's code. -/
def LF.okIn (P : Program) (G : Nat → Option (List AV)) (fn : Func) (c : Code) (lf : LF) : Prop := ccF P G fn c lf.tp lf.nargs 100000 lf.code.hint = some lf.code ∧ resChk P fn.results.toList lf.res = true
end Go.Am

namespace Go.Am
open Go

section
variable {tm env : List AV} {s : Store} {ρ : Opd → Opd}

theorem cls_mapO (o : AOp) : (o.mapO ρ).cls = o.cls := by
  cases o with
  | bsl own z n ps => cases own <;> rfl
  | _ => rfl

theorem asNatO_mapO {y : Option Opd} (h : ∀ z ∈ y.toList, ev tm z = ev env (ρ z)) : asNatO env (y.map ρ) = asNatO tm y := by
  cases y with
  | none => rfl
  | some z => simp only [asNatO, Option.map]; rw [h z (by simp)]

theorem qop_mapO {o : AOp} (h : ∀ x ∈ o.opds, ev tm x = ev env (ρ x)) : qop env s (o.mapO ρ) = qop tm s o := by
  cases o with
  | build z ps =>
    simp only [AOp.opds, List.mem_map, forall_exists_index, and_imp, forall_apply_eq_imp_iff₂] at h
    simp only [qop, AOp.mapO, List.map_map]
    rw [List.map_congr_left fun p hp => by simp only [Function.comp]; rw [← h p hp]]
  | bsl own z n ps =>
    simp only [AOp.opds, List.mem_map, forall_exists_index, and_imp, forall_apply_eq_imp_iff₂] at h
    cases own with
    | true => rfl
    | false =>
      simp only [qop, AOp.mapO, List.map_map]
      rw [List.map_congr_left fun p hp => by simp only [Function.comp]; rw [← h p hp]]
  | mkfn f a c =>
    simp only [AOp.opds, List.mem_append] at h
    simp only [qop, AOp.mapO, List.map_map]
    rw [List.map_congr_left (l := a) (f := ev env ∘ ρ) (g := ev tm) fun p hp => (h p (.inl hp)).symm, List.map_congr_left (l := c) (f := ev env ∘ ρ) (g := ev tm) fun p hp => (h p (.inr hp)).symm]
  | slice str sz x lo hi mx =>
    simp only [AOp.opds, List.mem_append, List.mem_singleton] at h
    simp only [qop, AOp.mapO]
    rw [asNatO_mapO fun z hz => h z (by simp [hz]), asNatO_mapO fun z hz => h z (by simp [hz]), asNatO_mapO fun z hz => h z (by simp [hz]), h x (by simp)]
  | _ => simp_all [AOp.opds, qop, AOp.mapO]

theorem aop_mapO {o : AOp} (h : ∀ x ∈ o.opds, ev tm x = ev env (ρ x)) : aop s env (o.mapO ρ) = aop s tm o := by
  cases o with
  | bsl own z n ps =>
    simp only [AOp.opds, List.mem_map, forall_exists_index, and_imp, forall_apply_eq_imp_iff₂] at h
    cases own with
    | false => rfl
    | true =>
      simp only [aop, AOp.mapO, List.map_map]
      rw [List.map_congr_left fun p hp => by simp only [Function.comp]; rw [← h p hp]]
  | _ => simp_all [AOp.opds, aop, AOp.mapO]

theorem eop_mapO {o : AOp} (h : ∀ x ∈ o.opds, ev tm x = ev env (ρ x)) : eop env s (o.mapO ρ) = eop tm s o := by
  cases o <;> simp_all [AOp.opds, eop, AOp.mapO]

def VO.with (env : List AV) : VO → VO
  | .val v st => .val v { st with tm := env }
  | .leave ch st => .leave ch { st with tm := env }

variable {E : Env} {call : CallF}

theorem afterV_tm (st : St) (r : Option (ARes × AMode × Store)) (env : List AV) : afterV { st with tm := env } r = (afterV st r).map (VO.with env) := by
  rcases r with _ | ⟨v | ch, m, s⟩ <;> rfl

theorem valOp_mapO {o : AOp} {st : St} (h : ∀ x ∈ o.opds, ev st.tm x = ev env (ρ x)) : valOp E call (o.mapO ρ) { st with tm := env } = (valOp E call o st).map (VO.with env) := by
  obtain ⟨tm0, df0, md0, sg0⟩ := st
  simp only at h
  unfold valOp
  rw [cls_mapO]
  cases hc : o.cls with
  | q =>
    simp only
    rw [qop_mapO h]
    cases qop tm0 sg0 o <;> rfl
  | a =>
    simp only
    rw [aop_mapO h]
    cases aop sg0 tm0 o <;> rfl
  | e =>
    have hmap : ∀ args : List Opd, (∀ x ∈ args, ev tm0 x = ev env (ρ x)) → (args.map ρ).map (ev env) = args.map (ev tm0) := by
      intro args ha
      rw [List.map_map]
      exact List.map_congr_left fun x hx => (ha x hx).symm
    cases o with
    | callv f args =>
      simp only [AOp.opds, List.mem_cons] at h
      simp only [AOp.mapO]
      rw [← h f (.inl rfl), hmap args fun x hx => h x (.inr hx)]
      cases ev tm0 f <;> try rfl
      rename_i f first cap
      simp only
      cases target E.prog f (first ++ args.map (ev tm0)) cap with
      | none => rfl
      | some g => exact afterV_tm ⟨tm0, df0, md0, sg0⟩ _ env
    | calli r n args =>
      simp only [AOp.opds, List.mem_cons] at h
      simp only [AOp.mapO]
      rw [← h r (.inl rfl), hmap args fun x hx => h x (.inr hx)]
      cases ev tm0 r <;> try rfl
      rename_i t v
      simp only
      cases recv E.prog t n v with
      | none => rfl
      | some g => exact afterV_tm ⟨tm0, df0, md0, sg0⟩ _ env
    | defer f args =>
      simp only [AOp.opds, List.mem_cons] at h
      simp only [AOp.mapO]
      rw [← h f (.inl rfl), hmap args fun x hx => h x (.inr hx)]
      cases md0 <;> cases ev tm0 f <;> rfl
    | recover =>
      simp only [AOp.mapO]
      cases md0 with
      | pan ch => rcases ch with _ | ⟨⟨v, _ | _⟩, older⟩ <;> rfl
      | _ => rfl
    | panic x =>
      simp only [AOp.opds, List.mem_singleton, forall_eq] at h
      simp only [AOp.mapO]
      rw [← h]
      cases ev tm0 x <;> rfl
    | asg x =>
      have := eop_mapO (s := sg0) (o := .asg x) h
      simp only [AOp.mapO] at this ⊢
      rw [this]; cases eop tm0 sg0 (.asg x) <;> rfl
    | store n a x =>
      have := eop_mapO (s := sg0) (o := .store n a x) h
      simp only [AOp.mapO] at this ⊢
      rw [this]; cases eop tm0 sg0 (.store n a x) <;> rfl
    | append z b a x =>
      have := eop_mapO (s := sg0) (o := .append z b a x) h
      simp only [AOp.mapO] at this ⊢
      rw [this]; cases eop tm0 sg0 (.append z b a x) <;> rfl
    | copy z a x =>
      have := eop_mapO (s := sg0) (o := .copy z a x) h
      simp only [AOp.mapO] at this ⊢
      rw [this]; cases eop tm0 sg0 (.copy z a x) <;> rfl
    | mapupd k a x v =>
      have := eop_mapO (s := sg0) (o := .mapupd k a x v) h
      simp only [AOp.mapO] at this ⊢
      rw [this]; cases eop tm0 sg0 (.mapupd k a x v) <;> rfl
    | mapent k z a x =>
      have := eop_mapO (s := sg0) (o := .mapent k z a x) h
      simp only [AOp.mapO] at this ⊢
      rw [this]; cases eop tm0 sg0 (.mapent k z a x) <;> rfl
    | entst a x v =>
      have := eop_mapO (s := sg0) (o := .entst a x v) h
      simp only [AOp.mapO] at this ⊢
      rw [this]; cases eop tm0 sg0 (.entst a x v) <;> rfl
    | srange x =>
      have := eop_mapO (s := sg0) (o := .srange x) h
      simp only [AOp.mapO] at this ⊢
      rw [this]; cases eop tm0 sg0 (.srange x) <;> rfl
    | snext x =>
      have := eop_mapO (s := sg0) (o := .snext x) h
      simp only [AOp.mapO] at this ⊢
      rw [this]; cases eop tm0 sg0 (.snext x) <;> rfl
    | bad => rfl
    | _ => first | (simp [AOp.cls] at hc; done) | (rename_i b _ _ _; cases b <;> simp [AOp.cls] at hc)

theorem valOp_keeps {o : AOp} {st : St} {r : VO} (h : valOp E call o st = some r) : r.with st.tm = r := by
  have h2 := valOp_mapO (E := E) (call := call) (o := o) (st := st) (env := st.tm) (ρ := id) (fun _ _ => rfl)
  have hid : o.mapO id = o := by
    cases o <;> simp [AOp.mapO]
  rw [hid] at h2
  have h3 : valOp E call o st = (valOp E call o st).map (VO.with st.tm) := h2
  rw [h] at h3
  exact (Option.some.inj h3).symm

/-- An operation, apart from where its value goes. -/
theorem doOp_val (o : AOper) (st : St) : doOp E call o st = opt (wanted st.tm o) fun w => if w = false then some (.next { st with tm := put st.tm o.dst .undef }) else
    (valOp E call o.op st).map fun | .val v st' => .next { st' with tm := put st.tm o.dst v } | .leave ch st' => .leave ch st' := by
  obtain ⟨tm0, df0, md0, sg0⟩ := st
  unfold doOp valOp
  simp only
  cases wanted tm0 o with
  | none => rfl
  | some w =>
    cases w with
    | false => rfl
    | true =>
      simp only [opt]
      rw [if_neg (by simp), if_neg (by simp)]
      have hac : ∀ r, afterCall o ⟨tm0, df0, md0, sg0⟩ r = (afterV ⟨tm0, df0, md0, sg0⟩ r).map fun | .val v st' => .next { st' with tm := put tm0 o.dst v } | .leave ch st' => .leave ch st' := by
        intro r
        rcases r with _ | ⟨v | ch, m, s⟩ <;> rfl
      cases hc : o.op.cls with
      | q => simp only; cases qop tm0 sg0 o.op <;> rfl
      | a => simp only; cases aop sg0 tm0 o.op <;> rfl
      | e =>
        simp only
        cases ho : o.op with
        | callv f args =>
          simp only
          cases ev tm0 f <;> try rfl
          simp only
          rename_i f first cap
          cases target E.prog f (first ++ args.map (ev tm0)) cap with
          | none => rfl
          | some g => exact hac _
        | calli r n args =>
          simp only
          cases ev tm0 r <;> try rfl
          simp only
          rename_i t v
          cases recv E.prog t n v with
          | none => rfl
          | some g => exact hac _
        | defer f args => simp only; cases md0 <;> cases ev tm0 f <;> rfl
        | recover =>
          simp only
          cases md0 with
          | pan ch => rcases ch with _ | ⟨⟨v, _ | _⟩, older⟩ <;> rfl
          | _ => rfl
        | panic x => simp only; cases ev tm0 x <;> rfl
        | _ => simp only [Option.map_map]; rfl
end
end Go.Am

namespace Go.Am
open Go

section
variable {E : Env} {call : CallF} {k : Nat}

def runStep (E : Env) (call : CallF) (l : List AOper) (p : Bool × Nat) (st : St) : Option OR :=
  if p.1 then match (l.getD p.2 default).dst with
    | none => none
    | some d => opt (qval st.tm st.sg (l.getD p.2 default)) fun v => if E.eqv v (st.tm.getD d .undef) then some (.next st) else none
  else doOp E call (l.getD p.2 default) st

def runSteps (E : Env) (call : CallF) (l : List AOper) : List (Bool × Nat) → St → Option (AX × St)
  | [], st => some (.normal, st)
  | p :: r, st => opt (runStep E call l p st) fun
    | .next st => runSteps E call l r st
    | .leave ch st => some (.panic ch, st)

def runW (E : Env) (call : CallF) (k : Nat) : List WI → St → Option (AX × St)
  | [], st => some (.normal, st)
  | .ac a :: r, st => opt (exec E call k a none st) fun
    | (.normal, st) => runW E call k r st
    | res => some res
  | .ops l steps _ :: r, st => opt (runSteps E call l steps st) fun
    | (.normal, st) => runW E call k r st
    | res => some res

theorem runSteps_append (l : List AOper) : ∀ (a b : List (Bool × Nat)) (st : St), runSteps E call l (a ++ b) st = opt (runSteps E call l a st) fun
    | (.normal, st) => runSteps E call l b st
    | res => some res := by
  intro a
  induction a with
  | nil => intro b st; rfl
  | cons p a ih =>
    intro b st
    simp only [List.cons_append, runSteps]
    cases runStep E call l p st with
    | none => rfl
    | some r => cases r with
      | next st => exact ih b st
      | leave ch st => rfl

theorem doOp_quiet {o : AOper} (hc : o.op.cls ≠ .e) {st : St} {ch : List (AV × Bool)} {st' : St} : doOp E call o st ≠ some (.leave ch st') := by
  intro h
  unfold doOp at h
  obtain ⟨w, _, h⟩ := opt_some h
  split at h
  · cases h
  · cases hcl : o.op.cls with
    | q => rw [hcl] at h; simp only at h; cases hq : qop st.tm st.sg o.op <;> rw [hq] at h <;> cases h
    | a => rw [hcl] at h; simp only at h; cases hq : aop st.sg st.tm o.op <;> rw [hq] at h <;> cases h
    | e => exact hc hcl

theorem pass_steps {pl : Plan} {ops : List AOper} {s : Nat} : ∀ (rest : List AOper) (j : Nat), ops.drop j = rest → ∀ (st st' : St) (ax : AX), runSteps E call ops (passIx pl s rest j) st = some (ax, st') → ax = .normal ∧ pass E call pl s rest j st = some st' := by
  intro rest
  induction rest with
  | nil => intro j _ st st' ax h; cases h; exact ⟨rfl, rfl⟩
  | cons o rest ih =>
    intro j hd st st' ax h
    have hj : ops.getD j default = o := by
      have h0 := congrArg List.head? hd
      rw [List.head?_drop] at h0
      rw [List.getD_eq_getElem?_getD, h0]; rfl
    have hd' : ops.drop (j + 1) = rest := by
      have := congrArg List.tail hd
      rwa [List.tail_drop] at this
    simp only [passIx] at h
    simp only [pass]
    by_cases hc : o.op.cls ≠ .e ∧ pl.lo.getD j 0 = s
    · rw [if_pos hc] at h ⊢
      simp only [runSteps, runStep, hj] at h
      obtain ⟨r, hr, h'⟩ := opt_some h
      have hr' : doOp E call o st = some r := hr
      cases r with
      | next st1 =>
        rw [hr']
        exact ih (j + 1) hd' st1 st' ax h'
      | leave ch st1 => exact absurd hr' (doOp_quiet hc.1)
    · rw [if_neg hc] at h ⊢
      exact ih (j + 1) hd' st st' ax h

theorem check_steps {pl : Plan} {ops : List AOper} {s : Nat} : ∀ (rest : List AOper) (j : Nat), ops.drop j = rest → ∀ (st st' : St) (ax : AX), runSteps E call ops (checkIx pl s rest j) st = some (ax, st') → ax = .normal ∧ st' = st ∧ checkAt E pl s st rest j = true := by
  intro rest
  induction rest with
  | nil => intro j _ st st' ax h; cases h; exact ⟨rfl, rfl, rfl⟩
  | cons o rest ih =>
    intro j hd st st' ax h
    have hj : ops.getD j default = o := by
      have h0 := congrArg List.head? hd
      rw [List.head?_drop] at h0
      rw [List.getD_eq_getElem?_getD, h0]; rfl
    have hd' : ops.drop (j + 1) = rest := by
      have := congrArg List.tail hd
      rwa [List.tail_drop] at this
    simp only [checkIx] at h
    simp only [checkAt]
    by_cases hc : o.op.cls = .q ∧ pl.lo.getD j 0 ≤ s ∧ s ≤ pl.hi.getD j 0
    · rw [if_pos hc] at h ⊢
      simp only [runSteps, runStep, hj, if_true] at h
      obtain ⟨r, hr, h'⟩ := opt_some h
      cases hdst : o.dst with
      | none => rw [hdst] at hr; cases hr
      | some d =>
        rw [hdst] at hr
        simp only at hr
        obtain ⟨v, hv, hr'⟩ := opt_some hr
        split at hr'
        · rename_i he
          cases hr'
          obtain ⟨a, b, c⟩ := ih (j + 1) hd' st st' ax h'
          refine ⟨a, b, ?_⟩
          simp [hv, c]; simpa [List.getD_eq_getElem?_getD] using he
        · cases hr'
    · rw [if_neg hc] at h ⊢
      obtain ⟨a, b, c⟩ := ih (j + 1) hd' st st' ax h
      exact ⟨a, b, by simpa using c⟩

theorem blur_other {ops : List AOper} {tm : List AV} {d : Nat} (h : d ∉ ops.filterMap (·.dst)) : (blur ops tm).getD d .undef = tm.getD d .undef := by
  have h0 : ∀ i, i < ops.length → (ops.getD i default).dst ≠ some d := by
    intro i hi hd
    refine h (List.mem_filterMap.2 ⟨ops.getD i default, ?_, hd⟩)
    rw [List.getD_eq_getElem?_getD, List.getElem?_eq_getElem hi]
    exact List.getElem_mem hi
  obtain ⟨hl, h1⟩ := blur_get ops tm d
  simp only [List.getD_eq_getElem?_getD]
  rcases h1 with ⟨⟨i, hi, _, hd⟩, _⟩ | ⟨_, h2⟩ | h2
  · exact absurd hd (h0 i hi)
  · rw [h2]
  · rw [List.getElem?_eq_none (by omega), List.getElem?_eq_none h2]

/-- A region that draws its order is its steps. -/
theorem drun_steps {pl : Plan} {ops : List AOper} : ∀ (es : List Nat), (∀ e ∈ es, e < ops.length) → ∀ (s : Nat) (st st' : St) (ax : AX), runSteps E call ops (sched pl ops es s) st = some (ax, st') →
    ∃ tm', drun E call pl ops es s st = some (ax, { st' with tm := tm' }) ∧ ((ax = .normal ∧ tm' = st'.tm) ∨ ∃ ch, ax = .panic ch) ∧ tm'.length = st'.tm.length ∧ ∀ d, d ∉ ops.filterMap (·.dst) → tm'.getD d .undef = st'.tm.getD d .undef := by
  intro es
  induction es with
  | nil =>
    intro _ s st st' ax h
    simp only [sched, runSteps_append] at h
    obtain ⟨⟨x1, st1⟩, h1, h'⟩ := opt_some h
    obtain ⟨rfl, hp⟩ := pass_steps ops 0 rfl st st1 x1 h1
    obtain ⟨rfl, rfl, hc⟩ := check_steps ops 0 rfl st1 st' ax h'
    exact ⟨st'.tm, by simp only [drun, hp, opt, hc]; rfl, .inl ⟨rfl, rfl⟩, rfl, fun _ _ => rfl⟩
  | cons e es ih =>
    intro hes s st st' ax h
    simp only [sched, runSteps_append, List.append_assoc] at h
    obtain ⟨⟨x1, st1⟩, h1, h'⟩ := opt_some h
    obtain ⟨rfl, hp⟩ := pass_steps ops 0 rfl st st1 x1 h1
    obtain ⟨⟨x2, st2⟩, h2, h''⟩ := opt_some h'
    obtain ⟨rfl, rfl, hc⟩ := check_steps ops 0 rfl st1 st2 x2 h2
    simp only [runSteps, runStep] at h''
    obtain ⟨r, hr, h3⟩ := opt_some h''
    have hr' : doOp E call (ops.getD e default) st2 = some r := hr
    have hoe : ops[e]? = some (ops.getD e default) := by
      have := hes e (by simp)
      simp [List.getD_eq_getElem?_getD, List.getElem?_eq_getElem this]
    simp only [drun, hp, opt, hc, if_true, hoe, hr']
    cases r with
    | next st3 => exact ih (fun e he => hes e (by simp [he])) (s + 1) st3 st' ax h3
    | leave ch st3 =>
      simp only [Option.some.injEq, Prod.mk.injEq] at h3
      obtain ⟨rfl, rfl⟩ := h3
      exact ⟨_, rfl, .inr ⟨ch, rfl⟩, (blur_get ops st3.tm 0).1, fun d hd => blur_other hd⟩

theorem region_steps (pre : List AOper) : ∀ (post : List AOper) (st : St), runSteps E call (pre ++ post) ((List.range' pre.length post.length).map (false, ·)) st = runOps E call post st := by
  intro post
  induction post generalizing pre with
  | nil => intro st; rfl
  | cons o post ih =>
    intro st
    simp only [List.length_cons, List.range'_succ, List.map_cons, runSteps, runStep, runOps]
    have : (pre ++ o :: post).getD pre.length default = o := by simp [List.getD_eq_getElem?_getD]
    rw [this]
    simp only [Bool.false_eq_true, if_false]
    cases doOp E call o st with
    | none => rfl
    | some r => cases r with
      | next st1 =>
        have := ih (pre ++ [o]) st1
        simp only [List.append_assoc, List.cons_append, List.nil_append, List.length_append, List.length_cons, List.length_nil, Nat.zero_add] at this
        exact this
      | leave ch st1 => rfl
end
end Go.Am

namespace Go.Am
open Go

def LO.ok (h : Nat) : LO → Prop | .lv j => j < h | .c _ => True
def evL (env : List AV) : LO → AV | .lv j => env.getD (env.length - 1 - j) .undef | .c v => v
def evO (env : List AV) : Option LO → AV | some x => evL env x | none => .undef

abbrev sl (tm : List AV) (s : Nat) : AV := tm.getD s .undef

def Agree (Γ : Gam) (env tm : List AV) : Prop := ∀ d x, look Γ d = some x → x.ok env.length ∧ sl tm d = evL env x

section
variable {Γ : Gam} {env tm : List AV}

theorem LO.ok.mono {h h' : Nat} {x : LO} (hx : x.ok h) (hh : h ≤ h') : x.ok h' := by
  cases x with
  | lv j => exact Nat.lt_of_lt_of_le hx hh
  | c v => trivial

theorem ev_opd {x : LO} : ev env (x.opd env.length) = evL env x := by cases x <;> rfl

theorem evL_app {x : LO} (ys : List AV) (hx : x.ok env.length) : evL (ys ++ env) x = evL env x := by
  cases x with
  | c v => rfl
  | lv j =>
    have : j < env.length := hx
    simp only [evL, List.length_append, List.getD_eq_getElem?_getD]
    rw [List.getElem?_append_right (by omega)]
    congr 2
    omega

theorem look_append (a b : Gam) (d : Nat) : look (a ++ b) d = match look a d with | some x => some x | none => look b d := by
  induction a with
  | nil => rfl
  | cons p a ih =>
    obtain ⟨e, x⟩ := p
    simp only [List.cons_append, look]
    split
    · rfl
    · exact ih

theorem look_minus (ws : List Nat) (Γ : Gam) (d : Nat) : look (minus ws Γ) d = if d ∈ ws then none else look Γ d := by
  induction Γ with
  | nil => simp [minus, look]
  | cons p Γ ih =>
    obtain ⟨e, x⟩ := p
    simp only [minus, List.filter_cons] at ih ⊢
    by_cases he : e ∈ ws
    · simp only [List.contains_iff_mem.2 he, Bool.not_true, Bool.false_eq_true, if_false]
      rw [ih]
      by_cases hd : d ∈ ws
      · simp [hd]
      · have : e ≠ d := by rintro rfl; exact hd he
        simp [hd, look, this]
    · have : ws.contains e = false := by simpa using he
      simp only [this, Bool.not_false, if_true, look]
      by_cases hed : e = d
      · subst hed; simp [he]
      · simp only [hed, if_false]; exact ih

theorem Agree.push (h : Agree Γ env tm) (ys : List AV) : Agree Γ (ys ++ env) tm := by
  intro d x hx
  obtain ⟨a, b⟩ := h d x hx
  exact ⟨a.mono (by simp), by rw [evL_app ys a]; exact b⟩

theorem Agree.set (h : Agree Γ env tm) {d : Nat} {y : LO} {v : AV} (hd : d < tm.length) (hy : y.ok env.length) (hv : evL env y = v) : Agree ((d, y) :: Γ) env (put tm (some d) v) := by
  intro e x hx
  simp only [look] at hx
  split at hx
  · rename_i he
    cases hx; subst he
    refine ⟨hy, ?_⟩
    rw [sl, getD_put_same, if_pos hd, hv]
  · rename_i he
    obtain ⟨a, b⟩ := h e x hx
    refine ⟨a, ?_⟩
    rw [sl, getD_put _ _ _ _ (by simpa using he)]; exact b

theorem Agree.minus (h : Agree Γ env tm) {ws : List Nat} {tm' : List AV} (hs : ∀ d, d ∉ ws → sl tm' d = sl tm d) : Agree (minus ws Γ) env tm' := by
  intro d x hx
  rw [look_minus] at hx
  split at hx
  · cases hx
  · rename_i hd
    obtain ⟨a, b⟩ := h d x hx
    exact ⟨a, by rw [hs d hd]; exact b⟩

theorem look_pushed : ∀ (slots : List Nat) (h d : Nat) (x : LO), look (pushed h slots) d = some x → ∃ p r, slots = p ++ d :: r ∧ x = .lv (h + r.length) := by
  intro slots
  induction slots with
  | nil => intro h d x hx; cases hx
  | cons s slots ih =>
    intro h d x hx
    simp only [pushed, look] at hx
    split at hx
    · rename_i he
      cases hx; subst he
      exact ⟨[], slots, rfl, rfl⟩
    · obtain ⟨p, r, rfl, h2⟩ := ih h d x hx
      exact ⟨s :: p, r, rfl, h2⟩

theorem Agree.pushed {slots : List Nat} {Γ' : Gam} (h : Agree Γ' env tm) : Agree (pushed env.length slots ++ Γ') (slots.map (sl tm) ++ env) tm := by
  intro d x hx
  rw [look_append] at hx
  cases hp : look (Go.Am.pushed env.length slots) d with
  | none =>
    rw [hp] at hx
    exact h.push _ d x hx
  | some y =>
    rw [hp] at hx
    cases hx
    obtain ⟨p, r, rfl, rfl⟩ := look_pushed slots env.length d x hp
    refine ⟨by simp [LO.ok]; omega, ?_⟩
    simp only [evL, List.map_append, List.map_cons, List.append_assoc, List.cons_append, List.length_append, List.length_cons, List.length_map, List.getD_eq_getElem?_getD]
    rw [List.getElem?_append_right (by simp; omega)]
    have : p.length + (r.length + env.length + 1) - 1 - (env.length + r.length) - (p.map (sl tm)).length = 0 := by simp; omega
    rw [this]
    simp

theorem slotsG_ev (h : Agree Γ env tm) : ∀ (slots : List Nat) (vs : List Opd), slotsG Γ env.length slots = some vs → vs.map (ev env) = slots.map (sl tm) := by
  intro slots
  induction slots with
  | nil => intro vs hv; cases hv; rfl
  | cons s slots ih =>
    intro vs hv
    simp only [slotsG] at hv
    obtain ⟨x, hx, hv'⟩ := opt_some hv
    cases hr : slotsG Γ env.length slots with
    | none => rw [hr] at hv'; cases hv'
    | some vs' =>
      rw [hr] at hv'; cases hv'
      simp only [List.map_cons]
      rw [ih vs' hr, ev_opd, (h s x hx).2]

theorem opdG_ev (h : Agree Γ env tm) {x : Opd} {y : LO} (hy : opdG Γ x = some y) : y.ok env.length ∧ ev tm x = evL env y := by
  cases x with
  | t n => exact h n y hy
  | c v => cases hy; exact ⟨trivial, rfl⟩

theorem rho_ev (h : Agree Γ env tm) {x : Opd} {y : LO} (hy : opdG Γ x = some y) : ev tm x = ev env (rho Γ env.length x) := by
  simp only [rho, hy]
  rw [ev_opd]; exact (opdG_ev h hy).2

theorem known_opd {o : AOper} (hk : known Γ o = true) : ∀ x ∈ o.op.opds, ∃ y, opdG Γ x = some y := by
  intro x hx
  cases x with
  | c v => exact ⟨_, rfl⟩
  | t n =>
    have := List.all_eq_true.1 hk n (List.mem_append_left _ (List.mem_filterMap.2 ⟨.t n, hx, rfl⟩))
    exact Option.isSome_iff_exists.1 this

theorem known_guard {o : AOper} (hk : known Γ o = true) {t : Nat} {b : Bool} (hg : o.guard = some (t, b)) : ∃ y, look Γ t = some y := by
  have := List.all_eq_true.1 hk t (List.mem_append_right _ (by simp [hg]))
  exact Option.isSome_iff_exists.1 this

theorem wantedG_eq (h : Agree Γ env tm) {o : AOper} (hk : known Γ o = true) : wantedG env (gmap Γ env.length o.guard) = wanted tm o := by
  unfold wanted
  cases hg : o.guard with
  | none => rfl
  | some p =>
    obtain ⟨t, b⟩ := p
    obtain ⟨y, hy⟩ := known_guard hk hg
    simp only [gmap, Option.map, wantedG]
    rw [← rho_ev h (x := .t t) hy]
    rfl

variable {E : Env} {call : CallF} {k : Nat}

theorem lqval_eq (h : Agree Γ env tm) {o : AOper} (hk : known Γ o = true) (s : Store) : lqval env s (gmap Γ env.length o.guard) (o.op.mapO (rho Γ env.length)) = qval tm s o := by
  unfold lqval qval
  rw [wantedG_eq h hk]
  congr 1; funext w
  cases w with
  | false => rfl
  | true =>
    simp only [if_true]
    exact qop_mapO fun x hx => by
      obtain ⟨y, hy⟩ := known_opd hk x hx
      exact rho_ev h hy

/-- A step of an operation. -/
theorem op_step {st : St} (h : Agree Γ st.tm tm) {o : AOper} (hk : known Γ o = true) {r : VO} (hr : lop E call (gmap Γ st.tm.length o.guard) (o.op.mapO (rho Γ st.tm.length)) st = some r) :
    doOp E call o { st with tm := tm } = some (match r with | .val v st' => .next { st' with tm := put tm o.dst v } | .leave ch st' => .leave ch { st' with tm := tm }) ∧
    (o.op.cls = .q → ∃ v, r = .val v st ∧ qval tm st.sg o = some v) ∧ (∀ ch st', r = .leave ch st' → st'.tm = st.tm) := by
  unfold lop at hr
  rw [wantedG_eq h hk] at hr
  obtain ⟨w, hw, hr'⟩ := opt_some hr
  rw [doOp_val]
  have hw' : wanted tm o = some w := hw
  simp only [hw', opt]
  cases w with
  | false =>
    rw [if_pos rfl] at hr' ⊢
    cases hr'
    exact ⟨rfl, fun _ => ⟨_, rfl, by simp [qval, hw', opt]⟩, fun ch st' he => by cases he⟩
  | true =>
    rw [if_neg (by simp)] at hr' ⊢
    have hm : valOp E call (o.op.mapO (rho Γ st.tm.length)) st = _ := valOp_mapO (E := E) (call := call) (o := o.op) (st := { st with tm := tm }) (env := st.tm) (ρ := rho Γ st.tm.length) (fun x hx => by
      obtain ⟨y, hy⟩ := known_opd hk x hx
      exact rho_ev h hy)
    simp only [hr'] at hm
    cases hv : valOp E call o.op { st with tm := tm } with
    | none => rw [hv] at hm; cases hm
    | some r0 =>
      rw [hv] at hm
      have hm' := Option.some.inj hm
      subst hm'
      refine ⟨?_, fun hc => ?_, fun ch st' he => ?_⟩
      · have hkp := valOp_keeps hv
        cases r0 with
        | val v st' => rfl
        | leave ch st' =>
          simp only [Option.map, VO.with] at hkp ⊢
          simp only [VO.leave.injEq, true_and] at hkp
          rw [hkp]
      · unfold valOp at hv
        rw [hc] at hv
        simp only at hv
        cases hq : qop tm st.sg o.op with
        | none => rw [hq] at hv; cases hv
        | some v =>
          rw [hq] at hv; cases hv
          exact ⟨v, rfl, by simp [qval, hw', opt, hq]⟩
      · cases r0 with
        | val v st' => cases he
        | leave ch0 st0 => cases he; rfl

theorem qop_still {o : AOp} (h : o.still = true) (tm : List AV) (s s' : Store) : qop tm s o = qop tm s' o := by
  cases o with
  | bsl own _ _ _ => cases own <;> first | rfl | cases h
  | len k x =>
    cases k with
    | str => cases hx : ev tm x <;> simp [qop, hx]
    | _ => cases h
  | _ => first | rfl | cases h

def evOk' (l : List AOper) (env : List AV) (e : Nat × LO × List (Option LO)) : Prop :=
  e.2.1.ok env.length ∧ (∀ x, some x ∈ e.2.2 → x.ok env.length) ∧
  ((l.getD e.1 default).op.still = true → ∀ tm s, (readsOf (l.getD e.1 default)).map (sl tm) = e.2.2.map (evO env) → qval tm s (l.getD e.1 default) = some (evL env e.2.1))

def WI.evOk (env : List AV) : WI → Prop
  | .ac _ => True
  | .ops l _ ev => ∀ e ∈ ev, evOk' l env e

theorem evOk'.push {l : List AOper} {e : Nat × LO × List (Option LO)} (h : evOk' l env e) (ys : List AV) : evOk' l (ys ++ env) e := by
  obtain ⟨h1, h2, h3⟩ := h
  refine ⟨h1.mono (by simp), fun x hx => (h2 x hx).mono (by simp), fun hs tm s hr => ?_⟩
  rw [evL_app ys h1]
  refine h3 hs tm s (hr.trans (List.map_congr_left fun x hx => ?_))
  cases x with
  | none => rfl
  | some x => exact evL_app ys (h2 x hx)

theorem WI.evOk.push {w : WI} (h : w.evOk env) (ys : List AV) : w.evOk (ys ++ env) := by
  cases w with
  | ac a => trivial
  | ops l st ev => exact fun e he => evOk'.push (h e he) ys

theorem sameL_eq : ∀ {xs ys : List (Option LO)}, sameL xs ys = true → xs = ys := by
  intro xs
  induction xs with
  | nil => intro ys h; cases ys with | nil => rfl | cons _ _ => cases h
  | cons x xs ih =>
    intro ys h
    cases ys with
    | nil => cases h
    | cons y ys =>
      simp only [sameL, Bool.and_eq_true] at h
      rw [ih h.2]
      cases x with
      | none => cases h.1
      | some x => cases y with
        | none => cases x <;> cases h.1
        | some y => cases x <;> cases y <;> simp [LO.same] at h <;> simp [h]
end
end Go.Am

namespace Go.Am
open Go

def Post (J : Jmp) (x : LX) (ax : AX) (vals tm' : List AV) : Prop :=
  match x with
  | .done .normal => ax = .normal ∧ vals = J.nrm.map (sl tm')
  | .done (.exit id) => ax = .exit id ∧ ∃ slots, exitSlots J.exits id = some slots ∧ vals = slots.map (sl tm')
  | .done .ret => ax = .ret ∧ vals = J.ret.map (sl tm')
  | .panic ch => ax = .panic ch ∧ (vals = [] ∨ J.tp = true ∧ vals = J.ret.map (sl tm'))

section
variable {E : Env} {call : CallF} {k : Nat}

def Res (E : Env) (call : CallF) (k : Nat) (J : Jmp) (ws : List WI) (tm : List AV) (st : St) (x : LX) (st' : St) : Prop :=
  ∃ ax tm', runW E call k ws { st with tm := tm } = some (ax, { st' with tm := tm' }) ∧ tm'.length = J.N ∧ (∀ d, d ∉ ws.flatMap WI.writes → sl tm' d = sl tm d) ∧ Post J x ax st'.tm tm'

theorem runW_seq (a b : AC) (r : List WI) (st : St) : runW E call k (.ac (.seq a b) :: r) st = runW E call k (.ac a :: .ac b :: r) st := by
  simp only [runW, exec]
  cases exec E call k a none st with
  | none => rfl
  | some p =>
    obtain ⟨x, st1⟩ := p
    cases x <;> rfl

theorem runW_region (l : List AOper) (ev : Evd) (r : List WI) (st : St) : runW E call k (.ac (.region l) :: r) st = runW E call k (.ops l ((List.range l.length).map (false, ·)) ev :: r) st := by
  have h := region_steps (E := E) (call := call) [] l st
  simp only [List.nil_append, List.length_nil] at h
  simp only [runW, exec]
  rw [List.range_eq_range', h]

theorem runW_one (a : AC) (st : St) : runW E call k [.ac a] st = exec E call k a none st := by
  simp only [runW]
  cases exec E call k a none st with
  | none => rfl
  | some p =>
    obtain ⟨x, st1⟩ := p
    cases x <;> rfl

theorem Post.sub {J J' : Jmp} {x : LX} {ax : AX} {vals tm' : List AV} (h : Post J' x ax vals tm') (h1 : J'.exits = J.exits) (h2 : J'.ret = J.ret) (h3 : J'.tp = J.tp) (hx : x ≠ .done .normal) : Post J x ax vals tm' := by
  match x with
  | .done .normal => exact absurd rfl hx
  | .done (.exit id) => obtain ⟨a, b⟩ := h; exact ⟨a, by rw [← h1]; exact b⟩
  | .done .ret => obtain ⟨a, b⟩ := h; exact ⟨a, by rw [← h2]; exact b⟩
  | .panic ch => obtain ⟨a, b⟩ := h; exact ⟨a, by rw [← h2, ← h3]; exact b⟩

theorem Post.leaves {J : Jmp} {x : LX} {ax : AX} {vals tm' : List AV} (h : Post J x ax vals tm') (hx : x ≠ .done .normal) : ax ≠ .normal := by
  match x with
  | .done .normal => exact absurd rfl hx
  | .done (.exit id) => obtain ⟨rfl, _⟩ := h; simp
  | .done .ret => obtain ⟨rfl, _⟩ := h; simp
  | .panic ch => obtain ⟨rfl, _⟩ := h; simp

/-- What leaves the first piece of work leaves all of it. -/
theorem runW_leave {w : WI} {r : List WI} {st st' : St} {ax : AX} (h : runW E call k [w] st = some (ax, st')) (hx : ax ≠ .normal) : runW E call k (w :: r) st = some (ax, st') := by
  cases w with
  | ac a =>
    rw [runW_one] at h
    simp only [runW, h, opt]
    cases ax <;> first | rfl | exact absurd rfl hx
  | ops l s ev =>
    simp only [runW] at h ⊢
    cases hs : runSteps E call l s st with
    | none => rw [hs] at h; cases h
    | some p =>
      obtain ⟨x, st1⟩ := p
      rw [hs] at h
      cases x with
      | normal => cases h; exact absurd rfl hx
      | _ => exact h

theorem runW_then {w : WI} {r : List WI} {st st' : St} (h : runW E call k [w] st = some (.normal, st')) : runW E call k (w :: r) st = runW E call k r st' := by
  cases w with
  | ac a =>
    rw [runW_one] at h
    simp only [runW, h, opt]
  | ops l s ev =>
    simp only [runW] at h ⊢
    cases hs : runSteps E call l s st with
    | none => rw [hs] at h; cases h
    | some p =>
      obtain ⟨x, st1⟩ := p
      rw [hs] at h
      cases x <;> cases h
      rfl

theorem mem_flat {w : WI} {r : List WI} {d : Nat} : d ∉ (w :: r).flatMap WI.writes ↔ d ∉ w.writes ∧ d ∉ r.flatMap WI.writes := by
  simp [List.flatMap_cons]

/-- The loop: round by round. -/
theorem loop_sound {J : Jmp} {slots : List Nat} {b : AC} {la : LC} {Γ : Gam} {env0 tm0 : List AV} (hΓ : Agree (minus b.writes Γ) env0 tm0)
    (hbody : ∀ st tm x st', Agree (pushed env0.length slots ++ minus b.writes Γ) st.tm tm → st.tm.length = env0.length + slots.length → tm.length = J.N → den E call k la st = some (x, st') → Res E call k { J with nrm := slots } [.ac b] tm st x st') :
    ∀ (j : Nat) (st : St) (tm : List AV) (x : LX) (st' : St), tm.length = J.N → (∀ d, d ∉ b.writes → sl tm d = sl tm0 d) →
      iterL (fun vals st' => den E call k la { st' with tm := vals ++ env0 }) j (slots.map (sl tm)) st = some (x, st') →
      ∃ ax tm', iter (exec E call k b none) j { st with tm := tm } = some (ax, { st' with tm := tm' }) ∧ tm'.length = J.N ∧ (∀ d, d ∉ b.writes → sl tm' d = sl tm0 d) ∧ Post { J with nrm := slots } x ax st'.tm tm' ∧ x ≠ .done .normal := by
  intro j
  induction j with
  | zero => intro st tm x st' _ _ h; cases h
  | succ j ih =>
    intro st tm x st' hl hs h
    simp only [iterL] at h
    obtain ⟨⟨x1, st1⟩, h1, h'⟩ := opt_some h
    have hA : Agree (minus b.writes Γ) env0 tm := by
      intro d y hy
      obtain ⟨a, b1⟩ := hΓ d y hy
      refine ⟨a, ?_⟩
      rw [hs d ?_]; exact b1
      intro hd
      rw [look_minus, if_pos hd] at hy; cases hy
    obtain ⟨ax, tm1, e1, e2, e3, e4⟩ := hbody { st with tm := slots.map (sl tm) ++ env0 } tm x1 st1 (hA.pushed (slots := slots)) (by simp; omega) hl h1
    rw [runW_one] at e1
    simp only [iter]
    have e3' : ∀ d, d ∉ b.writes → sl tm1 d = sl tm0 d := fun d hd => (e3 d (by simpa [WI.writes] using hd)).trans (hs d hd)
    cases x1 with
    | done f =>
      cases f with
      | normal =>
        obtain ⟨rfl, hv⟩ := e4
        simp only at h'
        rw [hv] at h'
        obtain ⟨ax2, tm2, f1, f2, f3, f4, f5⟩ := ih st1 tm1 x st' e2 e3' h'
        exact ⟨ax2, tm2, by rw [e1]; exact f1, f2, f3, f4, f5⟩
      | exit id =>
        cases h'
        obtain ⟨rfl, hv⟩ := e4
        exact ⟨_, tm1, by rw [e1]; rfl, e2, e3', ⟨rfl, hv⟩, by simp⟩
      | ret =>
        cases h'
        obtain ⟨rfl, hv⟩ := e4
        exact ⟨_, tm1, by rw [e1]; rfl, e2, e3', ⟨rfl, hv⟩, by simp⟩
    | panic ch =>
      cases h'
      obtain ⟨rfl, hv⟩ := e4
      exact ⟨_, tm1, by rw [e1]; rfl, e2, e3', ⟨rfl, hv⟩, by simp⟩

theorem copied_cases {o : AOper} {x : Opd} (h : copied o = some x) : o.guard = none ∧ (o.op = .mov x ∨ o.op = .asg x) := by
  unfold copied at h
  split at h
  · rename_i h1 h2; cases h; exact ⟨h1, .inl h2⟩
  · rename_i h1 h2; cases h; exact ⟨h1, .inr h2⟩
  · cases h

theorem copied_step {o : AOper} {x : Opd} (h : copied o = some x) (st : St) : doOp E call o st = some (.next { st with tm := put st.tm o.dst (ev st.tm x) }) := by
  obtain ⟨h1, h2 | h2⟩ := copied_cases h
  · simp [doOp, wanted, h1, h2, opt, AOp.cls, qop]
  · simp [doOp, wanted, h1, h2, opt, AOp.cls, eop]

theorem cc_sound (hrefl : ∀ v, E.eqv v v = true) : ∀ (n : Nat) (J : Jmp) (Γ : Gam) (h : Nat) (ws : List WI) (hint : Hint) (lc : LC), cc n J Γ h ws hint = some lc →
    ∀ (st : St) (tm : List AV) (x : LX) (st' : St), Agree Γ st.tm tm → st.tm.length = h → tm.length = J.N → (∀ w ∈ ws, w.evOk st.tm) → den E call k lc st = some (x, st') → Res E call k J ws tm st x st' := by
  intro n
  induction n with
  | zero => intro J Γ h ws hint lc hc; cases hc
  | succ n ih =>
    intro J Γ h ws hint lc hc st tm x st' hA hh hN hev hden
    subst hh
    simp only [cc] at hc
    split at hc
    · -- tryp
      rename_i a _
      split at hc
      · rename_i hcond
        obtain ⟨vs, hvs, hc'⟩ := opt_some hc
        obtain ⟨la, hla, rfl⟩ := Option.map_eq_some_iff.1 hc'
        simp only [den] at hden
        obtain ⟨⟨x1, st1⟩, h1, h'⟩ := opt_some hden
        obtain ⟨ax, tm', e1, e2, e3, e4⟩ := ih J Γ _ ws a la hla st tm x1 st1 hA rfl hN hev h1
        cases x1 with
        | done f => cases h'; exact ⟨ax, tm', e1, e2, e3, e4⟩
        | panic ch =>
          cases h'
          obtain ⟨rfl, _⟩ := e4
          refine ⟨_, tm', e1, e2, e3, rfl, .inr ⟨hcond.1, ?_⟩⟩
          simp only
          rw [slotsG_ev hA J.ret vs hvs]
          refine List.map_congr_left fun s hs => (e3 s fun hw => ?_).symm
          have := List.all_eq_true.1 hcond.2 s hs
          rw [List.contains_iff_mem.2 hw] at this; cases this
      · cases hc
    split at hc
    · -- the end
      obtain ⟨vs, hvs, rfl⟩ := Option.map_eq_some_iff.1 hc
      simp only [den] at hden
      cases hden
      exact ⟨.normal, tm, rfl, hN, fun _ _ => rfl, rfl, slotsG_ev hA J.nrm vs hvs⟩
    · -- no steps left
      rename_i l ev r
      obtain ⟨ax, tm', e1, e2, e3, e4⟩ := ih J Γ _ r _ lc hc st tm x st' hA rfl hN (fun w hw => hev w (List.mem_cons_of_mem _ hw)) hden
      exact ⟨ax, tm', e1, e2, fun d hd => e3 d (mem_flat.1 hd).2, e4⟩
    · -- a check
      rename_i l i sts ev r
      obtain ⟨d, hd, hc'⟩ := opt_some hc
      have hev' : ∀ w ∈ (WI.ops l sts ev :: r), w.evOk st.tm := by
        intro w hw
        rcases List.mem_cons.1 hw with rfl | hw
        · exact hev (.ops l ((true, i) :: sts) ev) (by simp)
        · exact hev w (List.mem_cons_of_mem _ hw)
      have fin : ∀ v, qval tm st.sg (l.getD i default) = some v → E.eqv v (sl tm d) = true → Res E call k J (.ops l sts ev :: r) tm st x st' → Res E call k J (.ops l ((true, i) :: sts) ev :: r) tm st x st' := by
        rintro v hv he ⟨ax, tm', e1, e2, e3, e4⟩
        refine ⟨ax, tm', ?_, e2, e3, e4⟩
        simp only [runW, runSteps, runStep, if_true, hd, hv, opt, he] at e1 ⊢
        exact e1
      split at hc'
      · rename_i hskip
        obtain ⟨hst, hany⟩ := hskip
        obtain ⟨e, hem, he⟩ := List.any_eq_true.1 hany
        simp only [Bool.and_eq_true, beq_iff_eq] at he
        obtain ⟨⟨he1, he2⟩, he3⟩ := he
        have hok : evOk' l st.tm e := hev (.ops l ((true, i) :: sts) ev) (by simp) e hem
        obtain ⟨k1, k2, k3⟩ := hok
        rw [he1] at k3
        have hxs := sameL_eq he2
        have hlv : look Γ d = some e.2.1 := by
          cases hl : look Γ d with
          | none => rw [hl] at he3; cases he3
          | some y => rw [hl] at he3; cases y <;> cases hy : e.2.1 <;> simp [LO.same, hy] at he3 <;> simp [he3]
        have hq := k3 hst tm st.sg (by
          rw [hxs, List.map_map]
          refine List.map_congr_left fun t _ => ?_
          simp only [Function.comp]
          cases hl : look Γ t with
          | none =>
            exfalso
            have hm : (none : Option LO) ∈ e.2.2 := by rw [hxs]; exact List.mem_map.2 ⟨t, by assumption, hl⟩
            have : ∀ (xs ys : List (Option LO)), sameL xs ys = true → none ∉ xs := by
              intro xs
              induction xs with
              | nil => intro ys _ hm; cases hm
              | cons x xs ihx =>
                intro ys hs hm
                cases ys with
                | nil => cases hs
                | cons y ys =>
                  simp only [sameL, Bool.and_eq_true] at hs
                  rcases List.mem_cons.1 hm with rfl | hm
                  · cases hs.1
                  · exact ihx ys hs.2 hm
            exact this _ _ he2 hm
          | some y => exact (hA t y hl).2)
        exact fin _ hq (by rw [(hA d _ hlv).2]; exact hrefl _) (ih J Γ _ _ _ lc hc' st tm x st' hA rfl hN hev' hden)
      · split at hc'
        · rename_i hkn
          obtain ⟨lk, hlk, rfl⟩ := Option.map_eq_some_iff.1 hc'
          simp only [den] at hden
          obtain ⟨v, hv, hden'⟩ := opt_some hden
          rw [lqval_eq hA hkn.1] at hv
          split at hden'
          · rename_i he
            obtain ⟨y, hy⟩ := Option.isSome_iff_exists.1 hkn.2
            rw [← rho_ev hA (x := .t d) hy] at he
            exact fin v hv he (ih J Γ _ _ _ lk hlk st tm x st' hA rfl hN hev' hden')
          · cases hden'
        · cases hc'
    · -- an operation
      rename_i l i sts ev r
      split at hc
      · rename_i hkn
        have hwr : ∀ d, (l.getD i default).dst = some d → i < l.length → d ∈ l.filterMap (·.dst) := by
          intro d hd hi
          refine List.mem_filterMap.2 ⟨l.getD i default, ?_, hd⟩
          rw [List.getD_eq_getElem?_getD, List.getElem?_eq_getElem hi]
          exact List.getElem_mem hi
        have hwr' : ∀ d, (l.getD i default).dst = some d → d ∈ l.filterMap (·.dst) := by
          intro d hd
          rcases Nat.lt_or_ge i l.length with hi | hi
          · exact hwr d hd hi
          · have : l.getD i default = default := by rw [List.getD_eq_getElem?_getD, List.getElem?_eq_none hi]; rfl
            rw [this] at hd; cases hd
        -- from the rest to all of it
        have fin : ∀ (st1 : St) (tm1 : List AV), doOp E call (l.getD i default) { st with tm := tm } = some (.next { st1 with tm := tm1 }) → (∀ d, (l.getD i default).dst ≠ some d → sl tm1 d = sl tm d) →
            Res E call k J (.ops l sts ev :: r) tm1 st1 x st' → Res E call k J (.ops l ((false, i) :: sts) ev :: r) tm st x st' := by
          rintro st1 tm1 hdo hsame ⟨ax, tm', e1, e2, e3, e4⟩
          refine ⟨ax, tm', ?_, e2, fun d hd => ?_, e4⟩
          · simp only [runW, runSteps, runStep, Bool.false_eq_true, if_false, hdo, opt] at e1 ⊢
            exact e1
          · rw [e3 d hd, hsame d fun h0 => (mem_flat.1 hd).1 (hwr' d h0)]
        have leave : ∀ (ch : List (AV × Bool)) (st1 : St), doOp E call (l.getD i default) { st with tm := tm } = some (.leave ch { st1 with tm := tm }) → x = .panic ch → st' = { st1 with tm := [] } →
            Res E call k J (.ops l ((false, i) :: sts) ev :: r) tm st x st' := by
          rintro ch st1 hdo rfl rfl
          refine ⟨.panic ch, tm, ?_, hN, fun _ _ => rfl, rfl, .inl rfl⟩
          simp only [runW, runSteps, runStep, Bool.false_eq_true, if_false, hdo, opt]
        split at hc
        · -- a copy
          rename_i x0 d hcp hd
          split at hc
          · rename_i hlt
            obtain ⟨y, hy, hc'⟩ := opt_some hc
            obtain ⟨hyo, hye⟩ := opdG_ev hA hy
            have hdo := copied_step (E := E) (call := call) hcp { st with tm := tm }
            rw [hd] at hdo
            refine fin st _ hdo (fun d' hd' => getD_put _ _ _ _ (fun h0 => hd' (by rw [hd]; exact h0))) ?_
            refine ih J _ _ _ _ lc hc' st _ x st' (hA.set (by rw [hN]; exact hlt) hyo hye.symm) rfl (by rw [length_put]; exact hN) ?_ hden
            intro w hw
            rcases List.mem_cons.1 hw with rfl | hw
            · exact hev (.ops l ((false, i) :: sts) ev) (by simp)
            · exact hev w (List.mem_cons_of_mem _ hw)
          · cases hc
        · -- an operation with a slot
          rename_i d hd hcp
          split at hc
          · rename_i hlt
            obtain ⟨lk, hlk, rfl⟩ := Option.map_eq_some_iff.1 hc
            simp only [den] at hden
            obtain ⟨r0, hr0, hden'⟩ := opt_some hden
            obtain ⟨s1, s2, s3⟩ := op_step hA hkn hr0
            cases r0 with
            | leave ch st1 =>
              simp only at hden' s1
              cases hden'
              exact leave ch st1 s1 rfl rfl
            | val v st1 =>
              simp only at hden' s1
              have e0 : ∀ e, evOk' l st.tm e → evOk' l (v :: st.tm) e := fun e he => he.push [v]
              refine fin { st1 with tm := v :: st.tm } _ s1 (fun d' hd' => getD_put _ _ _ _ hd') ?_
              have hA1 : Agree ((d, .lv st.tm.length) :: Γ) (v :: st.tm) (put tm (some d) v) := by
                refine (hA.push [v]).set (by rw [hN]; exact hlt) (by simp [LO.ok]) ?_
                simp [evL]
              have hres := ih J _ _ _ _ lk hlk { st1 with tm := v :: st.tm } (put tm (some d) v) x st' hA1 (by simp) (by rw [length_put]; exact hN) ?_ hden'
              · rw [hd]
                obtain ⟨ax, tm', e1, e2, e3, e4⟩ := hres
                refine ⟨ax, tm', ?_, e2, e3, e4⟩
                simpa only [runW] using e1
              · intro w hw
                rcases List.mem_cons.1 hw with rfl | hw
                · intro e he
                  split at he
                  · rename_i hcq
                    rcases List.mem_cons.1 he with rfl | he
                    · obtain ⟨v', hv', hq⟩ := s2 hcq
                      cases hv'
                      refine ⟨by simp [LO.ok], fun y hy => ?_, fun hst tm2 s2' hr2 => ?_⟩
                      · obtain ⟨t, _, ht⟩ := List.mem_map.1 hy
                        exact (hA t y ht).1.mono (by simp)
                      · have hreads : ∀ t ∈ readsOf (l.getD i default), sl tm t = sl tm2 t := by
                          intro t ht
                          have h2 : sl tm2 t = evO (v :: st.tm) (look Γ t) := by
                            have := congrArg (fun L : List AV => L) hr2
                            simp only [List.map_map] at this
                            exact (List.map_inj_left.1 this) t ht
                          rw [h2]
                          have := List.all_eq_true.1 hkn t ht
                          obtain ⟨y, hy⟩ := Option.isSome_iff_exists.1 this
                          rw [hy]
                          simp only [evO]
                          rw [(hA t y hy).2]
                          exact (evL_app [v] (hA t y hy).1).symm
                        have hlv : evL (v :: st.tm) (.lv st.tm.length) = v := by simp [evL]
                        simp only [hlv]
                        rw [← hq]
                        unfold qval
                        rw [← wanted_reads hreads, ← qop_congr (ev_reads hreads), qop_still hst tm s2' st.sg]
                    · exact e0 e (hev (.ops l ((false, i) :: sts) ev) (by simp) e he)
                  · exact e0 e (hev (.ops l ((false, i) :: sts) ev) (by simp) e he)
                · exact (hev w (List.mem_cons_of_mem _ hw)).push [v]
          · cases hc
        · -- an operation without a slot
          rename_i hd
          obtain ⟨lk, hlk, rfl⟩ := Option.map_eq_some_iff.1 hc
          simp only [den] at hden
          obtain ⟨r0, hr0, hden'⟩ := opt_some hden
          obtain ⟨s1, s2, s3⟩ := op_step hA hkn hr0
          cases r0 with
          | leave ch st1 =>
            simp only at hden' s1
            cases hden'
            exact leave ch st1 s1 rfl rfl
          | val v st1 =>
            simp only at hden' s1
            rw [hd] at s1
            refine fin { st1 with tm := v :: st.tm } _ s1 (fun _ _ => rfl) ?_
            refine ih J _ _ _ _ lk hlk { st1 with tm := v :: st.tm } tm x st' (hA.push [v]) (by simp) hN ?_ hden'
            intro w hw
            rcases List.mem_cons.1 hw with rfl | hw
            · exact fun e he => (hev (.ops l ((false, i) :: sts) ev) (by simp) e he).push [v]
            · exact (hev w (List.mem_cons_of_mem _ hw)).push [v]
      · cases hc
    · -- code
      rename_i a r
      have hevr : ∀ w ∈ r, w.evOk st.tm := fun w hw => hev w (List.mem_cons_of_mem _ hw)
      have hev1 : ∀ (b : AC) (w : WI), w ∈ [WI.ac b] → w.evOk st.tm := by
        intro b w hw
        rw [List.mem_singleton.1 hw]; trivial
      have hevc : ∀ (b : AC) (w : WI), w ∈ (WI.ac b :: r) → w.evOk st.tm := by
        intro b w hw
        rcases List.mem_cons.1 hw with rfl | hw
        · trivial
        · exact hevr w hw
      -- a join, and what comes behind it
      have join : ∀ (w : WI) (slots : List Nat) (ws : List Nat) (lk : LC) (kh : Hint), (∀ d, d ∉ ws → d ∉ w.writes) → cc n J (pushed st.tm.length slots ++ minus ws Γ) (st.tm.length + slots.length) r kh = some lk →
          ∀ (st1 : St) (tm1 : List AV), runW E call k [w] { st with tm := tm } = some (.normal, { st1 with tm := tm1 }) → tm1.length = J.N → (∀ d, d ∉ w.writes → sl tm1 d = sl tm d) → st1.tm = slots.map (sl tm1) →
          den E call k lk { st1 with tm := st1.tm ++ st.tm } = some (x, st') → Res E call k J (w :: r) tm st x st' := by
        intro w slots ws lk kh hws hlk st1 tm1 hrun hN1 hs1 hv hden1
        rw [hv] at hden1
        have hA1 : Agree (pushed st.tm.length slots ++ minus ws Γ) (slots.map (sl tm1) ++ st.tm) tm1 := (hA.minus fun d hd => hs1 d (hws d hd)).pushed
        obtain ⟨ax, tm', e1, e2, e3, e4⟩ := ih J _ _ r kh lk hlk { st1 with tm := slots.map (sl tm1) ++ st.tm } tm1 x st' hA1 (by simp; omega) hN1 (fun w hw => (hevr w hw).push _) hden1
        refine ⟨ax, tm', ?_, e2, fun d hd => ?_, e4⟩
        · rw [runW_then hrun]; exact e1
        · rw [e3 d (mem_flat.1 hd).2, hs1 d (mem_flat.1 hd).1]
      split at hc
      · -- skip
        obtain ⟨ax, tm', e1, e2, e3, e4⟩ := ih J Γ _ r _ lc hc st tm x st' hA rfl hN hevr hden
        exact ⟨ax, tm', e1, e2, fun d hd => e3 d (mem_flat.1 hd).2, e4⟩
      · -- label
        obtain ⟨ax, tm', e1, e2, e3, e4⟩ := ih J Γ _ r _ lc hc st tm x st' hA rfl hN hevr hden
        exact ⟨ax, tm', e1, e2, fun d hd => e3 d (mem_flat.1 hd).2, e4⟩
      · -- seq
        rename_i a b
        obtain ⟨ax, tm', e1, e2, e3, e4⟩ := ih J Γ _ _ _ lc hc st tm x st' hA rfl hN (by
          intro w hw
          rcases List.mem_cons.1 hw with rfl | hw
          · trivial
          · exact hevc b w hw) hden
        refine ⟨ax, tm', by rw [runW_seq]; exact e1, e2, fun d hd => e3 d ?_, e4⟩
        simpa [WI.writes, AC.writes] using hd
      · -- region
        rename_i l
        obtain ⟨ax, tm', e1, e2, e3, e4⟩ := ih J Γ _ _ _ lc hc st tm x st' hA rfl hN (by
          intro w hw
          rcases List.mem_cons.1 hw with rfl | hw
          · intro e he; cases he
          · exact hevr w hw) hden
        refine ⟨ax, tm', by rw [runW_region l []]; exact e1, e2, fun d hd => e3 d ?_, e4⟩
        simpa [WI.writes, AC.writes] using hd
      · -- a region that draws
        rename_i pl l
        split at hc
        · rename_i hcond
          obtain ⟨ax, tm', e1, e2, e3, e4⟩ := ih J Γ _ _ _ lc hc st tm x st' hA rfl hN (by
            intro w hw
            rcases List.mem_cons.1 hw with rfl | hw
            · intro e he; cases he
            · exact hevr w hw) hden
          have hes : ∀ e ∈ pl.es, e < l.length := fun e he => by simpa using List.all_eq_true.1 hcond.1 e he
          simp only [runW] at e1
          obtain ⟨⟨x1, st1⟩, h1, h'⟩ := opt_some e1
          obtain ⟨tm2, d1, d2, d3, d4⟩ := drun_steps pl.es hes 0 _ st1 x1 h1
          rcases d2 with ⟨rfl, d2⟩ | ⟨ch, rfl⟩
          · refine ⟨ax, tm', ?_, e2, fun d hd => e3 d (by simpa [WI.writes, AC.writes] using hd), e4⟩
            simp only [runW, exec, d1, opt]
            rw [d2]; exact h'
          · simp only [Option.some.injEq, Prod.mk.injEq] at h'
            obtain ⟨rfl, rfl⟩ := h'
            refine ⟨.panic ch, tm2, ?_, by rw [d3]; exact e2, fun d hd => ?_, ?_⟩
            · simp only [runW, exec, d1, opt]
            · have hd' := mem_flat.1 hd
              rw [sl, d4 d (by simpa [WI.writes, AC.writes] using hd'.1)]
              exact e3 d (mem_flat.2 ⟨by simpa [WI.writes, AC.writes] using hd'.1, hd'.2⟩)
            · match x, e4 with
              | .panic ch', ⟨ha, hb⟩ =>
                refine ⟨ha, hb.imp id fun hb => ⟨hb.1, hb.2.trans (List.map_congr_left fun s hs => ?_)⟩⟩
                have := List.all_eq_true.1 (hcond.2 hb.1) s hs
                simp only [Bool.not_eq_true', List.contains_eq_mem, decide_eq_false_iff_not] at this
                exact (d4 s this).symm
              | .done .normal, ⟨ha, _⟩ => cases ha
              | .done (.exit _), ⟨ha, _⟩ => cases ha
              | .done .ret, ⟨ha, _⟩ => cases ha
        · cases hc
      · -- cond
        rename_i c p q
        have hcond : ∀ c', opdG Γ c = some c' → ev st.tm (c'.opd st.tm.length) = ev tm c := by
          intro c' hc'
          rw [ev_opd, (opdG_ev hA hc').2]
        split at hc
        · rename_i hx hy
          obtain ⟨c', hc', h2⟩ := opt_some hc
          obtain ⟨la, hla, h3⟩ := opt_some h2
          obtain ⟨lb, hlb, rfl⟩ := Option.map_eq_some_iff.1 h3
          simp only [den] at hden
          rw [hcond c' hc'] at hden
          split at hden
          · rename_i hb
            obtain ⟨ax, tm', e1, e2, e3, e4⟩ := ih J Γ _ _ _ la hla st tm x st' hA rfl hN (hevc p) hden
            refine ⟨ax, tm', ?_, e2, fun d hd => e3 d ?_, e4⟩
            · simp only [runW, exec, hb] at e1 ⊢; exact e1
            · have := mem_flat.1 hd
              simp only [WI.writes, AC.writes, List.mem_append, not_or] at this
              exact mem_flat.2 ⟨this.1.1, this.2⟩
          · rename_i hb
            obtain ⟨ax, tm', e1, e2, e3, e4⟩ := ih J Γ _ _ _ lb hlb st tm x st' hA rfl hN (hevc q) hden
            refine ⟨ax, tm', ?_, e2, fun d hd => e3 d ?_, e4⟩
            · simp only [runW, exec, hb] at e1 ⊢; exact e1
            · have := mem_flat.1 hd
              simp only [WI.writes, AC.writes, List.mem_append, not_or] at this
              exact mem_flat.2 ⟨this.1.2, this.2⟩
          · cases hden
        · rename_i slots hx hy kh _
          obtain ⟨c', hc', h2⟩ := opt_some hc
          obtain ⟨la, hla, h3⟩ := opt_some h2
          obtain ⟨lb, hlb, h4⟩ := opt_some h3
          obtain ⟨lk, hlk, rfl⟩ := Option.map_eq_some_iff.1 h4
          simp only [den] at hden
          rw [hcond c' hc'] at hden
          -- both branches alike
          have both : ∀ (s : AC) (hs : Hint) (l1 : LC), (∀ d, d ∉ (WI.ac (.cond c p q)).writes → d ∉ s.writes) → cc n { J with nrm := slots } Γ st.tm.length [.ac s] hs = some l1 →
              (∀ ax stz, runW E call k [.ac s] { st with tm := tm } = some (ax, stz) → runW E call k [.ac (.cond c p q)] { st with tm := tm } = some (ax, stz)) →
              (opt (den E call k l1 st) fun
                | (.done .normal, st') => den E call k lk { st' with tm := st'.tm ++ st.tm }
                | (.done (.exit i), st') => if none = some i then den E call k lk { st' with tm := st'.tm ++ st.tm } else some (.done (.exit i), st')
                | r => some r) = some (x, st') → Res E call k J (.ac (.cond c p q) :: r) tm st x st' := by
            intro s hs l1 hsub hl1 hrun hd1
            obtain ⟨⟨x1, st1⟩, h1, h'⟩ := opt_some hd1
            obtain ⟨ax, tm1, e1, e2, e3, e4⟩ := ih { J with nrm := slots } Γ _ _ _ l1 hl1 st tm x1 st1 hA rfl hN (hev1 s) h1
            have e1' := hrun _ _ e1
            have e3' : ∀ d, d ∉ (WI.ac (.cond c p q)).writes → sl tm1 d = sl tm d := fun d hd => e3 d (by simpa [WI.writes] using hsub d hd)
            have pass : x1 ≠ .done .normal → x = x1 → st' = st1 → Res E call k J (.ac (.cond c p q) :: r) tm st x st' := by
              rintro hx1 rfl rfl
              exact ⟨ax, tm1, runW_leave e1' (e4.leaves hx1), e2, fun d hd => e3' d (mem_flat.1 hd).1, e4.sub rfl rfl rfl hx1⟩
            cases x1 with
            | done f =>
              cases f with
              | normal =>
                obtain ⟨rfl, hv⟩ := e4
                exact join (.ac (.cond c p q)) slots (p.writes ++ q.writes) lk kh (fun d hd => hd) hlk st1 tm1 e1' e2 e3' hv h'
              | exit i =>
                simp only [reduceCtorEq, if_false] at h'
                cases h'
                exact pass (by simp) rfl rfl
              | ret => cases h'; exact pass (by simp) rfl rfl
            | panic ch => cases h'; exact pass (by simp) rfl rfl
          split at hden
          · rename_i hb
            refine both p hx la (fun d hd => ?_) hla (fun ax stz hr => ?_) hden
            · simp only [WI.writes, AC.writes, List.mem_append, not_or] at hd; exact hd.1
            · rw [runW_one] at hr ⊢; simp only [exec, hb]; exact hr
          · rename_i hb
            refine both q hy lb (fun d hd => ?_) hlb (fun ax stz hr => ?_) hden
            · simp only [WI.writes, AC.writes, List.mem_append, not_or] at hd; exact hd.2
            · rw [runW_one] at hr ⊢; simp only [exec, hb]; exact hr
          · cases hden
        · cases hc
      · -- block
        rename_i id b
        split at hc
        · rename_i slots hx kh _
          obtain ⟨la, hla, h3⟩ := opt_some hc
          obtain ⟨lk, hlk, rfl⟩ := Option.map_eq_some_iff.1 h3
          simp only [den] at hden
          obtain ⟨⟨x1, st1⟩, h1, h'⟩ := opt_some hden
          obtain ⟨ax, tm1, e1, e2, e3, e4⟩ := ih _ Γ _ _ _ la hla st tm x1 st1 hA rfl hN (hev1 b) h1
          rw [runW_one] at e1
          have e3' : ∀ d, d ∉ (WI.ac (.block id b)).writes → sl tm1 d = sl tm d := fun d hd => e3 d (by simpa [WI.writes, AC.writes] using hd)
          have norm : exec E call k b none { st with tm := tm } = some (.normal, { st1 with tm := tm1 }) ∨ exec E call k b none { st with tm := tm } = some (.exit id, { st1 with tm := tm1 }) → st1.tm = slots.map (sl tm1) →
              den E call k lk { st1 with tm := st1.tm ++ st.tm } = some (x, st') → Res E call k J (.ac (.block id b) :: r) tm st x st' := by
            intro hr hv hd1
            refine join (.ac (.block id b)) slots b.writes lk kh (fun d hd => hd) hlk st1 tm1 ?_ e2 e3' hv hd1
            rw [runW_one]
            rcases hr with hr | hr
            · simp only [exec, hr, opt]
            · simp only [exec, hr, opt, if_true]
          have pass : ax ≠ .normal → ax ≠ .exit id → Post J x ax st1.tm tm1 → st' = st1 → Res E call k J (.ac (.block id b) :: r) tm st x st' := by
            rintro ha1 ha2 hp rfl
            refine ⟨ax, tm1, runW_leave ?_ ha1, e2, fun d hd => e3' d (mem_flat.1 hd).1, hp⟩
            rw [runW_one]
            simp only [exec, e1, opt]
            cases ax with
            | exit i =>
              have : i ≠ id := fun e => ha2 (by rw [e])
              simp [this]
            | _ => rfl
          cases x1 with
          | done f =>
            cases f with
            | normal =>
              obtain ⟨rfl, hv⟩ := e4
              exact norm (.inl e1) hv h'
            | exit i =>
              obtain ⟨rfl, slots', hs', hv⟩ := e4
              simp only [exitSlots] at hs'
              simp only [Option.some.injEq] at h'
              by_cases hi : id = i
              · subst hi
                rw [if_pos rfl] at hs' h'
                cases hs'
                exact norm (.inr e1) hv h'
              · rw [if_neg hi] at hs' h'
                cases h'
                exact pass (by simp) (by simpa using Ne.symm hi) ⟨rfl, slots', hs', hv⟩ rfl
            | ret =>
              cases h'
              obtain ⟨rfl, hv⟩ := e4
              exact pass (by simp) (by simp) ⟨rfl, hv⟩ rfl
          | panic ch =>
            cases h'
            obtain ⟨rfl, hv⟩ := e4
            exact pass (by simp) (by simp) ⟨rfl, hv⟩ rfl
        · cases hc
      · -- loop
        rename_i b
        split at hc
        · rename_i slots hx _
          obtain ⟨vs, hvs, h2⟩ := opt_some hc
          obtain ⟨la, hla, rfl⟩ := Option.map_eq_some_iff.1 h2
          simp only [den] at hden
          rw [slotsG_ev hA slots vs hvs] at hden
          obtain ⟨ax, tm', f1, f2, f3, f4, f5⟩ := loop_sound (J := J) (slots := slots) (b := b) (la := la) (Γ := Γ) (env0 := st.tm) (tm0 := tm) (hA.minus fun _ _ => rfl)
            (fun st1 tm1 x1 st1' a1 a2 a3 a4 => ih _ _ _ _ _ la hla st1 tm1 x1 st1' a1 a2 a3 (by
              intro w hw
              rw [List.mem_singleton.1 hw]; trivial) a4) k st tm x st' hN (fun _ _ => rfl) hden
          refine ⟨ax, tm', runW_leave ?_ (f4.leaves f5), f2, fun d hd => f3 d (by have := (mem_flat.1 hd).1; simpa [WI.writes, AC.writes] using this), f4.sub rfl rfl rfl f5⟩
          rw [runW_one]
          simp only [exec]; exact f1
        · cases hc
      · -- exit
        rename_i id
        obtain ⟨slots, hs, h2⟩ := opt_some hc
        obtain ⟨vs, hvs, rfl⟩ := Option.map_eq_some_iff.1 h2
        simp only [den] at hden
        cases hden
        exact ⟨.exit id, tm, rfl, hN, fun _ _ => rfl, rfl, slots, hs, slotsG_ev hA slots vs hvs⟩
      · -- ret
        obtain ⟨vs, hvs, rfl⟩ := Option.map_eq_some_iff.1 hc
        simp only [den] at hden
        cases hden
        exact ⟨.ret, tm, rfl, hN, fun _ _ => rfl, rfl, slotsG_ev hA J.ret vs hvs⟩
      · -- bad
        cases hc; cases hden
      · cases hc
end
end Go.Am

namespace Go.Am
open Go

section
variable {E : Env} {call : CallF} {k : Nat}

theorem resultL_eq (P : Program) (tm : List AV) (s : Store) : ∀ rs : List ResultVar, resultL P s rs (rs.map fun r => sl tm (match r with | .tmp t => t | .cell a _ => a)) = resultA P tm s rs := by
  intro rs
  induction rs with
  | nil => rfl
  | cons r rs ih =>
    cases r with
    | tmp t => simp only [List.map_cons, resultL, resultA, ih]
    | cell a t => simp only [List.map_cons, resultL, resultA, ih]

theorem resSlots_map (fn : Func) (tm : List AV) : (resSlots fn).map (sl tm) = fn.results.toList.map fun r => sl tm (match r with | .tmp t => t | .cell a _ => a) := by
  unfold resSlots
  rw [List.map_map]
  exact List.map_congr_left fun r _ => by cases r <;> rfl

theorem leaveL_eq (fn : Func) (tm vals : List AV) (h : ∀ s, resultL E.prog s fn.results.toList vals = resultA E.prog tm s fn.results.toList) : ∀ (ds : List ADef) (u : AMode) (s : Store), leaveL E call fn vals ds u s = leave E call fn tm ds u s := by
  intro ds
  induction ds with
  | nil =>
    intro u s
    cases u with
    | ret => simp only [leaveL, leave]; rw [h]
    | pan ch => rfl
    | run => rfl
    | round => rfl
  | cons d ds ih =>
    intro u s
    cases d with
    | mark r =>
      simp only [leaveL, leave, ih]
      rfl
    | fn f cap args =>
      simp only [leaveL, leave, ih]
      rfl

/-- Without values nothing but a panic comes of it, or it has no results. -/
theorem leaveL_nil (fn : Func) (tm : List AV) : ∀ (ds : List ADef) (u : AMode) (s : Store) (r : ARes × Store), leaveL E call fn [] ds u s = some r → leave E call fn tm ds u s = some r := by
  intro ds
  induction ds with
  | nil =>
    intro u s r h
    cases u with
    | ret =>
      simp only [leaveL, leave] at h ⊢
      cases hr : fn.results.toList with
      | nil => rw [hr] at h; simpa [resultL, resultA] using h
      | cons x xs => rw [hr] at h; cases x <;> cases h
    | pan ch => exact h
    | run => cases h
    | round => cases h
  | cons d ds ih =>
    intro u s r h
    cases d with
    | mark m =>
      simp only [leaveL, leave] at h ⊢
      split at h
      · rename_i he
        rw [he]; exact ih _ _ _ h
      · cases h
    | fn f cap args =>
      simp only [leaveL, leave] at h ⊢
      obtain ⟨g, hg, h'⟩ := opt_some h
      rw [hg]
      simp only [opt]
      split at h'
      · rename_i hlt
        rw [if_pos hlt]
        obtain ⟨⟨r1, m1, s1⟩, hc, h2⟩ := opt_some h'
        rw [hc]
        simp only
        cases r1 <;> exact ih _ _ _ h2
      · cases h'

theorem look_range (n : Nat) : ∀ (m d : Nat) (x : LO), look ((List.range' m n).map fun i => (i, .lv i)) d = some x → m ≤ d ∧ d < m + n ∧ x = .lv d := by
  induction n with
  | zero => intro m d x h; cases h
  | succ n ih =>
    intro m d x h
    simp only [List.range'_succ, List.map_cons, look] at h
    split at h
    · rename_i he; cases h; subst he; exact ⟨Nat.le_refl _, by omega, rfl⟩
    · obtain ⟨a, b, c⟩ := ih (m + 1) d x h
      exact ⟨by omega, by omega, c⟩

/-- The compiled function runs as the function. -/
theorem enterL_sound (hrefl : ∀ v, E.eqv v v = true) {fn : Func} {c : Code} {lf : LF} (hc : lf.okIn E.prog E.glob fn c) {args : List AV} {md : AMode} {s : Store} {r : ARes × AMode × Store}
    (h : enterL E call k fn lf args md s = some r) : enter E call k fn c args md s = some r := by
  obtain ⟨nargs, lc, tp, res⟩ := lf
  replace hc := hc.1
  unfold enterL at h
  split at h
  · rename_i hl
    simp only at hl
    obtain ⟨⟨x, st⟩, hd, h'⟩ := opt_some h
    clear h
    unfold ccF at hc
    simp only at hc
    split at hc
    · rename_i hle
      have hA : Agree ((List.range nargs).map fun i => (i, .lv i)) args.reverse (args ++ List.replicate (fn.ntmps - args.length) .undef) := by
        intro d y hy
        rw [List.range_eq_range'] at hy
        obtain ⟨_, h2, rfl⟩ := look_range nargs 0 d y hy
        have hdl : d < args.length := by omega
        refine ⟨by simp [LO.ok]; omega, ?_⟩
        simp only [evL, List.length_reverse, List.getD_eq_getElem?_getD, sl]
        rw [List.getElem?_append_left hdl, List.getElem?_reverse (by omega)]
        congr 2; omega
      have hN : (args ++ List.replicate (fn.ntmps - args.length) AV.undef).length = fn.ntmps := by simp; omega
      obtain ⟨ax, tm', e1, e2, e3, e4⟩ := cc_sound hrefl _ _ _ _ _ _ lc hc { tm := args.reverse, df := [], md, sg := s } _ x st hA (by simpa using hl) hN (by
        intro w hw
        rw [List.mem_singleton.1 hw]; trivial) hd
      rw [runW_one] at e1
      unfold enter
      simp only at e1 ⊢
      rw [e1]
      simp only [opt]
      have hres : ∀ s, resultL E.prog s fn.results.toList ((resSlots fn).map (sl tm')) = resultA E.prog tm' s fn.results.toList := by
        intro s
        rw [resSlots_map, resultL_eq]
      cases x with
      | done f =>
        cases f with
        | normal =>
          obtain ⟨rfl, hv⟩ := e4
          simp only at h' ⊢
          rw [← leaveL_eq fn tm' st.tm (by rw [hv]; exact hres)]; exact h'
        | ret =>
          obtain ⟨rfl, hv⟩ := e4
          simp only at h' ⊢
          rw [← leaveL_eq fn tm' st.tm (by rw [hv]; exact hres)]; exact h'
        | exit id => cases h'
      | panic ch =>
        obtain ⟨rfl, hv⟩ := e4
        simp only at h' ⊢
        rcases hv with hv | ⟨_, hv⟩
        · obtain ⟨q, hq, rfl⟩ := Option.map_eq_some_iff.1 h'
          rw [hv] at hq
          rw [leaveL_nil fn tm' _ _ _ _ hq]; rfl
        · rw [← leaveL_eq fn tm' st.tm (by rw [hv]; exact hres)]; exact h'
    · cases hc
  · cases h
end
end Go.Am

namespace Go.Am.L
open Go Go.Am
def T (n : Nat) : Opd := .t n
def K (n : Int) : Opd := .c (.int .i64 n)
def I (n : Int) : AV := .int .i64 n
def S0 : AV := .str []
def o (a : AOp) (k : LC) : LC := .op none a k
def og (x : Opd) (b : Bool) (a : AOp) (k : LC) : LC := .op (some (x, b)) a k
def ck (a : AOp) (x : Opd) (k : LC) : LC := .chk none a x k
def ckg (g : Opd) (b : Bool) (a : AOp) (x : Opd) (k : LC) : LC := .chk (some (g, b)) a x k
def nrm (vs : List Opd) : LC := .fin .normal vs
def ret (vs : List Opd) : LC := .fin .ret vs
def ex (i : Nat) (vs : List Opd) : LC := .fin (.exit i) vs
def jn (s : List Nat) (a k : LC) : LC := .blk none s a k
def bl (i : Nat) (s : List Nat) (a k : LC) : LC := .blk (some i) s a k
def fc (f : Nat) : Opd := .c (.fn (.func f) [] [])
def call (f : Nat) (xs : List Opd) : AOp := .callv (.c (.fn (.func f) [] [])) xs
def fld1 (off : Nat) (x : Opd) : AOp := .fld false off 1 x
def fldn (off n : Nat) (x : Opd) : AOp := .fld true off n x
def ld (x : Opd) : AOp := .load false 1 x
def ldn (n : Nat) (x : Opd) : AOp := .load true n x
def ix (sz : Nat) (x i : Opd) : AOp := .iaddr none sz x i
def ad (x y : Opd) : AOp := .bin .add x y
def sb (x y : Opd) : AOp := .bin .sub x y
def eq (x y : Opd) : AOp := .bin .eql x y
def ne (x y : Opd) : AOp := .bin .neq x y
def lt (x y : Opd) : AOp := .bin .lss x y
end Go.Am.L
