/- The abstract evaluator AM: Go code run over plain values. -/
import GoSem.Dispatch
import GoSem.Core.Program
namespace Go.Am
open Go

inductive SK where | nil | plain | exact
  deriving DecidableEq

/-- A value: 'list' is a slice that nobody writes, as its elements (a row of cells each); 'sl' a slice of an entry of the store; 'rp' a place in a row that nobody writes. -/
inductive AV where
  | any
  | bool (b : Bool)
  | int (k : IntKind) (n : Int)
  | str (s : List Nat)
  | nilp
  | ptr (r v i o : Nat)
  | rp (row : List AV) (o : Nat)
  | list (k : SK) (rows : List (List AV))
  | sl (r v off len : Nat) (ex : Bool)
  | nilm
  | map (r : Nat)
  | fn (f : Fn) (first cap : List AV)
  | nilf
  | ifc (t : Nat) (v : AV)
  | nili
  | agg (l : List AV)
  | tup (l : List AV)
  deriving Inhabited

abbrev AV.undef : AV := .tup []

def AV.cells : AV → List AV
  | .agg l => l
  | v => [v]

def AV.one : AV → Bool
  | .agg _ | .tup _ | .any => false
  | _ => true

def bytesN (b : ByteArray) : List Nat := b.data.toList.map (·.toNat)

/-- A constant of the program's text, to a depth. -/
def ofValueN : Nat → Value → Option AV
  | 0, _ => none
  | n + 1, v => match v with
    | .bool b => some (.bool b)
    | .int k n => some (.int k n)
    | .string s => some (.str (bytesN s))
    | .pointer none => some .nilp
    | .slice none 0 0 => some (.list .nil [])
    | .map none => some .nilm
    | .func (.func f) ⟨[]⟩ ⟨[]⟩ => some (.fn (.func f) [] [])
    | .nilFunc => some .nilf
    | .nilIface => some .nili
    | .iface t v => (ofValueN n v).map (.ifc t)
    | .agg ⟨cs⟩ => (cs.mapM (ofValueN n)).map .agg
    | .tuple ⟨[]⟩ => some (.tup [])
    | _ => none
def ofValue (v : Value) : Option AV := ofValueN 4 v

inductive Opd where
  | t (n : Nat)
  | c (v : AV)
  deriving Inhabited

inductive EK where | bool | ptr | slice | map | func | iface
  deriving DecidableEq
inductive LK where | str | slice | map
  deriving DecidableEq
/-- Kinds of simple cells; of keys of maps. -/
inductive CK where | int | str | bool
  deriving DecidableEq
inductive KT where | one (k : CK) | agg (ks : List CK)
  deriving Inhabited

inductive AOp where
  | mov (x : Opd)
  | asg (x : Opd)
  | pick (c a b : Opd)
  | alloc (zero : List AV)
  | box (n : Nat) (x : Opd)
  | build (zero : List AV) (parts : List (Nat × Nat × Opd))
  | bsl (own : Bool) (zero : List AV) (len : Nat) (parts : List (Nat × Opd))
  | load (agg : Bool) (n : Nat) (x : Opd)
  | store (n : Nat) (a x : Opd)
  | nilchk (x : Opd)
  | bin (op : BinOp) (x y : Opd)
  | eqv (k : EK) (neg : Bool) (cst : Bool) (x y : Opd)
  | eqa (ks : List CK) (neg : Bool) (x y : Opd)
  | un (op : UnOp) (x : Opd)
  | cint (k : IntKind) (x : Opd)
  | cstr (x : Opd)
  | s2b (x : Opd)
  | b2s (x : Opd)
  | i2s (x : Opd)
  | mkif (t : Nat) (x : Opd)
  | mkfn (f : Fn) (first cap : List Opd)
  | mkmap
  | mksl (zero : List AV) (bytes : Nat) (l c : Opd)
  | slice (str : Bool) (sz : Nat) (x : Opd) (lo hi mx : Option Opd)
  | faddr (off : Nat) (x : Opd)
  | iaddr (arr : Option Nat) (sz : Nat) (x i : Opd)
  | fld (agg : Bool) (off n : Nat) (x : Opd)
  | idx (arr : Option (Nat × Nat × Bool)) (x i : Opd)
  | lookup (kt : KT) (zero : AV) (ok : Bool) (m k : Opd)
  | mapupd (kt : KT) (m k v : Opd)
  | mapent (kt : KT) (zero : AV) (m k : Opd)
  | entst (m s v : Opd)
  | extract (x : Opd) (i : Nat)
  | tassert (t : Nat) (zero : AV) (ok : Bool) (x : Opd)
  | tassertI (zero : AV) (ok : Bool) (x : Opd)
  | len (k : LK) (x : Opd)
  | append (sz bytes : Nat) (s x : Opd)
  | copy (sz : Nat) (d s : Opd)
  | minmax (mx : Bool) (x y : Opd)
  | srange (x : Opd)
  | snext (x : Opd)
  | recover
  | callv (f : Opd) (args : List Opd)
  | calli (recv : Opd) (name : String) (args : List Opd)
  | defer (f : Opd) (args : List Opd)
  | panic (x : Opd)
  | bad
  deriving Inhabited

structure AOper where
  dst : Option Nat
  guard : Option (Nat × Bool)
  op : AOp
  deriving Inhabited

/-- A plan of a region that draws its order: its operations with effects, in their order; from and up to how many of these each other operation may run. -/
structure Plan where
  es : List Nat
  lo : List Nat
  hi : List Nat
  deriving Inhabited

inductive AC where
  | skip
  | region (ops : List AOper)
  | dreg (pl : Plan) (ops : List AOper)
  | seq (a b : AC)
  | cond (c : Opd) (x y : AC)
  | block (id : Nat) (b : AC)
  | loop (b : AC)
  | rfunc (f : Opd) (ps : List Nat) (assign body : AC)
  | exit (id : Nat)
  | scope (b : AC)
  | label (l : Nat)
  | goto (l : Nat)
  | ret
  | bad
  deriving Inhabited

inductive Cls where | q | a | e
  deriving DecidableEq
def AOp.cls : AOp → Cls
  | .mov _ | .pick .. | .build .. | .bsl false .. | .load .. | .nilchk _ | .bin .. | .eqv .. | .eqa .. | .un .. | .cint .. | .cstr _ | .b2s _ | .i2s _ | .mkif .. | .mkfn .. | .slice .. | .faddr .. | .iaddr .. | .fld .. | .idx .. | .lookup .. | .extract .. | .tassert .. | .tassertI .. | .len .. | .minmax .. => .q
  | .alloc _ | .box .. | .bsl true .. | .mkmap | .mksl .. | .s2b _ => .a
  | _ => .e

def AOp.opds : AOp → List Opd
  | .mov x | .asg x | .box _ x | .nilchk x | .un _ x | .load _ _ x | .cint _ x | .cstr x | .b2s x | .s2b x | .i2s x | .mkif _ x | .faddr _ x | .fld _ _ _ x | .extract x _ | .tassert _ _ _ x | .tassertI _ _ x | .len _ x | .panic x | .srange x | .snext x => [x]
  | .store _ a b | .bin _ a b | .eqv _ _ _ a b | .eqa _ _ a b | .iaddr _ _ a b | .idx _ a b | .append _ _ a b | .copy _ a b | .lookup _ _ _ a b | .mapent _ _ a b | .mksl _ _ a b | .minmax _ a b => [a, b]
  | .mapupd _ a b c | .entst a b c | .pick a b c => [a, b, c]
  | .slice _ _ x a b c => [x] ++ a.toList ++ b.toList ++ c.toList
  | .build _ ps => ps.map (·.2.2)
  | .bsl _ _ _ ps => ps.map (·.2)
  | .mkfn _ a b => a ++ b
  | .callv f xs => f :: xs
  | .calli r _ xs => r :: xs
  | .defer f xs => f :: xs
  | .alloc _ | .mkmap | .recover | .bad => []

/-! ## compile -/
section comp
variable (P : Program) (G : Nat → Option (List AV))

def cOpd : Operand → Opd
  | .tmp t => .t t
  | .const v => match ofValue v with | some a => .c a | none => .c .any
  | .global g => match G g with | some row => .c (.rp row 0) | none => .c .any
  | .func f => .c (.fn (.func f) [] [])

def isConst : Operand → Bool
  | .const _ => true
  | _ => false

def zeroOf (t : TypeId) : Option AV := ((P.info? t).bind (·.zero)).bind ofValue
def aggT (t : TypeId) : Bool := match P.underlying t with | some (.struct _) | some (.array _ _) => true | _ => false
/-- The kinds of the cells of numbers, strings, bools, and structs of these, whose cells are all of their fields'. -/
def flatT : Nat → TypeId → Option (List CK)
  | 0, _ => none
  | d + 1, t => match P.underlying t with
    | some (.int _) => some [.int]
    | some .string => some [.str]
    | some .bool => some [.bool]
    | some (.struct fs) => if P.stoodInHeld t then none else
        fs.toList.foldl (fun (acc : Option (List CK)) f => acc.bind fun l => (flatT d f.type).bind fun k =>
          if f.name ≠ "_" ∧ f.offset = l.length ∧ k.length = P.cellsOf f.type ∧ (P.info? f.type).isSome then some (l ++ k) else none) (some [])
    | _ => none

def keyT (t : TypeId) : Option KT :=
  match P.underlying t, flatT P 5 t with
  | some (.struct _), some ks => some (.agg ks)
  | some _, some [k] => some (.one k)
  | _, _ => none

/-- The zero value's cells, if there are as many as the type has. -/
def zeroCells (t : TypeId) : Option (List AV) := (zeroOf P t).bind fun z => if z.cells.length = P.cellsOf t then some z.cells else none

def cCall (c : Call) : AOp :=
  let args := c.args.toList.map (cOpd G)
  match c.callee with
  | .value f => .callv (cOpd G f) args
  | .invoke r n => .calli (cOpd G r) n args
  | .builtin b => match b, args with
    | .len, [x] => match (c.argTypes[0]?).bind P.underlying with
      | some .string => .len .str x
      | some (.slice _) => .len .slice x
      | some (.map _ _) => .len .map x
      | some (.array n _) => .mov (.c (.int .i64 n))
      | some (.pointer a) => match P.underlying a with | some (.array n _) => .mov (.c (.int .i64 n)) | _ => .bad
      | _ => .bad
    | .append, [s, x] => match (c.argTypes[0]?).bind P.underlying, (c.argTypes[1]?).bind P.underlying with
      | some (.slice e), some (.slice _) => if 0 < P.cellsOf e ∧ 0 < P.bytesOf e ∧ P.bytesOf e ≤ 2 ^ 16 ∧ (zeroCells P e).isSome then .append (P.cellsOf e) (P.bytesOf e) s x else .bad
      | _, _ => .bad
    | .copy, [d, s] => match (c.argTypes[0]?).bind P.underlying with
      | some (.slice e) => if 0 < P.cellsOf e then .copy (P.cellsOf e) d s else .bad
      | _ => .bad
    | .min, [x, y] => .minmax false x y
    | .max, [x, y] => .minmax true x y
    | .recover, [] => .recover
    | .panic, [x] => .panic x
    | _, _ => .bad

def cOp (own : Bool) (o : Oper) : AOp :=
  match o.op with
  | .move x => .mov (cOpd G x)
  | .assign x => .asg (cOpd G x)
  | .pick c a b => .pick (cOpd G c) (cOpd G a) (cOpd G b)
  | .alloc e => match zeroCells P e with | some z => .alloc z | none => .bad
  | .box e x => .box (P.cellsOf e) (cOpd G x)
  | .build t ps => match P.underlying t, zeroCells P t with
    | some (.struct fs), some z => if ps.toList.all (fun p => p.1 < fs.size) ∧ fs.toList.all (fun f => (P.info? f.type).isSome) then .build z (ps.toList.map fun p => ((fs.getD p.1 default).offset, P.cellsOf (fs.getD p.1 default).type, cOpd G p.2)) else .bad
    | some (.array _ e), some z => if (P.info? e).isSome then .build z (ps.toList.map fun p => (p.1 * P.cellsOf e, P.cellsOf e, cOpd G p.2)) else .bad
    | _, _ => .bad
  | .buildSlice t n ps => match P.underlying t with
    | some (.slice e) => match zeroCells P e with
      | some z => if 0 < P.cellsOf e ∧ n * P.cellsOf e ≤ 2 ^ 24 then .bsl own z n (ps.toList.map fun p => (p.1, cOpd G p.2)) else .bad
      | none => .bad
    | _ => .bad
  | .load t a => if (aggT P t ∨ P.cellsOf t = 1) ∧ (P.underlying t).isSome then .load (aggT P t) (P.cellsOf t) (cOpd G a) else .bad
  | .store t a x => if (P.info? t).isSome then .store (P.cellsOf t) (cOpd G a) (cOpd G x) else .bad
  | .nilCheck x => .nilchk (cOpd G x)
  | .binOp op t x y _ =>
    match P.underlying t with
    | some (.int _) | some .string => .bin op (cOpd G x) (cOpd G y)
    | u => match (match op with | .eql => some false | .neq => some true | _ => none) with
      | none => .bad
      | some neg => match u with
        | some .bool => .eqv .bool neg (isConst x || isConst y) (cOpd G x) (cOpd G y)
        | some (.pointer _) => .eqv .ptr neg (isConst x || isConst y) (cOpd G x) (cOpd G y)
        | some (.slice _) => .eqv .slice neg (isConst x || isConst y) (cOpd G x) (cOpd G y)
        | some (.map _ _) => .eqv .map neg (isConst x || isConst y) (cOpd G x) (cOpd G y)
        | some (.func _ _ _) => .eqv .func neg (isConst x || isConst y) (cOpd G x) (cOpd G y)
        | some (.interface _) => .eqv .iface neg (isConst x || isConst y) (cOpd G x) (cOpd G y)
        | some (.struct _) => match flatT P 5 t with | some ks => if P.eqGuardType P.depth t then .bad else .eqa ks neg (cOpd G x) (cOpd G y) | none => .bad
        | _ => .bad
  | .unOp op _ x => .un op (cOpd G x)
  | .convert s d x => match P.underlying s, P.underlying d with
    | some (.int _), some (.int k) => .cint k (cOpd G x)
    | some .string, some .string => .cstr (cOpd G x)
    | some .string, some (.slice e) => match P.underlying e with | some (.int .u8) => if P.cellsOf e = 1 then .s2b (cOpd G x) else .bad | _ => .bad
    | some (.slice e), some .string => match P.underlying e with | some (.int .u8) => .b2s (cOpd G x) | _ => .bad
    | some (.int _), some .string => .i2s (cOpd G x)
    | _, _ => .bad
  | .makeInterface t x => match P.underlying t with | some (.interface _) => .bad | none => .bad | _ => .mkif t (cOpd G x)
  | .makeFunc (.yield _) _ _ => .bad
  | .makeFunc f a c => .mkfn f (a.toList.map (cOpd G)) (c.toList.map (cOpd G))
  | .makeMap _ none => .mkmap
  | .makeMap t (some x) => match P.underlying t with | some (.map _ _) => (match x with | .const (.int _ _) => .mkmap | _ => .bad) | _ => .bad
  | .makeSlice t l c => match P.underlying t with
    | some (.slice e) => match zeroCells P e with
      | some z => if 0 < P.cellsOf e ∧ P.bytesOf e ≤ 2 ^ 16 then .mksl z (P.bytesOf e) (cOpd G l) (cOpd G c) else .bad
      | none => .bad
    | _ => .bad
  | .slice t x l h m => match P.underlying t with
    | some .string => if m.isNone then .slice true 0 (cOpd G x) (l.map (cOpd G)) (h.map (cOpd G)) none else .bad
    | some (.slice e) => if 0 < P.cellsOf e ∧ (m.isSome → h.isSome) then .slice false (P.cellsOf e) (cOpd G x) (l.map (cOpd G)) (h.map (cOpd G)) (m.map (cOpd G)) else .bad
    | _ => .bad
  | .fieldAddr t x f => match P.underlying t with
    | some (.struct fs) => match fs[f]? with
      | some f => if P.cellsOf f.type = 0 then .bad else .faddr f.offset (cOpd G x)
      | none => .bad
    | _ => .bad
  | .field t x f => match P.underlying t with
    | some (.struct fs) => match fs[f]? with
      | some f => if (P.underlying f.type).isSome then .fld (aggT P f.type) f.offset (P.cellsOf f.type) (cOpd G x) else .bad
      | none => .bad
    | _ => .bad
  | .indexAddr t x i => match P.underlying t with
    | some (.slice e) => if 0 < P.cellsOf e then .iaddr none (P.cellsOf e) (cOpd G x) (cOpd G i) else .bad
    | some (.array n e) => if 0 < P.cellsOf e then .iaddr (some n) (P.cellsOf e) (cOpd G x) (cOpd G i) else .bad
    | _ => .bad
  | .index t x i => match P.underlying t with
    | some .string => .idx none (cOpd G x) (cOpd G i)
    | some (.array n e) => if (P.underlying e).isSome then .idx (some (n, P.cellsOf e, aggT P e)) (cOpd G x) (cOpd G i) else .bad
    | _ => .bad
  | .lookup t m k ok => match P.underlying t with
    | some (.map kt e) => match zeroOf P e with | some z => (match keyT P kt with | some kt => .lookup kt z ok (cOpd G m) (cOpd G k) | none => .bad) | none => .bad
    | _ => .bad
  | .mapUpdate t m k v | .insert t m k v => match P.underlying t with | some (.map kt _) => (match keyT P kt with | some kt => .mapupd kt (cOpd G m) (cOpd G k) (cOpd G v) | none => .bad) | _ => .bad
  | .mapEntry t m k => match P.underlying t with
    | some (.map kt e) => match zeroOf P e with | some z => (match keyT P kt with | some kt => .mapent kt z (cOpd G m) (cOpd G k) | none => .bad) | none => .bad
    | _ => .bad
  | .entryStore _ m s v => .entst (cOpd G m) (cOpd G s) (cOpd G v)
  | .extract x i => .extract (cOpd G x) i
  | .typeAssert x _ t ok => match P.underlying t, zeroOf P t with
    | some (.interface _), some z => .tassertI z ok (cOpd G x)
    | some _, some z => .tassert t z ok (cOpd G x)
    | _, _ => .bad
  | .call c => cCall P G c
  | .defer c => match c.callee with
    | .value f => .defer (cOpd G f) (c.args.toList.map (cOpd G))
    | _ => .bad
  | .panic x => .panic (cOpd G x)
  | .range t x => match P.underlying t with | some .string => .srange (cOpd G x) | _ => .bad
  | .next x s => if s then .snext (cOpd G x) else .bad
  | _ => .bad

/-- Whether the value of an operation is but the second operand of an append in its region. -/
def onlyAppended (ops : List Oper) (o : Oper) : Bool :=
  match o.dst with
  | none => false
  | some d => ops.any fun p => match p.op with
    | .call c => (match c.callee with | .builtin .append => (match c.args.toList with | [_, .tmp t] => t == d | _ => false) | _ => false)
    | _ => false

/-- The operation, where a guard names the slot of another one; 'draw': no literal of a slice is owned. -/
def cOper (draw : Bool) (ops : List Oper) (o : Oper) : AOper :=
  match o.guard with
  | none => { dst := o.dst, guard := none, op := cOp P G (!draw && !onlyAppended ops o) o }
  | some (j, b) => match (ops[j]?).bind (·.dst) with
    | some t => { dst := o.dst, guard := some (t, b), op := cOp P G (!draw && !onlyAppended ops o) o }
    | none => { dst := o.dst, guard := none, op := .bad }

/-- The operations before an operation, in whatever order. -/
def preds (ops : List Oper) : List (List Nat) :=
  ops.foldl (fun acc o =>
    let direct := (o.after.toList.filter fun e => Region.binds .any e).map (·.on)
    acc ++ [(direct ++ direct.flatMap fun j => acc.getD j []).eraseDups]) []

def mkPlan (pre : List (List Nat)) (aops : List AOper) : Plan :=
  let es := (List.range aops.length).filter fun i => (aops.getD i default).op.cls == .e
  { es, lo := (List.range aops.length).map fun i => (es.filter fun e => (pre.getD i []).contains e).length,
    hi := (List.range aops.length).map fun i => (es.filter fun e => !(pre.getD e []).contains i).length }

def readsOf (o : AOper) : List Nat := (o.op.opds.filterMap fun | .t n => some n | .c _ => none) ++ (o.guard.map (·.1)).toList

/-- What a plan must keep. -/
def planOk (ops : List Oper) (pre : List (List Nat)) (aops : List AOper) (pl : Plan) : Bool :=
  let n := aops.length
  let isE (i : Nat) : Bool := (aops.getD i default).op.cls == .e
  let dst (i : Nat) : Option Nat := (aops.getD i default).dst
  ops.length == n && pre.length == n && pl.lo.length == n && pl.hi.length == n &&
  -- edges go backwards; 'pre' is what is before, all of it and no more
  (List.range n).all (fun i =>
    let direct := (((ops.getD i default).after.toList.filter fun e => Region.binds .any e).map (·.on))
    direct.all (fun j => j < i && (pre.getD i []).contains j && (pre.getD j []).all (fun k => (pre.getD i []).contains k)) &&
    (pre.getD i []).all (fun k => k < i && (direct.contains k || direct.any fun j => (pre.getD j []).contains k))) &&
  -- the operations with effects are a chain
  pl.es.all (fun e => e < n && isE e) && (List.range n).all (fun i => !isE i || pl.es.contains i) &&
  (List.range pl.es.length).all (fun k => (List.range k).all fun j => (pre.getD (pl.es.getD k 0) []).contains (pl.es.getD j 0)) &&
  (List.range n).all (fun i => isE i ||
    (-- the bounds
     (List.range pl.es.length).all (fun k => ((pre.getD i []).contains (pl.es.getD k 0) == decide (k < pl.lo.getD i 0)) && ((pre.getD (pl.es.getD k 0) []).contains i == decide (pl.hi.getD i 0 ≤ k))) &&
     pl.lo.getD i 0 ≤ pl.es.length && pl.hi.getD i 0 ≤ pl.es.length &&
     -- whoever reads its slot comes behind it; nobody else writes it
     (match dst i with
      | none => true
      | some d => (List.range n).all fun j => (!(readsOf (aops.getD j default)).contains d || (pre.getD j []).contains i) && (j == i || dst j != some d)) &&
     -- what memory is made of is not written by the others
     ((aops.getD i default).op.cls != .a || (readsOf (aops.getD i default)).all fun t => pl.es.all fun e => dst e != some t))) &&
  (List.range n).all (fun i => match (aops.getD i default).op with | .defer .. | .recover | .bad => false | _ => true)

def comp : Code → AC
  | .skip => .skip
  | .region _ ops d =>
    let aops := ops.toList.map (cOper P G d ops.toList)
    if d then
      let pre := preds ops.toList
      let pl := mkPlan pre aops
      if planOk ops.toList pre aops pl then .dreg pl aops else .bad
    else .region aops
  | .seq a b => .seq (comp a) (comp b)
  | .cond c x y => .cond (cOpd G c) (comp x) (comp y)
  | .block id b => .block id (comp b)
  | .loop b => .loop (comp b)
  | .rangeFunc f ps a b => .rfunc (cOpd G f) ps.toList (comp a) (comp b)
  | .exit id => .exit id
  | .scope b => .scope (comp b)
  | .label l => .label l
  | .goto l => .goto l
  | .ret => .ret
  | .refuse _ => .bad
end comp

/-! ## the store -/
inductive LS where | ready | busy | done | exhausted
  deriving DecidableEq

inductive Ent where
  | cells (v sz : Nat) (rows : List (List AV)) (fz : Bool)
  | map (es : List (AV × AV × Nat)) (clock : Nat)
  | siter (s : List Nat) (pos : Nat)
  | loop (st : LS) (jump : Option AC) (tm : List AV) (ps : List Nat) (assign body : AC)
  | dfr (op : Bool)
  deriving Inhabited

/-- The entries, the last one first. -/
abbrev Store := List Ent

def Store.get (s : Store) (r : Nat) : Option Ent := s.reverse[r]?
def Store.put (s : Store) (r : Nat) (e : Ent) : Store := (s.reverse.set r e).reverse

/-- 'run': a normal call; 'ret', 'pan': a deferred call, and how its caller fares; 'round': a round of a loop. -/
inductive AMode where | run | ret | pan (ch : List (AV × Bool)) | round
inductive AX where | normal | exit (id : Nat) | goto (l : Nat) | ret | panic (ch : List (AV × Bool))
inductive ADef where | fn (f : Fn) (cap args : List AV) | mark (r : Nat)
structure St where
  tm : List AV
  df : List ADef
  md : AMode
  sg : Store
inductive ARes where | ret (v : AV) | panic (ch : List (AV × Bool))

def ev (tm : List AV) : Opd → AV
  | .t n => tm.getD n .undef
  | .c v => v

def opt {α β : Type} (o : Option α) (f : α → Option β) : Option β := match o with | some x => f x | none => none

/-! ## operations that change nothing -/
def getRow (agg : Bool) (n : Nat) (row : List AV) (o : Nat) : Option AV :=
  if agg then (if o + n ≤ row.length then some (.agg ((row.drop o).take n)) else none) else row[o]?

def loadAt (s : Store) (agg : Bool) (n : Nat) (a : AV) : Option AV :=
  match a with
  | .rp row o => getRow agg n row o
  | .ptr r v i o => match s.get r with
    | some (.cells v' _ rows _) => if v' = v then opt rows[i]? fun row => getRow agg n row o else none
    | _ => none
  | _ => none

def splice (row : List AV) (o : Nat) (xs : List AV) : List AV := row.take o ++ xs ++ row.drop (o + xs.length)

def fillA (zero : List AV) : List (Nat × Nat × AV) → Option (List AV)
  | [] => some zero
  | (o, n, x) :: rest => if x.cells.length = n ∧ o + n ≤ zero.length ∧ x.cells.all AV.one then fillA (splice zero o x.cells) rest else none

def fillRows (sz n : Nat) (rows : List (List AV)) : List (Nat × AV) → Option (List (List AV))
  | [] => some rows
  | (i, x) :: rest => if x.cells.length = sz ∧ i < n ∧ x.cells.all AV.one then fillRows sz n (rows.set i x.cells) rest else none

def rowsOf (s : Store) : AV → Option (List (List AV))
  | .list _ rows => some rows
  | .sl r v off len _ => match s.get r with
    | some (.cells v' _ rows _) => if v' = v ∧ off + len ≤ rows.length then some ((rows.drop off).take len) else none
    | _ => none
  | _ => none

def simpleEq : CK → AV → AV → Option Bool
  | .bool, .bool a, .bool b => some (a == b)
  | .int, .int k a, .int k' b => if k = k' then some (a == b) else none
  | .str, .str a, .str b => some (a == b)
  | _, _, _ => none

def cellsEq : List CK → List AV → List AV → Option Bool
  | [], [], [] => some true
  | k :: ks, x :: xs, y :: ys => opt (simpleEq k x y) fun b => opt (cellsEq ks xs ys) fun b' => some (b && b')
  | _, _, _ => none

def avEq (k : EK) (x y : AV) : Option Bool :=
  match k, x, y with
  | .bool, .bool a, .bool b => some (a == b)
  | .ptr, .nilp, .nilp => some true
  | .ptr, .nilp, .ptr .. | .ptr, .nilp, .rp .. | .ptr, .ptr .., .nilp | .ptr, .rp .., .nilp => some false
  | .iface, .nili, .ifc .. | .iface, .ifc .., .nili => some false
  | .func, .nilf, .nilf => some true
  | .func, .nilf, .fn .. | .func, .fn .., .nilf => some false
  | .map, .nilm, .nilm => some true
  | .map, .nilm, .map _ | .map, .map _, .nilm => some false
  | .slice, .list k _, .list .nil _ => some (k = .nil)
  | .slice, .list .nil _, .list k _ => some (k = .nil)
  | _, _, _ => none

/-- Keys of maps. -/
def keyEq : KT → AV → AV → Option Bool
  | .one k, x, y => simpleEq k x y
  | .agg ks, .agg a, .agg b => cellsEq ks a b
  | _, _, _ => none

def strLt : List Nat → List Nat → Bool
  | _, [] => false
  | [], _ :: _ => true
  | a :: x, b :: y => decide (a < b) || (a == b && strLt x y)

def binI (op : BinOp) (k : IntKind) (a b : Int) : Option AV :=
  match op with
  | .add => some (.int k (k.wrap (a + b)))
  | .sub => some (.int k (k.wrap (a - b)))
  | .mul => some (.int k (k.wrap (a * b)))
  | .quo => if b = 0 then none else some (.int k (k.wrap (a.tdiv b)))
  | .rem => if b = 0 then none else some (.int k (a.tmod b))
  | .and => some (.int k (k.wrap (BitVec.ofInt k.bits a &&& BitVec.ofInt k.bits b).toNat))
  | .or => some (.int k (k.wrap (BitVec.ofInt k.bits a ||| BitVec.ofInt k.bits b).toNat))
  | .xor => some (.int k (k.wrap (BitVec.ofInt k.bits a ^^^ BitVec.ofInt k.bits b).toNat))
  | .andNot => some (.int k (k.wrap (BitVec.ofInt k.bits a &&& ~~~ (BitVec.ofInt k.bits b)).toNat))
  | .eql => some (.bool (a == b))
  | .neq => some (.bool (a != b))
  | .lss => some (.bool (decide (a < b)))
  | .leq => some (.bool (decide (a ≤ b)))
  | .gtr => some (.bool (decide (a > b)))
  | .geq => some (.bool (decide (a ≥ b)))
  | _ => none

def binS (op : BinOp) (a b : List Nat) : Option AV :=
  match op with
  | .add => if a.length + b.length < 2 ^ 62 then some (.str (a ++ b)) else none
  | .eql => some (.bool (a == b))
  | .neq => some (.bool !(a == b))
  | .lss => some (.bool (strLt a b))
  | .leq => some (.bool (strLt a b || a == b))
  | .gtr => some (.bool !(strLt a b || a == b))
  | .geq => some (.bool !(strLt a b))
  | _ => none

def bin (op : BinOp) (x y : AV) : Option AV :=
  match x, y with
  | .int k a, .int k' b =>
    match op with
    | .shl => if b < 0 then none else some (.int k (k.wrap (a * 2 ^ (min b.toNat k.bits))))
    | .shr => if b < 0 then none else some (.int k (a.fdiv (2 ^ (min b.toNat k.bits))))
    | _ => if k = k' then binI op k a b else none
  | .str a, .str b => binS op a b
  | _, _ => none

def asNat : AV → Option Nat
  | .int _ n => if 0 ≤ n then some n.toNat else none
  | _ => none

def asNatO (tm : List AV) : Option Opd → Option (Option Nat)
  | none => some none
  | some x => (asNat (ev tm x)).map some

def findKey (n : KT) (k : AV) : List (AV × AV × Nat) → Nat → Option (Option (Nat × AV × Nat))
  | [], _ => some none
  | (k', v, b) :: es, i => opt (keyEq n k k') fun t => if t then some (some (i, v, b)) else findKey n k es (i + 1)

def rowsSz (sz : Nat) : List (List AV) → Bool
  | [] => true
  | row :: _ => row.length == sz

def aslice (s : Store) (str : Bool) (sz : Nat) (x : AV) (lo hi mx : Option Nat) : Option AV :=
  let l := lo.getD 0
  match x with
  | .str b =>
    let h := hi.getD b.length
    if str = true ∧ l ≤ h ∧ h ≤ b.length ∧ mx = none then some (.str ((b.take h).drop l)) else none
  | .list k rows =>
    let h := hi.getD rows.length
    if l ≤ h ∧ h ≤ rows.length ∧ str = false ∧ rowsSz sz rows = true then match mx with
      | none => some (.list (if k = .nil then .nil else if k = .exact ∧ h = rows.length then .exact else .plain) ((rows.take h).drop l))
      | some m => if h = m then some (.list (if k = .nil then .nil else .exact) ((rows.take h).drop l)) else none
    else none
  | .sl r v off len ex =>
    match s.get r with
    | some (.cells v' sz' rows _) =>
      let h := hi.getD len
      if v' = v ∧ sz' = sz ∧ l ≤ h ∧ str = false ∧ off + len ≤ rows.length ∧ (h ≤ len ∨ (ex = false ∧ off + h ≤ rows.length)) then match mx with
        | none => if ex = true ∧ h ≠ len then none else some (.sl r v (off + l) (h - l) ex)
        | some m => if h = m then some (.sl r v (off + l) (h - l) true) else none
      else none
    | _ => none
  | _ => none

def asBytes : List (List AV) → Option (List Nat)
  | [] => some []
  | [.int .u8 n] :: rest => if 0 ≤ n ∧ n < 256 then (asBytes rest).map (n.toNat :: ·) else none
  | _ => none

/-- An operation that changes nothing: its value. -/
def qop (tm : List AV) (s : Store) : AOp → Option AV
  | .mov x => some (ev tm x)
  | .pick c a b => match ev tm c with | .bool t => some (if t then ev tm a else ev tm b) | _ => none
  | .build z ps => (fillA z (ps.map fun p => (p.1, p.2.1, ev tm p.2.2))).map .agg
  | .bsl false z n ps => (fillRows z.length n (List.replicate n z) (ps.map fun p => (p.1, ev tm p.2))).map (.list .exact)
  | .load g n x => loadAt s g n (ev tm x)
  | .nilchk x => match ev tm x with | .ptr r v i o => some (.ptr r v i o) | .rp row o => some (.rp row o) | .fn (.func f) b c => some (.fn (.func f) b c) | _ => none
  | .bin op x y => bin op (ev tm x) (ev tm y)
  | .eqv k neg cst x y => match ev tm x, ev tm y with
    | .nili, .nili => if cst ∧ k = .iface then some (.bool (!neg)) else none
    | .sl r v off len ex, .list .nil _ => if k = .slice then opt (rowsOf s (.sl r v off len ex)) fun _ => some (.bool neg) else none
    | .list .nil _, .sl r v off len ex => if k = .slice then opt (rowsOf s (.sl r v off len ex)) fun _ => some (.bool neg) else none
    | a, b => (avEq k a b).map fun t => .bool (t != neg)
  | .eqa ks neg x y => match ev tm x, ev tm y with
    | .agg a, .agg b => (cellsEq ks a b).map fun t => .bool (t != neg)
    | _, _ => none
  | .un op x => match op, ev tm x with
    | .neg, .int k n => some (.int k (k.wrap (0 - n)))
    | .not, .bool b => some (.bool !b)
    | .xor, .int k n => binI .xor k (if k.signed then -1 else k.max) n
    | _, _ => none
  | .cint k x => match ev tm x with | .int _ n => some (.int k (k.wrap n)) | _ => none
  | .cstr x => match ev tm x with | .str b => some (.str b) | _ => none
  | .b2s x => opt (rowsOf s (ev tm x)) fun rows => (asBytes rows).map .str
  | .i2s x => match ev tm x with | .int _ n => some (.str (bytesN (Utf8.encode n))) | _ => none
  | .mkif t x => some (.ifc t (ev tm x))
  | .mkfn f a c => some (.fn f (a.map (ev tm)) (c.map (ev tm)))
  | .slice str sz x lo hi mx =>
    opt (asNatO tm lo) fun lo => opt (asNatO tm hi) fun hi => opt (asNatO tm mx) fun mx => aslice s str sz (ev tm x) lo hi mx
  | .faddr o x => match ev tm x with
    | .ptr r v i p => some (.ptr r v i (p + o))
    | .rp row p => some (.rp row (p + o))
    | _ => none
  | .iaddr arr sz x i => opt (asNat (ev tm i)) fun i => match arr, ev tm x with
    | some n, .ptr r v j o => if i < n then some (.ptr r v j (o + i * sz)) else none
    | some n, .rp row o => if i < n then some (.rp row (o + i * sz)) else none
    | none, .list _ rows => opt rows[i]? fun row => if row.length = sz then some (.rp row 0) else none
    | none, .sl r v off len _ => match s.get r with
      | some (.cells v' sz' _ _) => if v' = v ∧ sz' = sz ∧ i < len then some (.ptr r v (off + i) 0) else none
      | _ => none
    | _, _ => none
  | .fld g o n x => match ev tm x with
    | .agg l => getRow g n l o
    | _ => none
  | .idx arr x i => opt (asNat (ev tm i)) fun i => match arr, ev tm x with
    | none, .str b => opt b[i]? fun n => some (.int .u8 n)
    | some (n, sz, g), .agg l => if i < n then getRow g sz l (i * sz) else none
    | _, _ => none
  | .lookup kn z okk m k =>
    let res (v : AV) (t : Bool) : Option AV := some (if okk then .tup [v, .bool t] else v)
    match ev tm m with
    | .nilm => opt (keyEq kn (ev tm k) (ev tm k)) fun _ => res z false
    | .map r => match s.get r with
      | some (.map es _) => opt (keyEq kn (ev tm k) (ev tm k)) fun _ => opt (findKey kn (ev tm k) es 0) fun
        | some (_, v, _) => res v true
        | none => res z false
      | _ => none
    | _ => none
  | .extract x i => match ev tm x with | .tup l => l[i]? | _ => none
  | .tassert t z okk x => match ev tm x with
    | .nili => if okk then some (.tup [z, .bool false]) else none
    | .ifc u v => if u = t then some (if okk then .tup [v, .bool true] else v) else if okk then some (.tup [z, .bool false]) else none
    | _ => none
  | .tassertI z okk x => match ev tm x with
    | .nili => if okk then some (.tup [z, .bool false]) else none
    | _ => none
  | .len k x => match k, ev tm x with
    | .str, .str b => some (.int .i64 b.length)
    | .slice, .list _ rows => some (.int .i64 rows.length)
    | .slice, .sl _ _ _ n _ => some (.int .i64 n)
    | .map, .nilm => some (.int .i64 0)
    | .map, .map r => match s.get r with | some (.map es _) => some (.int .i64 es.length) | _ => none
    | _, _ => none
  | .minmax mx x y => match ev tm x, ev tm y with
    | .int k a, .int k' b => if k = k' then some (.int k (if mx then (if b > a then b else a) else (if b < a then b else a))) else none
    | _, _ => none
  | _ => none

/-! ## operations that make memory -/
/-- The value, and the entry that is new. -/
def aop (s : Store) (tm : List AV) : AOp → Option (AV × Ent)
  | .alloc z => if z.all AV.one then some (.ptr s.length 0 0 0, .cells 0 z.length [z] false) else none
  | .box n x => if (ev tm x).cells.length = n ∧ (ev tm x).cells.all AV.one then some (.ptr s.length 0 0 0, .cells 0 n [(ev tm x).cells] false) else none
  | .bsl true z n ps => if z.all AV.one then (fillRows z.length n (List.replicate n z) (ps.map fun p => (p.1, ev tm p.2))).map fun rows => (.sl s.length 0 0 n false, .cells 0 z.length rows false) else none
  | .mkmap => some (.map s.length, .map [] 0)
  | .mksl z b l c => opt (asNat (ev tm l)) fun l => opt (asNat (ev tm c)) fun c =>
      if l ≤ c ∧ c ≤ 2 ^ 30 ∧ z.all AV.one then some (.sl s.length 0 0 l false, .cells 0 z.length (List.replicate c z) false) else none
  | .s2b x => match ev tm x with
    | .str b => if b.length ≤ 2 ^ 30 then some (.sl s.length 0 0 b.length false, .cells 0 1 (b.map fun (n : Nat) => [.int .u8 n]) false) else none
    | _ => none
  | _ => none

/-! ## operations with effects -/
def storeAt (s : Store) (n : Nat) (a x : AV) : Option Store :=
  match a with
  | .ptr r v i o => match s.get r with
    | some (.cells v' sz rows false) =>
      if v' = v ∧ x.cells.length = n ∧ x.cells.all AV.one then opt rows[i]? fun row => if o + n ≤ row.length then some (s.put r (.cells v sz (rows.set i (splice row o x.cells)) false)) else none
      else none
    | _ => none
  | _ => none

def rowsOne (rows : List (List AV)) : Bool := rows.all fun row => row.all AV.one

def aappend (sz : Nat) (s : Store) (x y : AV) : Option (AV × Store) :=
  opt (rowsOf s y) fun new => if (rowsSz sz new && rowsOne new) = false then none else
    match x with
    | .list k rows =>
      if new = [] then some (x, s) else
      if k ≠ .plain ∧ (rowsSz sz rows && rowsOne rows) = true ∧ rows.length + new.length ≤ 2 ^ 30 then some (.sl s.length 0 0 (rows.length + new.length) false, Ent.cells 0 sz (rows ++ new) false :: s) else none
    | .sl r v off len ex =>
      match s.get r with
      | some (.cells v' sz' rows fz) =>
        if v' = v ∧ sz' = sz ∧ off + len ≤ rows.length ∧ len + new.length ≤ 2 ^ 30 then
          if new = [] then some (x, s)
          else if ex then some (.sl s.length 0 0 (len + new.length) false, Ent.cells 0 sz ((rows.drop off).take len ++ new) false :: s)
          else if fz then none
          else if off + len + new.length ≤ rows.length then some (.sl r v off (len + new.length) false, s.put r (.cells v sz (rows.take (off + len) ++ new ++ rows.drop (off + len + new.length)) false))
          else some (.sl r (v + 1) 0 (len + new.length) false, s.put r (.cells (v + 1) sz ((rows.drop off).take len ++ new) false))
        else none
      | _ => none
    | _ => none

def acopy (sz : Nat) (s : Store) (d x : AV) : Option (AV × Store) :=
  opt (rowsOf s x) fun new => if (rowsSz sz new && rowsOne new) = false then none else match d with
    | .sl r v off len _ => match s.get r with
      | some (.cells v' sz' rows false) =>
        if v' = v ∧ sz' = sz ∧ off + len ≤ rows.length then some (.int .i64 (min new.length len : Nat), s.put r (.cells v sz (rows.take off ++ new.take len ++ rows.drop (off + min new.length len)) false)) else none
      | _ => none
    | _ => none

def eop (tm : List AV) (s : Store) : AOp → Option (AV × Store)
  | .asg x => some (ev tm x, s)
  | .store n a x => (storeAt s n (ev tm a) (ev tm x)).map (.undef, ·)
  | .append sz _ x y => aappend sz s (ev tm x) (ev tm y)
  | .copy sz d x => acopy sz s (ev tm d) (ev tm x)
  | .mapupd kn m k v => match ev tm m with
    | .map r => match s.get r with
      | some (.map es c) => opt (keyEq kn (ev tm k) (ev tm k)) fun _ => opt (findKey kn (ev tm k) es 0) fun
        | some (i, _, b) => some (.undef, s.put r (.map (es.set i (ev tm k, ev tm v, b)) c))
        | none => some (.undef, s.put r (.map (es ++ [(ev tm k, ev tm v, c)]) (c + 1)))
      | _ => none
    | _ => none
  | .mapent kn z m k => match ev tm m with
    | .map r => match s.get r with
      | some (.map es c) => opt (keyEq kn (ev tm k) (ev tm k)) fun _ => opt (findKey kn (ev tm k) es 0) fun
        | some (i, v, b) => some (.tup [v, .int .i64 b], s.put r (.map (es.set i (ev tm k, v, b)) c))
        | none => some (.tup [z, .int .i64 c], s.put r (.map (es ++ [(ev tm k, z, c)]) (c + 1)))
      | _ => none
    | _ => none
  | .entst m st v => match ev tm m, ev tm st with
    | .map r, .int _ b => match s.get r with
      | some (.map es c) => opt (es.findIdx? (fun e => ((e.2.2 : Nat) : Int) == b)) fun i =>
          some (.undef, s.put r (.map (es.modify i fun e => (e.1, ev tm v, e.2.2)) c))
      | _ => none
    | _, _ => none
  | .srange x => match ev tm x with | .str b => some (.ptr s.length 0 0 0, Ent.siter b 0 :: s) | _ => none
  | .snext x => match ev tm x with
    | .ptr r 0 0 0 => match s.get r with
      | some (.siter b p) =>
        if p < b.length then
          some (.tup [.bool true, .int .i64 p, .int .i32 (Utf8.decode ⟨(b.map UInt8.ofNat).toArray⟩ p).1], s.put r (.siter b (p + (Utf8.decode ⟨(b.map UInt8.ofNat).toArray⟩ p).2)))
        else some (.tup [.bool false], s)
      | _ => none
    | _ => none
  | _ => none

/-! ## control -/
abbrev CallF := Nat → List AV → AMode → Store → Option (ARes × AMode × Store)

structure Env where
  prog : Program
  glob : Nat → Option (List AV)
  ovr : Nat → Option (List AV → Store → Option (AV × Store))
  /-- Equality; it may miss some. -/
  eqv : AV → AV → Bool

def yieldBase : Nat := 1000000

/-- The function value's callee and its arguments. -/
def target (P : Program) (f : Fn) (args cap : List AV) : Option (Nat × List AV) :=
  match f with
  | .func g => if g < yieldBase then some (g, args ++ cap) else none
  | .via t ⟨[]⟩ g ptr => match P.underlying t with
    | some (.pointer _) => if ptr ∧ g < yieldBase ∧ args ≠ [] then some (g, args) else none
    | some _ => if ptr then none else if g < yieldBase ∧ args ≠ [] then some (g, args) else none
    | none => none
  | .yield l => some (yieldBase + l, args)
  | _ => none

def recv (P : Program) (t : Nat) (name : String) (v : AV) : Option (Nat × AV) :=
  opt (P.info? t) fun i => opt (i.methods.find? (·.name == name)) fun m => match m.path, m.func, P.underlying t with
    | ⟨[]⟩, some (f, true), some (.pointer _) => if f < yieldBase then some (f, v) else none
    | ⟨[]⟩, some (_, false), some (.pointer _) => none
    | ⟨[]⟩, some (f, false), some _ => if f < yieldBase then some (f, v) else none
    | _, _, _ => none

def put (tm : List AV) (d : Option Nat) (v : AV) : List AV := match d with | some d => tm.set d v | none => tm

inductive OR where
  | next (st : St)
  | leave (ch : List (AV × Bool)) (st : St)

/-- Whether an operation is wanted. -/
def wanted (tm : List AV) (o : AOper) : Option Bool :=
  match o.guard with
  | none => some true
  | some (t, b) => match tm.getD t .undef with
    | .bool c => some (c == b)
    | .tup _ => some false
    | _ => none

def afterCall (o : AOper) (st : St) : Option (ARes × AMode × Store) → Option OR
  | some (.ret v, _, s) => some (.next { st with tm := put st.tm o.dst v, sg := s })
  | some (.panic ch, _, s) => some (.leave ch { st with sg := s })
  | none => none

def doOp (E : Env) (call : CallF) (o : AOper) (st : St) : Option OR :=
  opt (wanted st.tm o) fun w =>
  if w = false then some (.next { st with tm := put st.tm o.dst .undef }) else
  match o.op.cls with
  | .q => (qop st.tm st.sg o.op).map fun v => .next { st with tm := put st.tm o.dst v }
  | .a => (aop st.sg st.tm o.op).map fun p => .next { st with tm := put st.tm o.dst p.1, sg := p.2 :: st.sg }
  | .e =>
    match o.op with
    | .callv f args => match ev st.tm f with
      | .fn f first cap => opt (target E.prog f (first ++ args.map (ev st.tm)) cap) fun g => afterCall o st (call g.1 g.2 .run st.sg)
      | _ => none
    | .calli r name args => match ev st.tm r with
      | .ifc t v => opt (recv E.prog t name v) fun g => afterCall o st (call g.1 (g.2 :: args.map (ev st.tm)) .run st.sg)
      | _ => none
    | .defer f args => match st.md, ev st.tm f with
      | .round, _ => none
      | _, .fn f first cap => some (.next { st with tm := put st.tm o.dst .undef, df := .fn f cap (first ++ args.map (ev st.tm)) :: st.df })
      | _, _ => none
    | .recover => match st.md with
      | .pan ((v, false) :: older) => some (.next { st with tm := put st.tm o.dst v, md := .pan ((v, true) :: older) })
      | .round => none
      | _ => some (.next { st with tm := put st.tm o.dst .nili })
    | .panic x => match ev st.tm x with
      | .ifc t v => some (.leave [(.ifc t v, false)] st)
      | _ => none
    | op => (eop st.tm st.sg op).map fun p => .next { st with tm := put st.tm o.dst p.1, sg := p.2 }

def runOps (E : Env) (call : CallF) : List AOper → St → Option (AX × St)
  | [], st => some (.normal, st)
  | o :: rest, st => opt (doOp E call o st) fun
    | .next st => runOps E call rest st
    | .leave ch st => some (.panic ch, st)

/-- The value that a quiet operation has. -/
def qval (tm : List AV) (s : Store) (o : AOper) : Option AV :=
  opt (wanted tm o) fun w => if w then qop tm s o.op else some .undef

/-- The operations without effects that may run behind s effects, and not before. -/
def pass (E : Env) (call : CallF) (pl : Plan) (s : Nat) : List AOper → Nat → St → Option St
  | [], _, st => some st
  | o :: rest, i, st =>
    if o.op.cls ≠ .e ∧ pl.lo.getD i 0 = s then opt (doOp E call o st) fun
      | .next st => pass E call pl s rest (i + 1) st
      | .leave _ _ => none
    else pass E call pl s rest (i + 1) st

/-- The operations that change nothing, as far as they may run behind s effects: they have the value that they had. -/
def checkAt (E : Env) (pl : Plan) (s : Nat) (st : St) : List AOper → Nat → Bool
  | [], _ => true
  | o :: rest, i =>
    (if o.op.cls = .q ∧ pl.lo.getD i 0 ≤ s ∧ s ≤ pl.hi.getD i 0 then
      match qval st.tm st.sg o, o.dst with
      | some v, some d => E.eqv v (st.tm.getD d .undef)
      | some _, none => true
      | none, _ => false
    else true) && checkAt E pl s st rest (i + 1)

/-- The slots that are not known where a region is left in its midst. -/
def blur (ops : List AOper) (tm : List AV) : List AV :=
  ops.foldl (fun tm o => if o.op.cls = .e then tm else put tm o.dst .any) tm

/-- A region that draws its order, from the s-th effect on. -/
def drun (E : Env) (call : CallF) (pl : Plan) (ops : List AOper) : List Nat → Nat → St → Option (AX × St)
  | [], s, st => opt (pass E call pl s ops 0 st) fun st => if checkAt E pl s st ops 0 then some (.normal, st) else none
  | e :: es, s, st => opt (pass E call pl s ops 0 st) fun st => if checkAt E pl s st ops 0 then
      opt ops[e]? fun o => opt (doOp E call o st) fun
      | .next st => drun E call pl ops es (s + 1) st
      | .leave ch st => some (.panic ch, { st with tm := blur ops st.tm })
    else none

def iter (body : St → Option (AX × St)) : Nat → St → Option (AX × St)
  | 0, _ => none
  | n + 1, st => opt (body st) fun
    | (.normal, st) => iter body n st
    | r => some r

def hasLabel (l : Nat) : AC → Bool
  | .seq a b => hasLabel l a || hasLabel l b
  | .label l' => l' == l
  | _ => false

def scopeIter (b : AC) (body : Option Nat → St → Option (AX × St)) : Nat → Option Nat → St → Option (AX × St)
  | 0, _, _ => none
  | n + 1, l, st => opt (body l st) fun
    | (.goto l, st) => if hasLabel l b then scopeIter b body n (some l) st else some (.goto l, st)
    | r => some r

def jumpX : Option AC → Option AX
  | none => some .normal
  | some .ret => some .ret
  | some (.exit id) => some (.exit id)
  | some (.goto l) => some (.goto l)
  | _ => none

def exec (E : Env) (call : CallF) (k : Nat) : AC → Option Nat → St → Option (AX × St)
  | .skip, _, st => some (.normal, st)
  | .region ops, _, st => runOps E call ops st
  | .dreg pl ops, _, st => drun E call pl ops pl.es 0 st
  | .seq a b, l, st =>
    match l with
    | none => opt (exec E call k a none st) fun
      | (.normal, st) => exec E call k b none st
      | r => some r
    | some l => if hasLabel l a then opt (exec E call k a (some l) st) fun
        | (.normal, st) => exec E call k b none st
        | r => some r
      else exec E call k b (some l) st
  | .cond c x y, _, st => match ev st.tm c with
    | .bool true => exec E call k x none st
    | .bool false => exec E call k y none st
    | _ => none
  | .block id b, _, st => opt (exec E call k b none st) fun
    | (.exit id', st) => if id' = id then some (.normal, st) else some (.exit id', st)
    | r => some r
  | .loop b, _, st => iter (exec E call k b none) k st
  | .scope b, _, st => scopeIter b (exec E call k b) k none st
  | .exit id, _, st => some (.exit id, st)
  | .label _, _, st => some (.normal, st)
  | .goto l, _, st => some (.goto l, st)
  | .ret, _, st => some (.ret, st)
  | .rfunc f ps assign body, _, st =>
    match st.md, ev st.tm f with
    | .round, _ => none
    | _, .fn f first cap =>
      opt (target E.prog f (first ++ [.fn (.yield (st.sg.length + 1)) [] []]) cap) fun g =>
      opt (call g.1 g.2 .run (Ent.loop .ready none st.tm ps assign body :: Ent.dfr true :: st.sg)) fun
        | (.ret _, _, s) => match Store.get s (st.sg.length + 1) with
          | some (.loop ls jump tm ps' a' b') =>
            if ls = .busy then none else
            (jumpX jump).map fun x => (x, { st with sg := s.put (st.sg.length + 1) (.loop .exhausted jump tm ps' a' b'), df := .mark st.sg.length :: st.df })
          | _ => none
        | (.panic ch, _, s) => some (.panic ch, { st with sg := s, df := .mark st.sg.length :: st.df })
    | _, _ => none
  | .bad, _, _ => none

def jumpOf : AX → Option (Option AC)
  | .normal => some none
  | .ret => some (some .ret)
  | .exit id => some (some (.exit id))
  | .goto l => some (some (.goto l))
  | .panic _ => none

/-- A yield: one round of a loop's body. -/
def round (E : Env) (call : CallF) (k : Nat) (l : Nat) (args : List AV) (s : Store) : Option (ARes × AMode × Store) :=
  match s.get l with
  | some (.loop _ _ tm ps assign body) =>
    if ps.length ≠ args.length then none else
    opt (exec E call k assign none { tm := (ps.zip args).foldl (fun tm p => tm.set p.1 p.2) tm, df := [], md := .round, sg := s }) fun
    | (.normal, st) =>
      match Store.get st.sg l with
      | some (.loop .ready jump tm' ps' assign' body') =>
        opt (exec E call k body none { st with sg := st.sg.put l (.loop .busy jump tm' ps' assign' body') }) fun
        | (.panic ch, st) => if st.df.isEmpty then some (.panic ch, .run, st.sg) else none
        | (x, st) => if st.df.isEmpty = false then none else opt (jumpOf x) fun j =>
            match Store.get st.sg l with
            | some (.loop _ _ tm' ps' assign' body') => some (.ret (.bool j.isNone), .run, st.sg.put l (.loop (if j.isNone then .ready else .done) j tm' ps' assign' body'))
            | _ => none
      | _ => none
    | _ => none
  | _ => none

def settleA : AMode → AMode
  | .pan ((_, true) :: _) => .ret
  | m => m
def raisedA (u : AMode) (ch : List (AV × Bool)) : AMode := match u with
  | .pan old => .pan (ch ++ old)
  | _ => .pan ch

def resultA (P : Program) (tm : List AV) (s : Store) : List ResultVar → Option (List AV)
  | [] => some []
  | .tmp t :: rest => (resultA P tm s rest).map (tm.getD t .undef :: ·)
  | .cell a t :: rest => if 0 < P.cellsOf t ∧ (aggT P t ∨ P.cellsOf t = 1) ∧ (P.underlying t).isSome then
      opt (loadAt s (aggT P t) (P.cellsOf t) (tm.getD a .undef)) fun v => (resultA P tm s rest).map (v :: ·)
    else none

def tupleOf : List AV → AV
  | [v] => v
  | vs => .tup vs

def leave (E : Env) (call : CallF) (fn : Func) (tm : List AV) : List ADef → AMode → Store → Option (ARes × Store)
  | [], .ret, s => (resultA E.prog tm s fn.results.toList).map fun vs => (.ret (tupleOf vs), s)
  | [], .pan ch, s => some (.panic ch, s)
  | [], .run, _ | [], .round, _ => none
  | .mark r :: ds, u, s => match Store.get s r with
    | some (.dfr true) => leave E call fn tm ds u (s.put r (.dfr false))
    | _ => none
  | .fn f cap args :: ds, u, s => opt (target E.prog f args cap) fun g => if g.1 < yieldBase then opt (call g.1 g.2 u s) fun
      | (.ret _, u', s) => leave E call fn tm ds (settleA u') s
      | (.panic ch, u', s) => leave E call fn tm ds (raisedA u' ch) s
    else none

/-- A value that leads to no entry of the store. -/
def pureV : Nat → AV → Bool
  | 0, _ => false
  | n + 1, v => match v with
    | .bool _ | .int .. | .str _ | .nilp | .nilm | .nilf | .nili => true
    | .list _ rows => rows.all fun row => row.all (pureV n)
    | .rp row _ => row.all (pureV n)
    | .fn (.yield _) _ _ => false
    | .fn _ a c => a.all (pureV n) && c.all (pureV n)
    | .ifc _ v => pureV n v
    | .agg l | .tup l => l.all (pureV n)
    | _ => false

/-- The value without entries of the store: slices of entries become lists. 'fresh': nothing but what the store has. -/
def purify (fresh : Bool) (s : Store) : Nat → AV → Option AV
  | 0, _ => none
  | n + 1, v => match v with
    | .ifc t v => (purify fresh s n v).map (.ifc t)
    | .agg l => (l.mapM (purify fresh s n)).map .agg
    | .tup l => (l.mapM (purify fresh s n)).map .tup
    | .sl _ _ _ _ ex => opt (rowsOf s v) fun rows => (rows.mapM fun (row : List AV) => row.mapM (purify fresh s n)).map (.list (if ex then .exact else .plain))
    | .list _ rows => if fresh = true ∧ rows ≠ [] then none else if pureV (n + 1) v then some v else none
    | .rp _ _ => if fresh = true then none else if pureV (n + 1) v then some v else none
    | .fn _ a c => if fresh = true ∧ ¬ (a = [] ∧ c = []) then none else if pureV (n + 1) v then some v else none
    | v => if pureV (n + 1) v then some v else none

/-- Freezes what a value leads to. -/
def frz (s : Store) : Nat → AV → Store
  | 0, _ => s
  | n + 1, v => match v with
    | .ifc _ v => frz s n v
    | .agg l => l.foldl (fun s v => frz s n v) s
    | .tup l => l.foldl (fun s v => frz s n v) s
    | .sl r v _ _ _ => match s.get r with
      | some (.cells v' sz rows _) => if v' = v then rows.foldl (fun s row => row.foldl (fun s v => frz s n v) s) (s.put r (.cells v sz rows true)) else s
      | _ => s
    | _ => s

def enter (E : Env) (call : CallF) (k : Nat) (fn : Func) (c : Code) (args : List AV) (md : AMode) (s : Store) : Option (ARes × AMode × Store) :=
  opt (exec E call k (comp E.prog E.glob c) none { tm := args ++ List.replicate (fn.ntmps - args.length) .undef, df := [], md, sg := s }) fun
    | (.normal, st) | (.ret, st) => (leave E call fn st.tm st.df .ret st.sg).map fun r => (r.1, st.md, r.2)
    | (.panic ch, st) => (leave E call fn st.tm st.df (.pan ch) st.sg).map fun r => (r.1, st.md, r.2)
    | _ => none

def callA (E : Env) : Nat → CallF
  | 0, _, _, _, _ => none
  | n + 1, f, args, md, s =>
    if yieldBase ≤ f then round E (callA E n) n (f - yieldBase) args s else
    match E.ovr f with
    | some g => (match md with
      | .run => (g args s).map fun r => (.ret r.1, .run, r.2)
      | _ => none)
    | none => opt E.prog.funcs[f]? fun fn => opt fn.body fun c => enter E (callA E n) n fn c args md s

end Go.Am
