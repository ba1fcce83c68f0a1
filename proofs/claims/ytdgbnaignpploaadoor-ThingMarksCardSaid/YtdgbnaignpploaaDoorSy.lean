/- A walk by equations over what is known of a world; it tells the truth. -/
import Derived.Still
import Derived.StillTail
import Derived.Deep.Quiet
import Derived.KernelRfl
import Derived.Below
import Derived.Laws.Sem
import Derived.Deep.MidRow
import Derived.Deep.AppendSrc
import Derived.Laws.CopyRow
import Derived.Laws.Tables
import Derived.Laws.Pointers
import Derived.Laws.Slices
import Derived.Laws.MakeOwn
import Derived.Laws.BytesString
import Derived.Laws.StructEq
import Derived.Laws.Strings
import Derived.Laws.Small
import Derived.Lib.SliceRun
import Derived.LaidEqlPtr
import Derived.Lib.Builder
import Derived.WalkKit
import Derived.Deep.DeepAppendWide
import Derived.Lib.AppendStr
import Derived.Laws.CopyOwn
import Derived.OrdersHeld
import Derived.LoopN
import Derived.Laws.RangeAny
import Derived.ChangeKeysEq
set_option linter.unusedVariables false
set_option linter.unusedSimpArgs false
/- The code, compiled: what each operation does, with its sizes at hand; regions by a plan. -/
namespace Go.Sym

/-- an operation, with the sizes of its types -/
inductive I where
  | mov (x : Operand)
  | pick (c a b : Operand)
  | ld1 (x : Operand)
  | ldN (n : Nat) (x : Operand)
  | nck (x : Operand)
  | faddr (off : Nat) (x : Operand)
  | ixa (len size : Nat) (x i : Operand)
  | ixs (size : Nat) (x i : Operand)
  | ixv (len : Nat) (x i : Operand)
  | ixw (len size : Nat) (x i : Operand)
  | six (x i : Operand)
  | fld1 (off : Nat) (x : Operand)
  | fldN (off n : Nat) (x : Operand)
  | ext (i : Nat) (x : Operand)
  | arith (op : BinOp) (x y : Operand)
  | cmp (op : BinOp) (x y : Operand)
  | bits (op : BinOp) (x y : Operand)
  | div (op : BinOp) (x y : Operand)
  | shf (op : BinOp) (x y : Operand)
  | un (op : UnOp) (x : Operand)
  | sop (op : BinOp) (x y : Operand)
  | beq (neg : Bool) (x y : Operand)
  | nil (neg : Bool) (x : Operand)
  | peq (neg : Bool) (x y : Operand)
  | snil (neg : Bool) (x : Operand)
  | fnil (neg : Bool) (x : Operand)
  | eqv (neg : Bool) (t : TypeId) (x y : Operand)
  | len (x : Operand)
  | slen (x : Operand)
  | cap (x : Operand)
  | ssub (x : Operand) (lo hi : Option Operand)
  | cnv (k : IntKind) (x : Operand)
  | bts (x : Operand)
  | mnx (isMax : Bool) (x y : Operand)
  | bld (z : List Value) (places : List (Nat × Nat)) (ps : List (Nat × Operand))
  | bldA (z : List Value) (size : Nat) (ps : List (Nat × Operand))
  | slc (size : Nat) (x : Operand) (lo hi mx : Option Operand)
  | sla (size n : Nat) (x : Operand) (lo hi : Option Operand)
  | mkf (fn : Fn) (first captured : List Operand)
  | lib (o : Oper)
  -- these write, or make memory
  | alloc (z : List Value) (size : Nat) (elem : TypeId)
  | box (elem : TypeId) (x : Operand)
  | bsl (z : List Value) (len size : Nat) (elem : TypeId) (ps : List (Nat × Operand))
  | mks (z : List Value) (size bytes : Nat) (elem : TypeId) (l c : Operand)
  | app (str : Bool) (size bytes : Nat) (elem : TypeId) (s x : Operand)
  | cpy (size : Nat) (elem : TypeId) (d s : Operand)
  | st (n : Nat) (a v : Operand)
  | call (f : Operand) (args : List Operand)
  | other (o : Oper)
  | bad

structure J where
  guard : Option (Option Tmp × Bool)
  dst : Option Tmp
  quiet : Bool
  i : I

inductive C where
  | skip
  | ops (l : List J) (keep : Option (List Nat))
  | plan (h : List (J × Bool)) (t : List J) (keep : Option (List Nat))
  | seq (a b : C)
  | cond (x : Operand) (a b : C)
  | block (id : Nat) (a : C)
  | loop (a : C)
  | exit (id : Nat)
  | ret
  | other (c : Code)
  | bad

def isAggD : TypeDesc → Bool
  | .struct _ | .array _ _ => true
  | _ => false

def zeroOf (P : Program) (t : TypeId) : Option (List Value) :=
  match P.info? t with
  | none => none
  | some i =>
    match i.zero with
    | none => none
    | some z => if z.cells.toList.length = i.size then some z.cells.toList else none

def placesOf (P : Program) (l : List Field) : Option (List (Nat × Nat)) := l.mapM fun f => (P.info? f.type).map fun i => (f.offset, i.size)

/-- a function of the library that the model answers for -/
def bodyless (P : Program) (f : FuncId) : Bool :=
  match P.funcs[f]? with
  | some fn => fn.body.isNone
  | none => false

def isNilC : Operand → Bool
  | .const (.pointer none) | .const (.slice none _ _) | .const .nilFunc => true
  | _ => false

def compBin (P : Program) (op : BinOp) (t : TypeId) (x y : Operand) (o : Oper) : I :=
  match P.underlying t with
  | some (.int _) =>
    match op with
    | .add | .sub | .mul => .arith op x y
    | .eql | .neq | .lss | .leq | .gtr | .geq => .cmp op x y
    | .and | .or | .xor | .andNot => .bits op x y
    | .quo | .rem => .div op x y
    | .shl | .shr => .shf op x y
  | some .string => .sop op x y
  | some .bool =>
    match op with
    | .eql => .beq false x y
    | .neq => .beq true x y
    | _ => .other o
  | some (.pointer e) =>
    match op, y with
    | .eql, .const (.pointer none) => .nil false x
    | .neq, .const (.pointer none) => .nil true x
    | .eql, _ => match P.info? e with | some i => if i.size = 0 then .other o else .peq false x y | none => .bad
    | .neq, _ => match P.info? e with | some i => if i.size = 0 then .other o else .peq true x y | none => .bad
    | _, _ => .other o
  | some (.slice _) =>
    match op, y with
    | .eql, .const (.slice none 0 0) => .snil false x
    | .neq, .const (.slice none 0 0) => .snil true x
    | _, _ => .other o
  | some (.func _ _ _) =>
    match op, y with
    | .eql, .const .nilFunc => .fnil false x
    | .neq, .const .nilFunc => .fnil true x
    | _, _ => .other o
  | some (.struct _) | some (.array _ _) =>
    match op with
    | .eql => .eqv false t x y
    | .neq => .eqv true t x y
    | _ => .other o
  | _ => .other o

def compBuiltin (P : Program) (b : Builtin) (args : List Operand) (ts : List TypeId) (o : Oper) : I :=
  match b, args, ts with
  | .len, [x], t :: _ =>
    match P.underlying t with
    | some (.slice _) => .len x
    | some .string => .slen x
    | _ => .other o
  | .cap, [x], t :: _ =>
    match P.underlying t with
    | some (.slice _) => .cap x
    | _ => .other o
  | .append, [s, x], [st, xt] =>
    match P.underlying st, P.underlying xt with
    | some (.slice elem), some (.slice _) =>
      match P.info? elem, zeroOf P elem with
      | some i, some _ => if i.size = 0 then .other o else .app false i.size i.bytes elem s x
      | _, _ => .bad
    | some (.slice elem), some .string =>
      match P.info? elem, zeroOf P elem with
      | some i, some _ => if i.size = 1 then .app true i.size i.bytes elem s x else .other o
      | _, _ => .bad
    | _, _ => .other o
  | .copy, [d, s], [dt, st] =>
    match P.underlying dt, P.underlying st with
    | some (.slice elem), some (.slice _) =>
      match P.info? elem with
      | some i => if i.size = 0 then .other o else .cpy i.size elem d s
      | none => .bad
    | _, _ => .other o
  | .min, [x, y], _ => .mnx false x y
  | .max, [x, y], _ => .mnx true x y
  | _, _, _ => .other o

def compOp (P : Program) (o : Oper) : I :=
  match o.op with
  | .move x | .assign x => .mov x
  | .pick c a b => .pick c a b
  | .load t x =>
    match P.underlying t, P.info? t with
    | some d, some i => if isAggD d then .ldN i.size x else .ld1 x
    | _, _ => .bad
  | .nilCheck x => .nck x
  | .fieldAddr s x f =>
    match P.underlying s with
    | some (.struct fields) =>
      match fields[f]? with
      | some fd =>
        match P.info? fd.type with
        | some i => if i.size = 0 then .other o else .faddr fd.offset x
        | none => .bad
      | none => .bad
    | _ => .bad
  | .indexAddr t x ix =>
    match P.underlying t with
    | some (.array len elem) =>
      match P.info? elem with
      | some inf => .ixa len inf.size x ix
      | none => .bad
    | some (.slice elem) =>
      match P.info? elem with
      | some inf => .ixs inf.size x ix
      | none => .bad
    | _ => .bad
  | .index t x ix =>
    match P.underlying t with
    | some (.array len elem) =>
      match P.underlying elem, P.info? elem with
      | some d, some inf => if isAggD d then .ixw len inf.size x ix else if inf.size = 1 then .ixv len x ix else .other o
      | _, _ => .bad
    | some .string => .six x ix
    | _ => .other o
  | .field t x f =>
    match P.underlying t with
    | some (.struct fields) =>
      match fields[f]? with
      | some fd =>
        match P.underlying fd.type, P.info? fd.type with
        | some d, some i => if isAggD d then .fldN fd.offset i.size x else .fld1 fd.offset x
        | _, _ => .bad
      | none => .bad
    | _ => .bad
  | .extract x i => .ext i x
  | .binOp op t x y _ => compBin P op t x y o
  | .unOp op _ x => .un op x
  | .makeFunc fn first captured => .mkf fn first.toList captured.toList
  | .build t ps =>
    match P.underlying t, zeroOf P t with
    | some (.struct fields), some z =>
      match placesOf P fields.toList with
      | some l => .bld z l ps.toList
      | none => .bad
    | some (.array _ elem), some z =>
      match P.info? elem with
      | some i => .bldA z i.size ps.toList
      | none => .bad
    | _, _ => .bad
  | .slice t x lo hi mx =>
    match P.underlying t with
    | some (.slice elem) =>
      match P.info? elem with
      | some i => .slc i.size x lo hi mx
      | none => .bad
    | some (.array n elem) =>
      match P.info? elem, mx with
      | some i, none => .sla i.size n x lo hi
      | _, _ => .other o
    | some .string =>
      match mx with
      | none => .ssub x lo hi
      | some _ => .bad
    | _ => .other o
  | .alloc elem =>
    match zeroOf P elem with
    | some z => .alloc z z.length elem
    | none => .bad
  | .box elem x => .box elem x
  | .buildSlice t len ps =>
    match P.underlying t with
    | some (.slice elem) =>
      match P.info? elem, zeroOf P elem with
      | some i, some z => if len * i.size ≤ 16777216 ∧ len ≤ 16777216 then .bsl z len i.size elem ps.toList else .bad
      | _, _ => .bad
    | _ => .bad
  | .store t a v =>
    match P.info? t with
    | some i => .st i.size a v
    | none => .bad
  | .makeSlice t l c =>
    match P.underlying t with
    | some (.slice elem) =>
      match P.info? elem, zeroOf P elem with
      | some i, some z => .mks z i.size i.bytes elem l c
      | _, _ => .bad
    | _ => .bad
  | .call { callee := .value f, args := args, .. } =>
    match f with
    | .func g => if bodyless P g then .lib o else .call f args.toList
    | _ => .call f args.toList
  | .call { callee := .builtin b, args := args, argTypes := ts } => compBuiltin P b args.toList ts.toList o
  | .convert src dst x =>
    match P.underlying src, P.underlying dst with
    | some (.slice elem), some .string =>
      match P.underlying elem with
      | some (.int .u8) => .bts x
      | _ => .other o
    | some (.int _), some (.int k) => .cnv k x
    | _, _ => .other o
  | _ => .other o

def compJ (P : Program) (ops : Array Oper) (quiet : Bool) (o : Oper) : J :=
  { guard := o.guard.map fun (j, want) => ((ops[j]?).bind (·.dst), want), dst := o.dst, quiet := quiet, i := compOp P o }

def compL (P : Program) (ops : Array Oper) : Nat → List Oper → List J
  | _, [] => []
  | 0, o :: r => compJ P ops false o :: compL P ops 0 r
  | n + 1, o :: r => compJ P ops true o :: compL P ops n r

/-- read -/
def reads : I → Bool
  | .alloc .. | .box .. | .bsl .. | .mks .. | .app .. | .cpy .. | .st .. | .call .. | .other .. | .bad => false
  | _ => true
/-- read in a plan, out of turn -/
def planReads : I → Bool
  | .bts _ => false
  | i => reads i
/-- read, or called -/
def calm : I → Bool
  | .call .. => true
  | i => reads i

def drawRo (P : Program) (ops : Array Oper) (draw : Bool) : Option Nat :=
  if draw then
    if Region.lexB .any ops && ops.toList.all (fun o => calm (compOp P o)) then some ops.size
    else (List.range ops.size).find? fun n => Region.lexTailB .any ops n && (ops.toList.take n).all (fun o => calm (compOp P o))
  else some 0

/-- an order for the head of a region that draws: what may be taken first; what stands alone -/
def planOf (P : Program) (ops : Array Oper) (n : Nat) : Nat → Array Bool → Option (List (Nat × Bool))
  | 0, listed => if Region.seqB .any ops (ops.size - n) n listed then some [] else none
  | f + 1, listed =>
    match (Region.ready .any ops listed).find? fun i => decide (i < n) && Region.free .any ops listed i && (match ops[i]? with | some o => planReads (compOp P o) | none => false) with
    | some i => (planOf P ops n f (listed.setIfInBounds i true)).map ((i, false) :: ·)
    | none =>
      match Region.ready .any ops listed with
      | [i] => if i < n then (planOf P ops n f (listed.setIfInBounds i true)).map ((i, true) :: ·) else none
      | _ => none

def planned (P : Program) (ops : Array Oper) (n : Nat) : Option (List (Nat × Bool)) :=
  if Region.noSelect ops && decide (n < ops.size) && Region.sinkB .any ops n && Region.chainB .any ops n then planOf P ops n n (Array.replicate ops.size false) else none

def planFor (P : Program) (ops : Array Oper) : List Nat → Option (Nat × List (Nat × Bool))
  | [] => none
  | n :: r => match planned P ops n with | some l => some (n, l) | none => planFor P ops r

/-- what an operation waits for; all that it waits for, one way or another -/
def afterL (ops : Array Oper) (j : Nat) : List Nat := match ops[j]? with | some o => (o.after.toList.filter (Region.binds .any)).map (·.on) | none => []
def anc (ops : Array Oper) : Nat → List Nat → List Nat
  | 0, S => S
  | k + 1, S => if S.contains k then anc ops k (S ++ afterL ops k) else anc ops k S
def movAt (P : Program) (ops : Array Oper) (i : Nat) : Bool := match ops[i]? with | some o => (match compOp P o with | .mov _ => true | _ => false) | none => false
def lastEff : List (Nat × Bool) → Option Nat
  | [] => none
  | [(i, true)] => some i
  | _ :: r => lastEff r
/-- each reading that is planned stands ahead of e, or looks at no memory -/
def calmOK (P : Program) (ops : Array Oper) (e : Nat) : List (Nat × Bool) → Bool
  | [] => true
  | (i, true) :: r => (i != e || r.isEmpty) && calmOK P ops e r
  | (i, false) :: r => (i != e && ((anc ops e (afterL ops e)).contains i || movAt P ops i)) && calmOK P ops e r
/-- the last operation of a plan, if it writes, and all that is read stands ahead of it -/
def calmLast (P : Program) (ops : Array Oper) (l : List (Nat × Bool)) : Nat := match lastEff l with
  | some e => if calmOK P ops e l then e else ops.size
  | none => ops.size
def compH (P : Program) (ops : Array Oper) (e : Nat) : List (Nat × Bool) → List (J × Bool)
  | [] => []
  | (i, b) :: r => match ops[i]? with | some o => (compJ P ops (b && i == e) o, b) :: compH P ops e r | none => compH P ops e r

def callsIn (P : Program) (l : List Oper) : Bool := l.any fun o => match compOp P o with | .call .. => true | _ => false

/-- a region that draws and calls in its head: by a plan, where there is one -/
def drawRo' (P : Program) (ops : Array Oper) (draw : Bool) : Option Nat :=
  match drawRo P ops draw with
  | some n => if callsIn P (ops.toList.take n) && (planFor P ops (List.range ops.size)).isSome then none else some n
  | none => none

def compR (P : Program) (id : Nat) (ops : Array Oper) (draw : Bool) : C :=
  match drawRo' P ops draw with
  | some n => .ops (compL P ops n ops.toList) none
  | none =>
    if draw then
      match planFor P ops (List.range ops.size) with
      | some (n, l) => .plan (compH P ops (calmLast P ops l) l) (compL P ops 0 (ops.toList.drop n)) none
      | none => .other (.region id ops draw)
    else .bad

def compC (P : Program) : Code → C
  | .skip => .skip
  | .label _ => .skip
  | .region id ops draw => compR P id ops draw
  | .seq a b => .seq (compC P a) (compC P b)
  | .cond x a b => .cond x (compC P a) (compC P b)
  | .block id a => .block id (compC P a)
  | .loop a => .loop (compC P a)
  | .exit id => .exit id
  | .ret => .ret
  | c => .other c

/-- the same code, with lists of what is kept -/
inductive Same : C → C → Prop where
  | skip : Same .skip .skip
  | ops (l k k') : Same (.ops l k) (.ops l k')
  | plan (h t k k') : Same (.plan h t k) (.plan h t k')
  | seq {a b a' b'} : Same a a' → Same b b' → Same (.seq a b) (.seq a' b')
  | cond (x) {a b a' b'} : Same a a' → Same b b' → Same (.cond x a b) (.cond x a' b')
  | block (id) {a a'} : Same a a' → Same (.block id a) (.block id a')
  | loop {a a'} : Same a a' → Same (.loop a) (.loop a')
  | exit (id) : Same (.exit id) (.exit id)
  | ret : Same .ret .ret
  | other (c) : Same (.other c) (.other c)
  | bad : Same .bad .bad

def strip : C → C
  | .skip => .skip
  | .ops l _ => .ops l none
  | .plan h t _ => .plan h t none
  | .seq a b => .seq (strip a) (strip b)
  | .cond x a b => .cond x (strip a) (strip b)
  | .block id a => .block id (strip a)
  | .loop a => .loop (strip a)
  | .exit id => .exit id
  | .ret => .ret
  | .other c => .other c
  | .bad => .bad

/-- all answers go to places that are there -/
def dstOk (nt : Nat) (j : J) : Bool := match j.dst with | none => true | some d => Nat.blt d nt
def okC (nt : Nat) : C → Bool
  | .ops l _ => l.all (dstOk nt)
  | .plan h t _ => h.all (fun p => dstOk nt p.1) && t.all (dstOk nt)
  | .seq a b => okC nt a && okC nt b
  | .cond _ a b => okC nt a && okC nt b
  | .block _ a => okC nt a
  | .loop a => okC nt a
  | _ => true

structure Fn1 where
  nt : Nat
  code : C
  res : List ResultVar

def compF (P : Program) (f : FuncId) : Option Fn1 :=
  match P.funcs[f]? with
  | none => none
  | some fn =>
    match fn.body with
    | none => none
    | some c => some { nt := fn.ntmps, code := compC P c, res := fn.results.toList }
end Go.Sym

/- What is known of a world and of a frame. -/
namespace Go.Sym

/-- what is known of a block: its first cells; how many it has; may it be written? -/
structure Blk where
  cells : List Value
  full : Nat
  elem : TypeId
  wr : Bool

/-- memory that is no cells: a map; how far a text has been gone over -/
inductive MO where
  | map (l : List (Value × Value))
  | iter (s : ByteArray) (pos : Nat)

structure St where
  heap : Nat → Option Blk
  objs : Nat → Option MO
  next : Nat

def St.get (X : St) (b : Nat) : Option Blk := if b < X.next then X.heap b else none
def St.obj (X : St) (b : Nat) : Option MO := if b < X.next then X.objs b else none
/-- a block is known otherwise -/
def St.set (X : St) (b : Nat) (B : Blk) : St := { X with heap := fun m => if m = b then some B else X.heap m }
/-- a block is no more known -/
def St.drop (X : St) (b : Nat) : St := { X with heap := fun m => if m = b then none else X.heap m }
def ro (B : Blk) : Blk := { B with wr := false }
/-- a new block -/
def St.new (X : St) (b : Nat) (B : Blk) : St := { heap := fun m => if m = b then some B else X.get m, objs := fun m => if m = b then none else X.obj m, next := max X.next (b + 1) }
def St.newObj (X : St) (b : Nat) (o : MO) : St := { heap := fun m => if m = b then none else X.get m, objs := fun m => if m = b then some o else X.obj m, next := max X.next (b + 1) }
def St.setObj (X : St) (b : Nat) (o : MO) : St := { X with objs := fun m => if m = b then some o else X.objs m }

theorem St.lt {X : St} {b : Nat} {B : Blk} (h : X.get b = some B) : b < X.next := by
  unfold St.get at h
  split at h
  · assumption
  · cases h
theorem St.olt {X : St} {b : Nat} {o : MO} (h : X.obj b = some o) : b < X.next := by
  unfold St.obj at h
  split at h
  · assumption
  · cases h
@[simp] theorem Zw (X : St) (b : Nat) (B : Blk) : (X.set b B).next = X.next := rfl
@[simp] theorem Zz (X : St) (b : Nat) : (X.drop b).next = X.next := rfl
@[simp] theorem Zy (X : St) (b : Nat) (o : MO) : (X.setObj b o).next = X.next := rfl
@[simp] theorem Zv (X : St) (b : Nat) (B : Blk) : (X.new b B).next = max X.next (b + 1) := rfl
@[simp] theorem Zx (X : St) (b : Nat) (o : MO) : (X.newObj b o).next = max X.next (b + 1) := rfl
theorem VI {X : St} {b : Nat} {B : Blk} (h : b < X.next) : (X.set b B).get b = some B := by simp [St.get, St.set, h]
theorem VJ {X : St} {b c : Nat} {B : Blk} (h : c ≠ b) : (X.set b B).get c = X.get c := by simp [St.get, St.set, h]
theorem get_drop_ne {X : St} {b c : Nat} (h : c ≠ b) : (X.drop b).get c = X.get c := by simp [St.get, St.drop, h]
theorem get_drop_eq {X : St} {b : Nat} : (X.drop b).get b = none := by simp [St.get, St.drop]
theorem get_new (X : St) (b c : Nat) (B : Blk) : (X.new b B).get c = if c = b then some B else X.get c := by
  unfold St.new
  show (if c < max X.next (b + 1) then (if c = b then some B else X.get c) else none) = _
  by_cases h : c = b
  · subst h; rw [if_pos (by omega)]
  · rw [if_neg h]
    split
    · rfl
    · unfold St.get; rw [if_neg (by omega)]
theorem VG {X : St} {b : Nat} {B : Blk} : (X.new b B).get b = some B := by rw [get_new, if_pos rfl]
theorem VH {X : St} {b c : Nat} {B : Blk} (h : c ≠ b) : (X.new b B).get c = X.get c := by rw [get_new, if_neg h]
theorem get_newObj_ne {X : St} {b c : Nat} {o : MO} (h : c ≠ b) : (X.newObj b o).get c = X.get c := by
  unfold St.newObj
  show (if c < max X.next (b + 1) then (if c = b then none else X.get c) else none) = _
  rw [if_neg h]
  split
  · rfl
  · unfold St.get; rw [if_neg (by omega)]
theorem get_setObj (X : St) (b c : Nat) (o : MO) : (X.setObj b o).get c = X.get c := rfl
theorem obj_set (X : St) (b c : Nat) (B : Blk) : (X.set b B).obj c = X.obj c := rfl
theorem obj_drop (X : St) (b c : Nat) : (X.drop b).obj c = X.obj c := rfl
theorem obj_new (X : St) (b c : Nat) (B : Blk) : (X.new b B).obj c = if c = b then none else X.obj c := by
  unfold St.new
  show (if c < max X.next (b + 1) then (if c = b then none else X.obj c) else none) = _
  by_cases h : c = b
  · subst h; simp
  · rw [if_neg h]
    split
    · rfl
    · unfold St.obj; rw [if_neg (by omega)]
theorem obj_new_ne {X : St} {b c : Nat} {B : Blk} (h : c ≠ b) : (X.new b B).obj c = X.obj c := by rw [obj_new, if_neg h]
theorem obj_newObj (X : St) (b c : Nat) (o : MO) : (X.newObj b o).obj c = if c = b then some o else X.obj c := by
  unfold St.newObj
  show (if c < max X.next (b + 1) then (if c = b then some o else X.obj c) else none) = _
  by_cases h : c = b
  · subst h; rw [if_pos (by omega)]
  · rw [if_neg h]
    split
    · rfl
    · unfold St.obj; rw [if_neg (by omega)]
theorem obj_newObj_eq {X : St} {b : Nat} {o : MO} : (X.newObj b o).obj b = some o := by rw [obj_newObj, if_pos rfl]
theorem obj_newObj_ne {X : St} {b c : Nat} {o : MO} (h : c ≠ b) : (X.newObj b o).obj c = X.obj c := by rw [obj_newObj, if_neg h]
theorem obj_setObj_eq {X : St} {b : Nat} {o : MO} (h : b < X.next) : (X.setObj b o).obj b = some o := by simp [St.obj, St.setObj, h]
theorem obj_setObj_ne {X : St} {b c : Nat} {o : MO} (h : c ≠ b) : (X.setObj b o).obj c = X.obj c := by simp [St.obj, St.setObj, h]

/-- the first knows no more than the second -/
structure Le (X Y : St) : Prop where
  next : X.next ≤ Y.next
  blk : ∀ b B, X.get b = some B → Y.get b = some B
  obj : ∀ b o, X.obj b = some o → Y.obj b = some o
theorem Le.refl (X : St) : Le X X := ⟨Nat.le_refl _, fun _ _ h => h, fun _ _ h => h⟩
theorem Le.trans {X Y Z : St} (h : Le X Y) (k : Le Y Z) : Le X Z := ⟨Nat.le_trans h.next k.next, fun b B e => k.blk b B (h.blk b B e), fun b o e => k.obj b o (h.obj b o e)⟩
theorem Le.new {X Y : St} {b : Nat} {B : Blk} (h : Le X Y) (hb : Y.next ≤ b) : Le X (Y.new b B) :=
  ⟨by have := h.next; rw [Zv]; omega, fun c C e => by have e := h.blk c C e; have := St.lt e; rw [VH (by omega)]; exact e, fun c o e => by have e := h.obj c o e; have := St.olt e; rw [obj_new_ne (by omega)]; exact e⟩
/-- the same, where the block is new to the smaller one alone -/
theorem Le.new_of {X Y : St} {b : Nat} {B : Blk} (h : Le X Y) (hb : X.next ≤ b) : Le X (Y.new b B) :=
  ⟨by have := h.next; rw [Zv]; omega, fun c C e => by have := St.lt e; rw [VH (by omega)]; exact h.blk c C e, fun c o e => by have := St.olt e; rw [obj_new_ne (by omega)]; exact h.obj c o e⟩
theorem Le.set_of {X Y : St} {b : Nat} {B : Blk} (h : Le X Y) (hb : X.next ≤ b) : Le X (Y.set b B) :=
  ⟨h.next, fun c C e => by have := St.lt e; rw [VJ (by omega)]; exact h.blk c C e, h.obj⟩
theorem Le.drop_of {X Y : St} {b : Nat} (h : Le X Y) (hb : X.next ≤ b) : Le X (Y.drop b) :=
  ⟨h.next, fun c C e => by have := St.lt e; rw [get_drop_ne (by omega)]; exact h.blk c C e, h.obj⟩
theorem Le.newObj {X Y : St} {b : Nat} {o : MO} (h : Le X Y) (hb : X.next ≤ b) : Le X (Y.newObj b o) :=
  ⟨by have := h.next; rw [Zx]; omega, fun c C e => by have := St.lt e; rw [get_newObj_ne (by omega)]; exact h.blk c C e, fun c o e => by have := St.olt e; rw [obj_newObj_ne (by omega)]; exact h.obj c o e⟩
theorem Le.setObj_of {X Y : St} {b : Nat} {o : MO} (h : Le X Y) (hb : X.next ≤ b) : Le X (Y.setObj b o) :=
  ⟨h.next, fun c C e => h.blk c C e, fun c o e => by have := St.olt e; rw [obj_setObj_ne (by omega)]; exact h.obj c o e⟩
theorem Le.set {X Y : St} {b : Nat} {B : Blk} (h : Le X Y) : Le (X.set b B) (Y.set b B) := by
  refine ⟨h.next, fun c C e => ?_, h.obj⟩
  by_cases hc : c = b
  · subst hc
    have hlt := St.lt e
    rw [VI (show c < X.next from hlt)] at e
    rw [VI (Nat.lt_of_lt_of_le hlt h.next)]
    exact e
  · rw [VJ hc] at e ⊢; exact h.blk c C e
theorem Le.set_self {X : St} {b : Nat} {B : Blk} (h : X.get b = some B) : Le (X.set b B) X := by
  refine ⟨Nat.le_refl _, fun c C e => ?_, fun c o e => e⟩
  by_cases hc : c = b
  · subst hc; rw [VI (St.lt h)] at e; cases e; exact h
  · rw [VJ hc] at e; exact e
theorem Le.new2 {X Y : St} {b : Nat} {B : Blk} (h : Le X Y) : Le (X.new b B) (Y.new b B) := by
  refine ⟨by have := h.next; rw [Zv, Zv]; omega, fun c C e => ?_, fun c o e => ?_⟩
  · by_cases hc : c = b
    · subst hc; rw [VG] at e ⊢; exact e
    · rw [VH hc] at e ⊢; exact h.blk c C e
  · by_cases hc : c = b
    · subst hc; rw [obj_new, if_pos rfl] at e; cases e
    · rw [obj_new_ne hc] at e ⊢; exact h.obj c o e
theorem Le.of_drop (X : St) (b : Nat) : Le (X.drop b) X :=
  ⟨Nat.le_refl _, fun c C e => by
    by_cases hc : c = b
    · subst hc; rw [get_drop_eq] at e; cases e
    · rwa [get_drop_ne hc] at e, fun _ _ h => h⟩

/-! ### the world -/
def KB (Bar : Nat) (B : Blk) (b : Nat) (w : World) : Prop :=
  ∃ (arr : Array Value) (t : TypeId) (f : Nat × Nat), w.heap[b]? = some (.cells arr t f) ∧ (∀ (i : Nat) (v : Value), B.cells[i]? = some v → arr[i]? = some v) ∧ (B.wr = true → t = B.elem ∧ f = (0, 0) ∧ arr.size = B.full ∧ Bar ≤ b)
def KM (Bar : Nat) (o : MO) (b : Nat) (w : World) : Prop :=
  Bar ≤ b ∧ match o with
  | .iter s pos => w.heap[b]? = some (.stringIter s pos)
  | .map l => ∃ es clock, w.heap[b]? = some (.map es clock) ∧ es.toList.map (fun e => (e.key, e.val)) = l

structure Mod (Bar : Nat) (X : St) (w : World) : Prop where
  room : Bar ≤ w.heap.size
  next : X.next ≤ w.heap.size
  blk : ∀ b B, X.get b = some B → KB Bar B b w
  obj : ∀ b o, X.obj b = some o → KM Bar o b w

theorem Mod.le {Bar : Nat} {X Y : St} {w : World} (h : Mod Bar Y w) (k : Le X Y) : Mod Bar X w :=
  ⟨h.room, Nat.le_trans k.next h.next, fun b B e => h.blk b B (k.blk b B e), fun b o e => h.obj b o (k.obj b o e)⟩
theorem KB.congr {Bar : Nat} {B : Blk} {b : Nat} {w w' : World} (h : KB Bar B b w) (e : w'.heap[b]? = w.heap[b]?) : KB Bar B b w' := by
  obtain ⟨arr, t, f, h1, h2⟩ := h
  exact ⟨arr, t, f, e.trans h1, h2⟩
theorem KM.congr {Bar : Nat} {o : MO} {b : Nat} {w w' : World} (h : KM Bar o b w) (e : w'.heap[b]? = w.heap[b]?) : KM Bar o b w' := by
  refine ⟨h.1, ?_⟩
  cases o with
  | iter s pos => exact e.trans h.2
  | map l => obtain ⟨es, c, h1, h2⟩ := h.2; exact ⟨es, c, e.trans h1, h2⟩
theorem Mod.heap_eq {Bar : Nat} {X : St} {w w' : World} (h : Mod Bar X w) (e : w'.heap = w.heap) : Mod Bar X w' :=
  ⟨by rw [e]; exact h.room, by rw [e]; exact h.next, fun b B hb => (h.blk b B hb).congr (by rw [e]), fun b o hb => (h.obj b o hb).congr (by rw [e])⟩
theorem Mod.drew {Bar : Nat} {X : St} {w : World} (h : Mod Bar X w) : Mod Bar X w.drew := h.heap_eq rfl

/-! ### the frame -/
structure Frm where
  nt : Nat
  l : List (Nat × Value)
def look : List (Nat × Value) → Nat → Option Value
  | [], _ => none
  | (s, v) :: r, t => if t = s then some v else look r t
def Frm.get (A : Frm) (t : Nat) : Option Value := look A.l t
def Frm.put (A : Frm) (d : Option Tmp) (v : Value) : Frm := match d with | none => A | some d => ⟨A.nt, (d, v) :: A.l⟩
def pick : List Nat → List (Nat × Value) → List (Nat × Value)
  | [], _ => []
  | k :: r, l => match look l k with | some v => (k, v) :: pick r l | none => pick r l
def Frm.keep (A : Frm) : Option (List Nat) → Frm
  | none => A
  | some l => ⟨A.nt, pick l A.l⟩

theorem look_pick : ∀ (l : List Nat) (m : List (Nat × Value)) (t : Nat) (v : Value), look (pick l m) t = some v → look m t = some v
  | [], m, t, v, h => by cases h
  | k :: r, m, t, v, h => by
    unfold pick at h
    split at h
    · rename_i u hu
      unfold look at h
      split at h
      · rename_i e; subst e; cases h; exact hu
      · exact look_pick r m t v h
    · exact look_pick r m t v h

structure KF (A : Frm) (a : Act) : Prop where
  size : a.tmps.size = A.nt
  tmp : ∀ t v, A.get t = some v → a.tmps[t]? = some v

theorem KF.keep {A : Frm} {a : Act} (h : KF A a) (k : Option (List Nat)) : KF (A.keep k) a := by
  cases k with
  | none => exact h
  | some l => exact ⟨h.size, fun t v e => h.tmp t v (look_pick l A.l t v e)⟩
theorem KF.put {A : Frm} {a : Act} (h : KF A a) {d : Option Tmp} (v : Value) (hd : (match d with | none => true | some d => Nat.blt d A.nt) = true) : KF (A.put d v) (a.put d v) := by
  cases d with
  | none => exact h
  | some d =>
    have hlt : d < A.nt := by simpa [Nat.blt_eq] using hd
    refine ⟨by simp [Act.put, h.size, Frm.put], fun t u e => ?_⟩
    simp only [Act.put]
    have e' : (if t = d then some v else look A.l t) = some u := e
    split at e'
    · rename_i htd
      subst htd; cases e'
      rw [Array.getElem?_setIfInBounds_self_of_lt (by rw [h.size]; exact hlt)]
    · rename_i htd
      rw [Array.getElem?_setIfInBounds_ne (fun h => htd h.symm)]
      exact h.tmp t u e'

def ev (A : Frm) : Operand → Option Value
  | .tmp t => A.get t
  | .const v => some v
  | .global g => some (.pointer (some ⟨g, 0, none⟩))
  | .func f => some (.func (.func f) #[] #[])

theorem KF.ev {A : Frm} {a : Act} (h : KF A a) {x : Operand} {v : Value} (e : ev A x = some v) : a.eval x = v := by
  cases x with
  | tmp t => simp [Act.eval, Array.getD_eq_getD_getElem?, h.tmp t v e]
  | const c => cases e; rfl
  | global g => cases e; rfl
  | func f => cases e; rfl

def evL (A : Frm) : List Operand → Option (List Value)
  | [] => some []
  | x :: r => match ev A x with | none => none | some v => match evL A r with | none => none | some l => some (v :: l)
def evP (A : Frm) : List (Nat × Operand) → Option (List (Nat × Value))
  | [] => some []
  | (i, x) :: r => match ev A x with | none => none | some v => match evP A r with | none => none | some l => some ((i, v) :: l)
def evO (A : Frm) : Option Operand → Option (Option Value)
  | none => some none
  | some x => match ev A x with | none => none | some v => some (some v)

theorem KF.evL {A : Frm} {a : Act} (h : KF A a) : ∀ {l : List Operand} {vs : List Value}, evL A l = some vs → l.map a.eval = vs
  | [], vs, e => by cases e; rfl
  | x :: r, vs, e => by
    simp only [Sym.evL] at e
    split at e
    · cases e
    · rename_i u hu
      split at e
      · cases e
      · rename_i l' hl
        cases e
        rw [List.map_cons, h.ev hu, h.evL hl]
theorem KF.evP {A : Frm} {a : Act} (h : KF A a) : ∀ {l : List (Nat × Operand)} {vs : List (Nat × Value)}, evP A l = some vs → l.map (fun (i, x) => (i, a.eval x)) = vs
  | [], vs, e => by cases e; rfl
  | (i, x) :: r, vs, e => by
    simp only [Sym.evP] at e
    split at e
    · cases e
    · rename_i u hu
      split at e
      · cases e
      · rename_i l' hl
        cases e
        rw [List.map_cons, h.evP hl]
        simp only [h.ev hu]
/-- what is known of any world -/
def base (Bar : Nat) : St := { heap := fun _ => none, objs := fun _ => none, next := Bar }
theorem base_le {Bar : Nat} {X : St} {w : World} (h : Mod Bar X w) : Mod Bar (base Bar) w := by
  refine ⟨h.room, h.room, fun b B hb => ?_, fun b o hb => ?_⟩
  · have : (base Bar).get b = none := by unfold base St.get; exact ite_self _
    rw [this] at hb; cases hb
  · have : (base Bar).obj b = none := by unfold base St.obj; exact ite_self _
    rw [this] at hb; cases hb
end Go.Sym

/- The operations that only read. -/
namespace Go.Sym
open Go.RowKit

/-! ### what is read -/
def cellAt (X : St) (b o : Nat) : Option Value := match X.get b with | some B => B.cells[o]? | none => none
def cellsAt (X : St) (b o n : Nat) : Option (List Value) := match X.get b with | some B => if o + n ≤ B.cells.length then some ((B.cells.drop o).take n) else none | none => none

def G0 (op : BinOp) (a b : Int) : Option Int :=
  match op with
  | .add => some (a + b)
  | .sub => some (a - b)
  | .mul => some (a * b)
  | _ => none
def G1 (op : BinOp) (a b : Int) : Option Bool :=
  match op with
  | .eql => some (decide (a = b))
  | .neq => some (!decide (a = b))
  | .lss => some (decide (a < b))
  | .leq => some (decide (a ≤ b))
  | .gtr => some (decide (b < a))
  | .geq => some (decide (b ≤ a))
  | _ => none
def bitsF (op : BinOp) (k : IntKind) (a b : Int) : Option Int :=
  match op with
  | .and => some (k.wrap (BitVec.ofInt k.bits a &&& BitVec.ofInt k.bits b).toNat)
  | .or => some (k.wrap (BitVec.ofInt k.bits a ||| BitVec.ofInt k.bits b).toNat)
  | .xor => some (k.wrap (BitVec.ofInt k.bits a ^^^ BitVec.ofInt k.bits b).toNat)
  | .andNot => some (k.wrap (BitVec.ofInt k.bits a &&& ~~~(BitVec.ofInt k.bits b)).toNat)
  | _ => none
def divF (op : BinOp) (k : IntKind) (a b : Int) : Option Int :=
  if b = 0 then none else
  match op with
  | .quo => some (k.wrap (a.tdiv b))
  | .rem => some (a.tmod b)
  | _ => none
def shfF (op : BinOp) (k : IntKind) (a b : Int) : Option Int :=
  if b < 0 then none else
  match op with
  | .shl => some (k.wrap (a * 2 ^ (min b.toNat k.bits)))
  | .shr => some (a.fdiv (2 ^ (min b.toNat k.bits)))
  | _ => none
def G2 (op : UnOp) (v : Value) : Option Value :=
  match op, v with
  | .not, .bool b => some (.bool (!b))
  | .neg, .int k n => some (.int k (k.wrap (0 - n)))
  | .xor, .int k n => (bitsF .xor k (if k.signed then -1 else k.max) n).map (.int k)
  | _, _ => none
/-- is a text ahead of another one? -/
def blt (x y : ByteArray) : Bool := Op.bytesLess x.toList y.toList
/-- texts as lists are the texts -/
def beqB (x y : ByteArray) : Bool := x.toList == y.toList
def G3 (op : BinOp) (x y : ByteArray) : Option Value :=
  match op with
  | .add => if x.size + y.size ≤ 9223372036854775807 then some (.string (x ++ y)) else none
  | .eql => some (.bool (beqB x y))
  | .neq => some (.bool (!beqB x y))
  | .lss => some (.bool (blt x y))
  | .gtr => some (.bool (!(blt x y || beqB x y)))
  | .leq => some (.bool (blt x y || beqB x y))
  | .geq => some (.bool (!blt x y))
  | _ => none
def bound (x : Option Value) (dflt : Nat) : Option Nat :=
  match x with
  | none => some dflt
  | some (.int _ i) => if 0 ≤ i then some i.toNat else none
  | _ => none
def ixAt (b o len size : Nat) (i : Int) : Option Value := if 0 ≤ i ∧ i < len then some (.pointer (some ⟨b, o + i.toNat * size, none⟩)) else none

def setRange : List Value → Nat → List Value → List Value
  | cs, _, [] => cs
  | cs, off, v :: r => setRange (cs.set off v) (off + 1) r
def fillL (place : Nat → Option (Nat × Nat)) : List Value → List (Nat × Value) → Option (List Value)
  | cells, [] => some cells
  | cells, (i, v) :: rest =>
    match place i with
    | none => none
    | some (off, size) => if v.cells.toList.length = size ∧ off + v.cells.toList.length ≤ cells.length then fillL place (setRange cells off v.cells.toList) rest else none

def spotless : Option Addr → Bool
  | some ad => ad.spot.isNone
  | none => true
def sliceF (size : Nat) (v : Value) (lo hi mx : Option Value) : Option Value :=
  match v with
  | .slice a len cap =>
    match bound mx cap with
    | none => none
    | some m =>
      match bound (if hi.isNone then none else hi) len, bound lo 0 with
      | some h, some l => if l ≤ h ∧ h ≤ m ∧ m ≤ cap ∧ (mx.isSome = true → hi.isSome = true) ∧ spotless a = true then some (.slice (if m = l then a else a.map fun ad => ⟨ad.block, ad.off + l * size, none⟩) (h - l) (m - l)) else none
      | _, _ => none
  | _ => none
def sliceA (size n : Nat) (v : Value) (lo hi : Option Value) : Option Value :=
  match v with
  | .pointer (some ⟨b, o, none⟩) =>
    match bound hi n, bound lo 0 with
    | some h, some l => if l ≤ h ∧ h ≤ n then some (.slice (some ⟨b, if n = l then o else o + l * size, none⟩) (h - l) (n - l)) else none
    | _, _ => none
  | _ => none
def bytesOf : List Value → Option (List Int)
  | [] => some []
  | .int .u8 n :: r => match bytesOf r with | none => none | some l => some (n :: l)
  | _ => none
def bytesStr (ns : List Int) : ByteArray := ns.foldl (fun r n => r.push (UInt8.ofNat n.toNat)) ByteArray.empty

/-- what the model's own comparison of two values of a type tells -/
def EqTells (P : Program) (t : TypeId) (xs ys : Array Value) (b : Bool) : Prop := ∀ w, (Op.equalIn 10000 t (.agg xs) (.agg ys)).run P w = .ok b w ∧ ∀ (neg : Bool) (x y : Operand), (eqGuard (if neg then .neq else .eql) t x y (.agg xs) (.agg ys)).run P w = .ok () w

def bytesAt (X : St) (a : Option Addr) (n : Nat) (l : List Value) : Prop := match a with | none => l = [] | some ad => ad.spot = none ∧ cellsAt X ad.block ad.off n = some l
def wrB (X : St) (a : Nat) : Prop := ∃ B, X.get a = some B ∧ B.wr = true
/-- a read; for what is not computed here: a proof -/
def Rd (P : Program) (A : Frm) (X : St) (i : I) (v : Value) : Prop :=
  match i with
  | .mov x => ev A x = some v
  | .pick c a b => ∃ t, ev A c = some (.bool t) ∧ (if t then ev A a else ev A b) = some v
  | .ld1 x => ∃ b o, ev A x = some (.pointer (some ⟨b, o, none⟩)) ∧ cellAt X b o = some v
  | .ldN n x => ∃ b o l, ev A x = some (.pointer (some ⟨b, o, none⟩)) ∧ cellsAt X b o n = some l ∧ v = .agg ⟨l⟩
  | .nck x => ∃ a, ev A x = some (.pointer (some a)) ∧ v = .pointer (some a)
  | .faddr off x => ∃ b o, ev A x = some (.pointer (some ⟨b, o, none⟩)) ∧ v = .pointer (some ⟨b, o + off, none⟩)
  | .ixa len size x i => ∃ b o k n, ev A x = some (.pointer (some ⟨b, o, none⟩)) ∧ ev A i = some (.int k n) ∧ ixAt b o len size n = some v
  | .ixs size x i => ∃ b o len cap k n, ev A x = some (.slice (some ⟨b, o, none⟩) len cap) ∧ ev A i = some (.int k n) ∧ ixAt b o len size n = some v
  | .ixv len x i => ∃ cs k n, ev A x = some (.agg cs) ∧ ev A i = some (.int k n) ∧ (0 ≤ n ∧ n < len) ∧ cs.toList[n.toNat]? = some v
  | .ixw len size x i => ∃ cs k n, ev A x = some (.agg cs) ∧ ev A i = some (.int k n) ∧ (0 ≤ n ∧ n < len) ∧ v = .agg ⟨(cs.toList.drop (n.toNat * size)).take size⟩
  | .six x i => ∃ s k n c, ev A x = some (.string s) ∧ ev A i = some (.int k n) ∧ 0 ≤ n ∧ s.data.toList[n.toNat]? = some c ∧ v = .int .u8 c.toNat
  | .fld1 off x => ∃ cs, ev A x = some (.agg cs) ∧ cs.toList[off]? = some v
  | .fldN off n x => ∃ cs, ev A x = some (.agg cs) ∧ v = .agg ⟨(cs.toList.drop off).take n⟩
  | .ext i x => ∃ vs, ev A x = some (.tuple vs) ∧ vs.toList[i]? = some v
  | .arith op x y => ∃ k a b n, ev A x = some (.int k a) ∧ ev A y = some (.int k b) ∧ G0 op a b = some n ∧ v = .int k (k.wrap n)
  | .cmp op x y => ∃ k a b t, ev A x = some (.int k a) ∧ ev A y = some (.int k b) ∧ G1 op a b = some t ∧ v = .bool t
  | .bits op x y => ∃ k a b n, ev A x = some (.int k a) ∧ ev A y = some (.int k b) ∧ bitsF op k a b = some n ∧ v = .int k n
  | .div op x y => ∃ k a b n, ev A x = some (.int k a) ∧ ev A y = some (.int k b) ∧ divF op k a b = some n ∧ v = .int k n
  | .shf op x y => ∃ k k' a b n, ev A x = some (.int k a) ∧ ev A y = some (.int k' b) ∧ shfF op k a b = some n ∧ v = .int k n
  | .un op x => ∃ u, ev A x = some u ∧ G2 op u = some v
  | .sop op x y => ∃ a b, ev A x = some (.string a) ∧ ev A y = some (.string b) ∧ G3 op a b = some v
  | .beq neg x y => ∃ a b, ev A x = some (.bool a) ∧ ev A y = some (.bool b) ∧ v = .bool (xor neg (a == b))
  | .nil neg x => ∃ p, ev A x = some (.pointer p) ∧ v = .bool (xor neg p.isNone)
  | .peq neg x y => ∃ a oa b ob, ev A x = some (.pointer (some ⟨a, oa, none⟩)) ∧ ev A y = some (.pointer (some ⟨b, ob, none⟩)) ∧ (a = b → oa = ob) ∧ (a ≠ b → wrB X a ∧ wrB X b) ∧ v = .bool (xor neg (decide (a = b)))
  | .snil neg x => ∃ a n c, ev A x = some (.slice a n c) ∧ v = .bool (xor neg a.isNone)
  | .fnil neg x => ∃ u, ev A x = some u ∧ ((u = .nilFunc ∧ v = .bool (!neg)) ∨ (∃ f a c, u = .func f a c ∧ v = .bool neg))
  | .eqv neg t x y => ∃ a b r, ev A x = some (.agg a) ∧ ev A y = some (.agg b) ∧ EqTells P t a b r ∧ v = .bool (xor neg r)
  | .len x => ∃ a n c, ev A x = some (.slice a n c) ∧ v = .int .i64 n
  | .slen x => ∃ s, ev A x = some (.string s) ∧ v = .int .i64 s.size
  | .cap x => ∃ a n c, ev A x = some (.slice a n c) ∧ v = .int .i64 c
  | .ssub x lo hi => ∃ s l h hn ln, ev A x = some (.string s) ∧ evO A lo = some l ∧ evO A hi = some h ∧ bound h s.size = some hn ∧ bound l 0 = some ln ∧ ln ≤ hn ∧ hn ≤ s.size ∧ v = .string (s.extract ln hn)
  | .cnv k x => ∃ k' n, ev A x = some (.int k' n) ∧ v = .int k (k.wrap n)
  | .bts x => ∃ a n c l ns, ev A x = some (.slice a n c) ∧ bytesAt X a n l ∧ bytesOf l = some ns ∧ v = .string (bytesStr ns)
  | .mnx isMax x y => ∃ k a b, ev A x = some (.int k a) ∧ ev A y = some (.int k b) ∧ v = .int k (if isMax then max a b else min a b)
  | .bld z places ps => ∃ vs l, evP A ps = some vs ∧ fillL (fun i => places[i]?) z vs = some l ∧ v = .agg ⟨l⟩
  | .bldA z size ps => ∃ vs l, evP A ps = some vs ∧ fillL (fun i => some (i * size, size)) z vs = some l ∧ v = .agg ⟨l⟩
  | .slc size x lo hi mx => ∃ u l h m, ev A x = some u ∧ evO A lo = some l ∧ evO A hi = some h ∧ evO A mx = some m ∧ sliceF size u l h m = some v
  | .sla size n x lo hi => ∃ u l h, ev A x = some u ∧ evO A lo = some l ∧ evO A hi = some h ∧ sliceA size n u l h = some v
  | .mkf fn first captured => ∃ f c, evL A first = some f ∧ evL A captured = some c ∧ v = .func fn ⟨f⟩ ⟨c⟩
  | .lib o => ∀ a : Act, KF A a → ∀ w, (execOp a.eval o).run P w = .ok (.value v) w
  | _ => False

section
variable {P : Program} {A : Frm} {a : Act} (hF : KF A a) {o : Oper} {v : Value} {X : St} {w : World} {Bar : Nat} (hX : Mod Bar X w)

theorem cellAt_sound (hX : Mod Bar X w) {b off : Nat} (h : cellAt X b off = some v) : w.cell? ⟨b, off, none⟩ = some v := by
  unfold cellAt at h
  split at h
  · rename_i B hB
    obtain ⟨arr, t, f, h1, h2, -⟩ := hX.blk b B hB
    simp [World.cell?, h1, h2 off v h]
  · cases h
theorem cellsAt_sound (hX : Mod Bar X w) {b off n : Nat} {l : List Value} (h : cellsAt X b off n = some l) : w.rangeAt b off l ∧ l.length = n := by
  unfold cellsAt at h
  split at h
  · rename_i B hB
    split at h
    · rename_i hle
      cases h
      obtain ⟨arr, t, f, h1, h2, -⟩ := hX.blk b B hB
      refine ⟨fun j u hu => ?_, by simp; omega⟩
      rw [List.getElem?_take] at hu
      split at hu
      · rw [List.getElem?_drop] at hu
        simp [World.cell?, h1, h2 _ u hu]
      · cases hu
    · cases h
  · cases h

abbrev Reads (P : Program) (a : Act) (o : Oper) (v : Value) (w : World) : Prop := (execOp a.eval o).run P w = .ok (.value v) w

theorem isAgg_false {t : TypeId} {d : TypeDesc} (hu : P.underlying t = some d) (hd : isAggD d = false) : (isAgg t).run P w = .ok false w := by
  unfold isAgg
  rw [Sem.run_bind, run_underlying hu w]
  cases d <;> simp_all [isAggD]
theorem isAgg_true {t : TypeId} {d : TypeDesc} (hu : P.underlying t = some d) (hd : isAggD d = true) : (isAgg t).run P w = .ok true w := by
  unfold isAgg
  rw [Sem.run_bind, run_underlying hu w]
  cases d <;> simp_all [isAggD]

theorem ixAt_spec {b off len size : Nat} {i : Int} (h : ixAt b off len size i = some v) : 0 ≤ i ∧ i < len ∧ v = .pointer (some ⟨b, off + i.toNat * size, none⟩) := by
  unfold ixAt at h
  split at h
  · rename_i hc; cases h; exact ⟨hc.1, hc.2, rfl⟩
  · cases h

include hF
theorem rd_mov {x : Operand} (ho : o.op = .move x ∨ o.op = .assign x) (h : ev A x = some v) : Reads P a o v w := by
  rcases ho with ho | ho <;> simp [Reads, execOp, ho, hF.ev h]
theorem rd_pick {c x y : Operand} (ho : o.op = .pick c x y) (h : Rd P A X (.pick c x y) v) : Reads P a o v w := by
  obtain ⟨t, h1, h2⟩ := h
  cases t
  · simp [Reads, execOp, ho, hF.ev h1, asBool, hF.ev (by simpa using h2)]
  · simp [Reads, execOp, ho, hF.ev h1, asBool, hF.ev (by simpa using h2)]
theorem rd_nck {x : Operand} (ho : o.op = .nilCheck x) (h : Rd P A X (.nck x) v) : Reads P a o v w := by
  obtain ⟨p, h1, rfl⟩ := h
  simp [Reads, execOp, ho, hF.ev h1]
theorem rd_ext {x : Operand} {i : Nat} (ho : o.op = .extract x i) (h : Rd P A X (.ext i x) v) : Reads P a o v w := by
  obtain ⟨vs, h1, h2⟩ := h
  have h3 : vs[i]? = some v := by simpa using h2
  simp [Reads, execOp, ho, hF.ev h1, Instr.extract, h3]
theorem rd_faddr {s : TypeId} {x : Operand} {f : Nat} {fields : Array Field} {fd : Field} {i : TypeInfo} (ho : o.op = .fieldAddr s x f)
    (hu : P.underlying s = some (.struct fields)) (hf : fields[f]? = some fd) (hi : P.info? fd.type = some i) (hn : i.size ≠ 0) (h : Rd P A X (.faddr fd.offset x) v) : Reads P a o v w := by
  obtain ⟨b, off, h1, rfl⟩ := h
  simp [Reads, execOp, ho, hF.ev h1, Instr.fieldAt, run_underlying hu, hf, Instr.sureAddr, fieldPlace, sizeOf, typeInfo, hi, hn, Addr.add_lit]
theorem rd_ixa {t : TypeId} {x ix : Operand} {len : Nat} {elem : TypeId} {inf : TypeInfo} (ho : o.op = .indexAddr t x ix) (hu : P.underlying t = some (.array len elem)) (hi : P.info? elem = some inf)
    (h : Rd P A X (.ixa len inf.size x ix) v) : Reads P a o v w := by
  obtain ⟨b, off, k, n, h1, h2, h3⟩ := h
  obtain ⟨h4, h5, rfl⟩ := ixAt_spec h3
  simp [Reads, execOp, ho, hF.ev h1, hF.ev h2, Instr.indexAt, run_underlying hu, asIntOf, Instr.sureAddr, sizeOf, typeInfo, hi, h4, h5, Addr.add_lit]
theorem rd_ixs {t : TypeId} {x ix : Operand} {elem : TypeId} {inf : TypeInfo} (ho : o.op = .indexAddr t x ix) (hu : P.underlying t = some (.slice elem)) (hi : P.info? elem = some inf)
    (h : Rd P A X (.ixs inf.size x ix) v) : Reads P a o v w := by
  obtain ⟨b, off, len, cp, k, n, h1, h2, h3⟩ := h
  obtain ⟨h4, h5, rfl⟩ := ixAt_spec h3
  simp [Reads, execOp, ho, hF.ev h1, hF.ev h2, Instr.indexAt, run_underlying hu, asIntOf, sizeOf, typeInfo, hi, h4, h5, Addr.add_lit]
theorem rd_ixv {t : TypeId} {x ix : Operand} {len : Nat} {elem : TypeId} {d : TypeDesc} {inf : TypeInfo} (ho : o.op = .index t x ix) (hu : P.underlying t = some (.array len elem)) (hd : P.underlying elem = some d) (hg : isAggD d = false) (hi : P.info? elem = some inf) (h1 : inf.size = 1)
    (h : Rd P A X (.ixv len x ix) v) : Reads P a o v w := by
  obtain ⟨cs, k, n, h2, h3, ⟨h4, h5⟩, h6⟩ := h
  have h7 : cs[n.toNat]? = some v := by simpa using h6
  simp [Reads, execOp, ho, hF.ev h2, hF.ev h3, Instr.index, run_underlying hu, asIntOf, h4, h5, sizeOf, typeInfo, hi, h1, part, isAgg_false hd hg, h7]
theorem rd_ixw {t : TypeId} {x ix : Operand} {len : Nat} {elem : TypeId} {d : TypeDesc} {inf : TypeInfo} (ho : o.op = .index t x ix) (hu : P.underlying t = some (.array len elem)) (hd : P.underlying elem = some d) (hg : isAggD d = true) (hi : P.info? elem = some inf)
    (h : Rd P A X (.ixw len inf.size x ix) v) : Reads P a o v w := by
  obtain ⟨cs, k, n, h2, h3, ⟨h4, h5⟩, rfl⟩ := h
  have he : cs.extract (n.toNat * inf.size) (n.toNat * inf.size + inf.size) = ((cs.toList.drop (n.toNat * inf.size)).take inf.size).toArray := by
    apply Array.ext'; simp [List.extract_eq_take_drop]
  simp [Reads, execOp, ho, hF.ev h2, hF.ev h3, Instr.index, run_underlying hu, asIntOf, h4, h5, sizeOf, typeInfo, hi, part, isAgg_true hd hg, he]
theorem rd_six {t : TypeId} {x ix : Operand} (ho : o.op = .index t x ix) (hu : P.underlying t = some .string) (h : Rd P A X (.six x ix) v) : Reads P a o v w := by
  obtain ⟨s, k, n, c, h1, h2, h3, h4, rfl⟩ := h
  have h5 : s[n.toNat]? = some c := by
    obtain ⟨⟨l⟩⟩ := s
    simp only at h4
    show (ByteArray.mk ⟨l⟩)[n.toNat]? = some c
    have hlt := (List.getElem?_eq_some_iff.1 h4)
    obtain ⟨hlt, he⟩ := hlt
    rw [getElem?_pos (ByteArray.mk ⟨l⟩) n.toNat (by simpa [ByteArray.size] using hlt)]
    rw [← he]; rfl
  simp [Reads, execOp, ho, hF.ev h1, hF.ev h2, Instr.index, run_underlying hu, asIntOf, h3, h5]
theorem rd_fld1 {t : TypeId} {x : Operand} {f : Nat} {fields : Array Field} {fd : Field} {d : TypeDesc} (ho : o.op = .field t x f) (hu : P.underlying t = some (.struct fields)) (hf : fields[f]? = some fd) (hd : P.underlying fd.type = some d) (hg : isAggD d = false)
    (h : Rd P A X (.fld1 fd.offset x) v) : Reads P a o v w := by
  obtain ⟨cs, h1, h2⟩ := h
  have h3 : cs[fd.offset]? = some v := by simpa using h2
  simp [Reads, execOp, ho, hF.ev h1, Instr.field, run_underlying hu, hf, asAgg, part, isAgg_false hd hg, h3]
theorem rd_fldN {t : TypeId} {x : Operand} {f : Nat} {fields : Array Field} {fd : Field} {d : TypeDesc} {i : TypeInfo} (ho : o.op = .field t x f) (hu : P.underlying t = some (.struct fields)) (hf : fields[f]? = some fd) (hd : P.underlying fd.type = some d) (hi : P.info? fd.type = some i) (hg : isAggD d = true)
    (h : Rd P A X (.fldN fd.offset i.size x) v) : Reads P a o v w := by
  obtain ⟨cs, h1, rfl⟩ := h
  have he : cs.extract fd.offset (fd.offset + i.size) = ((cs.toList.drop fd.offset).take i.size).toArray := by
    apply Array.ext'; simp [List.extract_eq_take_drop]
  simp [Reads, execOp, ho, hF.ev h1, Instr.field, run_underlying hu, hf, asAgg, part, isAgg_true hd hg, sizeOf, typeInfo, hi, he]
theorem rd_arith {op : BinOp} {t yt : TypeId} {x y : Operand} (ho : o.op = .binOp op t x y yt) (h : Rd P A X (.arith op x y) v) : Reads P a o v w := by
  obtain ⟨k, p, q, n, h1, h2, h3, rfl⟩ := h
  cases op <;> simp [G0] at h3 <;> subst h3 <;> simp [Reads, execOp, ho, hF.ev h1, hF.ev h2, eqGuard, binOp, Op.intArith]
theorem rd_cmp {op : BinOp} {t yt : TypeId} {x y : Operand} (ho : o.op = .binOp op t x y yt) (h : Rd P A X (.cmp op x y) v) : Reads P a o v w := by
  obtain ⟨k, p, q, b, h1, h2, h3, rfl⟩ := h
  have hc : (binOp op t (.int k p) (.int k q)).run P w = .ok (.bool b) w ∧ (eqGuard op t x y (.int k p) (.int k q)).run P w = .ok () w := by
    cases op <;> simp only [G1, Option.some.injEq, reduceCtorEq] at h3 <;> subst h3 <;> refine ⟨?_, by simp [eqGuard]⟩ <;> simp [binOp, Op.intCmp]
    all_goals (rw [Bool.eq_iff_iff]; simp)
  simp [Reads, execOp, ho, hF.ev h1, hF.ev h2, hc.1, hc.2]
theorem rd_bits {op : BinOp} {t yt : TypeId} {x y : Operand} (ho : o.op = .binOp op t x y yt) (h : Rd P A X (.bits op x y) v) : Reads P a o v w := by
  obtain ⟨k, p, q, n, h1, h2, h3, rfl⟩ := h
  cases op <;> simp [bitsF] at h3 <;> subst h3 <;> simp [Reads, execOp, ho, hF.ev h1, hF.ev h2, eqGuard, binOp, Op.intBits]
theorem rd_div {op : BinOp} {t yt : TypeId} {x y : Operand} (ho : o.op = .binOp op t x y yt) (h : Rd P A X (.div op x y) v) : Reads P a o v w := by
  obtain ⟨k, p, q, n, h1, h2, h3, rfl⟩ := h
  unfold divF at h3
  split at h3
  · cases h3
  · rename_i hq
    cases op <;> simp at h3 <;> subst h3 <;> simp [Reads, execOp, ho, hF.ev h1, hF.ev h2, eqGuard, binOp, Op.intDiv, hq]
theorem rd_shf {op : BinOp} {t yt : TypeId} {x y : Operand} (ho : o.op = .binOp op t x y yt) (h : Rd P A X (.shf op x y) v) : Reads P a o v w := by
  obtain ⟨k, k', p, q, n, h1, h2, h3, rfl⟩ := h
  unfold shfF at h3
  split at h3
  · cases h3
  · rename_i hq
    cases op <;> simp at h3 <;> subst h3 <;> simp [Reads, execOp, ho, hF.ev h1, hF.ev h2, eqGuard, binOp, Op.shift, hq]
theorem rd_un {op : UnOp} {t : TypeId} {x : Operand} (ho : o.op = .unOp op t x) (h : Rd P A X (.un op x) v) : Reads P a o v w := by
  obtain ⟨u, h1, h2⟩ := h
  cases op with
  | neg =>
    cases u <;> simp [G2] at h2
    subst h2; simp [Reads, execOp, ho, hF.ev h1, Op.unary, Op.intArith]
  | not =>
    cases u <;> simp [G2] at h2
    subst h2; simp [Reads, execOp, ho, hF.ev h1, Op.unary]
  | xor =>
    cases u <;> simp [G2] at h2
    obtain ⟨n, h3, rfl⟩ := h2
    simp [bitsF] at h3
    subst h3
    simp [Reads, execOp, ho, hF.ev h1, Op.unary, Op.intBits]
  | plus => cases u <;> simp [G2] at h2
omit hF in
theorem sop_run {op : BinOp} {x y : ByteArray} (h : G3 op x y = some v) (w : World) : (Op.stringOp op x y).run P w = .ok v w := by
  cases op <;> simp only [G3, Option.some.injEq, reduceCtorEq] at h
  case add =>
    split at h
    · rename_i hs
      cases h
      have hm : IntKind.i64.max = 9223372036854775807 := by decide
      have : ¬ (((x.size + y.size : Nat) : Int) > IntKind.i64.max) := by rw [hm]; omega
      simp only [Op.stringOp]
      rw [if_neg this]; rfl
    · cases h
  all_goals first
    | (subst h; simp [Op.stringOp, blt, beqB]; done)
    | (subst h; simp [Op.stringOp, blt, beqB]; cases Op.bytesLess x.toList y.toList <;> simp)
theorem rd_sop {op : BinOp} {t yt : TypeId} {x y : Operand} (ho : o.op = .binOp op t x y yt) (h : Rd P A X (.sop op x y) v) : Reads P a o v w := by
  obtain ⟨p, q, h1, h2, h3⟩ := h
  have hop : (binOp op t (.string p) (.string q)) = Op.stringOp op p q := by cases op <;> simp [binOp]
  have hg : (eqGuard op t x y (.string p) (.string q)).run P w = .ok () w := by cases op <;> simp [eqGuard]
  simp [Reads, execOp, ho, hF.ev h1, hF.ev h2, hg, hop, sop_run h3 w]
theorem rd_beq {neg : Bool} {op : BinOp} {t yt : TypeId} {x y : Operand} (ho : o.op = .binOp op t x y yt) (hop : op = if neg then .neq else .eql) (hu : P.underlying t = some .bool) (h : Rd P A X (.beq neg x y) v) : Reads P a o v w := by
  obtain ⟨p, q, h1, h2, rfl⟩ := h
  subst hop
  cases neg <;> simp only [Bool.false_eq_true, if_false, if_true] at ho <;> simp [Reads, execOp, ho, hF.ev h1, hF.ev h2, eqGuard, run_eql_bool w t p q hu, run_neq_bool w t p q hu]
theorem rd_nil {neg : Bool} {op : BinOp} {t te yt : TypeId} {x y : Operand} (ho : o.op = .binOp op t x y yt) (hy : y = .const (.pointer none)) (hop : op = if neg then .neq else .eql) (hu : P.underlying t = some (.pointer te)) (h : Rd P A X (.nil neg x) v) : Reads P a o v w := by
  obtain ⟨p, h1, rfl⟩ := h
  have hu' : P.underlying t = some (.pointer (P.pointee t)) := by simp [Program.pointee, hu]
  have hye : a.eval y = .pointer none := by rw [hy]; rfl
  subst hop
  cases neg <;> simp only [Bool.false_eq_true, if_false, if_true] at ho <;> simp [Reads, execOp, ho, hF.ev h1, hye, eqGuard, run_eql_pointer_nil w t _ hu', run_neq_pointer_nil w t _ hu']
theorem rd_snil {neg : Bool} {op : BinOp} {t te yt : TypeId} {x y : Operand} (ho : o.op = .binOp op t x y yt) (hy : y = .const (.slice none 0 0)) (hop : op = if neg then .neq else .eql) (hu : P.underlying t = some (.slice te)) (h : Rd P A X (.snil neg x) v) : Reads P a o v w := by
  obtain ⟨p, n, c, h1, rfl⟩ := h
  have hye : a.eval y = .slice none 0 0 := by rw [hy]; rfl
  have he : (Op.equal t (.slice p n c) (.slice none 0 0)).run P w = .ok p.isNone w := by
    unfold Op.equal
    have : Op.maxDepth = 9999 + 1 := rfl
    rw [this]
    unfold Op.equalIn
    rw [Sem.run_bind, run_underlying hu w]
    cases p <;> rfl
  subst hop
  cases neg <;> simp only [Bool.false_eq_true, if_false, if_true] at ho <;> simp [Reads, execOp, ho, hF.ev h1, hye, eqGuard, binOp, he]
theorem rd_fnil {neg : Bool} {op : BinOp} {t yt : TypeId} {ps rs : Array TypeId} {vr : Bool} {x y : Operand} (ho : o.op = .binOp op t x y yt) (hy : y = .const .nilFunc) (hop : op = if neg then .neq else .eql) (hu : P.underlying t = some (.func ps rs vr)) (h : Rd P A X (.fnil neg x) v) : Reads P a o v w := by
  obtain ⟨u, h1, h2⟩ := h
  have hye : a.eval y = .nilFunc := by rw [hy]; rfl
  have he : ∀ u, (u = .nilFunc ∨ ∃ f a c, u = .func f a c) → (Op.equal t u .nilFunc).run P w = .ok (match u with | .nilFunc => true | _ => false) w := by
    intro u hu2
    unfold Op.equal
    have : Op.maxDepth = 9999 + 1 := rfl
    rw [this]
    unfold Op.equalIn
    rw [Sem.run_bind, run_underlying hu w]
    rcases hu2 with rfl | ⟨f, a, c, rfl⟩ <;> rfl
  subst hop
  rcases h2 with ⟨rfl, rfl⟩ | ⟨f, b, c, rfl, rfl⟩
  · have := he _ (.inl rfl)
    cases neg <;> simp only [Bool.false_eq_true, if_false, if_true] at ho <;> simp [Reads, execOp, ho, hF.ev h1, hye, eqGuard, binOp, this]
  · have := he _ (.inr ⟨f, b, c, rfl⟩)
    cases neg <;> simp only [Bool.false_eq_true, if_false, if_true] at ho <;> simp [Reads, execOp, ho, hF.ev h1, hye, eqGuard, binOp, this]
theorem rd_eqv {neg : Bool} {op : BinOp} {t yt : TypeId} {x y : Operand} (ho : o.op = .binOp op t x y yt) (hop : op = if neg then .neq else .eql) (h : Rd P A X (.eqv neg t x y) v) : Reads P a o v w := by
  obtain ⟨p, q, r, h1, h2, h3, rfl⟩ := h
  obtain ⟨h4, h5⟩ := h3 w
  have h5 := h5 neg x y
  subst hop
  cases neg <;> simp only [Bool.false_eq_true, if_false, if_true] at ho h5 <;> simp [Reads, execOp, ho, hF.ev h1, hF.ev h2, h5, run_eql_struct, run_neq_struct, h4]
theorem rd_len {x : Operand} {t elem : TypeId} {ts : List TypeId} (ho : o.op = .call { callee := .builtin .len, args := ⟨[x]⟩, argTypes := ⟨t :: ts⟩ }) (hu : P.underlying t = some (.slice elem)) (h : Rd P A X (.len x) v) : Reads P a o v w := by
  obtain ⟨p, n, c, h1, rfl⟩ := h
  simp [Reads, execOp, ho, resolve, invoke, builtin, Builtin.len_, hF.ev h1, run_underlying hu, goInt]
theorem rd_slen {x : Operand} {t : TypeId} {ts : List TypeId} (ho : o.op = .call { callee := .builtin .len, args := ⟨[x]⟩, argTypes := ⟨t :: ts⟩ }) (hu : P.underlying t = some .string) (h : Rd P A X (.slen x) v) : Reads P a o v w := by
  obtain ⟨s, h1, rfl⟩ := h
  simp [Reads, execOp, ho, resolve, invoke, builtin, Builtin.len_, hF.ev h1, run_underlying hu, goInt]
theorem rd_cap {x : Operand} {t elem : TypeId} {ts : List TypeId} (ho : o.op = .call { callee := .builtin .cap, args := ⟨[x]⟩, argTypes := ⟨t :: ts⟩ }) (hu : P.underlying t = some (.slice elem)) (h : Rd P A X (.cap x) v) : Reads P a o v w := by
  obtain ⟨p, n, c, h1, rfl⟩ := h
  simp [Reads, execOp, ho, resolve, invoke, builtin, Builtin.cap_, hF.ev h1, run_underlying hu, goInt]
theorem rd_cnv {src dst : TypeId} {k k0 : IntKind} {x : Operand} (ho : o.op = .convert src dst x) (hs : P.underlying src = some (.int k0)) (hd : P.underlying dst = some (.int k)) (h : Rd P A X (.cnv k x) v) : Reads P a o v w := by
  obtain ⟨k', n, h1, rfl⟩ := h
  simp [Reads, execOp, ho, hF.ev h1, convert, run_underlying hs, run_underlying hd, Conv.intToInt]
theorem rd_mnx {isMax : Bool} {x y : Operand} {ts : Array TypeId} (ho : o.op = .call { callee := .builtin (if isMax then .max else .min), args := ⟨[x, y]⟩, argTypes := ts }) (h : Rd P A X (.mnx isMax x y) v) : Reads P a o v w := by
  obtain ⟨k, p, q, h1, h2, rfl⟩ := h
  cases isMax <;> simp only [Bool.false_eq_true, if_false, if_true] at ho
  · have : (if q < p then q else p) = min p q := by split <;> omega
    simp [Reads, execOp, ho, resolve, invoke, builtin, Builtin.min_, Builtin.min2, hF.ev h1, hF.ev h2, this]
  · have : (if p < q then q else p) = max p q := by split <;> omega
    simp [Reads, execOp, ho, resolve, invoke, builtin, Builtin.max_, Builtin.max2, hF.ev h1, hF.ev h2, this]
theorem rd_mkf {fn : Fn} {first captured : Array Operand} (ho : o.op = .makeFunc fn first captured) (h : Rd P A X (.mkf fn first.toList captured.toList) v) : Reads P a o v w := by
  obtain ⟨f, c, h1, h2, rfl⟩ := h
  have e1 : first.map a.eval = ⟨f⟩ := by apply Array.ext'; simpa using hF.evL h1
  have e2 : captured.map a.eval = ⟨c⟩ := by apply Array.ext'; simpa using hF.evL h2
  simp [Reads, execOp, ho, Instr.makeFunc, e1, e2]
omit hF in
theorem setRange_array : ∀ (v : List Value) (off k : Nat) (cs : Array Value), (v.zipIdx k).foldl (fun cs (c, j) => cs.setIfInBounds (off + j) c) cs = (setRange cs.toList (off + k) v).toArray
  | [], off, k, cs => by simp [setRange]
  | x :: r, off, k, cs => by
    simp only [List.zipIdx_cons, List.foldl_cons, setRange]
    rw [setRange_array r off (k + 1) _]
    simp [Nat.add_assoc]
omit hF in
theorem fill_eq (place : Nat → Option (Nat × Nat)) : ∀ (parts : List (Nat × Value)) (cells : Array Value) (r : List Value), fillL place cells.toList parts = some r → Instr.fill place cells parts = some r.toArray
  | [], cells, r, h => by simp [Instr.fill, fillL] at h ⊢; rw [← h]
  | (i, v) :: rest, cells, r, h => by
    simp only [Instr.fill, fillL] at h ⊢
    cases hp : place i with
    | none => rw [hp] at h; cases h
    | some p =>
      obtain ⟨off, size⟩ := p
      rw [hp] at h
      simp only at h ⊢
      split at h
      · rename_i hc
        rw [if_neg (by simpa using hc)]
        have h0 : v.cells.zipIdx.foldl (fun cs (c, j) => cs.setIfInBounds (off + j) c) cells = (setRange cells.toList off v.cells.toList).toArray := by
          rw [← Array.foldl_toList, Array.toList_zipIdx]
          exact setRange_array v.cells.toList off 0 cells
        rw [h0]
        exact fill_eq place rest _ r (by simpa using h)
      · cases h
omit hF in
theorem zeroOf_spec {t : TypeId} {z : List Value} (h : zeroOf P t = some z) : ∃ i zv, P.info? t = some i ∧ i.zero = some zv ∧ z = zv.cells.toList ∧ z.length = i.size := by
  unfold zeroOf at h
  split at h
  · cases h
  · rename_i i hi
    split at h
    · cases h
    · rename_i zv hz
      split at h
      · rename_i hc; cases h; exact ⟨i, zv, hi, hz, rfl, hc⟩
      · cases h
theorem rd_bld {t : TypeId} {ps : Array (Nat × Operand)} {fields : Array Field} {z : List Value} {places : List (Nat × Nat)} (ho : o.op = .build t ps)
    (hu : P.underlying t = some (.struct fields)) (hz : zeroOf P t = some z) (hp : placesOf P fields.toList = some places) (h : Rd P A X (.bld z places ps.toList) v) : Reads P a o v w := by
  obtain ⟨vs, l, h1, h2, rfl⟩ := h
  obtain ⟨it, zv, hi, hz2, hz3, -⟩ := zeroOf_spec hz
  have hb : P.built t (ps.map fun (i, x) => (i, a.eval x)).toList = some l.toArray := by
    unfold Program.built
    unfold placesOf at hp
    simp only [hi, hu, hz2, hp]
    refine fill_eq _ _ _ l ?_
    have : (fun (x : Nat) => places.toArray[x]?) = (fun (i : Nat) => places[i]?) := by funext i; simp
    rw [this, ← hz3, Array.toList_map, hF.evP h1]
    exact h2
  simp [Reads, execOp, ho, run_build w t _ _ hb]
theorem rd_bldA {t : TypeId} {ps : Array (Nat × Operand)} {n : Nat} {elem : TypeId} {ie : TypeInfo} {z : List Value} (ho : o.op = .build t ps)
    (hu : P.underlying t = some (.array n elem)) (hz : zeroOf P t = some z) (hie : P.info? elem = some ie) (h : Rd P A X (.bldA z ie.size ps.toList) v) : Reads P a o v w := by
  obtain ⟨vs, l, h1, h2, rfl⟩ := h
  obtain ⟨it, zv, hi, hz2, hz3, -⟩ := zeroOf_spec hz
  have hb : P.built t (ps.map fun (i, x) => (i, a.eval x)).toList = some l.toArray := by
    unfold Program.built
    simp only [hi, hu, hz2, hie]
    refine fill_eq _ _ _ l ?_
    rw [← hz3, Array.toList_map, hF.evP h1]
    exact h2
  simp [Reads, execOp, ho, run_build w t _ _ hb]
omit hF in
theorem bound_run {x : Option Value} {dflt y n : Nat} {code : BoundsCode} (h : bound x dflt = some n) (hn : n ≤ y) : ∀ u, x = some u → (Instr.sliceBound u y code).run P w = .ok n w := by
  rintro u rfl
  unfold bound at h
  cases u with
  | int k i =>
    simp only at h
    split at h
    · rename_i hi
      cases h
      have : i ≤ (y : Int) := by omega
      simp [Instr.sliceBound, asIntOf, hi, this]
    · cases h
  | _ => cases h
theorem evO_map {x : Option Operand} {u : Option Value} (h : evO A x = some u) : x.map a.eval = u := by
  cases x with
  | none => cases h; rfl
  | some y =>
    simp only [evO] at h
    split at h
    · cases h
    · rename_i q hq; cases h; simp [hF.ev hq]
omit hF in
theorem run_bounds {isS : Bool} {len cap h l : Nat} {lo hi : Option Value} (hh : bound hi len = some h) (hl : bound lo 0 = some l) (h1 : l ≤ h) (h2 : h ≤ cap) :
    (Instr.sliceBounds isS len cap lo hi none).run P w = .ok (l, h, cap) w := by
  unfold Instr.sliceBounds
  cases hi with
  | none =>
    cases lo with
    | none => simp [bound] at hh hl; simp [hh, hl]
    | some u =>
      simp [bound] at hh
      have := bound_run (P := P) (w := w) (code := .sliceB) hl h1 u rfl
      simp [this, hh]
  | some v =>
    have e1 := bound_run (P := P) (w := w) (code := if isS then .sliceAcap else .sliceAlen) hh h2 v rfl
    cases lo with
    | none => simp [bound] at hl; simp [e1, hl]
    | some u =>
      have := bound_run (P := P) (w := w) (code := .sliceB) hl h1 u rfl
      simp [e1, this]
omit hF in
theorem run_bounds3 {isS : Bool} {len cap h l m : Nat} {lo hi mx : Option Value} (hm : bound mx cap = some m) (hh : bound hi len = some h) (hl : bound lo 0 = some l) (h1 : l ≤ h) (h2 : h ≤ m) (h3 : m ≤ cap) (h4 : mx.isSome → hi.isSome) :
    (Instr.sliceBounds isS len cap lo hi mx).run P w = .ok (l, h, m) w := by
  cases mx with
  | none =>
    simp [bound] at hm
    subst hm
    exact run_bounds hh hl h1 h2
  | some q =>
    cases hi with
    | none => simp at h4
    | some v =>
      have e0 := bound_run (P := P) (w := w) (code := if isS then .slice3Acap else .slice3Alen) hm h3 q rfl
      have e1 := bound_run (P := P) (w := w) (code := .slice3B) hh h2 v rfl
      unfold Instr.sliceBounds
      cases lo with
      | none => simp [bound] at hl; simp [e0, e1, hl]
      | some u =>
        have := bound_run (P := P) (w := w) (code := .slice3C) hl h1 u rfl
        simp [e0, e1, this]
theorem rd_slc {t elem : TypeId} {x : Operand} {lo hi mx : Option Operand} {i : TypeInfo} (ho : o.op = .slice t x lo hi mx)
    (hu : P.underlying t = some (.slice elem)) (hi' : P.info? elem = some i) (h : Rd P A X (.slc i.size x lo hi mx) v) : Reads P a o v w := by
  obtain ⟨u, l, hh, m, h1, h2, h3, h4, h5⟩ := h
  unfold sliceF at h5
  split at h5
  · rename_i ad len cap
    split at h5
    · cases h5
    · rename_i mv hm
      split at h5
      · rename_i hv lv hbh hbl
        split at h5
        · rename_i hc
          cases h5
          obtain ⟨c1, c2, c3, c4, c5⟩ := hc
          have hbh' : bound hh len = some hv := by cases hh <;> simpa using hbh
          have hb := run_bounds3 (P := P) (w := w) (isS := true) hm hbh' hbl c1 c2 c3 c4
          have e2 := evO_map hF h2
          have e3 := evO_map hF h3
          have e4 := evO_map hF h4
          have e5 : ∀ n : Nat, (ad.map fun (p : Addr) => p.add (n * i.size)) = ad.map fun p => ⟨p.block, p.off + n * i.size, none⟩ := by
            intro n
            cases ad with
            | none => rfl
            | some p =>
              obtain ⟨b, of, sp⟩ := p
              have : sp = none := by simpa [spotless] using c5
              subst this
              simp [Addr.add_lit]
          simp [Reads, execOp, ho, Instr.sliceAt, run_underlying hu, hF.ev h1, e2, e3, e4, Instr.slice, hb, sizeOf, typeInfo, hi', e5]
        · cases h5
      · cases h5
  · cases h5
theorem rd_sla {t elem : TypeId} {n : Nat} {x : Operand} {lo hi : Option Operand} {i : TypeInfo} (ho : o.op = .slice t x lo hi none)
    (hu : P.underlying t = some (.array n elem)) (hi' : P.info? elem = some i) (h : Rd P A X (.sla i.size n x lo hi) v) : Reads P a o v w := by
  obtain ⟨u, l, hh, h1, h2, h3, h5⟩ := h
  unfold sliceA at h5
  split at h5
  · rename_i b off
    split at h5
    · rename_i hv lv hbh hbl
      split at h5
      · rename_i hc
        cases h5
        have hb := run_bounds (P := P) (w := w) (isS := false) (cap := n) hbh hbl hc.1 hc.2
        have e2 := evO_map hF h2
        have e3 := evO_map hF h3
        have : (if n = lv then (⟨b, off, none⟩ : Addr) else (⟨b, off, none⟩ : Addr).add (lv * i.size)) = ⟨b, if n = lv then off else off + lv * i.size, none⟩ := by
          split <;> simp [Addr.add_lit]
        simp [Reads, execOp, ho, Instr.sliceAt, run_underlying hu, hF.ev h1, e2, e3, Instr.sureAddr, hb, sizeOf, typeInfo, hi', this]
      · cases h5
    · cases h5
  · cases h5
theorem rd_ssub {t : TypeId} {x : Operand} {lo hi : Option Operand} (ho : o.op = .slice t x lo hi none) (hu : P.underlying t = some .string) (h : Rd P A X (.ssub x lo hi) v) : Reads P a o v w := by
  obtain ⟨s, l, hh, hn, ln, h1, h2, h3, h4, h5, h6, h7, rfl⟩ := h
  have hb := run_bounds (P := P) (w := w) (isS := false) (cap := s.size) h4 h5 h6 h7
  have e2 := evO_map hF h2
  have e3 := evO_map hF h3
  simp [Reads, execOp, ho, Instr.sliceAt, run_underlying hu, hF.ev h1, e2, e3, Instr.slice, hb]
theorem rd_peq {neg : Bool} {op : BinOp} {t te yt : TypeId} {j : TypeInfo} {x y : Operand} (ho : o.op = .binOp op t x y yt) (hop : op = if neg then .neq else .eql) (hu : P.underlying t = some (.pointer te)) (hte : P.info? te = some j) (hsz : j.size ≠ 0) (hX : Mod Bar X w)
    (h : Rd P A X (.peq neg x y) v) : Reads P a o v w := by
  obtain ⟨b, ob, c, oc, h1, h2, h3, h4, rfl⟩ := h
  by_cases hbc : b = c
  · subst hbc
    have := h3 rfl
    subst this
    have he := run_eql_ptr_same (P := P) w ⟨b, ob, none⟩ hu hte
    have heq : (Op.equal t (.pointer (some ⟨b, ob, none⟩)) (.pointer (some ⟨b, ob, none⟩))).run P w = .ok true w := by
      have h : ∀ d : Nat, (Op.equalIn (d + 1) t (.pointer (some ⟨b, ob, none⟩)) (.pointer (some ⟨b, ob, none⟩))).run P w = .ok true w := fun d => by
        simp [Op.equalIn, run_underlying hu, sizeOf, typeInfo, hte, run_sameAddr_same]
      simp [Op.equal, Op.maxDepth, h 9999]
    subst hop
    cases neg <;> simp only [Bool.false_eq_true, if_false, if_true] at ho <;> simp [Reads, execOp, ho, hF.ev h1, hF.ev h2, eqGuard, binOp, heq]
  · obtain ⟨⟨B, hB, hwB⟩, ⟨C, hC, hwC⟩⟩ := h4 hbc
    obtain ⟨ab, tb, fb, g1, -, g2⟩ := hX.blk b B hB
    obtain ⟨ac, tc, fc, g3, -, g4⟩ := hX.blk c C hC
    obtain ⟨-, rfl, -⟩ := g2 hwB
    obtain ⟨-, rfl, -⟩ := g4 hwC
    have hne : (⟨b, ob, none⟩ : Addr) ≠ ⟨c, oc, none⟩ := fun e => hbc (by injection e)
    have he := run_eql_ptr_other (P := P) w hu hte hsz hne g1 g3
    have heq : (Op.equal t (.pointer (some ⟨b, ob, none⟩)) (.pointer (some ⟨c, oc, none⟩))).run P w = .ok false w := by
      have h : ∀ d : Nat, (Op.equalIn (d + 1) t (.pointer (some ⟨b, ob, none⟩)) (.pointer (some ⟨c, oc, none⟩))).run P w = .ok false w := fun d => by
        simp [Op.equalIn, run_underlying hu, sizeOf, typeInfo, hte, hsz, run_sameAddr_other w hne g1 g3]
      simp [Op.equal, Op.maxDepth, h 9999]
    subst hop
    cases neg <;> simp only [Bool.false_eq_true, if_false, if_true] at ho <;> simp [Reads, execOp, ho, hF.ev h1, hF.ev h2, eqGuard, binOp, heq, hbc]
end
section
variable {P : Program} {A : Frm} {a : Act} (hF : KF A a) {o : Oper} {v : Value} {X : St} {w : World} {Bar : Nat} (hX : Mod Bar X w)
include hF hX
theorem rd_ld1 {t : TypeId} {x : Operand} {d : TypeDesc} (ho : o.op = .load t x) (hu : P.underlying t = some d) (hd : isAggD d = false) (h : Rd P A X (.ld1 x) v) : Reads P a o v w := by
  obtain ⟨b, off, h1, h2⟩ := h
  simp [Reads, execOp, ho, hF.ev h1, Instr.loadAt, Instr.sureAddr, loadVar, isAgg_false hu hd, run_load, cellAt_sound hX h2]
theorem rd_ldN {t : TypeId} {x : Operand} {d : TypeDesc} {i : TypeInfo} (ho : o.op = .load t x) (hu : P.underlying t = some d) (hi : P.info? t = some i) (hd : isAggD d = true) (h : Rd P A X (.ldN i.size x) v) : Reads P a o v w := by
  obtain ⟨b, off, l, h1, h2, rfl⟩ := h
  obtain ⟨h3, h4⟩ := cellsAt_sound hX h2
  have := run_loadAt_mid w b off t l d h3 hu (by cases d <;> simp_all [isAggD]) (by rw [hi]; simp [h4])
  simp [Reads, execOp, ho, hF.ev h1, this]
omit hF hX in
theorem bytesOf_spec : ∀ {vs : List Value} {ns : List Int}, bytesOf vs = some ns → vs = ns.map (Value.int .u8)
  | [], ns, h => by cases h; rfl
  | v :: r, ns, h => by
    unfold bytesOf at h
    split at h
    · rename_i heq; cases heq
    · rename_i n r' heq
      cases heq
      split at h
      · cases h
      · rename_i l hl
        cases h
        rw [List.map_cons, ← bytesOf_spec hl]
    · cases h
theorem rd_bts {src dst elem : TypeId} {x : Operand} (ho : o.op = .convert src dst x) (hs : P.underlying src = some (.slice elem)) (he : P.underlying elem = some (.int .u8)) (hd : P.underlying dst = some .string) (h : Rd P A X (.bts x) v) : Reads P a o v w := by
  obtain ⟨p, n, c, l, ns, h1, h2, h3, rfl⟩ := h
  cases p with
  | none =>
    have h2 : l = [] := h2
    subst h2
    cases h3
    simp [Reads, execOp, ho, hF.ev h1, run_convert_bytes_string w src dst elem _ _ _ hs he hd, Conv.bytesToString, bytesStr]
  | some ad =>
    obtain ⟨b, off, sp⟩ := ad
    obtain ⟨rfl, h2⟩ : sp = none ∧ cellsAt X b off n = some l := h2
    obtain ⟨h4, h5⟩ := cellsAt_sound hX h2
    rw [bytesOf_spec h3] at h4 h5
    have hlen : (ns.map (Value.int .u8)).length = n := by simpa using h5
    have hload : (loadCells ⟨b, off, none⟩ n).run P w = .ok (ns.map (Value.int .u8)).toArray w := by
      have := run_loadCells_list (P := P) w ⟨b, off, none⟩ (ns.map (Value.int .u8)) (fun j u hj => by rw [Addr.add_mid]; exact h4 j u hj)
      rw [hlen] at this
      exact this
    simp [Reads, execOp, ho, hF.ev h1, run_convert_bytes_string w src dst elem _ _ _ hs he hd, run_bytesToString w _ _ _ ns hload, bytesStr]
end
end Go.Sym

/- The operations that write, or make memory. -/
namespace Go.Sym
open Go.RowKit

def single : Value → Bool
  | .agg _ | .tuple _ => false
  | _ => true
theorem single_one {v : Value} (h : single v = true) : v.oneCell' = true := by
  cases v <;> first | rfl | (simp [single] at h)
abbrev Singles (l : List Value) : Prop := ∀ v ∈ l, single v = true
def splice (l : List Value) (o : Nat) (vs : List Value) : List Value := l.take o ++ vs ++ l.drop (o + vs.length)
theorem splice_len {l : List Value} {o : Nat} {vs : List Value} (h : o + vs.length ≤ l.length) : (splice l o vs).length = l.length := by
  simp [splice]; omega

section
variable {P : Program} {Bar : Nat} {X : St} {w : World}

theorem Mod.alloc (h : Mod Bar X w) {B : Blk} {arr : Array Value} (hc : ∀ (i : Nat) (v : Value), B.cells[i]? = some v → arr[i]? = some v) (hf : arr.size = B.full) : Mod Bar (X.new w.heap.size B) (w.alloc (.cells arr B.elem)) := by
  have hsz : (w.alloc (.cells arr B.elem)).heap.size = w.heap.size + 1 := by simp
  have hn := h.next
  refine ⟨by rw [hsz]; have := h.room; omega, by rw [hsz, Zv]; omega, fun b C e => ?_, fun b o e => ?_⟩
  · rw [get_new] at e
    split at e
    · rename_i hb
      cases e
      subst hb
      exact ⟨arr, B.elem, (0, 0), by show (w.heap.push _)[w.heap.size]? = _; simp, hc, fun _ => ⟨rfl, rfl, hf, h.room⟩⟩
    · have := St.lt e
      exact (h.blk b C e).congr (Below.heap_alloc _ _ _ (by omega))
  · rw [obj_new] at e
    split at e
    · cases e
    · have := St.olt e
      exact (h.obj b o e).congr (Below.heap_alloc _ _ _ (by omega))

theorem KM.ne_cells {o : MO} {b c : Nat} {cs : Array Value} {t : TypeId} {f : Nat × Nat} (h : KM Bar o b w) (hc : w.heap[c]? = some (.cells cs t f)) : b ≠ c := by
  rintro rfl
  obtain ⟨-, h⟩ := h
  cases o with
  | iter s pos => simp only at h; rw [hc] at h; cases h
  | map l => obtain ⟨es, k, h1, -⟩ := h; rw [hc] at h1; cases h1

theorem setRow_other (w : World) (g k : Nat) (cs : Array Value) (h : k ≠ g) : (w.setRow g cs).heap[k]? = w.heap[k]? := by
  simp only [World.setRow, Array.getElem?_modify]
  rw [if_neg (fun e => h e.symm)]
theorem setRow_size (w : World) (g : Nat) (cs : Array Value) : (w.setRow g cs).heap.size = w.heap.size := by simp [World.setRow]

theorem Mod.setRow (h : Mod Bar X w) {b : Nat} {B B' : Blk} (hb : X.get b = some B) (hwr : B.wr = true) {arr arr' : Array Value} {t : TypeId} {f : Nat × Nat} (ha : w.heap[b]? = some (.cells arr t f)) (hel : B'.elem = B.elem) (hfu : B'.full = B.full)
    (hc : ∀ (i : Nat) (v : Value), B'.cells[i]? = some v → arr'[i]? = some v) (hs : arr'.size = arr.size) : Mod Bar (X.set b B') (w.setRow b arr') ∧ Below Bar w (w.setRow b arr') := by
  obtain ⟨arr0, t0, f0, g1, g2, g3⟩ := h.blk b B hb
  rw [ha] at g1
  cases g1
  obtain ⟨g4, g5, g6, g7⟩ := g3 hwr
  refine ⟨⟨by rw [setRow_size]; exact h.room, by rw [setRow_size]; exact h.next, fun c C e => ?_, fun c o e => ?_⟩, below_setRow (Below.refl _ _) g7 _⟩
  · by_cases hcb : c = b
    · subst hcb
      rw [VI (St.lt hb)] at e
      cases e
      exact ⟨arr', t, f, setRow_heap w c arr _ t f ha, hc, fun _ => ⟨g4.trans hel.symm, g5, by rw [hs, g6, hfu], g7⟩⟩
    · rw [VJ hcb] at e
      exact (h.blk c C e).congr (setRow_other _ _ _ _ hcb)
  · have e' : X.obj c = some o := e
    exact (h.obj c o e').congr (setRow_other _ _ _ _ ((h.obj c o e').ne_cells ha))

theorem splice_get {l : List Value} {arr : Array Value} {o : Nat} {vs : List Value} (h : ∀ (i : Nat) (v : Value), l[i]? = some v → arr[i]? = some v) (hl : o + vs.length ≤ l.length) :
    ∀ (i : Nat) (v : Value), (splice l o vs)[i]? = some v → (arr.toList.take o ++ vs ++ arr.toList.drop (o + vs.length)).toArray[i]? = some v := by
  intro i v hi
  have hla : l.length ≤ arr.size := by
    rcases Nat.eq_zero_or_pos l.length with h0 | h0
    · omega
    · have := h (l.length - 1) l[l.length - 1] (List.getElem?_eq_getElem (by omega))
      have := (Array.getElem?_eq_some_iff.1 this).1
      omega
  unfold splice at hi
  rw [List.getElem?_toArray]
  by_cases h1 : i < o
  · rw [List.append_assoc, List.getElem?_append_left (by simp; omega), List.getElem?_take, if_pos h1] at hi ⊢
    have := h i v hi
    simpa using this
  · by_cases h2 : i < o + vs.length
    · rw [List.append_assoc, List.getElem?_append_right (by simp; omega), List.getElem?_append_left (by simp; omega)] at hi ⊢
      have e1 : (List.take o l).length = o := by simp; omega
      have e2 : (List.take o arr.toList).length = o := by simp; omega
      rw [e1] at hi; rw [e2]; exact hi
    · rw [List.getElem?_append_right (by simp; omega), List.getElem?_drop] at hi ⊢
      have e1 : (List.take o l ++ vs).length = o + vs.length := by simp; omega
      have e2 : (List.take o arr.toList ++ vs).length = o + vs.length := by simp; omega
      rw [e1] at hi; rw [e2]
      have := h _ v hi
      simpa using this

/-- a store of cells -/
theorem store_cells (h : Mod Bar X w) {b o : Nat} {B : Blk} {vs : List Value} (hb : X.get b = some B) (hwr : B.wr = true) (h1 : Singles vs) (hl : o + vs.length ≤ B.cells.length) :
    ∃ w', (storeCells ⟨b, o, none⟩ vs 0).run P w = .ok () w' ∧ Mod Bar (X.set b { B with cells := splice B.cells o vs }) w' ∧ Below Bar w w' := by
  obtain ⟨arr, t, f, g1, g2, g3⟩ := h.blk b B hb
  obtain ⟨rfl, rfl, g6, g7⟩ := g3 hwr
  have hla : B.cells.length ≤ arr.size := by
    rcases Nat.eq_zero_or_pos B.cells.length with h0 | h0
    · omega
    · have := g2 (B.cells.length - 1) B.cells[B.cells.length - 1] (List.getElem?_eq_getElem (by omega))
      have := (Array.getElem?_eq_some_iff.1 this).1
      omega
  have hrun := run_storeCells_at P b o B.elem vs 0 arr w g1 (by omega) (fun v hv => single_one (h1 v hv))
  obtain ⟨k1, k2⟩ := h.setRow (B' := { B with cells := splice B.cells o vs }) (arr' := (arr.toList.take o ++ vs ++ arr.toList.drop (o + vs.length)).toArray) hb hwr g1 rfl rfl (splice_get g2 hl) (by simp; omega)
  exact ⟨_, by simpa using hrun, k1, k2⟩

/-! ### append -/
/-- what is appended: how many, and their cells -/
def SrcOf (X : St) (str : Bool) (size : Nat) (x : Value) (n : Nat) (new : List Value) : Prop :=
  Singles new ∧
  match x with
  | .slice none k _ => str = false ∧ k = 0 ∧ n = 0 ∧ new = []
  | .slice (some ⟨b, o, none⟩) k _ => str = false ∧ n = k ∧ cellsAt X b o (n * size) = some new
  | .string s => str = true ∧ n = s.size ∧ new = byteCells s
  | _ => False

def AppKind (P : Program) (str : Bool) (size : Nat) (xt : TypeId) : Prop := (str = false ∧ ∃ e', P.underlying xt = some (.slice e')) ∨ (str = true ∧ P.underlying xt = some .string ∧ size = 1)

/-- an append, as the prover takes it -/
def Apnd (P : Program) (Bar : Nat) (str : Bool) (size bytes : Nat) (elem : TypeId) (s x : Value) (X : St) (K : Value → St → Prop) : Prop :=
  ∀ st xt ty it, P.underlying st = some (.slice elem) → P.info? elem = some it → it.size = size → it.bytes = bytes → (∃ z, zeroOf P elem = some z) → size ≠ 0 → AppKind P str size xt →
    ∀ w, Mod Bar X w → ∃ v w' X', (Builtin.append_ #[st, xt] ty #[s, x]).run P w = .ok v w' ∧ K v X' ∧ Mod Bar X' w' ∧ Below Bar w w'

theorem SrcOf.src {str : Bool} {size : Nat} {x : Value} {n : Nat} {new : List Value} (h : SrcOf X str size x n new) {xt : TypeId} (hk : AppKind P str size xt) (hX : Mod Bar X w) : Src P size xt x n new w := by
  obtain ⟨h1, h2⟩ := h
  have hone : ∀ v ∈ new, v.oneCell' = true := fun v hv => single_one (h1 v hv)
  split at h2
  · obtain ⟨rfl, rfl, rfl, rfl⟩ := h2
    rcases hk with ⟨-, e', hk⟩ | ⟨hk, -⟩
    · exact Src.ofNil w hk _
    · cases hk
  · rename_i b o k c
    obtain ⟨rfl, rfl, h3⟩ := h2
    obtain ⟨h4, h5⟩ := cellsAt_sound hX h3
    rcases hk with ⟨-, e', hk⟩ | ⟨hk, -⟩
    · exact Src.ofSlice w hk _ _ _ _ h5 (fun j u hj => by rw [Addr.add_mid]; exact h4 j u hj) hone
    · cases hk
  · rename_i s
    obtain ⟨rfl, rfl, rfl⟩ := h2
    rcases hk with ⟨hk, -⟩ | ⟨-, hk, rfl⟩
    · cases hk
    · exact Src.ofString w hk s
  · cases h2

theorem size_zeroCells (z : Array Value) (n : Nat) : (Builtin.zeroCells z n).size = n * z.size := by simp [Builtin.zeroCells]
theorem grownCap_ge (w : World) (need old : Nat) (t : TypeId) : need ≤ grownCap w need old t := by
  unfold grownCap Question.cut
  exact Nat.le_add_right _ _

/-- the arm that grows -/
theorem grow_step {st xt ty elem : TypeId} {it : TypeInfo} {size bytes : Nat} (hX : Mod Bar X w) (ht : P.underlying st = some (.slice elem)) (hi : P.info? elem = some it) (hsz : it.size = size) (hby : it.bytes = bytes) (hz : ∃ z, zeroOf P elem = some z)
    {base : Option Addr} {sLen sCap n : Nat} {x : Value} {olds news : List Value} (hold : (Builtin.firstCells size sLen (.slice base sLen sCap)).run P w.drew = .ok olds.toArray w.drew) (hol : olds.length = sLen * size) (hs : Src P size xt x n news w) (hg : sCap < sLen + n)
    (hfit : (sLen + n) * (bytes + 1) < 1099511627775) :
    ∃ cap w', sLen + n ≤ cap ∧ (Builtin.append_ #[st, xt] ty #[.slice base sLen sCap, x]).run P w = .ok (.slice (some ⟨w.heap.size, 0, none⟩) (sLen + n) cap) w' ∧ Mod Bar (X.new w.heap.size ⟨olds ++ news, cap * size, elem, true⟩) w' ∧ Below Bar w w' := by
  subst hsz hby
  obtain ⟨z, hz⟩ := hz
  obtain ⟨it', zv, hi', hz2, hz3, hz4⟩ := zeroOf_spec hz
  rw [hi] at hi'; cases hi'
  have hzs : zv.cells.size = it.size := by rw [← Array.length_toList, ← hz3]; exact hz4
  have hf : sLen + n < 1099511627775 ∧ (sLen + n) * it.bytes < 1099511627775 := by
    have : (sLen + n) * (it.bytes + 1) = (sLen + n) * it.bytes + (sLen + n) := Nat.mul_succ _ _
    omega
  have hrun := run_append_grow_src (P := P) w st xt ty elem it zv ht hi hz2 base sLen sCap olds hold x n news hs hg (by omega) (growslice_fits (by omega) (by omega))
  have hge := grownCap_ge w (sLen + n) sCap elem
  have hsize : ((olds ++ news).toArray ++ Builtin.zeroCells zv.cells (grownCap w (sLen + n) sCap elem - (sLen + n))).size = grownCap w (sLen + n) sCap elem * it.size := by
    rw [Array.size_append, size_zeroCells, hzs, List.size_toArray, List.length_append, hol, hs.newsLen, ← Nat.add_mul, ← Nat.add_mul]
    congr 1; omega
  refine ⟨_, _, hge, hrun, ?_, (Below.refl _ _).drew.alloc hX.room _⟩
  have hd : w.drew.heap.size = w.heap.size := rfl
  have := hX.drew.alloc (B := ⟨olds ++ news, grownCap w (sLen + n) sCap elem * it.size, elem, true⟩) (arr := (olds ++ news).toArray ++ Builtin.zeroCells zv.cells (grownCap w (sLen + n) sCap elem - (sLen + n)))
    (fun i v hv => by
      have hlt := (List.getElem?_eq_some_iff.1 hv).1
      rw [Array.getElem?_append_left (by simpa using hlt)]
      simpa using hv) hsize
  rw [hd] at this
  exact this

variable {str : Bool} {size bytes : Nat} {elem : TypeId} {x : Value} {n : Nat} {new : List Value} {K : Value → St → Prop}

theorem run_append_zero {t tx ty el : TypeId} {i : TypeInfo} (ht : P.underlying t = some (.slice el)) (hi : P.info? el = some i) {base : Option Addr} {sLen sCap : Nat} {x : Value} {news : List Value} (hs : Src P i.size tx x 0 news w) (hc : sLen ≤ sCap) :
    (Builtin.append_ #[t, tx] ty #[.slice base sLen sCap, x]).run P w = .ok (.slice base sLen sCap) w := by
  have hn : news = [] := List.eq_nil_of_length_eq_zero (by rw [hs.newsLen]; simp)
  subst hn
  have h2 : (Builtin.firstCells i.size 0 x).run P w = .ok #[] w := hs.cells
  rcases hs.kind with ⟨e', hk⟩ | hk <;> cases base <;> simp [Builtin.append_, run_underlying ht, run_underlying hk, sizeOf, typeInfo, hi, hs.len, hc, h2, storeCells]
theorem run_append_room {t tx ty el : TypeId} {i : TypeInfo} (ht : P.underlying t = some (.slice el)) (hi : P.info? el = some i) {b off sLen sCap n : Nat} {x : Value} {news : List Value} (hs : Src P i.size tx x n news w) (hc : sLen + n ≤ sCap)
    {w' : World} (hst : (storeCells ⟨b, off + sLen * i.size, none⟩ news 0).run P w = .ok () w') :
    (Builtin.append_ #[t, tx] ty #[.slice (some ⟨b, off, none⟩) sLen sCap, x]).run P w = .ok (.slice (some ⟨b, off, none⟩) (sLen + n) sCap) w' := by
  rcases hs.kind with ⟨e', hk⟩ | hk <;> simp [Builtin.append_, run_underlying ht, run_underlying hk, sizeOf, typeInfo, hi, hs.len, hc, hs.cells, Addr.add_lit, hst]

theorem Apnd.zero {base : Option Addr} {sLen sCap : Nat} (hs : SrcOf X str size x 0 new) (hc : sLen ≤ sCap) (hK : K (.slice base sLen sCap) X) : Apnd P Bar str size bytes elem (.slice base sLen sCap) x X K := by
  intro st xt ty it ht hi h1 h2 hz h0 hk w hX
  subst h1
  exact ⟨_, w, X, run_append_zero ht hi (hs.src hk hX) hc, hK, hX, Below.refl _ _⟩

/-- nothing is appended -/
theorem Apnd.empty {base po : Option Addr} {sLen sCap c : Nat} (hc : sLen ≤ sCap) (hK : K (.slice base sLen sCap) X) : Apnd P Bar false size bytes elem (.slice base sLen sCap) (.slice po 0 c) X K := by
  intro st xt ty it ht hi h1 h2 hz h0 hk w hX
  subst h1
  have hs : Src P it.size xt (.slice po 0 c) 0 [] w := by
    rcases hk with ⟨-, e', hk⟩ | ⟨hk, -⟩
    · rcases po with _ | a
      · exact Src.ofNil w hk _
      · exact Src.ofSlice w hk a 0 c [] (by simp) (fun j u hj => by simp at hj) (fun v hv => by cases hv)
    · cases hk
  exact ⟨_, w, X, run_append_zero ht hi hs hc, hK, hX, Below.refl _ _⟩

theorem Apnd.nil (hs : SrcOf X str size x n new) (hn : n ≠ 0) (hfit : n * (bytes + 1) < 1099511627775)
    (hK : ∀ b cap, X.next ≤ b → n ≤ cap → K (.slice (some ⟨b, 0, none⟩) n cap) (X.new b ⟨new, cap * size, elem, true⟩)) : Apnd P Bar str size bytes elem (.slice none 0 0) x X K := by
  intro st xt ty it ht hi h1 h2 hz h0 hk w hX
  obtain ⟨cap, w', g1, g2, g3, g4⟩ := grow_step (ty := ty) (base := none) (sLen := 0) (sCap := 0) (olds := []) hX ht hi h1 h2 hz (run_firstCells_none _ _ _ _ _) (by simp) (hs.src hk hX) (by omega) (by simpa using hfit)
  rw [Nat.zero_add] at g1 g2
  exact ⟨_, w', _, g2, hK w.heap.size cap hX.next g1, by simpa using g3, g4⟩

theorem Apnd.room {b o sLen sCap : Nat} {B : Blk} (hs : SrcOf X str size x n new) (hb : X.get b = some B) (hwr : B.wr = true) (hc : sLen + n ≤ sCap) (hl : o + (sLen + n) * size ≤ B.cells.length)
    (hK : K (.slice (some ⟨b, o, none⟩) (sLen + n) sCap) (X.set b { B with cells := splice B.cells (o + sLen * size) new })) : Apnd P Bar str size bytes elem (.slice (some ⟨b, o, none⟩) sLen sCap) x X K := by
  intro st xt ty it ht hi h1 h2 hz h0 hk w hX
  subst h1
  have hsrc := hs.src hk hX
  have hnl : new.length = n * it.size := hsrc.newsLen
  obtain ⟨w', g1, g2, g3⟩ := store_cells (P := P) hX (o := o + sLen * it.size) hb hwr hs.1 (by rw [hnl, Nat.add_assoc, ← Nat.add_mul]; exact hl)
  exact ⟨_, w', _, run_append_room ht hi hsrc hc g1, hK, g2, g3⟩

theorem Apnd.grow {b o sLen sCap : Nat} {old : List Value} (hs : SrcOf X str size x n new) (ho : cellsAt X b o (sLen * size) = some old) (hc : sCap < sLen + n) (hfit : (sLen + n) * (bytes + 1) < 1099511627775)
    (hK : ∀ b' cap, X.next ≤ b' → sLen + n ≤ cap → K (.slice (some ⟨b', 0, none⟩) (sLen + n) cap) (X.new b' ⟨old ++ new, cap * size, elem, true⟩)) : Apnd P Bar str size bytes elem (.slice (some ⟨b, o, none⟩) sLen sCap) x X K := by
  intro st xt ty it ht hi h1 h2 hz h0 hk w hX
  obtain ⟨h3, h4⟩ := cellsAt_sound hX.drew ho
  obtain ⟨cap, w', g1, g2, g3, g4⟩ := grow_step (ty := ty) (base := some ⟨b, o, none⟩) hX ht hi h1 h2 hz
    (run_firstCells_some w.drew size sLen _ _ _ _ h4 (fun j v hj => by rw [Addr.add_mid]; exact h3 j v hj)) h4 (hs.src hk hX) hc hfit
  exact ⟨_, w', _, g2, hK w.heap.size cap hX.next g1, g3, g4⟩

/-- AN APPEND TO A SLICE OF ONE'S OWN: where it lies then is not told; what it held is still read there where it lay. -/
theorem Apnd.own {b sLen sCap : Nat} {B : Blk} (hs : SrcOf X str size x n new) (hb : X.get b = some B) (hwr : B.wr = true) (hel : B.elem = elem) (hfu : B.full = sCap * size) (hl : sLen * size ≤ B.cells.length) (hfit : (sLen + n) * (bytes + 1) < 1099511627775)
    (hK : ∀ b' cap, (b' = b ∨ X.next ≤ b') → sLen + n ≤ cap → K (.slice (some ⟨b', 0, none⟩) (sLen + n) cap) ((X.set b (ro B)).new b' ⟨B.cells.take (sLen * size) ++ new, cap * size, elem, true⟩)) :
    Apnd P Bar str size bytes elem (.slice (some ⟨b, 0, none⟩) sLen sCap) x X K := by
  intro st xt ty it ht hi h1 h2 hz h0 hk w hX
  have hsrc := hs.src hk hX
  have hnl : new.length = n * size := hsrc.newsLen
  obtain ⟨arr, t, f, k1, k2, k3⟩ := hX.blk b B hb
  obtain ⟨e1, e2, k6, k7⟩ := k3 hwr
  have hbl := St.lt hb
  have hro : Le (X.set b (ro B)) X → True := fun _ => trivial
  by_cases hc : sLen + n ≤ sCap
  · subst h1
    have hla : arr.size = sCap * it.size := by rw [k6, hfu]
    have hfc : (0 + sLen * it.size) + 0 + new.length ≤ arr.size := by
      rw [hla, hnl, Nat.zero_add, Nat.add_zero, ← Nat.add_mul]; exact Nat.mul_le_mul_right _ hc
    have hrun := run_storeCells_at P b (0 + sLen * it.size) t new 0 arr w (by rw [k1, e2]) hfc (fun v hv => single_one (hs.1 v hv))
    have hw := run_append_room (ty := ty) ht hi hsrc hc hrun
    refine ⟨_, _, _, hw, hK b sCap (.inl rfl) hc, ?_, below_setRow (Below.refl _ _) k7 _⟩
    have hlt : (B.cells.take (sLen * it.size)).length = sLen * it.size := by simp; omega
    obtain ⟨m1, -⟩ := hX.setRow (B' := ⟨B.cells.take (sLen * it.size) ++ new, sCap * it.size, elem, true⟩) (arr' := (arr.toList.take (0 + sLen * it.size + 0) ++ new ++ arr.toList.drop (0 + sLen * it.size + 0 + new.length)).toArray) hb hwr k1 hel.symm hfu.symm
      (fun i v hi => by
        simp only [Nat.zero_add, Nat.add_zero]
        rw [List.getElem?_toArray]
        have hi' : (B.cells.take (sLen * it.size) ++ new)[i]? = some v := hi
        by_cases h1 : i < sLen * it.size
        · rw [List.getElem?_append_left (by omega), List.getElem?_take, if_pos h1] at hi'
          have := k2 i v hi'
          rw [List.append_assoc, List.getElem?_append_left (by simp; omega), List.getElem?_take, if_pos h1]
          simpa using this
        · rw [List.getElem?_append_right (by omega), hlt] at hi'
          have hlt2 := (List.getElem?_eq_some_iff.1 hi').1
          have e3 : (arr.toList.take (sLen * it.size)).length = sLen * it.size := by simp; omega
          rw [List.append_assoc, List.getElem?_append_right (by omega), e3, List.getElem?_append_left (by omega)]
          exact hi') (by simp; omega)
    refine ⟨m1.room, by have := m1.next; rw [Zw] at this; rw [Zv, Zw]; omega, fun c C e => ?_, fun c o e => ?_⟩
    · rw [get_new] at e
      split at e
      · rename_i hcb
        cases e
        subst hcb
        exact m1.blk c _ (VI hbl)
      · rename_i hcb
        rw [VJ hcb] at e
        exact m1.blk c C (by rw [VJ hcb]; exact e)
    · rw [obj_new] at e
      split at e
      · cases e
      · exact m1.obj c o e
  · have ho : cellsAt X b 0 (sLen * size) = some (B.cells.take (sLen * size)) := by
      unfold cellsAt
      rw [hb]
      simp only [Nat.zero_add, List.drop_zero]
      rw [if_pos hl]
    obtain ⟨h3, h4⟩ := cellsAt_sound hX.drew ho
    have hold := run_firstCells_some (P := P) w.drew size sLen ⟨b, 0, none⟩ sLen sCap _ h4 (fun j v hj => by rw [Addr.add_mid]; exact h3 j v hj)
    obtain ⟨cap, w', g1, g2, g3, g4⟩ := grow_step (ty := ty) hX ht hi h1 h2 hz hold h4 hsrc (by omega) hfit
    refine ⟨_, w', _, g2, hK w.heap.size cap (.inr hX.next) g1, ?_, g4⟩
    have hnx := hX.next
    refine ⟨g3.room, by have := g3.next; rw [Zv] at this ⊢; rw [Zw]; exact this, fun c C e => ?_, fun c o e => ?_⟩
    · rw [get_new] at e
      split at e
      · rename_i hcb
        cases e
        subst hcb
        exact g3.blk _ _ VG
      · rename_i hcb
        by_cases hcb2 : c = b
        · subst hcb2
          rw [VI hbl] at e
          cases e
          have := g3.blk c B (by rw [VH hcb]; exact hb)
          obtain ⟨arr, t, f, j1, j2, -⟩ := this
          exact ⟨arr, t, f, j1, j2, fun h => by cases h⟩
        · rw [VJ hcb2] at e
          exact g3.blk c C (by rw [VH hcb]; exact e)
    · rw [obj_new] at e
      split at e
      · cases e
      · rename_i hcb
        exact g3.obj c o (by rw [obj_new_ne hcb]; exact e)
end
end Go.Sym

/- Regions that draw their order: a quiet head; a plan. -/
namespace Go.Sym
open Go.RowKit
variable {P : Program}

/-- a post that lets no panic through -/
def Calm (Q : Exit → Act → World → Prop) : Exit → Act → World → Prop
  | .panic _, _, _ => False
  | e, a, w => Q e a w

theorem Calm.imp {Q : Exit → Act → World → Prop} {x : Exit} {a : Act} {w : World} (h : Calm Q x a w) : Q x a w := by
  cases x <;> first | exact h | exact (h : False).elim

section
variable {ops : Array Oper} {H : World → Prop}

/-- the head in whatever order: H kept behind each operation but e, H0 behind that -/
def heldHead (P : Program) (ops : Array Oper) (Q : Exit → Act → World → Prop) (D : Array Bool → World → Prop) (n : Nat) (L : Array Bool → Act → World → Prop) : Nat → Array Bool → Act → World → Prop
  | 0, listed, a, w => L listed a w
  | f + 1, listed, a, w =>
    Region.ready .any ops listed ≠ [] ∧ ∀ i ∈ Region.ready .any ops listed, i < n ∧ wpOp P ops Q i (fun a' w' => D (listed.setIfInBounds i true) w' ∧ heldHead P ops Q D n L f (listed.setIfInBounds i true) a' w') a w

theorem any_of_held {D : Array Bool → World → Prop} {Q : Exit → Act → World → Prop} {n g : Nat} {L : Array Bool → Act → World → Prop} (hL : ∀ listed a w, L listed a w → wpAny P .any ops Q g listed a w) :
    ∀ (f : Nat) (listed : Array Bool) (a : Act) (w : World), heldHead P ops Q D n L f listed a w → wpAny P .any ops Q (f + g) listed a w
  | 0, listed, a, w, h => by rw [Nat.zero_add]; exact hL _ _ _ h
  | f + 1, listed, a, w, h => by
    rw [show f + 1 + g = (f + g) + 1 by omega]
    exact ⟨fun h0 => absurd h0 h.1, fun i hi => wpOp_mono (fun a' w' h' => any_of_held hL f _ a' w' h'.2) (h.2 i hi).2⟩

theorem held_first {D : Array Bool → World → Prop} {Q : Exit → Act → World → Prop} {n i : Nat} {oi : Oper} {v : Value} {L : Array Bool → Act → World → Prop} (hi : ops[i]? = some oi) (hsel : ∀ (j : Nat) (o : Oper) cs b, ops[j]? = some o → o.op ≠ .select cs b)
    (hs : Region.sinkB .any ops n = true) (hc : Region.chainB .any ops n = true) (hn : n < ops.size) (hin : i < n) (hQ : ∀ c a w, Q (.panic c) (a.put oi.dst v) w → Q (.panic c) a w)
    (hdone : ∀ listed a w, L listed a w → ∀ j ∈ Region.ready .any ops listed, n ≤ j)
    (hset : ∀ (listed : Array Bool) (w : World), D (listed.setIfInBounds i true) w ↔ D listed w) (hDH : ∀ (listed : Array Bool) (w : World), HeadInv .any ops n listed → listed.getD i true = false → D listed w → H w) :
    ∀ (f : Nat) (listed : Array Bool) (a : Act) (w : World), HeadInv .any ops n listed →
      (∀ j oj, ops[j]? = some oj → j ≠ i → listed.getD j true = false → (∀ x ∈ oj.after, Region.binds .any x = true → x.on ≠ i) → oi.apart ops oj = true) →
      i ∈ Region.ready .any ops listed → YieldsIf P ops H oi v a → D listed w →
      heldHead P ops Q D n L f (listed.setIfInBounds i true) (a.put oi.dst v) w → heldHead P ops Q D n L (f + 1) listed a w := by
  intro f
  induction f with
  | zero =>
    intro listed a w inv _ hr hy hH G
    have hun := (mem_ready.1 hr).1
    refine ⟨fun h => (by rw [h] at hr; cases hr), fun j hj => ?_⟩
    have hjn : j < n := Nat.lt_of_not_le fun h => absurd hj (tail_waits hs hc hn inv _ i rfl hin hun j h)
    refine ⟨hjn, ?_⟩
    by_cases hji : j = i
    · subst hji; exact hy.wpOp hi (hDH _ _ inv hun hH) ⟨(hset _ _).2 hH, G⟩
    · exact absurd (hdone _ _ _ G j (ready_mono hj hji)) (by omega)
  | succ f ih =>
    intro listed a w inv hfree hr hy hH G
    have hun := (mem_ready.1 hr).1
    refine ⟨fun h => (by rw [h] at hr; cases hr), fun j hj => ?_⟩
    have hjn : j < n := Nat.lt_of_not_le fun h => absurd hj (tail_waits hs hc hn inv _ i rfl hin hun j h)
    refine ⟨hjn, ?_⟩
    by_cases hji : j = i
    · subst hji; exact hy.wpOp hi (hDH _ _ inv hun hH) ⟨(hset _ _).2 hH, G⟩
    · have h1 := (G.2 j (ready_mono hj hji)).2
      obtain ⟨hjun, oj, hoj, hall⟩ := mem_ready.1 hj
      have hnot : ∀ x ∈ oj.after, Region.binds .any x = true → x.on ≠ i := fun x hx hb heq => by
        have h1 := hall x hx hb
        rw [heq, getD_both hun] at h1
        cases h1
      have h2 := wpOp_putIf hoj (hfree j oj hoj hji hjun hnot) (fun cs b => hsel i oi cs b hi) (fun cs b => hsel j oj cs b hoj) hQ hy h1
      refine wpOp_mono (fun a' w' h3 => ⟨(hset _ _).1 (by rw [Array.setIfInBounds_comm _ _ hji]; exact h3.2.1), ih (listed.setIfInBounds j true) a' w' (inv.set hj hjn) (fun k ok hk hki hun' hno => hfree k ok hk hki ?_ hno) (ready_mono hr (Ne.symm hji)) h3.1 ((hset _ _).1 (by rw [Array.setIfInBounds_comm _ _ hji]; exact h3.2.1)) ?_⟩) h2
      · by_cases hjk : j = k
        · subst hjk; exact hjun
        · rw [getD_set_ne true hjk] at hun'; exact hun'
      · rw [Array.setIfInBounds_comm _ _ hji]
        exact h3.2.2

/-- what is to be shown along a plan -/
def PlanWp (P : Program) (ops : Array Oper) (Q : Exit → Act → World → Prop) (H H0 : World → Prop) (e : Nat) (L : Act → World → Prop) : List (Nat × Bool) → Act → World → Prop
  | [], a, w => L a w
  | (i, false) :: r, a, w => ∃ oi v, ops[i]? = some oi ∧ YieldsIf P ops (if movAt P ops i = true then H0 else H) oi v a ∧ PlanWp P ops Q H H0 e L r (a.put oi.dst v) w
  | (i, true) :: r, a, w => wpOp P ops Q i (fun a' w' => (if i = e then H0 w' else H w') ∧ PlanWp P ops Q H H0 e L r a' w') a w

theorem afterL_listed {n j : Nat} {listed : Array Bool} (inv : HeadInv .any ops n listed) (hj : listed.getD j false = true) : ∀ x ∈ afterL ops j, listed.getD x false = true := by
  intro x hx
  unfold afterL at hx
  split at hx
  · rename_i o ho
    obtain ⟨y, hy, rfl⟩ := List.mem_map.1 hx
    obtain ⟨h1, h2⟩ := List.mem_filter.1 hy
    exact inv.closed j o ho hj y (by simpa using h1) h2
  · cases hx

theorem anc_listed {n : Nat} {listed : Array Bool} (inv : HeadInv .any ops n listed) : ∀ (k : Nat) (S : List Nat), (∀ x ∈ S, listed.getD x false = true) → ∀ x ∈ anc ops k S, listed.getD x false = true
  | 0, S, h => h
  | k + 1, S, h => by
    unfold anc
    split
    · rename_i hc
      refine anc_listed inv k _ fun x hx => ?_
      rcases List.mem_append.1 hx with hx | hx
      · exact h x hx
      · exact afterL_listed inv (h k (by simpa using hc)) x hx
    · exact anc_listed inv k S h

/-- while what stands ahead of e is not done, e is not ready -/
theorem not_ready {n i e : Nat} {listed : Array Bool} (inv : HeadInv .any ops n listed) (hc : (anc ops e (afterL ops e)).contains i = true) (hun : listed.getD i true = false) : e ∉ Region.ready .any ops listed := by
  intro he
  obtain ⟨-, o, ho, hall⟩ := mem_ready.1 he
  have h0 : ∀ x ∈ afterL ops e, listed.getD x false = true := by
    intro x hx
    unfold afterL at hx
    rw [ho] at hx
    obtain ⟨y, hy, rfl⟩ := List.mem_map.1 hx
    obtain ⟨h1, h2⟩ := List.mem_filter.1 hy
    exact hall y (by simpa using h1) h2
  have := anc_listed inv e _ h0 i (by simpa using hc)
  rw [getD_both hun] at this
  cases this

theorem plan_held {H0 : World → Prop} {e : Nat} {Q : Exit → Act → World → Prop} {n : Nat} {L : Act → World → Prop} (hsel : Region.noSelect ops = true) (hs : Region.sinkB .any ops n = true) (hc : Region.chainB .any ops n = true) (hn : n < ops.size)
    (hQ : ∀ (c : List PanicEntry) (a b : Act) (w : World), Q (.panic c) a w → Q (.panic c) b w) (hH0 : ∀ w, H w → H0 w) :
    ∀ (f : Nat) (listed : Array Bool) (l : List (Nat × Bool)) (a : Act) (w : World), planOf P ops n f listed = some l → HeadInv .any ops n listed → (if listed.getD e false = true then H0 w else H w) → (calmOK P ops e l = true ∨ e = ops.size) → PlanWp P ops Q H H0 e L l a w →
      heldHead P ops Q (fun d w => if d.getD e false = true then H0 w else H w) n (fun listed' a' w' => Region.seqB .any ops (ops.size - n) n listed' = true ∧ L a' w') f listed a w
  | 0, listed, l, a, w, hp, inv, hH, hk, h => by
    simp only [planOf] at hp
    split at hp
    · rename_i hB
      cases hp
      exact ⟨hB, h⟩
    · cases hp
  | f + 1, listed, l, a, w, hp, inv, hH, hk, h => by
    simp only [planOf] at hp
    split at hp
    · rename_i i hfind
      have hprop := List.find?_some hfind
      have hmem := List.mem_of_find?_eq_some hfind
      simp only [Bool.and_eq_true, decide_eq_true_eq] at hprop
      obtain ⟨⟨hin, hfree⟩, -⟩ := hprop
      rw [Option.map_eq_some_iff] at hp
      obtain ⟨r, hr, rfl⟩ := hp
      obtain ⟨oi, v, hoi, hy, hrest⟩ := h
      have hk' : calmOK P ops e r = true ∨ e = ops.size := hk.imp (fun h => by unfold calmOK at h; exact (Bool.and_eq_true_iff.1 h).2) id
      have hie : i ≠ e := by
        rcases hk with hk | hk
        · unfold calmOK at hk
          have hk := (Bool.and_eq_true_iff.1 (Bool.and_eq_true_iff.1 hk).1).1
          simpa using hk
        · omega
      have hset : ∀ (d : Array Bool) (w : World), (if (d.setIfInBounds i true).getD e false = true then H0 w else H w) ↔ (if d.getD e false = true then H0 w else H w) := fun d w => by rw [getD_set_ne false hie]
      have G := plan_held hsel hs hc hn hQ hH0 f _ r _ w hr (inv.set hmem hin) ((hset _ _).2 hH) hk' hrest
      by_cases hmv : movAt P ops i = true
      · rw [if_pos hmv] at hy
        refine held_first (H := H0) hoi (Region.noSelect_spec hsel) hs hc hn hin (fun c a w h => hQ c _ _ w h) (fun listed' a' w' hL => seqB_ready hL.1) hset (fun d w _ _ hD => ?_) f listed a w inv (Region.free_spec hoi hfree) hmem hy hH G
        split at hD
        · exact hD
        · exact hH0 w hD
      · rw [if_neg hmv] at hy
        refine held_first (H := H) hoi (Region.noSelect_spec hsel) hs hc hn hin (fun c a w h => hQ c _ _ w h) (fun listed' a' w' hL => seqB_ready hL.1) hset (fun d w inv' hun hD => ?_) f listed a w inv (Region.free_spec hoi hfree) hmem hy hH G
        rw [if_neg (fun hel => ?_)] at hD
        · exact hD
        rcases hk with hk | hk
        · unfold calmOK at hk
          have hk := (Bool.and_eq_true_iff.1 (Bool.and_eq_true_iff.1 hk).1).2
          rw [Bool.or_eq_true] at hk
          have := anc_listed inv' e _ (afterL_listed inv' hel) i (by simpa using hk.resolve_right hmv)
          rw [getD_both hun] at this
          cases this
        · have h0 := inv'.size
          rw [hk] at hel
          simp [Array.getD, h0] at hel
    · split at hp
      · rename_i i hready
        split at hp
        · rename_i hin
          rw [Option.map_eq_some_iff] at hp
          obtain ⟨r, hr, rfl⟩ := hp
          refine ⟨by rw [hready]; simp, fun j hj => ?_⟩
          rw [hready] at hj
          have hji : j = i := by simpa using hj
          subst hji
          have hmem : j ∈ Region.ready .any ops listed := by rw [hready]; simp
          refine ⟨hin, wpOp_mono (fun a' w' h' => ?_) h⟩
          have hD : (if (listed.setIfInBounds j true).getD e false = true then H0 w' else H w') := by
            have h1 := h'.1
            split
            · rename_i hel
              split at h1
              · exact h1
              · exact hH0 w' h1
            · rename_i hel
              by_cases hje : j = e
              · subst hje
                exfalso
                exact hel (by
                  obtain ⟨h2, -⟩ := mem_ready.1 hmem
                  have h3 := getD_both h2
                  have h4 : j < listed.size := by rw [inv.size]; omega
                  simp [Array.getD, h4])
              · rw [if_neg hje] at h1
                exact h1
          exact ⟨hD, plan_held hsel hs hc hn hQ hH0 f _ r a' w' hr (inv.set hmem hin) hD (hk.imp (fun h => by unfold calmOK at h; exact (Bool.and_eq_true_iff.1 h).2) id) h'.2⟩
        · cases hp
      · cases hp

theorem wp_region_plan {H0 : World → Prop} {e : Nat} {id n : Nat} {Q : Exit → Act → World → Prop} {a : Act} {w : World} {l : List (Nat × Bool)} (hm : P.follows .mixedOrders = true) (hp : planned P ops n = some l) (hH : H { w with drawn := w.drawn + 1 }) (hH0 : ∀ w, H w → H0 w) (hk : calmOK P ops e l = true ∨ e = ops.size)
    (h : PlanWp P ops (Calm Q) H H0 e (fun a' w' => wpList P ops (Calm Q) (ops.toList.drop n) a' w') l a { w with drawn := w.drawn + 1 }) : (Code.region id ops true).wp P Q a w := by
  unfold planned at hp
  split at hp
  · rename_i hB
    simp only [Bool.and_eq_true, decide_eq_true_eq] at hB
    obtain ⟨⟨⟨hsel, hn⟩, hs⟩, hc⟩ := hB
    have hdl : (ops.toList.drop n).length = ops.size - n := by simp
    have inv0 : HeadInv .any ops n (Array.replicate ops.size false) :=
      ⟨by simp, fun j oj _ hl => (by rw [getD_replicate_false] at hl; cases hl), fun t _ ht => getD_in (by simpa using ht) (getD_replicate_false _ _)⟩
    have G := plan_held hsel hs hc hn (fun c a b w h => (h : False).elim) hH0 n _ l a _ hp inv0 (by rw [if_neg (by rw [getD_replicate_false]; decide)]; exact hH) hk h
    refine wp_mono (Q := Calm Q) (wp_region_any hm ?_) (fun e a w h => h.imp)
    have := any_of_held (Q := Calm Q) (g := ops.size - n) (fun listed a' w' hL => by
      have := wpAny_of_seq (md := .any) (Q' := Calm Q) (ops.toList.drop n) n listed a' w' (fun j => by simp [List.getElem?_drop]) (by rw [hdl]; exact hL.1) hL.2
      rwa [hdl] at this) _ _ _ _ G
    rw [show n + (ops.size - n) = ops.size by omega] at this
    exact this
  · cases hp
end

theorem planFor_spec {ops : Array Oper} : ∀ {ns : List Nat} {n : Nat} {l : List (Nat × Bool)}, planFor P ops ns = some (n, l) → planned P ops n = some l
  | [], _, _, h => by cases h
  | m :: r, n, l, h => by
    simp only [planFor] at h
    split at h
    · rename_i l' hl
      cases h
      exact hl
    · exact planFor_spec h

theorem planOf_in {ops : Array Oper} {n : Nat} : ∀ {f : Nat} {listed : Array Bool} {l : List (Nat × Bool)}, planOf P ops n f listed = some l → ∀ p ∈ l, ∃ o, ops[p.1]? = some o
  | 0, listed, l, h, p, hp => by
    simp only [planOf] at h
    split at h
    · cases h; cases hp
    · cases h
  | f + 1, listed, l, h, p, hp => by
    have rd : ∀ i, i ∈ Region.ready .any ops listed → ∃ o, ops[i]? = some o := fun i hi => by
      obtain ⟨_, o, ho, _⟩ := mem_ready.1 hi
      exact ⟨o, ho⟩
    simp only [planOf] at h
    split at h
    · rename_i i hfind
      rw [Option.map_eq_some_iff] at h
      obtain ⟨r, hr, rfl⟩ := h
      rcases List.mem_cons.1 hp with rfl | hp
      · exact rd i (List.mem_of_find?_eq_some hfind)
      · exact planOf_in hr p hp
    · split at h
      · rename_i i hready
        split at h
        · rw [Option.map_eq_some_iff] at h
          obtain ⟨r, hr, rfl⟩ := h
          rcases List.mem_cons.1 hp with rfl | hp
          · exact rd i (by rw [hready]; simp)
          · exact planOf_in hr p hp
        · cases h
      · cases h

/-! ### a quiet head, then the rest in its order -/
section
variable {ops : Array Oper} {md : Region.Mode} {C : World → Prop}

def anyHead (P : Program) (md : Region.Mode) (ops : Array Oper) (C : World → Prop) (n : Nat) (L : Array Bool → Act → Prop) : Nat → Array Bool → Act → Prop
  | 0, listed, a => L listed a
  | f + 1, listed, a =>
    Region.ready md ops listed ≠ [] ∧ ∀ i ∈ Region.ready md ops listed, i < n ∧ qOp P ops C i (anyHead P md ops C n L f (listed.setIfInBounds i true)) a

theorem any_of_head {n g : Nat} {L : Array Bool → Act → Prop} {Q' : Exit → Act → World → Prop} (hL : ∀ listed a w, C w → L listed a → wpAny P md ops Q' g listed a w) :
    ∀ (f : Nat) (listed : Array Bool) (a : Act) (w : World), C w → anyHead P md ops C n L f listed a → wpAny P md ops Q' (f + g) listed a w
  | 0, listed, a, w, hw, h => by rw [Nat.zero_add]; exact hL _ _ _ hw h
  | f + 1, listed, a, w, hw, h => by
    rw [show f + 1 + g = (f + g) + 1 by omega]
    exact ⟨fun h0 => absurd h0 h.1, fun i hi => wpOp_of_qOp hw (fun a' w' hw' h' => any_of_head hL f _ a' w' hw' h') (h.2 i hi).2⟩

theorem head_first {n i : Nat} {oi : Oper} {v : Value} {L : Array Bool → Act → Prop} (hi : ops[i]? = some oi) (hsel : ∀ (j : Nat) (o : Oper) cs b, ops[j]? = some o → o.op ≠ .select cs b)
    (hs : Region.sinkB md ops n = true) (hc : Region.chainB md ops n = true) (hn : n < ops.size) (hin : i < n)
    (hdone : ∀ listed a, L listed a → ∀ j ∈ Region.ready md ops listed, n ≤ j) :
    ∀ (f : Nat) (listed : Array Bool) (a : Act), HeadInv md ops n listed →
      (∀ j oj, ops[j]? = some oj → j ≠ i → listed.getD j true = false → (∀ e ∈ oj.after, Region.binds md e = true → e.on ≠ i) → oi.apart ops oj = true) →
      i ∈ Region.ready md ops listed → YieldsIn P ops C oi v a →
      anyHead P md ops C n L f (listed.setIfInBounds i true) (a.put oi.dst v) → anyHead P md ops C n L (f + 1) listed a := by
  intro f
  induction f with
  | zero =>
    intro listed a inv _ hr hy H
    have hun := (mem_ready.1 hr).1
    refine ⟨fun h => (by rw [h] at hr; cases hr), fun j hj => ?_⟩
    have hjn : j < n := Nat.lt_of_not_le fun h => absurd hj (tail_waits hs hc hn inv _ i rfl hin hun j h)
    refine ⟨hjn, ?_⟩
    by_cases hji : j = i
    · subst hji; exact hy.qOp hi H
    · exact absurd (hdone _ _ H j (ready_mono hj hji)) (by omega)
  | succ f ih =>
    intro listed a inv hfree hr hy H
    have hun := (mem_ready.1 hr).1
    refine ⟨fun h => (by rw [h] at hr; cases hr), fun j hj => ?_⟩
    have hjn : j < n := Nat.lt_of_not_le fun h => absurd hj (tail_waits hs hc hn inv _ i rfl hin hun j h)
    refine ⟨hjn, ?_⟩
    by_cases hji : j = i
    · subst hji; exact hy.qOp hi H
    · have h1 := (H.2 j (ready_mono hj hji)).2
      obtain ⟨hjun, oj, hoj, hall⟩ := mem_ready.1 hj
      have hnot : ∀ e ∈ oj.after, Region.binds md e = true → e.on ≠ i := fun e he hb heq => by
        have h1 := hall e he hb
        rw [heq, getD_both hun] at h1
        cases h1
      have h2 := qOp_put hoj (hfree j oj hoj hji hjun hnot) (fun cs b => hsel i oi cs b hi) (fun cs b => hsel j oj cs b hoj) hy h1
      have hfree' : ∀ k ok, ops[k]? = some ok → k ≠ i → (listed.setIfInBounds j true).getD k true = false →
          (∀ e ∈ ok.after, Region.binds md e = true → e.on ≠ i) → oi.apart ops ok = true := fun k ok hk hki hun hno => by
        refine hfree k ok hk hki ?_ hno
        by_cases hjk : j = k
        · subst hjk; exact hjun
        · rw [getD_set_ne true hjk] at hun; exact hun
      refine qOp_mono (fun a' h3 => ih (listed.setIfInBounds j true) a' (inv.set hj hjn) hfree' (ready_mono hr (Ne.symm hji)) h3.1 ?_) h2
      rw [Array.setIfInBounds_comm _ _ hji]
      exact h3.2

theorem head_lex {n g : Nat} {Lq : Act → Prop} (hsel : Region.noSelect ops = true) (hs : Region.sinkB md ops n = true) (hc : Region.chainB md ops n = true) (hn : n < ops.size) :
    ∀ (l : List Oper) (k : Nat) (listed : Array Bool) (a : Act), (∀ j, j < l.length → l[j]? = ops[k + j]?) → k + l.length = n → HeadInv md ops n listed →
    Region.lexHead md ops g l.length k listed = true → wpQuiet P ops C Lq l a →
    anyHead P md ops C n (fun listed' a' => Region.seqB md ops g n listed' = true ∧ Lq a') l.length listed a
  | [], k, listed, a, _, hk, _, hB, h => by
    have : k = n := by simpa using hk
    subst this
    exact ⟨by simpa [Region.lexHead] using hB, h⟩
  | o :: l, k, listed, a, hl, hk, inv, hB, h => by
    have h0 : ops[k]? = some o := by simpa using (hl 0 (by simp)).symm
    simp only [List.length_cons, Region.lexHead, Bool.and_eq_true] at hB
    obtain ⟨⟨hr, hf⟩, hB'⟩ := hB
    have hkn : k < n := by simp only [List.length_cons] at hk; omega
    have hr' : k ∈ Region.ready md ops listed := by simpa using hr
    have hst : qOp P ops C k (wpQuiet P ops C Lq l) a := by unfold qOp; simp only [h0]; exact h
    obtain ⟨v, hy, hK⟩ := yieldsIn_of_qOp h0 hst
    exact head_first h0 (Region.noSelect_spec hsel) hs hc hn hkn (fun listed' a' hL => seqB_ready hL.1) l.length listed a inv (Region.free_spec h0 hf) hr' hy
      (head_lex hsel hs hc hn l (k + 1) _ _ (fun j hj => by have := hl (j + 1) (by simp; omega); simpa [Nat.add_assoc, Nat.add_comm 1 j] using this) (by simp only [List.length_cons] at hk; omega) (inv.set hr' hkn) hB' hK)

theorem wp_region_head {id : Nat} {Q : Exit → Act → World → Prop} {a : Act} {w : World} (n : Nat) (hm : P.follows .mixedOrders = true) (hB : Region.lexTailB .any ops n = true) (hC : C { w with drawn := w.drawn + 1 })
    (h : wpQuiet P ops C (fun a' => ∀ w', C w' → wpList P ops Q (ops.toList.drop n) a' w') (ops.toList.take n) a) : (Code.region id ops true).wp P Q a w := by
  simp only [Region.lexTailB, Bool.and_eq_true, decide_eq_true_eq] at hB
  obtain ⟨⟨⟨⟨hsel, hn⟩, hs⟩, hc⟩, hlex⟩ := hB
  have htl : (ops.toList.take n).length = n := by simp; omega
  have hdl : (ops.toList.drop n).length = ops.size - n := by simp
  have inv0 : HeadInv .any ops n (Array.replicate ops.size false) :=
    ⟨by simp, fun j oj _ hl => (by rw [getD_replicate_false] at hl; cases hl), fun t _ ht => getD_in (by simpa using ht) (getD_replicate_false _ _)⟩
  have H := head_lex (md := .any) (g := ops.size - n) hsel hs hc hn (ops.toList.take n) 0 _ a (fun j hj => by
    have hj' : j < n := by rw [htl] at hj; exact hj
    simp [hj']) (by simpa using htl) inv0 (by rw [htl]; exact hlex) h
  refine wp_region_any hm ?_
  have := any_of_head (Q' := Q) (g := ops.size - n) (fun listed a' w' hw' hL => by
    have := wpAny_of_seq (md := .any) (Q' := Q) (ops.toList.drop n) n listed a' w' (fun j => by simp [List.getElem?_drop]) (by rw [hdl]; exact hL.1) (hL.2 w' hw')
    rwa [hdl] at this) _ _ _ _ hC H
  rw [htl, show n + (ops.size - n) = ops.size by omega] at this
  exact this
end
end Go.Sym

/- What the prover takes: a walk by equations; it tells the truth. -/
namespace Go.Sym
open Go.RowKit

/-- A CALL: whatever world is known so, it answers so. -/
def Does (P : Program) (Bar : Nat) (f : FuncId) (args : List Value) (X : St) (Q : Value → St → Prop) : Prop :=
  (∃ fn, P.funcs[f]? = some fn ∧ fn.body.isSome = true) ∧
  ∀ w, Mod Bar X w → Calls P f args.toArray w fun en w' => ∃ v X', en = .returned v ∧ Q v X' ∧ Mod Bar X' w' ∧ Below Bar w w'
theorem Does.mono {P : Program} {Bar : Nat} {f : FuncId} {args : List Value} {X : St} {Q R : Value → St → Prop} (h : Does P Bar f args X Q) (k : ∀ v X', Q v X' → R v X') : Does P Bar f args X R :=
  ⟨h.1, fun w hw => (h.2 w hw).mono fun en w' ⟨v, X', h1, h2, h3⟩ => ⟨v, X', h1, k v X' h2, h3⟩⟩
theorem Does.weaken {P : Program} {Bar : Nat} {f : FuncId} {args : List Value} {X Y : St} {Q : Value → St → Prop} (h : Does P Bar f args X Q) (k : Le X Y) : Does P Bar f args Y Q :=
  ⟨h.1, fun w hw => h.2 w (hw.le k)⟩

/-! ### answers taken apart -/
def asVal (v : Option Value) (k : Value → Prop) : Prop := ∃ u, v = some u ∧ k u
def asPtr (v : Option Value) (k : Nat → Nat → Prop) : Prop := ∃ b o, v = some (.pointer (some ⟨b, o, none⟩)) ∧ k b o
def asPtr' (v : Option Value) (k : Option Addr → Prop) : Prop := ∃ p, v = some (.pointer p) ∧ k p
def asSl (v : Option Value) (k : Option Addr → Nat → Nat → Prop) : Prop := ∃ a n c, v = some (.slice a n c) ∧ k a n c
def asInt (v : Option Value) (k : IntKind → Int → Prop) : Prop := ∃ q n, v = some (.int q n) ∧ k q n
def asBool (v : Option Value) (k : Bool → Prop) : Prop := ∃ b, v = some (.bool b) ∧ k b
def asStr (v : Option Value) (k : ByteArray → Prop) : Prop := ∃ s, v = some (.string s) ∧ k s
def asAgg (v : Option Value) (k : List Value → Prop) : Prop := ∃ l, v = some (.agg ⟨l⟩) ∧ k l
def asTup (v : Option Value) (k : List Value → Prop) : Prop := ∃ l, v = some (.tuple ⟨l⟩) ∧ k l
def asSome {α : Type} (v : Option α) (k : α → Prop) : Prop := ∃ u, v = some u ∧ k u
theorem asVal_some {u : Value} {k : Value → Prop} : asVal (some u) k = k u := by simp [asVal]
theorem asPtr_some {b o : Nat} {k : Nat → Nat → Prop} : asPtr (some (.pointer (some ⟨b, o, none⟩))) k = k b o := propext ⟨fun ⟨_, _, h, hk⟩ => by cases h; exact hk, fun h => ⟨b, o, rfl, h⟩⟩
theorem asPtr'_some {p : Option Addr} {k : Option Addr → Prop} : asPtr' (some (.pointer p)) k = k p := by simp [asPtr']
theorem asSl_some {a : Option Addr} {n c : Nat} {k : Option Addr → Nat → Nat → Prop} : asSl (some (.slice a n c)) k = k a n c := propext ⟨fun ⟨_, _, _, h, hk⟩ => by cases h; exact hk, fun h => ⟨a, n, c, rfl, h⟩⟩
theorem asInt_some {q : IntKind} {n : Int} {k : IntKind → Int → Prop} : asInt (some (.int q n)) k = k q n := propext ⟨fun ⟨_, _, h, hk⟩ => by cases h; exact hk, fun h => ⟨q, n, rfl, h⟩⟩
theorem asBool_some {b : Bool} {k : Bool → Prop} : asBool (some (.bool b)) k = k b := by simp [asBool]
theorem asStr_some {s : ByteArray} {k : ByteArray → Prop} : asStr (some (.string s)) k = k s := by simp [asStr]
theorem asAgg_some {l : List Value} {k : List Value → Prop} : asAgg (some (.agg ⟨l⟩)) k = k l := by simp [asAgg]
theorem asTup_some {l : List Value} {k : List Value → Prop} : asTup (some (.tuple ⟨l⟩)) k = k l := by simp [asTup]
theorem GZ {α : Type} {u : α} {k : α → Prop} : asSome (some u) k = k u := by simp [asSome]

/-! ### one operation that reads -/
def rdK (P : Program) (A : Frm) (X : St) (i : I) (K : Value → Prop) : Prop :=
  match i with
  | .mov x => asVal (ev A x) K
  | .pick c a b => asBool (ev A c) fun t => asVal (if t then ev A a else ev A b) K
  | .ld1 x => asPtr (ev A x) fun b o => asVal (cellAt X b o) K
  | .ldN n x => asPtr (ev A x) fun b o => asSome (cellsAt X b o n) fun l => K (.agg ⟨l⟩)
  | .nck x => asPtr' (ev A x) fun p => p.isSome = true ∧ K (.pointer p)
  | .faddr off x => asPtr (ev A x) fun b o => K (.pointer (some ⟨b, o + off, none⟩))
  | .ixa len size x i => asPtr (ev A x) fun b o => asInt (ev A i) fun _ n => (0 ≤ n ∧ n < len) ∧ K (.pointer (some ⟨b, o + n.toNat * size, none⟩))
  | .ixs size x i => asSl (ev A x) fun a len _ => asInt (ev A i) fun _ n => (0 ≤ n ∧ n < len) ∧ ∃ b o, a = some ⟨b, o, none⟩ ∧ K (.pointer (some ⟨b, o + n.toNat * size, none⟩))
  | .ixv len x i => asAgg (ev A x) fun l => asInt (ev A i) fun _ n => (0 ≤ n ∧ n < len) ∧ asVal (l[n.toNat]?) K
  | .ixw len size x i => asAgg (ev A x) fun l => asInt (ev A i) fun _ n => (0 ≤ n ∧ n < len) ∧ K (.agg ⟨(l.drop (n.toNat * size)).take size⟩)
  | .six x i => asStr (ev A x) fun s => asInt (ev A i) fun _ n => 0 ≤ n ∧ asSome (s.data.toList[n.toNat]?) fun c => K (.int .u8 c.toNat)
  | .fld1 off x => asAgg (ev A x) fun l => asVal (l[off]?) K
  | .fldN off n x => asAgg (ev A x) fun l => K (.agg ⟨(l.drop off).take n⟩)
  | .ext i x => asTup (ev A x) fun l => asVal (l[i]?) K
  | .arith op x y => asInt (ev A x) fun k a => asInt (ev A y) fun k' b => k = k' ∧ asSome (G0 op a b) fun n => K (.int k (k.wrap n))
  | .cmp op x y => asInt (ev A x) fun k a => asInt (ev A y) fun k' b => k = k' ∧ asSome (G1 op a b) fun t => K (.bool t)
  | .bits op x y => asInt (ev A x) fun k a => asInt (ev A y) fun k' b => k = k' ∧ asSome (bitsF op k a b) fun n => K (.int k n)
  | .div op x y => asInt (ev A x) fun k a => asInt (ev A y) fun k' b => k = k' ∧ asSome (divF op k a b) fun n => K (.int k n)
  | .shf op x y => asInt (ev A x) fun k a => asInt (ev A y) fun _ b => asSome (shfF op k a b) fun n => K (.int k n)
  | .un op x => asVal (ev A x) fun u => asVal (G2 op u) K
  | .sop op x y => asStr (ev A x) fun a => asStr (ev A y) fun b => asVal (G3 op a b) K
  | .beq neg x y => asBool (ev A x) fun a => asBool (ev A y) fun b => K (.bool (xor neg (a == b)))
  | .nil neg x => asPtr' (ev A x) fun p => K (.bool (xor neg p.isNone))
  | .peq neg x y => asPtr (ev A x) fun a oa => asPtr (ev A y) fun b ob => ((a = b → oa = ob) ∧ (a ≠ b → wrB X a ∧ wrB X b)) ∧ K (.bool (xor neg (decide (a = b))))
  | .snil neg x => asSl (ev A x) fun a _ _ => K (.bool (xor neg a.isNone))
  | .fnil neg x => asVal (ev A x) fun u => (u = .nilFunc ∧ K (.bool (!neg))) ∨ (∃ f a c, u = .func f a c ∧ K (.bool neg))
  | .eqv neg t x y => asAgg (ev A x) fun a => asAgg (ev A y) fun b => ∃ r, EqTells P t ⟨a⟩ ⟨b⟩ r ∧ K (.bool (xor neg r))
  | .len x => asSl (ev A x) fun _ n _ => K (.int .i64 n)
  | .slen x => asStr (ev A x) fun s => K (.int .i64 s.size)
  | .cap x => asSl (ev A x) fun _ _ c => K (.int .i64 c)
  | .ssub x lo hi => asStr (ev A x) fun s => asSome (evO A lo) fun l => asSome (evO A hi) fun h => asSome (bound h s.size) fun hn => asSome (bound l 0) fun ln => (ln ≤ hn ∧ hn ≤ s.size) ∧ K (.string (s.extract ln hn))
  | .cnv k x => asInt (ev A x) fun _ n => K (.int k (k.wrap n))
  | .bts x => asSl (ev A x) fun a n _ => ∃ l, bytesAt X a n l ∧ asSome (bytesOf l) fun ns => K (.string (bytesStr ns))
  | .mnx isMax x y => asInt (ev A x) fun k a => asInt (ev A y) fun k' b => k = k' ∧ K (.int k (if isMax then max a b else min a b))
  | .bld z places ps => asSome (evP A ps) fun vs => asSome (fillL (fun i => places[i]?) z vs) fun l => K (.agg ⟨l⟩)
  | .bldA z size ps => asSome (evP A ps) fun vs => asSome (fillL (fun i => some (i * size, size)) z vs) fun l => K (.agg ⟨l⟩)
  | .slc size x lo hi mx => asVal (ev A x) fun u => asSome (evO A lo) fun l => asSome (evO A hi) fun h => asSome (evO A mx) fun m => asVal (sliceF size u l h m) K
  | .sla size n x lo hi => asVal (ev A x) fun u => asSome (evO A lo) fun l => asSome (evO A hi) fun h => asVal (sliceA size n u l h) K
  | .mkf fn first captured => asSome (evL A first) fun f => asSome (evL A captured) fun c => K (.func fn ⟨f⟩ ⟨c⟩)
  | .lib o => ∃ v, (∀ a : Act, KF A a → ∀ w, (execOp a.eval o).run P w = .ok (.value v) w) ∧ K v
  | _ => False

theorem rdK_rd {P : Program} {A : Frm} {X : St} {i : I} {K : Value → Prop} (h : rdK P A X i K) : ∃ v, Rd P A X i v ∧ K v := by
  cases i with
  | mov x => obtain ⟨u, h1, h2⟩ := h; exact ⟨u, h1, h2⟩
  | pick c a b => obtain ⟨t, h1, u, h2, h3⟩ := h; exact ⟨u, ⟨t, h1, h2⟩, h3⟩
  | ld1 x => obtain ⟨b, o, h1, u, h2, h3⟩ := h; exact ⟨u, ⟨b, o, h1, h2⟩, h3⟩
  | ldN n x => obtain ⟨b, o, h1, l, h2, h3⟩ := h; exact ⟨_, ⟨b, o, l, h1, h2, rfl⟩, h3⟩
  | nck x =>
    obtain ⟨p, h1, h2, h3⟩ := h
    cases p with
    | none => cases h2
    | some a => exact ⟨_, ⟨a, h1, rfl⟩, h3⟩
  | faddr off x => obtain ⟨b, o, h1, h2⟩ := h; exact ⟨_, ⟨b, o, h1, rfl⟩, h2⟩
  | ixa len size x i => obtain ⟨b, o, h1, k, n, h2, h3, h4⟩ := h; exact ⟨_, ⟨b, o, k, n, h1, h2, by unfold ixAt; rw [if_pos h3]⟩, h4⟩
  | ixs size x i => obtain ⟨a, len, c, h1, k, n, h2, h3, b, o, rfl, h4⟩ := h; exact ⟨_, ⟨b, o, len, c, k, n, h1, h2, by unfold ixAt; rw [if_pos h3]⟩, h4⟩
  | ixv len x i => obtain ⟨l, h1, k, n, h2, h3, u, h4, h5⟩ := h; exact ⟨u, ⟨_, k, n, h1, h2, h3, h4⟩, h5⟩
  | ixw len size x i => obtain ⟨l, h1, k, n, h2, h3, h4⟩ := h; exact ⟨_, ⟨_, k, n, h1, h2, h3, rfl⟩, h4⟩
  | six x i => obtain ⟨s, h1, k, n, h2, h3, c, h4, h5⟩ := h; exact ⟨_, ⟨s, k, n, c, h1, h2, h3, h4, rfl⟩, h5⟩
  | fld1 off x => obtain ⟨l, h1, u, h2, h3⟩ := h; exact ⟨u, ⟨_, h1, h2⟩, h3⟩
  | fldN off n x => obtain ⟨l, h1, h2⟩ := h; exact ⟨_, ⟨_, h1, rfl⟩, h2⟩
  | ext i x => obtain ⟨l, h1, u, h2, h3⟩ := h; exact ⟨u, ⟨_, h1, h2⟩, h3⟩
  | arith op x y => obtain ⟨k, a, h1, k', b, h2, rfl, n, h3, h4⟩ := h; exact ⟨_, ⟨k, a, b, n, h1, h2, h3, rfl⟩, h4⟩
  | cmp op x y => obtain ⟨k, a, h1, k', b, h2, rfl, n, h3, h4⟩ := h; exact ⟨_, ⟨k, a, b, n, h1, h2, h3, rfl⟩, h4⟩
  | bits op x y => obtain ⟨k, a, h1, k', b, h2, rfl, n, h3, h4⟩ := h; exact ⟨_, ⟨k, a, b, n, h1, h2, h3, rfl⟩, h4⟩
  | div op x y => obtain ⟨k, a, h1, k', b, h2, rfl, n, h3, h4⟩ := h; exact ⟨_, ⟨k, a, b, n, h1, h2, h3, rfl⟩, h4⟩
  | shf op x y => obtain ⟨k, a, h1, k', b, h2, n, h3, h4⟩ := h; exact ⟨_, ⟨k, k', a, b, n, h1, h2, h3, rfl⟩, h4⟩
  | un op x => obtain ⟨u, h1, v, h2, h3⟩ := h; exact ⟨v, ⟨u, h1, h2⟩, h3⟩
  | sop op x y => obtain ⟨a, h1, b, h2, v, h3, h4⟩ := h; exact ⟨v, ⟨a, b, h1, h2, h3⟩, h4⟩
  | beq neg x y => obtain ⟨a, h1, b, h2, h3⟩ := h; exact ⟨_, ⟨a, b, h1, h2, rfl⟩, h3⟩
  | nil neg x => obtain ⟨p, h1, h2⟩ := h; exact ⟨_, ⟨p, h1, rfl⟩, h2⟩
  | peq neg x y => obtain ⟨a, oa, h1, b, ob, h2, ⟨h3, h4⟩, h5⟩ := h; exact ⟨_, ⟨a, oa, b, ob, h1, h2, h3, h4, rfl⟩, h5⟩
  | snil neg x => obtain ⟨a, n, c, h1, h2⟩ := h; exact ⟨_, ⟨a, n, c, h1, rfl⟩, h2⟩
  | fnil neg x =>
    obtain ⟨u, h1, h2⟩ := h
    rcases h2 with ⟨h3, h4⟩ | ⟨f, a, c, h3, h4⟩
    · exact ⟨_, ⟨u, h1, .inl ⟨h3, rfl⟩⟩, h4⟩
    · exact ⟨_, ⟨u, h1, .inr ⟨f, a, c, h3, rfl⟩⟩, h4⟩
  | eqv neg t x y => obtain ⟨a, h1, b, h2, r, h3, h4⟩ := h; exact ⟨_, ⟨_, _, r, h1, h2, h3, rfl⟩, h4⟩
  | len x => obtain ⟨a, n, c, h1, h2⟩ := h; exact ⟨_, ⟨a, n, c, h1, rfl⟩, h2⟩
  | slen x => obtain ⟨s, h1, h2⟩ := h; exact ⟨_, ⟨s, h1, rfl⟩, h2⟩
  | cap x => obtain ⟨a, n, c, h1, h2⟩ := h; exact ⟨_, ⟨a, n, c, h1, rfl⟩, h2⟩
  | ssub x lo hi => obtain ⟨s, h1, l, h2, hh, h3, hn, h4, ln, h5, ⟨h6, h7⟩, h8⟩ := h; exact ⟨_, ⟨s, l, hh, hn, ln, h1, h2, h3, h4, h5, h6, h7, rfl⟩, h8⟩
  | cnv k x => obtain ⟨k', n, h1, h2⟩ := h; exact ⟨_, ⟨k', n, h1, rfl⟩, h2⟩
  | bts x => obtain ⟨a, n, c, h1, l, h2, ns, h3, h4⟩ := h; exact ⟨_, ⟨a, n, c, l, ns, h1, h2, h3, rfl⟩, h4⟩
  | mnx isMax x y => obtain ⟨k, a, h1, k', b, h2, rfl, h3⟩ := h; exact ⟨_, ⟨k, a, b, h1, h2, rfl⟩, h3⟩
  | bld z places ps => obtain ⟨vs, h1, l, h2, h3⟩ := h; exact ⟨_, ⟨vs, l, h1, h2, rfl⟩, h3⟩
  | bldA z size ps => obtain ⟨vs, h1, l, h2, h3⟩ := h; exact ⟨_, ⟨vs, l, h1, h2, rfl⟩, h3⟩
  | slc size x lo hi mx => obtain ⟨u, h1, l, h2, hh, h3, m, h4, v, h5, h6⟩ := h; exact ⟨v, ⟨u, l, hh, m, h1, h2, h3, h4, h5⟩, h6⟩
  | sla size n x lo hi => obtain ⟨u, h1, l, h2, hh, h3, v, h5, h6⟩ := h; exact ⟨v, ⟨u, l, hh, h1, h2, h3, h5⟩, h6⟩
  | mkf fn first captured => obtain ⟨f, h1, c, h2, h3⟩ := h; exact ⟨_, ⟨f, c, h1, h2, rfl⟩, h3⟩
  | lib o => obtain ⟨v, h1, h2⟩ := h; exact ⟨v, h1, h2⟩
  | _ => exact (h : False).elim

/-! ### one operation that writes, or makes memory, or calls -/
def callee (A : Frm) (f : Operand) (args : List Operand) (k : FuncId → List Value → Prop) : Prop := asVal (ev A f) fun u => asSome (evL A args) fun l => ∃ g first captured, u = .func (.func g) ⟨first⟩ ⟨captured⟩ ∧ k g (first ++ l ++ captured)

/-- what an operation comes to -/
def Eff (P : Program) (Bar : Nat) (a : Act) (o : Oper) (w : World) (K : Value → St → Prop) : Prop :=
  ∀ (K' : Act → World → Prop) (Q : Exit → Act → World → Prop), (∀ v X' w', K v X' → Mod Bar X' w' → Below Bar w w' → K' (a.put o.dst v) w') → o.wp P a w K' Q
/-- an operation that the prover shows by itself -/
def Oth (P : Program) (Bar : Nat) (A : Frm) (X : St) (o : Oper) (K : Value → St → Prop) : Prop :=
  ∀ a w, KF A a → Mod Bar X w → Eff P Bar a o w K
def efK (P : Program) (Bar : Nat) (A : Frm) (X : St) (i : I) (K : Value → St → Prop) : Prop :=
  match i with
  | .st n a v => asPtr (ev A a) fun b o => asVal (ev A v) fun u => asSome (X.get b) fun B => (u.cells.toList.length = n ∧ (∀ c ∈ u.cells.toList, single c = true) ∧ B.wr = true ∧ o + n ≤ B.cells.length) ∧ K undef (X.set b { B with cells := splice B.cells o u.cells.toList })
  | .alloc z size elem => ∀ n, X.next ≤ n → K (.pointer (some ⟨n, 0, none⟩)) (X.new n ⟨z, size, elem, true⟩)
  | .box elem x => asVal (ev A x) fun u => ∀ n, X.next ≤ n → K (.pointer (some ⟨n, 0, none⟩)) (X.new n ⟨u.cells.toList, u.cells.toList.length, elem, true⟩)
  | .bsl z len size elem ps => asSome (evP A ps) fun vs => asSome (fillL (fun j => some (j * size, size)) ((List.replicate len z).flatten) vs) fun l => ∀ n, X.next ≤ n → K (.slice (some ⟨n, 0, none⟩) len len) (X.new n ⟨l, len * size, elem, true⟩)
  | .mks z size bytes elem l c => asInt (ev A l) fun _ ln => asInt (ev A c) fun _ cn => (0 ≤ ln ∧ ln ≤ cn ∧ cn.toNat * (bytes + 1) < 1099511627775) ∧ ∀ n, X.next ≤ n → K (.slice (some ⟨n, 0, none⟩) ln.toNat cn.toNat) (X.new n ⟨(List.replicate cn.toNat z).flatten, cn.toNat * size, elem, true⟩)
  | .app str size bytes elem s x => asVal (ev A s) fun s => asVal (ev A x) fun x => Apnd P Bar str size bytes elem s x X K
  | .call f args => callee A f args fun g vs => Does P Bar g vs X K
  | .other o => Oth P Bar A X o K
  | .cpy .. | .bad => False
  | i => rdK P A X i fun v => K v X

/-- a quiet operation: what is known stays, the answer is one and the same -/
def quK (P : Program) (Bar : Nat) (A : Frm) (X : St) (i : I) (K : Value → Prop) : Prop :=
  match i with
  | .call f args => callee A f args fun g vs => ∃ v, Does P Bar g vs X (fun v' X' => v' = v ∧ Le X X') ∧ K v
  | i => rdK P A X i K

def guardK (A : Frm) (g : Option (Option Tmp × Bool)) (kt kf : Prop) : Prop :=
  match g with
  | none => kt
  | some (none, _) => False
  | some (some t, want) => (∃ b, A.get t = some (.bool b) ∧ (if b = want then kt else kf)) ∨ (A.get t = some undef ∧ kf)

def wpJ (P : Program) (Bar : Nat) : List J → Frm → St → (Frm → St → Prop) → Prop
  | [], A, X, K => K A X
  | j :: r, A, X, K => guardK A j.guard (if j.quiet then quK P Bar A X j.i fun v => wpJ P Bar r (A.put j.dst v) X K else efK P Bar A X j.i fun v X => wpJ P Bar r (A.put j.dst v) X K) (wpJ P Bar r (A.put j.dst undef) X K)

/-- along a plan: R is what stays known throughout -/
def wpP (P : Program) (Bar : Nat) (R : St) : List (J × Bool) → Frm → St → (Frm → St → Prop) → Prop
  | [], A, X, K => K A X
  | (j, b) :: r, A, X, K => guardK A j.guard (if b then efK P Bar A X j.i fun v X => (j.quiet = true ∨ Le R X) ∧ wpP P Bar R r (A.put j.dst v) X K else rdK P A R j.i fun v => wpP P Bar R r (A.put j.dst v) X K) (wpP P Bar R r (A.put j.dst undef) X K)

inductive Ex where
  | normal
  | exit (id : Nat)
  | ret
def Ex.to : Ex → Exit
  | .normal => .normal
  | .exit id => .exit id
  | .ret => .ret
def thn (K : Frm → St → Prop) (Q : Ex → Frm → St → Prop) : Ex → Frm → St → Prop
  | .normal => K
  | e => Q e
def inB (id : Nat) (Q : Ex → Frm → St → Prop) : Ex → Frm → St → Prop
  | .exit i => if i = id then Q .normal else Q (.exit i)
  | e => Q e

def wpC (P : Program) (Bar : Nat) : C → Frm → St → (Ex → Frm → St → Prop) → Prop
  | .skip, A, X, Q => Q .normal A X
  | .ops l k, A, X, Q => wpJ P Bar l A X fun A X => Q .normal (A.keep k) X
  | .plan h t k, A, X, Q => ∃ R, Le R X ∧ wpP P Bar R h A X fun A X => wpJ P Bar t A X fun A X => Q .normal (A.keep k) X
  | .seq a b, A, X, Q => wpC P Bar a A X (thn (fun A X => wpC P Bar b A X Q) Q)
  | .cond x a b, A, X, Q => asBool (ev A x) fun t => if t then wpC P Bar a A X Q else wpC P Bar b A X Q
  | .block id a, A, X, Q => wpC P Bar a A X (inB id Q)
  | .loop a, A, X, Q => ∃ (R : Nat → Frm → St → Prop) (n : Nat), (∃ X0, Le X0 X ∧ R n A X0) ∧ ∀ m A X, R m A X → wpC P Bar a A X (thn (fun A X => ∃ m', m' < m ∧ ∃ X0, Le X0 X ∧ R m' A X0) Q)
  | .exit id, A, X, Q => Q (.exit id) A X
  | .ret, A, X, Q => Q .ret A X
  | .other _, _, _, _ => False
  | .bad, _, _, _ => False
end Go.Sym

/- The walk tells the truth. -/
namespace Go.Sym
open Go.RowKit
variable {P : Program} {Bar : Nat}

def NumOK (P : Program) : Prop := ∀ (f : FuncId) (fn : Func), P.funcs[f]? = some fn → fn.body.isSome = true → (fn.name == "runtime.NumGoroutine") = false

section
variable {A : Frm} {a : Act} (hF : KF A a) {o : Oper} {v : Value} {X : St} {w : World} (hX : Mod Bar X w)
include hF hX

omit hF hX in
theorem call_len {c : Call} {x : Operand} {t : TypeId} {ts : List TypeId} {b : Builtin} (hc : c.callee = .builtin b) (ha : c.args.toList = [x]) (ht : c.argTypes.toList = t :: ts) :
    c = { callee := .builtin b, args := ⟨[x]⟩, argTypes := ⟨t :: ts⟩ } := by
  obtain ⟨c1, ⟨c2⟩, ⟨c3⟩⟩ := c
  simp only at hc ha ht
  subst hc ha ht
  rfl

theorem rd_bin {op : BinOp} {t yt : TypeId} {x y : Operand} (ho : o.op = .binOp op t x y yt) (h : Rd P A X (compBin P op t x y o) v) : Reads P a o v w := by
  unfold compBin at h
  split at h
  · split at h
    all_goals first
      | exact rd_arith hF ho h
      | exact rd_cmp hF ho h
      | exact rd_bits hF ho h
      | exact rd_div hF ho h
      | exact rd_shf hF ho h
  · exact rd_sop hF ho h
  · rename_i hu
    split at h
    · exact rd_beq (neg := false) hF ho rfl hu h
    · exact rd_beq (neg := true) hF ho rfl hu h
    · exact (h : False).elim
  · rename_i e hu
    split at h
    · exact rd_nil (neg := false) hF ho rfl rfl hu h
    · exact rd_nil (neg := true) hF ho rfl rfl hu h
    · split at h
      · rename_i i hi
        split at h
        · exact (h : False).elim
        · rename_i hs; exact rd_peq (neg := false) hF ho rfl hu hi hs hX h
      · exact (h : False).elim
    · split at h
      · rename_i i hi
        split at h
        · exact (h : False).elim
        · rename_i hs; exact rd_peq (neg := true) hF ho rfl hu hi hs hX h
      · exact (h : False).elim
    · exact (h : False).elim
  · rename_i e hu
    split at h
    · exact rd_snil (neg := false) hF ho rfl rfl hu h
    · exact rd_snil (neg := true) hF ho rfl rfl hu h
    · exact (h : False).elim
  · rename_i p1 p2 p3 hu
    split at h
    · exact rd_fnil (neg := false) hF ho rfl rfl hu h
    · exact rd_fnil (neg := true) hF ho rfl rfl hu h
    · exact (h : False).elim
  · split at h
    · exact rd_eqv (neg := false) hF ho rfl h
    · exact rd_eqv (neg := true) hF ho rfl h
    · exact (h : False).elim
  · split at h
    · exact rd_eqv (neg := false) hF ho rfl h
    · exact rd_eqv (neg := true) hF ho rfl h
    · exact (h : False).elim
  · exact (h : False).elim

omit hX in
theorem rd_builtin {b : Builtin} {args : Array Operand} {ts : Array TypeId} (ho : o.op = .call { callee := .builtin b, args := args, argTypes := ts }) (h : Rd P A X (compBuiltin P b args.toList ts.toList o) v) : Reads P a o v w := by
  unfold compBuiltin at h
  split at h
  · rename_i x t ts' ha ht
    have hc := call_len (c := { callee := .builtin .len, args := args, argTypes := ts }) rfl ha ht
    rw [hc] at ho
    split at h
    · rename_i e hu; exact rd_len hF ho hu h
    · rename_i hu; exact rd_slen hF ho hu h
    · exact (h : False).elim
  · rename_i x t ts' ha ht
    have hc := call_len (c := { callee := .builtin .cap, args := args, argTypes := ts }) rfl ha ht
    rw [hc] at ho
    split at h
    · rename_i e hu; exact rd_cap hF ho hu h
    · exact (h : False).elim
  · exfalso; revert h; repeat' split
    all_goals exact fun h => h
  · exfalso; revert h; repeat' split
    all_goals exact fun h => h
  · rename_i x y ha
    have ha : args = ⟨[x, y]⟩ := by apply Array.ext'; simpa using ha
    subst ha
    exact rd_mnx (isMax := false) hF ho h
  · rename_i x y ha
    have ha : args = ⟨[x, y]⟩ := by apply Array.ext'; simpa using ha
    subst ha
    exact rd_mnx (isMax := true) hF ho h
  · exact (h : False).elim

theorem rd_sound (h : Rd P A X (compOp P o) v) : Reads P a o v w := by
  unfold compOp at h
  split at h
  case h_1 x ho => exact rd_mov hF (.inl ho) h
  case h_2 x ho => exact rd_mov hF (.inr ho) h
  case h_3 c x y ho => exact rd_pick hF ho h
  case h_4 t x ho =>
    split at h
    · rename_i d i hu hi
      split at h
      · rename_i hd; exact rd_ldN hF hX ho hu hi hd h
      · rename_i hd; exact rd_ld1 hF hX ho hu (by simpa using hd) h
    · exact (h : False).elim
  case h_5 x ho => exact rd_nck hF ho h
  case h_6 s x f ho =>
    split at h
    · rename_i fields hu
      split at h
      · rename_i fd hf
        split at h
        · rename_i i hi
          split at h
          · exact (h : False).elim
          · rename_i hn; exact rd_faddr hF ho hu hf hi hn h
        · exact (h : False).elim
      · exact (h : False).elim
    · exact (h : False).elim
  case h_7 t x ix ho =>
    split at h
    · rename_i len elem hu
      split at h
      · rename_i inf hi; exact rd_ixa hF ho hu hi h
      · exact (h : False).elim
    · rename_i elem hu
      split at h
      · rename_i inf hi; exact rd_ixs hF ho hu hi h
      · exact (h : False).elim
    · exact (h : False).elim
  case h_8 t x ix ho =>
    split at h
    · rename_i len elem hu
      split at h
      · rename_i d inf hd hi
        split at h
        · rename_i hg; exact rd_ixw hF ho hu hd hg hi h
        · rename_i hg
          split at h
          · rename_i h1; exact rd_ixv hF ho hu hd (by simpa using hg) hi h1 h
          · exact (h : False).elim
      · exact (h : False).elim
    · rename_i hu; exact rd_six hF ho hu h
    · exact (h : False).elim
  case h_9 t x f ho =>
    split at h
    · rename_i fields hu
      split at h
      · rename_i fd hf
        split at h
        · rename_i d i hd hi
          split at h
          · rename_i hg; exact rd_fldN hF ho hu hf hd hi hg h
          · rename_i hg; exact rd_fld1 hF ho hu hf hd (by simpa using hg) h
        · exact (h : False).elim
      · exact (h : False).elim
    · exact (h : False).elim
  case h_10 x i ho => exact rd_ext hF ho h
  case h_11 op t x y yt ho => exact rd_bin hF hX ho h
  case h_12 op t x ho => exact rd_un hF ho h
  case h_13 fn first captured ho => exact rd_mkf hF ho h
  case h_14 t ps ho =>
    split at h
    · rename_i fields z hu hz
      split at h
      · rename_i l hl; exact rd_bld hF ho hu hz hl h
      · exact (h : False).elim
    · rename_i n elem z hu hz
      split at h
      · rename_i i hi; exact rd_bldA hF ho hu hz hi h
      · exact (h : False).elim
    · exact (h : False).elim
  case h_15 t x lo hi mx ho =>
    split at h
    · rename_i elem hu
      split at h
      · rename_i i hi; exact rd_slc hF ho hu hi h
      · exact (h : False).elim
    · rename_i n elem hu
      split at h
      · rename_i i hi; exact rd_sla hF ho hu hi h
      · exact (h : False).elim
    · rename_i hu
      split at h
      · exact rd_ssub hF ho hu h
      · exact (h : False).elim
    · exact (h : False).elim
  case h_16 elem ho => split at h <;> exact (h : False).elim
  case h_17 elem x ho => exact (h : False).elim
  case h_18 t len ps ho =>
    exfalso; revert h; repeat' split
    all_goals exact fun h => h
  case h_19 t x y ho => split at h <;> exact (h : False).elim
  case h_20 t l c ho =>
    exfalso; revert h; repeat' split
    all_goals exact fun h => h
  case h_21 f args ts ho =>
    split at h
    · split at h
      · exact h a hF w
      · exact (h : False).elim
    · exact (h : False).elim
  case h_22 b args ts ho => exact rd_builtin hF ho h
  case h_23 src dst x ho =>
    split at h
    · rename_i elem hs hd
      split at h
      · rename_i he; exact rd_bts hF hX ho hs he hd h
      · exact (h : False).elim
    · rename_i k0 k hs hd; exact rd_cnv hF ho hs hd h
    · exact (h : False).elim
  case h_24 => exact (h : False).elim
end

/-! ### operations that do -/
theorem run_call {a : Act} {o : Oper} {c : Call} {f : Operand} {fid : FuncId} {first captured : Array Value} {fn : Func} {w : World} (ho : o.op = .call c) (hc : c.callee = .value f) (hf : a.eval f = .func (.func fid) first captured) (hfn : P.funcs[fid]? = some fn) (hb : fn.body.isSome = true) (hn : NumOK P) :
    (execOp a.eval o).run P w = .ok (.enter fid (first.toList ++ c.args.toList.map a.eval ++ captured.toList).toArray) w := by
  have h1 := hn fid fn hfn hb
  have h2 : fn.body.isNone = false := by cases h : fn.body <;> simp_all
  have h3 : (first ++ c.args.map a.eval ++ captured) = (first.toList ++ c.args.toList.map a.eval ++ captured.toList).toArray := by
    apply Array.ext'; simp
  have h1' : ¬ fn.name = "runtime.NumGoroutine" := by simpa using h1
  have h2' : ¬ fn.body = none := by intro h; rw [h] at h2; cases h2
  rw [← h3]
  simp [execOp, ho, resolve, hc, hf, Deferred.ofValue, invoke, callFunc, hfn, h1', h2']

theorem made_rep (z : Array Value) (c : Nat) : (madeCells z (c * z.size)).toList = (List.replicate c z.toList).flatten := by
  unfold madeCells
  induction c with
  | zero => simp
  | succ c ih =>
    rw [List.replicate_succ', List.flatten_append, ← ih]
    apply List.ext_getElem?
    intro i
    simp only [Array.toList_map, Array.toList_range, List.flatten_cons, List.flatten_nil, List.append_nil]
    have hs : (c + 1) * z.size = c * z.size + z.size := Nat.succ_mul _ _
    by_cases h1 : i < c * z.size
    · rw [List.getElem?_append_left (by simpa using h1)]
      simp [h1, show i < (c + 1) * z.size by omega]
    · rw [List.getElem?_append_right (by simpa using h1)]
      by_cases h2 : i < (c + 1) * z.size
      · have h3 : i - c * z.size < z.size := by omega
        have h4 : i % z.size = i - c * z.size := by
          have : i = (i - c * z.size) + z.size * c := by rw [Nat.mul_comm z.size c]; omega
          rw [this, Nat.add_mul_mod_self_left, Nat.mod_eq_of_lt h3, Nat.mul_comm z.size c]; omega
        simp [h2, h4, h3, getElem!_pos]
      · simp [h2]
        omega

theorem fillL_len {place : Nat → Option (Nat × Nat)} : ∀ {vs : List (Nat × Value)} {a r : List Value}, fillL place a vs = some r → r.length = a.length := by
  have hset : ∀ (v cs : List Value) (off : Nat), (setRange cs off v).length = cs.length := by
    intro v
    induction v with
    | nil => intro cs off; rfl
    | cons x r ih => intro cs off; rw [setRange, ih]; simp
  intro vs
  induction vs with
  | nil => intro a r h; simp [fillL] at h; rw [h]
  | cons x vs ih =>
    obtain ⟨i, v⟩ := x
    intro a r h
    simp only [fillL] at h
    split at h
    · cases h
    · split at h
      · rw [ih h, hset]
      · cases h

theorem eff_run {a : Act} {o : Oper} {v : Value} {X' : St} {w w' : World} {K : Value → St → Prop} (hr : (execOp a.eval o).run P w = .ok (.value v) w') (hK : K v X') (hX : Mod Bar X' w') (hb : Below Bar w w') : Eff P Bar a o w K := by
  intro K' Q h
  unfold Oper.wp
  rw [hr]
  exact h v X' w' hK hX hb
theorem eff_skip {a : Act} {o : Oper} {X' : St} {w w' : World} {K : Value → St → Prop} (hr : (execOp a.eval o).run P w = .ok .skip w') (hK : K undef X') (hX : Mod Bar X' w') (hb : Below Bar w w') : Eff P Bar a o w K := by
  intro K' Q h
  unfold Oper.wp
  rw [hr]
  exact h undef X' w' hK hX hb

section
variable {A : Frm} {a : Act} (hF : KF A a) {o : Oper} {X : St} {w : World} (hX : Mod Bar X w) {K : Value → St → Prop}
include hF hX

theorem ef_st {t : TypeId} {x y : Operand} {it : TypeInfo} (ho : o.op = .store t x y) (hi : P.info? t = some it) (h : efK P Bar A X (.st it.size x y) K) : Eff P Bar a o w K := by
  obtain ⟨b, off, h1, u, h2, B, h3, ⟨h4, h5, h6, h7⟩, h8⟩ := h
  obtain ⟨w', g1, g2, g3⟩ := store_cells (P := P) hX h3 h6 h5 (by rw [h4]; exact h7)
  refine eff_skip ?_ h8 g2 g3
  have hs : u.cells.size = it.size := by rw [← Array.length_toList]; exact h4
  simp [execOp, ho, hF.ev h1, hF.ev h2, Instr.storeAt, Instr.sureAddr, storeVar, sizeOf, typeInfo, hi, hs, g1]

omit hF in
theorem ef_alloc {elem : TypeId} {z : List Value} (ho : o.op = .alloc elem) (hz : zeroOf P elem = some z) (h : efK P Bar A X (.alloc z z.length elem) K) : Eff P Bar a o w K := by
  obtain ⟨it, zv, hi, hz2, hz3, hz4⟩ := zeroOf_spec hz
  have := hX.alloc (B := ⟨z, z.length, elem, true⟩) (arr := zv.cells) (fun i v hv => by have hv : z[i]? = some v := hv; rw [hz3] at hv; simpa using hv) (by show zv.cells.size = z.length; rw [hz3]; simp)
  refine eff_run (v := .pointer (some ⟨w.heap.size, 0, none⟩)) ?_ (h w.heap.size hX.next) this ((Below.refl _ _).alloc hX.room _)
  simp [execOp, ho, Instr.alloc, zeroValue, typeInfo, hi, hz2, newVar, newRow]

theorem ef_box {elem : TypeId} {x : Operand} (ho : o.op = .box elem x) (h : efK P Bar A X (.box elem x) K) : Eff P Bar a o w K := by
  obtain ⟨u, h1, h2⟩ := h
  have := hX.alloc (B := ⟨u.cells.toList, u.cells.toList.length, elem, true⟩) (arr := u.cells) (fun i v hv => by simpa using hv) (by simp)
  refine eff_run (v := .pointer (some ⟨w.heap.size, 0, none⟩)) ?_ (h2 w.heap.size hX.next) this ((Below.refl _ _).alloc hX.room _)
  simp [execOp, ho, hF.ev h1, Instr.box, newVar, newRow]

theorem ef_bsl {t elem : TypeId} {len : Nat} {ps : Array (Nat × Operand)} {it : TypeInfo} {z : List Value} (ho : o.op = .buildSlice t len ps) (hu : P.underlying t = some (.slice elem)) (hi : P.info? elem = some it) (hz : zeroOf P elem = some z) (hle : len * it.size ≤ 16777216 ∧ len ≤ 16777216)
    (h : efK P Bar A X (.bsl z len it.size elem ps.toList) K) : Eff P Bar a o w K := by
  obtain ⟨vs, h1, l, h2, h3⟩ := h
  obtain ⟨it', zv, hi', hz2, hz3, hz5⟩ := zeroOf_spec hz
  rw [hi] at hi'; cases hi'
  have hzs : zv.cells.size = it.size := by rw [← Array.length_toList, ← hz3]; exact hz5
  have hlen : l.length = len * it.size := by
    rw [fillL_len h2]; simp [hz5]
  have := hX.alloc (B := ⟨l, len * it.size, elem, true⟩) (arr := l.toArray) (fun i v hv => by simpa using hv) (by simpa using hlen)
  refine eff_run (v := .slice (some ⟨w.heap.size, 0, none⟩) len len) ?_ (h3 w.heap.size hX.next) this ((Below.refl _ _).alloc hX.room _)
  have hb : ¬ (len * it.size > 2 ^ 24) := by have : (2 : Nat) ^ 24 = 16777216 := by decide
                                             omega
  have hfill : Instr.fill (fun i => some (i * it.size, it.size)) ((Array.range (len * it.size)).map ((if len * it.size = 0 then #[] else zv.cells)[· % (if len * it.size = 0 then #[] else zv.cells : Array Value).size]!)) (ps.map fun (i, x) => (i, a.eval x)).toList = some l.toArray := by
    refine fill_eq _ _ _ l ?_
    have : ((Array.range (len * it.size)).map ((if len * it.size = 0 then #[] else zv.cells)[· % (if len * it.size = 0 then #[] else zv.cells : Array Value).size]!)).toList = (List.replicate len z).flatten := by
      by_cases h0 : len * it.size = 0
      · have : (List.replicate len z).flatten = [] := by
          apply List.eq_nil_of_length_eq_zero
          simp [hz5, h0]
        rw [this]; simp [h0]
      · rw [hz3, ← made_rep zv.cells len, hzs]
        simp [h0, madeCells]
    rw [this, Array.toList_map, hF.evP h1]
    exact h2
  rw [Array.toList_map] at hfill
  by_cases h0 : len * it.size = 0
  · have he : ∀ f : Nat → Value, Array.map f (Array.range 0) = #[] := fun f => by simp [Array.range_zero']
    simp only [h0, if_true, he] at hfill
    simp [execOp, ho, Instr.buildSlice, run_underlying hu, sizeOf, typeInfo, hi, h0, hfill, newRow, he]
  · simp only [h0, if_false] at hfill
    simp [execOp, ho, Instr.buildSlice, run_underlying hu, sizeOf, typeInfo, hi, hb, h0, zeroValue, hz2, hfill, newRow]

theorem ef_mks {t elem : TypeId} {l c : Operand} {it : TypeInfo} {z : List Value} (ho : o.op = .makeSlice t l c) (hu : P.underlying t = some (.slice elem)) (hi : P.info? elem = some it) (hz : zeroOf P elem = some z)
    (h : efK P Bar A X (.mks z it.size it.bytes elem l c) K) : Eff P Bar a o w K := by
  obtain ⟨k1, ln, h1, k2, cn, h2, ⟨h3, h4, h5⟩, h6⟩ := h
  obtain ⟨it', zv, hi', hz2, hz3, hz5⟩ := zeroOf_spec hz
  rw [hi] at hi'; cases hi'
  have hzs : zv.cells.size = it.size := by rw [← Array.length_toList, ← hz3]; exact hz5
  obtain ⟨n, rfl⟩ := Int.eq_ofNat_of_zero_le h3
  obtain ⟨m, rfl⟩ := Int.eq_ofNat_of_zero_le (show 0 ≤ cn by omega)
  simp only [Int.toNat_natCast] at h5 h6
  have hf : m < 1099511627775 ∧ m * it.bytes < 1099511627775 := by
    have : m * (it.bytes + 1) = m * it.bytes + m := Nat.mul_succ _ _
    omega
  have hb : ((it.bytes : Int) * (m : Int)) ≤ 281474976710656 := by
    have h : ((it.bytes * m : Nat) : Int) ≤ 281474976710656 := by rw [Nat.mul_comm]; omega
    rwa [Int.natCast_mul] at h
  have hrun := run_make (P := P) w t elem it zv hu hi hz2 k1 k2 (n : Int) (m : Int) (by omega) (by omega) hb (by omega)
  have hml : (madeCells zv.cells (m * it.size)).toList = (List.replicate m z).flatten := by rw [← hzs, made_rep, hz3]
  have := hX.alloc (B := ⟨(List.replicate m z).flatten, m * it.size, elem, true⟩) (arr := madeCells zv.cells (m * it.size)) (fun i v hv => by have hv : (List.replicate m z).flatten[i]? = some v := hv; rw [← hml] at hv; simpa using hv) (size_madeCells _ _)
  refine eff_run (v := .slice (some ⟨w.heap.size, 0, none⟩) n m) ?_ (h6 w.heap.size hX.next) this ((Below.refl _ _).alloc hX.room _)
  simp only [Int.toNat_natCast] at hrun
  have hrun' : (Instr.makeSlice t (.int k1 (n : Int)) (.int k2 (m : Int))).run P w = .ok (.slice (some ⟨w.heap.size, 0, none⟩) n m) (w.alloc (.cells (madeCells zv.cells (m * it.size)) elem)) := hrun
  simp [execOp, ho, hF.ev h1, hF.ev h2, hrun']

theorem ef_app {str : Bool} {s x : Operand} {st xt elem : TypeId} {it : TypeInfo} {args : Array Operand} {ts : Array TypeId} (ho : o.op = .call { callee := .builtin .append, args := args, argTypes := ts }) (ha : args.toList = [s, x]) (hts : ts.toList = [st, xt])
    (hu : P.underlying st = some (.slice elem)) (hi : P.info? elem = some it) (hz : ∃ z, zeroOf P elem = some z) (h0 : it.size ≠ 0) (hk : AppKind P str it.size xt) (h : efK P Bar A X (.app str it.size it.bytes elem s x) K) : Eff P Bar a o w K := by
  obtain ⟨sv, h1, xv, h2, h3⟩ := h
  obtain ⟨v, w', X', g1, g2, g3, g4⟩ := h3 st xt o.type it hu hi rfl rfl hz h0 hk w hX
  have ha : args = ⟨[s, x]⟩ := by apply Array.ext'; simpa using ha
  have hts : ts = ⟨[st, xt]⟩ := by apply Array.ext'; simpa using hts
  subst ha hts
  refine eff_run ?_ g2 g3 g4
  simp [execOp, ho, resolve, invoke, builtin, hF.ev h1, hF.ev h2, g1]

theorem ef_call (hn : NumOK P) {c : Call} {f : Operand} (ho : o.op = .call c) (hc : c.callee = .value f) (h : efK P Bar A X (.call f c.args.toList) K) : Eff P Bar a o w K := by
  obtain ⟨u, h1, l, h2, g, first, captured, rfl, ⟨fn, h3, h4⟩, h5⟩ := h
  intro K' Q hK
  unfold Oper.wp
  rw [run_call (w := w) ho hc (hF.ev h1) h3 h4 hn, hF.evL h2]
  refine (h5 w hX).mono fun en w' hpost => ?_
  obtain ⟨v, X', rfl, g1, g2, g3⟩ := hpost
  exact hK v X' w' g1 g2 g3

theorem ef_read (h : ∃ v, Rd P A X (compOp P o) v ∧ K v X) : Eff P Bar a o w K := by
  obtain ⟨v, h1, h2⟩ := h
  exact eff_run (rd_sound hF hX h1) h2 hX (Below.refl _ _)

omit hF hX in
theorem efK_read {i : I} (hr : reads i = true) (h : efK P Bar A X i K) : ∃ v, Rd P A X i v ∧ K v X := by
  cases i <;> first
    | exact rdK_rd h
    | (simp [reads] at hr; done)

theorem ef_sound (hn : NumOK P) (h : efK P Bar A X (compOp P o) K) : Eff P Bar a o w K := by
  by_cases hoth : compOp P o = .other o
  · rw [hoth] at h; exact h a w hF hX
  by_cases hr : reads (compOp P o) = true
  · exact ef_read hF hX (efK_read hr h)
  · revert h hr hoth
    unfold compOp
    split
    case h_16 elem ho =>
      split
      · rename_i z hz; exact fun h _ _ => ef_alloc hX ho hz h
      · first | exact fun h _ _ => (h : False).elim | exact fun _ hh _ => absurd rfl hh
    case h_17 elem x ho => exact fun h _ _ => ef_box hF hX ho h
    case h_18 t len ps ho =>
      split
      · rename_i elem hu
        split
        · rename_i i z hi hz
          split
          · rename_i hle; exact fun h _ _ => ef_bsl hF hX ho hu hi hz hle h
          · first | exact fun h _ _ => (h : False).elim | exact fun _ hh _ => absurd rfl hh
        · first | exact fun h _ _ => (h : False).elim | exact fun _ hh _ => absurd rfl hh
      · first | exact fun h _ _ => (h : False).elim | exact fun _ hh _ => absurd rfl hh
    case h_19 t x y ho =>
      split
      · rename_i i hi; exact fun h _ _ => ef_st hF hX ho hi h
      · first | exact fun h _ _ => (h : False).elim | exact fun _ hh _ => absurd rfl hh
    case h_20 t l c ho =>
      split
      · rename_i elem hu
        split
        · rename_i i z hi hz; exact fun h _ _ => ef_mks hF hX ho hu hi hz h
        · first | exact fun h _ _ => (h : False).elim | exact fun _ hh _ => absurd rfl hh
      · first | exact fun h _ _ => (h : False).elim | exact fun _ hh _ => absurd rfl hh
    case h_21 f args ts ho =>
      split
      · split
        · exact fun _ _ hr => absurd rfl hr
        · exact fun h _ _ => ef_call hF hX hn (c := { callee := .value _, args := args, argTypes := ts }) ho rfl h
      · exact fun h _ _ => ef_call hF hX hn (c := { callee := .value _, args := args, argTypes := ts }) ho rfl h
    case h_22 b args ts ho =>
      unfold compBuiltin
      split
      case h_3 s x st xt ha hts =>
        split
        · rename_i elem e2 hu hu2
          split
          · rename_i i z hi hz
            split
            · first | exact fun h _ _ => (h : False).elim | exact fun _ hh _ => absurd rfl hh
            · rename_i h0; exact fun h _ _ => ef_app hF hX ho ha hts hu hi ⟨_, hz⟩ h0 (.inl ⟨rfl, _, hu2⟩) h
          · first | exact fun h _ _ => (h : False).elim | exact fun _ hh _ => absurd rfl hh
        · rename_i elem hu hu2
          split
          · rename_i i z hi hz
            split
            · rename_i h1; exact fun h _ _ => ef_app hF hX ho ha hts hu hi ⟨_, hz⟩ (by omega) (.inr ⟨rfl, hu2, h1⟩) h
            · first | exact fun h _ _ => (h : False).elim | exact fun _ hh _ => absurd rfl hh
          · first | exact fun h _ _ => (h : False).elim | exact fun _ hh _ => absurd rfl hh
        · first | exact fun h _ _ => (h : False).elim | exact fun _ hh _ => absurd rfl hh
      all_goals repeat' split
      all_goals first
        | exact fun _ _ hr => absurd rfl hr
        | first | exact fun h _ _ => (h : False).elim | exact fun _ hh _ => absurd rfl hh
    case h_11 => 
      unfold compBin
      repeat' split
      all_goals first
        | exact fun _ _ hr => absurd rfl hr
        | first | exact fun h _ _ => (h : False).elim | exact fun _ hh _ => absurd rfl hh
    all_goals repeat' split
    all_goals first
      | exact fun _ _ hr => absurd rfl hr
      | first | exact fun h _ _ => (h : False).elim | exact fun _ hh _ => absurd rfl hh
end

/-! ### regions -/
theorem compL_eq (P : Program) (ops : Array Oper) : ∀ (n : Nat) (l : List Oper), compL P ops n l = (l.take n).map (compJ P ops true) ++ (l.drop n).map (compJ P ops false)
  | 0, [] => rfl
  | n + 1, [] => rfl
  | 0, o :: r => by have := compL_eq P ops 0 r; simp at this ⊢; rw [compL, this]
  | n + 1, o :: r => by have := compL_eq P ops n r; simp at this ⊢; rw [compL, this]

theorem put_defs (a : Act) (d : Option Tmp) (v : Value) : (a.put d v).defers = a.defers := by cases d <;> rfl

theorem guardK_sound {A : Frm} {a : Act} (hF : KF A a) {ops : Array Oper} {o : Oper} {kt kf : Prop} (h : guardK A (o.guard.map fun (j, want) => ((ops[j]?).bind (·.dst), want)) kt kf) :
    (Region.wanted o (yielded ops a.tmps) = true ∧ kt) ∨ (Region.wanted o (yielded ops a.tmps) = false ∧ kf) := by
  unfold Region.wanted
  cases hg : o.guard with
  | none => rw [hg] at h; exact .inl ⟨rfl, h⟩
  | some jw =>
    obtain ⟨j, want⟩ := jw
    rw [hg] at h
    simp only [Option.map_some] at h
    cases ht : (ops[j]?).bind (·.dst) with
    | none => rw [ht] at h; exact (h : False).elim
    | some t =>
      rw [ht] at h
      rcases h with ⟨b, h1, h2⟩ | ⟨h1, h2⟩
      · have h3 := hF.tmp t _ h1
        have : yielded ops a.tmps j = some b := by unfold yielded; rw [ht]; simp [h3]
        simp only [this]
        by_cases hb : b = want
        · rw [if_pos hb] at h2; exact .inl ⟨by simp [hb], h2⟩
        · rw [if_neg hb] at h2; exact .inr ⟨by simpa using hb, h2⟩
      · have h3 := hF.tmp t _ h1
        have : yielded ops a.tmps j = none := by unfold yielded; rw [ht]; simp [h3, undef]
        simp only [this]
        exact .inr ⟨rfl, h2⟩

/-- where a piece of code ends -/
def End (P : Program) (Bar : Nat) (K : Frm → St → Prop) (a : Act) (w : World) (a' : Act) (w' : World) : Prop := ∃ A X, K A X ∧ KF A a' ∧ Mod Bar X w' ∧ Below Bar w w' ∧ a'.defers = a.defers

section
variable (hn : NumOK P)
include hn

theorem list_sound {ops : Array Oper} {nt : Nat} : ∀ (l : List Oper) (A : Frm) (X : St) (a : Act) (w : World) (K : Frm → St → Prop) (Q : Exit → Act → World → Prop), A.nt = nt → ((l.map (compJ P ops false)).all (dstOk nt)) = true → KF A a → Mod Bar X w →
    wpJ P Bar (l.map (compJ P ops false)) A X K → (∀ a' w', End P Bar (fun A X => A.nt = nt ∧ K A X) a w a' w' → Q .normal a' w') → wpList P ops Q l a w
  | [], A, X, a, w, K, Q, hA, hd, hF, hX, h, hQ => hQ a w ⟨A, X, ⟨hA, h⟩, hF, hX, Below.refl _ _, rfl⟩
  | o :: l, A, X, a, w, K, Q, hA, hd, hF, hX, h, hQ => by
    rw [List.map_cons, List.all_cons, Bool.and_eq_true] at hd
    obtain ⟨hd1, hd2⟩ := hd
    have hd1' : (match o.dst with | none => true | some d => Nat.blt d A.nt) = true := by rw [hA]; exact hd1
    have step : ∀ (v : Value) (X' : St) (w' : World), wpJ P Bar (l.map (compJ P ops false)) (A.put o.dst v) X' K → Mod Bar X' w' → Below Bar w w' → wpList P ops Q l (a.put o.dst v) w' := by
      intro v X' w' h1 h2 h3
      refine list_sound l (A.put o.dst v) X' _ w' K Q (by cases o.dst <;> exact hA) hd2 (hF.put v hd1') h2 h1 fun a' w'' ⟨A2, X2, g1, g2, g3, g4, g5⟩ => hQ a' w'' ⟨A2, X2, g1, g2, g3, h3.trans g4, g5.trans (put_defs _ _ _)⟩
    rw [List.map_cons] at h
    unfold wpJ at h
    rcases guardK_sound hF h with ⟨h1, h2⟩ | ⟨h1, h2⟩
    · unfold wpList
      rw [h1]
      refine .inl ?_
      have h3 : efK P Bar A X (compOp P o) fun v X => wpJ P Bar (l.map (compJ P ops false)) (A.put o.dst v) X K := by simpa [compJ] using h2
      exact ef_sound hF hX hn h3 _ _ step
    · unfold wpList
      rw [h1]
      exact step undef X w h2 hX (Below.refl _ _)

/-- the class of worlds: what is known stays -/
def Cl (Bar : Nat) (X : St) (w0 w : World) : Prop := Mod Bar X w ∧ Below Bar w0 w

theorem quiet_sound {o : Oper} {A : Frm} {a : Act} {X : St} {w0 : World} {K : Value → Prop} (hF : KF A a) (h : quK P Bar A X (compOp P o) K) :
    ∃ v, K v ∧ ∀ w, Cl Bar X w0 w → o.quietAt P a (Cl Bar X w0) w v := by
  by_cases hr : reads (compOp P o) = true
  · have : ∃ v, Rd P A X (compOp P o) v ∧ K v := by
      revert h hr
      generalize compOp P o = i
      intro h hr
      cases i <;> first
        | exact rdK_rd h
        | (simp [reads] at hr; done)
    obtain ⟨v, h1, h2⟩ := this
    refine ⟨v, h2, fun w hw => ?_⟩
    unfold Oper.quietAt
    have := rd_sound hF hw.1 h1
    rw [this]
    exact ⟨rfl, rfl⟩
  · have key : ∃ c f, o.op = .call c ∧ c.callee = .value f ∧ compOp P o = .call f c.args.toList := by
      revert h hr
      unfold compOp
      split
      case h_21 f args ts ho =>
        split
        · split
          · exact fun _ hr => absurd rfl hr
          · exact fun _ _ => ⟨_, _, ho, rfl, rfl⟩
        · exact fun _ _ => ⟨_, _, ho, rfl, rfl⟩
      case h_22 =>
        unfold compBuiltin
        repeat' split
        all_goals first
          | exact fun _ hr => absurd rfl hr
          | exact fun h _ => (h : False).elim
      case h_11 =>
        unfold compBin
        repeat' split
        all_goals first
          | exact fun _ hr => absurd rfl hr
          | exact fun h _ => (h : False).elim
      all_goals repeat' split
      all_goals first
        | exact fun _ hr => absurd rfl hr
        | exact fun h _ => (h : False).elim
    obtain ⟨c, f, ho, hc, hcomp⟩ := key
    rw [hcomp] at h
    obtain ⟨u, h1, l, h2, g, first, captured, rfl, v, ⟨⟨fn, h3, h4⟩, h5⟩, h6⟩ := h
    refine ⟨v, h6, fun w hw => ?_⟩
    unfold Oper.quietAt
    rw [run_call (w := w) ho hc (hF.ev h1) h3 h4 hn, hF.evL h2]
    refine ⟨rfl, (h5 w hw.1).mono fun en w' hpost => ?_⟩
    obtain ⟨v', X', rfl, ⟨rfl, g1⟩, g2, g3⟩ := hpost
    exact ⟨rfl, g2.le g1, hw.2.trans g3⟩

theorem quiet_list {ops : Array Oper} {nt : Nat} {w0 : World} {X : St} : ∀ (l : List Oper) (A : Frm) (a : Act) (K : Frm → St → Prop) (Q : Act → Prop) (rest : List J), A.nt = nt → ((l.map (compJ P ops true)).all (dstOk nt)) = true → KF A a →
    wpJ P Bar (l.map (compJ P ops true) ++ rest) A X K → (∀ A1 a', A1.nt = nt → KF A1 a' → a'.defers = a.defers → wpJ P Bar rest A1 X K → Q a') → wpQuiet P ops (Cl Bar X w0) Q l a
  | [], A, a, K, Q, rest, hA, hd, hF, h, hQ => hQ A a hA hF rfl h
  | o :: l, A, a, K, Q, rest, hA, hd, hF, h, hQ => by
    rw [List.map_cons, List.all_cons, Bool.and_eq_true] at hd
    obtain ⟨hd1, hd2⟩ := hd
    have hd1' : (match o.dst with | none => true | some d => Nat.blt d A.nt) = true := by rw [hA]; exact hd1
    have step : ∀ (v : Value), wpJ P Bar (l.map (compJ P ops true) ++ rest) (A.put o.dst v) X K → wpQuiet P ops (Cl Bar X w0) Q l (a.put o.dst v) := by
      intro v h1
      refine quiet_list l (A.put o.dst v) _ K Q rest (by cases o.dst <;> exact hA) hd2 (hF.put v hd1') h1 fun A1 a' g1 g2 g3 g4 => hQ A1 a' g1 g2 (g3.trans (put_defs _ _ _)) g4
    rw [List.map_cons, List.cons_append] at h
    unfold wpJ at h
    rcases guardK_sound hF h with ⟨h1, h2⟩ | ⟨h1, h2⟩
    · unfold wpQuiet
      rw [h1]
      have h2 : quK P Bar A X (compOp P o) fun v => wpJ P Bar (l.map (compJ P ops true) ++ rest) (A.put o.dst v) X K := by simpa [compJ] using h2
      obtain ⟨v, h3, h4⟩ := quiet_sound (w0 := w0) hn hF h2
      exact ⟨v, h4, step v h3⟩
    · unfold wpQuiet
      rw [h1]
      exact step undef h2

theorem plan_list {ops : Array Oper} {e : Nat} {nt : Nat} {Q : Exit → Act → World → Prop} {w0 : World} {R : St} {L : Act → World → Prop} {K : Frm → St → Prop} {a0 : Act}
    (hL : ∀ A X a' w', A.nt = nt → K A X → KF A a' → Mod Bar X w' → Below Bar w0 w' → a'.defers = a0.defers → L a' w') :
    ∀ (l : List (Nat × Bool)) (A : Frm) (X : St) (a : Act) (w : World), (∀ p ∈ l, ∃ o, ops[p.1]? = some o) → (calmOK P ops e l = true ∨ e = ops.size) → A.nt = nt → ((compH P ops e l).all fun p => dstOk nt p.1) = true → KF A a → Mod Bar X w → (l = [] ∨ Mod Bar R w) → Below Bar w0 w → a.defers = a0.defers →
      wpP P Bar R (compH P ops e l) A X K → PlanWp P ops Q (Mod Bar R) (Mod Bar (base Bar)) e L l a w
  | [], A, X, a, w, _, _, hA, _, hF, hX, _, hb, hdf, h => hL A X a w hA h hF hX hb hdf
  | (i, b) :: r, A, X, a, w, hin, hk, hA, hd, hF, hX, hR, hb, hdf, h => by
    obtain ⟨o, ho⟩ := hin (i, b) (by simp)
    have hin' : ∀ p ∈ r, ∃ o, ops[p.1]? = some o := fun p hp => hin p (by simp [hp])
    have hk' : calmOK P ops e r = true ∨ e = ops.size := hk.imp (fun h => by cases b <;> (unfold calmOK at h; exact (Bool.and_eq_true_iff.1 h).2)) id
    simp only at ho
    have hil : i < ops.size := (Array.getElem?_eq_some_iff.1 ho).1
    have hlast : b = true → i = e → r = [] := by
      rintro rfl rfl
      rcases hk with hk | hk
      · unfold calmOK at hk
        have hk := (Bool.and_eq_true_iff.1 hk).1
        simpa using hk
      · omega
    rw [compH, ho] at h hd
    simp only [List.all_cons, Bool.and_eq_true] at hd
    obtain ⟨hd1, hd2⟩ := hd
    have hd1' : (match o.dst with | none => true | some d => Nat.blt d A.nt) = true := by rw [hA]; exact hd1
    have hR2 : Mod Bar R w := hR.resolve_left (by simp)
    have step : ∀ (v : Value) (X' : St) (w' : World), wpP P Bar R (compH P ops e r) (A.put o.dst v) X' K → Mod Bar X' w' → (r = [] ∨ Mod Bar R w') → Below Bar w w' → PlanWp P ops Q (Mod Bar R) (Mod Bar (base Bar)) e L r (a.put o.dst v) w' := by
      intro v X' w' h1 h2 h3 h4
      exact plan_list hL r (A.put o.dst v) X' _ w' hin' hk' (by cases o.dst <;> exact hA) hd2 (hF.put v hd1') h2 h3 (hb.trans h4) ((put_defs _ _ _).trans hdf) h1
    simp only at h
    unfold wpP at h
    rcases guardK_sound hF h with ⟨h1, h2⟩ | ⟨h1, h2⟩
    · cases b with
      | false =>
        simp only [Bool.false_eq_true, if_false] at h2
        obtain ⟨v, h3, h4⟩ := rdK_rd h2
        refine ⟨o, v, ho, .inl ⟨h1, fun w2 hw2 => ?_⟩, step v X w h4 hX (.inr hR2) (Below.refl _ _)⟩
        split at hw2
        · rename_i hmv
          refine rd_sound hF hw2 ?_
          unfold movAt at hmv
          rw [ho] at hmv
          simp only at hmv
          split at hmv
          · rename_i x hx
            have h3 : Rd P A R (compOp P o) v := h3
            rw [hx] at h3 ⊢
            exact h3
          · cases hmv
        · exact rd_sound hF hw2 h3
      | true =>
        simp only [if_true] at h2
        show wpOp P ops Q i _ a w
        unfold wpOp
        rw [ho]
        simp only [h1, if_true]
        refine .inl ?_
        refine ef_sound hF hX hn h2 _ _ fun v X' w' g1 g2 g3 => ?_
        by_cases hie : i = e
        · rw [if_pos hie]
          exact ⟨base_le g2, step v X' w' g1.2 g2 (.inl (hlast rfl hie)) g3⟩
        · rw [if_neg hie]
          have hle : Le R X' := g1.1.resolve_left (by
            show ¬ ((true && i == e) = true)
            simpa using hie)
          exact ⟨g2.le hle, step v X' w' g1.2 g2 (.inr (g2.le hle)) g3⟩
    · cases b with
      | false => exact ⟨o, undef, ho, .inr ⟨h1, rfl⟩, step undef X w h2 hX (.inr hR2) (Below.refl _ _)⟩
      | true =>
        show wpOp P ops Q i _ a w
        unfold wpOp
        rw [ho]
        simp only [h1, Bool.false_eq_true, if_false]
        by_cases hie : i = e
        · rw [if_pos hie]
          exact ⟨base_le hX, step undef X w h2 hX (.inr hR2) (Below.refl _ _)⟩
        · rw [if_neg hie]
          exact ⟨hR2, step undef X w h2 hX (.inr hR2) (Below.refl _ _)⟩

variable (hm : P.follows .mixedOrders = true)
include hm

theorem region_sound {id : Nat} {ops : Array Oper} {draw : Bool} {n nt : Nat} {A : Frm} {X : St} {a : Act} {w : World} {K : Frm → St → Prop} {Q : Exit → Act → World → Prop} (hA : A.nt = nt) (hd : (compL P ops n ops.toList).all (dstOk nt) = true) (hF : KF A a) (hX : Mod Bar X w)
    (hr : drawRo P ops draw = some n) (h : wpJ P Bar (compL P ops n ops.toList) A X K) (hQ : ∀ a' w', End P Bar (fun A X => A.nt = nt ∧ K A X) a w a' w' → Q .normal a' w') : (Code.region id ops draw).wp P Q a w := by
  rw [compL_eq] at h hd
  rw [List.all_append, Bool.and_eq_true] at hd
  unfold drawRo at hr
  cases draw with
  | false =>
    simp only [Bool.false_eq_true, if_false, Option.some.injEq] at hr
    subst hr
    refine wp_region_list ?_
    exact list_sound hn ops.toList A X a w K Q hA (by simpa using hd.2) hF hX (by simpa using h) hQ
  | true =>
    simp only [if_true] at hr
    have hC0 : Cl Bar X w { w with drawn := w.drawn + 1 } := ⟨hX.heap_eq rfl, (Below.refl _ _).drew⟩
    split at hr
    · rename_i hB
      cases hr
      rw [Bool.and_eq_true] at hB
      refine wp_region_quiet (C := Cl Bar X w) hm hB.1 hC0 ?_
      have ht : ops.toList.take ops.size = ops.toList := by rw [← Array.length_toList]; exact List.take_length
      have hd0 : ops.toList.drop ops.size = [] := by rw [← Array.length_toList]; exact List.drop_length
      rw [ht, hd0] at h
      rw [ht] at hd
      refine quiet_list hn ops.toList A a K _ _ hA hd.1 hF h fun A1 a' h1 h2 h3 h4 w' hw' => hQ a' w' ⟨A1, X, ⟨h1, h4⟩, h2, hw'.1, hw'.2, h3⟩
    · have hB : Region.lexTailB .any ops n = true := by have := List.find?_some hr; rw [Bool.and_eq_true] at this; exact this.1
      refine wp_region_head (C := Cl Bar X w) n hm hB hC0 ?_
      refine quiet_list hn (ops.toList.take n) A a K _ _ hA hd.1 hF h fun A1 a' h1 h2 h3 h4 w' hw' => ?_
      refine list_sound hn (ops.toList.drop n) A1 X a' w' K Q h1 hd.2 h2 hw'.1 h4 fun a'' w'' ⟨A2, X2, g1, g2, g3, g4, g5⟩ => hQ a'' w'' ⟨A2, X2, g1, g2, g3, hw'.2.trans g4, g5.trans h3⟩

theorem plan_region {id : Nat} {ops : Array Oper} {n nt : Nat} {ns : List Nat} {l : List (Nat × Bool)} {A : Frm} {X R : St} {a : Act} {w : World} {K : Frm → St → Prop} {Q : Exit → Act → World → Prop} (hA : A.nt = nt) (hd1 : ((compH P ops (calmLast P ops l) l).all fun p => dstOk nt p.1) = true)
    (hd2 : (compL P ops 0 (ops.toList.drop n)).all (dstOk nt) = true) (hF : KF A a) (hX : Mod Bar X w) (hp : planFor P ops ns = some (n, l)) (hR : Le R X) (h : wpP P Bar R (compH P ops (calmLast P ops l) l) A X fun A X => wpJ P Bar (compL P ops 0 (ops.toList.drop n)) A X K)
    (hQ : ∀ a' w', End P Bar (fun A X => A.nt = nt ∧ K A X) a w a' w' → Q .normal a' w') : (Code.region id ops true).wp P Q a w := by
  have hpl := planFor_spec hp
  have hX0 : Mod Bar X { w with drawn := w.drawn + 1 } := hX.heap_eq rfl
  have hin : ∀ p ∈ l, ∃ o, ops[p.1]? = some o := by
    unfold planned at hpl
    split at hpl
    · exact planOf_in hpl
    · cases hpl
  have hb0 : Below Bar w { w with drawn := w.drawn + 1 } := (Below.refl _ _).drew
  have hk : calmOK P ops (calmLast P ops l) l = true ∨ calmLast P ops l = ops.size := by
    unfold calmLast
    split
    · split
      · rename_i hc; exact .inl hc
      · exact .inr rfl
    · exact .inr rfl
  refine wp_region_plan (H := Mod Bar R) (H0 := Mod Bar (base Bar)) (e := calmLast P ops l) hm hpl (hX0.le hR) (fun w h => base_le h) hk ?_
  refine plan_list hn (a0 := a) (w0 := w) (nt := nt) (K := fun A X => wpJ P Bar (compL P ops 0 (ops.toList.drop n)) A X K) (fun A1 X1 a' w' g1 g2 g3 g4 g5 g6 => ?_) l A X a _ hin hk hA hd1 hF hX0 (Or.inr (hX0.le hR)) hb0 rfl h
  rw [compL_eq] at g2 hd2
  refine list_sound hn (ops.toList.drop n) A1 X1 a' w' K (Calm Q) g1 (by simpa using hd2) g3 g4 (by simpa using g2) fun a'' w'' ⟨A2, X2, k1, k2, k3, k4, k5⟩ => hQ a'' w'' ⟨A2, X2, k1, k2, k3, g5.trans k4, k5.trans g6⟩
end

/-! ### code -/
theorem thn_of {x : Ex} {K : Act → World → Prop} {Q : Exit → Act → World → Prop} {a : Act} {w : World} (hne : x ≠ .normal) (h : Q x.to a w) : Exit.then K Q x.to a w := by
  cases x with
  | normal => exact (hne rfl).elim
  | exit id => exact h
  | ret => exact h

/-- where code ends, and how -/
def Ends (Bar : Nat) (nt : Nat) (Q : Ex → Frm → St → Prop) (a : Act) (w : World) (x : Ex) (a' : Act) (w' : World) : Prop := ∃ A X, (A.nt = nt ∧ Q x A X) ∧ KF A a' ∧ Mod Bar X w' ∧ Below Bar w w' ∧ a'.defers = a.defers

theorem keep_nt (A : Frm) (k : Option (List Nat)) : (A.keep k).nt = A.nt := by cases k <;> rfl
section
variable (hn : NumOK P) (hm : P.follows .mixedOrders = true)
include hn hm

theorem wpC_sound {nt : Nat} : ∀ (c : Code) (k : C) (A : Frm) (X : St) (a : Act) (w : World) (Q : Ex → Frm → St → Prop) (Q' : Exit → Act → World → Prop), strip k = compC P c → okC nt k = true → A.nt = nt → KF A a → Mod Bar X w →
    wpC P Bar k A X Q → (∀ x a' w', Ends Bar nt Q a w x a' w' → Q' x.to a' w') → c.wp P Q' a w := by
  intro c
  induction c with
  | skip =>
    intro k A X a w Q Q' hs hk hA hF hX h hQ
    cases k <;> simp [strip, compC] at hs
    exact wp_skip (hQ .normal a w ⟨A, X, ⟨hA, h⟩, hF, hX, Below.refl _ _, rfl⟩)
  | label l =>
    intro k A X a w Q Q' hs hk hA hF hX h hQ
    cases k <;> simp [strip, compC] at hs
    exact wp_label (hQ .normal a w ⟨A, X, ⟨hA, h⟩, hF, hX, Below.refl _ _, rfl⟩)
  | exit id =>
    intro k A X a w Q Q' hs hk hA hF hX h hQ
    cases k <;> simp [strip, compC] at hs
    subst hs
    exact wp_exit (hQ (.exit _) a w ⟨A, X, ⟨hA, h⟩, hF, hX, Below.refl _ _, rfl⟩)
  | ret =>
    intro k A X a w Q Q' hs hk hA hF hX h hQ
    cases k <;> simp [strip, compC] at hs
    exact wp_ret (hQ .ret a w ⟨A, X, ⟨hA, h⟩, hF, hX, Below.refl _ _, rfl⟩)
  | region id ops draw =>
    intro k A X a w Q Q' hs hk hA hF hX h hQ
    simp only [compC, compR] at hs
    split at hs
    · rename_i n hd
      have hd : drawRo P ops draw = some n := by
        unfold drawRo' at hd
        split at hd
        · rename_i m' hm'
          split at hd
          · cases hd
          · cases hd; exact hm'
        · cases hd
      cases k <;> simp [strip] at hs
      subst hs
      exact region_sound hn hm hA hk hF hX hd h fun a' w' ⟨A1, X1, ⟨g0, g1⟩, g2, g3, g4, g5⟩ => hQ .normal a' w' ⟨_, X1, ⟨(keep_nt _ _).trans g0, g1⟩, g2.keep _, g3, g4, g5⟩
    · split at hs
      · rename_i hdr
        have hdr : draw = true := hdr
        subst hdr
        split at hs
        · rename_i n l hp
          cases k <;> simp [strip] at hs
          obtain ⟨rfl, rfl⟩ := hs
          obtain ⟨R, h1, h2⟩ := h
          simp only [okC, Bool.and_eq_true] at hk
          exact plan_region hn hm hA hk.1 hk.2 hF hX hp h1 h2 fun a' w' ⟨A1, X1, ⟨g0, g1⟩, g2, g3, g4, g5⟩ => hQ .normal a' w' ⟨_, X1, ⟨(keep_nt _ _).trans g0, g1⟩, g2.keep _, g3, g4, g5⟩
        · cases k <;> simp [strip] at hs
          exact (h : False).elim
      · cases k <;> simp [strip] at hs
        exact (h : False).elim
  | seq c1 c2 ih1 ih2 =>
    intro k A X a w Q Q' hs hk hA hF hX h hQ
    cases k <;> simp [strip, compC] at hs
    obtain ⟨hs1, hs2⟩ := hs
    simp only [okC, Bool.and_eq_true] at hk
    refine wp_seq (ih1 _ A X a w _ _ hs1 hk.1 hA hF hX h fun x a1 w1 ⟨A1, X1, ⟨g0, g1⟩, g2, g3, g4, g5⟩ => ?_)
    cases x with
    | normal => exact ih2 _ A1 X1 a1 w1 Q Q' hs2 hk.2 g0 g2 g3 g1 fun x a' w' ⟨A2, X2, k1, k2, k3, k4, k5⟩ => hQ x a' w' ⟨A2, X2, k1, k2, k3, g4.trans k4, k5.trans g5⟩
    | exit id => exact hQ (.exit id) a1 w1 ⟨A1, X1, ⟨g0, g1⟩, g2, g3, g4, g5⟩
    | ret => exact hQ .ret a1 w1 ⟨A1, X1, ⟨g0, g1⟩, g2, g3, g4, g5⟩
  | cond y c1 c2 ih1 ih2 =>
    intro k A X a w Q Q' hs hk hA hF hX h hQ
    cases k <;> simp [strip, compC] at hs
    obtain ⟨rfl, hs1, hs2⟩ := hs
    simp only [okC, Bool.and_eq_true] at hk
    obtain ⟨t, h1, h2⟩ := h
    refine wp_cond (hF.ev h1) ?_
    cases t with
    | true => exact ih1 _ A X a w Q Q' hs1 hk.1 hA hF hX (by simpa using h2) hQ
    | false => exact ih2 _ A X a w Q Q' hs2 hk.2 hA hF hX (by simpa using h2) hQ
  | block id c1 ih1 =>
    intro k A X a w Q Q' hs hk hA hF hX h hQ
    cases k <;> simp [strip, compC] at hs
    obtain ⟨rfl, hs1⟩ := hs
    refine wp_block (ih1 _ A X a w _ _ hs1 hk hA hF hX h fun x a1 w1 ⟨A1, X1, ⟨g0, g1⟩, g2, g3, g4, g5⟩ => ?_)
    cases x with
    | normal => exact hQ .normal a1 w1 ⟨A1, X1, ⟨g0, g1⟩, g2, g3, g4, g5⟩
    | ret => exact hQ .ret a1 w1 ⟨A1, X1, ⟨g0, g1⟩, g2, g3, g4, g5⟩
    | exit i =>
      simp only [Ex.to, Exit.inBlock]
      simp only [inB] at g1
      split
      · rename_i hi
        rw [if_pos hi] at g1
        exact hQ .normal a1 w1 ⟨A1, X1, ⟨g0, g1⟩, g2, g3, g4, g5⟩
      · rename_i hi
        rw [if_neg hi] at g1
        exact hQ (.exit i) a1 w1 ⟨A1, X1, ⟨g0, g1⟩, g2, g3, g4, g5⟩
  | loop c1 ih1 =>
    intro k A X a w Q Q' hs hk hA hF hX h hQ
    cases k <;> simp [strip, compC] at hs
    obtain ⟨R, n, ⟨X0, hX0, h1⟩, h2⟩ := h
    have key : ∀ (n m : Nat), m < n → ∀ A X a1 w1, A.nt = nt → R m A X → KF A a1 → Mod Bar X w1 → Below Bar w w1 → a1.defers = a.defers → Code.rounds P c1 Q' n a1 w1 := by
      intro n
      induction n with
      | zero => intro m hm; omega
      | succ n ihn =>
        intro m hmn A X a1 w1 hA hR hF hX hb hdf
        rw [rounds_succ]
        refine ih1 _ A X a1 w1 _ _ hs hk hA hF hX (h2 m A X hR) fun x a2 w2 ⟨A2, X2, ⟨g0, g1⟩, g2, g3, g4, g5⟩ => ?_
        cases x with
        | normal =>
          obtain ⟨m', h3, X3, hX3, h4⟩ := g1
          exact ihn m' (by omega) A2 X3 a2 w2 g0 h4 g2 (g3.le hX3) (hb.trans g4) (g5.trans hdf)
        | exit id => exact hQ (.exit id) a2 w2 ⟨A2, X2, ⟨g0, g1⟩, g2, g3, hb.trans g4, g5.trans hdf⟩
        | ret => exact hQ .ret a2 w2 ⟨A2, X2, ⟨g0, g1⟩, g2, g3, hb.trans g4, g5.trans hdf⟩
    exact wp_loop_rounds (n + 1) (key (n + 1) n (Nat.lt_succ_self n) A X0 a w hA h1 hF (hX.le hX0) (Below.refl _ _) rfl)
  | rangeFunc f ps as b => intro k A X a w Q Q' hs hk hA hF hX h hQ; cases k <;> simp [strip, compC] at hs; exact (h : False).elim
  | scope b => intro k A X a w Q Q' hs hk hA hF hX h hQ; cases k <;> simp [strip, compC] at hs; exact (h : False).elim
  | goto l => intro k A X a w Q Q' hs hk hA hF hX h hQ; cases k <;> simp [strip, compC] at hs; exact (h : False).elim
  | refuse s => intro k A X a w Q Q' hs hk hA hF hX h hQ; cases k <;> simp [strip, compC] at hs; exact (h : False).elim
end

/-! ### a call's results -/
def resS (a : Act) : ResultVar → Sem Value
  | .tmp t => pure (a.tmps.getD t undef)
  | .cell x t => do loadVar t (← asAddr (a.tmps.getD x undef))

def resV (P : Program) (A : Frm) (X : St) (r : ResultVar) : Option Value :=
  match r with
  | .tmp t => A.get t
  | .cell a t =>
    match A.get a, P.underlying t, P.info? t with
    | some (.pointer (some ⟨b, o, none⟩)), some d, some i => if isAggD d then (cellsAt X b o i.size).map fun l => .agg ⟨l⟩ else cellAt X b o
    | _, _, _ => none
def resVs (P : Program) (A : Frm) (X : St) : List ResultVar → Option (List Value)
  | [] => some []
  | r :: rest => match resV P A X r with | none => none | some v => match resVs P A X rest with | none => none | some l => some (v :: l)
def oneOf : List Value → Value
  | [v] => v
  | vs => .tuple ⟨vs⟩

theorem resV_sound {A : Frm} {a : Act} {X : St} {w : World} (hF : KF A a) (hX : Mod Bar X w) {r : ResultVar} {v : Value} (h : resV P A X r = some v) : (resS a r).run P w = .ok v w := by
  cases r with
  | tmp t =>
    have := hF.tmp t v h
    simp [resS, Array.getD_eq_getD_getElem?, this]
  | cell x t =>
    simp only [resV] at h
    split at h
    · rename_i b off d i hx hu hi
      have h0 := hF.tmp x _ hx
      have hg : a.tmps.getD x undef = .pointer (some ⟨b, off, none⟩) := by rw [Array.getD_eq_getD_getElem?, h0]; rfl
      split at h
      · rename_i hd
        cases hc : cellsAt X b off i.size with
        | none => rw [hc] at h; cases h
        | some l =>
          rw [hc] at h
          cases h
          obtain ⟨h1, h2⟩ := cellsAt_sound hX hc
          have := run_loadVar_mid w b off t l d h1 hu (by cases d <;> simp_all [isAggD]) (by rw [hi]; simp [h2])
          simp [resS, hg, asAddr, this]
      · rename_i hd
        simp [resS, hg, asAddr, loadVar, isAgg_false hu (by simpa using hd), run_load, cellAt_sound hX h]
    · cases h

theorem resVs_sound {A : Frm} {a : Act} {X : St} {w : World} (hF : KF A a) (hX : Mod Bar X w) : ∀ {l : List ResultVar} {vs : List Value}, resVs P A X l = some vs → (l.mapM (resS a)).run P w = .ok vs w
  | [], vs, h => by cases h; simp
  | r :: rest, vs, h => by
    simp only [resVs] at h
    split at h
    · cases h
    · rename_i v hv
      split at h
      · cases h
      · rename_i l hl
        cases h
        rw [List.mapM_cons]
        simp only [Sem.run_bind, resV_sound hF hX hv, Result.andThen_ok, resVs_sound hF hX hl, Sem.run_pure]

theorem results_sound {A : Frm} {a : Act} {X : St} {w : World} {fn : Func} (hF : KF A a) (hX : Mod Bar X w) {vs : List Value} (h : resVs P A X fn.results.toList = some vs) : (results fn a.tmps).run P w = .ok (oneOf vs) w := by
  have h1 := resVs_sound (P := P) hF hX h
  have hrun : (results fn a.tmps).run P w = .ok (if h : vs.toArray.size = 1 then vs.toArray[0] else .tuple vs.toArray) w := by
    have hres : results fn a.tmps = (do let vs ← fn.results.mapM (resS a); pure (if h : vs.size = 1 then vs[0] else .tuple vs)) := by
      unfold results
      congr 1
    rw [hres, Array.mapM_eq_mapM_toList]
    simp only [Sem.run_bind, Sem.run_map, h1, Result.andThen_ok, Sem.run_pure]
  rw [hrun]
  cases vs with
  | nil => rfl
  | cons v rest =>
    cases rest with
    | nil => rfl
    | cons v2 rest => rfl

/-- the frame that a call begins with -/
def Zk : Nat → List Value → List (Nat × Value)
  | _, [] => []
  | i, v :: r => (i, v) :: Zk (i + 1) r
theorem look_args0 : ∀ (l : List Value) (i t : Nat) (v : Value), look (Zk i l) t = some v → i ≤ t ∧ l[t - i]? = some v
  | [], _, _, _, h => by cases h
  | u :: r, i, t, v, h => by
    unfold Zk look at h
    split at h
    · rename_i e; subst e; cases h; simp
    · rename_i hne
      obtain ⟨h1, h2⟩ := look_args0 r (i + 1) t v h
      refine ⟨by omega, ?_⟩
      rw [show t - i = (t - (i + 1)) + 1 by omega, List.getElem?_cons_succ]
      exact h2

/-- A FUNCTION BY ITS BODY -/
theorem Does.body (hn : NumOK P) (hm : P.follows .mixedOrders = true) {f : FuncId} {F : Fn1} {k : C} {args : List Value} {X : St} {Q : Value → St → Prop} (hf : compF P f = some F) (hk : strip k = F.code) (hok : okC F.nt k = true) (hl : args.length ≤ F.nt)
    (h : wpC P Bar k ⟨F.nt, Zk 0 args⟩ X (fun x A X => (match x with | .exit _ => False | _ => True) ∧ ∃ Y, Le Y X ∧ asSome (resVs P A X F.res) fun vs => Q (oneOf vs) Y)) : Does P Bar f args X Q := by
  unfold compF at hf
  split at hf
  · cases hf
  · rename_i fn hfn
    split at hf
    · cases hf
    · rename_i c hc
      cases hf
      refine ⟨⟨fn, hfn, by rw [hc]; rfl⟩, fun w hw => ?_⟩
      have hF0 : KF ⟨fn.ntmps, Zk 0 args⟩ { tmps := args.toArray ++ Array.replicate (fn.ntmps - args.toArray.size) undef, defers := [] } := by
        refine ⟨by have hl : args.length ≤ fn.ntmps := hl; simp; omega, fun t v ht => ?_⟩
        obtain ⟨-, h1⟩ := look_args0 args 0 t v ht
        rw [Nat.sub_zero] at h1
        have hlt := (List.getElem?_eq_some_iff.1 h1).1
        rw [Array.getElem?_append_left (by simpa using hlt)]
        simpa using h1
      refine calls_of_wp hfn hc ?_
      refine wpC_sound hn hm c k _ X _ w _ _ hk hok rfl hF0 hw h fun x a' w' ⟨A, X', ⟨_, g1, Y, g2, vs, g3, g4⟩, g5, g6, g7, g8⟩ => ?_
      have hres := results_sound (fn := fn) g5 g6 g3
      cases x with
      | exit id => exact g1.elim
      | normal => exact ⟨g8, _, hres, _, Y, rfl, g4, g6.le g2, g7⟩
      | ret => exact ⟨g8, _, hres, _, Y, rfl, g4, g6.le g2, g7⟩
end Go.Sym

/- Operations that are shown by themselves: to range over a text. -/
namespace Go.Sym
open Go.RowKit
variable {P : Program} {Bar : Nat} {A : Frm} {X : St} {K : Value → St → Prop} {o : Oper} {w : World}
def MO.at (o : MO) (ob : Obj) : Prop := match o with
  | .iter s pos => ob = .stringIter s pos
  | .map l => ∃ es clock, ob = .map es clock ∧ es.toList.map (fun e => (e.key, e.val)) = l
theorem MO.km {o : MO} {ob : Obj} {b : Nat} (h : o.at ob) (hb : Bar ≤ b) (hw : w.heap[b]? = some ob) : KM Bar o b w := by
  refine ⟨hb, ?_⟩
  cases o with
  | iter s pos => cases h; exact hw
  | map l => obtain ⟨es, c, rfl, h2⟩ := h; exact ⟨es, c, hw, h2⟩
theorem KM.ob {o : MO} {b : Nat} (h : KM Bar o b w) : ∃ ob, w.heap[b]? = some ob ∧ o.at ob := by
  obtain ⟨-, h⟩ := h
  cases o with
  | iter s pos => exact ⟨_, h, rfl⟩
  | map l => obtain ⟨es, c, h1, h2⟩ := h; exact ⟨_, h1, es, c, rfl, h2⟩
theorem Mod.allocObj (h : Mod Bar X w) {m : MO} {ob : Obj} (hc : m.at ob) : Mod Bar (X.newObj w.heap.size m) (w.alloc ob) := by
  have hsz : (w.alloc ob).heap.size = w.heap.size + 1 := by simp
  have hn := h.next
  refine ⟨by rw [hsz]; have := h.room; omega, by rw [hsz, Zx]; omega, fun b C e => ?_, fun b o e => ?_⟩
  · by_cases hb : b = w.heap.size
    · subst hb
      unfold St.newObj St.get at e
      simp at e
    · rw [get_newObj_ne hb] at e
      have := St.lt e
      exact (h.blk b C e).congr (Below.heap_alloc _ _ _ (by omega))
  · rw [obj_newObj] at e
    split at e
    · rename_i hb
      cases e
      subst hb
      exact MO.km hc h.room (by show (w.heap.push _)[w.heap.size]? = _; simp)
    · have := St.olt e
      exact (h.obj b o e).congr (Below.heap_alloc _ _ _ (by omega))
theorem Mod.putObj (h : Mod Bar X w) {b : Nat} {m m' : MO} {ob' : Obj} (hb : X.obj b = some m) (hc : m'.at ob') : Mod Bar (X.setObj b m') { w with heap := w.heap.setIfInBounds b ob' } ∧ Below Bar w { w with heap := w.heap.setIfInBounds b ob' } := by
  have hk := h.obj b m hb
  obtain ⟨ob, h1, h2⟩ := hk.ob
  have hlt : b < w.heap.size := (Array.getElem?_eq_some_iff.1 h1).1
  have hbar := hk.1
  have hoth : ∀ c, c ≠ b → (w.heap.setIfInBounds b ob')[c]? = w.heap[c]? := fun c hc => by rw [Array.getElem?_setIfInBounds]; rw [if_neg (fun e => hc e.symm)]
  refine ⟨⟨by simpa using h.room, by simpa using h.next, fun c C e => ?_, fun c o e => ?_⟩, ?_⟩
  · have hcb : c ≠ b := by
      rintro rfl
      obtain ⟨arr, t, f, g1, -⟩ := h.blk c C e
      exact hk.ne_cells g1 rfl
    exact (h.blk c C e).congr (hoth c hcb)
  · by_cases hcb : c = b
    · subst hcb
      rw [obj_setObj_eq (St.olt hb)] at e
      cases e
      exact MO.km hc hbar (by show (w.heap.setIfInBounds c ob')[c]? = _; rw [Array.getElem?_setIfInBounds]; simp [hlt])
    · rw [obj_setObj_ne hcb] at e
      exact (h.obj c o e).congr (hoth c hcb)
  · exact ⟨rfl, rfl, rfl, by simp, fun c hc => hoth c (by omega)⟩
theorem Oth.range {t : TypeId} {x : Operand} {s : ByteArray} (ho : o.op = .range t x) (hu : P.underlying t = some .string) (hx : ev A x = some (.string s))
    (hK : ∀ n, X.next ≤ n → K (.pointer (some ⟨n, 0, none⟩)) (X.newObj n (.iter s 0))) : Oth P Bar A X o K := by
  intro a w hF hX
  have := hX.allocObj (m := .iter s 0) (ob := .stringIter s 0) rfl
  refine eff_run (v := .pointer (some ⟨w.heap.size, 0, none⟩)) ?_ (hK _ hX.next) this ((Below.refl _ _).alloc hX.room _)
  have := run_range_string w t s hu
  simp only [World.iter] at this
  simp [execOp, ho, hF.ev hx, this, Result.andThen]
theorem run_next_at (w : World) (s : ByteArray) (pos b : Nat) (ty : TypeId) (hw : w.heap[b]? = some (.stringIter s pos)) (h : pos < s.size) :
    (Instr.next (.pointer (some ⟨b, 0, none⟩)) true ty).run P w =
      .ok (.tuple #[.bool true, .int .i64 pos, .int .i32 (Utf8.decode s pos).1]) { w with heap := w.heap.setIfInBounds b (.stringIter s (pos + (Utf8.decode s pos).2)) } := by
  simp only [Instr.next, getObj, setObj, Sem.run_bind, Sem.run, hw, Result.andThen, h, if_true]
  simp [goInt]
theorem run_next_none (w : World) (s : ByteArray) (pos b : Nat) (ty : TypeId) (hw : w.heap[b]? = some (.stringIter s pos)) (h : ¬ pos < s.size) :
    (Instr.next (.pointer (some ⟨b, 0, none⟩)) true ty).run P w = .ok (.tuple #[.bool false]) w := by
  simp [Instr.next, getObj, Sem.run, hw, h]
theorem Oth.next {x : Operand} {b pos : Nat} {s : ByteArray} (ho : o.op = .next x true) (hx : ev A x = some (.pointer (some ⟨b, 0, none⟩))) (hb : X.obj b = some (.iter s pos))
    (h1 : pos < s.size → K (.tuple ⟨[.bool true, .int .i64 pos, .int .i32 (Utf8.decode s pos).1]⟩) (X.setObj b (.iter s (pos + (Utf8.decode s pos).2))))
    (h2 : ¬ pos < s.size → K (.tuple ⟨[.bool false]⟩) X) : Oth P Bar A X o K := by
  intro a w hF hX
  have hw : w.heap[b]? = some (.stringIter s pos) := (hX.obj b _ hb).2
  by_cases h : pos < s.size
  · obtain ⟨k1, k2⟩ := hX.putObj (m' := .iter s (pos + (Utf8.decode s pos).2)) hb rfl
    refine eff_run ?_ (h1 h) k1 k2
    have := run_next_at (P := P) w s pos b o.type hw h
    simp [execOp, ho, hF.ev hx, this, Result.andThen]
  · refine eff_run ?_ (h2 h) hX (Below.refl _ _)
    have := run_next_none (P := P) w s pos b o.type hw h
    simp [execOp, ho, hF.ev hx, this, Result.andThen]
end Go.Sym

/- What the comparison of two structs tells. -/
namespace Go.Sym
open Go.RowKit
section
variable {P : Program} {w : World}
def partF (P : Program) (t : TypeId) (cs : List Value) (off : Nat) : Option Value :=
  match P.underlying t, P.info? t with
  | some d, some _ => if isAggD d then some (.agg ⟨(cs.drop off).take (P.cellsOf t)⟩) else cs[off]?
  | _, _ => none
theorem part_run {t : TypeId} {cs : List Value} {off : Nat} {v : Value} (h : partF P t cs off = some v) : (part t ⟨cs⟩ off).run P w = .ok v w := by
  unfold partF at h
  split at h
  · rename_i d i hd hi
    split at h
    · rename_i ha
      cases h
      simp only [part, Sem.run_bind, isAgg_true hd ha, Result.andThen_ok, if_true, run_sizeOf w hi, Sem.run_pure]
      congr 2
      simp
    · rename_i ha
      have ha : isAggD d = false := by simpa using ha
      simp only [part, Sem.run_bind, isAgg_false hd ha, Result.andThen_ok]
      have : (⟨cs⟩ : Array Value)[off]? = some v := by simpa using h
      simp [this]
  · cases h
def andO : Option Bool → Option Bool → Option Bool
  | some a, some b => some (a && b)
  | _, _ => none
def eqO (eq : Value → Value → Option Bool) : Option Value → Option Value → Option Bool
  | some a, some b => eq a b
  | _, _ => none
def eqFs (P : Program) (eq : TypeId → Value → Value → Option Bool) (xs ys : List Value) : List Field → Option Bool
  | [] => some true
  | f :: fs => if f.name = "_" then none else andO (eqO (eq f.type) (partF P f.type xs f.offset) (partF P f.type ys f.offset)) (eqFs P eq xs ys fs)
def eqIs (P : Program) (eq : Value → Value → Option Bool) (e : TypeId) (c : Nat) (xs ys : List Value) : List Nat → Option Bool
  | [] => some true
  | i :: is => andO (eqO eq (partF P e xs (i * c)) (partF P e ys (i * c))) (eqIs P eq e c xs ys is)
def eqT (P : Program) : Nat → TypeId → Value → Value → Option Bool
  | 0, _, _, _ => none
  | d + 1, t, x, y =>
    match P.underlying t, x, y with
    | some .bool, .bool a, .bool b => some (a == b)
    | some (.int _), .int k a, .int k' b => if k = k' then some (decide (a = b)) else none
    | some .string, .string a, .string b => some (beqB a b)
    | some (.struct fs), .agg ⟨xs⟩, .agg ⟨ys⟩ => if P.stoodInHeld t then none else eqFs P (eqT P d) xs ys fs.toList
    | some (.array n e), .agg ⟨xs⟩, .agg ⟨ys⟩ => match P.info? e with | some _ => eqIs P (eqT P d e) e (P.cellsOf e) xs ys (List.range n) | none => none
    | _, _, _ => none
theorem eqT_run : ∀ (d : Nat) (t : TypeId) (x y : Value) (r : Bool), eqT P d t x y = some r → ∀ w, (Op.equalIn d t x y).run P w = .ok r w := by
  intro d
  induction d with
  | zero => intro t x y r h; cases h
  | succ d ih =>
    intro t x y r h w
    unfold eqT at h
    split at h
    · rename_i a b hu; cases h; exact run_equalIn_bool' w d t a b hu
    · rename_i k0 k a k' b hu
      split at h
      · rename_i hk; subst hk; cases h
        rw [run_equalIn_int w d t k k0 a b hu]
        congr 1
      · cases h
    · rename_i a b hu; cases h; exact run_equalIn_string w d t a b hu
    · rename_i fs xs ys hu
      split at h
      · cases h
      · rename_i hs
        have hf : P.fieldsOf t = fs := by simp [Program.fieldsOf, hu]
        rw [run_equalIn_struct w d t ⟨xs⟩ ⟨ys⟩ (by rw [hf]; exact hu) (by simpa using hs), hf]
        revert h
        generalize fs.toList = l
        induction l generalizing r with
        | nil => intro h; cases h; simp [Op.eqFields]
        | cons f l ihl =>
          intro h
          unfold eqFs at h
          split at h
          · cases h
          · rename_i hn
            unfold andO at h
            split at h
            · rename_i a b ha hb
              cases h
              unfold eqO at ha
              split at ha
              · rename_i u v hu1 hv1
                simp only [Op.eqFields, if_pos hn, Sem.run_bind, part_run hu1, part_run hv1, Result.andThen_ok, ih _ _ _ _ ha]
                cases a
                · simp
                · simpa using ihl _ hb
              · cases ha
            · cases h
    · rename_i n e xs ys hu
      split at h
      · rename_i inf hi
        rw [run_equalIn_array w d ⟨xs⟩ ⟨ys⟩ hu hi]
        revert h
        generalize List.range n = l
        induction l generalizing r with
        | nil => intro h; cases h; simp [Op.eqItems]
        | cons f l ihl =>
          intro h
          unfold eqIs at h
          unfold andO at h
          split at h
          · rename_i a b ha hb
            cases h
            unfold eqO at ha
            split at ha
            · rename_i u v hu1 hv1
              simp only [Op.eqItems, Sem.run_bind, part_run hu1, part_run hv1, Result.andThen_ok, ih _ _ _ _ ha]
              cases a
              · simp
              · simpa using ihl _ hb
            · cases ha
          · cases h
      · cases h
    · cases h
theorem EqTells.of {t : TypeId} {xs ys : List Value} {r : Bool} (hg : P.eqGuardType P.depth t = false) (h : eqT P 10000 t (.agg ⟨xs⟩) (.agg ⟨ys⟩) = some r) : EqTells P t ⟨xs⟩ ⟨ys⟩ r :=
  fun w => ⟨eqT_run 10000 t _ _ r h w, fun neg x y => run_eqGuard_agg w _ t x y _ _ hg⟩
end
end Go.Sym

/- PRINTED BY mksimp.py: equations for the walk. -/
namespace Go.Sym
theorem nr.{u} {α : Sort u} {a b : α} (h : a = b) : a = b := h
/-- what simp leaves alone: an argument that a later one's kind hangs on -/
inductive Hold.{u} {α : Sort u} (a : α) : Type where
  | mk
def nVal (v : Option Value) (k : Value → Prop) (_h : Hold k := .mk) : Prop := asVal v k
def nPtr (v : Option Value) (k : Nat → Nat → Prop) (_h : Hold k := .mk) : Prop := asPtr v k
def nPtr' (v : Option Value) (k : Option Addr → Prop) (_h : Hold k := .mk) : Prop := asPtr' v k
def nSl (v : Option Value) (k : Option Addr → Nat → Nat → Prop) (_h : Hold k := .mk) : Prop := asSl v k
def nInt (v : Option Value) (k : IntKind → Int → Prop) (_h : Hold k := .mk) : Prop := asInt v k
def nBool (v : Option Value) (k : Bool → Prop) (_h : Hold k := .mk) : Prop := asBool v k
def nStr (v : Option Value) (k : ByteArray → Prop) (_h : Hold k := .mk) : Prop := asStr v k
def nAgg (v : Option Value) (k : List Value → Prop) (_h : Hold k := .mk) : Prop := asAgg v k
def nTup (v : Option Value) (k : List Value → Prop) (_h : Hold k := .mk) : Prop := asTup v k
def nSome {α : Type} (v : Option α) (k : α → Prop) (_h : Hold k := .mk) : Prop := asSome v k
theorem GP {u : Value} {k : Value → Prop} {h : Hold k} : nVal (some u) k h = k u := asVal_some
theorem GQ {b o : Nat} {k : Nat → Nat → Prop} {h : Hold k} : nPtr (some (.pointer (some ⟨b, o, none⟩))) k h = k b o := asPtr_some
theorem GR {p : Option Addr} {k : Option Addr → Prop} {h : Hold k} : nPtr' (some (.pointer p)) k h = k p := asPtr'_some
theorem GS {a : Option Addr} {n c : Nat} {k : Option Addr → Nat → Nat → Prop} {h : Hold k} : nSl (some (.slice a n c)) k h = k a n c := asSl_some
theorem GT {q : IntKind} {n : Int} {k : IntKind → Int → Prop} {h : Hold k} : nInt (some (.int q n)) k h = k q n := asInt_some
theorem GU {b : Bool} {k : Bool → Prop} {h : Hold k} : nBool (some (.bool b)) k h = k b := asBool_some
theorem GV {s : ByteArray} {k : ByteArray → Prop} {h : Hold k} : nStr (some (.string s)) k h = k s := asStr_some
theorem GW {l : List Value} {k : List Value → Prop} {h : Hold k} : nAgg (some (.agg ⟨l⟩)) k h = k l := asAgg_some
theorem GX {l : List Value} {k : List Value → Prop} {h : Hold k} : nTup (some (.tuple ⟨l⟩)) k h = k l := asTup_some
theorem GY {α : Type} {u : α} {k : α → Prop} {h : Hold k} : nSome (some u) k h = k u := GZ
theorem nVal_intro {v : Option Value} {u : Value} {k : Value → Prop} {h : Hold k} (e : v = some u) (hk : k u) : nVal v k h := ⟨u, e, hk⟩
theorem nSome_intro {α : Type} {v : Option α} {u : α} {k : α → Prop} {h : Hold k} (e : v = some u) (hk : k u) : nSome v k h := ⟨u, e, hk⟩
def AllN (X : St) (K : Nat → Prop) (_h : Hold K := .mk) : Prop := ∀ n, X.next ≤ n → K n
theorem AllN_intro {X : St} {K : Nat → Prop} {h : Hold K} (k : ∀ n, X.next ≤ n → K n) : AllN X K h := k
def cj (c p : Prop) (_h : Hold p := .mk) : Prop := c ∧ p
theorem cj_intro {c p : Prop} {hh : Hold p} (h : c) (k : p) : cj c p hh := ⟨h, k⟩
theorem GF {c p : Prop} {hh : Hold p} (h : c) : cj c p hh = p := by unfold cj; simp [h]
theorem GG {p : Prop} {hh : Hold p} : cj True p hh = p := GF trivial
def cnd (t : Bool) (p q : Prop) (_h : Hold p := .mk) (_h2 : Hold q := .mk) : Prop := if t then p else q
theorem Gp {p q : Prop} {h : Hold p} {h2 : Hold q} : cnd true p q h h2 = p := nr rfl
theorem Gq {p q : Prop} {h : Hold p} {h2 : Hold q} : cnd false p q h h2 = q := nr rfl
theorem cnd_intro {t : Bool} {p q : Prop} {hh : Hold p} {h2 : Hold q} (h : t = true → p) (k : t = false → q) : cnd t p q hh h2 := by cases t <;> first | exact k rfl | exact h rfl
def nAd (a : Option Addr) (k : Nat → Nat → Prop) (_h : Hold k := .mk) : Prop := ∃ b o, a = some ⟨b, o, none⟩ ∧ k b o
def nBytes (X : St) (a : Option Addr) (n : Nat) (k : List Value → Prop) (_h : Hold k := .mk) : Prop := ∃ l, bytesAt X a n l ∧ k l
def nEq (P : Program) (t : TypeId) (a b : List Value) (k : Bool → Prop) (_h : Hold k := .mk) : Prop := ∃ r, EqTells P t ⟨a⟩ ⟨b⟩ r ∧ k r
def nFn (u : Value) (p q : Prop) (_h : Hold p := .mk) (_h2 : Hold q := .mk) : Prop := (u = .nilFunc ∧ p) ∨ (∃ f a c, u = .func f a c ∧ q)
theorem GH {b o : Nat} {k : Nat → Nat → Prop} {h : Hold k} : nAd (some ⟨b, o, none⟩) k h = k b o := propext ⟨fun ⟨_, _, h, hk⟩ => by cases h; exact hk, fun h => ⟨b, o, rfl, h⟩⟩
theorem GI {X : St} {n : Nat} {k : List Value → Prop} {h : Hold k} : nBytes X none n k h = k [] := by simp [nBytes, bytesAt]
theorem GJ {X : St} {b o n : Nat} {k : List Value → Prop} {h : Hold k} : nBytes X (some ⟨b, o, none⟩) n k h = nSome (cellsAt X b o n) k h := by simp [nBytes, bytesAt, nSome, asSome]
theorem nEq_intro {P : Program} {t : TypeId} {a b : List Value} {k : Bool → Prop} {hh : Hold k} {r : Bool} (h : EqTells P t ⟨a⟩ ⟨b⟩ r) (hk : k r) : nEq P t a b k hh := ⟨r, h, hk⟩
theorem GK {p q : Prop} {h : Hold p} {h2 : Hold q} : nFn .nilFunc p q h h2 = p := by simp [nFn]
theorem GL {f : Fn} {a c : Array Value} {p q : Prop} {h : Hold p} {h2 : Hold q} : nFn (.func f a c) p q h h2 = q := by simp [nFn]
def nFrm (A : Frm) (k : Frm → Prop) (_h : Hold k := .mk) : Prop := k A
theorem GM {n : Nat} {l : List (Nat × Value)} {k : Frm → Prop} {h : Hold k} : nFrm ⟨n, l⟩ k h = k ⟨n, l⟩ := nr rfl
def DoesK (P : Program) (Bar : Nat) (f : FuncId) (args : List Value) (X : St) (Q : Value → St → Prop) (_h : Hold Q := .mk) : Prop := Does P Bar f args X Q
theorem DoesK.by {P : Program} {Bar : Nat} {f : FuncId} {args : List Value} {X : St} {Q R : Value → St → Prop} {hh : Hold R} (h : Does P Bar f args X Q) (k : ∀ v X', Q v X' → R v X') : DoesK P Bar f args X R hh := h.mono k
def ApndK (P : Program) (Bar : Nat) (str : Bool) (size bytes : Nat) (elem : TypeId) (s x : Value) (X : St) (K : Value → St → Prop) (_h : Hold K := .mk) : Prop := Apnd P Bar str size bytes elem s x X K
def OthK (P : Program) (Bar : Nat) (A : Frm) (X : St) (o : Oper) (K : Value → St → Prop) (_h : Hold K := .mk) : Prop := Oth P Bar A X o K
theorem OthK.by {P : Program} {Bar : Nat} {A : Frm} {X : St} {o : Oper} {K : Value → St → Prop} {hh : Hold K} (h : Oth P Bar A X o K) : OthK P Bar A X o K hh := h
theorem ApndK.by {P : Program} {Bar : Nat} {str : Bool} {size bytes : Nat} {elem : TypeId} {s x : Value} {X : St} {K : Value → St → Prop} {hh : Hold K} (h : Apnd P Bar str size bytes elem s x X K) : ApndK P Bar str size bytes elem s x X K hh := h
section
variable {P : Program} {Bar : Nat} {A : Frm} {X : St} {K : Value → St → Prop} {L : Value → Prop}
theorem Qa (x_ : Operand) : efK P Bar A X (.mov x_) K = rdK P A X (.mov x_) (fun v => K v X) := nr rfl
theorem Qb (x_ : Operand) : quK P Bar A X (.mov x_) L = rdK P A X (.mov x_) L := nr rfl
theorem Qc (c_ : Operand) (a_ : Operand) (b_ : Operand) : efK P Bar A X (.pick c_ a_ b_) K = rdK P A X (.pick c_ a_ b_) (fun v => K v X) := nr rfl
theorem Qd (c_ : Operand) (a_ : Operand) (b_ : Operand) : quK P Bar A X (.pick c_ a_ b_) L = rdK P A X (.pick c_ a_ b_) L := nr rfl
theorem Qe (x_ : Operand) : efK P Bar A X (.ld1 x_) K = rdK P A X (.ld1 x_) (fun v => K v X) := nr rfl
theorem Qf (x_ : Operand) : quK P Bar A X (.ld1 x_) L = rdK P A X (.ld1 x_) L := nr rfl
theorem Qg (n_ : Nat) (x_ : Operand) : efK P Bar A X (.ldN n_ x_) K = rdK P A X (.ldN n_ x_) (fun v => K v X) := nr rfl
theorem Qh (n_ : Nat) (x_ : Operand) : quK P Bar A X (.ldN n_ x_) L = rdK P A X (.ldN n_ x_) L := nr rfl
theorem Qi (x_ : Operand) : efK P Bar A X (.nck x_) K = rdK P A X (.nck x_) (fun v => K v X) := nr rfl
theorem Qj (x_ : Operand) : quK P Bar A X (.nck x_) L = rdK P A X (.nck x_) L := nr rfl
theorem Qk (off_ : Nat) (x_ : Operand) : efK P Bar A X (.faddr off_ x_) K = rdK P A X (.faddr off_ x_) (fun v => K v X) := nr rfl
theorem Ql (off_ : Nat) (x_ : Operand) : quK P Bar A X (.faddr off_ x_) L = rdK P A X (.faddr off_ x_) L := nr rfl
theorem Qm (len_ : Nat) (size_ : Nat) (x_ : Operand) (i_ : Operand) : efK P Bar A X (.ixa len_ size_ x_ i_) K = rdK P A X (.ixa len_ size_ x_ i_) (fun v => K v X) := nr rfl
theorem Qn (len_ : Nat) (size_ : Nat) (x_ : Operand) (i_ : Operand) : quK P Bar A X (.ixa len_ size_ x_ i_) L = rdK P A X (.ixa len_ size_ x_ i_) L := nr rfl
theorem Qo (size_ : Nat) (x_ : Operand) (i_ : Operand) : efK P Bar A X (.ixs size_ x_ i_) K = rdK P A X (.ixs size_ x_ i_) (fun v => K v X) := nr rfl
theorem Qp (size_ : Nat) (x_ : Operand) (i_ : Operand) : quK P Bar A X (.ixs size_ x_ i_) L = rdK P A X (.ixs size_ x_ i_) L := nr rfl
theorem Qq (len_ : Nat) (x_ : Operand) (i_ : Operand) : efK P Bar A X (.ixv len_ x_ i_) K = rdK P A X (.ixv len_ x_ i_) (fun v => K v X) := nr rfl
theorem Qr (len_ : Nat) (x_ : Operand) (i_ : Operand) : quK P Bar A X (.ixv len_ x_ i_) L = rdK P A X (.ixv len_ x_ i_) L := nr rfl
theorem Qs (len_ : Nat) (size_ : Nat) (x_ : Operand) (i_ : Operand) : efK P Bar A X (.ixw len_ size_ x_ i_) K = rdK P A X (.ixw len_ size_ x_ i_) (fun v => K v X) := nr rfl
theorem Qt (len_ : Nat) (size_ : Nat) (x_ : Operand) (i_ : Operand) : quK P Bar A X (.ixw len_ size_ x_ i_) L = rdK P A X (.ixw len_ size_ x_ i_) L := nr rfl
theorem Qu (x_ : Operand) (i_ : Operand) : efK P Bar A X (.six x_ i_) K = rdK P A X (.six x_ i_) (fun v => K v X) := nr rfl
theorem Qv (x_ : Operand) (i_ : Operand) : quK P Bar A X (.six x_ i_) L = rdK P A X (.six x_ i_) L := nr rfl
theorem Qw (off_ : Nat) (x_ : Operand) : efK P Bar A X (.fld1 off_ x_) K = rdK P A X (.fld1 off_ x_) (fun v => K v X) := nr rfl
theorem Qx (off_ : Nat) (x_ : Operand) : quK P Bar A X (.fld1 off_ x_) L = rdK P A X (.fld1 off_ x_) L := nr rfl
theorem Qy (off_ : Nat) (n_ : Nat) (x_ : Operand) : efK P Bar A X (.fldN off_ n_ x_) K = rdK P A X (.fldN off_ n_ x_) (fun v => K v X) := nr rfl
theorem Qz (off_ : Nat) (n_ : Nat) (x_ : Operand) : quK P Bar A X (.fldN off_ n_ x_) L = rdK P A X (.fldN off_ n_ x_) L := nr rfl
theorem QA (i_ : Nat) (x_ : Operand) : efK P Bar A X (.ext i_ x_) K = rdK P A X (.ext i_ x_) (fun v => K v X) := nr rfl
theorem QB (i_ : Nat) (x_ : Operand) : quK P Bar A X (.ext i_ x_) L = rdK P A X (.ext i_ x_) L := nr rfl
theorem QC (op_ : BinOp) (x_ : Operand) (y_ : Operand) : efK P Bar A X (.arith op_ x_ y_) K = rdK P A X (.arith op_ x_ y_) (fun v => K v X) := nr rfl
theorem QD (op_ : BinOp) (x_ : Operand) (y_ : Operand) : quK P Bar A X (.arith op_ x_ y_) L = rdK P A X (.arith op_ x_ y_) L := nr rfl
theorem QE (op_ : BinOp) (x_ : Operand) (y_ : Operand) : efK P Bar A X (.cmp op_ x_ y_) K = rdK P A X (.cmp op_ x_ y_) (fun v => K v X) := nr rfl
theorem QF (op_ : BinOp) (x_ : Operand) (y_ : Operand) : quK P Bar A X (.cmp op_ x_ y_) L = rdK P A X (.cmp op_ x_ y_) L := nr rfl
theorem QG (op_ : BinOp) (x_ : Operand) (y_ : Operand) : efK P Bar A X (.bits op_ x_ y_) K = rdK P A X (.bits op_ x_ y_) (fun v => K v X) := nr rfl
theorem QH (op_ : BinOp) (x_ : Operand) (y_ : Operand) : quK P Bar A X (.bits op_ x_ y_) L = rdK P A X (.bits op_ x_ y_) L := nr rfl
theorem QI (op_ : BinOp) (x_ : Operand) (y_ : Operand) : efK P Bar A X (.div op_ x_ y_) K = rdK P A X (.div op_ x_ y_) (fun v => K v X) := nr rfl
theorem QJ (op_ : BinOp) (x_ : Operand) (y_ : Operand) : quK P Bar A X (.div op_ x_ y_) L = rdK P A X (.div op_ x_ y_) L := nr rfl
theorem QK (op_ : BinOp) (x_ : Operand) (y_ : Operand) : efK P Bar A X (.shf op_ x_ y_) K = rdK P A X (.shf op_ x_ y_) (fun v => K v X) := nr rfl
theorem QL (op_ : BinOp) (x_ : Operand) (y_ : Operand) : quK P Bar A X (.shf op_ x_ y_) L = rdK P A X (.shf op_ x_ y_) L := nr rfl
theorem QM (op_ : UnOp) (x_ : Operand) : efK P Bar A X (.un op_ x_) K = rdK P A X (.un op_ x_) (fun v => K v X) := nr rfl
theorem QN (op_ : UnOp) (x_ : Operand) : quK P Bar A X (.un op_ x_) L = rdK P A X (.un op_ x_) L := nr rfl
theorem QO (op_ : BinOp) (x_ : Operand) (y_ : Operand) : efK P Bar A X (.sop op_ x_ y_) K = rdK P A X (.sop op_ x_ y_) (fun v => K v X) := nr rfl
theorem QP (op_ : BinOp) (x_ : Operand) (y_ : Operand) : quK P Bar A X (.sop op_ x_ y_) L = rdK P A X (.sop op_ x_ y_) L := nr rfl
theorem QQ (neg_ : Bool) (x_ : Operand) (y_ : Operand) : efK P Bar A X (.beq neg_ x_ y_) K = rdK P A X (.beq neg_ x_ y_) (fun v => K v X) := nr rfl
theorem QR (neg_ : Bool) (x_ : Operand) (y_ : Operand) : quK P Bar A X (.beq neg_ x_ y_) L = rdK P A X (.beq neg_ x_ y_) L := nr rfl
theorem QS (neg_ : Bool) (x_ : Operand) : efK P Bar A X (.nil neg_ x_) K = rdK P A X (.nil neg_ x_) (fun v => K v X) := nr rfl
theorem QT (neg_ : Bool) (x_ : Operand) : quK P Bar A X (.nil neg_ x_) L = rdK P A X (.nil neg_ x_) L := nr rfl
theorem QU (neg_ : Bool) (x_ : Operand) (y_ : Operand) : efK P Bar A X (.peq neg_ x_ y_) K = rdK P A X (.peq neg_ x_ y_) (fun v => K v X) := nr rfl
theorem QV (neg_ : Bool) (x_ : Operand) (y_ : Operand) : quK P Bar A X (.peq neg_ x_ y_) L = rdK P A X (.peq neg_ x_ y_) L := nr rfl
theorem QW (neg_ : Bool) (x_ : Operand) : efK P Bar A X (.snil neg_ x_) K = rdK P A X (.snil neg_ x_) (fun v => K v X) := nr rfl
theorem QX (neg_ : Bool) (x_ : Operand) : quK P Bar A X (.snil neg_ x_) L = rdK P A X (.snil neg_ x_) L := nr rfl
theorem QY (neg_ : Bool) (x_ : Operand) : efK P Bar A X (.fnil neg_ x_) K = rdK P A X (.fnil neg_ x_) (fun v => K v X) := nr rfl
theorem QZ (neg_ : Bool) (x_ : Operand) : quK P Bar A X (.fnil neg_ x_) L = rdK P A X (.fnil neg_ x_) L := nr rfl
theorem Q0 (neg_ : Bool) (t_ : TypeId) (x_ : Operand) (y_ : Operand) : efK P Bar A X (.eqv neg_ t_ x_ y_) K = rdK P A X (.eqv neg_ t_ x_ y_) (fun v => K v X) := nr rfl
theorem Q1 (neg_ : Bool) (t_ : TypeId) (x_ : Operand) (y_ : Operand) : quK P Bar A X (.eqv neg_ t_ x_ y_) L = rdK P A X (.eqv neg_ t_ x_ y_) L := nr rfl
theorem Q2 (x_ : Operand) : efK P Bar A X (.len x_) K = rdK P A X (.len x_) (fun v => K v X) := nr rfl
theorem Q3 (x_ : Operand) : quK P Bar A X (.len x_) L = rdK P A X (.len x_) L := nr rfl
theorem Q4 (x_ : Operand) : efK P Bar A X (.slen x_) K = rdK P A X (.slen x_) (fun v => K v X) := nr rfl
theorem Q5 (x_ : Operand) : quK P Bar A X (.slen x_) L = rdK P A X (.slen x_) L := nr rfl
theorem Q6 (x_ : Operand) : efK P Bar A X (.cap x_) K = rdK P A X (.cap x_) (fun v => K v X) := nr rfl
theorem Q7 (x_ : Operand) : quK P Bar A X (.cap x_) L = rdK P A X (.cap x_) L := nr rfl
theorem Q8 (x_ : Operand) (lo_ : Option Operand) (hi_ : Option Operand) : efK P Bar A X (.ssub x_ lo_ hi_) K = rdK P A X (.ssub x_ lo_ hi_) (fun v => K v X) := nr rfl
theorem Q9 (x_ : Operand) (lo_ : Option Operand) (hi_ : Option Operand) : quK P Bar A X (.ssub x_ lo_ hi_) L = rdK P A X (.ssub x_ lo_ hi_) L := nr rfl
theorem Ja (k_ : IntKind) (x_ : Operand) : efK P Bar A X (.cnv k_ x_) K = rdK P A X (.cnv k_ x_) (fun v => K v X) := nr rfl
theorem Jb (k_ : IntKind) (x_ : Operand) : quK P Bar A X (.cnv k_ x_) L = rdK P A X (.cnv k_ x_) L := nr rfl
theorem Jc (x_ : Operand) : efK P Bar A X (.bts x_) K = rdK P A X (.bts x_) (fun v => K v X) := nr rfl
theorem Jd (x_ : Operand) : quK P Bar A X (.bts x_) L = rdK P A X (.bts x_) L := nr rfl
theorem Je (isMax_ : Bool) (x_ : Operand) (y_ : Operand) : efK P Bar A X (.mnx isMax_ x_ y_) K = rdK P A X (.mnx isMax_ x_ y_) (fun v => K v X) := nr rfl
theorem Jf (isMax_ : Bool) (x_ : Operand) (y_ : Operand) : quK P Bar A X (.mnx isMax_ x_ y_) L = rdK P A X (.mnx isMax_ x_ y_) L := nr rfl
theorem Jg (z_ : List Value) (places_ : List (Nat × Nat)) (ps_ : List (Nat × Operand)) : efK P Bar A X (.bld z_ places_ ps_) K = rdK P A X (.bld z_ places_ ps_) (fun v => K v X) := nr rfl
theorem Jh (z_ : List Value) (places_ : List (Nat × Nat)) (ps_ : List (Nat × Operand)) : quK P Bar A X (.bld z_ places_ ps_) L = rdK P A X (.bld z_ places_ ps_) L := nr rfl
theorem Ji (z_ : List Value) (size_ : Nat) (ps_ : List (Nat × Operand)) : efK P Bar A X (.bldA z_ size_ ps_) K = rdK P A X (.bldA z_ size_ ps_) (fun v => K v X) := nr rfl
theorem Jj (z_ : List Value) (size_ : Nat) (ps_ : List (Nat × Operand)) : quK P Bar A X (.bldA z_ size_ ps_) L = rdK P A X (.bldA z_ size_ ps_) L := nr rfl
theorem Jk (size_ : Nat) (x_ : Operand) (lo_ : Option Operand) (hi_ : Option Operand) (mx_ : Option Operand) : efK P Bar A X (.slc size_ x_ lo_ hi_ mx_) K = rdK P A X (.slc size_ x_ lo_ hi_ mx_) (fun v => K v X) := nr rfl
theorem Jl (size_ : Nat) (x_ : Operand) (lo_ : Option Operand) (hi_ : Option Operand) (mx_ : Option Operand) : quK P Bar A X (.slc size_ x_ lo_ hi_ mx_) L = rdK P A X (.slc size_ x_ lo_ hi_ mx_) L := nr rfl
theorem Jm (size_ : Nat) (n_ : Nat) (x_ : Operand) (lo_ : Option Operand) (hi_ : Option Operand) : efK P Bar A X (.sla size_ n_ x_ lo_ hi_) K = rdK P A X (.sla size_ n_ x_ lo_ hi_) (fun v => K v X) := nr rfl
theorem Jn (size_ : Nat) (n_ : Nat) (x_ : Operand) (lo_ : Option Operand) (hi_ : Option Operand) : quK P Bar A X (.sla size_ n_ x_ lo_ hi_) L = rdK P A X (.sla size_ n_ x_ lo_ hi_) L := nr rfl
theorem Jo (fn_ : Fn) (first_ : List Operand) (captured_ : List Operand) : efK P Bar A X (.mkf fn_ first_ captured_) K = rdK P A X (.mkf fn_ first_ captured_) (fun v => K v X) := nr rfl
theorem Jp (fn_ : Fn) (first_ : List Operand) (captured_ : List Operand) : quK P Bar A X (.mkf fn_ first_ captured_) L = rdK P A X (.mkf fn_ first_ captured_) L := nr rfl
theorem Jq (o_ : Oper) : efK P Bar A X (.lib o_) K = rdK P A X (.lib o_) (fun v => K v X) := nr rfl
theorem Jr (o_ : Oper) : quK P Bar A X (.lib o_) L = rdK P A X (.lib o_) L := nr rfl
theorem Js (n : Nat) (a : Operand) (v : Operand) : efK P Bar A X (.st n a v) K = (nPtr (ev A a) fun b o => nVal (ev A v) fun u => nSome (X.get b) fun B => cj (u.cells.toList.length = n ∧ (∀ c ∈ u.cells.toList, single c = true) ∧ B.wr = true ∧ o + n ≤ B.cells.length) <| K undef (X.set b { B with cells := splice B.cells o u.cells.toList })) := nr rfl
theorem Jt (z : List Value) (size : Nat) (elem : TypeId) : efK P Bar A X (.alloc z size elem) K = (AllN X fun n => K (.pointer (some ⟨n, 0, none⟩)) (X.new n ⟨z, size, elem, true⟩)) := nr rfl
theorem Ju (elem : TypeId) (x : Operand) : efK P Bar A X (.box elem x) K = (nVal (ev A x) fun u => AllN X fun n => K (.pointer (some ⟨n, 0, none⟩)) (X.new n ⟨u.cells.toList, u.cells.toList.length, elem, true⟩)) := nr rfl
theorem Jv (z : List Value) (len : Nat) (size : Nat) (elem : TypeId) (ps : List (Nat × Operand)) : efK P Bar A X (.bsl z len size elem ps) K = (nSome (evP A ps) fun vs => nSome (fillL (fun j => some (j * size, size)) ((List.replicate len z).flatten) vs) fun l => AllN X fun n => K (.slice (some ⟨n, 0, none⟩) len len) (X.new n ⟨l, len * size, elem, true⟩)) := nr rfl
theorem Jw (z : List Value) (size : Nat) (bytes : Nat) (elem : TypeId) (l : Operand) (c : Operand) : efK P Bar A X (.mks z size bytes elem l c) K = (nInt (ev A l) fun _ ln => nInt (ev A c) fun _ cn => cj (0 ≤ ln ∧ ln ≤ cn ∧ cn.toNat * (bytes + 1) < 1099511627775) <| AllN X fun n => K (.slice (some ⟨n, 0, none⟩) ln.toNat cn.toNat) (X.new n ⟨(List.replicate cn.toNat z).flatten, cn.toNat * size, elem, true⟩)) := nr rfl
theorem Jx (str : Bool) (size : Nat) (bytes : Nat) (elem : TypeId) (s : Operand) (x : Operand) : efK P Bar A X (.app str size bytes elem s x) K = (nVal (ev A s) fun s => nVal (ev A x) fun x => ApndK P Bar str size bytes elem s x X K) := nr rfl
theorem Jy (f : Operand) (args : List Operand) : efK P Bar A X (.call f args) K = (callee A f args fun g vs => DoesK P Bar g vs X K) := nr rfl
theorem Jz (o : Oper) : efK P Bar A X (.other o) K = OthK P Bar A X o K := nr rfl
theorem JA (f : Operand) (args : List Operand) : quK P Bar A X (.call f args) L = (callee A f args fun g vs => ∃ v, Does P Bar g vs X (fun v' X' => v' = v ∧ Le X X') ∧ L v) := nr rfl
theorem JB (x : Operand) : rdK P A X (.mov x) L = (nVal (ev A x) L) := nr rfl
theorem JC (c : Operand) (a : Operand) (b : Operand) : rdK P A X (.pick c a b) L = (nBool (ev A c) fun t => nVal (if t then ev A a else ev A b) L) := nr rfl
theorem JD (x : Operand) : rdK P A X (.ld1 x) L = (nPtr (ev A x) fun b o => nVal (cellAt X b o) L) := nr rfl
theorem JE (n : Nat) (x : Operand) : rdK P A X (.ldN n x) L = (nPtr (ev A x) fun b o => nSome (cellsAt X b o n) fun l => L (.agg ⟨l⟩)) := nr rfl
theorem JF (x : Operand) : rdK P A X (.nck x) L = (nPtr' (ev A x) fun p => cj (p.isSome = true) <| L (.pointer p)) := nr rfl
theorem JG (off : Nat) (x : Operand) : rdK P A X (.faddr off x) L = (nPtr (ev A x) fun b o => L (.pointer (some ⟨b, o + off, none⟩))) := nr rfl
theorem JH (len : Nat) (size : Nat) (x : Operand) (i : Operand) : rdK P A X (.ixa len size x i) L = (nPtr (ev A x) fun b o => nInt (ev A i) fun _ n => cj (0 ≤ n ∧ n < len) <| L (.pointer (some ⟨b, o + n.toNat * size, none⟩))) := nr rfl
theorem JI (size : Nat) (x : Operand) (i : Operand) : rdK P A X (.ixs size x i) L = (nSl (ev A x) fun a len _ => nInt (ev A i) fun _ n => cj (0 ≤ n ∧ n < len) <| nAd a fun b o => L (.pointer (some ⟨b, o + n.toNat * size, none⟩))) := nr rfl
theorem JJ (len : Nat) (x : Operand) (i : Operand) : rdK P A X (.ixv len x i) L = (nAgg (ev A x) fun l => nInt (ev A i) fun _ n => cj (0 ≤ n ∧ n < len) <| nVal (l[n.toNat]?) L) := nr rfl
theorem JK (len : Nat) (size : Nat) (x : Operand) (i : Operand) : rdK P A X (.ixw len size x i) L = (nAgg (ev A x) fun l => nInt (ev A i) fun _ n => cj (0 ≤ n ∧ n < len) <| L (.agg ⟨(l.drop (n.toNat * size)).take size⟩)) := nr rfl
theorem JL (x : Operand) (i : Operand) : rdK P A X (.six x i) L = (nStr (ev A x) fun s => nInt (ev A i) fun _ n => cj (0 ≤ n) <| nSome (s.data.toList[n.toNat]?) fun c => L (.int .u8 c.toNat)) := nr rfl
theorem JM (off : Nat) (x : Operand) : rdK P A X (.fld1 off x) L = (nAgg (ev A x) fun l => nVal (l[off]?) L) := nr rfl
theorem JN (off : Nat) (n : Nat) (x : Operand) : rdK P A X (.fldN off n x) L = (nAgg (ev A x) fun l => L (.agg ⟨(l.drop off).take n⟩)) := nr rfl
theorem JO (i : Nat) (x : Operand) : rdK P A X (.ext i x) L = (nTup (ev A x) fun l => nVal (l[i]?) L) := nr rfl
theorem JP (op : BinOp) (x : Operand) (y : Operand) : rdK P A X (.arith op x y) L = (nInt (ev A x) fun k a => nInt (ev A y) fun k' b => cj (k = k') <| nSome (G0 op a b) fun n => L (.int k (k.wrap n))) := nr rfl
theorem JQ (op : BinOp) (x : Operand) (y : Operand) : rdK P A X (.cmp op x y) L = (nInt (ev A x) fun k a => nInt (ev A y) fun k' b => cj (k = k') <| nSome (G1 op a b) fun t => L (.bool t)) := nr rfl
theorem JR (op : BinOp) (x : Operand) (y : Operand) : rdK P A X (.bits op x y) L = (nInt (ev A x) fun k a => nInt (ev A y) fun k' b => cj (k = k') <| nSome (bitsF op k a b) fun n => L (.int k n)) := nr rfl
theorem JS (op : BinOp) (x : Operand) (y : Operand) : rdK P A X (.div op x y) L = (nInt (ev A x) fun k a => nInt (ev A y) fun k' b => cj (k = k') <| nSome (divF op k a b) fun n => L (.int k n)) := nr rfl
theorem JT (op : BinOp) (x : Operand) (y : Operand) : rdK P A X (.shf op x y) L = (nInt (ev A x) fun k a => nInt (ev A y) fun _ b => nSome (shfF op k a b) fun n => L (.int k n)) := nr rfl
theorem JU (op : UnOp) (x : Operand) : rdK P A X (.un op x) L = (nVal (ev A x) fun u => nVal (G2 op u) L) := nr rfl
theorem JV (op : BinOp) (x : Operand) (y : Operand) : rdK P A X (.sop op x y) L = (nStr (ev A x) fun a => nStr (ev A y) fun b => nVal (G3 op a b) L) := nr rfl
theorem JW (neg : Bool) (x : Operand) (y : Operand) : rdK P A X (.beq neg x y) L = (nBool (ev A x) fun a => nBool (ev A y) fun b => L (.bool (xor neg (a == b)))) := nr rfl
theorem JX (neg : Bool) (x : Operand) : rdK P A X (.nil neg x) L = (nPtr' (ev A x) fun p => L (.bool (xor neg p.isNone))) := nr rfl
theorem JY (neg : Bool) (x : Operand) (y : Operand) : rdK P A X (.peq neg x y) L = (nPtr (ev A x) fun a oa => nPtr (ev A y) fun b ob => cj ((a = b → oa = ob) ∧ (a ≠ b → wrB X a ∧ wrB X b)) <| L (.bool (xor neg (decide (a = b))))) := nr rfl
theorem JZ (neg : Bool) (x : Operand) : rdK P A X (.snil neg x) L = (nSl (ev A x) fun a _ _ => L (.bool (xor neg a.isNone))) := nr rfl
theorem J3 (neg : Bool) (x : Operand) : rdK P A X (.fnil neg x) L = (nVal (ev A x) fun u => nFn u (L (.bool (!neg))) (L (.bool neg))) := nr rfl
theorem J4 (neg : Bool) (t : TypeId) (x : Operand) (y : Operand) : rdK P A X (.eqv neg t x y) L = (nAgg (ev A x) fun a => nAgg (ev A y) fun b => nEq P t a b fun r => L (.bool (xor neg r))) := nr rfl
theorem J5 (x : Operand) : rdK P A X (.len x) L = (nSl (ev A x) fun _ n _ => L (.int .i64 n)) := nr rfl
theorem J6 (x : Operand) : rdK P A X (.slen x) L = (nStr (ev A x) fun s => L (.int .i64 s.size)) := nr rfl
theorem J7 (x : Operand) : rdK P A X (.cap x) L = (nSl (ev A x) fun _ _ c => L (.int .i64 c)) := nr rfl
theorem J8 (x : Operand) (lo : Option Operand) (hi : Option Operand) : rdK P A X (.ssub x lo hi) L = (nStr (ev A x) fun s => nSome (evO A lo) fun l => nSome (evO A hi) fun h => nSome (bound h s.size) fun hn => nSome (bound l 0) fun ln => cj (ln ≤ hn ∧ hn ≤ s.size) <| L (.string (s.extract ln hn))) := nr rfl
theorem J9 (k : IntKind) (x : Operand) : rdK P A X (.cnv k x) L = (nInt (ev A x) fun _ n => L (.int k (k.wrap n))) := nr rfl
theorem Va (x : Operand) : rdK P A X (.bts x) L = (nSl (ev A x) fun a n _ => nBytes X a n fun l => nSome (bytesOf l) fun ns => L (.string (bytesStr ns))) := nr rfl
theorem Vb (isMax : Bool) (x : Operand) (y : Operand) : rdK P A X (.mnx isMax x y) L = (nInt (ev A x) fun k a => nInt (ev A y) fun k' b => cj (k = k') <| L (.int k (if isMax then max a b else min a b))) := nr rfl
theorem Vc (z : List Value) (places : List (Nat × Nat)) (ps : List (Nat × Operand)) : rdK P A X (.bld z places ps) L = (nSome (evP A ps) fun vs => nSome (fillL (fun i => places[i]?) z vs) fun l => L (.agg ⟨l⟩)) := nr rfl
theorem Vd (z : List Value) (size : Nat) (ps : List (Nat × Operand)) : rdK P A X (.bldA z size ps) L = (nSome (evP A ps) fun vs => nSome (fillL (fun i => some (i * size, size)) z vs) fun l => L (.agg ⟨l⟩)) := nr rfl
theorem Ve (size : Nat) (x : Operand) (lo : Option Operand) (hi : Option Operand) (mx : Option Operand) : rdK P A X (.slc size x lo hi mx) L = (nVal (ev A x) fun u => nSome (evO A lo) fun l => nSome (evO A hi) fun h => nSome (evO A mx) fun m => nVal (sliceF size u l h m) L) := nr rfl
theorem Vf (size : Nat) (n : Nat) (x : Operand) (lo : Option Operand) (hi : Option Operand) : rdK P A X (.sla size n x lo hi) L = (nVal (ev A x) fun u => nSome (evO A lo) fun l => nSome (evO A hi) fun h => nVal (sliceA size n u l h) L) := nr rfl
theorem Vg (fn : Fn) (first : List Operand) (captured : List Operand) : rdK P A X (.mkf fn first captured) L = (nSome (evL A first) fun f => nSome (evL A captured) fun c => L (.func fn ⟨f⟩ ⟨c⟩)) := nr rfl
theorem Vh (o : Oper) : rdK P A X (.lib o) L = (∃ v, (∀ a : Act, KF A a → ∀ w, (execOp a.eval o).run P w = .ok (.value v) w) ∧ L v) := nr rfl
end

/-- a text by its bytes -/
def btx (l : List Nat) : ByteArray := ⟨(l.map UInt8.ofNat).toArray⟩

theorem VK (s t : Nat) (v : Value) (r : List (Nat × Value)) : look ((s, v) :: r) t = if t = s then some v else look r t := nr rfl
theorem VL (n t : Nat) (l : List (Nat × Value)) : Frm.get ⟨n, l⟩ t = look l t := nr rfl
theorem VM (n d : Nat) (l : List (Nat × Value)) (v : Value) : Frm.put ⟨n, l⟩ (some d) v = ⟨n, (d, v) :: l⟩ := nr rfl
theorem VN (A : Frm) (v : Value) : Frm.put A none v = A := nr rfl
def optCons (k : Nat) (o : Option Value) (r : List (Nat × Value)) : List (Nat × Value) := match o with | some v => (k, v) :: r | none => r
theorem VO (k : Nat) (v : Value) (r : List (Nat × Value)) : optCons k (some v) r = (k, v) :: r := nr rfl
theorem VP (k : Nat) (r : List (Nat × Value)) : optCons k none r = r := nr rfl
theorem VQ (k : Nat) (r : List Nat) (l : List (Nat × Value)) : pick (k :: r) l = optCons k (look l k) (pick r l) := by
  show (match look l k with | some v => (k, v) :: pick r l | none => pick r l) = _
  cases look l k <;> rfl
theorem VR (l : List (Nat × Value)) : pick [] l = [] := nr rfl
theorem VS (t : Nat) : look [] t = none := nr rfl
theorem VT (n : Nat) (k : List Nat) (l : List (Nat × Value)) : Frm.keep ⟨n, l⟩ (some k) = ⟨n, pick k l⟩ := nr rfl
theorem VU (A : Frm) : A.keep none = A := nr rfl
theorem VV (A : Frm) (t : Nat) : ev A (.tmp t) = A.get t := nr rfl
theorem VW (A : Frm) (v : Value) : ev A (.const v) = some v := nr rfl
theorem VX (A : Frm) (g : Nat) : ev A (.global g) = some (.pointer (some ⟨g, 0, none⟩)) := nr rfl
theorem VY (A : Frm) (f : Nat) : ev A (.func f) = some (.func (.func f) ⟨[]⟩ ⟨[]⟩) := nr rfl
def consO {α : Type} (v : Option α) (l : Option (List α)) : Option (List α) := match v, l with | some v, some l => some (v :: l) | _, _ => none
theorem VZ {α : Type} (v : α) (l : List α) : consO (some v) (some l) = some (v :: l) := nr rfl
theorem V0 (A : Frm) : evL A [] = some [] := nr rfl
theorem V1 (A : Frm) (x : Operand) (r : List Operand) : evL A (x :: r) = consO (ev A x) (evL A r) := by
  show (match ev A x with | none => none | some v => match evL A r with | none => none | some l => some (v :: l)) = _
  cases ev A x <;> cases evL A r <;> rfl
theorem V2 (A : Frm) : evP A [] = some [] := nr rfl
theorem V3 (A : Frm) (i : Nat) (x : Operand) (r : List (Nat × Operand)) : evP A ((i, x) :: r) = consO ((ev A x).map fun v => (i, v)) (evP A r) := by
  show (match ev A x with | none => none | some v => match evP A r with | none => none | some l => some ((i, v) :: l)) = _
  cases ev A x <;> cases evP A r <;> rfl
theorem V4 (A : Frm) : evO A none = some none := nr rfl
theorem V5 (A : Frm) (x : Operand) : evO A (some x) = (ev A x).map some := by
  show (match ev A x with | none => none | some v => some (some v)) = _
  cases ev A x <;> rfl
theorem V6 (A : Frm) (f : Nat) (args : List Operand) (k : FuncId → List Value → Prop) : callee A (.func f) args k = nSome (evL A args) fun l => k f l := by
  unfold callee nSome
  rw [VY, asVal_some]
  unfold asSome
  apply propext
  constructor
  · rintro ⟨l, h1, g, a, b, h2, h3⟩
    cases h2
    exact ⟨l, h1, by simpa using h3⟩
  · rintro ⟨l, h1, h2⟩
    exact ⟨l, h1, f, [], [], rfl, by simpa using h2⟩
theorem V7 (A : Frm) (kt kf : Prop) : guardK A none kt kf = kt := nr rfl
def gK (v : Option Value) (want : Bool) (kt kf : Prop) (_h : Hold kt := .mk) (_h2 : Hold kf := .mk) : Prop := (∃ b, v = some (.bool b) ∧ (if b = want then kt else kf)) ∨ (v = some undef ∧ kf)
theorem V8 (A : Frm) (t : Nat) (want : Bool) (kt kf : Prop) : guardK A (some (some t, want)) kt kf = gK (A.get t) want kt kf := nr rfl
theorem V9 (b want : Bool) (kt kf : Prop) (h : Hold kt) (h2 : Hold kf) : gK (some (.bool b)) want kt kf h h2 = cnd (b == want) kt kf := by
  have e : cnd (b == want) kt kf = (if b = want then kt else kf) := by unfold cnd; cases b <;> cases want <;> rfl
  rw [e]
  unfold gK undef
  apply propext
  constructor
  · rintro (⟨c, h, k⟩ | ⟨h, -⟩)
    · cases h; exact k
    · cases h
  · intro h; exact .inl ⟨b, rfl, h⟩
theorem Ga (want : Bool) (kt kf : Prop) (h : Hold kt) (h2 : Hold kf) : gK (some undef) want kt kf h h2 = kf := by
  unfold gK undef
  apply propext
  constructor
  · rintro (⟨c, h, k⟩ | ⟨-, h⟩)
    · cases h
    · exact h
  · intro h; exact .inr ⟨rfl, h⟩
section
variable {P : Program} {Bar : Nat} {A : Frm} {X : St} {Q : Ex → Frm → St → Prop}
theorem Gb (K : Frm → St → Prop) : wpJ P Bar [] A X K = K A X := nr rfl
theorem Gc (n : Nat) (f : List (Nat × Value)) (g : Option (Option Tmp × Bool)) (d : Tmp) (i : I) (r : List J) (K : Frm → St → Prop) : wpJ P Bar (⟨g, some d, false, i⟩ :: r) ⟨n, f⟩ X K =
    guardK ⟨n, f⟩ g (efK P Bar ⟨n, f⟩ X i fun v X => wpJ P Bar r ⟨n, (d, v) :: f⟩ X K) (wpJ P Bar r ⟨n, (d, undef) :: f⟩ X K) := nr rfl
theorem Gd (n : Nat) (f : List (Nat × Value)) (g : Option (Option Tmp × Bool)) (i : I) (r : List J) (K : Frm → St → Prop) : wpJ P Bar (⟨g, none, false, i⟩ :: r) ⟨n, f⟩ X K =
    guardK ⟨n, f⟩ g (efK P Bar ⟨n, f⟩ X i fun _ X => wpJ P Bar r ⟨n, f⟩ X K) (wpJ P Bar r ⟨n, f⟩ X K) := nr rfl
theorem Ge (n : Nat) (f : List (Nat × Value)) (g : Option (Option Tmp × Bool)) (d : Tmp) (i : I) (r : List J) (K : Frm → St → Prop) : wpJ P Bar (⟨g, some d, true, i⟩ :: r) ⟨n, f⟩ X K =
    guardK ⟨n, f⟩ g (quK P Bar ⟨n, f⟩ X i fun v => wpJ P Bar r ⟨n, (d, v) :: f⟩ X K) (wpJ P Bar r ⟨n, (d, undef) :: f⟩ X K) := nr rfl
theorem Gf (n : Nat) (f : List (Nat × Value)) (g : Option (Option Tmp × Bool)) (i : I) (r : List J) (K : Frm → St → Prop) : wpJ P Bar (⟨g, none, true, i⟩ :: r) ⟨n, f⟩ X K =
    guardK ⟨n, f⟩ g (quK P Bar ⟨n, f⟩ X i fun _ => wpJ P Bar r ⟨n, f⟩ X K) (wpJ P Bar r ⟨n, f⟩ X K) := nr rfl
theorem Gg (R : St) (K : Frm → St → Prop) : wpP P Bar R [] A X K = K A X := nr rfl
theorem Gh (n : Nat) (f : List (Nat × Value)) (R : St) (g : Option (Option Tmp × Bool)) (d : Tmp) (i : I) (r : List (J × Bool)) (K : Frm → St → Prop) : wpP P Bar R ((⟨g, some d, false, i⟩, true) :: r) ⟨n, f⟩ X K =
    guardK ⟨n, f⟩ g (efK P Bar ⟨n, f⟩ X i fun v X => cj (Le R X) (wpP P Bar R r ⟨n, (d, v) :: f⟩ X K)) (wpP P Bar R r ⟨n, (d, undef) :: f⟩ X K) := by
  refine Eq.trans (b := guardK ⟨n, f⟩ g (efK P Bar ⟨n, f⟩ X i fun v X => (false = true ∨ Le R X) ∧ wpP P Bar R r ⟨n, (d, v) :: f⟩ X K) (wpP P Bar R r ⟨n, (d, undef) :: f⟩ X K)) rfl ?_
  simp only [Bool.false_eq_true, false_or]; rfl
theorem Gi (n : Nat) (f : List (Nat × Value)) (R : St) (g : Option (Option Tmp × Bool)) (i : I) (r : List (J × Bool)) (K : Frm → St → Prop) : wpP P Bar R ((⟨g, none, false, i⟩, true) :: r) ⟨n, f⟩ X K =
    guardK ⟨n, f⟩ g (efK P Bar ⟨n, f⟩ X i fun _ X => cj (Le R X) (wpP P Bar R r ⟨n, f⟩ X K)) (wpP P Bar R r ⟨n, f⟩ X K) := by
  refine Eq.trans (b := guardK ⟨n, f⟩ g (efK P Bar ⟨n, f⟩ X i fun _ X => (false = true ∨ Le R X) ∧ wpP P Bar R r ⟨n, f⟩ X K) (wpP P Bar R r ⟨n, f⟩ X K)) rfl ?_
  simp only [Bool.false_eq_true, false_or]; rfl
theorem ZA (n : Nat) (f : List (Nat × Value)) (R : St) (g : Option (Option Tmp × Bool)) (d : Tmp) (i : I) (r : List (J × Bool)) (K : Frm → St → Prop) : wpP P Bar R ((⟨g, some d, true, i⟩, true) :: r) ⟨n, f⟩ X K =
    guardK ⟨n, f⟩ g (efK P Bar ⟨n, f⟩ X i fun v X => wpP P Bar R r ⟨n, (d, v) :: f⟩ X K) (wpP P Bar R r ⟨n, (d, undef) :: f⟩ X K) := by
  refine Eq.trans (b := guardK ⟨n, f⟩ g (efK P Bar ⟨n, f⟩ X i fun v X => (true = true ∨ Le R X) ∧ wpP P Bar R r ⟨n, (d, v) :: f⟩ X K) (wpP P Bar R r ⟨n, (d, undef) :: f⟩ X K)) rfl ?_
  simp only [true_or, true_and]
theorem ZB (n : Nat) (f : List (Nat × Value)) (R : St) (g : Option (Option Tmp × Bool)) (i : I) (r : List (J × Bool)) (K : Frm → St → Prop) : wpP P Bar R ((⟨g, none, true, i⟩, true) :: r) ⟨n, f⟩ X K =
    guardK ⟨n, f⟩ g (efK P Bar ⟨n, f⟩ X i fun _ X => wpP P Bar R r ⟨n, f⟩ X K) (wpP P Bar R r ⟨n, f⟩ X K) := by
  refine Eq.trans (b := guardK ⟨n, f⟩ g (efK P Bar ⟨n, f⟩ X i fun _ X => (true = true ∨ Le R X) ∧ wpP P Bar R r ⟨n, f⟩ X K) (wpP P Bar R r ⟨n, f⟩ X K)) rfl ?_
  simp only [true_or, true_and]
theorem Gj (n : Nat) (f : List (Nat × Value)) (R : St) (g : Option (Option Tmp × Bool)) (d : Tmp) (q : Bool) (i : I) (r : List (J × Bool)) (K : Frm → St → Prop) : wpP P Bar R ((⟨g, some d, q, i⟩, false) :: r) ⟨n, f⟩ X K =
    guardK ⟨n, f⟩ g (rdK P ⟨n, f⟩ R i fun v => wpP P Bar R r ⟨n, (d, v) :: f⟩ X K) (wpP P Bar R r ⟨n, (d, undef) :: f⟩ X K) := nr rfl
def Loop (P : Program) (Bar : Nat) (b : C) (A : Frm) (X : St) (Q : Ex → Frm → St → Prop) (_h : Hold Q := .mk) (_h2 : Hold b := .mk) : Prop := wpC P Bar (.loop b) A X Q
theorem Zp (b : C) : wpC P Bar (.loop b) A X Q = Loop P Bar b A X Q := nr rfl
def Plan (P : Program) (Bar : Nat) (h : List (J × Bool)) (t : List J) (kp : Option (List Nat)) (A : Frm) (X : St) (Q : Ex → Frm → St → Prop) (_h : Hold Q := .mk) (_h2 : Hold h := .mk) (_h3 : Hold t := .mk) : Prop := wpC P Bar (.plan h t kp) A X Q
theorem Zq (h : List (J × Bool)) (t : List J) (kp : Option (List Nat)) : wpC P Bar (.plan h t kp) A X Q = Plan P Bar h t kp A X Q := nr rfl
theorem Gk : wpC P Bar .skip A X Q = Q .normal A X := nr rfl
theorem Gl (l : List J) (k : Option (List Nat)) : wpC P Bar (.ops l k) A X Q = wpJ P Bar l A X fun A X => nFrm (A.keep k) fun A => Q .normal A X := nr rfl
def sq (P : Program) (Bar : Nat) (b : C) (Q : Ex → Frm → St → Prop) : Ex → Frm → St → Prop := thn (fun A X => wpC P Bar b A X Q) Q
theorem Gm (a b : C) : wpC P Bar (.seq a b) A X Q = wpC P Bar a A X (sq P Bar b Q) := nr rfl
theorem Gx (b : C) : sq P Bar b Q .normal A X = wpC P Bar b A X Q := nr rfl
theorem Gy (b : C) (i : Nat) : sq P Bar b Q (.exit i) A X = Q (.exit i) A X := nr rfl
theorem Gz (b : C) : sq P Bar b Q .ret A X = Q .ret A X := nr rfl
theorem wpC_cond (x : Operand) (a b : C) : wpC P Bar (.cond x a b) A X Q = asBool (ev A x) fun t => if t then wpC P Bar a A X Q else wpC P Bar b A X Q := nr rfl
theorem Gr (id : Nat) (a : C) : wpC P Bar (.block id a) A X Q = wpC P Bar a A X (inB id Q) := nr rfl
theorem Gs (id : Nat) : wpC P Bar (.exit id) A X Q = Q (.exit id) A X := nr rfl
theorem Gt : wpC P Bar .ret A X Q = Q .ret A X := nr rfl
theorem thn_normal (K : Frm → St → Prop) : thn K Q .normal = K := nr rfl
theorem thn_exit (K : Frm → St → Prop) (id : Nat) : thn K Q (.exit id) = Q (.exit id) := nr rfl
theorem thn_ret (K : Frm → St → Prop) : thn K Q .ret = Q .ret := nr rfl
theorem inB_normal (id : Nat) : inB id Q .normal = Q .normal := nr rfl
theorem inB_ret (id : Nat) : inB id Q .ret = Q .ret := nr rfl
theorem inB_exit (id i : Nat) : inB id Q (.exit i) = if i = id then Q .normal else Q (.exit i) := nr rfl
theorem wpC_plan (R : St) (h : List (J × Bool)) (t : List J) (k : Option (List Nat)) (hR : Le R X) (hw : wpP P Bar R h A X fun A X => wpJ P Bar t A X fun A X => nFrm (A.keep k) fun A => Q .normal A X) {hh : Hold Q} {h2 : Hold h} {h3 : Hold t} : Plan P Bar h t k A X Q hh h2 h3 := ⟨R, hR, hw⟩

/-- A LOOP: the frame and what is known, as functions of what goes round -/
theorem wpC_loop {α : Type} {body : C} (fr : α → Frm) (st : α → St) (inv : α → Prop) (μ : α → Nat) (a0 : α) (hA : A = fr a0) (hX : Le (st a0) X) (h0 : inv a0)
    (h1 : ∀ a, inv a → wpC P Bar body (fr a) (st a) (thn (fun A' X' => ∃ a', A' = fr a' ∧ Le (st a') X' ∧ inv a' ∧ μ a' < μ a) Q)) {hh : Hold Q} {h2 : Hold body} : Loop P Bar body A X Q hh h2 := by
  refine ⟨fun m A X => ∃ a, A = fr a ∧ X = st a ∧ inv a ∧ μ a = m, μ a0, ⟨_, hX, a0, hA, rfl, h0, rfl⟩, ?_⟩
  rintro m A X ⟨a, rfl, rfl, h2, rfl⟩
  have := h1 a h2
  have e : thn (fun A' X' => ∃ a', A' = fr a' ∧ Le (st a') X' ∧ inv a' ∧ μ a' < μ a) Q = thn (fun A X => ∃ m', m' < μ a ∧ ∃ X0, Le X0 X ∧ ∃ a, A = fr a ∧ X0 = st a ∧ inv a ∧ μ a = m') Q := by
    funext x A X
    cases x with
    | normal =>
      apply propext
      constructor
      · rintro ⟨a', h3, h4, h5, h6⟩; exact ⟨_, h6, _, h4, a', h3, rfl, h5, rfl⟩
      · rintro ⟨m', h6, X0, h4, a', h3, rfl, h5, rfl⟩; exact ⟨a', h3, h4, h5, h6⟩
    | exit id => rfl
    | ret => rfl
  rw [← e]
  exact this
theorem wpC_mono {Q R : Ex → Frm → St → Prop} (hQ : ∀ x A X, Q x A X → R x A X) : True := trivial
theorem fin_normal (Q : Frm → St → Prop) : ((match Ex.normal with | .exit _ => False | _ => True) ∧ Q A X) = Q A X := by simp
end
theorem cellAt_get {X : St} {b o : Nat} {B : Blk} (h : X.get b = some B) : cellAt X b o = B.cells[o]? := by unfold cellAt; rw [h]
theorem cellsAt_get {X : St} {b o n : Nat} {B : Blk} (h : X.get b = some B) (hl : o + n ≤ B.cells.length) : cellsAt X b o n = some ((B.cells.drop o).take n) := by unfold cellsAt; rw [h]; simp only; rw [if_pos hl]
section
variable {P : Program} {Bar : Nat}
theorem Gn {A : Frm} {X : St} {Q : Ex → Frm → St → Prop} (x : Operand) (a b : C) : wpC P Bar (.cond x a b) A X Q = nBool (ev A x) fun t => cnd t (wpC P Bar a A X Q) (wpC P Bar b A X Q) := nr rfl
theorem Gu {K : Frm → St → Prop} {Q : Ex → Frm → St → Prop} {A : Frm} {X : St} : thn K Q .normal A X = K A X := nr rfl
theorem Gv {K : Frm → St → Prop} {Q : Ex → Frm → St → Prop} {A : Frm} {X : St} {i : Nat} : thn K Q (.exit i) A X = Q (.exit i) A X := nr rfl
theorem Gw {K : Frm → St → Prop} {Q : Ex → Frm → St → Prop} {A : Frm} {X : St} : thn K Q .ret A X = Q .ret A X := nr rfl
theorem GA {id : Nat} {Q : Ex → Frm → St → Prop} {A : Frm} {X : St} : inB id Q .normal A X = Q .normal A X := nr rfl
theorem GC {id : Nat} {Q : Ex → Frm → St → Prop} {A : Frm} {X : St} : inB id Q .ret A X = Q .ret A X := nr rfl
theorem GD {id : Nat} {Q : Ex → Frm → St → Prop} {A : Frm} {X : St} : inB id Q (.exit id) A X = Q .normal A X := by simp [inB]
theorem GE {id i : Nat} {Q : Ex → Frm → St → Prop} {A : Frm} {X : St} (h : i ≠ id) : inB id Q (.exit i) A X = Q (.exit i) A X := by simp [inB, h]
theorem Zr (b : Bool) : (b == true) = b := by cases b <;> rfl
theorem Zs (b : Bool) : (b == false) = !b := by cases b <;> rfl
theorem GN (b : Bool) : xor false b = b := by simp
theorem GO (b : Bool) : xor true b = !b := by simp
end
def cellOf (B : Option Blk) (o : Nat) : Option Value := match B with | some B => B.cells[o]? | none => none
def cellsOf (B : Option Blk) (o n : Nat) : Option (List Value) := match B with | some B => if o + n ≤ B.cells.length then some ((B.cells.drop o).take n) else none | none => none
theorem Zl (X : St) (b o : Nat) : cellAt X b o = cellOf (X.get b) o := nr rfl
theorem Zm (X : St) (b o n : Nat) : cellsAt X b o n = cellsOf (X.get b) o n := nr rfl
theorem Zn (B : Blk) (o : Nat) : cellOf (some B) o = B.cells[o]? := nr rfl
theorem Zo (B : Blk) (o n : Nat) : cellsOf (some B) o n = if o + n ≤ B.cells.length then some ((B.cells.drop o).take n) else none := nr rfl
theorem cellsOf_some {B : Blk} {o n : Nat} (h : o + n ≤ B.cells.length) : cellsOf (some B) o n = some ((B.cells.drop o).take n) := if_pos h
theorem Zt {n : Int} (h1 : -9223372036854775808 ≤ n) (h2 : n ≤ 9223372036854775807) : IntKind.i64.wrap n = n := by rw [IntKind.wrap_i64]; omega
theorem Zu {n : Int} (h1 : 0 ≤ n) (h2 : n ≤ 255) : IntKind.u8.wrap n = n := by
  have : IntKind.u8.wrap n = n % 256 := by
    unfold IntKind.wrap
    simp [IntKind.bits, IntKind.signed]
  rw [this]; omega
theorem G4 (k : IntKind) (n : Int) : (Value.int k n).cells = #[.int k n] := nr rfl
theorem G5 (b : Bool) : (Value.bool b).cells = #[.bool b] := nr rfl
theorem G6 (s : ByteArray) : (Value.string s).cells = #[.string s] := nr rfl
theorem G7 (a : Option Addr) : (Value.pointer a).cells = #[.pointer a] := nr rfl
theorem G8 (a : Option Addr) (n c : Nat) : (Value.slice a n c).cells = #[.slice a n c] := nr rfl
theorem G9 (l : List Value) : (Value.agg ⟨l⟩).cells = ⟨l⟩ := nr rfl
theorem Za (f : Fn) (a c : Array Value) : (Value.func f a c).cells = #[.func f a c] := nr rfl
theorem Zb (r : Option Nat) : (Value.map r).cells = #[.map r] := nr rfl
theorem Zc : Value.nilFunc.cells = #[.nilFunc] := nr rfl
theorem Zd : Value.nilIface.cells = #[.nilIface] := nr rfl
theorem Ze {P : Program} {A : Frm} {X : St} : resVs P A X [] = some [] := nr rfl
theorem Zf {P : Program} {A : Frm} {X : St} (r : ResultVar) (l : List ResultVar) : resVs P A X (r :: l) = consO (resV P A X r) (resVs P A X l) := by
  show (match resV P A X r with | none => none | some v => match resVs P A X l with | none => none | some l => some (v :: l)) = _
  cases resV P A X r <;> cases resVs P A X l <;> rfl
theorem Zg {P : Program} {A : Frm} {X : St} (t : Nat) : resV P A X (.tmp t) = A.get t := nr rfl
def aggO : Option (List Value) → Option Value | some l => some (.agg ⟨l⟩) | none => none
theorem Vn (l : List Value) : aggO (some l) = some (.agg ⟨l⟩) := nr rfl
def cellRes (v : Option Value) (X : St) (n : Option Nat) : Option Value :=
  match v with
  | some (.pointer (some ⟨b, o, none⟩)) => match n with | some n => aggO (cellsOf (X.get b) o n) | none => cellOf (X.get b) o
  | _ => none
theorem Vo (b o n : Nat) (X : St) : cellRes (some (.pointer (some ⟨b, o, none⟩))) X (some n) = aggO (cellsOf (X.get b) o n) := nr rfl
theorem Vp (b o : Nat) (X : St) : cellRes (some (.pointer (some ⟨b, o, none⟩))) X none = cellOf (X.get b) o := nr rfl
def resN (P : Program) (t : TypeId) : Option (Option Nat) := match P.underlying t, P.info? t with | some d, some i => some (if isAggD d then some i.size else none) | _, _ => none
theorem res_cell {P : Program} {t : TypeId} {n : Option Nat} (h : resN P t = some n) (A : Frm) (X : St) (a : Nat) : resV P A X (.cell a t) = cellRes (A.get a) X n := by
  unfold resN at h
  unfold resV cellRes
  split at h
  · rename_i d i hd hi
    cases h
    simp only [hd, hi]
    rcases A.get a with _ | v
    · rfl
    cases v <;> try rfl
    rename_i p
    rcases p with _ | ⟨b, o, _ | z⟩ <;> try rfl
    by_cases hg : isAggD d = true
    · simp only [hg, if_true]
      rw [Zm]
      cases cellsOf (X.get b) o i.size <;> rfl
    · simp only [hg]
      exact Zl X b o
  · cases h
theorem Zh (v : Value) : oneOf [v] = v := nr rfl
theorem Zi (v u : Value) (l : List Value) : oneOf (v :: u :: l) = .tuple ⟨v :: u :: l⟩ := nr rfl
theorem Zj : oneOf [] = undef := nr rfl
theorem Mod.below {Bar : Nat} {X : St} {w w' : World} (h : Mod Bar X w) (k : RowKit.Below w.heap.size w w') : Mod Bar X w' :=
  ⟨Nat.le_trans h.room k.size, Nat.le_trans h.next k.size, fun b B e => (h.blk b B e).congr (k.block b (Nat.lt_of_lt_of_le (St.lt e) h.next)), fun b o e => (h.obj b o e).congr (k.block b (Nat.lt_of_lt_of_le (St.olt e) h.next))⟩
/-- a call of which a contract over worlds is known: it leaves all blocks as they are -/
theorem Does.of_below {P : Program} {Bar : Nat} {f : FuncId} {args : List Value} {X : St} {v : Value} (hb : ∃ fn, P.funcs[f]? = some fn ∧ fn.body.isSome = true)
    (h : ∀ w, Calls P f args.toArray w fun e w' => e = .returned v ∧ RowKit.Below w.heap.size w w') : Does P Bar f args X (fun u X' => u = v ∧ X' = X) :=
  ⟨hb, fun w hw => (h w).mono fun e w' ⟨h1, h2⟩ => ⟨v, X, h1, ⟨rfl, rfl⟩, hw.below h2, h2.mono hw.room⟩⟩
def fillP (place : Nat → Option (Nat × Nat)) (p : Option (Nat × Nat)) (cells : List Value) (v : Value) (rest : List (Nat × Value)) : Option (List Value) :=
  match p with
  | none => none
  | some (off, size) => if v.cells.toList.length = size ∧ off + v.cells.toList.length ≤ cells.length then fillL place (setRange cells off v.cells.toList) rest else none
theorem Vi (place : Nat → Option (Nat × Nat)) (cells : List Value) : fillL place cells [] = some cells := nr rfl
theorem Vj (place : Nat → Option (Nat × Nat)) (cells : List Value) (i : Nat) (v : Value) (rest : List (Nat × Value)) : fillL place cells ((i, v) :: rest) = fillP place (place i) cells v rest := by
  unfold fillP
  rw [fillL]
  all_goals (rcases place i with _ | ⟨o, n⟩ <;> rfl)
theorem Vk (place : Nat → Option (Nat × Nat)) (off size : Nat) (cells : List Value) (v : Value) (rest : List (Nat × Value)) : fillP place (some (off, size)) cells v rest = if v.cells.toList.length = size ∧ off + v.cells.toList.length ≤ cells.length then fillL place (setRange cells off v.cells.toList) rest else none := nr rfl
theorem Vl (cs : List Value) (off : Nat) : setRange cs off [] = cs := nr rfl
theorem Vm (cs : List Value) (off : Nat) (v : Value) (r : List Value) : setRange cs off (v :: r) = setRange (cs.set off v) (off + 1) r := nr rfl
theorem Vq (k : IntKind) (n : Int) : single (.int k n) = true := nr rfl
theorem Vr (b : Bool) : single (.bool b) = true := nr rfl
theorem Vs (s : ByteArray) : single (.string s) = true := nr rfl
theorem Vt (a : Option Addr) : single (.pointer a) = true := nr rfl
theorem Vu (a : Option Addr) (n c : Nat) : single (.slice a n c) = true := nr rfl
theorem Vv (f : Fn) (a c : Array Value) : single (.func f a c) = true := nr rfl
theorem Vw (r : Option Nat) : single (.map r) = true := nr rfl
theorem Vx : single .nilFunc = true := nr rfl
theorem Vy : single .nilIface = true := nr rfl
theorem Vz (p : Value → Prop) : (∀ x, x ∈ ([] : List Value) → p x) = True := by simp
theorem VA (l : List Value) (o : Nat) : splice l o [] = l := by simp [splice]
theorem VB (a b : Value) (l m : List Value) : splice (a :: l) 0 (b :: m) = b :: splice l 0 m := by simp [splice]
theorem VC (a : Value) (l m : List Value) (o : Nat) : splice (a :: l) (o + 1) m = a :: splice l o m := by simp [splice, Nat.add_right_comm]
theorem VD (X : St) (b : Nat) (B C : Blk) : (X.new b B).set b C = X.new b C := by
  unfold St.set St.new
  congr 1
  funext m
  by_cases h : m = b <;> simp [h]
theorem VE (X : St) (b : Nat) (B C : Blk) : (X.set b B).set b C = X.set b C := by
  unfold St.set
  congr 1
  funext m
  by_cases h : m = b <;> simp [h]
theorem VF {X : St} {b c : Nat} {B C : Blk} (h : b ≠ c) (hb : b < X.next) : (X.new c B).set b C = (X.set b C).new c B := by
  unfold St.set St.new St.get
  congr 1
  · funext m
    by_cases h1 : m = b
    · subst h1; simp [h, hb]
    · simp [h1]
end Go.Sym

/- PRINTED BY symall.py: the equations of a walk that are used on the way down, in one bundle. -/
namespace Go.Sym
set_option linter.unusedVariables false
theorem SA : type_of% (And.intro (And.intro (And.intro (And.intro (And.intro (And.intro (And.intro @Qa @Qb) (And.intro @Qc (And.intro @Qd @Qe))) (And.intro (And.intro @Qf @Qg) (And.intro @Qh (And.intro @Qi @Qj)))) (And.intro (And.intro (And.intro @Qk @Ql) (And.intro @Qm (And.intro @Qn @Qo))) (And.intro (And.intro @Qp @Qq) (And.intro @Qr (And.intro @Qs @Qt))))) (And.intro (And.intro (And.intro (And.intro @Qu @Qv) (And.intro @Qw (And.intro @Qx @Qy))) (And.intro (And.intro @Qz @QA) (And.intro @QB (And.intro @QC @QD)))) (And.intro (And.intro (And.intro @QE @QF) (And.intro @QG (And.intro @QH @QI))) (And.intro (And.intro @QJ @QK) (And.intro @QL (And.intro @QM @QN)))))) (And.intro (And.intro (And.intro (And.intro (And.intro @QO @QP) (And.intro @QQ (And.intro @QR @QS))) (And.intro (And.intro @QT @QU) (And.intro @QV (And.intro @QW @QX)))) (And.intro (And.intro (And.intro @QY @QZ) (And.intro @Q0 (And.intro @Q1 @Q2))) (And.intro (And.intro @Q3 @Q4) (And.intro @Q5 (And.intro @Q6 @Q7))))) (And.intro (And.intro (And.intro (And.intro @Q8 @Q9) (And.intro @Ja (And.intro @Jb @Jc))) (And.intro (And.intro @Jd @Je) (And.intro @Jf (And.intro @Jg @Jh)))) (And.intro (And.intro (And.intro @Ji @Jj) (And.intro @Jk (And.intro @Jl @Jm))) (And.intro (And.intro @Jn (And.intro @Jo @Jp)) (And.intro @Jq (And.intro @Jr @Js))))))) (And.intro (And.intro (And.intro (And.intro (And.intro (And.intro @Jt @Ju) (And.intro @Jv (And.intro @Jw @Jx))) (And.intro (And.intro @Jy @Jz) (And.intro @JA (And.intro @JB @JC)))) (And.intro (And.intro (And.intro @JD @JE) (And.intro @JF (And.intro @JG @JH))) (And.intro (And.intro @JI @JJ) (And.intro @JK (And.intro @JL @JM))))) (And.intro (And.intro (And.intro (And.intro @JN @JO) (And.intro @JP (And.intro @JQ @JR))) (And.intro (And.intro @JS @JT) (And.intro @JU (And.intro @JV @JW)))) (And.intro (And.intro (And.intro @JX @JY) (And.intro @JZ (And.intro @J3 @J4))) (And.intro (And.intro @J5 @J6) (And.intro @J7 (And.intro @J8 @J9)))))) (And.intro (And.intro (And.intro (And.intro (And.intro @Va @Vb) (And.intro @Vc (And.intro @Vd @Ve))) (And.intro (And.intro @Vf @Vg) (And.intro @Vh (And.intro @V6 @V7)))) (And.intro (And.intro (And.intro @V8 @Gb) (And.intro @Gc (And.intro @Gd @Ge))) (And.intro (And.intro @Gf @Gg) (And.intro @Gh (And.intro @Gi @ZA))))) (And.intro (And.intro (And.intro (And.intro @ZB @Gj) (And.intro @Gk (And.intro @Gl @Gm))) (And.intro (And.intro @Gn @Gr) (And.intro @Gs (And.intro @Gt @Gu)))) (And.intro (And.intro (And.intro @Gv @Gw) (And.intro @Gx (And.intro @Gy @Gz))) (And.intro (And.intro @GA (And.intro @GC @GD)) (And.intro @GE (And.intro @Zp @Zq)))))))) := (And.intro (And.intro (And.intro (And.intro (And.intro (And.intro (And.intro @Qa @Qb) (And.intro @Qc (And.intro @Qd @Qe))) (And.intro (And.intro @Qf @Qg) (And.intro @Qh (And.intro @Qi @Qj)))) (And.intro (And.intro (And.intro @Qk @Ql) (And.intro @Qm (And.intro @Qn @Qo))) (And.intro (And.intro @Qp @Qq) (And.intro @Qr (And.intro @Qs @Qt))))) (And.intro (And.intro (And.intro (And.intro @Qu @Qv) (And.intro @Qw (And.intro @Qx @Qy))) (And.intro (And.intro @Qz @QA) (And.intro @QB (And.intro @QC @QD)))) (And.intro (And.intro (And.intro @QE @QF) (And.intro @QG (And.intro @QH @QI))) (And.intro (And.intro @QJ @QK) (And.intro @QL (And.intro @QM @QN)))))) (And.intro (And.intro (And.intro (And.intro (And.intro @QO @QP) (And.intro @QQ (And.intro @QR @QS))) (And.intro (And.intro @QT @QU) (And.intro @QV (And.intro @QW @QX)))) (And.intro (And.intro (And.intro @QY @QZ) (And.intro @Q0 (And.intro @Q1 @Q2))) (And.intro (And.intro @Q3 @Q4) (And.intro @Q5 (And.intro @Q6 @Q7))))) (And.intro (And.intro (And.intro (And.intro @Q8 @Q9) (And.intro @Ja (And.intro @Jb @Jc))) (And.intro (And.intro @Jd @Je) (And.intro @Jf (And.intro @Jg @Jh)))) (And.intro (And.intro (And.intro @Ji @Jj) (And.intro @Jk (And.intro @Jl @Jm))) (And.intro (And.intro @Jn (And.intro @Jo @Jp)) (And.intro @Jq (And.intro @Jr @Js))))))) (And.intro (And.intro (And.intro (And.intro (And.intro (And.intro @Jt @Ju) (And.intro @Jv (And.intro @Jw @Jx))) (And.intro (And.intro @Jy @Jz) (And.intro @JA (And.intro @JB @JC)))) (And.intro (And.intro (And.intro @JD @JE) (And.intro @JF (And.intro @JG @JH))) (And.intro (And.intro @JI @JJ) (And.intro @JK (And.intro @JL @JM))))) (And.intro (And.intro (And.intro (And.intro @JN @JO) (And.intro @JP (And.intro @JQ @JR))) (And.intro (And.intro @JS @JT) (And.intro @JU (And.intro @JV @JW)))) (And.intro (And.intro (And.intro @JX @JY) (And.intro @JZ (And.intro @J3 @J4))) (And.intro (And.intro @J5 @J6) (And.intro @J7 (And.intro @J8 @J9)))))) (And.intro (And.intro (And.intro (And.intro (And.intro @Va @Vb) (And.intro @Vc (And.intro @Vd @Ve))) (And.intro (And.intro @Vf @Vg) (And.intro @Vh (And.intro @V6 @V7)))) (And.intro (And.intro (And.intro @V8 @Gb) (And.intro @Gc (And.intro @Gd @Ge))) (And.intro (And.intro @Gf @Gg) (And.intro @Gh (And.intro @Gi @ZA))))) (And.intro (And.intro (And.intro (And.intro @ZB @Gj) (And.intro @Gk (And.intro @Gl @Gm))) (And.intro (And.intro @Gn @Gr) (And.intro @Gs (And.intro @Gt @Gu)))) (And.intro (And.intro (And.intro @Gv @Gw) (And.intro @Gx (And.intro @Gy @Gz))) (And.intro (And.intro @GA (And.intro @GC @GD)) (And.intro @GE (And.intro @Zp @Zq))))))))
end Go.Sym

