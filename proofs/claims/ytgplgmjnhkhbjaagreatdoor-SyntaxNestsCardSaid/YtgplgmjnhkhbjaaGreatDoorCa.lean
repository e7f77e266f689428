/-
  A closed run reckoned: the memory as numbered rows, the operations on it, that it is right, and its fast form (part Ca).
-/
import Derived.Orders
import Derived.Below
import Derived.Scope
import Derived.LoopN
import Derived.ChangeKeysEq
import Derived.Laws.Cells
import Derived.Laws.IdiomCopy
import Derived.WalkSpells
import Derived.Laws.MakeOwn
import Derived.Laws.IdiomStrings
set_option linter.unusedVariables false
set_option linter.unusedSimpArgs false
namespace Ce
open Go

/-- A tree by numbers: at a node the number 0, left the odd ones, right the even ones. -/
inductive Tr (α : Type) where
  | nil
  | node (l : Tr α) (v : α) (r : Tr α)

namespace Tr
variable {α : Type}

def get : Tr α → Nat → Option α
  | .nil, _ => none
  | .node l v r, i => cond (Nat.beq i 0) (some v) (cond (Nat.beq (Nat.mod i 2) 1) (l.get (Nat.div i 2)) (r.get (Nat.sub (Nat.div i 2) 1)))

/-- Another value at a number that is there. -/
def upd (x : α) : Tr α → Nat → Tr α
  | .nil, _ => .nil
  | .node l v r, i => cond (Nat.beq i 0) (.node l x r) (cond (Nat.beq (Nat.mod i 2) 1) (.node (l.upd x (Nat.div i 2)) v r) (.node l v (r.upd x (Nat.sub (Nat.div i 2) 1))))

/-- n times one value. -/
def rep (x : α) : Nat → Nat → Tr α
  | 0, _ => .nil
  | k + 1, n => cond (Nat.beq n 0) .nil (.node (rep x k (Nat.div n 2)) x (rep x k (Nat.div (Nat.sub n 1) 2)))

/-- A value behind the last one: number n. -/
def put (x d : α) : Nat → Tr α → Nat → Tr α
  | 0, t, _ => t
  | k + 1, .nil, i => cond (Nat.beq i 0) (.node .nil x .nil) (cond (Nat.beq (Nat.mod i 2) 1) (.node (put x d k .nil (Nat.div i 2)) d .nil) (.node .nil d (put x d k .nil (Nat.sub (Nat.div i 2) 1))))
  | k + 1, .node l v r, i => cond (Nat.beq i 0) (.node l x r) (cond (Nat.beq (Nat.mod i 2) 1) (.node (put x d k l (Nat.div i 2)) v r) (.node l v (put x d k r (Nat.sub (Nat.div i 2) 1))))

/-- A row of values from a number on. -/
def updL : Tr α → Nat → List α → Tr α
  | t, _, [] => t
  | t, i, x :: xs => updL (t.upd x i) (i + 1) xs

def getL (t : Tr α) : Nat → Nat → Option (List α)
  | _, 0 => some []
  | i, n + 1 => match t.get i with
    | none => none
    | some v => match t.getL (i + 1) n with
      | none => none
      | some l => some (v :: l)

end Tr

/-- What a number stands for: a row of cells (how many; those below fz may be frozen; ro: not to be written; elem: twice the elements' type, and one more if it is a whole block), a map, a walk over a text; dead: not known any more. -/
inductive Ob where
  | row (size : Nat) (cells : Tr Value) (fz : Nat) (ro : Bool) (elem : TypeId)
  | map (es : Array MapEntry) (clock : Nat)
  | iter (s : ByteArray) (pos : Nat)
  | dead

abbrev Hp := Tr Ob

/-- No address anywhere in it. -/
def flat : Nat → Value → Bool
  | _, .int .. | _, .bool _ | _, .string _ | _, .float .. | _, .complex .. | _, .nilFunc | _, .nilIface => true
  | _, .pointer none | _, .map none | _, .slice none 0 0 => true
  | n + 1, .agg cs => cs.toList.all (flat n)
  | n + 1, .tuple cs => cs.toList.all (flat n)
  | n + 1, .iface _ v => flat n v
  | _, _ => false

/-- The operations that look at nothing but the program. -/
def pureRun {α : Type} (P : Program) : Sem α → Option α
  | .pure a => some a
  | .program k => pureRun P (k P)
  | .mark _ k => pureRun P k
  | _ => none

/-- Are two values the same, as far as can be told? -/
def same : Nat → Value → Value → Bool
  | _, .bool a, .bool b => a == b
  | _, .int j a, .int k b => decide (j = k) && decide (a = b)
  | _, .float j a, .float k b => decide (j = k) && decide (a = b)
  | _, .string a, .string b => decide (a = b)
  | _, .pointer a, .pointer b => decide (a = b)
  | _, .slice a n c, .slice b m d => decide (a = b) && decide (n = m) && decide (c = d)
  | _, .map a, .map b => decide (a = b)
  | _, .nilFunc, .nilFunc => true
  | _, .nilIface, .nilIface => true
  | n + 1, .iface t v, .iface u w => decide (t = u) && same n v w
  | n + 1, .agg a, .agg b => decide (a.size = b.size) && (a.toList.zip b.toList).all fun p => same n p.1 p.2
  | n + 1, .tuple a, .tuple b => decide (a.size = b.size) && (a.toList.zip b.toList).all fun p => same n p.1 p.2
  | _, _, _ => false

/-- The program, its functions as a table, the package-level variables that are known; functions without a body; functions whose calls are known otherwise. -/
structure Env where
  P : Program
  F : Nat → Option Func
  G : Nat → Bool
  X : Nat → Option (Array Value → Sem Value) := fun _ => none
  M : Nat → Option (List Value → Hp → Nat → Option (Value × Hp × Nat)) := fun _ => none

/-- An operand's value. -/
def opd (E : Env) (tm : Tr Value) : Operand → Option Value
  | .tmp t => tm.get t
  | .const v => cond (flat 3 v) (some v) none
  | .global g => cond (E.G g) (some (.pointer (some ⟨g, 0, none⟩))) none
  | .func f => some (.func (.func f) #[] #[])

def opds (E : Env) (tm : Tr Value) : List Operand → Option (List Value)
  | [] => some []
  | x :: xs => match opd E tm x with
    | none => none
    | some v => match opds E tm xs with
      | none => none
      | some l => some (v :: l)

/-- What an operation leaves: its value, the memory, the next free number. -/
abbrev Rs := Option (Value × Hp × Nat)

def sizeAt (P : Program) (t : TypeId) : Option Nat := (P.info? t).map (·.size)

/-- A new row. -/
def newRow (H : Hp) (c : Nat) (cells : List Value) (elem : TypeId) (k : Nat → Value) : Rs :=
  match H.get c, Nat.blt c 9223372036854775808 with
  | none, true => some (k c, H.put (.row cells.length (Tr.updL (Tr.rep undef 64 cells.length) 0 cells) 0 false elem) .dead 64 c, c + 1)
  | _, _ => none

def newOb (H : Hp) (c : Nat) (o : Ob) (k : Nat → Value) : Rs :=
  match H.get c, Nat.blt c 9223372036854775808 with
  | none, true => some (k c, H.put o .dead 64 c, c + 1)
  | _, _ => none

/-- The cells of a row from a place on. -/
def readRow (H : Hp) (r o n : Nat) : Option (List Value) :=
  match H.get r with
  | some (.row _ cells _ _ _) => cells.getL o n
  | _ => none

/-- Is it the value of one cell? -/
def oneC : Value → Bool
  | .agg _ | .tuple _ => false
  | _ => true

/-- Cells written to a row. -/
def writeRow (H : Hp) (r o : Nat) (vs : List Value) : Option Hp :=
  match H.get r with
  | some (.row size cells fz false elem) =>
    cond (Nat.ble (o + vs.length) size && Nat.ble fz o && vs.all oneC) (some (H.upd (.row size (cells.updL o vs) fz false elem) r)) none
  | _ => none

def isAgg? (P : Program) (t : TypeId) : Option Bool :=
  match P.underlying t with
  | some (.struct _) => some true
  | some (.array _ _) => some true
  | some _ => some false
  | none => none

/-- A part of an aggregate. -/
def evPart (P : Program) (t : TypeId) (cs : Array Value) (off : Nat) : Option Value :=
  match isAgg? P t, sizeAt P t with
  | some true, some n => some (.agg (cs.extract off (off + n)))
  | some false, _ => cs[off]?
  | _, _ => none

/-- The cells of a value that is appended or copied from. -/
def firstOf (H : Hp) (size n : Nat) : Value → Option (List Value)
  | .slice (some ⟨r, o, _⟩) _ _ => readRow H r o (n * size)
  | .slice none _ _ => some []
  | .string s => some ((s.data.toList.take n).map fun b => .int .u8 b.toNat)
  | _ => none

def lenOf? : Value → Option Nat
  | .slice _ n _ => some n
  | .string s => some s.size
  | _ => none

def ifaceD : TypeDesc → Bool
  | .interface _ => true
  | _ => false

/-- What may be appended. -/
def runD : TypeDesc → Bool
  | .slice _ | .string => true
  | _ => false

/-- Keys that are compared at once. -/
def keyD : TypeDesc → Bool
  | .int _ | .string | .bool => true
  | _ => false

/-- append: in place where there is room for sure; else to a new row, and the old one is not known any more. -/
def evAppend (E : Env) (argTypes : Array TypeId) (s x : Value) (H : Hp) (c : Nat) : Rs :=
  match argTypes[0]?, argTypes[1]? with
  | some sType, some xType =>
    match E.P.underlying sType, E.P.underlying xType with
    | some (.slice elem), some xd =>
      if !runD xd then none else
      match E.P.info? elem, s, lenOf? x with
      | some inf, .slice base n cap, some m =>
        let size := inf.size
        if size = 0 then none else
        match firstOf H size m x with
        | none => none
        | some new =>
          if n + m ≤ cap then
            match base with
            | none => if m = 0 then some (.slice none 0 0, H, c) else none
            | some ⟨r, o, some sz⟩ =>
              if m = 0 then some (.slice base n cap, H, c) else
              if sz ≠ size then none else
              match writeRow H r (o + n * size) new with
              | some H' => some (.slice base (n + m) cap, H', c)
              | none => none
            | _ => none
          else if (n + m) * inf.bytes > 2 ^ 40 || (n + m) > 2 ^ 40 || (inf.zero.map (·.cells.size)) ≠ some size || new.length ≠ m * size then none else
            match base with
            | none => newRow H c new (2 * elem) fun r => .slice (some ⟨r, 0, some size⟩) (n + m) (n + m)
            | some ⟨r, o, some sz⟩ =>
              match H.get r with
              | some (.row _ cells fz false el) =>
                if sz ≠ size || el / 2 ≠ elem || fz ≠ 0 || !new.all oneC then none else
                match cells.getL o (n * size) with
                | some old => newRow (H.upd .dead r) c (old ++ new) (2 * elem) fun r => .slice (some ⟨r, 0, some size⟩) (n + m) (n + m)
                | none => none
              | _ => none
            | _ => none
      | _, _, _ => none
    | _, _ => none
  | _, _ => none

def evCopy (E : Env) (argTypes : Array TypeId) (d s : Value) (H : Hp) (c : Nat) : Rs :=
  match argTypes[0]? with
  | some dType =>
    match E.P.underlying dType with
    | some (.slice elem) =>
      match sizeAt E.P elem, d, lenOf? s with
      | some size, .slice base dn _, some sn =>
        let n := Nat.min sn dn
        match firstOf H size n s, base with
        | some cells, some ⟨r, o, some sz⟩ =>
          if sz ≠ size then none else
          if cells.isEmpty then some (goInt n, H, c) else
          match writeRow H r o cells with
          | some H' => some (goInt n, H', c)
          | none => none
        | some _, none => some (goInt n, H, c)
        | _, _ => none
      | _, _, _ => none
    | _ => none
  | _ => none

/-- The number of an entry by a flat key. -/
def findEntry (kind : TypeDesc) (k : Value) (es : Array MapEntry) : Option (Option (Nat × Value)) := Instr.findNow kind k es.toList 0

/-- A map's entries. -/
def entsOf (H : Hp) : Value → Option (Array MapEntry)
  | .map none => some #[]
  | .map (some r) => match H.get r with
    | some (.map es _) => some es
    | _ => none
  | _ => none

def evLookup (E : Env) (xType : TypeId) (x ix : Value) (ok : Bool) (H : Hp) : Option Value :=
  match E.P.underlying xType with
  | some (.map key elem) =>
    match E.P.underlying key, (E.P.info? elem).bind (·.zero) with
    | some kd, some z =>
      if !keyD kd || !flat 3 z || !flat 0 ix then none else
      match entsOf H x with
      | none => none
      | some es => match findEntry kd ix es with
        | some (some (_, v)) => some (if ok then .tuple #[v, .bool true] else v)
        | some none => some (if ok then .tuple #[z, .bool false] else z)
        | none => none
    | _, _ => none
  | _ => none

def evMapPut (E : Env) (mapType : TypeId) (m k v : Value) (H : Hp) (c : Nat) : Rs :=
  match E.P.underlying mapType with
  | some (.map key _) =>
    match E.P.underlying key, m with
    | some kd, .map (some r) =>
      if !keyD kd || !flat 0 k then none else
      match H.get r with
      | some (.map es clock) =>
        match findEntry kd k es with
        | some (some (i, _)) => match es[i]? with
          | some e => cond (Instr.sameBits 10000 e.key k) (some (undef, H.upd (.map (es.modify i fun e => { e with key := k, val := v }) clock) r, c)) none
          | none => none
        | some none => some (undef, H.upd (.map (es.push { key := k, val := v, born := clock }) (clock + 1)) r, c)
        | none => none
      | _ => none
    | _, _ => none
  | _ => none

def evDelete (E : Env) (argTypes : Array TypeId) (m k : Value) (H : Hp) (c : Nat) : Rs :=
  match argTypes[0]? with
  | some mapType =>
    match E.P.underlying mapType with
    | some (.map key _) =>
      match E.P.underlying key, m with
      | some kd, .map (some r) =>
        if !keyD kd || !flat 0 k then none else
        match H.get r with
        | some (.map es clock) =>
          match findEntry kd k es with
          | some (some (i, _)) => some (.tuple #[], H.upd (.map (es.eraseIdxIfInBounds i) clock) r, c)
          | some none => some (.tuple #[], H.upd (.map es clock) r, c)
          | none => none
        | _ => none
      | _, _ => none
    | _ => none
  | _ => none

def intOf? : Value → Option Int
  | .int _ n => some n
  | _ => none

/-- Bounds of a slice expression: low and high within len of a text, cap of a slice. -/
def boundsOf (len cap : Nat) (lo hi : Option Value) : Option (Nat × Nat) :=
  match (match hi with | some v => intOf? v | none => some (Int.ofNat len)), (match lo with | some v => intOf? v | none => some 0) with
  | some (.ofNat h), some (.ofNat l) => if h ≤ cap ∧ l ≤ h then some (l, h) else none
  | _, _ => none

def optOpd (E : Env) (tm : Tr Value) : Option Operand → Option (Option Value)
  | none => some none
  | some x => (opd E tm x).map some

def nilNess : Value → Option Bool
  | .pointer none | .slice none _ _ | .map none | .nilFunc | .nilIface => some true
  | .pointer (some _) | .slice (some _) _ _ | .map (some _) | .func .. | .iface .. => some false
  | _ => none

/-- Is one of two values nil, and the other not? Then they are not equal. -/
def nilApart (d : TypeDesc) (x y : Value) : Bool :=
  match d, x, y with
  | .pointer _, .pointer none, .pointer (some _) | .pointer _, .pointer (some _), .pointer none
  | .slice _, .slice none _ _, .slice (some _) _ _ | .slice _, .slice (some _) _ _, .slice none _ _
  | .map _ _, .map none, .map (some _) | .map _ _, .map (some _), .map none
  | .func _ _ _, .nilFunc, .func .. | .func _ _ _, .func .., .nilFunc
  | .interface _, .nilIface, .iface .. | .interface _, .iface .., .nilIface => true
  | _, _, _ => false

/-- A builtin of flat values. -/
def evFlat (E : Env) (s : Array Value → Sem Value) (vs : List Value) (H : Hp) (c : Nat) : Rs :=
  if vs.all (flat 3) then
    match pureRun E.P (s vs.toArray) with
    | some v => if flat 3 v then some (v, H, c) else none
    | none => none
  else none

/-- An operation that is no call of a function. -/
def evOp (E : Env) (o : Oper) (tm : Tr Value) (H : Hp) (c : Nat) : Rs :=
  match o.op with
  | .move x | .assign x => match opd E tm x with | some v => some (v, H, c) | none => none
  | .pick q x y => match opd E tm q with
    | some (.bool b) => match opd E tm (if b then x else y) with | some v => some (v, H, c) | none => none
    | _ => none
  | .alloc elem => match E.P.info? elem with
    | some inf => match inf.zero with
      | some z => if flat 3 z then newRow H c z.cells.toList (2 * elem + 1) fun r => .pointer (some ⟨r, 0, none⟩) else none
      | none => none
    | none => none
  | .box elem x => match opd E tm x with
    | some v => newRow H c v.cells.toList (2 * elem + 1) fun r => .pointer (some ⟨r, 0, none⟩)
    | none => none
  | .build t parts => match opds E tm (parts.toList.map (·.2)) with
    | some vs => match (E.P.info? t).bind (·.zero), E.P.underlying t with
      | some z, some (.struct fields) => cond (flat 3 z) (match pureRun E.P (fields.mapM fun f => do pure (f.offset, ← sizeOf f.type)) with
        | some places => match Instr.fill (places[·]?) z.cells ((parts.toList.map (·.1)).zip vs) with
          | some cells => some (.agg cells, H, c)
          | none => none
        | none => none) none
      | some z, some (.array _ elem) => cond (flat 3 z) (match sizeAt E.P elem with
        | some size => match Instr.fill (fun i => some (i * size, size)) z.cells ((parts.toList.map (·.1)).zip vs) with
          | some cells => some (.agg cells, H, c)
          | none => none
        | none => none) none
      | _, _ => none
    | none => none
  | .buildSlice t len parts => match opds E tm (parts.toList.map (·.2)) with
    | some vs => match E.P.underlying t with
      | some (.slice elem) => match E.P.info? elem with
        | some inf => match inf.zero with
          | some z =>
            if len * inf.size > 2 ^ 24 || !flat 3 z || inf.size ≠ z.cells.size then none else
            match Instr.fill (fun i => some (i * inf.size, inf.size)) ((List.replicate len z.cells.toList).flatten.toArray) ((parts.toList.map (·.1)).zip vs) with
            | some cells => newRow H c cells.toList (2 * elem + 1) fun r => .slice (some ⟨r, 0, some inf.size⟩) len len
            | none => none
          | none => none
        | none => none
      | _ => none
    | none => none
  | .load t x => match opd E tm x, isAgg? E.P t with
    | some (.pointer (some ⟨r, off, none⟩)), some true => match sizeAt E.P t with
      | some n => match readRow H r off n with | some l => some (.agg l.toArray, H, c) | none => none
      | none => none
    | some (.pointer (some ⟨r, off, none⟩)), some false => match H.get r with
      | some (.row _ cells _ _ _) => match cells.get off with | some v => some (v, H, c) | none => none
      | _ => none
    | _, _ => none
  | .store t x y => match opd E tm x, opd E tm y, sizeAt E.P t with
    | some (.pointer (some ⟨r, off, none⟩)), some v, some n =>
      if v.cells.size ≠ n then none else
      if n = 0 then some (undef, H, c) else
      match writeRow H r off v.cells.toList with
      | some H' => some (undef, H', c)
      | none => none
    | _, _, _ => none
  | .nilCheck x => match opd E tm x with
    | some (.pointer (some a)) => some (.pointer (some a), H, c)
    | some (.func (.func f) first captured) => some (.func (.func f) first captured, H, c)
    | some (.iface t v) => some (.iface t v, H, c)
    | _ => none
  | .binOp op t x y _ => match opd E tm x, opd E tm y with
    | some a, some b =>
      if flat 3 a && flat 3 b then
        match pureRun E.P (do eqGuard op t x y a b; binOp op t a b) with
        | some v => if flat 3 v then some (v, H, c) else none
        | none => none
      else match op, E.P.underlying t with
        | .eql, some d => if nilApart d a b then some (.bool false, H, c) else none
        | .neq, some d => if nilApart d a b then some (.bool true, H, c) else none
        | _, _ => none
    | _, _ => none
  | .unOp op _ x => match opd E tm x with
    | some a => if flat 3 a then
        match pureRun E.P (Op.unary op a) with
        | some v => if flat 3 v then some (v, H, c) else none
        | none => none
      else none
    | none => none
  | .convert src dst x => match opd E tm x with
    | some a =>
      if flat 3 a then
        match E.P.underlying dst with
        | some (.slice e) =>
          match a, E.P.underlying e, E.P.info? e, E.P.underlying src with
          | .string s, some (.int .u8), some inf, some .string =>
            if inf.size = 1 then newRow H c (s.data.toList.map fun x => .int .u8 x.toNat) (2 * e) fun r => .slice (some ⟨r, 0, some 1⟩) s.size s.size else none
          | _, _, _, _ => none
        | _ => match pureRun E.P (convert src dst a) with
          | some v => if flat 3 v then some (v, H, c) else none
          | none => none
      else none
    | none => none
  | .makeInterface t x => match opd E tm x, E.P.underlying t with
    | some v, some d => if ifaceD d then none else some (.iface t v, H, c)
    | _, _ => none
  | .makeFunc fn first captured => match opds E tm first.toList, opds E tm captured.toList with
    | some fs, some cs => some (.func fn fs.toArray cs.toArray, H, c)
    | _, _ => none
  | .makeMap _ r => match r with
    | none => newOb H c (.map #[] 0) fun r => .map (some r)
    | some _ => none
  | .makeSlice t l k => match opd E tm l, opd E tm k, E.P.underlying t with
    | some (.int _ (.ofNat n)), some (.int _ (.ofNat m)), some (.slice elem) =>
      match E.P.info? elem with
      | some inf => match inf.zero with
        | some z =>
          if n > m || m > 2 ^ 30 || inf.bytes > 2 ^ 10 || !flat 3 z || inf.size ≠ z.cells.size then none else
          newRow H c ((List.replicate m z.cells.toList).flatten) (2 * elem + 1) fun r => .slice (some ⟨r, 0, some inf.size⟩) n m
        | none => none
      | none => none
    | _, _, _ => none
  | .slice t x lo hi mx => match opd E tm x, optOpd E tm lo, optOpd E tm hi, mx, E.P.underlying t with
    | some (.string s), some l, some h, none, some .string => match boundsOf s.size s.size l h with
      | some (l, h) => some (.string (s.extract l h), H, c)
      | none => none
    | some (.slice base n cap), some l, some h, none, some (.slice elem) => match boundsOf n cap l h, sizeAt E.P elem with
      | some (l, h), some size => match base with
        | none => some (.slice none 0 0, H, c)
        | some ⟨r, off, some sz⟩ =>
          if l = 0 then some (.slice (some ⟨r, off, some sz⟩) h cap, H, c) else
          if cap = l || sz ≠ size then none else some (.slice (some ⟨r, off + l * size, some sz⟩) (h - l) (cap - l), H, c)
        | _ => none
      | _, _ => none
    | _, _, _, _, _ => none
  | .fieldAddr s x f => match opd E tm x, E.P.underlying s with
    | some (.pointer (some ⟨r, off, none⟩)), some (.struct fields) => match fields[f]? with
      | some fd => match sizeAt E.P fd.type with
        | some n => if n = 0 then none else some (.pointer (some ⟨r, off + fd.offset, none⟩), H, c)
        | none => none
      | none => none
    | _, _ => none
  | .field t x f => match opd E tm x with
    | some (.agg cs) => match E.P.underlying t with
      | some (.struct fields) => match fields[f]? with
        | some fd => match evPart E.P fd.type cs fd.offset with
          | some v => some (v, H, c)
          | none => none
        | none => none
      | _ => none
    | _ => none
  | .indexAddr t x ix => match opd E tm x, opd E tm ix, E.P.underlying t with
    | some (.slice (some ⟨r, off, _⟩) n _), some (.int _ (.ofNat i)), some (.slice elem) => match sizeAt E.P elem with
      | some sz => if i < n then some (.pointer (some ⟨r, off + i * sz, none⟩), H, c) else none
      | none => none
    | some (.pointer (some ⟨r, off, none⟩)), some (.int _ (.ofNat i)), some (.array n elem) => match sizeAt E.P elem with
      | some sz => if i < n then some (.pointer (some ⟨r, off + i * sz, none⟩), H, c) else none
      | none => none
    | _, _, _ => none
  | .index t x ix => match opd E tm x, opd E tm ix with
    | some (.string s), some (.int k i) => match pureRun E.P (Instr.index t (.string s) (.int k i)) with
      | some (.int j n) => some (.int j n, H, c)
      | _ => none
    | some (.agg cs), some (.int _ (.ofNat i)) => match E.P.underlying t with
      | some (.array len elem) => match sizeAt E.P elem with
        | some n => if i < len then
            match evPart E.P elem cs (i * n) with
            | some v => some (v, H, c)
            | none => none
          else none
        | none => none
      | _ => none
    | _, _ => none
  | .lookup t x ix ok => match opd E tm x, opd E tm ix with
    | some m, some k => match evLookup E t m k ok H with
      | some v => some (v, H, c)
      | none => none
    | _, _ => none
  | .mapUpdate t m k x | .insert t m k x => match opd E tm m, opd E tm k, opd E tm x with
    | some m, some k, some v => evMapPut E t m k v H c
    | _, _, _ => none
  | .range t x => match opd E tm x, E.P.underlying t with
    | some (.string s), some .string => newOb H c (.iter s 0) fun r => .pointer (some ⟨r, 0, none⟩)
    | _, _ => none
  | .next it isStr => match opd E tm it, isStr with
    | some (.pointer (some ⟨r, 0, none⟩)), true => match H.get r with
      | some (.iter s pos) =>
        if pos < s.size then
          let q := Utf8.decode s pos
          some (.tuple #[.bool true, goInt pos, .int .i32 q.1], H.upd (.iter s (pos + q.2)) r, c)
        else some (.tuple #[.bool false], H, c)
      | _ => none
    | _, _ => none
  | .extract x i => match opd E tm x with
    | some (.tuple vs) => match vs[i]? with
      | some v => some (v, H, c)
      | none => none
    | _ => none
  | .call k => match k.callee, opds E tm k.args.toList with
    | .builtin .append, some [s, x] => evAppend E k.argTypes s x H c
    | .builtin .copy, some [d, s] => evCopy E k.argTypes d s H c
    | .builtin .delete, some [m, x] => evDelete E k.argTypes m x H c
    | .builtin .len, some [.slice a n cap] => match (k.argTypes[0]?).bind E.P.underlying with
      | some (.slice _) => some (goInt n, H, c)
      | _ => none
    | .builtin .len, some [.map m] => match (k.argTypes[0]?).bind E.P.underlying, m with
      | some (.map _ _), none => some (goInt 0, H, c)
      | some (.map _ _), some r => match H.get r with
        | some (.map es _) => some (goInt es.size, H, c)
        | _ => none
      | _, _ => none
    | .builtin .len, some vs => evFlat E (fun xs => Builtin.len_ k.argTypes o.type xs) vs H c
    | .builtin .min, some vs => evFlat E (fun xs => Builtin.min_ k.argTypes o.type xs) vs H c
    | .builtin .max, some vs => evFlat E (fun xs => Builtin.max_ k.argTypes o.type xs) vs H c
    | _, _ => none
  | _ => none

/-- The kinds of operations: 0: looks at values alone; 1: makes memory; 2: looks into memory; 3: the rest. -/
def kind (P : Program) : Op → Nat
  | .move _ | .assign _ | .pick .. | .build .. | .nilCheck _ | .binOp .. | .unOp .. | .makeInterface .. | .makeFunc .. | .slice .. | .fieldAddr .. | .field .. | .indexAddr .. | .index .. | .extract .. => 0
  | .alloc _ | .box .. | .buildSlice .. | .makeMap .. | .makeSlice .. | .range .. => 1
  | .convert _ dst _ => match P.underlying dst with | some (.slice _) => 1 | _ => 0
  | .load .. | .lookup .. => 2
  | .call { callee := .builtin .len, .. } => 2
  | .call { callee := .builtin .min, .. } => 0
  | .call { callee := .builtin .max, .. } => 0
  | _ => 3

/-- A guard: is an operation carried out? -/
def goes (ops : Array Oper) (tm : Tr Value) (o : Oper) : Option Bool :=
  match o.guard with
  | none => some true
  | some (j, want) => match (ops[j]?).bind (·.dst) with
    | some t => match tm.get t with
      | some (.bool b) => some (b == want)
      | some (.tuple vs) => cond (Nat.beq vs.size 0) (some false) none
      | _ => none
    | none => none

def putD (tm : Tr Value) (dst : Option Tmp) (v : Value) : Option (Tr Value) :=
  match dst with
  | none => some tm
  | some d => match tm.get d with
    | some _ => some (tm.upd v d)
    | none => none

/-- What a call is: its function's number and its arguments. -/
def target (E : Env) (tm : Tr Value) (k : Call) : Option (FuncId × List Value) :=
  match k.callee with
  | .value f => match opd E tm f, opds E tm k.args.toList with
    | some (.func (.func f) first captured), some args => some (f, first.toList ++ args ++ captured.toList)
    | _, _ => none
  | _ => none

abbrev CallR := FuncId → List Value → Hp → Nat → Rs

/-- A call: of a function without a body at plain values, or of another one. -/
def callX (E : Env) (R : CallR) (f : FuncId) (args : List Value) (H : Hp) (c : Nat) : Rs :=
  match E.X f with
  | some s => evFlat E s args H c
  | none => R f args H c

/-- An operation, calls too. -/
def evAny (E : Env) (R : CallR) (o : Oper) (tm : Tr Value) (H : Hp) (c : Nat) : Rs :=
  match o.op with
  | .call k => match k.callee with
    | .value _ => match target E tm k with
      | some (f, args) => callX E R f args H c
      | none => none
    | _ => evOp E o tm H c
  | _ => evOp E o tm H c

/-- What was reckoned at an operation: itself, its number, the slots and the memory ahead of it, the next number, whether it was carried out, its value. -/
structure Rec where
  i : Nat
  o : Oper
  tm : Tr Value
  H : Hp
  c : Nat
  done : Bool
  v : Value

/-- The operations in the order of the text. -/
def evOps (E : Env) (R : CallR) (ops : Array Oper) : List Oper → Nat → Tr Value → Hp → Nat → List Rec → Option (Tr Value × Hp × Nat × List Rec)
  | [], _, tm, H, c, rs => some (tm, H, c, rs)
  | o :: l, i, tm, H, c, rs =>
    match goes ops tm o with
    | some true => match evAny E R o tm H c with
      | some (v, H', c') => match putD tm o.dst v, Nat.ble c c' with
        | some tm', true => evOps E R ops l (i + 1) tm' H' c' (⟨i, o, tm, H, c, true, v⟩ :: rs)
        | _, _ => none
      | none => none
    | some false => match putD tm o.dst undef with
      | some tm' => evOps E R ops l (i + 1) tm' H c (⟨i, o, tm, H, c, false, undef⟩ :: rs)
      | none => none
    | none => none

/-- The numbers of the operations that must come ahead of each one, as bits. -/
def bitsOf (acc : List Nat) : List Edge → Nat
  | [] => 0
  | e :: es => cond (Region.binds .any e) (Nat.lor (Nat.shiftLeft 1 e.on) (Nat.lor (acc.getD e.on 0) (bitsOf acc es))) (bitsOf acc es)

def befs : List Oper → List Nat → List Nat
  | [], acc => acc
  | o :: l, acc => befs l (acc ++ [bitsOf acc o.after.toList])

/-- The operations that may change memory. -/
def effects (P : Program) : List Oper → Nat → List Nat
  | [], _ => []
  | o :: l, i => cond (Nat.beq (kind P o.op) 3) (i :: effects P l (i + 1)) (effects P l (i + 1))

def chained (b : List Nat) : List Nat → Bool
  | i :: j :: l => (b.getD j 0).testBit i && chained b (j :: l)
  | _ => true

/-- Two operations that share a slot stand in an order. -/
def touch (ops : Array Oper) (x y : Oper) : Bool := !(x.apart ops y)

def slotsOK (ops : Array Oper) (b : List Nat) : Bool :=
  (List.range ops.size).all fun j => (List.range j).all fun i =>
    match ops[i]?, ops[j]? with
    | some x, some y => !touch ops x y || (b.getD j 0).testBit i
    | _, _ => true

def edgesOK (ops : Array Oper) : Bool :=
  (List.range ops.size).all fun j => match ops[j]? with
    | some o => o.after.toList.all fun e => !Region.binds .any e || Nat.blt e.on j
    | none => true

def planOK (P : Program) (ops : Array Oper) : Bool :=
  edgesOK ops && slotsOK ops (befs ops.toList []) && chained (befs ops.toList []) (effects P ops.toList 0)

/-- May i be carried out when the next operation that may change memory is p? -/
def possible (b : List Nat) (es : List Nat) (i p : Nat) : Bool :=
  es.all fun e => (!(b.getD i 0).testBit e || Nat.blt e p) && (!Nat.blt e p || !(b.getD e 0).testBit i)

/-- The memory ahead of an operation; behind all of them. -/
def heapAt (rs : List Rec) (Hn : Hp) (p : Nat) : Hp :=
  match rs with
  | [] => Hn
  | r :: l => cond (Nat.beq r.i p) r.H (heapAt l Hn p)

/-- Each operation that looks into memory finds the same whenever it may be carried out. -/
def looksOK (E : Env) (ops : Array Oper) (rs : List Rec) (Hn : Hp) : Bool :=
  let b := befs ops.toList []
  let es := effects E.P ops.toList 0
  rs.all fun r => !(r.done && Nat.beq (kind E.P r.o.op) 2) ||
    (es ++ [ops.size]).all fun p => !possible b es r.i p ||
      match evOp E r.o r.tm (heapAt rs Hn p) r.c with
      | some (v, _, _) => same 3 v r.v
      | none => false

abbrev Rst := Option (Tr Value × Hp × Nat)

def evRegion (E : Env) (R : CallR) (ops : Array Oper) (draw : Bool) (tm : Tr Value) (H : Hp) (c : Nat) : Rst :=
  match evOps E R ops ops.toList 0 tm H c [] with
  | none => none
  | some (tm', H', c', rs) => cond draw (cond (planOK E.P ops && looksOK E ops rs H') (some (tm', H', c')) none) (some (tm', H', c'))

/-- How a piece of code ends. -/
inductive Ex where
  | normal | exit (id : Nat) | ret | goto (l : Nat)

abbrev Rx := Option (Ex × Tr Value × Hp × Nat)

/-- Rounds while they end normally, up to 2^k. -/
def loopP (body : Tr Value → Hp → Nat → Rx) : Nat → Tr Value → Hp → Nat → Rx
  | 0, tm, H, c => body tm H c
  | k + 1, tm, H, c => match loopP body k tm H c with
    | some (.normal, tm', H', c') => loopP body k tm' H' c'
    | r => r

/-- Rounds while they end in a jump to l, up to 2^k. -/
def jumpP (l : Nat) (body : Tr Value → Hp → Nat → Rx) : Nat → Tr Value → Hp → Nat → Rx
  | 0, tm, H, c => body tm H c
  | k + 1, tm, H, c => match jumpP l body k tm H c with
    | some (.goto l', tm', H', c') => cond (Nat.beq l' l) (jumpP l body k tm' H' c') none
    | r => r

def evCode (E : Env) (R : CallR) (lf : Nat) : Nat → Code → Tr Value → Hp → Nat → Rx
  | 0, _, _, _, _ => none
  | n + 1, code, tm, H, c => match code with
    | .skip => some (.normal, tm, H, c)
    | .label _ => some (.normal, tm, H, c)
    | .region _ ops draw => match evRegion E R ops draw tm H c with
      | some (tm', H', c') => some (.normal, tm', H', c')
      | none => none
    | .seq x y => match evCode E R lf n x tm H c with
      | some (.normal, tm', H', c') => evCode E R lf n y tm' H' c'
      | r => r
    | .cond q x y => match opd E tm q with
      | some (.bool true) => evCode E R lf n x tm H c
      | some (.bool false) => evCode E R lf n y tm H c
      | _ => none
    | .block id x => match evCode E R lf n x tm H c with
      | some (.exit j, tm', H', c') => cond (Nat.beq j id) (some (.normal, tm', H', c')) (some (.exit j, tm', H', c'))
      | r => r
    | .loop x => match loopP (evCode E R lf n x) lf tm H c with
      | some (.normal, _, _, _) => none
      | r => r
    | .scope x => match evCode E R lf n x tm H c with
      | some (.goto l, tm', H', c') => match findLabel x l with
        | some rest => match jumpP l (evCode E R lf n rest) lf tm' H' c' with
          | some (.goto _, _, _, _) => none
          | r => r
        | none => some (.goto l, tm', H', c')
      | r => r
    | .exit id => some (.exit id, tm, H, c)
    | .goto l => some (.goto l, tm, H, c)
    | .ret => some (.ret, tm, H, c)
    | _ => none

def evResults (E : Env) (tm : Tr Value) (H : Hp) : List ResultVar → Option (List Value)
  | [] => some []
  | .tmp t :: l => match tm.get t, evResults E tm H l with
    | some v, some vs => some (v :: vs)
    | _, _ => none
  | .cell a t :: l => match tm.get a, isAgg? E.P t, evResults E tm H l with
    | some (.pointer (some ⟨r, off, none⟩)), some true, some vs => match sizeAt E.P t with
      | some n => match readRow H r off n with | some l => some (.agg l.toArray :: vs) | none => none
      | none => none
    | some (.pointer (some ⟨r, off, none⟩)), some false, some vs => match H.get r with
      | some (.row _ cells _ _ _) => match cells.get off with | some v => some (v :: vs) | none => none
      | _ => none
    | _, _, _ => none

/-- A call. -/
def evF (E : Env) (lf : Nat) : Nat → CallR
  | 0 => fun _ _ _ _ => none
  | n + 1 => fun f args H c => match E.M f with
   | some p => p args H c
   | none => match E.F f with
    | none => none
    | some fn => match fn.body with
      | none => none
      | some code => match evCode E (evF E lf n) lf 1000 code (Tr.updL (Tr.rep undef 64 (args.length + (fn.ntmps - args.length))) 0 args) H c with
        | some (.exit _, _, _, _) => none
        | some (.goto _, _, _, _) => none
        | some (_, tm, H', c') => match evResults E tm H' fn.results.toList with
          | some [v] => some (v, H', c')
          | some vs => some (.tuple vs.toArray, H', c')
          | none => none
        | none => none

end Ce

namespace Ce
open Go

namespace Tr
variable {α : Type}

theorem modE (a b : Nat) : Nat.mod a b = a % b := rfl
theorem divE (a b : Nat) : Nat.div a b = a / b := rfl

theorem get_upd (x : α) (t : Tr α) : ∀ (i j : Nat), (t.upd x i).get j = if j = i then (t.get i).map (fun _ => x) else t.get j := by
  induction t with
  | nil => intro i j; simp [upd, get]
  | node l v r ihl ihr =>
    intro i j
    simp only [upd, Bool.cond_eq_ite, Nat.beq_eq, modE, divE, Nat.sub_eq]
    by_cases hi : i = 0
    · subst hi
      simp only [if_true]
      by_cases hj : j = 0
      · subst hj; simp [get]
      · simp [get, hj, Bool.cond_eq_ite, Nat.beq_eq]
    · simp only [hi, if_false]
      by_cases hm : i % 2 = 1
      · simp only [hm, if_true]
        by_cases hj : j = 0
        · subst hj; simp [get, Ne.symm hi]
        · simp only [get, Bool.cond_eq_ite, Nat.beq_eq, modE, divE, Nat.sub_eq, hj, if_false, hi, hm, if_true]
          by_cases hjm : j % 2 = 1
          · simp only [hjm, if_true]
            rw [ihl]
            by_cases hij : j = i
            · subst hij; simp
            · rw [if_neg (by omega), if_neg hij]
          · simp only [hjm, if_false]
            rw [if_neg (by intro e; subst e; exact hjm hm)]
      · simp only [hm, if_false]
        by_cases hj : j = 0
        · subst hj; simp [get, Ne.symm hi]
        · simp only [get, Bool.cond_eq_ite, Nat.beq_eq, modE, divE, Nat.sub_eq, hj, if_false, hi, hm]
          by_cases hjm : j % 2 = 1
          · simp only [hjm, if_true]
            rw [if_neg (by intro e; subst e; exact hm hjm)]
          · simp only [hjm, if_false]
            rw [ihr]
            by_cases hij : j = i
            · subst hij; simp
            · rw [if_neg (by omega), if_neg hij]

theorem get_rep (x : α) : ∀ (k n i : Nat) (v : α), (rep x k n).get i = some v → v = x ∧ i < n := by
  intro k
  induction k with
  | zero => intro n i v h; simp [rep, get] at h
  | succ k ih =>
    intro n i v h
    simp only [rep, Bool.cond_eq_ite, Nat.beq_eq, divE, Nat.sub_eq] at h
    by_cases hn : n = 0
    · simp [hn, get] at h
    · simp only [hn, if_false, get, Bool.cond_eq_ite, Nat.beq_eq, modE, divE, Nat.sub_eq] at h
      by_cases hi : i = 0
      · simp only [hi, if_true, Option.some.injEq] at h
        exact ⟨h.symm, by omega⟩
      · simp only [hi, if_false] at h
        by_cases hm : i % 2 = 1
        · simp only [hm, if_true] at h
          obtain ⟨h1, h2⟩ := ih _ _ _ h
          exact ⟨h1, by omega⟩
        · simp only [hm, if_false] at h
          obtain ⟨h1, h2⟩ := ih _ _ _ h
          exact ⟨h1, by omega⟩

/-- What is found behind a put: the new one there, elsewhere what was, or the fill where nothing was. -/
theorem getD_put (x d : α) : ∀ (k : Nat) (t : Tr α) (i j : Nat), i < 2 ^ k - 1 → ((put x d k t i).get j).getD d = if j = i then x else (t.get j).getD d := by
  intro k
  induction k with
  | zero => intro t i j h; simp at h
  | succ k ih =>
    intro t i j h
    have hk : 2 ^ (k + 1) = 2 * 2 ^ k := by rw [Nat.pow_succ]; omega
    cases t with
    | nil =>
      simp only [put, Bool.cond_eq_ite, Nat.beq_eq, modE, divE, Nat.sub_eq]
      by_cases hi : i = 0
      · subst hi
        simp only [if_true]
        by_cases hj : j = 0
        · subst hj; simp [get]
        · simp only [get, Bool.cond_eq_ite, Nat.beq_eq, hj, if_false]; split <;> rfl
      · simp only [hi, if_false]
        by_cases hm : i % 2 = 1
        · simp only [hm, if_true]
          by_cases hj : j = 0
          · subst hj; simp [get, Ne.symm hi]
          · simp only [get, Bool.cond_eq_ite, Nat.beq_eq, modE, divE, Nat.sub_eq, hj, if_false]
            by_cases hjm : j % 2 = 1
            · simp only [hjm, if_true]
              rw [ih _ _ _ (by omega)]
              by_cases hij : j = i
              · subst hij; simp
              · rw [if_neg (by omega), if_neg hij]; rfl
            · simp only [hjm, if_false]
              rw [if_neg (by intro e; subst e; exact hjm hm)]
        · simp only [hm, if_false]
          by_cases hj : j = 0
          · subst hj; simp [get, Ne.symm hi]
          · simp only [get, Bool.cond_eq_ite, Nat.beq_eq, modE, divE, Nat.sub_eq, hj, if_false]
            by_cases hjm : j % 2 = 1
            · simp only [hjm, if_true]
              rw [if_neg (by intro e; subst e; exact hm hjm)]
            · simp only [hjm, if_false]
              rw [ih _ _ _ (by omega)]
              by_cases hij : j = i
              · subst hij; simp
              · rw [if_neg (by omega), if_neg hij]; rfl
    | node l v r =>
      simp only [put, Bool.cond_eq_ite, Nat.beq_eq, modE, divE, Nat.sub_eq]
      by_cases hi : i = 0
      · subst hi
        simp only [if_true]
        by_cases hj : j = 0
        · subst hj; simp [get]
        · simp [get, hj, Bool.cond_eq_ite, Nat.beq_eq]
      · simp only [hi, if_false]
        by_cases hm : i % 2 = 1
        · simp only [hm, if_true]
          by_cases hj : j = 0
          · subst hj; simp [get, Ne.symm hi]
          · simp only [get, Bool.cond_eq_ite, Nat.beq_eq, modE, divE, Nat.sub_eq, hj, if_false]
            by_cases hjm : j % 2 = 1
            · simp only [hjm, if_true]
              rw [ih _ _ _ (by omega)]
              by_cases hij : j = i
              · subst hij; simp
              · rw [if_neg (by omega), if_neg hij]
            · simp only [hjm, if_false]
              rw [if_neg (by intro e; subst e; exact hjm hm)]
        · simp only [hm, if_false]
          by_cases hj : j = 0
          · subst hj; simp [get, Ne.symm hi]
          · simp only [get, Bool.cond_eq_ite, Nat.beq_eq, modE, divE, Nat.sub_eq, hj, if_false]
            by_cases hjm : j % 2 = 1
            · simp only [hjm, if_true]
              rw [if_neg (by intro e; subst e; exact hm hjm)]
            · simp only [hjm, if_false]
              rw [ih _ _ _ (by omega)]
              by_cases hij : j = i
              · subst hij; simp
              · rw [if_neg (by omega), if_neg hij]

theorem get_updL : ∀ (xs : List α) (t : Tr α) (i j : Nat) (v : α), (updL t i xs).get j = some v →
    (∃ k, j = i + k ∧ xs[k]? = some v) ∨ ((∀ k, k < xs.length → j ≠ i + k) ∧ t.get j = some v) := by
  intro xs
  induction xs with
  | nil => intro t i j v h; exact .inr ⟨fun k hk => by simp at hk, h⟩
  | cons x xs ih =>
    intro t i j v h
    simp only [updL] at h
    rcases ih _ _ _ _ h with ⟨k, rfl, hk⟩ | ⟨hk, hg⟩
    · exact .inl ⟨k + 1, by omega, by simpa using hk⟩
    · rw [get_upd] at hg
      by_cases hji : j = i
      · subst hji
        simp only [if_true] at hg
        cases hti : t.get j with
        | none => simp [hti] at hg
        | some y => simp only [hti, Option.map_some, Option.some.injEq] at hg; subst hg; exact .inl ⟨0, rfl, rfl⟩
      · rw [if_neg hji] at hg
        refine .inr ⟨fun k hk' => ?_, hg⟩
        rcases k with _ | k
        · simpa using hji
        · have := hk k (by simpa using hk'); omega

theorem getL_spec (t : Tr α) : ∀ (n i : Nat) (l : List α), t.getL i n = some l → l.length = n ∧ ∀ k, k < n → t.get (i + k) = l[k]? := by
  intro n
  induction n with
  | zero => intro i l h; simp only [getL, Option.some.injEq] at h; subst h; exact ⟨rfl, fun k hk => by omega⟩
  | succ n ih =>
    intro i l h
    simp only [getL] at h
    cases hg : t.get i with
    | none => simp [hg] at h
    | some v =>
      cases hr : t.getL (i + 1) n with
      | none => simp [hg, hr] at h
      | some m =>
        simp only [hg, hr, Option.some.injEq] at h
        subst h
        obtain ⟨h1, h2⟩ := ih _ _ hr
        refine ⟨by simp [h1], fun k hk => ?_⟩
        rcases k with _ | k
        · simpa using hg
        · have := h2 k (by omega)
          simp only [List.getElem?_cons_succ]
          rw [← this]; congr 1; omega

end Tr

/-- A number's thing. -/
def lk (H : Hp) (r : Nat) : Ob := (H.get r).getD .dead

theorem lk_put (H : Hp) (o : Ob) (i j : Nat) (h : i < 2 ^ 64 - 1) : lk (H.put o .dead 64 i) j = if j = i then o else lk H j := by
  unfold lk; exact Tr.getD_put o .dead 64 H i j h

theorem lk_upd (H : Hp) (o : Ob) (i j : Nat) : lk (H.upd o i) j = if j = i then (match H.get i with | some _ => o | none => .dead) else lk H j := by
  unfold lk
  rw [Tr.get_upd]
  by_cases h : j = i
  · subst h; simp only [if_true]; cases H.get j <;> rfl
  · simp [h]

/-- Where a number's cells lie: a block, the first of them, how many cells the block has. -/
structure Pl where
  block : Nat
  base : Nat
  ext : Nat

abbrev Ren := Nat → Option Pl

/-- A reckoned value and the machine's. -/
inductive VR (ρ : Ren) : Value → Value → Prop
  | flat {v : Value} (n : Nat) (h : flat n v = true) : VR ρ v v
  | ptr {r o : Nat} {p : Pl} (h : ρ r = some p) : VR ρ (.pointer (some ⟨r, o, none⟩)) (.pointer (some ⟨p.block, p.base + o, none⟩))
  | slice {r o n c d sz : Nat} {p : Pl} (h : ρ r = some p) (hc : c ≤ d) (he : p.base + o + d * sz ≤ p.ext) :
      VR ρ (.slice (some ⟨r, o, some sz⟩) n c) (.slice (some ⟨p.block, p.base + o, none⟩) n d)
  | map {r : Nat} {p : Pl} (h : ρ r = some p) : VR ρ (.map (some r)) (.map (some p.block))
  | func {fn : Fn} {as bs cs ds : Array Value} (h1 : as.size = bs.size) (h2 : ∀ (i : Nat) (x y : Value), as[i]? = some x → bs[i]? = some y → VR ρ x y)
      (h3 : cs.size = ds.size) (h4 : ∀ (i : Nat) (x y : Value), cs[i]? = some x → ds[i]? = some y → VR ρ x y) : VR ρ (.func fn as cs) (.func fn bs ds)
  | iface {t : TypeId} {v w : Value} (h : VR ρ v w) : VR ρ (.iface t v) (.iface t w)
  | agg {as bs : Array Value} (h1 : as.size = bs.size) (h2 : ∀ (i : Nat) (x y : Value), as[i]? = some x → bs[i]? = some y → VR ρ x y) : VR ρ (.agg as) (.agg bs)
  | tuple {as bs : Array Value} (h1 : as.size = bs.size) (h2 : ∀ (i : Nat) (x y : Value), as[i]? = some x → bs[i]? = some y → VR ρ x y) : VR ρ (.tuple as) (.tuple bs)

theorem VR.mono {ρ ρ' : Ren} (hρ : ∀ r p, ρ r = some p → ρ' r = some p) {v w : Value} (h : VR ρ v w) : VR ρ' v w := by
  induction h with
  | flat n h => exact .flat n h
  | ptr h => exact .ptr (hρ _ _ h)
  | slice h hc he => exact .slice (hρ _ _ h) hc he
  | map h => exact .map (hρ _ _ h)
  | func h1 _ h3 _ ih1 ih2 => exact .func h1 ih1 h3 ih2
  | iface _ ih => exact .iface ih
  | agg h1 _ ih => exact .agg h1 ih
  | tuple h1 _ ih => exact .tuple h1 ih

theorem flat_agg {n : Nat} {cs : Array Value} (h : flat n (.agg cs) = true) : ∃ m, n = m + 1 ∧ ∀ (i : Nat) (x : Value), cs[i]? = some x → flat m x = true := by
  cases n with
  | zero => simp [flat] at h
  | succ m =>
    simp only [flat] at h
    refine ⟨m, rfl, fun i x hx => ?_⟩
    rw [List.all_eq_true] at h
    exact h x (by rw [Array.mem_toList_iff]; exact Array.mem_of_getElem? hx)

theorem flat_tuple {n : Nat} {cs : Array Value} (h : flat n (.tuple cs) = true) : ∃ m, n = m + 1 ∧ ∀ (i : Nat) (x : Value), cs[i]? = some x → flat m x = true := by
  cases n with
  | zero => simp [flat] at h
  | succ m =>
    simp only [flat] at h
    refine ⟨m, rfl, fun i x hx => ?_⟩
    rw [List.all_eq_true] at h
    exact h x (by rw [Array.mem_toList_iff]; exact Array.mem_of_getElem? hx)

theorem flat_iface {n : Nat} {t : TypeId} {v : Value} (h : flat n (.iface t v) = true) : ∃ m, n = m + 1 ∧ flat m v = true := by
  cases n with
  | zero => simp [flat] at h
  | succ m => exact ⟨m, rfl, by simpa [flat] using h⟩

theorem ext_arrays {as bs : Array Value} (h1 : as.size = bs.size) (h2 : ∀ (i : Nat) (x y : Value), as[i]? = some x → bs[i]? = some y → y = x) : bs = as := by
  apply Array.ext h1.symm
  intro i hi hj
  exact h2 i as[i] bs[i] (by simp) (by simp)

/-- What has no address stands for itself. -/
theorem VR.of_flat {ρ : Ren} {v w : Value} (h : VR ρ v w) : ∀ n, Ce.flat n v = true → w = v := by
  induction h with
  | flat n h => intro _ _; rfl
  | ptr h => intro n hf; cases n <;> simp [Ce.flat] at hf
  | slice h hc he => intro n hf; cases n <;> simp [Ce.flat] at hf
  | map h => intro n hf; cases n <;> simp [Ce.flat] at hf
  | func h1 _ h3 _ ih1 ih2 => intro n hf; cases n <;> simp [Ce.flat] at hf
  | iface _ ih => intro n hf; obtain ⟨m, rfl, hm⟩ := flat_iface hf; rw [ih m hm]
  | agg h1 _ ih =>
    intro n hf; obtain ⟨m, rfl, hm⟩ := flat_agg hf
    rw [ext_arrays h1 fun i x y hx hy => ih i x y hx hy m (hm i x hx)]
  | tuple h1 _ ih =>
    intro n hf; obtain ⟨m, rfl, hm⟩ := flat_tuple hf
    rw [ext_arrays h1 fun i x y hx hy => ih i x y hx hy m (hm i x hx)]

theorem VR.inv_agg {ρ : Ren} {as : Array Value} {w : Value} (h : VR ρ (.agg as) w) : ∃ bs, w = .agg bs ∧ as.size = bs.size ∧ ∀ (i : Nat) (x y : Value), as[i]? = some x → bs[i]? = some y → VR ρ x y := by
  cases h with
  | flat n h =>
    obtain ⟨m, rfl, hm⟩ := flat_agg h
    exact ⟨as, rfl, rfl, fun i x y hx hy => by rw [hx] at hy; cases hy; exact .flat m (hm i x hx)⟩
  | agg h1 h2 => exact ⟨_, rfl, h1, h2⟩

theorem VR.inv_tuple {ρ : Ren} {as : Array Value} {w : Value} (h : VR ρ (.tuple as) w) : ∃ bs, w = .tuple bs ∧ as.size = bs.size ∧ ∀ (i : Nat) (x y : Value), as[i]? = some x → bs[i]? = some y → VR ρ x y := by
  cases h with
  | flat n h =>
    obtain ⟨m, rfl, hm⟩ := flat_tuple h
    exact ⟨as, rfl, rfl, fun i x y hx hy => by rw [hx] at hy; cases hy; exact .flat m (hm i x hx)⟩
  | tuple h1 h2 => exact ⟨_, rfl, h1, h2⟩

theorem VR.inv_iface {ρ : Ren} {t : TypeId} {v w : Value} (h : VR ρ (.iface t v) w) : ∃ u, w = .iface t u ∧ VR ρ v u := by
  cases h with
  | flat n h => obtain ⟨m, rfl, hm⟩ := flat_iface h; exact ⟨v, rfl, .flat m hm⟩
  | iface h => exact ⟨_, rfl, h⟩

theorem VR.inv_ptr {ρ : Ren} {a : Addr} {w : Value} (h : VR ρ (.pointer (some a)) w) : ∃ p, ρ a.block = some p ∧ a.spot = none ∧ w = .pointer (some ⟨p.block, p.base + a.off, none⟩) := by
  cases h with
  | flat n h => cases n <;> simp [Ce.flat] at h
  | ptr h => exact ⟨_, h, rfl, rfl⟩

theorem VR.inv_slice {ρ : Ren} {a : Addr} {n c : Nat} {w : Value} (h : VR ρ (.slice (some a) n c) w) :
    ∃ p d sz, ρ a.block = some p ∧ a.spot = some sz ∧ c ≤ d ∧ p.base + a.off + d * sz ≤ p.ext ∧ w = .slice (some ⟨p.block, p.base + a.off, none⟩) n d := by
  cases h with
  | flat n h => cases n <;> simp [Ce.flat] at h
  | slice h hc he => exact ⟨_, _, _, h, rfl, hc, he, rfl⟩

theorem VR.inv_map {ρ : Ren} {r : Nat} {w : Value} (h : VR ρ (.map (some r)) w) : ∃ p, ρ r = some p ∧ w = .map (some p.block) := by
  cases h with
  | flat n h => cases n <;> simp [Ce.flat] at h
  | map h => exact ⟨_, h, rfl⟩

theorem VR.inv_func {ρ : Ren} {fn : Fn} {as cs : Array Value} {w : Value} (h : VR ρ (.func fn as cs) w) :
    ∃ bs ds, w = .func fn bs ds ∧ as.size = bs.size ∧ (∀ (i : Nat) (x y : Value), as[i]? = some x → bs[i]? = some y → VR ρ x y) ∧ cs.size = ds.size ∧ ∀ (i : Nat) (x y : Value), cs[i]? = some x → ds[i]? = some y → VR ρ x y := by
  cases h with
  | flat n h => cases n <;> simp [Ce.flat] at h
  | func h1 h2 h3 h4 => exact ⟨_, _, rfl, h1, h2, h3, h4⟩

theorem VR.inv_int {ρ : Ren} {k : IntKind} {n : Int} {w : Value} (h : VR ρ (.int k n) w) : w = .int k n := h.of_flat 0 rfl
theorem VR.inv_bool {ρ : Ren} {b : Bool} {w : Value} (h : VR ρ (.bool b) w) : w = .bool b := h.of_flat 0 rfl
theorem VR.inv_string {ρ : Ren} {s : ByteArray} {w : Value} (h : VR ρ (.string s) w) : w = .string s := h.of_flat 0 rfl
theorem VR.int {ρ : Ren} (k : IntKind) (n : Int) : VR ρ (.int k n) (.int k n) := .flat 0 rfl
theorem VR.bool {ρ : Ren} (b : Bool) : VR ρ (.bool b) (.bool b) := .flat 0 rfl
theorem VR.string {ρ : Ren} (s : ByteArray) : VR ρ (.string s) (.string s) := .flat 0 rfl
theorem VR.undef {ρ : Ren} : VR ρ Go.undef Go.undef := .flat 1 (by rfl)

/-- Lists of values. -/
def VL (ρ : Ren) (as bs : List Value) : Prop := as.length = bs.length ∧ ∀ (i : Nat) (x y : Value), as[i]? = some x → bs[i]? = some y → VR ρ x y

theorem VL.nil {ρ : Ren} : VL ρ [] [] := ⟨rfl, fun i x y h => by simp at h⟩
theorem VL.cons {ρ : Ren} {a b : Value} {as bs : List Value} (h : VR ρ a b) (hs : VL ρ as bs) : VL ρ (a :: as) (b :: bs) :=
  ⟨by simp [hs.1], fun i x y hx hy => by
    rcases i with _ | i
    · simp at hx hy; subst hx; subst hy; exact h
    · exact hs.2 i x y (by simpa using hx) (by simpa using hy)⟩
theorem VL.inv_cons {ρ : Ren} {a : Value} {as bs : List Value} (h : VL ρ (a :: as) bs) : ∃ b bs', bs = b :: bs' ∧ VR ρ a b ∧ VL ρ as bs' := by
  obtain ⟨h1, h2⟩ := h
  cases bs with
  | nil => simp at h1
  | cons b bs => exact ⟨b, bs, rfl, h2 0 a b rfl rfl, by simpa using h1, fun i x y hx hy => h2 (i + 1) x y (by simpa using hx) (by simpa using hy)⟩
theorem VL.append {ρ : Ren} {as bs cs ds : List Value} (h : VL ρ as bs) (k : VL ρ cs ds) : VL ρ (as ++ cs) (bs ++ ds) := by
  refine ⟨by simp [h.1, k.1], fun i x y hx hy => ?_⟩
  rw [List.getElem?_append] at hx hy
  rw [← h.1] at hy
  split at hx
  · rename_i hi; rw [if_pos hi] at hy; exact h.2 i x y hx hy
  · rename_i hi; rw [if_neg hi] at hy; exact k.2 _ x y hx hy
theorem VL.mono {ρ ρ' : Ren} (hρ : ∀ r p, ρ r = some p → ρ' r = some p) {as bs : List Value} (h : VL ρ as bs) : VL ρ' as bs :=
  ⟨h.1, fun i x y hx hy => (h.2 i x y hx hy).mono hρ⟩
theorem VL.of_flat {ρ : Ren} {as bs : List Value} (n : Nat) (h : VL ρ as bs) (hf : as.all (flat n) = true) : bs = as := by
  apply List.ext_getElem h.1.symm
  intro i h1 h2
  rw [List.all_eq_true] at hf
  exact (h.2 i as[i] bs[i] (by simp) (by simp)).of_flat n (hf _ (by simp))
theorem VL.flat {ρ : Ren} {as : List Value} (n : Nat) (hf : as.all (flat n) = true) : VL ρ as as :=
  ⟨rfl, fun i x y hx hy => by rw [hx] at hy; cases hy; rw [List.all_eq_true] at hf; exact .flat n (hf _ (List.mem_of_getElem? hx))⟩

theorem VR.cells {ρ : Ren} {v w : Value} (h : VR ρ v w) : VL ρ v.cells.toList w.cells.toList := by
  cases h with
  | agg h1 h2 => exact ⟨by simpa [Value.cells] using h1, fun i x y hx hy => h2 i x y (by simpa [Value.cells] using hx) (by simpa [Value.cells] using hy)⟩
  | flat n h =>
    cases v
    case agg cs =>
      obtain ⟨m, rfl, hm⟩ := flat_agg h
      exact ⟨rfl, fun i x y hx hy => by rw [hx] at hy; cases hy; exact .flat m (hm i x (by simpa [Value.cells] using hx))⟩
    all_goals exact VL.cons (.flat n h) VL.nil
  | ptr h => exact VL.cons (.ptr h) VL.nil
  | slice h hc he => exact VL.cons (.slice h hc he) VL.nil
  | map h => exact VL.cons (.map h) VL.nil
  | func h1 h2 h3 h4 => exact VL.cons (.func h1 h2 h3 h4) VL.nil
  | iface h => exact VL.cons (.iface h) VL.nil
  | tuple h1 h2 => exact VL.cons (.tuple h1 h2) VL.nil

theorem VL.agg {ρ : Ren} {as bs : List Value} (h : VL ρ as bs) : VR ρ (.agg as.toArray) (.agg bs.toArray) :=
  .agg (by simpa using h.1) fun i x y hx hy => h.2 i x y (by simpa using hx) (by simpa using hy)

/-- Are entries of maps alike? -/
def ER (ρ : Ren) (es ds : Array MapEntry) : Prop :=
  es.size = ds.size ∧ ∀ (i : Nat) (x y : MapEntry), es[i]? = some x → ds[i]? = some y → x.key = y.key ∧ flat 0 x.key = true ∧ x.born = y.born ∧ VR ρ x.val y.val

/-- A thing and the machine's block. -/
def OR (ρ : Ren) (p : Pl) (w : World) : Ob → Prop
  | .row size cells fz _ elem => ∃ C fr, w.heap[p.block]? = some (.cells C (elem / 2) fr) ∧ C.size = p.ext ∧ p.base + size ≤ C.size ∧
      (∀ i v, cells.get i = some v → ∃ v', C[p.base + i]? = some v' ∧ VR ρ v v') ∧ (∀ k, k < C.size → fr.1 ≤ k → k < fr.2 → k < p.base + fz) ∧ (elem % 2 = 1 → p.base = 0 ∧ C.size = size)
  | .map es clock => ∃ ds, w.heap[p.block]? = some (.map ds clock) ∧ ER ρ es ds
  | .iter s pos => p.base = 0 ∧ w.heap[p.block]? = some (.stringIter s pos)
  | .dead => True

/-- May it be written? -/
def wr : Ob → Bool
  | .row _ _ _ ro _ => !ro
  | .map .. | .iter .. => true
  | .dead => false

def lives : Ob → Bool
  | .dead => false
  | _ => true

/-- The memory reckoned and the machine's. -/
structure Rel (ρ : Ren) (H : Hp) (w : World) : Prop where
  obj : ∀ r p, ρ r = some p → OR ρ p w (lk H r)
  apart : ∀ r s p q, lives (lk H r) = true → lives (lk H s) = true → ρ r = some p → ρ s = some q → r ≠ s → p.block ≠ q.block
  below : ∀ r p, ρ r = some p → p.block < w.heap.size

/-- Nothing from a number on. -/
def Top (H : Hp) (c : Nat) : Prop := ∀ s, c ≤ s → lk H s = .dead

/-- What a step may turn. c to c': the numbers that it may take. -/
structure Fr (ρ : Ren) (H : Hp) (w : World) (ρ' : Ren) (H' : Hp) (w' : World) (c c' : Nat) : Prop where
  ext : ∀ r p, ρ r = some p → ρ' r = some p
  new : ∀ r p, ρ r = none → ρ' r = some p → c ≤ r ∧ r < c'
  le : c ≤ c'
  unreal : ∀ r, ρ r = none → r < c → lk H' r = lk H r
  keep : ∀ B, B < w.heap.size → (∀ r p, wr (lk H r) = true → ρ r = some p → p.block ≠ B) → w'.heap[B]? = w.heap[B]?
  writ : ∀ r p, wr (lk H' r) = true → ρ' r = some p → w.heap.size ≤ p.block ∨ ∃ s q, wr (lk H s) = true ∧ ρ s = some q ∧ q.block = p.block
  liv : ∀ r p, lives (lk H' r) = true → ρ' r = some p → w.heap.size ≤ p.block ∨ ∃ s q, lives (lk H s) = true ∧ ρ s = some q ∧ q.block = p.block
  top : Top H c → Top H' c'
  size : w.heap.size ≤ w'.heap.size
  os : w'.os = w.os
  tape : w'.tape = w.tape
  output : w'.output = w.output

theorem Fr.refl (ρ : Ren) (H : Hp) (w : World) (c : Nat) : Fr ρ H w ρ H w c c :=
  ⟨fun _ _ h => h, fun r p h h' => by simp [h] at h', Nat.le_refl _, fun _ _ _ => rfl, fun _ _ _ => rfl, fun r p h1 h2 => .inr ⟨r, p, h1, h2, rfl⟩, fun r p h1 h2 => .inr ⟨r, p, h1, h2, rfl⟩, id, Nat.le_refl _, rfl, rfl, rfl⟩

theorem Fr.trans {ρ₁ ρ₂ ρ₃ : Ren} {H₁ H₂ H₃ : Hp} {w₁ w₂ w₃ : World} {c₁ c₂ c₃ : Nat} (h : Fr ρ₁ H₁ w₁ ρ₂ H₂ w₂ c₁ c₂) (k : Fr ρ₂ H₂ w₂ ρ₃ H₃ w₃ c₂ c₃) : Fr ρ₁ H₁ w₁ ρ₃ H₃ w₃ c₁ c₃ where
  ext r p hr := k.ext _ _ (h.ext _ _ hr)
  new r p h1 h3 := by
    cases h2 : ρ₂ r with
    | none => have := k.new r p h2 h3; have := h.le; omega
    | some q => have := h.new r q h1 h2; have := k.le; omega
  le := Nat.le_trans h.le k.le
  unreal r h1 hc := by
    cases h2 : ρ₂ r with
    | none => rw [k.unreal r h2 (Nat.lt_of_lt_of_le hc h.le), h.unreal r h1 hc]
    | some q => have := h.new r q h1 h2; omega
  keep B hB hk := by
    rw [k.keep B (Nat.lt_of_lt_of_le hB h.size) ?_, h.keep B hB hk]
    intro r p hw hp hpB
    rcases h.writ r p hw hp with h' | ⟨s, q, h1, h2, h3⟩
    · omega
    · exact hk s q h1 h2 (h3.trans hpB)
  writ r p hw hp := by
    rcases k.writ r p hw hp with h' | ⟨s, q, h1, h2, h3⟩
    · exact .inl (Nat.le_trans h.size h')
    · rcases h.writ s q h1 h2 with h'' | ⟨s', q', h1', h2', h3'⟩
      · exact .inl (h3 ▸ h'')
      · exact .inr ⟨s', q', h1', h2', h3'.trans h3⟩
  liv r p hw hp := by
    rcases k.liv r p hw hp with h' | ⟨s, q, h1, h2, h3⟩
    · exact .inl (Nat.le_trans h.size h')
    · rcases h.liv s q h1 h2 with h'' | ⟨s', q', h1', h2', h3'⟩
      · exact .inl (h3 ▸ h'')
      · exact .inr ⟨s', q', h1', h2', h3'.trans h3⟩
  top ht := k.top (h.top ht)
  size := Nat.le_trans h.size k.size
  os := k.os.trans h.os
  tape := k.tape.trans h.tape
  output := k.output.trans h.output

/-- The slots. -/
def TR (ρ : Ren) (tm : Tr Value) (tmps : Array Value) : Prop := ∀ t v, tm.get t = some v → ∃ cv, tmps[t]? = some cv ∧ VR ρ v cv

theorem TR.mono {ρ ρ' : Ren} (hρ : ∀ r p, ρ r = some p → ρ' r = some p) {tm : Tr Value} {tmps : Array Value} (h : TR ρ tm tmps) : TR ρ' tm tmps :=
  fun t v hv => let ⟨cv, h1, h2⟩ := h t v hv; ⟨cv, h1, h2.mono hρ⟩

theorem TR.put {ρ : Ren} {tm tm' : Tr Value} {a : Act} (h : TR ρ tm a.tmps) {dst : Option Tmp} {v cv : Value} (hv : VR ρ v cv) (hp : putD tm dst v = some tm') : TR ρ tm' (a.put dst cv).tmps := by
  cases dst with
  | none => simp only [putD, Option.some.injEq] at hp; subst hp; exact h
  | some d =>
    simp only [putD] at hp
    cases hd : tm.get d with
    | none => simp [hd] at hp
    | some u =>
      simp only [hd, Option.some.injEq] at hp
      subst hp
      intro t x hx
      obtain ⟨cu, hcu, _⟩ := h d u hd
      rw [Tr.get_upd] at hx
      simp only [Act.put]
      by_cases ht : t = d
      · subst ht
        simp only [if_true, hd, Option.map_some, Option.some.injEq] at hx
        subst hx
        have hlt : t < a.tmps.size := (Array.getElem?_eq_some_iff.1 hcu).1
        exact ⟨cv, by simp [hlt], hv⟩
      · rw [if_neg ht] at hx
        obtain ⟨cx, h1, h2⟩ := h t x hx
        exact ⟨cx, by rw [Array.getElem?_setIfInBounds_ne (Ne.symm ht)]; exact h1, h2⟩

/-- The package-level variables lie where they lie. -/
def GR (E : Env) (ρ : Ren) : Prop := ∀ g, E.G g = true → ∃ p, ρ g = some p ∧ p.block = g ∧ p.base = 0

theorem GR.mono {E : Env} {ρ ρ' : Ren} (hρ : ∀ r p, ρ r = some p → ρ' r = some p) (h : GR E ρ) : GR E ρ' :=
  fun g hg => let ⟨p, h1, h2⟩ := h g hg; ⟨p, hρ _ _ h1, h2⟩

theorem opd_tr {E : Env} {ρ : Ren} {tm : Tr Value} {a : Act} (h : TR ρ tm a.tmps) (hG : GR E ρ) {x : Operand} {v : Value} (hx : opd E tm x = some v) : VR ρ v (a.eval x) := by
  cases x with
  | tmp t =>
    obtain ⟨cv, h1, h2⟩ := h t v hx
    simp only [Act.eval, Array.getD_eq_getD_getElem?, h1, Option.getD_some]
    exact h2
  | const u =>
    simp only [opd, Bool.cond_eq_ite] at hx
    split at hx
    · rename_i hf; simp only [Option.some.injEq] at hx; subst hx; exact .flat 3 hf
    · cases hx
  | global g =>
    simp only [opd, Bool.cond_eq_ite] at hx
    split at hx
    · rename_i hg
      simp only [Option.some.injEq] at hx; subst hx
      obtain ⟨p, h1, h2, h3⟩ := hG g hg
      have := VR.ptr (o := 0) h1
      rw [h2, h3] at this
      exact this
    · cases hx
  | func f =>
    simp only [opd, Option.some.injEq] at hx
    subst hx
    exact .func rfl (fun i x y hx => by simp at hx) rfl (fun i x y hx => by simp at hx)

/-- Some operands. -/
def OT (E : Env) (ρ : Ren) (tm : Tr Value) (a : Act) (S : List Operand) : Prop := ∀ x, x ∈ S → ∀ v, opd E tm x = some v → VR ρ v (a.eval x)

theorem OT.of {E : Env} {ρ : Ren} {tm : Tr Value} {a : Act} (h : TR ρ tm a.tmps) (hG : GR E ρ) (S : List Operand) : OT E ρ tm a S := fun x _ v hx => opd_tr h hG hx

theorem opd_sound {E : Env} {ρ : Ren} {tm : Tr Value} {a : Act} {S : List Operand} (hT : OT E ρ tm a S) {x : Operand} {v : Value} (hx : opd E tm x = some v) (hm : x ∈ S := by simp [Op.operands, Call.operands]) : VR ρ v (a.eval x) := hT x hm v hx

theorem opds_sound {E : Env} {ρ : Ren} {tm : Tr Value} {a : Act} {S : List Operand} (hT : OT E ρ tm a S) : ∀ {xs : List Operand} {vs : List Value}, opds E tm xs = some vs →
    (hm : ∀ x, x ∈ xs → x ∈ S := by (intro x hx; first | (simpa [Op.operands, Call.operands] using hx) | (simp [Op.operands, Call.operands] at hx ⊢; first | exact .inl hx | exact .inr hx))) → VL ρ vs (xs.map a.eval) := by
  intro xs
  induction xs with
  | nil => intro vs hx _; simp only [opds, Option.some.injEq] at hx; subst hx; exact VL.nil
  | cons x xs ih =>
    intro vs hx hm
    simp only [opds] at hx
    cases h1 : opd E tm x with
    | none => simp [h1] at hx
    | some v =>
      cases h2 : opds E tm xs with
      | none => simp [h1, h2] at hx
      | some l =>
        simp only [h1, h2, Option.some.injEq] at hx
        subst hx
        exact VL.cons (hT x (hm x (by simp)) v h1) (ih h2 fun y hy => hm y (by simp [hy]))

end Ce

namespace Ce
open Go

theorem pureRun_run {α : Type} {P : Program} {s : Sem α} {v : α} (h : pureRun P s = some v) (w : World) : s.run P w = .ok v w := by
  induction s with
  | pure a => simp only [pureRun, Option.some.injEq] at h; subst h; rfl
  | program k ih => exact ih P h
  | mark m k ih => exact ih h
  | _ => simp [pureRun] at h

theorem run_v {P : Program} {s : Sem Value} {x : Value} {w w' : World} (h : s.run P w = .ok x w') : (do pure (.value (← s)) : Sem Next).run P w = .ok (.value x) w' := by
  simp [h]

theorem run_size {P : Program} {t : TypeId} {n : Nat} (h : sizeAt P t = some n) (w : World) : (Go.sizeOf t).run P w = .ok n w := by
  unfold sizeAt at h
  cases hi : P.info? t with
  | none => simp [hi] at h
  | some i =>
    simp only [hi, Option.map_some, Option.some.injEq] at h
    rw [run_sizeOf w hi]
    simp [Program.cellsOf, hi, h]

theorem size_info {P : Program} {t : TypeId} {i : TypeInfo} (h : P.info? t = some i) : sizeAt P t = some i.size := by simp [sizeAt, h]

theorem run_zero {P : Program} {t : TypeId} {i : TypeInfo} {z : Value} (h : P.info? t = some i) (hz : i.zero = some z) (w : World) : (zeroValue t).run P w = .ok z w := by
  simp [zeroValue, run_typeInfo w h, hz]

theorem run_zero' {P : Program} {t : TypeId} {z : Value} (h : (P.info? t).bind (·.zero) = some z) (w : World) : (zeroValue t).run P w = .ok z w := by
  cases hi : P.info? t with
  | none => simp [hi] at h
  | some i => exact run_zero hi (by simpa [hi] using h) w

theorem run_agg {P : Program} {t : TypeId} {b : Bool} (h : isAgg? P t = some b) (w : World) : (isAgg t).run P w = .ok b w := by
  unfold isAgg? at h
  unfold isAgg
  cases hd : P.underlying t with
  | none => simp [hd] at h
  | some d =>
    simp only [Sem.run_bind, run_underlying hd, Result.andThen_ok]
    cases d <;> simp [hd] at h <;> subst h <;> rfl

/-- A row's cells. -/
theorem readRow_sound {ρ : Ren} {H : Hp} {w : World} (R : Rel ρ H w) {r o n : Nat} {l : List Value} {p : Pl} (hp : ρ r = some p) (h : readRow H r o n = some l) :
    l.length = n ∧ ∃ m, VL ρ l m ∧ ∀ j v, m[j]? = some v → w.cell? ⟨p.block, p.base + o + j, none⟩ = some v := by
  unfold readRow at h
  cases hg : H.get r with
  | none => simp [hg] at h
  | some ob =>
    cases ob with
    | row size cells fz ro elem =>
      simp only [hg] at h
      obtain ⟨h1, h2⟩ := Tr.getL_spec _ _ _ _ h
      have ho := R.obj r p hp
      simp only [lk, hg, Option.getD_some, OR] at ho
      obtain ⟨C, fr, hC, _, _, hcell, _⟩ := ho
      have key : ∀ k, k < n → ∃ v v', l[k]? = some v ∧ C[p.base + (o + k)]? = some v' ∧ VR ρ v v' := by
        intro k hk
        have hlk : k < l.length := by omega
        have e := h2 k hk
        rw [List.getElem?_eq_getElem hlk] at e
        obtain ⟨v', hv', hV⟩ := hcell _ _ e
        exact ⟨_, v', List.getElem?_eq_getElem hlk, hv', hV⟩
      refine ⟨h1, (List.range n).map (fun k => (C[p.base + (o + k)]?).getD undef), ⟨by simp [h1], ?_⟩, ?_⟩
      · intro i x y hx hy
        have hi : i < n := by
          rcases Nat.lt_or_ge i n with h' | h'
          · exact h'
          · rw [List.getElem?_eq_none (by omega)] at hx; cases hx
        obtain ⟨v, v', e1, e2, e3⟩ := key i hi
        rw [e1] at hx; cases hx
        rw [List.getElem?_map, List.getElem?_range hi] at hy
        simp only [Option.map_some, e2, Option.getD_some, Option.some.injEq] at hy
        subst hy; exact e3
      · intro j v hj
        have hi : j < n := by
          rcases Nat.lt_or_ge j n with h' | h'
          · exact h'
          · rw [List.getElem?_eq_none (by simpa using h')] at hj; cases hj
        obtain ⟨u, v', e1, e2, e3⟩ := key j hi
        rw [List.getElem?_map, List.getElem?_range hi] at hj
        simp only [Option.map_some, e2, Option.getD_some, Option.some.injEq] at hj
        subst hj
        simp only [World.cell?, hC, Option.isSome_none, Bool.false_eq_true, if_false]
        rw [← e2]; congr 1; omega
    | _ => simp [hg] at h

theorem add_none (b o j : Nat) : (⟨b, o, none⟩ : Addr).add j = ⟨b, o + j, none⟩ := by unfold Addr.add; split <;> simp_all

theorem run_loadRow {P : Program} {ρ : Ren} {H : Hp} {w : World} (R : Rel ρ H w) {r o n : Nat} {l : List Value} {p : Pl} (hp : ρ r = some p) (h : readRow H r o n = some l) :
    ∃ m, VL ρ l m ∧ (loadCells ⟨p.block, p.base + o, none⟩ n).run P w = .ok m.toArray w := by
  obtain ⟨h1, m, h2, h3⟩ := readRow_sound R hp h
  refine ⟨m, h2, ?_⟩
  have : n = m.length := by rw [← h1, h2.1]
  subst this
  exact run_loadCells_list w ⟨p.block, p.base + o, none⟩ m fun j v hj => by rw [add_none]; exact h3 j v hj

/-- One cell. -/
theorem cell_sound {ρ : Ren} {H : Hp} {w : World} (R : Rel ρ H w) {r o size fz : Nat} {ro : Bool} {elem : TypeId} {cells : Tr Value} {v : Value} {p : Pl} (hp : ρ r = some p)
    (hg : H.get r = some (.row size cells fz ro elem)) (h : cells.get o = some v) : ∃ cv, w.cell? ⟨p.block, p.base + o, none⟩ = some cv ∧ VR ρ v cv := by
  have ho := R.obj r p hp
  simp only [lk, hg, Option.getD_some, OR] at ho
  obtain ⟨C, fr, hC, _, _, hcell, _⟩ := ho
  obtain ⟨v', h1, h2⟩ := hcell _ _ h
  exact ⟨v', by simp [World.cell?, hC, h1], h2⟩

theorem part_sound {P : Program} {ρ : Ren} {t : TypeId} {cs ds : Array Value} {off : Nat} {v : Value} (h1 : cs.size = ds.size) (h2 : ∀ (i : Nat) (x y : Value), cs[i]? = some x → ds[i]? = some y → VR ρ x y)
    (h : evPart P t cs off = some v) (w : World) : ∃ cv, (part t ds off).run P w = .ok cv w ∧ VR ρ v cv := by
  unfold evPart at h
  cases ha : isAgg? P t with
  | none => simp [ha] at h
  | some b =>
    cases b with
    | true =>
      cases hs : sizeAt P t with
      | none => simp [ha, hs] at h
      | some n =>
        simp only [ha, hs, Option.some.injEq] at h
        subst h
        refine ⟨.agg (ds.extract off (off + n)), by simp [part, run_agg ha, run_size hs], .agg (by simp [h1]) fun i x y hx hy => ?_⟩
        rw [Array.getElem?_extract] at hx hy
        rw [← h1] at hy
        split at hx
        · rename_i hi
          rw [if_pos hi] at hy
          exact h2 _ x y hx hy
        · cases hx
    | false =>
      have hx : cs[off]? = some v := by simpa [ha] using h
      have hlt : off < cs.size := (Array.getElem?_eq_some_iff.1 hx).1
      have hd : ds[off]? = some ds[off] := by simp
      refine ⟨ds[off], ?_, h2 off v _ hx hd⟩
      simp only [part, Sem.run_bind, run_agg ha, Result.andThen_ok, hd]
      rfl

/-- How a part is filled in. -/
def AR (ρ : Ren) (as bs : Array Value) : Prop := as.size = bs.size ∧ ∀ (i : Nat) (x y : Value), as[i]? = some x → bs[i]? = some y → VR ρ x y

theorem AR.set {ρ : Ren} {as bs : Array Value} (h : AR ρ as bs) {x y : Value} (hv : VR ρ x y) (k : Nat) : AR ρ (as.setIfInBounds k x) (bs.setIfInBounds k y) := by
  refine ⟨by simp [h.1], fun i u v hu hv' => ?_⟩
  rw [Array.getElem?_setIfInBounds] at hu hv'
  rw [← h.1] at hv'
  by_cases hk : k = i
  · rw [if_pos hk] at hu hv'
    split at hu
    · rename_i hlt; rw [if_pos hlt] at hv'; cases hu; cases hv'; exact hv
    · cases hu
  · rw [if_neg hk] at hu hv'; exact h.2 i u v hu hv'

theorem AR.foldl {ρ : Ren} (off : Nat) : ∀ (ps qs : List Value) (k : Nat) (as bs : Array Value), VL ρ ps qs → AR ρ as bs →
    AR ρ ((ps.zipIdx k).foldl (fun cs (c, j) => cs.setIfInBounds (off + j) c) as) ((qs.zipIdx k).foldl (fun cs (c, j) => cs.setIfInBounds (off + j) c) bs) := by
  intro ps
  induction ps with
  | nil => intro qs k as bs h ha; cases qs with | nil => exact ha | cons q qs => exact absurd h.1 (by simp)
  | cons x ps ih =>
    intro qs k as bs h ha
    obtain ⟨y, qs, rfl, hx, hs⟩ := h.inv_cons
    simp only [List.zipIdx_cons, List.foldl_cons]
    exact ih qs (k + 1) _ _ hs (ha.set hx _)

theorem fill_sound {ρ : Ren} {place : Nat → Option (Nat × Nat)} : ∀ (is : List Nat) (vs us : List Value) (as bs cells : Array Value), VL ρ vs us → AR ρ as bs →
    Instr.fill place as (is.zip vs) = some cells → ∃ ds, Instr.fill place bs (is.zip us) = some ds ∧ AR ρ cells ds := by
  intro is
  induction is with
  | nil => intro vs us as bs cells _ ha h; simp only [List.zip_nil_left, Instr.fill, Option.some.injEq] at h ⊢; subst h; exact ⟨bs, rfl, ha⟩
  | cons i is ih =>
    intro vs us as bs cells hv ha h
    cases vs with
    | nil =>
      have : us = [] := by have := hv.1; simpa using this.symm
      subst this
      simp only [List.zip_nil_right, Instr.fill, Option.some.injEq] at h ⊢
      subst h; exact ⟨bs, rfl, ha⟩
    | cons v vs =>
      obtain ⟨u, us, rfl, hx, hs⟩ := hv.inv_cons
      simp only [List.zip_cons_cons, Instr.fill] at h ⊢
      cases hp : place i with
      | none => simp [hp] at h
      | some pl =>
        obtain ⟨off, size⟩ := pl
        simp only [hp] at h ⊢
        have hc := hx.cells
        have hcs : v.cells.size = u.cells.size := by simpa using hc.1
        rw [← hcs, ← ha.1]
        split at h
        · cases h
        · rename_i hcond
          rw [if_neg hcond]
          refine ih vs us _ _ cells hs ?_ h
          have := AR.foldl off v.cells.toList u.cells.toList 0 as bs hc ha
          simp only [← Array.foldl_toList, Array.toList_zipIdx]
          exact this

theorem AR.refl_flat {ρ : Ren} {n : Nat} {z : Value} (h : flat n z = true) : AR ρ z.cells z.cells := by
  have := (VR.flat (ρ := ρ) n h).cells
  exact ⟨rfl, fun i x y hx hy => this.2 i x y (by simpa using hx) (by simpa using hy)⟩

theorem AR.agg {ρ : Ren} {as bs : Array Value} (h : AR ρ as bs) : VR ρ (.agg as) (.agg bs) := .agg h.1 h.2

theorem parts_eq (a : Act) (parts : Array (Nat × Operand)) : (parts.map fun (i, x) => (i, a.eval x)).toList = (parts.toList.map (·.1)).zip ((parts.toList.map (·.2)).map a.eval) := by
  rw [Array.toList_map]
  induction parts.toList with
  | nil => rfl
  | cons p l ih => simp [ih]

theorem run_eqGuard_nil {P : Program} {op : BinOp} {t : TypeId} {x y : Operand} {a b : Value} (h : (match a, b with | .nilIface, .nilIface | .agg _, .agg _ => false | _, _ => true) = true) (w : World) :
    (eqGuard op t x y a b).run P w = .ok () w := by
  cases op <;> first
    | rfl
    | (cases a <;> cases b <;> first | rfl | (simp at h))

/-- What a look leaves: the memory as it was, a value. -/
def Looks (E : Env) (o : Oper) (a : Act) (ρ : Ren) (w : World) (v : Value) : Prop := ∃ cv, (execOp a.eval o).run E.P w = .ok (.value cv) w ∧ VR ρ v cv

section
variable {E : Env} {o : Oper} {tm : Tr Value} {H H' : Hp} {c c' : Nat} {v : Value} {ρ : Ren} {a : Act} {w : World}

theorem s_move {x : Operand} (ho : o.op = .move x ∨ o.op = .assign x) (h : evOp E o tm H c = some (v, H', c')) (hT : OT E ρ tm a o.op.operands.toList) : H' = H ∧ c' = c ∧ Looks E o a ρ w v := by
  rcases ho with ho | ho <;>
  · rw [ho] at hT
    simp only [evOp, ho] at h
    cases hx : opd E tm x with
    | none => simp [hx] at h
    | some u =>
      simp only [hx, Option.some.injEq, Prod.mk.injEq] at h
      obtain ⟨rfl, rfl, rfl⟩ := h
      exact ⟨rfl, rfl, a.eval x, by simp only [execOp, ho]; rfl, opd_sound hT hx⟩

theorem s_pick {q x y : Operand} (ho : o.op = .pick q x y) (h : evOp E o tm H c = some (v, H', c')) (hT : OT E ρ tm a o.op.operands.toList) : H' = H ∧ c' = c ∧ Looks E o a ρ w v := by
  rw [ho] at hT
  simp only [evOp, ho] at h
  split at h
  · rename_i b hb
    have hq := (opd_sound hT hb).inv_bool
    split at h
    · rename_i u hu
      simp only [Option.some.injEq, Prod.mk.injEq] at h
      obtain ⟨rfl, rfl, rfl⟩ := h
      refine ⟨rfl, rfl, if b then a.eval x else a.eval y, ?_, ?_⟩
      · simp only [execOp, ho, hq, asBool]; rfl
      · cases b <;> exact opd_sound hT hu
    · cases h
  · cases h

theorem s_nilCheck {x : Operand} (ho : o.op = .nilCheck x) (h : evOp E o tm H c = some (v, H', c')) (hT : OT E ρ tm a o.op.operands.toList) : H' = H ∧ c' = c ∧ Looks E o a ρ w v := by
  rw [ho] at hT
  simp only [evOp, ho] at h
  split at h
  · rename_i b hb
    have hV := opd_sound hT hb
    simp only [Option.some.injEq, Prod.mk.injEq] at h
    obtain ⟨rfl, rfl, rfl⟩ := h
    obtain ⟨p, _, _, e⟩ := hV.inv_ptr
    exact ⟨rfl, rfl, _, by simp only [execOp, ho, e]; rfl, e ▸ hV⟩
  · rename_i f first captured hb
    have hV := opd_sound hT hb
    simp only [Option.some.injEq, Prod.mk.injEq] at h
    obtain ⟨rfl, rfl, rfl⟩ := h
    obtain ⟨bs, ds, e, _⟩ := hV.inv_func
    exact ⟨rfl, rfl, _, by simp only [execOp, ho, e]; rfl, e ▸ hV⟩
  · rename_i t u hb
    have hV := opd_sound hT hb
    simp only [Option.some.injEq, Prod.mk.injEq] at h
    obtain ⟨rfl, rfl, rfl⟩ := h
    obtain ⟨u', e, _⟩ := hV.inv_iface
    exact ⟨rfl, rfl, _, by simp only [execOp, ho, e]; rfl, e ▸ hV⟩
  · cases h

theorem nilApart_eqIn {P : Program} {t : TypeId} {d : TypeDesc} {x y x' y' : Value} (n : Nat) (hd : P.underlying t = some d) (hn : nilApart d x y = true) (hx : VR ρ x x') (hy : VR ρ y y') (w : World) :
    (Op.equalIn (n + 1) t x' y').run P w = .ok false w := by
  unfold nilApart at hn
  split at hn
  case h_11 => cases hn
  case h_1 => obtain ⟨p, _, _, rfl⟩ := hy.inv_ptr; have := hx.of_flat 0 rfl; subst this; simp [Op.equalIn, run_underlying hd]
  case h_2 => obtain ⟨p, _, _, rfl⟩ := hx.inv_ptr; have := hy.of_flat 0 rfl; subst this; simp [Op.equalIn, run_underlying hd]
  case h_3 =>
    obtain ⟨p, d, sz, _, _, _, _, rfl⟩ := hy.inv_slice
    cases hx with
    | flat k hk => simp [Op.equalIn, run_underlying hd]
  case h_4 =>
    obtain ⟨p, d, sz, _, _, _, _, rfl⟩ := hx.inv_slice
    cases hy with
    | flat k hk => simp [Op.equalIn, run_underlying hd]
  case h_5 => obtain ⟨p, _, rfl⟩ := hy.inv_map; have := hx.of_flat 0 rfl; subst this; simp [Op.equalIn, run_underlying hd]
  case h_6 => obtain ⟨p, _, rfl⟩ := hx.inv_map; have := hy.of_flat 0 rfl; subst this; simp [Op.equalIn, run_underlying hd]
  case h_7 => obtain ⟨bs, ds, rfl, _⟩ := hy.inv_func; have := hx.of_flat 0 rfl; subst this; simp [Op.equalIn, run_underlying hd]
  case h_8 => obtain ⟨bs, ds, rfl, _⟩ := hx.inv_func; have := hy.of_flat 0 rfl; subst this; simp [Op.equalIn, run_underlying hd]
  case h_9 => obtain ⟨u, rfl, _⟩ := hy.inv_iface; have := hx.of_flat 0 rfl; subst this; simp [Op.equalIn, run_underlying hd]
  case h_10 => obtain ⟨u, rfl, _⟩ := hx.inv_iface; have := hy.of_flat 0 rfl; subst this; simp [Op.equalIn, run_underlying hd]

theorem nilApart_bin {P : Program} {t : TypeId} {d : TypeDesc} {x y x' y' : Value} (hd : P.underlying t = some d) (hn : nilApart d x y = true) (hx : VR ρ x x') (hy : VR ρ y y') (w : World) (p q : Operand) :
    (do eqGuard .eql t p q x' y'; binOp .eql t x' y').run P w = .ok (.bool false) w ∧ (do eqGuard .neq t p q x' y'; binOp .neq t x' y').run P w = .ok (.bool true) w := by
  have e : (Op.equal t x' y').run P w = .ok false w := nilApart_eqIn 9999 hd hn hx hy w
  have g : ∀ op, (eqGuard op t p q x' y').run P w = .ok () w := fun op => by
    apply run_eqGuard_nil
    unfold nilApart at hn
    split at hn
    case h_11 => cases hn
    case h_1 => obtain ⟨p, _, _, rfl⟩ := hy.inv_ptr; have := hx.of_flat 0 rfl; subst this; rfl
    case h_2 => obtain ⟨p, _, _, rfl⟩ := hx.inv_ptr; have := hy.of_flat 0 rfl; subst this; rfl
    case h_3 => obtain ⟨p, d, sz, _, _, _, _, rfl⟩ := hy.inv_slice; cases hx with | flat k hk => rfl
    case h_4 => obtain ⟨p, d, sz, _, _, _, _, rfl⟩ := hx.inv_slice; cases hy with | flat k hk => rfl
    case h_5 => obtain ⟨p, _, rfl⟩ := hy.inv_map; have := hx.of_flat 0 rfl; subst this; rfl
    case h_6 => obtain ⟨p, _, rfl⟩ := hx.inv_map; have := hy.of_flat 0 rfl; subst this; rfl
    case h_7 => obtain ⟨bs, ds, rfl, _⟩ := hy.inv_func; have := hx.of_flat 0 rfl; subst this; rfl
    case h_8 => obtain ⟨bs, ds, rfl, _⟩ := hx.inv_func; have := hy.of_flat 0 rfl; subst this; rfl
    case h_9 => obtain ⟨u, rfl, _⟩ := hy.inv_iface; have := hx.of_flat 0 rfl; subst this; rfl
    case h_10 => obtain ⟨u, rfl, _⟩ := hx.inv_iface; have := hy.of_flat 0 rfl; subst this; rfl
  have b : binOp .eql t x' y' = (do pure (.bool (← Op.equal t x' y'))) ∧ binOp .neq t x' y' = (do pure (.bool (!(← Op.equal t x' y')))) := by
    unfold nilApart at hn
    split at hn
    case h_11 => cases hn
    case h_1 => obtain ⟨p, _, _, rfl⟩ := hy.inv_ptr; have := hx.of_flat 0 rfl; subst this; exact ⟨rfl, rfl⟩
    case h_2 => obtain ⟨p, _, _, rfl⟩ := hx.inv_ptr; have := hy.of_flat 0 rfl; subst this; exact ⟨rfl, rfl⟩
    case h_3 => obtain ⟨p, d, sz, _, _, _, _, rfl⟩ := hy.inv_slice; cases hx with | flat k hk => exact ⟨rfl, rfl⟩
    case h_4 => obtain ⟨p, d, sz, _, _, _, _, rfl⟩ := hx.inv_slice; cases hy with | flat k hk => exact ⟨rfl, rfl⟩
    case h_5 => obtain ⟨p, _, rfl⟩ := hy.inv_map; have := hx.of_flat 0 rfl; subst this; exact ⟨rfl, rfl⟩
    case h_6 => obtain ⟨p, _, rfl⟩ := hx.inv_map; have := hy.of_flat 0 rfl; subst this; exact ⟨rfl, rfl⟩
    case h_7 => obtain ⟨bs, ds, rfl, _⟩ := hy.inv_func; have := hx.of_flat 0 rfl; subst this; exact ⟨rfl, rfl⟩
    case h_8 => obtain ⟨bs, ds, rfl, _⟩ := hx.inv_func; have := hy.of_flat 0 rfl; subst this; exact ⟨rfl, rfl⟩
    case h_9 => obtain ⟨u, rfl, _⟩ := hy.inv_iface; have := hx.of_flat 0 rfl; subst this; exact ⟨rfl, rfl⟩
    case h_10 => obtain ⟨u, rfl, _⟩ := hx.inv_iface; have := hy.of_flat 0 rfl; subst this; exact ⟨rfl, rfl⟩
  exact ⟨by rw [b.1]; simp [g, e], by rw [b.2]; simp [g, e]⟩

theorem s_binOp {op : BinOp} {t u : TypeId} {x y : Operand} (ho : o.op = .binOp op t x y u) (h : evOp E o tm H c = some (v, H', c')) (hT : OT E ρ tm a o.op.operands.toList) : H' = H ∧ c' = c ∧ Looks E o a ρ w v := by
  rw [ho] at hT
  simp only [evOp, ho] at h
  split at h
  · rename_i p q hp hq
    have hP := opd_sound hT hp
    have hQ := opd_sound hT hq
    split at h
    · rename_i hf
      simp only [Bool.and_eq_true] at hf
      have e1 := hP.of_flat 3 hf.1
      have e2 := hQ.of_flat 3 hf.2
      split at h
      · rename_i r hr
        split at h
        · rename_i hfl
          simp only [Option.some.injEq, Prod.mk.injEq] at h
          obtain ⟨rfl, rfl, rfl⟩ := h
          refine ⟨rfl, rfl, r, ?_, .flat 3 hfl⟩
          simp only [execOp, ho, e1, e2]
          exact run_v (pureRun_run hr w)
        · cases h
      · cases h
    · split at h
      · rename_i d hd
        split at h
        · rename_i hn
          simp only [Option.some.injEq, Prod.mk.injEq] at h
          obtain ⟨rfl, rfl, rfl⟩ := h
          refine ⟨rfl, rfl, .bool false, ?_, .bool false⟩
          simp only [execOp, ho]
          exact run_v (nilApart_bin hd hn hP hQ w x y).1
        · cases h
      · rename_i d hd
        split at h
        · rename_i hn
          simp only [Option.some.injEq, Prod.mk.injEq] at h
          obtain ⟨rfl, rfl, rfl⟩ := h
          refine ⟨rfl, rfl, .bool true, ?_, .bool true⟩
          simp only [execOp, ho]
          exact run_v (nilApart_bin hd hn hP hQ w x y).2
        · cases h
      · cases h
  · cases h

theorem s_unOp {op : UnOp} {t : TypeId} {x : Operand} (ho : o.op = .unOp op t x) (h : evOp E o tm H c = some (v, H', c')) (hT : OT E ρ tm a o.op.operands.toList) : H' = H ∧ c' = c ∧ Looks E o a ρ w v := by
  rw [ho] at hT
  simp only [evOp, ho] at h
  split at h
  · rename_i p hp
    have hP := opd_sound hT hp
    split at h
    · rename_i hf
      have e1 := hP.of_flat 3 hf
      split at h
      · rename_i r hr
        split at h
        · rename_i hfl
          simp only [Option.some.injEq, Prod.mk.injEq] at h
          obtain ⟨rfl, rfl, rfl⟩ := h
          refine ⟨rfl, rfl, r, ?_, .flat 3 hfl⟩
          simp only [execOp, ho, e1]
          exact run_v (pureRun_run hr w)
        · cases h
      · cases h
    · cases h
  · cases h

theorem s_makeInterface {t : TypeId} {x : Operand} (ho : o.op = .makeInterface t x) (h : evOp E o tm H c = some (v, H', c')) (hT : OT E ρ tm a o.op.operands.toList) : H' = H ∧ c' = c ∧ Looks E o a ρ w v := by
  rw [ho] at hT
  simp only [evOp, ho] at h
  split at h
  · rename_i u d hu hd
    split at h
    · cases h
    · rename_i hni
      simp only [Option.some.injEq, Prod.mk.injEq] at h
      obtain ⟨rfl, rfl, rfl⟩ := h
      refine ⟨rfl, rfl, .iface t (a.eval x), ?_, .iface (opd_sound hT hu)⟩
      simp only [execOp, ho]
      refine run_v ?_
      simp only [Instr.makeInterface, Sem.run_bind, run_underlying hd, Result.andThen_ok]
      cases d <;> first | rfl | (simp [ifaceD] at hni)
  · cases h

theorem VL.arr {as : List Value} {ops : List Operand} (h : VL ρ as (ops.map a.eval)) : as.toArray.size = (ops.toArray.map a.eval).size ∧ ∀ (i : Nat) (x y : Value), as.toArray[i]? = some x → (ops.toArray.map a.eval)[i]? = some y → VR ρ x y :=
  ⟨by simpa using h.1, fun i x y hx hy => h.2 i x y (by simpa using hx) (by simpa using hy)⟩

theorem s_makeFunc {fn : Fn} {fs cs : Array Operand} (ho : o.op = .makeFunc fn fs cs) (h : evOp E o tm H c = some (v, H', c')) (hT : OT E ρ tm a o.op.operands.toList) : H' = H ∧ c' = c ∧ Looks E o a ρ w v := by
  rw [ho] at hT
  simp only [evOp, ho] at h
  split at h
  · rename_i l m hl hm
    simp only [Option.some.injEq, Prod.mk.injEq] at h
    obtain ⟨rfl, rfl, rfl⟩ := h
    have h1 := VL.arr (opds_sound hT hl)
    have h2 := VL.arr (opds_sound hT hm)
    refine ⟨rfl, rfl, .func fn (fs.map a.eval) (cs.map a.eval), ?_, .func h1.1 h1.2 h2.1 h2.2⟩
    simp only [execOp, ho]
    exact run_v rfl
  · cases h

theorem s_extract {x : Operand} {i : Nat} (ho : o.op = .extract x i) (h : evOp E o tm H c = some (v, H', c')) (hT : OT E ρ tm a o.op.operands.toList) : H' = H ∧ c' = c ∧ Looks E o a ρ w v := by
  rw [ho] at hT
  simp only [evOp, ho] at h
  split at h
  · rename_i vs hvs
    obtain ⟨bs, e, hsz, hp⟩ := (opd_sound hT hvs).inv_tuple
    split at h
    · rename_i u hu
      simp only [Option.some.injEq, Prod.mk.injEq] at h
      obtain ⟨rfl, rfl, rfl⟩ := h
      have hlt : i < vs.size := (Array.getElem?_eq_some_iff.1 hu).1
      have hb : bs[i]? = some bs[i] := by simp
      refine ⟨rfl, rfl, bs[i], ?_, hp i u _ hu hb⟩
      simp only [execOp, ho, e]
      exact run_v (by simp only [Instr.extract, hb]; rfl)
    · cases h
  · cases h

theorem s_field {t : TypeId} {x : Operand} {f : Nat} (ho : o.op = .field t x f) (h : evOp E o tm H c = some (v, H', c')) (hT : OT E ρ tm a o.op.operands.toList) : H' = H ∧ c' = c ∧ Looks E o a ρ w v := by
  rw [ho] at hT
  simp only [evOp, ho] at h
  split at h
  · rename_i cs hcs
    obtain ⟨bs, e, hsz, hp⟩ := (opd_sound hT hcs).inv_agg
    split at h
    · rename_i fields hf
      split at h
      · rename_i fd hfd
        split at h
        · rename_i u hu
          simp only [Option.some.injEq, Prod.mk.injEq] at h
          obtain ⟨rfl, rfl, rfl⟩ := h
          obtain ⟨cv, h1, h2⟩ := part_sound hsz hp hu w
          refine ⟨rfl, rfl, cv, ?_, h2⟩
          simp only [execOp, ho, e]
          refine run_v ?_
          simp only [Instr.field, Sem.run_bind, run_underlying hf, Result.andThen_ok, hfd, asAgg]
          exact h1
        · cases h
      · cases h
    · cases h
  · cases h

theorem s_fieldAddr {t : TypeId} {x : Operand} {f : Nat} (ho : o.op = .fieldAddr t x f) (h : evOp E o tm H c = some (v, H', c')) (hT : OT E ρ tm a o.op.operands.toList) : H' = H ∧ c' = c ∧ Looks E o a ρ w v := by
  rw [ho] at hT
  simp only [evOp, ho] at h
  split at h
  · rename_i r off fields hx hf
    obtain ⟨p, hp, _, e⟩ := (opd_sound hT hx).inv_ptr
    split at h
    · rename_i fd hfd
      split at h
      · rename_i n hn
        split at h
        · cases h
        · rename_i hn0
          simp only [Option.some.injEq, Prod.mk.injEq] at h
          obtain ⟨rfl, rfl, rfl⟩ := h
          refine ⟨rfl, rfl, _, ?_, .ptr hp⟩
          simp only [execOp, ho, e]
          refine run_v ?_
          simp only [Instr.fieldAt, Sem.run_bind, run_underlying hf, Result.andThen_ok, hfd, Instr.sureAddr, fieldPlace, run_size hn, hn0, if_false]
          simp [add_none, Nat.add_assoc]
      · cases h
    · cases h
  · cases h

theorem s_indexAddr {t : TypeId} {x ix : Operand} (ho : o.op = .indexAddr t x ix) (h : evOp E o tm H c = some (v, H', c')) (hT : OT E ρ tm a o.op.operands.toList) : H' = H ∧ c' = c ∧ Looks E o a ρ w v := by
  rw [ho] at hT
  simp only [evOp, ho] at h
  split at h
  · rename_i r off sp n cap k i elem hx hix hd
    obtain ⟨p, d, sz, hp, _, _, _, e⟩ := (opd_sound hT hx).inv_slice
    have ei := (opd_sound hT hix).inv_int
    split at h
    · rename_i s hs
      split at h
      · rename_i hlt
        simp only [Option.some.injEq, Prod.mk.injEq] at h
        obtain ⟨rfl, rfl, rfl⟩ := h
        refine ⟨rfl, rfl, _, ?_, .ptr hp⟩
        simp only [execOp, ho, e, ei]
        refine run_v ?_
        have h0 : (0 : Int) ≤ Int.ofNat i ∧ Int.ofNat i < (n : Int) := ⟨Int.natCast_nonneg i, by simpa using hlt⟩
        simp only [Instr.indexAt, asIntOf, Sem.run_bind, Sem.run_pure, run_underlying hd, Result.andThen_ok, if_pos h0, run_size hs]
        simp [add_none, Nat.add_assoc]
      · cases h
    · cases h
  · rename_i r off k i n elem hx hix hd
    obtain ⟨p, hp, _, e⟩ := (opd_sound hT hx).inv_ptr
    have ei := (opd_sound hT hix).inv_int
    split at h
    · rename_i s hs
      split at h
      · rename_i hlt
        simp only [Option.some.injEq, Prod.mk.injEq] at h
        obtain ⟨rfl, rfl, rfl⟩ := h
        refine ⟨rfl, rfl, _, ?_, .ptr hp⟩
        simp only [execOp, ho, e, ei]
        refine run_v ?_
        have h0 : (0 : Int) ≤ Int.ofNat i ∧ Int.ofNat i < (n : Int) := ⟨Int.natCast_nonneg i, by simpa using hlt⟩
        simp only [Instr.indexAt, asIntOf, Sem.run_bind, Sem.run_pure, run_underlying hd, Result.andThen_ok, Instr.sureAddr, if_pos h0, run_size hs]
        simp [add_none, Nat.add_assoc]
      · cases h
    · cases h
  · cases h

theorem s_index {t : TypeId} {x ix : Operand} (ho : o.op = .index t x ix) (h : evOp E o tm H c = some (v, H', c')) (hT : OT E ρ tm a o.op.operands.toList) : H' = H ∧ c' = c ∧ Looks E o a ρ w v := by
  rw [ho] at hT
  simp only [evOp, ho] at h
  split at h
  · rename_i s k i hx hix
    have e := (opd_sound hT hx).inv_string
    have ei := (opd_sound hT hix).inv_int
    split at h
    · rename_i j n hr
      simp only [Option.some.injEq, Prod.mk.injEq] at h
      obtain ⟨rfl, rfl, rfl⟩ := h
      refine ⟨rfl, rfl, _, ?_, .int j n⟩
      simp only [execOp, ho, e, ei]
      exact run_v (pureRun_run hr w)
    · cases h
  · rename_i cs k i hx hix
    obtain ⟨bs, e, hsz, hp⟩ := (opd_sound hT hx).inv_agg
    have ei := (opd_sound hT hix).inv_int
    split at h
    · rename_i len elem hd
      split at h
      · rename_i n hn
        split at h
        · rename_i hlt
          split at h
          · rename_i u hu
            simp only [Option.some.injEq, Prod.mk.injEq] at h
            obtain ⟨rfl, rfl, rfl⟩ := h
            obtain ⟨cv, h1, h2⟩ := part_sound hsz hp hu w
            refine ⟨rfl, rfl, cv, ?_, h2⟩
            simp only [execOp, ho, e, ei]
            refine run_v ?_
            have h0 : (0 : Int) ≤ Int.ofNat i ∧ Int.ofNat i < (len : Int) := ⟨Int.natCast_nonneg i, by simpa using hlt⟩
            simp only [Instr.index, asIntOf, Sem.run_bind, Sem.run_pure, run_underlying hd, Result.andThen_ok, if_pos h0, run_size hn]
            exact h1
          · cases h
        · cases h
      · cases h
    · cases h
  · cases h

theorem s_build {t : TypeId} {parts : Array (Nat × Operand)} (ho : o.op = .build t parts) (h : evOp E o tm H c = some (v, H', c')) (hT : OT E ρ tm a o.op.operands.toList) : H' = H ∧ c' = c ∧ Looks E o a ρ w v := by
  rw [ho] at hT
  simp only [evOp, ho] at h
  split at h
  · rename_i vs hvs
    have hV := opds_sound hT hvs
    split at h
    · rename_i z fields hz hd
      simp only [Bool.cond_eq_ite] at h
      split at h
      · rename_i hfl
        split at h
        · rename_i places hpl
          split at h
          · rename_i cells hc
            simp only [Option.some.injEq, Prod.mk.injEq] at h
            obtain ⟨rfl, rfl, rfl⟩ := h
            obtain ⟨ds, h1, h2⟩ := fill_sound _ _ _ _ _ _ hV (AR.refl_flat hfl) hc
            refine ⟨rfl, rfl, .agg ds, ?_, h2.agg⟩
            simp only [execOp, ho]
            refine run_v ?_
            rw [← parts_eq] at h1
            simp only [Instr.build, Sem.run_bind, run_zero' hz, Result.andThen_ok, run_underlying hd, pureRun_run hpl, h1]
            rfl
          · cases h
        · cases h
      · cases h
    · rename_i z n elem hz hd
      simp only [Bool.cond_eq_ite] at h
      split at h
      · rename_i hfl
        split at h
        · rename_i size hs
          split at h
          · rename_i cells hc
            simp only [Option.some.injEq, Prod.mk.injEq] at h
            obtain ⟨rfl, rfl, rfl⟩ := h
            obtain ⟨ds, h1, h2⟩ := fill_sound _ _ _ _ _ _ hV (AR.refl_flat hfl) hc
            refine ⟨rfl, rfl, .agg ds, ?_, h2.agg⟩
            simp only [execOp, ho]
            refine run_v ?_
            rw [← parts_eq] at h1
            simp only [Instr.build, Sem.run_bind, run_zero' hz, Result.andThen_ok, run_underlying hd, run_size hs, h1]
            rfl
          · cases h
        · cases h
      · cases h
    · cases h
  · cases h

theorem optOpd_sound {x : Option Operand} {l : Option Value} (hq : ∀ y u, x = some y → opd E tm y = some u → VR ρ u (a.eval y)) (h : optOpd E tm x = some l) : (l = none ∧ x = none) ∨ ∃ y u, x = some y ∧ l = some u ∧ VR ρ u (a.eval y) := by
  cases x with
  | none => simp only [optOpd, Option.some.injEq] at h; exact .inl ⟨h.symm, rfl⟩
  | some y =>
    simp only [optOpd] at h
    cases hy : opd E tm y with
    | none => simp [hy] at h
    | some u => simp only [hy, Option.map_some, Option.some.injEq] at h; exact .inr ⟨y, u, rfl, h.symm, hq y u rfl hy⟩

/-- The bounds of a slice expression. -/
theorem bounds_sound {P : Program} {lo hi : Option Operand} (hlo' : ∀ y u, lo = some y → opd E tm y = some u → VR ρ u (a.eval y)) (hhi' : ∀ y u, hi = some y → opd E tm y = some u → VR ρ u (a.eval y)) {l h : Option Value} {len cap cap' i j : Nat} (isS : Bool) (h1 : optOpd E tm lo = some l) (h2 : optOpd E tm hi = some h) (hb : boundsOf len cap l h = some (i, j))
    (hc : cap ≤ cap') (w : World) : i ≤ j ∧ j ≤ cap ∧ (Instr.sliceBounds isS len cap' (lo.map a.eval) (hi.map a.eval) none).run P w = .ok (i, j, cap') w := by
  unfold boundsOf at hb
  split at hb
  · rename_i hh ll e1 e2
    split at hb
    · rename_i hcond
      simp only [Option.some.injEq, Prod.mk.injEq] at hb
      obtain ⟨rfl, rfl⟩ := hb
      refine ⟨hcond.2, hcond.1, ?_⟩
      have key : ∀ (k : IntKind) (n y : Nat) (code : BoundsCode), n ≤ y → (Instr.sliceBound (.int k (n : Int)) y code).run P w = .ok n w := fun k n y code hny => by
        simp only [Instr.sliceBound, asIntOf, Sem.run_bind, Sem.run_pure, Result.andThen_ok]
        rw [if_pos ⟨Int.natCast_nonneg _, by simpa using hny⟩]; rfl
      have hhi : (hi = none ∧ len = hh) ∨ ∃ y k, hi = some y ∧ a.eval y = .int k (Int.ofNat hh) := by
        rcases optOpd_sound hhi' h2 with ⟨rfl, rfl⟩ | ⟨y, u, rfl, rfl, hu⟩
        · exact .inl ⟨rfl, by have : ((len : Nat) : Int) = (hh : Int) := by simpa using e1
                              omega⟩
        · cases u <;> simp [intOf?] at e1
          subst e1
          exact .inr ⟨y, _, rfl, hu.inv_int⟩
      have hlo : (lo = none ∧ ll = 0) ∨ ∃ y k, lo = some y ∧ a.eval y = .int k (Int.ofNat ll) := by
        rcases optOpd_sound hlo' h1 with ⟨rfl, rfl⟩ | ⟨y, u, rfl, rfl, hu⟩
        · exact .inl ⟨rfl, by
            have : (0 : Int) = Int.ofNat ll := by simpa using e2
            have h0 : ((0 : Nat) : Int) = (ll : Int) := this
            exact (Int.ofNat_inj.1 h0).symm⟩
        · cases u <;> simp [intOf?] at e2
          subst e2
          exact .inr ⟨y, _, rfl, hu.inv_int⟩
      unfold Instr.sliceBounds
      rcases hhi with ⟨rfl, rfl⟩ | ⟨y, k, rfl, ey⟩ <;> rcases hlo with ⟨rfl, rfl⟩ | ⟨z, k', rfl, ez⟩
      · simp
      · simp [ez, key _ _ _ _ hcond.2]
      · simp [ey, key _ _ _ _ (Nat.le_trans hcond.1 hc)]
      · simp [ey, ez, key _ _ _ _ (Nat.le_trans hcond.1 hc), key _ _ _ _ hcond.2]
    · cases hb
  · cases hb

theorem s_slice {t : TypeId} {x : Operand} {lo hi mx : Option Operand} (ho : o.op = .slice t x lo hi mx) (h : evOp E o tm H c = some (v, H', c')) (hT : OT E ρ tm a o.op.operands.toList) : H' = H ∧ c' = c ∧ Looks E o a ρ w v := by
  rw [ho] at hT
  simp only [evOp, ho] at h
  split at h
  · rename_i s l r e1 e2 e3 e4
    have es := (opd_sound hT e1).inv_string
    split at h
    · rename_i i j hb
      simp only [Option.some.injEq, Prod.mk.injEq] at h
      obtain ⟨rfl, rfl, rfl⟩ := h
      obtain ⟨_, _, hr⟩ := bounds_sound (P := E.P) (fun y u e hq => opd_sound hT hq (by subst e; simp [Op.operands])) (fun y u e hq => opd_sound hT hq (by subst e; simp [Op.operands])) false e2 e3 hb (Nat.le_refl _) w
      refine ⟨rfl, rfl, _, ?_, .string _⟩
      simp only [execOp, ho, es]
      refine run_v ?_
      simp only [Instr.sliceAt, Sem.run_bind, run_underlying e4, Result.andThen_ok, Instr.slice, Option.map_none, Option.isSome_none, Bool.false_eq_true, if_false, Sem.run_pure, hr]
    · cases h
  · rename_i base n cap l r elem e1 e2 e3 e4
    split at h
    · rename_i i j size hb hs
      split at h
      · rename_i e0
        simp only [Option.some.injEq, Prod.mk.injEq] at h
        obtain ⟨rfl, rfl, rfl⟩ := h
        have hV := opd_sound hT e1
        generalize hev : a.eval x = ev at hV
        cases hV with
        | flat k hk =>
          have hnc : n = 0 ∧ cap = 0 := by
            rcases n with _ | n <;> rcases cap with _ | cap
            · exact ⟨rfl, rfl⟩
            all_goals (cases k <;> simp [Ce.flat] at hk)
          obtain ⟨rfl, rfl⟩ := hnc
          obtain ⟨hij, hj, hr⟩ := bounds_sound (P := E.P) (fun y u e hq => opd_sound hT hq (by subst e; simp [Op.operands])) (fun y u e hq => opd_sound hT hq (by subst e; simp [Op.operands])) true e2 e3 hb (Nat.le_refl _) w
          have hj0 : j = 0 := by omega
          have hi0 : i = 0 := by omega
          subst hj0; subst hi0
          refine ⟨rfl, rfl, .slice none 0 0, ?_, .flat 0 rfl⟩
          simp only [execOp, ho, hev]
          refine run_v ?_
          simp only [Instr.sliceAt, Sem.run_bind, run_underlying e4, Result.andThen_ok, Instr.slice, Option.map_none, hr, run_size hs]
          rfl
      · rename_i _ r off sz
        obtain ⟨p, d, sz', hp, hsz, hcd, hext, ev⟩ := (opd_sound hT e1).inv_slice
        obtain rfl : sz = sz' := by simpa using hsz
        obtain ⟨hij, hj, hr⟩ := bounds_sound (P := E.P) (fun y u e hq => opd_sound hT hq (by subst e; simp [Op.operands])) (fun y u e hq => opd_sound hT hq (by subst e; simp [Op.operands])) true e2 e3 hb hcd w
        have hrun : (execOp a.eval o).run E.P w = .ok (.value (.slice (if d = i then some ⟨p.block, p.base + off, none⟩ else (some (⟨p.block, p.base + off, none⟩ : Addr)).map (·.add (i * size))) (j - i) (d - i))) w := by
          simp only [execOp, ho, ev]
          refine run_v ?_
          simp only [Instr.sliceAt, Sem.run_bind, run_underlying e4, Result.andThen_ok, Instr.slice, Option.map_none, hr, run_size hs]
          rfl
        split at h
        · rename_i hl0
          subst hl0
          simp only [Option.some.injEq, Prod.mk.injEq] at h
          obtain ⟨rfl, rfl, rfl⟩ := h
          refine ⟨rfl, rfl, _, hrun, ?_⟩
          have : (if d = 0 then some (⟨p.block, p.base + off, none⟩ : Addr) else (some (⟨p.block, p.base + off, none⟩ : Addr)).map (·.add (0 * size))) = some ⟨p.block, p.base + off, none⟩ := by
            split
            · rfl
            · simp [Addr.add]
          rw [this]
          exact .slice hp hcd hext
        · rename_i hl0
          split at h
          · cases h
          · rename_i hcond
            simp only [Bool.or_eq_true, decide_eq_true_eq, not_or, ne_eq, Decidable.not_not] at hcond
            simp only [Option.some.injEq, Prod.mk.injEq] at h
            obtain ⟨rfl, rfl, rfl⟩ := h
            obtain ⟨hci, rfl⟩ := hcond
            refine ⟨rfl, rfl, _, hrun, ?_⟩
            rw [if_neg (by omega)]
            simp only [Option.map_some, add_none, Nat.add_assoc]
            refine .slice hp (by omega) ?_
            have h1 : i * sz + (d - i) * sz = d * sz := by rw [← Nat.add_mul]; congr 1; omega
            simp only at hext
            omega
      · cases h
    · cases h
  · cases h

end
end Ce

namespace Ce
open Go

section
variable {E : Env} {o : Oper} {tm : Tr Value} {H H' : Hp} {c c' : Nat} {v : Value} {ρ : Ren} {a : Act} {w : World}

theorem s_load {t : TypeId} {x : Operand} (ho : o.op = .load t x) (h : evOp E o tm H c = some (v, H', c')) (hT : OT E ρ tm a o.op.operands.toList) (hR : Rel ρ H w) : H' = H ∧ c' = c ∧ Looks E o a ρ w v := by
  rw [ho] at hT
  simp only [evOp, ho] at h
  split at h
  · rename_i r off e1 e2
    obtain ⟨p, hp, _, ev⟩ := (opd_sound hT e1).inv_ptr
    split at h
    · rename_i n hn
      split at h
      · rename_i l hl
        simp only [Option.some.injEq, Prod.mk.injEq] at h
        obtain ⟨rfl, rfl, rfl⟩ := h
        obtain ⟨m, hm, hrun⟩ := run_loadRow (P := E.P) hR hp hl
        refine ⟨rfl, rfl, .agg m.toArray, ?_, hm.agg⟩
        simp only [execOp, ho, ev]
        refine run_v ?_
        simp only [Instr.loadAt, Instr.sureAddr, Sem.run_bind, Sem.run_pure, Result.andThen_ok, loadVar, run_agg e2, if_true, run_size hn, hrun]
      · cases h
    · cases h
  · rename_i r off e1 e2
    obtain ⟨p, hp, _, ev⟩ := (opd_sound hT e1).inv_ptr
    split at h
    · rename_i size cells fz ro elem hg
      split at h
      · rename_i u hu
        simp only [Option.some.injEq, Prod.mk.injEq] at h
        obtain ⟨rfl, rfl, rfl⟩ := h
        obtain ⟨cv, h1, h2⟩ := cell_sound hR hp hg hu
        refine ⟨rfl, rfl, cv, ?_, h2⟩
        simp only [execOp, ho, ev]
        refine run_v ?_
        simp only [Instr.loadAt, Instr.sureAddr, Sem.run_bind, Sem.run_pure, Result.andThen_ok, loadVar, run_agg e2, Bool.false_eq_true, if_false, run_load]
        rw [h1]
      · cases h
    · cases h
  · cases h

/-- Entries are found alike. -/
theorem sameNow_key {kd : TypeDesc} {k k' : Value} {b : Bool} (h : Instr.sameNow kd k k' = some b) : flat 0 k = true ∧ flat 0 k' = true := by
  unfold Instr.sameNow at h
  split at h <;> first | exact ⟨rfl, rfl⟩ | cases h

theorem findNow_sound {kd : TypeDesc} {k : Value} : ∀ (es ds : List MapEntry) (i : Nat) (r : Option (Nat × Value)), es.length = ds.length →
    (∀ (j : Nat) (x y : MapEntry), es[j]? = some x → ds[j]? = some y → x.key = y.key ∧ flat 0 x.key = true ∧ x.born = y.born ∧ VR ρ x.val y.val) →
    Instr.findNow kd k es i = some r → ∃ r', Instr.findNow kd k ds i = some r' ∧
      (match r, r' with | none, none => True | some (n, u), some (m, u') => n = m ∧ VR ρ u u' ∧ i ≤ n ∧ n < i + es.length | _, _ => False) := by
  intro es
  induction es with
  | nil => intro ds i r hl _ h; cases ds with
    | nil => simp only [Instr.findNow, Option.some.injEq] at h ⊢; subst h; exact ⟨none, rfl, trivial⟩
    | cons _ _ => simp at hl
  | cons x es ih =>
    intro ds i r hl hp h
    cases ds with
    | nil => simp at hl
    | cons y ds =>
      obtain ⟨h1, h2, h3, h4⟩ := hp 0 x y rfl rfl
      simp only [Instr.findNow] at h ⊢
      rw [← h1]
      cases hs : Instr.sameNow kd k x.key with
      | none => simp [hs] at h
      | some b =>
        cases b with
        | true =>
          simp only [hs, Option.some.injEq] at h ⊢
          subst h
          exact ⟨some (i, y.val), rfl, rfl, h4, Nat.le_refl _, by simp⟩
        | false =>
          simp only [hs] at h ⊢
          obtain ⟨r', e1, e2⟩ := ih ds (i + 1) r (by simpa using hl) (fun j x y hx hy => hp (j + 1) x y (by simpa using hx) (by simpa using hy)) h
          refine ⟨r', e1, ?_⟩
          cases r <;> cases r' <;> simp_all
          omega

theorem keyD_check {P : Program} {t : TypeId} {kd : TypeDesc} (hd : P.underlying t = some kd) (hk : keyD kd = true) (k : Value) (b : Bool) (n : Nat) (w : World) : (Instr.checkKey b (n + 1) t k).run P w = .ok () w := by
  cases kd <;> simp [keyD] at hk <;> simp [Instr.checkKey, run_underlying hd]

theorem find_run {P : Program} {t : TypeId} {kd : TypeDesc} (hd : P.underlying t = some kd) {k : Value} {es : List MapEntry} {r : Option (Nat × Value)} (h : Instr.findNow kd k es 0 = some r) (w : World) :
    (Instr.findKey t k es).run P w = .ok r w := by
  simp [Instr.findKey, run_underlying hd, h]

/-- A map behind a number. -/
theorem map_sound (hR : Rel ρ H w) {r : Nat} {p : Pl} {es : Array MapEntry} {clock : Nat} (hp : ρ r = some p) (hg : H.get r = some (.map es clock)) :
    ∃ ds, w.heap[p.block]? = some (.map ds clock) ∧ ER ρ es ds := by
  have ho := hR.obj r p hp
  simp only [lk, hg, Option.getD_some, OR] at ho
  exact ho

theorem run_getObj_map {P : Program} {r : Nat} {ds : Array MapEntry} {clock : Nat} (h : w.heap[r]? = some (.map ds clock)) : (getObj r).run P w = .ok (.map ds clock) w := by
  simp [getObj, Sem.run, h]

theorem ER.list {es ds : Array MapEntry} (h : ER ρ es ds) : es.toList.length = ds.toList.length ∧ ∀ (j : Nat) (x y : MapEntry), es.toList[j]? = some x → ds.toList[j]? = some y → x.key = y.key ∧ flat 0 x.key = true ∧ x.born = y.born ∧ VR ρ x.val y.val :=
  ⟨by simpa using h.1, fun j x y hx hy => h.2 j x y (by simpa using hx) (by simpa using hy)⟩

/-- A key's value. -/
theorem key_of_find {kd : TypeDesc} {k k' : Value} {es : List MapEntry} {r : Option (Nat × Value)} (hV : VR ρ k k') (hk : flat 0 k = true) (h : Instr.findNow kd k es 0 = some r) : Instr.findNow kd k' es 0 = some r := by
  rw [hV.of_flat 0 hk]; exact h

/-- What a lookup finds. -/
def foundOf (z : Value) : Option (Nat × Value) → Value × Bool
  | some (_, v) => (v, true)
  | none => (z, false)

theorem run_lookup {P : Program} {t key elem : TypeId} {kd : TypeDesc} {z : Value} (hd : P.underlying t = some (.map key elem)) (hkd : P.underlying key = some kd) (hkey : keyD kd = true) (hz : (P.info? elem).bind (·.zero) = some z)
    {X K : Value} {ds : Array MapEntry} (hX : (X = .map none ∧ ds = #[]) ∨ ∃ B clock, X = .map (some B) ∧ w.heap[B]? = some (.map ds clock)) {r : Option (Nat × Value)} (hr : Instr.findNow kd K ds.toList 0 = some r) (ok : Bool) :
    (Instr.lookup t X K ok).run P w = .ok (if ok then .tuple #[(foundOf z r).1, .bool (foundOf z r).2] else (foundOf z r).1) w := by
  have hz' := run_zero' (P := P) hz
  unfold Instr.lookup
  rcases hX with ⟨rfl, rfl⟩ | ⟨B, clock, rfl, hB⟩
  · simp only [Sem.run_bind, run_underlying hd, Result.andThen_ok, Sem.run_pure, keyD_check hkd hkey K _ 9999 w, find_run hkd hr]
    cases r with
    | none => simp [hz', foundOf]
    | some q => simp [foundOf]
  · simp only [Sem.run_bind, run_underlying hd, Result.andThen_ok, Sem.run_pure, run_getObj_map hB, keyD_check hkd hkey K _ 9999 w, find_run hkd hr]
    cases r with
    | none => simp [hz', foundOf]
    | some q => simp [foundOf]

theorem ents_sound (hR : Rel ρ H w) {m X : Value} (hM : VR ρ m X) {es : Array MapEntry} (he : entsOf H m = some es) :
    ∃ ds, ER ρ es ds ∧ ((X = .map none ∧ ds = #[]) ∨ ∃ B clock, X = .map (some B) ∧ w.heap[B]? = some (.map ds clock)) := by
  unfold entsOf at he
  split at he
  · simp only [Option.some.injEq] at he; subst he
    exact ⟨#[], ⟨rfl, fun i x y hx => by simp at hx⟩, .inl ⟨hM.of_flat 0 rfl, rfl⟩⟩
  · split at he
    · rename_i hg
      simp only [Option.some.injEq] at he; subst he
      obtain ⟨p, hp, eM⟩ := hM.inv_map
      obtain ⟨ds, h1, h2⟩ := map_sound hR hp hg
      exact ⟨ds, h2, .inr ⟨_, _, eM, h1⟩⟩
    · cases he
  · cases he

theorem pair_tuple {u u' : Value} {b : Bool} (h : VR ρ u u') : VR ρ (.tuple #[u, .bool b]) (.tuple #[u', .bool b]) :=
  .tuple rfl fun i p q hp hq => by
    rcases i with _ | _ | i
    · simp at hp hq; subst hp; subst hq; exact h
    · simp at hp hq; subst hp; subst hq; exact .bool b
    · simp at hp

theorem s_lookup {t : TypeId} {x ix : Operand} {ok : Bool} (ho : o.op = .lookup t x ix ok) (h : evOp E o tm H c = some (v, H', c')) (hT : OT E ρ tm a o.op.operands.toList) (hR : Rel ρ H w) : H' = H ∧ c' = c ∧ Looks E o a ρ w v := by
  rw [ho] at hT
  simp only [evOp, ho] at h
  split at h
  · rename_i m k hm hk
    have hM := opd_sound hT hm
    have hK := opd_sound hT hk
    split at h
    · rename_i u hu
      simp only [Option.some.injEq, Prod.mk.injEq] at h
      obtain ⟨rfl, rfl, rfl⟩ := h
      refine ⟨rfl, rfl, ?_⟩
      unfold evLookup at hu
      split at hu
      · rename_i key elem hd
        split at hu
        · rename_i kd z hkd hz
          split at hu
          · cases hu
          · rename_i hcond
            simp only [Bool.or_eq_true, Bool.not_eq_true', not_or, Bool.not_eq_false] at hcond
            obtain ⟨⟨hkey, hzf⟩, hkf⟩ := hcond
            have eK := hK.of_flat 0 hkf
            split at hu
            · cases hu
            · rename_i es he
              obtain ⟨ds, hER, hX⟩ := ents_sound hR hM he
              have hl := hER.list
              unfold findEntry at hu
              split at hu
              · rename_i n u1 hf
                obtain ⟨r', e1, e2⟩ := findNow_sound _ _ _ _ hl.1 hl.2 hf
                cases r' with
                | none => exact e2.elim
                | some q =>
                  obtain ⟨m', u2⟩ := q
                  obtain ⟨_, hV, _⟩ := e2
                  have := run_lookup hd hkd hkey hz hX (K := a.eval ix) (by rw [eK]; exact e1) ok
                  refine ⟨_, by simp only [execOp, ho]; exact run_v this, ?_⟩
                  simp only [Option.some.injEq] at hu; subst hu
                  cases ok
                  · exact hV
                  · exact pair_tuple hV
              · rename_i hf
                obtain ⟨r', e1, e2⟩ := findNow_sound _ _ _ _ hl.1 hl.2 hf
                cases r' with
                | some q => exact e2.elim
                | none =>
                  have := run_lookup hd hkd hkey hz hX (K := a.eval ix) (by rw [eK]; exact e1) ok
                  refine ⟨_, by simp only [execOp, ho]; exact run_v this, ?_⟩
                  simp only [Option.some.injEq] at hu; subst hu
                  cases ok
                  · exact .flat 3 hzf
                  · exact pair_tuple (.flat 3 hzf)
              · cases hu
        · cases hu
      · cases hu
    · cases h
  · cases h

/-- What making memory leaves: one block more, and the number's thing stands for it, wherever the number comes to lie there. -/
def Makes (E : Env) (o : Oper) (a : Act) (ρ : Ren) (w : World) (c : Nat) (v : Value) (ob : Ob) : Prop :=
  ∃ cv cob w' ext, (execOp a.eval o).run E.P w = .ok (.value cv) w' ∧ w'.heap = w.heap.push cob ∧ w'.os = w.os ∧ w'.tape = w.tape ∧ w'.output = w.output ∧
    ∀ (ρ' : Ren), (∀ r p, ρ r = some p → ρ' r = some p) → ρ' c = some ⟨w.heap.size, 0, ext⟩ → VR ρ' v cv ∧ ∀ w'', w''.heap[w.heap.size]? = some cob → OR ρ' ⟨w.heap.size, 0, ext⟩ w'' ob

theorem el1 (t : Nat) : (2 * t + 1) / 2 = t := by omega
theorem el0 (t : Nat) : (2 * t) / 2 = t := by omega
theorem el0m (t : Nat) (h : (2 * t) % 2 = 1) : False := by omega

/-- A new row's thing. -/
theorem row_OR {B : Nat} {C : Array Value} {elem : TypeId} {fr : Nat × Nat} {cells ccells : List Value} {w'' : World} {el : TypeId} (hel : el / 2 = elem) (hwh : el % 2 = 1 → C.size = cells.length) (hV : VL ρ cells ccells) (hC : w''.heap[B]? = some (.cells C elem fr)) (hpre : ∀ i, i < ccells.length → C[i]? = ccells[i]?)
    (hsz : ccells.length ≤ C.size) (hfr : ∀ k, k < C.size → fr.1 ≤ k → k < fr.2 → False) {ext : Nat} (he : ext = C.size) :
    OR ρ ⟨B, 0, ext⟩ w'' (.row cells.length (Tr.updL (Tr.rep undef 64 cells.length) 0 cells) 0 false el) := by
  subst he
  subst hel
  refine ⟨C, fr, hC, rfl, by simp only [Nat.zero_add]; rw [hV.1]; exact hsz, fun i v hi => ?_, fun k h1 h2 h3 => (hfr k h1 h2 h3).elim, fun h => ⟨rfl, hwh h⟩⟩
  rcases Tr.get_updL _ _ _ _ _ hi with ⟨k, rfl, hk⟩ | ⟨hk, hg⟩
  · have hlt : k < cells.length := (List.getElem?_eq_some_iff.1 hk).1
    have hlt' : k < ccells.length := by rw [← hV.1]; exact hlt
    refine ⟨ccells[k], ?_, hV.2 k v _ hk (List.getElem?_eq_getElem hlt')⟩
    simp only [Nat.zero_add]
    rw [hpre k hlt', List.getElem?_eq_getElem hlt']
  · have := (Tr.get_rep _ _ _ _ _ hg).2
    exact (hk i this (by omega)).elim

theorem newRow_inv {cells : List Value} {elem : TypeId} {k : Nat → Value} (h : newRow H c cells elem k = some (v, H', c')) :
    (H.get c = none ∧ c < 9223372036854775808) ∧ v = k c ∧ c' = c + 1 ∧ H' = H.put (.row cells.length (Tr.updL (Tr.rep undef 64 cells.length) 0 cells) 0 false elem) .dead 64 c := by
  unfold newRow at h
  split at h
  · rename_i hg hlt
    simp only [Option.some.injEq, Prod.mk.injEq] at h
    exact ⟨⟨hg, by simpa [Nat.blt_eq] using hlt⟩, h.1.symm, h.2.2.symm, h.2.1.symm⟩
  · cases h

/-- The thing that an operation makes. -/
def Made (E : Env) (o : Oper) (a : Act) (ρ : Ren) (w : World) (H : Hp) (c : Nat) (v : Value) (H' : Hp) (c' : Nat) : Prop :=
  ∃ ob, (H.get c = none ∧ c < 9223372036854775808) ∧ c' = c + 1 ∧ H' = H.put ob .dead 64 c ∧ Makes E o a ρ w c v ob ∧ wr ob = true

theorem s_alloc {elem : TypeId} (ho : o.op = .alloc elem) (h : evOp E o tm H c = some (v, H', c')) (hT : OT E ρ tm a o.op.operands.toList) : Made E o a ρ w H c v H' c' := by
  rw [ho] at hT
  simp only [evOp, ho] at h
  split at h
  · rename_i inf hi
    split at h
    · rename_i z hz
      split at h
      · rename_i hf
        obtain ⟨h1, rfl, rfl, rfl⟩ := newRow_inv h
        refine ⟨_, h1, rfl, rfl, ⟨.pointer (some ⟨w.heap.size, 0, none⟩), .cells z.cells elem, { w with heap := w.heap.push (.cells z.cells elem) }, z.cells.size, ?_, rfl, rfl, rfl, rfl, fun ρ' hρ hc => ⟨?_, fun w'' hw => ?_⟩⟩, rfl⟩
        · simp only [execOp, ho]
          refine run_v ?_
          simp [Instr.alloc, run_zero hi hz, newVar, Go.newRow]
        · exact .ptr (p := ⟨w.heap.size, 0, _⟩) hc
        · exact row_OR (el1 _) (fun _ => by simp) (VR.flat (ρ := ρ') 3 hf).cells hw (fun i hi => by simp) (by simp) (fun k _ h1 h2 => by simp at h2) rfl
      · cases h
    · cases h
  · cases h

theorem s_box {elem : TypeId} {x : Operand} (ho : o.op = .box elem x) (h : evOp E o tm H c = some (v, H', c')) (hT : OT E ρ tm a o.op.operands.toList) : Made E o a ρ w H c v H' c' := by
  rw [ho] at hT
  simp only [evOp, ho] at h
  split at h
  · rename_i u hu
    have hV := opd_sound hT hu
    obtain ⟨h1, rfl, rfl, rfl⟩ := newRow_inv h
    refine ⟨_, h1, rfl, rfl, ⟨.pointer (some ⟨w.heap.size, 0, none⟩), .cells (a.eval x).cells elem, { w with heap := w.heap.push (.cells (a.eval x).cells elem) }, (a.eval x).cells.size, ?_, rfl, rfl, rfl, rfl, fun ρ' hρ hc => ⟨?_, fun w'' hw => ?_⟩⟩, rfl⟩
    · simp only [execOp, ho]
      refine run_v ?_
      simp [Instr.box, newVar, Go.newRow]
    · exact .ptr (p := ⟨w.heap.size, 0, _⟩) hc
    · exact row_OR (el1 _) (fun _ => by have := (hV.mono hρ).cells.1; simp at this ⊢; omega) (hV.mono hρ).cells hw (fun i hi => by simp) (by simp) (fun k _ h1 h2 => by simp at h2) rfl
  · cases h

theorem made_cells (z : Array Value) : ∀ (m : Nat), (madeCells z (m * z.size)).toList = (List.replicate m z.toList).flatten := by
  intro m
  by_cases hz : z.size = 0
  · have : z = #[] := Array.eq_empty_of_size_eq_zero hz
    subst this
    simp [madeCells]
  · apply List.ext_getElem
    · simp [size_madeCells]
    · intro i h1 h2
      have hi : i < m * z.size := by simpa [size_madeCells] using h1
      rw [Array.getElem_toList]
      simp only [madeCells, Array.getElem_map, Array.getElem_range]
      have hmod : i % z.size < z.size := Nat.mod_lt _ (by omega)
      rw [getElem!_pos z (i % z.size) hmod]
      have key : ∀ (m i : Nat), i < m * z.size → ((List.replicate m z.toList).flatten)[i]? = some (z[i % z.size]'(Nat.mod_lt _ (by omega))) := by
        intro m
        induction m with
        | zero => intro i hi; omega
        | succ m ih =>
          intro i hi
          simp only [List.replicate_succ, List.flatten_cons, List.getElem?_append, Array.length_toList]
          by_cases hlt : i < z.size
          · rw [if_pos hlt]
            simp [Nat.mod_eq_of_lt hlt, hlt]
          · rw [if_neg hlt, ih (i - z.size) (by rw [Nat.succ_mul] at hi; omega)]
            congr 2
            exact (Nat.mod_eq_sub_mod (by omega)).symm
      have := key m i hi
      rw [List.getElem?_eq_getElem h2] at this
      exact (Option.some.inj this).symm

theorem VL.rep {as bs : List Value} (h : VL ρ as bs) (m : Nat) : VL ρ (List.replicate m as).flatten (List.replicate m bs).flatten := by
  induction m with
  | zero => exact VL.nil
  | succ m ih => simp only [List.replicate_succ, List.flatten_cons]; exact h.append ih

theorem s_makeSlice {t : TypeId} {l k : Operand} (ho : o.op = .makeSlice t l k) (h : evOp E o tm H c = some (v, H', c')) (hT : OT E ρ tm a o.op.operands.toList) : Made E o a ρ w H c v H' c' := by
  rw [ho] at hT
  simp only [evOp, ho] at h
  split at h
  · rename_i k1 n k2 m elem e1 e2 hd
    have v1 := (opd_sound hT e1).inv_int
    have v2 := (opd_sound hT e2).inv_int
    split at h
    · rename_i inf hi
      split at h
      · rename_i z hz
        split at h
        · cases h
        · rename_i hcond
          simp only [Bool.or_eq_true, decide_eq_true_eq, Bool.not_eq_true', not_or, Bool.not_eq_false, ne_eq, Decidable.not_not] at hcond
          obtain ⟨⟨⟨⟨c1, c2⟩, c3⟩, hf⟩, hsz⟩ := hcond
          obtain ⟨h1, rfl, rfl, rfl⟩ := newRow_inv h
          have hbytes : (inf.bytes : Int) * (m : Int) ≤ 281474976710656 := by
            have : inf.bytes * m ≤ 1024 * 1073741824 := Nat.mul_le_mul (by omega) (by omega)
            have h3 : ((inf.bytes * m : Nat) : Int) ≤ ((1024 * 1073741824 : Nat) : Int) := Int.ofNat_le.2 this
            rw [Int.natCast_mul] at h3
            omega
          have hrun := run_make w t elem inf z hd hi hz k1 k2 (n : Int) (m : Int) (by omega) (by omega) hbytes (by omega)
          simp only [Int.toNat_natCast] at hrun
          refine ⟨_, h1, rfl, rfl, ⟨.slice (some ⟨w.heap.size, 0, none⟩) n m, .cells (madeCells z.cells (m * inf.size)) elem, w.alloc (.cells (madeCells z.cells (m * inf.size)) elem), m * inf.size, ?_, rfl, rfl, rfl, rfl, fun ρ' hρ hc => ⟨?_, fun w'' hw => ?_⟩⟩, rfl⟩
          · simp only [execOp, ho, v1, v2]
            exact run_v hrun
          · have := VR.slice (o := 0) (n := n) (c := m) (d := m) (sz := inf.size) (p := ⟨w.heap.size, 0, m * inf.size⟩) hc (Nat.le_refl _) (by simp)
            exact this
          · have hl : (List.replicate m z.cells.toList).flatten = (madeCells z.cells (m * inf.size)).toList := by rw [hsz, made_cells]
            have hVL : VL ρ' (List.replicate m z.cells.toList).flatten (madeCells z.cells (m * inf.size)).toList := by
              rw [← hl]
              exact VL.rep (VR.flat (ρ := ρ') 3 hf).cells m
            exact row_OR (el1 _) (fun _ => by have := hVL.1; simp at this ⊢; omega) hVL hw (fun i hi => by simp) (by simp) (fun k _ h1 h2 => by simp at h2) (by simp [size_madeCells])
      · cases h
    · cases h
  · cases h

theorem s_makeMap {t : TypeId} {r : Option Operand} (ho : o.op = .makeMap t r) (h : evOp E o tm H c = some (v, H', c')) : Made E o a ρ w H c v H' c' := by
  simp only [evOp, ho] at h
  split at h
  · unfold newOb at h
    split at h
    · rename_i hg hlt
      simp only [Option.some.injEq, Prod.mk.injEq] at h
      obtain ⟨rfl, rfl, rfl⟩ := h
      refine ⟨_, ⟨hg, by simpa [Nat.blt_eq] using hlt⟩, rfl, rfl, ⟨.map (some w.heap.size), .map #[] 0, { w with heap := w.heap.push (.map #[] 0) }, 0, ?_, rfl, rfl, rfl, rfl, fun ρ' hρ hc => ⟨?_, fun w'' hw => ?_⟩⟩, rfl⟩
      · simp only [execOp, ho]; exact run_v (by simp [Instr.makeMap])
      · exact .map (p := ⟨w.heap.size, 0, 0⟩) hc
      · exact ⟨#[], hw, rfl, fun i x y hx => by simp at hx⟩
    · cases h
  · cases h

theorem s_range {t : TypeId} {x : Operand} (ho : o.op = .range t x) (h : evOp E o tm H c = some (v, H', c')) (hT : OT E ρ tm a o.op.operands.toList) : Made E o a ρ w H c v H' c' := by
  rw [ho] at hT
  simp only [evOp, ho] at h
  split at h
  · rename_i s e1 e2
    have ev := (opd_sound hT e1).inv_string
    unfold newOb at h
    split at h
    · rename_i hg hlt
      simp only [Option.some.injEq, Prod.mk.injEq] at h
      obtain ⟨rfl, rfl, rfl⟩ := h
      refine ⟨_, ⟨hg, by simpa [Nat.blt_eq] using hlt⟩, rfl, rfl, ⟨.pointer (some ⟨w.heap.size, 0, none⟩), .stringIter s 0, { w with heap := w.heap.push (.stringIter s 0) }, 0, ?_, rfl, rfl, rfl, rfl, fun ρ' hρ hc => ⟨?_, fun w'' hw => ?_⟩⟩, rfl⟩
      · simp only [execOp, ho, ev]; exact run_v (by simp [Instr.range, run_underlying e2])
      · exact .ptr (p := ⟨w.heap.size, 0, 0⟩) hc
      · exact ⟨rfl, hw⟩
    · cases h
  · cases h

theorem s_buildSlice {t : TypeId} {len : Nat} {parts : Array (Nat × Operand)} (ho : o.op = .buildSlice t len parts) (h : evOp E o tm H c = some (v, H', c')) (hT : OT E ρ tm a o.op.operands.toList) : Made E o a ρ w H c v H' c' := by
  rw [ho] at hT
  simp only [evOp, ho] at h
  split at h
  · rename_i vs hvs
    have hV := opds_sound hT hvs
    split at h
    · rename_i elem hd
      split at h
      · rename_i inf hi
        split at h
        · rename_i z hz
          split at h
          · cases h
          · rename_i hcond
            simp only [Bool.or_eq_true, decide_eq_true_eq, Bool.not_eq_true', not_or, Bool.not_eq_false, ne_eq, Decidable.not_not] at hcond
            obtain ⟨⟨c1, hf⟩, hsz⟩ := hcond
            split at h
            · rename_i cells hc0
              obtain ⟨h1, rfl, rfl, rfl⟩ := newRow_inv h
              have hz0 : AR ρ ((List.replicate len z.cells.toList).flatten.toArray) (madeCells z.cells (len * inf.size)) := by
                rw [hsz]
                have : madeCells z.cells (len * z.cells.size) = (List.replicate len z.cells.toList).flatten.toArray := by rw [← made_cells]
                rw [this]
                have hr := VL.rep (VR.flat (ρ := ρ) 3 hf).cells len
                exact ⟨rfl, fun i x y hx hy => hr.2 i x y (by simpa using hx) (by simpa using hy)⟩
              obtain ⟨ds, hfill, hAR⟩ := fill_sound _ _ _ _ _ _ hV hz0 hc0
              rw [← parts_eq] at hfill
              refine ⟨_, h1, rfl, rfl, ⟨.slice (some ⟨w.heap.size, 0, none⟩) len len, .cells ds elem, { w with heap := w.heap.push (.cells ds elem) }, ds.size, ?_, rfl, rfl, rfl, rfl, fun ρ' hρ hc => ⟨?_, fun w'' hw => ?_⟩⟩, rfl⟩
              · simp only [execOp, ho]
                refine run_v ?_
                have hn : ¬ (len * inf.size > 2 ^ 24) := by simpa using c1
                have hm : ∀ zz : Array Value, zz = (if len * inf.size = 0 then #[] else z.cells) → (Array.range (len * inf.size)).map (fun x => zz[x % zz.size]!) = madeCells z.cells (len * inf.size) := by
                  intro zz hzz
                  split at hzz
                  · rename_i h0; rw [h0]; simp [madeCells]
                  · subst hzz; rfl
                unfold Instr.buildSlice
                simp only [Sem.run_bind, run_underlying hd, Result.andThen_ok, run_size (size_info hi), if_neg hn, Sem.run_pure]
                by_cases h0 : len * inf.size = 0
                · rw [if_pos h0]
                  simp only [Sem.run_bind, Sem.run_pure, Result.andThen_ok]
                  rw [hm #[] (by rw [if_pos h0]), hfill]
                  simp [Go.newRow]
                · rw [if_neg h0]
                  simp only [Sem.run_bind, Sem.run_pure, Result.andThen_ok, run_zero hi hz]
                  rw [hm z.cells (by rw [if_neg h0]), hfill]
                  simp [Go.newRow]
              · have hds : ds.size = len * inf.size := by
                  have e1 : ∀ (is : List Nat) (us : List Value) (place : Nat → Option (Nat × Nat)) (as ds : Array Value), Instr.fill place as (is.zip us) = some ds → ds.size = as.size := by
                    intro is
                    induction is with
                    | nil => intro us place as ds h; simp only [List.zip_nil_left, Instr.fill, Option.some.injEq] at h; rw [h]
                    | cons i is ih =>
                      intro us place as ds h
                      cases us with
                      | nil => simp only [List.zip_nil_right, Instr.fill, Option.some.injEq] at h; rw [h]
                      | cons u us =>
                        simp only [List.zip_cons_cons, Instr.fill] at h
                        split at h
                        · cases h
                        · split at h
                          · cases h
                          · rw [ih _ _ _ _ h]
                            have : ∀ (l : List (Value × Nat)) (b : Array Value) (off : Nat), (l.foldl (fun cs (c, j) => cs.setIfInBounds (off + j) c) b).size = b.size := by
                              intro l
                              induction l with
                              | nil => intro b off; rfl
                              | cons q l ih => intro b off; simp only [List.foldl_cons]; rw [ih]; simp
                            rw [← Array.foldl_toList]
                            exact this _ _ _
                  rw [parts_eq] at hfill
                  rw [e1 _ _ _ _ _ hfill, size_madeCells]
                have := VR.slice (o := 0) (n := len) (c := len) (d := len) (sz := inf.size) (p := ⟨w.heap.size, 0, ds.size⟩) hc (Nat.le_refl _) (by simp [hds])
                exact this
              · have hVL : VL ρ' cells.toList ds.toList := VL.mono hρ ⟨by simpa using hAR.1, fun i x y hx hy => hAR.2 i x y (by simpa using hx) (by simpa using hy)⟩
                have := row_OR (el1 _) (fun _ => by have := hVL.1; simp at this ⊢; omega) hVL hw (fun i hi => by simp) (by simp) (fun k _ h1 h2 => by simp at h2) rfl
                exact this
            · cases h
        · cases h
      · cases h
    · cases h
  · cases h

/-- A conversion: of a flat value, or a text to bytes. -/
theorem s_convert {src dst : TypeId} {x : Operand} (ho : o.op = .convert src dst x) (h : evOp E o tm H c = some (v, H', c')) (hT : OT E ρ tm a o.op.operands.toList) :
    (kind E.P o.op = 0 ∧ H' = H ∧ c' = c ∧ Looks E o a ρ w v) ∨ (kind E.P o.op = 1 ∧ Made E o a ρ w H c v H' c') := by
  rw [ho] at hT
  simp only [evOp, ho] at h
  split at h
  · rename_i u hu
    have hV := opd_sound hT hu
    split at h
    · rename_i hf
      have eu := hV.of_flat 3 hf
      split at h
      · rename_i e hd
        split at h
        · rename_i s inf he hi hsrc
          split at h
          · rename_i hsz
            obtain ⟨h1, rfl, rfl, rfl⟩ := newRow_inv h
            refine .inr ⟨by rw [ho]; simp [kind, hd], ?_⟩
            have hrun := run_bytes_of_string (P := E.P) w src dst e s hsrc hd he
            generalize hcap : grownCap w s.size 0 e = cap at hrun
            have hge : s.size ≤ cap := by rw [← hcap]; unfold grownCap; simp only [Question.cut]; omega
            have hsize : (bytesRow s cap).size = cap := by
              have : s.data.size = s.size := rfl
              simp [bytesRow, this]; omega
            refine ⟨_, h1, rfl, rfl, ⟨.slice (some ⟨w.heap.size, 0, none⟩) s.size cap, .cells (bytesRow s cap) e ((bytesRow s cap).size, (bytesRow s cap).size + 1), w.drew.alloc (.cells (bytesRow s cap) e ((bytesRow s cap).size, (bytesRow s cap).size + 1)), cap, ?_, rfl, rfl, rfl, rfl, fun ρ' hρ hc => ⟨?_, fun w'' hw => ?_⟩⟩, rfl⟩
            · simp only [execOp, ho, eu]
              exact run_v hrun
            · have := VR.slice (o := 0) (n := s.size) (c := s.size) (d := cap) (sz := 1) (p := ⟨w.heap.size, 0, cap⟩) hc hge (by simp)
              exact this
            · have hVL : VL ρ' (s.data.toList.map fun x => .int .u8 x.toNat) (s.data.toList.map fun x => .int .u8 x.toNat) :=
                VL.flat 0 (by rw [List.all_eq_true]; intro x hx; obtain ⟨b, _, rfl⟩ := List.mem_map.1 hx; rfl)
              refine row_OR (el0 _) (fun h => (el0m _ h).elim) hVL hw (fun i hi => ?_) ?_ (fun k h1 h2 _ => by simp at h1 h2; omega) hsize.symm
              · have hi' : i < s.data.size := by simpa using hi
                simp only [bytesRow]
                rw [Array.getElem?_append_left (by simpa using hi')]
                simp [hi']
              · have : s.data.size = s.size := rfl
                rw [hsize]; simp [this]; exact hge
          · cases h
        · cases h
      · rename_i hno
        split at h
        · rename_i r hr
          split at h
          · rename_i hfl
            simp only [Option.some.injEq, Prod.mk.injEq] at h
            obtain ⟨rfl, rfl, rfl⟩ := h
            refine .inl ⟨?_, rfl, rfl, r, ?_, .flat 3 hfl⟩
            · rw [ho]
              cases hu' : E.P.underlying dst with
              | none => simp [kind, hu']
              | some d => cases d <;> first | exact (hno _ hu').elim | simp [kind, hu']
            · simp only [execOp, ho, eu]
              exact run_v (pureRun_run hr w)
          · cases h
        · cases h
    · cases h
  · cases h

end
end Ce

namespace Ce
open Go

theorem oneC_eq (v : Value) : oneC v = v.oneCell' := by cases v <;> rfl

theorem VR.oneC {ρ : Ren} {v cv : Value} (h : VR ρ v cv) (h1 : Ce.oneC v = true) : cv.oneCell' = true := by
  cases h <;> first | rfl | (rename_i n hf; rw [← oneC_eq]; exact h1) | (simp [Ce.oneC] at h1)

/-- Cells set one by one. -/
def putA : Array Value → Nat → List Value → Array Value
  | C, _, [] => C
  | C, o, v :: r => putA (C.setIfInBounds o v) (o + 1) r

theorem putA_size : ∀ (vs : List Value) (C : Array Value) (o : Nat), (putA C o vs).size = C.size := by
  intro vs
  induction vs with
  | nil => intro C o; rfl
  | cons v vs ih => intro C o; simp only [putA]; rw [ih]; simp

theorem putA_out : ∀ (vs : List Value) (C : Array Value) (o k : Nat), (k < o ∨ o + vs.length ≤ k) → (putA C o vs)[k]? = C[k]? := by
  intro vs
  induction vs with
  | nil => intro C o k _; rfl
  | cons v vs ih =>
    intro C o k h
    simp only [putA]
    rw [ih _ _ _ (by simp at h; omega), Array.getElem?_setIfInBounds_ne (by simp at h; omega)]

theorem putA_in : ∀ (vs : List Value) (C : Array Value) (o k : Nat), o + vs.length ≤ C.size → k < vs.length → (putA C o vs)[o + k]? = vs[k]? := by
  intro vs
  induction vs with
  | nil => intro C o k _ h; simp at h
  | cons v vs ih =>
    intro C o k h hk
    simp only [putA]
    rcases k with _ | k
    · rw [putA_out _ _ _ _ (.inl (by omega))]
      simp at h
      simp [Array.getElem?_setIfInBounds]; omega
    · have := ih (C.setIfInBounds o v) (o + 1) k (by simp at h ⊢; omega) (by simpa using hk)
      rw [show o + (k + 1) = o + 1 + k by omega, this]; rfl

theorem setCell_heap (w : World) (b o : Nat) (v : Value) {C : Array Value} {elem : TypeId} {fr : Nat × Nat} (h : w.heap[b]? = some (.cells C elem fr)) :
    (w.setCell ⟨b, o, none⟩ v).heap[b]? = some (.cells (C.setIfInBounds o v) elem fr) := by
  simp only [World.setCell, Array.getElem?_modify, h]
  simp

theorem setCells_heap (b : Nat) : ∀ (vs : List Value) (o : Nat) (w : World) {C : Array Value} {elem : TypeId} {fr : Nat × Nat}, w.heap[b]? = some (.cells C elem fr) →
    (w.setCells b o vs).heap[b]? = some (.cells (putA C o vs) elem fr) := by
  intro vs
  induction vs with
  | nil => intro o w C elem fr h; exact h
  | cons v vs ih => intro o w C elem fr h; exact ih (o + 1) _ (setCell_heap w b o v h)

theorem setCells_other (b : Nat) : ∀ (vs : List Value) (o : Nat) (w : World) (k : Nat), k ≠ b → (w.setCells b o vs).heap[k]? = w.heap[k]? := by
  intro vs
  induction vs with
  | nil => intro o w k h; rfl
  | cons v vs ih =>
    intro o w k h
    rw [World.setCells, ih _ _ _ h]
    simp only [World.setCell, Array.getElem?_modify]
    rw [if_neg (Ne.symm h)]

theorem setCells_rest (b : Nat) : ∀ (vs : List Value) (o : Nat) (w : World), (w.setCells b o vs).heap.size = w.heap.size ∧ (w.setCells b o vs).os = w.os ∧ (w.setCells b o vs).tape = w.tape ∧ (w.setCells b o vs).output = w.output := by
  intro vs
  induction vs with
  | nil => intro o w; exact ⟨rfl, rfl, rfl, rfl⟩
  | cons v vs ih =>
    intro o w
    obtain ⟨h1, h2, h3, h4⟩ := ih (o + 1) (w.setCell ⟨b, o, none⟩ v)
    exact ⟨by rw [World.setCells, h1]; simp [World.setCell], h2, h3, h4⟩

theorem OR.congr {ρ : Ren} {p : Pl} {w w' : World} {ob : Ob} (h : OR ρ p w ob) (he : w'.heap[p.block]? = w.heap[p.block]?) : OR ρ p w' ob := by
  cases ob <;> simp only [OR, he] at h ⊢ <;> exact h

theorem OR.mono {ρ ρ' : Ren} (hρ : ∀ r p, ρ r = some p → ρ' r = some p) {p : Pl} {w : World} {ob : Ob} (h : OR ρ p w ob) : OR ρ' p w ob := by
  cases ob with
  | row size cells fz ro elem =>
    obtain ⟨C, fr, h1, h2, h3, h4, h5⟩ := h
    exact ⟨C, fr, h1, h2, h3, fun i v hv => let ⟨v', e1, e2⟩ := h4 i v hv; ⟨v', e1, e2.mono hρ⟩, h5⟩
  | map es clock =>
    obtain ⟨ds, h1, h2, h3⟩ := h
    exact ⟨ds, h1, h2, fun i x y hx hy => let ⟨e1, e2, e3, e4⟩ := h3 i x y hx hy; ⟨e1, e2, e3, e4.mono hρ⟩⟩
  | iter s pos => exact h
  | dead => trivial

theorem wr_lives {ob : Ob} (h : wr ob = true) : lives ob = true := by cases ob <;> first | rfl | (simp [wr] at h)

section
variable {E : Env} {o : Oper} {tm : Tr Value} {H H' : Hp} {c c' : Nat} {v : Value} {ρ : Ren} {a : Act} {w : World}

/-- One thing turned in place, in its own block. -/
theorem turn_sound (hR : Rel ρ H w) {r : Nat} {p : Pl} {ob ob' : Ob} (hp : ρ r = some p) (hg : H.get r = some ob) (hw1 : wr ob = true) (hw2 : wr ob' = true) {w' : World}
    (hblk : ∀ k, k ≠ p.block → w'.heap[k]? = w.heap[k]?) (hsz : w'.heap.size = w.heap.size) (hos : w'.os = w.os) (htape : w'.tape = w.tape) (hout : w'.output = w.output) (hOR : OR ρ p w' ob') :
    Rel ρ (H.upd ob' r) w' ∧ Fr ρ H w ρ (H.upd ob' r) w' c c := by
  have hlk : lk H r = ob := by simp [lk, hg]
  have hl' : ∀ s, lk (H.upd ob' r) s = if s = r then ob' else lk H s := fun s => by rw [lk_upd, hg]
  have hliv : ∀ s, lives (lk (H.upd ob' r) s) = lives (lk H s) := fun s => by
    rw [hl']; split
    · rename_i e; subst e; rw [hlk, wr_lives hw1, wr_lives hw2]
    · rfl
  have hwr : ∀ s, wr (lk (H.upd ob' r) s) = wr (lk H s) := fun s => by
    rw [hl']; split
    · rename_i e; subst e; rw [hlk, hw1, hw2]
    · rfl
  refine ⟨⟨fun s q hq => ?_, fun s t q u h1 h2 h3 h4 h5 => hR.apart s t q u (by rw [← hliv]; exact h1) (by rw [← hliv]; exact h2) h3 h4 h5, fun s q hq => by rw [hsz]; exact hR.below s q hq⟩,
    ⟨fun _ _ h => h, fun s q h1 h2 => by simp [h1] at h2, Nat.le_refl _, fun s h1 _ => ?_, fun B hB hk => hblk B (hk r p (by rw [hlk]; exact hw1) hp ∘ Eq.symm), fun s q h1 h2 => .inr ⟨s, q, by rw [← hwr]; exact h1, h2, rfl⟩, fun s q h1 h2 => .inr ⟨s, q, by rw [← hliv]; exact h1, h2, rfl⟩, fun ht s hs => ?_, by rw [hsz]; exact Nat.le_refl _, hos, htape, hout⟩⟩
  · rw [hl']
    split
    · rename_i e; subst e
      rw [hp] at hq; cases hq; exact hOR
    · rename_i hne
      by_cases hlv : lives (lk H s) = true
      · exact (hR.obj s q hq).congr (hblk _ (hR.apart s r q p hlv (by rw [hlk]; exact wr_lives hw1) hq hp hne))
      · cases hob : lk H s <;> simp [hob, lives] at hlv
        trivial
  · rw [hl', if_neg]; intro e; subst e; rw [hp] at h1; cases h1
  · rw [hl', if_neg, ht s hs]
    intro e; subst e
    have := ht s hs
    rw [hlk] at this; rw [this] at hw1; cases hw1

theorem write_sound {P : Program} (hR : Rel ρ H w) {r off : Nat} {p : Pl} {vs cvs : List Value} (hp : ρ r = some p) (h : writeRow H r off vs = some H') (hV : VL ρ vs cvs) (c : Nat) :
    ∃ w', (storeCells ⟨p.block, p.base + off, none⟩ cvs).run P w = .ok () w' ∧ Rel ρ H' w' ∧ Fr ρ H w ρ H' w' c c := by
  unfold writeRow at h
  split at h
  · rename_i size cells fz elem hg
    simp only [Bool.cond_eq_ite, Bool.and_eq_true, Nat.ble_eq] at h
    split at h
    · rename_i hcond
      obtain ⟨⟨h1, h2⟩, h3⟩ := hcond
      simp only [Option.some.injEq] at h
      subst h
      have ho := hR.obj r p hp
      simp only [lk, hg, Option.getD_some, OR] at ho
      obtain ⟨C, fr, hC, hext, hfit, hcell, hfr, hwh⟩ := ho
      have hlen := hV.1
      have hin : ∀ j, j < cvs.length → p.base + off + j < C.size := fun j hj => by omega
      refine ⟨w.setCells p.block (p.base + off) cvs, ?_, turn_sound hR hp hg rfl rfl (fun k hk => setCells_other _ _ _ _ _ hk) (setCells_rest _ _ _ _).1 (setCells_rest _ _ _ _).2.1 (setCells_rest _ _ _ _).2.2.1 (setCells_rest _ _ _ _).2.2.2 ?_⟩
      · have := run_storeCells_cells (P := P) p.block (p.base + off) cvs 0 w (fun j hj => by
            simp only [World.cell?, hC, Option.isSome_none, Bool.false_eq_true, if_false, Nat.add_zero]
            rw [Array.getElem?_eq_getElem (hin j hj)]; rfl)
          (fun j hj => by
            simp only [World.frozen?, hC, Nat.add_zero]
            by_cases hq : fr.1 ≤ p.base + off + j ∧ p.base + off + j < fr.2
            · have := hfr _ (hin j hj) hq.1 hq.2; omega
            · rw [Bool.and_eq_false_iff]
              by_cases hq1 : fr.1 ≤ p.base + off + j
              · right; simp; have := fun h => hq ⟨hq1, h⟩; omega
              · left; simp; omega)
          (fun u hu => by
            obtain ⟨i, hi, rfl⟩ := List.getElem_of_mem hu
            have hi' : i < vs.length := by omega
            rw [List.all_eq_true] at h3
            exact (hV.2 i vs[i] cvs[i] (by simp) (by simp)).oneC (h3 _ (by simp)))
        simpa using this
      · refine ⟨putA C (p.base + off) cvs, fr, setCells_heap _ _ _ _ hC, by rw [putA_size]; exact hext, by rw [putA_size]; exact hfit, fun i u hu => ?_, fun k h1 h2 h3 => hfr k (by rwa [putA_size] at h1) h2 h3, fun h => ⟨(hwh h).1, by rw [putA_size]; exact (hwh h).2⟩⟩
        rcases Tr.get_updL _ _ _ _ _ hu with ⟨k, rfl, hk⟩ | ⟨hk, hgt⟩
        · have hlt : k < vs.length := (List.getElem?_eq_some_iff.1 hk).1
          have hlt' : k < cvs.length := by omega
          refine ⟨cvs[k], ?_, hV.2 k u _ hk (List.getElem?_eq_getElem hlt')⟩
          rw [← Nat.add_assoc, putA_in _ _ _ _ (by omega) hlt', List.getElem?_eq_getElem hlt']
        · obtain ⟨u', e1, e2⟩ := hcell i u hgt
          refine ⟨u', ?_, e2⟩
          rw [putA_out _ _ _ _ ?_, e1]
          by_cases hio : i < off
          · left; omega
          · right
            have := hk (i - off)
            by_cases hlt : i - off < vs.length
            · exact absurd (by omega) (this hlt)
            · omega
    · cases h
  · cases h

/-- What a writing operation leaves. -/
def Does (E : Env) (o : Oper) (a : Act) (ρ : Ren) (w : World) (H : Hp) (c : Nat) (v : Value) (H' : Hp) (c' : Nat) : Prop :=
  ∃ nx w' ρ', (execOp a.eval o).run E.P w = .ok nx w' ∧ ((∃ cv, nx = .value cv ∧ VR ρ' v cv) ∨ (nx = .skip ∧ v = undef)) ∧ Rel ρ' H' w' ∧ Fr ρ H w ρ' H' w' c c'

theorem Looks.does (h : H' = H ∧ c' = c ∧ Looks E o a ρ w v) (hR : Rel ρ H w) : Does E o a ρ w H c v H' c' := by
  obtain ⟨rfl, rfl, cv, h1, h2⟩ := h
  exact ⟨_, w, ρ, h1, .inl ⟨cv, rfl, h2⟩, hR, Fr.refl _ _ _ _⟩

theorem Made.does (h : Made E o a ρ w H c v H' c') (hR : Rel ρ H w) (hfresh : ρ c = none) : Does E o a ρ w H c v H' c' := by
  obtain ⟨ob, ⟨hg, hlt⟩, rfl, rfl, ⟨cv, cob, w', ext, hrun, hheap, hos, htape, hout, hAll⟩, hwr⟩ := h
  let ρ' : Ren := fun r => if r = c then some ⟨w.heap.size, 0, ext⟩ else ρ r
  have hρ : ∀ r p, ρ r = some p → ρ' r = some p := fun r p hr => by
    show (if r = c then _ else _) = _
    rw [if_neg]; exact hr
    intro e; subst e; rw [hfresh] at hr; cases hr
  have hρc : ρ' c = some ⟨w.heap.size, 0, ext⟩ := by show (if c = c then _ else _) = _; rw [if_pos rfl]
  have hinv : ∀ r p, ρ' r = some p → (r = c ∧ p = ⟨w.heap.size, 0, ext⟩) ∨ (r ≠ c ∧ ρ r = some p) := fun r p hr => by
    by_cases e : r = c
    · subst e; rw [hρc] at hr; exact .inl ⟨rfl, (Option.some.inj hr).symm⟩
    · refine .inr ⟨e, ?_⟩
      have : ρ' r = ρ r := by show (if r = c then _ else _) = _; rw [if_neg e]
      rw [← this]; exact hr
  obtain ⟨hV, hO⟩ := hAll ρ' hρ hρc
  have hl' : ∀ s, lk (H.put ob .dead 64 c) s = if s = c then ob else lk H s := fun s => lk_put _ _ _ _ (by omega)
  have hold : ∀ k, k < w.heap.size → w'.heap[k]? = w.heap[k]? := fun k hk => by rw [hheap, Array.getElem?_push, if_neg (by omega)]
  refine ⟨_, w', ρ', hrun, .inl ⟨cv, rfl, hV⟩, ⟨fun s q hq => ?_, fun s t q u h1 h2 h3 h4 h5 => ?_, fun s q hq => ?_⟩, ⟨hρ, fun s q h1 h2 => ?_, by omega, fun s h1 h2 => ?_, fun B hB _ => hold B hB, fun s q h1 h2 => ?_, fun s q h1 h2 => ?_, fun ht s hs => by rw [hl', if_neg (by omega)]; exact ht s (by omega), by rw [hheap]; simp, hos, htape, hout⟩⟩
  · rcases hinv s q hq with ⟨rfl, rfl⟩ | ⟨hne, hq'⟩
    · rw [hl', if_pos rfl]
      exact hO w' (by rw [hheap]; simp)
    · rw [hl', if_neg hne]
      exact ((hR.obj s q hq').mono hρ).congr (hold _ (hR.below s q hq'))
  · rcases hinv s q h3 with ⟨rfl, rfl⟩ | ⟨hne, hq'⟩ <;> rcases hinv t u h4 with ⟨rfl, rfl⟩ | ⟨hne', hu'⟩
    · exact absurd rfl h5
    · have := hR.below t u hu'; simp only; omega
    · have := hR.below s q hq'; simp only; omega
    · rw [hl', if_neg hne] at h1
      rw [hl', if_neg hne'] at h2
      exact hR.apart s t q u h1 h2 hq' hu' h5
  · rcases hinv s q hq with ⟨rfl, rfl⟩ | ⟨hne, hq'⟩
    · rw [hheap]; simp
    · rw [hheap]; have := hR.below s q hq'; simp; omega
  · rcases hinv s q h2 with ⟨rfl, rfl⟩ | ⟨hne, hq'⟩
    · omega
    · rw [h1] at hq'; cases hq'
  · rw [hl', if_neg (by omega)]
  · rcases hinv s q h2 with ⟨rfl, rfl⟩ | ⟨hne, hq'⟩
    · exact .inl (Nat.le_refl _)
    · rw [hl', if_neg hne] at h1
      exact .inr ⟨s, q, h1, hq', rfl⟩
  · rcases hinv s q h2 with ⟨rfl, rfl⟩ | ⟨hne, hq'⟩
    · exact .inl (Nat.le_refl _)
    · rw [hl', if_neg hne] at h1
      exact .inr ⟨s, q, h1, hq', rfl⟩

theorem s_store {t : TypeId} {x y : Operand} (ho : o.op = .store t x y) (h : evOp E o tm H c = some (v, H', c')) (hT : OT E ρ tm a o.op.operands.toList) (hR : Rel ρ H w) : Does E o a ρ w H c v H' c' := by
  rw [ho] at hT
  simp only [evOp, ho] at h
  split at h
  · rename_i r off u n e1 e2 e3
    obtain ⟨p, hp, _, ev⟩ := (opd_sound hT e1).inv_ptr
    have hV := (opd_sound hT e2).cells
    split at h
    · cases h
    · rename_i hn
      have hsz : u.cells.size = n := by simpa using hn
      have hsz' : (a.eval y).cells.size = n := by have := hV.1; simp at this; omega
      split at h
      · rename_i hn0
        simp only [Option.some.injEq, Prod.mk.injEq] at h
        obtain ⟨rfl, rfl, rfl⟩ := h
        refine ⟨.skip, w, ρ, ?_, .inr ⟨rfl, rfl⟩, hR, Fr.refl _ _ _ _⟩
        have : (a.eval y).cells.toList = [] := by rw [← List.length_eq_zero_iff, Array.length_toList]; omega
        simp only [execOp, ho, ev, Instr.storeAt, Instr.sureAddr, storeVar, Sem.run_bind, Sem.run_pure, Result.andThen_ok, run_size e3, hsz', ne_eq, not_true_eq_false, if_false, this, storeCells]
      · split at h
        · rename_i H1 hw
          simp only [Option.some.injEq, Prod.mk.injEq] at h
          obtain ⟨rfl, rfl, rfl⟩ := h
          obtain ⟨w', h1, h2, h3⟩ := write_sound (P := E.P) hR hp hw hV c
          refine ⟨.skip, w', ρ, ?_, .inr ⟨rfl, rfl⟩, h2, h3⟩
          simp only [execOp, ho, ev, Instr.storeAt, Instr.sureAddr, storeVar, Sem.run_bind, Sem.run_pure, Result.andThen_ok, run_size e3, hsz', ne_eq, not_true_eq_false, if_false, h1]
        · cases h
  · cases h

theorem Rel.of_heap (hR : Rel ρ H w) {w' : World} (h : w'.heap = w.heap) : Rel ρ H w' :=
  ⟨fun r p hp => (hR.obj r p hp).congr (by rw [h]), hR.apart, fun r p hp => by rw [h]; exact hR.below r p hp⟩

theorem len_sound {x X : Value} (hV : VR ρ x X) {m : Nat} (h : lenOf? x = some m) : ∀ (P : Program) (w : World), (Builtin.lenOf X).run P w = .ok m w := by
  intro P w
  cases hV with
  | flat n hf => cases x <;> simp [lenOf?] at h <;> subst h <;> rfl
  | slice h1 h2 h3 => simp [lenOf?] at h; subst h; rfl
  | _ => simp [lenOf?] at h

theorem first_sound {P : Program} (hR : Rel ρ H w) {x X : Value} (hV : VR ρ x X) {size n : Nat} {l : List Value} (h : firstOf H size n x = some l) : ∃ m, VL ρ l m ∧ (Builtin.firstCells size n X).run P w = .ok m.toArray w := by
  unfold firstOf at h
  split at h
  · rename_i r off sp len cap
    obtain ⟨p, d, sz, hp, _, _, _, rfl⟩ := hV.inv_slice
    obtain ⟨m, h1, h2⟩ := run_loadRow (P := P) hR hp h
    exact ⟨m, h1, h2⟩
  · simp only [Option.some.injEq] at h; subst h
    cases hV with
    | flat k hf => exact ⟨[], VL.nil, rfl⟩
  · rename_i s
    simp only [Option.some.injEq] at h; subst h
    have := hV.inv_string; subst this
    refine ⟨_, VL.flat 0 (by rw [List.all_eq_true]; intro x hx; obtain ⟨b, _, rfl⟩ := List.mem_map.1 hx; rfl), ?_⟩
    simp only [Builtin.firstCells]
    show Result.ok _ w = _
    congr 1
    apply Array.ext'
    have e : (s.extract 0 n).data.toList = s.data.toList.take n := by
      simp [ByteArray.data_extract]
    rw [Array.toList_map, e]
  · cases h

theorem runD_cases {xd : TypeDesc} (h : runD xd = true) : (∃ e', xd = .slice e') ∨ xd = .string := by
  cases xd <;> first | exact .inl ⟨_, rfl⟩ | exact .inr rfl | (simp [runD] at h)

/-- append, where there is room. -/
theorem append_in {P : Program} {A : Array TypeId} {t u ty e : TypeId} (h0 : A[0]? = some t) (h1 : A[1]? = some u) {inf : TypeInfo} {xd : TypeDesc} (ht : P.underlying t = some (.slice e)) (hu : P.underlying u = some xd) (hxd : runD xd = true) (hi : P.info? e = some inf) {X : Value} {m : Nat} (hl : ∀ w, (Builtin.lenOf X).run P w = .ok m w)
    {new : Array Value} (hn : (Builtin.firstCells inf.size m X).run P w = .ok new w) {base : Option Addr} {n d : Nat} (hroom : n + m ≤ d) {w' : World}
    (hst : (match base with | some a => (storeCells (a.add (n * inf.size)) new.toList).run P w | none => .ok () w) = .ok () w') :
    (Builtin.append_ A ty #[.slice base n d, X]).run P w = .ok (.slice base (n + m) d) w' := by
  have hs := run_size (P := P) (size_info hi)
  unfold Builtin.append_
  cases base with
  | none =>
    simp only at hst
    cases hst
    rcases runD_cases hxd with ⟨e', rfl⟩ | rfl <;> simp [h0, h1, run_underlying ht, run_underlying hu, hs, hl, hn, hroom]
  | some b =>
    simp only at hst
    rcases runD_cases hxd with ⟨e', rfl⟩ | rfl <;> simp [h0, h1, run_underlying ht, run_underlying hu, hs, hl, hn, hroom, hst]

/-- append, where there is none. -/
theorem append_grow {P : Program} {A : Array TypeId} {t u ty e : TypeId} (h0 : A[0]? = some t) (h1 : A[1]? = some u) {inf : TypeInfo} {z : Value} {xd : TypeDesc} (ht : P.underlying t = some (.slice e)) (hu : P.underlying u = some xd) (hxd : runD xd = true) (hi : P.info? e = some inf) (hz0 : inf.zero = some z) {X : Value} {m : Nat} (hl : ∀ w, (Builtin.lenOf X).run P w = .ok m w)
    {base : Option Addr} {n d : Nat} {old new : Array Value} (hn : (Builtin.firstCells inf.size m X).run P w.drew = .ok new w.drew) (ho : (Builtin.firstCells inf.size n (.slice base n d)).run P w.drew = .ok old w.drew) (hroom : d < n + m)
    (hb1 : n + m ≤ 1099511627776) (hb2 : (n + m) * inf.bytes ≤ 1099511627776) (hsz : inf.size ≠ 0) :
    (Builtin.append_ A ty #[.slice base n d, X]).run P w = .ok (.slice (some ⟨w.heap.size, 0, none⟩) (n + m) (grownCap w (n + m) d e))
      (w.drew.alloc (.cells (old ++ new ++ Builtin.zeroCells z.cells (grownCap w (n + m) d e - (n + m))) e)) := by
  have hs := run_size (P := P) (size_info hi)
  have hnr : ¬ (n + m ≤ d) := by omega
  have h63 : ¬ (9223372036854775807 < ((n : Int) + (m : Int))) := by omega
  have h48 : ¬ (281474976710656 < Builtin.nextslicecap (n + m) d * inf.bytes) := by
    have := growslice_fits (need := n + m) (old := d) (bytes := inf.bytes) hroom (by omega)
    omega
  unfold Builtin.append_
  rcases runD_cases hxd with ⟨e', rfl⟩ | rfl <;>
    simp [h0, h1, run_underlying ht, run_underlying hu, hs, hl, hnr, h63, h48, typeInfo, hi, Question.forced, hn, ho, zeroValue, hz0, Go.newRow, grownCap]

theorem kill_sound (hR : Rel ρ H w) {r : Nat} {p : Pl} (hp : ρ r = some p) (c : Nat) : Rel ρ (H.upd .dead r) w ∧ Fr ρ H w ρ (H.upd .dead r) w c c := by
  have hl' : ∀ s, lk (H.upd .dead r) s = if s = r then .dead else lk H s := fun s => by
    rw [lk_upd]; split
    · cases H.get r <;> rfl
    · rfl
  refine ⟨⟨fun s q hq => ?_, fun s t q u h1 h2 h3 h4 h5 => ?_, hR.below⟩, ⟨fun _ _ h => h, fun s q h1 h2 => by simp [h1] at h2, Nat.le_refl _, fun s h1 _ => ?_, fun _ _ _ => rfl, fun s q h1 h2 => ?_, fun s q h1 h2 => ?_, fun ht s hs => by rw [hl']; exact if hsr : s = r then by rw [if_pos hsr] else by rw [if_neg hsr]; exact ht s hs, Nat.le_refl _, rfl, rfl, rfl⟩⟩
  · rw [hl']; split
    · trivial
    · exact hR.obj s q hq
  · rw [hl'] at h1 h2
    split at h1
    · cases h1
    · split at h2
      · cases h2
      · exact hR.apart s t q u h1 h2 h3 h4 h5
  · rw [hl', if_neg]; intro e; subst e; rw [hp] at h1; cases h1
  · rw [hl'] at h1
    split at h1
    · cases h1
    · exact .inr ⟨s, q, h1, h2, rfl⟩
  · rw [hl'] at h1
    split at h1
    · cases h1
    · exact .inr ⟨s, q, h1, h2, rfl⟩

/-- A row that grows in its own block: the new number takes it over. -/
theorem inplace_sound {P : Program} (hR : Rel ρ H w) {r off : Nat} {p : Pl} (hp : ρ r = some p) {rsize : Nat} {cells : Tr Value} {el el' : TypeId} (hel : el' / 2 = el / 2) (hel' : el' % 2 = 1 → False) (hg : H.get r = some (.row rsize cells 0 false el)) (hcf : ρ c = none) (hlt : c < 9223372036854775808)
    {old new cold cnew : List Value} (hVo : VL ρ old cold) (hold : ∀ j u, cold[j]? = some u → w.cell? ⟨p.block, p.base + off + j, none⟩ = some u) (hVn : VL ρ new cnew) (hone : new.all oneC = true) (hfit : p.base + off + cold.length + cnew.length ≤ p.ext) :
    ∃ w' ρ', (storeCells ⟨p.block, p.base + off + cold.length, none⟩ cnew).run P w = .ok () w' ∧ ρ' c = some ⟨p.block, p.base + off, p.ext⟩ ∧ (∀ r q, ρ r = some q → ρ' r = some q) ∧
      Rel ρ' ((H.upd .dead r).put (.row (old ++ new).length (Tr.updL (Tr.rep undef 64 (old ++ new).length) 0 (old ++ new)) 0 false el') .dead 64 c) w' ∧
      Fr ρ H w ρ' ((H.upd .dead r).put (.row (old ++ new).length (Tr.updL (Tr.rep undef 64 (old ++ new).length) 0 (old ++ new)) 0 false el') .dead 64 c) w' c (c + 1) := by
  have ho := hR.obj r p hp
  have hlkr : lk H r = .row rsize cells 0 false el := by simp [lk, hg]
  rw [hlkr] at ho
  simp only [OR] at ho
  obtain ⟨C, fr, hC, hext, hfit0, hcell, hfr, hwh⟩ := ho
  have hrc : r ≠ c := by intro e; subst e; rw [hcf] at hp; cases hp
  let ρ' : Ren := fun s => if s = c then some ⟨p.block, p.base + off, p.ext⟩ else ρ s
  have hρ : ∀ s q, ρ s = some q → ρ' s = some q := fun s q hq => by
    show (if s = c then _ else _) = _
    rw [if_neg]; exact hq
    intro e; subst e; rw [hcf] at hq; cases hq
  have hρc : ρ' c = some ⟨p.block, p.base + off, p.ext⟩ := by show (if c = c then _ else _) = _; rw [if_pos rfl]
  have hinv : ∀ s q, ρ' s = some q → (s = c ∧ q = ⟨p.block, p.base + off, p.ext⟩) ∨ (s ≠ c ∧ ρ s = some q) := fun s q hq => by
    by_cases e : s = c
    · subst e; rw [hρc] at hq; exact .inl ⟨rfl, (Option.some.inj hq).symm⟩
    · refine .inr ⟨e, ?_⟩
      have : ρ' s = ρ s := by show (if s = c then _ else _) = _; rw [if_neg e]
      rw [← this]; exact hq
  let ob : Ob := .row (old ++ new).length (Tr.updL (Tr.rep undef 64 (old ++ new).length) 0 (old ++ new)) 0 false el'
  have hl' : ∀ s, lk ((H.upd .dead r).put ob .dead 64 c) s = if s = c then ob else if s = r then .dead else lk H s := fun s => by
    rw [lk_put _ _ _ _ (by omega)]
    split
    · rfl
    · rw [lk_upd]; split
      · cases H.get r <;> rfl
      · rfl
  let w' := w.setCells p.block (p.base + off + cold.length) cnew
  have hin : ∀ j, j < cnew.length → p.base + off + cold.length + j < C.size := fun j hj => by omega
  have hrest := setCells_rest p.block cnew (p.base + off + cold.length) w
  have hoth : ∀ k, k ≠ p.block → w'.heap[k]? = w.heap[k]? := fun k hk => setCells_other _ _ _ _ _ hk
  have hlr : lives (lk H r) = true := by rw [hlkr]; rfl
  refine ⟨w', ρ', ?_, hρc, hρ, ⟨fun s q hq => ?_, fun s t q u h1 h2 h3 h4 h5 => ?_, fun s q hq => ?_⟩, ⟨hρ, fun s q h1 h2 => ?_, by omega, fun s h1 h2 => ?_, fun B hB hk => ?_, fun s q h1 h2 => ?_, fun s q h1 h2 => ?_, fun ht s hs => ?_, by show _ ≤ w'.heap.size; rw [hrest.1]; exact Nat.le_refl _, hrest.2.1, hrest.2.2.1, hrest.2.2.2⟩⟩
  · have := run_storeCells_cells (P := P) p.block (p.base + off + cold.length) cnew 0 w (fun j hj => by
        simp only [World.cell?, hC, Option.isSome_none, Bool.false_eq_true, if_false, Nat.add_zero]
        rw [Array.getElem?_eq_getElem (hin j hj)]; rfl)
      (fun j hj => by
        simp only [World.frozen?, hC, Nat.add_zero]
        by_cases hq : fr.1 ≤ p.base + off + cold.length + j ∧ p.base + off + cold.length + j < fr.2
        · have := hfr _ (hin j hj) hq.1 hq.2; omega
        · rw [Bool.and_eq_false_iff]
          by_cases hq1 : fr.1 ≤ p.base + off + cold.length + j
          · right; simp; have := fun h => hq ⟨hq1, h⟩; omega
          · left; simp; omega)
      (fun u hu => by
        obtain ⟨i, hi, rfl⟩ := List.getElem_of_mem hu
        have hi' : i < new.length := by have := hVn.1; omega
        rw [List.all_eq_true] at hone
        exact (hVn.2 i new[i] cnew[i] (by simp) (by simp)).oneC (hone _ (by simp)))
    simpa using this
  · rcases hinv s q hq with ⟨rfl, rfl⟩ | ⟨hne, hq'⟩
    · rw [hl', if_pos rfl]
      refine ⟨putA C (p.base + off + cold.length) cnew, fr, hel ▸ setCells_heap _ _ _ _ hC, by rw [putA_size]; exact hext, by rw [putA_size]; simp only [List.length_append]; have := hVo.1; have := hVn.1; omega, fun i u hu => ?_, fun k h1 h2 h3 => by
        have := hfr k (by rwa [putA_size] at h1) h2 h3; simp only at this ⊢; omega, fun h => (hel' h).elim⟩
      rcases Tr.get_updL _ _ _ _ _ hu with ⟨k, rfl, hk⟩ | ⟨hk, hgt⟩
      · simp only [Nat.zero_add]
        rw [List.getElem?_append] at hk
        split at hk
        · rename_i hko
          have hko' : k < cold.length := by have := hVo.1; omega
          refine ⟨cold[k], ?_, (hVo.2 k u _ hk (List.getElem?_eq_getElem hko')).mono hρ⟩
          have := hold k _ (List.getElem?_eq_getElem hko')
          simp only [World.cell?, hC, Option.isSome_none, Bool.false_eq_true, if_false] at this
          rw [putA_out _ _ _ _ (.inl (by omega))]
          exact this
        · rename_i hko
          have hkn : k - old.length < new.length := (List.getElem?_eq_some_iff.1 hk).1
          have hkn' : k - old.length < cnew.length := by have := hVn.1; omega
          refine ⟨cnew[k - old.length], ?_, (hVn.2 _ u _ hk (List.getElem?_eq_getElem hkn')).mono hρ⟩
          have e : p.base + off + k = p.base + off + cold.length + (k - old.length) := by have := hVo.1; omega
          rw [e, putA_in _ _ _ _ (by omega) hkn', List.getElem?_eq_getElem hkn']
      · have := (Tr.get_rep _ _ _ _ _ hgt).2
        exact (hk i this (by omega)).elim
    · rw [hl', if_neg hne]
      split
      · trivial
      · rename_i hsr
        by_cases hlv : lives (lk H s) = true
        · exact ((hR.obj s q hq').mono hρ).congr (hoth _ (hR.apart s r q p hlv hlr hq' hp hsr))
        · cases hob : lk H s <;> simp [hob, lives] at hlv
          trivial
  · have key : ∀ s q, lives (lk ((H.upd .dead r).put ob .dead 64 c) s) = true → s ≠ c → ρ s = some q → s ≠ r ∧ lives (lk H s) = true := fun s q h1 h2 h3 => by
      rw [hl', if_neg h2] at h1
      split at h1
      · cases h1
      · rename_i hsr; exact ⟨hsr, h1⟩
    rcases hinv s q h3 with ⟨rfl, rfl⟩ | ⟨hne, hq'⟩ <;> rcases hinv t u h4 with ⟨rfl, rfl⟩ | ⟨hne', hu'⟩
    · exact absurd rfl h5
    · obtain ⟨k1, k2⟩ := key t u h2 hne' hu'
      exact (hR.apart t r u p k2 hlr hu' hp k1).symm
    · obtain ⟨k1, k2⟩ := key s q h1 hne hq'
      exact hR.apart s r q p k2 hlr hq' hp k1
    · exact hR.apart s t q u (key s q h1 hne hq').2 (key t u h2 hne' hu').2 hq' hu' h5
  · show q.block < w'.heap.size
    rw [hrest.1]
    rcases hinv s q hq with ⟨rfl, rfl⟩ | ⟨hne, hq'⟩
    · exact hR.below r p hp
    · exact hR.below s q hq'
  · rcases hinv s q h2 with ⟨rfl, rfl⟩ | ⟨hne, hq'⟩
    · omega
    · rw [h1] at hq'; cases hq'
  · rw [hl', if_neg (by omega), if_neg]
    intro e; subst e; rw [hp] at h1; cases h1
  · exact hoth B fun e => hk r p (by rw [hlkr]; rfl) hp e.symm
  · rcases hinv s q h2 with ⟨rfl, rfl⟩ | ⟨hne, hq'⟩
    · exact .inr ⟨r, p, by rw [hlkr]; rfl, hp, rfl⟩
    · rw [hl', if_neg hne] at h1
      split at h1
      · cases h1
      · exact .inr ⟨s, q, h1, hq', rfl⟩
  · rcases hinv s q h2 with ⟨rfl, rfl⟩ | ⟨hne, hq'⟩
    · exact .inr ⟨r, p, hlr, hp, rfl⟩
    · rw [hl', if_neg hne] at h1
      split at h1
      · cases h1
      · exact .inr ⟨s, q, h1, hq', rfl⟩
  · rw [hl', if_neg (by omega)]
    split
    · rfl
    · exact ht s (by omega)

theorem two_args {xs : Array Operand} {s x : Value} (h : VL ρ [s, x] (xs.toList.map a.eval)) : ∃ S X, xs.map a.eval = #[S, X] ∧ VR ρ s S ∧ VR ρ x X := by
  obtain ⟨S, l, e1, h1, h2⟩ := h.inv_cons
  obtain ⟨X, l', e2, h3, h4⟩ := h2.inv_cons
  have : l' = [] := by have := h4.1; simpa using this.symm
  subst this; subst e2
  refine ⟨S, X, ?_, h1, h3⟩
  apply Array.ext'
  rw [Array.toList_map]; exact e1

theorem run_builtin {k : Call} {b : Builtin} (ho : o.op = .call k) (hc : k.callee = .builtin b) (w : World) {s : Sem Value} (hb : ∀ A t cs xs, A = k.argTypes → t = o.type → xs = k.args.map a.eval → builtin b A t cs xs = (do pure (.value (← s)))) {cv : Value} {w' : World} (hs : s.run E.P w = .ok cv w') :
    (execOp a.eval o).run E.P w = .ok (.value cv) w' := by
  simp only [execOp, ho, resolve, hc, invoke]
  have : ((pure ({ target := .builtin b k.argTypes o.type (k.args.map fun | .const _ => true | _ => false), args := k.args.map a.eval } : Deferred) : Sem Deferred) >>= fun d => match d.target with
    | .builtin b A t cs => builtin b A t cs d.args
    | _ => stuck "") = builtin b k.argTypes o.type (k.args.map fun | .const _ => true | _ => false) (k.args.map a.eval) := rfl
  simp only [Sem.run_bind, Sem.run_pure, Result.andThen_ok]
  rw [hb _ _ _ _ rfl rfl rfl]
  exact run_v hs

theorem s_append {k : Call} (ho : o.op = .call k) (hcal : k.callee = .builtin .append) {s x : Value} (hargs : opds E tm k.args.toList = some [s, x]) (h : evAppend E k.argTypes s x H c = some (v, H', c')) (hT : OT E ρ tm a o.op.operands.toList) (hR : Rel ρ H w)
    (hfresh : ∀ r, c ≤ r → r < c' → ρ r = none) : Does E o a ρ w H c v H' c' := by
  rw [ho] at hT
  obtain ⟨S, X, eargs, hS, hX⟩ := two_args (a := a) (opds_sound hT hargs)
  have hb : ∀ A t cs xs, A = k.argTypes → t = o.type → xs = k.args.map a.eval → builtin .append A t cs xs = (do pure (.value (← Builtin.append_ k.argTypes o.type #[S, X]))) := fun A t cs xs e1 e2 e3 => by
    subst e1; subst e2; subst e3; rw [eargs]; rfl
  unfold evAppend at h
  split at h
  · rename_i sType xType h0 h1
    split at h
    · rename_i elem xd ht hu
      split at h
      · cases h
      · rename_i hxd
        simp only [Bool.not_eq_true', Bool.not_eq_false] at hxd
        split at h
        · rename_i inf base n cap m hi hm
          simp only at h
          split at h
          · cases h
          · rename_i hsz
            split at h
            · cases h
            · rename_i new hnew
              have hl := len_sound hX hm E.P
              obtain ⟨cnew, hVn, hrn⟩ := first_sound (P := E.P) hR hX hnew
              obtain ⟨cnew', hVn', hrn'⟩ := first_sound (P := E.P) (hR.of_heap (w' := w.drew) rfl) hX hnew
              split at h
              · rename_i hroom
                split at h
                · -- nil, nothing appended
                  split at h
                  · rename_i hm0
                    simp only [Option.some.injEq, Prod.mk.injEq] at h
                    obtain ⟨rfl, rfl, rfl⟩ := h
                    cases hS with
                    | flat q hq =>
                      have hnc : n = 0 ∧ cap = 0 := by
                        rcases n with _ | n <;> rcases cap with _ | cap
                        · exact ⟨rfl, rfl⟩
                        all_goals (cases q <;> simp [Ce.flat] at hq)
                      obtain ⟨rfl, rfl⟩ := hnc
                      subst hm0
                      have := append_in (ty := o.type) h0 h1 ht hu hxd hi hl hrn (base := none) (n := 0) (d := 0) (by simp) rfl
                      exact ⟨_, w, ρ, run_builtin ho hcal w hb this, .inl ⟨_, rfl, .flat 0 rfl⟩, hR, Fr.refl _ _ _ _⟩
                  · cases h
                · rename_i _ r off sz
                  obtain ⟨p, d, sz', hp, hsp, hcd, hext, rfl⟩ := hS.inv_slice
                  obtain rfl : sz = sz' := by simpa using hsp
                  split at h
                  · rename_i hm0
                    simp only [Option.some.injEq, Prod.mk.injEq] at h
                    obtain ⟨rfl, rfl, rfl⟩ := h
                    subst hm0
                    have hn0 : cnew = [] := by
                      have h3 := hVn.1
                      have : new = [] := by
                        unfold firstOf at hnew
                        split at hnew
                        · simp [readRow] at hnew
                          split at hnew
                          · simp [Tr.getL] at hnew; first | exact hnew | exact hnew.symm
                          · cases hnew
                        · simpa using hnew.symm
                        · simpa using hnew.symm
                        · cases hnew
                      subst this; simpa using h3.symm
                    have := append_in (ty := o.type) h0 h1 ht hu hxd hi hl hrn (base := some ⟨p.block, p.base + off, none⟩) (n := n) (d := d) (by omega) (w' := w) (by rw [hn0]; rfl)
                    exact ⟨_, w, ρ, run_builtin ho hcal w hb this, .inl ⟨_, rfl, hS⟩, hR, Fr.refl _ _ _ _⟩
                  · split at h
                    · cases h
                    · rename_i hszz
                      obtain rfl : sz = inf.size := by simpa using hszz
                      split at h
                      · rename_i H1 hw
                        simp only [Option.some.injEq, Prod.mk.injEq] at h
                        obtain ⟨rfl, rfl, rfl⟩ := h
                        obtain ⟨w', e1, e2, e3⟩ := write_sound (P := E.P) hR hp hw hVn c
                        have := append_in (ty := o.type) h0 h1 ht hu hxd hi hl hrn (base := some ⟨p.block, p.base + off, none⟩) (n := n) (d := d) (by omega) (w' := w')
                          (by simp only [add_none]; rw [Nat.add_assoc]; simpa using e1)
                        exact ⟨_, w', ρ, run_builtin ho hcal w hb this, .inl ⟨_, rfl, .slice hp hcd hext⟩, e2, e3⟩
                      · cases h
                · cases h
              · rename_i hroom
                split at h
                · cases h
                · rename_i hbig
                  simp only [Bool.or_eq_true, decide_eq_true_eq, not_or, ne_eq, Decidable.not_not] at hbig
                  obtain ⟨⟨⟨hb1, hb2⟩, hz⟩, hnl⟩ := hbig
                  obtain ⟨z, hz, hzs⟩ : ∃ z, inf.zero = some z ∧ z.cells.size = inf.size := by
                    cases hq : inf.zero with
                    | none => rw [hq] at hz; cases hz
                    | some z => rw [hq] at hz; exact ⟨z, rfl, by simpa using hz⟩
                  have hcl : cnew'.length = m * inf.size := by rw [← hVn'.1, hnl]
                  have hge : ∀ need old e, need ≤ grownCap w need old e := fun need old e => by unfold grownCap; simp only [Question.cut]; omega
                  split at h
                  · -- nil grows
                    cases hS with
                    | flat q hq =>
                      have hnc : n = 0 ∧ cap = 0 := by
                        rcases n with _ | n <;> rcases cap with _ | cap
                        · exact ⟨rfl, rfl⟩
                        all_goals (cases q <;> simp [Ce.flat] at hq)
                      obtain ⟨rfl, rfl⟩ := hnc
                      obtain ⟨hg1, rfl, rfl, rfl⟩ := newRow_inv h
                      have hrun := append_grow (w := w) (ty := o.type) h0 h1 ht hu hxd hi hz hl (base := none) (n := 0) (d := 0) hrn' (old := #[]) (by simp [Builtin.firstCells]) (by omega) (by omega) (by omega) hsz
                      generalize hgc : grownCap w (0 + m) 0 elem = gc at hrun
                      have hgm : 0 + m ≤ gc := hgc ▸ hge _ _ _
                      generalize hC : (#[] ++ cnew'.toArray ++ Builtin.zeroCells z.cells (gc - (0 + m)) : Array Value) = C at hrun
                      have hCs : C.size = gc * inf.size := by
                        have e1 : m * inf.size + (gc - m) * inf.size = gc * inf.size := by rw [← Nat.add_mul]; congr 1; omega
                        rw [← hC]; simp [Builtin.zeroCells, hcl, hzs]; exact e1
                      have hCi : ∀ i, i < cnew'.length → C[i]? = cnew'[i]? := fun i hi => by
                        rw [← hC, Array.getElem?_append_left (by simpa using hi)]; simp
                      have hMade : Made E o a ρ w H c (.slice (some ⟨c, 0, some inf.size⟩) (0 + m) (0 + m)) (H.put (.row new.length (Tr.updL (Tr.rep undef 64 new.length) 0 new) 0 false (2 * elem)) .dead 64 c) (c + 1) :=
                        ⟨_, hg1, rfl, rfl, ⟨.slice (some ⟨w.heap.size, 0, none⟩) (0 + m) gc, .cells C elem, w.drew.alloc (.cells C elem), C.size, run_builtin ho hcal w hb hrun, rfl, rfl, rfl, rfl, fun ρ' hρ hc =>
                          ⟨VR.slice (o := 0) (p := ⟨w.heap.size, 0, C.size⟩) hc hgm (by simp only [Nat.zero_add]; omega), fun w'' hw => row_OR (el0 _) (fun h => (el0m _ h).elim) (VL.mono hρ hVn') hw hCi (by rw [hCs, hcl]; exact Nat.mul_le_mul_right _ (by omega)) (fun k _ h1 h2 => by simp at h2) rfl⟩⟩, rfl⟩
                      exact hMade.does hR (hfresh c (Nat.le_refl _) (by omega))
                  · rename_i _ r off sz
                    obtain ⟨p, d, sz', hp, hsp, hcd, hext, rfl⟩ := hS.inv_slice
                    obtain rfl : sz = sz' := by simpa using hsp
                    split at h
                    · rename_i rsize cells fz el hg
                      split at h
                      · cases h
                      · rename_i hcond
                        simp only [Bool.or_eq_true, decide_eq_true_eq, Bool.not_eq_true', not_or, Bool.not_eq_false, ne_eq, Decidable.not_not] at hcond
                        obtain ⟨⟨⟨rfl, rfl⟩, rfl⟩, hone⟩ := hcond
                        split at h
                        · rename_i old hold
                          obtain ⟨hg1, rfl, rfl, rfl⟩ := newRow_inv h
                          have hrd : readRow H r off (n * inf.size) = some old := by simp [readRow, hg, hold]
                          obtain ⟨hol, _⟩ := readRow_sound hR hp hrd
                          obtain ⟨cold, hVo, hro⟩ := run_loadRow (P := E.P) (hR.of_heap (w' := w.drew) rfl) hp hrd
                          have hcol : cold.length = n * inf.size := by rw [← hVo.1, hol]
                          obtain ⟨hRk, hFk⟩ := kill_sound hR hp c
                          have hrc : r ≠ c := by
                            intro e; subst e
                            have := hfresh r (Nat.le_refl _) (by omega)
                            rw [hp] at this; cases this
                          have hVon := hVo.append hVn'
                          by_cases hd : d < n + m
                          · -- a new block
                            have hrun := append_grow (w := w) (ty := o.type) h0 h1 ht hu hxd hi hz hl (base := some ⟨p.block, p.base + off, none⟩) (n := n) (d := d) hrn' (old := cold.toArray) (by simp only [Builtin.firstCells]; exact hro) hd (by omega) (by omega) hsz
                            generalize hgc : grownCap w (n + m) d (el / 2) = gc at hrun
                            have hgm : n + m ≤ gc := hgc ▸ hge _ _ _
                            generalize hC : (cold.toArray ++ cnew'.toArray ++ Builtin.zeroCells z.cells (gc - (n + m)) : Array Value) = C at hrun
                            have hCs : C.size = gc * inf.size := by
                              have e1 : n * inf.size + m * inf.size + (gc - (n + m)) * inf.size = gc * inf.size := by rw [← Nat.add_mul, ← Nat.add_mul]; congr 1; omega
                              rw [← hC]; simp [Builtin.zeroCells, hcl, hcol, hzs]; omega
                            have hCi : ∀ i, i < (cold ++ cnew').length → C[i]? = (cold ++ cnew')[i]? := fun i hi => by
                              rw [← hC, Array.getElem?_append_left (by simpa using hi)]; simp
                            have hMade : Made E o a ρ w (H.upd .dead r) c (.slice (some ⟨c, 0, some inf.size⟩) (n + m) (n + m)) ((H.upd .dead r).put (.row (old ++ new).length (Tr.updL (Tr.rep undef 64 (old ++ new).length) 0 (old ++ new)) 0 false (2 * (el / 2))) .dead 64 c) (c + 1) :=
                              ⟨_, hg1, rfl, rfl, ⟨.slice (some ⟨w.heap.size, 0, none⟩) (n + m) gc, .cells C (el / 2), w.drew.alloc (.cells C (el / 2)), C.size, run_builtin ho hcal w hb hrun, rfl, rfl, rfl, rfl, fun ρ' hρ hc =>
                                ⟨VR.slice (o := 0) (p := ⟨w.heap.size, 0, C.size⟩) hc hgm (by simp only [Nat.zero_add]; omega), fun w'' hw => row_OR (el0 _) (fun h => (el0m _ h).elim) (VL.mono hρ hVon) hw hCi (by
                                  rw [hCs, List.length_append, hcl, hcol, ← Nat.add_mul]; exact Nat.mul_le_mul_right _ hgm) (fun k _ h1 h2 => by simp at h2) rfl⟩⟩, rfl⟩
                            obtain ⟨nx, w', ρ', e1, e2, e3, e4⟩ := hMade.does hRk (hfresh c (Nat.le_refl _) (by omega))
                            exact ⟨nx, w', ρ', e1, e2, e3, hFk.trans e4⟩
                          · -- in place
                            have hcl0 : cnew.length = m * inf.size := by rw [← hVn.1, hnl]
                            obtain ⟨_, cold0, hVo0, hcell0⟩ := readRow_sound hR hp hrd
                            have hcol0 : cold0.length = n * inf.size := by rw [← hVo0.1, hol]
                            have hdm : (n + m) * inf.size ≤ d * inf.size := Nat.mul_le_mul_right _ (by omega)
                            rw [Nat.add_mul] at hdm
                            simp only at hext
                            obtain ⟨w', ρ', e1, e2, e3, e4, e5⟩ := inplace_sound (P := E.P) (off := off) hR hp (el' := 2 * (el / 2)) (el0 _) (el0m _) hg (hfresh c (Nat.le_refl _) (by omega)) hg1.2 hVo0 hcell0 hVn hone (by omega)
                            have hrun := append_in (w := w) (ty := o.type) h0 h1 ht hu hxd hi hl hrn (base := some ⟨p.block, p.base + off, none⟩) (n := n) (d := d) (by omega) (w' := w')
                              (by simp only [add_none]; rw [← hcol0]; exact e1)
                            exact ⟨_, w', ρ', run_builtin ho hcal w hb hrun, .inl ⟨_, rfl, VR.slice (o := 0) e2 (by omega) (by simpa using hext)⟩, e4, e5⟩
                        · cases h
                    · cases h
                  · cases h
        · cases h
    · cases h
  · cases h

end
end Ce

namespace Ce
open Go

section
variable {E : Env} {o : Oper} {tm : Tr Value} {H H' : Hp} {c c' : Nat} {v : Value} {ρ : Ren} {a : Act} {w : World}

theorem s_copy {k : Call} (ho : o.op = .call k) (hcal : k.callee = .builtin .copy) {d s : Value} (hargs : opds E tm k.args.toList = some [d, s]) (h : evCopy E k.argTypes d s H c = some (v, H', c')) (hT : OT E ρ tm a o.op.operands.toList) (hR : Rel ρ H w) :
    Does E o a ρ w H c v H' c' := by
  rw [ho] at hT
  obtain ⟨D, S, eargs, hD, hS⟩ := two_args (a := a) (opds_sound hT hargs)
  have hb : ∀ A t cs xs, A = k.argTypes → t = o.type → xs = k.args.map a.eval → builtin .copy A t cs xs = (do pure (.value (← Builtin.copy_ k.argTypes o.type #[D, S]))) := fun A t cs xs e1 e2 e3 => by
    subst e1; subst e2; subst e3; rw [eargs]; rfl
  unfold evCopy at h
  split at h
  · rename_i dType h0
    split at h
    · rename_i elem ht
      split at h
      · rename_i size base dn dcap sn hs hl0
        have hl := len_sound hS hl0 E.P
        simp only at h
        split at h
        · rename_i cells r off sz hf
          split at h
          · cases h
          · rename_i hsz
            obtain ⟨m, hV, hrun⟩ := first_sound (P := E.P) hR hS hf
            obtain ⟨p, dd, sz', hp, _, _, _, rfl⟩ := hD.inv_slice
            split at h
            · rename_i hemp
              simp only [Option.some.injEq, Prod.mk.injEq] at h
              obtain ⟨rfl, rfl, rfl⟩ := h
              have hc0 : cells = [] := by simpa using hemp
              have hm0 : m = [] := by have := hV.1; rw [hc0] at this; simpa using this.symm
              have : (Builtin.copy_ k.argTypes o.type #[.slice (some ⟨p.block, p.base + off, none⟩) dn dd, S]).run E.P w = .ok (goInt (Nat.min sn dn)) w := by
                unfold Builtin.copy_
                simp [h0, run_underlying ht, hl, run_size hs, hrun, hm0, storeCells]
              exact ⟨_, w, ρ, run_builtin ho hcal w hb this, .inl ⟨_, rfl, .flat 0 rfl⟩, hR, Fr.refl _ _ _ _⟩
            · split at h
              · rename_i H1 hw
                simp only [Option.some.injEq, Prod.mk.injEq] at h
                obtain ⟨rfl, rfl, rfl⟩ := h
                obtain ⟨w', e1, e2, e3⟩ := write_sound (P := E.P) hR hp hw hV c
                have : (Builtin.copy_ k.argTypes o.type #[.slice (some ⟨p.block, p.base + off, none⟩) dn dd, S]).run E.P w = .ok (goInt (Nat.min sn dn)) w' := by
                  unfold Builtin.copy_
                  simp [h0, run_underlying ht, hl, run_size hs, hrun, e1]
                exact ⟨_, w', ρ, run_builtin ho hcal w hb this, .inl ⟨_, rfl, .flat 0 rfl⟩, e2, e3⟩
              · cases h
        · rename_i cells hf
          obtain ⟨m, hV, hrun⟩ := first_sound (P := E.P) hR hS hf
          simp only [Option.some.injEq, Prod.mk.injEq] at h
          obtain ⟨rfl, rfl, rfl⟩ := h
          cases hD with
          | flat q hq =>
            have : (Builtin.copy_ k.argTypes o.type #[.slice none dn dcap, S]).run E.P w = .ok (goInt (Nat.min sn dn)) w := by
              unfold Builtin.copy_
              simp [h0, run_underlying ht, hl, run_size hs, hrun]
            exact ⟨_, w, ρ, run_builtin ho hcal w hb this, .inl ⟨_, rfl, .flat 0 rfl⟩, hR, Fr.refl _ _ _ _⟩
        · cases h
      · cases h
    · cases h
  · cases h

/-- Where an entry is found. -/
theorem findNow_at {kd : TypeDesc} {k : Value} : ∀ (es : List MapEntry) (i n : Nat) (u : Value), Instr.findNow kd k es i = some (some (n, u)) → ∃ e, i ≤ n ∧ es[n - i]? = some e ∧ Instr.sameNow kd k e.key = some true := by
  intro es
  induction es with
  | nil => intro i n u h; simp [Instr.findNow] at h
  | cons x es ih =>
    intro i n u h
    simp only [Instr.findNow] at h
    cases hs : Instr.sameNow kd k x.key with
    | none => simp [hs] at h
    | some b =>
      cases b with
      | true =>
        simp only [hs, Option.some.injEq, Prod.mk.injEq] at h
        obtain ⟨rfl, rfl⟩ := h
        exact ⟨x, Nat.le_refl _, by simp, hs⟩
      | false =>
        simp only [hs] at h
        obtain ⟨e, h1, h2, h3⟩ := ih (i + 1) n u h
        exact ⟨e, by omega, by rw [show n - i = (n - (i + 1)) + 1 by omega]; simpa using h2, h3⟩

theorem run_setObj_map {P : Program} {B : Nat} {ds ds' : Array MapEntry} {cl cl' : Nat} (h : w.heap[B]? = some (.map ds cl)) : (setObj B (.map ds' cl')).run P w = .ok () { w with heap := w.heap.setIfInBounds B (.map ds' cl') } := by
  simp [setObj, Sem.run, h]

/-- A map turned. -/
theorem map_turn (hR : Rel ρ H w) {r : Nat} {p : Pl} {es es' : Array MapEntry} {cl cl' : Nat} (hp : ρ r = some p) (hg : H.get r = some (.map es cl)) {ds' : Array MapEntry} (hE : ER ρ es' ds') :
    Rel ρ (H.upd (.map es' cl') r) { w with heap := w.heap.setIfInBounds p.block (.map ds' cl') } ∧ Fr ρ H w ρ (H.upd (.map es' cl') r) { w with heap := w.heap.setIfInBounds p.block (.map ds' cl') } c c := by
  have hlt := hR.below r p hp
  refine turn_sound hR hp hg rfl rfl (fun k hk => by simp only; rw [Array.getElem?_setIfInBounds_ne (Ne.symm hk)]) (by simp) rfl rfl rfl ⟨ds', by simp [hlt], hE⟩

theorem ER.modify {es ds : Array MapEntry} (h : ER ρ es ds) (i : Nat) {k u u' : Value} (hk : flat 0 k = true) (hV : VR ρ u u') : ER ρ (es.modify i fun e => { e with key := k, val := u }) (ds.modify i fun e => { e with key := k, val := u' }) := by
  refine ⟨by simp [h.1], fun j x y hx hy => ?_⟩
  rw [Array.getElem?_modify] at hx hy
  by_cases hij : i = j
  · rw [if_pos hij] at hx hy
    cases h1 : es[j]? with
    | none => simp [h1] at hx
    | some e1 =>
      cases h2 : ds[j]? with
      | none => simp [h2] at hy
      | some e2 =>
        simp only [h1, Option.map_some, Option.some.injEq] at hx
        simp only [h2, Option.map_some, Option.some.injEq] at hy
        subst hx; subst hy
        exact ⟨rfl, hk, (h.2 j e1 e2 h1 h2).2.2.1, hV⟩
  · rw [if_neg hij] at hx hy
    exact h.2 j x y hx hy

theorem ER.push {es ds : Array MapEntry} (h : ER ρ es ds) {k u u' : Value} (cl : Nat) (hk : flat 0 k = true) (hV : VR ρ u u') : ER ρ (es.push ⟨k, u, cl⟩) (ds.push ⟨k, u', cl⟩) := by
  refine ⟨by simp [h.1], fun j x y hx hy => ?_⟩
  rw [Array.getElem?_push] at hx hy
  rw [← h.1] at hy
  split at hx
  · rename_i hj; rw [if_pos hj] at hy; cases hx; cases hy; exact ⟨rfl, hk, rfl, hV⟩
  · rename_i hj; rw [if_neg hj] at hy; exact h.2 j x y hx hy

theorem ER.erase {es ds : Array MapEntry} (h : ER ρ es ds) (i : Nat) : ER ρ (es.eraseIdxIfInBounds i) (ds.eraseIdxIfInBounds i) := by
  have hl := h.list
  have e : ∀ xs : Array MapEntry, (xs.eraseIdxIfInBounds i).toList = xs.toList.eraseIdx i := fun xs => by
    unfold Array.eraseIdxIfInBounds
    split
    · simp
    · rename_i hi; rw [List.eraseIdx_of_length_le (by simpa using hi)]
  have key : ∀ (j : Nat) (x y : MapEntry), (es.toList.eraseIdx i)[j]? = some x → (ds.toList.eraseIdx i)[j]? = some y → x.key = y.key ∧ flat 0 x.key = true ∧ x.born = y.born ∧ VR ρ x.val y.val := fun j x y hx hy => by
    rw [List.getElem?_eraseIdx] at hx hy
    split at hx
    · rename_i hj; rw [if_pos hj] at hy; exact hl.2 j x y hx hy
    · rename_i hj; rw [if_neg hj] at hy; exact hl.2 _ x y hx hy
  refine ⟨?_, fun j x y hx hy => key j x y (by rw [← e, Array.getElem?_toList]; exact hx) (by rw [← e, Array.getElem?_toList]; exact hy)⟩
  have h1 := congrArg List.length (e es)
  have h2 := congrArg List.length (e ds)
  simp only [Array.length_toList, List.length_eraseIdx] at h1 h2
  rw [h1, h2, h.1]

theorem s_mapPut0 {t : TypeId} {m k x : Operand} (hex : ∀ w w' : World, (Instr.mapUpdate t (a.eval m) (a.eval k) (a.eval x)).run E.P w = .ok () w' → (execOp a.eval o).run E.P w = .ok .skip w')
    (h' : (match opd E tm m, opd E tm k, opd E tm x with
    | some m, some k, some v => evMapPut E t m k v H c
    | _, _, _ => none : Rs) = some (v, H', c')) (hT : OT E ρ tm a [m, k, x]) (hR : Rel ρ H w) : Does E o a ρ w H c v H' c' := by
  split at h'
  · rename_i m' k' x' hm hk hx
    have hM := opd_sound hT hm
    have hK := opd_sound hT hk
    have hX := opd_sound hT hx
    unfold evMapPut at h'
    split at h'
    · rename_i key elem hd
      split at h'
      · rename_i kd r hkd
        split at h'
        · cases h'
        · rename_i hcond
          simp only [Bool.or_eq_true, Bool.not_eq_true', not_or, Bool.not_eq_false] at hcond
          obtain ⟨hkey, hkf⟩ := hcond
          have eK := hK.of_flat 0 hkf
          obtain ⟨p, hp, eM⟩ := hM.inv_map
          split at h'
          · rename_i es clock hg
            obtain ⟨ds, hB, hER⟩ := map_sound hR hp hg
            have hl := hER.list
            unfold findEntry at h'
            split at h'
            · rename_i n u1 hf
              obtain ⟨r', e1, e2⟩ := findNow_sound _ _ _ _ hl.1 hl.2 hf
              cases r' with
              | none => exact e2.elim
              | some q =>
                obtain ⟨n', u2⟩ := q
                obtain ⟨rfl, _⟩ := e2
                obtain ⟨e, _, he, _⟩ := findNow_at _ _ _ _ e1
                simp only [Nat.sub_zero] at he
                have he' : ds[n]? = some e := by simpa using he
                obtain ⟨ee, _, hee, _⟩ := findNow_at _ _ _ _ hf
                simp only [Nat.sub_zero] at hee
                have hee' : es[n]? = some ee := by simpa using hee
                simp only [hee', Bool.cond_eq_ite] at h'
                split at h'
                case isFalse => cases h'
                rename_i hsame
                rw [(hER.2 n ee e hee' he').1] at hsame
                simp only [Option.some.injEq, Prod.mk.injEq] at h'
                obtain ⟨rfl, rfl, rfl⟩ := h'
                obtain ⟨t1, t2⟩ := map_turn (c := c) (cl' := clock) hR hp hg (hER.modify n hkf hX)
                refine ⟨.skip, _, ρ, hex w _ ?_, .inr ⟨rfl, rfl⟩, t1, t2⟩
                rw [eM, eK]
                unfold Instr.mapUpdate
                simp only [Sem.run_bind, run_underlying hd, Result.andThen_ok, run_getObj_map hB, keyD_check hkd hkey _ _ 9999 w, find_run hkd e1, he', Option.map_some, Option.getD_some, Instr.keyThatStays, hsame, if_true, Sem.run_pure]
                exact run_setObj_map hB
            · rename_i hf
              obtain ⟨r', e1, e2⟩ := findNow_sound _ _ _ _ hl.1 hl.2 hf
              cases r' with
              | some q => exact e2.elim
              | none =>
                simp only [Option.some.injEq, Prod.mk.injEq] at h'
                obtain ⟨rfl, rfl, rfl⟩ := h'
                obtain ⟨t1, t2⟩ := map_turn (c := c) (cl' := clock + 1) hR hp hg (hER.push clock hkf hX)
                refine ⟨.skip, _, ρ, hex w _ ?_, .inr ⟨rfl, rfl⟩, t1, t2⟩
                rw [eM, eK]
                unfold Instr.mapUpdate
                simp only [Sem.run_bind, run_underlying hd, Result.andThen_ok, run_getObj_map hB, keyD_check hkd hkey _ _ 9999 w, find_run hkd e1]
                exact run_setObj_map hB
            · cases h'
          · cases h'
      · cases h'
    · cases h'
  · cases h'

theorem s_mapPut {t : TypeId} {m k x : Operand} (ho : o.op = .mapUpdate t m k x ∨ o.op = .insert t m k x) (h : evOp E o tm H c = some (v, H', c')) (hT : OT E ρ tm a o.op.operands.toList) (hR : Rel ρ H w) : Does E o a ρ w H c v H' c' := by
  rcases ho with ho | ho
  · rw [ho] at hT
    simp only [evOp, ho] at h
    exact s_mapPut0 (fun w w' hh => by simp [execOp, ho, hh]) h (fun y hy => hT y (by simpa [Op.operands] using hy)) hR
  · rw [ho] at hT
    simp only [evOp, ho] at h
    exact s_mapPut0 (fun w w' hh => by simp [execOp, ho, hh]) h (fun y hy => hT y (by simpa [Op.operands] using hy)) hR

theorem s_delete {k : Call} (ho : o.op = .call k) (hcal : k.callee = .builtin .delete) {m x : Value} (hargs : opds E tm k.args.toList = some [m, x]) (h : evDelete E k.argTypes m x H c = some (v, H', c')) (hT : OT E ρ tm a o.op.operands.toList) (hR : Rel ρ H w) :
    Does E o a ρ w H c v H' c' := by
  rw [ho] at hT
  obtain ⟨M, X, eargs, hM, hX⟩ := two_args (a := a) (opds_sound hT hargs)
  have hb : ∀ A t cs xs, A = k.argTypes → t = o.type → xs = k.args.map a.eval → builtin .delete A t cs xs = (do pure (.value (← Builtin.delete_ k.argTypes o.type #[M, X]))) := fun A t cs xs e1 e2 e3 => by
    subst e1; subst e2; subst e3; rw [eargs]; rfl
  unfold evDelete at h
  split at h
  · rename_i mapType h0
    split at h
    · rename_i key elem hd
      split at h
      · rename_i kd r hkd
        split at h
        · cases h
        · rename_i hcond
          simp only [Bool.or_eq_true, Bool.not_eq_true', not_or, Bool.not_eq_false] at hcond
          obtain ⟨hkey, hkf⟩ := hcond
          have eK := hX.of_flat 0 hkf
          obtain ⟨p, hp, eM⟩ := hM.inv_map
          split at h
          · rename_i es clock hg
            obtain ⟨ds, hB, hER⟩ := map_sound hR hp hg
            have hl := hER.list
            unfold findEntry at h
            split at h
            · rename_i n u1 hf
              obtain ⟨r', e1, e2⟩ := findNow_sound _ _ _ _ hl.1 hl.2 hf
              cases r' with
              | none => exact e2.elim
              | some q =>
                obtain ⟨n', u2⟩ := q
                obtain ⟨rfl, _⟩ := e2
                simp only [Option.some.injEq, Prod.mk.injEq] at h
                obtain ⟨rfl, rfl, rfl⟩ := h
                obtain ⟨t1, t2⟩ := map_turn (c := c) (cl' := clock) hR hp hg (hER.erase n)
                refine ⟨_, _, ρ, run_builtin ho hcal w hb ?_, .inl ⟨.tuple #[], rfl, .flat 1 rfl⟩, t1, t2⟩
                rw [eM, eK]
                unfold Builtin.delete_
                have hs := run_setObj_map (P := E.P) (ds' := ds.eraseIdxIfInBounds n) (cl' := clock) hB
                simp [h0, run_underlying hd, run_getObj_map hB, keyD_check hkd hkey _ _ 9999 w, find_run hkd e1, hs]
            · rename_i hf
              obtain ⟨r', e1, e2⟩ := findNow_sound _ _ _ _ hl.1 hl.2 hf
              cases r' with
              | some q => exact e2.elim
              | none =>
                simp only [Option.some.injEq, Prod.mk.injEq] at h
                obtain ⟨rfl, rfl, rfl⟩ := h
                obtain ⟨t1, t2⟩ := map_turn (c := c) (cl' := clock) hR hp hg hER
                refine ⟨_, _, ρ, run_builtin ho hcal w hb ?_, .inl ⟨.tuple #[], rfl, .flat 1 rfl⟩, t1, t2⟩
                rw [eM, eK]
                unfold Builtin.delete_
                have hs := run_setObj_map (P := E.P) (ds' := ds) (cl' := clock) hB
                simp [h0, run_underlying hd, run_getObj_map hB, keyD_check hkd hkey _ _ 9999 w, find_run hkd e1, hs]
            · cases h
          · cases h
      · cases h
    · cases h
  · cases h

theorem s_next {it : Operand} {b : Bool} (ho : o.op = .next it b) (h : evOp E o tm H c = some (v, H', c')) (hT : OT E ρ tm a o.op.operands.toList) (hR : Rel ρ H w) : Does E o a ρ w H c v H' c' := by
  rw [ho] at hT
  simp only [evOp, ho] at h
  split at h
  · rename_i r e1 
    obtain ⟨p, hp, _, ev⟩ := (opd_sound hT e1).inv_ptr
    split at h
    · rename_i s pos hg
      have hlk : lk H r = .iter s pos := by simp [lk, hg]
      have hob := hR.obj r p hp
      rw [hlk] at hob
      obtain ⟨hb0, hB⟩ := hob
      have hlt := hR.below r p hp
      rw [hb0] at ev
      split at h
      · rename_i hpos
        simp only [Option.some.injEq, Prod.mk.injEq] at h
        obtain ⟨rfl, rfl, rfl⟩ := h
        have hrun : (Instr.next (.pointer (some ⟨p.block, 0, none⟩)) true o.type).run E.P w = .ok (.tuple #[.bool true, goInt pos, .int .i32 (Utf8.decode s pos).1]) { w with heap := w.heap.setIfInBounds p.block (.stringIter s (pos + (Utf8.decode s pos).2)) } := by
          simp [Instr.next, getObj, Sem.run, hB, hpos, setObj]
        obtain ⟨t1, t2⟩ := turn_sound (c := c) (w' := { w with heap := w.heap.setIfInBounds p.block (.stringIter s (pos + (Utf8.decode s pos).2)) }) hR hp hg rfl (ob' := .iter s (pos + (Utf8.decode s pos).2)) rfl (fun k hk => by simp only; rw [Array.getElem?_setIfInBounds_ne (Ne.symm hk)]) (by simp) rfl rfl rfl ⟨hb0, by simp [hlt]⟩
        refine ⟨_, _, ρ, ?_, .inl ⟨.tuple #[.bool true, goInt pos, .int .i32 (Utf8.decode s pos).1], rfl, .flat 1 rfl⟩, t1, t2⟩
        simp only [execOp, ho, ev]
        exact run_v hrun
      · rename_i hpos
        simp only [Option.some.injEq, Prod.mk.injEq] at h
        obtain ⟨rfl, rfl, rfl⟩ := h
        have hrun : (Instr.next (.pointer (some ⟨p.block, 0, none⟩)) true o.type).run E.P w = .ok (.tuple #[.bool false]) w := by
          simp [Instr.next, getObj, Sem.run, hB, hpos]
        refine ⟨_, w, ρ, ?_, .inl ⟨.tuple #[.bool false], rfl, .flat 1 rfl⟩, hR, Fr.refl _ _ _ _⟩
        simp only [execOp, ho, ev]
        exact run_v hrun
    · cases h
  · cases h

theorem one_arg {xs : Array Operand} {s : Value} (h : VL ρ [s] (xs.toList.map a.eval)) : ∃ S, xs.map a.eval = #[S] ∧ VR ρ s S := by
  obtain ⟨S, l, e1, h1, h2⟩ := h.inv_cons
  have : l = [] := by have := h2.1; simpa using this.symm
  subst this
  refine ⟨S, ?_, h1⟩
  apply Array.ext'
  rw [Array.toList_map]; exact e1

theorem s_flat {k : Call} {b : Builtin} {vs : List Value} {s : Array Value → Sem Value} (hargs : opds E tm k.args.toList = some vs) (h : evFlat E s vs H c = some (v, H', c')) (hT : OT E ρ tm a o.op.operands.toList) (ho : o.op = .call k) (hcal : k.callee = .builtin b)
    (hb : ∀ A t cs xs, A = k.argTypes → t = o.type → builtin b A t cs xs = (do pure (.value (← s xs)))) : H' = H ∧ c' = c ∧ Looks E o a ρ w v := by
  rw [ho] at hT
  unfold evFlat at h
  split at h
  · rename_i hf
    split at h
    · rename_i r hr
      split at h
      · rename_i hfl
        simp only [Option.some.injEq, Prod.mk.injEq] at h
        obtain ⟨rfl, rfl, rfl⟩ := h
        have hV := opds_sound (a := a) hT hargs
        have e := hV.of_flat 3 hf
        have e' : k.args.map a.eval = vs.toArray := by
          apply Array.ext'; rw [Array.toList_map, e]
        refine ⟨rfl, rfl, r, run_builtin ho hcal w (s := s vs.toArray) (fun A t cs xs e1 e2 e3 => by subst e3; rw [e']; exact hb A t cs _ e1 e2) (pureRun_run hr w), .flat 3 hfl⟩
      · cases h
    · cases h
  · cases h

/-- All operations but calls of functions. -/
theorem s_call {k : Call} (ho : o.op = .call k) (hnv : ∀ f, k.callee ≠ .value f) (h : evOp E o tm H c = some (v, H', c')) (hT : OT E ρ tm a o.op.operands.toList) (hR : Rel ρ H w) (hfresh : k.callee = .builtin .append → ∀ r, c ≤ r → r < c' → ρ r = none) :
    Does E o a ρ w H c v H' c' ∧ (kind E.P o.op ≠ 3 → H' = H ∧ c' = c ∧ Looks E o a ρ w v) ∧ kind E.P o.op ≠ 1 := by
  have hTk := hT; rw [ho] at hTk
  simp only [evOp, ho] at h
  split at h
  · rename_i s x hcal hargs
    exact ⟨s_append ho hcal hargs h hT hR (hfresh hcal), fun hk => absurd (by rw [ho]; cases k; simp_all [kind]) hk, by rw [ho]; cases k; simp_all [kind]⟩
  · rename_i d s hcal hargs
    exact ⟨s_copy ho hcal hargs h hT hR, fun hk => absurd (by rw [ho]; cases k; simp_all [kind]) hk, by rw [ho]; cases k; simp_all [kind]⟩
  · rename_i m x hcal hargs
    exact ⟨s_delete ho hcal hargs h hT hR, fun hk => absurd (by rw [ho]; cases k; simp_all [kind]) hk, by rw [ho]; cases k; simp_all [kind]⟩
  · rename_i an n cap hcal hargs
    have hL : H' = H ∧ c' = c ∧ Looks E o a ρ w v := by
      obtain ⟨S, eargs, hS⟩ := one_arg (a := a) (opds_sound hTk hargs)
      split at h
      · rename_i el hd
        simp only [Option.some.injEq, Prod.mk.injEq] at h
        obtain ⟨rfl, rfl, rfl⟩ := h
        refine ⟨rfl, rfl, goInt n, run_builtin ho hcal w (s := Builtin.len_ k.argTypes o.type #[S]) (fun A t cs xs e1 e2 e3 => by subst e1; subst e2; subst e3; rw [eargs]; rfl) ?_, .flat 0 rfl⟩
        obtain ⟨t, h0, hd'⟩ := Option.bind_eq_some_iff.1 hd
        have hSn : ∃ A C, S = .slice A n C := by
          cases hS with
          | flat q hq => exact ⟨_, _, rfl⟩
          | slice => exact ⟨_, _, rfl⟩
        obtain ⟨A, C, rfl⟩ := hSn
        unfold Builtin.len_
        simp [h0, run_underlying hd']
      · cases h
    exact ⟨Looks.does hL hR, fun _ => hL, by rw [ho]; cases k; simp_all [kind]⟩
  · rename_i m hcal hargs
    have hL : H' = H ∧ c' = c ∧ Looks E o a ρ w v := by
      obtain ⟨S, eargs, hS⟩ := one_arg (a := a) (opds_sound hTk hargs)
      have hb : ∀ A t cs xs, A = k.argTypes → t = o.type → xs = k.args.map a.eval → builtin .len A t cs xs = (do pure (.value (← Builtin.len_ k.argTypes o.type #[S]))) := fun A t cs xs e1 e2 e3 => by subst e1; subst e2; subst e3; rw [eargs]; rfl
      split at h
      · rename_i kk el hd
        simp only [Option.some.injEq, Prod.mk.injEq] at h
        obtain ⟨rfl, rfl, rfl⟩ := h
        obtain ⟨t, h0, hd'⟩ := Option.bind_eq_some_iff.1 hd
        have := hS.of_flat 0 rfl; subst this
        refine ⟨rfl, rfl, goInt 0, run_builtin ho hcal w hb ?_, .flat 0 rfl⟩
        unfold Builtin.len_
        simp [h0, run_underlying hd']
      · rename_i kk el r hd
        split at h
        · rename_i es cl hg
          simp only [Option.some.injEq, Prod.mk.injEq] at h
          obtain ⟨rfl, rfl, rfl⟩ := h
          obtain ⟨t, h0, hd'⟩ := Option.bind_eq_some_iff.1 hd
          obtain ⟨p, hp, eM⟩ := hS.inv_map
          obtain ⟨ds, hB, hER⟩ := map_sound hR hp hg
          refine ⟨rfl, rfl, goInt es.size, run_builtin ho hcal w hb ?_, .flat 0 rfl⟩
          rw [eM]
          unfold Builtin.len_
          simp [h0, run_underlying hd', run_getObj_map hB, hER.1]
        · cases h
      · cases h
    exact ⟨Looks.does hL hR, fun _ => hL, by rw [ho]; cases k; simp_all [kind]⟩
  · rename_i vs _ _ hcal hargs
    have hL := s_flat hargs h hT (w := w) ho hcal (s := fun xs => Builtin.len_ k.argTypes o.type xs) (fun A t cs xs e1 e2 => by subst e1; subst e2; rfl)
    exact ⟨Looks.does hL hR, fun _ => hL, by rw [ho]; cases k; simp_all [kind]⟩
  · rename_i vs hcal hargs
    have hL := s_flat hargs h hT (w := w) ho hcal (s := fun xs => Builtin.min_ k.argTypes o.type xs) (fun A t cs xs e1 e2 => by subst e1; subst e2; rfl)
    exact ⟨Looks.does hL hR, fun _ => hL, by rw [ho]; cases k; simp_all [kind]⟩
  · rename_i vs hcal hargs
    have hL := s_flat hargs h hT (w := w) ho hcal (s := fun xs => Builtin.max_ k.argTypes o.type xs) (fun A t cs xs e1 e2 => by subst e1; subst e2; rfl)
    exact ⟨Looks.does hL hR, fun _ => hL, by rw [ho]; cases k; simp_all [kind]⟩
  · cases h

end
end Ce

namespace Ce
open Go

section
variable {E : Env} {o : Oper} {tm : Tr Value} {H H' : Hp} {c c' : Nat} {v : Value} {ρ : Ren} {a : Act} {w : World}

theorem pure_sound (hk : kind E.P o.op = 0) (h : evOp E o tm H c = some (v, H', c')) (hT : OT E ρ tm a o.op.operands.toList) : H' = H ∧ c' = c ∧ Looks E o a ρ w v := by
  cases ho : o.op with
  | move x => exact s_move (.inl ho) h hT
  | assign x => exact s_move (.inr ho) h hT
  | pick q x y => exact s_pick ho h hT
  | build t ps => exact s_build ho h hT
  | nilCheck x => exact s_nilCheck ho h hT
  | binOp op t x y u => exact s_binOp ho h hT
  | unOp op t x => exact s_unOp ho h hT
  | makeInterface t x => exact s_makeInterface ho h hT
  | makeFunc fn fs cs => exact s_makeFunc ho h hT
  | slice t x lo hi mx => exact s_slice ho h hT
  | fieldAddr t x f => exact s_fieldAddr ho h hT
  | field t x f => exact s_field ho h hT
  | indexAddr t x ix => exact s_indexAddr ho h hT
  | index t x ix => exact s_index ho h hT
  | extract x i => exact s_extract ho h hT
  | convert s d x =>
    rcases s_convert (w := w) ho h hT with ⟨_, h1⟩ | ⟨h1, _⟩
    · exact h1
    · rw [h1] at hk; cases hk
  | call k =>
    rw [ho] at hk
    obtain ⟨cal, args, ats⟩ := k
    simp only [evOp, ho] at h
    cases cal with
    | builtin b =>
      cases b <;> simp [kind] at hk
      · split at h <;> first
          | (rename_i heq _; cases heq; done)
          | (rename_i vs heq hargs; cases heq; exact s_flat hargs h hT ho rfl (s := fun xs => Builtin.max_ ats o.type xs) (fun A t cs xs e1 e2 => by subst e1; subst e2; rfl))
          | cases h
      · split at h <;> first
          | (rename_i heq _; cases heq; done)
          | (rename_i vs heq hargs; cases heq; exact s_flat hargs h hT ho rfl (s := fun xs => Builtin.min_ ats o.type xs) (fun A t cs xs e1 e2 => by subst e1; subst e2; rfl))
          | cases h
    | _ => simp [kind] at hk
  | _ => rw [ho] at hk; simp [kind] at hk

theorem made_sound (hk : kind E.P o.op = 1) (h : evOp E o tm H c = some (v, H', c')) (hT : OT E ρ tm a o.op.operands.toList) : Made E o a ρ w H c v H' c' := by
  cases ho : o.op with
  | alloc e => exact s_alloc ho h hT
  | box e x => exact s_box ho h hT
  | buildSlice t n ps => exact s_buildSlice ho h hT
  | makeMap t r => exact s_makeMap ho h
  | makeSlice t l k => exact s_makeSlice ho h hT
  | range t x => exact s_range ho h hT
  | convert s d x =>
    rcases s_convert (w := w) ho h hT with ⟨h1, _⟩ | ⟨_, h1⟩
    · rw [h1] at hk; cases hk
    · exact h1
  | call k =>
    rw [ho] at hk
    obtain ⟨cal, args, ats⟩ := k
    cases cal with
    | builtin b => cases b <;> simp [kind] at hk
    | _ => simp [kind] at hk
  | _ => rw [ho] at hk; simp [kind] at hk

theorem look_sound (hk : kind E.P o.op = 2) (h : evOp E o tm H c = some (v, H', c')) (hT : OT E ρ tm a o.op.operands.toList) (hR : Rel ρ H w) : H' = H ∧ c' = c ∧ Looks E o a ρ w v := by
  cases ho : o.op with
  | load t x => exact s_load ho h hT hR
  | lookup t x ix ok => exact s_lookup ho h hT hR
  | convert s d x => rw [ho] at hk; simp only [kind] at hk; split at hk <;> cases hk
  | call k =>
    have hk' := hk
    rw [ho] at hk
    obtain ⟨cal, args, ats⟩ := k
    cases cal with
    | builtin b =>
      cases b <;> simp [kind] at hk
      exact (s_call ho (fun f => by simp) h hT hR (fun e => by simp at e)).2.1 (by rw [hk']; decide)
    | _ => simp [kind] at hk
  | _ => rw [ho] at hk; simp [kind] at hk

theorem does_sound (hnv : ∀ k f, o.op = .call k → k.callee ≠ .value f) (h : evOp E o tm H c = some (v, H', c')) (hT : OT E ρ tm a o.op.operands.toList) (hR : Rel ρ H w) (hfresh : ∀ r, c ≤ r → r < c' → ρ r = none) : Does E o a ρ w H c v H' c' := by
  by_cases h0 : kind E.P o.op = 0
  · exact Looks.does (pure_sound h0 h hT) hR
  by_cases h1 : kind E.P o.op = 1
  · have hm := made_sound (w := w) h1 h hT
    obtain ⟨ob, _, rfl, _⟩ := id hm
    exact hm.does hR (hfresh c (Nat.le_refl _) (by omega))
  by_cases h2 : kind E.P o.op = 2
  · exact Looks.does (look_sound h2 h hT hR) hR
  cases ho : o.op with
  | store t x y => exact s_store ho h hT hR
  | mapUpdate t m k x => exact s_mapPut (.inl ho) h hT hR
  | insert t m k x => exact s_mapPut (.inr ho) h hT hR
  | next it b => exact s_next ho h hT hR
  | call k => exact (s_call ho (fun f => hnv k f ho) h hT hR (fun _ => hfresh)).1
  | convert s d x => exfalso; rw [ho] at h0 h1; simp only [kind] at h0 h1; split at h0 <;> simp_all
  | makeChan t s => simp [evOp, ho] at h
  | sliceToArrayPointer t x => simp [evOp, ho] at h
  | typeAssert x t u b => simp [evOp, ho] at h
  | go k => simp [evOp, ho] at h
  | defer k => simp [evOp, ho] at h
  | panic x => simp [evOp, ho] at h
  | send x y => simp [evOp, ho] at h
  | recv t x b => simp [evOp, ho] at h
  | select cs b => simp [evOp, ho] at h
  | ready g => simp [evOp, ho] at h
  | waits g => simp [evOp, ho] at h
  | mapEntry t m k => simp [evOp, ho] at h
  | entryStore t m s x => simp [evOp, ho] at h
  | entry it => simp [evOp, ho] at h
  | _ => rw [ho] at h0 h1 h2; simp [kind] at h0 h1 h2

end
end Ce
