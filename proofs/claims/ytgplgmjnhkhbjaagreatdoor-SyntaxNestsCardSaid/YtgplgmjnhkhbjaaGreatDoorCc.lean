/-
  A closed run reckoned: the memory as numbered rows, the operations on it, that it is right, and its fast form (part Cc).
-/
import Derived.Test.YtgplgmjnhkhbjaaGreatDoorCb
import Derived.Below
import Derived.Lib.Builder
import Derived.Lib.UnsafeStr
import Derived.OpenShut
import Derived.ChangeArms
import Derived.ChangeAt
import Derived.LaidMore
set_option linter.unusedVariables false
set_option linter.unusedSimpArgs false
namespace Ce
open Go

def fo_move (E : Env) (tm : Tr Value) (H : Hp) (c : Nat) (x : Operand) : Rs :=
  match opd E tm x with | some v => some (v, H, c) | none => none

def fo_pick (E : Env) (tm : Tr Value) (H : Hp) (c : Nat) (q x y : Operand) : Rs :=
  match opd E tm q with
    | some (.bool b) => match opd E tm (if b then x else y) with | some v => some (v, H, c) | none => none
    | _ => none

def fo_alloc (E : Env) (tm : Tr Value) (H : Hp) (c : Nat) (elem : TypeId) : Rs :=
  match E.P.info? elem with
    | some inf => match inf.zero with
      | some z => if flat 3 z then newRow H c z.cells.toList (2 * elem + 1) fun r => .pointer (some ⟨r, 0, none⟩) else none
      | none => none
    | none => none

def fo_box (E : Env) (tm : Tr Value) (H : Hp) (c : Nat) (elem : TypeId) (x : Operand) : Rs :=
  match opd E tm x with
    | some v => newRow H c v.cells.toList (2 * elem + 1) fun r => .pointer (some ⟨r, 0, none⟩)
    | none => none

def fo_build (E : Env) (tm : Tr Value) (H : Hp) (c : Nat) (t : TypeId) (parts : Array (Nat × Operand)) : Rs :=
  match opds E tm (parts.toList.map (·.2)) with
    | some vs => match (E.P.info? t).bind (·.zero), E.P.underlying t with
      | some z, some (.struct fields) => cond (flat 3 z) (match pureRun E.P (fields.mapM fun f => do pure (f.offset, ← sizeOf f.type)) with
        | some places => match Instr.fill (places[·]?) z.cells ((parts.toList.map (·.1)).zip vs) with
          | some cells => some (.agg cells, H, c)
          | none => none
        | none => none) none
      | some z, some (.array _ elem) => cond (flat 3 z) (match sizeAt E.P elem with
        | some size => match Instr.fill (fun i => some (i * size, size)) z.cells ((parts.toList.map (·.1)).zip vs) with
          | some cells => some (.agg cells, H, c)
          | none => none
        | none => none) none
      | _, _ => none
    | none => none

def fo_buildSlice (E : Env) (tm : Tr Value) (H : Hp) (c : Nat) (t : TypeId) (len : Nat) (parts : Array (Nat × Operand)) : Rs :=
  match opds E tm (parts.toList.map (·.2)) with
    | some vs => match E.P.underlying t with
      | some (.slice elem) => match E.P.info? elem with
        | some inf => match inf.zero with
          | some z =>
            if len * inf.size > 2 ^ 24 || !flat 3 z || inf.size ≠ z.cells.size then none else
            match Instr.fill (fun i => some (i * inf.size, inf.size)) ((List.replicate len z.cells.toList).flatten.toArray) ((parts.toList.map (·.1)).zip vs) with
            | some cells => newRow H c cells.toList (2 * elem + 1) fun r => .slice (some ⟨r, 0, some inf.size⟩) len len
            | none => none
          | none => none
        | none => none
      | _ => none
    | none => none

def fo_load (E : Env) (tm : Tr Value) (H : Hp) (c : Nat) (t : TypeId) (x : Operand) : Rs :=
  match opd E tm x, isAgg? E.P t with
    | some (.pointer (some ⟨r, off, none⟩)), some true => match sizeAt E.P t with
      | some n => match readRow H r off n with | some l => some (.agg l.toArray, H, c) | none => none
      | none => none
    | some (.pointer (some ⟨r, off, none⟩)), some false => match H.get r with
      | some (.row _ cells _ _ _) => match cells.get off with | some v => some (v, H, c) | none => none
      | _ => none
    | _, _ => none

def fo_store (E : Env) (tm : Tr Value) (H : Hp) (c : Nat) (t : TypeId) (x y : Operand) : Rs :=
  match opd E tm x, opd E tm y, sizeAt E.P t with
    | some (.pointer (some ⟨r, off, none⟩)), some v, some n =>
      if v.cells.size ≠ n then none else
      if n = 0 then some (undef, H, c) else
      match writeRow H r off v.cells.toList with
      | some H' => some (undef, H', c)
      | none => none
    | _, _, _ => none

def fo_nilCheck (E : Env) (tm : Tr Value) (H : Hp) (c : Nat) (x : Operand) : Rs :=
  match opd E tm x with
    | some (.pointer (some a)) => some (.pointer (some a), H, c)
    | some (.func (.func f) first captured) => some (.func (.func f) first captured, H, c)
    | some (.iface t v) => some (.iface t v, H, c)
    | _ => none

def fo_binOp (E : Env) (tm : Tr Value) (H : Hp) (c : Nat) (op : BinOp) (t : TypeId) (x y : Operand) : Rs :=
  match opd E tm x, opd E tm y with
    | some a, some b =>
      if flat 3 a && flat 3 b then
        match pureRun E.P (do eqGuard op t x y a b; binOp op t a b) with
        | some v => if flat 3 v then some (v, H, c) else none
        | none => none
      else match op, E.P.underlying t with
        | .eql, some d => if nilApart d a b then some (.bool false, H, c) else none
        | .neq, some d => if nilApart d a b then some (.bool true, H, c) else none
        | _, _ => none
    | _, _ => none

def fo_unOp (E : Env) (tm : Tr Value) (H : Hp) (c : Nat) (op : UnOp) (x : Operand) : Rs :=
  match opd E tm x with
    | some a => if flat 3 a then
        match pureRun E.P (Op.unary op a) with
        | some v => if flat 3 v then some (v, H, c) else none
        | none => none
      else none
    | none => none

def fo_convert (E : Env) (tm : Tr Value) (H : Hp) (c : Nat) (src dst : TypeId) (x : Operand) : Rs :=
  match opd E tm x with
    | some a =>
      if flat 3 a then
        match E.P.underlying dst with
        | some (.slice e) =>
          match a, E.P.underlying e, E.P.info? e, E.P.underlying src with
          | .string s, some (.int .u8), some inf, some .string =>
            if inf.size = 1 then newRow H c (s.data.toList.map fun x => .int .u8 x.toNat) (2 * e) fun r => .slice (some ⟨r, 0, some 1⟩) s.size s.size else none
          | _, _, _, _ => none
        | _ => match pureRun E.P (convert src dst a) with
          | some v => if flat 3 v then some (v, H, c) else none
          | none => none
      else none
    | none => none

def fo_makeInterface (E : Env) (tm : Tr Value) (H : Hp) (c : Nat) (t : TypeId) (x : Operand) : Rs :=
  match opd E tm x, E.P.underlying t with
    | some v, some d => if ifaceD d then none else some (.iface t v, H, c)
    | _, _ => none

def fo_makeFunc (E : Env) (tm : Tr Value) (H : Hp) (c : Nat) (fn : Fn) (first captured : Array Operand) : Rs :=
  match opds E tm first.toList, opds E tm captured.toList with
    | some fs, some cs => some (.func fn fs.toArray cs.toArray, H, c)
    | _, _ => none

def fo_makeMap (E : Env) (tm : Tr Value) (H : Hp) (c : Nat) (r : Option Operand) : Rs :=
  match r with
    | none => newOb H c (.map #[] 0) fun r => .map (some r)
    | some _ => none

def fo_makeSlice (E : Env) (tm : Tr Value) (H : Hp) (c : Nat) (t : TypeId) (l k : Operand) : Rs :=
  match opd E tm l, opd E tm k, E.P.underlying t with
    | some (.int _ (.ofNat n)), some (.int _ (.ofNat m)), some (.slice elem) =>
      match E.P.info? elem with
      | some inf => match inf.zero with
        | some z =>
          if n > m || m > 2 ^ 30 || inf.bytes > 2 ^ 10 || !flat 3 z || inf.size ≠ z.cells.size then none else
          newRow H c ((List.replicate m z.cells.toList).flatten) (2 * elem + 1) fun r => .slice (some ⟨r, 0, some inf.size⟩) n m
        | none => none
      | none => none
    | _, _, _ => none

def fo_slice (E : Env) (tm : Tr Value) (H : Hp) (c : Nat) (t : TypeId) (x : Operand) (lo hi mx : Option Operand) : Rs :=
  match opd E tm x, optOpd E tm lo, optOpd E tm hi, mx, E.P.underlying t with
    | some (.string s), some l, some h, none, some .string => match boundsOf s.size s.size l h with
      | some (l, h) => some (.string (s.extract l h), H, c)
      | none => none
    | some (.slice base n cap), some l, some h, none, some (.slice elem) => match boundsOf n cap l h, sizeAt E.P elem with
      | some (l, h), some size => match base with
        | none => some (.slice none 0 0, H, c)
        | some ⟨r, off, some sz⟩ =>
          if l = 0 then some (.slice (some ⟨r, off, some sz⟩) h cap, H, c) else
          if cap = l || sz ≠ size then none else some (.slice (some ⟨r, off + l * size, some sz⟩) (h - l) (cap - l), H, c)
        | _ => none
      | _, _ => none
    | _, _, _, _, _ => none

def fo_fieldAddr (E : Env) (tm : Tr Value) (H : Hp) (c : Nat) (s : TypeId) (x : Operand) (f : Nat) : Rs :=
  match opd E tm x, E.P.underlying s with
    | some (.pointer (some ⟨r, off, none⟩)), some (.struct fields) => match fields[f]? with
      | some fd => match sizeAt E.P fd.type with
        | some n => if n = 0 then none else some (.pointer (some ⟨r, off + fd.offset, none⟩), H, c)
        | none => none
      | none => none
    | _, _ => none

def fo_field (E : Env) (tm : Tr Value) (H : Hp) (c : Nat) (t : TypeId) (x : Operand) (f : Nat) : Rs :=
  match opd E tm x with
    | some (.agg cs) => match E.P.underlying t with
      | some (.struct fields) => match fields[f]? with
        | some fd => match evPart E.P fd.type cs fd.offset with
          | some v => some (v, H, c)
          | none => none
        | none => none
      | _ => none
    | _ => none

def fo_indexAddr (E : Env) (tm : Tr Value) (H : Hp) (c : Nat) (t : TypeId) (x ix : Operand) : Rs :=
  match opd E tm x, opd E tm ix, E.P.underlying t with
    | some (.slice (some ⟨r, off, _⟩) n _), some (.int _ (.ofNat i)), some (.slice elem) => match sizeAt E.P elem with
      | some sz => if i < n then some (.pointer (some ⟨r, off + i * sz, none⟩), H, c) else none
      | none => none
    | some (.pointer (some ⟨r, off, none⟩)), some (.int _ (.ofNat i)), some (.array n elem) => match sizeAt E.P elem with
      | some sz => if i < n then some (.pointer (some ⟨r, off + i * sz, none⟩), H, c) else none
      | none => none
    | _, _, _ => none

def fo_index (E : Env) (tm : Tr Value) (H : Hp) (c : Nat) (t : TypeId) (x ix : Operand) : Rs :=
  match opd E tm x, opd E tm ix with
    | some (.string s), some (.int k i) => match pureRun E.P (Instr.index t (.string s) (.int k i)) with
      | some (.int j n) => some (.int j n, H, c)
      | _ => none
    | some (.agg cs), some (.int _ (.ofNat i)) => match E.P.underlying t with
      | some (.array len elem) => match sizeAt E.P elem with
        | some n => if i < len then
            match evPart E.P elem cs (i * n) with
            | some v => some (v, H, c)
            | none => none
          else none
        | none => none
      | _ => none
    | _, _ => none

def fo_lookup (E : Env) (tm : Tr Value) (H : Hp) (c : Nat) (t : TypeId) (x ix : Operand) (ok : Bool) : Rs :=
  match opd E tm x, opd E tm ix with
    | some m, some k => match evLookup E t m k ok H with
      | some v => some (v, H, c)
      | none => none
    | _, _ => none

def fo_mapUpdate (E : Env) (tm : Tr Value) (H : Hp) (c : Nat) (t : TypeId) (m k x : Operand) : Rs :=
  match opd E tm m, opd E tm k, opd E tm x with
    | some m, some k, some v => evMapPut E t m k v H c
    | _, _, _ => none

def fo_range (E : Env) (tm : Tr Value) (H : Hp) (c : Nat) (t : TypeId) (x : Operand) : Rs :=
  match opd E tm x, E.P.underlying t with
    | some (.string s), some .string => newOb H c (.iter s 0) fun r => .pointer (some ⟨r, 0, none⟩)
    | _, _ => none

def fo_next (E : Env) (tm : Tr Value) (H : Hp) (c : Nat) (it : Operand) (isStr : Bool) : Rs :=
  match opd E tm it, isStr with
    | some (.pointer (some ⟨r, 0, none⟩)), true => match H.get r with
      | some (.iter s pos) =>
        if pos < s.size then
          let q := Utf8.decode s pos
          some (.tuple #[.bool true, goInt pos, .int .i32 q.1], H.upd (.iter s (pos + q.2)) r, c)
        else some (.tuple #[.bool false], H, c)
      | _ => none
    | _, _ => none

def fo_extract (E : Env) (tm : Tr Value) (H : Hp) (c : Nat) (x : Operand) (i : Nat) : Rs :=
  match opd E tm x with
    | some (.tuple vs) => match vs[i]? with
      | some v => some (v, H, c)
      | none => none
    | _ => none

def fo_call (E : Env) (tm : Tr Value) (H : Hp) (c : Nat) (k : Call) (oty : TypeId) : Rs :=
  match k.callee, opds E tm k.args.toList with
    | .builtin .append, some [s, x] => evAppend E k.argTypes s x H c
    | .builtin .copy, some [d, s] => evCopy E k.argTypes d s H c
    | .builtin .delete, some [m, x] => evDelete E k.argTypes m x H c
    | .builtin .len, some [.slice a n cap] => match (k.argTypes[0]?).bind E.P.underlying with
      | some (.slice _) => some (goInt n, H, c)
      | _ => none
    | .builtin .len, some [.map m] => match (k.argTypes[0]?).bind E.P.underlying, m with
      | some (.map _ _), none => some (goInt 0, H, c)
      | some (.map _ _), some r => match H.get r with
        | some (.map es _) => some (goInt es.size, H, c)
        | _ => none
      | _, _ => none
    | .builtin .len, some vs => evFlat E (fun xs => Builtin.len_ k.argTypes oty xs) vs H c
    | .builtin .min, some vs => evFlat E (fun xs => Builtin.min_ k.argTypes oty xs) vs H c
    | .builtin .max, some vs => evFlat E (fun xs => Builtin.max_ k.argTypes oty xs) vs H c
    | _, _ => none

/-- An operation, by small definitions. -/
def fOp (E : Env) (o : Oper) (tm : Tr Value) (H : Hp) (c : Nat) : Rs :=
  match o.op with
  | .move x => fo_move E tm H c x
  | .assign x => fo_move E tm H c x
  | .pick q x y => fo_pick E tm H c q x y
  | .alloc elem => fo_alloc E tm H c elem
  | .box elem x => fo_box E tm H c elem x
  | .build t parts => fo_build E tm H c t parts
  | .buildSlice t len parts => fo_buildSlice E tm H c t len parts
  | .load t x => fo_load E tm H c t x
  | .store t x y => fo_store E tm H c t x y
  | .nilCheck x => fo_nilCheck E tm H c x
  | .binOp op t x y _ => fo_binOp E tm H c op t x y
  | .unOp op _ x => fo_unOp E tm H c op x
  | .convert src dst x => fo_convert E tm H c src dst x
  | .makeInterface t x => fo_makeInterface E tm H c t x
  | .makeFunc fn first captured => fo_makeFunc E tm H c fn first captured
  | .makeMap _ r => fo_makeMap E tm H c r
  | .makeSlice t l k => fo_makeSlice E tm H c t l k
  | .slice t x lo hi mx => fo_slice E tm H c t x lo hi mx
  | .fieldAddr s x f => fo_fieldAddr E tm H c s x f
  | .field t x f => fo_field E tm H c t x f
  | .indexAddr t x ix => fo_indexAddr E tm H c t x ix
  | .index t x ix => fo_index E tm H c t x ix
  | .lookup t x ix ok => fo_lookup E tm H c t x ix ok
  | .mapUpdate t m k x => fo_mapUpdate E tm H c t m k x
  | .insert t m k x => fo_mapUpdate E tm H c t m k x
  | .range t x => fo_range E tm H c t x
  | .next it isStr => fo_next E tm H c it isStr
  | .extract x i => fo_extract E tm H c x i
  | .call k => fo_call E tm H c k o.type
  | _ => none

theorem fOp_eq (E : Env) (o : Oper) (tm : Tr Value) (H : Hp) (c : Nat) : fOp E o tm H c = evOp E o tm H c := by
  unfold fOp evOp
  cases o.op <;> rfl


def fAny (E : Env) (R : CallR) (o : Oper) (tm : Tr Value) (H : Hp) (c : Nat) : Rs :=
  match o.op with
  | .call k => match k.callee with
    | .value _ => match target E tm k with
      | some (f, args) => callX E R f args H c
      | none => none
    | _ => fo_call E tm H c k o.type
  | _ => fOp E o tm H c

theorem fAny_eq (E : Env) (R : CallR) (o : Oper) (tm : Tr Value) (H : Hp) (c : Nat) : fAny E R o tm H c = evAny E R o tm H c := by
  unfold fAny evAny
  cases ho : o.op <;> simp only [fOp_eq]
  rename_i k
  cases hk : k.callee <;> simp only []
  all_goals first | rfl | (rw [← fOp_eq]; unfold fOp; simp only [ho])

/-- Operations one behind the other. -/
def fSeq (E : Env) (R : CallR) (ops : Array Oper) : List Oper → Tr Value → Hp → Nat → Rst
  | [], tm, H, c => some (tm, H, c)
  | o :: l, tm, H, c => match goes ops tm o with
    | some true => match fAny E R o tm H c with
      | some (v, H', c') => match putD tm o.dst v, Nat.ble c c' with
        | some tm', true => fSeq E R ops l tm' H' c'
        | _, _ => none
      | none => none
    | some false => match putD tm o.dst undef with
      | some tm' => fSeq E R ops l tm' H c
      | none => none
    | none => none

def fOps (E : Env) (R : CallR) (ops : Array Oper) : List Oper → Nat → Tr Value → Hp → Nat → List Rec → Option (Tr Value × Hp × Nat × List Rec)
  | [], _, tm, H, c, rs => some (tm, H, c, rs)
  | o :: l, i, tm, H, c, rs =>
    match goes ops tm o with
    | some true => match fAny E R o tm H c with
      | some (v, H', c') => match putD tm o.dst v, Nat.ble c c' with
        | some tm', true => fOps E R ops l (i + 1) tm' H' c' (⟨i, o, tm, H, c, true, v⟩ :: rs)
        | _, _ => none
      | none => none
    | some false => match putD tm o.dst undef with
      | some tm' => fOps E R ops l (i + 1) tm' H c (⟨i, o, tm, H, c, false, undef⟩ :: rs)
      | none => none
    | none => none

def fDraw (E : Env) (R : CallR) (ops : Array Oper) (tm : Tr Value) (H : Hp) (c : Nat) : Rst :=
  match fOps E R ops ops.toList 0 tm H c [] with
  | none => none
  | some (tm', H', c', rs) => cond (planOK E.P ops && looksOK E ops rs H') (some (tm', H', c')) none

def fRegion (E : Env) (R : CallR) (ops : Array Oper) (draw : Bool) (tm : Tr Value) (H : Hp) (c : Nat) : Rst :=
  cond draw (fDraw E R ops tm H c) (fSeq E R ops ops.toList tm H c)

abbrev Run := Tr Value → Hp → Nat → Rx

def fc_region (E : Env) (R : CallR) (ops : Array Oper) (draw : Bool) (tm : Tr Value) (H : Hp) (c : Nat) : Rx := match fRegion E R ops draw tm H c with
      | some (tm', H', c') => some (.normal, tm', H', c')
      | none => none
def fc_seq (x y : Run) (tm : Tr Value) (H : Hp) (c : Nat) : Rx := match x tm H c with
      | some (.normal, tm', H', c') => y tm' H' c'
      | r => r
def fc_cond (E : Env) (q : Operand) (x y : Run) (tm : Tr Value) (H : Hp) (c : Nat) : Rx := match opd E tm q with
      | some (.bool true) => x tm H c
      | some (.bool false) => y tm H c
      | _ => none
def fc_block (id : Nat) (x : Run) (tm : Tr Value) (H : Hp) (c : Nat) : Rx := match x tm H c with
      | some (.exit j, tm', H', c') => cond (Nat.beq j id) (some (.normal, tm', H', c')) (some (.exit j, tm', H', c'))
      | r => r
def fc_loop (x : Run) (lf : Nat) (tm : Tr Value) (H : Hp) (c : Nat) : Rx := match loopP x lf tm H c with
      | some (.normal, _, _, _) => none
      | r => r
def fc_scope (code : Code) (x : Run) (y : Code → Run) (lf : Nat) (tm : Tr Value) (H : Hp) (c : Nat) : Rx := match x tm H c with
      | some (.goto l, tm', H', c') => match findLabel code l with
        | some rest => match jumpP l (y rest) lf tm' H' c' with
          | some (.goto _, _, _, _) => none
          | r => r
        | none => some (.goto l, tm', H', c')
      | r => r

def fCode (E : Env) (R : CallR) (lf : Nat) : Nat → Code → Tr Value → Hp → Nat → Rx
  | 0, _, _, _, _ => none
  | n + 1, code, tm, H, c => match code with
    | .skip => some (.normal, tm, H, c)
    | .label _ => some (.normal, tm, H, c)
    | .region _ ops draw => fc_region E R ops draw tm H c
    | .seq x y => fc_seq (fCode E R lf n x) (fCode E R lf n y) tm H c
    | .cond q x y => fc_cond E q (fCode E R lf n x) (fCode E R lf n y) tm H c
    | .block id x => fc_block id (fCode E R lf n x) tm H c
    | .loop x => fc_loop (fCode E R lf n x) lf tm H c
    | .scope x => fc_scope x (fCode E R lf n x) (fCode E R lf n) lf tm H c
    | .exit id => some (.exit id, tm, H, c)
    | .goto l => some (.goto l, tm, H, c)
    | .ret => some (.ret, tm, H, c)
    | _ => none

def fRes (E : Env) (fn : Func) : Rx → Rs
  | some (.exit _, _, _, _) => none
  | some (.goto _, _, _, _) => none
  | some (_, tm, H', c') => match evResults E tm H' fn.results.toList with
    | some [v] => some (v, H', c')
    | some vs => some (.tuple vs.toArray, H', c')
    | none => none
  | none => none

def fF (E : Env) (lf : Nat) : Nat → CallR
  | 0 => fun _ _ _ _ => none
  | n + 1 => fun f args H c => match E.F f with
    | none => none
    | some fn => match fn.body with
      | none => none
      | some code => fRes E fn (fCode E (fF E lf n) lf 1000 code (Tr.updL (Tr.rep undef 64 (args.length + (fn.ntmps - args.length))) 0 args) H c)

end Ce

namespace Ce
open Go

/-- A closure, kept. -/
structure Bx (α : Type) where
  mk :: run : α

/-- A way down a tree. -/
inductive Pt where
  | z | l (p : Pt) | r (p : Pt)

def pathN : Nat → Nat → Pt
  | 0, _ => .z
  | k + 1, i => cond (Nat.beq i 0) .z (cond (Nat.beq (Nat.mod i 2) 1) (.l (pathN k (Nat.div i 2))) (.r (pathN k (Nat.sub (Nat.div i 2) 1))))

section
variable {α β : Type}

noncomputable def getK (bad : β) (k : α → β) (p : Pt) : Tr α → β :=
  Pt.rec (motive := fun _ => Tr α → β)
    (fun t => Tr.rec (motive := fun _ => β) bad (fun _ v _ _ _ => k v) t)
    (fun _ ih t => Tr.rec (motive := fun _ => β) bad (fun l _ _ _ _ => ih l) t)
    (fun _ ih t => Tr.rec (motive := fun _ => β) bad (fun _ _ r _ _ => ih r) t) p

/-- Another value where one is. -/
noncomputable def setK (bad : β) (x : α) (p : Pt) : Tr α → (Tr α → β) → β :=
  Pt.rec (motive := fun _ => Tr α → (Tr α → β) → β)
    (fun t k => Tr.rec (motive := fun _ => β) bad (fun l _ r _ _ => k (.node l x r)) t)
    (fun _ ih t k => Tr.rec (motive := fun _ => β) bad (fun l v r _ _ => ih l fun l' => k (.node l' v r)) t)
    (fun _ ih t k => Tr.rec (motive := fun _ => β) bad (fun l v r _ _ => ih r fun r' => k (.node l v r')) t) p

noncomputable def ngetK (bad : β) (k : α → β) : Tr α → Nat → β :=
  Tr.rec (motive := fun _ => Nat → β) (fun _ => bad)
    (fun _ v _ ihl ihr i => Bool.rec (Bool.rec (ihr (Nat.sub (Nat.div i (nat_lit 2)) (nat_lit 1))) (ihl (Nat.div i (nat_lit 2))) (Nat.beq (Nat.mod i (nat_lit 2)) (nat_lit 1))) (k v) (Nat.beq i (nat_lit 0)))

noncomputable def nupdK (x : α) : Tr α → Nat → (Tr α → β) → β :=
  Tr.rec (motive := fun _ => Nat → (Tr α → β) → β) (fun _ k => k .nil)
    (fun l v r ihl ihr i k => Bool.rec (Bool.rec (ihr (Nat.sub (Nat.div i (nat_lit 2)) (nat_lit 1)) fun r' => k (.node l v r')) (ihl (Nat.div i (nat_lit 2)) fun l' => k (.node l' v r)) (Nat.beq (Nat.mod i (nat_lit 2)) (nat_lit 1))) (k (.node l x r)) (Nat.beq i (nat_lit 0)))

noncomputable def nputK (x d : α) : Nat → Tr α → Nat → (Tr α → β) → β :=
  Nat.rec (motive := fun _ => Tr α → Nat → (Tr α → β) → β) (fun t _ k => k t)
    (fun _ ih t => Tr.rec (motive := fun _ => Nat → (Tr α → β) → β)
      (fun i k => Bool.rec (Bool.rec (ih .nil (Nat.sub (Nat.div i (nat_lit 2)) (nat_lit 1)) fun r' => k (.node .nil d r')) (ih .nil (Nat.div i (nat_lit 2)) fun l' => k (.node l' d .nil)) (Nat.beq (Nat.mod i (nat_lit 2)) (nat_lit 1))) (k (.node .nil x .nil)) (Nat.beq i (nat_lit 0)))
      (fun l v r _ _ i k => Bool.rec (Bool.rec (ih r (Nat.sub (Nat.div i (nat_lit 2)) (nat_lit 1)) fun r' => k (.node l v r')) (ih l (Nat.div i (nat_lit 2)) fun l' => k (.node l' v r)) (Nat.beq (Nat.mod i (nat_lit 2)) (nat_lit 1))) (k (.node l x r)) (Nat.beq i (nat_lit 0))) t)

/-- A row of values from a number on, written. -/
noncomputable def nupdLK (l : List α) : Tr α → Nat → (Tr α → β) → β :=
  List.rec (motive := fun _ => Tr α → Nat → (Tr α → β) → β) (fun t _ k => k t) (fun x _ ih t i k => nupdK x t i fun t' => ih t' (Nat.succ i) k) l

noncomputable def ngetLK (bad : β) (t : Tr α) : Nat → Nat → (List α → β) → β :=
  fun n => Nat.rec (motive := fun _ => Nat → (List α → β) → β) (fun _ k => k []) (fun _ ih i k => ngetK bad (fun v => ih (Nat.succ i) fun l => k (v :: l)) t i) n

noncomputable def onInt (v : Value) (d : β) (k : IntKind → Int → β) : β :=
  Value.rec (motive_1 := fun _ => β) (motive_2 := fun _ => Unit) (motive_3 := fun _ => Unit)
    (fun _ => d) k (fun _ _ => d) (fun _ _ _ => d) (fun _ => d) (fun _ => d) (fun _ _ _ => d) (fun _ => d) (fun _ => d) (fun _ _ _ _ _ => d) d (fun _ _ _ => d) d (fun _ _ => d) (fun _ _ => d)
    (fun _ _ => ()) () (fun _ _ _ _ => ()) v

noncomputable def onBool (v : Value) (d : β) (k : Bool → β) : β :=
  Value.rec (motive_1 := fun _ => β) (motive_2 := fun _ => Unit) (motive_3 := fun _ => Unit)
    k (fun _ _ => d) (fun _ _ => d) (fun _ _ _ => d) (fun _ => d) (fun _ => d) (fun _ _ _ => d) (fun _ => d) (fun _ => d) (fun _ _ _ _ _ => d) d (fun _ _ _ => d) d (fun _ _ => d) (fun _ _ => d)
    (fun _ _ => ()) () (fun _ _ _ _ => ()) v

noncomputable def onPtr (v : Value) (d : β) (k : Option Addr → β) : β :=
  Value.rec (motive_1 := fun _ => β) (motive_2 := fun _ => Unit) (motive_3 := fun _ => Unit)
    (fun _ => d) (fun _ _ => d) (fun _ _ => d) (fun _ _ _ => d) (fun _ => d) k (fun _ _ _ => d) (fun _ => d) (fun _ => d) (fun _ _ _ _ _ => d) d (fun _ _ _ => d) d (fun _ _ => d) (fun _ _ => d)
    (fun _ _ => ()) () (fun _ _ _ _ => ()) v

noncomputable def onSlice (v : Value) (d : β) (k : Option Addr → Nat → Nat → β) : β :=
  Value.rec (motive_1 := fun _ => β) (motive_2 := fun _ => Unit) (motive_3 := fun _ => Unit)
    (fun _ => d) (fun _ _ => d) (fun _ _ => d) (fun _ _ _ => d) (fun _ => d) (fun _ => d) k (fun _ => d) (fun _ => d) (fun _ _ _ _ _ => d) d (fun _ _ _ => d) d (fun _ _ => d) (fun _ _ => d)
    (fun _ _ => ()) () (fun _ _ _ _ => ()) v

noncomputable def onTuple (v : Value) (d : β) (k : Array Value → β) : β :=
  Value.rec (motive_1 := fun _ => β) (motive_2 := fun _ => Unit) (motive_3 := fun _ => Unit)
    (fun _ => d) (fun _ _ => d) (fun _ _ => d) (fun _ _ _ => d) (fun _ => d) (fun _ => d) (fun _ _ _ => d) (fun _ => d) (fun _ => d) (fun _ _ _ _ _ => d) d (fun _ _ _ => d) d (fun _ _ => d) (fun vs _ => k vs)
    (fun _ _ => ()) () (fun _ _ _ _ => ()) v

noncomputable def onOne (v : Value) (d k : β) : β :=
  Value.rec (motive_1 := fun _ => β) (motive_2 := fun _ => Unit) (motive_3 := fun _ => Unit)
    (fun _ => k) (fun _ _ => k) (fun _ _ => k) (fun _ _ _ => k) (fun _ => k) (fun _ => k) (fun _ _ _ => k) (fun _ => k) (fun _ => k) (fun _ _ _ _ _ => k) k (fun _ _ _ => k) k (fun _ _ => d) (fun _ _ => d)
    (fun _ _ => ()) () (fun _ _ _ _ => ()) v

/-- A plain address. -/
noncomputable def onAddr (v : Value) (d : β) (k : Nat → Nat → β) : β :=
  onPtr v d fun a => Option.rec d (fun a => Addr.rec (fun b o s => Option.rec (k b o) (fun _ => d) s) a) a

noncomputable def onNat (n : Int) (d : β) (k : Nat → β) : β := Int.rec k (fun _ => d) n

noncomputable def onOb (o : Ob) (d : β) (k : Nat → Tr Value → Nat → Bool → TypeId → β) : β := Ob.rec k (fun _ _ => d) (fun _ _ => d) d o

end

/-- How a piece of code ends. -/
inductive Rz where
  | bad
  | norm (tm : Tr Value) (H : Hp) (c : Nat)
  | exit (id : Nat) (tm : Tr Value) (H : Hp) (c : Nat)
  | ret (tm : Tr Value) (H : Hp) (c : Nat)
  | goto (l : Nat) (tm : Tr Value) (H : Hp) (c : Nat)
  | out (v : Value) (H : Hp) (c : Nat)

abbrev KV := Value → Hp → Nat → Rz
abbrev CallZ := FuncId → List Value → Hp → Nat → KV → Rz
abbrev OpZ := CallZ → Tr Value → Hp → Nat → KV → Rz
abbrev PureZ := Tr Value → Hp → Nat → (Value → Rz) → Rz
abbrev RunZ := CallZ → Tr Value → Hp → Nat → Rz

def bindZ (r : Rs) (k : KV) : Rz := match r with | some (v, H, c) => k v H c | none => .bad
def bindP (r : Rs) (k : Value → Rz) : Rz := match r with | some (v, _, _) => k v | none => .bad
def bindV (r : Option Value) (k : Value → Rz) : Rz := match r with | some v => k v | none => .bad

noncomputable def rget (t : Nat) : Bx (Tr Value → (Value → Rz) → Rz) := ⟨fun tm k => getK .bad k (pathN (t + 1) t) tm⟩
noncomputable def rset (t : Nat) : Bx (Tr Value → Value → (Tr Value → Rz) → Rz) := ⟨fun tm x k => setK .bad x (pathN (t + 1) t) tm k⟩

noncomputable def cOpd (E : Env) : Operand → Bx (Tr Value → (Value → Rz) → Rz)
  | .tmp t => rget t
  | .const v => cond (flat 3 v) ⟨fun _ k => k v⟩ ⟨fun _ _ => .bad⟩
  | .global g => cond (E.G g) ⟨fun _ k => k (.pointer (some ⟨g, 0, none⟩))⟩ ⟨fun _ _ => .bad⟩
  | .func f => ⟨fun _ k => k (.func (.func f) #[] #[])⟩

noncomputable def cOpds (E : Env) : List Operand → Bx (Tr Value → (List Value → Rz) → Rz)
  | [] => ⟨fun _ k => k []⟩
  | x :: xs => ⟨fun tm k => (cOpd E x).1 tm fun v => (cOpds E xs).1 tm fun l => k (v :: l)⟩

def isI64 : IntKind → Bool
  | .i64 => true
  | _ => false

/-- Small numbers that are not below 0: the value, or the slow way. -/
noncomputable def fastBin : BinOp → Option (Nat → Nat → (Value → Rz) → Rz → Rz)
  | .add => some fun a b k d => Bool.rec d (k (.int .i64 (.ofNat (Nat.add a b)))) (Nat.blt (Nat.add a b) (nat_lit 9223372036854775808))
  | .sub => some fun a b k d => Bool.rec d (Bool.rec d (k (.int .i64 (.ofNat (Nat.sub a b)))) (Nat.blt a (nat_lit 9223372036854775808))) (Nat.ble b a)
  | .mul => some fun a b k d => Bool.rec d (k (.int .i64 (.ofNat (Nat.mul a b)))) (Nat.blt (Nat.mul a b) (nat_lit 9223372036854775808))
  | .rem => some fun a b k d => Bool.rec (k (.int .i64 (.ofNat (Nat.mod a b)))) d (Nat.beq b (nat_lit 0))
  | .eql => some fun a b k _ => k (.bool (Nat.beq a b))
  | .neq => some fun a b k _ => k (.bool (Bool.rec true false (Nat.beq a b)))
  | .lss => some fun a b k _ => k (.bool (Nat.blt a b))
  | .leq => some fun a b k _ => k (.bool (Nat.ble a b))
  | .gtr => some fun a b k _ => k (.bool (Nat.blt b a))
  | .geq => some fun a b k _ => k (.bool (Nat.ble b a))
  | _ => none

noncomputable def badP : PureZ := fun _ _ _ _ => .bad
noncomputable def badO : OpZ := fun _ _ _ _ _ => .bad

/-- An operation made ready: with a value alone, or with memory too. -/
inductive OpC where
  | pure (f : PureZ)
  | eff (f : OpZ)

noncomputable def runC : OpC → OpZ
  | .pure f => fun _ tm H c k => f tm H c fun v => k v H c
  | .eff f => f

/-- Two values reckoned. -/
def vBin (E : Env) (op : BinOp) (t : TypeId) (x y : Operand) (a b : Value) : Option Value :=
  if flat 3 a && flat 3 b then
    match pureRun E.P (do eqGuard op t x y a b; binOp op t a b) with
    | some v => if flat 3 v then some v else none
    | none => none
  else match op, E.P.underlying t with
    | .eql, some d => if nilApart d a b then some (.bool false) else none
    | .neq, some d => if nilApart d a b then some (.bool true) else none
    | _, _ => none

noncomputable def numBin (op : BinOp) (u v : Value) (k : Value → Rz) (d : Rz) : Rz :=
  match fastBin op with
  | some g => onInt u d fun kd a => onInt v d fun kd' b => Bool.rec d (Bool.rec d (onNat a d fun a => onNat b d fun b => g a b k d) (isI64 kd')) (isI64 kd)
  | none => d

/-- Is an address nil? -/
noncomputable def isNil (a : Option Addr) : Bool := Option.rec true (fun _ => false) a

def ptrD : Option TypeDesc → Bool
  | some (.pointer _) => true
  | _ => false

noncomputable def cBin (E : Env) (op : BinOp) (t : TypeId) (x y : Operand) : OpC :=
  .pure fun tm _ _ k => (cOpd E x).1 tm fun u => (cOpd E y).1 tm fun v => numBin op u v k (bindV (vBin E op t x y u v) k)

noncomputable def cLoad (E : Env) (t : TypeId) (x : Operand) : OpC :=
  match isAgg? E.P t, sizeAt E.P t with
  | some false, _ => .pure fun tm H _ k => (cOpd E x).1 tm fun u => onAddr u .bad fun r off => getK .bad (fun ob => onOb ob .bad fun _ cells _ _ _ => ngetK .bad k cells off) (pathN (Nat.succ r) r) H
  | some true, some m => .pure fun tm H _ k => (cOpd E x).1 tm fun u => onAddr u .bad fun r off => getK .bad (fun ob => onOb ob .bad fun _ cells _ _ _ => ngetLK .bad cells m off (fun l => k (.agg l.toArray))) (pathN (Nat.succ r) r) H
  | _, _ => .pure badP

noncomputable def cStore (E : Env) (t : TypeId) (x y : Operand) : OpC :=
  match sizeAt E.P t with
  | some 1 => .eff fun _ tm H c k => (cOpd E y).1 tm fun v => onOne v (bindZ (fo_store E tm H c t x y) k) ((cOpd E x).1 tm fun u => onAddr u .bad fun r off =>
      getK .bad (fun ob => onOb ob .bad fun size cells fz ro elem => Bool.rec (Bool.rec .bad (Bool.rec .bad (nupdK v cells off fun cells' => setK .bad (.row size cells' fz false elem) (pathN (Nat.succ r) r) H fun H' => k undef H' c) (Nat.ble fz off)) (Nat.ble (Nat.succ off) size)) .bad ro) (pathN (Nat.succ r) r) H)
  | _ => .eff fun _ tm H c k => bindZ (fo_store E tm H c t x y) k

noncomputable def cFieldAddr (E : Env) (s : TypeId) (x : Operand) (f : Nat) : OpC :=
  match E.P.underlying s with
  | some (.struct fields) => match fields[f]? with
    | some fd => match sizeAt E.P fd.type with
      | some m => cond (Nat.beq m 0) (.pure badP) (.pure fun tm _ _ k => (cOpd E x).1 tm fun u => onAddr u .bad fun r off => k (.pointer (some ⟨r, Nat.add off fd.offset, none⟩)))
      | none => .pure badP
    | none => .pure badP
  | _ => .pure badP

noncomputable def cIndexAddr (E : Env) (t : TypeId) (x ix : Operand) : OpC :=
  match E.P.underlying t with
  | some (.slice elem) => match sizeAt E.P elem with
    | some sz => .pure fun tm _ _ k => (cOpd E x).1 tm fun u => (cOpd E ix).1 tm fun w => onSlice u .bad fun a m _ => Option.rec .bad (fun a => onInt w .bad fun _ i => onNat i .bad fun i =>
        Bool.rec .bad (Addr.rec (fun bl off _ => k (.pointer (some ⟨bl, Nat.add off (Nat.mul i sz), none⟩))) a) (Nat.blt i m)) a
    | none => .pure badP
  | some (.array m elem) => match sizeAt E.P elem with
    | some sz => .pure fun tm _ _ k => (cOpd E x).1 tm fun u => (cOpd E ix).1 tm fun w => onAddr u .bad fun r off => onInt w .bad fun _ i => onNat i .bad fun i =>
        Bool.rec .bad (k (.pointer (some ⟨r, Nat.add off (Nat.mul i sz), none⟩))) (Nat.blt i m)
    | none => .pure badP
  | _ => .pure badP

def vUn (E : Env) (op : UnOp) (a : Value) : Option Value :=
  if flat 3 a then
    match pureRun E.P (Op.unary op a) with
    | some v => if flat 3 v then some v else none
    | none => none
  else none

noncomputable def cUn (E : Env) (op : UnOp) (x : Operand) : OpC :=
  match op with
  | .not => .pure fun tm _ _ k => (cOpd E x).1 tm fun u => onBool u .bad fun b => k (.bool (Bool.rec true false b))
  | op => .pure fun tm _ _ k => (cOpd E x).1 tm fun u => bindV (vUn E op u) k

noncomputable def cCall (E : Env) (k : Call) (oty : TypeId) : OpC :=
  match k.callee with
  | .value (.func f) => match E.X f with
    | some s => .eff fun _ tm H c kk => (cOpds E k.args.toList).1 tm fun args => bindZ (evFlat E s args H c) kk
    | none => .eff fun R tm H c kk => (cOpds E k.args.toList).1 tm fun args => R f args H c kk
  | .value _ => .eff fun R tm H c kk => match target E tm k with
      | some (f, args) => match E.X f with
        | some s => bindZ (evFlat E s args H c) kk
        | none => R f args H c kk
      | none => .bad
  | .builtin .len => match k.args.toList, (k.argTypes[0]?).bind E.P.underlying with
    | [x], some (.slice _) => .pure fun tm H c kk => (cOpd E x).1 tm fun u => onSlice u (bindP (fo_call E tm H c k oty) kk) fun _ m _ => kk (.int .i64 (.ofNat m))
    | _, _ => .pure fun tm H c kk => bindP (fo_call E tm H c k oty) kk
  | .builtin .min => .pure fun tm H c kk => bindP (fo_call E tm H c k oty) kk
  | .builtin .max => .pure fun tm H c kk => bindP (fo_call E tm H c k oty) kk
  | _ => .eff fun _ tm H c kk => bindZ (fo_call E tm H c k oty) kk

noncomputable def cExtract (E : Env) (x : Operand) (i : Nat) : OpC :=
  .pure fun tm _ _ k => (cOpd E x).1 tm fun u => onTuple u .bad fun vs => Option.rec .bad k vs[i]?

noncomputable def cMove (E : Env) (x : Operand) : OpC := .pure fun tm _ _ k => (cOpd E x).1 tm k

noncomputable def cPick (E : Env) (q x y : Operand) : OpC :=
  .pure fun tm _ _ k => (cOpd E q).1 tm fun u => onBool u .bad fun b => Bool.rec ((cOpd E y).1 tm k) ((cOpd E x).1 tm k) b

noncomputable def cNil (E : Env) (x : Operand) : OpC :=
  .pure fun tm H c k => (cOpd E x).1 tm fun u => onPtr u (bindP (fo_nilCheck E tm H c x) k) fun a => Option.rec .bad (fun _ => k u) a

/-- A new row. -/
noncomputable def newZ (H : Hp) (c : Nat) (cells : List Value) (elem : TypeId) (k : KV) : Rz :=
  getK (Bool.rec .bad (nputK (.row cells.length (Tr.updL (Tr.rep undef 64 cells.length) 0 cells) 0 false elem) .dead 64 H c fun H' => k (.pointer (some ⟨c, 0, none⟩)) H' (Nat.succ c)) (Nat.blt c (nat_lit 9223372036854775808)))
    (fun _ => .bad) (pathN (Nat.succ c) c) H

noncomputable def cAlloc (E : Env) (elem : TypeId) : OpC :=
  match (E.P.info? elem).bind (·.zero) with
  | some z => cond (flat 3 z) (.eff fun _ _ H c k => newZ H c z.cells.toList (2 * elem + 1) k) (.eff badO)
  | none => .eff badO

noncomputable def cBox (E : Env) (elem : TypeId) (x : Operand) : OpC :=
  .eff fun _ tm H c k => (cOpd E x).1 tm fun v => newZ H c v.cells.toList (2 * elem + 1) k

noncomputable def cOp (E : Env) (o : Oper) : OpC :=
  match o.op with
  | .move x => cMove E x
  | .assign x => cMove E x
  | .pick q x y => cPick E q x y
  | .load t x => cLoad E t x
  | .store t x y => cStore E t x y
  | .binOp op t x y _ => cBin E op t x y
  | .unOp op _ x => cUn E op x
  | .fieldAddr s x f => cFieldAddr E s x f
  | .indexAddr t x ix => cIndexAddr E t x ix
  | .extract x i => cExtract E x i
  | .nilCheck x => cNil E x
  | .call k => cCall E k o.type
  | .alloc elem => cAlloc E elem
  | .box elem x => cBox E elem x
  | .build t parts => .pure fun tm H c k => bindP (fo_build E tm H c t parts) k
  | .field t x f => .pure fun tm H c k => bindP (fo_field E tm H c t x f) k
  | .index t x ix => .pure fun tm H c k => bindP (fo_index E tm H c t x ix) k
  | .lookup t x ix ok => .pure fun tm H c k => bindP (fo_lookup E tm H c t x ix ok) k
  | .slice t x lo hi mx => .pure fun tm H c k => bindP (fo_slice E tm H c t x lo hi mx) k
  | .makeFunc fn first captured => .pure fun tm H c k => bindP (fo_makeFunc E tm H c fn first captured) k
  | .makeInterface t x => .pure fun tm H c k => bindP (fo_makeInterface E tm H c t x) k
  | .buildSlice t len parts => .eff fun _ tm H c k => bindZ (fo_buildSlice E tm H c t len parts) k
  | .convert src dst x => .eff fun _ tm H c k => bindZ (fo_convert E tm H c src dst x) k
  | .makeMap _ r => .eff fun _ tm H c k => bindZ (fo_makeMap E tm H c r) k
  | .makeSlice t l m => .eff fun _ tm H c k => bindZ (fo_makeSlice E tm H c t l m) k
  | .mapUpdate t m key x => .eff fun _ tm H c k => bindZ (fo_mapUpdate E tm H c t m key x) k
  | .insert t m key x => .eff fun _ tm H c k => bindZ (fo_mapUpdate E tm H c t m key x) k
  | .range t x => .eff fun _ tm H c k => bindZ (fo_range E tm H c t x) k
  | .next it isStr => .eff fun _ tm H c k => bindZ (fo_next E tm H c it isStr) k
  | _ => .eff badO

noncomputable def cPut (dst : Option Tmp) : Bx (Tr Value → Value → (Tr Value → Rz) → Rz) :=
  match dst with
  | none => ⟨fun tm _ k => k tm⟩
  | some d => rset d

abbrev SeqZ := CallZ → Tr Value → Hp → Nat → (Tr Value → Hp → Nat → Rz) → Rz

noncomputable def cStep (dst : Option Tmp) (next : Bx SeqZ) : OpC → Bx SeqZ
  | .pure f => ⟨fun R tm H c k => f tm H c fun v => (cPut dst).1 tm v fun tm' => next.1 R tm' H c k⟩
  | .eff f => ⟨fun R tm H c k => f R tm H c fun v H' c' => Bool.rec .bad ((cPut dst).1 tm v fun tm' => next.1 R tm' H' c' k) (Nat.ble c c')⟩

/-- A guard. -/
noncomputable def cGo (ops : Array Oper) : Option (Nat × Bool) → Bx (Tr Value → (Bool → Rz) → Rz)
  | none => ⟨fun _ k => k true⟩
  | some (j, want) => match (ops[j]?).bind (·.dst) with
    | some t => ⟨fun tm k => (rget t).1 tm fun u => onBool u (onTuple u .bad fun vs => Bool.rec .bad (k false) (Nat.beq vs.size 0)) fun b => Bool.rec (k (Bool.rec true false want)) (k want) b⟩
    | none => ⟨fun _ _ => .bad⟩

noncomputable def cSeq (E : Env) (ops : Array Oper) : List Oper → Bx SeqZ
  | [] => ⟨fun _ tm H c k => k tm H c⟩
  | o :: l => match o.guard with
    | none => cStep o.dst (cSeq E ops l) (cOp E o)
    | some g => ⟨fun R tm H c k => (cGo ops (some g)).1 tm fun b => Bool.rec ((cPut o.dst).1 tm undef fun tm' => (cSeq E ops l).1 R tm' H c k) ((cStep o.dst (cSeq E ops l) (cOp E o)).1 R tm H c k) b⟩

abbrev SeqD := CallZ → Tr Value → Hp → Nat → List Rec → (Tr Value → Hp → Nat → List Rec → Rz) → Rz

noncomputable def cSeqD (E : Env) (ops : Array Oper) : List Oper → Nat → Bx SeqD
  | [], _ => ⟨fun _ tm H c rs k => k tm H c rs⟩
  | o :: l, i => ⟨fun R tm H c rs k => (cGo ops o.guard).1 tm fun b =>
      Bool.rec ((cPut o.dst).1 tm undef fun tm' => (cSeqD E ops l (i + 1)).1 R tm' H c (⟨i, o, tm, H, c, false, undef⟩ :: rs) k)
        (runC (cOp E o) R tm H c fun v H' c' => Bool.rec .bad ((cPut o.dst).1 tm v fun tm' => (cSeqD E ops l (i + 1)).1 R tm' H' c' (⟨i, o, tm, H, c, true, v⟩ :: rs) k) (Nat.ble c c')) b⟩

/-- As same, quicker for small numbers and addresses. -/
noncomputable def sameZ (u v : Value) : Bool :=
  onInt u (onPtr u (same 3 u v) fun a => onPtr v (same 3 u v) fun b => Option.rec (Option.rec true (fun _ => false) b)
      (fun a => Option.rec false (fun b => Addr.rec (fun bl of sp => Addr.rec (fun bl' of' sp' =>
        Option.rec (Option.rec (Bool.rec false (Nat.beq of of') (Nat.beq bl bl')) (fun _ => same 3 u v) sp') (fun _ => same 3 u v) sp) b) a) b) a)
    fun kd n => onInt v (same 3 u v) fun kd' m => Bool.rec (same 3 u v) (Bool.rec (same 3 u v) (onNat n (same 3 u v) fun n => onNat m (same 3 u v) fun m => Nat.beq n m) (isI64 kd')) (isI64 kd)

/-- The places where an operation that looks may stand. -/
def placesOf (P : Program) (ops : Array Oper) (i : Nat) : List Nat :=
  (effects P ops.toList 0 ++ [ops.size]).filter fun p => possible (befs ops.toList []) (effects P ops.toList 0) i p

noncomputable def heapZ (Hn : Hp) (p : Nat) (rs : List Rec) : Hp :=
  List.rec (motive := fun _ => Hp) Hn (fun r _ ih => Rec.rec (fun i _ _ H _ _ _ => Bool.rec ih H (Nat.beq i p)) r) rs

noncomputable def looksAt (E : Env) (o : Oper) (tm : Tr Value) (c : Nat) (v : Value) (all : List Rec) (Hn : Hp) (ps : List Nat) (k : Rz) : Rz :=
  List.rec (motive := fun _ => Rz) k (fun p _ ih => runC (cOp E o) (fun _ _ _ _ _ => .bad) tm (heapZ Hn p all) c fun u _ _ => Bool.rec .bad ih (sameZ u v)) ps

/-- Each operation that looks finds the same wherever it may stand. -/
noncomputable def looksZ (E : Env) (ops : Array Oper) (all : List Rec) (Hn : Hp) (k : Rz) (rs : List Rec) : Rz :=
  List.rec (motive := fun _ => Rz) k (fun r _ ih => Rec.rec (fun i o tm _ c done v => Bool.rec ih (Bool.rec ih (looksAt E o tm c v all Hn (placesOf E.P ops i) ih) (Nat.beq (kind E.P o.op) 2)) done) r) rs

noncomputable def Rz.seq (r : Rz) (k : Tr Value → Hp → Nat → Rz) : Rz := Rz.rec .bad k Rz.exit Rz.ret Rz.goto Rz.out r
noncomputable def Rz.blk (id : Nat) (r : Rz) : Rz := Rz.rec .bad .norm (fun j tm H c => Bool.rec (.exit j tm H c) (.norm tm H c) (Nat.beq j id)) .ret .goto .out r
noncomputable def Rz.unNorm (r : Rz) : Rz := Rz.rec .bad (fun _ _ _ => .bad) .exit .ret .goto .out r
noncomputable def Rz.onGoto (r : Rz) (k : Nat → Tr Value → Hp → Nat → Rz) : Rz := Rz.rec .bad .norm .exit .ret k .out r

noncomputable def loopZ (body : Tr Value → Hp → Nat → Rz) (lf : Nat) : Tr Value → Hp → Nat → Rz :=
  Nat.rec (motive := fun _ => Tr Value → Hp → Nat → Rz) body (fun _ ih tm H c => (ih tm H c).seq ih) lf

noncomputable def jumpZ (l : Nat) (body : Tr Value → Hp → Nat → Rz) (lf : Nat) : Tr Value → Hp → Nat → Rz :=
  Nat.rec (motive := fun _ => Tr Value → Hp → Nat → Rz) body (fun _ ih tm H c => (ih tm H c).onGoto fun l' tm' H' c' => Bool.rec .bad (ih tm' H' c') (Nat.beq l' l)) lf

noncomputable def cCode (E : Env) (lf : Nat) : Nat → Code → Bx RunZ
  | 0, _ => ⟨fun _ _ _ _ => .bad⟩
  | fu + 1, code => match code with
    | .skip => ⟨fun _ tm H c => .norm tm H c⟩
    | .label _ => ⟨fun _ tm H c => .norm tm H c⟩
    | .region _ ops draw => cond draw
        ⟨fun R tm H c => (cSeqD E ops ops.toList 0).1 R tm H c [] fun tm' H' c' rs => Bool.rec .bad (looksZ E ops rs H' (.norm tm' H' c') rs) (planOK E.P ops)⟩
        ⟨fun R tm H c => (cSeq E ops ops.toList).1 R tm H c Rz.norm⟩
    | .seq x y => ⟨fun R tm H c => ((cCode E lf fu x).1 R tm H c).seq fun tm' H' c' => (cCode E lf fu y).1 R tm' H' c'⟩
    | .cond q x y => ⟨fun R tm H c => (cOpd E q).1 tm fun v => onBool v .bad fun b => Bool.rec ((cCode E lf fu y).1 R tm H c) ((cCode E lf fu x).1 R tm H c) b⟩
    | .block id x => ⟨fun R tm H c => ((cCode E lf fu x).1 R tm H c).blk id⟩
    | .loop x => ⟨fun R tm H c => (loopZ ((cCode E lf fu x).1 R) lf tm H c).unNorm⟩
    | .scope x => ⟨fun R tm H c => ((cCode E lf fu x).1 R tm H c).onGoto fun l tm' H' c' => match findLabel x l with
        | some rest => (jumpZ l ((cCode E lf fu rest).1 R) lf tm' H' c').onGoto fun _ _ _ _ => .bad
        | none => .goto l tm' H' c'⟩
    | .exit id => ⟨fun _ tm H c => .exit id tm H c⟩
    | .goto l => ⟨fun _ tm H c => .goto l tm H c⟩
    | .ret => ⟨fun _ tm H c => .ret tm H c⟩
    | _ => ⟨fun _ _ _ _ => .bad⟩

noncomputable def cRes (E : Env) (rs : List ResultVar) : Bx (Tr Value → Hp → Nat → KV → Rz) :=
  match rs with
  | [.tmp t] => ⟨fun tm H c k => (rget t).1 tm fun v => k v H c⟩
  | rs => ⟨fun tm H c k => match evResults E tm H rs with
      | some [v] => k v H c
      | some vs => k (.tuple vs.toArray) H c
      | none => .bad⟩

noncomputable def Rz.fin (r : Rz) (k : Tr Value → Hp → Nat → Rz) : Rz := Rz.rec .bad k (fun _ _ _ _ => .bad) k (fun _ _ _ _ => .bad) (fun _ _ _ => .bad) r

noncomputable def cFn (E : Env) (lf : Nat) (f : FuncId) : Bx (CallZ → List Value → Hp → Nat → KV → Rz) :=
  match E.M f with
  | some p => ⟨fun _ args H c k => bindZ (p args H c) k⟩
  | none => match E.F f with
  | none => ⟨fun _ _ _ _ _ => .bad⟩
  | some fn => match fn.body with
    | none => ⟨fun _ _ _ _ _ => .bad⟩
    | some code => ⟨fun R args H c k => nupdLK args (Bool.rec (Tr.rep undef 64 (args.length + (fn.ntmps - args.length))) (Tr.rep undef 64 fn.ntmps) (Nat.ble args.length fn.ntmps)) 0 fun tm =>
        ((cCode E lf 1000 code).1 R tm H c).fin fun tm' H' c' => (cRes E fn.results.toList).1 tm' H' c' k⟩

noncomputable def fZ (E : Env) (lf : Nat) (n : Nat) : CallZ :=
  Nat.rec (motive := fun _ => CallZ) (fun _ _ _ _ _ => .bad) (fun _ ih f args H c k => (cFn E lf f).1 ih args H c k) n

end Ce

namespace Ce
open Go

section
variable {α β : Type}

theorem boolRec (a b : β) (q : Bool) : (Bool.rec a b q : β) = cond q b a := by cases q <;> rfl

theorem getK_nil (bad : β) (k : α → β) (p : Pt) : getK bad k p .nil = bad := by cases p <;> rfl

theorem getK_path (bad : β) (k : α → β) (t : Tr α) : ∀ (m i : Nat), i < m → getK bad k (pathN m i) t = match t.get i with | some v => k v | none => bad := by
  induction t with
  | nil => intro m i _; rw [getK_nil]; rfl
  | node l v r ihl ihr =>
    intro m i hm
    cases m with
    | zero => omega
    | succ m =>
      simp only [pathN, Tr.get, Bool.cond_eq_ite, Nat.beq_eq, Tr.modE, Tr.divE, Nat.sub_eq]
      by_cases h0 : i = 0
      · simp only [h0, if_true]; rfl
      · simp only [h0, if_false]
        by_cases h1 : i % 2 = 1
        · simp only [h1, if_true]
          rw [← ihl m (i / 2) (by omega)]; rfl
        · simp only [h1, if_false]
          rw [← ihr m (i / 2 - 1) (by omega)]; rfl

theorem setK_nil (bad : β) (x : α) (p : Pt) (k : Tr α → β) : setK bad x p .nil k = bad := by cases p <;> rfl

theorem setK_path (bad : β) (x : α) (t : Tr α) : ∀ (m i : Nat) (k : Tr α → β), i < m → setK bad x (pathN m i) t k = match t.get i with | some _ => k (t.upd x i) | none => bad := by
  induction t with
  | nil => intro m i k _; rw [setK_nil]; rfl
  | node l v r ihl ihr =>
    intro m i k hm
    cases m with
    | zero => omega
    | succ m =>
      simp only [pathN, Tr.get, Tr.upd, Bool.cond_eq_ite, Nat.beq_eq, Tr.modE, Tr.divE, Nat.sub_eq]
      by_cases h0 : i = 0
      · simp only [h0, if_true]; rfl
      · simp only [h0, if_false]
        by_cases h1 : i % 2 = 1
        · simp only [h1, if_true]
          exact ihl m (i / 2) (fun l' => k (.node l' v r)) (by omega)
        · simp only [h1, if_false]
          exact ihr m (i / 2 - 1) (fun r' => k (.node l v r')) (by omega)

theorem ngetK_eq (bad : β) (k : α → β) (t : Tr α) : ∀ (i : Nat), ngetK bad k t i = match t.get i with | some v => k v | none => bad := by
  induction t with
  | nil => intro i; rfl
  | node l v r ihl ihr =>
    intro i
    have e : ngetK bad k (.node l v r) i = cond (Nat.beq i 0) (k v) (cond (Nat.beq (Nat.mod i 2) 1) (ngetK bad k l (Nat.div i 2)) (ngetK bad k r (Nat.sub (Nat.div i 2) 1))) := by
      rw [← boolRec, ← boolRec]; rfl
    rw [e, ihl, ihr]
    simp only [Tr.get, Bool.cond_eq_ite]
    split
    · rfl
    · split <;> rfl

theorem nupdK_eq (x : α) (t : Tr α) : ∀ (i : Nat) (k : Tr α → β), nupdK x t i k = k (t.upd x i) := by
  induction t with
  | nil => intro i k; rfl
  | node l v r ihl ihr =>
    intro i k
    have e : nupdK x (.node l v r) i k = cond (Nat.beq i 0) (k (.node l x r)) (cond (Nat.beq (Nat.mod i 2) 1) (nupdK x l (Nat.div i 2) fun l' => k (.node l' v r)) (nupdK x r (Nat.sub (Nat.div i 2) 1) fun r' => k (.node l v r'))) := by
      rw [← boolRec, ← boolRec]; rfl
    rw [e, ihl, ihr]
    simp only [Tr.upd, Bool.cond_eq_ite]
    split
    · rfl
    · split <;> rfl

theorem nputK_eq (x d : α) : ∀ (m : Nat) (t : Tr α) (i : Nat) (k : Tr α → β), nputK x d m t i k = k (Tr.put x d m t i) := by
  intro m
  induction m with
  | zero => intro t i k; rfl
  | succ m ih =>
    intro t i k
    cases t with
    | nil =>
      have e : nputK x d (m + 1) .nil i k = cond (Nat.beq i 0) (k (.node .nil x .nil)) (cond (Nat.beq (Nat.mod i 2) 1) (nputK x d m .nil (Nat.div i 2) fun l' => k (.node l' d .nil)) (nputK x d m .nil (Nat.sub (Nat.div i 2) 1) fun r' => k (.node .nil d r'))) := by
        rw [← boolRec, ← boolRec]; rfl
      rw [e, ih, ih]
      simp only [Tr.put, Bool.cond_eq_ite]
      split
      · rfl
      · split <;> rfl
    | node l v r =>
      have e : nputK x d (m + 1) (.node l v r) i k = cond (Nat.beq i 0) (k (.node l x r)) (cond (Nat.beq (Nat.mod i 2) 1) (nputK x d m l (Nat.div i 2) fun l' => k (.node l' v r)) (nputK x d m r (Nat.sub (Nat.div i 2) 1) fun r' => k (.node l v r'))) := by
        rw [← boolRec, ← boolRec]; rfl
      rw [e, ih, ih]
      simp only [Tr.put, Bool.cond_eq_ite]
      split
      · rfl
      · split <;> rfl

theorem nupdLK_eq : ∀ (l : List α) (t : Tr α) (i : Nat) (k : Tr α → β), nupdLK l t i k = k (t.updL i l) := by
  intro l
  induction l with
  | nil => intro t i k; rfl
  | cons x l ih =>
    intro t i k
    show nupdK x t i (fun t' => nupdLK l t' (Nat.succ i) k) = _
    rw [nupdK_eq, ih]; rfl

theorem ngetLK_eq (bad : β) (t : Tr α) : ∀ (n i : Nat) (k : List α → β), ngetLK bad t n i k = match t.getL i n with | some l => k l | none => bad := by
  intro n
  induction n with
  | zero => intro i k; rfl
  | succ n ih =>
    intro i k
    have e : ngetLK bad t (n + 1) i k = ngetK bad (fun v => ngetLK bad t n (Nat.succ i) fun l => k (v :: l)) t i := rfl
    rw [e, ngetK_eq]
    simp only [Tr.getL]
    cases t.get i with
    | none => rfl
    | some v =>
      simp only []
      rw [ih]
      show (match t.getL (i + 1) n with | some l => k (v :: l) | none => bad) = _
      cases t.getL (i + 1) n <;> rfl

theorem onInt_eq (v : Value) (d : β) (k : IntKind → Int → β) : onInt v d k = match v with | .int j n => k j n | _ => d := by cases v <;> rfl
theorem onBool_eq (v : Value) (d : β) (k : Bool → β) : onBool v d k = match v with | .bool b => k b | _ => d := by cases v <;> rfl
theorem onPtr_eq (v : Value) (d : β) (k : Option Addr → β) : onPtr v d k = match v with | .pointer a => k a | _ => d := by cases v <;> rfl
theorem onSlice_eq (v : Value) (d : β) (k : Option Addr → Nat → Nat → β) : onSlice v d k = match v with | .slice a n m => k a n m | _ => d := by cases v <;> rfl
theorem onTuple_eq (v : Value) (d : β) (k : Array Value → β) : onTuple v d k = match v with | .tuple vs => k vs | _ => d := by cases v <;> rfl
theorem onOne_eq (v : Value) (d k : β) : onOne v d k = match v with | .agg _ => d | .tuple _ => d | _ => k := by cases v <;> rfl
theorem onAddr_eq (v : Value) (d : β) (k : Nat → Nat → β) : onAddr v d k = match v with | .pointer (some ⟨b, o, none⟩) => k b o | _ => d := by
  rcases v with _ | _ | _ | _ | _ | a | _ | _ | _ | _ | _ | _ | _ | _ | _ <;> try rfl
  rcases a with _ | ⟨b, o, _ | s⟩ <;> rfl
theorem onNat_eq (n : Int) (d : β) (k : Nat → β) : onNat n d k = match n with | .ofNat m => k m | .negSucc _ => d := by cases n <;> rfl
theorem onOb_eq (o : Ob) (d : β) (k : Nat → Tr Value → Nat → Bool → TypeId → β) : onOb o d k = match o with | .row a b c e f => k a b c e f | _ => d := by cases o <;> rfl
theorem optRec (o : Option α) (d : β) (k : α → β) : (Option.rec d k o : β) = match o with | some v => k v | none => d := by cases o <;> rfl

end

theorem rget_eq (t : Nat) (tm : Tr Value) (k : Value → Rz) : (rget t).1 tm k = bindV (tm.get t) k := by
  show getK .bad k (pathN (t + 1) t) tm = _
  rw [getK_path .bad k tm (t + 1) t (Nat.lt_succ_self t)]; cases tm.get t <;> rfl
theorem rset_eq (t : Nat) (tm : Tr Value) (x : Value) (k : Tr Value → Rz) : (rset t).1 tm x k = match tm.get t with | some _ => k (tm.upd x t) | none => .bad := by
  show setK .bad x (pathN (t + 1) t) tm k = _
  rw [setK_path .bad x tm (t + 1) t k (Nat.lt_succ_self t)]; cases tm.get t <;> rfl

theorem cOpd_eq (E : Env) (x : Operand) (tm : Tr Value) (k : Value → Rz) : (cOpd E x).1 tm k = bindV (opd E tm x) k := by
  cases x with
  | tmp t => exact rget_eq t tm k
  | const v =>
    simp only [cOpd, opd]
    cases flat 3 v <;> rfl
  | global g =>
    simp only [cOpd, opd]
    cases E.G g <;> rfl
  | func f => rfl

theorem cOpds_eq (E : Env) (tm : Tr Value) : ∀ (xs : List Operand) (k : List Value → Rz), (cOpds E xs).1 tm k = match opds E tm xs with | some l => k l | none => .bad := by
  intro xs
  induction xs with
  | nil => intro k; rfl
  | cons x xs ih =>
    intro k
    show (cOpd E x).1 tm (fun v => (cOpds E xs).1 tm fun l => k (v :: l)) = _
    rw [cOpd_eq]
    simp only [opds]
    cases opd E tm x with
    | none => rfl
    | some v =>
      show (cOpds E xs).1 tm (fun l => k (v :: l)) = _
      rw [ih]
      cases opds E tm xs <;> rfl

end Ce

namespace Ce
open Go

abbrev G3 := Tr Value → Hp → Nat → Rs

def PF (oc : OpC) (g : G3) : Prop := ∃ f, oc = .pure f ∧ ∀ tm H c k, f tm H c k = bindP (g tm H c) k
def EF (R : CallZ) (oc : OpC) (g : G3) : Prop := ∃ f, oc = .eff f ∧ ∀ tm H c k, f R tm H c k = bindZ (g tm H c) k

variable (E : Env)

theorem cMove_ok (x : Operand) : PF (cMove E x) fun tm H c => fo_move E tm H c x :=
  ⟨_, rfl, fun tm H c k => by
    rw [cOpd_eq]; simp only [fo_move]
    cases opd E tm x <;> rfl⟩

theorem cPick_ok (q x y : Operand) : PF (cPick E q x y) fun tm H c => fo_pick E tm H c q x y :=
  ⟨_, rfl, fun tm H c k => by
    rw [cOpd_eq]; simp only [fo_pick]
    cases opd E tm q with
    | none => rfl
    | some u =>
      show onBool u _ _ = _
      rw [onBool_eq]
      cases u with
      | bool b =>
        cases b with
        | true =>
          show (cOpd E x).1 tm k = _
          rw [cOpd_eq]; simp only [if_true]
          cases opd E tm x <;> rfl
        | false =>
          show (cOpd E y).1 tm k = _
          rw [cOpd_eq]; simp only []
          show _ = bindP (match opd E tm y with | some v => some (v, H, c) | none => none) k
          cases opd E tm y <;> rfl
      | _ => rfl⟩

theorem cExtract_ok (x : Operand) (i : Nat) : PF (cExtract E x i) fun tm H c => fo_extract E tm H c x i :=
  ⟨_, rfl, fun tm H c k => by
    rw [cOpd_eq]; simp only [fo_extract]
    cases opd E tm x with
    | none => rfl
    | some u =>
      show onTuple u _ _ = _
      rw [onTuple_eq]
      cases u with
      | tuple vs =>
        simp only []
        cases vs[i]? <;> rfl
      | _ => rfl⟩

theorem cNil_ok (x : Operand) : PF (cNil E x) fun tm H c => fo_nilCheck E tm H c x :=
  ⟨_, rfl, fun tm H c k => by
    rw [cOpd_eq]
    cases hx : opd E tm x with
    | none => simp only [fo_nilCheck, hx]; rfl
    | some u =>
      show onPtr u _ _ = _
      rw [onPtr_eq]
      cases u with
      | pointer a => simp only [fo_nilCheck, hx]; cases a <;> rfl
      | _ => rfl⟩

theorem cLoad_ok (t : TypeId) (x : Operand) : PF (cLoad E t x) fun tm H c => fo_load E tm H c t x := by
  unfold cLoad
  have bad : ∀ f : PureZ, (∀ tm H c k, f tm H c k = bindP (fo_load E tm H c t x) k) → PF (.pure f) fun tm H c => fo_load E tm H c t x := fun f hf => ⟨f, rfl, hf⟩
  have step : ∀ (tm : Tr Value) (H : Hp) (c : Nat) (k : Value → Rz) (g : Nat → Nat → Rz), (∀ r off, opd E tm x = some (.pointer (some ⟨r, off, none⟩)) → g r off = bindP (fo_load E tm H c t x) k) →
      ((cOpd E x).1 tm fun u => onAddr u .bad g) = bindP (fo_load E tm H c t x) k := by
    intro tm H c k g hg
    rw [cOpd_eq]
    cases hx : opd E tm x with
    | none => simp only [fo_load, hx]; rfl
    | some u =>
      show onAddr u .bad g = _
      rw [onAddr_eq]
      rcases u with _ | _ | _ | _ | _ | a | _ | _ | _ | _ | _ | _ | _ | _ | _ <;> try (simp only [fo_load, hx]; rfl)
      rcases a with _ | ⟨b, o, _ | s⟩ <;> try (simp only [fo_load, hx]; rfl)
      exact hg b o hx
  cases hA : isAgg? E.P t with
  | none =>
    refine bad _ fun tm H c k => ?_
    simp only [fo_load, hA]
    rcases opd E tm x with _ | u
    · rfl
    · rcases u with _ | _ | _ | _ | _ | a | _ | _ | _ | _ | _ | _ | _ | _ | _ <;> try rfl
      rcases a with _ | ⟨b, o, _ | s⟩ <;> rfl
  | some ag =>
    cases ag with
    | false =>
      refine bad _ fun tm H c k => step tm H c k _ fun r off hx => ?_
      show getK Rz.bad _ (pathN (r + 1) r) H = _
      rw [getK_path _ _ _ _ _ (Nat.lt_succ_self r)]
      simp only [fo_load, hx, hA]
      cases hr : H.get r with
      | none => rfl
      | some ob =>
        simp only [onOb_eq]
        cases ob with
        | row a cells d e g =>
          simp only [ngetK_eq]
          cases cells.get off <;> rfl
        | _ => rfl
    | true =>
      cases hS : sizeAt E.P t with
      | none =>
        refine bad _ fun tm H c k => ?_
        simp only [fo_load, hA, hS]
        rcases opd E tm x with _ | u
        · rfl
        · rcases u with _ | _ | _ | _ | _ | a | _ | _ | _ | _ | _ | _ | _ | _ | _ <;> try rfl
          rcases a with _ | ⟨b, o, _ | s⟩ <;> rfl
      | some m =>
        refine bad _ fun tm H c k => step tm H c k _ fun r off hx => ?_
        show getK Rz.bad _ (pathN (r + 1) r) H = _
        rw [getK_path _ _ _ _ _ (Nat.lt_succ_self r)]
        simp only [fo_load, hx, hA, hS, readRow]
        cases hr : H.get r with
        | none => rfl
        | some ob =>
          simp only [onOb_eq]
          cases ob with
          | row a cells d e g =>
            simp only [ngetLK_eq]
            cases cells.getL off m <;> rfl
          | _ => rfl

theorem newZ_eq (H : Hp) (c : Nat) (cells : List Value) (elem : TypeId) (k : KV) : newZ H c cells elem k = bindZ (newRow H c cells elem fun r => .pointer (some ⟨r, 0, none⟩)) k := by
  unfold newZ newRow
  show getK _ _ (pathN (c + 1) c) H = _
  rw [getK_path _ _ _ _ _ (Nat.lt_succ_self c)]
  cases H.get c with
  | some _ => rfl
  | none =>
    simp only [nputK_eq]
    show (Bool.rec Rz.bad _ (Nat.blt c 9223372036854775808) : Rz) = _
    cases Nat.blt c 9223372036854775808 <;> rfl

theorem cAlloc_ok (R : CallZ) (elem : TypeId) : EF R (cAlloc E elem) fun tm H c => fo_alloc E tm H c elem := by
  unfold cAlloc
  cases hi : E.P.info? elem with
  | none => exact ⟨_, rfl, fun tm H c k => by simp only [fo_alloc, hi]; rfl⟩
  | some inf =>
    cases hz : inf.zero with
    | none => simp only [Option.bind_some, hz]; exact ⟨_, rfl, fun tm H c k => by simp only [fo_alloc, hi, hz]; rfl⟩
    | some z =>
      simp only [Option.bind_some, hz]
      cases hf : flat 3 z with
      | false => exact ⟨_, rfl, fun tm H c k => by simp only [fo_alloc, hi, hz, hf]; rfl⟩
      | true => exact ⟨_, rfl, fun tm H c k => by simp only [fo_alloc, hi, hz, hf, newZ_eq, if_true]⟩

theorem cBox_ok (R : CallZ) (elem : TypeId) (x : Operand) : EF R (cBox E elem x) fun tm H c => fo_box E tm H c elem x :=
  ⟨_, rfl, fun tm H c k => by
    rw [cOpd_eq]; simp only [fo_box]
    cases opd E tm x with
    | none => rfl
    | some v =>
      show newZ H c v.cells.toList (2 * elem + 1) k = _
      rw [newZ_eq]⟩

/-- A plain address behind a slot. -/
def adr (o : Option Value) (g : Nat → Nat → Rs) : Rs :=
  match o with
  | some (.pointer (some ⟨r, off, none⟩)) => g r off
  | _ => none

theorem adr_run (x : Operand) (tm : Tr Value) (g : Nat → Nat → Rs) (k : Value → Rz) (f : Nat → Nat → Rz) (h : ∀ r off, f r off = bindP (g r off) k) :
    ((cOpd E x).1 tm fun u => onAddr u .bad f) = bindP (adr (opd E tm x) g) k := by
  rw [cOpd_eq]
  cases opd E tm x with
  | none => rfl
  | some u =>
    show onAddr u .bad f = _
    rw [onAddr_eq]
    rcases u with _ | _ | _ | _ | _ | a | _ | _ | _ | _ | _ | _ | _ | _ | _ <;> try rfl
    rcases a with _ | ⟨b, o, _ | s⟩ <;> try rfl
    exact h b o

theorem adr_none (o : Option Value) : (adr o fun _ _ => none) = none := by
  unfold adr; split <;> rfl

theorem fo_fieldAddr_adr (tm : Tr Value) (H : Hp) (c : Nat) (s : TypeId) (x : Operand) (f : Nat) : fo_fieldAddr E tm H c s x f = adr (opd E tm x) fun r off => match E.P.underlying s with
      | some (.struct fields) => match fields[f]? with
        | some fd => match sizeAt E.P fd.type with
          | some n => if n = 0 then none else some (.pointer (some ⟨r, off + fd.offset, none⟩), H, c)
          | none => none
        | none => none
      | _ => none := by
  unfold fo_fieldAddr
  cases opd E tm x with
  | none => rfl
  | some u =>
    rcases u with _ | _ | _ | _ | _ | a | _ | _ | _ | _ | _ | _ | _ | _ | _ <;> try rfl
    rcases a with _ | ⟨b, o, _ | s⟩ <;> try rfl
    rcases E.P.underlying s with _ | d
    · rfl
    · cases d <;> rfl

theorem cFieldAddr_ok (s : TypeId) (x : Operand) (f : Nat) : PF (cFieldAddr E s x f) fun tm H c => fo_fieldAddr E tm H c s x f := by
  have bad : ∀ {g : Nat → Nat → Hp → Nat → Rs}, (∀ r off H c, g r off H c = none) → PF (.pure badP) fun tm H c => adr (opd E tm x) fun r off => g r off H c := fun h => ⟨_, rfl, fun tm H c k => by
    simp only [h, adr_none]; rfl⟩
  unfold cFieldAddr
  simp only [fo_fieldAddr_adr]
  cases hd : E.P.underlying s with
  | none => exact bad fun _ _ _ _ => rfl
  | some d =>
    cases d with
    | struct fields =>
      simp only []
      cases hf : fields[f]? with
      | none => exact bad fun _ _ _ _ => rfl
      | some fd =>
        simp only []
        cases hs : sizeAt E.P fd.type with
        | none => exact bad fun _ _ _ _ => rfl
        | some m =>
          simp only [Bool.cond_eq_ite, Nat.beq_eq]
          by_cases h0 : m = 0
          · simp only [h0, if_true]
            exact bad fun _ _ _ _ => rfl
          · simp only [h0, if_false]
            exact ⟨_, rfl, fun tm H c k => adr_run E x tm _ k _ fun r off => rfl⟩
    | _ => exact bad fun _ _ _ _ => rfl

theorem cIndexAddr_ok (t : TypeId) (x ix : Operand) : PF (cIndexAddr E t x ix) fun tm H c => fo_indexAddr E tm H c t x ix := by
  unfold cIndexAddr
  cases hd : E.P.underlying t with
  | none =>
    refine ⟨_, rfl, fun tm H c k => ?_⟩
    simp only [fo_indexAddr, hd]
    split <;> (first | rfl | simp_all)
  | some d =>
    cases d with
    | slice elem =>
      simp only []
      cases hs : sizeAt E.P elem with
      | none =>
        refine ⟨_, rfl, fun tm H c k => ?_⟩
        simp only [fo_indexAddr, hd]
        split <;> (first | rfl | simp_all [badP, bindP])
      | some sz =>
        refine ⟨_, rfl, fun tm H c k => ?_⟩
        rw [cOpd_eq]
        cases hx : opd E tm x with
        | none => simp only [fo_indexAddr, hx]; rfl
        | some u =>
          show (cOpd E ix).1 tm _ = _
          rw [cOpd_eq]
          cases hi : opd E tm ix with
          | none => simp only [fo_indexAddr, hx, hi]; rcases u with _ | _ | _ | _ | _ | a | ⟨a, m, q⟩ | _ | _ | _ | _ | _ | _ | _ | _ <;> first | rfl | (rcases a with _ | ⟨b, o, _ | s⟩ <;> rfl)
          | some w =>
            simp only [bindV]
            rw [onSlice_eq]
            rcases u with _ | _ | _ | _ | _ | a | ⟨a, m, q⟩ | _ | _ | _ | _ | _ | _ | _ | _ <;> try (simp only [fo_indexAddr, hx, hi, hd]; rfl)
            · simp only [optRec]
              rcases a with _ | ⟨b, o, sp⟩
              · simp only [fo_indexAddr, hx, hi, hd]; rfl
              · simp only [onInt_eq]
                rcases w with _ | ⟨kd, n⟩ | _ | _ | _ | _ | _ | _ | _ | _ | _ | _ | _ | _ | _ <;> try (simp only [fo_indexAddr, hx, hi, hd]; rfl)
                simp only [onNat_eq]
                rcases n with n | n
                · simp only [fo_indexAddr, hx, hi, hd, hs, boolRec, Bool.cond_eq_ite]
                  by_cases hn : n < m
                  · rw [if_pos (by simpa [Nat.blt_eq] using hn), if_pos hn]; rfl
                  · rw [if_neg (by simpa [Nat.blt_eq] using hn), if_neg hn]; rfl
                · simp only [fo_indexAddr, hx, hi, hd]; rfl
    | array m elem =>
      simp only []
      cases hs : sizeAt E.P elem with
      | none =>
        refine ⟨_, rfl, fun tm H c k => ?_⟩
        simp only [fo_indexAddr, hd]
        split <;> (first | rfl | simp_all [badP, bindP])
      | some sz =>
        refine ⟨_, rfl, fun tm H c k => ?_⟩
        rw [cOpd_eq]
        cases hx : opd E tm x with
        | none => simp only [fo_indexAddr, hx]; rfl
        | some u =>
          show (cOpd E ix).1 tm _ = _
          rw [cOpd_eq]
          cases hi : opd E tm ix with
          | none => simp only [fo_indexAddr, hx, hi]; rcases u with _ | _ | _ | _ | _ | a | ⟨a, m, q⟩ | _ | _ | _ | _ | _ | _ | _ | _ <;> first | rfl | (rcases a with _ | ⟨b, o, _ | s⟩ <;> rfl)
          | some w =>
            simp only [bindV]
            rw [onAddr_eq]
            rcases u with _ | _ | _ | _ | _ | a | ⟨a, m', q⟩ | _ | _ | _ | _ | _ | _ | _ | _ <;> try (simp only [fo_indexAddr, hx, hi, hd]; rfl)
            · rcases a with _ | ⟨b, o, _ | s⟩ <;> try (simp only [fo_indexAddr, hx, hi, hd]; rfl)
              simp only [onInt_eq]
              rcases w with _ | ⟨kd, n⟩ | _ | _ | _ | _ | _ | _ | _ | _ | _ | _ | _ | _ | _ <;> try (simp only [fo_indexAddr, hx, hi, hd]; rfl)
              simp only [onNat_eq]
              rcases n with n | n
              · simp only [fo_indexAddr, hx, hi, hd, hs, boolRec, Bool.cond_eq_ite]
                by_cases hn : n < m
                · rw [if_pos (by simpa [Nat.blt_eq] using hn), if_pos hn]; rfl
                · rw [if_neg (by simpa [Nat.blt_eq] using hn), if_neg hn]; rfl
              · simp only [fo_indexAddr, hx, hi, hd]; rfl
    | _ =>
      refine ⟨_, rfl, fun tm H c k => ?_⟩
      simp only [fo_indexAddr, hd]
      split <;> (first | rfl | simp_all)

theorem cUn_ok (op : UnOp) (x : Operand) : PF (cUn E op x) fun tm H c => fo_unOp E tm H c op x := by
  have slow : ∀ tm H c k, (cOpd E x).1 tm (fun u => bindV (vUn E op u) k) = bindP (fo_unOp E tm H c op x) k := by
    intro tm H c k
    rw [cOpd_eq]; simp only [fo_unOp]
    cases opd E tm x with
    | none => rfl
    | some a =>
      show bindV (vUn E op a) k = _
      simp only [vUn]
      cases flat 3 a with
      | false => rfl
      | true =>
        cases pureRun E.P (Op.unary op a) with
        | none => rfl
        | some v =>
          simp only [if_true]
          cases flat 3 v <;> rfl
  cases op with
  | not =>
    refine ⟨_, rfl, fun tm H c k => ?_⟩
    rw [cOpd_eq]; simp only [fo_unOp]
    cases opd E tm x with
    | none => rfl
    | some a =>
      show onBool a _ _ = _
      rw [onBool_eq]
      cases a with
      | bool b => cases b <;> rfl
      | _ =>
        simp only [Op.unary, stuck, pureRun]
        split <;> rfl
  | _ => exact ⟨_, rfl, slow⟩

end Ce

namespace Ce
open Go

variable (E : Env)

theorem blt_lt {a b : Nat} (h : Nat.blt a b = true) : a < b := by simpa only [Nat.blt_eq] using h

theorem wrap_small (n : Nat) (h : n < 9223372036854775808) : IntKind.wrap .i64 (Int.ofNat n) = Int.ofNat n := by
  have e : (Int.ofNat n) % (2 ^ 64 : Int) = Int.ofNat n := Int.emod_eq_of_lt (Int.natCast_nonneg n) (by simp only [Int.ofNat_eq_natCast]; omega)
  simp only [IntKind.wrap, IntKind.bits, IntKind.signed, e]
  rw [if_neg]
  simp only [Bool.true_and, decide_eq_true_eq, Int.ofNat_eq_natCast]
  omega

theorem guard_int (op : BinOp) (t : TypeId) (x y : Operand) (a b : Int) (P : Program) (s : Sem Value) : pureRun P (do eqGuard op t x y (.int .i64 a) (.int .i64 b); s) = pureRun P s := by
  cases op <;> rfl

theorem vBin_int (op : BinOp) (t : TypeId) (x y : Operand) (a b : Int) : vBin E op t x y (.int .i64 a) (.int .i64 b) = match pureRun E.P (binOp op t (.int .i64 a) (.int .i64 b)) with | some v => if flat 3 v then some v else none | none => none := by
  unfold vBin
  rw [guard_int]; rfl

theorem fast_ok (op : BinOp) (t : TypeId) (x y : Operand) (a b : Nat) (k : Value → Rz) : ∀ g, fastBin op = some g →
    g a b k (bindV (vBin E op t x y (.int .i64 (.ofNat a)) (.int .i64 (.ofNat b))) k) = bindV (vBin E op t x y (.int .i64 (.ofNat a)) (.int .i64 (.ofNat b))) k := by
  intro g hg
  cases op <;> simp only [fastBin, Option.some.injEq, reduceCtorEq] at hg <;> subst hg
  · show (Bool.rec _ _ (Nat.blt (a + b) 9223372036854775808) : Rz) = _
    cases hb : Nat.blt (a + b) 9223372036854775808 with
    | false => rfl
    | true =>
      have h := blt_lt hb
      rw [vBin_int]
      have e : pureRun E.P (binOp .add t (.int .i64 (Int.ofNat a)) (.int .i64 (Int.ofNat b))) = some (.int .i64 (IntKind.wrap .i64 (Int.ofNat (a + b)))) := rfl
      rw [e, wrap_small _ h]; rfl
  · show (Bool.rec _ (Bool.rec _ _ (Nat.blt a 9223372036854775808)) (Nat.ble b a) : Rz) = _
    cases hb : Nat.ble b a with
    | false => rfl
    | true =>
      cases hc : Nat.blt a 9223372036854775808 with
      | false => rfl
      | true =>
        have h := blt_lt hc
        have h' := Nat.le_of_ble_eq_true hb
        rw [vBin_int]
        have e : pureRun E.P (binOp .sub t (.int .i64 (Int.ofNat a)) (.int .i64 (Int.ofNat b))) = some (.int .i64 (IntKind.wrap .i64 (Int.ofNat a - Int.ofNat b))) := rfl
        have e' : Int.ofNat a - Int.ofNat b = Int.ofNat (a - b) := by simp only [Int.ofNat_eq_natCast]; omega
        rw [e, e', wrap_small _ (by omega)]; rfl
  · show (Bool.rec _ _ (Nat.blt (a * b) 9223372036854775808) : Rz) = _
    cases hb : Nat.blt (a * b) 9223372036854775808 with
    | false => rfl
    | true =>
      have h := blt_lt hb
      rw [vBin_int]
      have e : pureRun E.P (binOp .mul t (.int .i64 (Int.ofNat a)) (.int .i64 (Int.ofNat b))) = some (.int .i64 (IntKind.wrap .i64 (Int.ofNat (a * b)))) := rfl
      rw [e, wrap_small _ h]; rfl
  · show (Bool.rec _ _ (Nat.beq b 0) : Rz) = _
    cases hb : Nat.beq b 0 with
    | true => rfl
    | false =>
      rw [vBin_int]
      have h0 : b ≠ 0 := by intro e; subst e; cases hb
      have e : pureRun E.P (binOp .rem t (.int .i64 (Int.ofNat a)) (.int .i64 (Int.ofNat b))) = some (.int .i64 (Int.ofNat (a % b))) := by
        show pureRun E.P (Op.intDiv .rem .i64 (Int.ofNat a) (Int.ofNat b)) = _
        unfold Op.intDiv
        rw [if_neg (by simp only [Int.ofNat_eq_natCast]; omega)]; rfl
      rw [e]; rfl
  · rw [vBin_int]
    have e : pureRun E.P (binOp .eql t (.int .i64 (Int.ofNat a)) (.int .i64 (Int.ofNat b))) = some (.bool (Int.ofNat a == Int.ofNat b)) := rfl
    have e' : (Int.ofNat a == Int.ofNat b) = Nat.beq a b := by
      rw [Bool.eq_iff_iff, beq_iff_eq, Nat.beq_eq]; exact ⟨fun h => Int.ofNat.inj h, fun h => congrArg _ h⟩
    rw [e, e']; rfl
  · rw [vBin_int]
    have e : pureRun E.P (binOp .neq t (.int .i64 (Int.ofNat a)) (.int .i64 (Int.ofNat b))) = some (.bool (!(Int.ofNat a == Int.ofNat b))) := rfl
    have e' : (Int.ofNat a == Int.ofNat b) = Nat.beq a b := by
      rw [Bool.eq_iff_iff, beq_iff_eq, Nat.beq_eq]; exact ⟨fun h => Int.ofNat.inj h, fun h => congrArg _ h⟩
    rw [e, e']
    show k (.bool (Bool.rec true false (Nat.beq a b))) = _
    cases Nat.beq a b <;> rfl
  · rw [vBin_int]
    have e : pureRun E.P (binOp .lss t (.int .i64 (Int.ofNat a)) (.int .i64 (Int.ofNat b))) = some (.bool (decide (Int.ofNat a < Int.ofNat b))) := rfl
    have e' : decide (Int.ofNat a < Int.ofNat b) = Nat.blt a b := by
      rw [Bool.eq_iff_iff, decide_eq_true_eq, Nat.blt_eq]; simp
    rw [e, e']; rfl
  · rw [vBin_int]
    have e : pureRun E.P (binOp .leq t (.int .i64 (Int.ofNat a)) (.int .i64 (Int.ofNat b))) = some (.bool (decide (Int.ofNat a ≤ Int.ofNat b))) := rfl
    have e' : decide (Int.ofNat a ≤ Int.ofNat b) = Nat.ble a b := by
      rw [Bool.eq_iff_iff, decide_eq_true_eq, Nat.ble_eq]; simp
    rw [e, e']; rfl
  · rw [vBin_int]
    have e : pureRun E.P (binOp .gtr t (.int .i64 (Int.ofNat a)) (.int .i64 (Int.ofNat b))) = some (.bool (decide (Int.ofNat a > Int.ofNat b))) := rfl
    have e' : decide (Int.ofNat a > Int.ofNat b) = Nat.blt b a := by
      rw [Bool.eq_iff_iff, decide_eq_true_eq, Nat.blt_eq]; simp
    rw [e, e']; rfl
  · rw [vBin_int]
    have e : pureRun E.P (binOp .geq t (.int .i64 (Int.ofNat a)) (.int .i64 (Int.ofNat b))) = some (.bool (decide (Int.ofNat a ≥ Int.ofNat b))) := rfl
    have e' : decide (Int.ofNat a ≥ Int.ofNat b) = Nat.ble b a := by
      rw [Bool.eq_iff_iff, decide_eq_true_eq, Nat.ble_eq]; simp
    rw [e, e']; rfl

theorem numBin_ok (op : BinOp) (t : TypeId) (x y : Operand) (u v : Value) (k : Value → Rz) : numBin op u v k (bindV (vBin E op t x y u v) k) = bindV (vBin E op t x y u v) k := by
  unfold numBin
  cases hg : fastBin op with
  | none => rfl
  | some g =>
    simp only [onInt_eq, onNat_eq, boolRec]
    cases u with
    | int kd a =>
      cases v with
      | int kd' b =>
        cases a with
        | ofNat a =>
          cases b with
          | ofNat b =>
            cases kd <;> cases kd' <;> first | rfl | exact fast_ok E op t x y a b k g hg
          | negSucc b => cases kd <;> cases kd' <;> rfl
        | negSucc a => cases kd <;> cases kd' <;> rfl
      | _ => rfl
    | _ => rfl

theorem cBin_ok (op : BinOp) (t : TypeId) (x y : Operand) : PF (cBin E op t x y) fun tm H c => fo_binOp E tm H c op t x y :=
  ⟨_, rfl, fun tm H c k => by
    rw [cOpd_eq]; simp only [fo_binOp]
    cases opd E tm x with
    | none => rfl
    | some u =>
      show (cOpd E y).1 tm _ = _
      rw [cOpd_eq]
      cases opd E tm y with
      | none => rfl
      | some v =>
        simp only [bindV]
        show numBin op u v k (bindV (vBin E op t x y u v) k) = _
        rw [numBin_ok]
        unfold vBin
        cases flat 3 u && flat 3 v with
        | true =>
          simp only [if_true]
          cases pureRun E.P (do eqGuard op t x y u v; binOp op t u v) with
          | none => rfl
          | some r =>
            simp only []
            cases flat 3 r <;> rfl
        | false =>
          show bindV (match op, E.P.underlying t with | .eql, some d => if nilApart d u v then some (.bool false) else none | .neq, some d => if nilApart d u v then some (.bool true) else none | _, _ => none) k = bindP (match op, E.P.underlying t with | .eql, some d => if nilApart d u v then some (.bool false, H, c) else none | .neq, some d => if nilApart d u v then some (.bool true, H, c) else none | _, _ => none) k
          cases op <;> cases E.P.underlying t <;> try rfl
          · rename_i d
            simp only []
            cases nilApart d u v <;> rfl
          · rename_i d
            simp only []
            cases nilApart d u v <;> rfl⟩

theorem adr_runZ (x : Operand) (tm : Tr Value) (g : Nat → Nat → Rs) (k : KV) (f : Nat → Nat → Rz) (h : ∀ r off, f r off = bindZ (g r off) k) :
    ((cOpd E x).1 tm fun u => onAddr u .bad f) = bindZ (adr (opd E tm x) g) k := by
  rw [cOpd_eq]
  cases opd E tm x with
  | none => rfl
  | some u =>
    show onAddr u .bad f = _
    rw [onAddr_eq]
    rcases u with _ | _ | _ | _ | _ | a | _ | _ | _ | _ | _ | _ | _ | _ | _ <;> try rfl
    rcases a with _ | ⟨b, o, _ | s⟩ <;> try rfl
    exact h b o

theorem fo_store_adr (tm : Tr Value) (H : Hp) (c : Nat) (t : TypeId) (x y : Operand) : fo_store E tm H c t x y = adr (opd E tm x) fun r off => match opd E tm y, sizeAt E.P t with
    | some v, some n =>
      if v.cells.size ≠ n then none else
      if n = 0 then some (undef, H, c) else
      match writeRow H r off v.cells.toList with
      | some H' => some (undef, H', c)
      | none => none
    | _, _ => none := by
  unfold fo_store
  cases opd E tm x with
  | none => rfl
  | some u =>
    rcases u with _ | _ | _ | _ | _ | a | _ | _ | _ | _ | _ | _ | _ | _ | _ <;> try rfl
    rcases a with _ | ⟨b, o, _ | s⟩ <;> try rfl
    cases opd E tm y <;> cases sizeAt E.P t <;> rfl

theorem cStore_ok (R : CallZ) (t : TypeId) (x y : Operand) : EF R (cStore E t x y) fun tm H c => fo_store E tm H c t x y := by
  unfold cStore
  split
  · rename_i hs
    refine ⟨_, rfl, fun tm H c k => ?_⟩
    rw [cOpd_eq]
    cases hy : opd E tm y with
    | none => simp only [fo_store_adr, hy, adr_none]; rfl
    | some v =>
      simp only [bindV]
      cases ho : oneC v with
      | false => cases v <;> first | rfl | cases ho
      | true =>
        have hc : v.cells = #[v] := by cases v <;> first | rfl | cases ho
        have hk : ∀ d q : Rz, onOne v d q = q := fun d q => by cases v <;> first | rfl | cases ho
        rw [hk, fo_store_adr]
        refine adr_runZ E x tm _ k _ fun r off => ?_
        show getK Rz.bad _ (pathN (r + 1) r) H = _
        rw [getK_path _ _ _ _ _ (Nat.lt_succ_self r)]
        simp only [hy, hs, hc, List.size_toArray, List.length_singleton, ne_eq, not_true_eq_false, if_false, Nat.one_ne_zero, writeRow]
        cases hr : H.get r with
        | none => rfl
        | some ob =>
          simp only [onOb_eq]
          cases ob with
          | row size cells fz ro elem =>
            cases ro with
            | true => rfl
            | false =>
              simp only [List.length_singleton, List.all_cons, ho, List.all_nil, Bool.and_true, nupdK_eq]
              show (Bool.rec Rz.bad (Bool.rec Rz.bad (setK Rz.bad _ (pathN (r + 1) r) H _) (Nat.ble fz off)) (Nat.ble (off + 1) size) : Rz) = _
              rw [setK_path _ _ _ _ _ _ (Nat.lt_succ_self r), hr]
              cases Nat.ble (off + 1) size <;> cases Nat.ble fz off <;> rfl
          | _ => rfl
  · exact ⟨_, rfl, fun tm H c k => rfl⟩

/-- An operation made ready is right. -/
def OK (R : CallZ) (R' : CallR) (o : Oper) : OpC → Prop
  | .pure f => (kind E.P o.op = 0 ∨ kind E.P o.op = 2) ∧ ∀ tm H c k, f tm H c k = bindP (evAny E R' o tm H c) k
  | .eff f => ∀ tm H c k, f R tm H c k = bindZ (evAny E R' o tm H c) k

variable {E}

theorem OK.ofP {R : CallZ} {R' : CallR} {o : Oper} {oc : OpC} {g : G3} (h : PF oc g) (hk : kind E.P o.op = 0 ∨ kind E.P o.op = 2) (hg : ∀ tm H c, evAny E R' o tm H c = g tm H c) : OK E R R' o oc := by
  obtain ⟨f, rfl, hf⟩ := h
  exact ⟨hk, fun tm H c k => by rw [hg]; exact hf tm H c k⟩

theorem OK.ofE {R : CallZ} {R' : CallR} {o : Oper} {oc : OpC} {g : G3} (h : EF R oc g) (hg : ∀ tm H c, evAny E R' o tm H c = g tm H c) : OK E R R' o oc := by
  obtain ⟨f, rfl, hf⟩ := h
  exact fun tm H c k => by rw [hg]; exact hf tm H c k

theorem OK.run {R : CallZ} {R' : CallR} {o : Oper} {oc : OpC} (h : OK E R R' o oc) (tm : Tr Value) (H : Hp) (c : Nat) (k : KV) : runC oc R tm H c k = bindZ (evAny E R' o tm H c) k := by
  cases oc with
  | eff f => exact h tm H c k
  | pure f =>
    obtain ⟨hk, hf⟩ := h
    show f tm H c (fun v => k v H c) = _
    rw [hf, any_op (by rcases hk with h | h <;> omega)]
    cases hr : evOp E o tm H c with
    | none => rfl
    | some r =>
      obtain ⟨v, H', c'⟩ := r
      obtain ⟨rfl, rfl⟩ := e_quiet hk hr
      rfl

/-- What calls do. -/
def CZ (R : CallZ) (R' : CallR) : Prop := ∀ f args H c k, R f args H c k = bindZ (R' f args H c) k

theorem cCall_ok {R : CallZ} {R' : CallR} (hR : CZ R R') {o : Oper} {k : Call} (ho : o.op = .call k) : OK E R R' o (cCall E k o.type) := by
  have hv : ∀ x, k.callee = .value x → ∀ tm H c, evAny E R' o tm H c = match target E tm k with | some (f, args) => callX E R' f args H c | none => none := fun x hx tm H c => by
    simp only [evAny, ho, hx]
    cases target E tm k <;> rfl
  have hb : (∀ x, k.callee ≠ .value x) → ∀ tm H c, evAny E R' o tm H c = fo_call E tm H c k o.type := fun hx tm H c => by
    rw [← fAny_eq]; unfold fAny; simp only [ho]
  unfold cCall
  cases hk : k.callee with
  | value x =>
    cases x with
    | func f =>
      cases hx : E.X f with
      | none =>
        simp only [hx]
        refine fun tm H c kk => ?_
        show (cOpds E k.args.toList).1 tm _ = _
        rw [cOpds_eq, hv _ hk]
        simp only [target, hk, opd]
        cases opds E tm k.args.toList with
        | none => rfl
        | some args =>
          simp only [List.nil_append, List.append_nil, List.toList_toArray, callX, hx]
          exact hR f args H c kk
      | some s =>
        simp only [hx]
        refine fun tm H c kk => ?_
        show (cOpds E k.args.toList).1 tm _ = _
        rw [cOpds_eq, hv _ hk]
        simp only [target, hk, opd]
        cases opds E tm k.args.toList with
        | none => rfl
        | some args =>
          simp only [List.nil_append, List.append_nil, List.toList_toArray, callX, hx]
    | _ =>
      refine fun tm H c kk => ?_
      rw [hv _ hk]
      show (match target E tm k with | some (f, args) => (match E.X f with | some s => bindZ (evFlat E s args H c) kk | none => R f args H c kk) | none => Rz.bad) = _
      cases target E tm k with
      | none => rfl
      | some r =>
        simp only [callX]
        cases E.X r.1 with
        | none => exact hR r.1 r.2 H c kk
        | some s => rfl
  | builtin b =>
    have hb := hb (by rw [hk]; intro x; exact nofun)
    cases b <;> try exact fun tm H c kk => by rw [hb]
    · have hkd : kind E.P o.op = 2 := by rw [ho]; rcases k with ⟨cal, as, ts⟩; simp only at hk; subst hk; rfl
      simp only []
      split
      · rename_i x ts hx ht
        refine ⟨.inr hkd, fun tm H c kk => ?_⟩
        rw [hb]
        show (cOpd E x).1 tm _ = _
        rw [cOpd_eq]
        cases hxo : opd E tm x with
        | none => simp only [fo_call, hk, hx, opds, hxo]; rfl
        | some u =>
          show onSlice u _ _ = _
          rw [onSlice_eq]
          cases u with
          | slice a n cap => simp only [fo_call, hk, hx, opds, hxo, ht]; rfl
          | _ => rfl
      · exact ⟨.inr hkd, fun tm H c kk => by rw [hb]⟩
    · have hkd : kind E.P o.op = 0 := by rw [ho]; rcases k with ⟨cal, as, ts⟩; simp only at hk; subst hk; rfl
      exact ⟨.inl hkd, fun tm H c kk => by rw [hb]⟩
    · have hkd : kind E.P o.op = 0 := by rw [ho]; rcases k with ⟨cal, as, ts⟩; simp only at hk; subst hk; rfl
      exact ⟨.inl hkd, fun tm H c kk => by rw [hb]⟩
  | _ => exact fun tm H c kk => by rw [hb (by rw [hk]; intro x; exact nofun)]

end Ce

namespace Ce
open Go

variable {E : Env}

theorem cOp_ok {R : CallZ} {R' : CallR} (hR : CZ R R') (o : Oper) : OK E R R' o (cOp E o) := by
  unfold cOp
  cases ho : o.op with
  | call k => exact cCall_ok hR ho
  | move x => exact OK.ofP (cMove_ok E x) (by rw [ho]; exact .inl rfl) fun tm H c => by rw [← fAny_eq]; simp only [fAny, fOp, ho]
  | assign x => exact OK.ofP (cMove_ok E x) (by rw [ho]; exact .inl rfl) fun tm H c => by rw [← fAny_eq]; simp only [fAny, fOp, ho]
  | pick q x y => exact OK.ofP (cPick_ok E q x y) (by rw [ho]; exact .inl rfl) fun tm H c => by rw [← fAny_eq]; simp only [fAny, fOp, ho]
  | load t x => exact OK.ofP (cLoad_ok E t x) (by rw [ho]; exact .inr rfl) fun tm H c => by rw [← fAny_eq]; simp only [fAny, fOp, ho]
  | store t x y => exact OK.ofE (cStore_ok E R t x y) fun tm H c => by rw [← fAny_eq]; simp only [fAny, fOp, ho]
  | binOp op t x y q => exact OK.ofP (cBin_ok E op t x y) (by rw [ho]; exact .inl rfl) fun tm H c => by rw [← fAny_eq]; simp only [fAny, fOp, ho]
  | unOp op t x => exact OK.ofP (cUn_ok E op x) (by rw [ho]; exact .inl rfl) fun tm H c => by rw [← fAny_eq]; simp only [fAny, fOp, ho]
  | fieldAddr s x f => exact OK.ofP (cFieldAddr_ok E s x f) (by rw [ho]; exact .inl rfl) fun tm H c => by rw [← fAny_eq]; simp only [fAny, fOp, ho]
  | indexAddr t x ix => exact OK.ofP (cIndexAddr_ok E t x ix) (by rw [ho]; exact .inl rfl) fun tm H c => by rw [← fAny_eq]; simp only [fAny, fOp, ho]
  | extract x i => exact OK.ofP (cExtract_ok E x i) (by rw [ho]; exact .inl rfl) fun tm H c => by rw [← fAny_eq]; simp only [fAny, fOp, ho]
  | nilCheck x => exact OK.ofP (cNil_ok E x) (by rw [ho]; exact .inl rfl) fun tm H c => by rw [← fAny_eq]; simp only [fAny, fOp, ho]
  | alloc elem => exact OK.ofE (cAlloc_ok E R elem) fun tm H c => by rw [← fAny_eq]; simp only [fAny, fOp, ho]
  | box elem x => exact OK.ofE (cBox_ok E R elem x) fun tm H c => by rw [← fAny_eq]; simp only [fAny, fOp, ho]
  | build t parts => exact OK.ofP ⟨_, rfl, fun _ _ _ _ => rfl⟩ (by rw [ho]; exact .inl rfl) fun tm H c => by rw [← fAny_eq]; simp only [fAny, fOp, ho]
  | field t x f => exact OK.ofP ⟨_, rfl, fun _ _ _ _ => rfl⟩ (by rw [ho]; exact .inl rfl) fun tm H c => by rw [← fAny_eq]; simp only [fAny, fOp, ho]
  | index t x ix => exact OK.ofP ⟨_, rfl, fun _ _ _ _ => rfl⟩ (by rw [ho]; exact .inl rfl) fun tm H c => by rw [← fAny_eq]; simp only [fAny, fOp, ho]
  | lookup t x ix ok => exact OK.ofP ⟨_, rfl, fun _ _ _ _ => rfl⟩ (by rw [ho]; exact .inr rfl) fun tm H c => by rw [← fAny_eq]; simp only [fAny, fOp, ho]
  | slice t x lo hi mx => exact OK.ofP ⟨_, rfl, fun _ _ _ _ => rfl⟩ (by rw [ho]; exact .inl rfl) fun tm H c => by rw [← fAny_eq]; simp only [fAny, fOp, ho]
  | makeFunc fn first captured => exact OK.ofP ⟨_, rfl, fun _ _ _ _ => rfl⟩ (by rw [ho]; exact .inl rfl) fun tm H c => by rw [← fAny_eq]; simp only [fAny, fOp, ho]
  | makeInterface t x => exact OK.ofP ⟨_, rfl, fun _ _ _ _ => rfl⟩ (by rw [ho]; exact .inl rfl) fun tm H c => by rw [← fAny_eq]; simp only [fAny, fOp, ho]
  | buildSlice t len parts => exact OK.ofE ⟨_, rfl, fun _ _ _ _ => rfl⟩ fun tm H c => by rw [← fAny_eq]; simp only [fAny, fOp, ho]
  | convert src dst x => exact OK.ofE ⟨_, rfl, fun _ _ _ _ => rfl⟩ fun tm H c => by rw [← fAny_eq]; simp only [fAny, fOp, ho]
  | makeMap t r => exact OK.ofE ⟨_, rfl, fun _ _ _ _ => rfl⟩ fun tm H c => by rw [← fAny_eq]; simp only [fAny, fOp, ho]
  | makeSlice t l m => exact OK.ofE ⟨_, rfl, fun _ _ _ _ => rfl⟩ fun tm H c => by rw [← fAny_eq]; simp only [fAny, fOp, ho]
  | mapUpdate t m key x => exact OK.ofE ⟨_, rfl, fun _ _ _ _ => rfl⟩ fun tm H c => by rw [← fAny_eq]; simp only [fAny, fOp, ho]
  | insert t m key x => exact OK.ofE ⟨_, rfl, fun _ _ _ _ => rfl⟩ fun tm H c => by rw [← fAny_eq]; simp only [fAny, fOp, ho]
  | range t x => exact OK.ofE ⟨_, rfl, fun _ _ _ _ => rfl⟩ fun tm H c => by rw [← fAny_eq]; simp only [fAny, fOp, ho]
  | next it isStr => exact OK.ofE ⟨_, rfl, fun _ _ _ _ => rfl⟩ fun tm H c => by rw [← fAny_eq]; simp only [fAny, fOp, ho]
  | _ => exact OK.ofE (g := fun _ _ _ => none) ⟨_, rfl, fun _ _ _ _ => rfl⟩ fun tm H c => by rw [← fAny_eq]; simp only [fAny, fOp, ho]

theorem cPut_eq (dst : Option Tmp) (tm : Tr Value) (v : Value) (k : Tr Value → Rz) : (cPut dst).1 tm v k = match putD tm dst v with | some tm' => k tm' | none => .bad := by
  cases dst with
  | none => rfl
  | some d =>
    show (rset d).1 tm v k = _
    rw [rset_eq]
    simp only [putD]
    cases tm.get d <;> rfl

theorem cGo_eq (ops : Array Oper) (o : Oper) (tm : Tr Value) (k : Bool → Rz) : (cGo ops o.guard).1 tm k = match goes ops tm o with | some b => k b | none => .bad := by
  unfold goes
  cases o.guard with
  | none => rfl
  | some g =>
    obtain ⟨j, want⟩ := g
    simp only [cGo]
    cases (ops[j]?).bind (·.dst) with
    | none => rfl
    | some t =>
      show (rget t).1 tm _ = _
      rw [rget_eq]
      simp only []
      cases tm.get t with
      | none => rfl
      | some u =>
        show onBool u _ _ = _
        rw [onBool_eq]
        cases u with
        | bool b => cases b <;> cases want <;> rfl
        | tuple vs =>
          show onTuple (.tuple vs) _ _ = _
          rw [onTuple_eq]
          simp only []
          show (Bool.rec Rz.bad (k false) (Nat.beq vs.size 0) : Rz) = _
          cases Nat.beq vs.size 0 <;> rfl
        | _ => rfl

theorem cStep_eq {R : CallZ} {R' : CallR} {o : Oper} {oc : OpC} (h : OK E R R' o oc) (dst : Option Tmp) (next : Bx SeqZ) (tm : Tr Value) (H : Hp) (c : Nat) (k : Tr Value → Hp → Nat → Rz) :
    (cStep dst next oc).1 R tm H c k = match evAny E R' o tm H c with
      | some (v, H', c') => (match putD tm dst v, Nat.ble c c' with
        | some tm', true => next.1 R tm' H' c' k
        | _, _ => .bad)
      | none => .bad := by
  cases oc with
  | eff f =>
    show f R tm H c _ = _
    rw [h]
    cases evAny E R' o tm H c with
    | none => rfl
    | some r =>
      obtain ⟨v, H', c'⟩ := r
      show (Bool.rec Rz.bad ((cPut dst).1 tm v _) (Nat.ble c c') : Rz) = _
      rw [cPut_eq]
      simp only []
      cases putD tm dst v <;> cases Nat.ble c c' <;> rfl
  | pure f =>
    obtain ⟨hk, hf⟩ := h
    show f tm H c _ = _
    rw [hf, any_op (by rcases hk with h | h <;> omega)]
    cases hr : evOp E o tm H c with
    | none => rfl
    | some r =>
      obtain ⟨v, H', c'⟩ := r
      obtain ⟨rfl, rfl⟩ := e_quiet hk hr
      show (cPut dst).1 tm v _ = _
      rw [cPut_eq]
      have hc : Nat.ble c' c' = true := by rw [Nat.ble_eq]; exact Nat.le_refl _
      simp only [hc]
      cases putD tm dst v <;> rfl

theorem cSeq_eq {R : CallZ} {R' : CallR} (hR : CZ R R') (ops : Array Oper) : ∀ (l : List Oper) (i : Nat) (rs : List Rec) (tm : Tr Value) (H : Hp) (c : Nat) (k : Tr Value → Hp → Nat → Rz),
    (cSeq E ops l).1 R tm H c k = match evOps E R' ops l i tm H c rs with
      | some (tm', H', c', _) => k tm' H' c'
      | none => .bad := by
  intro l
  induction l with
  | nil => intro i rs tm H c k; rfl
  | cons o l ih =>
    intro i rs tm H c k
    have step : ∀ (tm : Tr Value) (H : Hp) (c : Nat) (k : Tr Value → Hp → Nat → Rz), (cStep o.dst (cSeq E ops l) (cOp E o)).1 R tm H c k = match (match evAny E R' o tm H c with
      | some (v, H', c') => match putD tm o.dst v, Nat.ble c c' with
        | some tm', true => evOps E R' ops l (i + 1) tm' H' c' (⟨i, o, tm, H, c, true, v⟩ :: rs)
        | _, _ => none
      | none => none) with
      | some (tm', H', c', _) => k tm' H' c'
      | none => .bad := by
      intro tm H c k
      rw [cStep_eq (cOp_ok hR o)]
      cases evAny E R' o tm H c with
      | none => rfl
      | some r =>
        obtain ⟨v, H', c'⟩ := r
        simp only []
        cases putD tm o.dst v with
        | none => rfl
        | some tm' =>
          cases Nat.ble c c' with
          | false => rfl
          | true => exact ih (i + 1) _ tm' H' c' k
    simp only [cSeq, evOps]
    cases hg : o.guard with
    | none =>
      have hgo : goes ops tm o = some true := by simp only [goes, hg]
      simp only [hgo]
      exact step tm H c k
    | some g =>
      simp only []
      have e := cGo_eq ops o tm
      rw [hg] at e
      rw [e]
      cases goes ops tm o with
      | none => rfl
      | some b =>
        cases b with
        | true => exact step tm H c k
        | false =>
          show (cPut o.dst).1 tm undef _ = _
          rw [cPut_eq]
          simp only []
          cases putD tm o.dst undef with
          | none => rfl
          | some tm' => exact ih (i + 1) _ tm' H c k

theorem cSeqD_eq {R : CallZ} {R' : CallR} (hR : CZ R R') (ops : Array Oper) : ∀ (l : List Oper) (i : Nat) (rs : List Rec) (tm : Tr Value) (H : Hp) (c : Nat) (k : Tr Value → Hp → Nat → List Rec → Rz),
    (cSeqD E ops l i).1 R tm H c rs k = match evOps E R' ops l i tm H c rs with
      | some (tm', H', c', rs') => k tm' H' c' rs'
      | none => .bad := by
  intro l
  induction l with
  | nil => intro i rs tm H c k; rfl
  | cons o l ih =>
    intro i rs tm H c k
    simp only [cSeqD, evOps]
    rw [cGo_eq]
    cases goes ops tm o with
    | none => rfl
    | some b =>
      cases b with
      | false =>
        show (cPut o.dst).1 tm undef _ = _
        rw [cPut_eq]
        simp only []
        cases putD tm o.dst undef with
        | none => rfl
        | some tm' => exact ih (i + 1) _ tm' H c k
      | true =>
        show runC (cOp E o) R tm H c _ = _
        rw [(cOp_ok hR o).run]
        cases evAny E R' o tm H c with
        | none => rfl
        | some r =>
          obtain ⟨v, H', c'⟩ := r
          simp only [bindZ]
          show (Bool.rec Rz.bad ((cPut o.dst).1 tm v _) (Nat.ble c c') : Rz) = _
          rw [cPut_eq]
          cases putD tm o.dst v with
          | none => cases Nat.ble c c' <;> rfl
          | some tm' =>
            cases Nat.ble c c' with
            | false => rfl
            | true => exact ih (i + 1) _ tm' H' c' k

theorem heapZ_eq (Hn : Hp) (p : Nat) : ∀ rs, heapZ Hn p rs = heapAt rs Hn p := by
  intro rs
  induction rs with
  | nil => rfl
  | cons r l ih =>
    show (Bool.rec (heapZ Hn p l) r.H (Nat.beq r.i p) : Hp) = _
    rw [ih]
    simp only [heapAt]
    cases Nat.beq r.i p <;> rfl

theorem sameZ_eq (u v : Value) : sameZ u v = same 3 u v := by
  unfold sameZ
  simp only [onInt_eq, onPtr_eq, onNat_eq, boolRec]
  cases u with
  | int j a =>
    cases v with
    | int k b =>
      cases j <;> try rfl
      cases k <;> try rfl
      simp only [isI64, cond_true]
      cases a <;> cases b <;> try rfl
      rename_i a b
      simp only [same]
      rw [Bool.eq_iff_iff, Nat.beq_eq]
      simp only [decide_true, Bool.true_and, decide_eq_true_eq]
      exact ⟨fun h => congrArg _ h, fun h => Int.ofNat.inj h⟩
    | _ => rfl
  | pointer a =>
    cases v with
    | pointer b =>
      rcases a with _ | ⟨x, y, _ | s⟩ <;> rcases b with _ | ⟨x', y', _ | s'⟩ <;> try rfl
      simp only [same]
      by_cases hx : x = x'
      · subst hx
        by_cases hy : y = y'
        · subst hy; simp
        · have : Nat.beq y y' = false := by rw [Bool.eq_false_iff]; intro e; exact hy (Nat.eq_of_beq_eq_true e)
          simp [this, hy]
      · have : Nat.beq x x' = false := by rw [Bool.eq_false_iff]; intro e; exact hx (Nat.eq_of_beq_eq_true e)
        simp [this, hx]
    | _ => rfl
  | _ => rfl

theorem noCalls : CZ (fun _ _ _ _ _ => .bad) (fun _ _ _ _ => none) := fun _ _ _ _ _ => rfl

def lookAt (E : Env) (o : Oper) (tm : Tr Value) (c : Nat) (v : Value) (all : List Rec) (Hn : Hp) (p : Nat) : Bool :=
  match evOp E o tm (heapAt all Hn p) c with
  | some (u, _, _) => same 3 u v
  | none => false

theorem looksAt_eq {o : Oper} (hk : kind E.P o.op = 2) (tm : Tr Value) (c : Nat) (v : Value) (all : List Rec) (Hn : Hp) (k : Rz) : ∀ ps, looksAt E o tm c v all Hn ps k = cond (ps.all (lookAt E o tm c v all Hn)) k .bad := by
  intro ps
  induction ps with
  | nil => rfl
  | cons p ps ih =>
    show runC (cOp E o) (fun _ _ _ _ _ => .bad) tm (heapZ Hn p all) c (fun u _ _ => Bool.rec .bad (looksAt E o tm c v all Hn ps k) (sameZ u v)) = _
    rw [(cOp_ok noCalls o).run, heapZ_eq, any_op (by omega), ih]
    simp only [List.all_cons, lookAt]
    cases evOp E o tm (heapAt all Hn p) c with
    | none => rfl
    | some r =>
      obtain ⟨u, H', c'⟩ := r
      simp only [bindZ, sameZ_eq, boolRec]
      cases same 3 u v <;> rfl

theorem looksZ_eq (ops : Array Oper) (all : List Rec) (Hn : Hp) (k : Rz) : ∀ rs, looksZ E ops all Hn k rs = cond (rs.all fun r => !(r.done && Nat.beq (kind E.P r.o.op) 2) ||
    (effects E.P ops.toList 0 ++ [ops.size]).all fun p => !possible (befs ops.toList []) (effects E.P ops.toList 0) r.i p ||
      match evOp E r.o r.tm (heapAt all Hn p) r.c with
      | some (v, _, _) => same 3 v r.v
      | none => false) k .bad := by
  intro rs
  induction rs with
  | nil => rfl
  | cons r rs ih =>
    obtain ⟨i, o, tm, H, c, done, v⟩ := r
    show (Bool.rec (looksZ E ops all Hn k rs) (Bool.rec (looksZ E ops all Hn k rs) (looksAt E o tm c v all Hn (placesOf E.P ops i) (looksZ E ops all Hn k rs)) (Nat.beq (kind E.P o.op) 2)) done : Rz) = _
    simp only [List.all_cons]
    cases done with
    | false => exact ih
    | true =>
      cases hk : Nat.beq (kind E.P o.op) 2 with
      | false => exact ih
      | true =>
        show looksAt E o tm c v all Hn (placesOf E.P ops i) (looksZ E ops all Hn k rs) = _
        rw [looksAt_eq (Nat.eq_of_beq_eq_true hk), ih]
        simp only [placesOf, List.all_filter, Bool.true_and, Bool.not_true, Bool.false_or]
        have e : ((effects E.P ops.toList 0 ++ [ops.size]).all fun p => (!possible (befs ops.toList []) (effects E.P ops.toList 0) i p) || lookAt E o tm c v all Hn p) = ((effects E.P ops.toList 0 ++ [ops.size]).all fun p => !possible (befs ops.toList []) (effects E.P ops.toList 0) i p ||
            match evOp E o tm (heapAt all Hn p) c with
            | some (u, _, _) => same 3 u v
            | none => false) := rfl
        rw [e]
        generalize ((effects E.P ops.toList 0 ++ [ops.size]).all fun p => !possible (befs ops.toList []) (effects E.P ops.toList 0) i p ||
            match evOp E o tm (heapAt all Hn p) c with
            | some (u, _, _) => same 3 u v
            | none => false) = q
        cases q <;> rfl

def toZ : Rx → Rz
  | some (.normal, tm, H, c) => .norm tm H c
  | some (.exit id, tm, H, c) => .exit id tm H c
  | some (.ret, tm, H, c) => .ret tm H c
  | some (.goto l, tm, H, c) => .goto l tm H c
  | none => .bad

theorem loopZ_eq {body : Tr Value → Hp → Nat → Rz} {body' : Tr Value → Hp → Nat → Rx} (h : ∀ tm H c, body tm H c = toZ (body' tm H c)) : ∀ lf tm H c, loopZ body lf tm H c = toZ (loopP body' lf tm H c) := by
  intro lf
  induction lf with
  | zero => exact h
  | succ n ih =>
    intro tm H c
    show (loopZ body n tm H c).seq (loopZ body n) = _
    rw [ih]
    simp only [loopP]
    rcases loopP body' n tm H c with _ | ⟨x, tm', H', c'⟩
    · rfl
    · cases x with
      | normal => exact ih tm' H' c'
      | _ => rfl

theorem jumpZ_eq (l : Nat) {body : Tr Value → Hp → Nat → Rz} {body' : Tr Value → Hp → Nat → Rx} (h : ∀ tm H c, body tm H c = toZ (body' tm H c)) : ∀ lf tm H c, jumpZ l body lf tm H c = toZ (jumpP l body' lf tm H c) := by
  intro lf
  induction lf with
  | zero => exact h
  | succ n ih =>
    intro tm H c
    show (jumpZ l body n tm H c).onGoto _ = _
    rw [ih]
    simp only [jumpP]
    rcases jumpP l body' n tm H c with _ | ⟨x, tm', H', c'⟩
    · rfl
    · cases x with
      | goto l' =>
        show (Bool.rec Rz.bad (jumpZ l body n tm' H' c') (Nat.beq l' l) : Rz) = _
        rw [ih]
        simp only []
        cases Nat.beq l' l <;> rfl
      | _ => rfl

theorem region_eq {R : CallZ} {R' : CallR} (hR : CZ R R') (ops : Array Oper) (draw : Bool) (tm : Tr Value) (H : Hp) (c : Nat) :
    (cond draw
        (⟨fun R tm H c => (cSeqD E ops ops.toList 0).1 R tm H c [] fun tm' H' c' rs => Bool.rec .bad (looksZ E ops rs H' (.norm tm' H' c') rs) (planOK E.P ops)⟩ : Bx RunZ)
        ⟨fun R tm H c => (cSeq E ops ops.toList).1 R tm H c Rz.norm⟩).1 R tm H c = toZ (match evRegion E R' ops draw tm H c with
      | some (tm', H', c') => some (.normal, tm', H', c')
      | none => none) := by
  cases draw with
  | false =>
    show (cSeq E ops ops.toList).1 R tm H c Rz.norm = _
    rw [cSeq_eq hR ops ops.toList 0 []]
    simp only [evRegion]
    rcases evOps E R' ops ops.toList 0 tm H c [] with _ | ⟨tm', H', c', rs⟩ <;> rfl
  | true =>
    show (cSeqD E ops ops.toList 0).1 R tm H c [] _ = _
    rw [cSeqD_eq hR]
    simp only [evRegion]
    rcases evOps E R' ops ops.toList 0 tm H c [] with _ | ⟨tm', H', c', rs⟩
    · rfl
    · simp only [looksZ_eq, boolRec, cond_true]
      have e : looksOK E ops rs H' = (rs.all fun r => !(r.done && Nat.beq (kind E.P r.o.op) 2) ||
    (effects E.P ops.toList 0 ++ [ops.size]).all fun p => !possible (befs ops.toList []) (effects E.P ops.toList 0) r.i p ||
      match evOp E r.o r.tm (heapAt rs H' p) r.c with
      | some (v, _, _) => same 3 v r.v
      | none => false) := rfl
      rw [← e]
      cases planOK E.P ops <;> cases looksOK E ops rs H' <;> rfl

theorem cCode_eq {R : CallZ} {R' : CallR} (hR : CZ R R') (lf : Nat) : ∀ n code tm H c, (cCode E lf n code).1 R tm H c = toZ (evCode E R' lf n code tm H c) := by
  intro n
  induction n with
  | zero => intro code tm H c; rfl
  | succ n ih =>
    intro code tm H c
    cases code with
    | region a ops draw =>
      simp only [cCode, evCode]
      exact region_eq hR ops draw tm H c
    | seq x y =>
      show ((cCode E lf n x).1 R tm H c).seq _ = _
      rw [ih]
      simp only [evCode]
      rcases evCode E R' lf n x tm H c with _ | ⟨q, tm', H', c'⟩
      · rfl
      · cases q with
        | normal => exact ih y tm' H' c'
        | _ => rfl
    | cond q x y =>
      show (cOpd E q).1 tm _ = _
      rw [cOpd_eq]
      simp only [evCode]
      cases opd E tm q with
      | none => rfl
      | some u =>
        show onBool u _ _ = _
        rw [onBool_eq]
        cases u with
        | bool b =>
          cases b with
          | true => exact ih x tm H c
          | false => exact ih y tm H c
        | _ => rfl
    | block id x =>
      show ((cCode E lf n x).1 R tm H c).blk id = _
      rw [ih]
      simp only [evCode]
      rcases evCode E R' lf n x tm H c with _ | ⟨q, tm', H', c'⟩
      · rfl
      · cases q with
        | exit j =>
          show (Bool.rec (Rz.exit j tm' H' c') (Rz.norm tm' H' c') (Nat.beq j id) : Rz) = _
          simp only []
          cases Nat.beq j id <;> rfl
        | _ => rfl
    | loop x =>
      show (loopZ ((cCode E lf n x).1 R) lf tm H c).unNorm = _
      rw [loopZ_eq (ih x)]
      simp only [evCode]
      rcases loopP (evCode E R' lf n x) lf tm H c with _ | ⟨q, tm', H', c'⟩
      · rfl
      · cases q <;> rfl
    | scope x =>
      show ((cCode E lf n x).1 R tm H c).onGoto _ = _
      rw [ih]
      simp only [evCode]
      rcases evCode E R' lf n x tm H c with _ | ⟨q, tm', H', c'⟩
      · rfl
      · cases q with
        | goto l =>
          show (match findLabel x l with
            | some rest => (jumpZ l ((cCode E lf n rest).1 R) lf tm' H' c').onGoto fun _ _ _ _ => .bad
            | none => .goto l tm' H' c' : Rz) = _
          simp only []
          cases findLabel x l with
          | none => rfl
          | some rest =>
            simp only []
            rw [jumpZ_eq l (ih rest)]
            rcases jumpP l (evCode E R' lf n rest) lf tm' H' c' with _ | ⟨q, tm'', H'', c''⟩
            · rfl
            · cases q <;> rfl
        | _ => rfl
    | _ => rfl

theorem cRes_eq (rs : List ResultVar) (tm : Tr Value) (H : Hp) (c : Nat) (k : KV) : (cRes E rs).1 tm H c k = match evResults E tm H rs with
      | some [v] => k v H c
      | some vs => k (.tuple vs.toArray) H c
      | none => .bad := by
  unfold cRes
  split
  · rename_i t
    show (rget t).1 tm _ = _
    rw [rget_eq]
    simp only [evResults]
    cases tm.get t <;> rfl
  · rfl

theorem rep_len (a n : Nat) : (Bool.rec (Tr.rep undef 64 (a + (n - a))) (Tr.rep undef 64 n) (Nat.ble a n) : Tr Value) = Tr.rep undef 64 (a + (n - a)) := by
  cases h : Nat.ble a n with
  | false => rfl
  | true =>
    have := Nat.le_of_ble_eq_true h
    show Tr.rep undef 64 n = _
    congr 1
    omega

/-- THE FAST FORM IS THE PLAIN ONE. -/
theorem fZ_eq (E : Env) (lf : Nat) : ∀ n, CZ (fZ E lf n) (evF E lf n) := by
  intro n
  induction n with
  | zero => intro f args H c k; rfl
  | succ n ih =>
    intro f args H c k
    show (cFn E lf f).1 (fZ E lf n) args H c k = _
    unfold cFn
    simp only [evF]
    cases E.M f with
    | some p => rfl
    | none =>
    simp only []
    cases E.F f with
    | none => rfl
    | some fn =>
      simp only []
      cases fn.body with
      | none => rfl
      | some code =>
        show nupdLK args _ 0 _ = _
        rw [nupdLK_eq, rep_len, cCode_eq ih]
        simp only []
        rcases evCode E (evF E lf n) lf 1000 code (Tr.updL (Tr.rep undef 64 (args.length + (fn.ntmps - args.length))) 0 args) H c with _ | ⟨q, tm', H', c'⟩
        · rfl
        · cases q with
          | exit id => rfl
          | goto l => rfl
          | normal =>
            show (cRes E fn.results.toList).1 tm' H' c' k = _
            rw [cRes_eq]
            simp only []
            rcases evResults E tm' H' fn.results.toList with _ | vs
            · rfl
            · rcases vs with _ | ⟨v, _ | ⟨u, l⟩⟩ <;> rfl
          | ret =>
            show (cRes E fn.results.toList).1 tm' H' c' k = _
            rw [cRes_eq]
            simp only []
            rcases evResults E tm' H' fn.results.toList with _ | vs
            · rfl
            · rcases vs with _ | ⟨v, _ | ⟨u, l⟩⟩ <;> rfl

/-- What the fast form says is what was reckoned. -/
theorem fZ_out (E : Env) (lf n : Nat) {f : FuncId} {args : List Value} {H : Hp} {c : Nat} {v : Value} {H' : Hp} {c' : Nat} (h : fZ E lf n f args H c Rz.out = .out v H' c') : evF E lf n f args H c = some (v, H', c') := by
  rw [fZ_eq] at h
  cases hr : evF E lf n f args H c with
  | none => rw [hr] at h; cases h
  | some r => rw [hr] at h; obtain ⟨a, b, d⟩ := r; simp only [bindZ, Rz.out.injEq] at h; obtain ⟨rfl, rfl, rfl⟩ := h; rfl

end Ce

namespace Ce
open Go Go.RowKit

/-- A package-level variable of plain cells that is read alone. -/
def gRow (l : List Value) (t : TypeId) : Ob := .row l.length (Tr.updL (Tr.rep undef 64 l.length) 0 l) l.length true (2 * t + 1)

theorem gRow_get (l : List Value) (i : Nat) (v : Value) (h : (Tr.updL (Tr.rep undef 64 l.length) 0 l).get i = some v) : l[i]? = some v := by
  rcases Tr.get_updL _ _ _ _ _ h with ⟨k, rfl, hk⟩ | ⟨hk, hg⟩
  · simpa using hk
  · obtain ⟨_, hlt⟩ := Tr.get_rep _ _ _ _ _ hg
    exact (hk i (by omega) (by omega)).elim

theorem closed_call {E : Env} (hE : EnvOK E) (gs : Nat → Option (List Value × TypeId)) {H : Hp} {c : Nat} (hlk : ∀ r, lk H r = match gs r with | some (l, t) => gRow l t | none => .dead)
    (hG : ∀ g, E.G g = true → ∃ x, gs g = some x) (hflat : ∀ r l t, gs r = some (l, t) → l.all (flat 3) = true) (hc : ∀ r, c ≤ r → gs r = none) {w : World}
    (hw : ∀ r l t, gs r = some (l, t) → ∃ fr, w.heap[r]? = some (.cells l.toArray t fr)) {lf n : Nat} {f : FuncId} {args : List Value} (ha : args.all (flat 3) = true) {v : Value} {H' : Hp} {c' : Nat} (hv : flat 3 v = true)
    (hev : evF E lf n f args H c = some (v, H', c')) : Calls E.P f args.toArray w fun e w' => e = .returned v ∧ Below w.heap.size w w' := by
  obtain ⟨_, hcall⟩ := call_sound hE lf n f args H c v H' c' hev
  have hrow : ∀ r p, (gs r).map (fun x => (⟨r, 0, x.1.length⟩ : Pl)) = some p → ∃ l t, gs r = some (l, t) ∧ p = ⟨r, 0, l.length⟩ := by
    intro r p h
    cases hg : gs r with
    | none => rw [hg] at h; cases h
    | some x =>
      rw [hg] at h
      simp only [Option.map_some, Option.some.injEq] at h
      exact ⟨x.1, x.2, rfl, h.symm⟩
  have hgr : GR E fun r => (gs r).map fun x => ⟨r, 0, x.1.length⟩ := by
    intro g hg
    obtain ⟨x, hx⟩ := hG g hg
    exact ⟨_, by simp [hx]; rfl, rfl, rfl⟩
  have hrel : Rel (fun r => (gs r).map fun x => ⟨r, 0, x.1.length⟩) H w := by
    refine ⟨fun r p h => ?_, fun r s p q _ _ h1 h2 hne => ?_, fun r p h => ?_⟩
    · obtain ⟨l, t, hg, rfl⟩ := hrow r p h
      obtain ⟨fr, hh⟩ := hw r l t hg
      rw [hlk, hg]
      refine ⟨l.toArray, fr, by rw [el1]; exact hh, by simp, by simp, fun i v hi => ?_, fun k hk _ _ => by simpa using hk, fun _ => ⟨rfl, by simp⟩⟩
      have hm := gRow_get l i v hi
      refine ⟨v, by simpa using hm, .flat 3 ?_⟩
      exact List.all_eq_true.1 (hflat r l t hg) v (List.mem_of_getElem? hm)
    · obtain ⟨_, _, _, rfl⟩ := hrow r p h1
      obtain ⟨_, _, _, rfl⟩ := hrow s q h2
      exact hne
    · obtain ⟨l, t, hg, rfl⟩ := hrow r p h
      obtain ⟨fr, hh⟩ := hw r l t hg
      exact (Array.getElem?_eq_some_iff.1 hh).1
  have htop : Top H c := fun s hs => by rw [hlk, hc s hs]
  refine (hcall _ w args.toArray hgr htop hrel (VL.flat 3 ha) fun r h1 _ => by simp [hc r h1]).mono ?_
  rintro e w' ⟨cv, ρ', rfl, hval, _, hfr⟩
  refine ⟨by rw [hval.of_flat 3 hv], hfr.os, hfr.tape, hfr.output, hfr.size, fun k hk => hfr.keep k hk fun r p hwr h => ?_⟩
  rw [hlk] at hwr
  cases hg : gs r with
  | none => rw [hg] at hwr; cases hwr
  | some x => rw [hg] at hwr; cases hwr

/-- A table of functions. -/
def tabOf : List Func → Nat → Tr Func → Tr Func
  | [], _, t => t
  | f :: l, i, t => tabOf l (i + 1) (t.put f default 64 i)

theorem put_get {α : Type} (x d : α) : ∀ (k : Nat) (t : Tr α) (i j : Nat) (v : α), (Tr.put x d k t i).get j = some v → (j = i ∧ v = x) ∨ t.get j = some v ∨ v = d := by
  intro k
  induction k with
  | zero => intro t i j v h; exact .inr (.inl h)
  | succ k ih =>
    intro t i j v h
    cases t with
    | nil =>
      simp only [Tr.put, Bool.cond_eq_ite, Nat.beq_eq, Tr.modE, Tr.divE, Nat.sub_eq] at h
      by_cases hi : i = 0
      · simp only [hi, if_true, Tr.get, Bool.cond_eq_ite, Nat.beq_eq, Tr.modE, Tr.divE, Nat.sub_eq] at h
        by_cases hj : j = 0
        · simp only [hj, if_true, Option.some.injEq] at h; exact .inl ⟨by omega, h.symm⟩
        · simp only [hj, if_false] at h; split at h <;> cases h
      · simp only [hi, if_false] at h
        by_cases hm : i % 2 = 1
        · simp only [hm, if_true, Tr.get, Bool.cond_eq_ite, Nat.beq_eq, Tr.modE, Tr.divE, Nat.sub_eq] at h
          by_cases hj : j = 0
          · simp only [hj, if_true, Option.some.injEq] at h; exact .inr (.inr h.symm)
          · simp only [hj, if_false] at h
            by_cases hjm : j % 2 = 1
            · simp only [hjm, if_true] at h
              rcases ih _ _ _ _ h with ⟨e, e'⟩ | e | e
              · exact .inl ⟨by omega, e'⟩
              · cases e
              · exact .inr (.inr e)
            · simp only [hjm, if_false] at h; cases h
        · simp only [hm, if_false, Tr.get, Bool.cond_eq_ite, Nat.beq_eq, Tr.modE, Tr.divE, Nat.sub_eq] at h
          by_cases hj : j = 0
          · simp only [hj, if_true, Option.some.injEq] at h; exact .inr (.inr h.symm)
          · simp only [hj, if_false] at h
            by_cases hjm : j % 2 = 1
            · simp only [hjm, if_true] at h; cases h
            · simp only [hjm, if_false] at h
              rcases ih _ _ _ _ h with ⟨e, e'⟩ | e | e
              · exact .inl ⟨by omega, e'⟩
              · cases e
              · exact .inr (.inr e)
    | node l y r =>
      simp only [Tr.put, Bool.cond_eq_ite, Nat.beq_eq, Tr.modE, Tr.divE, Nat.sub_eq] at h
      by_cases hi : i = 0
      · simp only [hi, if_true, Tr.get, Bool.cond_eq_ite, Nat.beq_eq, Tr.modE, Tr.divE, Nat.sub_eq] at h ⊢
        by_cases hj : j = 0
        · simp only [hj, if_true, Option.some.injEq] at h; exact .inl ⟨by omega, h.symm⟩
        · simp only [hj, if_false] at h ⊢; exact .inr (.inl h)
      · simp only [hi, if_false] at h
        by_cases hm : i % 2 = 1
        · simp only [hm, if_true, Tr.get, Bool.cond_eq_ite, Nat.beq_eq, Tr.modE, Tr.divE, Nat.sub_eq] at h ⊢
          by_cases hj : j = 0
          · simp only [hj, if_true] at h ⊢; exact .inr (.inl h)
          · simp only [hj, if_false] at h ⊢
            by_cases hjm : j % 2 = 1
            · simp only [hjm, if_true] at h ⊢
              rcases ih _ _ _ _ h with ⟨e, e'⟩ | e | e
              · exact .inl ⟨by omega, e'⟩
              · exact .inr (.inl e)
              · exact .inr (.inr e)
            · simp only [hjm, if_false] at h ⊢; exact .inr (.inl h)
        · simp only [hm, if_false, Tr.get, Bool.cond_eq_ite, Nat.beq_eq, Tr.modE, Tr.divE, Nat.sub_eq] at h ⊢
          by_cases hj : j = 0
          · simp only [hj, if_true] at h ⊢; exact .inr (.inl h)
          · simp only [hj, if_false] at h ⊢
            by_cases hjm : j % 2 = 1
            · simp only [hjm, if_true] at h ⊢; exact .inr (.inl h)
            · simp only [hjm, if_false] at h ⊢
              rcases ih _ _ _ _ h with ⟨e, e'⟩ | e | e
              · exact .inl ⟨by omega, e'⟩
              · exact .inr (.inl e)
              · exact .inr (.inr e)

theorem tabOf_get (pre : List Func) : ∀ (l : List Func) (i : Nat) (t : Tr Func), (∀ j v, t.get j = some v → (pre ++ l)[j]? = some v ∨ v = default) → (∀ k, (pre ++ l)[i + k]? = l[k]?) → ∀ j v, (tabOf l i t).get j = some v → (pre ++ l)[j]? = some v ∨ v = default := by
  intro l
  induction l generalizing pre with
  | nil => intro i t h _ j v hj; exact h j v hj
  | cons f l ih =>
    intro i t h hi j v hj
    have e : pre ++ f :: l = (pre ++ [f]) ++ l := by simp
    rw [e] at h hi ⊢
    refine ih (pre ++ [f]) (i + 1) _ (fun j v hv => ?_) (fun k => by have h1 := hi (k + 1); rw [List.getElem?_cons_succ] at h1; rw [← h1]; congr 1; omega) j v hj
    rcases put_get _ _ _ _ _ _ _ hv with ⟨rfl, rfl⟩ | hg | rfl
    · left
      have := hi 0
      simpa using this
    · exact h j v hg
    · exact .inr rfl

/-- The program's functions with a body. -/
noncomputable def tabF (P : Program) (f : Nat) : Option Func :=
  ngetK none (fun fn => match fn.body with | some _ => cond (fn.name == "runtime.NumGoroutine") none (some fn) | none => none) (tabOf P.funcs.toList 0 .nil) f

theorem tabF_ok (P : Program) (f : Nat) (fn : Func) (h : tabF P f = some fn) : P.funcs[f]? = some fn ∧ (fn.name == "runtime.NumGoroutine") = false := by
  unfold tabF at h
  rw [ngetK_eq] at h
  cases hg : (tabOf P.funcs.toList 0 .nil).get f with
  | none => rw [hg] at h; cases h
  | some fn' =>
    rw [hg] at h
    simp only [Bool.cond_eq_ite] at h
    split at h
    · rename_i b hb
      split at h
      · cases h
      · rename_i hn
        simp only [Option.some.injEq] at h
        subst h
        refine ⟨?_, by simpa using hn⟩
        rcases tabOf_get [] P.funcs.toList 0 .nil (fun j v hj => by simp [Tr.get] at hj) (fun k => by simp) f fn' hg with h | rfl
        · simpa using h
        · cases hb
    · cases h

theorem envOK (P : Program) (G : Nat → Bool) (hm : P.follows .mixedOrders = true) : EnvOK ⟨P, tabF P, G, fun _ => none, fun _ => none⟩ := ⟨tabF_ok P, hm, nofun, nofun⟩

def isTrue : Rz → Bool
  | .out (.bool true) _ _ => true
  | _ => false

theorem isTrue_ev {E : Env} {lf n : Nat} {f : FuncId} {args : List Value} {H : Hp} {c : Nat} (h : isTrue (fZ E lf n f args H c Rz.out) = true) : ∃ H' c', evF E lf n f args H c = some (.bool true, H', c') := by
  cases hr : fZ E lf n f args H c Rz.out with
  | out v H' c' =>
    rw [hr] at h
    cases v with
    | bool b =>
      cases b with
      | true => exact ⟨H', c', fZ_out E lf n hr⟩
      | false => cases h
    | _ => cases h
  | _ => rw [hr] at h; cases h

end Ce

namespace Ce
open Go Go.RowKit

/-- strings.Builder's copy check, of a builder that stands first in a block of type tw with n cells. -/
def bldCheck (tw : TypeId) (n : Nat) : List Value → Hp → Nat → Rs
  | [.pointer (some ⟨r, 0, none⟩)], H, c => match H.get r with
    | some (.row size cells fz false el) => match cells.get 0 with
      | some (.pointer none) => cond (Nat.beq size n && Nat.beq el (2 * tw + 1)) (match writeRow H r 0 [.pointer (some ⟨r, 0, none⟩)] with | some H' => some (.tuple #[], H', c) | none => none) none
      | some (.pointer (some ⟨r', 0, none⟩)) => cond (Nat.beq r' r) (some (.tuple #[], H, c)) none
      | _ => none
    | _ => none
  | _, _, _ => none

def byteList : List Value → Option (List UInt8)
  | [] => some []
  | .int .u8 (.ofNat n) :: l => cond (Nat.blt n 256) (match byteList l with | some bs => some (UInt8.ofNat n :: bs) | none => none) none
  | _ => none

/-- strings.Builder's text, of a builder that holds some bytes; they are not asked any more. -/
def bldString : List Value → Hp → Nat → Rs
  | [.pointer (some ⟨r, off, none⟩)], H, c => match H.get r with
    | some (.row _ cells _ _ _) => match cells.get (off + 1) with
      | some (.slice (some ⟨r2, o, some 1⟩) n cap) => match H.get r2 with
        | some (.row size cells2 fz false el) => match cells2.getL o n with
          | some l => match byteList l with
            | some bs => cond (Nat.beq n 0 || Nat.beq cap 0 || Nat.blt 9223372036854775807 n || !Nat.beq (el / 2) 5) none (some (.string ⟨bs.toArray⟩, H.upd .dead r2, c))
            | none => none
          | none => none
        | _ => none
      | _ => none
    | _ => none
  | _, _, _ => none

theorem byteList_spec : ∀ (l : List Value) (bs : List UInt8), byteList l = some bs → l = bs.map fun b => .int .u8 (b.toNat : Int) := by
  intro l
  induction l with
  | nil => intro bs h; simp [byteList] at h; subst h; rfl
  | cons x l ih =>
    intro bs h
    unfold byteList at h
    split at h
    · rename_i h1; cases h1
    · rename_i n l' he
      simp only [List.cons.injEq] at he
      obtain ⟨rfl, rfl⟩ := he
      simp only [Bool.cond_eq_ite, Nat.blt_eq] at h
      split at h
      · rename_i hn
        split at h
        · rename_i bs' hb
          simp only [Option.some.injEq] at h
          subst h
          rw [List.map_cons, ← ih _ hb]
          congr 2
          show Int.ofNat n = _
          simp [Nat.mod_eq_of_lt hn]
        · cases h
      · cases h
    · cases h

end Ce

namespace Ce
open Go Go.RowKit

/-- One cell written that may be written. -/
theorem cell_turn {ρ : Ren} {H H' : Hp} {w : World} (hR : Rel ρ H w) {r o : Nat} {p : Pl} {v u : Value} (hp : ρ r = some p) (h : writeRow H r o [v] = some H') (hV : VR ρ v u) (c : Nat) :
    Rel ρ H' (w.setCell ⟨p.block, p.base + o, none⟩ u) ∧ Fr ρ H w ρ H' (w.setCell ⟨p.block, p.base + o, none⟩ u) c c := by
  unfold writeRow at h
  split at h
  · rename_i size cells fz elem hg
    simp only [Bool.cond_eq_ite, Bool.and_eq_true, Nat.ble_eq, List.length_cons, List.length_nil, Nat.zero_add] at h
    split at h
    · rename_i hc
      obtain ⟨⟨h1, h2⟩, h3⟩ := hc
      simp only [Option.some.injEq] at h
      subst h
      have ho := hR.obj r p hp
      simp only [lk, hg, Option.getD_some, OR] at ho
      obtain ⟨C, fr, hC, hs1, hs2, hcell, hfz, hwh⟩ := ho
      have hh := setCell_heap w p.block (p.base + o) u hC
      refine turn_sound hR hp hg rfl rfl (fun k hk => ?_) ?_ rfl rfl rfl ?_
      · simp only [World.setCell, Array.getElem?_modify]; rw [if_neg (Ne.symm hk)]
      · simp [World.setCell]
      · refine ⟨C.setIfInBounds (p.base + o) u, fr, hh, by simpa using hs1, by simpa using hs2, fun i x hi => ?_, fun k hk => hfz k (by simpa using hk), fun he => by simpa using hwh he⟩
        rcases Tr.get_updL _ _ _ _ _ hi with ⟨k, rfl, hk⟩ | ⟨hk, hgi⟩
        · rcases k with _ | k
          · simp only [List.getElem?_cons_zero, Option.some.injEq] at hk
            subst hk
            exact ⟨u, by rw [Nat.add_zero, Array.getElem?_setIfInBounds_self_of_lt (by omega)], hV⟩
          · simp at hk
        · obtain ⟨v', g1, g2⟩ := hcell i x hgi
          refine ⟨v', ?_, g2⟩
          rw [Array.getElem?_setIfInBounds_ne]
          · exact g1
          · intro e
            exact hk 0 (by simp) (by omega)
    · cases h
  · cases h

theorem liesAt_at {P : Program} {e : TypeId} (hc : P.cellsOf e = 1) (count o n : Nat) (hn : o + n ≤ count) : liesAt P P.depth e count o e n = true := by
  have hd : P.depth = (2 * (P.types.size + Made.depth) + 1) + 1 := rfl
  rw [hd]
  simp only [liesAt, Bool.or_eq_true]
  left
  rw [hd]
  simp [rowAt, hc, hn, sameLayout]
  exact .inl (Nat.mod_one o)

/-- unsafe.String over bytes in a row: the bytes, copied; in the row they are frozen. -/
theorem run_unsafeString_at {P : Program} (w : World) (pt it ty e : TypeId) (hp : P.underlying pt = some (.pointer e)) (hc : P.cellsOf e = 1) (g o cells : Nat) (hsh : w.shape? g = some (e, cells)) (l : List UInt8) (h0 : l ≠ []) (hn : o + l.length ≤ cells) (h63 : l.length ≤ 9223372036854775807)
    (hcell : ∀ j x, l[j]? = some x → w.cell? ((⟨g, o, none⟩ : Addr).add j) = some (.int .u8 x.toNat)) :
    (Builtin.unsafeString_ #[pt, it] ty #[.pointer (some ⟨g, o, none⟩), .int .i64 l.length]).run P w = .ok (.string ⟨l.toArray⟩) (w.freeze ⟨g, o, none⟩ l.length) := by
  have hl : l.length ≠ 0 := by simpa using h0
  have hlb := Lib.run_loadBytes (P := P) w l ⟨g, o, none⟩ .empty hcell
  have hlies := liesAt_at (P := P) hc (cells / P.cellsOf e) o l.length (by rw [hc]; simpa using hn)
  have h63' : ¬ (9223372036854775807 : Int) < (l.length : Int) := by omega
  have hdef : Builtin.unsafeString_ #[pt, it] ty #[.pointer (some ⟨g, o, none⟩), .int .i64 l.length] =
      (do
        let n ← asInt (.int .i64 l.length)
        if n < 0 then runtimePanic (.error "unsafe.String: len out of range")
        if n > IntKind.i64.max then unsupported (.unsafePointer "String: a length above the largest int")
        if n = 0 then pure (.string .empty)
        else if ← variablesAt ⟨g, o, none⟩ (← elemOf pt) n.toNat then do
          let s ← loadBytes ⟨g, o, none⟩ .empty n.toNat
          freeze ⟨g, o, none⟩ n.toNat
          pure (.string s)
        else unsupported (.unsafePointer "String: not so many bytes at ptr")) := rfl
  rw [hdef]
  have hmax : IntKind.i64.max = 9223372036854775807 := rfl
  have hneg : ¬ (l.length : Int) < 0 := by omega
  simp [asInt, asIntOf, hmax, h63', hneg, hl, variablesAt, hsh, elemOf, run_underlying hp, hlies, hlb]

/-- Cells frozen of a row that is not asked any more. -/
theorem freeze_kill {ρ : Ren} {H : Hp} {w : World} (hR : Rel ρ H w) {r o n size fz el : Nat} {cells : Tr Value} {p : Pl} (hp : ρ r = some p) (hg : H.get r = some (.row size cells fz false el)) (hn : n ≠ 0) (c : Nat) :
    Rel ρ (H.upd .dead r) (w.freeze ⟨p.block, p.base + o, none⟩ n) ∧ Fr ρ H w ρ (H.upd .dead r) (w.freeze ⟨p.block, p.base + o, none⟩ n) c c := by
  obtain ⟨h1, h2⟩ := kill_sound hR hp c
  have hfr : w.freeze ⟨p.block, p.base + o, none⟩ n = { w with heap := w.heap.modify p.block fun
      | .cells c elem (lo, hi) => .cells c elem (if lo == hi then (p.base + o, p.base + o + n) else (min lo (p.base + o), max hi (p.base + o + n)))
      | o => o } := by unfold World.freeze; rw [if_neg hn]; rfl
  have hlk : lk H r = .row size cells fz false el := by simp [lk, hg]
  have hblk : ∀ k, k ≠ p.block → (w.freeze ⟨p.block, p.base + o, none⟩ n).heap[k]? = w.heap[k]? := fun k hk => by
    rw [hfr]; simp only [Array.getElem?_modify]; rw [if_neg (Ne.symm hk)]
  have hsz : (w.freeze ⟨p.block, p.base + o, none⟩ n).heap.size = w.heap.size := by rw [hfr]; simp
  have hl' : ∀ s, lk (H.upd .dead r) s = if s = r then .dead else lk H s := fun s => by rw [lk_upd, hg]
  refine ⟨⟨fun s q hq => ?_, h1.apart, fun s q hq => by rw [hsz]; exact h1.below s q hq⟩, { h2 with keep := fun B hB hk => ?_, size := by rw [hsz]; exact Nat.le_refl _, os := by rw [hfr], tape := by rw [hfr], output := by rw [hfr], writ := h2.writ, liv := h2.liv }⟩
  · rw [hl']
    split
    · trivial
    · rename_i hne
      by_cases hlv : lives (lk H s) = true
      · exact (hR.obj s q hq).congr (hblk _ (hR.apart s r q p hlv (by rw [hlk]; rfl) hq hp hne))
      · cases hob : lk H s <;> simp [hob, lives] at hlv
        trivial
  · exact hblk B (hk r p (by rw [hlk]; rfl) hp ∘ Eq.symm)

end Ce

namespace Ce
open Go

section
variable {H : Type}

/-- Parts that lie side by side from a place on. -/
def unFields (P : Program) (f : TypeId → DataW H → Option (List Value)) : List Field → Nat → List (DataW H) → Option (List Value)
  | [], _, [] => some []
  | fd :: fs, off, d :: ds => cond (Nat.beq fd.offset off) (match f fd.type d with
      | some l => cond (Nat.beq l.length (P.cellsOf fd.type)) (match unFields P f fs (off + l.length) ds with | some m => some (l ++ m) | none => none) none
      | none => none) none
  | _, _, _ => none

def unRow (P : Program) (f : DataW H → Option (List Value)) (c : Nat) : List (DataW H) → Option (List Value)
  | [] => some []
  | d :: ds => match f d with
    | some l => cond (Nat.beq l.length c) (match unRow P f c ds with | some m => some (l ++ m) | none => none) none
    | none => none

/-- The cells that read so, where only one row of cells does. -/
def unTrod (P : Program) : Nat → TypeId → DataW H → Option (List Value)
  | 0, _, _ => none
  | n + 1, t, d => match P.underlying t, d with
    | some .bool, .lit (.bool b) => some [.bool b]
    | some (.int _), .lit (.int k x) => some [.int k x]
    | some .string, .lit (.string bs) => some [.string ⟨bs.toArray⟩]
    | some (.struct fs), .agg ds => match unFields P (unTrod P n) fs.toList 0 ds with
      | some l => cond (Nat.beq l.length (P.cellsOf t)) (some l) none
      | none => none
    | some (.array _ e), .agg ds => match unRow P (unTrod P n e) (P.cellsOf e) ds with
      | some l => cond (Nat.beq l.length (P.cellsOf t)) (some l) none
      | none => none
    | _, _ => none

theorem unFields_spec {P : Program} {f : TypeId → DataW H → Option (List Value)} {cs : List Value} {q : TypeId → List Value → DataW H → Prop}
    (hf : ∀ t d l c, f t d = some l → q t c d → c = l) : ∀ (fs : List Field) (off : Nat) (ds : List (DataW H)) (l : List Value), unFields P f fs off ds = some l →
    (∀ (i : Nat) (fd : Field) (d : DataW H), fs[i]? = some fd → ds[i]? = some d → q fd.type ((cs.drop fd.offset).take (P.cellsOf fd.type)) d) → (cs.drop off).take l.length = l := by
  intro fs
  induction fs with
  | nil =>
    intro off ds l h _
    cases ds with
    | nil => simp [unFields] at h; subst h; rfl
    | cons d ds => simp [unFields] at h
  | cons fd fs ih =>
    intro off ds l h hq
    cases ds with
    | nil => simp [unFields] at h
    | cons d ds =>
      simp only [unFields, Bool.cond_eq_ite, Nat.beq_eq] at h
      split at h
      · rename_i ho
        subst ho
        split at h
        · rename_i l0 h0
          split at h
          · rename_i hl
            split at h
            · rename_i m hm
              simp only [Option.some.injEq] at h
              subst h
              have e0 := hf _ _ _ _ h0 (hq 0 fd d rfl rfl)
              have e1 := ih _ _ _ hm fun i fd' d' h1 h2 => hq (i + 1) fd' d' (by simpa using h1) (by simpa using h2)
              rw [List.length_append, List.take_add, List.drop_drop, e1, hl, e0]
            · cases h
          · cases h
        · cases h
      · cases h

theorem unRow_spec {P : Program} {f : DataW H → Option (List Value)} {cs : List Value} {c : Nat} {q : List Value → DataW H → Prop}
    (hf : ∀ d l c, f d = some l → q c d → c = l) : ∀ (ds : List (DataW H)) (o : Nat) (l : List Value), unRow P f c ds = some l →
    (∀ (i : Nat) (d : DataW H), ds[i]? = some d → q ((cs.drop ((o + i) * c)).take c) d) → (cs.drop (o * c)).take l.length = l := by
  intro ds
  induction ds with
  | nil => intro o l h _; simp [unRow] at h; subst h; rfl
  | cons d ds ih =>
    intro o l h hq
    simp only [unRow, Bool.cond_eq_ite, Nat.beq_eq] at h
    split at h
    · rename_i l0 h0
      split at h
      · rename_i hl
        split at h
        · rename_i m hm
          simp only [Option.some.injEq] at h
          subst h
          have e0 := hf _ _ _ h0 (hq 0 d rfl)
          have e1 := ih (o + 1) _ hm fun i d' h1 => by
            have := hq (i + 1) d' (by simpa using h1)
            rw [show o + 1 + i = o + (i + 1) by omega]
            exact this
          rw [Nat.add_zero] at e0
          rw [List.length_append, List.take_add, List.drop_drop, hl, e0]
          congr 1
          rw [Nat.add_mul, Nat.one_mul] at e1
          exact e1
        · cases h
      · cases h
    · cases h

/-- The cells are these. -/
theorem unTrod_spec {enc : TypeId × Value → H} {P : Program} {w : World} {base : Nat} {sp : Nat → Bool} {held : Bool} : ∀ (n : Nat) (t : TypeId) (d : DataW H) (l : List Value), unTrod P n t d = some l →
    ∀ (m : Nat) (cs : List Value) (q : List MemPlace), DataW.trod enc P w base sp held m t cs = some (d, q) → cs = l := by
  intro n
  induction n with
  | zero => intro t d l h; simp [unTrod] at h
  | succ n ih =>
    intro t d l h m cs q ht
    unfold unTrod at h
    split at h
    · rename_i b h1
      simp only [Option.some.injEq] at h; subst h
      cases m with
      | zero => simp [DataW.trod] at ht
      | succ m =>
        unfold DataW.trod at ht
        rw [h1] at ht
        split at ht <;> simp_all
    · rename_i k k' x h1
      simp only [Option.some.injEq] at h; subst h
      cases m with
      | zero => simp [DataW.trod] at ht
      | succ m =>
        unfold DataW.trod at ht
        rw [h1] at ht
        split at ht <;> simp_all
    · rename_i bs h1
      simp only [Option.some.injEq] at h; subst h
      cases m with
      | zero => simp [DataW.trod] at ht
      | succ m =>
        unfold DataW.trod at ht
        rw [h1] at ht
        split at ht <;> simp_all
        rw [← ht.2.1]
    · rename_i fs ds h1
      split at h
      · rename_i l' hl
        simp only [Bool.cond_eq_ite, Nat.beq_eq] at h
        split at h
        · rename_i hlen
          simp only [Option.some.injEq] at h; subst h
          obtain ⟨xs, m', _, hx, hc, hsz, hf⟩ := DataW.trod_struct h1 ht
          simp only [Prod.mk.injEq, DataW.agg.injEq] at hx
          have := unFields_spec (P := P) (cs := cs) (q := fun t c d => ∃ q, DataW.trod enc P w base sp held m' t c = some (d, q)) (fun t d l c h1 h2 => by obtain ⟨q, h2⟩ := h2; exact ih t d l h1 m' c q h2) fs.toList 0 ds l' hl
            fun i fd d h1 h2 => by
              have h3 := hf i fd (by simpa using h1)
              rw [hx.1, List.getElem?_map] at h2
              cases hxi : xs[i]? with
              | none => rw [hxi] at h2; cases h2
              | some x =>
                rw [hxi] at h2 h3
                simp only [Option.map_some, Option.some.injEq] at h2
                exact ⟨x.2, by rw [h3, ← h2]⟩
          rw [List.drop_zero, hlen, ← hc, List.take_length] at this
          exact this
        · cases h
      · cases h
    · rename_i k e ds h1
      split at h
      · rename_i l' hl
        simp only [Bool.cond_eq_ite, Nat.beq_eq] at h
        split at h
        · rename_i hlen
          simp only [Option.some.injEq] at h; subst h
          obtain ⟨xs, m', _, hx, hc, hsz, hf⟩ := DataW.trod_array h1 ht
          simp only [Prod.mk.injEq, DataW.agg.injEq] at hx
          have := unRow_spec (P := P) (cs := cs) (c := P.cellsOf e) (q := fun c d => ∃ q, DataW.trod enc P w base sp held m' e c = some (d, q)) (fun d l c h1 h2 => by obtain ⟨q, h2⟩ := h2; exact ih e d l h1 m' c q h2) ds 0 l' hl
            fun i d h2 => by
              rw [hx.1, List.getElem?_map] at h2
              cases hxi : xs[i]? with
              | none => rw [hxi] at h2; cases h2
              | some x =>
                have hi : i < k := by rw [← hsz]; exact (List.getElem?_eq_some_iff.1 hxi).1
                have h3 := hf i hi
                rw [hxi] at h2 h3
                simp only [Option.map_some, Option.some.injEq] at h2
                rw [Nat.zero_add]
                exact ⟨x.2, by rw [h3, ← h2]⟩
          rw [Nat.zero_mul, List.drop_zero, hlen, ← hc, List.take_length] at this
          exact this
        · cases h
      · cases h
    · cases h

end
end Ce
