/-
  Plain models of the scanner, the parser and of what is right: no program in sight; facts of them.
-/
import Derived.Lib.Bytealg
set_option linter.unusedVariables false
namespace Go.Proofs.YtgplgmjnhkhbjaaGreatDoor
namespace Syn

/-! ### the scanner -/

/-- a byte's sort: 1 blank, 2 letter, 3 digit, 4 sign, 0 another -/
def sortN (n : Nat) : Nat :=
  bif (Nat.ble 97 n && Nat.ble n 122) || (Nat.ble 65 n && Nat.ble n 90) || Nat.beq n 95 then 2
  else bif Nat.ble 48 n && Nat.ble n 57 then 3
  else bif Nat.beq n 32 || Nat.beq n 9 || Nat.beq n 10 || Nat.beq n 13 then 1
  else bif (Nat.ble 40 n && Nat.ble n 45) || Nat.beq n 47 || (Nat.ble 59 n && Nat.ble n 62) || Nat.beq n 123 || Nat.beq n 124 || Nat.beq n 125
      || Nat.beq n 91 || Nat.beq n 93 || Nat.beq n 94 || Nat.beq n 37 || Nat.beq n 38 || Nat.beq n 33 then 4
  else 0

def sortU (c : UInt8) : Nat := sortN c.toNat

/-- how many bytes at the head have one of these sorts -/
def runL (l : List Nat) : List UInt8 → Nat
  | [] => 0
  | c :: t => bif l.contains (sortU c) then runL l t + 1 else 0

def nameCh : List Nat := [2, 3]

/-- do these bytes stand at the head? -/
def hasL : List UInt8 → List UInt8 → Bool
  | [], _ => true
  | _ :: _, [] => false
  | a :: p, b :: t => Nat.beq a.toNat b.toNat && hasL p t

/-- how many bytes are blanks and remarks; in a remark already? -/
def skipL : Bool → List UInt8 → Nat
  | _, [] => 0
  | true, c :: t => bif Nat.beq c.toNat 10 then skipL false t + 1 else skipL true t + 1
  | false, c :: t =>
    bif Nat.beq (sortU c) 1 then skipL false t + 1
    else bif Nat.beq c.toNat 47 && hasL [47] t then skipL true t + 1
    else 0

def words : List (List UInt8) :=
  [[102, 117, 110, 99], [118, 97, 114], [105, 102], [101, 108, 115, 101], [119, 104, 105, 108, 101], [98, 114, 101, 97, 107], [99, 111, 110, 116, 105, 110, 117, 101],
   [114, 101, 116, 117, 114, 110], [112, 114, 105, 110, 116], [116, 114, 117, 101], [102, 97, 108, 115, 101], [105, 54, 52], [105, 51, 50], [117, 56], [98, 111, 111, 108], [102, 54, 52]]

def sameL : List UInt8 → List UInt8 → Bool
  | [], [] => true
  | a :: p, b :: t => Nat.beq a.toNat b.toNat && sameL p t
  | _, _ => false

def isWord (l : List UInt8) : Bool := words.any (sameL l)

/-- a token's kind and how many bytes it has; or how far on it can't go -/
def literalL (l : List UInt8) : Except Nat (Nat × Nat) :=
  let a := runL [3] l
  let l1 := l.drop a
  bif hasL [46] l1 then
    let l2 := l1.drop 1
    let b := runL [3] l2
    bif Nat.beq b 0 then .error (a + 1)
    else
      let l3 := l2.drop b
      let e : Except Nat Nat :=
        bif hasL [101] l3 then
          let l4 := l3.drop 1
          let s := bif hasL [43] l4 || hasL [45] l4 then 1 else 0
          let d := runL [3] (l4.drop s)
          bif Nat.beq d 0 then .error (a + 1 + b + 1 + s) else .ok (a + 1 + b + 1 + s + d)
        else .ok (a + 1 + b)
      match e with
      | .error n => .error n
      | .ok n => bif Nat.ble 1 (runL nameCh (l.drop n)) || hasL [46] (l.drop n) then .error n else .ok (5, n)
  else
    let t := l1.take (runL nameCh l1)
    bif sameL t [] || sameL t [105, 54, 52] || sameL t [105, 51, 50] || sameL t [117, 56] then .ok (4, a + t.length) else .error a

def twos : List (List UInt8) := [[61, 61], [33, 61], [60, 61], [62, 61], [60, 60], [62, 62], [38, 38], [124, 124]]

def cutL (l : List UInt8) : Except Nat (Nat × Nat) :=
  match l with
  | [] => .error 0
  | c :: _ =>
    match sortU c with
    | 2 =>
      let n := runL nameCh l
      bif Nat.ble n 32 then .ok (bif isWord (l.take n) then 3 else 2, n) else .error 0
    | 3 => literalL l
    | 4 => .ok (6, bif twos.any (hasL · l) then 2 else 1)
    | _ => .error 0

structure Tok where
  kind : Nat
  at_ : Nat
  stop : Nat
  txt : List UInt8

/-- the tokens of what stands from a place on; or the place where it can't go on -/
def scanL : Nat → Nat → List UInt8 → List Tok → Option (Except Nat (List Tok))
  | 0, _, _, _ => none
  | f + 1, at_, l, acc =>
    let k := skipL false l
    let a := at_ + k
    match l.drop k with
    | [] => some (.ok (acc.reverse ++ [⟨1, a, a, []⟩]))
    | c :: t =>
      match cutL (c :: t) with
      | .error n => some (.error (a + n))
      | .ok (kind, n) => scanL f (a + n) ((c :: t).drop n) (⟨kind, a, a + n, (c :: t).take n⟩ :: acc)

def scan (s : List UInt8) : Option (Except (Nat × Nat) (List Tok)) :=
  bif Nat.ble s.length 65536 then
    match scanL (s.length + 1) 0 s [] with
    | none => none
    | some (.error n) => some (.error (120, n))
    | some (.ok l) => some (.ok l)
  else some (.error (3, 0))

/-! ### the parser -/

structure Nd where
  kind : Nat
  at_ : Nat
  name : List UInt8 := []
  typ : Nat := 0
  op : Nat := 0
  bits : Nat := 0
  size : Nat := 0
  kids : List Nat := []
deriving DecidableEq

structure Fn where
  name : List UInt8
  at_ : Nat
  params : List (List UInt8 × Nat × Nat)
  result : Nat
  body : Nat
deriving DecidableEq

structure St where
  toks : List Tok
  opn : Nat
  nodes : List Nd
  count : Nat
  funcs : List Fn

abbrev Fault := Nat × Nat

abbrev M (α : Type) := St → Option (Except Fault (α × St))

@[inline] def M.andThen {α β : Type} (m : M α) (f : α → M β) : M β := fun s =>
  match m s with
  | none => none
  | some (.error e) => some (.error e)
  | some (.ok (a, s')) => f a s'

instance : Monad M where
  pure a := fun s => some (.ok (a, s))
  bind := M.andThen

def nextM : M Tok := fun s =>
  match s.toks with
  | [] => none
  | t :: _ => some (.ok (t, s))
def failM {α : Type} (e : Nat) : M α := fun s =>
  match s.toks with
  | [] => none
  | t :: _ => some (.error (e, t.at_))
def isT (s : List UInt8) (t : Tok) : Bool := (Nat.beq t.kind 3 || Nat.beq t.kind 6) && sameL t.txt s
def stepM : M Unit := fun s =>
  match s.toks with
  | [] => none
  | [_] => none
  | _ :: t :: r => some (.ok ((), { s with toks := t :: r }))
def isM (x : List UInt8) : M Bool := do return isT x (← nextM)
def gotM (x : List UInt8) : M Bool := do
  bif ← isM x then do stepM; return true else return false
def wantM (x : List UInt8) : M Unit := do
  bif ← gotM x then return () else failM 130
def takeM (k : Nat) : M (List UInt8) := do
  let t ← nextM
  bif Nat.beq t.kind k then do stepM; return t.txt else failM 130
def openM : M Unit := fun s => bif Nat.ble s.opn 100 then (bif Nat.ble (s.opn + 1) 32 then some (.ok ((), { s with opn := s.opn + 1 })) else failM 132 s) else none
def shutM : M Unit := fun s => bif Nat.ble 1 s.opn then some (.ok ((), { s with opn := s.opn - 1 })) else none
def openedM {α : Type} (m : M α) : M α := do openM; let a ← m; shutM; return a
/-- as many as may be of anything -/
def cap : Nat := 1000000
def putM (n : Nd) : M Nat := fun s => bif Nat.blt s.count cap then some (.ok (s.count, { s with nodes := s.nodes ++ [n], count := s.count + 1 })) else none
def roomM (n : Nat) : M Unit := fun s => bif Nat.blt n cap then some (.ok ((), s)) else none

def typedL (s : List UInt8) : Nat :=
  bif sameL s [98, 111, 111, 108] then 1 else bif sameL s [117, 56] then 2 else bif sameL s [105, 51, 50] then 3
  else bif sameL s [105, 54, 52] then 4 else bif sameL s [102, 54, 52] then 5 else 0
def typM : M Nat := do
  let t ← nextM
  let n := bif Nat.beq t.kind 3 then typedL t.txt else 0
  bif Nat.beq n 0 then failM 130 else do stepM; return n

def kwTrue : List UInt8 := [116, 114, 117, 101]
def kwFalse : List UInt8 := [102, 97, 108, 115, 101]
def kwIf : List UInt8 := [105, 102]

structure Row where
  sign : List UInt8
  at_ : Nat
  kind : Nat
  op : Nat

def rows : List Row :=
  [⟨[124, 124], 1, 9, 0⟩, ⟨[38, 38], 2, 8, 0⟩,
   ⟨[61, 61], 3, 7, 11⟩, ⟨[33, 61], 3, 7, 12⟩, ⟨[60], 3, 7, 13⟩, ⟨[60, 61], 3, 7, 14⟩, ⟨[62], 3, 7, 15⟩, ⟨[62, 61], 3, 7, 16⟩,
   ⟨[43], 4, 7, 1⟩, ⟨[45], 4, 7, 2⟩, ⟨[124], 4, 7, 7⟩, ⟨[94], 4, 7, 8⟩,
   ⟨[42], 5, 7, 3⟩, ⟨[47], 5, 7, 4⟩, ⟨[37], 5, 7, 5⟩, ⟨[38], 5, 7, 6⟩, ⟨[60, 60], 5, 7, 9⟩, ⟨[62, 62], 5, 7, 10⟩]

structure Cs where
  expr : Nat → M Nat
  again : Nat → Nat → M Nat
  unary : M Nat
  args : List Nat → M (List Nat)
  stmts : List Nat → M (List Nat)
  stmt : M Nat
  choice : Nat → M Nat

def noneM {α : Type} : M α := fun _ => none

section

/-- (of whole numbers 1 and 2 alone; no floats) -/
def literalM : M Nat := do
  let t ← nextM
  bif Nat.beq t.kind 4 then
    bif sameL t.txt [49] then do stepM; putM { kind := 1, at_ := t.at_, bits := 1, typ := 4 }
    else bif sameL t.txt [50] then do stepM; putM { kind := 1, at_ := t.at_, bits := 2, typ := 4 }
    else noneM
  else bif Nat.beq t.kind 5 then noneM
  else do stepM; putM { kind := 1, at_ := t.at_, typ := 1, bits := bif sameL t.txt kwTrue then 1 else 0 }

def listM (c : Cs) : M (List Nat) := openedM do wantM [40]; c.args []
def innerM (c : Cs) (a b : List UInt8) : M Nat := openedM do wantM a; let k ← c.expr 1; wantM b; return k

def namedM (c : Cs) : M Nat := do
  let t ← nextM
  let name ← takeM 2
  let a ← isM [40]
  bif a then do let ks ← listM c; putM { kind := 4, at_ := t.at_, name, kids := ks }
  else do
    let b ← isM [91]
    bif b then do let k ← innerM c [91] [93]; putM { kind := 3, at_ := t.at_, name, kids := [k] }
    else putM { kind := 2, at_ := t.at_, name }

def primaryM (c : Cs) : M Nat := do
  let t ← nextM
  bif Nat.beq t.kind 2 then namedM c
  else bif Nat.beq t.kind 4 || Nat.beq t.kind 5 || isT kwTrue t || isT kwFalse t then literalM
  else bif isT [40] t then innerM c [40] [41]
  else do
    let ty ← typM
    bif ← isM [40] then do let k ← innerM c [40] [41]; putM { kind := 5, at_ := t.at_, typ := ty, kids := [k] } else failM 130

def unaryM (c : Cs) : M Nat := do
  let t ← nextM
  bif isT [45] t then do let k ← openedM (do stepM; c.unary); putM { kind := 6, at_ := t.at_, op := 17, kids := [k] }
  else bif isT [33] t then do let k ← openedM (do stepM; c.unary); putM { kind := 6, at_ := t.at_, op := 18, kids := [k] }
  else primaryM c

def blockM (c : Cs) : M Nat := do
  let t ← nextM
  bif isT [123] t then do let ks ← openedM (do wantM [123]; c.stmts []); putM { kind := 21, at_ := t.at_, kids := ks } else failM 130

/-- (calls as statements and items of arrays are left out) -/
def setM (c : Cs) (at_ : Nat) : M Nd := do
  let name ← takeM 2
  let a ← isM [40]
  bif a then noneM
  else do
   let b ← isM [91]
   bif b then noneM
   else do
    wantM [61]
    let x ← c.expr 1
    return { kind := 12, at_, name, kids := [x] }

def choiceM (c : Cs) (at_ : Nat) : M Nat := do
  let e ← c.expr 1
  let b ← blockM c
  bif ← gotM [101, 108, 115, 101] then noneM
  else putM { kind := 14, at_, kids := [e, b] }

def endM (n : Nd) : M Nat := do wantM [59]; putM n

def stmtM (c : Cs) : M Nat := do
  let t ← nextM
  bif Nat.beq t.kind 2 then do let n ← setM c t.at_; endM n
  else do
    let b ← gotM [118, 97, 114]
    bif b then noneM
    else do
      let b ← gotM kwIf
      bif b then c.choice t.at_
      else do
        let b ← gotM [119, 104, 105, 108, 101]
        bif b then noneM
        else do
          let b ← gotM [98, 114, 101, 97, 107]
          bif b then noneM
          else do
            let b ← gotM [99, 111, 110, 116, 105, 110, 117, 101]
            bif b then noneM
            else do
              let b ← gotM [114, 101, 116, 117, 114, 110]
              bif b then do let e ← c.expr 1; endM { kind := 18, at_ := t.at_, kids := [e] }
              else noneM

def againM (c : Cs) (p left : Nat) : M Nat := do
  let t ← nextM
  match rows.find? (fun r => Nat.beq r.at_ p && isT r.sign t) with
  | none => return left
  | some r => do
    wantM r.sign
    let k ← c.expr (p + 1)
    let l ← putM { kind := r.kind, at_ := t.at_, op := r.op, kids := [left, k] }
    c.again p l

def argsM (c : Cs) (out : List Nat) : M (List Nat) := do
  bif ← gotM [41] then return out
  else do
    bif out.isEmpty then return () else wantM [44]
    let k ← c.expr 1
    roomM out.length
    c.args (out ++ [k])

def stmtsM (c : Cs) (out : List Nat) : M (List Nat) := do
  bif ← gotM [125] then return out
  else do
    let k ← c.stmt
    roomM out.length
    c.stmts (out ++ [k])

def exprM (c : Cs) (p : Nat) : M Nat :=
  bif Nat.blt 5 p then c.unary else do let l ← c.expr (p + 1); c.again p l

def stepC (c : Cs) : Cs where
  expr := exprM c
  again := againM c
  unary := unaryM c
  args := argsM c
  stmts := stmtsM c
  stmt := stmtM c
  choice := choiceM c

def lvl : Nat → Cs
  | 0 => ⟨fun _ => noneM, fun _ _ => noneM, noneM, fun _ => noneM, fun _ => noneM, noneM, fun _ => noneM⟩
  | n + 1 => stepC (lvl n)

def paramsM : Nat → List (List UInt8 × Nat × Nat) → M (List (List UInt8 × Nat × Nat))
  | 0, _ => noneM
  | f + 1, out => do
    bif ← gotM [41] then return out
    else do
      bif out.isEmpty then return () else wantM [44]
      let t ← nextM
      let name ← takeM 2
      let ty ← typM
      roomM out.length
      paramsM f (out ++ [(name, t.at_, ty)])

def fnM (f : Nat) : M Unit := do
  wantM [102, 117, 110, 99]
  let t ← nextM
  let name ← takeM 2
  wantM [40]
  let ps ← paramsM f []
  let ty ← typM
  let b ← blockM (lvl f)
  roomM (← fun s => some (.ok (s.funcs.length, s)))
  fun s => some (.ok ((), { s with funcs := s.funcs ++ [⟨name, t.at_, ps, ty, b⟩] }))

def fnsM (f : Nat) : Nat → M Unit
  | 0 => noneM
  | k + 1 => do
    let t ← nextM
    bif Nat.beq t.kind 1 then return () else do fnM f; fnsM f k

def parse (f : Nat) (s : List UInt8) : Option (Except Fault (List Nd × List Fn)) :=
  match scan s with
  | none => none
  | some (.error e) => some (.error e)
  | some (.ok toks) =>
    match fnsM f f ⟨toks, 0, [], 0, []⟩ with
    | none => none
    | some (.error e) => some (.error e)
    | some (.ok (_, s')) => some (.ok (s'.nodes, s'.funcs))

end

/-! ### which trees are right -/

def levelL (n : Nd) : Nat :=
  bif Nat.beq n.kind 6 then 6
  else match rows.find? (fun r => Nat.beq r.kind n.kind && Nat.beq r.op n.op) with
    | some r => r.at_
    | none => 7

def aboutL (n : Nd) (i : Nat) (kid : Nd) : Nat :=
  bif Nat.beq n.kind 3 || Nat.beq n.kind 4 || Nat.beq n.kind 5 then 1
  else bif Nat.beq n.kind 13 then 1 - i
  else bif Nat.beq n.kind 6 then (bif Nat.blt (levelL kid) 6 then 2 else 1)
  else bif Nat.beq n.kind 7 || Nat.beq n.kind 8 || Nat.beq n.kind 9 then (bif Nat.blt (levelL kid) (levelL n + i) then 1 else 0)
  else 0

/-! ### the law's sources -/

def rep : Nat → List UInt8 → List UInt8
  | 0, _ => []
  | n + 1, s => rep n s ++ s

def sideA : Nat → List UInt8
  | 1 => [45] | 2 => [102, 40] | 3 => [97, 91] | 4 => [117, 56, 40] | _ => [40]
def sideB : Nat → List UInt8
  | 1 => [] | 2 => [41] | 3 => [93] | 4 => [41] | _ => [41]
def srcA (what n : Nat) : List UInt8 :=
  [102, 117, 110, 99, 32, 102, 40, 41, 32, 105, 54, 52, 32, 123, 32, 114, 101, 116, 117, 114, 110, 32] ++ rep n (sideA what) ++ [49] ++ rep n (sideB what) ++ [59, 32, 125]
def srcB (n : Nat) : List UInt8 :=
  [102, 117, 110, 99, 32, 102, 40, 41, 32, 105, 54, 52, 32, 123] ++ rep n [105, 102, 32, 116, 114, 117, 101, 32, 123] ++ (125 :: rep n [125])

def faultAns (r : Option (Except Fault (List Nd × List Fn))) (e at_ : Nat) : Bool :=
  match r with
  | some (.error f) => Nat.beq f.1 e && Nat.beq f.2 at_
  | _ => false

def fuel : Nat := 600
def allUnder : Nat → (Nat → Bool) → Bool
  | 0, _ => true
  | n + 1, p => allUnder n p && p n

end Syn
end Go.Proofs.YtgplgmjnhkhbjaaGreatDoor
set_option linter.unusedVariables false
set_option linter.unusedSimpArgs false
namespace Go.Proofs.YtgplgmjnhkhbjaaGreatDoor
namespace Syn

/-- a token stands in its source -/
def Fit (src : List UInt8) (t : Tok) : Prop := t.at_ ≤ t.stop ∧ t.stop ≤ src.length ∧ t.txt = (src.drop t.at_).take (t.stop - t.at_) ∧ t.kind < 256

theorem runL_len (ls : List Nat) : ∀ t : List UInt8, runL ls t ≤ t.length
  | [] => Nat.le_refl _
  | c :: t => by
    unfold runL
    have := runL_len ls t
    cases ls.contains (sortU c)
    · simp
    · simpa using this
theorem hasL_len : ∀ (p t : List UInt8), hasL p t = true → p.length ≤ t.length
  | [], t, _ => by simp
  | _ :: _, [], h => by simp [hasL] at h
  | a :: p, b :: t, h => by
    simp only [hasL, Bool.and_eq_true] at h
    have := hasL_len p t h.2
    simpa using this

theorem litE_len (a : Nat) (l : List UInt8) (e : Except Nat Nat) (k n : Nat) (h : (match e with
      | .error n => .error n
      | .ok n => bif Nat.ble 1 (runL nameCh (l.drop n)) || hasL [46] (l.drop n) then .error n else .ok (5, n) : Except Nat (Nat × Nat)) = .ok (k, n)) : e = .ok n ∧ k = 5 := by
  cases e with
  | error m => cases h
  | ok m =>
    simp only at h
    cases hb : (Nat.ble 1 (runL nameCh (l.drop m)) || hasL [46] (l.drop m))
    · rw [hb] at h
      simp only [cond_false, Except.ok.injEq, Prod.mk.injEq] at h
      obtain ⟨rfl, rfl⟩ := h
      exact ⟨rfl, rfl⟩
    · rw [hb] at h; cases h

theorem literalL_len (l : List UInt8) (k n : Nat) (h : literalL l = .ok (k, n)) : n ≤ l.length ∧ (k = 4 ∨ k = 5) := by
  unfold literalL at h
  have h1 := runL_len [3] l
  cases hd : hasL [46] (l.drop (runL [3] l))
  · simp only [hd, cond_false] at h
    have h2 := runL_len nameCh (l.drop (runL [3] l))
    rw [List.length_drop] at h2
    · revert h
      generalize (sameL ((l.drop (runL [3] l)).take (runL nameCh (l.drop (runL [3] l)))) [] || sameL ((l.drop (runL [3] l)).take (runL nameCh (l.drop (runL [3] l)))) [105, 54, 52] || sameL ((l.drop (runL [3] l)).take (runL nameCh (l.drop (runL [3] l)))) [105, 51, 50] || sameL ((l.drop (runL [3] l)).take (runL nameCh (l.drop (runL [3] l)))) [117, 56]) = b
      intro h
      cases b
      · cases h
      · simp only [cond_true, Except.ok.injEq, Prod.mk.injEq] at h
        obtain ⟨rfl, rfl⟩ := h
        refine ⟨?_, .inl rfl⟩
        rw [List.length_take, List.length_drop]
        omega
  · simp only [hd, cond_true] at h
    have h0 := hasL_len _ _ hd
    rw [List.length_drop] at h0
    simp only [List.length_cons, List.length_nil] at h0
    have h2 := runL_len [3] ((l.drop (runL [3] l)).drop 1)
    rw [List.length_drop, List.length_drop] at h2
    generalize hb : runL [3] ((l.drop (runL [3] l)).drop 1) = b at h h2
    cases hz : Nat.beq b 0
    · simp only [hz, cond_false] at h
      obtain ⟨he, rfl⟩ := litE_len 0 l _ k n h
      refine ⟨?_, .inr rfl⟩
      clear h
      cases hx : hasL [101] (((l.drop (runL [3] l)).drop 1).drop b)
      · rw [hx] at he
        simp only [cond_false, Except.ok.injEq] at he
        omega
      · have h3 := hasL_len _ _ hx
        rw [List.length_drop, List.length_drop, List.length_drop] at h3
        simp only [List.length_cons, List.length_nil] at h3
        rw [hx] at he
        simp only [cond_true] at he
        generalize hs : (hasL [43] ((((l.drop (runL [3] l)).drop 1).drop b).drop 1) || hasL [45] ((((l.drop (runL [3] l)).drop 1).drop b).drop 1)) = sb at he
        have h4 := runL_len [3] (((((l.drop (runL [3] l)).drop 1).drop b).drop 1).drop (bif sb then 1 else 0))
        rw [List.length_drop, List.length_drop, List.length_drop, List.length_drop, List.length_drop] at h4
        generalize hdd : runL [3] (((((l.drop (runL [3] l)).drop 1).drop b).drop 1).drop (bif sb then 1 else 0)) = d at he h4
        cases hdz : Nat.beq d 0
        · rw [hdz] at he
          simp only [cond_false, Except.ok.injEq] at he
          have hdn : d ≠ 0 := fun e => by rw [e] at hdz; cases hdz
          cases sb
          · simp only [cond_false] at he h4
            omega
          · simp only [cond_true] at he h4
            omega
        · rw [hdz] at he
          cases he
    · simp only [hz, cond_true] at h
      cases h

theorem cutL_len (l : List UInt8) (k n : Nat) (h : cutL l = .ok (k, n)) : n ≤ l.length ∧ 2 ≤ k ∧ k ≤ 6 := by
  unfold cutL at h
  cases l with
  | nil => cases h
  | cons c t =>
    simp only at h
    split at h
    · have h1 := runL_len nameCh (c :: t)
      cases hb : Nat.ble (runL nameCh (c :: t)) 32
      · rw [hb] at h; cases h
      · rw [hb] at h
        simp only [cond_true, Except.ok.injEq, Prod.mk.injEq] at h
        obtain ⟨rfl, rfl⟩ := h
        refine ⟨h1, ?_⟩
        cases isWord ((c :: t).take (runL nameCh (c :: t))) <;> simp
    · obtain ⟨h1, h2⟩ := literalL_len _ _ _ h
      exact ⟨h1, by omega⟩
    · simp only [Except.ok.injEq, Prod.mk.injEq] at h
      obtain ⟨rfl, rfl⟩ := h
      refine ⟨?_, by omega, by omega⟩
      cases hb : twos.any fun x => hasL x (c :: t)
      · simp
      · rw [List.any_eq_true] at hb
        obtain ⟨x, hx, hh⟩ := hb
        have := hasL_len _ _ hh
        have h2 : x.length = 2 := by
          exact (by decide : ∀ x ∈ twos, x.length = 2) x hx
        rw [h2] at this
        simpa using this
    · cases h

theorem scanL_fit (src : List UInt8) : ∀ (f at_ : Nat) (acc ts : List Tok), at_ ≤ src.length → (∀ t ∈ acc, Fit src t) → scanL f at_ (src.drop at_) acc = some (.ok ts) → ∀ t ∈ ts, Fit src t
  | 0, _, _, _, _, _, h => by cases h
  | f + 1, at_, acc, ts, ha, hacc, h => by
    simp only [scanL] at h
    have hk : ∀ k, (src.drop at_).drop k = src.drop (at_ + k) := fun k => List.drop_drop
    rw [hk] at h
    generalize hkk : skipL false (src.drop at_) = k at h
    cases hd : src.drop (at_ + k) with
    | nil =>
      rw [hd] at h
      simp only [Option.some.injEq, Except.ok.injEq] at h
      subst h
      have hl : at_ + k ≤ src.length ∨ src.length < at_ + k := by omega
      intro t ht
      rw [List.mem_append] at ht
      rcases ht with ht | ht
      · exact hacc t (List.mem_reverse.1 ht)
      · rw [List.mem_singleton] at ht
        subst ht
        refine ⟨Nat.le_refl _, ?_, ?_, by show 1 < 256; omega⟩
        · have hs : skipL false (src.drop at_) ≤ (src.drop at_).length := skipLe false (src.drop at_)
          rw [hkk, List.length_drop] at hs
          show at_ + k ≤ _
          omega
        · simp
    | cons c t =>
      rw [hd] at h
      simp only at h
      cases hc : cutL (c :: t) with
      | error n => rw [hc] at h; cases h
      | ok r =>
        obtain ⟨kind, n⟩ := r
        rw [hc] at h
        simp only at h
        obtain ⟨h1, h2, h3⟩ := cutL_len _ _ _ hc
        have hlen : (src.drop (at_ + k)).length = (c :: t).length := by rw [hd]
        rw [List.length_drop] at hlen
        have hle : at_ + k + n ≤ src.length := by
          have : 0 < (c :: t).length := by simp
          omega
        have hdd : (c :: t).drop n = src.drop (at_ + k + n) := by rw [← hd, List.drop_drop]
        rw [hdd] at h
        refine scanL_fit src f (at_ + k + n) _ ts hle ?_ h
        intro x hx
        rw [List.mem_cons] at hx
        rcases hx with rfl | hx
        · refine ⟨Nat.le_add_right _ _, hle, ?_, by show kind < 256; omega⟩
          show (c :: t).take n = _
          rw [← hd]
          show _ = (src.drop (at_ + k)).take (at_ + k + n - (at_ + k))
          congr 1
          omega
        · exact hacc x hx
where
  skipLe : ∀ (b : Bool) (l : List UInt8), skipL b l ≤ l.length
  | b, [] => by cases b <;> simp [skipL]
  | true, c :: t => by
    have h1 := skipLe true t
    have h2 := skipLe false t
    unfold skipL
    cases Nat.beq c.toNat 10 <;> simp <;> omega
  | false, c :: t => by
    have h1 := skipLe true t
    have h2 := skipLe false t
    unfold skipL
    cases Nat.beq (sortU c) 1 <;> cases (Nat.beq c.toNat 47 && hasL [47] t) <;> simp <;> omega

theorem scan_fit (src : List UInt8) (ts : List Tok) (h : scan src = some (.ok ts)) : ∀ t ∈ ts, Fit src t := by
  unfold scan at h
  cases hb : Nat.ble src.length 65536
  · rw [hb] at h; cases h
  · rw [hb] at h
    simp only [cond_true] at h
    cases hs : scanL (src.length + 1) 0 src [] with
    | none => rw [hs] at h; cases h
    | some r =>
      rw [hs] at h
      cases r with
      | error n => cases h
      | ok l =>
        simp only [Option.some.injEq, Except.ok.injEq] at h
        subst h
        exact scanL_fit src _ 0 [] l (Nat.zero_le _) (fun _ h => by cases h) hs

end Syn
end Go.Proofs.YtgplgmjnhkhbjaaGreatDoor
