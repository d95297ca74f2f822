/-
  Abstract values, abstract memory, and an evaluator of the model's code over them: one answer whatever the tape says. (That the model's runs come to what it answers: Sound.)
-/
import Derived.Test.YtohhkgieggfpeaaNum
import Derived.Orders
set_option linter.unusedVariables false
namespace Go.Rf
open Go

/-! ### Numbers and rows, by names (for reading) -/
abbrev gF (xs : List Nat) (j : Nat) : Nat := xs.getD j 0
abbrev gI (xs : List Int) (j : Nat) : Int := xs.getD j 0
abbrev gB (xs : List Bool) (j : Nat) : Bool := xs.getD j false
abbrev sF (xs : List Nat) (j : Nat) (x : Nat) : List Nat := xs.set j x
abbrev sI (xs : List Int) (j : Nat) (x : Int) : List Int := xs.set j x
abbrev sB (xs : List Bool) (j : Nat) (x : Bool) : List Bool := xs.set j x
abbrev pF (xs : List Nat) (off n : Nat) : List Nat := (xs.drop off).take n
abbrev pI (xs : List Int) (off n : Nat) : List Int := (xs.drop off).take n
abbrev pB (xs : List Bool) (off n : Nat) : List Bool := (xs.drop off).take n
abbrev aF (xs ys : List Nat) : List Nat := xs ++ ys
abbrev aI (xs ys : List Int) : List Int := xs ++ ys
abbrev aB (xs ys : List Bool) : List Bool := xs ++ ys
abbrev nF (xs : List Nat) : Nat := xs.length
abbrev nI (xs : List Int) : Nat := xs.length
abbrev nB (xs : List Bool) : Nat := xs.length
abbrev rF (n : Nat) : List Nat := List.replicate n 0
abbrev rI (n : Nat) : List Int := List.replicate n 0
abbrev rB (n : Nat) : List Bool := List.replicate n false
abbrev ixO (off : Nat) (n : Int) (sz : Nat) : Nat := off + n.toNat * sz
abbrev slN (l h : Int) : Nat := h.toNat - l.toNat
abbrev toN (n : Int) : Nat := n.toNat
abbrev adN (a b : Nat) : Nat := a + b
abbrev muN (a b : Nat) : Nat := a * b
abbrev fOI (k : FloatKind) (n : Int) : Nat := floatOfInt k n

/-! ### Values -/
/-- What one cell holds. A pointer, a slice names a block of the abstract memory by its tag. -/
inductive At where
  | any                                  -- some value of one cell
  | bool (b : Bool)
  | int (k : IntKind) (n : Int)
  | flt (k : FloatKind) (x : Nat)        -- its canonical word
  | cx (k : FloatKind) (x y : Nat)
  | ptr (t off ext : Nat)                -- 'ext' cells from 'off' on may be looked at
  | sl (t off len sz : Nat)              -- 'len' elements of 'sz' cells from cell 'off' on
  | nilsl                                -- a slice without room
  | vw (t off len sz : Nat)              -- a slice to be read only
  | fn (f : FuncId) (caps : List At)

/-- A part of a tuple. -/
inductive TV where
  | one (a : At)
  | agg (cs : List At)

inductive AV where
  | top                                  -- nothing is known
  | v (x : TV)
  | tup (vs : List TV)

/-- What a block holds. -/
inductive Body where
  | cells (cs : List At)
  | fl (k : FloatKind) (xs : List Nat)
  | il (k : IntKind) (xs : List Int)
  | bl (xs : List Bool)
  | dead (n : Nat)                       -- not to be looked at any more

structure Blk where
  own : Bool
  body : Body

structure St where
  tm : List (Nat × AV)
  H : List Blk

inductive Ex where
  | normal
  | exit (id : Nat)
  | ret

/-! ### Small functions -/
def look {α : Type} : List (Nat × α) → Nat → Option α
  | [], _ => none
  | (u, v) :: r, t => match Nat.beq u t with | true => some v | false => look r t
def nth {α : Type} : List α → Nat → Option α
  | [], _ => none
  | a :: _, 0 => some a
  | _ :: r, n + 1 => nth r n
def mem (t : Nat) : List Nat → Bool
  | [] => false
  | u :: r => match Nat.beq u t with | true => true | false => mem t r
def get (tm : List (Nat × AV)) (t : Nat) : AV := match look tm t with | some v => v | none => .top
def put (tm : List (Nat × AV)) (d : Option Nat) (v : AV) : List (Nat × AV) := match d with | some d => (d, v) :: tm | none => tm
/-- A test whose outcome may be unknown. -/
def br {α : Type} (c : Bool) (x y : α) : α := match c with | true => x | false => y
/-- A fact that is owed, as a truth value. -/
def grd {R : Type} (b : Bool) (x : Option R) : Option R := match b with | true => x | false => none

theorem grd_inv {R : Type} {b : Bool} {x : Option R} {r : R} (h : grd b x = some r) : b = true ∧ x = some r := by
  cases b with
  | false => cases h
  | true => exact ⟨rfl, h⟩

theorem chk_pos {R : Type} {p : Prop} [Decidable p] {x : Option R} (h : p) : grd (decide p) x = x := by rw [decide_eq_true h]; rfl
theorem chk_neg {R : Type} {p : Prop} [Decidable p] {x : Option R} (h : ¬ p) : grd (decide p) x = none := by rw [decide_eq_false h]; rfl
theorem chk_nat {R : Type} {p : Prop} [Decidable p] {x : Option R} {r : R} (h : grd (decide p) x = some r) : p ∧ x = some r := ⟨of_decide_eq_true (grd_inv h).1, (grd_inv h).2⟩
theorem br_true {α : Type} (x y : α) : br true x y = x := rfl
theorem br_false {α : Type} (x y : α) : br false x y = y := rfl

def Body.isRow : Body → Bool
  | .cells _ => false
  | .dead _ => false
  | _ => true
def Body.size : Body → Nat
  | .cells cs => cs.length
  | .fl _ xs => xs.length
  | .il _ xs => xs.length
  | .bl xs => xs.length
  | .dead n => n
def Body.get : Body → Nat → Option At
  | .cells cs, j => nth cs j
  | .fl k xs, j => some (.flt k (xs.getD j 0))
  | .il k xs, j => some (.int k (xs.getD j 0))
  | .bl xs, j => some (.bool (xs.getD j false))
  | .dead _, _ => none
def setL {α : Type} : List α → Nat → α → List α
  | [], _, _ => []
  | _ :: r, 0, a => a :: r
  | b :: r, n + 1, a => b :: setL r n a
def Body.set : Body → Nat → At → Option Body
  | .cells cs, j, a => some (.cells (setL cs j a))
  | .fl k xs, j, .flt k' x => match k, k' with
    | .f32, .f32 => some (.fl .f32 (xs.set j x))
    | .f64, .f64 => some (.fl .f64 (xs.set j x))
    | _, _ => none
  | .il k xs, j, .int k' x => match decide (k = k') with | true => some (.il k (xs.set j x)) | false => none
  | .bl xs, j, .bool x => some (.bl (xs.set j x))
  | _, _, _ => none
def isAny : At → Bool
  | .any => true
  | _ => false
def isFn : At → Bool
  | .fn _ _ => true
  | _ => false
/-- The cells of a value. -/
def cellsV : AV → Option (List At)
  | .v (.one .any) => none
  | .v (.one a) => some [a]
  | .v (.agg cs) => some cs
  | _ => none

/-! ### Which tags a value names -/
def m0 (t : Nat) : At → Bool
  | .ptr u _ _ => Nat.beq u t
  | .sl u _ _ _ => Nat.beq u t
  | .vw u _ _ _ => Nat.beq u t
  | _ => false
def m0s (t : Nat) : List At → Bool
  | [] => false
  | a :: r => match m0 t a with | true => true | false => m0s t r
def m1 (t : Nat) : At → Bool
  | .fn _ caps => m0s t caps
  | a => m0 t a
def m1s (t : Nat) : List At → Bool
  | [] => false
  | a :: r => match m1 t a with | true => true | false => m1s t r
def mT (t : Nat) : TV → Bool
  | .one a => m1 t a
  | .agg cs => m1s t cs
def mTs (t : Nat) : List TV → Bool
  | [] => false
  | a :: r => match mT t a with | true => true | false => mTs t r
def mV (t : Nat) : AV → Bool
  | .top => false
  | .v x => mT t x
  | .tup vs => mTs t vs
def mM (t : Nat) : List (Nat × AV) → Bool
  | [] => false
  | (_, v) :: r => match mV t v with | true => true | false => mM t r
def mB (t : Nat) : Body → Bool
  | .cells cs => m1s t cs
  | _ => false
def mH (t : Nat) : List Blk → Bool
  | [] => false
  | b :: r => match mB t b.body with | true => true | false => mH t r

/-- Slots that are not needed any more are forgotten. -/
def keepM (live : List Nat) (tm : List (Nat × AV)) : List (Nat × AV) :=
  match live with
  | [] => []
  | t :: r => match look tm t with | some v => (t, v) :: keepM r tm | none => keepM r tm

/-! ### The blocks that are named, numbered anew -/
def tg0 : At → List Nat
  | .ptr t _ _ => [t]
  | .sl t _ _ _ => [t]
  | .vw t _ _ _ => [t]
  | _ => []
def tg0s : List At → List Nat
  | [] => []
  | a :: r => tg0 a ++ tg0s r
def tg1 : At → List Nat
  | .fn _ caps => tg0s caps
  | a => tg0 a
def tg1s : List At → List Nat
  | [] => []
  | a :: r => tg1 a ++ tg1s r
def tgT : TV → List Nat
  | .one a => tg1 a
  | .agg cs => tg1s cs
def tgTs : List TV → List Nat
  | [] => []
  | a :: r => tgT a ++ tgTs r
def tgV : AV → List Nat
  | .top => []
  | .v x => tgT x
  | .tup vs => tgTs vs
def tgM : List (Nat × AV) → List Nat
  | [] => []
  | (_, v) :: r => tgV v ++ tgM r
def tgB : Body → List Nat
  | .cells cs => tg1s cs
  | _ => []
def tgH : Nat → List Blk → List Nat
  | 0, _ => []
  | _, [] => []
  | n + 1, b :: r => tgB b.body ++ tgH n r
/-- The blocks from number 'lo' on that can be reached, in the order in which they are met. -/
def reach (lo : Nat) (H : List Blk) : Nat → List Nat → List Nat → List Nat
  | 0, _, acc => acc
  | _, [], acc => acc
  | n + 1, t :: r, acc => match Nat.ble lo t with
    | false => reach lo H n r acc
    | true => match mem t acc with
      | true => reach lo H n r acc
      | false => match nth H t with
        | some b => reach lo H n (tgB b.body ++ r) (acc ++ [t])
        | none => reach lo H n r acc
/-- The new number of a block. -/
def idx : List Nat → Nat → Nat → Option Nat
  | [], _, _ => none
  | u :: r, n, t => match Nat.beq u t with | true => some n | false => idx r (n + 1) t
def renN (lo : Nat) (ord : List Nat) (t : Nat) : Option Nat := match Nat.blt t lo with | true => some t | false => idx ord lo t
def ren0 (lo : Nat) (ord : List Nat) : At → At
  | .ptr t o e => match renN lo ord t with | some t => .ptr t o e | none => .any
  | .sl t o l s => match renN lo ord t with | some t => .sl t o l s | none => .any
  | .vw t o l s => match renN lo ord t with | some t => .vw t o l s | none => .any
  | a => a
def ren0s (lo : Nat) (ord : List Nat) : List At → List At
  | [] => []
  | a :: r => ren0 lo ord a :: ren0s lo ord r
def ren1 (lo : Nat) (ord : List Nat) : At → At
  | .fn f caps => .fn f (ren0s lo ord caps)
  | a => ren0 lo ord a
def ren1s (lo : Nat) (ord : List Nat) : List At → List At
  | [] => []
  | a :: r => ren1 lo ord a :: ren1s lo ord r
def renT (lo : Nat) (ord : List Nat) : TV → TV
  | .one a => .one (ren1 lo ord a)
  | .agg cs => .agg (ren1s lo ord cs)
def renTs (lo : Nat) (ord : List Nat) : List TV → List TV
  | [] => []
  | a :: r => renT lo ord a :: renTs lo ord r
def renV (lo : Nat) (ord : List Nat) : AV → AV
  | .top => .top
  | .v x => .v (renT lo ord x)
  | .tup vs => .tup (renTs lo ord vs)
def renM (lo : Nat) (ord : List Nat) : List (Nat × AV) → List (Nat × AV)
  | [] => []
  | (d, v) :: r => (d, renV lo ord v) :: renM lo ord r
def renB (lo : Nat) (ord : List Nat) : Body → Body
  | .cells cs => .cells (ren1s lo ord cs)
  | b => b
def pickH (lo : Nat) (ord : List Nat) (H : List Blk) : List Nat → List Blk
  | [] => []
  | t :: r => match nth H t with
    | some b => ⟨b.own, renB lo ord b.body⟩ :: pickH lo ord H r
    | none => pickH lo ord H r
def upto : Nat → Nat → List Nat
  | _, 0 => []
  | i, n + 1 => i :: upto (i + 1) n
/-- Is each a block from 'lo' on, and none met twice? -/
def fitO (lo n : Nat) : List Nat → Bool
  | [] => true
  | t :: r => match Nat.ble lo t with
    | false => false
    | true => match Nat.blt t n with
      | false => false
      | true => match mem t r with
        | true => false
        | false => fitO lo n r
def compact (lo : Nat) (tm : List (Nat × AV)) (H : List Blk) : St :=
  let ord := reach lo H 256 (tgM tm ++ tgH lo H) []
  match fitO lo H.length ord with
  | true => ⟨renM lo ord tm, pickH lo ord H (upto 0 lo ++ ord)⟩
  | false => ⟨tm, H⟩

/-- What a loop comes to. -/
inductive LO where
  | one (e : Ex) (st : St)
  | two (c : Bool) (x y : LO)
def runLO {R : Type} : LO → (Ex → St → Option R) → Option R
  | .one e st, k => k e st
  | .two c x y, k => br c (runLO x k) (runLO y k)
def pick : LO → Ex × St
  | .one e st => (e, st)
  | .two c x y => br c (pick x) (pick y)
/-- The number of a piece of code: that of its first region. -/
def lidO : Code → Option Nat
  | .region id _ _ => some id
  | .seq a b => match lidO a with | some n => some n | none => lidO b
  | .cond _ a b => match lidO a with | some n => some n | none => lidO b
  | .block _ c => lidO c
  | .loop c => lidO c
  | _ => none
def lid (c : Code) : Nat := match lidO c with | some n => n | none => 0
/-- The bodies of all loops. -/
def loopsIn : Code → List Code
  | .loop c => c :: loopsIn c
  | .seq a b => loopsIn a ++ loopsIn b
  | .cond _ a b => loopsIn a ++ loopsIn b
  | .block _ c => loopsIn c
  | _ => []

/-! ### What the evaluator knows of the program -/
inductive Desc where
  | bool | int (k : IntKind) | flt (k : FloatKind) | cx (k : FloatKind)
  | sl (elem : TypeId) | struct (fs : List (Nat × TypeId)) | ptr (elem : TypeId) | other
/-- How a row of such elements is kept. -/
inductive RowK where
  | fl (k : FloatKind) | il (k : IntKind) | bl | gen
structure TI where
  desc : Desc
  agg : Bool
  size : Nat
  bytes : Nat
  zero : List At
  row : RowK
  cts : List TypeId := []               -- the types of its cells

structure FnI where
  code : Code
  nt : Nat
  res : List ResultVar
  live : List (Nat × List Nat)           -- by region: the slots that are looked at later
  nl : List (Nat × (RowK × Nat)) := []   -- by loop: what a slice without room is taken for
  rn : List (RowK × Nat) := []           -- by the results' cells: the same

/-- A value with all that it leads to. -/
inductive PV where
  | s (a : At)
  | row (sz len : Nat) (b : Body)
inductive PT where
  | one (p : PV)
  | agg (ps : List PV)
  | ptr (ps : List PV)
  | fn (f : FuncId) (caps : List PV)

structure Ctx where
  ty : List (Nat × TI)
  fns : List (Nat × FnI)
  /-- Functions that only look at what they are given and make what they hand back: what is owed; what they answer (the blocks that they make numbered from 0 on). -/
  sum : FuncId → List PT → Option (Bool × AV × List Blk)
  /-- Loops: by function, the loop's number, how many blocks were there at the function's beginning, the state. -/
  lp : FuncId → Nat → Nat → St → Option (Bool × LO) := fun _ _ _ _ => none

section
variable (Γ : Ctx) {R : Type}

def avOf : Value → AV
  | .bool b => .v (.one (.bool b))
  | .int k n => .v (.one (.int k n))
  | .float k b => match Nat.blt b (2 ^ k.format.width) with | true => .v (.one (.flt k (cn k b))) | false => .top
  | .complex k a b => match Nat.blt a (2 ^ k.format.width), Nat.blt b (2 ^ k.format.width) with | true, true => .v (.one (.cx k (cn k a) (cn k b))) | _, _ => .top
  | .slice none 0 0 => .v (.one .nilsl)
  | _ => .top
def opnd (tm : List (Nat × AV)) : Operand → AV
  | .tmp t => get tm t
  | .const v => avOf v
  | .func f => .v (.one (.fn f []))
  | .global _ => .top
def opnds (tm : List (Nat × AV)) : List Operand → List AV
  | [] => []
  | x :: r => opnd tm x :: opnds tm r

def A1 (a : At) : AV := .v (.one a)

/-! ### Rows -/
def asFl (k : FloatKind) : List At → Option (List Nat)
  | [] => some []
  | .flt k' x :: r => match decide (k = k') with
    | true => match asFl k r with | some xs => some (x :: xs) | none => none
    | false => none
  | _ :: _ => none
def asIl (k : IntKind) : List At → Option (List Int)
  | [] => some []
  | .int k' x :: r => match decide (k = k') with
    | true => match asIl k r with | some xs => some (x :: xs) | none => none
    | false => none
  | _ :: _ => none
def asBl : List At → Option (List Bool)
  | [] => some []
  | .bool x :: r => match asBl r with | some xs => some (x :: xs) | none => none
  | _ :: _ => none
def mkRow (q : RowK) (cs : List At) : Option Body :=
  match q with
  | .fl k => match asFl k cs with | some xs => some (.fl k xs) | none => none
  | .il k => match asIl k cs with | some xs => some (.il k xs) | none => none
  | .bl => match asBl cs with | some xs => some (.bl xs) | none => none
  | .gen => some (.cells cs)
/-- 'n' cells from 'off' on. -/
def getN (b : Body) (off : Nat) : Nat → Option (List At)
  | 0 => some []
  | n + 1 => match b.get off with
    | some a => match getN b (off + 1) n with | some r => some (a :: r) | none => none
    | none => none
def setN (b : Body) (off : Nat) : List At → Option Body
  | [] => some b
  | a :: r => match b.set off a with | some b' => setN b' (off + 1) r | none => none
/-- Part of a row: the cells from 'off' on, 'n' of them. -/
def Body.part (b : Body) (off n : Nat) : Body :=
  match b with
  | .cells cs => .cells ((cs.drop off).take n)
  | .fl k xs => .fl k ((xs.drop off).take n)
  | .il k xs => .il k ((xs.drop off).take n)
  | .bl xs => .bl ((xs.drop off).take n)
  | .dead m => .dead (min n (m - off))
/-- One row behind another. -/
def Body.app : Body → Body → Option Body
  | .fl k a, .fl k' b => match decide (k = k') with | true => some (.fl k (a ++ b)) | false => none
  | .il k a, .il k' b => match decide (k = k') with | true => some (.il k (a ++ b)) | false => none
  | .bl a, .bl b => some (.bl (a ++ b))
  | _, _ => none
/-- 'n' elements that are zero. -/
def isZ : RowK → At → Bool
  | .fl k, .flt k' x => decide (k = k') && Nat.beq x 0
  | .il k, .int k' n => decide (k = k') && decide (n = 0)
  | .bl, .bool b => !b
  | _, _ => false
def allZ (q : RowK) : List At → Bool
  | [] => true
  | a :: r => match isZ q a with | true => allZ q r | false => false
def zeros (i : TI) (n : Nat) : Option Body :=
  match allZ i.row i.zero with
  | false => none
  | true => match i.row with
    | .fl k => some (.fl k (List.replicate (n * i.size) 0))
    | .il k => some (.il k (List.replicate (n * i.size) 0))
    | .bl => some (.bl (List.replicate (n * i.size) false))
    | .gen => none

/-! ### Operations that make nothing and write nothing -/
abbrev eqI (x y : Int) : Bool := decide (x = y)
abbrev neI (x y : Int) : Bool := !decide (x = y)
abbrev ltI (x y : Int) : Bool := decide (x < y)
abbrev leI (x y : Int) : Bool := decide (x ≤ y)
abbrev bnot (a : Bool) : Bool := !a
abbrev band (a b : Bool) : Bool := a && b
abbrev beqB (a b : Bool) : Bool := a == b
abbrev addI (j : IntKind) (a b : Int) : Int := j.wrap (a + b)
abbrev subI (j : IntKind) (a b : Int) : Int := j.wrap (a - b)
abbrev negI (j : IntKind) (n : Int) : Int := j.wrap (0 - n)
abbrev mulI (j : IntKind) (a b : Int) : Int := j.wrap (a * b)
abbrev quoI (j : IntKind) (a b : Int) : Int := j.wrap (a.tdiv b)
abbrev remI (a b : Int) : Int := a.tmod b
abbrev cvI (j : IntKind) (n : Int) : Int := j.wrap n
abbrev nanQ (k : FloatKind) (x : Nat) : Bool := nanB k x
abbrev okNz (b : Int) : Bool := decide (b ≠ 0)
abbrev okIx (n : Int) (len : Nat) : Bool := decide (0 ≤ n ∧ n < (len : Int))
abbrev okSl (l h : Int) (len : Nat) : Bool := decide (0 ≤ l ∧ l ≤ h ∧ h ≤ (len : Int))
abbrev okMk (n m : Int) (bytes : Nat) : Bool := decide (n = m ∧ 0 ≤ n ∧ n ≤ 1099511627776 ∧ bytes ≤ 64)
abbrev okA1 (m bytes ssize sz : Nat) (row : Bool) : Bool := decide (m ≤ 1099511627776 ∧ bytes ≤ 64 ∧ ssize = m * sz ∧ row = true)
abbrev okA2 (len m bytes ssize bsize sz : Nat) : Bool := decide (len + m ≤ 1099511627776 ∧ bytes ≤ 64 ∧ ssize = m * sz ∧ bsize = len * sz)
def bitI (op : BinOp) (j : IntKind) (x y : Int) : Int :=
  match op with
  | .and => j.wrap (BitVec.ofInt j.bits x &&& BitVec.ofInt j.bits y).toNat
  | .or => j.wrap (BitVec.ofInt j.bits x ||| BitVec.ofInt j.bits y).toNat
  | .xor => j.wrap (BitVec.ofInt j.bits x ^^^ BitVec.ofInt j.bits y).toNat
  | _ => j.wrap (BitVec.ofInt j.bits x &&& ~~~BitVec.ofInt j.bits y).toNat
/-- A shift: to the left, to the right. -/
def shI (left : Bool) (j : IntKind) (x y : Int) : Int := match left with
  | true => j.wrap (x * 2 ^ (min y.toNat j.bits))
  | false => x.fdiv (2 ^ (min y.toNat j.bits))
def isSh : BinOp → Option Bool
  | .shl => some true
  | .shr => some false
  | _ => none
def isBit : BinOp → Bool
  | .and | .or | .xor | .andNot => true
  | _ => false
def maI (x y : Int) : Int := if y > x then y else x
def miI (x y : Int) : Int := if y < x then y else x
abbrev okNn (b : Int) : Bool := decide (0 ≤ b)
abbrev okZ (n : Nat) : Bool := decide (n = 0)
/-- Two ways of which either may be gone where the test says so: they must come to the same. -/
noncomputable def unk {R : Type} (c : Bool) (x y : Option R) : Option R := by
  classical exact match c with
    | true => if x = y then y else none
    | false => y
theorem unk_inv {R : Type} {c : Bool} {x y : Option R} {r : R} (h : unk c x y = some r) : (c = true → x = some r) ∧ y = some r := by
  classical
  cases c with
  | true =>
    simp only [unk] at h
    split at h
    · rename_i e; exact ⟨fun _ => e.trans h, h⟩
    · cases h
  | false => exact ⟨(fun q => by cases q), h⟩
theorem unk_out {α β : Type} {o : Option α → Option β} (h0 : o none = none) (hi : ∀ a b, o a = o b → a = b) {c : Bool} {a b : Option β} {a' b' : Option α} (h : a = o a') (k : b = o b') : unk c a b = o (unk c a' b') := by
  classical
  cases c with
  | true =>
    simp only [unk]
    by_cases e : a' = b'
    · have e1 : a = b := by rw [h, k, e]
      rw [if_pos e, if_pos e1]; exact k
    · have e1 : ¬ a = b := fun q => e (hi _ _ (by rw [← h, ← k]; exact q))
      rw [if_neg e, if_neg e1]; exact h0.symm
  | false => exact k
def cmpI (op : BinOp) (x y : Int) : Option Bool :=
  match op with
  | .eql => some (eqI x y)
  | .neq => some (neI x y)
  | .lss => some (ltI x y)
  | .leq => some (leI x y)
  | .gtr => some (ltI y x)
  | .geq => some (leI y x)
  | _ => none
def isArith : BinOp → Bool
  | .add | .sub | .mul | .quo => true
  | _ => false
def isCmp : BinOp → Bool
  | .eql | .neq | .lss | .leq | .gtr | .geq => true
  | _ => false

def evBin (d : Desc) (op : BinOp) (x y : AV) (k : AV → Option R) : Option R :=
  match x, y with
  | .v (.one (.int j a)), .v (.one (.int j' b)) =>
    match isSh op with
    | some sh => grd (okNn b) (k (A1 (.int j (shI sh j a b))))
    | none => match decide (j = j') with
      | false => none
      | true => match op with
        | .add => k (A1 (.int j (addI j a b)))
        | .sub => k (A1 (.int j (subI j a b)))
        | .mul => k (A1 (.int j (mulI j a b)))
        | .quo => grd (okNz b) (k (A1 (.int j (quoI j a b))))
        | .rem => grd (okNz b) (k (A1 (.int j (remI a b))))
        | op => match isBit op with
          | true => k (A1 (.int j (bitI op j a b)))
          | false => match cmpI op a b with | some c => k (A1 (.bool c)) | none => none
  | .v (.one (.flt j a)), .v (.one (.flt j' b)) =>
    match decide (j = j') with
    | false => none
    | true => match isArith op with
      | true => k (A1 (.flt j (fop op j a b)))
      | false => match isCmp op with
        | true => k (A1 (.bool (fcmp op j a b)))
        | false => none
  | .v (.one (.cx j a b)), .v (.one (.cx j' c d)) =>
    match decide (j = j') with
    | false => none
    | true => match op with
      | .add => k (A1 (.cx j (fop .add j a c) (fop .add j b d)))
      | .sub => k (A1 (.cx j (fop .sub j a c) (fop .sub j b d)))
      | .eql => k (A1 (.bool (band (fcmp .eql j a c) (fcmp .eql j b d))))
      | .neq => k (A1 (.bool (bnot (band (fcmp .eql j a c) (fcmp .eql j b d)))))
      | _ => none
  | .v (.one (.bool a)), .v (.one (.bool b)) =>
    match d, op with
    | .bool, .eql => k (A1 (.bool (beqB a b)))
    | .bool, .neq => k (A1 (.bool (bnot (beqB a b))))
    | _, _ => none
  | _, _ => none

def evUn (op : UnOp) (x : AV) (k : AV → Option R) : Option R :=
  match op, x with
  | .not, .v (.one (.bool b)) => k (A1 (.bool (bnot b)))
  | .neg, .v (.one (.int j n)) => k (A1 (.int j (negI j n)))
  | .neg, .v (.one (.flt j x)) => k (A1 (.flt j (fneg j x)))
  | .neg, .v (.one (.cx j x y)) => k (A1 (.cx j (fneg j x) (fneg j y)))
  | _, _ => none

def evConv (d : Desc) (x : AV) (k : AV → Option R) : Option R :=
  match d, x with
  | .int j, .v (.one (.int _ n)) => k (A1 (.int j (cvI j n)))
  | .flt j, .v (.one (.int _ n)) => k (A1 (.flt j (floatOfInt j n)))
  | .flt .f64, .v (.one (.flt .f32 b)) => k (A1 (.flt .f64 (fcvV .f32 .f64 b)))
  | .flt .f32, .v (.one (.flt .f64 b)) => grd (fcvB .f64 .f32 b) (k (A1 (.flt .f32 (fcvV .f64 .f32 b))))
  | .flt .f32, .v (.one (.flt .f32 b)) => k (A1 (.flt .f32 b))
  | .flt .f64, .v (.one (.flt .f64 b)) => k (A1 (.flt .f64 b))
  | .int j, .v (.one (.flt s b)) => grd (f2iB s b j) (k (A1 (.int j (f2iV s b j))))
  | _, _ => none

/-- Operations that look at the slots and at memory alone. -/
def evQ (o : Op) (tm : List (Nat × AV)) (H : List Blk) (k : AV → Option R) : Option R :=
  match o with
  | .move x => k (opnd tm x)
  | .assign x => k (opnd tm x)
  | .pick c a b => match opnd tm c with
    | .v (.one (.bool c)) => br c (k (opnd tm a)) (k (opnd tm b))
    | _ => none
  | .binOp op T x y _ => match look Γ.ty T with
    | some i => evBin i.desc op (opnd tm x) (opnd tm y) k
    | none => none
  | .unOp op _ x => evUn op (opnd tm x) k
  | .convert src dst x => match look Γ.ty src, look Γ.ty dst with
    | some _, some i => evConv i.desc (opnd tm x) k
    | _, _ => none
  | .nilCheck x => match opnd tm x with
    | .v (.one (.ptr t off ext)) => k (A1 (.ptr t off ext))
    | .v (.one (.fn f caps)) => k (A1 (.fn f caps))
    | _ => none
  | .load T a => match opnd tm a with
    | .v (.one (.ptr t off ext)) => match look Γ.ty T, nth H t with
      | some i, some b => match Nat.ble i.size ext with
        | false => none
        | true => match i.agg with
          | true => match getN b.body off i.size with | some cs => k (.v (.agg cs)) | none => none
          | false => match Nat.beq i.size 1 with
            | true => match b.body.get off with
              | some a => match isAny a with | true => none | false => k (A1 a)
              | none => none
            | false => none
      | _, _ => none
    | _ => none
  | .fieldAddr T a f => match opnd tm a with
    | .v (.one (.ptr t off ext)) => match look Γ.ty T with
      | some i => match i.desc with
        | .struct fs => match nth fs f with
          | some (fo, ft) => match look Γ.ty ft with
            | some fi => match Nat.ble 1 fi.size with
              | true => match Nat.ble (fo + fi.size) ext with
                | true => k (A1 (.ptr t (off + fo) fi.size))
                | false => none
              | false => none
            | none => none
          | none => none
        | _ => none
      | none => none
    | _ => none
  | .field T a f => match opnd tm a with
    | .v (.agg cs) => match look Γ.ty T with
      | some i => match i.desc with
        | .struct fs => match nth fs f with
          | some (fo, ft) => match look Γ.ty ft with
            | some fi => match fi.agg with
              | true => match getN (.cells cs) fo fi.size with | some ds => k (.v (.agg ds)) | none => none
              | false => match nth cs fo with
                | some a => match isAny a with | true => none | false => k (A1 a)
                | none => none
            | none => none
          | none => none
        | _ => none
      | none => none
    | _ => none
  | .indexAddr T x i => match look Γ.ty T with
    | some ti => match ti.desc with
      | .sl e => match look Γ.ty e with
        | some ei => match opnd tm x, opnd tm i with
          | .v (.one (.sl t off len sz)), .v (.one (.int _ n)) => match Nat.beq sz ei.size with
            | true => grd (okIx n len) (k (A1 (.ptr t (off + n.toNat * sz) sz)))
            | false => none
          | .v (.one (.vw t off len sz)), .v (.one (.int _ n)) => match Nat.beq sz ei.size with
            | true => grd (okIx n len) (k (A1 (.ptr t (off + n.toNat * sz) sz)))
            | false => none
          | _, _ => none
        | none => none
      | _ => none
    | none => none
  | .slice T x lo hi mx => match look Γ.ty T with
    | some ti => match ti.desc with
      | .sl e => match look Γ.ty e with
        | some ei =>
          let bound (o : Option Operand) (dflt : Nat) (k : Int → Option R) : Option R :=
            match o with
            | none => k dflt
            | some x => match opnd tm x with | .v (.one (.int _ n)) => k n | _ => none
          match opnd tm x with
          | .v (.one (.sl t off len sz)) => match Nat.beq sz ei.size with
            | false => none
            | true => match mx with
              | some (.const (.int _ 0)) => match hi with
                | some (.const (.int _ 0)) => match lo with
                  | none => k (A1 .nilsl)
                  | some _ => none
                | _ => none
              | some _ => none
              | none => bound lo 0 fun l => bound hi len fun h => grd (okSl l h len) (k (A1 (.sl t (off + l.toNat * sz) (h.toNat - l.toNat) sz)))
          | .v (.one (.vw t off len sz)) => match Nat.beq sz ei.size with
            | false => none
            | true => match mx with
              | some (.const (.int _ 0)) => match hi with
                | some (.const (.int _ 0)) => match lo with
                  | none => k (A1 .nilsl)
                  | some _ => none
                | _ => none
              | some _ => none
              | none => bound lo 0 fun l => bound hi len fun h => grd (okSl l h len) (k (A1 (.vw t (off + l.toNat * sz) (h.toNat - l.toNat) sz)))
          | .v (.one .nilsl) => match mx with
              | some (.const (.int _ 0)) => match hi with
                | some (.const (.int _ 0)) => match lo with
                  | none => k (A1 .nilsl)
                  | some _ => none
                | _ => none
              | _ => none
          | _ => none
        | none => none
      | _ => none
    | none => none
  | .extract x i => match opnd tm x with
    | .tup vs => match nth vs i with | some x => k (.v x) | none => none
    | _ => none
  | .makeFunc fn first caps => match fn with
    | .func f => match first.toList with
      | [] => match caps.toList with
        | [] => k (A1 (.fn f []))
        | [x] => match opnd tm x with | .v (.one a) => (match isFn a with | true => none | false => k (A1 (.fn f [a]))) | _ => none
        | [x, y] => match opnd tm x, opnd tm y with
          | .v (.one a), .v (.one b) => (match isFn a, isFn b with | false, false => k (A1 (.fn f [a, b])) | _, _ => none)
          | _, _ => none
        | _ => none
      | _ => none
    | _ => none
  | .call c => match c.callee with
    | .builtin .len => match c.argTypes.toList with
     | [T] => match look Γ.ty T with
      | some ti => match ti.desc with
       | .sl _ => match opnds tm c.args.toList with
         | [.v (.one (.sl _ _ n _))] => k (A1 (.int .i64 n))
         | [.v (.one (.vw _ _ n _))] => k (A1 (.int .i64 n))
         | [.v (.one .nilsl)] => k (A1 (.int .i64 0))
         | _ => none
       | _ => none
      | none => none
     | _ => none
    | .builtin .real => match opnds tm c.args.toList with
      | [.v (.one (.cx j a _))] => k (A1 (.flt j a))
      | _ => none
    | .builtin .imag => match opnds tm c.args.toList with
      | [.v (.one (.cx j _ b))] => k (A1 (.flt j b))
      | _ => none
    | .builtin .complex => match opnds tm c.args.toList with
      | [.v (.one (.flt j a)), .v (.one (.flt j' b))] => match decide (j = j') with | true => k (A1 (.cx j a b)) | false => none
      | _ => none
    | .builtin .max => match opnds tm c.args.toList with
      | [.v (.one (.int j a)), .v (.one (.int _ b))] => k (A1 (.int j (maI a b)))
      | _ => none
    | .builtin .min => match opnds tm c.args.toList with
      | [.v (.one (.int j a)), .v (.one (.int _ b))] => k (A1 (.int j (miI a b)))
      | _ => none
    | _ => none
  | _ => none

/-! ### Operations that make memory or write -/
/-- The cells of a struct's or a slice's parts, laid over zeros. -/
def fillA (cs : List At) : List (Nat × Nat × AV) → Option (List At)
  | [] => some cs
  | (off, sz, v) :: r => match cellsV v with
    | some ds => match Nat.beq ds.length sz with
      | true => match Nat.ble (off + sz) cs.length with
        | true => match setN (.cells cs) off ds with
          | some (.cells cs') => fillA cs' r
          | _ => none
        | false => none
      | false => none
    | none => none
def places (Γ : Ctx) (fs : List (Nat × TypeId)) (tm : List (Nat × AV)) : List (Nat × Operand) → Option (List (Nat × Nat × AV))
  | [] => some []
  | (i, x) :: r => match nth fs i with
    | some (fo, ft) => match look Γ.ty ft with
      | some fi => match places Γ fs tm r with
        | some ps => some ((fo, fi.size, opnd tm x) :: ps)
        | none => none
      | none => none
    | none => none
def elems (sz : Nat) (tm : List (Nat × AV)) : List (Nat × Operand) → List (Nat × Nat × AV)
  | [] => []
  | (i, x) :: r => (i * sz, sz, opnd tm x) :: elems sz tm r
def repL {α : Type} (xs : List α) : Nat → List α
  | 0 => []
  | n + 1 => xs ++ repL xs n

/-- What a slice reads as. -/
def rdSl (H : List Blk) : AV → Option (Nat × Body)
  | .v (.one (.sl t off len sz)) => match nth H t with | some b => some (len, b.body.part off (len * sz)) | none => none
  | .v (.one (.vw t off len sz)) => match nth H t with | some b => some (len, b.body.part off (len * sz)) | none => none
  | _ => none

/-- What is made is put at number 'slot'. Handed on: the value, the blocks that turn, the blocks that were looked at. -/
def evE (slot : Nat) (o : Op) (tm : List (Nat × AV)) (H : List Blk) (k : AV → List (Nat × Blk) → List Nat → Option R) : Option R :=
  match o with
  | .box _ x => match cellsV (opnd tm x) with
    | some cs => k (A1 (.ptr slot 0 cs.length)) [(slot, ⟨true, .cells cs⟩)] []
    | none => none
  | .alloc T => match look Γ.ty T with
    | some i => k (A1 (.ptr slot 0 i.zero.length)) [(slot, ⟨true, .cells i.zero⟩)] []
    | none => none
  | .build T parts => match look Γ.ty T with
    | some i => match i.desc with
      | .struct fs => match places Γ fs tm parts.toList with
        | some ps => match fillA i.zero ps with | some cs => k (.v (.agg cs)) [] [] | none => none
        | none => none
      | _ => none
    | none => none
  | .buildSlice T len parts => match look Γ.ty T with
    | some i => match i.desc with
      | .sl e => match look Γ.ty e with
        | some ei => match Nat.ble (len * ei.size) 16777216 with
          | true => match fillA (repL ei.zero len) (elems ei.size tm parts.toList) with
            | some cs => match mkRow ei.row cs with
              | some b => k (A1 (.sl slot 0 len ei.size)) [(slot, ⟨true, b⟩)] []
              | none => none
            | none => none
          | false => none
        | none => none
      | _ => none
    | none => none
  | .store T a x => match opnd tm a with
    | .v (.one (.ptr t off ext)) => match look Γ.ty T, nth H t, cellsV (opnd tm x) with
      | some i, some b, some cs => match Nat.beq cs.length i.size with
        | true => match Nat.ble i.size ext with
          | true => match b.own with
            | true => match setN b.body off cs with
              | some b' => k (.tup []) [(t, ⟨true, b'⟩)] [t]
              | none => none
            | false => none
          | false => none
        | false => none
      | _, _, _ => none
    | _ => none
  | .makeSlice T l c => match look Γ.ty T with
    | some i => match i.desc with
      | .sl e => match look Γ.ty e with
        | some ei => match opnd tm l, opnd tm c with
          | .v (.one (.int .i64 n)), .v (.one (.int .i64 m)) =>
            grd (okMk n m ei.bytes) (match zeros ei n.toNat with
              | some b => k (A1 (.sl slot 0 n.toNat ei.size)) [(slot, ⟨true, b⟩)] []
              | none => none)
          | _, _ => none
        | none => none
      | _ => none
    | none => none
  | .call c => match c.callee with
    | .builtin .append => match c.argTypes.toList, opnds tm c.args.toList with
      | [T, T'], [s, x] => match look Γ.ty T, look Γ.ty T' with
        | some i, some _ => match i.desc, Nat.beq T T' with
          | .sl e, true => match look Γ.ty e, rdSl H x with
            | some ei, some (m, src) => match s with
              | .v (.one .nilsl) =>
                grd (okA1 m ei.bytes src.size ei.size src.isRow)
                  (k (A1 (.sl slot 0 m ei.size)) [(slot, ⟨true, src⟩)] (tgV x))
              | .v (.one (.sl t off len sz)) => match nth H t with
                | some b => match b.own, Nat.beq off 0, Nat.beq sz ei.size with
                  | true, true, true => match b.body.app src with
                    | some b' => grd (okA2 len m ei.bytes src.size b.body.size ei.size)
                        (k (A1 (.sl slot 0 (len + m) sz)) [(t, ⟨false, .dead b.body.size⟩), (slot, ⟨true, b'⟩)] (t :: tgV x))
                    | none => none
                  | _, _, _ => none
                | none => none
              | _ => none
            | _, _ => none
          | _, _ => none
        | _, _ => none
      | _, _ => none
    | _ => none
  | _ => none
def edit : List (Nat × Blk) → List Blk → List Blk
  | [], H => H
  | (t, b) :: r, H => edit r (setL H t b)
def ph : Blk := ⟨false, .dead 0⟩

/-! ### Calls of functions that only look and make -/
/-- An empty row of a kind. -/
def mtRow : RowK → Body
  | .fl k => .fl k []
  | .il k => .il k []
  | .bl => .bl []
  | .gen => .cells []
/-- A cell with all that it leads to; the blocks that were looked at. -/
def dpA (H : List Blk) (T : TypeId) (a : At) : Option (PV × List Nat) :=
  match a with
  | .bool b => some (.s (.bool b), [])
  | .int k n => some (.s (.int k n), [])
  | .flt k x => some (.s (.flt k x), [])
  | .cx k x y => some (.s (.cx k x y), [])
  | .sl t off len sz => match nth H t with | some b => (match b.body.isRow with | true => some (.row sz len (b.body.part off (len * sz)), [t]) | false => none) | none => none
  | .vw t off len sz => match nth H t with | some b => (match b.body.isRow with | true => some (.row sz len (b.body.part off (len * sz)), [t]) | false => none) | none => none
  | .nilsl => match look Γ.ty T with
    | some i => match i.desc with
      | .sl e => match look Γ.ty e with
        | some ei => match (mtRow ei.row).isRow with | true => some (.row ei.size 0 (mtRow ei.row), []) | false => none
        | none => none
      | _ => none
    | none => none
  | _ => none
def dpAs (H : List Blk) : List TypeId → List At → Option (List PV × List Nat)
  | _, [] => some ([], [])
  | Ts, a :: r => match dpA Γ H (Ts.headD 0) a, dpAs H Ts.tail r with
    | some (p, x), some (ps, y) => some (p :: ps, x ++ y)
    | _, _ => none
def cts (Γ : Ctx) (T : TypeId) : List TypeId := match look Γ.ty T with | some i => i.cts | none => []
def dpV (H : List Blk) (T : TypeId) (v : AV) : Option (PT × List Nat) :=
  match v with
  | .v (.one (.ptr t off ext)) => match nth H t with
    | some b => match getN b.body off ext with
      | some cs => match Nat.beq ext 0 with
        | true => none
        | false => match dpAs Γ H (cts Γ (match look Γ.ty T with | some i => (match i.desc with | .ptr e => e | _ => 0) | none => 0)) cs with
          | some (ps, x) => some (.ptr ps, t :: x)
          | none => none
      | none => none
    | none => none
  | .v (.one (.fn f caps)) => match dpAs Γ H [] caps with | some (ps, x) => some (.fn f ps, x) | none => none
  | .v (.one a) => match dpA Γ H T a with | some (p, x) => some (.one p, x) | none => none
  | .v (.agg cs) => match dpAs Γ H (cts Γ T) cs with | some (ps, x) => some (.agg ps, x) | none => none
  | _ => none
def dpVs (H : List Blk) : List TypeId → List AV → Option (List PT × List Nat)
  | _, [] => some ([], [])
  | Ts, a :: r => match dpV Γ H (Ts.headD 0) a, dpVs H Ts.tail r with
    | some (p, x), some (ps, y) => some (p :: ps, x ++ y)
    | _, _ => none

/-- What was made, numbered from 's' on. -/
def sh0 (s : Nat) : At → At
  | .ptr t o e => .ptr (t + s) o e
  | .sl t o l z => .sl (t + s) o l z
  | .vw t o l z => .vw (t + s) o l z
  | a => a
def sh0s (s : Nat) : List At → List At
  | [] => []
  | a :: r => sh0 s a :: sh0s s r
def sh1 (s : Nat) : At → At
  | .fn f caps => .fn f (sh0s s caps)
  | a => sh0 s a
def sh1s (s : Nat) : List At → List At
  | [] => []
  | a :: r => sh1 s a :: sh1s s r
def shT (s : Nat) : TV → TV
  | .one a => .one (sh1 s a)
  | .agg cs => .agg (sh1s s cs)
def shTs (s : Nat) : List TV → List TV
  | [] => []
  | a :: r => shT s a :: shTs s r
def shV (s : Nat) : AV → AV
  | .top => .top
  | .v x => .v (shT s x)
  | .tup vs => .tup (shTs s vs)
def shB (s : Nat) : Body → Body
  | .cells cs => .cells (sh1s s cs)
  | b => b
def shH (s : Nat) : List Blk → List Blk
  | [] => []
  | b :: r => ⟨b.own, shB s b.body⟩ :: shH s r
/-- The blocks that a call has made, each at its number. -/
def mades (s : Nat) : Nat → List Blk → List (Nat × Blk)
  | _, [] => []
  | i, b :: r => (s + i, ⟨b.own, shB s b.body⟩) :: mades s (i + 1) r

/-! ### Regions -/
variable (hd : FuncId → List AV → List Blk → (AV → List Blk → Option R) → Option R)

def evCall (c : Call) (st : St) (k : AV → St → Option R) : Option R :=
  match c.callee with
  | .value f => match opnd st.tm f with
    | .v (.one (.fn g caps)) => match dpVs Γ st.H c.argTypes.toList (opnds st.tm c.args.toList ++ caps.map A1) with
      | some (pts, _) => match Γ.sum g pts with
        | some (b, v, news) => grd b (k (shV st.H.length v) ⟨st.tm, st.H ++ shH st.H.length news⟩)
        | none => hd g (opnds st.tm c.args.toList ++ caps.map A1) st.H fun v H => k v ⟨st.tm, H⟩
      | none => hd g (opnds st.tm c.args.toList ++ caps.map A1) st.H fun v H => k v ⟨st.tm, H⟩
    | _ => none
  | _ => none

def isNilC : Operand → Bool
  | .const (.slice none _ _) => true
  | _ => false
/-- Is a slice nil? That is not known where it has no elements. -/
noncomputable def nilQ (op : BinOp) (len : Nat) (k : AV → Option R) : Option R :=
  match op with
  | .eql => unk (okZ len) (k (A1 (.bool true))) (k (A1 (.bool false)))
  | .neq => unk (okZ len) (k (A1 (.bool false))) (k (A1 (.bool true)))
  | _ => none
noncomputable def evNil (op : BinOp) (T : TypeId) (x : AV) (k : AV → Option R) : Option R :=
  match look Γ.ty T with
  | some i => match i.desc with
    | .sl _ => match x with
      | .v (.one (.sl _ _ len _)) => nilQ op len k
      | .v (.one (.vw _ _ len _)) => nilQ op len k
      | _ => none
    | _ => none
  | none => none

/-- Which of the four an operation is: it only looks (0), it makes or writes (1), it calls (2), it asks whether a slice is nil (3). -/
def kindOf : Op → Nat
  | .binOp _ _ _ y _ => match isNilC y with | true => 3 | false => 0
  | .box .. | .alloc .. | .build .. | .buildSlice .. | .store .. | .makeSlice .. => 1
  | .call c => match c.callee with | .value _ => 2 | .builtin .append => 1 | _ => 0
  | _ => 0
noncomputable def evOp (o : Op) (st : St) (k : AV → St → Option R) : Option R :=
  match kindOf o with
  | 0 => evQ Γ o st.tm st.H fun v => k v st
  | 1 => evE Γ st.H.length o st.tm (st.H ++ [ph]) fun v ed _ => k v ⟨st.tm, edit ed (st.H ++ [ph])⟩
  | _ => match o with
    | .call c => evCall Γ hd c st k
    | .binOp op T x _ _ => evNil Γ op T (opnd st.tm x) fun v => k v st
    | _ => none

def okDst (nt : Nat) : Option Nat → Bool
  | none => true
  | some d => Nat.blt d nt
def dstAt (ops : List Oper) (j : Nat) : Option Nat := match nth ops j with | some o => o.dst | none => none

/-- One operation, with its guard. -/
noncomputable def evOper (nt : Nat) (all : List Oper) (o : Oper) (st : St) (k : St → Option R) : Option R :=
  let run (st : St) : Option R := match okDst nt o.dst with
    | true => evOp Γ hd o.op st fun v st' => k ⟨put st'.tm o.dst v, st'.H⟩
    | false => none
  let skip (st : St) : Option R := match okDst nt o.dst with
    | true => k ⟨put st.tm o.dst (.tup []), st.H⟩
    | false => none
  match o.guard with
  | none => run st
  | some (j, want) => match dstAt all j with
    | none => none
    | some d => match get st.tm d with
      | .v (.one (.bool b)) => match want with
        | true => br b (run ⟨(d, A1 (.bool true)) :: st.tm, st.H⟩) (skip ⟨(d, A1 (.bool false)) :: st.tm, st.H⟩)
        | false => br b (skip ⟨(d, A1 (.bool true)) :: st.tm, st.H⟩) (run ⟨(d, A1 (.bool false)) :: st.tm, st.H⟩)
      | .tup [] => skip st
      | _ => none

noncomputable def evOps (nt : Nat) (all : List Oper) : List Oper → St → (St → Option R) → Option R
  | [], st, k => k st
  | o :: r, st, k => evOper Γ hd nt all o st fun st' => evOps nt all r st' k

/-! ### A region whose order is drawn -/
/-- How many blocks one operation may make there. -/
def room : Nat := 8
/-- One operation there: its value, the blocks that turn, the blocks looked at. -/
def evD (slot : Nat) (o : Op) (tm : List (Nat × AV)) (H : List Blk) (k : AV → List (Nat × Blk) → List Nat → Option R) : Option R :=
  match kindOf o with
  | 0 => evQ Γ o tm H fun v => k v [] (match o with | .load _ a => tgV (opnd tm a) | _ => [])
  | 1 => evE Γ slot o tm H k
  | _ => match o with
    | .call c => match c.callee with
      | .value f => match opnd tm f with
        | .v (.one (.fn g caps)) => match dpVs Γ H c.argTypes.toList (opnds tm c.args.toList ++ caps.map A1) with
          | some (pts, rd) => match Γ.sum g pts with
            | some (b, v, news) => match Nat.ble news.length room with
              | true => grd b (k (shV slot v) (mades slot 0 news) rd)
              | false => none
            | none => none
          | none => none
        | _ => none
      | _ => none
    | _ => none
/-- What an operation there has done: its number, the blocks that turned, the blocks that were looked at. -/
structure Did where
  i : Nat
  md : List Nat
  rd : List Nat
def fsts : List (Nat × Blk) → List Nat
  | [] => []
  | (t, _) :: r => t :: fsts r
def wd (o : Oper) : Nat := match kindOf o.op with | 0 => 0 | _ => room
def evDs (nt : Nat) (all : List Oper) : Nat → Nat → List Oper → St → List Did → (St → List Did → Option R) → Option R
  | _, _, [], st, log, k => k st log
  | i, slot, o :: r, st, log, k =>
    let run (st : St) : Option R := match okDst nt o.dst with
      | true => evD Γ slot o.op st.tm st.H fun v ed rd => evDs nt all (i + 1) (slot + wd o) r ⟨put st.tm o.dst v, edit ed st.H⟩ (⟨i, fsts ed, rd⟩ :: log) k
      | false => none
    let skip (st : St) : Option R := match okDst nt o.dst with
      | true => evDs nt all (i + 1) (slot + wd o) r ⟨put st.tm o.dst (.tup []), st.H⟩ log k
      | false => none
    match o.guard with
    | none => run st
    | some (j, want) => match dstAt all j with
      | none => none
      | some d => match get st.tm d with
        | .v (.one (.bool b)) => match want with
          | true => br b (run ⟨(d, A1 (.bool true)) :: st.tm, st.H⟩) (skip ⟨(d, A1 (.bool false)) :: st.tm, st.H⟩)
          | false => br b (skip ⟨(d, A1 (.bool true)) :: st.tm, st.H⟩) (run ⟨(d, A1 (.bool false)) :: st.tm, st.H⟩)
        | .tup [] => skip st
        | _ => none
def makes : List Oper → Nat
  | [] => 0
  | o :: r => match kindOf o.op with | 0 => makes r | _ => makes r + 1
def phs : Nat → List Blk
  | 0 => []
  | n + 1 => ph :: phs n
/-- Which operations come before which: by number, bit by bit. -/
def befs (ops : List Oper) : List Nat → List Nat
  | acc => match ops with
    | [] => acc
    | o :: r => befs r (acc ++ [o.after.toList.foldl (fun s e => match Region.binds .any e with | true => s ||| 2 ^ e.on ||| (match nth acc e.on with | some x => x | none => 0) | false => s) 0])
def apart2 (a b : List Nat) : Bool := match a with
  | [] => true
  | t :: r => match mem t b with | true => false | false => apart2 r b
def okPair (bf : List Nat) (x y : Did) : Bool :=   -- x younger than y in the text's order, x.i > y.i
  match (match nth bf x.i with | some m => m.testBit y.i | none => false) with
  | true => true
  | false => apart2 x.md y.rd && apart2 y.md x.rd && apart2 x.md y.md
def okOne (bf : List Nat) (x : Did) : List Did → Bool
  | [] => true
  | y :: r => match okPair bf x y with | true => okOne bf x r | false => false
def okLog (bf : List Nat) : List Did → Bool
  | [] => true
  | x :: r => match okOne bf x r with | true => okLog bf r | false => false
/-- The slots of operations that nothing orders are apart (of the region alone: reckoned once). -/
def slotsOne (ops : Array Oper) (m : Nat) (o : Oper) : Nat → List Oper → Bool
  | _, [] => true
  | j, x :: r => match m.testBit j with
    | true => slotsOne ops m o (j + 1) r
    | false => match Oper.apart ops x o with | true => slotsOne ops m o (j + 1) r | false => false
def slotsOk (ops : Array Oper) (bf : List Nat) : Nat → List Oper → Bool
  | _, [] => true
  | i, o :: r => match slotsOne ops (match nth bf i with | some m => m | none => 0) o 0 (ops.toList.take i) with
    | true => slotsOk ops bf (i + 1) r
    | false => false
/-! ### Slices without room are taken for rows of length nothing -/
structure DN where
  p : Nat
  n : Nat
  new : List Blk
def dnA (κ : Nat → RowK × Nat) (s : DN) (a : At) : At × DN :=
  match a with
  | .nilsl => match κ s.p with | (q, sz) => (.sl s.n 0 0 sz, ⟨s.p + 1, s.n + 1, s.new ++ [⟨true, mtRow q⟩]⟩)
  | a => (a, ⟨s.p + 1, s.n, s.new⟩)
def dnL (κ : Nat → RowK × Nat) (s : DN) : List At → List At × DN
  | [] => ([], s)
  | a :: r => match dnA κ s a with | (a', s1) => match dnL κ s1 r with | (r', s2) => (a' :: r', s2)
def dnT (κ : Nat → RowK × Nat) (s : DN) : TV → TV × DN
  | .one a => match dnA κ s a with | (a', s1) => (.one a', s1)
  | .agg cs => match dnL κ s cs with | (cs', s1) => (.agg cs', s1)
def dnTs (κ : Nat → RowK × Nat) (s : DN) : List TV → List TV × DN
  | [] => ([], s)
  | a :: r => match dnT κ s a with | (a', s1) => match dnTs κ s1 r with | (r', s2) => (a' :: r', s2)
def dnV (κ : Nat → RowK × Nat) (s : DN) : AV → AV × DN
  | .top => (.top, s)
  | .v x => match dnT κ s x with | (x', s1) => (.v x', s1)
  | .tup vs => match dnTs κ s vs with | (vs', s1) => (.tup vs', s1)
def dnM (κ : Nat → RowK × Nat) (s : DN) : List (Nat × AV) → List (Nat × AV) × DN
  | [] => ([], s)
  | (t, v) :: r => match dnV κ s v with | (v', s1) => match dnM κ s1 r with | (r', s2) => ((t, v') :: r', s2)
def dnH (κ : Nat → RowK × Nat) (s : DN) : List Blk → List Blk × DN
  | [] => ([], s)
  | b :: r => match b.body with
    | .cells cs => match dnL κ s cs with | (cs', s1) => match dnH κ s1 r with | (r', s2) => (⟨b.own, .cells cs'⟩ :: r', s2)
    | _ => match dnH κ s r with | (r', s2) => (b :: r', s2)
/-- At a loop. -/
def denilL (lo : Nat) (nl : List (Nat × (RowK × Nat))) (id : Nat) (st : St) : St :=
  match look nl id with
  | none => st
  | some q => match dnM (fun _ => q) ⟨0, st.H.length, []⟩ st.tm with
    | (tm, s1) => match dnH (fun _ => q) s1 st.H with
      | (H, s2) => compact lo tm (H ++ s2.new)
/-- At the results. -/
def denilR (rn : List (RowK × Nat)) (v : AV) (H : List Blk) : AV × List Blk :=
  match rn with
  | [] => (v, H)
  | rn => match dnV (fun p => rn.getD p (.gen, 1)) ⟨0, H.length, []⟩ v with | (v', s) => (v', H ++ s.new)
/-- A last operation that waits for all others and that is no operation to be done in whatever order: it is done as in the text's order. -/
def splitLast : List Oper → Option (List Oper × Oper)
  | [] => none
  | [o] => some ([], o)
  | o :: r => match splitLast r with | some (l, x) => some (o :: l, x) | none => none
def allBits (m : Nat) : Nat → Bool
  | 0 => true
  | n + 1 => match m.testBit n with | true => allBits m n | false => false
def lastOf (ops : List Oper) : Option (List Oper × Oper) :=
  match splitLast ops with
  | some (l, o) => match kindOf o.op with
    | 2 => match (match nth (befs ops []) l.length with | some m => allBits m l.length | none => false) with
      | true => match o.op with
        | .call c => match c.callee with
          | .value (.func _) => some (l, o)
          | _ => none
        | _ => none
      | false => none
    | _ => none
  | none => none
/-- Each operation waits for earlier ones alone. -/
def aftOk : Nat → List Oper → Bool
  | _, [] => true
  | i, o :: r => match o.after.toList.all fun e => (!Region.binds .any e) || Nat.blt e.on i with
    | true => aftOk (i + 1) r
    | false => false
def codeOk : Code → Bool
  | .region _ ops draw => match draw with
    | true => match slotsOk ops (befs ops.toList []) 0 ops.toList with
      | true => aftOk 0 ops.toList
      | false => false
    | false => true
  | .seq a b => match codeOk a with | true => codeOk b | false => false
  | .cond _ a b => match codeOk a with | true => codeOk b | false => false
  | .block _ c => codeOk c
  | .loop c => codeOk c
  | _ => true

def clean (lo : Nat) (live : List (Nat × List Nat)) (id : Nat) (st : St) : St :=
  match look live id with
  | some l => compact lo (keepM l st.tm) st.H
  | none => st

/-- (The first three numbers say which loop it is: for reading alone.) -/
def iter (f id lo : Nat) (F : St → (Ex → St → Option R) → Option R) : Nat → St → (Ex → St → Option R) → Option R
  | 0, _, _ => none
  | n + 1, st, k => F st fun e st' => match e with | .normal => iter f id lo F n st' k | e => k e st'

noncomputable def evC (f lo nt : Nat) (live : List (Nat × List Nat)) (nl : List (Nat × (RowK × Nat))) (fuel : Nat) : Code → St → (Ex → St → Option R) → Option R
  | .skip, st, k => k .normal st
  | .region id ops draw, st, k => match draw with
    | false => evOps Γ hd nt ops.toList ops.toList st fun st' => k .normal (clean lo live id st')
    | true => match lastOf ops.toList with
      | none => evDs Γ nt ops.toList 0 st.H.length ops.toList ⟨st.tm, st.H ++ phs (room * makes ops.toList)⟩ [] fun st' log => match okLog (befs ops.toList []) log with
        | true => k .normal (clean lo live id st')
        | false => none
      | some (r, o) => evDs Γ nt ops.toList 0 st.H.length r ⟨st.tm, st.H ++ phs (room * makes r)⟩ [] fun st' log => match okLog (befs ops.toList []) log with
        | true => evOper Γ hd nt ops.toList o st' fun st' => k .normal (clean lo live id st')
        | false => none
  | .seq a b, st, k => evC f lo nt live nl fuel a st fun e st' => match e with | .normal => evC f lo nt live nl fuel b st' k | e => k e st'
  | .cond c a b, st, k => match opnd st.tm c with
    | .v (.one (.bool c)) => br c (evC f lo nt live nl fuel a st k) (evC f lo nt live nl fuel b st k)
    | _ => none
  | .block id c, st, k => evC f lo nt live nl fuel c st fun e st' => match e with
    | .exit id' => match Nat.beq id' id with | true => k .normal st' | false => k (.exit id') st'
    | e => k e st'
  | .loop c, st, k => match Γ.lp f (lid c) lo (denilL lo nl (lid c) st) with
    | some (b, out) => grd b (runLO out k)
    | none => iter f (lid c) lo (evC f lo nt live nl fuel c) fuel (denilL lo nl (lid c) st) k
  | .exit id, st, k => k (.exit id) st
  | .ret, st, k => k .ret st
  | _, _, _ => none

/-- The results. -/
def resTV (tm : List (Nat × AV)) (H : List Blk) : List ResultVar → Option (List TV)
  | [] => some []
  | .tmp t :: r => match get tm t with
    | .v x => match resTV tm H r with | some xs => some (x :: xs) | none => none
    | _ => none
  | .cell t T :: r => match get tm t with
    | .v (.one (.ptr t off ext)) => match look Γ.ty T, nth H t with
      | some i, some b => match Nat.ble i.size ext with
        | false => none
        | true => match i.agg with
          | true => match getN b.body off i.size with
            | some cs => match resTV tm H r with | some xs => some (.agg cs :: xs) | none => none
            | none => none
          | false => match Nat.beq i.size 1 with
            | true => match b.body.get off with
              | some a => match isAny a with
                | true => none
                | false => match resTV tm H r with | some xs => some (.one a :: xs) | none => none
              | none => none
            | false => none
      | _, _ => none
    | _ => none
def resAV (tm : List (Nat × AV)) (H : List Blk) (rs : List ResultVar) : Option AV :=
  match resTV Γ tm H rs with
  | some [x] => some (.v x)
  | some xs => some (.tup xs)
  | none => none
def argTm : Nat → List AV → List (Nat × AV)
  | _, [] => []
  | i, v :: r => (i, v) :: argTm (i + 1) r

noncomputable def evBody (f : FuncId) (fi : FnI) (fuel : Nat) (args : List AV) (H : List Blk) (k : AV → List Blk → Option R) : Option R :=
  match Nat.ble args.length fi.nt with
  | false => none
  | true => evC Γ hd f H.length fi.nt fi.live fi.nl fuel fi.code ⟨argTm 0 args, H⟩ fun e st => match e with
    | .exit _ => none
    | _ => match resAV Γ st.tm st.H fi.res with
      | some v => match denilR fi.rn v st.H with
        | (v, H1) => match compact H.length [(0, v)] H1 with
          | ⟨tm, H'⟩ => k (get tm 0) H'
      | none => none

/-- A call: its body is gone through. -/
noncomputable def evFn (fuel : Nat) : Nat → FuncId → List AV → List Blk → (AV → List Blk → Option R) → Option R
  | 0, _, _, _, _ => none
  | d + 1, f, args, H, k => match look Γ.fns f with
    | some fi => evBody Γ (evFn fuel d) f fi fuel args H k
    | none => none
end
end Go.Rf
