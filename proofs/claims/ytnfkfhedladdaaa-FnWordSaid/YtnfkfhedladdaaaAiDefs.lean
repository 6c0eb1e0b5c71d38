/- An abstract interpreter for the translated program: values, a local memory of numbered blocks, operations. Definitions alone. -/
import Derived.Calls
import Derived.Orders
namespace Go.AI

/-- Values of the abstract machine. A cell is never 'agg' or 'tup'. -/
inductive V where
  | lit (v : Value)
  | agg (cs : List V)
  | tup (vs : List V)
  | ptr (b i o n : Nat)
  | sl (b s n : Nat)
  | imm (e : Nat) (rows : List (List V))
  | iptr (row : List V) (o : Nat)
  | fn (f : FuncId) (caps : List V)
  | undef
  deriving Inhabited

/-- A block of memory: rows of 'esz' cells; 'op': its cells may lead to other blocks. -/
structure Blk where
  esz : Nat
  op : Bool
  rows : List (List V)

abbrev Heap := Nat → Option Blk

/-- A cell that leads to no block. -/
def V.cl : V → Bool
  | .lit _ | .imm _ _ | .iptr _ _ => true
  | .fn _ [] => true
  | _ => false

def litCell : Value → Bool
  | .agg _ | .tuple _ => false
  | _ => true

/-- What may be laid into one cell. -/
def V.cell : V → Bool
  | .lit v => litCell v
  | .ptr .. | .sl .. | .imm .. | .iptr .. | .fn .. => true
  | _ => false

/-- Slices of no rows are told in one way alone. -/
def V.cz : V → V
  | .lit (.slice none 0 0) => .imm 1 []
  | .imm _ [] => .imm 1 []
  | v => v

def V.czA : V → V
  | .agg cs => .agg (cs.map V.cz)
  | v => v.cz

def V.czR : V → V
  | .tup vs => .tup (vs.map V.czA)
  | v => v.czA

def Blk.cz (k : Blk) : Blk := if k.op then { k with rows := k.rows.map (·.map V.cz) } else k

/-- A cell of a zero value. -/
def zc (v : Value) : V := (V.lit v).cz

/-- The cells of a value. -/
def V.cells : V → List V
  | .agg cs => cs
  | v => [v]

inductive Opd where
  | t (n : Nat)
  | c (v : Value)
  | f (k : FuncId)
  deriving Inhabited

def Opd.ev (f : Nat → V) : Opd → V
  | .t n => f n
  | .c v => .lit v
  | .f k => .fn k []

inductive AOp where
  | mv (x : Opd)
  | pick (c a b : Opd)
  | alloc (zero : List Value)
  | box (size : Nat) (x : Opd)
  | build (zero : List Value) (parts : List (Nat × Nat × Opd))
  | buildSlice (esz : Nat) (zero : List Value) (len : Nat) (parts : List (Nat × Opd))
  | load (agg : Option Nat) (a : Opd)
  | store (size : Nat) (a x : Opd)
  | nilCheck (x : Opd)
  | bin (op : BinOp) (x y : Opd)
  | eqAgg (neg : Bool) (ks : List Bool) (x y : Opd)
  | beq (neg : Bool) (x y : Opd)
  | un (op : UnOp) (x : Opd)
  | toInt (k : IntKind) (x : Opd)
  | same (x : Opd)
  | toBytes (x : Opd)
  | toStr (x : Opd)
  | makeFunc (f : FuncId) (caps : List Opd)
  | makeSlice (esz bytes : Nat) (zero : List Value) (len cap : Opd)
  | sliceStr (x : Opd) (lo hi : Option Opd)
  | slice (esz : Nat) (x : Opd) (lo hi mx : Option Opd)
  | off (d : Nat) (x : Opd)
  | field (d : Nat) (agg : Option Nat) (x : Opd)
  | idx (esz : Nat) (x i : Opd)
  | idxArr (len esz : Nat) (x i : Opd)
  | ixStr (x i : Opd)
  | ixAgg (len esz : Nat) (agg : Option Nat) (x i : Opd)
  | ext (x : Opd) (i : Nat)
  | len (str : Bool) (x : Opd)
  | lenArr (n : Nat) (x : Opd)
  | isNil (neg : Bool) (x : Opd)
  | append (esz bytes : Nat) (zero : List Value) (x y : Opd)
  | appendN (esz bytes : Nat) (zero : List Value) (x y : Opd)
  | copy (esz : Nat) (x y : Opd)
  | max2 (x y : Opd)
  | min2 (x y : Opd)
  | arrOf (len : Nat) (x : Opd)
  | bytesOwn (x : Opd)
  | call (f : FuncId) (args : List Opd)
  | dyn (f : Opd) (args : List Opd)
  deriving Inhabited

def optL : Option Opd → List Opd
  | some x => [x]
  | none => []

def AOp.opds : AOp → List Opd
  | .mv x | .box _ x | .load _ x | .nilCheck x | .un _ x | .toInt _ x | .same x | .toBytes x | .toStr x | .off _ x | .field _ _ x | .ext x _ | .len _ x | .lenArr _ x | .isNil _ x | .arrOf _ x | .bytesOwn x => [x]
  | .pick c a b => [c, a, b]
  | .alloc _ => []
  | .build _ ps => ps.map (·.2.2)
  | .buildSlice _ _ _ ps => ps.map (·.2)
  | .store _ a x => [a, x]
  | .bin _ x y | .beq _ x y | .eqAgg _ _ x y | .makeSlice _ _ _ x y | .idx _ x y | .idxArr _ _ x y | .ixStr x y | .ixAgg _ _ _ x y | .append _ _ _ x y | .appendN _ _ _ x y | .copy _ x y | .max2 x y | .min2 x y => [x, y]
  | .makeFunc _ cs => cs
  | .sliceStr x lo hi => x :: (optL lo ++ optL hi)
  | .slice _ x lo hi mx => x :: (optL lo ++ (optL hi ++ optL mx))
  | .call _ args => args
  | .dyn f args => f :: args

/-! ### words over values -/

/-- What stands where a block was that is no more: nothing that leads to it serves. -/
def dead : Blk := ⟨0, false, []⟩

/-- A slice of the machine's own seen as plain rows: its rows, and the block that stands for no more. -/
def snap (h : Heap) : V → Option (V × List Nat)
  | .sl b s n => match h b with
    | some k => if k.op = false ∧ 0 < k.esz ∧ s + n = k.rows.length then some (.imm k.esz (k.rows.drop s), [b]) else none
    | none => none
  | v => if v.cl && v.cell then some (v, []) else none

/-- The cells of a value, each made to lead nowhere. -/
def snaps (h : Heap) : List V → Option (List V × List Nat)
  | [] => some ([], [])
  | v :: r => match snap h v, snaps h r with
    | some (v', bs), some (r', bs') => some (v'.cz :: r', bs ++ bs')
    | _, _ => none

abbrev Upd := List (Nat × Blk)

def dropB (bs : List Nat) : Upd := bs.map fun b => (b, dead)

def hset (h : Heap) (b : Nat) (k : Blk) : Heap := fun b' => if b' = b then some k else h b'

def happ (h : Heap) : Upd → Heap
  | [] => h
  | (b, k) :: r => happ (hset h b k) r

/-- The rows behind a slice, whatever its kind (nothing is taken from it). -/
def rowsOf (h : Heap) (esz : Nat) : V → Option (List (List V))
  | .sl b s n => match h b with
    | some k => if k.op = false ∧ 0 < k.esz ∧ k.esz = esz ∧ s + n = k.rows.length then some (k.rows.drop s) else none
    | none => none
  | .imm e rows => if e = esz then some rows else if rows.isEmpty then some [] else none
  | .lit (.slice none 0 0) => some []
  | .lit (.slice (some _) 0 _) => some []
  | .lit (.string s) => if esz = 1 then some (s.data.toList.map fun b => [.lit (.int .u8 b.toNat)]) else none
  | _ => none

def isStr : V → Bool
  | .lit (.string _) => true
  | _ => false

def asI : V → Option Int
  | .lit (.int _ n) => some n
  | _ => none

def okBound : Nat := 1099511627776   -- 2 to the 40: no slice of this machine has as many cells

/-- Operators on plain values. -/
def binLit (op : BinOp) : Value → Value → Option Value
  | .int k a, .int k' b =>
    match op with
    | .shl => if 0 ≤ b then some (.int k (k.wrap (a * 2 ^ (min b.toNat k.bits)))) else none
    | .shr => if 0 ≤ b then some (.int k (a.fdiv (2 ^ (min b.toNat k.bits)))) else none
    | .add => if k = k' then some (.int k (k.wrap (a + b))) else none
    | .sub => if k = k' then some (.int k (k.wrap (a - b))) else none
    | .mul => if k = k' then some (.int k (k.wrap (a * b))) else none
    | .quo => if k = k' ∧ b ≠ 0 then some (.int k (k.wrap (a.tdiv b))) else none
    | .rem => if k = k' ∧ b ≠ 0 then some (.int k (a.tmod b)) else none
    | .and => if k = k' then some (.int k (k.wrap (BitVec.ofInt k.bits a &&& BitVec.ofInt k.bits b).toNat)) else none
    | .or => if k = k' then some (.int k (k.wrap (BitVec.ofInt k.bits a ||| BitVec.ofInt k.bits b).toNat)) else none
    | .xor => if k = k' then some (.int k (k.wrap (BitVec.ofInt k.bits a ^^^ BitVec.ofInt k.bits b).toNat)) else none
    | .andNot => if k = k' then some (.int k (k.wrap (BitVec.ofInt k.bits a &&& ~~~ BitVec.ofInt k.bits b).toNat)) else none
    | .eql => if k = k' then some (.bool (a == b)) else none
    | .neq => if k = k' then some (.bool (a != b)) else none
    | .lss => if k = k' then some (.bool (decide (a < b))) else none
    | .leq => if k = k' then some (.bool (decide (a ≤ b))) else none
    | .gtr => if k = k' then some (.bool (decide (a > b))) else none
    | .geq => if k = k' then some (.bool (decide (a ≥ b))) else none
  | .string a, .string b =>
    match op with
    | .add => if a.size + b.size ≤ okBound then some (.string (a ++ b)) else none
    | .eql => some (.bool (a.toList == b.toList))
    | .neq => some (.bool !(a.toList == b.toList))
    | _ => none
  | _, _ => none

def unLit (op : UnOp) : Value → Option Value
  | .int k n => match op with
    | .neg => some (.int k (k.wrap (0 - n)))
    | .xor => some (.int k (k.wrap (BitVec.ofInt k.bits (if k.signed then -1 else k.max) ^^^ BitVec.ofInt k.bits n).toNat))
    | _ => none
  | .bool b => match op with
    | .not => some (.bool !b)
    | _ => none
  | _ => none

/-- Cells, compared: numbers (true) and texts. -/
def eqCells : List Bool → List V → List V → Option Bool
  | [], [], [] => some true
  | true :: ks, .lit (.int k a) :: x, .lit (.int k' b) :: y => if k = k' then (if a = b then eqCells ks x y else some false) else none
  | false :: ks, .lit (.string a) :: x, .lit (.string b) :: y => if a = b then eqCells ks x y else some false
  | _, _, _ => none

def boundOf (o : Option V) (dflt : Nat) (most : Nat) : Option Nat :=
  match o with
  | none => some dflt
  | some v => match asI v with
    | some i => if 0 ≤ i ∧ i ≤ most then some i.toNat else none
    | none => none

/-- Parts laid into cells. -/
def fillC (cells : List V) : List (Nat × Nat × V) → Option (List V)
  | [] => some cells
  | (off, size, v) :: r =>
    if v.cells.length = size ∧ off + size ≤ cells.length ∧ v.cells.all V.cell then fillC (cells.take off ++ (v.cells ++ cells.drop (off + size))) r else none

def fillR (esz : Nat) (rows : List (List V)) : List (Nat × V) → Option (List (List V))
  | [] => some rows
  | (i, v) :: r => if v.cells.length = esz ∧ i < rows.length ∧ v.cells.all V.cell then fillR esz (rows.set i v.cells) r else none

def part (agg : Option Nat) (cs : List V) (o : Nat) : Option V :=
  match agg with
  | none => cs[o]?
  | some n => if o + n ≤ cs.length then some (.agg ((cs.drop o).take n)) else none

/-- What a function of the program comes to: its arguments, and the blocks that it is handed (block i is the i-th), lead to its result and what these blocks are then; at most one block more. -/
abbrev CallS := FuncId → List V → List Blk → Option (V × List Blk)

/-! ### a call's way to its callee: blocks that are handed over are numbered anew, in the order in which they are met -/

def posOf (b : Nat) : List Nat → Nat
  | [] => 0
  | x :: r => if x = b then 0 else posOf b r + 1

def withId (ids : List Nat) (b : Nat) : List Nat := if b ∈ ids then ids else ids ++ [b]

/-- A slice that is handed over as it stands ('own'), or as plain rows. -/
def locCell (h : Heap) (own : Bool) (ids : List Nat) : V → Option (V × List Nat × List Nat)
  | .lit v => some (.lit v, ids, [])
  | .imm e r => some (.imm e r, ids, [])
  | .iptr r o => some (.iptr r o, ids, [])
  | .undef => some (.undef, ids, [])
  | .fn f [] => some (.fn f [], ids, [])
  | .ptr b i o n => match h b with
    | some k => if k.rows.length = n then some (.ptr (posOf b (withId ids b)) i o n, withId ids b, []) else none
    | none => none
  | .sl b s n => match h b with
    | some k => if s + n = k.rows.length then
        (if own then some (.sl (posOf b (withId ids b)) s n, withId ids b, []) else if k.op = false ∧ 0 < k.esz then some (.imm k.esz (k.rows.drop s), ids, [b]) else none) else none
    | none => none
  | _ => none

def locCells (h : Heap) (own : Bool) : List Nat → List V → Option (List V × List Nat × List Nat)
  | ids, [] => some ([], ids, [])
  | ids, v :: r => match locCell h own ids v with
    | some (v', ids', bs) => match locCells h own ids' r with
      | some (r', ids'', bs') => some (v' :: r', ids'', bs ++ bs')
      | none => none
    | none => none

/-- An argument: a cell, cells, or a function with what it has captured. -/
def locArg (h : Heap) (own : Bool) (ids : List Nat) : V → Option (V × List Nat × List Nat)
  | .agg cs => match locCells h own ids cs with
    | some (cs', ids', bs) => some (.agg cs', ids', bs)
    | none => none
  | .fn f caps => match locCells h true ids caps with
    | some (cs', ids', bs) => some (.fn f cs', ids', bs)
    | none => none
  | v => locCell h own ids v

def locArgs (h : Heap) (owns : List Nat) : Nat → List Nat → List V → Option (List V × List Nat × List Nat)
  | _, ids, [] => some ([], ids, [])
  | j, ids, v :: r => match locArg h (j ∈ owns) ids v with
    | some (v', ids', bs) => match locArgs h owns (j + 1) ids' r with
      | some (r', ids'', bs') => some (v' :: r', ids'', bs ++ bs')
      | none => none
    | none => none

/-- The cells of a block that is handed over: functions with what they have captured, too. -/
def locDs (h : Heap) : List Nat → List V → Option (List V × List Nat)
  | ids, [] => some ([], ids)
  | ids, v :: r => match locArg h true ids v with
    | some (v', ids', _) => match locDs h ids' r with
      | some (r', ids'') => some (v' :: r', ids'')
      | none => none
    | none => none

def locRows (h : Heap) : List Nat → List (List V) → Option (List (List V) × List Nat)
  | ids, [] => some ([], ids)
  | ids, x :: r => match locDs h ids x with
    | some (x', ids') => match locRows h ids' r with
      | some (r', ids'') => some (x' :: r', ids'')
      | none => none
    | none => none

/-- The blocks that are handed over, from place 'pos' of 'ids' on; what they lead to is handed over, too. -/
def locBlks (h : Heap) : Nat → Nat → List Nat → Option (List Blk × List Nat)
  | 0, _, _ => none
  | fuel + 1, pos, ids => match ids[pos]? with
    | none => some ([], ids)
    | some b => match h b with
      | none => none
      | some k =>
        if k.op = false then match locBlks h fuel (pos + 1) ids with
          | some (r, ids') => some (k :: r, ids')
          | none => none
        else match locRows h ids k.rows with
          | none => none
          | some (rows, ids1) => match locBlks h fuel (pos + 1) ids1 with
            | some (r, ids2) => some ({ k with rows := rows } :: r, ids2)
            | none => none

/-- Back to the caller's numbers: block i is the i-th of 'ids'. -/
def unV (ids : List Nat) : V → V
  | .ptr b i o n => .ptr (ids.getD b 0) i o n
  | .sl b s n => .sl (ids.getD b 0) s n
  | v => v

def unArg (ids : List Nat) : V → V
  | .agg cs => .agg (cs.map (unV ids))
  | .fn f cs => .fn f (cs.map (unV ids))
  | v => unV ids v

def unRes (ids : List Nat) : V → V
  | .tup vs => .tup (vs.map (unArg ids))
  | v => unArg ids v

def unBlk (ids : List Nat) (k : Blk) : Blk := if k.op = false then k else { k with rows := k.rows.map (·.map (unArg ids)) }

/-- Nothing in it is plain rows or leads to such. -/
def flatC : V → Bool
  | .lit _ | .ptr .. | .sl .. | .undef => true
  | _ => false
def flatA : V → Bool
  | .agg cs => cs.all flatC
  | v => flatC v
def flatR : V → Bool
  | .tup vs => vs.all flatA
  | v => flatA v
def flatB (k : Blk) : Bool := k.op && k.rows.all (·.all flatC)

def zipUpd : List Nat → List Blk → Upd
  | i :: r, k :: s => (i, k) :: zipUpd r s
  | _, _ => []

/-- The way there: what the callee is handed, its blocks, the caller's numbers of these, and which of the caller's blocks are shown as plain rows. -/
def callPrep (owns : FuncId → List Nat) (h : Heap) (f : FuncId) (args : List V) : Option (List V × List Blk × List Nat × List Nat) :=
  match locArgs h (owns f) 0 [] args with
  | none => none
  | some (args', ids0, bor) => match locBlks h 40 0 ids0 with
    | none => none
    | some (blks, ids) => if bor.any (fun b => decide (b ∈ ids)) = true then none else some (args', blks, ids, bor)

/-- The numbers of the blocks that come along. -/
def newsFor : List Nat → List Blk → Nat → List Nat
  | [], [], _ => []
  | [], _ :: r, n => n :: newsFor [] r (n + 1000000)
  | _ :: i, _ :: r, n => newsFor i r n
  | _ :: _, [], _ => []

theorem newsFor_len : ∀ {ids : List Nat} {bs : List Blk} {n : Nat}, ids.length ≤ bs.length → (newsFor ids bs n).length + ids.length = bs.length
  | [], [], n, _ => rfl
  | [], _ :: r, n, _ => by simp only [newsFor, List.length_cons]; have := @newsFor_len [] r (n + 1000000) (by simp); simpa using this
  | _ :: i, _ :: r, n, h => by simp only [newsFor, List.length_cons]; have := @newsFor_len i r n (by simpa using h); omega
  | _ :: _, [], n, h => by simp at h
theorem newsFor_ge : ∀ (ids : List Nat) (bs : List Blk) (n : Nat), ∀ b ∈ newsFor ids bs n, n ≤ b
  | [], [], n, b, h => by simp [newsFor] at h
  | [], _ :: r, n, b, h => by
    simp only [newsFor, List.mem_cons] at h
    rcases h with h | h
    · omega
    · have := newsFor_ge [] r (n + 1000000) b h; omega
  | _ :: i, _ :: r, n, b, h => newsFor_ge i r n b h
  | _ :: _, [], n, b, h => by simp [newsFor] at h
theorem newsFor_nd : ∀ (ids : List Nat) (bs : List Blk) (n : Nat), (newsFor ids bs n).Nodup
  | [], [], n => List.nodup_nil
  | [], _ :: r, n => by
    simp only [newsFor, List.nodup_cons]
    exact ⟨fun h => by have := newsFor_ge [] r (n + 1000000) n h; omega, newsFor_nd [] r _⟩
  | _ :: i, _ :: r, n => newsFor_nd i r n
  | _ :: _, [], n => List.nodup_nil

/-- The way back. -/
def callPost (h : Heap) (new : Nat) (ids bor : List Nat) (r : V) (blks' : List Blk) : Option (V × Upd) :=
  if ids.length ≤ blks'.length ∧ (newsFor ids blks' new).all (fun b => (h b).isNone) = true then
    some (unRes (ids ++ newsFor ids blks' new) r, zipUpd (ids ++ newsFor ids blks' new) (blks'.map (unBlk (ids ++ newsFor ids blks' new))) ++ (if (bor.isEmpty || (flatR r && blks'.all flatB)) = true then [] else dropB bor))
  else none

/-- What is handed over, told in one way (but to a function that takes it as it is: place 1000 is among its 'owns'). -/
def canArgs (owns : List Nat) (args : List V) : List V := if owns.contains 1000 then args else args.map V.czA
def canBlks (owns : List Nat) (blks : List Blk) : List Blk := if owns.contains 1000 then blks else blks.map Blk.cz

/-- A call, with its way there and back. 'owns': the places of the arguments that are handed over with their blocks. -/
def callOp (C : CallS) (owns : FuncId → List Nat) (h : Heap) (new : Nat) (f : FuncId) (args : List V) : Option (V × Upd) :=
  match callPrep owns h f args with
  | none => none
  | some (args', blks, ids, bor) => match C f (canArgs (owns f) args') (canBlks (owns f) blks) with
    | none => none
    | some (r, blks') => callPost h new ids bor r blks'

/-! ### operations -/

def rowOf (agg : Option Nat) (h : Heap) (a : V) : Option V :=
  match a with
  | .ptr b i o n => match h b with
    | some k => if k.rows.length = n then (match k.rows[i]? with
      | some row => part agg row o
      | none => none) else none
    | none => none
  | .iptr row o => part agg row o
  | _ => none

def fresh (h : Heap) (n : Nat) (k : Blk) (v : V) : Option (V × Upd) := if (h n).isNone = true ∧ 0 < k.esz then some (v, [(n, k)]) else none

def partsEv (ev : Opd → V) : List (Nat × Nat × Opd) → List (Nat × Nat × V)
  | [] => []
  | (a, b, x) :: r => (a, b, ev x) :: partsEv ev r

/-- Parts for the rows of a new slice: each is made to lead nowhere. -/
def partsSnap (h : Heap) (ev : Opd → V) : List (Nat × Opd) → Option (List (Nat × V) × List Nat)
  | [] => some ([], [])
  | (i, x) :: r => match snaps h (ev x).cells, partsSnap h ev r with
    | some (cs, bs), some (r', bs') => some ((i, .agg cs) :: r', bs ++ bs')
    | _, _ => none

/-- The machine's append, with what is put behind told as rows. -/
def apBody (esz bytes : Nat) (zero : List Value) (x : V) (sb : Nat → Bool) (h : Heap) (new : Nat) (new_ : List (List V)) : Option (V × Upd) :=
      if zero.length = esz ∧ 0 < esz ∧ new_.length * bytes ≤ okBound ∧ new_.length * esz ≤ okBound then
      (match x with
      | .sl b 0 n => match h b with
        | some k => if k.op = false ∧ 0 < k.esz ∧ k.esz = esz ∧ n = k.rows.length ∧ (n + new_.length) * bytes ≤ okBound ∧ (n + new_.length) * esz ≤ okBound ∧ sb b then
            some (.sl b 0 (n + new_.length), [(b, { k with rows := k.rows ++ new_ })]) else none
        | none => none
      | .lit (.slice none 0 0) => fresh h new ⟨esz, false, new_⟩ (.sl new 0 new_.length)
      | .imm 0 [] => fresh h new ⟨esz, false, new_⟩ (.sl new 0 new_.length)
      | _ => none) else none

def opSem (C : CallS) (owns : FuncId → List Nat) (o : AOp) (ev : Opd → V) (h : Heap) (new : Nat) : Option (V × Upd) :=
  match o with
  | .mv x => some (ev x, [])
  | .pick c a b => match ev c with
    | .lit (.bool true) => some (ev a, [])
    | .lit (.bool false) => some (ev b, [])
    | _ => none
  | .alloc zero => if zero.all litCell then fresh h new ⟨zero.length, true, [zero.map .lit]⟩ (.ptr new 0 0 1) else none
  | .box size x => if (ev x).cells.length = size ∧ (ev x).cells.all V.cell then fresh h new ⟨size, true, [(ev x).cells]⟩ (.ptr new 0 0 1) else none
  | .build zero parts => if zero.all litCell then (match fillC (zero.map .lit) (partsEv ev parts) with
    | some cs => some (.agg cs, [])
    | none => none) else none
  | .buildSlice esz zero len parts => match partsSnap h ev parts with
    | some (ps, bs) => match fillR esz (List.replicate len (zero.map zc)) ps with
      | some rows => if zero.length = esz ∧ zero.all litCell ∧ len * esz ≤ 16777216 ∧ ¬ new ∈ bs then
          (match fresh h new ⟨esz, false, rows⟩ (.sl new 0 len) with
           | some (v, u) => some (v, dropB bs ++ u)
           | none => none) else none
      | none => none
    | none => none
  | .load agg a => match rowOf agg h (ev a) with
    | some v => some (v, [])
    | none => none
  | .store size a x => match ev a with
    | .ptr b i o n => match h b with
      | some k => if k.rows.length = n then (match k.rows[i]? with
        | some row =>
          if k.op then
            (if (ev x).cells.length = size ∧ o + size ≤ row.length ∧ (ev x).cells.all V.cell then
              some (.undef, [(b, { k with rows := k.rows.set i (row.take o ++ ((ev x).cells ++ row.drop (o + size))) })]) else none)
          else match snaps h (ev x).cells with
            | some (cs, bs) => if cs.length = size ∧ o + size ≤ row.length ∧ ¬ b ∈ bs then
                some (.undef, dropB bs ++ [(b, { k with rows := k.rows.set i (row.take o ++ (cs ++ row.drop (o + size))) })]) else none
            | none => none
        | none => none) else none
      | none => none
    | _ => none
  | .nilCheck x => match ev x with
    | .ptr b i o n => match h b with
      | some k => if k.rows.length = n ∧ i < n then some (.ptr b i o n, []) else none
      | none => none
    | .iptr r o => some (.iptr r o, [])
    | .fn f c => some (.fn f c, [])
    | _ => none
  | .bin op x y => match ev x, ev y with
    | .lit a, .lit b => match binLit op a b with
      | some v => some (.lit v, [])
      | none => none
    | _, _ => none
  | .eqAgg neg ks x y => match ev x, ev y with
    | .agg a, .agg b => match eqCells ks a b with
      | some r => some (.lit (.bool (if neg then !r else r)), [])
      | none => none
    | _, _ => none
  | .beq neg x y => match ev x, ev y with
    | .lit (.bool a), .lit (.bool b) => some (.lit (.bool (if neg then a != b else a == b)), [])
    | _, _ => none
  | .un op x => match ev x with
    | .lit a => match unLit op a with
      | some v => some (.lit v, [])
      | none => none
    | _ => none
  | .toInt k x => match asI (ev x) with
    | some n => some (.lit (.int k (k.wrap n)), [])
    | none => none
  | .same x => match ev x with
    | .lit (.string s) => some (.lit (.string s), [])
    | _ => none
  | .toBytes x => match ev x with
    | .lit (.string s) => if s.size ≤ okBound then fresh h new ⟨1, false, s.data.toList.map fun b => [.lit (.int .u8 b.toNat)]⟩ (.sl new 0 s.size) else none
    | _ => none
  | .toStr x => if isStr (ev x) then none else match rowsOf h 1 (ev x) with
    | some rows => match bytesOf rows with
      | some l => some (.lit (.string ⟨l.toArray⟩), [])
      | none => none
    | none => none
  | .makeFunc f caps => some (.fn f (caps.map ev), [])
  | .makeSlice esz bytes zero len cap => match asI (ev len), asI (ev cap) with
    | some l, some c => if 0 ≤ l ∧ l ≤ c ∧ c * bytes ≤ okBound ∧ c * esz ≤ okBound ∧ zero.length = esz ∧ zero.all litCell then
        fresh h new ⟨esz, false, List.replicate l.toNat (zero.map zc)⟩ (.sl new 0 l.toNat) else none
    | _, _ => none
  | .sliceStr x lo hi => match ev x with
    | .lit (.string s) => match boundOf (hi.map ev) s.size s.size with
      | some b => match boundOf (lo.map ev) 0 b with
        | some a => some (.lit (.string (s.extract a b)), [])
        | none => none
      | none => none
    | _ => none
  | .slice esz x lo hi mx => match mx with
    | some _ => none
    | none => match ev x with
    | .lit (.slice none 0 0) => match boundOf (hi.map ev) 0 0 with
      | some q => match boundOf (lo.map ev) 0 q with
        | some _ => some (.lit (.slice none 0 0), [])
        | none => none
      | none => none
    | .sl b s n => match h b with
      | some k => if k.op = false ∧ 0 < k.esz ∧ k.esz = esz ∧ s + n = k.rows.length then (match boundOf (hi.map ev) n n with
        | some q => match boundOf (lo.map ev) 0 q with
          | some p => if q = n then some (.sl b (s + p) (n - p), []) else some ((V.imm esz (((k.rows.drop s).take q).drop p)).cz, [(b, dead)])
          | none => none
        | none => none) else none
      | none => none
    | .imm e rows => if e = esz ∨ rows = [] then (match boundOf (hi.map ev) rows.length rows.length with
        | some q => match boundOf (lo.map ev) 0 q with
          | some p => some ((V.imm e ((rows.take q).drop p)).cz, [])
          | none => none
        | none => none) else none
    | _ => none
  | .off d x => match ev x with
    | .ptr b i o n => some (.ptr b i (o + d) n, [])
    | .iptr r o => some (.iptr r (o + d), [])
    | _ => none
  | .field d agg x => match ev x with
    | .agg cs => match part agg cs d with
      | some v => some (v, [])
      | none => none
    | _ => none
  | .idx esz x i => match asI (ev i) with
    | some i => if 0 ≤ i then (match ev x with
      | .sl b s n => match h b with
        | some k => if 0 < k.esz ∧ k.esz = esz ∧ s + n = k.rows.length ∧ i.toNat < n then some (.ptr b (s + i.toNat) 0 k.rows.length, []) else none
        | none => none
      | .imm e rows => if e = esz then (match rows[i.toNat]? with
        | some row => some (.iptr row 0, [])
        | none => none) else none
      | _ => none) else none
    | none => none
  | .idxArr len esz x i => match asI (ev i) with
    | some i => if 0 ≤ i ∧ i.toNat < len then (match ev x with
      | .ptr b j o n => some (.ptr b j (o + i.toNat * esz) n, [])
      | .iptr r o => some (.iptr r (o + i.toNat * esz), [])
      | _ => none) else none
    | none => none
  | .ixStr x i => match ev x, asI (ev i) with
    | .lit (.string s), some i => if 0 ≤ i then (match s.data[i.toNat]? with
      | some b => some (.lit (.int .u8 b.toNat), [])
      | none => none) else none
    | _, _ => none
  | .ixAgg len esz agg x i => match ev x, asI (ev i) with
    | .agg cs, some i => if 0 ≤ i ∧ i.toNat < len then (match part agg cs (i.toNat * esz) with
      | some v => some (v, [])
      | none => none) else none
    | _, _ => none
  | .ext x i => match ev x with
    | .tup vs => match vs[i]? with
      | some v => some (v, [])
      | none => none
    | _ => none
  | .len str x => match str, ev x with
    | true, .lit (.string s) => some (.lit (.int .i64 s.size), [])
    | false, .lit (.slice _ n _) => some (.lit (.int .i64 n), [])
    | false, .sl _ _ n => some (.lit (.int .i64 n), [])
    | false, .imm _ rows => some (.lit (.int .i64 rows.length), [])
    | _, _ => none
  | .lenArr n _ => some (.lit (.int .i64 n), [])
  | .isNil neg x => match ev x with
    | .lit (.slice a _ _) => some (.lit (.bool (if neg then !a.isNone else a.isNone)), [])
    | .imm _ (_ :: _) => some (.lit (.bool neg), [])
    | _ => none
  | .append esz bytes zero x y => match rowsOf h esz (ev y) with
    | none => none
    | some new_ =>
      if zero.length = esz ∧ 0 < esz ∧ new_.length * bytes ≤ okBound ∧ new_.length * esz ≤ okBound then
      (match ev x with
      | .sl b 0 n => match h b with
        | some k => if k.op = false ∧ 0 < k.esz ∧ k.esz = esz ∧ n = k.rows.length ∧ (n + new_.length) * bytes ≤ okBound ∧ (n + new_.length) * esz ≤ okBound ∧ selfOk b (ev y) then
            some (.sl b 0 (n + new_.length), [(b, { k with rows := k.rows ++ new_ })]) else none
        | none => none
      | .lit (.slice none 0 0) => fresh h new ⟨esz, false, new_⟩ (.sl new 0 new_.length)
      | .imm 0 [] => fresh h new ⟨esz, false, new_⟩ (.sl new 0 new_.length)
      | _ => none) else none
  | .appendN esz bytes zero x y => match asI (ev y) with
    | some l => if 0 ≤ l ∧ l ≤ 1099511627776 ∧ l * bytes ≤ 1099511627776 ∧ zero.all litCell then apBody esz bytes zero (ev x) (fun _ => true) h new (List.replicate l.toNat (zero.map zc)) else none
    | none => none
  | .copy esz x y => match rowsOf h esz (ev y), ev x with
    | some rows, .sl b s n => match h b with
      | some k => if k.op = false ∧ 0 < k.esz ∧ k.esz = esz ∧ s + n = k.rows.length ∧ selfOk b (ev y) then
          some (.lit (.int .i64 (min rows.length n)), [(b, { k with rows := k.rows.take s ++ (rows.take (min rows.length n) ++ k.rows.drop (s + min rows.length n)) })]) else none
      | none => none
    | _, _ => none
  | .max2 x y => match ev x, ev y with
    | .lit (.int k a), .lit (.int _ b) => some (.lit (.int k (if b > a then b else a)), [])
    | _, _ => none
  | .min2 x y => match ev x, ev y with
    | .lit (.int k a), .lit (.int _ b) => some (.lit (.int k (if b < a then b else a)), [])
    | _, _ => none
  | .arrOf len x => match snap h (ev x) with
    | some (.imm _ rows, bs) => if 0 < len ∧ len ≤ rows.length then some (.iptr rows.flatten 0, dropB bs) else none
    | _ => none
  | .bytesOwn x => match ev x with
    | .sl b s n => match h b with
      | some k => if k.op = false ∧ 0 < k.esz ∧ s + n = k.rows.length ∧ 0 < n then some (.sl b s n, [(b, k)]) else none
      | none => none
    | _ => none
  | .call f args => callOp C owns h new f (args.map ev)
  | .dyn f args => match ev f with
    | .fn k caps => callOp C owns h new k (args.map ev ++ caps)
    | _ => none
where
  bytesOf : List (List V) → Option (List UInt8)
    | [] => some []
    | [.lit (.int .u8 n)] :: r => if 0 ≤ n ∧ n < 256 then (match bytesOf r with
      | some l => some (UInt8.ofNat n.toNat :: l)
      | none => none) else none
    | _ => none
  selfOk (b : Nat) : V → Bool
    | .sl b' _ _ => b != b'
    | _ => true

end Go.AI
