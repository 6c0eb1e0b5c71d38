/- The abstract machine's control, calls and limit. Definitions, and the equations by which a run is reckoned. -/
import Derived.Test.YtnfkfhedladdaaaAiDefs
namespace Go.AI

def aget {α : Type} : List (Nat × α) → Nat → Option α
  | [], _ => none
  | (k, v) :: r, t => if k = t then some v else aget r t

def aset {α : Type} (k : Nat) (v : α) : List (Nat × α) → List (Nat × α)
  | [] => [(k, v)]
  | (j, u) :: r => if j = k then (j, v) :: r else (j, u) :: aset k v r

structure St where
  e : List (Nat × V)
  m : List (Nat × Blk)

def St.get (s : St) (t : Nat) : V := (aget s.e t).getD .undef
def St.heap (s : St) : Heap := aget s.m
def St.ev (s : St) : Opd → V := Opd.ev s.get
def St.put (s : St) (d : Option Nat) (v : V) : St := match d with
  | some d => { s with e := (d, v) :: s.e }
  | none => s
def updL (m : List (Nat × Blk)) : Upd → List (Nat × Blk)
  | [] => m
  | (b, k) :: r => updL (aset b k m) r
def St.upd (s : St) (u : Upd) : St := { s with m := updL s.m u }

structure AStep where
  dst : Option Nat
  op : AOp
  guard : Option (Nat × Bool)
  deriving Inhabited

def St.want (s : St) : Option (Nat × Bool) → Option Bool
  | none => some true
  | some (t, b) => match s.get t with
    | .lit (.bool c) => some (c == b)
    | .lit (.tuple _) => some false
    | _ => none

abbrev Owns := FuncId → List Nat

def stepA (C : CallS) (ow : Owns) (st : St) (s : AStep) (n : Nat) : Option St :=
  match st.want s.guard with
  | none => none
  | some false => some (st.put s.dst (.lit (.tuple #[])))
  | some true => match opSem C ow s.op st.ev st.heap n with
    | some (v, u) => some ((st.upd u).put s.dst v)
    | none => none

def stepsA (C : CallS) (ow : Owns) : List AStep → Nat → St → Option St
  | [], _, st => some st
  | s :: r, n, st => match stepA C ow st s n with
    | some st' => stepsA C ow r (n + 1) st'
    | none => none

/-! ### statements whose order is open -/

structure Rec where
  i : Nat
  fp : List Nat
  wr : List Nat

def refC : V → List Nat
  | .ptr b _ _ _ => [b]
  | .sl b _ _ => [b]
  | _ => []
def refA : V → List Nat
  | .agg cs => cs.flatMap refC
  | .fn _ cs => cs.flatMap refC
  | .tup vs => vs.flatMap fun | .agg cs => cs.flatMap refC | v => refC v
  | v => refC v

def fpCall (ow : Owns) (h : Heap) (f : FuncId) (args : List V) : List Nat :=
  match callPrep ow h f args with
  | none => []
  | some (_, _, ids, bor) => ids ++ bor

def fpOf (ow : Owns) (o : AOp) (ev : Opd → V) (h : Heap) : List Nat :=
  match o with
  | .call f args => fpCall ow h f (args.map ev)
  | .dyn f args => match ev f with
    | .fn k caps => fpCall ow h k (args.map ev ++ caps)
    | _ => []
  | .mv _ | .ext _ _ | .off _ _ | .len _ _ | .makeFunc _ _ => []
  | o => (o.opds.map ev).flatMap refA

def restrict (h : Heap) (fp : List Nat) : Heap := fun b => if b ∈ fp then h b else none

/-- One operation with what it reads and writes. -/
def stepD (C : CallS) (ow : Owns) (st : St) (s : AStep) (i n : Nat) : Option (St × Rec) :=
  match st.want s.guard with
  | none => none
  | some false => some (st.put s.dst (.lit (.tuple #[])), ⟨i, [], []⟩)
  | some true => match opSem C ow s.op st.ev (restrict st.heap (fpOf ow s.op st.ev st.heap)) n with
    | some (v, u) =>
      if (u.map (·.1)).all (fun b => b == n || b ∈ fpOf ow s.op st.ev st.heap) && (!(u.map (·.1)).contains n || (st.heap n).isNone) then
        some ((st.upd u).put s.dst v, ⟨i, fpOf ow s.op st.ev st.heap, u.map (·.1)⟩) else none
    | none => none

def stepsD (C : CallS) (ow : Owns) (base : Nat) : List AStep → Nat → St → Option (St × List Rec)
  | [], _, st => some (st, [])
  | s :: r, i, st => match stepD C ow st s i (base + i) with
    | some (st', rc) => match stepsD C ow base r (i + 1) st' with
      | some (st'', rs) => some (st'', rc :: rs)
      | none => none
    | none => none

def clash (p q : Rec) : Bool := p.wr.any (fun b => b ∈ q.fp || b ∈ q.wr) || q.wr.any (· ∈ p.fp)

def okWith (deps : List (List Nat)) (p : Rec) : List Rec → Bool
  | [] => true
  | q :: r => (p.wr.isEmpty && q.wr.isEmpty || (deps.getD q.i []).contains p.i || !clash p q) && okWith deps p r

def pairsOK (deps : List (List Nat)) : List Rec → Bool
  | [] => true
  | p :: r => okWith deps p r && pairsOK deps r

def Rec.loud (r : Rec) : Bool := !(r.fp.isEmpty && r.wr.isEmpty)

/-! ### control -/

inductive Ghost where
  | close (bs : List Nat)
  | nilCell (b o new esz : Nat)
  | nilTmp (t new esz : Nat)
  | both (a b : Ghost)
  | drop (ts : List Nat)
  deriving Inhabited

inductive ACode where
  | skip
  | region (base : Nat) (steps : List AStep) (live : List Nat)
  | drawn (base : Nat) (steps : List AStep) (deps : List (List Nat)) (live : List Nat)
  | seq (a b : ACode)
  | cond (c : Opd) (a b : ACode)
  | block (id : Nat) (c : ACode)
  | loop (c : ACode)
  | exit (id : Nat)
  | ret
  | ghost (g : Ghost) (c : ACode)
  deriving Inhabited

inductive AExit where
  | normal
  | exit (id : Nat)
  | ret
  deriving DecidableEq, Inhabited

/-- A cell that is no function with something captured. -/
def okC : V → Bool
  | .lit _ | .imm _ _ | .iptr _ _ | .ptr .. | .sl .. | .undef => true
  | .fn _ [] => true
  | _ => false

def fzC (h : Heap) (bs : List Nat) : V → V
  | .sl b s n => if b ∈ bs then (match snap h (.sl b s n) with
    | some (v, _) => v.cz
    | none => .undef) else .sl b s n
  | .ptr b i o n => if b ∈ bs then .undef else .ptr b i o n
  | .fn f cs => if (cs.all okC && !(cs.flatMap refC).any (fun b => decide (b ∈ bs))) = true then .fn f cs else .undef
  | v => v
def fzA (h : Heap) (bs : List Nat) : V → V
  | .agg cs => if (cs.map (fzC h bs)).all V.cell then .agg (cs.map (fzC h bs)) else .undef
  | .tup _ => .undef
  | v => fzC h bs v

def fzM (h : Heap) (bs : List Nat) : List (Nat × Blk) → List (Nat × Blk)
  | [] => []
  | (b, k) :: r => if b ∈ bs then fzM h bs r else (b, if k.op then (if (k.rows.map (·.map (fzC h bs))).all (·.all V.cell) then { k with rows := k.rows.map (·.map (fzC h bs)) } else dead) else k) :: fzM h bs r

def mapE (g : V → V) : List (Nat × V) → List (Nat × V)
  | [] => []
  | (t, v) :: r => (t, g v) :: mapE g r

def mapD (ts : List Nat) : List (Nat × V) → List (Nat × V)
  | [] => []
  | (t, v) :: r => (t, if t ∈ ts then .undef else v) :: mapD ts r

def doGhost : St → Ghost → Option St
  | st, .close bs => if bs.all (fun b => decide (1000 ≤ b)) = true then some { e := mapE (fzA st.heap bs) st.e, m := fzM st.heap bs st.m } else none
  | st, .nilCell b o new esz => match st.heap b with
    | some k => if k.op then (match k.rows with
      | [row] => (match row[o]? with
        | some (.lit (.slice none 0 0)) => if (st.heap new).isNone ∧ 0 < esz then some { st with m := aset new ⟨esz, false, []⟩ (aset b { k with rows := [row.set o (.sl new 0 0)] } st.m) } else some st
        | _ => some st)
      | _ => some st) else some st
    | none => some st
  | st, .nilTmp t new esz => match st.get t with
    | .lit (.slice none 0 0) => if (st.heap new).isNone ∧ 0 < esz then some { e := aset t (.sl new 0 0) st.e, m := aset new ⟨esz, false, []⟩ st.m } else some st
    | _ => some st
  | st, .both a b => match doGhost st a with
    | some st1 => doGhost st1 b
    | none => none
  | st, .drop ts => some { st with e := mapD ts st.e }

def trim (live : List Nat) (st : St) : St := { st with e := live.map fun t => (t, st.get t) }

def regionA (C : CallS) (ow : Owns) (base : Nat) (steps : List AStep) (live : List Nat) (st : St) : Option (AExit × St) :=
  match stepsA C ow steps base st with
  | some st' => some (.normal, trim live st')
  | none => none

def drawnA (C : CallS) (ow : Owns) (base : Nat) (steps : List AStep) (deps : List (List Nat)) (live : List Nat) (st : St) : Option (AExit × St) :=
  match stepsD C ow base steps 0 st with
  | some (st', rs) => if pairsOK deps (rs.filter Rec.loud) then some (.normal, trim live st') else none
  | none => none

def exec (C : CallS) (ow : Owns) : Nat → ACode → St → Option (AExit × St)
  | 0, _, _ => none
  | n + 1, c, st => match c with
    | .skip => some (.normal, st)
    | .region base steps live => regionA C ow base steps live st
    | .drawn base steps deps live => drawnA C ow base steps deps live st
    | .seq a b => match exec C ow n a st with
      | some (.normal, st') => exec C ow n b st'
      | r => r
    | .cond c a b => match st.ev c with
      | .lit (.bool true) => exec C ow n a st
      | .lit (.bool false) => exec C ow n b st
      | _ => none
    | .block id c => match exec C ow n c st with
      | some (.exit id', st') => if id' = id then some (.normal, st') else some (.exit id', st')
      | r => r
    | .loop c => match exec C ow n c st with
      | some (.normal, st') => exec C ow n (.loop c) st'
      | r => r
    | .exit id => some (.exit id, st)
    | .ret => some (.ret, st)
    | .ghost g c => match doGhost st g with
      | some st' => exec C ow n c st'
      | none => none

/-! ### functions -/

inductive ARes where
  | tmp (t : Nat)
  | cell (t : Nat) (agg : Option Nat)
  deriving Inhabited

structure AFunc where
  ntmps : Nat
  body : ACode
  results : List ARes
  keep : Bool
  raw : Bool
  deriving Inhabited

def resOf (st : St) : ARes → Option V
  | .tmp t => some (st.get t)
  | .cell t agg => rowOf agg st.heap (st.get t)

def ressOf (st : St) : List ARes → Option (List V)
  | [] => some []
  | r :: rs => match resOf st r, ressOf st rs with
    | some v, some vs => some (v :: vs)
    | _, _ => none

/-- A result's cell, as the caller is to see it: 'm' blocks were handed over; 'kp': blocks of the callee's own that go along. -/
def finC (h : Heap) (m : Nat) (kp : List Nat) : V → Option V
  | .sl b s n => if b < m then some (.sl b s n) else if b ∈ kp then some (.sl (m + posOf b kp) s n) else (match snap h (.sl b s n) with
    | some (v, _) => some v
    | none => none)
  | .ptr b i o n => if b < m then some (.ptr b i o n) else if b ∈ kp then some (.ptr (m + posOf b kp) i o n) else none
  | .fn f [] => some (.fn f [])
  | .lit v => some (.lit v)
  | .imm e r => some (.imm e r)
  | .iptr r o => some (.iptr r o)
  | .undef => some .undef
  | _ => none

def finCs (h : Heap) (m : Nat) (kp : List Nat) : List V → Option (List V)
  | [] => some []
  | v :: r => match finC h m kp v, finCs h m kp r with
    | some v', some r' => some (v' :: r')
    | _, _ => none

def finA (h : Heap) (m : Nat) (kp : List Nat) : V → Option V
  | .agg cs => match finCs h m kp cs with
    | some cs' => some (.agg cs')
    | none => none
  | .tup _ => none
  | v => finC h m kp v

def finAs (h : Heap) (m : Nat) (kp : List Nat) : List V → Option (List V)
  | [] => some []
  | v :: r => match finA h m kp v, finAs h m kp r with
    | some v', some r' => some (v' :: r')
    | _, _ => none

def finD (h : Heap) (m : Nat) (kp : List Nat) : V → Option V
  | .fn f (c :: cs) => match finCs h m kp (c :: cs) with
    | some cs' => some (.fn f cs')
    | none => none
  | v => finC h m kp v

def finDs (h : Heap) (m : Nat) (kp : List Nat) : List V → Option (List V)
  | [] => some []
  | v :: r => match finD h m kp v, finDs h m kp r with
    | some v', some r' => some (v' :: r')
    | _, _ => none

def finRows (h : Heap) (m : Nat) (kp : List Nat) : List (List V) → Option (List (List V))
  | [] => some []
  | v :: r => match finDs h m kp v, finRows h m kp r with
    | some v', some r' => some (v' :: r')
    | _, _ => none

def finB (h : Heap) (m : Nat) (kp : List Nat) (k : Blk) : Option Blk :=
  if k.op = false then some k else match finRows h m kp k.rows with
    | some rows => some { k with rows }
    | none => none

/-- The blocks that were handed over, as they are now. -/
def finBs (h : Heap) (m : Nat) (kp : List Nat) : List Nat → Option (List Blk)
  | [] => some []
  | b :: r => match h b with
    | some k => match finB h m kp k, finBs h m kp r with
      | some k', some r' => some (k' :: r')
      | _, _ => none
    | none => none

def keepL (m : Nat) : List Nat → List Nat → List Nat
  | acc, [] => acc
  | acc, b :: r => keepL m (if m ≤ b then withId acc b else acc) r
def keepOf (m : Nat) (vs : List V) : List Nat := keepL m [] (vs.flatMap refA)

def oneV : List V → V
  | [v] => v
  | vs => .tup vs

def finish (af : AFunc) (m : Nat) (r : Option (AExit × St)) : Option (V × List Blk) :=
  match r with
  | some (.normal, st) | some (.ret, st) => match ressOf st af.results with
    | none => none
    | some vs =>
      let kp := if af.keep then keepOf m vs else []
      match finAs st.heap m kp vs, finBs st.heap m kp (List.range m ++ kp) with
      | some vs', some bs => if m ≤ 1000 then some (oneV vs', bs) else none
      | _, _ => none
  | _ => none

def number {α : Type} : Nat → List α → List (Nat × α)
  | _, [] => []
  | n, x :: r => (n, x) :: number (n + 1) r

def start (args : List V) (blks : List Blk) : St := ⟨number 0 args, number 0 blks⟩

/-- What a function of the program is to the abstract machine: code of its own, or a word told from outside. -/
inductive FDef where
  | code (a : AFunc)
  | ext (g : List V → List Blk → Option (V × List Blk))

abbrev Tab := FuncId → Option FDef

/-- The way out, told in one way. -/
def fini (af : AFunc) : Option (V × List Blk) → Option (V × List Blk)
  | some (v, bs) => some (v.czR, if af.raw then bs else bs.map Blk.cz)
  | none => none

def callN (T : Tab) (ow : Owns) : Nat → CallS
  | 0 => fun _ _ _ => none
  | n + 1 => fun f args blks => match T f with
    | none => none
    | some (.code af) => fini af (finish af blks.length (exec (callN T ow n) ow n af.body (start args blks)))
    | some (.ext g) => g args blks

end Go.AI
