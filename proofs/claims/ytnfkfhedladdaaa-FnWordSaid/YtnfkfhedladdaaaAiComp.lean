/- From the model's code to the abstract machine's: what the machine needs to know of types is looked up once. -/
import Derived.Test.YtnfkfhedladdaaaAiExec
import Derived.Laws.StructEq
set_option linter.unusedVariables false
namespace Go.AI

def opdOf : Operand → Option Opd
  | .tmp t => some (.t t)
  | .const v => some (.c v)
  | .func f => some (.f f)
  | .global _ => none

def optOpd : Option Operand → Option (Option Opd)
  | none => some none
  | some x => match opdOf x with
    | some y => some (some y)
    | none => none

def opdsOf : List Operand → Option (List Opd)
  | [] => some []
  | x :: r => match opdOf x, opdsOf r with
    | some y, some r' => some (y :: r')
    | _, _ => none

def partsOf : List (Nat × Operand) → Option (List (Nat × Opd))
  | [] => some []
  | (i, x) :: r => match opdOf x, partsOf r with
    | some y, some r' => some ((i, y) :: r')
    | _, _ => none

def aggT (P : Program) (t : TypeId) : Option (Option Nat) :=
  match P.underlying t, P.info? t with
  | some (.struct _), some i | some (.array _ _), some i => some (some i.size)
  | some _, some _ => some none
  | _, _ => none

def sizeT (P : Program) (t : TypeId) : Option Nat := (P.info? t).map (·.size)

def zeroT (P : Program) (t : TypeId) : Option (List Value) := match P.info? t with
  | some i => match i.zero with
    | some z => some z.cells.toList
    | none => none
  | none => none

def elemT (P : Program) (t : TypeId) : Option TypeId := match P.underlying t with
  | some (.slice e) => some e
  | _ => none

/-- A struct of numbers (true) and texts, one cell each, in their order. -/
def plainFields (P : Program) : Nat → List Field → Option (List Bool)
  | _, [] => some []
  | n, f :: r => if (f.name != "_") && (f.offset == n) then (match P.underlying f.type, plainFields P (n + 1) r with
    | some (.int _), some ks => some (true :: ks)
    | some .string, some ks => some (false :: ks)
    | _, _ => none) else none

def cFields (P : Program) (fs : List Field) : List (Nat × Operand) → Option (List (Nat × Nat × Opd))
  | [] => some []
  | (i, x) :: r => match fs[i]?, opdOf x, cFields P fs r with
    | some f, some y, some r' => match sizeT P f.type with
      | some s => some ((f.offset, s, y) :: r')
      | none => none
    | _, _, _ => none

def cElems (size : Nat) : List (Nat × Operand) → Option (List (Nat × Nat × Opd))
  | [] => some []
  | (i, x) :: r => match opdOf x, cElems size r with
    | some y, some r' => some ((i * size, size, y) :: r')
    | _, _ => none

def compOp (P : Program) (o : Op) : Option AOp :=
  match o with
  | .move x | .assign x => (opdOf x).map .mv
  | .pick c a b => match opdOf c, opdOf a, opdOf b with
    | some c, some a, some b => some (.pick c a b)
    | _, _, _ => none
  | .alloc t => (zeroT P t).map .alloc
  | .box t x => match sizeT P t, opdOf x with
    | some s, some x => some (.box s x)
    | _, _ => none
  | .build t ps => match P.underlying t, zeroT P t with
    | some (.struct fs), some z => if fs.toList.all (fun f => (sizeT P f.type).isSome) then (cFields P fs.toList ps.toList).map (.build z) else none
    | some (.array _ e), some z => match sizeT P e with
      | some s => (cElems s ps.toList).map (.build z)
      | none => none
    | _, _ => none
  | .buildSlice t len ps => match elemT P t with
    | some e => match sizeT P e, zeroT P e, partsOf ps.toList with
      | some s, some z, some ps => some (.buildSlice s z len ps)
      | _, _, _ => none
    | none => none
  | .load t a => match aggT P t, opdOf a with
    | some g, some a => some (.load g a)
    | _, _ => none
  | .store t a x => match sizeT P t, opdOf a, opdOf x with
    | some s, some a, some x => some (.store s a x)
    | _, _, _ => none
  | .nilCheck x => (opdOf x).map .nilCheck
  | .binOp op t x y _ => match opdOf x, opdOf y with
    | some x, some y => match P.underlying t with
      | some (.struct fs) =>
        if !P.stoodInHeld t && !P.eqGuardType P.depth t then
          (match op, plainFields P 0 fs.toList with
          | .eql, some ks => some (.eqAgg false ks x y)
          | .neq, some ks => some (.eqAgg true ks x y)
          | _, _ => none) else none
      | some .bool => (match op with
        | .eql => some (.beq false x y)
        | .neq => some (.beq true x y)
        | _ => none)
      | some (.int _) | some .string => some (.bin op x y)
      | some (.slice _) => (match op, y with
        | .eql, .c (.slice none 0 0) => some (.isNil false x)
        | .neq, .c (.slice none 0 0) => some (.isNil true x)
        | _, _ => none)
      | _ => none
    | _, _ => none
  | .unOp op _ x => (opdOf x).map (.un op)
  | .convert src dst x => match P.underlying src, P.underlying dst, opdOf x with
    | some (.int _), some (.int k), some x => some (.toInt k x)
    | some .string, some .string, some x => some (.same x)
    | some .string, some (.slice e), some x => match P.underlying e with
      | some (.int .u8) => some (.toBytes x)
      | _ => none
    | some (.slice e), some .string, some x => match P.underlying e, sizeT P e with
      | some (.int .u8), some 1 => some (.toStr x)
      | _, _ => none
    | some (.slice _), some (.slice e), some x => match P.underlying e with
      | some (.int .u8) => if src == dst then some (.bytesOwn x) else none
      | _ => none
    | _, _, _ => none
  | .sliceToArrayPointer t x => match P.underlying t, opdOf x with
    | some (.array n _), some x => some (.arrOf n x)
    | _, _ => none
  | .makeFunc (.func f) first caps => match first.toList, opdsOf caps.toList with
    | [], some cs => some (.makeFunc f cs)
    | _, _ => none
  | .makeSlice t l c => match elemT P t with
    | some e => match P.info? e, zeroT P e, opdOf l, opdOf c with
      | some i, some z, some l, some c => some (.makeSlice i.size i.bytes z l c)
      | _, _, _, _ => none
    | none => none
  | .slice t x lo hi mx => match P.underlying t, opdOf x, optOpd lo, optOpd hi, optOpd mx with
    | some .string, some x, some lo, some hi, some none => some (.sliceStr x lo hi)
    | some (.slice e), some x, some lo, some hi, some mx => match sizeT P e with
      | some s => some (.slice s x lo hi mx)
      | none => none
    | _, _, _, _, _ => none
  | .fieldAddr t x f => match P.underlying t, opdOf x with
    | some (.struct fs), some x => match fs[f]? with
      | some fd => match sizeT P fd.type with
        | some (s + 1) => some (.off fd.offset x)
        | _ => none
      | none => none
    | _, _ => none
  | .field t x f => match P.underlying t, opdOf x with
    | some (.struct fs), some x => match fs[f]? with
      | some fd => match aggT P fd.type with
        | some g => some (.field fd.offset g x)
        | none => none
      | none => none
    | _, _ => none
  | .indexAddr t x i => match P.underlying t, opdOf x, opdOf i with
    | some (.slice e), some x, some i => match sizeT P e with
      | some s => some (.idx s x i)
      | none => none
    | some (.array n e), some x, some i => match sizeT P e with
      | some s => some (.idxArr n s x i)
      | none => none
    | _, _, _ => none
  | .index t x i => match P.underlying t, opdOf x, opdOf i with
    | some .string, some x, some i => some (.ixStr x i)
    | some (.array n e), some x, some i => match sizeT P e, aggT P e with
      | some s, some g => some (.ixAgg n s g x i)
      | _, _ => none
    | _, _, _ => none
  | .extract x i => match opdOf x with
    | some x => some (.ext x i)
    | none => none
  | .call c => match c.callee, opdsOf c.args.toList with
    | .value (.func f), some args => some (.call f args)
    | .value f, some args => match opdOf f with
      | some f => some (.dyn f args)
      | none => none
    | .builtin .len, some [x] => match c.argTypes[0]? with
      | some t => match P.underlying t with
        | some .string => some (.len true x)
        | some (.slice _) => some (.len false x)
        | some (.array n _) => some (.lenArr n x)
        | _ => none
      | none => none
    | .builtin .append, some [x, y] => match c.argTypes[0]?, c.argTypes[1]? with
      | some t, some u => match elemT P t, P.underlying u with
        | some e, some d => match P.info? e, zeroT P e with
          | some i, some z => (match d with
            | .int _ => some (.appendN i.size i.bytes z x y)
            | _ => some (.append i.size i.bytes z x y))
          | _, _ => none
        | _, _ => none
      | _, _ => none
    | .builtin .copy, some [x, y] => match c.argTypes[0]? with
      | some t => match elemT P t with
        | some e => match sizeT P e with
          | some s => some (.copy s x y)
          | none => none
        | none => none
      | none => none
    | .builtin .max, some [x, y] => some (.max2 x y)
    | .builtin .min, some [x, y] => some (.min2 x y)
    | _, _ => none
  | _ => none

def dstOK (n : Nat) : Option Nat → Bool
  | some d => decide (d < n)
  | none => true

def compStep (P : Program) (ntmps : Nat) (ops : Array Oper) (o : Oper) : Option AStep :=
  match compOp P o.op with
  | none => none
  | some op =>
    if dstOK ntmps o.dst = true then
    (match o.guard with
    | none => some ⟨o.dst, op, none⟩
    | some (j, b) => match (ops[j]?).bind (·.dst) with
      | some t => some ⟨o.dst, op, some (t, b)⟩
      | none => none) else none

def compSteps (P : Program) (ntmps : Nat) (ops : Array Oper) : List Oper → Option (List AStep)
  | [] => some []
  | o :: r => match compStep P ntmps ops o, compSteps P ntmps ops r with
    | some s, some r' => some (s :: r')
    | _, _ => none

/-- For each operation the operations that stand ahead of it by its edges, near and far. -/
def depsOf (ops : List Oper) : List (List Nat) :=
  (ops.foldl (fun acc o => ((o.after.toList.filter (Region.binds .any)).flatMap fun e => e.on :: acc.getD (acc.length - 1 - e.on) []).eraseDups :: acc) []).reverse

def looks (s : AStep) : List Nat :=
  (s.op.opds.filterMap fun | .t n => some n | _ => none) ++ (match s.guard with
    | some (t, _) => [t]
    | none => [])

def apartS (x y : AStep) : Bool :=
  (match x.dst with
   | some d => !(looks y).contains d && y.dst != some d
   | none => true) &&
  (match y.dst with
   | some d => !(looks x).contains d
   | none => true)

/-- Operations that no edge sets in order share no temporary; an edge leads back. -/
def drawnOK (ops : List Oper) (steps : List AStep) (deps : List (List Nat)) : Bool :=
  (List.range steps.length).all fun j =>
    ((ops[j]?).map (fun o => o.after.toList.all fun e => !Region.binds .any e || (decide (e.on < j) && (deps.getD j []).contains e.on && (deps.getD e.on []).all fun d => (deps.getD j []).contains d))).getD false &&
    (deps.getD j []).all (fun d => decide (d < j) && ((ops[j]?).map (fun o => o.after.toList.any fun e => Region.binds .any e && (e.on == d || (deps.getD e.on []).contains d))).getD false) &&
    (List.range j).all fun i => (deps.getD j []).contains i || (match steps[i]?, steps[j]? with
      | some x, some y => apartS x y
      | _, _ => false)

structure Hints where
  live : List (Nat × List Nat)
  ghosts : List (Nat × Ghost)
  keep : Bool
  raw : Bool

def withGhosts (gs : List (Nat × Ghost)) (id : Nat) (c : ACode) : ACode :=
  gs.foldr (fun (g : Nat × Ghost) c => if g.1 = id then .ghost g.2 c else c) c

def compCode (P : Program) (ntmps : Nat) (hn : Hints) : Code → Option ACode
  | .skip => some .skip
  | .region id ops draw => match compSteps P ntmps ops ops.toList with
    | none => none
    | some steps =>
      let live := (aget hn.live id).getD []
      if draw then
        (if drawnOK ops.toList steps (depsOf ops.toList) then some (withGhosts hn.ghosts id (.drawn (1000 * (id + 1)) steps (depsOf ops.toList) live)) else none)
      else some (withGhosts hn.ghosts id (.region (1000 * (id + 1)) steps live))
  | .seq a b => match compCode P ntmps hn a, compCode P ntmps hn b with
    | some a, some b => some (.seq a b)
    | _, _ => none
  | .cond c a b => match opdOf c, compCode P ntmps hn a, compCode P ntmps hn b with
    | some c, some a, some b => some (.cond c a b)
    | _, _, _ => none
  | .block id c => (compCode P ntmps hn c).map (.block id)
  | .loop c => (compCode P ntmps hn c).map .loop
  | .exit id => some (.exit id)
  | .ret => some .ret
  | _ => none

def compRes (P : Program) : List ResultVar → Option (List ARes)
  | [] => some []
  | .tmp t :: r => (compRes P r).map (.tmp t :: ·)
  | .cell a t :: r => match aggT P t, compRes P r with
    | some g, some r' => some (.cell a g :: r')
    | _, _ => none

def compFunc (P : Program) (fn : Func) (hn : Hints) : Option AFunc :=
  match fn.body with
  | none => none
  | some c => match compCode P fn.ntmps hn c, compRes P fn.results.toList with
    | some c, some rs => if P.follows .mixedOrders then some ⟨fn.ntmps, c, rs, hn.keep, hn.raw⟩ else none
    | _, _ => none

end Go.AI
