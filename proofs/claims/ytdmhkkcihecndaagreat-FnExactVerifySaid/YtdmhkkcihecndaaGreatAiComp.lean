/- From the model's code to the abstract machine's: what the machine needs to know of types is looked up once. -/
import Derived.Test.YtdmhkkcihecndaaGreatAiExec
import Derived.Laws.StructEq
set_option linter.unusedVariables false
namespace Go.AI
def aI:Operand→Option Opd
 | .tmp t=>some (.t t)
 | .const v=>some (.c v)
 | .func f=>some (.f f)
 | .global _=>none
def jH:Option Operand→Option (Option Opd)
 |none=>some none
 |some x=>match aI x with
  |some y=>some (some y)
  |none=>none
def gu:List Operand→Option (List Opd)
 |[]=>some []
 |x::r=>match aI x,gu r with
  |some y,some r'=>some (y::r')
  |_,_=>none
def Bc:List (Nat×Operand)→Option (List (Nat×Opd))
 |[]=>some []
 | (i,x)::r=>match aI x,Bc r with
   |some y,some r'=>some ((i,y)::r')
   |_,_=>none
def Jh (P:Program) (t:TypeId):Option (Option Nat):=
 match P.underlying t,P.info? t with
 |some (.struct _),some i|some (.array _ _),some i=>some (some i.size)
 |some _,some _=>some none
 |_,_=>none
def fF (P:Program) (t:TypeId):Option Nat:=(P.info? t).map (·.size)
def zr (P:Program) (t:TypeId):Option (List Value):=match P.info? t with
 |some i=>match i.zero with
  |some z=>some z.cells.toList
  |none=>none
 |none=>none
def PD (P:Program) (t:TypeId):Option TypeId:=match P.underlying t with
 |some (.slice e)=>some e
 |_=>none
def jb (P:Program):Nat→List Field→Option (List Bool)
 |_,[]=>some []
 |n,f::r=>if (f.name != "_")&&(f.offset==n) then (match P.underlying f.type,jb P (n+1) r with
  |some (.int _),some ks=>some (true::ks)
  |some .string,some ks=>some (false::ks)
  |_,_=>none) else none
def Bx (P:Program) (fs:List Field):List (Nat×Operand)→Option (List (Nat×Nat×Opd))
 |[]=>some []
 | (i,x)::r=>match fs[i]?,aI x,Bx P fs r with
   |some f,some y,some r'=>match fF P f.type with
    |some s=>some ((f.offset,s,y)::r')
    |none=>none
   |_,_,_=>none
def Gx (size:Nat):List (Nat×Operand)→Option (List (Nat×Nat×Opd))
 |[]=>some []
 | (i,x)::r=>match aI x,Gx size r with
   |some y,some r'=>some ((i*size,size,y)::r')
   |_,_=>none
def cN (P:Program) (o:Op):Option AOp:=
 match o with
 | .move x| .assign x=>(aI x).map .mv
 | .pick c a b=>match aI c,aI a,aI b with
   |some c,some a,some b=>some (.pick c a b)
   |_,_,_=>none
 | .alloc t=>(zr P t).map .alloc
 | .box t x=>match fF P t,aI x with
   |some s,some x=>some (.box s x)
   |_,_=>none
 | .build t ps=>match P.underlying t,zr P t with
   |some (.struct fs),some z=>if fs.toList.all (fun f=>(fF P f.type).isSome) then (Bx P fs.toList ps.toList).map (.build z) else none
   |some (.array _ e),some z=>match fF P e with
    |some s=>(Gx s ps.toList).map (.build z)
    |none=>none
   |_,_=>none
 | .buildSlice t len ps=>match PD P t with
   |some e=>match fF P e,zr P e,Bc ps.toList with
    |some s,some z,some ps=>some (.buildSlice s z len ps)
    |_,_,_=>none
   |none=>none
 | .load t a=>match Jh P t,aI a with
   |some g,some a=>some (.load g a)
   |_,_=>none
 | .store t a x=>match fF P t,aI a,aI x with
   |some s,some a,some x=>some (.store s a x)
   |_,_,_=>none
 | .nilCheck x=>(aI x).map .nilCheck
 | .binOp op t x y _=>match aI x,aI y with
   |some x,some y=>match P.underlying t with
    |some (.struct fs)=>
     if !P.stoodInHeld t&& !P.eqGuardType P.depth t then
      (match op,jb P 0 fs.toList with
      | .eql,some ks=>some (.eqAgg false ks x y)
      | .neq,some ks=>some (.eqAgg true ks x y)
      |_,_=>none) else none
    |some .bool=>(match op with
     | .eql=>some (.beq false x y)
     | .neq=>some (.beq true x y)
     |_=>none)
    |some (.int _)|some .string=>some (.bin op x y)
    |some (.slice _)=>(match op,y with
     | .eql,.c (.slice none 0 0)=>some (.isNil false x)
     | .neq,.c (.slice none 0 0)=>some (.isNil true x)
     |_,_=>none)
    |_=>none
   |_,_=>none
 | .unOp op _ x=>(aI x).map (.un op)
 | .convert src dst x=>match P.underlying src,P.underlying dst,aI x with
   |some (.int _),some (.int k),some x=>some (.toInt k x)
   |some .string,some .string,some x=>some (.same x)
   |some .string,some (.slice e),some x=>match P.underlying e with
    |some (.int .u8)=>some (.toBytes x)
    |_=>none
   |some (.slice e),some .string,some x=>match P.underlying e,fF P e with
    |some (.int .u8),some 1=>some (.toStr x)
    |_,_=>none
   |some (.slice _),some (.slice e),some x=>match P.underlying e with
    |some (.int .u8)=>if src==dst then some (.bytesOwn x) else none
    |_=>none
   |_,_,_=>none
 | .sliceToArrayPointer t x=>match P.underlying t,aI x with
   |some (.array n _),some x=>some (.arrOf n x)
   |_,_=>none
 | .makeFunc (.func f) first caps=>match first.toList,gu caps.toList with
   |[],some cs=>some (.makeFunc f cs)
   |_,_=>none
 | .makeSlice t l c=>match PD P t with
   |some e=>match P.info? e,zr P e,aI l,aI c with
    |some i,some z,some l,some c=>some (.makeSlice i.size i.bytes z l c)
    |_,_,_,_=>none
   |none=>none
 | .slice t x lo hi mx=>match P.underlying t,aI x,jH lo,jH hi,jH mx with
   |some .string,some x,some lo,some hi,some none=>some (.sliceStr x lo hi)
   |some (.slice e),some x,some lo,some hi,some mx=>match fF P e with
    |some s=>some (.slice s x lo hi mx)
    |none=>none
   |_,_,_,_,_=>none
 | .fieldAddr t x f=>match P.underlying t,aI x with
   |some (.struct fs),some x=>match fs[f]? with
    |some fd=>match fF P fd.type with
     |some (s+1)=>some (.off fd.offset x)
     |_=>none
    |none=>none
   |_,_=>none
 | .field t x f=>match P.underlying t,aI x with
   |some (.struct fs),some x=>match fs[f]? with
    |some fd=>match Jh P fd.type with
     |some g=>some (.field fd.offset g x)
     |none=>none
    |none=>none
   |_,_=>none
 | .indexAddr t x i=>match P.underlying t,aI x,aI i with
   |some (.slice e),some x,some i=>match fF P e with
    |some s=>some (.idx s x i)
    |none=>none
   |some (.array n e),some x,some i=>match fF P e with
    |some s=>some (.idxArr n s x i)
    |none=>none
   |_,_,_=>none
 | .index t x i=>match P.underlying t,aI x,aI i with
   |some .string,some x,some i=>some (.ixStr x i)
   |some (.array n e),some x,some i=>match fF P e,Jh P e with
    |some s,some g=>some (.ixAgg n s g x i)
    |_,_=>none
   |_,_,_=>none
 | .extract x i=>match aI x with
   |some x=>some (.ext x i)
   |none=>none
 | .call c=>match c.callee,gu c.args.toList with
   | .value (.func f),some args=>some (.call f args)
   | .value f,some args=>match aI f with
     |some f=>some (.dyn f args)
     |none=>none
   | .builtin .len,some [x]=>match c.argTypes[0]? with
     |some t=>match P.underlying t with
      |some .string=>some (.len true x)
      |some (.slice _)=>some (.len false x)
      |some (.array n _)=>some (.lenArr n x)
      |_=>none
     |none=>none
   | .builtin .append,some [x,y]=>match c.argTypes[0]?,c.argTypes[1]? with
     |some t,some u=>match PD P t,P.underlying u with
      |some e,some d=>match P.info? e,zr P e with
       |some i,some z=>(match d with
        | .int _=>some (.appendN i.size i.bytes z x y)
        |_=>some (.append i.size i.bytes z x y))
       |_,_=>none
      |_,_=>none
     |_,_=>none
   | .builtin .copy,some [x,y]=>match c.argTypes[0]? with
     |some t=>match PD P t with
      |some e=>match fF P e with
       |some s=>some (.copy s x y)
       |none=>none
      |none=>none
     |none=>none
   | .builtin .max,some [x,y]=>some (.max2 x y)
   | .builtin .min,some [x,y]=>some (.min2 x y)
   |_,_=>none
 |_=>none
def a44 (n:Nat):Option Nat→Bool
 |some d=>decide (d<n)
 |none=>true
def Ff (P:Program) (ntmps:Nat) (ops:Array Oper) (o:Oper):Option aY:=
 match cN P o.op with
 |none=>none
 |some op=>
  if a44 ntmps o.dst=true then
  (match o.guard with
  |none=>some ⟨o.dst,op,none⟩
  |some (j,b)=>match (ops[j]?).bind (·.dst) with
   |some t=>some ⟨o.dst,op,some (t,b)⟩
   |none=>none) else none
def gJ (P:Program) (ntmps:Nat) (ops:Array Oper):List Oper→Option (List aY)
 |[]=>some []
 |o::r=>match Ff P ntmps ops o,gJ P ntmps ops r with
  |some s,some r'=>some (s::r')
  |_,_=>none
def a79 (ops:List Oper):List (List Nat):=
 (ops.foldl (fun acc o=>((o.after.toList.filter (Region.binds .any)).flatMap fun e=>e.on::acc.getD (acc.length-1-e.on) []).eraseDups::acc) []).reverse
def Ce (s:aY):List Nat:=
 (s.op.opds.filterMap fun| .t n=>some n|_=>none)++(match s.guard with
   |some (t,_)=>[t]
   |none=>[])
def Rj (x y:aY):Bool:=
 (match x.dst with
  |some d=> !(Ce y).contains d&&y.dst !=some d
  |none=>true)&&
 (match y.dst with
  |some d=> !(Ce x).contains d
  |none=>true)
def JR (ops:List Oper) (steps:List aY) (deps:List (List Nat)):Bool:=
 (List.range steps.length).all fun j=>
  ((ops[j]?).map (fun o=>o.after.toList.all fun e=> !Region.binds .any e||(decide (e.on<j)&&(deps.getD j []).contains e.on&&(deps.getD e.on []).all fun d=>(deps.getD j []).contains d))).getD false&&
  (deps.getD j []).all (fun d=>decide (d<j)&&((ops[j]?).map (fun o=>o.after.toList.any fun e=>Region.binds .any e&&(e.on==d||(deps.getD e.on []).contains d))).getD false)&&
  (List.range j).all fun i=>(deps.getD j []).contains i||(match steps[i]?,steps[j]? with
   |some x,some y=>Rj x y
   |_,_=>false)
structure a0a where
 live:List (Nat×List Nat)
 ghosts:List (Nat×fO)
 keep:Bool
 raw:Bool
def y0 (gs:List (Nat×fO)) (id:Nat) (c:ae):ae:=
 gs.foldr (fun (g:Nat×fO) c=>if g.1=id then .ghost g.2 c else c) c
def dX (P:Program) (ntmps:Nat) (hn:a0a):Code→Option ae
 | .skip=>some .skip
 | .region id ops draw=>match gJ P ntmps ops ops.toList with
   |none=>none
   |some steps=>
    let live:=(dv hn.live id).getD []
    if draw then
     (if JR ops.toList steps (a79 ops.toList) then some (y0 hn.ghosts id (.drawn (1000*(id+1)) steps (a79 ops.toList) live)) else none)
    else some (y0 hn.ghosts id (.region (1000*(id+1)) steps live))
 | .seq a b=>match dX P ntmps hn a,dX P ntmps hn b with
   |some a,some b=>some (.seq a b)
   |_,_=>none
 | .cond c a b=>match aI c,dX P ntmps hn a,dX P ntmps hn b with
   |some c,some a,some b=>some (.cond c a b)
   |_,_,_=>none
 | .block id c=>(dX P ntmps hn c).map (.block id)
 | .loop c=>(dX P ntmps hn c).map .loop
 | .exit id=>some (.exit id)
 | .ret=>some .ret
 |_=>none
def ol (P:Program):List ResultVar→Option (List GE)
 |[]=>some []
 | .tmp t::r=>(ol P r).map (.tmp t:: ·)
 | .cell a t::r=>match Jh P t,ol P r with
   |some g,some r'=>some (.cell a g::r')
   |_,_=>none
def sJ (P:Program) (fn:Func) (hn:a0a):Option ag:=
 match fn.body with
 |none=>none
 |some c=>match dX P fn.ntmps hn c,ol P fn.results.toList with
  |some c,some rs=>if P.follows .mixedOrders then some ⟨fn.ntmps,c,rs,hn.keep,hn.raw⟩ else none
  |_,_=>none
end Go.AI
