/- From the model's code to the abstract machine's: what the machine needs to know of types is looked up once. -/
import Derived.Test.YtdmhkkcihecndaaGreatAiDefs
import Derived.Laws.StructEq
set_option linter.unusedVariables false
namespace Go.AI
def aL:Operand→Option Opd
 | .tmp t=>some (.t t)
 | .const v=>some (.c v)
 | .func f=>some (.f f)
 | .global _=>none
def lw:Option Operand→Option (Option Opd)
 |none=>some none
 |some x=>match aL x with
  |some y=>some (some y)
  |none=>none
def iG:List Operand→Option (List Opd)
 |[]=>some []
 |x::r=>match aL x,iG r with
  |some y,some r'=>some (y::r')
  |_,_=>none
def DK:List (Nat×Operand)→Option (List (Nat×Opd))
 |[]=>some []
 | (i,x)::r=>match aL x,DK r with
   |some y,some r'=>some ((i,y)::r')
   |_,_=>none
def Mj (P:Program) (t:TypeId):Option (Option Nat):=
 match P.underlying t,P.info? t with
 |some (.struct _),some i|some (.array _ _),some i=>some (some i.size)
 |some _,some _=>some none
 |_,_=>none
def gM (P:Program) (t:TypeId):Option Nat:=(P.info? t).map (·.size)
def Ac (P:Program) (t:TypeId):Option (List Value):=match P.info? t with
 |some i=>match i.zero with
  |some z=>some z.cells.toList
  |none=>none
 |none=>none
def TG (P:Program) (t:TypeId):Option TypeId:=match P.underlying t with
 |some (.slice e)=>some e
 |_=>none
def kH (P:Program):Nat→List Field→Option (List Bool)
 |_,[]=>some []
 |n,f::r=>if (f.name != "_")&&(f.offset==n) then (match P.underlying f.type,kH P (n+1) r with
  |some (.int _),some ks=>some (true::ks)
  |some .string,some ks=>some (false::ks)
  |_,_=>none) else none
def DR (P:Program) (fs:List Field):List (Nat×Operand)→Option (List (Nat×Nat×Opd))
 |[]=>some []
 | (i,x)::r=>match fs[i]?,aL x,DR P fs r with
   |some f,some y,some r'=>match gM P f.type with
    |some s=>some ((f.offset,s,y)::r')
    |none=>none
   |_,_,_=>none
def KA (size:Nat):List (Nat×Operand)→Option (List (Nat×Nat×Opd))
 |[]=>some []
 | (i,x)::r=>match aL x,KA size r with
   |some y,some r'=>some ((i*size,size,y)::r')
   |_,_=>none
def db (P:Program) (o:Op):Option AOp:=
 match o with
 | .move x| .assign x=>(aL x).map .mv
 | .pick c a b=>match aL c,aL a,aL b with
   |some c,some a,some b=>some (.pick c a b)
   |_,_,_=>none
 | .alloc t=>(Ac P t).map .alloc
 | .box t x=>match gM P t,aL x with
   |some s,some x=>some (.box s x)
   |_,_=>none
 | .build t ps=>match P.underlying t,Ac P t with
   |some (.struct fs),some z=>if fs.toList.all (fun f=>(gM P f.type).isSome) then (DR P fs.toList ps.toList).map (.build z) else none
   |some (.array _ e),some z=>match gM P e with
    |some s=>(KA s ps.toList).map (.build z)
    |none=>none
   |_,_=>none
 | .buildSlice t len ps=>match TG P t with
   |some e=>match gM P e,Ac P e,DK ps.toList with
    |some s,some z,some ps=>some (.buildSlice s z len ps)
    |_,_,_=>none
   |none=>none
 | .load t a=>match Mj P t,aL a with
   |some g,some a=>some (.load g a)
   |_,_=>none
 | .store t a x=>match gM P t,aL a,aL x with
   |some s,some a,some x=>some (.store s a x)
   |_,_,_=>none
 | .nilCheck x=>(aL x).map .nilCheck
 | .binOp op t x y _=>match aL x,aL y with
   |some x,some y=>match P.underlying t with
    |some (.struct fs)=>
     if !P.stoodInHeld t&& !P.eqGuardType P.depth t then
      (match op,kH P 0 fs.toList with
      | .eql,some ks=>some (.eqAgg false ks x y)
      | .neq,some ks=>some (.eqAgg true ks x y)
      |_,_=>none) else none
    |some .bool=>(match op with
     | .eql=>some (.beq false x y)
     | .neq=>some (.beq true x y)
     |_=>none)
    |some (.int _)|some .string=>some (.bin op x y)
    |some (.slice _)=>(match op,y with
     | .eql,.c (.slice none 0 0)=>some (.isNil false x)
     | .neq,.c (.slice none 0 0)=>some (.isNil true x)
     |_,_=>none)
    |_=>none
   |_,_=>none
 | .unOp op _ x=>(aL x).map (.un op)
 | .convert src dst x=>match P.underlying src,P.underlying dst,aL x with
   |some (.int _),some (.int k),some x=>some (.toInt k x)
   |some .string,some .string,some x=>some (.same x)
   |some .string,some (.slice e),some x=>match P.underlying e with
    |some (.int .u8)=>some (.toBytes x)
    |_=>none
   |some (.slice e),some .string,some x=>match P.underlying e,gM P e with
    |some (.int .u8),some 1=>some (.toStr x)
    |_,_=>none
   |some (.slice _),some (.slice e),some x=>match P.underlying e with
    |some (.int .u8)=>if src==dst then some (.bytesOwn x) else none
    |_=>none
   |_,_,_=>none
 | .sliceToArrayPointer t x=>match P.underlying t,aL x with
   |some (.array n _),some x=>some (.arrOf n x)
   |_,_=>none
 | .makeFunc (.func f) first caps=>match first.toList,iG caps.toList with
   |[],some cs=>some (.makeFunc f cs)
   |_,_=>none
 | .makeSlice t l c=>match TG P t with
   |some e=>match P.info? e,Ac P e,aL l,aL c with
    |some i,some z,some l,some c=>some (.makeSlice i.size i.bytes z l c)
    |_,_,_,_=>none
   |none=>none
 | .slice t x lo hi mx=>match P.underlying t,aL x,lw lo,lw hi,lw mx with
   |some .string,some x,some lo,some hi,some none=>some (.sliceStr x lo hi)
   |some (.slice e),some x,some lo,some hi,some mx=>match gM P e with
    |some s=>some (.slice s x lo hi mx)
    |none=>none
   |_,_,_,_,_=>none
 | .fieldAddr t x f=>match P.underlying t,aL x with
   |some (.struct fs),some x=>match fs[f]? with
    |some fd=>match gM P fd.type with
     |some (s+1)=>some (.off fd.offset x)
     |_=>none
    |none=>none
   |_,_=>none
 | .field t x f=>match P.underlying t,aL x with
   |some (.struct fs),some x=>match fs[f]? with
    |some fd=>match Mj P fd.type with
     |some g=>some (.field fd.offset g x)
     |none=>none
    |none=>none
   |_,_=>none
 | .indexAddr t x i=>match P.underlying t,aL x,aL i with
   |some (.slice e),some x,some i=>match gM P e with
    |some s=>some (.idx s x i)
    |none=>none
   |some (.array n e),some x,some i=>match gM P e with
    |some s=>some (.idxArr n s x i)
    |none=>none
   |_,_,_=>none
 | .index t x i=>match P.underlying t,aL x,aL i with
   |some .string,some x,some i=>some (.ixStr x i)
   |some (.array n e),some x,some i=>match gM P e,Mj P e with
    |some s,some g=>some (.ixAgg n s g x i)
    |_,_=>none
   |_,_,_=>none
 | .extract x i=>match aL x with
   |some x=>some (.ext x i)
   |none=>none
 | .call c=>match c.callee,iG c.args.toList with
   | .value (.func f),some args=>some (.call f args)
   | .value f,some args=>match aL f with
     |some f=>some (.dyn f args)
     |none=>none
   | .builtin .len,some [x]=>match c.argTypes[0]? with
     |some t=>match P.underlying t with
      |some .string=>some (.len true x)
      |some (.slice _)=>some (.len false x)
      |some (.array n _)=>some (.lenArr n x)
      |_=>none
     |none=>none
   | .builtin .append,some [x,y]=>match c.argTypes[0]?,c.argTypes[1]? with
     |some t,some u=>match TG P t,P.underlying u with
      |some e,some d=>match P.info? e,Ac P e with
       |some i,some z=>(match d with
        | .int _=>some (.appendN i.size i.bytes z x y)
        |_=>some (.append i.size i.bytes z x y))
       |_,_=>none
      |_,_=>none
     |_,_=>none
   | .builtin .copy,some [x,y]=>match c.argTypes[0]? with
     |some t=>match TG P t with
      |some e=>match gM P e with
       |some s=>some (.copy s x y)
       |none=>none
      |none=>none
     |none=>none
   | .builtin .max,some [x,y]=>some (.max2 x y)
   | .builtin .min,some [x,y]=>some (.min2 x y)
   |_,_=>none
 |_=>none
def b0p (n:Nat):Option Nat→Bool
 |some d=>decide (d<n)
 |none=>true
def Ix (P:Program) (ntmps:Nat) (ops:Array Oper) (o:Oper):Option aV:=
 match db P o.op with
 |none=>none
 |some op=>
  if b0p ntmps o.dst=true then
  (match o.guard with
  |none=>some ⟨o.dst,op,none⟩
  |some (j,b)=>match (ops[j]?).bind (·.dst) with
   |some t=>some ⟨o.dst,op,some (t,b)⟩
   |none=>none) else none
def j6 (P:Program) (ntmps:Nat) (ops:Array Oper):List Oper→Option (List aV)
 |[]=>some []
 |o::r=>match Ix P ntmps ops o,j6 P ntmps ops r with
  |some s,some r'=>some (s::r')
  |_,_=>none
def a2c (ops:List Oper):List (List Nat):=
 (ops.foldl (fun acc o=>((o.after.toList.filter (Region.binds .any)).flatMap fun e=>e.on::acc.getD (acc.length-1-e.on) []).eraseDups::acc) []).reverse
def F0 (s:aV):List Nat:=
 (s.op.opds.filterMap fun| .t n=>some n|_=>none)++(match s.guard with
   |some (t,_)=>[t]
   |none=>[])
def Up (x y:aV):Bool:=
 (match x.dst with
  |some d=> !(F0 y).contains d&&y.dst !=some d
  |none=>true)&&
 (match y.dst with
  |some d=> !(F0 x).contains d
  |none=>true)
def N3 (ops:List Oper) (steps:List aV) (deps:List (List Nat)):Bool:=
 (List.range steps.length).all fun j=>
  ((ops[j]?).map (fun o=>o.after.toList.all fun e=> !Region.binds .any e||(decide (e.on<j)&&(deps.getD j []).contains e.on&&(deps.getD e.on []).all fun d=>(deps.getD j []).contains d))).getD false&&
  (deps.getD j []).all (fun d=>decide (d<j)&&((ops[j]?).map (fun o=>o.after.toList.any fun e=>Region.binds .any e&&(e.on==d||(deps.getD e.on []).contains d))).getD false)&&
  (List.range j).all fun i=>(deps.getD j []).contains i||(match steps[i]?,steps[j]? with
   |some x,some y=>Up x y
   |_,_=>false)
structure a47 where
 live:List (Nat×List Nat)
 ghosts:List (Nat×dB)
 keep:Bool
 raw:Bool
def zC (gs:List (Nat×dB)) (id:Nat) (c:ai):ai:=
 gs.foldr (fun (g:Nat×dB) c=>if g.1=id then .ghost g.2 c else c) c
def eT (P:Program) (ntmps:Nat) (hn:a47):Code→Option ai
 | .skip=>some .skip
 | .region id ops draw=>match j6 P ntmps ops ops.toList with
   |none=>none
   |some steps=>
    let live:=(dR hn.live id).getD []
    if draw then
     (if N3 ops.toList steps (a2c ops.toList) then some (zC hn.ghosts id (.drawn (1000*(id+1)) steps (a2c ops.toList) live)) else none)
    else some (zC hn.ghosts id (.region (1000*(id+1)) steps live))
 | .seq a b=>match eT P ntmps hn a,eT P ntmps hn b with
   |some a,some b=>some (.seq a b)
   |_,_=>none
 | .cond c a b=>match aL c,eT P ntmps hn a,eT P ntmps hn b with
   |some c,some a,some b=>some (.cond c a b)
   |_,_,_=>none
 | .block id c=>(eT P ntmps hn c).map (.block id)
 | .loop c=>(eT P ntmps hn c).map .loop
 | .exit id=>some (.exit id)
 | .ret=>some .ret
 |_=>none
def pU (P:Program):List ResultVar→Option (List Kj)
 |[]=>some []
 | .tmp t::r=>(pU P r).map (.tmp t:: ·)
 | .cell a t::r=>match Mj P t,pU P r with
   |some g,some r'=>some (.cell a g::r')
   |_,_=>none
def uL (P:Program) (fn:Func) (hn:a47):Option ae:=
 match fn.body with
 |none=>none
 |some c=>match eT P fn.ntmps hn c,pU P fn.results.toList with
  |some c,some rs=>if P.follows .mixedOrders then some ⟨fn.ntmps,c,rs,hn.keep,hn.raw⟩ else none
  |_,_=>none
end Go.AI
