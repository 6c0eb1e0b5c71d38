/- Part. -/
import Derived.Test.YtdnkignjanfikaaGreatAiDefs
import Derived.Laws.StructEq
set_option linter.unusedVariables false
namespace Go.AI
def bF:Operand->Option Opd
 | .tmp t=>some (.t t)
 | .const v=>some (.c v)
 | .func f=>some (.f f)
 | .global _=>none
def sN:Option Operand->Option (Option Opd)
 |none=>some none
 |some x=>match bF x with
  |some y=>some (some y)
  |none=>none
def nG:List Operand->Option (List Opd)
 |[]=>some []
 |x::r=>match bF x,nG r with
  |some y,some r'=>some (y::r')
  |_,_=>none
def sn:List (Nat×Operand)->Option (List (Nat×Opd))
 |[]=>some []
 | (i,x)::r=>match bF x,sn r with
   |some y,some r'=>some ((i,y)::r')
   |_,_=>none
def Pr (P:Program) (t:TypeId):Option (Option Nat):=
 match P.underlying t,P.info? t with
 |some (.struct _),some i|some (.array _ _),some i=>some (some i.size)
 |some _,some _=>some none
 |_,_=>none
def lj (P:Program) (t:TypeId):Option Nat:=(P.info? t).map (·.size)
def Dr (P:Program) (t:TypeId):Option (List Value):=match P.info? t with
 |some i=>match i.zero with
  |some z=>some z.cells.toList
  |none=>none
 |none=>none
def UL (P:Program) (t:TypeId):Option TypeId:=match P.underlying t with
 |some (.slice e)=>some e
 |_=>none
def rd (P:Program):Nat->List Field->Option (List Bool)
 |_,[]=>some []
 |n,f::r=>if (f.name != "_")&&(f.offset==n) then (match P.underlying f.type,rd P (n+1) r with
  |some (.int _),some ks=>some (true::ks)
  |some .string,some ks=>some (false::ks)
  |_,_=>none) else none
def Hm (P:Program) (fs:List Field):List (Nat×Operand)->Option (List (Nat×Nat×Opd))
 |[]=>some []
 | (i,x)::r=>match fs[i]?,bF x,Hm P fs r with
   |some f,some y,some r'=>match lj P f.type with
    |some s=>some ((f.offset,s,y)::r')
    |none=>none
   |_,_,_=>none
def N4 (size:Nat):List (Nat×Operand)->Option (List (Nat×Nat×Opd))
 |[]=>some []
 | (i,x)::r=>match bF x,N4 size r with
   |some y,some r'=>some ((i*size,size,y)::r')
   |_,_=>none
def b3n (P:Program) (e:TypeId):Bool:=match P.underlying e with
 |some (.slice d)=>(match P.underlying d with
  |some (.int .i64)=>true
  |_=>false)
 |_=>false
def WZ (P:Program) (t:TypeId):Bool:=match P.underlying t with
 |some (.map k e)=>match P.underlying k,P.info? e,P.underlying e with
  |some (.array 2 i),some ie,some (.int .i64)=>match P.underlying i,P.info? i,ie.zero with
   |some (.int .i64),some ii,some (.int .i64 0)=>ii.size==1&&P.cellsOf i==1
   |_,_,_=>false
  |_,_,_=>false
 |_=>false
def eW (P:Program) (o:Op):Option AOp:=
 match o with
 | .move x| .assign x=>(bF x).map .mv
 | .pick c a b=>match bF c,bF a,bF b with
   |some c,some a,some b=>some (.pick c a b)
   |_,_,_=>none
 | .alloc t=>(Dr P t).map .alloc
 | .box t x=>match lj P t,bF x with
   |some s,some x=>some (.box s x)
   |_,_=>none
 | .build t ps=>match P.underlying t,Dr P t with
   |some (.struct fs),some z=>if fs.toList.all (fun f=>(lj P f.type).isSome) then (Hm P fs.toList ps.toList).map (.build z) else none
   |some (.array _ e),some z=>match lj P e with
    |some s=>(N4 s ps.toList).map (.build z)
    |none=>none
   |_,_=>none
 | .buildSlice t len ps=>match UL P t with
   |some e=>match lj P e,Dr P e,sn ps.toList with
    |some s,some z,some ps=>if b3n P e=true then (match s,len,ps with
     |1,2,[(0,x),(1,y)]=>some (.buildTwo x y)
     |s,len,ps=>some (.buildSlice s z len ps)) else some (.buildSlice s z len ps)
    |_,_,_=>none
   |none=>none
 | .load t a=>match Pr P t,bF a with
   |some g,some a=>some (.load g a)
   |_,_=>none
 | .store t a x=>match lj P t,bF a,bF x with
   |some s,some a,some x=>some (.store s a x)
   |_,_,_=>none
 | .nilCheck x=>(bF x).map .nilCheck
 | .binOp op t x y _=>match bF x,bF y with
   |some x,some y=>match P.underlying t with
    |some (.struct fs)=>
     if !P.stoodInHeld t&& !P.eqGuardType P.depth t then
      (match op,rd P 0 fs.toList with
      | .eql,some ks=>some (.eqAgg false ks x y)
      | .neq,some ks=>some (.eqAgg true ks x y)
      |_,_=>none) else none
    |some .bool=>(match op with
     | .eql=>some (.beq false x y)
     | .neq=>some (.beq true x y)
     |_=>none)
    |some (.int _)|some .string=>some (.bin op x y)
    |some (.slice _)=>(match op,y with
     | .eql,.c (.slice none 0 0)=>some (.isNil false x)
     | .neq,.c (.slice none 0 0)=>some (.isNil true x)
     |_,_=>none)
    |_=>none
   |_,_=>none
 | .unOp op _ x=>(bF x).map (.un op)
 | .convert src dst x=>match P.underlying src,P.underlying dst,bF x with
   |some (.int _),some (.int k),some x=>some (.toInt k x)
   |some .string,some .string,some x=>some (.same x)
   |some .string,some (.slice e),some x=>match P.underlying e with
    |some (.int .u8)=>some (.toBytes x)
    |_=>none
   |some (.slice e),some .string,some x=>match P.underlying e,lj P e with
    |some (.int .u8),some 1=>some (.toStr x)
    |_,_=>none
   |some (.slice _),some (.slice e),some x=>match P.underlying e with
    |some (.int .u8)=>if src==dst then some (.bytesOwn x) else none
    |_=>none
   |_,_,_=>none
 | .sliceToArrayPointer t x=>match P.underlying t,bF x with
   |some (.array n _),some x=>some (.arrOf n x)
   |_,_=>none
 | .makeFunc (.func f) first caps=>match first.toList,nG caps.toList with
   |[],some cs=>some (.makeFunc f cs)
   |_,_=>none
 | .makeSlice t l c=>match UL P t with
   |some e=>match P.info? e,Dr P e,bF l,bF c with
    |some i,some z,some l,some c=>some (.makeSlice i.size i.bytes z l c)
    |_,_,_,_=>none
   |none=>none
 | .slice t x lo hi mx=>match P.underlying t,bF x,sN lo,sN hi,sN mx with
   |some .string,some x,some lo,some hi,some none=>some (.sliceStr x lo hi)
   |some (.slice e),some x,some lo,some hi,some mx=>match lj P e with
    |some s=>some (.slice s x lo hi mx)
    |none=>none
   |_,_,_,_,_=>none
 | .fieldAddr t x f=>match P.underlying t,bF x with
   |some (.struct fs),some x=>match fs[f]? with
    |some fd=>match lj P fd.type with
     |some (s+1)=>some (.off fd.offset x)
     |_=>none
    |none=>none
   |_,_=>none
 | .field t x f=>match P.underlying t,bF x with
   |some (.struct fs),some x=>match fs[f]? with
    |some fd=>match Pr P fd.type with
     |some g=>some (.field fd.offset g x)
     |none=>none
    |none=>none
   |_,_=>none
 | .indexAddr t x i=>match P.underlying t,bF x,bF i with
   |some (.slice e),some x,some i=>match lj P e with
    |some s=>some (.idx s x i)
    |none=>none
   |some (.array n e),some x,some i=>match lj P e with
    |some s=>some (.idxArr n s x i)
    |none=>none
   |_,_,_=>none
 | .index t x i=>match P.underlying t,bF x,bF i with
   |some .string,some x,some i=>some (.ixStr x i)
   |some (.array n e),some x,some i=>match lj P e,Pr P e with
    |some s,some g=>some (.ixAgg n s g x i)
    |_,_=>none
   |_,_,_=>none
 | .makeMap t r=>match r with
   |none=>if WZ P t=true then some .mkMap else none
   |some _=>none
 | .lookup t m k ok=>match bF m,bF k with
   |some m,some k=>if WZ P t=true/\ok=false then some (.mapGet m k) else none
   |_,_=>none
 | .mapUpdate t m k x=>match bF m,bF k,bF x with
   |some m,some k,some x=>if WZ P t=true then some (.mapSet m k x) else none
   |_,_,_=>none
 | .mapEntry t m k=>match bF m,bF k with
   |some m,some k=>if WZ P t=true then some (.mapEnt m k) else none
   |_,_=>none
 | .entryStore t m k x=>match bF m,bF k,bF x with
   |some m,some k,some x=>some (.mapPut m k x)
   |_,_,_=>none
 | .extract x i=>match bF x with
   |some x=>some (.ext x i)
   |none=>none
 | .call c=>match c.callee,nG c.args.toList with
   | .value (.func f),some args=>some (.call f args)
   | .value f,some args=>match bF f with
     |some f=>some (.dyn f args)
     |none=>none
   | .builtin .len,some [x]=>match c.argTypes[0]? with
     |some t=>match P.underlying t with
      |some .string=>some (.len true x)
      |some (.slice _)=>some (.len false x)
      |some (.array n _)=>some (.lenArr n x)
      |_=>none
     |none=>none
   | .builtin .append,some [x,y]=>match c.argTypes[0]?,c.argTypes[1]? with
     |some t,some u=>match UL P t,P.underlying u with
      |some e,some d=>match P.info? e,Dr P e with
       |some i,some z=>(match d with
        | .int _=>some (.appendN i.size i.bytes z x y)
        |_=>some (.append i.size i.bytes z x y))
       |_,_=>none
      |_,_=>none
     |_,_=>none
   | .builtin .copy,some [x,y]=>match c.argTypes[0]? with
     |some t=>match UL P t with
      |some e=>match lj P e with
       |some s=>some (.copy s x y)
       |none=>none
      |none=>none
     |none=>none
   | .builtin .max,some [x,y]=>some (.max2 x y)
   | .builtin .min,some [x,y]=>some (.min2 x y)
   |_,_=>none
 |_=>none
def b3k (n:Nat):Option Nat->Bool
 |some d=>decide (d<n)
 |none=>true
def LP (P:Program) (ntmps:Nat) (ops:Array Oper) (o:Oper):Option cx:=
 match eW P o.op with
 |none=>none
 |some op=>
  if b3k ntmps o.dst=true then
  (match o.guard with
  |none=>some ⟨o.dst,op,none⟩
  |some (j,b)=>match (ops[j]?).bind (·.dst) with
   |some t=>some ⟨o.dst,op,some (t,b)⟩
   |none=>none) else none
def md (P:Program) (ntmps:Nat) (ops:Array Oper):List Oper->Option (List cx)
 |[]=>some []
 |o::r=>match LP P ntmps ops o,md P ntmps ops r with
  |some s,some r'=>some (s::r')
  |_,_=>none
def a3y (ops:List Oper):List (List Nat):=
 (ops.foldl (fun acc o=>((o.after.toList.filter (Region.binds .any)).flatMap fun e=>e.on::acc.getD (acc.length-1-e.on) []).eraseDups::acc) []).reverse
def It (s:cx):List Nat:=
 (s.op.opds.filterMap fun| .t n=>some n|_=>none)++(match s.guard with
   |some (t,_)=>[t]
   |none=>[])
def Ya (x y:cx):Bool:=
 (match x.dst with
  |some d=> !(It y).contains d&&y.dst !=some d
  |none=>true)&&
 (match y.dst with
  |some d=> !(It x).contains d
  |none=>true)
def PY (ops:List Oper) (steps:List cx) (deps:List (List Nat)):Bool:=
 (List.range steps.length).all fun j=>
  ((ops[j]?).map (fun o=>o.after.toList.all fun e=> !Region.binds .any e||(decide (e.on<j)&&(deps.getD j []).contains e.on&&(deps.getD e.on []).all fun d=>(deps.getD j []).contains d))).getD false&&
  (deps.getD j []).all (fun d=>decide (d<j)&&((ops[j]?).map (fun o=>o.after.toList.any fun e=>Region.binds .any e&&(e.on==d||(deps.getD e.on []).contains d))).getD false)&&
  (List.range j).all fun i=>(deps.getD j []).contains i||(match steps[i]?,steps[j]? with
   |some x,some y=>Ya x y
   |_,_=>false)
structure Jt where
 live:List (Nat×List Nat)
 ghosts:List (Nat×dX)
 keep:Bool
 raw:Bool
def AK (gs:List (Nat×dX)) (id:Nat) (c:aU):aU:=
 gs.foldr (fun (g:Nat×dX) c=>if g.1=id then .ghost g.2 c else c) c
def ge (P:Program) (ntmps:Nat) (hn:Jt):Code->Option aU
 | .skip=>some .skip
 | .region id ops draw=>match md P ntmps ops ops.toList with
   |none=>none
   |some steps=>
    let live:=(eH hn.live id).getD []
    if draw then
     (if PY ops.toList steps (a3y ops.toList) then some (AK hn.ghosts id (.drawn (1000*(id+1)) steps (a3y ops.toList) live)) else none)
    else some (AK hn.ghosts id (.region (1000*(id+1)) steps live))
 | .seq a b=>match ge P ntmps hn a,ge P ntmps hn b with
   |some a,some b=>some (.seq a b)
   |_,_=>none
 | .cond c a b=>match bF c,ge P ntmps hn a,ge P ntmps hn b with
   |some c,some a,some b=>some (.cond c a b)
   |_,_,_=>none
 | .block id c=>(ge P ntmps hn c).map (.block id)
 | .loop c=>(ge P ntmps hn c).map .loop
 | .exit id=>some (.exit id)
 | .ret=>some (AK hn.ghosts 999999 .ret)
 |_=>none
def uZ (P:Program):List ResultVar->Option (List HZ)
 |[]=>some []
 | .tmp t::r=>(uZ P r).map (.tmp t:: ·)
 | .cell a t::r=>match Pr P t,uZ P r with
   |some g,some r'=>some (.cell a g::r')
   |_,_=>none
def uV (P:Program) (fn:Func) (hn:Jt):Option j4:=
 match fn.body with
 |none=>none
 |some c=>match ge P fn.ntmps hn c,uZ P fn.results.toList with
  |some c,some rs=>if P.follows .mixedOrders then some ⟨fn.ntmps,c,rs,hn.keep,hn.raw⟩ else none
  |_,_=>none
end Go.AI
