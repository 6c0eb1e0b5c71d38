/- An abstract interpreter for the translated program: values, a local memory of numbered blocks, operations. Definitions alone. -/
import Derived.Calls
import Derived.Orders
namespace Go.AI
inductive V where
 |lit (v:Value)
 |agg (cs:List V)
 |tup (vs:List V)
 |ptr (b i o n:Nat)
 |sl (b s n:Nat)
 |imm (e:Nat) (rows:List (List V))
 |iptr (row:List V) (o:Nat)
 |fn (f:FuncId) (caps:List V)
 |undef
 deriving Inhabited
structure Blk where
 esz:Nat
 op:Bool
 rows:List (List V)
abbrev a8:=Nat→Option Blk
def V.cl:V→Bool
 | .lit _| .imm _ _| .iptr _ _=>true
 | .fn _ []=>true
 |_=>false
def ag:Value→Bool
 | .agg _| .tuple _=>false
 |_=>true
def V.cell:V→Bool
 | .lit v=>ag v
 | .ptr .. | .sl .. | .imm .. | .iptr .. | .fn .. =>true
 |_=>false
def V.cz:V→V
 | .lit (.slice none 0 0)=> .imm 1 []
 | .imm _ []=> .imm 1 []
 |v=>v
def V.czA:V→V
 | .agg cs=> .agg (cs.map V.cz)
 |v=>v.cz
def V.czR:V→V
 | .tup vs=> .tup (vs.map V.czA)
 |v=>v.czA
def Blk.cz (k:Blk):Blk:=if k.op then { k with rows:=k.rows.map (·.map V.cz) } else k
def zc (v:Value):V:=(V.lit v).cz
def V.cells:V→List V
 | .agg cs=>cs
 |v=>[v]
inductive Opd where
 |t (n:Nat)
 |c (v:Value)
 |f (k:FuncId)
 deriving Inhabited
def Opd.ev (f:Nat→V):Opd→V
 | .t n=>f n
 | .c v=> .lit v
 | .f k=> .fn k []
inductive AOp where
 |mv (x:Opd)
 |pick (c a b:Opd)
 |alloc (zero:List Value)
 |box (size:Nat) (x:Opd)
 |build (zero:List Value) (parts:List (Nat×Nat×Opd))
 |buildTwo (x y:Opd)
 |buildSlice (esz:Nat) (zero:List Value) (len:Nat) (parts:List (Nat×Opd))
 |load (agg:Option Nat) (a:Opd)
 |store (size:Nat) (a x:Opd)
 |nilCheck (x:Opd)
 |bin (op:BinOp) (x y:Opd)
 |eqAgg (neg:Bool) (ks:List Bool) (x y:Opd)
 |beq (neg:Bool) (x y:Opd)
 |un (op:UnOp) (x:Opd)
 |toInt (k:IntKind) (x:Opd)
 |same (x:Opd)
 |toBytes (x:Opd)
 |toStr (x:Opd)
 |makeFunc (f:FuncId) (caps:List Opd)
 |makeSlice (esz bytes:Nat) (zero:List Value) (len cap:Opd)
 |sliceStr (x:Opd) (lo hi:Option Opd)
 |slice (esz:Nat) (x:Opd) (lo hi mx:Option Opd)
 |off (d:Nat) (x:Opd)
 |field (d:Nat) (agg:Option Nat) (x:Opd)
 |idx (esz:Nat) (x i:Opd)
 |idxArr (len esz:Nat) (x i:Opd)
 |ixStr (x i:Opd)
 |ixAgg (len esz:Nat) (agg:Option Nat) (x i:Opd)
 |ext (x:Opd) (i:Nat)
 |len (str:Bool) (x:Opd)
 |lenArr (n:Nat) (x:Opd)
 |isNil (neg:Bool) (x:Opd)
 |append (esz bytes:Nat) (zero:List Value) (x y:Opd)
 |appendN (esz bytes:Nat) (zero:List Value) (x y:Opd)
 |copy (esz:Nat) (x y:Opd)
 |max2 (x y:Opd)
 |min2 (x y:Opd)
 |arrOf (len:Nat) (x:Opd)
 |bytesOwn (x:Opd)
 |call (f:FuncId) (args:List Opd)
 |dyn (f:Opd) (args:List Opd)
 deriving Inhabited
def ny:Option Opd→List Opd
 |some x=>[x]
 |none=>[]
def AOp.opds:AOp→List Opd
 | .mv x| .box _ x| .load _ x| .nilCheck x| .un _ x| .toInt _ x| .same x| .toBytes x| .toStr x| .off _ x| .field _ _ x| .ext x _| .len _ x| .lenArr _ x| .isNil _ x| .arrOf _ x| .bytesOwn x=>[x]
 | .pick c a b=>[c,a,b]
 | .alloc _=>[]
 | .build _ ps=>ps.map (·.2.2)
 | .buildSlice _ _ _ ps=>ps.map (·.2)
 | .store _ a x=>[a,x]
 | .buildTwo x y| .bin _ x y| .beq _ x y| .eqAgg _ _ x y| .makeSlice _ _ _ x y| .idx _ x y| .idxArr _ _ x y| .ixStr x y| .ixAgg _ _ _ x y| .append _ _ _ x y| .appendN _ _ _ x y| .copy _ x y| .max2 x y| .min2 x y=>[x,y]
 | .makeFunc _ cs=>cs
 | .sliceStr x lo hi=>x::(ny lo++ny hi)
 | .slice _ x lo hi mx=>x::(ny lo++(ny hi++ny mx))
 | .call _ args=>args
 | .dyn f args=>f::args
def dK:Blk:=⟨0,false,[]⟩
def dX (h:a8):V→Option (V×List Nat)
 | .sl b s n=>match h b with
   |some k=>if k.op=false∧0<k.esz∧s+n=k.rows.length then some (.imm k.esz (k.rows.drop s),[b]) else none
   |none=>none
 |v=>if v.cl&&v.cell then some (v,[]) else none
def da (h:a8):List V→Option (List V×List Nat)
 |[]=>some ([],[])
 |v::r=>match dX h v,da h r with
  |some (v',bs),some (r',bs')=>some (v'.cz::r',bs++bs')
  |_,_=>none
abbrev Upd:=List (Nat×Blk)
def bK (bs:List Nat):Upd:=bs.map fun b=>(b,dK)
def aB (h:a8) (b:Nat) (k:Blk):a8:=fun b'=>if b'=b then some k else h b'
def bB (h:a8):Upd→a8
 |[]=>h
 | (b,k)::r=>bB (aB h b k) r
def aR (h:a8) (esz:Nat):V→Option (List (List V))
 | .sl b s n=>match h b with
   |some k=>if k.op=false∧0<k.esz∧k.esz=esz∧s+n=k.rows.length then some (k.rows.drop s) else none
   |none=>none
 | .imm e rows=>if e=esz then some rows else if rows.isEmpty then some [] else none
 | .lit (.slice none 0 0)=>some []
 | .lit (.slice (some _) 0 _)=>some []
 | .lit (.string s)=>if esz=1 then some (s.data.toList.map fun b=>[.lit (.int .u8 b.toNat)]) else none
 |_=>none
def zY:V→Bool
 | .lit (.string _)=>true
 |_=>false
def asI:V→Option Int
 | .lit (.int _ n)=>some n
 |_=>none
def aC:Nat:=1099511627776
def bx (op:BinOp):Value→Value→Option Value
 | .int k a,.int k' b=>
   match op with
   | .shl=>if 0≤b then some (.int k (k.wrap (a*2^(min b.toNat k.bits)))) else none
   | .shr=>if 0≤b then some (.int k (a.fdiv (2^(min b.toNat k.bits)))) else none
   | .add=>if k=k' then some (.int k (k.wrap (a+b))) else none
   | .sub=>if k=k' then some (.int k (k.wrap (a-b))) else none
   | .mul=>if k=k' then some (.int k (k.wrap (a*b))) else none
   | .quo=>if k=k'∧b≠0 then some (.int k (k.wrap (a.tdiv b))) else none
   | .rem=>if k=k'∧b≠0 then some (.int k (a.tmod b)) else none
   | .and=>if k=k' then some (.int k (k.wrap (BitVec.ofInt k.bits a&&&BitVec.ofInt k.bits b).toNat)) else none
   | .or=>if k=k' then some (.int k (k.wrap (BitVec.ofInt k.bits a|||BitVec.ofInt k.bits b).toNat)) else none
   | .xor=>if k=k' then some (.int k (k.wrap (BitVec.ofInt k.bits a^^^BitVec.ofInt k.bits b).toNat)) else none
   | .andNot=>if k=k' then some (.int k (k.wrap (BitVec.ofInt k.bits a&&& ~~~ BitVec.ofInt k.bits b).toNat)) else none
   | .eql=>if k=k' then some (.bool (a==b)) else none
   | .neq=>if k=k' then some (.bool (a !=b)) else none
   | .lss=>if k=k' then some (.bool (decide (a<b))) else none
   | .leq=>if k=k' then some (.bool (decide (a≤b))) else none
   | .gtr=>if k=k' then some (.bool (decide (a>b))) else none
   | .geq=>if k=k' then some (.bool (decide (a≥b))) else none
 | .string a,.string b=>
   match op with
   | .add=>if a.size+b.size≤aC then some (.string (a++b)) else none
   | .eql=>some (.bool (a.toList==b.toList))
   | .neq=>some (.bool !(a.toList==b.toList))
   |_=>none
 |_,_=>none
def sr (op:UnOp):Value→Option Value
 | .int k n=>match op with
   | .neg=>some (.int k (k.wrap (0-n)))
   | .xor=>some (.int k (k.wrap (BitVec.ofInt k.bits (if k.signed then-1 else k.max)^^^BitVec.ofInt k.bits n).toNat))
   |_=>none
 | .bool b=>match op with
   | .not=>some (.bool !b)
   |_=>none
 |_=>none
def b9:List Bool→List V→List V→Option Bool
 |[],[],[]=>some true
 |true::ks,.lit (.int k a)::x,.lit (.int k' b)::y=>if k=k' then (if a=b then b9 ks x y else some false) else none
 |false::ks,.lit (.string a)::x,.lit (.string b)::y=>if a=b then b9 ks x y else some false
 |_,_,_=>none
def aH (o:Option V) (dflt most:Nat):Option Nat:=
 match o with
 |none=>some dflt
 |some v=>match asI v with
  |some i=>if 0≤i∧i≤most then some i.toNat else none
  |none=>none
def lE (cells:List V):List (Nat×Nat×V)→Option (List V)
 |[]=>some cells
 | (off,size,v)::r=>
   if v.cells.length=size∧off+size≤cells.length∧v.cells.all V.cell then lE (cells.take off++(v.cells++cells.drop (off+size))) r else none
def pU (esz:Nat) (rows:List (List V)):List (Nat×V)→Option (List (List V))
 |[]=>some rows
 | (i,v)::r=>if v.cells.length=esz∧i<rows.length∧v.cells.all V.cell then pU esz (rows.set i v.cells) r else none
def part (agg:Option Nat) (cs:List V) (o:Nat):Option V:=
 match agg with
 |none=>cs[o]?
 |some n=>if o+n≤cs.length then some (.agg ((cs.drop o).take n)) else none
abbrev am:=FuncId→List V→List Blk→Option (V×List Blk)
def dD (b:Nat):List Nat→Nat
 |[]=>0
 |x::r=>if x=b then 0 else dD b r+1
def bQ (ids:List Nat) (b:Nat):List Nat:=if b∈ids then ids else ids++[b]
def aO (h:a8) (own:Bool) (ids:List Nat):V→Option (V×List Nat×List Nat)
 | .lit v=>some (.lit v,ids,[])
 | .imm e r=>some (.imm e r,ids,[])
 | .iptr r o=>some (.iptr r o,ids,[])
 | .undef=>some (.undef,ids,[])
 | .fn f []=>some (.fn f [],ids,[])
 | .ptr b i o n=>match h b with
   |some k=>if k.rows.length=n then some (.ptr (dD b (bQ ids b)) i o n,bQ ids b,[]) else none
   |none=>none
 | .sl b s n=>match h b with
   |some k=>if s+n=k.rows.length then
    (if own then some (.sl (dD b (bQ ids b)) s n,bQ ids b,[]) else if k.op=false∧0<k.esz then some (.imm k.esz (k.rows.drop s),ids,[b]) else none) else none
   |none=>none
 |_=>none
def aY (h:a8) (own:Bool):List Nat→List V→Option (List V×List Nat×List Nat)
 |ids,[]=>some ([],ids,[])
 |ids,v::r=>match aO h own ids v with
  |some (v',ids',bs)=>match aY h own ids' r with
   |some (r',ids'',bs')=>some (v'::r',ids'',bs++bs')
   |none=>none
  |none=>none
def be (h:a8) (own:Bool) (ids:List Nat):V→Option (V×List Nat×List Nat)
 | .agg cs=>match aY h own ids cs with
   |some (cs',ids',bs)=>some (.agg cs',ids',bs)
   |none=>none
 | .fn f caps=>match aY h true ids caps with
   |some (cs',ids',bs)=>some (.fn f cs',ids',bs)
   |none=>none
 |v=>aO h own ids v
def bY (h:a8) (owns:List Nat):Nat→List Nat→List V→Option (List V×List Nat×List Nat)
 |_,ids,[]=>some ([],ids,[])
 |j,ids,v::r=>match be h (j∈owns) ids v with
  |some (v',ids',bs)=>match bY h owns (j+1) ids' r with
   |some (r',ids'',bs')=>some (v'::r',ids'',bs++bs')
   |none=>none
  |none=>none
def eG (h:a8):List Nat→List V→Option (List V×List Nat)
 |ids,[]=>some ([],ids)
 |ids,v::r=>match be h true ids v with
  |some (v',ids',_)=>match eG h ids' r with
   |some (r',ids'')=>some (v'::r',ids'')
   |none=>none
  |none=>none
def dw (h:a8):List Nat→List (List V)→Option (List (List V)×List Nat)
 |ids,[]=>some ([],ids)
 |ids,x::r=>match eG h ids x with
  |some (x',ids')=>match dw h ids' r with
   |some (r',ids'')=>some (x'::r',ids'')
   |none=>none
  |none=>none
def bi (h:a8):Nat→Nat→List Nat→Option (List Blk×List Nat)
 |0,_,_=>none
 |fuel+1,pos,ids=>match ids[pos]? with
  |none=>some ([],ids)
  |some b=>match h b with
   |none=>none
   |some k=>
    if k.op=false then match bi h fuel (pos+1) ids with
     |some (r,ids')=>some (k::r,ids')
     |none=>none
    else match dw h ids k.rows with
     |none=>none
     |some (rows,ids1)=>match bi h fuel (pos+1) ids1 with
      |some (r,ids2)=>some ({ k with rows:=rows }::r,ids2)
      |none=>none
def unV (ids:List Nat):V→V
 | .ptr b i o n=> .ptr (ids.getD b 0) i o n
 | .sl b s n=> .sl (ids.getD b 0) s n
 |v=>v
def dC (ids:List Nat):V→V
 | .agg cs=> .agg (cs.map (unV ids))
 | .fn f cs=> .fn f (cs.map (unV ids))
 |v=>unV ids v
def jw (ids:List Nat):V→V
 | .tup vs=> .tup (vs.map (dC ids))
 |v=>dC ids v
def cH (ids:List Nat) (k:Blk):Blk:=if k.op=false then k else { k with rows:=k.rows.map (·.map (dC ids)) }
def eF:V→Bool
 | .lit _| .ptr .. | .sl .. | .undef=>true
 |_=>false
def kM:V→Bool
 | .agg cs=>cs.all eF
 |v=>eF v
def fF:V→Bool
 | .tup vs=>vs.all kM
 |v=>kM v
def cZ (fl:Bool) (k:Blk):Bool:=(fl||k.op)&&k.rows.all (·.all eF)
def de:List Nat→List Blk→Upd
 |i::r,k::s=>(i,k)::de r s
 |_,_=>[]
def b7 (owns:FuncId→List Nat) (h:a8) (f:FuncId) (args:List V):Option (List V×List Blk×List Nat×List Nat):=
 match bY h (owns f) 0 [] args with
 |none=>none
 |some (args',ids0,bor)=>match bi h 40 0 ids0 with
  |none=>none
  |some (blks,ids)=>if bor.any (fun b=>decide (b∈ids))=true then none else some (args',blks,ids,bor)
def bo:List Nat→List Blk→Nat→List Nat
 |[],[],_=>[]
 |[],_::r,n=>n::bo [] r (n+1000000)
 |_::i,_::r,n=>bo i r n
 |_::_,[],_=>[]
theorem ii: ∀{ids:List Nat} {bs:List Blk} {n:Nat},ids.length≤bs.length→(bo ids bs n).length+ids.length=bs.length
 |[],[],n,_=>rfl
 |[],_::r,n,_=>by simp only [bo,List.length_cons];have:= @ii [] r (n+1000000) (by simp);simpa using this
 |_::i,_::r,n,h=>by simp only [bo,List.length_cons];have:= @ii i r n (by simpa using h);omega
 |_::_,[],n,h=>by simp at h
theorem mb: ∀(ids:List Nat) (bs:List Blk) (n:Nat), ∀b∈bo ids bs n,n≤b
 |[],[],n,b,h=>by simp [bo] at h
 |[],_::r,n,b,h=>by
  simp only [bo,List.mem_cons] at h
  rcases h with h|h
  ·omega
  ·have:=mb [] r (n+1000000) b h;omega
 |_::i,_::r,n,b,h=>mb i r n b h
 |_::_,[],n,b,h=>by simp [bo] at h
theorem lU: ∀(ids:List Nat) (bs:List Blk) (n:Nat),(bo ids bs n).Nodup
 |[],[],n=>List.nodup_nil
 |[],_::r,n=>by
  simp only [bo,List.nodup_cons]
  exact ⟨fun h=>by have:=mb [] r (n+1000000) n h;omega,lU [] r _⟩
 |_::i,_::r,n=>lU i r n
 |_::_,[],n=>List.nodup_nil
def iH (fl:Bool) (h:a8) (new:Nat) (ids bor:List Nat) (r:V) (blks':List Blk):Option (V×Upd):=
 if ids.length≤blks'.length∧(bo ids blks' new).all (fun b=>(h b).isNone)=true then
  some (jw (ids++bo ids blks' new) r,de (ids++bo ids blks' new) (blks'.map (cH (ids++bo ids blks' new)))++(if (bor.isEmpty||(fF r&&blks'.all (cZ fl)))=true then [] else bK bor))
 else none
def fy (owns:List Nat) (args:List V):List V:=if owns.contains 1000 then args else args.map V.czA
def fB (owns:List Nat) (blks:List Blk):List Blk:=if owns.contains 1000 then blks else blks.map Blk.cz
def di (C:am) (owns:FuncId→List Nat) (h:a8) (new:Nat) (f:FuncId) (args:List V):Option (V×Upd):=
 match b7 owns h f args with
 |none=>none
 |some (args',blks,ids,bor)=>match C f (fy (owns f) args') (fB (owns f) blks) with
  |none=>none
  |some (r,blks')=>iH ((owns f).contains 2000) h new ids bor r blks'
def hI (agg:Option Nat) (h:a8) (a:V):Option V:=
 match a with
 | .ptr b i o n=>match h b with
   |some k=>if k.rows.length=n then (match k.rows[i]? with
    |some row=>part agg row o
    |none=>none) else none
   |none=>none
 | .iptr row o=>part agg row o
 |_=>none
def cQ (h:a8) (n:Nat) (k:Blk) (v:V):Option (V×Upd):=if (h n).isNone=true∧0<k.esz then some (v,[(n,k)]) else none
def bI (ev:Opd→V):List (Nat×Nat×Opd)→List (Nat×Nat×V)
 |[]=>[]
 | (a,b,x)::r=>(a,b,ev x)::bI ev r
def aS (h:a8) (ev:Opd→V):List (Nat×Opd)→Option (List (Nat×V)×List Nat)
 |[]=>some ([],[])
 | (i,x)::r=>match da h (ev x).cells,aS h ev r with
   |some (cs,bs),some (r',bs')=>some ((i,.agg cs)::r',bs++bs')
   |_,_=>none
def lT (esz bytes:Nat) (zero:List Value) (x:V) (sb:Nat→Bool) (h:a8) (new:Nat) (new_:List (List V)):Option (V×Upd):=
 if zero.length=esz∧0<esz∧new_.length*bytes≤aC∧new_.length*esz≤aC then
 (match x with
 | .sl b 0 n=>match h b with
   |some k=>if k.op=false∧0<k.esz∧k.esz=esz∧n=k.rows.length∧(n+new_.length)*bytes≤aC∧(n+new_.length)*esz≤aC∧sb b then
    some (.sl b 0 (n+new_.length),[(b,{ k with rows:=k.rows++new_ })]) else none
   |none=>none
 | .lit (.slice none 0 0)=>cQ h new ⟨esz,false,new_⟩ (.sl new 0 new_.length)
 | .imm 0 []=>cQ h new ⟨esz,false,new_⟩ (.sl new 0 new_.length)
 |_=>none) else none
def a6 (C:am) (owns:FuncId→List Nat) (o:AOp) (ev:Opd→V) (h:a8) (new:Nat):Option (V×Upd):=
 match o with
 | .mv x=>some (ev x,[])
 | .pick c a b=>match ev c with
   | .lit (.bool true)=>some (ev a,[])
   | .lit (.bool false)=>some (ev b,[])
   |_=>none
 | .alloc zero=>if zero.all ag then cQ h new ⟨zero.length,true,[zero.map .lit]⟩ (.ptr new 0 0 1) else none
 | .box size x=>if (ev x).cells.length=size∧(ev x).cells.all V.cell then cQ h new ⟨size,true,[(ev x).cells]⟩ (.ptr new 0 0 1) else none
 | .build zero parts=>if zero.all ag then (match lE (zero.map .lit) (bI ev parts) with
   |some cs=>some (.agg cs,[])
   |none=>none) else none
 | .buildTwo x y=>if (ev x).cell=true∧(ev y).cell=true then cQ h new ⟨1,true,[[ev x],[ev y]]⟩ (.sl new 0 2) else none
 | .buildSlice esz zero len parts=>match aS h ev parts with
   |some (ps,bs)=>match pU esz (List.replicate len (zero.map zc)) ps with
    |some rows=>if zero.length=esz∧zero.all ag∧len*esz≤16777216∧ ¬new∈bs then
     (match cQ h new ⟨esz,false,rows⟩ (.sl new 0 len) with
      |some (v,u)=>some (v,bK bs++u)
      |none=>none) else none
    |none=>none
   |none=>none
 | .load agg a=>match hI agg h (ev a) with
   |some v=>some (v,[])
   |none=>none
 | .store size a x=>match ev a with
   | .ptr b i o n=>match h b with
     |some k=>if k.rows.length=n then (match k.rows[i]? with
      |some row=>
       if k.op then
        (if (ev x).cells.length=size∧o+size≤row.length∧(ev x).cells.all V.cell then
         some (.undef,[(b,{ k with rows:=k.rows.set i (row.take o++((ev x).cells++row.drop (o+size))) })]) else none)
       else match da h (ev x).cells with
        |some (cs,bs)=>if cs.length=size∧o+size≤row.length∧ ¬b∈bs then
         some (.undef,bK bs++[(b,{ k with rows:=k.rows.set i (row.take o++(cs++row.drop (o+size))) })]) else none
        |none=>none
      |none=>none) else none
     |none=>none
   |_=>none
 | .nilCheck x=>match ev x with
   | .ptr b i o n=>match h b with
     |some k=>if k.rows.length=n∧i<n then some (.ptr b i o n,[]) else none
     |none=>none
   | .iptr r o=>some (.iptr r o,[])
   | .fn f c=>some (.fn f c,[])
   |_=>none
 | .bin op x y=>match ev x,ev y with
   | .lit a,.lit b=>match bx op a b with
     |some v=>some (.lit v,[])
     |none=>none
   |_,_=>none
 | .eqAgg neg ks x y=>match ev x,ev y with
   | .agg a,.agg b=>match b9 ks a b with
     |some r=>some (.lit (.bool (if neg then !r else r)),[])
     |none=>none
   |_,_=>none
 | .beq neg x y=>match ev x,ev y with
   | .lit (.bool a),.lit (.bool b)=>some (.lit (.bool (if neg then a !=b else a==b)),[])
   |_,_=>none
 | .un op x=>match ev x with
   | .lit a=>match sr op a with
     |some v=>some (.lit v,[])
     |none=>none
   |_=>none
 | .toInt k x=>match asI (ev x) with
   |some n=>some (.lit (.int k (k.wrap n)),[])
   |none=>none
 | .same x=>match ev x with
   | .lit (.string s)=>some (.lit (.string s),[])
   |_=>none
 | .toBytes x=>match ev x with
   | .lit (.string s)=>if s.size≤aC then cQ h new ⟨1,false,s.data.toList.map fun b=>[.lit (.int .u8 b.toNat)]⟩ (.sl new 0 s.size) else none
   |_=>none
 | .toStr x=>if zY (ev x) then none else match aR h 1 (ev x) with
   |some rows=>match bytesOf rows with
    |some l=>some (.lit (.string ⟨l.toArray⟩),[])
    |none=>none
   |none=>none
 | .makeFunc f caps=>some (.fn f (caps.map ev),[])
 | .makeSlice esz bytes zero len cap=>match asI (ev len),asI (ev cap) with
   |some l,some c=>if 0≤l∧l≤c∧c*bytes≤aC∧c*esz≤aC∧zero.length=esz∧zero.all ag then
    cQ h new ⟨esz,false,List.replicate l.toNat (zero.map zc)⟩ (.sl new 0 l.toNat) else none
   |_,_=>none
 | .sliceStr x lo hi=>match ev x with
   | .lit (.string s)=>match aH (hi.map ev) s.size s.size with
     |some b=>match aH (lo.map ev) 0 b with
      |some a=>some (.lit (.string (s.extract a b)),[])
      |none=>none
     |none=>none
   |_=>none
 | .slice esz x lo hi mx=>match mx with
   |some _=>none
   |none=>match ev x with
   | .lit (.slice none 0 0)=>match aH (hi.map ev) 0 0 with
     |some q=>match aH (lo.map ev) 0 q with
      |some _=>some (.lit (.slice none 0 0),[])
      |none=>none
     |none=>none
   | .sl b s n=>match h b with
     |some k=>if k.op=false∧0<k.esz∧k.esz=esz∧s+n=k.rows.length then (match aH (hi.map ev) n n with
      |some q=>match aH (lo.map ev) 0 q with
       |some p=>if q=n then some (.sl b (s+p) (n-p),[]) else some ((V.imm esz (((k.rows.drop s).take q).drop p)).cz,[(b,dK)])
       |none=>none
      |none=>none) else none
     |none=>none
   | .imm e rows=>if e=esz∨rows=[] then (match aH (hi.map ev) rows.length rows.length with
    |some q=>match aH (lo.map ev) 0 q with
     |some p=>some ((V.imm e ((rows.take q).drop p)).cz,[])
     |none=>none
    |none=>none) else none
   |_=>none
 | .off d x=>match ev x with
   | .ptr b i o n=>some (.ptr b i (o+d) n,[])
   | .iptr r o=>some (.iptr r (o+d),[])
   |_=>none
 | .field d agg x=>match ev x with
   | .agg cs=>match part agg cs d with
     |some v=>some (v,[])
     |none=>none
   |_=>none
 | .idx esz x i=>match asI (ev i) with
   |some i=>if 0≤i then (match ev x with
    | .sl b s n=>match h b with
      |some k=>if 0<k.esz∧k.esz=esz∧s+n=k.rows.length∧i.toNat<n then some (.ptr b (s+i.toNat) 0 k.rows.length,[]) else none
      |none=>none
    | .imm e rows=>if e=esz then (match rows[i.toNat]? with
      |some row=>some (.iptr row 0,[])
      |none=>none) else none
    |_=>none) else none
   |none=>none
 | .idxArr len esz x i=>match asI (ev i) with
   |some i=>if 0≤i∧i.toNat<len then (match ev x with
    | .ptr b j o n=>some (.ptr b j (o+i.toNat*esz) n,[])
    | .iptr r o=>some (.iptr r (o+i.toNat*esz),[])
    |_=>none) else none
   |none=>none
 | .ixStr x i=>match ev x,asI (ev i) with
   | .lit (.string s),some i=>if 0≤i then (match s.data[i.toNat]? with
     |some b=>some (.lit (.int .u8 b.toNat),[])
     |none=>none) else none
   |_,_=>none
 | .ixAgg len esz agg x i=>match ev x,asI (ev i) with
   | .agg cs,some i=>if 0≤i∧i.toNat<len then (match part agg cs (i.toNat*esz) with
     |some v=>some (v,[])
     |none=>none) else none
   |_,_=>none
 | .ext x i=>match ev x with
   | .tup vs=>match vs[i]? with
     |some v=>some (v,[])
     |none=>none
   |_=>none
 | .len str x=>match str,ev x with
   |true,.lit (.string s)=>some (.lit (.int .i64 s.size),[])
   |false,.lit (.slice _ n _)=>some (.lit (.int .i64 n),[])
   |false,.sl _ _ n=>some (.lit (.int .i64 n),[])
   |false,.imm _ rows=>some (.lit (.int .i64 rows.length),[])
   |_,_=>none
 | .lenArr n _=>some (.lit (.int .i64 n),[])
 | .isNil neg x=>match ev x with
   | .lit (.slice a _ _)=>some (.lit (.bool (if neg then !a.isNone else a.isNone)),[])
   | .imm _ (_::_)=>some (.lit (.bool neg),[])
   |_=>none
 | .append esz bytes zero x y=>match aR h esz (ev y) with
   |none=>none
   |some new_=>
    if zero.length=esz∧0<esz∧new_.length*bytes≤aC∧new_.length*esz≤aC then
    (match ev x with
    | .sl b 0 n=>match h b with
      |some k=>if k.op=false∧0<k.esz∧k.esz=esz∧n=k.rows.length∧(n+new_.length)*bytes≤aC∧(n+new_.length)*esz≤aC∧selfOk b (ev y) then
       some (.sl b 0 (n+new_.length),[(b,{ k with rows:=k.rows++new_ })]) else none
      |none=>none
    | .lit (.slice none 0 0)=>cQ h new ⟨esz,false,new_⟩ (.sl new 0 new_.length)
    | .imm 0 []=>cQ h new ⟨esz,false,new_⟩ (.sl new 0 new_.length)
    |_=>none) else none
 | .appendN esz bytes zero x y=>match asI (ev y) with
   |some l=>if 0≤l∧l≤1099511627776∧l*bytes≤1099511627776∧zero.all ag then lT esz bytes zero (ev x) (fun _=>true) h new (List.replicate l.toNat (zero.map zc)) else none
   |none=>none
 | .copy esz x y=>match aR h esz (ev y),ev x with
   |some rows,.sl b s n=>match h b with
    |some k=>if k.op=false∧0<k.esz∧k.esz=esz∧s+n=k.rows.length∧selfOk b (ev y) then
     some (.lit (.int .i64 (min rows.length n)),[(b,{ k with rows:=k.rows.take s++(rows.take (min rows.length n)++k.rows.drop (s+min rows.length n)) })]) else none
    |none=>none
   |_,_=>none
 | .max2 x y=>match ev x,ev y with
   | .lit (.int k a),.lit (.int _ b)=>some (.lit (.int k (if b>a then b else a)),[])
   |_,_=>none
 | .min2 x y=>match ev x,ev y with
   | .lit (.int k a),.lit (.int _ b)=>some (.lit (.int k (if b<a then b else a)),[])
   |_,_=>none
 | .arrOf len x=>match dX h (ev x) with
   |some (.imm _ rows,bs)=>if 0<len∧len≤rows.length then some (.iptr rows.flatten 0,bK bs) else none
   |_=>none
 | .bytesOwn x=>match ev x with
   | .sl b s n=>match h b with
     |some k=>if k.op=false∧0<k.esz∧s+n=k.rows.length∧0<n then some (.sl b s n,[(b,k)]) else none
     |none=>none
   |_=>none
 | .call f args=>di C owns h new f (args.map ev)
 | .dyn f args=>match ev f with
   | .fn k caps=>di C owns h new k (args.map ev++caps)
   |_=>none
where
 bytesOf:List (List V)→Option (List UInt8)
  |[]=>some []
  |[.lit (.int .u8 n)]::r=>if 0≤n∧n<256 then (match bytesOf r with
   |some l=>some (UInt8.ofNat n.toNat::l)
   |none=>none) else none
  |_=>none
 selfOk (b:Nat):V→Bool
  | .sl b' _ _=>b !=b'
  |_=>true
end Go.AI
namespace Go.AI
def bq {α:Type}:List (Nat×α)→Nat→Option α
 |[],_=>none
 | (k,v)::r,t=>if k=t then some v else bq r t
def bN {α:Type} (k:Nat) (v:α):List (Nat×α)→List (Nat×α)
 |[]=>[(k,v)]
 | (j,u)::r=>if j=k then (j,v)::r else (j,u)::bN k v r
structure St where
 e:List (Nat×V)
 m:List (Nat×Blk)
def St.get (s:St) (t:Nat):V:=(bq s.e t).getD .undef
def St.heap (s:St):a8:=bq s.m
def St.ev (s:St):Opd→V:=Opd.ev s.get
def St.put (s:St) (d:Option Nat) (v:V):St:=match d with
 |some d=>{ s with e:=(d,v)::s.e }
 |none=>s
def wV (m:List (Nat×Blk)):Upd→List (Nat×Blk)
 |[]=>m
 | (b,k)::r=>wV (bN b k m) r
def St.upd (s:St) (u:Upd):St:={ s with m:=wV s.m u }
structure al where
 dst:Option Nat
 op:AOp
 guard:Option (Nat×Bool)
 deriving Inhabited
def St.want (s:St):Option (Nat×Bool)→Option Bool
 |none=>some true
 |some (t,b)=>match s.get t with
  | .lit (.bool c)=>some (c==b)
  | .lit (.tuple _)=>some false
  |_=>none
abbrev bm:=FuncId→List Nat
def iC (C:am) (ow:bm) (st:St) (s:al) (n:Nat):Option St:=
 match st.want s.guard with
 |none=>none
 |some false=>some (st.put s.dst (.lit (.tuple #[])))
 |some true=>match a6 C ow s.op st.ev st.heap n with
  |some (v,u)=>some ((st.upd u).put s.dst v)
  |none=>none
def cO (C:am) (ow:bm):List al→Nat→St→Option St
 |[],_,st=>some st
 |s::r,n,st=>match iC C ow st s n with
  |some st'=>cO C ow r (n+1) st'
  |none=>none
structure Rec where
 i:Nat
 fp:List Nat
 wr:List Nat
def fW:V→List Nat
 | .ptr b _ _ _=>[b]
 | .sl b _ _=>[b]
 |_=>[]
def bE:V→List Nat
 | .agg cs=>cs.flatMap fW
 | .fn _ cs=>cs.flatMap fW
 | .tup vs=>vs.flatMap fun| .agg cs=>cs.flatMap fW|v=>fW v
 |v=>fW v
def nS (ow:bm) (h:a8) (f:FuncId) (args:List V):List Nat:=
 match b7 ow h f args with
 |none=>[]
 |some (_,_,ids,bor)=>ids++bor
def bJ (ow:bm) (o:AOp) (ev:Opd→V) (h:a8):List Nat:=
 match o with
 | .call f args=>nS ow h f (args.map ev)
 | .dyn f args=>match ev f with
   | .fn k caps=>nS ow h k (args.map ev++caps)
   |_=>[]
 | .mv _| .ext _ _| .off _ _| .len _ _| .makeFunc _ _=>[]
 |o=>(o.opds.map ev).flatMap bE
def eR (h:a8) (fp:List Nat):a8:=fun b=>if b∈fp then h b else none
def gX (C:am) (ow:bm) (st:St) (s:al) (i n:Nat):Option (St×Rec):=
 match st.want s.guard with
 |none=>none
 |some false=>some (st.put s.dst (.lit (.tuple #[])),⟨i,[],[]⟩)
 |some true=>match a6 C ow s.op st.ev (eR st.heap (bJ ow s.op st.ev st.heap)) n with
  |some (v,u)=>
   if (u.map (·.1)).all (fun b=>decide (b∈bJ ow s.op st.ev st.heap)||(st.heap b).isNone) then
    some ((st.upd u).put s.dst v,⟨i,bJ ow s.op st.ev st.heap,u.map (·.1)⟩) else none
  |none=>none
def bT (C:am) (ow:bm) (base:Nat):List al→Nat→St→Option (St×List Rec)
 |[],_,st=>some (st,[])
 |s::r,i,st=>match gX C ow st s i (base+i) with
  |some (st',rc)=>match bT C ow base r (i+1) st' with
   |some (st'',rs)=>some (st'',rc::rs)
   |none=>none
  |none=>none
def sw (p q:Rec):Bool:=p.wr.any (fun b=>b∈q.fp||b∈q.wr)||q.wr.any (· ∈p.fp)
def kG (deps:List (List Nat)) (p:Rec):List Rec→Bool
 |[]=>true
 |q::r=>(p.wr.isEmpty&&q.wr.isEmpty||(deps.getD q.i []).contains p.i|| !sw p q)&&kG deps p r
def dN (deps:List (List Nat)):List Rec→Bool
 |[]=>true
 |p::r=>kG deps p r&&dN deps r
def Rec.loud (r:Rec):Bool:= !(r.fp.isEmpty&&r.wr.isEmpty)
inductive bj where
 |close (bs:List Nat)
 |nilCell (b o new esz:Nat)
 |nilTmp (t new esz:Nat)
 |both (a b:bj)
 |drop (ts:List Nat)
 deriving Inhabited
inductive ai where
 |skip
 |region (base:Nat) (steps:List al) (live:List Nat)
 |drawn (base:Nat) (steps:List al) (deps:List (List Nat)) (live:List Nat)
 |seq (a b:ai)
 |cond (c:Opd) (a b:ai)
 |block (id:Nat) (c:ai)
 |loop (c:ai)
 |exit (id:Nat)
 |ret
 |ghost (g:bj) (c:ai)
 deriving Inhabited
inductive au where
 |normal
 |exit (id:Nat)
 |ret
 deriving DecidableEq,Inhabited
def okC:V→Bool
 | .lit _| .imm _ _| .iptr _ _| .ptr .. | .sl .. | .undef=>true
 | .fn _ []=>true
 |_=>false
def fzC (h:a8) (bs:List Nat):V→V
 | .sl b s n=>if b∈bs then (match dX h (.sl b s n) with
   |some (v,_)=>v.cz
   |none=> .undef) else .sl b s n
 | .ptr b i o n=>if b∈bs then .undef else .ptr b i o n
 | .fn f cs=>if (cs.all okC&& !(cs.flatMap fW).any (fun b=>decide (b∈bs)))=true then .fn f cs else .undef
 |v=>v
def fzA (h:a8) (bs:List Nat):V→V
 | .agg cs=>if (cs.map (fzC h bs)).all V.cell then .agg (cs.map (fzC h bs)) else .undef
 | .tup _=> .undef
 |v=>fzC h bs v
def fzM (h:a8) (bs:List Nat):List (Nat×Blk)→List (Nat×Blk)
 |[]=>[]
 | (b,k)::r=>if b∈bs then fzM h bs r else (b,if k.op then (if (k.rows.map (·.map (fzC h bs))).all (·.all V.cell) then { k with rows:=k.rows.map (·.map (fzC h bs)) } else dK) else k)::fzM h bs r
def pw (g:V→V):List (Nat×V)→List (Nat×V)
 |[]=>[]
 | (t,v)::r=>(t,g v)::pw g r
def pV (ts:List Nat):List (Nat×V)→List (Nat×V)
 |[]=>[]
 | (t,v)::r=>(t,if t∈ts then .undef else v)::pV ts r
def aE:St→bj→Option St
 |st,.close bs=>if bs.all (fun b=>decide (1000≤b))=true then some { e:=pw (fzA st.heap bs) st.e,m:=fzM st.heap bs st.m } else none
 |st,.nilCell b o new esz=>match st.heap b with
  |some k=>if k.op then (match k.rows with
   |[row]=>(match row[o]? with
    |some (.lit (.slice none 0 0))=>if (st.heap new).isNone∧0<esz then some { st with m:=bN new ⟨esz,false,[]⟩ (bN b { k with rows:=[row.set o (.sl new 0 0)] } st.m) } else some st
    |_=>some st)
   |_=>some st) else some st
  |none=>some st
 |st,.nilTmp t new esz=>match st.get t with
  | .lit (.slice none 0 0)=>if (st.heap new).isNone∧0<esz then some { e:=bN t (.sl new 0 0) st.e,m:=bN new ⟨esz,false,[]⟩ st.m } else some st
  |_=>some st
 |st,.both a b=>match aE st a with
  |some st1=>aE st1 b
  |none=>none
 |st,.drop ts=>some { st with e:=pV ts st.e }
def trim (live:List Nat) (st:St):St:={ st with e:=live.map fun t=>(t,st.get t) }
def fk (C:am) (ow:bm) (base:Nat) (steps:List al) (live:List Nat) (st:St):Option (au×St):=
 match cO C ow steps base st with
 |some st'=>some (.normal,trim live st')
 |none=>none
def iv (C:am) (ow:bm) (base:Nat) (steps:List al) (deps:List (List Nat)) (live:List Nat) (st:St):Option (au×St):=
 match bT C ow base steps 0 st with
 |some (st',rs)=>if dN deps (rs.filter Rec.loud) then some (.normal,trim live st') else none
 |none=>none
def aG (C:am) (ow:bm):Nat→ai→St→Option (au×St)
 |0,_,_=>none
 |n+1,c,st=>match c with
  | .skip=>some (.normal,st)
  | .region base steps live=>fk C ow base steps live st
  | .drawn base steps deps live=>iv C ow base steps deps live st
  | .seq a b=>match aG C ow n a st with
    |some (.normal,st')=>aG C ow n b st'
    |r=>r
  | .cond c a b=>match st.ev c with
    | .lit (.bool true)=>aG C ow n a st
    | .lit (.bool false)=>aG C ow n b st
    |_=>none
  | .block id c=>match aG C ow n c st with
    |some (.exit id',st')=>if id'=id then some (.normal,st') else some (.exit id',st')
    |r=>r
  | .loop c=>match aG C ow n c st with
    |some (.normal,st')=>aG C ow n (.loop c) st'
    |r=>r
  | .exit id=>some (.exit id,st)
  | .ret=>some (.ret,st)
  | .ghost g c=>match aE st g with
    |some st'=>aG C ow n c st'
    |none=>none
inductive nI where
 |tmp (t:Nat)
 |cell (t:Nat) (agg:Option Nat)
 deriving Inhabited
structure aj where
 ntmps:Nat
 body:ai
 results:List nI
 keep:Bool
 raw:Bool
 deriving Inhabited
def oA (st:St):nI→Option V
 | .tmp t=>some (st.get t)
 | .cell t agg=>hI agg st.heap (st.get t)
def dm (st:St):List nI→Option (List V)
 |[]=>some []
 |r::rs=>match oA st r,dm st rs with
  |some v,some vs=>some (v::vs)
  |_,_=>none
def eZ (h:a8) (m:Nat) (kp:List Nat):V→Option V
 | .sl b s n=>if b<m then some (.sl b s n) else if b∈kp then some (.sl (m+dD b kp) s n) else (match dX h (.sl b s n) with
   |some (v,_)=>some v
   |none=>none)
 | .ptr b i o n=>if b<m then some (.ptr b i o n) else if b∈kp then some (.ptr (m+dD b kp) i o n) else none
 | .fn f []=>some (.fn f [])
 | .lit v=>some (.lit v)
 | .imm e r=>some (.imm e r)
 | .iptr r o=>some (.iptr r o)
 | .undef=>some .undef
 |_=>none
def fZ (h:a8) (m:Nat) (kp:List Nat):List V→Option (List V)
 |[]=>some []
 |v::r=>match eZ h m kp v,fZ h m kp r with
  |some v',some r'=>some (v'::r')
  |_,_=>none
def m7 (h:a8) (m:Nat) (kp:List Nat):V→Option V
 | .agg cs=>match fZ h m kp cs with
   |some cs'=>some (.agg cs')
   |none=>none
 | .tup _=>none
 |v=>eZ h m kp v
def i8 (h:a8) (m:Nat) (kp:List Nat):List V→Option (List V)
 |[]=>some []
 |v::r=>match m7 h m kp v,i8 h m kp r with
  |some v',some r'=>some (v'::r')
  |_,_=>none
def md (h:a8) (m:Nat) (kp:List Nat):V→Option V
 | .fn f (c::cs)=>match fZ h m kp (c::cs) with
   |some cs'=>some (.fn f cs')
   |none=>none
 |v=>eZ h m kp v
def iG (h:a8) (m:Nat) (kp:List Nat):List V→Option (List V)
 |[]=>some []
 |v::r=>match md h m kp v,iG h m kp r with
  |some v',some r'=>some (v'::r')
  |_,_=>none
def kS (h:a8) (m:Nat) (kp:List Nat):List (List V)→Option (List (List V))
 |[]=>some []
 |v::r=>match iG h m kp v,kS h m kp r with
  |some v',some r'=>some (v'::r')
  |_,_=>none
def uk (h:a8) (m:Nat) (kp:List Nat) (k:Blk):Option Blk:=
 if k.op=false then some k else match kS h m kp k.rows with
  |some rows=>some { k with rows }
  |none=>none
def gV (h:a8) (m:Nat) (kp:List Nat):List Nat→Option (List Blk)
 |[]=>some []
 |b::r=>match h b with
  |some k=>match uk h m kp k,gV h m kp r with
   |some k',some r'=>some (k'::r')
   |_,_=>none
  |none=>none
def jZ (m:Nat):List Nat→List Nat→List Nat
 |acc,[]=>acc
 |acc,b::r=>jZ m (if m≤b then bQ acc b else acc) r
def yD:Option Blk→List Nat
 |some ⟨_,true,rows⟩=>rows.flatten.flatMap bE
 |_=>[]
def cX (raw:Bool) (h:a8) (m:Nat) (vs:List V):List Nat:=jZ m [] (bif raw then (List.range m).flatMap fun b=>yD (h b) else vs.flatMap bE)
def xH:List V→V
 |[v]=>v
 |vs=> .tup vs
def e6 (af:aj) (m:Nat) (r:Option (au×St)):Option (V×List Blk):=
 match r with
 |some (.normal,st)|some (.ret,st)=>match dm st af.results with
  |none=>none
  |some vs=>
   let kp:=if af.keep then cX af.raw st.heap m vs else []
   match i8 st.heap m kp vs,gV st.heap m kp (List.range m++kp) with
   |some vs',some bs=>if m≤1000 then some (xH vs',bs) else none
   |_,_=>none
 |_=>none
def fi {α:Type}:Nat→List α→List (Nat×α)
 |_,[]=>[]
 |n,x::r=>(n,x)::fi (n+1) r
def start (args:List V) (blks:List Blk):St:=⟨fi 0 args,fi 0 blks⟩
inductive Jr where
 |code (a:aj)
 |ext (g:List V→List Blk→Option (V×List Blk))
abbrev Tab:=FuncId→Option Jr
def ww (af:aj):Option (V×List Blk)→Option (V×List Blk)
 |some (v,bs)=>some (v.czR,if af.raw then bs else bs.map Blk.cz)
 |none=>none
def ba (T:Tab) (ow:bm):Nat→am
 |0=>fun _ _ _=>none
 |n+1=>fun f args blks=>match T f with
  |none=>none
  |some (.code af)=>ww af (e6 af blks.length (aG (ba T ow n) ow n af.body (start args blks)))
  |some (.ext g)=>g args blks
end Go.AI
