/- An abstract interpreter for the translated program: values, a local memory of numbered blocks, operations. Definitions alone. -/
import Derived.Calls
import Derived.Orders
namespace Go.AI
inductive V where
 |lit (v:Value)
 |agg (cs:List V)
 |tup (vs:List V)
 |ptr (b i o n:Nat)
 |sl (b s n:Nat)
 |imm (e:Nat) (rows:List (List V))
 |iptr (row:List V) (o:Nat)
 |fn (f:FuncId) (caps:List V)
 |undef
 deriving Inhabited
structure Blk where
 esz:Nat
 op:Bool
 rows:List (List V)
abbrev ak:=Nat→Option Blk
def V.cl:V→Bool
 | .lit _| .imm _ _| .iptr _ _=>true
 | .fn _ []=>true
 |_=>false
def aN:Value→Bool
 | .agg _| .tuple _=>false
 |_=>true
def V.cell:V→Bool
 | .lit v=>aN v
 | .ptr .. | .sl .. | .imm .. | .iptr .. | .fn .. =>true
 |_=>false
def V.cz:V→V
 | .lit (.slice none 0 0)=> .imm 1 []
 | .imm _ []=> .imm 1 []
 |v=>v
def V.czA:V→V
 | .agg cs=> .agg (cs.map V.cz)
 |v=>v.cz
def V.czR:V→V
 | .tup vs=> .tup (vs.map V.czA)
 |v=>v.czA
def Blk.cz (k:Blk):Blk:=if k.op then { k with rows:=k.rows.map (·.map V.cz) } else k
def zc (v:Value):V:=(V.lit v).cz
def V.cells:V→List V
 | .agg cs=>cs
 |v=>[v]
inductive Opd where
 |t (n:Nat)
 |c (v:Value)
 |f (k:FuncId)
 deriving Inhabited
def Opd.ev (f:Nat→V):Opd→V
 | .t n=>f n
 | .c v=> .lit v
 | .f k=> .fn k []
inductive AOp where
 |mv (x:Opd)
 |pick (c a b:Opd)
 |alloc (zero:List Value)
 |box (size:Nat) (x:Opd)
 |build (zero:List Value) (parts:List (Nat×Nat×Opd))
 |buildSlice (esz:Nat) (zero:List Value) (len:Nat) (parts:List (Nat×Opd))
 |load (agg:Option Nat) (a:Opd)
 |store (size:Nat) (a x:Opd)
 |nilCheck (x:Opd)
 |bin (op:BinOp) (x y:Opd)
 |eqAgg (neg:Bool) (ks:List Bool) (x y:Opd)
 |beq (neg:Bool) (x y:Opd)
 |un (op:UnOp) (x:Opd)
 |toInt (k:IntKind) (x:Opd)
 |same (x:Opd)
 |toBytes (x:Opd)
 |toStr (x:Opd)
 |makeFunc (f:FuncId) (caps:List Opd)
 |makeSlice (esz bytes:Nat) (zero:List Value) (len cap:Opd)
 |sliceStr (x:Opd) (lo hi:Option Opd)
 |slice (esz:Nat) (x:Opd) (lo hi mx:Option Opd)
 |off (d:Nat) (x:Opd)
 |field (d:Nat) (agg:Option Nat) (x:Opd)
 |idx (esz:Nat) (x i:Opd)
 |idxArr (len esz:Nat) (x i:Opd)
 |ixStr (x i:Opd)
 |ixAgg (len esz:Nat) (agg:Option Nat) (x i:Opd)
 |ext (x:Opd) (i:Nat)
 |len (str:Bool) (x:Opd)
 |lenArr (n:Nat) (x:Opd)
 |isNil (neg:Bool) (x:Opd)
 |append (esz bytes:Nat) (zero:List Value) (x y:Opd)
 |appendN (esz bytes:Nat) (zero:List Value) (x y:Opd)
 |copy (esz:Nat) (x y:Opd)
 |max2 (x y:Opd)
 |min2 (x y:Opd)
 |arrOf (len:Nat) (x:Opd)
 |bytesOwn (x:Opd)
 |call (f:FuncId) (args:List Opd)
 |dyn (f:Opd) (args:List Opd)
 deriving Inhabited
def EU:Option Opd→List Opd
 |some x=>[x]
 |none=>[]
def AOp.opds:AOp→List Opd
 | .mv x| .box _ x| .load _ x| .nilCheck x| .un _ x| .toInt _ x| .same x| .toBytes x| .toStr x| .off _ x| .field _ _ x| .ext x _| .len _ x| .lenArr _ x| .isNil _ x| .arrOf _ x| .bytesOwn x=>[x]
 | .pick c a b=>[c,a,b]
 | .alloc _=>[]
 | .build _ ps=>ps.map (·.2.2)
 | .buildSlice _ _ _ ps=>ps.map (·.2)
 | .store _ a x=>[a,x]
 | .bin _ x y| .beq _ x y| .eqAgg _ _ x y| .makeSlice _ _ _ x y| .idx _ x y| .idxArr _ _ x y| .ixStr x y| .ixAgg _ _ _ x y| .append _ _ _ x y| .appendN _ _ _ x y| .copy _ x y| .max2 x y| .min2 x y=>[x,y]
 | .makeFunc _ cs=>cs
 | .sliceStr x lo hi=>x::(EU lo++EU hi)
 | .slice _ x lo hi mx=>x::(EU lo++(EU hi++EU mx))
 | .call _ args=>args
 | .dyn f args=>f::args
def is:Blk:=⟨0,false,[]⟩
def kP (h:ak):V→Option (V×List Nat)
 | .sl b s n=>match h b with
   |some k=>if k.op=false∧0<k.esz∧s+n=k.rows.length then some (.imm k.esz (k.rows.drop s),[b]) else none
   |none=>none
 |v=>if v.cl&&v.cell then some (v,[]) else none
def iw (h:ak):List V→Option (List V×List Nat)
 |[]=>some ([],[])
 |v::r=>match kP h v,iw h r with
  |some (v',bs),some (r',bs')=>some (v'.cz::r',bs++bs')
  |_,_=>none
abbrev Upd:=List (Nat×Blk)
def eO (bs:List Nat):Upd:=bs.map fun b=>(b,is)
def bj (h:ak) (b:Nat) (k:Blk):ak:=fun b'=>if b'=b then some k else h b'
def dU (h:ak):Upd→ak
 |[]=>h
 | (b,k)::r=>dU (bj h b k) r
def ck (h:ak) (esz:Nat):V→Option (List (List V))
 | .sl b s n=>match h b with
   |some k=>if k.op=false∧0<k.esz∧k.esz=esz∧s+n=k.rows.length then some (k.rows.drop s) else none
   |none=>none
 | .imm e rows=>if e=esz then some rows else if rows.isEmpty then some [] else none
 | .lit (.slice none 0 0)=>some []
 | .lit (.slice (some _) 0 _)=>some []
 | .lit (.string s)=>if esz=1 then some (s.data.toList.map fun b=>[.lit (.int .u8 b.toNat)]) else none
 |_=>none
def a0t:V→Bool
 | .lit (.string _)=>true
 |_=>false
def asI:V→Option Int
 | .lit (.int _ n)=>some n
 |_=>none
def bq:Nat:=1099511627776
def dG (op:BinOp):Value→Value→Option Value
 | .int k a,.int k' b=>
   match op with
   | .shl=>if 0≤b then some (.int k (k.wrap (a*2^(min b.toNat k.bits)))) else none
   | .shr=>if 0≤b then some (.int k (a.fdiv (2^(min b.toNat k.bits)))) else none
   | .add=>if k=k' then some (.int k (k.wrap (a+b))) else none
   | .sub=>if k=k' then some (.int k (k.wrap (a-b))) else none
   | .mul=>if k=k' then some (.int k (k.wrap (a*b))) else none
   | .quo=>if k=k'∧b≠0 then some (.int k (k.wrap (a.tdiv b))) else none
   | .rem=>if k=k'∧b≠0 then some (.int k (a.tmod b)) else none
   | .and=>if k=k' then some (.int k (k.wrap (BitVec.ofInt k.bits a&&&BitVec.ofInt k.bits b).toNat)) else none
   | .or=>if k=k' then some (.int k (k.wrap (BitVec.ofInt k.bits a|||BitVec.ofInt k.bits b).toNat)) else none
   | .xor=>if k=k' then some (.int k (k.wrap (BitVec.ofInt k.bits a^^^BitVec.ofInt k.bits b).toNat)) else none
   | .andNot=>if k=k' then some (.int k (k.wrap (BitVec.ofInt k.bits a&&& ~~~ BitVec.ofInt k.bits b).toNat)) else none
   | .eql=>if k=k' then some (.bool (a==b)) else none
   | .neq=>if k=k' then some (.bool (a !=b)) else none
   | .lss=>if k=k' then some (.bool (decide (a<b))) else none
   | .leq=>if k=k' then some (.bool (decide (a≤b))) else none
   | .gtr=>if k=k' then some (.bool (decide (a>b))) else none
   | .geq=>if k=k' then some (.bool (decide (a≥b))) else none
 | .string a,.string b=>
   match op with
   | .add=>if a.size+b.size≤bq then some (.string (a++b)) else none
   | .eql=>some (.bool (a.toList==b.toList))
   | .neq=>some (.bool !(a.toList==b.toList))
   |_=>none
 |_,_=>none
def PL (op:UnOp):Value→Option Value
 | .int k n=>match op with
   | .neg=>some (.int k (k.wrap (0-n)))
   | .xor=>some (.int k (k.wrap (BitVec.ofInt k.bits (if k.signed then-1 else k.max)^^^BitVec.ofInt k.bits n).toNat))
   |_=>none
 | .bool b=>match op with
   | .not=>some (.bool !b)
   |_=>none
 |_=>none
def dI:List Bool→List V→List V→Option Bool
 |[],[],[]=>some true
 |true::ks,.lit (.int k a)::x,.lit (.int k' b)::y=>if k=k' then (if a=b then dI ks x y else some false) else none
 |false::ks,.lit (.string a)::x,.lit (.string b)::y=>if a=b then dI ks x y else some false
 |_,_,_=>none
def bJ (o:Option V) (dflt most:Nat):Option Nat:=
 match o with
 |none=>some dflt
 |some v=>match asI v with
  |some i=>if 0≤i∧i≤most then some i.toNat else none
  |none=>none
def Da (cells:List V):List (Nat×Nat×V)→Option (List V)
 |[]=>some cells
 | (off,size,v)::r=>
   if v.cells.length=size∧off+size≤cells.length∧v.cells.all V.cell then Da (cells.take off++(v.cells++cells.drop (off+size))) r else none
def N5 (esz:Nat) (rows:List (List V)):List (Nat×V)→Option (List (List V))
 |[]=>some rows
 | (i,v)::r=>if v.cells.length=esz∧i<rows.length∧v.cells.all V.cell then N5 esz (rows.set i v.cells) r else none
def part (agg:Option Nat) (cs:List V) (o:Nat):Option V:=
 match agg with
 |none=>cs[o]?
 |some n=>if o+n≤cs.length then some (.agg ((cs.drop o).take n)) else none
abbrev aU:=FuncId→List V→List Blk→Option (V×List Blk)
def jV (b:Nat):List Nat→Nat
 |[]=>0
 |x::r=>if x=b then 0 else jV b r+1
def ft (ids:List Nat) (b:Nat):List Nat:=if b∈ids then ids else ids++[b]
def bY (h:ak) (own:Bool) (ids:List Nat):V→Option (V×List Nat×List Nat)
 | .lit v=>some (.lit v,ids,[])
 | .imm e r=>some (.imm e r,ids,[])
 | .iptr r o=>some (.iptr r o,ids,[])
 | .undef=>some (.undef,ids,[])
 | .fn f []=>some (.fn f [],ids,[])
 | .ptr b i o n=>match h b with
   |some k=>if k.rows.length=n then some (.ptr (jV b (ft ids b)) i o n,ft ids b,[]) else none
   |none=>none
 | .sl b s n=>match h b with
   |some k=>if s+n=k.rows.length then
    (if own then some (.sl (jV b (ft ids b)) s n,ft ids b,[]) else if k.op=false∧0<k.esz then some (.imm k.esz (k.rows.drop s),ids,[b]) else none) else none
   |none=>none
 |_=>none
def cy (h:ak) (own:Bool):List Nat→List V→Option (List V×List Nat×List Nat)
 |ids,[]=>some ([],ids,[])
 |ids,v::r=>match bY h own ids v with
  |some (v',ids',bs)=>match cy h own ids' r with
   |some (r',ids'',bs')=>some (v'::r',ids'',bs++bs')
   |none=>none
  |none=>none
def cW (h:ak) (own:Bool) (ids:List Nat):V→Option (V×List Nat×List Nat)
 | .agg cs=>match cy h own ids cs with
   |some (cs',ids',bs)=>some (.agg cs',ids',bs)
   |none=>none
 | .fn f caps=>match cy h true ids caps with
   |some (cs',ids',bs)=>some (.fn f cs',ids',bs)
   |none=>none
 |v=>bY h own ids v
def fA (h:ak) (owns:List Nat):Nat→List Nat→List V→Option (List V×List Nat×List Nat)
 |_,ids,[]=>some ([],ids,[])
 |j,ids,v::r=>match cW h (j∈owns) ids v with
  |some (v',ids',bs)=>match fA h owns (j+1) ids' r with
   |some (r',ids'',bs')=>some (v'::r',ids'',bs++bs')
   |none=>none
  |none=>none
def lK (h:ak):List Nat→List V→Option (List V×List Nat)
 |ids,[]=>some ([],ids)
 |ids,v::r=>match cW h true ids v with
  |some (v',ids',_)=>match lK h ids' r with
   |some (r',ids'')=>some (v'::r',ids'')
   |none=>none
  |none=>none
def jh (h:ak):List Nat→List (List V)→Option (List (List V)×List Nat)
 |ids,[]=>some ([],ids)
 |ids,x::r=>match lK h ids x with
  |some (x',ids')=>match jh h ids' r with
   |some (r',ids'')=>some (x'::r',ids'')
   |none=>none
  |none=>none
def cY (h:ak):Nat→Nat→List Nat→Option (List Blk×List Nat)
 |0,_,_=>none
 |fuel+1,pos,ids=>match ids[pos]? with
  |none=>some ([],ids)
  |some b=>match h b with
   |none=>none
   |some k=>
    if k.op=false then match cY h fuel (pos+1) ids with
     |some (r,ids')=>some (k::r,ids')
     |none=>none
    else match jh h ids k.rows with
     |none=>none
     |some (rows,ids1)=>match cY h fuel (pos+1) ids1 with
      |some (r,ids2)=>some ({ k with rows:=rows }::r,ids2)
      |none=>none
def unV (ids:List Nat):V→V
 | .ptr b i o n=> .ptr (ids.getD b 0) i o n
 | .sl b s n=> .sl (ids.getD b 0) s n
 |v=>v
def k9 (ids:List Nat):V→V
 | .agg cs=> .agg (cs.map (unV ids))
 | .fn f cs=> .fn f (cs.map (unV ids))
 |v=>unV ids v
def yG (ids:List Nat):V→V
 | .tup vs=> .tup (vs.map (k9 ids))
 |v=>k9 ids v
def gQ (ids:List Nat) (k:Blk):Blk:=if k.op=false then k else { k with rows:=k.rows.map (·.map (k9 ids)) }
def mu:V→Bool
 | .lit _| .ptr .. | .sl .. | .undef=>true
 |_=>false
def B4:V→Bool
 | .agg cs=>cs.all mu
 |v=>mu v
def oQ:V→Bool
 | .tup vs=>vs.all B4
 |v=>B4 v
def wE (k:Blk):Bool:=k.op&&k.rows.all (·.all mu)
def iK:List Nat→List Blk→Upd
 |i::r,k::s=>(i,k)::iK r s
 |_,_=>[]
def cK (owns:FuncId→List Nat) (h:ak) (f:FuncId) (args:List V):Option (List V×List Blk×List Nat×List Nat):=
 match fA h (owns f) 0 [] args with
 |none=>none
 |some (args',ids0,bor)=>match cY h 40 0 ids0 with
  |none=>none
  |some (blks,ids)=>if bor.any (fun b=>decide (b∈ids))=true then none else some (args',blks,ids,bor)
def di:List Nat→List Blk→Nat→List Nat
 |[],[],_=>[]
 |[],_::r,n=>n::di [] r (n+1000000)
 |_::i,_::r,n=>di i r n
 |_::_,[],_=>[]
theorem tQ: ∀{ids:List Nat} {bs:List Blk} {n:Nat},ids.length≤bs.length→(di ids bs n).length+ids.length=bs.length
 |[],[],n,_=>rfl
 |[],_::r,n,_=>by simp only [di,List.length_cons];have:= @tQ [] r (n+1000000) (by simp);simpa using this
 |_::i,_::r,n,h=>by simp only [di,List.length_cons];have:= @tQ i r n (by simpa using h);omega
 |_::_,[],n,h=>by simp at h
theorem DF: ∀(ids:List Nat) (bs:List Blk) (n:Nat), ∀b∈di ids bs n,n≤b
 |[],[],n,b,h=>by simp [di] at h
 |[],_::r,n,b,h=>by
  simp only [di,List.mem_cons] at h
  rcases h with h|h
  ·omega
  ·have:=DF [] r (n+1000000) b h;omega
 |_::i,_::r,n,b,h=>DF i r n b h
 |_::_,[],n,b,h=>by simp [di] at h
theorem Dn: ∀(ids:List Nat) (bs:List Blk) (n:Nat),(di ids bs n).Nodup
 |[],[],n=>List.nodup_nil
 |[],_::r,n=>by
  simp only [di,List.nodup_cons]
  exact ⟨fun h=>by have:=DF [] r (n+1000000) n h;omega,Dn [] r _⟩
 |_::i,_::r,n=>Dn i r n
 |_::_,[],n=>List.nodup_nil
def wU (h:ak) (new:Nat) (ids bor:List Nat) (r:V) (blks':List Blk):Option (V×Upd):=
 if ids.length≤blks'.length∧(di ids blks' new).all (fun b=>(h b).isNone)=true then
  some (yG (ids++di ids blks' new) r,iK (ids++di ids blks' new) (blks'.map (gQ (ids++di ids blks' new)))++(if (bor.isEmpty||(oQ r&&blks'.all wE))=true then [] else eO bor))
 else none
def oh (owns:List Nat) (args:List V):List V:=if owns.contains 1000 then args else args.map V.czA
def nL (owns:List Nat) (blks:List Blk):List Blk:=if owns.contains 1000 then blks else blks.map Blk.cz
def iJ (C:aU) (owns:FuncId→List Nat) (h:ak) (new:Nat) (f:FuncId) (args:List V):Option (V×Upd):=
 match cK owns h f args with
 |none=>none
 |some (args',blks,ids,bor)=>match C f (oh (owns f) args') (nL (owns f) blks) with
  |none=>none
  |some (r,blks')=>wU h new ids bor r blks'
def sn (agg:Option Nat) (h:ak) (a:V):Option V:=
 match a with
 | .ptr b i o n=>match h b with
   |some k=>if k.rows.length=n then (match k.rows[i]? with
    |some row=>part agg row o
    |none=>none) else none
   |none=>none
 | .iptr row o=>part agg row o
 |_=>none
def iW (h:ak) (n:Nat) (k:Blk) (v:V):Option (V×Upd):=if (h n).isNone=true∧0<k.esz then some (v,[(n,k)]) else none
def ej (ev:Opd→V):List (Nat×Nat×Opd)→List (Nat×Nat×V)
 |[]=>[]
 | (a,b,x)::r=>(a,b,ev x)::ej ev r
def cq (h:ak) (ev:Opd→V):List (Nat×Opd)→Option (List (Nat×V)×List Nat)
 |[]=>some ([],[])
 | (i,x)::r=>match iw h (ev x).cells,cq h ev r with
   |some (cs,bs),some (r',bs')=>some ((i,.agg cs)::r',bs++bs')
   |_,_=>none
def DV (esz bytes:Nat) (zero:List Value) (x:V) (sb:Nat→Bool) (h:ak) (new:Nat) (new_:List (List V)):Option (V×Upd):=
 if zero.length=esz∧0<esz∧new_.length*bytes≤bq∧new_.length*esz≤bq then
 (match x with
 | .sl b 0 n=>match h b with
   |some k=>if k.op=false∧0<k.esz∧k.esz=esz∧n=k.rows.length∧(n+new_.length)*bytes≤bq∧(n+new_.length)*esz≤bq∧sb b then
    some (.sl b 0 (n+new_.length),[(b,{ k with rows:=k.rows++new_ })]) else none
   |none=>none
 | .lit (.slice none 0 0)=>iW h new ⟨esz,false,new_⟩ (.sl new 0 new_.length)
 | .imm 0 []=>iW h new ⟨esz,false,new_⟩ (.sl new 0 new_.length)
 |_=>none) else none
def ai (C:aU) (owns:FuncId→List Nat) (o:AOp) (ev:Opd→V) (h:ak) (new:Nat):Option (V×Upd):=
 match o with
 | .mv x=>some (ev x,[])
 | .pick c a b=>match ev c with
   | .lit (.bool true)=>some (ev a,[])
   | .lit (.bool false)=>some (ev b,[])
   |_=>none
 | .alloc zero=>if zero.all aN then iW h new ⟨zero.length,true,[zero.map .lit]⟩ (.ptr new 0 0 1) else none
 | .box size x=>if (ev x).cells.length=size∧(ev x).cells.all V.cell then iW h new ⟨size,true,[(ev x).cells]⟩ (.ptr new 0 0 1) else none
 | .build zero parts=>if zero.all aN then (match Da (zero.map .lit) (ej ev parts) with
   |some cs=>some (.agg cs,[])
   |none=>none) else none
 | .buildSlice esz zero len parts=>match cq h ev parts with
   |some (ps,bs)=>match N5 esz (List.replicate len (zero.map zc)) ps with
    |some rows=>if zero.length=esz∧zero.all aN∧len*esz≤16777216∧ ¬new∈bs then
     (match iW h new ⟨esz,false,rows⟩ (.sl new 0 len) with
      |some (v,u)=>some (v,eO bs++u)
      |none=>none) else none
    |none=>none
   |none=>none
 | .load agg a=>match sn agg h (ev a) with
   |some v=>some (v,[])
   |none=>none
 | .store size a x=>match ev a with
   | .ptr b i o n=>match h b with
     |some k=>if k.rows.length=n then (match k.rows[i]? with
      |some row=>
       if k.op then
        (if (ev x).cells.length=size∧o+size≤row.length∧(ev x).cells.all V.cell then
         some (.undef,[(b,{ k with rows:=k.rows.set i (row.take o++((ev x).cells++row.drop (o+size))) })]) else none)
       else match iw h (ev x).cells with
        |some (cs,bs)=>if cs.length=size∧o+size≤row.length∧ ¬b∈bs then
         some (.undef,eO bs++[(b,{ k with rows:=k.rows.set i (row.take o++(cs++row.drop (o+size))) })]) else none
        |none=>none
      |none=>none) else none
     |none=>none
   |_=>none
 | .nilCheck x=>match ev x with
   | .ptr b i o n=>match h b with
     |some k=>if k.rows.length=n∧i<n then some (.ptr b i o n,[]) else none
     |none=>none
   | .iptr r o=>some (.iptr r o,[])
   | .fn f c=>some (.fn f c,[])
   |_=>none
 | .bin op x y=>match ev x,ev y with
   | .lit a,.lit b=>match dG op a b with
     |some v=>some (.lit v,[])
     |none=>none
   |_,_=>none
 | .eqAgg neg ks x y=>match ev x,ev y with
   | .agg a,.agg b=>match dI ks a b with
     |some r=>some (.lit (.bool (if neg then !r else r)),[])
     |none=>none
   |_,_=>none
 | .beq neg x y=>match ev x,ev y with
   | .lit (.bool a),.lit (.bool b)=>some (.lit (.bool (if neg then a !=b else a==b)),[])
   |_,_=>none
 | .un op x=>match ev x with
   | .lit a=>match PL op a with
     |some v=>some (.lit v,[])
     |none=>none
   |_=>none
 | .toInt k x=>match asI (ev x) with
   |some n=>some (.lit (.int k (k.wrap n)),[])
   |none=>none
 | .same x=>match ev x with
   | .lit (.string s)=>some (.lit (.string s),[])
   |_=>none
 | .toBytes x=>match ev x with
   | .lit (.string s)=>if s.size≤bq then iW h new ⟨1,false,s.data.toList.map fun b=>[.lit (.int .u8 b.toNat)]⟩ (.sl new 0 s.size) else none
   |_=>none
 | .toStr x=>if a0t (ev x) then none else match ck h 1 (ev x) with
   |some rows=>match bytesOf rows with
    |some l=>some (.lit (.string ⟨l.toArray⟩),[])
    |none=>none
   |none=>none
 | .makeFunc f caps=>some (.fn f (caps.map ev),[])
 | .makeSlice esz bytes zero len cap=>match asI (ev len),asI (ev cap) with
   |some l,some c=>if 0≤l∧l≤c∧c*bytes≤bq∧c*esz≤bq∧zero.length=esz∧zero.all aN then
    iW h new ⟨esz,false,List.replicate l.toNat (zero.map zc)⟩ (.sl new 0 l.toNat) else none
   |_,_=>none
 | .sliceStr x lo hi=>match ev x with
   | .lit (.string s)=>match bJ (hi.map ev) s.size s.size with
     |some b=>match bJ (lo.map ev) 0 b with
      |some a=>some (.lit (.string (s.extract a b)),[])
      |none=>none
     |none=>none
   |_=>none
 | .slice esz x lo hi mx=>match mx with
   |some _=>none
   |none=>match ev x with
   | .lit (.slice none 0 0)=>match bJ (hi.map ev) 0 0 with
     |some q=>match bJ (lo.map ev) 0 q with
      |some _=>some (.lit (.slice none 0 0),[])
      |none=>none
     |none=>none
   | .sl b s n=>match h b with
     |some k=>if k.op=false∧0<k.esz∧k.esz=esz∧s+n=k.rows.length then (match bJ (hi.map ev) n n with
      |some q=>match bJ (lo.map ev) 0 q with
       |some p=>if q=n then some (.sl b (s+p) (n-p),[]) else some ((V.imm esz (((k.rows.drop s).take q).drop p)).cz,[(b,is)])
       |none=>none
      |none=>none) else none
     |none=>none
   | .imm e rows=>if e=esz∨rows=[] then (match bJ (hi.map ev) rows.length rows.length with
    |some q=>match bJ (lo.map ev) 0 q with
     |some p=>some ((V.imm e ((rows.take q).drop p)).cz,[])
     |none=>none
    |none=>none) else none
   |_=>none
 | .off d x=>match ev x with
   | .ptr b i o n=>some (.ptr b i (o+d) n,[])
   | .iptr r o=>some (.iptr r (o+d),[])
   |_=>none
 | .field d agg x=>match ev x with
   | .agg cs=>match part agg cs d with
     |some v=>some (v,[])
     |none=>none
   |_=>none
 | .idx esz x i=>match asI (ev i) with
   |some i=>if 0≤i then (match ev x with
    | .sl b s n=>match h b with
      |some k=>if 0<k.esz∧k.esz=esz∧s+n=k.rows.length∧i.toNat<n then some (.ptr b (s+i.toNat) 0 k.rows.length,[]) else none
      |none=>none
    | .imm e rows=>if e=esz then (match rows[i.toNat]? with
      |some row=>some (.iptr row 0,[])
      |none=>none) else none
    |_=>none) else none
   |none=>none
 | .idxArr len esz x i=>match asI (ev i) with
   |some i=>if 0≤i∧i.toNat<len then (match ev x with
    | .ptr b j o n=>some (.ptr b j (o+i.toNat*esz) n,[])
    | .iptr r o=>some (.iptr r (o+i.toNat*esz),[])
    |_=>none) else none
   |none=>none
 | .ixStr x i=>match ev x,asI (ev i) with
   | .lit (.string s),some i=>if 0≤i then (match s.data[i.toNat]? with
     |some b=>some (.lit (.int .u8 b.toNat),[])
     |none=>none) else none
   |_,_=>none
 | .ixAgg len esz agg x i=>match ev x,asI (ev i) with
   | .agg cs,some i=>if 0≤i∧i.toNat<len then (match part agg cs (i.toNat*esz) with
     |some v=>some (v,[])
     |none=>none) else none
   |_,_=>none
 | .ext x i=>match ev x with
   | .tup vs=>match vs[i]? with
     |some v=>some (v,[])
     |none=>none
   |_=>none
 | .len str x=>match str,ev x with
   |true,.lit (.string s)=>some (.lit (.int .i64 s.size),[])
   |false,.lit (.slice _ n _)=>some (.lit (.int .i64 n),[])
   |false,.sl _ _ n=>some (.lit (.int .i64 n),[])
   |false,.imm _ rows=>some (.lit (.int .i64 rows.length),[])
   |_,_=>none
 | .lenArr n _=>some (.lit (.int .i64 n),[])
 | .isNil neg x=>match ev x with
   | .lit (.slice a _ _)=>some (.lit (.bool (if neg then !a.isNone else a.isNone)),[])
   | .imm _ (_::_)=>some (.lit (.bool neg),[])
   |_=>none
 | .append esz bytes zero x y=>match ck h esz (ev y) with
   |none=>none
   |some new_=>
    if zero.length=esz∧0<esz∧new_.length*bytes≤bq∧new_.length*esz≤bq then
    (match ev x with
    | .sl b 0 n=>match h b with
      |some k=>if k.op=false∧0<k.esz∧k.esz=esz∧n=k.rows.length∧(n+new_.length)*bytes≤bq∧(n+new_.length)*esz≤bq∧selfOk b (ev y) then
       some (.sl b 0 (n+new_.length),[(b,{ k with rows:=k.rows++new_ })]) else none
      |none=>none
    | .lit (.slice none 0 0)=>iW h new ⟨esz,false,new_⟩ (.sl new 0 new_.length)
    | .imm 0 []=>iW h new ⟨esz,false,new_⟩ (.sl new 0 new_.length)
    |_=>none) else none
 | .appendN esz bytes zero x y=>match asI (ev y) with
   |some l=>if 0≤l∧l≤1099511627776∧l*bytes≤1099511627776∧zero.all aN then DV esz bytes zero (ev x) (fun _=>true) h new (List.replicate l.toNat (zero.map zc)) else none
   |none=>none
 | .copy esz x y=>match ck h esz (ev y),ev x with
   |some rows,.sl b s n=>match h b with
    |some k=>if k.op=false∧0<k.esz∧k.esz=esz∧s+n=k.rows.length∧selfOk b (ev y) then
     some (.lit (.int .i64 (min rows.length n)),[(b,{ k with rows:=k.rows.take s++(rows.take (min rows.length n)++k.rows.drop (s+min rows.length n)) })]) else none
    |none=>none
   |_,_=>none
 | .max2 x y=>match ev x,ev y with
   | .lit (.int k a),.lit (.int _ b)=>some (.lit (.int k (if b>a then b else a)),[])
   |_,_=>none
 | .min2 x y=>match ev x,ev y with
   | .lit (.int k a),.lit (.int _ b)=>some (.lit (.int k (if b<a then b else a)),[])
   |_,_=>none
 | .arrOf len x=>match kP h (ev x) with
   |some (.imm _ rows,bs)=>if 0<len∧len≤rows.length then some (.iptr rows.flatten 0,eO bs) else none
   |_=>none
 | .bytesOwn x=>match ev x with
   | .sl b s n=>match h b with
     |some k=>if k.op=false∧0<k.esz∧s+n=k.rows.length∧0<n then some (.sl b s n,[(b,k)]) else none
     |none=>none
   |_=>none
 | .call f args=>iJ C owns h new f (args.map ev)
 | .dyn f args=>match ev f with
   | .fn k caps=>iJ C owns h new k (args.map ev++caps)
   |_=>none
where
 bytesOf:List (List V)→Option (List UInt8)
  |[]=>some []
  |[.lit (.int .u8 n)]::r=>if 0≤n∧n<256 then (match bytesOf r with
   |some l=>some (UInt8.ofNat n.toNat::l)
   |none=>none) else none
  |_=>none
 selfOk (b:Nat):V→Bool
  | .sl b' _ _=>b !=b'
  |_=>true
end Go.AI
