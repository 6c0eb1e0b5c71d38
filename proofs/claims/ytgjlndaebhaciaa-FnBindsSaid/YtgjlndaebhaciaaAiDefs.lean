/- An abstract interpreter for the translated program: values, a local memory of numbered blocks, operations. Definitions alone. -/
import Derived.Calls
import Derived.Orders
namespace Go.AI
inductive V where
 |lit (v:Value)
 |agg (cs:List V)
 |tup (vs:List V)
 |ptr (b i o n:Nat)
 |sl (b s n:Nat)
 |imm (e:Nat) (rows:List (List V))
 |iptr (row:List V) (o:Nat)
 |fn (f:FuncId) (caps:List V)
 |mp (b:Nat)
 |undef
 deriving Inhabited
structure Blk where
 esz:Nat
 op:Bool
 rows:List (List V)
abbrev ak:=Nat→Option Blk
def V.cl:V→Bool
 | .lit _| .imm _ _| .iptr _ _=>true
 | .fn _ []=>true
 |_=>false
def aN:Value→Bool
 | .agg _| .tuple _=>false
 |_=>true
def V.cell:V→Bool
 | .lit v=>aN v
 | .ptr .. | .sl .. | .imm .. | .iptr .. | .fn .. | .mp _=>true
 |_=>false
def V.cz:V→V
 | .lit (.slice none 0 0)=> .imm 1 []
 | .imm _ []=> .imm 1 []
 |v=>v
def V.czA:V→V
 | .agg cs=> .agg (cs.map V.cz)
 |v=>v.cz
def V.czR:V→V
 | .tup vs=> .tup (vs.map V.czA)
 |v=>v.czA
def Blk.cz (k:Blk):Blk:=if k.op then { k with rows:=k.rows.map (·.map V.cz) } else k
def zc (v:Value):V:=(V.lit v).cz
def V.cells:V→List V
 | .agg cs=>cs
 |v=>[v]
inductive Opd where
 |t (n:Nat)
 |c (v:Value)
 |f (k:FuncId)
 deriving Inhabited
def Opd.ev (f:Nat→V):Opd→V
 | .t n=>f n
 | .c v=> .lit v
 | .f k=> .fn k []
inductive AOp where
 |mv (x:Opd)
 |pick (c a b:Opd)
 |alloc (zero:List Value)
 |box (size:Nat) (x:Opd)
 |build (zero:List Value) (parts:List (Nat×Nat×Opd))
 |buildTwo (x y:Opd)
 |buildSlice (esz:Nat) (zero:List Value) (len:Nat) (parts:List (Nat×Opd))
 |load (agg:Option Nat) (a:Opd)
 |store (size:Nat) (a x:Opd)
 |nilCheck (x:Opd)
 |bin (op:BinOp) (x y:Opd)
 |eqAgg (neg:Bool) (ks:List Bool) (x y:Opd)
 |beq (neg:Bool) (x y:Opd)
 |un (op:UnOp) (x:Opd)
 |toInt (k:IntKind) (x:Opd)
 |same (x:Opd)
 |toBytes (x:Opd)
 |toStr (x:Opd)
 |makeFunc (f:FuncId) (caps:List Opd)
 |makeSlice (esz bytes:Nat) (zero:List Value) (len cap:Opd)
 |sliceStr (x:Opd) (lo hi:Option Opd)
 |slice (esz:Nat) (x:Opd) (lo hi mx:Option Opd)
 |off (d:Nat) (x:Opd)
 |field (d:Nat) (agg:Option Nat) (x:Opd)
 |idx (esz:Nat) (x i:Opd)
 |idxArr (len esz:Nat) (x i:Opd)
 |ixStr (x i:Opd)
 |ixAgg (len esz:Nat) (agg:Option Nat) (x i:Opd)
 |ext (x:Opd) (i:Nat)
 |len (str:Bool) (x:Opd)
 |lenArr (n:Nat) (x:Opd)
 |isNil (neg:Bool) (x:Opd)
 |append (esz bytes:Nat) (zero:List Value) (x y:Opd)
 |appendN (esz bytes:Nat) (zero:List Value) (x y:Opd)
 |copy (esz:Nat) (x y:Opd)
 |max2 (x y:Opd)
 |min2 (x y:Opd)
 |arrOf (len:Nat) (x:Opd)
 |bytesOwn (x:Opd)
 |mkMap
 |mapGet (m k:Opd)
 |mapSet (m k x:Opd)
 |mapEnt (m k:Opd)
 |mapPut (m i x:Opd)
 |call (f:FuncId) (args:List Opd)
 |dyn (f:Opd) (args:List Opd)
 deriving Inhabited
def vg:Option Opd→List Opd
 |some x=>[x]
 |none=>[]
def AOp.opds:AOp→List Opd
 | .mv x| .box _ x| .load _ x| .nilCheck x| .un _ x| .toInt _ x| .same x| .toBytes x| .toStr x| .off _ x| .field _ _ x| .ext x _| .len _ x| .lenArr _ x| .isNil _ x| .arrOf _ x| .bytesOwn x=>[x]
 | .pick c a b=>[c,a,b]
 | .alloc _| .mkMap=>[]
 | .mapGet m k| .mapEnt m k=>[m,k]
 | .mapSet m k x| .mapPut m k x=>[m,k,x]
 | .build _ ps=>ps.map (·.2.2)
 | .buildSlice _ _ _ ps=>ps.map (·.2)
 | .store _ a x=>[a,x]
 | .buildTwo x y| .bin _ x y| .beq _ x y| .eqAgg _ _ x y| .makeSlice _ _ _ x y| .idx _ x y| .idxArr _ _ x y| .ixStr x y| .ixAgg _ _ _ x y| .append _ _ _ x y| .appendN _ _ _ x y| .copy _ x y| .max2 x y| .min2 x y=>[x,y]
 | .makeFunc _ cs=>cs
 | .sliceStr x lo hi=>x::(vg lo++vg hi)
 | .slice _ x lo hi mx=>x::(vg lo++(vg hi++vg mx))
 | .call _ args=>args
 | .dyn f args=>f::args
def gu:Blk:=⟨0,false,[]⟩
def ic (h:ak):V→Option (V×List Nat)
 | .sl b s n=>match h b with
   |some k=>if k.op=false∧0<k.esz∧s+n=k.rows.length then some (.imm k.esz (k.rows.drop s),[b]) else none
   |none=>none
 |v=>if v.cl&&v.cell then some (v,[]) else none
def gg (h:ak):List V→Option (List V×List Nat)
 |[]=>some ([],[])
 |v::r=>match ic h v,gg h r with
  |some (v',bs),some (r',bs')=>some (v'.cz::r',bs++bs')
  |_,_=>none
abbrev Upd:=List (Nat×Blk)
def dm (bs:List Nat):Upd:=bs.map fun b=>(b,gu)
def aJ (h:ak) (b:Nat) (k:Blk):ak:=fun b'=>if b'=b then some k else h b'
def cC (h:ak):Upd→ak
 |[]=>h
 | (b,k)::r=>cC (aJ h b k) r
def bI (h:ak) (esz:Nat):V→Option (List (List V))
 | .sl b s n=>match h b with
   |some k=>if k.op=false∧0<k.esz∧k.esz=esz∧s+n=k.rows.length then some (k.rows.drop s) else none
   |none=>none
 | .imm e rows=>if e=esz then some rows else if rows.isEmpty then some [] else none
 | .lit (.slice none 0 0)=>some []
 | .lit (.slice (some _) 0 _)=>some []
 | .lit (.string s)=>if esz=1 then some (s.data.toList.map fun b=>[.lit (.int .u8 b.toNat)]) else none
 |_=>none
def JI:V→Bool
 | .lit (.string _)=>true
 |_=>false
def asI:V→Option Int
 | .lit (.int _ n)=>some n
 |_=>none
def bf:Nat:=1099511627776
def cP (op:BinOp):Value→Value→Option Value
 | .int k a,.int k' b=>
   match op with
   | .shl=>if 0≤b then some (.int k (k.wrap (a*2^(min b.toNat k.bits)))) else none
   | .shr=>if 0≤b then some (.int k (a.fdiv (2^(min b.toNat k.bits)))) else none
   | .add=>if k=k' then some (.int k (k.wrap (a+b))) else none
   | .sub=>if k=k' then some (.int k (k.wrap (a-b))) else none
   | .mul=>if k=k' then some (.int k (k.wrap (a*b))) else none
   | .quo=>if k=k'∧b≠0 then some (.int k (k.wrap (a.tdiv b))) else none
   | .rem=>if k=k'∧b≠0 then some (.int k (a.tmod b)) else none
   | .and=>if k=k' then some (.int k (k.wrap (BitVec.ofInt k.bits a&&&BitVec.ofInt k.bits b).toNat)) else none
   | .or=>if k=k' then some (.int k (k.wrap (BitVec.ofInt k.bits a|||BitVec.ofInt k.bits b).toNat)) else none
   | .xor=>if k=k' then some (.int k (k.wrap (BitVec.ofInt k.bits a^^^BitVec.ofInt k.bits b).toNat)) else none
   | .andNot=>if k=k' then some (.int k (k.wrap (BitVec.ofInt k.bits a&&& ~~~ BitVec.ofInt k.bits b).toNat)) else none
   | .eql=>if k=k' then some (.bool (a==b)) else none
   | .neq=>if k=k' then some (.bool (a !=b)) else none
   | .lss=>if k=k' then some (.bool (decide (a<b))) else none
   | .leq=>if k=k' then some (.bool (decide (a≤b))) else none
   | .gtr=>if k=k' then some (.bool (decide (a>b))) else none
   | .geq=>if k=k' then some (.bool (decide (a≥b))) else none
 | .string a,.string b=>
   match op with
   | .add=>if a.size+b.size≤bf then some (.string (a++b)) else none
   | .eql=>some (.bool (a.toList==b.toList))
   | .neq=>some (.bool !(a.toList==b.toList))
   |_=>none
 |_,_=>none
def BK (op:UnOp):Value→Option Value
 | .int k n=>match op with
   | .neg=>some (.int k (k.wrap (0-n)))
   | .xor=>some (.int k (k.wrap (BitVec.ofInt k.bits (if k.signed then-1 else k.max)^^^BitVec.ofInt k.bits n).toNat))
   |_=>none
 | .bool b=>match op with
   | .not=>some (.bool !b)
   |_=>none
 |_=>none
def ce:List Bool→List V→List V→Option Bool
 |[],[],[]=>some true
 |true::ks,.lit (.int k a)::x,.lit (.int k' b)::y=>if k=k' then (if a=b then ce ks x y else some false) else none
 |false::ks,.lit (.string a)::x,.lit (.string b)::y=>if a=b then ce ks x y else some false
 |_,_,_=>none
def bp (o:Option V) (dflt most:Nat):Option Nat:=
 match o with
 |none=>some dflt
 |some v=>match asI v with
  |some i=>if 0≤i∧i≤most then some i.toNat else none
  |none=>none
def tI (cells:List V):List (Nat×Nat×V)→Option (List V)
 |[]=>some cells
 | (off,size,v)::r=>
   if v.cells.length=size∧off+size≤cells.length∧v.cells.all V.cell then tI (cells.take off++(v.cells++cells.drop (off+size))) r else none
def yR (esz:Nat) (rows:List (List V)):List (Nat×V)→Option (List (List V))
 |[]=>some rows
 | (i,v)::r=>if v.cells.length=esz∧i<rows.length∧v.cells.all V.cell then yR esz (rows.set i v.cells) r else none
def part (agg:Option Nat) (cs:List V) (o:Nat):Option V:=
 match agg with
 |none=>cs[o]?
 |some n=>if o+n≤cs.length then some (.agg ((cs.drop o).take n)) else none
abbrev Tri:=Int×Int×Int
def am:List Tri→List V
 |[]=>[]
 | (a,b,v)::r=> .lit (.int .i64 a):: .lit (.int .i64 b):: .lit (.int .i64 v)::am r
def wN:List V→Option (List Tri)
 |[]=>some []
 | .lit (.int .i64 a):: .lit (.int .i64 b):: .lit (.int .i64 v)::r=>match wN r with
   |some L=>some ((a,b,v)::L)
   |none=>none
 |_=>none
theorem j4: ∀L:List Tri,wN (am L)=some L
 |[]=>rfl
 | (a,b,v)::r=>by simp only [am,wN,j4 r]
theorem nT: ∀{cs:List V} {L:List Tri},wN cs=some L→cs=am L
 |[],L,h=>by simp [wN] at h;subst h;rfl
 | .lit (.int .i64 a):: .lit (.int .i64 b):: .lit (.int .i64 v)::r,L,h=>by
   simp only [wN] at h
   split at h
   ·rename_i L' h'
    cases h
    rw [nT h'];rfl
   ·cases h
 |[_],L,h=>by simp [wN] at h
 |[_,_],L,h=>by simp [wN] at h
 |x::y::z::r,L,h=>by
  unfold wN at h
  split at h
  ·rename_i e;cases e
  ·rename_i a b v r' e
   split at h
   ·rename_i L' h'
    cases h
    cases e
    rw [nT h'];rfl
   ·cases h
  ·cases h
def cV (a b:Int):List Tri→Int
 |[]=>0
 | (x,y,v)::r=>if a=x∧b=y then v else cV a b r
def cZ (a b v:Int):List Tri→List Tri
 |[]=>[(a,b,v)]
 | (x,y,u)::r=>if a=x∧b=y then (a,b,v)::r else (x,y,u)::cZ a b v r
def my (a b:Int):List Tri→Nat
 |[]=>0
 | (x,y,_)::r=>if a=x∧b=y then 0 else my a b r+1
def rI (a b:Int) (L:List Tri):List Tri:=if my a b L<L.length then L else L++[(a,b,0)]
def OT (i:Nat) (v:Int) (L:List Tri):List Tri:=L.modify i fun t=>(t.1,t.2.1,v)
def mapKey:V→Option (Int×Int)
 | .agg [.lit (.int .i64 a),.lit (.int .i64 b)]=>some (a,b)
 |_=>none
def iT (h:ak):V→Option (Nat×List Tri)
 | .mp b=>match h b with
   |some ⟨0,true,[cs]⟩=>match wN cs with
    |some L=>some (b,L)
    |none=>none
   |_=>none
 |_=>none
abbrev aM:=FuncId→List V→List Blk→Option (V×List Blk)
def eD (b:Nat):List Nat→Nat
 |[]=>0
 |x::r=>if x=b then 0 else eD b r+1
def cG (ids:List Nat) (b:Nat):List Nat:=if b∈ids then ids else ids++[b]
def bq (h:ak) (own:Bool) (ids:List Nat):V→Option (V×List Nat×List Nat)
 | .lit v=>some (.lit v,ids,[])
 | .imm e r=>some (.imm e r,ids,[])
 | .iptr r o=>some (.iptr r o,ids,[])
 | .undef=>some (.undef,ids,[])
 | .fn f []=>some (.fn f [],ids,[])
 | .ptr b i o n=>match h b with
   |some k=>if k.rows.length=n then some (.ptr (eD b (cG ids b)) i o n,cG ids b,[]) else none
   |none=>none
 | .mp b=>match h b with
   |some _=>some (.mp (eD b (cG ids b)),cG ids b,[])
   |none=>none
 | .sl b s n=>match h b with
   |some k=>if s+n=k.rows.length then
    (if own then some (.sl (eD b (cG ids b)) s n,cG ids b,[]) else if k.op=false∧0<k.esz then some (.imm k.esz (k.rows.drop s),ids,[b]) else none) else none
   |none=>none
 |_=>none
def bS (h:ak) (own:Bool):List Nat→List V→Option (List V×List Nat×List Nat)
 |ids,[]=>some ([],ids,[])
 |ids,v::r=>match bq h own ids v with
  |some (v',ids',bs)=>match bS h own ids' r with
   |some (r',ids'',bs')=>some (v'::r',ids'',bs++bs')
   |none=>none
  |none=>none
def cc (h:ak) (own:Bool) (ids:List Nat):V→Option (V×List Nat×List Nat)
 | .agg cs=>match bS h own ids cs with
   |some (cs',ids',bs)=>some (.agg cs',ids',bs)
   |none=>none
 | .fn f caps=>match bS h true ids caps with
   |some (cs',ids',bs)=>some (.fn f cs',ids',bs)
   |none=>none
 |v=>bq h own ids v
def dP (h:ak) (owns:List Nat):Nat→List Nat→List V→Option (List V×List Nat×List Nat)
 |_,ids,[]=>some ([],ids,[])
 |j,ids,v::r=>match cc h (j∈owns) ids v with
  |some (v',ids',bs)=>match dP h owns (j+1) ids' r with
   |some (r',ids'',bs')=>some (v'::r',ids'',bs++bs')
   |none=>none
  |none=>none
def j3 (h:ak):List Nat→List V→Option (List V×List Nat)
 |ids,[]=>some ([],ids)
 |ids,v::r=>match cc h true ids v with
  |some (v',ids',_)=>match j3 h ids' r with
   |some (r',ids'')=>some (v'::r',ids'')
   |none=>none
  |none=>none
def hQ (h:ak):List Nat→List (List V)→Option (List (List V)×List Nat)
 |ids,[]=>some ([],ids)
 |ids,x::r=>match j3 h ids x with
  |some (x',ids')=>match hQ h ids' r with
   |some (r',ids'')=>some (x'::r',ids'')
   |none=>none
  |none=>none
def cw (h:ak):Nat→Nat→List Nat→Option (List Blk×List Nat)
 |0,_,_=>none
 |fuel+1,pos,ids=>match ids[pos]? with
  |none=>some ([],ids)
  |some b=>match h b with
   |none=>none
   |some k=>
    if k.op=false then match cw h fuel (pos+1) ids with
     |some (r,ids')=>some (k::r,ids')
     |none=>none
    else match hQ h ids k.rows with
     |none=>none
     |some (rows,ids1)=>match cw h fuel (pos+1) ids1 with
      |some (r,ids2)=>some ({ k with rows:=rows }::r,ids2)
      |none=>none
def unV (ids:List Nat):V→V
 | .ptr b i o n=> .ptr (ids.getD b 0) i o n
 | .sl b s n=> .sl (ids.getD b 0) s n
 | .mp b=> .mp (ids.getD b 0)
 |v=>v
def fR (ids:List Nat):V→V
 | .agg cs=> .agg (cs.map (unV ids))
 | .fn f cs=> .fn f (cs.map (unV ids))
 |v=>unV ids v
def pg (ids:List Nat):V→V
 | .tup vs=> .tup (vs.map (fR ids))
 |v=>fR ids v
def dU (ids:List Nat) (k:Blk):Blk:=if k.op=false then k else { k with rows:=k.rows.map (·.map (fR ids)) }
def ir:V→Bool
 | .lit _| .ptr .. | .sl .. | .mp _| .undef=>true
 |_=>false
def rg:V→Bool
 | .agg cs=>cs.all ir
 |v=>ir v
def jG:V→Bool
 | .tup vs=>vs.all rg
 |v=>rg v
def iX (fl:Bool) (k:Blk):Bool:=(fl||k.op)&&k.rows.all (·.all ir)
def gz:List Nat→List Blk→Upd
 |i::r,k::s=>(i,k)::gz r s
 |_,_=>[]
def ca (owns:FuncId→List Nat) (h:ak) (f:FuncId) (args:List V):Option (List V×List Blk×List Nat×List Nat):=
 match dP h (owns f) 0 [] args with
 |none=>none
 |some (args',ids0,bor)=>match cw h 40 0 ids0 with
  |none=>none
  |some (blks,ids)=>if bor.any (fun b=>decide (b∈ids))=true then none else some (args',blks,ids,bor)
def cD:List Nat→List Blk→Nat→List Nat
 |[],[],_=>[]
 |[],_::r,n=>n::cD [] r (n+1000000)
 |_::i,_::r,n=>cD i r n
 |_::_,[],_=>[]
theorem nY: ∀{ids:List Nat} {bs:List Blk} {n:Nat},ids.length≤bs.length→(cD ids bs n).length+ids.length=bs.length
 |[],[],n,_=>rfl
 |[],_::r,n,_=>by simp only [cD,List.length_cons];have:= @nY [] r (n+1000000) (by simp);simpa using this
 |_::i,_::r,n,h=>by simp only [cD,List.length_cons];have:= @nY i r n (by simpa using h);omega
 |_::_,[],n,h=>by simp at h
theorem uK: ∀(ids:List Nat) (bs:List Blk) (n:Nat), ∀b∈cD ids bs n,n≤b
 |[],[],n,b,h=>by simp [cD] at h
 |[],_::r,n,b,h=>by
  simp only [cD,List.mem_cons] at h
  rcases h with h|h
  ·omega
  ·have:=uK [] r (n+1000000) b h;omega
 |_::i,_::r,n,b,h=>uK i r n b h
 |_::_,[],n,b,h=>by simp [cD] at h
theorem uP: ∀(ids:List Nat) (bs:List Blk) (n:Nat),(cD ids bs n).Nodup
 |[],[],n=>List.nodup_nil
 |[],_::r,n=>by
  simp only [cD,List.nodup_cons]
  exact ⟨fun h=>by have:=uK [] r (n+1000000) n h;omega,uP [] r _⟩
 |_::i,_::r,n=>uP i r n
 |_::_,[],n=>List.nodup_nil
def nj (fl:Bool) (h:ak) (new:Nat) (ids bor:List Nat) (r:V) (blks':List Blk):Option (V×Upd):=
 if ids.length≤blks'.length∧(cD ids blks' new).all (fun b=>(h b).isNone)=true then
  some (pg (ids++cD ids blks' new) r,gz (ids++cD ids blks' new) (blks'.map (dU (ids++cD ids blks' new)))++(if (bor.isEmpty||(jG r&&blks'.all (iX fl)))=true then [] else dm bor))
 else none
open Classical in
noncomputable def roU (h:ak):Upd→Option Upd
 |[]=>some []
 | (b,k)::r=>match h b with
   |none=>(roU h r).map ((b,k):: ·)
   |some k'=>if k'=k then roU h r else none
noncomputable def roW (ro:Bool) (h:ak):Option (V×Upd)→Option (V×Upd)
 |none=>none
 |some (v,u)=>if ro=true then (match roU h u with
  |some u'=>some (v,u')
  |none=>none) else some (v,u)
theorem yB {h:ak}: ∀{u u':Upd} {g:ak},(∀c k,h c=some k→g c=some k)→roU h u=some u'→cC g u'=cC g u
 |[],u',g,hg,hs=>by cases hs;rfl
 | (b,k)::r,u',g,hg,hs=>by
   simp only [roU] at hs
   cases hb:h b with
   |none=>
    rw [hb] at hs;dsimp only at hs
    cases hr:roU h r with
    |none=>rw [hr] at hs;cases hs
    |some r'=>
     rw [hr] at hs;cases hs
     exact yB (g:=aJ g b k) (fun c k' hc=>by
      have:c≠b:=fun e=>by rw [e,hb] at hc;cases hc
      unfold aJ;rw [if_neg this];exact hg c k' hc) hr
   |some k'=>
    rw [hb] at hs;dsimp only at hs
    split at hs
    ·rename_i he
     subst he
     have:aJ g b k'=g:=by
      funext c;unfold aJ;split
      ·rename_i hc;rw [hc,hg b k' hb]
      ·rfl
     show cC g u'=cC (aJ g b k') r
     rw [this]
     exact yB hg hs
    ·cases hs
theorem Jd {ro:Bool} {h:ak} {x:Option (V×Upd)} {v:V} {u:Upd} (hs:roW ro h x=some (v,u)): ∃u0,x=some (v,u0)∧cC h u=cC h u0∧(ro=true→roU h u0=some u)∧(ro=false→u=u0):=by
 unfold roW at hs
 split at hs
 ·cases hs
 ·rename_i v0 u0
  split at hs
  ·rename_i hr
   split at hs
   ·rename_i u1 h1
    cases hs
    exact ⟨u0,rfl,yB (fun _ _ h=>h) h1,fun _=>h1,fun h=>by rw [hr] at h;cases h⟩
   ·cases hs
  ·rename_i hr
   cases hs
   exact ⟨_,rfl,rfl,fun h=>absurd h hr,fun _=>rfl⟩
def kD (owns:List Nat) (args:List V):List V:=if owns.contains 1000 then args else args.map V.czA
def kw (owns:List Nat) (blks:List Blk):List Blk:=if owns.contains 1000 then blks else blks.map Blk.cz
noncomputable def gZ (C:aM) (owns:FuncId→List Nat) (h:ak) (new:Nat) (f:FuncId) (args:List V):Option (V×Upd):=
 match ca owns h f args with
 |none=>none
 |some (args',blks,ids,bor)=>match C f (kD (owns f) args') (kw (owns f) blks) with
  |none=>none
  |some (r,blks')=>roW ((owns f).contains 3000) h (nj ((owns f).contains 2000) h new ids bor r blks')
def ny (agg:Option Nat) (h:ak) (a:V):Option V:=
 match a with
 | .ptr b i o n=>match h b with
   |some k=>if k.rows.length=n then (match k.rows[i]? with
    |some row=>part agg row o
    |none=>none) else none
   |none=>none
 | .iptr row o=>part agg row o
 |_=>none
def fK (h:ak) (n:Nat) (k:Blk) (v:V):Option (V×Upd):=if (h n).isNone=true∧0<k.esz then some (v,[(n,k)]) else none
def di (ev:Opd→V):List (Nat×Nat×Opd)→List (Nat×Nat×V)
 |[]=>[]
 | (a,b,x)::r=>(a,b,ev x)::di ev r
def bP (h:ak) (ev:Opd→V):List (Nat×Opd)→Option (List (Nat×V)×List Nat)
 |[]=>some ([],[])
 | (i,x)::r=>match gg h (ev x).cells,bP h ev r with
   |some (cs,bs),some (r',bs')=>some ((i,.agg cs)::r',bs++bs')
   |_,_=>none
def ur (esz bytes:Nat) (zero:List Value) (x:V) (sb:Nat→Bool) (h:ak) (new:Nat) (new_:List (List V)):Option (V×Upd):=
 if zero.length=esz∧0<esz∧new_.length*bytes≤bf∧new_.length*esz≤bf then
 (match x with
 | .sl b 0 n=>match h b with
   |some k=>if k.op=false∧0<k.esz∧k.esz=esz∧n=k.rows.length∧(n+new_.length)*bytes≤bf∧(n+new_.length)*esz≤bf∧sb b then
    some (.sl b 0 (n+new_.length),[(b,{ k with rows:=k.rows++new_ })]) else none
   |none=>none
 | .lit (.slice none 0 0)=>fK h new ⟨esz,false,new_⟩ (.sl new 0 new_.length)
 | .imm 0 []=>fK h new ⟨esz,false,new_⟩ (.sl new 0 new_.length)
 |_=>none) else none
noncomputable def ag (C:aM) (owns:FuncId→List Nat) (o:AOp) (ev:Opd→V) (h:ak) (new:Nat):Option (V×Upd):=
 match o with
 | .mv x=>some (ev x,[])
 | .pick c a b=>match ev c with
   | .lit (.bool true)=>some (ev a,[])
   | .lit (.bool false)=>some (ev b,[])
   |_=>none
 | .alloc zero=>if zero.all aN then fK h new ⟨zero.length,true,[zero.map .lit]⟩ (.ptr new 0 0 1) else none
 | .box size x=>if (ev x).cells.length=size∧(ev x).cells.all V.cell then fK h new ⟨size,true,[(ev x).cells]⟩ (.ptr new 0 0 1) else none
 | .build zero parts=>if zero.all aN then (match tI (zero.map .lit) (di ev parts) with
   |some cs=>some (.agg cs,[])
   |none=>none) else none
 | .buildTwo x y=>if (ev x).cell=true∧(ev y).cell=true then fK h new ⟨1,true,[[ev x],[ev y]]⟩ (.sl new 0 2) else none
 | .buildSlice esz zero len parts=>match bP h ev parts with
   |some (ps,bs)=>match yR esz (List.replicate len (zero.map zc)) ps with
    |some rows=>if zero.length=esz∧zero.all aN∧len*esz≤16777216∧ ¬new∈bs then
     (match fK h new ⟨esz,false,rows⟩ (.sl new 0 len) with
      |some (v,u)=>some (v,dm bs++u)
      |none=>none) else none
    |none=>none
   |none=>none
 | .load agg a=>match ny agg h (ev a) with
   |some v=>some (v,[])
   |none=>none
 | .store size a x=>match ev a with
   | .ptr b i o n=>match h b with
     |some k=>if k.rows.length=n then (match k.rows[i]? with
      |some row=>
       if k.op then
        (if (ev x).cells.length=size∧o+size≤row.length∧(ev x).cells.all V.cell then
         some (.undef,[(b,{ k with rows:=k.rows.set i (row.take o++((ev x).cells++row.drop (o+size))) })]) else none)
       else match gg h (ev x).cells with
        |some (cs,bs)=>if cs.length=size∧o+size≤row.length∧ ¬b∈bs then
         some (.undef,dm bs++[(b,{ k with rows:=k.rows.set i (row.take o++(cs++row.drop (o+size))) })]) else none
        |none=>none
      |none=>none) else none
     |none=>none
   |_=>none
 | .nilCheck x=>match ev x with
   | .ptr b i o n=>match h b with
     |some k=>if k.rows.length=n∧i<n then some (.ptr b i o n,[]) else none
     |none=>none
   | .iptr r o=>some (.iptr r o,[])
   | .fn f c=>some (.fn f c,[])
   |_=>none
 | .bin op x y=>match ev x,ev y with
   | .lit a,.lit b=>match cP op a b with
     |some v=>some (.lit v,[])
     |none=>none
   |_,_=>none
 | .eqAgg neg ks x y=>match ev x,ev y with
   | .agg a,.agg b=>match ce ks a b with
     |some r=>some (.lit (.bool (if neg then !r else r)),[])
     |none=>none
   |_,_=>none
 | .beq neg x y=>match ev x,ev y with
   | .lit (.bool a),.lit (.bool b)=>some (.lit (.bool (if neg then a !=b else a==b)),[])
   |_,_=>none
 | .un op x=>match ev x with
   | .lit a=>match BK op a with
     |some v=>some (.lit v,[])
     |none=>none
   |_=>none
 | .toInt k x=>match asI (ev x) with
   |some n=>some (.lit (.int k (k.wrap n)),[])
   |none=>none
 | .same x=>match ev x with
   | .lit (.string s)=>some (.lit (.string s),[])
   |_=>none
 | .toBytes x=>match ev x with
   | .lit (.string s)=>if s.size≤bf then fK h new ⟨1,false,s.data.toList.map fun b=>[.lit (.int .u8 b.toNat)]⟩ (.sl new 0 s.size) else none
   |_=>none
 | .toStr x=>if JI (ev x) then none else match bI h 1 (ev x) with
   |some rows=>match bytesOf rows with
    |some l=>some (.lit (.string ⟨l.toArray⟩),[])
    |none=>none
   |none=>none
 | .makeFunc f caps=>some (.fn f (caps.map ev),[])
 | .makeSlice esz bytes zero len cap=>match asI (ev len),asI (ev cap) with
   |some l,some c=>if 0≤l∧l≤c∧c*bytes≤bf∧c*esz≤bf∧zero.length=esz∧zero.all aN then
    fK h new ⟨esz,false,List.replicate l.toNat (zero.map zc)⟩ (.sl new 0 l.toNat) else none
   |_,_=>none
 | .sliceStr x lo hi=>match ev x with
   | .lit (.string s)=>match bp (hi.map ev) s.size s.size with
     |some b=>match bp (lo.map ev) 0 b with
      |some a=>some (.lit (.string (s.extract a b)),[])
      |none=>none
     |none=>none
   |_=>none
 | .slice esz x lo hi mx=>match mx with
   |some _=>none
   |none=>match ev x with
   | .lit (.slice none 0 0)=>match bp (hi.map ev) 0 0 with
     |some q=>match bp (lo.map ev) 0 q with
      |some _=>some (.lit (.slice none 0 0),[])
      |none=>none
     |none=>none
   | .sl b s n=>match h b with
     |some k=>if k.op=false∧0<k.esz∧k.esz=esz∧s+n=k.rows.length then (match bp (hi.map ev) n n with
      |some q=>match bp (lo.map ev) 0 q with
       |some p=>if q=n then some (.sl b (s+p) (n-p),[]) else some ((V.imm esz (((k.rows.drop s).take q).drop p)).cz,[(b,gu)])
       |none=>none
      |none=>none) else none
     |none=>none
   | .imm e rows=>if e=esz∨rows=[] then (match bp (hi.map ev) rows.length rows.length with
    |some q=>match bp (lo.map ev) 0 q with
     |some p=>some ((V.imm e ((rows.take q).drop p)).cz,[])
     |none=>none
    |none=>none) else none
   |_=>none
 | .off d x=>match ev x with
   | .ptr b i o n=>some (.ptr b i (o+d) n,[])
   | .iptr r o=>some (.iptr r (o+d),[])
   |_=>none
 | .field d agg x=>match ev x with
   | .agg cs=>match part agg cs d with
     |some v=>some (v,[])
     |none=>none
   |_=>none
 | .idx esz x i=>match asI (ev i) with
   |some i=>if 0≤i then (match ev x with
    | .sl b s n=>match h b with
      |some k=>if 0<k.esz∧k.esz=esz∧s+n=k.rows.length∧i.toNat<n then some (.ptr b (s+i.toNat) 0 k.rows.length,[]) else none
      |none=>none
    | .imm e rows=>if e=esz then (match rows[i.toNat]? with
      |some row=>some (.iptr row 0,[])
      |none=>none) else none
    |_=>none) else none
   |none=>none
 | .idxArr len esz x i=>match asI (ev i) with
   |some i=>if 0≤i∧i.toNat<len then (match ev x with
    | .ptr b j o n=>some (.ptr b j (o+i.toNat*esz) n,[])
    | .iptr r o=>some (.iptr r (o+i.toNat*esz),[])
    |_=>none) else none
   |none=>none
 | .ixStr x i=>match ev x,asI (ev i) with
   | .lit (.string s),some i=>if 0≤i then (match s.data[i.toNat]? with
     |some b=>some (.lit (.int .u8 b.toNat),[])
     |none=>none) else none
   |_,_=>none
 | .ixAgg len esz agg x i=>match ev x,asI (ev i) with
   | .agg cs,some i=>if 0≤i∧i.toNat<len then (match part agg cs (i.toNat*esz) with
     |some v=>some (v,[])
     |none=>none) else none
   |_,_=>none
 | .ext x i=>match ev x with
   | .tup vs=>match vs[i]? with
     |some v=>some (v,[])
     |none=>none
   |_=>none
 | .len str x=>match str,ev x with
   |true,.lit (.string s)=>some (.lit (.int .i64 s.size),[])
   |false,.lit (.slice _ n _)=>some (.lit (.int .i64 n),[])
   |false,.sl _ _ n=>some (.lit (.int .i64 n),[])
   |false,.imm _ rows=>some (.lit (.int .i64 rows.length),[])
   |_,_=>none
 | .lenArr n _=>some (.lit (.int .i64 n),[])
 | .isNil neg x=>match ev x with
   | .lit (.slice a _ _)=>some (.lit (.bool (if neg then !a.isNone else a.isNone)),[])
   | .imm _ (_::_)=>some (.lit (.bool neg),[])
   |_=>none
 | .append esz bytes zero x y=>match bI h esz (ev y) with
   |none=>none
   |some new_=>
    if zero.length=esz∧0<esz∧new_.length*bytes≤bf∧new_.length*esz≤bf then
    (match ev x with
    | .sl b 0 n=>match h b with
      |some k=>if k.op=false∧0<k.esz∧k.esz=esz∧n=k.rows.length∧(n+new_.length)*bytes≤bf∧(n+new_.length)*esz≤bf∧selfOk b (ev y) then
       some (.sl b 0 (n+new_.length),[(b,{ k with rows:=k.rows++new_ })]) else none
      |none=>none
    | .lit (.slice none 0 0)=>fK h new ⟨esz,false,new_⟩ (.sl new 0 new_.length)
    | .imm 0 []=>fK h new ⟨esz,false,new_⟩ (.sl new 0 new_.length)
    |_=>none) else none
 | .appendN esz bytes zero x y=>match asI (ev y) with
   |some l=>if 0≤l∧l≤1099511627776∧l*bytes≤1099511627776∧zero.all aN then ur esz bytes zero (ev x) (fun _=>true) h new (List.replicate l.toNat (zero.map zc)) else none
   |none=>none
 | .copy esz x y=>match bI h esz (ev y),ev x with
   |some rows,.sl b s n=>match h b with
    |some k=>if k.op=false∧0<k.esz∧k.esz=esz∧s+n=k.rows.length∧selfOk b (ev y) then
     some (.lit (.int .i64 (min rows.length n)),[(b,{ k with rows:=k.rows.take s++(rows.take (min rows.length n)++k.rows.drop (s+min rows.length n)) })]) else none
    |none=>none
   |_,_=>none
 | .max2 x y=>match ev x,ev y with
   | .lit (.int k a),.lit (.int _ b)=>some (.lit (.int k (if b>a then b else a)),[])
   |_,_=>none
 | .min2 x y=>match ev x,ev y with
   | .lit (.int k a),.lit (.int _ b)=>some (.lit (.int k (if b<a then b else a)),[])
   |_,_=>none
 | .arrOf len x=>match ic h (ev x) with
   |some (.imm _ rows,bs)=>if 0<len∧len≤rows.length then some (.iptr rows.flatten 0,dm bs) else none
   |_=>none
 | .bytesOwn x=>match ev x with
   | .sl b s n=>match h b with
     |some k=>if k.op=false∧0<k.esz∧s+n=k.rows.length∧0<n then some (.sl b s n,[(b,k)]) else none
     |none=>none
   |_=>none
 | .mkMap=>if (h new).isNone=true then some (.mp new,[(new,⟨0,true,[[]]⟩)]) else none
 | .mapGet m k=>match iT h (ev m),mapKey (ev k) with
   |some (_,L),some (a,b)=>some (.lit (.int .i64 (cV a b L)),[])
   |_,_=>none
 | .mapEnt m k=>match iT h (ev m),mapKey (ev k) with
   |some (p,L),some (a,b)=>some (.tup [.lit (.int .i64 (cV a b L)),.lit (.int .i64 (my a b L))],[(p,⟨0,true,[am (rI a b L)]⟩)])
   |_,_=>none
 | .mapPut m i x=>match iT h (ev m),ev i,ev x with
   |some (p,L),.lit (.int .i64 i),.lit (.int .i64 v)=>if 0≤i∧i<L.length then some (.undef,[(p,⟨0,true,[am (OT i.toNat v L)]⟩)]) else none
   |_,_,_=>none
 | .mapSet m k x=>match iT h (ev m),mapKey (ev k),ev x with
   |some (p,L),some (a,b),.lit (.int .i64 v)=>some (.undef,[(p,⟨0,true,[am (cZ a b v L)]⟩)])
   |_,_,_=>none
 | .call f args=>gZ C owns h new f (args.map ev)
 | .dyn f args=>match ev f with
   | .fn k caps=>gZ C owns h new k (args.map ev++caps)
   |_=>none
where
 bytesOf:List (List V)→Option (List UInt8)
  |[]=>some []
  |[.lit (.int .u8 n)]::r=>if 0≤n∧n<256 then (match bytesOf r with
   |some l=>some (UInt8.ofNat n.toNat::l)
   |none=>none) else none
  |_=>none
 selfOk (b:Nat):V→Bool
  | .sl b' _ _=>b !=b'
  |_=>true
end Go.AI
namespace Go.AI
def bC {α:Type}:List (Nat×α)→Nat→Option α
 |[],_=>none
 | (k,v)::r,t=>if k=t then some v else bC r t
def dv {α:Type} (k:Nat) (v:α):List (Nat×α)→List (Nat×α)
 |[]=>[(k,v)]
 | (j,u)::r=>if j=k then (j,v)::r else (j,u)::dv k v r
structure St where
 e:List (Nat×V)
 m:List (Nat×Blk)
def St.get (s:St) (t:Nat):V:=(bC s.e t).getD .undef
def St.heap (s:St):ak:=bC s.m
def St.ev (s:St):Opd→V:=Opd.ev s.get
def St.put (s:St) (d:Option Nat) (v:V):St:=match d with
 |some d=>{ s with e:=(d,v)::s.e }
 |none=>s
def Ez (m:List (Nat×Blk)):Upd→List (Nat×Blk)
 |[]=>m
 | (b,k)::r=>Ez (dv b k m) r
def St.upd (s:St) (u:Upd):St:={ s with m:=Ez s.m u }
structure aQ where
 dst:Option Nat
 op:AOp
 guard:Option (Nat×Bool)
 deriving Inhabited
def St.want (s:St):Option (Nat×Bool)→Option Bool
 |none=>some true
 |some (t,b)=>match s.get t with
  | .lit (.bool c)=>some (c==b)
  | .lit (.tuple _)=>some false
  |_=>none
abbrev bK:=FuncId→List Nat
noncomputable def pi (C:aM) (ow:bK) (st:St) (s:aQ) (n:Nat):Option St:=
 match st.want s.guard with
 |none=>none
 |some false=>some (st.put s.dst (.lit (.tuple #[])))
 |some true=>match ag C ow s.op st.ev st.heap n with
  |some (v,u)=>some ((st.upd u).put s.dst v)
  |none=>none
noncomputable def dM (C:aM) (ow:bK):List aQ→Nat→St→Option St
 |[],_,st=>some st
 |s::r,n,st=>match pi C ow st s n with
  |some st'=>dM C ow r (n+1) st'
  |none=>none
structure Rec where
 i:Nat
 fp:List Nat
 wr:List Nat
def ju:V→List Nat
 | .ptr b _ _ _=>[b]
 | .sl b _ _=>[b]
 | .mp b=>[b]
 |_=>[]
def cH:V→List Nat
 | .agg cs=>cs.flatMap ju
 | .fn _ cs=>cs.flatMap ju
 | .tup vs=>vs.flatMap fun| .agg cs=>cs.flatMap ju|v=>ju v
 |v=>ju v
def wQ (ow:bK) (h:ak) (f:FuncId) (args:List V):List Nat:=
 match ca ow h f args with
 |none=>[]
 |some (_,_,ids,bor)=>ids++bor
def cU (ow:bK) (o:AOp) (ev:Opd→V) (h:ak):List Nat:=
 match o with
 | .call f args=>wQ ow h f (args.map ev)
 | .dyn f args=>match ev f with
   | .fn k caps=>wQ ow h k (args.map ev++caps)
   |_=>[]
 | .mv _| .ext _ _| .off _ _| .len _ _| .makeFunc _ _=>[]
 |o=>(o.opds.map ev).flatMap cH
def jc (h:ak) (fp:List Nat):ak:=fun b=>if b∈fp then h b else none
noncomputable def mT (C:aM) (ow:bK) (st:St) (s:aQ) (i n:Nat):Option (St×Rec):=
 match st.want s.guard with
 |none=>none
 |some false=>some (st.put s.dst (.lit (.tuple #[])),⟨i,[],[]⟩)
 |some true=>match ag C ow s.op st.ev (jc st.heap (cU ow s.op st.ev st.heap)) n with
  |some (v,u)=>
   if (u.map (·.1)).all (fun b=>decide (b∈cU ow s.op st.ev st.heap)||(st.heap b).isNone) then
    some ((st.upd u).put s.dst v,⟨i,cU ow s.op st.ev st.heap,u.map (·.1)⟩) else none
  |none=>none
noncomputable def dJ (C:aM) (ow:bK) (base:Nat):List aQ→Nat→St→Option (St×List Rec)
 |[],_,st=>some (st,[])
 |s::r,i,st=>match mT C ow st s i (base+i) with
  |some (st',rc)=>match dJ C ow base r (i+1) st' with
   |some (st'',rs)=>some (st'',rc::rs)
   |none=>none
  |none=>none
def BA (p q:Rec):Bool:=p.wr.any (fun b=>b∈q.fp||b∈q.wr)||q.wr.any (· ∈p.fp)
def rN (deps:List (List Nat)) (p:Rec):List Rec→Bool
 |[]=>true
 |q::r=>(p.wr.isEmpty&&q.wr.isEmpty||(deps.getD q.i []).contains p.i|| !BA p q)&&rN deps p r
def iG (deps:List (List Nat)):List Rec→Bool
 |[]=>true
 |p::r=>rN deps p r&&iG deps r
def Rec.loud (r:Rec):Bool:= !(r.fp.isEmpty&&r.wr.isEmpty)
inductive ci where
 |close (bs:List Nat)
 |nilCell (b o new esz:Nat)
 |nilTmp (t new esz:Nat)
 |both (a b:ci)
 |drop (ts:List Nat)
 deriving Inhabited
inductive au where
 |skip
 |region (base:Nat) (steps:List aQ) (live:List Nat)
 |drawn (base:Nat) (steps:List aQ) (deps:List (List Nat)) (live:List Nat)
 |seq (a b:au)
 |cond (c:Opd) (a b:au)
 |block (id:Nat) (c:au)
 |loop (c:au)
 |exit (id:Nat)
 |ret
 |ghost (g:ci) (c:au)
 deriving Inhabited
inductive aH where
 |normal
 |exit (id:Nat)
 |ret
 deriving DecidableEq,Inhabited
def okC:V→Bool
 | .lit _| .imm _ _| .iptr _ _| .ptr .. | .sl .. | .mp _| .undef=>true
 | .fn _ []=>true
 |_=>false
def fzC (h:ak) (bs:List Nat):V→V
 | .sl b s n=>if b∈bs then (match ic h (.sl b s n) with
   |some (v,_)=>v.cz
   |none=> .undef) else .sl b s n
 | .ptr b i o n=>if b∈bs then .undef else .ptr b i o n
 | .mp b=>if b∈bs then .undef else .mp b
 | .fn f cs=>if (cs.all okC&& !(cs.flatMap ju).any (fun b=>decide (b∈bs)))=true then .fn f cs else .undef
 |v=>v
def fzA (h:ak) (bs:List Nat):V→V
 | .agg cs=>if (cs.map (fzC h bs)).all V.cell then .agg (cs.map (fzC h bs)) else .undef
 | .tup _=> .undef
 |v=>fzC h bs v
def fzM (h:ak) (bs:List Nat):List (Nat×Blk)→List (Nat×Blk)
 |[]=>[]
 | (b,k)::r=>if b∈bs then fzM h bs r else (b,if k.op then (if (k.rows.map (·.map (fzC h bs))).all (·.all V.cell) then { k with rows:=k.rows.map (·.map (fzC h bs)) } else gu) else k)::fzM h bs r
def yN (g:V→V):List (Nat×V)→List (Nat×V)
 |[]=>[]
 | (t,v)::r=>(t,g v)::yN g r
def zA (ts:List Nat):List (Nat×V)→List (Nat×V)
 |[]=>[]
 | (t,v)::r=>(t,if t∈ts then .undef else v)::zA ts r
def bc:St→ci→Option St
 |st,.close bs=>if bs.all (fun b=>decide (1000≤b))=true then some { e:=yN (fzA st.heap bs) st.e,m:=fzM st.heap bs st.m } else none
 |st,.nilCell b o new esz=>match st.heap b with
  |some k=>if k.op then (match k.rows with
   |[row]=>(match row[o]? with
    |some (.lit (.slice none 0 0))=>if (st.heap new).isNone∧0<esz then some { st with m:=dv new ⟨esz,false,[]⟩ (dv b { k with rows:=[row.set o (.sl new 0 0)] } st.m) } else some st
    |_=>some st)
   |_=>some st) else some st
  |none=>some st
 |st,.nilTmp t new esz=>match st.get t with
  | .lit (.slice none 0 0)=>if (st.heap new).isNone∧0<esz then some { e:=dv t (.sl new 0 0) st.e,m:=dv new ⟨esz,false,[]⟩ st.m } else some st
  |_=>some st
 |st,.both a b=>match bc st a with
  |some st1=>bc st1 b
  |none=>none
 |st,.drop ts=>some { st with e:=zA ts st.e }
def trim (live:List Nat) (st:St):St:={ st with e:=live.map fun t=>(t,st.get t) }
noncomputable def j7 (C:aM) (ow:bK) (base:Nat) (steps:List aQ) (live:List Nat) (st:St):Option (aH×St):=
 match dM C ow steps base st with
 |some st'=>some (.normal,trim live st')
 |none=>none
noncomputable def oE (C:aM) (ow:bK) (base:Nat) (steps:List aQ) (deps:List (List Nat)) (live:List Nat) (st:St):Option (aH×St):=
 match dJ C ow base steps 0 st with
 |some (st',rs)=>if iG deps (rs.filter Rec.loud) then some (.normal,trim live st') else none
 |none=>none
noncomputable def bj (C:aM) (ow:bK):Nat→au→St→Option (aH×St)
 |0,_,_=>none
 |n+1,c,st=>match c with
  | .skip=>some (.normal,st)
  | .region base steps live=>j7 C ow base steps live st
  | .drawn base steps deps live=>oE C ow base steps deps live st
  | .seq a b=>match bj C ow n a st with
    |some (.normal,st')=>bj C ow n b st'
    |r=>r
  | .cond c a b=>match st.ev c with
    | .lit (.bool true)=>bj C ow n a st
    | .lit (.bool false)=>bj C ow n b st
    |_=>none
  | .block id c=>match bj C ow n c st with
    |some (.exit id',st')=>if id'=id then some (.normal,st') else some (.exit id',st')
    |r=>r
  | .loop c=>match bj C ow n c st with
    |some (.normal,st')=>bj C ow n (.loop c) st'
    |r=>r
  | .exit id=>some (.exit id,st)
  | .ret=>some (.ret,st)
  | .ghost g c=>match bc st g with
    |some st'=>bj C ow n c st'
    |none=>none
inductive vb where
 |tmp (t:Nat)
 |cell (t:Nat) (agg:Option Nat)
 deriving Inhabited
structure aC where
 ntmps:Nat
 body:au
 results:List vb
 keep:Bool
 raw:Bool
 deriving Inhabited
def tF (st:St):vb→Option V
 | .tmp t=>some (st.get t)
 | .cell t agg=>ny agg st.heap (st.get t)
def fI (st:St):List vb→Option (List V)
 |[]=>some []
 |r::rs=>match tF st r,fI st rs with
  |some v,some vs=>some (v::vs)
  |_,_=>none
def iu (h:ak) (m:Nat) (kp:List Nat):V→Option V
 | .sl b s n=>if b<m then some (.sl b s n) else if b∈kp then some (.sl (m+eD b kp) s n) else (match ic h (.sl b s n) with
   |some (v,_)=>some v
   |none=>none)
 | .ptr b i o n=>if b<m then some (.ptr b i o n) else if b∈kp then some (.ptr (m+eD b kp) i o n) else none
 | .mp b=>if b<m then some (.mp b) else if b∈kp then some (.mp (m+eD b kp)) else none
 | .fn f []=>some (.fn f [])
 | .lit v=>some (.lit v)
 | .imm e r=>some (.imm e r)
 | .iptr r o=>some (.iptr r o)
 | .undef=>some .undef
 |_=>none
def lX (h:ak) (m:Nat) (kp:List Nat):List V→Option (List V)
 |[]=>some []
 |v::r=>match iu h m kp v,lX h m kp r with
  |some v',some r'=>some (v'::r')
  |_,_=>none
def rq (h:ak) (m:Nat) (kp:List Nat):V→Option V
 | .agg cs=>match lX h m kp cs with
   |some cs'=>some (.agg cs')
   |none=>none
 | .tup _=>none
 |v=>iu h m kp v
def lZ (h:ak) (m:Nat) (kp:List Nat):List V→Option (List V)
 |[]=>some []
 |v::r=>match rq h m kp v,lZ h m kp r with
  |some v',some r'=>some (v'::r')
  |_,_=>none
def tj (h:ak) (m:Nat) (kp:List Nat):V→Option V
 | .fn f (c::cs)=>match lX h m kp (c::cs) with
   |some cs'=>some (.fn f cs')
   |none=>none
 |v=>iu h m kp v
def o9 (h:ak) (m:Nat) (kp:List Nat):List V→Option (List V)
 |[]=>some []
 |v::r=>match tj h m kp v,o9 h m kp r with
  |some v',some r'=>some (v'::r')
  |_,_=>none
def kC (h:ak) (m:Nat) (kp:List Nat):List (List V)→Option (List (List V))
 |[]=>some []
 |v::r=>match o9 h m kp v,kC h m kp r with
  |some v',some r'=>some (v'::r')
  |_,_=>none
def A2 (h:ak) (m:Nat) (kp:List Nat) (k:Blk):Option Blk:=
 if k.op=false then some k else match kC h m kp k.rows with
  |some rows=>some { k with rows }
  |none=>none
def kO (h:ak) (m:Nat) (kp:List Nat):List Nat→Option (List Blk)
 |[]=>some []
 |b::r=>match h b with
  |some k=>match A2 h m kp k,kO h m kp r with
   |some k',some r'=>some (k'::r')
   |_,_=>none
  |none=>none
def qY (m:Nat):List Nat→List Nat→List Nat
 |acc,[]=>acc
 |acc,b::r=>qY m (if m≤b then cG acc b else acc) r
def IF:Option Blk→List Nat
 |some ⟨_,true,rows⟩=>rows.flatten.flatMap cH
 |_=>[]
def fC (raw:Bool) (h:ak) (m:Nat) (vs:List V):List Nat:=qY m [] (bif raw then (List.range m).flatMap fun b=>IF (h b) else vs.flatMap cH)
def CD:List V→V
 |[v]=>v
 |vs=> .tup vs
def fa (af:aC) (m:Nat) (r:Option (aH×St)):Option (V×List Blk):=
 match r with
 |some (.normal,st)|some (.ret,st)=>match fI st af.results with
  |none=>none
  |some vs=>
   let kp:=if af.keep then fC af.raw st.heap m vs else []
   match lZ st.heap m kp vs,kO st.heap m kp (List.range m++kp) with
   |some vs',some bs=>if m≤1000 then some (CD vs',bs) else none
   |_,_=>none
 |_=>none
def iJ {α:Type}:Nat→List α→List (Nat×α)
 |_,[]=>[]
 |n,x::r=>(n,x)::iJ (n+1) r
def start (args:List V) (blks:List Blk):St:=⟨iJ 0 args,iJ 0 blks⟩
inductive Ih where
 |code (a:aC)
 |ext (g:List V→List Blk→Option (V×List Blk))
abbrev Tab:=FuncId→Option Ih
def EP (af:aC):Option (V×List Blk)→Option (V×List Blk)
 |some (v,bs)=>some (v.czR,if af.raw then bs else bs.map Blk.cz)
 |none=>none
noncomputable def cg (T:Tab) (ow:bK):Nat→aM
 |0=>fun _ _ _=>none
 |n+1=>fun f args blks=>match T f with
  |none=>none
  |some (.code af)=>EP af (fa af blks.length (bj (cg T ow n) ow n af.body (start args blks)))
  |some (.ext g)=>g args blks
end Go.AI
