/- An abstract interpreter for the translated program: values, a local memory of numbered blocks, operations. Definitions alone. -/
import Derived.Calls
import Derived.Orders
namespace Go.AI
inductive V where
 |lit (v:Value)
 |agg (cs:List V)
 |tup (vs:List V)
 |ptr (b i o n:Nat)
 |sl (b s n:Nat)
 |imm (e:Nat) (rows:List (List V))
 |iptr (row:List V) (o:Nat)
 |fn (f:FuncId) (caps:List V)
 |mp (b:Nat)
 |undef
 deriving Inhabited
structure Blk where
 esz:Nat
 op:Bool
 rows:List (List V)
abbrev au:=Nat→Option Blk
def V.cl:V→Bool
 | .lit _| .imm _ _| .iptr _ _=>true
 | .fn _ []=>true
 |_=>false
def ba:Value→Bool
 | .agg _| .tuple _=>false
 |_=>true
def V.cell:V→Bool
 | .lit v=>ba v
 | .ptr .. | .sl .. | .imm .. | .iptr .. | .fn .. | .mp _=>true
 |_=>false
def V.cz:V→V
 | .lit (.slice none 0 0)=> .imm 1 []
 | .imm _ []=> .imm 1 []
 |v=>v
def V.czA:V→V
 | .agg cs=> .agg (cs.map V.cz)
 |v=>v.cz
def V.czR:V→V
 | .tup vs=> .tup (vs.map V.czA)
 |v=>v.czA
def Blk.cz (k:Blk):Blk:=if k.op then { k with rows:=k.rows.map (·.map V.cz) } else k
def zc (v:Value):V:=(V.lit v).cz
def V.cells:V→List V
 | .agg cs=>cs
 |v=>[v]
inductive Opd where
 |t (n:Nat)
 |c (v:Value)
 |f (k:FuncId)
 deriving Inhabited
def Opd.ev (f:Nat→V):Opd→V
 | .t n=>f n
 | .c v=> .lit v
 | .f k=> .fn k []
inductive AOp where
 |mv (x:Opd)
 |pick (c a b:Opd)
 |alloc (zero:List Value)
 |box (size:Nat) (x:Opd)
 |build (zero:List Value) (parts:List (Nat×Nat×Opd))
 |buildTwo (x y:Opd)
 |buildSlice (esz:Nat) (zero:List Value) (len:Nat) (parts:List (Nat×Opd))
 |load (agg:Option Nat) (a:Opd)
 |store (size:Nat) (a x:Opd)
 |nilCheck (x:Opd)
 |bin (op:BinOp) (x y:Opd)
 |eqAgg (neg:Bool) (ks:List Bool) (x y:Opd)
 |beq (neg:Bool) (x y:Opd)
 |un (op:UnOp) (x:Opd)
 |toInt (k:IntKind) (x:Opd)
 |same (x:Opd)
 |toBytes (x:Opd)
 |toStr (x:Opd)
 |makeFunc (f:FuncId) (caps:List Opd)
 |makeSlice (esz bytes:Nat) (zero:List Value) (len cap:Opd)
 |sliceStr (x:Opd) (lo hi:Option Opd)
 |slice (esz:Nat) (x:Opd) (lo hi mx:Option Opd)
 |off (d:Nat) (x:Opd)
 |field (d:Nat) (agg:Option Nat) (x:Opd)
 |idx (esz:Nat) (x i:Opd)
 |idxArr (len esz:Nat) (x i:Opd)
 |ixStr (x i:Opd)
 |ixAgg (len esz:Nat) (agg:Option Nat) (x i:Opd)
 |ext (x:Opd) (i:Nat)
 |len (str:Bool) (x:Opd)
 |lenArr (n:Nat) (x:Opd)
 |isNil (neg:Bool) (x:Opd)
 |append (esz bytes:Nat) (zero:List Value) (x y:Opd)
 |appendN (esz bytes:Nat) (zero:List Value) (x y:Opd)
 |copy (esz:Nat) (x y:Opd)
 |max2 (x y:Opd)
 |min2 (x y:Opd)
 |arrOf (len:Nat) (x:Opd)
 |bytesOwn (x:Opd)
 |mkMap
 |mapGet (m k:Opd)
 |mapSet (m k x:Opd)
 |mapEnt (m k:Opd)
 |mapPut (m i x:Opd)
 |call (f:FuncId) (args:List Opd)
 |dyn (f:Opd) (args:List Opd)
 deriving Inhabited
def Ie:Option Opd→List Opd
 |some x=>[x]
 |none=>[]
def AOp.opds:AOp→List Opd
 | .mv x| .box _ x| .load _ x| .nilCheck x| .un _ x| .toInt _ x| .same x| .toBytes x| .toStr x| .off _ x| .field _ _ x| .ext x _| .len _ x| .lenArr _ x| .isNil _ x| .arrOf _ x| .bytesOwn x=>[x]
 | .pick c a b=>[c,a,b]
 | .alloc _| .mkMap=>[]
 | .mapGet m k| .mapEnt m k=>[m,k]
 | .mapSet m k x| .mapPut m k x=>[m,k,x]
 | .build _ ps=>ps.map (·.2.2)
 | .buildSlice _ _ _ ps=>ps.map (·.2)
 | .store _ a x=>[a,x]
 | .buildTwo x y| .bin _ x y| .beq _ x y| .eqAgg _ _ x y| .makeSlice _ _ _ x y| .idx _ x y| .idxArr _ _ x y| .ixStr x y| .ixAgg _ _ _ x y| .append _ _ _ x y| .appendN _ _ _ x y| .copy _ x y| .max2 x y| .min2 x y=>[x,y]
 | .makeFunc _ cs=>cs
 | .sliceStr x lo hi=>x::(Ie lo++Ie hi)
 | .slice _ x lo hi mx=>x::(Ie lo++(Ie hi++Ie mx))
 | .call _ args=>args
 | .dyn f args=>f::args
def ip:Blk:=⟨0,false,[]⟩
def ma (h:au):V→Option (V×List Nat)
 | .sl b s n=>match h b with
   |some k=>if k.op=false∧0<k.esz∧s+n=k.rows.length then some (.imm k.esz (k.rows.drop s),[b]) else none
   |none=>none
 |v=>if v.cl&&v.cell then some (v,[]) else none
def jZ (h:au):List V→Option (List V×List Nat)
 |[]=>some ([],[])
 |v::r=>match ma h v,jZ h r with
  |some (v',bs),some (r',bs')=>some (v'.cz::r',bs++bs')
  |_,_=>none
abbrev Upd:=List (Nat×Blk)
def fm (bs:List Nat):Upd:=bs.map fun b=>(b,ip)
def aW (h:au) (b:Nat) (k:Blk):au:=fun b'=>if b'=b then some k else h b'
def dz (h:au):Upd→au
 |[]=>h
 | (b,k)::r=>dz (aW h b k) r
def cx (h:au) (esz:Nat):V→Option (List (List V))
 | .sl b s n=>match h b with
   |some k=>if k.op=false∧0<k.esz∧k.esz=esz∧s+n=k.rows.length then some (k.rows.drop s) else none
   |none=>none
 | .imm e rows=>if e=esz then some rows else if rows.isEmpty then some [] else none
 | .lit (.slice none 0 0)=>some []
 | .lit (.slice (some _) 0 _)=>some []
 | .lit (.string s)=>if esz=1 then some (s.data.toList.map fun b=>[.lit (.int .u8 b.toNat)]) else none
 |_=>none
def a1t:V→Bool
 | .lit (.string _)=>true
 |_=>false
def asI:V→Option Int
 | .lit (.int _ n)=>some n
 |_=>none
def bH:Nat:=1099511627776
def dW (op:BinOp):Value→Value→Option Value
 | .int k a,.int k' b=>
   match op with
   | .shl=>if 0≤b then some (.int k (k.wrap (a*2^(min b.toNat k.bits)))) else none
   | .shr=>if 0≤b then some (.int k (a.fdiv (2^(min b.toNat k.bits)))) else none
   | .add=>if k=k' then some (.int k (k.wrap (a+b))) else none
   | .sub=>if k=k' then some (.int k (k.wrap (a-b))) else none
   | .mul=>if k=k' then some (.int k (k.wrap (a*b))) else none
   | .quo=>if k=k'∧b≠0 then some (.int k (k.wrap (a.tdiv b))) else none
   | .rem=>if k=k'∧b≠0 then some (.int k (a.tmod b)) else none
   | .and=>if k=k' then some (.int k (k.wrap (BitVec.ofInt k.bits a&&&BitVec.ofInt k.bits b).toNat)) else none
   | .or=>if k=k' then some (.int k (k.wrap (BitVec.ofInt k.bits a|||BitVec.ofInt k.bits b).toNat)) else none
   | .xor=>if k=k' then some (.int k (k.wrap (BitVec.ofInt k.bits a^^^BitVec.ofInt k.bits b).toNat)) else none
   | .andNot=>if k=k' then some (.int k (k.wrap (BitVec.ofInt k.bits a&&& ~~~ BitVec.ofInt k.bits b).toNat)) else none
   | .eql=>if k=k' then some (.bool (a==b)) else none
   | .neq=>if k=k' then some (.bool (a !=b)) else none
   | .lss=>if k=k' then some (.bool (decide (a<b))) else none
   | .leq=>if k=k' then some (.bool (decide (a≤b))) else none
   | .gtr=>if k=k' then some (.bool (decide (a>b))) else none
   | .geq=>if k=k' then some (.bool (decide (a≥b))) else none
 | .string a,.string b=>
   match op with
   | .add=>if a.size+b.size≤bH then some (.string (a++b)) else none
   | .eql=>some (.bool (a.toList==b.toList))
   | .neq=>some (.bool !(a.toList==b.toList))
   |_=>none
 |_,_=>none
def QR (op:UnOp):Value→Option Value
 | .int k n=>match op with
   | .neg=>some (.int k (k.wrap (0-n)))
   | .xor=>some (.int k (k.wrap (BitVec.ofInt k.bits (if k.signed then-1 else k.max)^^^BitVec.ofInt k.bits n).toNat))
   |_=>none
 | .bool b=>match op with
   | .not=>some (.bool !b)
   |_=>none
 |_=>none
def db:List Bool→List V→List V→Option Bool
 |[],[],[]=>some true
 |true::ks,.lit (.int k a)::x,.lit (.int k' b)::y=>if k=k' then (if a=b then db ks x y else some false) else none
 |false::ks,.lit (.string a)::x,.lit (.string b)::y=>if a=b then db ks x y else some false
 |_,_,_=>none
def bR (o:Option V) (dflt most:Nat):Option Nat:=
 match o with
 |none=>some dflt
 |some v=>match asI v with
  |some i=>if 0≤i∧i≤most then some i.toNat else none
  |none=>none
def Ej (cells:List V):List (Nat×Nat×V)→Option (List V)
 |[]=>some cells
 | (off,size,v)::r=>
   if v.cells.length=size∧off+size≤cells.length∧v.cells.all V.cell then Ej (cells.take off++(v.cells++cells.drop (off+size))) r else none
def NZ (esz:Nat) (rows:List (List V)):List (Nat×V)→Option (List (List V))
 |[]=>some rows
 | (i,v)::r=>if v.cells.length=esz∧i<rows.length∧v.cells.all V.cell then NZ esz (rows.set i v.cells) r else none
def part (agg:Option Nat) (cs:List V) (o:Nat):Option V:=
 match agg with
 |none=>cs[o]?
 |some n=>if o+n≤cs.length then some (.agg ((cs.drop o).take n)) else none
abbrev Tri:=Int×Int×Int
def aC:List Tri→List V
 |[]=>[]
 | (a,b,v)::r=> .lit (.int .i64 a):: .lit (.int .i64 b):: .lit (.int .i64 v)::aC r
def Jp:List V→Option (List Tri)
 |[]=>some []
 | .lit (.int .i64 a):: .lit (.int .i64 b):: .lit (.int .i64 v)::r=>match Jp r with
   |some L=>some ((a,b,v)::L)
   |none=>none
 |_=>none
theorem oa: ∀L:List Tri,Jp (aC L)=some L
 |[]=>rfl
 | (a,b,v)::r=>by simp only [aC,Jp,oa r]
theorem xk: ∀{cs:List V} {L:List Tri},Jp cs=some L→cs=aC L
 |[],L,h=>by simp [Jp] at h;subst h;rfl
 | .lit (.int .i64 a):: .lit (.int .i64 b):: .lit (.int .i64 v)::r,L,h=>by
   simp only [Jp] at h
   split at h
   ·rename_i L' h'
    cases h
    rw [xk h'];rfl
   ·cases h
 |[_],L,h=>by simp [Jp] at h
 |[_,_],L,h=>by simp [Jp] at h
 |x::y::z::r,L,h=>by
  unfold Jp at h
  split at h
  ·rename_i e;cases e
  ·rename_i a b v r' e
   split at h
   ·rename_i L' h'
    cases h
    cases e
    rw [xk h'];rfl
   ·cases h
  ·cases h
def ea (a b:Int):List Tri→Int
 |[]=>0
 | (x,y,v)::r=>if a=x∧b=y then v else ea a b r
def ew (a b v:Int):List Tri→List Tri
 |[]=>[(a,b,v)]
 | (x,y,u)::r=>if a=x∧b=y then (a,b,v)::r else (x,y,u)::ew a b v r
def ur (a b:Int):List Tri→Nat
 |[]=>0
 | (x,y,_)::r=>if a=x∧b=y then 0 else ur a b r+1
def CW (a b:Int) (L:List Tri):List Tri:=if ur a b L<L.length then L else L++[(a,b,0)]
def b2c (i:Nat) (v:Int) (L:List Tri):List Tri:=L.modify i fun t=>(t.1,t.2.1,v)
def mapKey:V→Option (Int×Int)
 | .agg [.lit (.int .i64 a),.lit (.int .i64 b)]=>some (a,b)
 |_=>none
def o9 (h:au):V→Option (Nat×List Tri)
 | .mp b=>match h b with
   |some ⟨0,true,[cs]⟩=>match Jp cs with
    |some L=>some (b,L)
    |none=>none
   |_=>none
 |_=>none
abbrev aY:=FuncId→List V→List Blk→Option (V×List Blk)
def im (b:Nat):List Nat→Nat
 |[]=>0
 |x::r=>if x=b then 0 else im b r+1
def dH (ids:List Nat) (b:Nat):List Nat:=if b∈ids then ids else ids++[b]
def bU (h:au) (own:Bool) (ids:List Nat):V→Option (V×List Nat×List Nat)
 | .lit v=>some (.lit v,ids,[])
 | .imm e r=>some (.imm e r,ids,[])
 | .iptr r o=>some (.iptr r o,ids,[])
 | .undef=>some (.undef,ids,[])
 | .fn f []=>some (.fn f [],ids,[])
 | .ptr b i o n=>match h b with
   |some k=>if k.rows.length=n then some (.ptr (im b (dH ids b)) i o n,dH ids b,[]) else none
   |none=>none
 | .mp b=>match h b with
   |some _=>some (.mp (im b (dH ids b)),dH ids b,[])
   |none=>none
 | .sl b s n=>match h b with
   |some k=>if s+n=k.rows.length then
    (if own then some (.sl (im b (dH ids b)) s n,dH ids b,[]) else if k.op=false∧0<k.esz then some (.imm k.esz (k.rows.drop s),ids,[b]) else none) else none
   |none=>none
 |_=>none
def cL (h:au) (own:Bool):List Nat→List V→Option (List V×List Nat×List Nat)
 |ids,[]=>some ([],ids,[])
 |ids,v::r=>match bU h own ids v with
  |some (v',ids',bs)=>match cL h own ids' r with
   |some (r',ids'',bs')=>some (v'::r',ids'',bs++bs')
   |none=>none
  |none=>none
def cW (h:au) (own:Bool) (ids:List Nat):V→Option (V×List Nat×List Nat)
 | .agg cs=>match cL h own ids cs with
   |some (cs',ids',bs)=>some (.agg cs',ids',bs)
   |none=>none
 | .fn f caps=>match cL h true ids caps with
   |some (cs',ids',bs)=>some (.fn f cs',ids',bs)
   |none=>none
 |v=>bU h own ids v
def gx (h:au) (owns:List Nat):Nat→List Nat→List V→Option (List V×List Nat×List Nat)
 |_,ids,[]=>some ([],ids,[])
 |j,ids,v::r=>match cW h (j∈owns) ids v with
  |some (v',ids',bs)=>match gx h owns (j+1) ids' r with
   |some (r',ids'',bs')=>some (v'::r',ids'',bs++bs')
   |none=>none
  |none=>none
def od (h:au):List Nat→List V→Option (List V×List Nat)
 |ids,[]=>some ([],ids)
 |ids,v::r=>match cW h true ids v with
  |some (v',ids',_)=>match od h ids' r with
   |some (r',ids'')=>some (v'::r',ids'')
   |none=>none
  |none=>none
def lK (h:au):List Nat→List (List V)→Option (List (List V)×List Nat)
 |ids,[]=>some ([],ids)
 |ids,x::r=>match od h ids x with
  |some (x',ids')=>match lK h ids' r with
   |some (r',ids'')=>some (x'::r',ids'')
   |none=>none
  |none=>none
def dq (h:au):Nat→Nat→List Nat→Option (List Blk×List Nat)
 |0,_,_=>none
 |fuel+1,pos,ids=>match ids[pos]? with
  |none=>some ([],ids)
  |some b=>match h b with
   |none=>none
   |some k=>
    if k.op=false then match dq h fuel (pos+1) ids with
     |some (r,ids')=>some (k::r,ids')
     |none=>none
    else match lK h ids k.rows with
     |none=>none
     |some (rows,ids1)=>match dq h fuel (pos+1) ids1 with
      |some (r,ids2)=>some ({ k with rows:=rows }::r,ids2)
      |none=>none
def unV (ids:List Nat):V→V
 | .ptr b i o n=> .ptr (ids.getD b 0) i o n
 | .sl b s n=> .sl (ids.getD b 0) s n
 | .mp b=> .mp (ids.getD b 0)
 |v=>v
def jE (ids:List Nat):V→V
 | .agg cs=> .agg (cs.map (unV ids))
 | .fn f cs=> .fn f (cs.map (unV ids))
 |v=>unV ids v
def yg (ids:List Nat):V→V
 | .tup vs=> .tup (vs.map (jE ids))
 |v=>jE ids v
def hQ (ids:List Nat) (k:Blk):Blk:=if k.op=false then k else { k with rows:=k.rows.map (·.map (jE ids)) }
def mT:V→Bool
 | .lit _| .ptr .. | .sl .. | .mp _| .undef=>true
 |_=>false
def B0:V→Bool
 | .agg cs=>cs.all mT
 |v=>mT v
def pz:V→Bool
 | .tup vs=>vs.all B0
 |v=>B0 v
def oj (fl:Bool) (k:Blk):Bool:=(fl||k.op)&&k.rows.all (·.all mT)
def kU:List Nat→List Blk→Upd
 |i::r,k::s=>(i,k)::kU r s
 |_,_=>[]
def cV (owns:FuncId→List Nat) (h:au) (f:FuncId) (args:List V):Option (List V×List Blk×List Nat×List Nat):=
 match gx h (owns f) 0 [] args with
 |none=>none
 |some (args',ids0,bor)=>match dq h 40 0 ids0 with
  |none=>none
  |some (blks,ids)=>if bor.any (fun b=>decide (b∈ids))=true then none else some (args',blks,ids,bor)
def dD:List Nat→List Blk→Nat→List Nat
 |[],[],_=>[]
 |[],_::r,n=>n::dD [] r (n+1000000)
 |_::i,_::r,n=>dD i r n
 |_::_,[],_=>[]
theorem wD: ∀{ids:List Nat} {bs:List Blk} {n:Nat},ids.length≤bs.length→(dD ids bs n).length+ids.length=bs.length
 |[],[],n,_=>rfl
 |[],_::r,n,_=>by simp only [dD,List.length_cons];have:= @wD [] r (n+1000000) (by simp);simpa using this
 |_::i,_::r,n,h=>by simp only [dD,List.length_cons];have:= @wD i r n (by simpa using h);omega
 |_::_,[],n,h=>by simp at h
theorem Fj: ∀(ids:List Nat) (bs:List Blk) (n:Nat), ∀b∈dD ids bs n,n≤b
 |[],[],n,b,h=>by simp [dD] at h
 |[],_::r,n,b,h=>by
  simp only [dD,List.mem_cons] at h
  rcases h with h|h
  ·omega
  ·have:=Fj [] r (n+1000000) b h;omega
 |_::i,_::r,n,b,h=>Fj i r n b h
 |_::_,[],n,b,h=>by simp [dD] at h
theorem Fx: ∀(ids:List Nat) (bs:List Blk) (n:Nat),(dD ids bs n).Nodup
 |[],[],n=>List.nodup_nil
 |[],_::r,n=>by
  simp only [dD,List.nodup_cons]
  exact ⟨fun h=>by have:=Fj [] r (n+1000000) n h;omega,Fx [] r _⟩
 |_::i,_::r,n=>Fx i r n
 |_::_,[],n=>List.nodup_nil
def wa (fl:Bool) (h:au) (new:Nat) (ids bor:List Nat) (r:V) (blks':List Blk):Option (V×Upd):=
 if ids.length≤blks'.length∧(dD ids blks' new).all (fun b=>(h b).isNone)=true then
  some (yg (ids++dD ids blks' new) r,kU (ids++dD ids blks' new) (blks'.map (hQ (ids++dD ids blks' new)))++(if (bor.isEmpty||(pz r&&blks'.all (oj fl)))=true then [] else fm bor))
 else none
open Classical in
noncomputable def roU (h:au):Upd→Option Upd
 |[]=>some []
 | (b,k)::r=>match h b with
   |none=>(roU h r).map ((b,k):: ·)
   |some k'=>if k'=k then roU h r else none
noncomputable def roW (ro:Bool) (h:au):Option (V×Upd)→Option (V×Upd)
 |none=>none
 |some (v,u)=>if ro=true then (match roU h u with
  |some u'=>some (v,u')
  |none=>none) else some (v,u)
theorem OY {h:au}: ∀{u u':Upd} {g:au},(∀c k,h c=some k→g c=some k)→roU h u=some u'→dz g u'=dz g u
 |[],u',g,hg,hs=>by cases hs;rfl
 | (b,k)::r,u',g,hg,hs=>by
   simp only [roU] at hs
   cases hb:h b with
   |none=>
    rw [hb] at hs;dsimp only at hs
    cases hr:roU h r with
    |none=>rw [hr] at hs;cases hs
    |some r'=>
     rw [hr] at hs;cases hs
     exact OY (g:=aW g b k) (fun c k' hc=>by
      have:c≠b:=fun e=>by rw [e,hb] at hc;cases hc
      unfold aW;rw [if_neg this];exact hg c k' hc) hr
   |some k'=>
    rw [hb] at hs;dsimp only at hs
    split at hs
    ·rename_i he
     subst he
     have:aW g b k'=g:=by
      funext c;unfold aW;split
      ·rename_i hc;rw [hc,hg b k' hb]
      ·rfl
     show dz g u'=dz (aW g b k') r
     rw [this]
     exact OY hg hs
    ·cases hs
theorem a1Z {ro:Bool} {h:au} {x:Option (V×Upd)} {v:V} {u:Upd} (hs:roW ro h x=some (v,u)): ∃u0,x=some (v,u0)∧dz h u=dz h u0∧(ro=true→roU h u0=some u)∧(ro=false→u=u0):=by
 unfold roW at hs
 split at hs
 ·cases hs
 ·rename_i v0 u0
  split at hs
  ·rename_i hr
   split at hs
   ·rename_i u1 h1
    cases hs
    exact ⟨u0,rfl,OY (fun _ _ h=>h) h1,fun _=>h1,fun h=>by rw [hr] at h;cases h⟩
   ·cases hs
  ·rename_i hr
   cases hs
   exact ⟨_,rfl,rfl,fun h=>absurd h hr,fun _=>rfl⟩
def ra (owns:List Nat) (args:List V):List V:=if owns.contains 1000 then args else args.map V.czA
def qZ (owns:List Nat) (blks:List Blk):List Blk:=if owns.contains 1000 then blks else blks.map Blk.cz
noncomputable def kx (C:aY) (owns:FuncId→List Nat) (h:au) (new:Nat) (f:FuncId) (args:List V):Option (V×Upd):=
 match cV owns h f args with
 |none=>none
 |some (args',blks,ids,bor)=>match C f (ra (owns f) args') (qZ (owns f) blks) with
  |none=>none
  |some (r,blks')=>roW ((owns f).contains 3000) h (wa ((owns f).contains 2000) h new ids bor r blks')
def vZ (agg:Option Nat) (h:au) (a:V):Option V:=
 match a with
 | .ptr b i o n=>match h b with
   |some k=>if k.rows.length=n then (match k.rows[i]? with
    |some row=>part agg row o
    |none=>none) else none
   |none=>none
 | .iptr row o=>part agg row o
 |_=>none
def jH (h:au) (n:Nat) (k:Blk) (v:V):Option (V×Upd):=if (h n).isNone=true∧0<k.esz then some (v,[(n,k)]) else none
def fa (ev:Opd→V):List (Nat×Nat×Opd)→List (Nat×Nat×V)
 |[]=>[]
 | (a,b,x)::r=>(a,b,ev x)::fa ev r
def cG (h:au) (ev:Opd→V):List (Nat×Opd)→Option (List (Nat×V)×List Nat)
 |[]=>some ([],[])
 | (i,x)::r=>match jZ h (ev x).cells,cG h ev r with
   |some (cs,bs),some (r',bs')=>some ((i,.agg cs)::r',bs++bs')
   |_,_=>none
def FV (esz bytes:Nat) (zero:List Value) (x:V) (sb:Nat→Bool) (h:au) (new:Nat) (new_:List (List V)):Option (V×Upd):=
 if zero.length=esz∧0<esz∧new_.length*bytes≤bH∧new_.length*esz≤bH then
 (match x with
 | .sl b 0 n=>match h b with
   |some k=>if k.op=false∧0<k.esz∧k.esz=esz∧n=k.rows.length∧(n+new_.length)*bytes≤bH∧(n+new_.length)*esz≤bH∧sb b then
    some (.sl b 0 (n+new_.length),[(b,{ k with rows:=k.rows++new_ })]) else none
   |none=>none
 | .lit (.slice none 0 0)=>jH h new ⟨esz,false,new_⟩ (.sl new 0 new_.length)
 | .imm 0 []=>jH h new ⟨esz,false,new_⟩ (.sl new 0 new_.length)
 |_=>none) else none
noncomputable def aj (C:aY) (owns:FuncId→List Nat) (o:AOp) (ev:Opd→V) (h:au) (new:Nat):Option (V×Upd):=
 match o with
 | .mv x=>some (ev x,[])
 | .pick c a b=>match ev c with
   | .lit (.bool true)=>some (ev a,[])
   | .lit (.bool false)=>some (ev b,[])
   |_=>none
 | .alloc zero=>if zero.all ba then jH h new ⟨zero.length,true,[zero.map .lit]⟩ (.ptr new 0 0 1) else none
 | .box size x=>if (ev x).cells.length=size∧(ev x).cells.all V.cell then jH h new ⟨size,true,[(ev x).cells]⟩ (.ptr new 0 0 1) else none
 | .build zero parts=>if zero.all ba then (match Ej (zero.map .lit) (fa ev parts) with
   |some cs=>some (.agg cs,[])
   |none=>none) else none
 | .buildTwo x y=>if (ev x).cell=true∧(ev y).cell=true then jH h new ⟨1,true,[[ev x],[ev y]]⟩ (.sl new 0 2) else none
 | .buildSlice esz zero len parts=>match cG h ev parts with
   |some (ps,bs)=>match NZ esz (List.replicate len (zero.map zc)) ps with
    |some rows=>if zero.length=esz∧zero.all ba∧len*esz≤16777216∧ ¬new∈bs then
     (match jH h new ⟨esz,false,rows⟩ (.sl new 0 len) with
      |some (v,u)=>some (v,fm bs++u)
      |none=>none) else none
    |none=>none
   |none=>none
 | .load agg a=>match vZ agg h (ev a) with
   |some v=>some (v,[])
   |none=>none
 | .store size a x=>match ev a with
   | .ptr b i o n=>match h b with
     |some k=>if k.rows.length=n then (match k.rows[i]? with
      |some row=>
       if k.op then
        (if (ev x).cells.length=size∧o+size≤row.length∧(ev x).cells.all V.cell then
         some (.undef,[(b,{ k with rows:=k.rows.set i (row.take o++((ev x).cells++row.drop (o+size))) })]) else none)
       else match jZ h (ev x).cells with
        |some (cs,bs)=>if cs.length=size∧o+size≤row.length∧ ¬b∈bs then
         some (.undef,fm bs++[(b,{ k with rows:=k.rows.set i (row.take o++(cs++row.drop (o+size))) })]) else none
        |none=>none
      |none=>none) else none
     |none=>none
   |_=>none
 | .nilCheck x=>match ev x with
   | .ptr b i o n=>match h b with
     |some k=>if k.rows.length=n∧i<n then some (.ptr b i o n,[]) else none
     |none=>none
   | .iptr r o=>some (.iptr r o,[])
   | .fn f c=>some (.fn f c,[])
   |_=>none
 | .bin op x y=>match ev x,ev y with
   | .lit a,.lit b=>match dW op a b with
     |some v=>some (.lit v,[])
     |none=>none
   |_,_=>none
 | .eqAgg neg ks x y=>match ev x,ev y with
   | .agg a,.agg b=>match db ks a b with
     |some r=>some (.lit (.bool (if neg then !r else r)),[])
     |none=>none
   |_,_=>none
 | .beq neg x y=>match ev x,ev y with
   | .lit (.bool a),.lit (.bool b)=>some (.lit (.bool (if neg then a !=b else a==b)),[])
   |_,_=>none
 | .un op x=>match ev x with
   | .lit a=>match QR op a with
     |some v=>some (.lit v,[])
     |none=>none
   |_=>none
 | .toInt k x=>match asI (ev x) with
   |some n=>some (.lit (.int k (k.wrap n)),[])
   |none=>none
 | .same x=>match ev x with
   | .lit (.string s)=>some (.lit (.string s),[])
   |_=>none
 | .toBytes x=>match ev x with
   | .lit (.string s)=>if s.size≤bH then jH h new ⟨1,false,s.data.toList.map fun b=>[.lit (.int .u8 b.toNat)]⟩ (.sl new 0 s.size) else none
   |_=>none
 | .toStr x=>if a1t (ev x) then none else match cx h 1 (ev x) with
   |some rows=>match bytesOf rows with
    |some l=>some (.lit (.string ⟨l.toArray⟩),[])
    |none=>none
   |none=>none
 | .makeFunc f caps=>some (.fn f (caps.map ev),[])
 | .makeSlice esz bytes zero len cap=>match asI (ev len),asI (ev cap) with
   |some l,some c=>if 0≤l∧l≤c∧c*bytes≤bH∧c*esz≤bH∧zero.length=esz∧zero.all ba then
    jH h new ⟨esz,false,List.replicate l.toNat (zero.map zc)⟩ (.sl new 0 l.toNat) else none
   |_,_=>none
 | .sliceStr x lo hi=>match ev x with
   | .lit (.string s)=>match bR (hi.map ev) s.size s.size with
     |some b=>match bR (lo.map ev) 0 b with
      |some a=>some (.lit (.string (s.extract a b)),[])
      |none=>none
     |none=>none
   |_=>none
 | .slice esz x lo hi mx=>match mx with
   |some _=>none
   |none=>match ev x with
   | .lit (.slice none 0 0)=>match bR (hi.map ev) 0 0 with
     |some q=>match bR (lo.map ev) 0 q with
      |some _=>some (.lit (.slice none 0 0),[])
      |none=>none
     |none=>none
   | .sl b s n=>match h b with
     |some k=>if k.op=false∧0<k.esz∧k.esz=esz∧s+n=k.rows.length then (match bR (hi.map ev) n n with
      |some q=>match bR (lo.map ev) 0 q with
       |some p=>if q=n then some (.sl b (s+p) (n-p),[]) else some ((V.imm esz (((k.rows.drop s).take q).drop p)).cz,[(b,ip)])
       |none=>none
      |none=>none) else none
     |none=>none
   | .imm e rows=>if e=esz∨rows=[] then (match bR (hi.map ev) rows.length rows.length with
    |some q=>match bR (lo.map ev) 0 q with
     |some p=>some ((V.imm e ((rows.take q).drop p)).cz,[])
     |none=>none
    |none=>none) else none
   |_=>none
 | .off d x=>match ev x with
   | .ptr b i o n=>some (.ptr b i (o+d) n,[])
   | .iptr r o=>some (.iptr r (o+d),[])
   |_=>none
 | .field d agg x=>match ev x with
   | .agg cs=>match part agg cs d with
     |some v=>some (v,[])
     |none=>none
   |_=>none
 | .idx esz x i=>match asI (ev i) with
   |some i=>if 0≤i then (match ev x with
    | .sl b s n=>match h b with
      |some k=>if 0<k.esz∧k.esz=esz∧s+n=k.rows.length∧i.toNat<n then some (.ptr b (s+i.toNat) 0 k.rows.length,[]) else none
      |none=>none
    | .imm e rows=>if e=esz then (match rows[i.toNat]? with
      |some row=>some (.iptr row 0,[])
      |none=>none) else none
    |_=>none) else none
   |none=>none
 | .idxArr len esz x i=>match asI (ev i) with
   |some i=>if 0≤i∧i.toNat<len then (match ev x with
    | .ptr b j o n=>some (.ptr b j (o+i.toNat*esz) n,[])
    | .iptr r o=>some (.iptr r (o+i.toNat*esz),[])
    |_=>none) else none
   |none=>none
 | .ixStr x i=>match ev x,asI (ev i) with
   | .lit (.string s),some i=>if 0≤i then (match s.data[i.toNat]? with
     |some b=>some (.lit (.int .u8 b.toNat),[])
     |none=>none) else none
   |_,_=>none
 | .ixAgg len esz agg x i=>match ev x,asI (ev i) with
   | .agg cs,some i=>if 0≤i∧i.toNat<len then (match part agg cs (i.toNat*esz) with
     |some v=>some (v,[])
     |none=>none) else none
   |_,_=>none
 | .ext x i=>match ev x with
   | .tup vs=>match vs[i]? with
     |some v=>some (v,[])
     |none=>none
   |_=>none
 | .len str x=>match str,ev x with
   |true,.lit (.string s)=>some (.lit (.int .i64 s.size),[])
   |false,.lit (.slice _ n _)=>some (.lit (.int .i64 n),[])
   |false,.sl _ _ n=>some (.lit (.int .i64 n),[])
   |false,.imm _ rows=>some (.lit (.int .i64 rows.length),[])
   |_,_=>none
 | .lenArr n _=>some (.lit (.int .i64 n),[])
 | .isNil neg x=>match ev x with
   | .lit (.slice a _ _)=>some (.lit (.bool (if neg then !a.isNone else a.isNone)),[])
   | .imm _ (_::_)=>some (.lit (.bool neg),[])
   |_=>none
 | .append esz bytes zero x y=>match cx h esz (ev y) with
   |none=>none
   |some new_=>
    if zero.length=esz∧0<esz∧new_.length*bytes≤bH∧new_.length*esz≤bH then
    (match ev x with
    | .sl b 0 n=>match h b with
      |some k=>if k.op=false∧0<k.esz∧k.esz=esz∧n=k.rows.length∧(n+new_.length)*bytes≤bH∧(n+new_.length)*esz≤bH∧selfOk b (ev y) then
       some (.sl b 0 (n+new_.length),[(b,{ k with rows:=k.rows++new_ })]) else none
      |none=>none
    | .lit (.slice none 0 0)=>jH h new ⟨esz,false,new_⟩ (.sl new 0 new_.length)
    | .imm 0 []=>jH h new ⟨esz,false,new_⟩ (.sl new 0 new_.length)
    |_=>none) else none
 | .appendN esz bytes zero x y=>match asI (ev y) with
   |some l=>if 0≤l∧l≤1099511627776∧l*bytes≤1099511627776∧zero.all ba then FV esz bytes zero (ev x) (fun _=>true) h new (List.replicate l.toNat (zero.map zc)) else none
   |none=>none
 | .copy esz x y=>match cx h esz (ev y),ev x with
   |some rows,.sl b s n=>match h b with
    |some k=>if k.op=false∧0<k.esz∧k.esz=esz∧s+n=k.rows.length∧selfOk b (ev y) then
     some (.lit (.int .i64 (min rows.length n)),[(b,{ k with rows:=k.rows.take s++(rows.take (min rows.length n)++k.rows.drop (s+min rows.length n)) })]) else none
    |none=>none
   |_,_=>none
 | .max2 x y=>match ev x,ev y with
   | .lit (.int k a),.lit (.int _ b)=>some (.lit (.int k (if b>a then b else a)),[])
   |_,_=>none
 | .min2 x y=>match ev x,ev y with
   | .lit (.int k a),.lit (.int _ b)=>some (.lit (.int k (if b<a then b else a)),[])
   |_,_=>none
 | .arrOf len x=>match ma h (ev x) with
   |some (.imm _ rows,bs)=>if 0<len∧len≤rows.length then some (.iptr rows.flatten 0,fm bs) else none
   |_=>none
 | .bytesOwn x=>match ev x with
   | .sl b s n=>match h b with
     |some k=>if k.op=false∧0<k.esz∧s+n=k.rows.length∧0<n then some (.sl b s n,[(b,k)]) else none
     |none=>none
   |_=>none
 | .mkMap=>if (h new).isNone=true then some (.mp new,[(new,⟨0,true,[[]]⟩)]) else none
 | .mapGet m k=>match o9 h (ev m),mapKey (ev k) with
   |some (_,L),some (a,b)=>some (.lit (.int .i64 (ea a b L)),[])
   |_,_=>none
 | .mapEnt m k=>match o9 h (ev m),mapKey (ev k) with
   |some (p,L),some (a,b)=>some (.tup [.lit (.int .i64 (ea a b L)),.lit (.int .i64 (ur a b L))],[(p,⟨0,true,[aC (CW a b L)]⟩)])
   |_,_=>none
 | .mapPut m i x=>match o9 h (ev m),ev i,ev x with
   |some (p,L),.lit (.int .i64 i),.lit (.int .i64 v)=>if 0≤i∧i<L.length then some (.undef,[(p,⟨0,true,[aC (b2c i.toNat v L)]⟩)]) else none
   |_,_,_=>none
 | .mapSet m k x=>match o9 h (ev m),mapKey (ev k),ev x with
   |some (p,L),some (a,b),.lit (.int .i64 v)=>some (.undef,[(p,⟨0,true,[aC (ew a b v L)]⟩)])
   |_,_,_=>none
 | .call f args=>kx C owns h new f (args.map ev)
 | .dyn f args=>match ev f with
   | .fn k caps=>kx C owns h new k (args.map ev++caps)
   |_=>none
where
 bytesOf:List (List V)→Option (List UInt8)
  |[]=>some []
  |[.lit (.int .u8 n)]::r=>if 0≤n∧n<256 then (match bytesOf r with
   |some l=>some (UInt8.ofNat n.toNat::l)
   |none=>none) else none
  |_=>none
 selfOk (b:Nat):V→Bool
  | .sl b' _ _=>b !=b'
  |_=>true
end Go.AI
namespace Go.AI
def cj {α:Type}:List (Nat×α)→Nat→Option α
 |[],_=>none
 | (k,v)::r,t=>if k=t then some v else cj r t
def fx {α:Type} (k:Nat) (v:α):List (Nat×α)→List (Nat×α)
 |[]=>[(k,v)]
 | (j,u)::r=>if j=k then (j,v)::r else (j,u)::fx k v r
structure St where
 e:List (Nat×V)
 m:List (Nat×Blk)
def St.get (s:St) (t:Nat):V:=(cj s.e t).getD .undef
def St.heap (s:St):au:=cj s.m
def St.ev (s:St):Opd→V:=Opd.ev s.get
def St.put (s:St) (d:Option Nat) (v:V):St:=match d with
 |some d=>{ s with e:=(d,v)::s.e }
 |none=>s
def Xb (m:List (Nat×Blk)):Upd→List (Nat×Blk)
 |[]=>m
 | (b,k)::r=>Xb (fx b k m) r
def St.upd (s:St) (u:Upd):St:={ s with m:=Xb s.m u }
structure bf where
 dst:Option Nat
 op:AOp
 guard:Option (Nat×Bool)
 deriving Inhabited
def St.want (s:St):Option (Nat×Bool)→Option Bool
 |none=>some true
 |some (t,b)=>match s.get t with
  | .lit (.bool c)=>some (c==b)
  | .lit (.tuple _)=>some false
  |_=>none
abbrev cy:=FuncId→List Nat
noncomputable def zg (C:aY) (ow:cy) (st:St) (s:bf) (n:Nat):Option St:=
 match st.want s.guard with
 |none=>none
 |some false=>some (st.put s.dst (.lit (.tuple #[])))
 |some true=>match aj C ow s.op st.ev st.heap n with
  |some (v,u)=>some ((st.upd u).put s.dst v)
  |none=>none
noncomputable def g8 (C:aY) (ow:cy):List bf→Nat→St→Option St
 |[],_,st=>some st
 |s::r,n,st=>match zg C ow st s n with
  |some st'=>g8 C ow r (n+1) st'
  |none=>none
structure Rec where
 i:Nat
 fp:List Nat
 wr:List Nat
def oF:V→List Nat
 | .ptr b _ _ _=>[b]
 | .sl b _ _=>[b]
 | .mp b=>[b]
 |_=>[]
def dG:V→List Nat
 | .agg cs=>cs.flatMap oF
 | .fn _ cs=>cs.flatMap oF
 | .tup vs=>vs.flatMap fun| .agg cs=>cs.flatMap oF|v=>oF v
 |v=>oF v
def Jd (ow:cy) (h:au) (f:FuncId) (args:List V):List Nat:=
 match cV ow h f args with
 |none=>[]
 |some (_,_,ids,bor)=>ids++bor
def ec (ow:cy) (o:AOp) (ev:Opd→V) (h:au):List Nat:=
 match o with
 | .call f args=>Jd ow h f (args.map ev)
 | .dyn f args=>match ev f with
   | .fn k caps=>Jd ow h k (args.map ev++caps)
   |_=>[]
 | .mv _| .ext _ _| .off _ _| .len _ _| .makeFunc _ _=>[]
 |o=>(o.opds.map ev).flatMap dG
def oM (h:au) (fp:List Nat):au:=fun b=>if b∈fp then h b else none
noncomputable def vf (C:aY) (ow:cy) (st:St) (s:bf) (i n:Nat):Option (St×Rec):=
 match st.want s.guard with
 |none=>none
 |some false=>some (st.put s.dst (.lit (.tuple #[])),⟨i,[],[]⟩)
 |some true=>match aj C ow s.op st.ev (oM st.heap (ec ow s.op st.ev st.heap)) n with
  |some (v,u)=>
   if (u.map (·.1)).all (fun b=>decide (b∈ec ow s.op st.ev st.heap)||(st.heap b).isNone) then
    some ((st.upd u).put s.dst v,⟨i,ec ow s.op st.ev st.heap,u.map (·.1)⟩) else none
  |none=>none
noncomputable def gj (C:aY) (ow:cy) (base:Nat):List bf→Nat→St→Option (St×List Rec)
 |[],_,st=>some (st,[])
 |s::r,i,st=>match vf C ow st s i (base+i) with
  |some (st',rc)=>match gj C ow base r (i+1) st' with
   |some (st'',rs)=>some (st'',rc::rs)
   |none=>none
  |none=>none
def R1 (p q:Rec):Bool:=p.wr.any (fun b=>b∈q.fp||b∈q.wr)||q.wr.any (· ∈p.fp)
def CA (deps:List (List Nat)) (p:Rec):List Rec→Bool
 |[]=>true
 |q::r=>(p.wr.isEmpty&&q.wr.isEmpty||(deps.getD q.i []).contains p.i|| !R1 p q)&&CA deps p r
def nf (deps:List (List Nat)):List Rec→Bool
 |[]=>true
 |p::r=>CA deps p r&&nf deps r
def Rec.loud (r:Rec):Bool:= !(r.fp.isEmpty&&r.wr.isEmpty)
inductive cY where
 |close (bs:List Nat)
 |nilCell (b o new esz:Nat)
 |nilTmp (t new esz:Nat)
 |both (a b:cY)
 |drop (ts:List Nat)
 deriving Inhabited
inductive aq where
 |skip
 |region (base:Nat) (steps:List bf) (live:List Nat)
 |drawn (base:Nat) (steps:List bf) (deps:List (List Nat)) (live:List Nat)
 |seq (a b:aq)
 |cond (c:Opd) (a b:aq)
 |block (id:Nat) (c:aq)
 |loop (c:aq)
 |exit (id:Nat)
 |ret
 |ghost (g:cY) (c:aq)
 deriving Inhabited
inductive aw where
 |normal
 |exit (id:Nat)
 |ret
 deriving DecidableEq,Inhabited
def okC:V→Bool
 | .lit _| .imm _ _| .iptr _ _| .ptr .. | .sl .. | .mp _| .undef=>true
 | .fn _ []=>true
 |_=>false
def fzC (h:au) (bs:List Nat):V→V
 | .sl b s n=>if b∈bs then (match ma h (.sl b s n) with
   |some (v,_)=>v.cz
   |none=> .undef) else .sl b s n
 | .ptr b i o n=>if b∈bs then .undef else .ptr b i o n
 | .mp b=>if b∈bs then .undef else .mp b
 | .fn f cs=>if (cs.all okC&& !(cs.flatMap oF).any (fun b=>decide (b∈bs)))=true then .fn f cs else .undef
 |v=>v
def fzA (h:au) (bs:List Nat):V→V
 | .agg cs=>if (cs.map (fzC h bs)).all V.cell then .agg (cs.map (fzC h bs)) else .undef
 | .tup _=> .undef
 |v=>fzC h bs v
def fzM (h:au) (bs:List Nat):List (Nat×Blk)→List (Nat×Blk)
 |[]=>[]
 | (b,k)::r=>if b∈bs then fzM h bs r else (b,if k.op then (if (k.rows.map (·.map (fzC h bs))).all (·.all V.cell) then { k with rows:=k.rows.map (·.map (fzC h bs)) } else ip) else k)::fzM h bs r
def OT (g:V→V):List (Nat×V)→List (Nat×V)
 |[]=>[]
 | (t,v)::r=>(t,g v)::OT g r
def NC (ts:List Nat):List (Nat×V)→List (Nat×V)
 |[]=>[]
 | (t,v)::r=>(t,if t∈ts then .undef else v)::NC ts r
def bG:St→cY→Option St
 |st,.close bs=>if bs.all (fun b=>decide (1000≤b))=true then some { e:=OT (fzA st.heap bs) st.e,m:=fzM st.heap bs st.m } else none
 |st,.nilCell b o new esz=>match st.heap b with
  |some k=>if k.op then (match k.rows with
   |[row]=>(match row[o]? with
    |some (.lit (.slice none 0 0))=>if (st.heap new).isNone∧0<esz then some { st with m:=fx new ⟨esz,false,[]⟩ (fx b { k with rows:=[row.set o (.sl new 0 0)] } st.m) } else some st
    |_=>some st)
   |_=>some st) else some st
  |none=>some st
 |st,.nilTmp t new esz=>match st.get t with
  | .lit (.slice none 0 0)=>if (st.heap new).isNone∧0<esz then some { e:=fx t (.sl new 0 0) st.e,m:=fx new ⟨esz,false,[]⟩ st.m } else some st
  |_=>some st
 |st,.both a b=>match bG st a with
  |some st1=>bG st1 b
  |none=>none
 |st,.drop ts=>some { st with e:=NC ts st.e }
def trim (live:List Nat) (st:St):St:={ st with e:=live.map fun t=>(t,st.get t) }
noncomputable def oO (C:aY) (ow:cy) (base:Nat) (steps:List bf) (live:List Nat) (st:St):Option (aw×St):=
 match g8 C ow steps base st with
 |some st'=>some (.normal,trim live st')
 |none=>none
noncomputable def xK (C:aY) (ow:cy) (base:Nat) (steps:List bf) (deps:List (List Nat)) (live:List Nat) (st:St):Option (aw×St):=
 match gj C ow base steps 0 st with
 |some (st',rs)=>if nf deps (rs.filter Rec.loud) then some (.normal,trim live st') else none
 |none=>none
noncomputable def bL (C:aY) (ow:cy):Nat→aq→St→Option (aw×St)
 |0,_,_=>none
 |n+1,c,st=>match c with
  | .skip=>some (.normal,st)
  | .region base steps live=>oO C ow base steps live st
  | .drawn base steps deps live=>xK C ow base steps deps live st
  | .seq a b=>match bL C ow n a st with
    |some (.normal,st')=>bL C ow n b st'
    |r=>r
  | .cond c a b=>match st.ev c with
    | .lit (.bool true)=>bL C ow n a st
    | .lit (.bool false)=>bL C ow n b st
    |_=>none
  | .block id c=>match bL C ow n c st with
    |some (.exit id',st')=>if id'=id then some (.normal,st') else some (.exit id',st')
    |r=>r
  | .loop c=>match bL C ow n c st with
    |some (.normal,st')=>bL C ow n (.loop c) st'
    |r=>r
  | .exit id=>some (.exit id,st)
  | .ret=>some (.ret,st)
  | .ghost g c=>match bG st g with
    |some st'=>bL C ow n c st'
    |none=>none
inductive H5 where
 |tmp (t:Nat)
 |cell (t:Nat) (agg:Option Nat)
 deriving Inhabited
structure al where
 ntmps:Nat
 body:aq
 results:List H5
 keep:Bool
 raw:Bool
 deriving Inhabited
def ER (st:St):H5→Option V
 | .tmp t=>some (st.get t)
 | .cell t agg=>vZ agg st.heap (st.get t)
def jt (st:St):List H5→Option (List V)
 |[]=>some []
 |r::rs=>match ER st r,jt st rs with
  |some v,some vs=>some (v::vs)
  |_,_=>none
def mL (h:au) (m:Nat) (kp:List Nat):V→Option V
 | .sl b s n=>if b<m then some (.sl b s n) else if b∈kp then some (.sl (m+im b kp) s n) else (match ma h (.sl b s n) with
   |some (v,_)=>some v
   |none=>none)
 | .ptr b i o n=>if b<m then some (.ptr b i o n) else if b∈kp then some (.ptr (m+im b kp) i o n) else none
 | .mp b=>if b<m then some (.mp b) else if b∈kp then some (.mp (m+im b kp)) else none
 | .fn f []=>some (.fn f [])
 | .lit v=>some (.lit v)
 | .imm e r=>some (.imm e r)
 | .iptr r o=>some (.iptr r o)
 | .undef=>some .undef
 |_=>none
def tV (h:au) (m:Nat) (kp:List Nat):List V→Option (List V)
 |[]=>some []
 |v::r=>match mL h m kp v,tV h m kp r with
  |some v',some r'=>some (v'::r')
  |_,_=>none
def Br (h:au) (m:Nat) (kp:List Nat):V→Option V
 | .agg cs=>match tV h m kp cs with
   |some cs'=>some (.agg cs')
   |none=>none
 | .tup _=>none
 |v=>mL h m kp v
def tD (h:au) (m:Nat) (kp:List Nat):List V→Option (List V)
 |[]=>some []
 |v::r=>match Br h m kp v,tD h m kp r with
  |some v',some r'=>some (v'::r')
  |_,_=>none
def DI (h:au) (m:Nat) (kp:List Nat):V→Option V
 | .fn f (c::cs)=>match tV h m kp (c::cs) with
   |some cs'=>some (.fn f cs')
   |none=>none
 |v=>mL h m kp v
def wI (h:au) (m:Nat) (kp:List Nat):List V→Option (List V)
 |[]=>some []
 |v::r=>match DI h m kp v,wI h m kp r with
  |some v',some r'=>some (v'::r')
  |_,_=>none
def rg (h:au) (m:Nat) (kp:List Nat):List (List V)→Option (List (List V))
 |[]=>some []
 |v::r=>match wI h m kp v,rg h m kp r with
  |some v',some r'=>some (v'::r')
  |_,_=>none
def Pa (h:au) (m:Nat) (kp:List Nat) (k:Blk):Option Blk:=
 if k.op=false then some k else match rg h m kp k.rows with
  |some rows=>some { k with rows }
  |none=>none
def sM (h:au) (m:Nat) (kp:List Nat):List Nat→Option (List Blk)
 |[]=>some []
 |b::r=>match h b with
  |some k=>match Pa h m kp k,sM h m kp r with
   |some k',some r'=>some (k'::r')
   |_,_=>none
  |none=>none
def Aw (m:Nat):List Nat→List Nat→List Nat
 |acc,[]=>acc
 |acc,b::r=>Aw m (if m≤b then dH acc b else acc) r
def Zu:Option Blk→List Nat
 |some ⟨_,true,rows⟩=>rows.flatten.flatMap dG
 |_=>[]
def jq (raw:Bool) (h:au) (m:Nat) (vs:List V):List Nat:=Aw m [] (bif raw then (List.range m).flatMap fun b=>Zu (h b) else vs.flatMap dG)
def Uz:List V→V
 |[v]=>v
 |vs=> .tup vs
def ik (af:al) (m:Nat) (r:Option (aw×St)):Option (V×List Blk):=
 match r with
 |some (.normal,st)|some (.ret,st)=>match jt st af.results with
  |none=>none
  |some vs=>
   let kp:=if af.keep then jq af.raw st.heap m vs else []
   match tD st.heap m kp vs,sM st.heap m kp (List.range m++kp) with
   |some vs',some bs=>if m≤1000 then some (Uz vs',bs) else none
   |_,_=>none
 |_=>none
def nD {α:Type}:Nat→List α→List (Nat×α)
 |_,[]=>[]
 |n,x::r=>(n,x)::nD (n+1) r
def start (args:List V) (blks:List Blk):St:=⟨nD 0 args,nD 0 blks⟩
inductive ZP where
 |code (a:al)
 |ext (g:List V→List Blk→Option (V×List Blk))
abbrev Tab:=FuncId→Option ZP
def XR (af:al):Option (V×List Blk)→Option (V×List Blk)
 |some (v,bs)=>some (v.czR,if af.raw then bs else bs.map Blk.cz)
 |none=>none
noncomputable def cS (T:Tab) (ow:cy):Nat→aY
 |0=>fun _ _ _=>none
 |n+1=>fun f args blks=>match T f with
  |none=>none
  |some (.code af)=>XR af (ik af blks.length (bL (cS T ow n) ow n af.body (start args blks)))
  |some (.ext g)=>g args blks
end Go.AI
