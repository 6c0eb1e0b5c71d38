/- Part. -/
import Derived.Calls
import Derived.Orders
namespace Go.AI
abbrev eD:=@Array.ext'
abbrev fe:=@Array.ext_getElem?
abbrev oW:=@Array.getElem?_append
abbrev ff:=@Array.getElem?_append_left
abbrev aL:=@Array.getElem?_eq_getElem
abbrev eK:=@Array.getElem?_eq_none
abbrev lx:=@Array.getElem?_eq_some_iff
abbrev dT:=@Array.getElem?_modify
abbrev iI:=@Array.getElem?_push
abbrev cw:=@Array.getElem?_setIfInBounds
abbrev mZ:=@Array.size_append
abbrev dW:=@Array.size_setIfInBounds
abbrev gr:=@BitVec.toNat_ofInt
abbrev hS:=@Bool.and_eq_false_iff
abbrev aD:=@Bool.and_eq_true
abbrev nm:=@Bool.and_self
abbrev fx:=@Bool.and_true
abbrev pw:=@Bool.decide_and
abbrev pp:=@Bool.eq_iff_iff
abbrev jJ:=@Bool.false_and
abbrev bx:=@Bool.false_eq_true
abbrev hZ:=@Bool.not_eq_true'
abbrev du:=@Bool.not_false
abbrev aH:=@Bool.not_true
abbrev cY:=@Bool.or_eq_true
abbrev aN:=@Bool.true_and
abbrev sC:=@Int.emod_emod
abbrev m3:=@Int.emod_lt_of_pos
abbrev p6:=@Int.emod_nonneg
abbrev nw:=@Int.eq_ofNat_of_zero_le
abbrev lh:=@Int.fdiv_eq_ediv_of_nonneg
abbrev ot:=@Int.mul_emod
abbrev p7:=@Int.natCast_mul
abbrev pW:=@Int.one_mul
abbrev g8:=@Int.pow_succ
abbrev ly:=@Int.pow_zero
abbrev aK:=@Int.toNat_natCast
abbrev ew:=@Int.toNat_of_nonneg
abbrev m2:=@List.Perm.refl
abbrev cj:=@List.all_cons
abbrev sN:=@List.all_eq_false
abbrev aB:=@List.all_eq_true
abbrev oC:=@List.all_nil
abbrev sO:=@List.any_eq_false
abbrev iv:=@List.any_eq_true
abbrev aV:=@List.append_assoc
abbrev bU:=@List.append_nil
abbrev eO:=@List.cons_append
abbrev o8:=@List.countP_cons
abbrev oZ:=@List.countP_le_length
abbrev gy:=@List.drop_eq_nil_of_le
abbrev fP:=@List.drop_zero
abbrev bS:=@List.eq_nil_of_length_eq_zero
abbrev n8:=@List.ext_getElem?
abbrev kh:=@List.filter_cons
abbrev ph:=@List.filter_nil
abbrev cm:=@List.flatMap_cons
abbrev rD:=@List.flatten_append
abbrev n5:=@List.flatten_cons
abbrev i0:=@List.foldl_append
abbrev p8:=@List.foldl_cons
abbrev bo:=@List.getD_eq_getElem?_getD
abbrev bG:=@List.getElem?_append_left
abbrev bQ:=@List.getElem?_append_right
abbrev j3:=@List.getElem?_cons_succ
abbrev j8:=@List.getElem?_cons_zero
abbrev gq:=@List.getElem?_drop
abbrev aq:=@List.getElem?_eq_getElem
abbrev bD:=@List.getElem?_eq_none
abbrev dg:=@List.getElem?_eq_some_iff
abbrev aW:=@List.getElem?_map
abbrev fA:=@List.getElem?_set
abbrev j6:=@List.getElem?_take
abbrev oY:=@List.getElem?_toArray
abbrev aZ:=@List.getElem_mem
abbrev bp:=@List.getElem_of_mem
abbrev ab:=@List.length_append
abbrev ah:=@List.length_cons
abbrev dR:=@List.length_drop
abbrev aO:=@List.length_map
abbrev ai:=@List.length_nil
abbrev aS:=@List.length_replicate
abbrev bf:=@List.length_set
abbrev am:=@List.length_singleton
abbrev bc:=@List.length_take
abbrev cI:=@List.map_append
abbrev cC:=@List.map_congr_left
abbrev aP:=@List.map_cons
abbrev jm:=@List.map_map
abbrev dM:=@List.map_nil
abbrev nM:=@List.map_toArray
abbrev aX:=@List.mem_append
abbrev b9:=@List.mem_cons
abbrev iY:=@List.mem_filter
abbrev bq:=@List.mem_map
abbrev an:=@List.mem_of_getElem?
abbrev bZ:=@List.mem_of_mem_drop
abbrev cq:=@List.mem_of_mem_take
abbrev dS:=@List.mem_or_eq_of_mem_set
abbrev bV:=@List.mem_range
abbrev gu:=@List.mem_replicate
abbrev dV:=@List.mem_singleton
abbrev bg:=@List.nil_append
abbrev jL:=@List.nodup_append
abbrev jy:=@List.nodup_nil
abbrev fI:=@List.pairwise_append
abbrev gw:=@List.pairwise_cons
abbrev lT:=@List.pairwise_iff_getElem
abbrev gJ:=@List.range_succ
abbrev lD:=@List.replicate_succ
abbrev lf:=@List.replicate_zero
abbrev fX:=@List.reverse_append
abbrev nU:=@List.reverse_singleton
abbrev aU:=@List.singleton_append
abbrev oX:=@List.take_append_drop
abbrev bk:=@List.take_length
abbrev ca:=@List.take_of_length_le
abbrev lL:=@List.take_succ_cons
abbrev fu:=@Nat.add_assoc
abbrev jk:=@Nat.add_comm
abbrev lK:=@Nat.add_mul_mod_self_right
abbrev j4:=@Nat.add_sub_cancel
abbrev cQ:=@Nat.add_zero
abbrev pu:=@Nat.div_add_mod
abbrev jX:=@Nat.div_lt_iff_lt_mul
abbrev hO:=@Nat.eq_of_beq_eq_true
abbrev cD:=@Nat.le_of_ble_eq_true
abbrev aw:=@Nat.le_refl
abbrev ms:=@Nat.le_succ
abbrev e7:=@Nat.le_trans
abbrev bP:=@Nat.lt_of_lt_of_le
abbrev dJ:=@Nat.lt_of_mul_lt_mul_right
abbrev cx:=@Nat.lt_or_ge
abbrev gB:=@Nat.min_eq_left
abbrev o7:=@Nat.mod_eq_of_lt
abbrev gt:=@Nat.mod_lt
abbrev oI:=@Nat.mul_comm
abbrev iA:=@Nat.mul_le_mul_left
abbrev bj:=@Nat.mul_le_mul_right
abbrev pT:=@Nat.mul_one
abbrev cB:=@Nat.one_mul
abbrev fT:=@Nat.pow_succ
abbrev nX:=@Nat.shiftLeft_eq
abbrev oA:=@Nat.sub_zero
abbrev cy:=@Nat.zero_add
abbrev pV:=@Nat.zero_le
abbrev lJ:=@Nat.zero_mul
abbrev nI:=@Option.bind_some
abbrev dq:=@Option.getD_some
abbrev ea:=@Option.map_some
abbrev cZ:=@Option.some.inj
abbrev aI:=@Subtype.property
abbrev ag:=@decide_eq_false
abbrev bw:=@decide_eq_false_iff_not
abbrev al:=@decide_eq_true
abbrev aC:=@decide_eq_true_eq
abbrev aa:=@if_neg
abbrev ae:=@if_pos
abbrev gz:=@not_not_intro
abbrev jN:=@of_decide_eq_true
section
inductive V where
 |lit (v:Value)
 |agg (cs:List V)
 |tup (vs:List V)
 |ptr (b i o n:Nat)
 |sl (b s n:Nat)
 |imm (e:Nat) (rows:List (List V))
 |iptr (row:List V) (o:Nat)
 |fn (f:FuncId) (caps:List V)
 |mp (b:Nat)
 |undef
 deriving Inhabited
structure Blk where
 esz:Nat
 op:Bool
 rows:List (List V)
abbrev b8:=Nat->Option Blk
def V.cl:V->Bool
 | .lit _| .imm _ _| .iptr _ _=>true
 | .fn _ []=>true
 |_=>false
def ci:Value->Bool
 | .agg _| .tuple _=>false
 |_=>true
def V.cell:V->Bool
 | .lit v=>ci v
 | .ptr .. | .sl .. | .imm .. | .iptr .. | .fn .. | .mp _=>true
 |_=>false
def V.cz:V->V
 | .lit (.slice none 0 0)=> .imm 1 []
 | .imm _ []=> .imm 1 []
 |v=>v
def V.czA:V->V
 | .agg cs=> .agg (cs.map V.cz)
 |v=>v.cz
def V.czR:V->V
 | .tup vs=> .tup (vs.map V.czA)
 |v=>v.czA
def Blk.cz (k:Blk):Blk:=if k.op then { k with rows:=k.rows.map (·.map V.cz) } else k
def zc (v:Value):V:=(V.lit v).cz
def V.cells:V->List V
 | .agg cs=>cs
 |v=>[v]
inductive Opd where
 |t (n:Nat)
 |c (v:Value)
 |f (k:FuncId)
 deriving Inhabited
def Opd.ev (f:Nat->V):Opd->V
 | .t n=>f n
 | .c v=> .lit v
 | .f k=> .fn k []
inductive AOp where
 |mv (x:Opd)
 |pick (c a b:Opd)
 |alloc (zero:List Value)
 |box (size:Nat) (x:Opd)
 |build (zero:List Value) (parts:List (Nat×Nat×Opd))
 |buildTwo (x y:Opd)
 |buildSlice (esz:Nat) (zero:List Value) (len:Nat) (parts:List (Nat×Opd))
 |load (agg:Option Nat) (a:Opd)
 |store (size:Nat) (a x:Opd)
 |nilCheck (x:Opd)
 |bin (op:BinOp) (x y:Opd)
 |eqAgg (neg:Bool) (ks:List Bool) (x y:Opd)
 |beq (neg:Bool) (x y:Opd)
 |un (op:UnOp) (x:Opd)
 |toInt (k:IntKind) (x:Opd)
 |same (x:Opd)
 |toBytes (x:Opd)
 |toStr (x:Opd)
 |makeFunc (f:FuncId) (caps:List Opd)
 |makeSlice (esz bytes:Nat) (zero:List Value) (len cap:Opd)
 |sliceStr (x:Opd) (lo hi:Option Opd)
 |slice (esz:Nat) (x:Opd) (lo hi mx:Option Opd)
 |off (d:Nat) (x:Opd)
 |field (d:Nat) (agg:Option Nat) (x:Opd)
 |idx (esz:Nat) (x i:Opd)
 |idxArr (len esz:Nat) (x i:Opd)
 |ixStr (x i:Opd)
 |ixAgg (len esz:Nat) (agg:Option Nat) (x i:Opd)
 |ext (x:Opd) (i:Nat)
 |len (str:Bool) (x:Opd)
 |lenArr (n:Nat) (x:Opd)
 |isNil (neg:Bool) (x:Opd)
 |append (esz bytes:Nat) (zero:List Value) (x y:Opd)
 |appendN (esz bytes:Nat) (zero:List Value) (x y:Opd)
 |copy (esz:Nat) (x y:Opd)
 |max2 (x y:Opd)
 |min2 (x y:Opd)
 |arrOf (len:Nat) (x:Opd)
 |bytesOwn (x:Opd)
 |mkMap
 |mapGet (m k:Opd)
 |mapSet (m k x:Opd)
 |mapEnt (m k:Opd)
 |mapPut (m i x:Opd)
 |call (f:FuncId) (args:List Opd)
 |dyn (f:Opd) (args:List Opd)
 deriving Inhabited
def Lj:Option Opd->List Opd
 |some x=>[x]
 |none=>[]
def AOp.opds:AOp->List Opd
 | .mv x| .box _ x| .load _ x| .nilCheck x| .un _ x| .toInt _ x| .same x| .toBytes x| .toStr x| .off _ x| .field _ _ x| .ext x _| .len _ x| .lenArr _ x| .isNil _ x| .arrOf _ x| .bytesOwn x=>[x]
 | .pick c a b=>[c,a,b]
 | .alloc _| .mkMap=>[]
 | .mapGet m k| .mapEnt m k=>[m,k]
 | .mapSet m k x| .mapPut m k x=>[m,k,x]
 | .build _ ps=>ps.map (·.2.2)
 | .buildSlice _ _ _ ps=>ps.map (·.2)
 | .store _ a x=>[a,x]
 | .buildTwo x y| .bin _ x y| .beq _ x y| .eqAgg _ _ x y| .makeSlice _ _ _ x y| .idx _ x y| .idxArr _ _ x y| .ixStr x y| .ixAgg _ _ _ x y| .append _ _ _ x y| .appendN _ _ _ x y| .copy _ x y| .max2 x y| .min2 x y=>[x,y]
 | .makeFunc _ cs=>cs
 | .sliceStr x lo hi=>x::(Lj lo++Lj hi)
 | .slice _ x lo hi mx=>x::(Lj lo++(Lj hi++Lj mx))
 | .call _ args=>args
 | .dyn f args=>f::args
def mO:Blk:=⟨0,false,[]⟩
def pi (h:b8):V->Option (V×List Nat)
 | .sl b s n=>match h b with
   |some k=>if k.op=false/\0<k.esz/\s+n=k.rows.length then some (.imm k.esz (k.rows.drop s),[b]) else none
   |none=>none
 |v=>if v.cl&&v.cell then some (v,[]) else none
def nv (h:b8):List V->Option (List V×List Nat)
 |[]=>some ([],[])
 |v::r=>match pi h v,nv h r with
  |some (v',bs),some (r',bs')=>some (v'.cz::r',bs++bs')
  |_,_=>none
abbrev Upd:=List (Nat×Blk)
def iZ (bs:List Nat):Upd:=bs.map fun b=>(b,mO)
def bT (h:b8) (b:Nat) (k:Blk):b8:=fun b'=>if b'=b then some k else h b'
def g9 (h:b8):Upd->b8
 |[]=>h
 | (b,k)::r=>g9 (bT h b k) r
def ed (h:b8) (esz:Nat):V->Option (List (List V))
 | .sl b s n=>match h b with
   |some k=>if k.op=false/\0<k.esz/\k.esz=esz/\s+n=k.rows.length then some (k.rows.drop s) else none
   |none=>none
 | .imm e rows=>if e=esz then some rows else if rows.isEmpty then some [] else none
 | .lit (.slice none 0 0)=>some []
 | .lit (.slice (some _) 0 _)=>some []
 | .lit (.string s)=>if esz=1 then some (s.data.toList.map fun b=>[.lit (.int .u8 b.toNat)]) else none
 |_=>none
def a6M:V->Bool
 | .lit (.string _)=>true
 |_=>false
def asI:V->Option Int
 | .lit (.int _ n)=>some n
 |_=>none
def cX:Nat:=1099511627776
def gX (op:BinOp):Value->Value->Option Value
 | .int k a,.int k' b=>
   match op with
   | .shl=>if 0<=b then some (.int k (k.wrap (a*2^(min b.toNat k.bits)))) else none
   | .shr=>if 0<=b then some (.int k (a.fdiv (2^(min b.toNat k.bits)))) else none
   | .add=>if k=k' then some (.int k (k.wrap (a+b))) else none
   | .sub=>if k=k' then some (.int k (k.wrap (a-b))) else none
   | .mul=>if k=k' then some (.int k (k.wrap (a*b))) else none
   | .quo=>if k=k'/\b≠0 then some (.int k (k.wrap (a.tdiv b))) else none
   | .rem=>if k=k'/\b≠0 then some (.int k (a.tmod b)) else none
   | .and=>if k=k' then some (.int k (k.wrap (BitVec.ofInt k.bits a&&&BitVec.ofInt k.bits b).toNat)) else none
   | .or=>if k=k' then some (.int k (k.wrap (BitVec.ofInt k.bits a|||BitVec.ofInt k.bits b).toNat)) else none
   | .xor=>if k=k' then some (.int k (k.wrap (BitVec.ofInt k.bits a^^^BitVec.ofInt k.bits b).toNat)) else none
   | .andNot=>if k=k' then some (.int k (k.wrap (BitVec.ofInt k.bits a&&& ~~~ BitVec.ofInt k.bits b).toNat)) else none
   | .eql=>if k=k' then some (.bool (a==b)) else none
   | .neq=>if k=k' then some (.bool (a !=b)) else none
   | .lss=>if k=k' then some (.bool (decide (a<b))) else none
   | .leq=>if k=k' then some (.bool (decide (a<=b))) else none
   | .gtr=>if k=k' then some (.bool (decide (a>b))) else none
   | .geq=>if k=k' then some (.bool (decide (a>=b))) else none
 | .string a,.string b=>
   match op with
   | .add=>if a.size+b.size<=cX then some (.string (a++b)) else none
   | .eql=>some (.bool (a.toList==b.toList))
   | .neq=>some (.bool !(a.toList==b.toList))
   |_=>none
 |_,_=>none
def VD (op:UnOp):Value->Option Value
 | .int k n=>match op with
   | .neg=>some (.int k (k.wrap (0-n)))
   | .xor=>some (.int k (k.wrap (BitVec.ofInt k.bits (if k.signed then-1 else k.max)^^^BitVec.ofInt k.bits n).toNat))
   |_=>none
 | .bool b=>match op with
   | .not=>some (.bool !b)
   |_=>none
 |_=>none
def fy:List Bool->List V->List V->Option Bool
 |[],[],[]=>some true
 |true::ks,.lit (.int k a)::x,.lit (.int k' b)::y=>if k=k' then (if a=b then fy ks x y else some false) else none
 |false::ks,.lit (.string a)::x,.lit (.string b)::y=>if a=b then fy ks x y else some false
 |_,_,_=>none
def dt (o:Option V) (dflt most:Nat):Option Nat:=
 match o with
 |none=>some dflt
 |some v=>match asI v with
  |some i=>if 0<=i/\i<=most then some i.toNat else none
  |none=>none
def J5 (cells:List V):List (Nat×Nat×V)->Option (List V)
 |[]=>some cells
 | (off,size,v)::r=>
   if v.cells.length=size/\off+size<=cells.length/\v.cells.all V.cell then J5 (cells.take off++(v.cells++cells.drop (off+size))) r else none
def PV (esz:Nat) (rows:List (List V)):List (Nat×V)->Option (List (List V))
 |[]=>some rows
 | (i,v)::r=>if v.cells.length=esz/\i<rows.length/\v.cells.all V.cell then PV esz (rows.set i v.cells) r else none
def part (agg:Option Nat) (cs:List V) (o:Nat):Option V:=
 match agg with
 |none=>cs[o]?
 |some n=>if o+n<=cs.length then some (.agg ((cs.drop o).take n)) else none
abbrev Tri:=Int×Int×Int
def bz:List Tri->List V
 |[]=>[]
 | (a,b,v)::r=> .lit (.int .i64 a):: .lit (.int .i64 b):: .lit (.int .i64 v)::bz r
def Mw:List V->Option (List Tri)
 |[]=>some []
 | .lit (.int .i64 a):: .lit (.int .i64 b):: .lit (.int .i64 v)::r=>match Mw r with
   |some L=>some ((a,b,v)::L)
   |none=>none
 |_=>none
theorem vd: ∀L:List Tri,Mw (bz L)=some L
 |[]=>rfl
 | (a,b,v)::r=>by simp only [bz,Mw,vd r]
theorem Ag: ∀{cs:List V} {L:List Tri},Mw cs=some L->cs=bz L
 |[],L,h=>by simp [Mw] at h;subst h;rfl
 | .lit (.int .i64 a):: .lit (.int .i64 b):: .lit (.int .i64 v)::r,L,h=>by
   simp only [Mw] at h
   split at h
   ·rename_i L' h'
    cases h
    rw [Ag h'];rfl
   ·cases h
 |[_],L,h=>by simp [Mw] at h
 |[_,_],L,h=>by simp [Mw] at h
 |x::y::z::r,L,h=>by
  unfold Mw at h
  split at h
  ·rename_i e;cases e
  ·rename_i a b v r' e
   split at h
   ·rename_i L' h'
    cases h
    cases e
    rw [Ag h'];rfl
   ·cases h
  ·cases h
def i7 (a b:Int):List Tri->Int
 |[]=>0
 | (x,y,v)::r=>if a=x/\b=y then v else i7 a b r
def iw (a b v:Int):List Tri->List Tri
 |[]=>[(a,b,v)]
 | (x,y,u)::r=>if a=x/\b=y then (a,b,v)::r else (x,y,u)::iw a b v r
def yM (a b:Int):List Tri->Nat
 |[]=>0
 | (x,y,_)::r=>if a=x/\b=y then 0 else yM a b r+1
def Ho (a b:Int) (L:List Tri):List Tri:=if yM a b L<L.length then L else L++[(a,b,0)]
def b6x (i:Nat) (v:Int) (L:List Tri):List Tri:=L.modify i fun t=>(t.1,t.2.1,v)
def mapKey:V->Option (Int×Int)
 | .agg [.lit (.int .i64 a),.lit (.int .i64 b)]=>some (a,b)
 |_=>none
def rE (h:b8):V->Option (Nat×List Tri)
 | .mp b=>match h b with
   |some ⟨0,true,[cs]⟩=>match Mw cs with
    |some L=>some (b,L)
    |none=>none
   |_=>none
 |_=>none
abbrev ce:=FuncId->List V->List Blk->Option (V×List Blk)
def kL (b:Nat):List Nat->Nat
 |[]=>0
 |x::r=>if x=b then 0 else kL b r+1
def gi (ids:List Nat) (b:Nat):List Nat:=if b∈ids then ids else ids++[b]
def dv (h:b8) (own:Bool) (ids:List Nat):V->Option (V×List Nat×List Nat)
 | .lit v=>some (.lit v,ids,[])
 | .imm e r=>some (.imm e r,ids,[])
 | .iptr r o=>some (.iptr r o,ids,[])
 | .undef=>some (.undef,ids,[])
 | .fn f []=>some (.fn f [],ids,[])
 | .ptr b i o n=>match h b with
   |some k=>if k.rows.length=n then some (.ptr (kL b (gi ids b)) i o n,gi ids b,[]) else none
   |none=>none
 | .mp b=>match h b with
   |some _=>some (.mp (kL b (gi ids b)),gi ids b,[])
   |none=>none
 | .sl b s n=>match h b with
   |some k=>if s+n=k.rows.length then
    (if own then some (.sl (kL b (gi ids b)) s n,gi ids b,[]) else if k.op=false/\0<k.esz then some (.imm k.esz (k.rows.drop s),ids,[b]) else none) else none
   |none=>none
 |_=>none
def eQ (h:b8) (own:Bool):List Nat->List V->Option (List V×List Nat×List Nat)
 |ids,[]=>some ([],ids,[])
 |ids,v::r=>match dv h own ids v with
  |some (v',ids',bs)=>match eQ h own ids' r with
   |some (r',ids'',bs')=>some (v'::r',ids'',bs++bs')
   |none=>none
  |none=>none
def fm (h:b8) (own:Bool) (ids:List Nat):V->Option (V×List Nat×List Nat)
 | .agg cs=>match eQ h own ids cs with
   |some (cs',ids',bs)=>some (.agg cs',ids',bs)
   |none=>none
 | .fn f caps=>match eQ h true ids caps with
   |some (cs',ids',bs)=>some (.fn f cs',ids',bs)
   |none=>none
 |v=>dv h own ids v
def jM (h:b8) (owns:List Nat):Nat->List Nat->List V->Option (List V×List Nat×List Nat)
 |_,ids,[]=>some ([],ids,[])
 |j,ids,v::r=>match fm h (j∈owns) ids v with
  |some (v',ids',bs)=>match jM h owns (j+1) ids' r with
   |some (r',ids'',bs')=>some (v'::r',ids'',bs++bs')
   |none=>none
  |none=>none
def rj (h:b8):List Nat->List V->Option (List V×List Nat)
 |ids,[]=>some ([],ids)
 |ids,v::r=>match fm h true ids v with
  |some (v',ids',_)=>match rj h ids' r with
   |some (r',ids'')=>some (v'::r',ids'')
   |none=>none
  |none=>none
def oS (h:b8):List Nat->List (List V)->Option (List (List V)×List Nat)
 |ids,[]=>some ([],ids)
 |ids,x::r=>match rj h ids x with
  |some (x',ids')=>match oS h ids' r with
   |some (r',ids'')=>some (x'::r',ids'')
   |none=>none
  |none=>none
def fL (h:b8):Nat->Nat->List Nat->Option (List Blk×List Nat)
 |0,_,_=>none
 |fuel+1,pos,ids=>match ids[pos]? with
  |none=>some ([],ids)
  |some b=>match h b with
   |none=>none
   |some k=>
    if k.op=false then match fL h fuel (pos+1) ids with
     |some (r,ids')=>some (k::r,ids')
     |none=>none
    else match oS h ids k.rows with
     |none=>none
     |some (rows,ids1)=>match fL h fuel (pos+1) ids1 with
      |some (r,ids2)=>some ({ k with rows:=rows }::r,ids2)
      |none=>none
def unV (ids:List Nat):V->V
 | .ptr b i o n=> .ptr (ids.getD b 0) i o n
 | .sl b s n=> .sl (ids.getD b 0) s n
 | .mp b=> .mp (ids.getD b 0)
 |v=>v
def mG (ids:List Nat):V->V
 | .agg cs=> .agg (cs.map (unV ids))
 | .fn f cs=> .fn f (cs.map (unV ids))
 |v=>unV ids v
def Bo (ids:List Nat):V->V
 | .tup vs=> .tup (vs.map (mG ids))
 |v=>mG ids v
def ki (ids:List Nat) (k:Blk):Blk:=if k.op=false then k else { k with rows:=k.rows.map (·.map (mG ids)) }
def pC:V->Bool
 | .lit _| .ptr .. | .sl .. | .mp _| .undef=>true
 |_=>false
def Et:V->Bool
 | .agg cs=>cs.all pC
 |v=>pC v
def sQ:V->Bool
 | .tup vs=>vs.all Et
 |v=>Et v
def rb (fl:Bool) (k:Blk):Bool:=(fl||k.op)&&k.rows.all (·.all pC)
def og:List Nat->List Blk->Upd
 |i::r,k::s=>(i,k)::og r s
 |_,_=>[]
def fi (owns:FuncId->List Nat) (h:b8) (f:FuncId) (args:List V):Option (List V×List Blk×List Nat×List Nat):=
 match jM h (owns f) 0 [] args with
 |none=>none
 |some (args',ids0,bor)=>match fL h 40 0 ids0 with
  |none=>none
  |some (blks,ids)=>if bor.any (fun b=>decide (b∈ids))=true then none else some (args',blks,ids,bor)
def gc:List Nat->List Blk->Nat->List Nat
 |[],[],_=>[]
 |[],_::r,n=>n::gc [] r (n+1000000)
 |_::i,_::r,n=>gc i r n
 |_::_,[],_=>[]
theorem Aa: ∀{ids:List Nat} {bs:List Blk} {n:Nat},ids.length<=bs.length->(gc ids bs n).length+ids.length=bs.length
 |[],[],n,_=>rfl
 |[],_::r,n,_=>by simp only [gc,ah];have:= @Aa [] r (n+1000000) (by simp);simpa using this
 |_::i,_::r,n,h=>by simp only [gc,ah];have:= @Aa i r n (by simpa using h);omega
 |_::_,[],n,h=>by simp at h
theorem JS: ∀(ids:List Nat) (bs:List Blk) (n:Nat), ∀b∈gc ids bs n,n<=b
 |[],[],n,b,h=>by simp [gc] at h
 |[],_::r,n,b,h=>by
  simp only [gc,b9] at h
  rcases h with h|h
  ·omega
  ·have:=JS [] r (n+1000000) b h;omega
 |_::i,_::r,n,b,h=>JS i r n b h
 |_::_,[],n,b,h=>by simp [gc] at h
theorem JG: ∀(ids:List Nat) (bs:List Blk) (n:Nat),(gc ids bs n).Nodup
 |[],[],n=>jy
 |[],_::r,n=>by
  simp only [gc,List.nodup_cons]
  exact ⟨fun h=>by have:=JS [] r (n+1000000) n h;omega,JG [] r _⟩
 |_::i,_::r,n=>JG i r n
 |_::_,[],n=>jy
def yl (fl:Bool) (h:b8) (new:Nat) (ids bor:List Nat) (r:V) (blks':List Blk):Option (V×Upd):=
 if ids.length<=blks'.length/\(gc ids blks' new).all (fun b=>(h b).isNone)=true then
  some (Bo (ids++gc ids blks' new) r,og (ids++gc ids blks' new) (blks'.map (ki (ids++gc ids blks' new)))++(if (bor.isEmpty||(sQ r&&blks'.all (rb fl)))=true then [] else iZ bor))
 else none
open Classical in
noncomputable def roU (h:b8):Upd->Option Upd
 |[]=>some []
 | (b,k)::r=>match h b with
   |none=>(roU h r).map ((b,k):: ·)
   |some k'=>if k'=k then roU h r else none
noncomputable def roW (ro:Bool) (h:b8):Option (V×Upd)->Option (V×Upd)
 |none=>none
 |some (v,u)=>if ro=true then (match roU h u with
  |some u'=>some (v,u')
  |none=>none) else some (v,u)
theorem Tf {h:b8}: ∀{u u':Upd} {g:b8},(∀c k,h c=some k->g c=some k)->roU h u=some u'->g9 g u'=g9 g u
 |[],u',g,hg,hs=>by cases hs;rfl
 | (b,k)::r,u',g,hg,hs=>by
   simp only [roU] at hs
   cases hb:h b with
   |none=>
    rw [hb] at hs;dsimp only at hs
    cases hr:roU h r with
    |none=>rw [hr] at hs;cases hs
    |some r'=>
     rw [hr] at hs;cases hs
     exact Tf (g:=bT g b k) (fun c k' hc=>by
      have:c≠b:=fun e=>by rw [e,hb] at hc;cases hc
      unfold bT;rw [aa this];exact hg c k' hc) hr
   |some k'=>
    rw [hb] at hs;dsimp only at hs
    split at hs
    ·rename_i he
     subst he
     have:bT g b k'=g:=by
      funext c;unfold bT;split
      ·rename_i hc;rw [hc,hg b k' hb]
      ·rfl
     show g9 g u'=g9 (bT g b k') r
     rw [this]
     exact Tf hg hs
    ·cases hs
theorem a7C {ro:Bool} {h:b8} {x:Option (V×Upd)} {v:V} {u:Upd} (a:roW ro h x=some (v,u)): ∃b,x=some (v,b)/\g9 h u=g9 h b/\(ro=true->roU h b=some u)/\(ro=false->u=b):=by
 unfold roW at a
 split at a
 ·cases a
 ·rename_i e b
  split at a
  ·rename_i c
   split at a
   ·rename_i f d
    cases a
    exact ⟨b,rfl,Tf (fun _ _ h=>h) d,fun _=>d,fun h=>by rw [c] at h;cases h⟩
   ·cases a
  ·rename_i c
   cases a
   exact ⟨_,rfl,rfl,fun h=>absurd h c,fun _=>rfl⟩
def ul (owns:List Nat) (args:List V):List V:=if owns.contains 1000 then args else args.map V.czA
def tY (owns:List Nat) (blks:List Blk):List Blk:=if owns.contains 1000 then blks else blks.map Blk.cz
noncomputable def nV (C:ce) (owns:FuncId->List Nat) (h:b8) (new:Nat) (f:FuncId) (args:List V):Option (V×Upd):=
 match fi owns h f args with
 |none=>none
 |some (args',blks,ids,bor)=>match C f (ul (owns f) args') (tY (owns f) blks) with
  |none=>none
  |some (r,blks')=>roW ((owns f).contains 3000) h (yl ((owns f).contains 2000) h new ids bor r blks')
def y4 (agg:Option Nat) (h:b8) (a:V):Option V:=
 match a with
 | .ptr b i o n=>match h b with
   |some k=>if k.rows.length=n then (match k.rows[i]? with
    |some row=>part agg row o
    |none=>none) else none
   |none=>none
 | .iptr row o=>part agg row o
 |_=>none
def mK (h:b8) (n:Nat) (k:Blk) (v:V):Option (V×Upd):=if (h n).isNone=true/\0<k.esz then some (v,[(n,k)]) else none
def iJ (ev:Opd->V):List (Nat×Nat×Opd)->List (Nat×Nat×V)
 |[]=>[]
 | (a,b,x)::r=>(a,b,ev x)::iJ ev r
def eo (h:b8) (ev:Opd->V):List (Nat×Opd)->Option (List (Nat×V)×List Nat)
 |[]=>some ([],[])
 | (i,x)::r=>match nv h (ev x).cells,eo h ev r with
   |some (cs,bs),some (r',bs')=>some ((i,.agg cs)::r',bs++bs')
   |_,_=>none
def JB (esz bytes:Nat) (zero:List Value) (x:V) (sb:Nat->Bool) (h:b8) (new:Nat) (new_:List (List V)):Option (V×Upd):=
 if zero.length=esz/\0<esz/\new_.length*bytes<=cX/\new_.length*esz<=cX then
 (match x with
 | .sl b 0 n=>match h b with
   |some k=>if k.op=false/\0<k.esz/\k.esz=esz/\n=k.rows.length/\(n+new_.length)*bytes<=cX/\(n+new_.length)*esz<=cX/\sb b then
    some (.sl b 0 (n+new_.length),[(b,{ k with rows:=k.rows++new_ })]) else none
   |none=>none
 | .lit (.slice none 0 0)=>mK h new ⟨esz,false,new_⟩ (.sl new 0 new_.length)
 | .imm 0 []=>mK h new ⟨esz,false,new_⟩ (.sl new 0 new_.length)
 |_=>none) else none
noncomputable def aM (C:ce) (owns:FuncId->List Nat) (o:AOp) (ev:Opd->V) (h:b8) (new:Nat):Option (V×Upd):=
 match o with
 | .mv x=>some (ev x,[])
 | .pick c a b=>match ev c with
   | .lit (.bool true)=>some (ev a,[])
   | .lit (.bool false)=>some (ev b,[])
   |_=>none
 | .alloc zero=>if zero.all ci then mK h new ⟨zero.length,true,[zero.map .lit]⟩ (.ptr new 0 0 1) else none
 | .box size x=>if (ev x).cells.length=size/\(ev x).cells.all V.cell then mK h new ⟨size,true,[(ev x).cells]⟩ (.ptr new 0 0 1) else none
 | .build zero parts=>if zero.all ci then (match J5 (zero.map .lit) (iJ ev parts) with
   |some cs=>some (.agg cs,[])
   |none=>none) else none
 | .buildTwo x y=>if (ev x).cell=true/\(ev y).cell=true then mK h new ⟨1,true,[[ev x],[ev y]]⟩ (.sl new 0 2) else none
 | .buildSlice esz zero len parts=>match eo h ev parts with
   |some (ps,bs)=>match PV esz (List.replicate len (zero.map zc)) ps with
    |some rows=>if zero.length=esz/\zero.all ci/\len*esz<=16777216/\ ¬new∈bs then
     (match mK h new ⟨esz,false,rows⟩ (.sl new 0 len) with
      |some (v,u)=>some (v,iZ bs++u)
      |none=>none) else none
    |none=>none
   |none=>none
 | .load agg a=>match y4 agg h (ev a) with
   |some v=>some (v,[])
   |none=>none
 | .store size a x=>match ev a with
   | .ptr b i o n=>match h b with
     |some k=>if k.rows.length=n then (match k.rows[i]? with
      |some row=>
       if k.op then
        (if (ev x).cells.length=size/\o+size<=row.length/\(ev x).cells.all V.cell then
         some (.undef,[(b,{ k with rows:=k.rows.set i (row.take o++((ev x).cells++row.drop (o+size))) })]) else none)
       else match nv h (ev x).cells with
        |some (cs,bs)=>if cs.length=size/\o+size<=row.length/\ ¬b∈bs then
         some (.undef,iZ bs++[(b,{ k with rows:=k.rows.set i (row.take o++(cs++row.drop (o+size))) })]) else none
        |none=>none
      |none=>none) else none
     |none=>none
   |_=>none
 | .nilCheck x=>match ev x with
   | .ptr b i o n=>match h b with
     |some k=>if k.rows.length=n/\i<n then some (.ptr b i o n,[]) else none
     |none=>none
   | .iptr r o=>some (.iptr r o,[])
   | .fn f c=>some (.fn f c,[])
   |_=>none
 | .bin op x y=>match ev x,ev y with
   | .lit a,.lit b=>match gX op a b with
     |some v=>some (.lit v,[])
     |none=>none
   |_,_=>none
 | .eqAgg neg ks x y=>match ev x,ev y with
   | .agg a,.agg b=>match fy ks a b with
     |some r=>some (.lit (.bool (if neg then !r else r)),[])
     |none=>none
   |_,_=>none
 | .beq neg x y=>match ev x,ev y with
   | .lit (.bool a),.lit (.bool b)=>some (.lit (.bool (if neg then a !=b else a==b)),[])
   |_,_=>none
 | .un op x=>match ev x with
   | .lit a=>match VD op a with
     |some v=>some (.lit v,[])
     |none=>none
   |_=>none
 | .toInt k x=>match asI (ev x) with
   |some n=>some (.lit (.int k (k.wrap n)),[])
   |none=>none
 | .same x=>match ev x with
   | .lit (.string s)=>some (.lit (.string s),[])
   |_=>none
 | .toBytes x=>match ev x with
   | .lit (.string s)=>if s.size<=cX then mK h new ⟨1,false,s.data.toList.map fun b=>[.lit (.int .u8 b.toNat)]⟩ (.sl new 0 s.size) else none
   |_=>none
 | .toStr x=>if a6M (ev x) then none else match ed h 1 (ev x) with
   |some rows=>match bytesOf rows with
    |some l=>some (.lit (.string ⟨l.toArray⟩),[])
    |none=>none
   |none=>none
 | .makeFunc f caps=>some (.fn f (caps.map ev),[])
 | .makeSlice esz bytes zero len cap=>match asI (ev len),asI (ev cap) with
   |some l,some c=>if 0<=l/\l<=c/\c*bytes<=cX/\c*esz<=cX/\zero.length=esz/\zero.all ci then
    mK h new ⟨esz,false,List.replicate l.toNat (zero.map zc)⟩ (.sl new 0 l.toNat) else none
   |_,_=>none
 | .sliceStr x lo hi=>match ev x with
   | .lit (.string s)=>match dt (hi.map ev) s.size s.size with
     |some b=>match dt (lo.map ev) 0 b with
      |some a=>some (.lit (.string (s.extract a b)),[])
      |none=>none
     |none=>none
   |_=>none
 | .slice esz x lo hi mx=>match mx with
   |some _=>none
   |none=>match ev x with
   | .lit (.slice none 0 0)=>match dt (hi.map ev) 0 0 with
     |some q=>match dt (lo.map ev) 0 q with
      |some _=>some (.lit (.slice none 0 0),[])
      |none=>none
     |none=>none
   | .sl b s n=>match h b with
     |some k=>if k.op=false/\0<k.esz/\k.esz=esz/\s+n=k.rows.length then (match dt (hi.map ev) n n with
      |some q=>match dt (lo.map ev) 0 q with
       |some p=>if q=n then some (.sl b (s+p) (n-p),[]) else some ((V.imm esz (((k.rows.drop s).take q).drop p)).cz,[(b,mO)])
       |none=>none
      |none=>none) else none
     |none=>none
   | .imm e rows=>if e=esz\/rows=[] then (match dt (hi.map ev) rows.length rows.length with
    |some q=>match dt (lo.map ev) 0 q with
     |some p=>some ((V.imm e ((rows.take q).drop p)).cz,[])
     |none=>none
    |none=>none) else none
   |_=>none
 | .off d x=>match ev x with
   | .ptr b i o n=>some (.ptr b i (o+d) n,[])
   | .iptr r o=>some (.iptr r (o+d),[])
   |_=>none
 | .field d agg x=>match ev x with
   | .agg cs=>match part agg cs d with
     |some v=>some (v,[])
     |none=>none
   |_=>none
 | .idx esz x i=>match asI (ev i) with
   |some i=>if 0<=i then (match ev x with
    | .sl b s n=>match h b with
      |some k=>if 0<k.esz/\k.esz=esz/\s+n=k.rows.length/\i.toNat<n then some (.ptr b (s+i.toNat) 0 k.rows.length,[]) else none
      |none=>none
    | .imm e rows=>if e=esz then (match rows[i.toNat]? with
      |some row=>some (.iptr row 0,[])
      |none=>none) else none
    |_=>none) else none
   |none=>none
 | .idxArr len esz x i=>match asI (ev i) with
   |some i=>if 0<=i/\i.toNat<len then (match ev x with
    | .ptr b j o n=>some (.ptr b j (o+i.toNat*esz) n,[])
    | .iptr r o=>some (.iptr r (o+i.toNat*esz),[])
    |_=>none) else none
   |none=>none
 | .ixStr x i=>match ev x,asI (ev i) with
   | .lit (.string s),some i=>if 0<=i then (match s.data[i.toNat]? with
     |some b=>some (.lit (.int .u8 b.toNat),[])
     |none=>none) else none
   |_,_=>none
 | .ixAgg len esz agg x i=>match ev x,asI (ev i) with
   | .agg cs,some i=>if 0<=i/\i.toNat<len then (match part agg cs (i.toNat*esz) with
     |some v=>some (v,[])
     |none=>none) else none
   |_,_=>none
 | .ext x i=>match ev x with
   | .tup vs=>match vs[i]? with
     |some v=>some (v,[])
     |none=>none
   |_=>none
 | .len str x=>match str,ev x with
   |true,.lit (.string s)=>some (.lit (.int .i64 s.size),[])
   |false,.lit (.slice _ n _)=>some (.lit (.int .i64 n),[])
   |false,.sl _ _ n=>some (.lit (.int .i64 n),[])
   |false,.imm _ rows=>some (.lit (.int .i64 rows.length),[])
   |_,_=>none
 | .lenArr n _=>some (.lit (.int .i64 n),[])
 | .isNil neg x=>match ev x with
   | .lit (.slice a _ _)=>some (.lit (.bool (if neg then !a.isNone else a.isNone)),[])
   | .imm _ (_::_)=>some (.lit (.bool neg),[])
   |_=>none
 | .append esz bytes zero x y=>match ed h esz (ev y) with
   |none=>none
   |some new_=>
    if zero.length=esz/\0<esz/\new_.length*bytes<=cX/\new_.length*esz<=cX then
    (match ev x with
    | .sl b 0 n=>match h b with
      |some k=>if k.op=false/\0<k.esz/\k.esz=esz/\n=k.rows.length/\(n+new_.length)*bytes<=cX/\(n+new_.length)*esz<=cX/\selfOk b (ev y) then
       some (.sl b 0 (n+new_.length),[(b,{ k with rows:=k.rows++new_ })]) else none
      |none=>none
    | .lit (.slice none 0 0)=>mK h new ⟨esz,false,new_⟩ (.sl new 0 new_.length)
    | .imm 0 []=>mK h new ⟨esz,false,new_⟩ (.sl new 0 new_.length)
    |_=>none) else none
 | .appendN esz bytes zero x y=>match asI (ev y) with
   |some l=>if 0<=l/\l<=1099511627776/\l*bytes<=1099511627776/\zero.all ci then JB esz bytes zero (ev x) (fun _=>true) h new (List.replicate l.toNat (zero.map zc)) else none
   |none=>none
 | .copy esz x y=>match ed h esz (ev y),ev x with
   |some rows,.sl b s n=>match h b with
    |some k=>if k.op=false/\0<k.esz/\k.esz=esz/\s+n=k.rows.length/\selfOk b (ev y) then
     some (.lit (.int .i64 (min rows.length n)),[(b,{ k with rows:=k.rows.take s++(rows.take (min rows.length n)++k.rows.drop (s+min rows.length n)) })]) else none
    |none=>none
   |_,_=>none
 | .max2 x y=>match ev x,ev y with
   | .lit (.int k a),.lit (.int _ b)=>some (.lit (.int k (if b>a then b else a)),[])
   |_,_=>none
 | .min2 x y=>match ev x,ev y with
   | .lit (.int k a),.lit (.int _ b)=>some (.lit (.int k (if b<a then b else a)),[])
   |_,_=>none
 | .arrOf len x=>match pi h (ev x) with
   |some (.imm _ rows,bs)=>if 0<len/\len<=rows.length then some (.iptr rows.flatten 0,iZ bs) else none
   |_=>none
 | .bytesOwn x=>match ev x with
   | .sl b s n=>match h b with
     |some k=>if k.op=false/\0<k.esz/\s+n=k.rows.length/\0<n then some (.sl b s n,[(b,k)]) else none
     |none=>none
   |_=>none
 | .mkMap=>if (h new).isNone=true then some (.mp new,[(new,⟨0,true,[[]]⟩)]) else none
 | .mapGet m k=>match rE h (ev m),mapKey (ev k) with
   |some (_,L),some (a,b)=>some (.lit (.int .i64 (i7 a b L)),[])
   |_,_=>none
 | .mapEnt m k=>match rE h (ev m),mapKey (ev k) with
   |some (p,L),some (a,b)=>some (.tup [.lit (.int .i64 (i7 a b L)),.lit (.int .i64 (yM a b L))],[(p,⟨0,true,[bz (Ho a b L)]⟩)])
   |_,_=>none
 | .mapPut m i x=>match rE h (ev m),ev i,ev x with
   |some (p,L),.lit (.int .i64 i),.lit (.int .i64 v)=>if 0<=i/\i<L.length then some (.undef,[(p,⟨0,true,[bz (b6x i.toNat v L)]⟩)]) else none
   |_,_,_=>none
 | .mapSet m k x=>match rE h (ev m),mapKey (ev k),ev x with
   |some (p,L),some (a,b),.lit (.int .i64 v)=>some (.undef,[(p,⟨0,true,[bz (iw a b v L)]⟩)])
   |_,_,_=>none
 | .call f args=>nV C owns h new f (args.map ev)
 | .dyn f args=>match ev f with
   | .fn k caps=>nV C owns h new k (args.map ev++caps)
   |_=>none
where
 bytesOf:List (List V)->Option (List UInt8)
  |[]=>some []
  |[.lit (.int .u8 n)]::r=>if 0<=n/\n<256 then (match bytesOf r with
   |some l=>some (UInt8.ofNat n.toNat::l)
   |none=>none) else none
  |_=>none
 selfOk (b:Nat):V->Bool
  | .sl b' _ _=>b !=b'
  |_=>true
end
section
def dP {α:Type}:List (Nat×α)->Nat->Option α
 |[],_=>none
 | (k,v)::r,t=>if k=t then some v else dP r t
def j7 {α:Type} (k:Nat) (v:α):List (Nat×α)->List (Nat×α)
 |[]=>[(k,v)]
 | (j,u)::r=>if j=k then (j,v)::r else (j,u)::j7 k v r
structure St where
 e:List (Nat×V)
 m:List (Nat×Blk)
def St.get (s:St) (t:Nat):V:=(dP s.e t).getD .undef
def St.heap (s:St):b8:=dP s.m
def St.ev (s:St):Opd->V:=Opd.ev s.get
def St.put (s:St) (d:Option Nat) (v:V):St:=match d with
 |some d=>{ s with e:=(d,v)::s.e }
 |none=>s
def a0j (m:List (Nat×Blk)):Upd->List (Nat×Blk)
 |[]=>m
 | (b,k)::r=>a0j (j7 b k m) r
def St.upd (s:St) (u:Upd):St:={ s with m:=a0j s.m u }
structure cn where
 dst:Option Nat
 op:AOp
 guard:Option (Nat×Bool)
 deriving Inhabited
def St.want (s:St):Option (Nat×Bool)->Option Bool
 |none=>some true
 |some (t,b)=>match s.get t with
  | .lit (.bool c)=>some (c==b)
  | .lit (.tuple _)=>some false
  |_=>none
abbrev ec:=FuncId->List Nat
noncomputable def Cm (C:ce) (ow:ec) (st:St) (s:cn) (n:Nat):Option St:=
 match st.want s.guard with
 |none=>none
 |some false=>some (st.put s.dst (.lit (.tuple #[])))
 |some true=>match aM C ow s.op st.ev st.heap n with
  |some (v,u)=>some ((st.upd u).put s.dst v)
  |none=>none
noncomputable def jE (C:ce) (ow:ec):List cn->Nat->St->Option St
 |[],_,st=>some st
 |s::r,n,st=>match Cm C ow st s n with
  |some st'=>jE C ow r (n+1) st'
  |none=>none
structure Rec where
 i:Nat
 fp:List Nat
 wr:List Nat
def rF:V->List Nat
 | .ptr b _ _ _=>[b]
 | .sl b _ _=>[b]
 | .mp b=>[b]
 |_=>[]
def gN:V->List Nat
 | .agg cs=>cs.flatMap rF
 | .fn _ cs=>cs.flatMap rF
 | .tup vs=>vs.flatMap fun| .agg cs=>cs.flatMap rF|v=>rF v
 |v=>rF v
def M4 (ow:ec) (h:b8) (f:FuncId) (args:List V):List Nat:=
 match fi ow h f args with
 |none=>[]
 |some (_,_,ids,bor)=>ids++bor
def im (ow:ec) (o:AOp) (ev:Opd->V) (h:b8):List Nat:=
 match o with
 | .call f args=>M4 ow h f (args.map ev)
 | .dyn f args=>match ev f with
   | .fn k caps=>M4 ow h k (args.map ev++caps)
   |_=>[]
 | .mv _| .ext _ _| .off _ _| .len _ _| .makeFunc _ _=>[]
 |o=>(o.opds.map ev).flatMap gN
def sj (h:b8) (fp:List Nat):b8:=fun b=>if b∈fp then h b else none
noncomputable def yb (C:ce) (ow:ec) (st:St) (s:cn) (i n:Nat):Option (St×Rec):=
 match st.want s.guard with
 |none=>none
 |some false=>some (st.put s.dst (.lit (.tuple #[])),⟨i,[],[]⟩)
 |some true=>match aM C ow s.op st.ev (sj st.heap (im ow s.op st.ev st.heap)) n with
  |some (v,u)=>
   if (u.map (·.1)).all (fun b=>decide (b∈im ow s.op st.ev st.heap)||(st.heap b).isNone) then
    some ((st.upd u).put s.dst v,⟨i,im ow s.op st.ev st.heap,u.map (·.1)⟩) else none
  |none=>none
noncomputable def jx (C:ce) (ow:ec) (base:Nat):List cn->Nat->St->Option (St×List Rec)
 |[],_,st=>some (st,[])
 |s::r,i,st=>match yb C ow st s i (base+i) with
  |some (st',rc)=>match jx C ow base r (i+1) st' with
   |some (st'',rs)=>some (st'',rc::rs)
   |none=>none
  |none=>none
def Vv (p q:Rec):Bool:=p.wr.any (fun b=>b∈q.fp||b∈q.wr)||q.wr.any (· ∈p.fp)
def Fu (deps:List (List Nat)) (p:Rec):List Rec->Bool
 |[]=>true
 |q::r=>(p.wr.isEmpty&&q.wr.isEmpty||(deps.getD q.i []).contains p.i|| !Vv p q)&&Fu deps p r
def qE (deps:List (List Nat)):List Rec->Bool
 |[]=>true
 |p::r=>Fu deps p r&&qE deps r
def Rec.loud (r:Rec):Bool:= !(r.fp.isEmpty&&r.wr.isEmpty)
inductive eU where
 |close (bs:List Nat)
 |nilCell (b o new esz:Nat)
 |nilTmp (t new esz:Nat)
 |both (a b:eU)
 |drop (ts:List Nat)
 deriving Inhabited
inductive aQ where
 |skip
 |region (base:Nat) (steps:List cn) (live:List Nat)
 |drawn (base:Nat) (steps:List cn) (deps:List (List Nat)) (live:List Nat)
 |seq (a b:aQ)
 |cond (c:Opd) (a b:aQ)
 |block (id:Nat) (c:aQ)
 |loop (c:aQ)
 |exit (id:Nat)
 |ret
 |ghost (g:eU) (c:aQ)
 deriving Inhabited
inductive bR where
 |normal
 |exit (id:Nat)
 |ret
 deriving DecidableEq,Inhabited
def okC:V->Bool
 | .lit _| .imm _ _| .iptr _ _| .ptr .. | .sl .. | .mp _| .undef=>true
 | .fn _ []=>true
 |_=>false
def fzC (h:b8) (bs:List Nat):V->V
 | .sl b s n=>if b∈bs then (match pi h (.sl b s n) with
   |some (v,_)=>v.cz
   |none=> .undef) else .sl b s n
 | .ptr b i o n=>if b∈bs then .undef else .ptr b i o n
 | .mp b=>if b∈bs then .undef else .mp b
 | .fn f cs=>if (cs.all okC&& !(cs.flatMap rF).any (fun b=>decide (b∈bs)))=true then .fn f cs else .undef
 |v=>v
def fzA (h:b8) (bs:List Nat):V->V
 | .agg cs=>if (cs.map (fzC h bs)).all V.cell then .agg (cs.map (fzC h bs)) else .undef
 | .tup _=> .undef
 |v=>fzC h bs v
def fzM (h:b8) (bs:List Nat):List (Nat×Blk)->List (Nat×Blk)
 |[]=>[]
 | (b,k)::r=>if b∈bs then fzM h bs r else (b,if k.op then (if (k.rows.map (·.map (fzC h bs))).all (·.all V.cell) then { k with rows:=k.rows.map (·.map (fzC h bs)) } else mO) else k)::fzM h bs r
def RZ (g:V->V):List (Nat×V)->List (Nat×V)
 |[]=>[]
 | (t,v)::r=>(t,g v)::RZ g r
def T6 (ts:List Nat):List (Nat×V)->List (Nat×V)
 |[]=>[]
 | (t,v)::r=>(t,if t∈ts then .undef else v)::T6 ts r
def de:St->eU->Option St
 |st,.close bs=>if bs.all (fun b=>decide (1000<=b))=true then some { e:=RZ (fzA st.heap bs) st.e,m:=fzM st.heap bs st.m } else none
 |st,.nilCell b o new esz=>match st.heap b with
  |some k=>if k.op then (match k.rows with
   |[row]=>(match row[o]? with
    |some (.lit (.slice none 0 0))=>if (st.heap new).isNone/\0<esz then some { st with m:=j7 new ⟨esz,false,[]⟩ (j7 b { k with rows:=[row.set o (.sl new 0 0)] } st.m) } else some st
    |_=>some st)
   |_=>some st) else some st
  |none=>some st
 |st,.nilTmp t new esz=>match st.get t with
  | .lit (.slice none 0 0)=>if (st.heap new).isNone/\0<esz then some { e:=j7 t (.sl new 0 0) st.e,m:=j7 new ⟨esz,false,[]⟩ st.m } else some st
  |_=>some st
 |st,.both a b=>match de st a with
  |some st1=>de st1 b
  |none=>none
 |st,.drop ts=>some { st with e:=T6 ts st.e }
def trim (live:List Nat) (st:St):St:={ st with e:=live.map fun t=>(t,st.get t) }
noncomputable def s5 (C:ce) (ow:ec) (base:Nat) (steps:List cn) (live:List Nat) (st:St):Option (bR×St):=
 match jE C ow steps base st with
 |some st'=>some (.normal,trim live st')
 |none=>none
noncomputable def Az (C:ce) (ow:ec) (base:Nat) (steps:List cn) (deps:List (List Nat)) (live:List Nat) (st:St):Option (bR×St):=
 match jx C ow base steps 0 st with
 |some (st',rs)=>if qE deps (rs.filter Rec.loud) then some (.normal,trim live st') else none
 |none=>none
noncomputable def dh (C:ce) (ow:ec):Nat->aQ->St->Option (bR×St)
 |0,_,_=>none
 |n+1,c,st=>match c with
  | .skip=>some (.normal,st)
  | .region base steps live=>s5 C ow base steps live st
  | .drawn base steps deps live=>Az C ow base steps deps live st
  | .seq a b=>match dh C ow n a st with
    |some (.normal,st')=>dh C ow n b st'
    |r=>r
  | .cond c a b=>match st.ev c with
    | .lit (.bool true)=>dh C ow n a st
    | .lit (.bool false)=>dh C ow n b st
    |_=>none
  | .block id c=>match dh C ow n c st with
    |some (.exit id',st')=>if id'=id then some (.normal,st') else some (.exit id',st')
    |r=>r
  | .loop c=>match dh C ow n c st with
    |some (.normal,st')=>dh C ow n (.loop c) st'
    |r=>r
  | .exit id=>some (.exit id,st)
  | .ret=>some (.ret,st)
  | .ghost g c=>match de st g with
    |some st'=>dh C ow n c st'
    |none=>none
inductive LI where
 |tmp (t:Nat)
 |cell (t:Nat) (agg:Option Nat)
 deriving Inhabited
structure aJ where
 ntmps:Nat
 body:aQ
 results:List LI
 keep:Bool
 raw:Bool
 deriving Inhabited
def IS (st:St):LI->Option V
 | .tmp t=>some (st.get t)
 | .cell t agg=>y4 agg st.heap (st.get t)
def m8 (st:St):List LI->Option (List V)
 |[]=>some []
 |r::rs=>match IS st r,m8 st rs with
  |some v,some vs=>some (v::vs)
  |_,_=>none
def pK (h:b8) (m:Nat) (kp:List Nat):V->Option V
 | .sl b s n=>if b<m then some (.sl b s n) else if b∈kp then some (.sl (m+kL b kp) s n) else (match pi h (.sl b s n) with
   |some (v,_)=>some v
   |none=>none)
 | .ptr b i o n=>if b<m then some (.ptr b i o n) else if b∈kp then some (.ptr (m+kL b kp) i o n) else none
 | .mp b=>if b<m then some (.mp b) else if b∈kp then some (.mp (m+kL b kp)) else none
 | .fn f []=>some (.fn f [])
 | .lit v=>some (.lit v)
 | .imm e r=>some (.imm e r)
 | .iptr r o=>some (.iptr r o)
 | .undef=>some .undef
 |_=>none
def wF (h:b8) (m:Nat) (kp:List Nat):List V->Option (List V)
 |[]=>some []
 |v::r=>match pK h m kp v,wF h m kp r with
  |some v',some r'=>some (v'::r')
  |_,_=>none
def ES (h:b8) (m:Nat) (kp:List Nat):V->Option V
 | .agg cs=>match wF h m kp cs with
   |some cs'=>some (.agg cs')
   |none=>none
 | .tup _=>none
 |v=>pK h m kp v
def wA (h:b8) (m:Nat) (kp:List Nat):List V->Option (List V)
 |[]=>some []
 |v::r=>match ES h m kp v,wA h m kp r with
  |some v',some r'=>some (v'::r')
  |_,_=>none
def Hw (h:b8) (m:Nat) (kp:List Nat):V->Option V
 | .fn f (c::cs)=>match wF h m kp (c::cs) with
   |some cs'=>some (.fn f cs')
   |none=>none
 |v=>pK h m kp v
def zl (h:b8) (m:Nat) (kp:List Nat):List V->Option (List V)
 |[]=>some []
 |v::r=>match Hw h m kp v,zl h m kp r with
  |some v',some r'=>some (v'::r')
  |_,_=>none
def uj (h:b8) (m:Nat) (kp:List Nat):List (List V)->Option (List (List V))
 |[]=>some []
 |v::r=>match zl h m kp v,uj h m kp r with
  |some v',some r'=>some (v'::r')
  |_,_=>none
def SP (h:b8) (m:Nat) (kp:List Nat) (k:Blk):Option Blk:=
 if k.op=false then some k else match uj h m kp k.rows with
  |some rows=>some { k with rows }
  |none=>none
def vC (h:b8) (m:Nat) (kp:List Nat):List Nat->Option (List Blk)
 |[]=>some []
 |b::r=>match h b with
  |some k=>match SP h m kp k,vC h m kp r with
   |some k',some r'=>some (k'::r')
   |_,_=>none
  |none=>none
def E6 (m:Nat):List Nat->List Nat->List Nat
 |acc,[]=>acc
 |acc,b::r=>E6 m (if m<=b then gi acc b else acc) r
def a5B:Option Blk->List Nat
 |some ⟨_,true,rows⟩=>rows.flatten.flatMap gN
 |_=>[]
def ml (raw:Bool) (h:b8) (m:Nat) (vs:List V):List Nat:=E6 m [] (bif raw then (List.range m).flatMap fun b=>a5B (h b) else vs.flatMap gN)
def YE:List V->V
 |[v]=>v
 |vs=> .tup vs
def kK (af:aJ) (m:Nat) (r:Option (bR×St)):Option (V×List Blk):=
 match r with
 |some (.normal,st)|some (.ret,st)=>match m8 st af.results with
  |none=>none
  |some vs=>
   let kp:=if af.keep then ml af.raw st.heap m vs else []
   match wA st.heap m kp vs,vC st.heap m kp (List.range m++kp) with
   |some vs',some bs=>if m<=1000 then some (YE vs',bs) else none
   |_,_=>none
 |_=>none
def qM {α:Type}:Nat->List α->List (Nat×α)
 |_,[]=>[]
 |n,x::r=>(n,x)::qM (n+1) r
def start (args:List V) (blks:List Blk):St:=⟨qM 0 args,qM 0 blks⟩
inductive a5F where
 |code (a:aJ)
 |ext (g:List V->List Blk->Option (V×List Blk))
abbrev Tab:=FuncId->Option a5F
def a1v (af:aJ):Option (V×List Blk)->Option (V×List Blk)
 |some (v,bs)=>some (v.czR,if af.raw then bs else bs.map Blk.cz)
 |none=>none
noncomputable def fg (T:Tab) (ow:ec):Nat->ce
 |0=>fun _ _ _=>none
 |n+1=>fun f args blks=>match T f with
  |none=>none
  |some (.code af)=>a1v af (kK af blks.length (dh (fg T ow n) ow n af.body (start args blks)))
  |some (.ext g)=>g args blks
end
end Go.AI
