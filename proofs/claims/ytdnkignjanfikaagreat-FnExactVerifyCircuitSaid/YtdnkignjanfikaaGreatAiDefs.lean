/- An abstract interpreter for the translated program: values, a local memory of numbered blocks, operations. Definitions alone. -/
import Derived.Calls
import Derived.Orders
namespace Go.AI
abbrev eO:=@Array.ext'
abbrev fh:=@Array.ext_getElem?
abbrev pu:=@Array.getElem?_append
abbrev fj:=@Array.getElem?_append_left
abbrev aL:=@Array.getElem?_eq_getElem
abbrev eK:=@Array.getElem?_eq_none
abbrev lH:=@Array.getElem?_eq_some_iff
abbrev dR:=@Array.getElem?_modify
abbrev iO:=@Array.getElem?_push
abbrev cx:=@Array.getElem?_setIfInBounds
abbrev nw:=@Array.size_append
abbrev dX:=@Array.size_setIfInBounds
abbrev gH:=@BitVec.toNat_ofInt
abbrev hU:=@Bool.and_eq_false_iff
abbrev aC:=@Bool.and_eq_true
abbrev nN:=@Bool.and_self
abbrev gt:=@Bool.and_true
abbrev pE:=@Bool.decide_and
abbrev px:=@Bool.eq_iff_iff
abbrev jO:=@Bool.false_and
abbrev bA:=@Bool.false_eq_true
abbrev ic:=@Bool.not_eq_true'
abbrev dv:=@Bool.not_false
abbrev aH:=@Bool.not_true
abbrev da:=@Bool.or_eq_true
abbrev aO:=@Bool.true_and
abbrev so:=@Int.emod_emod
abbrev mL:=@Int.emod_lt_of_pos
abbrev pO:=@Int.emod_nonneg
abbrev nI:=@Int.eq_ofNat_of_zero_le
abbrev lY:=@Int.fdiv_eq_ediv_of_nonneg
abbrev oQ:=@Int.mul_emod
abbrev pD:=@Int.natCast_mul
abbrev qP:=@Int.one_mul
abbrev gc:=@Int.pow_succ
abbrev lK:=@Int.pow_zero
abbrev aK:=@Int.toNat_natCast
abbrev ez:=@Int.toNat_of_nonneg
abbrev mE:=@List.Perm.refl
abbrev cr:=@List.all_cons
abbrev tj:=@List.all_eq_false
abbrev aB:=@List.all_eq_true
abbrev tn:=@List.any_eq_false
abbrev ix:=@List.any_eq_true
abbrev ba:=@List.append_assoc
abbrev bW:=@List.append_nil
abbrev eV:=@List.cons_append
abbrev oz:=@List.countP_cons
abbrev pp:=@List.countP_le_length
abbrev gB:=@List.drop_eq_nil_of_le
abbrev io:=@List.drop_zero
abbrev bU:=@List.eq_nil_of_length_eq_zero
abbrev ny:=@List.ext_getElem?
abbrev kn:=@List.filter_cons
abbrev pM:=@List.filter_nil
abbrev cD:=@List.flatMap_cons
abbrev rW:=@List.flatten_append
abbrev i7:=@List.foldl_append
abbrev py:=@List.foldl_cons
abbrev bp:=@List.getD_eq_getElem?_getD
abbrev bI:=@List.getElem?_append_left
abbrev bS:=@List.getElem?_append_right
abbrev jg:=@List.getElem?_cons_succ
abbrev ji:=@List.getElem?_cons_zero
abbrev gz:=@List.getElem?_drop
abbrev aq:=@List.getElem?_eq_getElem
abbrev bF:=@List.getElem?_eq_none
abbrev dh:=@List.getElem?_eq_some_iff
abbrev aV:=@List.getElem?_map
abbrev fC:=@List.getElem?_set
abbrev j8:=@List.getElem?_take
abbrev pr:=@List.getElem?_toArray
abbrev aY:=@List.getElem_mem
abbrev bq:=@List.getElem_of_mem
abbrev ab:=@List.length_append
abbrev ah:=@List.length_cons
abbrev eQ:=@List.length_drop
abbrev aM:=@List.length_map
abbrev ai:=@List.length_nil
abbrev aQ:=@List.length_replicate
abbrev bg:=@List.length_set
abbrev am:=@List.length_singleton
abbrev bi:=@List.length_take
abbrev cJ:=@List.map_append
abbrev cC:=@List.map_congr_left
abbrev aS:=@List.map_cons
abbrev jr:=@List.map_map
abbrev ee:=@List.map_nil
abbrev oy:=@List.map_toArray
abbrev aW:=@List.mem_append
abbrev bc:=@List.mem_cons
abbrev j4:=@List.mem_filter
abbrev bu:=@List.mem_map
abbrev an:=@List.mem_of_getElem?
abbrev cc:=@List.mem_of_mem_drop
abbrev cp:=@List.mem_of_mem_take
abbrev dQ:=@List.mem_or_eq_of_mem_set
abbrev bX:=@List.mem_range
abbrev gy:=@List.mem_replicate
abbrev dT:=@List.mem_singleton
abbrev bj:=@List.nil_append
abbrev jV:=@List.nodup_append
abbrev jG:=@List.nodup_nil
abbrev fJ:=@List.pairwise_append
abbrev gw:=@List.pairwise_cons
abbrev mb:=@List.pairwise_iff_getElem
abbrev gN:=@List.range_succ
abbrev lw:=@List.replicate_succ
abbrev lk:=@List.replicate_zero
abbrev fZ:=@List.reverse_append
abbrev oq:=@List.reverse_singleton
abbrev aU:=@List.singleton_append
abbrev pq:=@List.take_append_drop
abbrev bm:=@List.take_length
abbrev cq:=@List.take_of_length_le
abbrev lv:=@List.take_succ_cons
abbrev fA:=@Nat.add_assoc
abbrev jp:=@Nat.add_comm
abbrev lV:=@Nat.add_mul_mod_self_right
abbrev j7:=@Nat.add_sub_cancel
abbrev cQ:=@Nat.add_zero
abbrev pB:=@Nat.div_add_mod
abbrev ke:=@Nat.div_lt_iff_lt_mul
abbrev i5:=@Nat.eq_of_beq_eq_true
abbrev dl:=@Nat.le_of_ble_eq_true
abbrev aw:=@Nat.le_refl
abbrev mS:=@Nat.le_succ
abbrev ed:=@Nat.le_trans
abbrev bR:=@Nat.lt_of_lt_of_le
abbrev dL:=@Nat.lt_of_mul_lt_mul_right
abbrev cA:=@Nat.lt_or_ge
abbrev gK:=@Nat.min_eq_left
abbrev o0:=@Nat.mod_eq_of_lt
abbrev gG:=@Nat.mod_lt
abbrev pm:=@Nat.mul_comm
abbrev iK:=@Nat.mul_le_mul_left
abbrev bt:=@Nat.mul_le_mul_right
abbrev qE:=@Nat.mul_one
abbrev cB:=@Nat.one_mul
abbrev g8:=@Nat.pow_succ
abbrev nY:=@Nat.shiftLeft_eq
abbrev oM:=@Nat.sub_zero
abbrev cI:=@Nat.zero_add
abbrev qH:=@Nat.zero_le
abbrev lR:=@Nat.zero_mul
abbrev du:=@Option.getD_some
abbrev ej:=@Option.map_some
abbrev cZ:=@Option.some.inj
abbrev aI:=@Subtype.property
abbrev ag:=@decide_eq_false
abbrev bz:=@decide_eq_false_iff_not
abbrev al:=@decide_eq_true
abbrev aG:=@decide_eq_true_eq
abbrev aa:=@if_neg
abbrev ae:=@if_pos
abbrev gu:=@not_not_intro
abbrev jX:=@of_decide_eq_true
section
inductive V where
 |lit (v:Value)
 |agg (cs:List V)
 |tup (vs:List V)
 |ptr (b i o n:Nat)
 |sl (b s n:Nat)
 |imm (e:Nat) (rows:List (List V))
 |iptr (row:List V) (o:Nat)
 |fn (f:FuncId) (caps:List V)
 |mp (b:Nat)
 |undef
 deriving Inhabited
structure Blk where
 esz:Nat
 op:Bool
 rows:List (List V)
abbrev aZ:=Nat->Option Blk
def V.cl:V->Bool
 | .lit _| .imm _ _| .iptr _ _=>true
 | .fn _ []=>true
 |_=>false
def ck:Value->Bool
 | .agg _| .tuple _=>false
 |_=>true
def V.cell:V->Bool
 | .lit v=>ck v
 | .ptr .. | .sl .. | .imm .. | .iptr .. | .fn .. | .mp _=>true
 |_=>false
def V.cz:V->V
 | .lit (.slice none 0 0)=> .imm 1 []
 | .imm _ []=> .imm 1 []
 |v=>v
def V.czA:V->V
 | .agg cs=> .agg (cs.map V.cz)
 |v=>v.cz
def V.czR:V->V
 | .tup vs=> .tup (vs.map V.czA)
 |v=>v.czA
def Blk.cz (k:Blk):Blk:=if k.op then { k with rows:=k.rows.map (·.map V.cz) } else k
def zc (v:Value):V:=(V.lit v).cz
def V.cells:V->List V
 | .agg cs=>cs
 |v=>[v]
inductive Opd where
 |t (n:Nat)
 |c (v:Value)
 |f (k:FuncId)
 deriving Inhabited
def Opd.ev (f:Nat->V):Opd->V
 | .t n=>f n
 | .c v=> .lit v
 | .f k=> .fn k []
inductive AOp where
 |mv (x:Opd)
 |pick (c a b:Opd)
 |alloc (zero:List Value)
 |box (size:Nat) (x:Opd)
 |build (zero:List Value) (parts:List (Nat×Nat×Opd))
 |buildTwo (x y:Opd)
 |buildSlice (esz:Nat) (zero:List Value) (len:Nat) (parts:List (Nat×Opd))
 |load (agg:Option Nat) (a:Opd)
 |store (size:Nat) (a x:Opd)
 |nilCheck (x:Opd)
 |bin (op:BinOp) (x y:Opd)
 |eqAgg (neg:Bool) (ks:List Bool) (x y:Opd)
 |beq (neg:Bool) (x y:Opd)
 |un (op:UnOp) (x:Opd)
 |toInt (k:IntKind) (x:Opd)
 |same (x:Opd)
 |toBytes (x:Opd)
 |toStr (x:Opd)
 |makeFunc (f:FuncId) (caps:List Opd)
 |makeSlice (esz bytes:Nat) (zero:List Value) (len cap:Opd)
 |sliceStr (x:Opd) (lo hi:Option Opd)
 |slice (esz:Nat) (x:Opd) (lo hi mx:Option Opd)
 |off (d:Nat) (x:Opd)
 |field (d:Nat) (agg:Option Nat) (x:Opd)
 |idx (esz:Nat) (x i:Opd)
 |idxArr (len esz:Nat) (x i:Opd)
 |ixStr (x i:Opd)
 |ixAgg (len esz:Nat) (agg:Option Nat) (x i:Opd)
 |ext (x:Opd) (i:Nat)
 |len (str:Bool) (x:Opd)
 |lenArr (n:Nat) (x:Opd)
 |isNil (neg:Bool) (x:Opd)
 |append (esz bytes:Nat) (zero:List Value) (x y:Opd)
 |appendN (esz bytes:Nat) (zero:List Value) (x y:Opd)
 |copy (esz:Nat) (x y:Opd)
 |max2 (x y:Opd)
 |min2 (x y:Opd)
 |arrOf (len:Nat) (x:Opd)
 |bytesOwn (x:Opd)
 |mkMap
 |mapGet (m k:Opd)
 |mapSet (m k x:Opd)
 |mapEnt (m k:Opd)
 |mapPut (m i x:Opd)
 |call (f:FuncId) (args:List Opd)
 |dyn (f:Opd) (args:List Opd)
 deriving Inhabited
def Mq:Option Opd->List Opd
 |some x=>[x]
 |none=>[]
def AOp.opds:AOp->List Opd
 | .mv x| .box _ x| .load _ x| .nilCheck x| .un _ x| .toInt _ x| .same x| .toBytes x| .toStr x| .off _ x| .field _ _ x| .ext x _| .len _ x| .lenArr _ x| .isNil _ x| .arrOf _ x| .bytesOwn x=>[x]
 | .pick c a b=>[c,a,b]
 | .alloc _| .mkMap=>[]
 | .mapGet m k| .mapEnt m k=>[m,k]
 | .mapSet m k x| .mapPut m k x=>[m,k,x]
 | .build _ ps=>ps.map (·.2.2)
 | .buildSlice _ _ _ ps=>ps.map (·.2)
 | .store _ a x=>[a,x]
 | .buildTwo x y| .bin _ x y| .beq _ x y| .eqAgg _ _ x y| .makeSlice _ _ _ x y| .idx _ x y| .idxArr _ _ x y| .ixStr x y| .ixAgg _ _ _ x y| .append _ _ _ x y| .appendN _ _ _ x y| .copy _ x y| .max2 x y| .min2 x y=>[x,y]
 | .makeFunc _ cs=>cs
 | .sliceStr x lo hi=>x::(Mq lo++Mq hi)
 | .slice _ x lo hi mx=>x::(Mq lo++(Mq hi++Mq mx))
 | .call _ args=>args
 | .dyn f args=>f::args
def nG:Blk:=⟨0,false,[]⟩
def rZ (h:aZ):V->Option (V×List Nat)
 | .sl b s n=>match h b with
   |some k=>if k.op=false/\0<k.esz/\s+n=k.rows.length then some (.imm k.esz (k.rows.drop s),[b]) else none
   |none=>none
 |v=>if v.cl&&v.cell then some (v,[]) else none
def nJ (h:aZ):List V->Option (List V×List Nat)
 |[]=>some ([],[])
 |v::r=>match rZ h v,nJ h r with
  |some (v',bs),some (r',bs')=>some (v'.cz::r',bs++bs')
  |_,_=>none
abbrev Upd:=List (Nat×Blk)
def jo (bs:List Nat):Upd:=bs.map fun b=>(b,nG)
def bV (h:aZ) (b:Nat) (k:Blk):aZ:=fun b'=>if b'=b then some k else h b'
def fX (h:aZ):Upd->aZ
 |[]=>h
 | (b,k)::r=>fX (bV h b k) r
def eu (h:aZ) (esz:Nat):V->Option (List (List V))
 | .sl b s n=>match h b with
   |some k=>if k.op=false/\0<k.esz/\k.esz=esz/\s+n=k.rows.length then some (k.rows.drop s) else none
   |none=>none
 | .imm e rows=>if e=esz then some rows else if rows.isEmpty then some [] else none
 | .lit (.slice none 0 0)=>some []
 | .lit (.slice (some _) 0 _)=>some []
 | .lit (.string s)=>if esz=1 then some (s.data.toList.map fun b=>[.lit (.int .u8 b.toNat)]) else none
 |_=>none
def a8v:V->Bool
 | .lit (.string _)=>true
 |_=>false
def asI:V->Option Int
 | .lit (.int _ n)=>some n
 |_=>none
def cU:Nat:=1099511627776
def gZ (op:BinOp):Value->Value->Option Value
 | .int k a,.int k' b=>
   match op with
   | .shl=>if 0<=b then some (.int k (k.wrap (a*2^(min b.toNat k.bits)))) else none
   | .shr=>if 0<=b then some (.int k (a.fdiv (2^(min b.toNat k.bits)))) else none
   | .add=>if k=k' then some (.int k (k.wrap (a+b))) else none
   | .sub=>if k=k' then some (.int k (k.wrap (a-b))) else none
   | .mul=>if k=k' then some (.int k (k.wrap (a*b))) else none
   | .quo=>if k=k'/\b≠0 then some (.int k (k.wrap (a.tdiv b))) else none
   | .rem=>if k=k'/\b≠0 then some (.int k (a.tmod b)) else none
   | .and=>if k=k' then some (.int k (k.wrap (BitVec.ofInt k.bits a&&&BitVec.ofInt k.bits b).toNat)) else none
   | .or=>if k=k' then some (.int k (k.wrap (BitVec.ofInt k.bits a|||BitVec.ofInt k.bits b).toNat)) else none
   | .xor=>if k=k' then some (.int k (k.wrap (BitVec.ofInt k.bits a^^^BitVec.ofInt k.bits b).toNat)) else none
   | .andNot=>if k=k' then some (.int k (k.wrap (BitVec.ofInt k.bits a&&& ~~~ BitVec.ofInt k.bits b).toNat)) else none
   | .eql=>if k=k' then some (.bool (a==b)) else none
   | .neq=>if k=k' then some (.bool (a !=b)) else none
   | .lss=>if k=k' then some (.bool (decide (a<b))) else none
   | .leq=>if k=k' then some (.bool (decide (a<=b))) else none
   | .gtr=>if k=k' then some (.bool (decide (a>b))) else none
   | .geq=>if k=k' then some (.bool (decide (a>=b))) else none
 | .string a,.string b=>
   match op with
   | .add=>if a.size+b.size<=cU then some (.string (a++b)) else none
   | .eql=>some (.bool (a.toList==b.toList))
   | .neq=>some (.bool !(a.toList==b.toList))
   |_=>none
 |_,_=>none
def WJ (op:UnOp):Value->Option Value
 | .int k n=>match op with
   | .neg=>some (.int k (k.wrap (0-n)))
   | .xor=>some (.int k (k.wrap (BitVec.ofInt k.bits (if k.signed then-1 else k.max)^^^BitVec.ofInt k.bits n).toNat))
   |_=>none
 | .bool b=>match op with
   | .not=>some (.bool !b)
   |_=>none
 |_=>none
def i4:List Bool->List V->List V->Option Bool
 |[],[],[]=>some true
 |true::ks,.lit (.int k a)::x,.lit (.int k' b)::y=>if k=k' then (if a=b then i4 ks x y else some false) else none
 |false::ks,.lit (.string a)::x,.lit (.string b)::y=>if a=b then i4 ks x y else some false
 |_,_,_=>none
def dt (o:Option V) (dflt most:Nat):Option Nat:=
 match o with
 |none=>some dflt
 |some v=>match asI v with
  |some i=>if 0<=i/\i<=most then some i.toNat else none
  |none=>none
def Is (cells:List V):List (Nat×Nat×V)->Option (List V)
 |[]=>some cells
 | (off,size,v)::r=>
   if v.cells.length=size/\off+size<=cells.length/\v.cells.all V.cell then Is (cells.take off++(v.cells++cells.drop (off+size))) r else none
def Qr (esz:Nat) (rows:List (List V)):List (Nat×V)->Option (List (List V))
 |[]=>some rows
 | (i,v)::r=>if v.cells.length=esz/\i<rows.length/\v.cells.all V.cell then Qr esz (rows.set i v.cells) r else none
def part (agg:Option Nat) (cs:List V) (o:Nat):Option V:=
 match agg with
 |none=>cs[o]?
 |some n=>if o+n<=cs.length then some (.agg ((cs.drop o).take n)) else none
abbrev Tri:=Int×Int×Int
def bB:List Tri->List V
 |[]=>[]
 | (a,b,v)::r=> .lit (.int .i64 a):: .lit (.int .i64 b):: .lit (.int .i64 v)::bB r
def MI:List V->Option (List Tri)
 |[]=>some []
 | .lit (.int .i64 a):: .lit (.int .i64 b):: .lit (.int .i64 v)::r=>match MI r with
   |some L=>some ((a,b,v)::L)
   |none=>none
 |_=>none
theorem vA: ∀L:List Tri,MI (bB L)=some L
 |[]=>rfl
 | (a,b,v)::r=>by simp only [bB,MI,vA r]
theorem Ag: ∀{cs:List V} {L:List Tri},MI cs=some L->cs=bB L
 |[],L,h=>by simp [MI] at h;subst h;rfl
 | .lit (.int .i64 a):: .lit (.int .i64 b):: .lit (.int .i64 v)::r,L,h=>by
   simp only [MI] at h
   split at h
   ·rename_i L' h'
    cases h
    rw [Ag h'];rfl
   ·cases h
 |[_],L,h=>by simp [MI] at h
 |[_,_],L,h=>by simp [MI] at h
 |x::y::z::r,L,h=>by
  unfold MI at h
  split at h
  ·rename_i e;cases e
  ·rename_i a b v r' e
   split at h
   ·rename_i L' h'
    cases h
    cases e
    rw [Ag h'];rfl
   ·cases h
  ·cases h
def ia (a b:Int):List Tri->Int
 |[]=>0
 | (x,y,v)::r=>if a=x/\b=y then v else ia a b r
def iB (a b v:Int):List Tri->List Tri
 |[]=>[(a,b,v)]
 | (x,y,u)::r=>if a=x/\b=y then (a,b,v)::r else (x,y,u)::iB a b v r
def yL (a b:Int):List Tri->Nat
 |[]=>0
 | (x,y,_)::r=>if a=x/\b=y then 0 else yL a b r+1
def HX (a b:Int) (L:List Tri):List Tri:=if yL a b L<L.length then L else L++[(a,b,0)]
def b2o (i:Nat) (v:Int) (L:List Tri):List Tri:=L.modify i fun t=>(t.1,t.2.1,v)
def mapKey:V->Option (Int×Int)
 | .agg [.lit (.int .i64 a),.lit (.int .i64 b)]=>some (a,b)
 |_=>none
def rU (h:aZ):V->Option (Nat×List Tri)
 | .mp b=>match h b with
   |some ⟨0,true,[cs]⟩=>match MI cs with
    |some L=>some (b,L)
    |none=>none
   |_=>none
 |_=>none
abbrev cg:=FuncId->List V->List Blk->Option (V×List Blk)
def kV (b:Nat):List Nat->Nat
 |[]=>0
 |x::r=>if x=b then 0 else kV b r+1
def gx (ids:List Nat) (b:Nat):List Nat:=if b∈ids then ids else ids++[b]
def dZ (h:aZ) (own:Bool) (ids:List Nat):V->Option (V×List Nat×List Nat)
 | .lit v=>some (.lit v,ids,[])
 | .imm e r=>some (.imm e r,ids,[])
 | .iptr r o=>some (.iptr r o,ids,[])
 | .undef=>some (.undef,ids,[])
 | .fn f []=>some (.fn f [],ids,[])
 | .ptr b i o n=>match h b with
   |some k=>if k.rows.length=n then some (.ptr (kV b (gx ids b)) i o n,gx ids b,[]) else none
   |none=>none
 | .mp b=>match h b with
   |some _=>some (.mp (kV b (gx ids b)),gx ids b,[])
   |none=>none
 | .sl b s n=>match h b with
   |some k=>if s+n=k.rows.length then
    (if own then some (.sl (kV b (gx ids b)) s n,gx ids b,[]) else if k.op=false/\0<k.esz then some (.imm k.esz (k.rows.drop s),ids,[b]) else none) else none
   |none=>none
 |_=>none
def eP (h:aZ) (own:Bool):List Nat->List V->Option (List V×List Nat×List Nat)
 |ids,[]=>some ([],ids,[])
 |ids,v::r=>match dZ h own ids v with
  |some (v',ids',bs)=>match eP h own ids' r with
   |some (r',ids'',bs')=>some (v'::r',ids'',bs++bs')
   |none=>none
  |none=>none
def fU (h:aZ) (own:Bool) (ids:List Nat):V->Option (V×List Nat×List Nat)
 | .agg cs=>match eP h own ids cs with
   |some (cs',ids',bs)=>some (.agg cs',ids',bs)
   |none=>none
 | .fn f caps=>match eP h true ids caps with
   |some (cs',ids',bs)=>some (.fn f cs',ids',bs)
   |none=>none
 |v=>dZ h own ids v
def jR (h:aZ) (owns:List Nat):Nat->List Nat->List V->Option (List V×List Nat×List Nat)
 |_,ids,[]=>some ([],ids,[])
 |j,ids,v::r=>match fU h (j∈owns) ids v with
  |some (v',ids',bs)=>match jR h owns (j+1) ids' r with
   |some (r',ids'',bs')=>some (v'::r',ids'',bs++bs')
   |none=>none
  |none=>none
def rL (h:aZ):List Nat->List V->Option (List V×List Nat)
 |ids,[]=>some ([],ids)
 |ids,v::r=>match fU h true ids v with
  |some (v',ids',_)=>match rL h ids' r with
   |some (r',ids'')=>some (v'::r',ids'')
   |none=>none
  |none=>none
def pa (h:aZ):List Nat->List (List V)->Option (List (List V)×List Nat)
 |ids,[]=>some ([],ids)
 |ids,x::r=>match rL h ids x with
  |some (x',ids')=>match pa h ids' r with
   |some (r',ids'')=>some (x'::r',ids'')
   |none=>none
  |none=>none
def fM (h:aZ):Nat->Nat->List Nat->Option (List Blk×List Nat)
 |0,_,_=>none
 |fuel+1,pos,ids=>match ids[pos]? with
  |none=>some ([],ids)
  |some b=>match h b with
   |none=>none
   |some k=>
    if k.op=false then match fM h fuel (pos+1) ids with
     |some (r,ids')=>some (k::r,ids')
     |none=>none
    else match pa h ids k.rows with
     |none=>none
     |some (rows,ids1)=>match fM h fuel (pos+1) ids1 with
      |some (r,ids2)=>some ({ k with rows:=rows }::r,ids2)
      |none=>none
def unV (ids:List Nat):V->V
 | .ptr b i o n=> .ptr (ids.getD b 0) i o n
 | .sl b s n=> .sl (ids.getD b 0) s n
 | .mp b=> .mp (ids.getD b 0)
 |v=>v
def nK (ids:List Nat):V->V
 | .agg cs=> .agg (cs.map (unV ids))
 | .fn f cs=> .fn f (cs.map (unV ids))
 |v=>unV ids v
def GV (ids:List Nat):V->V
 | .tup vs=> .tup (vs.map (nK ids))
 |v=>nK ids v
def kA (ids:List Nat) (k:Blk):Blk:=if k.op=false then k else { k with rows:=k.rows.map (·.map (nK ids)) }
def su:V->Bool
 | .lit _| .ptr .. | .sl .. | .mp _| .undef=>true
 |_=>false
def ON:V->Bool
 | .agg cs=>cs.all su
 |v=>su v
def zp:V->Bool
 | .tup vs=>vs.all ON
 |v=>ON v
def BM (fl:Bool) (k:Blk):Bool:=(fl||k.op)&&k.rows.all (·.all su)
def ol:List Nat->List Blk->Upd
 |i::r,k::s=>(i,k)::ol r s
 |_,_=>[]
def ft (owns:FuncId->List Nat) (h:aZ) (f:FuncId) (args:List V):Option (List V×List Blk×List Nat×List Nat):=
 match jR h (owns f) 0 [] args with
 |none=>none
 |some (args',ids0,bor)=>match fM h 40 0 ids0 with
  |none=>none
  |some (blks,ids)=>if bor.any (fun b=>decide (b∈ids))=true then none else some (args',blks,ids,bor)
def gi:List Nat->List Blk->Nat->List Nat
 |[],[],_=>[]
 |[],_::r,n=>n::gi [] r (n+1000000)
 |_::i,_::r,n=>gi i r n
 |_::_,[],_=>[]
theorem A1: ∀{ids:List Nat} {bs:List Blk} {n:Nat},ids.length<=bs.length->(gi ids bs n).length+ids.length=bs.length
 |[],[],n,_=>rfl
 |[],_::r,n,_=>by simp only [gi,ah];have:= @A1 [] r (n+1000000) (by simp);simpa using this
 |_::i,_::r,n,h=>by simp only [gi,ah];have:= @A1 i r n (by simpa using h);omega
 |_::_,[],n,h=>by simp at h
theorem JT: ∀(ids:List Nat) (bs:List Blk) (n:Nat), ∀b∈gi ids bs n,n<=b
 |[],[],n,b,h=>by simp [gi] at h
 |[],_::r,n,b,h=>by
  simp only [gi,bc] at h
  rcases h with h|h
  ·omega
  ·have:=JT [] r (n+1000000) b h;omega
 |_::i,_::r,n,b,h=>JT i r n b h
 |_::_,[],n,b,h=>by simp [gi] at h
theorem Ke: ∀(ids:List Nat) (bs:List Blk) (n:Nat),(gi ids bs n).Nodup
 |[],[],n=>jG
 |[],_::r,n=>by
  simp only [gi,List.nodup_cons]
  exact ⟨fun h=>by have:=JT [] r (n+1000000) n h;omega,Ke [] r _⟩
 |_::i,_::r,n=>Ke i r n
 |_::_,[],n=>jG
def z6 (fl:Bool) (h:aZ) (new:Nat) (ids bor:List Nat) (r:V) (blks':List Blk):Option (V×Upd):=
 if ids.length<=blks'.length/\(gi ids blks' new).all (fun b=>(h b).isNone)=true then
  some (GV (ids++gi ids blks' new) r,ol (ids++gi ids blks' new) (blks'.map (kA (ids++gi ids blks' new)))++(if (bor.isEmpty||(zp r&&blks'.all (BM fl)))=true then [] else jo bor))
 else none
open Classical in
noncomputable def roU (h:aZ):Upd->Option Upd
 |[]=>some []
 | (b,k)::r=>match h b with
   |none=>(roU h r).map ((b,k):: ·)
   |some k'=>if k'=k then roU h r else none
noncomputable def roW (ro:Bool) (h:aZ):Option (V×Upd)->Option (V×Upd)
 |none=>none
 |some (v,u)=>if ro=true then (match roU h u with
  |some u'=>some (v,u')
  |none=>none) else some (v,u)
theorem SJ {h:aZ}: ∀{u u':Upd} {g:aZ},(∀c k,h c=some k->g c=some k)->roU h u=some u'->fX g u'=fX g u
 |[],u',g,hg,hs=>by cases hs;rfl
 | (b,k)::r,u',g,hg,hs=>by
   simp only [roU] at hs
   cases hb:h b with
   |none=>
    rw [hb] at hs;dsimp only at hs
    cases hr:roU h r with
    |none=>rw [hr] at hs;cases hs
    |some r'=>
     rw [hr] at hs;cases hs
     exact SJ (g:=bV g b k) (fun c k' hc=>by
      have:c≠b:=fun e=>by rw [e,hb] at hc;cases hc
      unfold bV;rw [aa this];exact hg c k' hc) hr
   |some k'=>
    rw [hb] at hs;dsimp only at hs
    split at hs
    ·rename_i he
     subst he
     have:bV g b k'=g:=by
      funext c;unfold bV;split
      ·rename_i hc;rw [hc,hg b k' hb]
      ·rfl
     show fX g u'=fX (bV g b k') r
     rw [this]
     exact SJ hg hs
    ·cases hs
theorem a7U {ro:Bool} {h:aZ} {x:Option (V×Upd)} {v:V} {u:Upd} (hs:roW ro h x=some (v,u)): ∃u0,x=some (v,u0)/\fX h u=fX h u0/\(ro=true->roU h u0=some u)/\(ro=false->u=u0):=by
 unfold roW at hs
 split at hs
 ·cases hs
 ·rename_i v0 u0
  split at hs
  ·rename_i hr
   split at hs
   ·rename_i u1 h1
    cases hs
    exact ⟨u0,rfl,SJ (fun _ _ h=>h) h1,fun _=>h1,fun h=>by rw [hr] at h;cases h⟩
   ·cases hs
  ·rename_i hr
   cases hs
   exact ⟨_,rfl,rfl,fun h=>absurd h hr,fun _=>rfl⟩
def vv (owns:List Nat) (args:List V):List V:=if owns.contains 1000 then args else args.map V.czA
def vd (owns:List Nat) (blks:List Blk):List Blk:=if owns.contains 1000 then blks else blks.map Blk.cz
noncomputable def oC (C:cg) (owns:FuncId->List Nat) (h:aZ) (new:Nat) (f:FuncId) (args:List V):Option (V×Upd):=
 match ft owns h f args with
 |none=>none
 |some (args',blks,ids,bor)=>match C f (vv (owns f) args') (vd (owns f) blks) with
  |none=>none
  |some (r,blks')=>roW ((owns f).contains 3000) h (z6 ((owns f).contains 2000) h new ids bor r blks')
def yM (agg:Option Nat) (h:aZ) (a:V):Option V:=
 match a with
 | .ptr b i o n=>match h b with
   |some k=>if k.rows.length=n then (match k.rows[i]? with
    |some row=>part agg row o
    |none=>none) else none
   |none=>none
 | .iptr row o=>part agg row o
 |_=>none
def ng (h:aZ) (n:Nat) (k:Blk) (v:V):Option (V×Upd):=if (h n).isNone=true/\0<k.esz then some (v,[(n,k)]) else none
def iE (ev:Opd->V):List (Nat×Nat×Opd)->List (Nat×Nat×V)
 |[]=>[]
 | (a,b,x)::r=>(a,b,ev x)::iE ev r
def eD (h:aZ) (ev:Opd->V):List (Nat×Opd)->Option (List (Nat×V)×List Nat)
 |[]=>some ([],[])
 | (i,x)::r=>match nJ h (ev x).cells,eD h ev r with
   |some (cs,bs),some (r',bs')=>some ((i,.agg cs)::r',bs++bs')
   |_,_=>none
def Kq (esz bytes:Nat) (zero:List Value) (x:V) (sb:Nat->Bool) (h:aZ) (new:Nat) (new_:List (List V)):Option (V×Upd):=
 if zero.length=esz/\0<esz/\new_.length*bytes<=cU/\new_.length*esz<=cU then
 (match x with
 | .sl b 0 n=>match h b with
   |some k=>if k.op=false/\0<k.esz/\k.esz=esz/\n=k.rows.length/\(n+new_.length)*bytes<=cU/\(n+new_.length)*esz<=cU/\sb b then
    some (.sl b 0 (n+new_.length),[(b,{ k with rows:=k.rows++new_ })]) else none
   |none=>none
 | .lit (.slice none 0 0)=>ng h new ⟨esz,false,new_⟩ (.sl new 0 new_.length)
 | .imm 0 []=>ng h new ⟨esz,false,new_⟩ (.sl new 0 new_.length)
 |_=>none) else none
noncomputable def aN (C:cg) (owns:FuncId->List Nat) (o:AOp) (ev:Opd->V) (h:aZ) (new:Nat):Option (V×Upd):=
 match o with
 | .mv x=>some (ev x,[])
 | .pick c a b=>match ev c with
   | .lit (.bool true)=>some (ev a,[])
   | .lit (.bool false)=>some (ev b,[])
   |_=>none
 | .alloc zero=>if zero.all ck then ng h new ⟨zero.length,true,[zero.map .lit]⟩ (.ptr new 0 0 1) else none
 | .box size x=>if (ev x).cells.length=size/\(ev x).cells.all V.cell then ng h new ⟨size,true,[(ev x).cells]⟩ (.ptr new 0 0 1) else none
 | .build zero parts=>if zero.all ck then (match Is (zero.map .lit) (iE ev parts) with
   |some cs=>some (.agg cs,[])
   |none=>none) else none
 | .buildTwo x y=>if (ev x).cell=true/\(ev y).cell=true then ng h new ⟨1,true,[[ev x],[ev y]]⟩ (.sl new 0 2) else none
 | .buildSlice esz zero len parts=>match eD h ev parts with
   |some (ps,bs)=>match Qr esz (List.replicate len (zero.map zc)) ps with
    |some rows=>if zero.length=esz/\zero.all ck/\len*esz<=16777216/\ ¬new∈bs then
     (match ng h new ⟨esz,false,rows⟩ (.sl new 0 len) with
      |some (v,u)=>some (v,jo bs++u)
      |none=>none) else none
    |none=>none
   |none=>none
 | .load agg a=>match yM agg h (ev a) with
   |some v=>some (v,[])
   |none=>none
 | .store size a x=>match ev a with
   | .ptr b i o n=>match h b with
     |some k=>if k.rows.length=n then (match k.rows[i]? with
      |some row=>
       if k.op then
        (if (ev x).cells.length=size/\o+size<=row.length/\(ev x).cells.all V.cell then
         some (.undef,[(b,{ k with rows:=k.rows.set i (row.take o++((ev x).cells++row.drop (o+size))) })]) else none)
       else match nJ h (ev x).cells with
        |some (cs,bs)=>if cs.length=size/\o+size<=row.length/\ ¬b∈bs then
         some (.undef,jo bs++[(b,{ k with rows:=k.rows.set i (row.take o++(cs++row.drop (o+size))) })]) else none
        |none=>none
      |none=>none) else none
     |none=>none
   |_=>none
 | .nilCheck x=>match ev x with
   | .ptr b i o n=>match h b with
     |some k=>if k.rows.length=n/\i<n then some (.ptr b i o n,[]) else none
     |none=>none
   | .iptr r o=>some (.iptr r o,[])
   | .fn f c=>some (.fn f c,[])
   |_=>none
 | .bin op x y=>match ev x,ev y with
   | .lit a,.lit b=>match gZ op a b with
     |some v=>some (.lit v,[])
     |none=>none
   |_,_=>none
 | .eqAgg neg ks x y=>match ev x,ev y with
   | .agg a,.agg b=>match i4 ks a b with
     |some r=>some (.lit (.bool (if neg then !r else r)),[])
     |none=>none
   |_,_=>none
 | .beq neg x y=>match ev x,ev y with
   | .lit (.bool a),.lit (.bool b)=>some (.lit (.bool (if neg then a !=b else a==b)),[])
   |_,_=>none
 | .un op x=>match ev x with
   | .lit a=>match WJ op a with
     |some v=>some (.lit v,[])
     |none=>none
   |_=>none
 | .toInt k x=>match asI (ev x) with
   |some n=>some (.lit (.int k (k.wrap n)),[])
   |none=>none
 | .same x=>match ev x with
   | .lit (.string s)=>some (.lit (.string s),[])
   |_=>none
 | .toBytes x=>match ev x with
   | .lit (.string s)=>if s.size<=cU then ng h new ⟨1,false,s.data.toList.map fun b=>[.lit (.int .u8 b.toNat)]⟩ (.sl new 0 s.size) else none
   |_=>none
 | .toStr x=>if a8v (ev x) then none else match eu h 1 (ev x) with
   |some rows=>match bytesOf rows with
    |some l=>some (.lit (.string ⟨l.toArray⟩),[])
    |none=>none
   |none=>none
 | .makeFunc f caps=>some (.fn f (caps.map ev),[])
 | .makeSlice esz bytes zero len cap=>match asI (ev len),asI (ev cap) with
   |some l,some c=>if 0<=l/\l<=c/\c*bytes<=cU/\c*esz<=cU/\zero.length=esz/\zero.all ck then
    ng h new ⟨esz,false,List.replicate l.toNat (zero.map zc)⟩ (.sl new 0 l.toNat) else none
   |_,_=>none
 | .sliceStr x lo hi=>match ev x with
   | .lit (.string s)=>match dt (hi.map ev) s.size s.size with
     |some b=>match dt (lo.map ev) 0 b with
      |some a=>some (.lit (.string (s.extract a b)),[])
      |none=>none
     |none=>none
   |_=>none
 | .slice esz x lo hi mx=>match mx with
   |some _=>none
   |none=>match ev x with
   | .lit (.slice none 0 0)=>match dt (hi.map ev) 0 0 with
     |some q=>match dt (lo.map ev) 0 q with
      |some _=>some (.lit (.slice none 0 0),[])
      |none=>none
     |none=>none
   | .sl b s n=>match h b with
     |some k=>if k.op=false/\0<k.esz/\k.esz=esz/\s+n=k.rows.length then (match dt (hi.map ev) n n with
      |some q=>match dt (lo.map ev) 0 q with
       |some p=>if q=n then some (.sl b (s+p) (n-p),[]) else some ((V.imm esz (((k.rows.drop s).take q).drop p)).cz,[(b,nG)])
       |none=>none
      |none=>none) else none
     |none=>none
   | .imm e rows=>if e=esz\/rows=[] then (match dt (hi.map ev) rows.length rows.length with
    |some q=>match dt (lo.map ev) 0 q with
     |some p=>some ((V.imm e ((rows.take q).drop p)).cz,[])
     |none=>none
    |none=>none) else none
   |_=>none
 | .off d x=>match ev x with
   | .ptr b i o n=>some (.ptr b i (o+d) n,[])
   | .iptr r o=>some (.iptr r (o+d),[])
   |_=>none
 | .field d agg x=>match ev x with
   | .agg cs=>match part agg cs d with
     |some v=>some (v,[])
     |none=>none
   |_=>none
 | .idx esz x i=>match asI (ev i) with
   |some i=>if 0<=i then (match ev x with
    | .sl b s n=>match h b with
      |some k=>if 0<k.esz/\k.esz=esz/\s+n=k.rows.length/\i.toNat<n then some (.ptr b (s+i.toNat) 0 k.rows.length,[]) else none
      |none=>none
    | .imm e rows=>if e=esz then (match rows[i.toNat]? with
      |some row=>some (.iptr row 0,[])
      |none=>none) else none
    |_=>none) else none
   |none=>none
 | .idxArr len esz x i=>match asI (ev i) with
   |some i=>if 0<=i/\i.toNat<len then (match ev x with
    | .ptr b j o n=>some (.ptr b j (o+i.toNat*esz) n,[])
    | .iptr r o=>some (.iptr r (o+i.toNat*esz),[])
    |_=>none) else none
   |none=>none
 | .ixStr x i=>match ev x,asI (ev i) with
   | .lit (.string s),some i=>if 0<=i then (match s.data[i.toNat]? with
     |some b=>some (.lit (.int .u8 b.toNat),[])
     |none=>none) else none
   |_,_=>none
 | .ixAgg len esz agg x i=>match ev x,asI (ev i) with
   | .agg cs,some i=>if 0<=i/\i.toNat<len then (match part agg cs (i.toNat*esz) with
     |some v=>some (v,[])
     |none=>none) else none
   |_,_=>none
 | .ext x i=>match ev x with
   | .tup vs=>match vs[i]? with
     |some v=>some (v,[])
     |none=>none
   |_=>none
 | .len str x=>match str,ev x with
   |true,.lit (.string s)=>some (.lit (.int .i64 s.size),[])
   |false,.lit (.slice _ n _)=>some (.lit (.int .i64 n),[])
   |false,.sl _ _ n=>some (.lit (.int .i64 n),[])
   |false,.imm _ rows=>some (.lit (.int .i64 rows.length),[])
   |_,_=>none
 | .lenArr n _=>some (.lit (.int .i64 n),[])
 | .isNil neg x=>match ev x with
   | .lit (.slice a _ _)=>some (.lit (.bool (if neg then !a.isNone else a.isNone)),[])
   | .imm _ (_::_)=>some (.lit (.bool neg),[])
   |_=>none
 | .append esz bytes zero x y=>match eu h esz (ev y) with
   |none=>none
   |some new_=>
    if zero.length=esz/\0<esz/\new_.length*bytes<=cU/\new_.length*esz<=cU then
    (match ev x with
    | .sl b 0 n=>match h b with
      |some k=>if k.op=false/\0<k.esz/\k.esz=esz/\n=k.rows.length/\(n+new_.length)*bytes<=cU/\(n+new_.length)*esz<=cU/\selfOk b (ev y) then
       some (.sl b 0 (n+new_.length),[(b,{ k with rows:=k.rows++new_ })]) else none
      |none=>none
    | .lit (.slice none 0 0)=>ng h new ⟨esz,false,new_⟩ (.sl new 0 new_.length)
    | .imm 0 []=>ng h new ⟨esz,false,new_⟩ (.sl new 0 new_.length)
    |_=>none) else none
 | .appendN esz bytes zero x y=>match asI (ev y) with
   |some l=>if 0<=l/\l<=1099511627776/\l*bytes<=1099511627776/\zero.all ck then Kq esz bytes zero (ev x) (fun _=>true) h new (List.replicate l.toNat (zero.map zc)) else none
   |none=>none
 | .copy esz x y=>match eu h esz (ev y),ev x with
   |some rows,.sl b s n=>match h b with
    |some k=>if k.op=false/\0<k.esz/\k.esz=esz/\s+n=k.rows.length/\selfOk b (ev y) then
     some (.lit (.int .i64 (min rows.length n)),[(b,{ k with rows:=k.rows.take s++(rows.take (min rows.length n)++k.rows.drop (s+min rows.length n)) })]) else none
    |none=>none
   |_,_=>none
 | .max2 x y=>match ev x,ev y with
   | .lit (.int k a),.lit (.int _ b)=>some (.lit (.int k (if b>a then b else a)),[])
   |_,_=>none
 | .min2 x y=>match ev x,ev y with
   | .lit (.int k a),.lit (.int _ b)=>some (.lit (.int k (if b<a then b else a)),[])
   |_,_=>none
 | .arrOf len x=>match rZ h (ev x) with
   |some (.imm _ rows,bs)=>if 0<len/\len<=rows.length then some (.iptr rows.flatten 0,jo bs) else none
   |_=>none
 | .bytesOwn x=>match ev x with
   | .sl b s n=>match h b with
     |some k=>if k.op=false/\0<k.esz/\s+n=k.rows.length/\0<n then some (.sl b s n,[(b,k)]) else none
     |none=>none
   |_=>none
 | .mkMap=>if (h new).isNone=true then some (.mp new,[(new,⟨0,true,[[]]⟩)]) else none
 | .mapGet m k=>match rU h (ev m),mapKey (ev k) with
   |some (_,L),some (a,b)=>some (.lit (.int .i64 (ia a b L)),[])
   |_,_=>none
 | .mapEnt m k=>match rU h (ev m),mapKey (ev k) with
   |some (p,L),some (a,b)=>some (.tup [.lit (.int .i64 (ia a b L)),.lit (.int .i64 (yL a b L))],[(p,⟨0,true,[bB (HX a b L)]⟩)])
   |_,_=>none
 | .mapPut m i x=>match rU h (ev m),ev i,ev x with
   |some (p,L),.lit (.int .i64 i),.lit (.int .i64 v)=>if 0<=i/\i<L.length then some (.undef,[(p,⟨0,true,[bB (b2o i.toNat v L)]⟩)]) else none
   |_,_,_=>none
 | .mapSet m k x=>match rU h (ev m),mapKey (ev k),ev x with
   |some (p,L),some (a,b),.lit (.int .i64 v)=>some (.undef,[(p,⟨0,true,[bB (iB a b v L)]⟩)])
   |_,_,_=>none
 | .call f args=>oC C owns h new f (args.map ev)
 | .dyn f args=>match ev f with
   | .fn k caps=>oC C owns h new k (args.map ev++caps)
   |_=>none
where
 bytesOf:List (List V)->Option (List UInt8)
  |[]=>some []
  |[.lit (.int .u8 n)]::r=>if 0<=n/\n<256 then (match bytesOf r with
   |some l=>some (UInt8.ofNat n.toNat::l)
   |none=>none) else none
  |_=>none
 selfOk (b:Nat):V->Bool
  | .sl b' _ _=>b !=b'
  |_=>true
end
section
def dO {α:Type}:List (Nat×α)->Nat->Option α
 |[],_=>none
 | (k,v)::r,t=>if k=t then some v else dO r t
def jf {α:Type} (k:Nat) (v:α):List (Nat×α)->List (Nat×α)
 |[]=>[(k,v)]
 | (j,u)::r=>if j=k then (j,v)::r else (j,u)::jf k v r
structure St where
 e:List (Nat×V)
 m:List (Nat×Blk)
def St.get (s:St) (t:Nat):V:=(dO s.e t).getD .undef
def St.heap (s:St):aZ:=dO s.m
def St.ev (s:St):Opd->V:=Opd.ev s.get
def St.put (s:St) (d:Option Nat) (v:V):St:=match d with
 |some d=>{ s with e:=(d,v)::s.e }
 |none=>s
def a3X (m:List (Nat×Blk)):Upd->List (Nat×Blk)
 |[]=>m
 | (b,k)::r=>a3X (jf b k m) r
def St.upd (s:St) (u:Upd):St:={ s with m:=a3X s.m u }
structure cm where
 dst:Option Nat
 op:AOp
 guard:Option (Nat×Bool)
 deriving Inhabited
def St.want (s:St):Option (Nat×Bool)->Option Bool
 |none=>some true
 |some (t,b)=>match s.get t with
  | .lit (.bool c)=>some (c==b)
  | .lit (.tuple _)=>some false
  |_=>none
abbrev en:=FuncId->List Nat
noncomputable def CF (C:cg) (ow:en) (st:St) (s:cm) (n:Nat):Option St:=
 match st.want s.guard with
 |none=>none
 |some false=>some (st.put s.dst (.lit (.tuple #[])))
 |some true=>match aN C ow s.op st.ev st.heap n with
  |some (v,u)=>some ((st.upd u).put s.dst v)
  |none=>none
noncomputable def jP (C:cg) (ow:en):List cm->Nat->St->Option St
 |[],_,st=>some st
 |s::r,n,st=>match CF C ow st s n with
  |some st'=>jP C ow r (n+1) st'
  |none=>none
structure Rec where
 i:Nat
 fp:List Nat
 wr:List Nat
def Bb:V->List Nat
 | .ptr b _ _ _=>[b]
 | .sl b _ _=>[b]
 | .mp b=>[b]
 |_=>[]
def n7:V->List Nat
 | .agg cs=>cs.flatMap Bb
 | .fn _ cs=>cs.flatMap Bb
 | .tup vs=>vs.flatMap fun| .agg cs=>cs.flatMap Bb|v=>Bb v
 |v=>Bb v
def NB (ow:en) (h:aZ) (f:FuncId) (args:List V):List Nat:=
 match ft ow h f args with
 |none=>[]
 |some (_,_,ids,bor)=>ids++bor
def m4 (ow:en) (o:AOp) (ev:Opd->V) (h:aZ):List Nat:=
 match o with
 | .call f args=>NB ow h f (args.map ev)
 | .dyn f args=>match ev f with
   | .fn k caps=>NB ow h k (args.map ev++caps)
   |_=>[]
 | .mv _| .ext _ _| .off _ _| .len _ _| .makeFunc _ _=>[]
 |o=>(o.opds.map ev).flatMap n7
def sM (h:aZ) (fp:List Nat):aZ:=fun b=>if b∈fp then h b else none
noncomputable def yO (C:cg) (ow:en) (st:St) (s:cm) (i n:Nat):Option (St×Rec):=
 match st.want s.guard with
 |none=>none
 |some false=>some (st.put s.dst (.lit (.tuple #[])),⟨i,[],[]⟩)
 |some true=>match aN C ow s.op st.ev (sM st.heap (m4 ow s.op st.ev st.heap)) n with
  |some (v,u)=>
   if (u.map (·.1)).all (fun b=>decide (b∈m4 ow s.op st.ev st.heap)||(st.heap b).isNone) then
    some ((st.upd u).put s.dst v,⟨i,m4 ow s.op st.ev st.heap,u.map (·.1)⟩) else none
  |none=>none
noncomputable def jC (C:cg) (ow:en) (base:Nat):List cm->Nat->St->Option (St×List Rec)
 |[],_,st=>some (st,[])
 |s::r,i,st=>match yO C ow st s i (base+i) with
  |some (st',rc)=>match jC C ow base r (i+1) st' with
   |some (st'',rs)=>some (st'',rc::rs)
   |none=>none
  |none=>none
def XL (p q:Rec):Bool:=p.wr.any (fun b=>b∈q.fp||b∈q.wr)||q.wr.any (· ∈p.fp)
def GE (deps:List (List Nat)) (p:Rec):List Rec->Bool
 |[]=>true
 |q::r=>(p.wr.isEmpty&&q.wr.isEmpty||(deps.getD q.i []).contains p.i|| !XL p q)&&GE deps p r
def qM (deps:List (List Nat)):List Rec->Bool
 |[]=>true
 |p::r=>GE deps p r&&qM deps r
def Rec.loud (r:Rec):Bool:= !(r.fp.isEmpty&&r.wr.isEmpty)
inductive eZ where
 |close (bs:List Nat)
 |nilCell (b o new esz:Nat)
 |nilTmp (t new esz:Nat)
 |both (a b:eZ)
 |drop (ts:List Nat)
 deriving Inhabited
inductive aP where
 |skip
 |region (base:Nat) (steps:List cm) (live:List Nat)
 |drawn (base:Nat) (steps:List cm) (deps:List (List Nat)) (live:List Nat)
 |seq (a b:aP)
 |cond (c:Opd) (a b:aP)
 |block (id:Nat) (c:aP)
 |loop (c:aP)
 |exit (id:Nat)
 |ret
 |ghost (g:eZ) (c:aP)
 deriving Inhabited
inductive bT where
 |normal
 |exit (id:Nat)
 |ret
 deriving DecidableEq,Inhabited
def okC:V->Bool
 | .lit _| .imm _ _| .iptr _ _| .ptr .. | .sl .. | .mp _| .undef=>true
 | .fn _ []=>true
 |_=>false
def fzC (h:aZ) (bs:List Nat):V->V
 | .sl b s n=>if b∈bs then (match rZ h (.sl b s n) with
   |some (v,_)=>v.cz
   |none=> .undef) else .sl b s n
 | .ptr b i o n=>if b∈bs then .undef else .ptr b i o n
 | .mp b=>if b∈bs then .undef else .mp b
 | .fn f cs=>if (cs.all okC&& !(cs.flatMap Bb).any (fun b=>decide (b∈bs)))=true then .fn f cs else .undef
 |v=>v
def fzA (h:aZ) (bs:List Nat):V->V
 | .agg cs=>if (cs.map (fzC h bs)).all V.cell then .agg (cs.map (fzC h bs)) else .undef
 | .tup _=> .undef
 |v=>fzC h bs v
def fzM (h:aZ) (bs:List Nat):List (Nat×Blk)->List (Nat×Blk)
 |[]=>[]
 | (b,k)::r=>if b∈bs then fzM h bs r else (b,if k.op then (if (k.rows.map (·.map (fzC h bs))).all (·.all V.cell) then { k with rows:=k.rows.map (·.map (fzC h bs)) } else nG) else k)::fzM h bs r
def SG (g:V->V):List (Nat×V)->List (Nat×V)
 |[]=>[]
 | (t,v)::r=>(t,g v)::SG g r
def Tg (ts:List Nat):List (Nat×V)->List (Nat×V)
 |[]=>[]
 | (t,v)::r=>(t,if t∈ts then .undef else v)::Tg ts r
def dg:St->eZ->Option St
 |st,.close bs=>if bs.all (fun b=>decide (1000<=b))=true then some { e:=SG (fzA st.heap bs) st.e,m:=fzM st.heap bs st.m } else none
 |st,.nilCell b o new esz=>match st.heap b with
  |some k=>if k.op then (match k.rows with
   |[row]=>(match row[o]? with
    |some (.lit (.slice none 0 0))=>if (st.heap new).isNone/\0<esz then some { st with m:=jf new ⟨esz,false,[]⟩ (jf b { k with rows:=[row.set o (.sl new 0 0)] } st.m) } else some st
    |_=>some st)
   |_=>some st) else some st
  |none=>some st
 |st,.nilTmp t new esz=>match st.get t with
  | .lit (.slice none 0 0)=>if (st.heap new).isNone/\0<esz then some { e:=jf t (.sl new 0 0) st.e,m:=jf new ⟨esz,false,[]⟩ st.m } else some st
  |_=>some st
 |st,.both a b=>match dg st a with
  |some st1=>dg st1 b
  |none=>none
 |st,.drop ts=>some { st with e:=Tg ts st.e }
def trim (live:List Nat) (st:St):St:={ st with e:=live.map fun t=>(t,st.get t) }
noncomputable def sh (C:cg) (ow:en) (base:Nat) (steps:List cm) (live:List Nat) (st:St):Option (bT×St):=
 match jP C ow steps base st with
 |some st'=>some (.normal,trim live st')
 |none=>none
noncomputable def Bi (C:cg) (ow:en) (base:Nat) (steps:List cm) (deps:List (List Nat)) (live:List Nat) (st:St):Option (bT×St):=
 match jC C ow base steps 0 st with
 |some (st',rs)=>if qM deps (rs.filter Rec.loud) then some (.normal,trim live st') else none
 |none=>none
noncomputable def di (C:cg) (ow:en):Nat->aP->St->Option (bT×St)
 |0,_,_=>none
 |n+1,c,st=>match c with
  | .skip=>some (.normal,st)
  | .region base steps live=>sh C ow base steps live st
  | .drawn base steps deps live=>Bi C ow base steps deps live st
  | .seq a b=>match di C ow n a st with
    |some (.normal,st')=>di C ow n b st'
    |r=>r
  | .cond c a b=>match st.ev c with
    | .lit (.bool true)=>di C ow n a st
    | .lit (.bool false)=>di C ow n b st
    |_=>none
  | .block id c=>match di C ow n c st with
    |some (.exit id',st')=>if id'=id then some (.normal,st') else some (.exit id',st')
    |r=>r
  | .loop c=>match di C ow n c st with
    |some (.normal,st')=>di C ow n (.loop c) st'
    |r=>r
  | .exit id=>some (.exit id,st)
  | .ret=>some (.ret,st)
  | .ghost g c=>match dg st g with
    |some st'=>di C ow n c st'
    |none=>none
inductive Me where
 |tmp (t:Nat)
 |cell (t:Nat) (agg:Option Nat)
 deriving Inhabited
structure aJ where
 ntmps:Nat
 body:aP
 results:List Me
 keep:Bool
 raw:Bool
 deriving Inhabited
def Iw (st:St):Me->Option V
 | .tmp t=>some (st.get t)
 | .cell t agg=>yM agg st.heap (st.get t)
def mG (st:St):List Me->Option (List V)
 |[]=>some []
 |r::rs=>match Iw st r,mG st rs with
  |some v,some vs=>some (v::vs)
  |_,_=>none
def sH (h:aZ) (m:Nat) (kp:List Nat):V->Option V
 | .sl b s n=>if b<m then some (.sl b s n) else if b∈kp then some (.sl (m+kV b kp) s n) else (match rZ h (.sl b s n) with
   |some (v,_)=>some v
   |none=>none)
 | .ptr b i o n=>if b<m then some (.ptr b i o n) else if b∈kp then some (.ptr (m+kV b kp) i o n) else none
 | .mp b=>if b<m then some (.mp b) else if b∈kp then some (.mp (m+kV b kp)) else none
 | .fn f []=>some (.fn f [])
 | .lit v=>some (.lit v)
 | .imm e r=>some (.imm e r)
 | .iptr r o=>some (.iptr r o)
 | .undef=>some .undef
 |_=>none
def xb (h:aZ) (m:Nat) (kp:List Nat):List V->Option (List V)
 |[]=>some []
 |v::r=>match sH h m kp v,xb h m kp r with
  |some v',some r'=>some (v'::r')
  |_,_=>none
def K9 (h:aZ) (m:Nat) (kp:List Nat):V->Option V
 | .agg cs=>match xb h m kp cs with
   |some cs'=>some (.agg cs')
   |none=>none
 | .tup _=>none
 |v=>sH h m kp v
def xf (h:aZ) (m:Nat) (kp:List Nat):List V->Option (List V)
 |[]=>some []
 |v::r=>match K9 h m kp v,xf h m kp r with
  |some v',some r'=>some (v'::r')
  |_,_=>none
def Nd (h:aZ) (m:Nat) (kp:List Nat):V->Option V
 | .fn f (c::cs)=>match xb h m kp (c::cs) with
   |some cs'=>some (.fn f cs')
   |none=>none
 |v=>sH h m kp v
def Aj (h:aZ) (m:Nat) (kp:List Nat):List V->Option (List V)
 |[]=>some []
 |v::r=>match Nd h m kp v,Aj h m kp r with
  |some v',some r'=>some (v'::r')
  |_,_=>none
def uF (h:aZ) (m:Nat) (kp:List Nat):List (List V)->Option (List (List V))
 |[]=>some []
 |v::r=>match Aj h m kp v,uF h m kp r with
  |some v',some r'=>some (v'::r')
  |_,_=>none
def Tk (h:aZ) (m:Nat) (kp:List Nat) (k:Blk):Option Blk:=
 if k.op=false then some k else match uF h m kp k.rows with
  |some rows=>some { k with rows }
  |none=>none
def vz (h:aZ) (m:Nat) (kp:List Nat):List Nat->Option (List Blk)
 |[]=>some []
 |b::r=>match h b with
  |some k=>match Tk h m kp k,vz h m kp r with
   |some k',some r'=>some (k'::r')
   |_,_=>none
  |none=>none
def EP (m:Nat):List Nat->List Nat->List Nat
 |acc,[]=>acc
 |acc,b::r=>EP m (if m<=b then gx acc b else acc) r
def b3C:Option Blk->List Nat
 |some ⟨_,true,rows⟩=>rows.flatten.flatMap n7
 |_=>[]
def mj (raw:Bool) (h:aZ) (m:Nat) (vs:List V):List Nat:=EP m [] (bif raw then (List.range m).flatMap fun b=>b3C (h b) else vs.flatMap n7)
def a1m:List V->V
 |[v]=>v
 |vs=> .tup vs
def kP (af:aJ) (m:Nat) (r:Option (bT×St)):Option (V×List Blk):=
 match r with
 |some (.normal,st)|some (.ret,st)=>match mG st af.results with
  |none=>none
  |some vs=>
   let kp:=if af.keep then mj af.raw st.heap m vs else []
   match xf st.heap m kp vs,vz st.heap m kp (List.range m++kp) with
   |some vs',some bs=>if m<=1000 then some (a1m vs',bs) else none
   |_,_=>none
 |_=>none
def rC {α:Type}:Nat->List α->List (Nat×α)
 |_,[]=>[]
 |n,x::r=>(n,x)::rC (n+1) r
def start (args:List V) (blks:List Blk):St:=⟨rC 0 args,rC 0 blks⟩
inductive a7E where
 |code (a:aJ)
 |ext (g:List V->List Blk->Option (V×List Blk))
abbrev Tab:=FuncId->Option a7E
def a3Q (af:aJ):Option (V×List Blk)->Option (V×List Blk)
 |some (v,bs)=>some (v.czR,if af.raw then bs else bs.map Blk.cz)
 |none=>none
noncomputable def fu (T:Tab) (ow:en):Nat->cg
 |0=>fun _ _ _=>none
 |n+1=>fun f args blks=>match T f with
  |none=>none
  |some (.code af)=>a3Q af (kP af blks.length (di (fu T ow n) ow n af.body (start args blks)))
  |some (.ext g)=>g args blks
end
end Go.AI
