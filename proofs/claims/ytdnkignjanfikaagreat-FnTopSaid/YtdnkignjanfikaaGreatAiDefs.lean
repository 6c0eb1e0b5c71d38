/- Part. -/
import Derived.Calls
import Derived.Orders
namespace Go.AI
abbrev fL:=@Array.ext'
abbrev fS:=@Array.ext_getElem?
abbrev sG:=@Array.getElem?_append
abbrev fU:=@Array.getElem?_append_left
abbrev aH:=@Array.getElem?_eq_getElem
abbrev fG:=@Array.getElem?_eq_none
abbrev nJ:=@Array.getElem?_eq_some_iff
abbrev eO:=@Array.getElem?_modify
abbrev jz:=@Array.getElem?_push
abbrev cE:=@Array.getElem?_setIfInBounds
abbrev pD:=@Array.size_append
abbrev eU:=@Array.size_setIfInBounds
abbrev ix:=@BitVec.toNat_ofInt
abbrev m7:=@Bool.and_eq_false_iff
abbrev aB:=@Bool.and_eq_true
abbrev dO:=@Bool.and_true
abbrev ub:=@Bool.false_and
abbrev bC:=@Bool.false_eq_true
abbrev j3:=@Bool.not_eq_true'
abbrev lF:=@Bool.not_false
abbrev aQ:=@Bool.not_true
abbrev dZ:=@Bool.or_eq_true
abbrev bm:=@Bool.true_and
abbrev pR:=@Int.emod_emod
abbrev cW:=@Int.emod_lt_of_pos
abbrev dD:=@Int.emod_nonneg
abbrev pQ:=@Int.eq_ofNat_of_zero_le
abbrev nF:=@Int.fdiv_eq_ediv_of_nonneg
abbrev rQ:=@Int.mul_emod
abbrev np:=@Int.natCast_mul
abbrev vx:=@Int.natCast_nonneg
abbrev u3:=@Int.one_mul
abbrev fW:=@Int.pow_succ
abbrev lf:=@Int.pow_zero
abbrev aY:=@Int.toNat_natCast
abbrev fy:=@Int.toNat_of_nonneg
abbrev oU:=@List.Perm.refl
abbrev cC:=@List.all_cons
abbrev w8:=@List.all_eq_false
abbrev an:=@List.all_eq_true
abbrev wg:=@List.any_eq_false
abbrev jm:=@List.any_eq_true
abbrev aP:=@List.append_assoc
abbrev bM:=@List.append_nil
abbrev hO:=@List.cons_append
abbrev rC:=@List.countP_cons
abbrev sH:=@List.countP_le_length
abbrev lh:=@List.drop_drop
abbrev jr:=@List.drop_eq_getElem_cons
abbrev iu:=@List.drop_eq_nil_of_le
abbrev hK:=@List.drop_zero
abbrev bN:=@List.eq_nil_of_length_eq_zero
abbrev jl:=@List.ext_getElem
abbrev vZ:=@List.ext_getElem?
abbrev mD:=@List.filter_cons
abbrev sO:=@List.filter_nil
abbrev dA:=@List.flatMap_cons
abbrev uI:=@List.flatten_append
abbrev pH:=@List.flatten_cons
abbrev gG:=@List.foldl_append
abbrev bQ:=@List.foldl_cons
abbrev jh:=@List.foldl_nil
abbrev bc:=@List.getElem?_append_left
abbrev bt:=@List.getElem?_append_right
abbrev i6:=@List.getElem?_cons_succ
abbrev ky:=@List.getElem?_cons_zero
abbrev fZ:=@List.getElem?_drop
abbrev aq:=@List.getElem?_eq_getElem
abbrev cf:=@List.getElem?_eq_none
abbrev eJ:=@List.getElem?_eq_some_iff
abbrev b6:=@List.getElem?_map
abbrev dW:=@List.getElem?_set
abbrev kw:=@List.getElem?_take
abbrev sC:=@List.getElem?_toArray
abbrev b9:=@List.getElem_mem
abbrev bp:=@List.getElem_of_mem
abbrev vf:=@List.getElem_range
abbrev a8:=@List.length_append
abbrev ab:=@List.length_cons
abbrev bP:=@List.length_drop
abbrev aw:=@List.length_map
abbrev ah:=@List.length_nil
abbrev dV:=@List.length_range
abbrev aL:=@List.length_replicate
abbrev aO:=@List.length_set
abbrev ag:=@List.length_singleton
abbrev aD:=@List.length_take
abbrev bW:=@List.map_append
abbrev bk:=@List.map_congr_left
abbrev aM:=@List.map_cons
abbrev jR:=@List.map_id
abbrev fb:=@List.map_map
abbrev eu:=@List.map_nil
abbrev vN:=@List.map_replicate
abbrev oG:=@List.map_singleton
abbrev qK:=@List.map_toArray
abbrev aJ:=@List.mem_append
abbrev aW:=@List.mem_cons
abbrev k8:=@List.mem_filter
abbrev bf:=@List.mem_map
abbrev al:=@List.mem_of_getElem?
abbrev bZ:=@List.mem_of_mem_drop
abbrev cm:=@List.mem_of_mem_take
abbrev dC:=@List.mem_or_eq_of_mem_set
abbrev bS:=@List.mem_range
abbrev io:=@List.mem_replicate
abbrev bI:=@List.mem_singleton
abbrev bA:=@List.nil_append
abbrev lN:=@List.nodup_append
abbrev lr:=@List.nodup_nil
abbrev gJ:=@List.pairwise_append
abbrev iD:=@List.pairwise_cons
abbrev o6:=@List.pairwise_iff_getElem
abbrev dY:=@List.range_succ
abbrev nR:=@List.replicate_succ
abbrev ut:=@List.replicate_zero
abbrev jG:=@List.reverse_append
abbrev vn:=@List.set_cons_succ
abbrev vp:=@List.set_cons_zero
abbrev b8:=@List.singleton_append
abbrev j0:=@List.take_append_drop
abbrev bw:=@List.take_length
abbrev aX:=@List.take_of_length_le
abbrev jE:=@List.take_succ_cons
abbrev uh:=@List.take_zero
abbrev gt:=@Nat.add_assoc
abbrev jd:=@Nat.add_comm
abbrev nw:=@Nat.add_mul_mod_self_right
abbrev cU:=@Nat.add_sub_cancel
abbrev cH:=@Nat.add_zero
abbrev sY:=@Nat.div_add_mod
abbrev qY:=@Nat.div_div_eq_div_mul
abbrev j2:=@Nat.div_lt_iff_lt_mul
abbrev iZ:=@Nat.eq_of_beq_eq_true
abbrev dG:=@Nat.le_of_ble_eq_true
abbrev am:=@Nat.le_refl
abbrev p7:=@Nat.le_succ
abbrev fT:=@Nat.le_trans
abbrev co:=@Nat.lt_of_lt_of_le
abbrev ey:=@Nat.lt_of_mul_lt_mul_right
abbrev dc:=@Nat.lt_or_ge
abbrev dp:=@Nat.min_eq_left
abbrev js:=@Nat.mod_eq_of_lt
abbrev fN:=@Nat.mod_lt
abbrev eo:=@Nat.mul_comm
abbrev jJ:=@Nat.mul_le_mul_left
abbrev bg:=@Nat.mul_le_mul_right
abbrev tR:=@Nat.mul_one
abbrev cK:=@Nat.one_mul
abbrev aZ:=@Nat.pow_succ
abbrev kN:=@Nat.pow_zero
abbrev ru:=@Nat.shiftLeft_eq
abbrev kI:=@Nat.sub_self
abbrev nv:=@Nat.sub_zero
abbrev ce:=@Nat.zero_add
abbrev tH:=@Nat.zero_le
abbrev nW:=@Nat.zero_mul
abbrev qP:=@Option.bind_some
abbrev dL:=@Option.getD_some
abbrev fj:=@Option.map_some
abbrev cS:=@Option.some.inj
abbrev aI:=@Subtype.property
abbrev ae:=@decide_eq_false
abbrev cg:=@decide_eq_false_iff_not
abbrev aj:=@decide_eq_true
abbrev aA:=@decide_eq_true_eq
abbrev a7:=@if_neg
abbrev aa:=@if_pos
abbrev mM:=@not_not_intro
abbrev gy:=@of_decide_eq_true
section
theorem obs {α β:Type} (a:α) (f:α->Option β):(some a).bind f=f a:=rfl
theorem om {P:Prop} (p:P:=by omega):P:=p
theorem sm {P:Prop} (p:P:=by simp):P:=p
theorem dmo {P:Prop} (p:P:=by dsimp only;omega):P:=p
theorem dcd {P:Prop} (p:P:=by decide):P:=p
inductive V where
 |lit (v:Value)
 |agg (cs:List V)
 |tup (vs:List V)
 |ptr (b i o n:Nat)
 |sl (b s n:Nat)
 |imm (e:Nat) (rows:List (List V))
 |iptr (row:List V) (o:Nat)
 |fn (f:FuncId) (caps:List V)
 |mp (b:Nat)
 |undef
 deriving Inhabited
structure Blk where
 esz:Nat
 op:Bool
 rows:List (List V)
abbrev ba:=Nat->Option Blk
def V.cl:V->Bool
 | .lit _| .imm _ _| .iptr _ _=>true
 | .fn _ []=>true
 |_=>false
def cD:Value->Bool
 | .agg _| .tuple _=>false
 |_=>true
def V.cell:V->Bool
 | .lit v=>cD v
 | .ptr .. | .sl .. | .imm .. | .iptr .. | .fn .. | .mp _=>true
 |_=>false
def V.cz:V->V
 | .lit (.slice none 0 0)=> .imm 1 []
 | .imm _ []=> .imm 1 []
 |v=>v
def V.czA:V->V
 | .agg cs=> .agg (cs.map V.cz)
 |v=>v.cz
def V.czR:V->V
 | .tup vs=> .tup (vs.map V.czA)
 |v=>v.czA
def Blk.cz (k:Blk):Blk:=if k.op then { k with rows:=k.rows.map (·.map V.cz) } else k
def zc (v:Value):V:=(V.lit v).cz
def V.cells:V->List V
 | .agg cs=>cs
 |v=>[v]
inductive Opd where
 |t (n:Nat)
 |c (v:Value)
 |f (k:FuncId)
 deriving Inhabited
def Opd.ev (f:Nat->V):Opd->V
 | .t n=>f n
 | .c v=> .lit v
 | .f k=> .fn k []
inductive AOp where
 |mv (x:Opd)
 |pick (c a b:Opd)
 |alloc (zero:List Value)
 |box (size:Nat) (x:Opd)
 |build (zero:List Value) (parts:List (Nat×Nat×Opd))
 |buildTwo (x y:Opd)
 |buildSlice (esz:Nat) (zero:List Value) (len:Nat) (parts:List (Nat×Opd))
 |load (agg:Option Nat) (a:Opd)
 |store (size:Nat) (a x:Opd)
 |nilCheck (x:Opd)
 |bin (op:BinOp) (x y:Opd)
 |eqAgg (neg:Bool) (ks:List Bool) (x y:Opd)
 |beq (neg:Bool) (x y:Opd)
 |un (op:UnOp) (x:Opd)
 |toInt (k:IntKind) (x:Opd)
 |same (x:Opd)
 |toBytes (x:Opd)
 |toStr (x:Opd)
 |makeFunc (f:FuncId) (caps:List Opd)
 |makeSlice (esz bytes:Nat) (zero:List Value) (len cap:Opd)
 |sliceStr (x:Opd) (lo hi:Option Opd)
 |slice (esz:Nat) (x:Opd) (lo hi mx:Option Opd)
 |off (d:Nat) (x:Opd)
 |field (d:Nat) (agg:Option Nat) (x:Opd)
 |idx (esz:Nat) (x i:Opd)
 |idxArr (len esz:Nat) (x i:Opd)
 |ixStr (x i:Opd)
 |ixAgg (len esz:Nat) (agg:Option Nat) (x i:Opd)
 |ext (x:Opd) (i:Nat)
 |len (str:Bool) (x:Opd)
 |lenArr (n:Nat) (x:Opd)
 |isNil (neg:Bool) (x:Opd)
 |append (esz bytes:Nat) (zero:List Value) (x y:Opd)
 |appendN (esz bytes:Nat) (zero:List Value) (x y:Opd)
 |copy (esz:Nat) (x y:Opd)
 |max2 (x y:Opd)
 |min2 (x y:Opd)
 |arrOf (len:Nat) (x:Opd)
 |bytesOwn (x:Opd)
 |mkMap
 |mapGet (m k:Opd)
 |mapSet (m k x:Opd)
 |mapEnt (m k:Opd)
 |mapPut (m i x:Opd)
 |call (f:FuncId) (args:List Opd)
 |dyn (f:Opd) (args:List Opd)
 deriving Inhabited
def M0:Option Opd->List Opd
 |some x=>[x]
 |none=>[]
def AOp.opds:AOp->List Opd
 | .mv x| .box _ x| .load _ x| .nilCheck x| .un _ x| .toInt _ x| .same x| .toBytes x| .toStr x| .off _ x| .field _ _ x| .ext x _| .len _ x| .lenArr _ x| .isNil _ x| .arrOf _ x| .bytesOwn x=>[x]
 | .pick c a b=>[c,a,b]
 | .alloc _| .mkMap=>[]
 | .mapGet m k| .mapEnt m k=>[m,k]
 | .mapSet m k x| .mapPut m k x=>[m,k,x]
 | .build _ ps=>ps.map (·.2.2)
 | .buildSlice _ _ _ ps=>ps.map (·.2)
 | .store _ a x=>[a,x]
 | .buildTwo x y| .bin _ x y| .beq _ x y| .eqAgg _ _ x y| .makeSlice _ _ _ x y| .idx _ x y| .idxArr _ _ x y| .ixStr x y| .ixAgg _ _ _ x y| .append _ _ _ x y| .appendN _ _ _ x y| .copy _ x y| .max2 x y| .min2 x y=>[x,y]
 | .makeFunc _ cs=>cs
 | .sliceStr x lo hi=>x::(M0 lo++M0 hi)
 | .slice _ x lo hi mx=>x::(M0 lo++(M0 hi++M0 mx))
 | .call _ args=>args
 | .dyn f args=>f::args
def kf:Blk:=⟨0,false,[]⟩
def uO (h:ba):V->Option (V×List Nat)
 | .sl b s n=>match h b with
   |some k=>if k.op=false/\0<k.esz/\s+n=k.rows.length then some (.imm k.esz (k.rows.drop s),[b]) else none
   |none=>none
 |v=>if v.cl&&v.cell then some (v,[]) else none
def pK (h:ba):List V->Option (List V×List Nat)
 |[]=>some ([],[])
 |v::r=>match uO h v,pK h r with
  |some (v',bs),some (r',bs')=>some (v'.cz::r',bs++bs')
  |_,_=>none
abbrev Upd:=List (Nat×Blk)
def ka (bs:List Nat):Upd:=bs.map fun b=>(b,kf)
def ci (h:ba) (b:Nat) (k:Blk):ba:=fun b'=>if b'=b then some k else h b'
def hU (h:ba):Upd->ba
 |[]=>h
 | (b,k)::r=>hU (ci h b k) r
def fm (h:ba) (esz:Nat):V->Option (List (List V))
 | .sl b s n=>match h b with
   |some k=>if k.op=false/\0<k.esz/\k.esz=esz/\s+n=k.rows.length then some (k.rows.drop s) else none
   |none=>none
 | .imm e rows=>if e=esz then some rows else if rows.isEmpty then some [] else none
 | .lit (.slice none 0 0)=>some []
 | .lit (.slice (some _) 0 _)=>some []
 | .lit (.string s)=>if esz=1 then some (s.data.toList.map fun b=>[.lit (.int .u8 b.toNat)]) else none
 |_=>none
def a6o:V->Bool
 | .lit (.string _)=>true
 |_=>false
def asI:V->Option Int
 | .lit (.int _ n)=>some n
 |_=>none
def dz:Nat:=1099511627776
def jb (op:BinOp):Value->Value->Option Value
 | .int k a,.int k' b=>
   match op with
   | .shl=>if 0<=b then some (.int k (k.wrap (a*2^(min b.toNat k.bits)))) else none
   | .shr=>if 0<=b then some (.int k (a.fdiv (2^(min b.toNat k.bits)))) else none
   | .add=>if k=k' then some (.int k (k.wrap (a+b))) else none
   | .sub=>if k=k' then some (.int k (k.wrap (a-b))) else none
   | .mul=>if k=k' then some (.int k (k.wrap (a*b))) else none
   | .quo=>if k=k'/\b≠0 then some (.int k (k.wrap (a.tdiv b))) else none
   | .rem=>if k=k'/\b≠0 then some (.int k (a.tmod b)) else none
   | .and=>if k=k' then some (.int k (k.wrap (BitVec.ofInt k.bits a&&&BitVec.ofInt k.bits b).toNat)) else none
   | .or=>if k=k' then some (.int k (k.wrap (BitVec.ofInt k.bits a|||BitVec.ofInt k.bits b).toNat)) else none
   | .xor=>if k=k' then some (.int k (k.wrap (BitVec.ofInt k.bits a^^^BitVec.ofInt k.bits b).toNat)) else none
   | .andNot=>if k=k' then some (.int k (k.wrap (BitVec.ofInt k.bits a&&& ~~~ BitVec.ofInt k.bits b).toNat)) else none
   | .eql=>if k=k' then some (.bool (a==b)) else none
   | .neq=>if k=k' then some (.bool (a !=b)) else none
   | .lss=>if k=k' then some (.bool (decide (a<b))) else none
   | .leq=>if k=k' then some (.bool (decide (a<=b))) else none
   | .gtr=>if k=k' then some (.bool (decide (a>b))) else none
   | .geq=>if k=k' then some (.bool (decide (a>=b))) else none
 | .string a,.string b=>
   match op with
   | .add=>if a.size+b.size<=dz then some (.string (a++b)) else none
   | .eql=>some (.bool (a.toList==b.toList))
   | .neq=>some (.bool !(a.toList==b.toList))
   |_=>none
 |_,_=>none
def Vn (op:UnOp):Value->Option Value
 | .int k n=>match op with
   | .neg=>some (.int k (k.wrap (0-n)))
   | .xor=>some (.int k (k.wrap (BitVec.ofInt k.bits (if k.signed then-1 else k.max)^^^BitVec.ofInt k.bits n).toNat))
   |_=>none
 | .bool b=>match op with
   | .not=>some (.bool !b)
   |_=>none
 |_=>none
def iX:List Bool->List V->List V->Option Bool
 |[],[],[]=>some true
 |true::ks,.lit (.int k a)::x,.lit (.int k' b)::y=>if k=k' then (if a=b then iX ks x y else some false) else none
 |false::ks,.lit (.string a)::x,.lit (.string b)::y=>if a=b then iX ks x y else some false
 |_,_,_=>none
def dM (o:Option V) (dflt most:Nat):Option Nat:=
 match o with
 |none=>some dflt
 |some v=>match asI v with
  |some i=>if 0<=i/\i<=most then some i.toNat else none
  |none=>none
def Jg (cells:List V):List (Nat×Nat×V)->Option (List V)
 |[]=>some cells
 | (off,size,v)::r=>
   if v.cells.length=size/\off+size<=cells.length/\v.cells.all V.cell then Jg (cells.take off++(v.cells++cells.drop (off+size))) r else none
def T4 (esz:Nat) (rows:List (List V)):List (Nat×V)->Option (List (List V))
 |[]=>some rows
 | (i,v)::r=>if v.cells.length=esz/\i<rows.length/\v.cells.all V.cell then T4 esz (rows.set i v.cells) r else none
def part (agg:Option Nat) (cs:List V) (o:Nat):Option V:=
 match agg with
 |none=>cs[o]?
 |some n=>if o+n<=cs.length then some (.agg ((cs.drop o).take n)) else none
abbrev Tri:=Int×Int×Int
def bH:List Tri->List V
 |[]=>[]
 | (a,b,v)::r=> .lit (.int .i64 a):: .lit (.int .i64 b):: .lit (.int .i64 v)::bH r
def NQ:List V->Option (List Tri)
 |[]=>some []
 | .lit (.int .i64 a):: .lit (.int .i64 b):: .lit (.int .i64 v)::r=>match NQ r with
   |some L=>some ((a,b,v)::L)
   |none=>none
 |_=>none
theorem yp: ∀L:List Tri,NQ (bH L)=some L
 |[]=>rfl
 | (a,b,v)::r=>by simp only [bH,NQ,yp r]
theorem Bi: ∀{cs:List V} {L:List Tri},NQ cs=some L->cs=bH L
 |[],L,h=>by simp [NQ] at h;subst h;rfl
 | .lit (.int .i64 a):: .lit (.int .i64 b):: .lit (.int .i64 v)::r,L,h=>by
   simp only [NQ] at h
   split at h
   ·rename_i L' h'
    cases h
    rw [Bi h'];rfl
   ·cases h
 |[_],L,h=>by simp [NQ] at h
 |[_,_],L,h=>by simp [NQ] at h
 |x::y::z::r,L,h=>by
  unfold NQ at h
  split at h
  ·rename_i e;cases e
  ·rename_i a b v r' e
   split at h
   ·rename_i L' h'
    cases h
    cases e
    rw [Bi h'];rfl
   ·cases h
  ·cases h
def j5 (a b:Int):List Tri->Int
 |[]=>0
 | (x,y,v)::r=>if a=x/\b=y then v else j5 a b r
def jp (a b v:Int):List Tri->List Tri
 |[]=>[(a,b,v)]
 | (x,y,u)::r=>if a=x/\b=y then (a,b,v)::r else (x,y,u)::jp a b v r
def Ae (a b:Int):List Tri->Nat
 |[]=>0
 | (x,y,_)::r=>if a=x/\b=y then 0 else Ae a b r+1
def If (a b:Int) (L:List Tri):List Tri:=if Ae a b L<L.length then L else L++[(a,b,0)]
def b3v (i:Nat) (v:Int) (L:List Tri):List Tri:=L.modify i fun t=>(t.1,t.2.1,v)
def mapKey:V->Option (Int×Int)
 | .agg [.lit (.int .i64 a),.lit (.int .i64 b)]=>some (a,b)
 |_=>none
def uo (h:ba):V->Option (Nat×List Tri)
 | .mp b=>match h b with
   |some ⟨0,true,[cs]⟩=>match NQ cs with
    |some L=>some (b,L)
    |none=>none
   |_=>none
 |_=>none
abbrev cr:=FuncId->List V->List Blk->Option (V×List Blk)
def n3 (b:Nat):List Nat->Nat
 |[]=>0
 |x::r=>if x=b then 0 else n3 b r+1
def iA (ids:List Nat) (b:Nat):List Nat:=if b∈ids then ids else ids++[b]
def fq (h:ba) (own:Bool) (ids:List Nat):V->Option (V×List Nat×List Nat)
 | .lit v=>some (.lit v,ids,[])
 | .imm e r=>some (.imm e r,ids,[])
 | .iptr r o=>some (.iptr r o,ids,[])
 | .undef=>some (.undef,ids,[])
 | .fn f []=>some (.fn f [],ids,[])
 | .ptr b i o n=>match h b with
   |some k=>if k.rows.length=n then some (.ptr (n3 b (iA ids b)) i o n,iA ids b,[]) else none
   |none=>none
 | .mp b=>match h b with
   |some _=>some (.mp (n3 b (iA ids b)),iA ids b,[])
   |none=>none
 | .sl b s n=>match h b with
   |some k=>if s+n=k.rows.length then
    (if own then some (.sl (n3 b (iA ids b)) s n,iA ids b,[]) else if k.op=false/\0<k.esz then some (.imm k.esz (k.rows.drop s),ids,[b]) else none) else none
   |none=>none
 |_=>none
def fI (h:ba) (own:Bool):List Nat->List V->Option (List V×List Nat×List Nat)
 |ids,[]=>some ([],ids,[])
 |ids,v::r=>match fq h own ids v with
  |some (v',ids',bs)=>match fI h own ids' r with
   |some (r',ids'',bs')=>some (v'::r',ids'',bs++bs')
   |none=>none
  |none=>none
def hJ (h:ba) (own:Bool) (ids:List Nat):V->Option (V×List Nat×List Nat)
 | .agg cs=>match fI h own ids cs with
   |some (cs',ids',bs)=>some (.agg cs',ids',bs)
   |none=>none
 | .fn f caps=>match fI h true ids caps with
   |some (cs',ids',bs)=>some (.fn f cs',ids',bs)
   |none=>none
 |v=>fq h own ids v
def lL (h:ba) (owns:List Nat):Nat->List Nat->List V->Option (List V×List Nat×List Nat)
 |_,ids,[]=>some ([],ids,[])
 |j,ids,v::r=>match hJ h (j∈owns) ids v with
  |some (v',ids',bs)=>match lL h owns (j+1) ids' r with
   |some (r',ids'',bs')=>some (v'::r',ids'',bs++bs')
   |none=>none
  |none=>none
def uE (h:ba):List Nat->List V->Option (List V×List Nat)
 |ids,[]=>some ([],ids)
 |ids,v::r=>match hJ h true ids v with
  |some (v',ids',_)=>match uE h ids' r with
   |some (r',ids'')=>some (v'::r',ids'')
   |none=>none
  |none=>none
def rR (h:ba):List Nat->List (List V)->Option (List (List V)×List Nat)
 |ids,[]=>some ([],ids)
 |ids,x::r=>match uE h ids x with
  |some (x',ids')=>match rR h ids' r with
   |some (r',ids'')=>some (x'::r',ids'')
   |none=>none
  |none=>none
def gN (h:ba):Nat->Nat->List Nat->Option (List Blk×List Nat)
 |0,_,_=>none
 |fuel+1,pos,ids=>match ids[pos]? with
  |none=>some ([],ids)
  |some b=>match h b with
   |none=>none
   |some k=>
    if k.op=false then match gN h fuel (pos+1) ids with
     |some (r,ids')=>some (k::r,ids')
     |none=>none
    else match rR h ids k.rows with
     |none=>none
     |some (rows,ids1)=>match gN h fuel (pos+1) ids1 with
      |some (r,ids2)=>some ({ k with rows:=rows }::r,ids2)
      |none=>none
def unV (ids:List Nat):V->V
 | .ptr b i o n=> .ptr (ids.getD b 0) i o n
 | .sl b s n=> .sl (ids.getD b 0) s n
 | .mp b=> .mp (ids.getD b 0)
 |v=>v
def qj (ids:List Nat):V->V
 | .agg cs=> .agg (cs.map (unV ids))
 | .fn f cs=> .fn f (cs.map (unV ids))
 |v=>unV ids v
def Jl (ids:List Nat):V->V
 | .tup vs=> .tup (vs.map (qj ids))
 |v=>qj ids v
def ms (ids:List Nat) (k:Blk):Blk:=if k.op=false then k else { k with rows:=k.rows.map (·.map (qj ids)) }
def vB:V->Bool
 | .lit _| .ptr .. | .sl .. | .mp _| .undef=>true
 |_=>false
def SR:V->Bool
 | .agg cs=>cs.all vB
 |v=>vB v
def BU:V->Bool
 | .tup vs=>vs.all SR
 |v=>SR v
def CN (fl:Bool) (k:Blk):Bool:=(fl||k.op)&&k.rows.all (·.all vB)
def ra:List Nat->List Blk->Upd
 |i::r,k::s=>(i,k)::ra r s
 |_,_=>[]
def gi (owns:FuncId->List Nat) (h:ba) (f:FuncId) (args:List V):Option (List V×List Blk×List Nat×List Nat):=
 match lL h (owns f) 0 [] args with
 |none=>none
 |some (args',ids0,bor)=>match gN h 40 0 ids0 with
  |none=>none
  |some (blks,ids)=>if bor.any (fun b=>decide (b∈ids))=true then none else some (args',blks,ids,bor)
def i8:List Nat->List Blk->Nat->List Nat
 |[],[],_=>[]
 |[],_::r,n=>n::i8 [] r (n+1000000)
 |_::i,_::r,n=>i8 i r n
 |_::_,[],_=>[]
theorem Bf: ∀{ids:List Nat} {bs:List Blk} {n:Nat},ids.length<=bs.length->(i8 ids bs n).length+ids.length=bs.length
 |[],[],n,_=>rfl
 |[],_::r,n,_=>by simp only [i8,ab];have:= @Bf [] r (n+1000000) sm;simpa using this
 |_::i,_::r,n,h=>by simp only [i8,ab];have:= @Bf i r n (by simpa using h);omega
 |_::_,[],n,h=>by simp at h
theorem K6: ∀(ids:List Nat) (bs:List Blk) (n:Nat), ∀b∈i8 ids bs n,n<=b
 |[],[],n,b,h=>by simp [i8] at h
 |[],_::r,n,b,h=>by
  simp only [i8,aW] at h
  rcases h with h|h
  ·omega
  ·have:=K6 [] r (n+1000000) b h;omega
 |_::i,_::r,n,b,h=>K6 i r n b h
 |_::_,[],n,b,h=>by simp [i8] at h
theorem Jx: ∀(ids:List Nat) (bs:List Blk) (n:Nat),(i8 ids bs n).Nodup
 |[],[],n=>lr
 |[],_::r,n=>by
  simp only [i8,List.nodup_cons]
  exact ⟨fun h=>by have:=K6 [] r (n+1000000) n h;omega,Jx [] r _⟩
 |_::i,_::r,n=>Jx i r n
 |_::_,[],n=>lr
def A5 (fl:Bool) (h:ba) (new:Nat) (ids bor:List Nat) (r:V) (blks':List Blk):Option (V×Upd):=
 if ids.length<=blks'.length/\(i8 ids blks' new).all (fun b=>(h b).isNone)=true then
  some (Jl (ids++i8 ids blks' new) r,ra (ids++i8 ids blks' new) (blks'.map (ms (ids++i8 ids blks' new)))++(if (bor.isEmpty||(BU r&&blks'.all (CN fl)))=true then [] else ka bor))
 else none
open Classical in
noncomputable def roU (h:ba):Upd->Option Upd
 |[]=>some []
 | (b,k)::r=>match h b with
   |none=>(roU h r).map ((b,k):: ·)
   |some k'=>if k'=k then roU h r else none
noncomputable def roW (ro:Bool) (h:ba):Option (V×Upd)->Option (V×Upd)
 |none=>none
 |some (v,u)=>if ro=true then (match roU h u with
  |some u'=>some (v,u')
  |none=>none) else some (v,u)
theorem Rl {h:ba}: ∀{u u':Upd} {g:ba},(∀c k,h c=some k->g c=some k)->roU h u=some u'->hU g u'=hU g u
 |[],u',g,hg,hs=>by cases hs;rfl
 | (b,k)::r,u',g,hg,hs=>by
   simp only [roU] at hs
   cases hb:h b with
   |none=>
    rw [hb] at hs;dsimp only at hs
    cases hr:roU h r with
    |none=>rw [hr] at hs;cases hs
    |some r'=>
     rw [hr] at hs;cases hs
     exact Rl (g:=ci g b k) (fun c k' hc=>by
      have:c≠b:=fun e=>by rw [e,hb] at hc;cases hc
      unfold ci;rw [a7 this];exact hg c k' hc) hr
   |some k'=>
    rw [hb] at hs;dsimp only at hs
    split at hs
    ·rename_i he
     subst he
     have:ci g b k'=g:=by
      funext c;unfold ci;split
      ·rename_i hc;rw [hc,hg b k' hb]
      ·rfl
     show hU g u'=hU (ci g b k') r
     rw [this]
     exact Rl hg hs
    ·cases hs
theorem a6k {ro:Bool} {h:ba} {x:Option (V×Upd)} {v:V} {u:Upd} (a:roW ro h x=some (v,u)): ∃b,x=some (v,b)/\hU h u=hU h b/\(ro=true->roU h b=some u)/\(ro=false->u=b):=by
 unfold roW at a
 split at a
 ·cases a
 ·rename_i e b
  split at a
  ·rename_i c
   split at a
   ·rename_i f d
    cases a
    exact ⟨b,rfl,Rl (fun _ _ h=>h) d,fun _=>d,fun h=>by rw [c] at h;cases h⟩
   ·cases a
  ·rename_i c
   cases a
   exact ⟨_,rfl,rfl,fun h=>absurd h c,fun _=>rfl⟩
def xE (owns:List Nat) (args:List V):List V:=if owns.contains 1000 then args else args.map V.czA
def xf (owns:List Nat) (blks:List Blk):List Blk:=if owns.contains 1000 then blks else blks.map Blk.cz
noncomputable def qC (C:cr) (owns:FuncId->List Nat) (h:ba) (new:Nat) (f:FuncId) (args:List V):Option (V×Upd):=
 match gi owns h f args with
 |none=>none
 |some (args',blks,ids,bor)=>match C f (xE (owns f) args') (xf (owns f) blks) with
  |none=>none
  |some (r,blks')=>roW ((owns f).contains 3000) h (A5 ((owns f).contains 2000) h new ids bor r blks')
def Ac (agg:Option Nat) (h:ba) (a:V):Option V:=
 match a with
 | .ptr b i o n=>match h b with
   |some k=>if k.rows.length=n then (match k.rows[i]? with
    |some row=>part agg row o
    |none=>none) else none
   |none=>none
 | .iptr row o=>part agg row o
 |_=>none
def pc (h:ba) (n:Nat) (k:Blk) (v:V):Option (V×Upd):=if (h n).isNone=true/\0<k.esz then some (v,[(n,k)]) else none
def jH (ev:Opd->V):List (Nat×Nat×Opd)->List (Nat×Nat×V)
 |[]=>[]
 | (a,b,x)::r=>(a,b,ev x)::jH ev r
def fA (h:ba) (ev:Opd->V):List (Nat×Opd)->Option (List (Nat×V)×List Nat)
 |[]=>some ([],[])
 | (i,x)::r=>match pK h (ev x).cells,fA h ev r with
   |some (cs,bs),some (r',bs')=>some ((i,.agg cs)::r',bs++bs')
   |_,_=>none
def Np (esz bytes:Nat) (zero:List Value) (x:V) (sb:Nat->Bool) (h:ba) (new:Nat) (new_:List (List V)):Option (V×Upd):=
 if zero.length=esz/\0<esz/\new_.length*bytes<=dz/\new_.length*esz<=dz then
 (match x with
 | .sl b 0 n=>match h b with
   |some k=>if k.op=false/\0<k.esz/\k.esz=esz/\n=k.rows.length/\(n+new_.length)*bytes<=dz/\(n+new_.length)*esz<=dz/\sb b then
    some (.sl b 0 (n+new_.length),[(b,{ k with rows:=k.rows++new_ })]) else none
   |none=>none
 | .lit (.slice none 0 0)=>pc h new ⟨esz,false,new_⟩ (.sl new 0 new_.length)
 | .imm 0 []=>pc h new ⟨esz,false,new_⟩ (.sl new 0 new_.length)
 |_=>none) else none
noncomputable def aK (C:cr) (owns:FuncId->List Nat) (o:AOp) (ev:Opd->V) (h:ba) (new:Nat):Option (V×Upd):=
 match o with
 | .mv x=>some (ev x,[])
 | .pick c a b=>match ev c with
   | .lit (.bool true)=>some (ev a,[])
   | .lit (.bool false)=>some (ev b,[])
   |_=>none
 | .alloc zero=>if zero.all cD then pc h new ⟨zero.length,true,[zero.map .lit]⟩ (.ptr new 0 0 1) else none
 | .box size x=>if (ev x).cells.length=size/\(ev x).cells.all V.cell then pc h new ⟨size,true,[(ev x).cells]⟩ (.ptr new 0 0 1) else none
 | .build zero parts=>if zero.all cD then (match Jg (zero.map .lit) (jH ev parts) with
   |some cs=>some (.agg cs,[])
   |none=>none) else none
 | .buildTwo x y=>if (ev x).cell=true/\(ev y).cell=true then pc h new ⟨1,true,[[ev x],[ev y]]⟩ (.sl new 0 2) else none
 | .buildSlice esz zero len parts=>match fA h ev parts with
   |some (ps,bs)=>match T4 esz (List.replicate len (zero.map zc)) ps with
    |some rows=>if zero.length=esz/\zero.all cD/\len*esz<=16777216/\ ¬new∈bs then
     (match pc h new ⟨esz,false,rows⟩ (.sl new 0 len) with
      |some (v,u)=>some (v,ka bs++u)
      |none=>none) else none
    |none=>none
   |none=>none
 | .load agg a=>match Ac agg h (ev a) with
   |some v=>some (v,[])
   |none=>none
 | .store size a x=>match ev a with
   | .ptr b i o n=>match h b with
     |some k=>if k.rows.length=n then (match k.rows[i]? with
      |some row=>
       if k.op then
        (if (ev x).cells.length=size/\o+size<=row.length/\(ev x).cells.all V.cell then
         some (.undef,[(b,{ k with rows:=k.rows.set i (row.take o++((ev x).cells++row.drop (o+size))) })]) else none)
       else match pK h (ev x).cells with
        |some (cs,bs)=>if cs.length=size/\o+size<=row.length/\ ¬b∈bs then
         some (.undef,ka bs++[(b,{ k with rows:=k.rows.set i (row.take o++(cs++row.drop (o+size))) })]) else none
        |none=>none
      |none=>none) else none
     |none=>none
   |_=>none
 | .nilCheck x=>match ev x with
   | .ptr b i o n=>match h b with
     |some k=>if k.rows.length=n/\i<n then some (.ptr b i o n,[]) else none
     |none=>none
   | .iptr r o=>some (.iptr r o,[])
   | .fn f c=>some (.fn f c,[])
   |_=>none
 | .bin op x y=>match ev x,ev y with
   | .lit a,.lit b=>match jb op a b with
     |some v=>some (.lit v,[])
     |none=>none
   |_,_=>none
 | .eqAgg neg ks x y=>match ev x,ev y with
   | .agg a,.agg b=>match iX ks a b with
     |some r=>some (.lit (.bool (if neg then !r else r)),[])
     |none=>none
   |_,_=>none
 | .beq neg x y=>match ev x,ev y with
   | .lit (.bool a),.lit (.bool b)=>some (.lit (.bool (if neg then a !=b else a==b)),[])
   |_,_=>none
 | .un op x=>match ev x with
   | .lit a=>match Vn op a with
     |some v=>some (.lit v,[])
     |none=>none
   |_=>none
 | .toInt k x=>match asI (ev x) with
   |some n=>some (.lit (.int k (k.wrap n)),[])
   |none=>none
 | .same x=>match ev x with
   | .lit (.string s)=>some (.lit (.string s),[])
   |_=>none
 | .toBytes x=>match ev x with
   | .lit (.string s)=>if s.size<=dz then pc h new ⟨1,false,s.data.toList.map fun b=>[.lit (.int .u8 b.toNat)]⟩ (.sl new 0 s.size) else none
   |_=>none
 | .toStr x=>if a6o (ev x) then none else match fm h 1 (ev x) with
   |some rows=>match bytesOf rows with
    |some l=>some (.lit (.string ⟨l.toArray⟩),[])
    |none=>none
   |none=>none
 | .makeFunc f caps=>some (.fn f (caps.map ev),[])
 | .makeSlice esz bytes zero len cap=>match asI (ev len),asI (ev cap) with
   |some l,some c=>if 0<=l/\l<=c/\c*bytes<=dz/\c*esz<=dz/\zero.length=esz/\zero.all cD then
    pc h new ⟨esz,false,List.replicate l.toNat (zero.map zc)⟩ (.sl new 0 l.toNat) else none
   |_,_=>none
 | .sliceStr x lo hi=>match ev x with
   | .lit (.string s)=>match dM (hi.map ev) s.size s.size with
     |some b=>match dM (lo.map ev) 0 b with
      |some a=>some (.lit (.string (s.extract a b)),[])
      |none=>none
     |none=>none
   |_=>none
 | .slice esz x lo hi mx=>match mx with
   |some _=>none
   |none=>match ev x with
   | .lit (.slice none 0 0)=>match dM (hi.map ev) 0 0 with
     |some q=>match dM (lo.map ev) 0 q with
      |some _=>some (.lit (.slice none 0 0),[])
      |none=>none
     |none=>none
   | .sl b s n=>match h b with
     |some k=>if k.op=false/\0<k.esz/\k.esz=esz/\s+n=k.rows.length then (match dM (hi.map ev) n n with
      |some q=>match dM (lo.map ev) 0 q with
       |some p=>if q=n then some (.sl b (s+p) (n-p),[]) else some ((V.imm esz (((k.rows.drop s).take q).drop p)).cz,[(b,kf)])
       |none=>none
      |none=>none) else none
     |none=>none
   | .imm e rows=>if e=esz\/rows=[] then (match dM (hi.map ev) rows.length rows.length with
    |some q=>match dM (lo.map ev) 0 q with
     |some p=>some ((V.imm e ((rows.take q).drop p)).cz,[])
     |none=>none
    |none=>none) else none
   |_=>none
 | .off d x=>match ev x with
   | .ptr b i o n=>some (.ptr b i (o+d) n,[])
   | .iptr r o=>some (.iptr r (o+d),[])
   |_=>none
 | .field d agg x=>match ev x with
   | .agg cs=>match part agg cs d with
     |some v=>some (v,[])
     |none=>none
   |_=>none
 | .idx esz x i=>match asI (ev i) with
   |some i=>if 0<=i then (match ev x with
    | .sl b s n=>match h b with
      |some k=>if 0<k.esz/\k.esz=esz/\s+n=k.rows.length/\i.toNat<n then some (.ptr b (s+i.toNat) 0 k.rows.length,[]) else none
      |none=>none
    | .imm e rows=>if e=esz then (match rows[i.toNat]? with
      |some row=>some (.iptr row 0,[])
      |none=>none) else none
    |_=>none) else none
   |none=>none
 | .idxArr len esz x i=>match asI (ev i) with
   |some i=>if 0<=i/\i.toNat<len then (match ev x with
    | .ptr b j o n=>some (.ptr b j (o+i.toNat*esz) n,[])
    | .iptr r o=>some (.iptr r (o+i.toNat*esz),[])
    |_=>none) else none
   |none=>none
 | .ixStr x i=>match ev x,asI (ev i) with
   | .lit (.string s),some i=>if 0<=i then (match s.data[i.toNat]? with
     |some b=>some (.lit (.int .u8 b.toNat),[])
     |none=>none) else none
   |_,_=>none
 | .ixAgg len esz agg x i=>match ev x,asI (ev i) with
   | .agg cs,some i=>if 0<=i/\i.toNat<len then (match part agg cs (i.toNat*esz) with
     |some v=>some (v,[])
     |none=>none) else none
   |_,_=>none
 | .ext x i=>match ev x with
   | .tup vs=>match vs[i]? with
     |some v=>some (v,[])
     |none=>none
   |_=>none
 | .len str x=>match str,ev x with
   |true,.lit (.string s)=>some (.lit (.int .i64 s.size),[])
   |false,.lit (.slice _ n _)=>some (.lit (.int .i64 n),[])
   |false,.sl _ _ n=>some (.lit (.int .i64 n),[])
   |false,.imm _ rows=>some (.lit (.int .i64 rows.length),[])
   |_,_=>none
 | .lenArr n _=>some (.lit (.int .i64 n),[])
 | .isNil neg x=>match ev x with
   | .lit (.slice a _ _)=>some (.lit (.bool (if neg then !a.isNone else a.isNone)),[])
   | .imm _ (_::_)=>some (.lit (.bool neg),[])
   |_=>none
 | .append esz bytes zero x y=>match fm h esz (ev y) with
   |none=>none
   |some new_=>
    if zero.length=esz/\0<esz/\new_.length*bytes<=dz/\new_.length*esz<=dz then
    (match ev x with
    | .sl b 0 n=>match h b with
      |some k=>if k.op=false/\0<k.esz/\k.esz=esz/\n=k.rows.length/\(n+new_.length)*bytes<=dz/\(n+new_.length)*esz<=dz/\selfOk b (ev y) then
       some (.sl b 0 (n+new_.length),[(b,{ k with rows:=k.rows++new_ })]) else none
      |none=>none
    | .lit (.slice none 0 0)=>pc h new ⟨esz,false,new_⟩ (.sl new 0 new_.length)
    | .imm 0 []=>pc h new ⟨esz,false,new_⟩ (.sl new 0 new_.length)
    |_=>none) else none
 | .appendN esz bytes zero x y=>match asI (ev y) with
   |some l=>if 0<=l/\l<=1099511627776/\l*bytes<=1099511627776/\zero.all cD then Np esz bytes zero (ev x) (fun _=>true) h new (List.replicate l.toNat (zero.map zc)) else none
   |none=>none
 | .copy esz x y=>match fm h esz (ev y),ev x with
   |some rows,.sl b s n=>match h b with
    |some k=>if k.op=false/\0<k.esz/\k.esz=esz/\s+n=k.rows.length/\selfOk b (ev y) then
     some (.lit (.int .i64 (min rows.length n)),[(b,{ k with rows:=k.rows.take s++(rows.take (min rows.length n)++k.rows.drop (s+min rows.length n)) })]) else none
    |none=>none
   |_,_=>none
 | .max2 x y=>match ev x,ev y with
   | .lit (.int k a),.lit (.int _ b)=>some (.lit (.int k (if b>a then b else a)),[])
   |_,_=>none
 | .min2 x y=>match ev x,ev y with
   | .lit (.int k a),.lit (.int _ b)=>some (.lit (.int k (if b<a then b else a)),[])
   |_,_=>none
 | .arrOf len x=>match uO h (ev x) with
   |some (.imm _ rows,bs)=>if 0<len/\len<=rows.length then some (.iptr rows.flatten 0,ka bs) else none
   |_=>none
 | .bytesOwn x=>match ev x with
   | .sl b s n=>match h b with
     |some k=>if k.op=false/\0<k.esz/\s+n=k.rows.length/\0<n then some (.sl b s n,[(b,k)]) else none
     |none=>none
   |_=>none
 | .mkMap=>if (h new).isNone=true then some (.mp new,[(new,⟨0,true,[[]]⟩)]) else none
 | .mapGet m k=>match uo h (ev m),mapKey (ev k) with
   |some (_,L),some (a,b)=>some (.lit (.int .i64 (j5 a b L)),[])
   |_,_=>none
 | .mapEnt m k=>match uo h (ev m),mapKey (ev k) with
   |some (p,L),some (a,b)=>some (.tup [.lit (.int .i64 (j5 a b L)),.lit (.int .i64 (Ae a b L))],[(p,⟨0,true,[bH (If a b L)]⟩)])
   |_,_=>none
 | .mapPut m i x=>match uo h (ev m),ev i,ev x with
   |some (p,L),.lit (.int .i64 i),.lit (.int .i64 v)=>if 0<=i/\i<L.length then some (.undef,[(p,⟨0,true,[bH (b3v i.toNat v L)]⟩)]) else none
   |_,_,_=>none
 | .mapSet m k x=>match uo h (ev m),mapKey (ev k),ev x with
   |some (p,L),some (a,b),.lit (.int .i64 v)=>some (.undef,[(p,⟨0,true,[bH (jp a b v L)]⟩)])
   |_,_,_=>none
 | .call f args=>qC C owns h new f (args.map ev)
 | .dyn f args=>match ev f with
   | .fn k caps=>qC C owns h new k (args.map ev++caps)
   |_=>none
where
 bytesOf:List (List V)->Option (List UInt8)
  |[]=>some []
  |[.lit (.int .u8 n)]::r=>if 0<=n/\n<256 then (match bytesOf r with
   |some l=>some (UInt8.ofNat n.toNat::l)
   |none=>none) else none
  |_=>none
 selfOk (b:Nat):V->Bool
  | .sl b' _ _=>b !=b'
  |_=>true
end
section
def eH {α:Type}:List (Nat×α)->Nat->Option α
 |[],_=>none
 | (k,v)::r,t=>if k=t then some v else eH r t
def lx {α:Type} (k:Nat) (v:α):List (Nat×α)->List (Nat×α)
 |[]=>[(k,v)]
 | (j,u)::r=>if j=k then (j,v)::r else (j,u)::lx k v r
structure St where
 e:List (Nat×V)
 m:List (Nat×Blk)
def St.get (s:St) (t:Nat):V:=(eH s.e t).getD .undef
def St.heap (s:St):ba:=eH s.m
def St.ev (s:St):Opd->V:=Opd.ev s.get
def St.put (s:St) (d:Option Nat) (v:V):St:=match d with
 |some d=>{ s with e:=(d,v)::s.e }
 |none=>s
def a07 (m:List (Nat×Blk)):Upd->List (Nat×Blk)
 |[]=>m
 | (b,k)::r=>a07 (lx b k m) r
def St.upd (s:St) (u:Upd):St:={ s with m:=a07 s.m u }
structure cx where
 dst:Option Nat
 op:AOp
 guard:Option (Nat×Bool)
 deriving Inhabited
def St.want (s:St):Option (Nat×Bool)->Option Bool
 |none=>some true
 |some (t,b)=>match s.get t with
  | .lit (.bool c)=>some (c==b)
  | .lit (.tuple _)=>some false
  |_=>none
abbrev ff:=FuncId->List Nat
noncomputable def Dt (C:cr) (ow:ff) (st:St) (s:cx) (n:Nat):Option St:=
 match st.want s.guard with
 |none=>none
 |some false=>some (st.put s.dst (.lit (.tuple #[])))
 |some true=>match aK C ow s.op st.ev st.heap n with
  |some (v,u)=>some ((st.upd u).put s.dst v)
  |none=>none
noncomputable def lD (C:cr) (ow:ff):List cx->Nat->St->Option St
 |[],_,st=>some st
 |s::r,n,st=>match Dt C ow st s n with
  |some st'=>lD C ow r (n+1) st'
  |none=>none
structure Rec where
 i:Nat
 fp:List Nat
 wr:List Nat
def E6:V->List Nat
 | .ptr b _ _ _=>[b]
 | .sl b _ _=>[b]
 | .mp b=>[b]
 |_=>[]
def nE:V->List Nat
 | .agg cs=>cs.flatMap E6
 | .fn _ cs=>cs.flatMap E6
 | .tup vs=>vs.flatMap fun| .agg cs=>cs.flatMap E6|v=>E6 v
 |v=>E6 v
def Ns (ow:ff) (h:ba) (f:FuncId) (args:List V):List Nat:=
 match gi ow h f args with
 |none=>[]
 |some (_,_,ids,bor)=>ids++bor
def mV (ow:ff) (o:AOp) (ev:Opd->V) (h:ba):List Nat:=
 match o with
 | .call f args=>Ns ow h f (args.map ev)
 | .dyn f args=>match ev f with
   | .fn k caps=>Ns ow h k (args.map ev++caps)
   |_=>[]
 | .mv _| .ext _ _| .off _ _| .len _ _| .makeFunc _ _=>[]
 |o=>(o.opds.map ev).flatMap nE
def vl (h:ba) (fp:List Nat):ba:=fun b=>if b∈fp then h b else none
noncomputable def Az (C:cr) (ow:ff) (st:St) (s:cx) (i n:Nat):Option (St×Rec):=
 match st.want s.guard with
 |none=>none
 |some false=>some (st.put s.dst (.lit (.tuple #[])),⟨i,[],[]⟩)
 |some true=>match aK C ow s.op st.ev (vl st.heap (mV ow s.op st.ev st.heap)) n with
  |some (v,u)=>
   if (u.map (·.1)).all (fun b=>decide (b∈mV ow s.op st.ev st.heap)||(st.heap b).isNone) then
    some ((st.upd u).put s.dst v,⟨i,mV ow s.op st.ev st.heap,u.map (·.1)⟩) else none
  |none=>none
noncomputable def ll (C:cr) (ow:ff) (base:Nat):List cx->Nat->St->Option (St×List Rec)
 |[],_,st=>some (st,[])
 |s::r,i,st=>match Az C ow st s i (base+i) with
  |some (st',rc)=>match ll C ow base r (i+1) st' with
   |some (st'',rs)=>some (st'',rc::rs)
   |none=>none
  |none=>none
def Vb (p q:Rec):Bool:=p.wr.any (fun b=>b∈q.fp||b∈q.wr)||q.wr.any (· ∈p.fp)
def G4 (deps:List (List Nat)) (p:Rec):List Rec->Bool
 |[]=>true
 |q::r=>(p.wr.isEmpty&&q.wr.isEmpty||(deps.getD q.i []).contains p.i|| !Vb p q)&&G4 deps p r
def tE (deps:List (List Nat)):List Rec->Bool
 |[]=>true
 |p::r=>G4 deps p r&&tE deps r
def Rec.loud (r:Rec):Bool:= !(r.fp.isEmpty&&r.wr.isEmpty)
inductive dX where
 |close (bs:List Nat)
 |nilCell (b o new esz:Nat)
 |nilTmp (t new esz:Nat)
 |both (a b:dX)
 |drop (ts:List Nat)
 deriving Inhabited
inductive aU where
 |skip
 |region (base:Nat) (steps:List cx) (live:List Nat)
 |drawn (base:Nat) (steps:List cx) (deps:List (List Nat)) (live:List Nat)
 |seq (a b:aU)
 |cond (c:Opd) (a b:aU)
 |block (id:Nat) (c:aU)
 |loop (c:aU)
 |exit (id:Nat)
 |ret
 |ghost (g:dX) (c:aU)
 deriving Inhabited
inductive dd where
 |normal
 |exit (id:Nat)
 |ret
 deriving DecidableEq,Inhabited
def okC:V->Bool
 | .lit _| .imm _ _| .iptr _ _| .ptr .. | .sl .. | .mp _| .undef=>true
 | .fn _ []=>true
 |_=>false
def fzC (h:ba) (bs:List Nat):V->V
 | .sl b s n=>if b∈bs then (match uO h (.sl b s n) with
   |some (v,_)=>v.cz
   |none=> .undef) else .sl b s n
 | .ptr b i o n=>if b∈bs then .undef else .ptr b i o n
 | .mp b=>if b∈bs then .undef else .mp b
 | .fn f cs=>if (cs.all okC&& !(cs.flatMap E6).any (fun b=>decide (b∈bs)))=true then .fn f cs else .undef
 |v=>v
def fzA (h:ba) (bs:List Nat):V->V
 | .agg cs=>if (cs.map (fzC h bs)).all V.cell then .agg (cs.map (fzC h bs)) else .undef
 | .tup _=> .undef
 |v=>fzC h bs v
def fzM (h:ba) (bs:List Nat):List (Nat×Blk)->List (Nat×Blk)
 |[]=>[]
 | (b,k)::r=>if b∈bs then fzM h bs r else (b,if k.op then (if (k.rows.map (·.map (fzC h bs))).all (·.all V.cell) then { k with rows:=k.rows.map (·.map (fzC h bs)) } else kf) else k)::fzM h bs r
def RD (g:V->V):List (Nat×V)->List (Nat×V)
 |[]=>[]
 | (t,v)::r=>(t,g v)::RD g r
def a8c (ts:List Nat):List (Nat×V)->List (Nat×V)
 |[]=>[]
 | (t,v)::r=>(t,if t∈ts then .undef else v)::a8c ts r
def dN:St->dX->Option St
 |st,.close bs=>if bs.all (fun b=>decide (1000<=b))=true then some { e:=RD (fzA st.heap bs) st.e,m:=fzM st.heap bs st.m } else none
 |st,.nilCell b o new esz=>match st.heap b with
  |some k=>if k.op then (match k.rows with
   |[row]=>(match row[o]? with
    |some (.lit (.slice none 0 0))=>if (st.heap new).isNone/\0<esz then some { st with m:=lx new ⟨esz,false,[]⟩ (lx b { k with rows:=[row.set o (.sl new 0 0)] } st.m) } else some st
    |_=>some st)
   |_=>some st) else some st
  |none=>some st
 |st,.nilTmp t new esz=>match st.get t with
  | .lit (.slice none 0 0)=>if (st.heap new).isNone/\0<esz then some { e:=lx t (.sl new 0 0) st.e,m:=lx new ⟨esz,false,[]⟩ st.m } else some st
  |_=>some st
 |st,.both a b=>match dN st a with
  |some st1=>dN st1 b
  |none=>none
 |st,.drop ts=>some { st with e:=a8c ts st.e }
def trim (live:List Nat) (st:St):St:={ st with e:=live.map fun t=>(t,st.get t) }
noncomputable def vI (C:cr) (ow:ff) (base:Nat) (steps:List cx) (live:List Nat) (st:St):Option (dd×St):=
 match lD C ow steps base st with
 |some st'=>some (.normal,trim live st')
 |none=>none
noncomputable def Cb (C:cr) (ow:ff) (base:Nat) (steps:List cx) (deps:List (List Nat)) (live:List Nat) (st:St):Option (dd×St):=
 match ll C ow base steps 0 st with
 |some (st',rs)=>if tE deps (rs.filter Rec.loud) then some (.normal,trim live st') else none
 |none=>none
noncomputable def dE (C:cr) (ow:ff):Nat->aU->St->Option (dd×St)
 |0,_,_=>none
 |n+1,c,st=>match c with
  | .skip=>some (.normal,st)
  | .region base steps live=>vI C ow base steps live st
  | .drawn base steps deps live=>Cb C ow base steps deps live st
  | .seq a b=>match dE C ow n a st with
    |some (.normal,st')=>dE C ow n b st'
    |r=>r
  | .cond c a b=>match st.ev c with
    | .lit (.bool true)=>dE C ow n a st
    | .lit (.bool false)=>dE C ow n b st
    |_=>none
  | .block id c=>match dE C ow n c st with
    |some (.exit id',st')=>if id'=id then some (.normal,st') else some (.exit id',st')
    |r=>r
  | .loop c=>match dE C ow n c st with
    |some (.normal,st')=>dE C ow n (.loop c) st'
    |r=>r
  | .exit id=>some (.exit id,st)
  | .ret=>some (.ret,st)
  | .ghost g c=>match dN st g with
    |some st'=>dE C ow n c st'
    |none=>none
inductive HZ where
 |tmp (t:Nat)
 |cell (t:Nat) (agg:Option Nat)
 deriving Inhabited
structure j4 where
 ntmps:Nat
 body:aU
 results:List HZ
 keep:Bool
 raw:Bool
 deriving Inhabited
def IP (st:St):HZ->Option V
 | .tmp t=>some (st.get t)
 | .cell t agg=>Ac agg st.heap (st.get t)
def o9 (st:St):List HZ->Option (List V)
 |[]=>some []
 |r::rs=>match IP st r,o9 st rs with
  |some v,some vs=>some (v::vs)
  |_,_=>none
def vE (h:ba) (m:Nat) (kp:List Nat):V->Option V
 | .sl b s n=>if b<m then some (.sl b s n) else if b∈kp then some (.sl (m+n3 b kp) s n) else (match uO h (.sl b s n) with
   |some (v,_)=>some v
   |none=>none)
 | .ptr b i o n=>if b<m then some (.ptr b i o n) else if b∈kp then some (.ptr (m+n3 b kp) i o n) else none
 | .mp b=>if b<m then some (.mp b) else if b∈kp then some (.mp (m+n3 b kp)) else none
 | .fn f []=>some (.fn f [])
 | .lit v=>some (.lit v)
 | .imm e r=>some (.imm e r)
 | .iptr r o=>some (.iptr r o)
 | .undef=>some .undef
 |_=>none
def yZ (h:ba) (m:Nat) (kp:List Nat):List V->Option (List V)
 |[]=>some []
 |v::r=>match vE h m kp v,yZ h m kp r with
  |some v',some r'=>some (v'::r')
  |_,_=>none
def Ll (h:ba) (m:Nat) (kp:List Nat):V->Option V
 | .agg cs=>match yZ h m kp cs with
   |some cs'=>some (.agg cs')
   |none=>none
 | .tup _=>none
 |v=>vE h m kp v
def z6 (h:ba) (m:Nat) (kp:List Nat):List V->Option (List V)
 |[]=>some []
 |v::r=>match Ll h m kp v,z6 h m kp r with
  |some v',some r'=>some (v'::r')
  |_,_=>none
def NW (h:ba) (m:Nat) (kp:List Nat):V->Option V
 | .fn f (c::cs)=>match yZ h m kp (c::cs) with
   |some cs'=>some (.fn f cs')
   |none=>none
 |v=>vE h m kp v
def BR (h:ba) (m:Nat) (kp:List Nat):List V->Option (List V)
 |[]=>some []
 |v::r=>match NW h m kp v,BR h m kp r with
  |some v',some r'=>some (v'::r')
  |_,_=>none
def xG (h:ba) (m:Nat) (kp:List Nat):List (List V)->Option (List (List V))
 |[]=>some []
 |v::r=>match BR h m kp v,xG h m kp r with
  |some v',some r'=>some (v'::r')
  |_,_=>none
def RI (h:ba) (m:Nat) (kp:List Nat) (k:Blk):Option Blk:=
 if k.op=false then some k else match xG h m kp k.rows with
  |some rows=>some { k with rows }
  |none=>none
def xV (h:ba) (m:Nat) (kp:List Nat):List Nat->Option (List Blk)
 |[]=>some []
 |b::r=>match h b with
  |some k=>match RI h m kp k,xV h m kp r with
   |some k',some r'=>some (k'::r')
   |_,_=>none
  |none=>none
def Fh (m:Nat):List Nat->List Nat->List Nat
 |acc,[]=>acc
 |acc,b::r=>Fh m (if m<=b then iA acc b else acc) r
def b0Y:Option Blk->List Nat
 |some ⟨_,true,rows⟩=>rows.flatten.flatMap nE
 |_=>[]
def oj (raw:Bool) (h:ba) (m:Nat) (vs:List V):List Nat:=Fh m [] (bif raw then (List.range m).flatMap fun b=>b0Y (h b) else vs.flatMap nE)
def WA:List V->V
 |[v]=>v
 |vs=> .tup vs
def mP (af:j4) (m:Nat) (r:Option (dd×St)):Option (V×List Blk):=
 match r with
 |some (.normal,st)|some (.ret,st)=>match o9 st af.results with
  |none=>none
  |some vs=>
   let kp:=if af.keep then oj af.raw st.heap m vs else []
   match z6 st.heap m kp vs,xV st.heap m kp (List.range m++kp) with
   |some vs',some bs=>if m<=1000 then some (WA vs',bs) else none
   |_,_=>none
 |_=>none
def u9 {α:Type}:Nat->List α->List (Nat×α)
 |_,[]=>[]
 |n,x::r=>(n,x)::u9 (n+1) r
def start (args:List V) (blks:List Blk):St:=⟨u9 0 args,u9 0 blks⟩
inductive Sw where
 |code (a:j4)
 |ext (g:List V->List Blk->Option (V×List Blk))
abbrev Tab:=FuncId->Option Sw
def Zk (af:j4):Option (V×List Blk)->Option (V×List Blk)
 |some (v,bs)=>some (v.czR,if af.raw then bs else bs.map Blk.cz)
 |none=>none
noncomputable def gj (T:Tab) (ow:ff):Nat->cr
 |0=>fun _ _ _=>none
 |n+1=>fun f args blks=>match T f with
  |none=>none
  |some (.code af)=>Zk af (mP af blks.length (dE (gj T ow n) ow n af.body (start args blks)))
  |some (.ext g)=>g args blks
end
end Go.AI
