/- Part. -/
import Derived.Test.YtdnkignjanfikaaGreatAiSh
set_option linter.unusedVariables false
namespace Go.AI
inductive TK where
 |int (k:IntKind)
 |bool
 |str
 |sl (e:Nat)
 |st (fs:List (Nat×Nat)) (ks:List Bool)
 |arr (n e:Nat)
 |oth
structure TI where
 k:TK
 size:Nat
 bytes:Nat
 zero:List Value
inductive QC where
 |skip
 |ret
 |exit (n:Nat)
 |reg (b:Nat) (ss:List cx) (l:List Nat)
 |drw (b:Nat) (ss:List cx) (d:List (List Nat)) (l:List Nat)
 |seq (a b:QC)
 |cond (c:Opd) (a b:QC)
 |blk (n:Nat) (c:QC)
 |loop (g:dX) (c:QC)
 |gh (g:dX) (c:QC)
section
variable (T:Nat->TI)
def gO:Operand->Opd
 | .tmp t=> .t t
 | .const v=> .c v
 | .func f=> .f f
 | .global _=> .t 0
def gP:Option Operand->Option Opd
 |some x=>some (gO x)
 |none=>none
def gA (t:Nat):Option Nat:=match (T t).k with
 | .st _ _=>some (T t).size
 | .arr _ _=>some (T t).size
 |_=>none
def gE (t:Nat):Nat:=match (T t).k with
 | .sl e=>e
 | .arr _ e=>e
 |_=>0
def gF (t i:Nat):Nat×Nat:=match (T t).k with
 | .st fs _=>fs.getD i (0,0)
 |_=>(0,0)
def gOp:Op->AOp
 | .move x=> .mv (gO x)
 | .assign x=> .mv (gO x)
 | .pick c a b=> .pick (gO c) (gO a) (gO b)
 | .alloc t=> .alloc (T t).zero
 | .box t x=> .box (T t).size (gO x)
 | .build t ps=> .build (T t).zero (match (T t).k with
   | .st _ _=>ps.toList.map fun p=>((gF T t p.1).1,(T (gF T t p.1).2).size,gO p.2)
   |_=>ps.toList.map fun p=>(p.1*(T (gE T t)).size,(T (gE T t)).size,gO p.2))
 | .buildSlice t len ps=>match (T (gE T t)).k,len,ps.toList with
   | .sl d,2,[(0,x),(1,y)]=>(match (T d).k with
     | .int .i64=> .buildTwo (gO x) (gO y)
     |_=> .buildSlice (T (gE T t)).size (T (gE T t)).zero 2 [(0,gO x),(1,gO y)])
   |_,len,ps=> .buildSlice (T (gE T t)).size (T (gE T t)).zero len (ps.map fun p=>(p.1,gO p.2))
 | .load t a=> .load (gA T t) (gO a)
 | .store t a x=> .store (T t).size (gO a) (gO x)
 | .nilCheck x=> .nilCheck (gO x)
 | .binOp op t x y _=>match (T t).k with
   | .st _ ks=> .eqAgg (match op with
     | .neq=>true
     |_=>false) ks (gO x) (gO y)
   | .bool=> .beq (match op with
     | .neq=>true
     |_=>false) (gO x) (gO y)
   | .sl _=> .isNil (match op with
     | .neq=>true
     |_=>false) (gO x)
   |_=> .bin op (gO x) (gO y)
 | .unOp op _ x=> .un op (gO x)
 | .convert s d x=>match (T s).k,(T d).k with
   | .int _,.int k=> .toInt k (gO x)
   | .str,.sl _=> .toBytes (gO x)
   | .sl _,.str=> .toStr (gO x)
   | .sl _,.sl _=> .bytesOwn (gO x)
   |_,_=> .same (gO x)
 | .sliceToArrayPointer t x=>match (T t).k with
   | .arr n _=> .arrOf n (gO x)
   |_=> .mv (gO x)
 | .makeFunc f _ cs=>match f with
   | .func f=> .makeFunc f (cs.toList.map gO)
   |_=> .mv (.t 0)
 | .makeSlice t l c=> .makeSlice (T (gE T t)).size (T (gE T t)).bytes (T (gE T t)).zero (gO l) (gO c)
 | .slice t x lo hi mx=>match (T t).k with
   | .str=> .sliceStr (gO x) (gP lo) (gP hi)
   |_=> .slice (T (gE T t)).size (gO x) (gP lo) (gP hi) (gP mx)
 | .fieldAddr t x f=> .off (gF T t f).1 (gO x)
 | .field t x f=> .field (gF T t f).1 (gA T (gF T t f).2) (gO x)
 | .indexAddr t x i=>match (T t).k with
   | .arr n e=> .idxArr n (T e).size (gO x) (gO i)
   |_=> .idx (T (gE T t)).size (gO x) (gO i)
 | .index t x i=>match (T t).k with
   | .arr n e=> .ixAgg n (T e).size (gA T e) (gO x) (gO i)
   |_=> .ixStr (gO x) (gO i)
 | .makeMap _ _=> .mkMap
 | .lookup _ m k _=> .mapGet (gO m) (gO k)
 | .mapUpdate _ m k x=> .mapSet (gO m) (gO k) (gO x)
 | .mapEntry _ m k=> .mapEnt (gO m) (gO k)
 | .entryStore _ m k x=> .mapPut (gO m) (gO k) (gO x)
 | .extract x i=> .ext (gO x) i
 | .call c=>match c.callee,c.args.toList with
   | .value (.func f),args=> .call f (args.map gO)
   | .value f,args=> .dyn (gO f) (args.map gO)
   | .builtin .len,[x]=>match (T (c.argTypes.toList.headD 0)).k with
     | .str=> .len true (gO x)
     | .arr n _=> .lenArr n (gO x)
     |_=> .len false (gO x)
   | .builtin .append,[x,y]=>match (T (c.argTypes.toList.getD 1 0)).k with
     | .int _=> .appendN (T (gE T (c.argTypes.toList.headD 0))).size (T (gE T (c.argTypes.toList.headD 0))).bytes (T (gE T (c.argTypes.toList.headD 0))).zero (gO x) (gO y)
     |_=> .append (T (gE T (c.argTypes.toList.headD 0))).size (T (gE T (c.argTypes.toList.headD 0))).bytes (T (gE T (c.argTypes.toList.headD 0))).zero (gO x) (gO y)
   | .builtin .copy,[x,y]=> .copy (T (gE T (c.argTypes.toList.headD 0))).size (gO x) (gO y)
   | .builtin .max,[x,y]=> .max2 (gO x) (gO y)
   | .builtin .min,[x,y]=> .min2 (gO x) (gO y)
   |_,_=> .mv (.t 0)
 |_=> .mv (.t 0)
def gD (ops:List Oper) (o:Oper):cx:=⟨o.dst,gOp T o.op,match o.guard with
 |none=>none
 |some (j,b)=>match ops[j]? with
  |some o'=>(match o'.dst with
   |some t=>some (t,b)
   |none=>none)
  |none=>none⟩
def gW (gs:List (Nat×dX)) (id:Nat) (c:QC):QC:=match gs with
 |[]=>c
 | (i,g)::r=>if i=id then .gh g (gW r id c) else gW r id c
def gC (gs:List (Nat×dX)):Code->List (List Nat)->List dX->QC×List (List Nat)×List dX
 | .skip,ls,lg=>(.skip,ls,lg)
 | .ret,ls,lg=>(gW gs 999999 .ret,ls,lg)
 | .exit n,ls,lg=>(.exit n,ls,lg)
 | .region id ops draw,ls,lg=>(gW gs id (if draw then .drw (1000*(id+1)) (ops.toList.map (gD T ops.toList)) (a3y ops.toList) (ls.headD []) else .reg (1000*(id+1)) (ops.toList.map (gD T ops.toList)) (ls.headD [])),ls.tail,lg)
 | .seq a b,ls,lg=>match gC gs a ls lg with
   | (a',ls,lg)=>match gC gs b ls lg with
     | (b',ls,lg)=>(.seq a' b',ls,lg)
 | .cond c a b,ls,lg=>match gC gs a ls lg with
   | (a',ls,lg)=>match gC gs b ls lg with
     | (b',ls,lg)=>(.cond (gO c) a' b',ls,lg)
 | .block n c,ls,lg=>match gC gs c ls lg with
   | (c',ls,lg)=>(.blk n c',ls,lg)
 | .loop c,ls,lg=>match gC gs c ls lg.tail with
   | (c',ls,lg')=>(.loop (lg.headD (.close [])) c',ls,lg')
 |_,ls,lg=>(.skip,ls,lg)
def gQ (f:Func) (ls:List (List Nat)) (lg:List dX) (gs:List (Nat×dX)):QC:=match f.body with
 |some c=>(gC T gs c ls lg).1
 |none=> .skip
end
def lpL:QC->List QC
 | .seq a b=>lpL a++lpL b
 | .cond _ a b=>lpL a++lpL b
 | .blk _ c=>lpL c
 | .loop _ c=>c::lpL c
 | .gh _ c=>lpL c
 |_=>[]
def lp (c:QC) (n:Nat):QC:=(lpL c).getD n .skip
def mkC:QC->aU
 | .skip=> .skip
 | .ret=> .ret
 | .exit n=> .exit n
 | .reg b ss l=> .region b ss l
 | .drw b ss d l=> .drawn b ss d l
 | .seq a b=> .seq (mkC a) (mkC b)
 | .cond c a b=> .cond c (mkC a) (mkC b)
 | .blk n c=> .block n (mkC c)
 | .loop g c=> .loop (tl g (mkC c))
 | .gh g c=> .ghost g (mkC c)
def mkL (c:QC):aU:=mkC c
theorem b3Z:mkC .skip= .skip:=rfl
theorem b9p:mkC .ret= .ret:=rfl
theorem b1P (n:Nat):mkC (.exit n)= .exit n:=rfl
theorem b6H (b:Nat) (ss:List cx) (l:List Nat):mkC (.reg b ss l)= .region b ss l:=rfl
theorem b71 (b:Nat) (ss:List cx) (d:List (List Nat)) (l:List Nat):mkC (.drw b ss d l)= .drawn b ss d l:=rfl
theorem b7A (a b:QC):mkC (.seq a b)= .seq (mkC a) (mkC b):=rfl
theorem b56 (c:Opd) (a b:QC):mkC (.cond c a b)= .cond c (mkC a) (mkC b):=rfl
theorem b73 (n:Nat) (c:QC):mkC (.blk n c)= .block n (mkC c):=rfl
theorem b2H (g:dX) (c:QC):mkC (.loop g c)= .loop (tl g (mkL c)):=rfl
theorem c0G (g:dX) (c:QC):mkC (.gh g c)= .ghost g (mkC c):=rfl
attribute [go_sem] b3Z b9p b1P b6H b71 b7A b56 b73 b2H c0G
def qF (n:Nat) (c:QC) (r:List HZ):j4:=⟨n,mkC c,r,false,false⟩
theorem c4P (n:Nat) (c:QC) (r:List HZ):qF n c r=⟨n,mkC c,r,false,false⟩:=rfl
attribute [go_sem] c4P
def cv {α:Type} {a c:α} (h:a=c:=by conv=>lhs;cbv):{c:α//a=c}:=⟨c,h⟩
theorem c7g {α:Type} {a c:α} (h:a=c):(cv h).1=c:=rfl
attribute [go_sem] c7g
end Go.AI
