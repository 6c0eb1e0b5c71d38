/- The abstract machine's control, calls and limit. Definitions, and the equations by which a run is reckoned. -/
import Derived.Test.YtdmhkkcihecndaaGreatAiDefs
namespace Go.AI
def dv {α:Type}:List (Nat×α)→Nat→Option α
 |[],_=>none
 | (k,v)::r,t=>if k=t then some v else dv r t
def eU {α:Type} (k:Nat) (v:α):List (Nat×α)→List (Nat×α)
 |[]=>[(k,v)]
 | (j,u)::r=>if j=k then (j,v)::r else (j,u)::eU k v r
structure St where
 e:List (Nat×V)
 m:List (Nat×Blk)
def St.get (s:St) (t:Nat):V:=(dv s.e t).getD .undef
def St.heap (s:St):ak:=dv s.m
def St.ev (s:St):Opd→V:=Opd.ev s.get
def St.put (s:St) (d:Option Nat) (v:V):St:=match d with
 |some d=>{ s with e:=(d,v)::s.e }
 |none=>s
def Vv (m:List (Nat×Blk)):Upd→List (Nat×Blk)
 |[]=>m
 | (b,k)::r=>Vv (eU b k m) r
def St.upd (s:St) (u:Upd):St:={ s with m:=Vv s.m u }
structure aY where
 dst:Option Nat
 op:AOp
 guard:Option (Nat×Bool)
 deriving Inhabited
def St.want (s:St):Option (Nat×Bool)→Option Bool
 |none=>some true
 |some (t,b)=>match s.get t with
  | .lit (.bool c)=>some (c==b)
  | .lit (.tuple _)=>some false
  |_=>none
abbrev dl:=FuncId→List Nat
def wL (C:aU) (ow:dl) (st:St) (s:aY) (n:Nat):Option St:=
 match st.want s.guard with
 |none=>none
 |some false=>some (st.put s.dst (.lit (.tuple #[])))
 |some true=>match ai C ow s.op st.ev st.heap n with
  |some (v,u)=>some ((st.upd u).put s.dst v)
  |none=>none
def hG (C:aU) (ow:dl):List aY→Nat→St→Option St
 |[],_,st=>some st
 |s::r,n,st=>match wL C ow st s n with
  |some st'=>hG C ow r (n+1) st'
  |none=>none
structure Rec where
 i:Nat
 fp:List Nat
 wr:List Nat
def pp:V→List Nat
 | .ptr b _ _ _=>[b]
 | .sl b _ _=>[b]
 |_=>[]
def fa:V→List Nat
 | .agg cs=>cs.flatMap pp
 | .fn _ cs=>cs.flatMap pp
 | .tup vs=>vs.flatMap fun| .agg cs=>cs.flatMap pp|v=>pp v
 |v=>pp v
def Gu (ow:dl) (h:ak) (f:FuncId) (args:List V):List Nat:=
 match cK ow h f args with
 |none=>[]
 |some (_,_,ids,bor)=>ids++bor
def fh (ow:dl) (o:AOp) (ev:Opd→V) (h:ak):List Nat:=
 match o with
 | .call f args=>Gu ow h f (args.map ev)
 | .dyn f args=>match ev f with
   | .fn k caps=>Gu ow h k (args.map ev++caps)
   |_=>[]
 | .mv _| .ext _ _| .off _ _| .len _ _| .makeFunc _ _=>[]
 |o=>(o.opds.map ev).flatMap fa
def lT (h:ak) (fp:List Nat):ak:=fun b=>if b∈fp then h b else none
def tn (C:aU) (ow:dl) (st:St) (s:aY) (i n:Nat):Option (St×Rec):=
 match st.want s.guard with
 |none=>none
 |some false=>some (st.put s.dst (.lit (.tuple #[])),⟨i,[],[]⟩)
 |some true=>match ai C ow s.op st.ev (lT st.heap (fh ow s.op st.ev st.heap)) n with
  |some (v,u)=>
   if (u.map (·.1)).all (fun b=>b==n||b∈fh ow s.op st.ev st.heap)&&(!(u.map (·.1)).contains n||(st.heap n).isNone) then
    some ((st.upd u).put s.dst v,⟨i,fh ow s.op st.ev st.heap,u.map (·.1)⟩) else none
  |none=>none
def fm (C:aU) (ow:dl) (base:Nat):List aY→Nat→St→Option (St×List Rec)
 |[],_,st=>some (st,[])
 |s::r,i,st=>match tn C ow st s i (base+i) with
  |some (st',rc)=>match fm C ow base r (i+1) st' with
   |some (st'',rs)=>some (st'',rc::rs)
   |none=>none
  |none=>none
def Qu (p q:Rec):Bool:=p.wr.any (fun b=>b∈q.fp||b∈q.wr)||q.wr.any (· ∈p.fp)
def AE (deps:List (List Nat)) (p:Rec):List Rec→Bool
 |[]=>true
 |q::r=>(p.wr.isEmpty&&q.wr.isEmpty||(deps.getD q.i []).contains p.i|| !Qu p q)&&AE deps p r
def kK (deps:List (List Nat)):List Rec→Bool
 |[]=>true
 |p::r=>AE deps p r&&kK deps r
def Rec.loud (r:Rec):Bool:= !(r.fp.isEmpty&&r.wr.isEmpty)
inductive fO where
 |close (bs:List Nat)
 |nilCell (b o new esz:Nat)
 |nilTmp (t new esz:Nat)
 |both (a b:fO)
 |drop (ts:List Nat)
 deriving Inhabited
inductive ae where
 |skip
 |region (base:Nat) (steps:List aY) (live:List Nat)
 |drawn (base:Nat) (steps:List aY) (deps:List (List Nat)) (live:List Nat)
 |seq (a b:ae)
 |cond (c:Opd) (a b:ae)
 |block (id:Nat) (c:ae)
 |loop (c:ae)
 |exit (id:Nat)
 |ret
 |ghost (g:fO) (c:ae)
 deriving Inhabited
inductive ah where
 |normal
 |exit (id:Nat)
 |ret
 deriving DecidableEq,Inhabited
def okC:V→Bool
 | .lit _| .imm _ _| .iptr _ _| .ptr .. | .sl .. | .undef=>true
 | .fn _ []=>true
 |_=>false
def fzC (h:ak) (bs:List Nat):V→V
 | .sl b s n=>if b∈bs then (match kP h (.sl b s n) with
   |some (v,_)=>v.cz
   |none=> .undef) else .sl b s n
 | .ptr b i o n=>if b∈bs then .undef else .ptr b i o n
 | .fn f cs=>if (cs.all okC&& !(cs.flatMap pp).any (fun b=>decide (b∈bs)))=true then .fn f cs else .undef
 |v=>v
def fzA (h:ak) (bs:List Nat):V→V
 | .agg cs=>if (cs.map (fzC h bs)).all V.cell then .agg (cs.map (fzC h bs)) else .undef
 | .tup _=> .undef
 |v=>fzC h bs v
def fzM (h:ak) (bs:List Nat):List (Nat×Blk)→List (Nat×Blk)
 |[]=>[]
 | (b,k)::r=>if b∈bs then fzM h bs r else (b,if k.op then (if (k.rows.map (·.map (fzC h bs))).all (·.all V.cell) then { k with rows:=k.rows.map (·.map (fzC h bs)) } else is) else k)::fzM h bs r
def NC (g:V→V):List (Nat×V)→List (Nat×V)
 |[]=>[]
 | (t,v)::r=>(t,g v)::NC g r
def Lg (ts:List Nat):List (Nat×V)→List (Nat×V)
 |[]=>[]
 | (t,v)::r=>(t,if t∈ts then .undef else v)::Lg ts r
def bB:St→fO→Option St
 |st,.close bs=>if bs.all (fun b=>decide (1000≤b))=true then some { e:=NC (fzA st.heap bs) st.e,m:=fzM st.heap bs st.m } else none
 |st,.nilCell b o new esz=>match st.heap b with
  |some k=>if k.op then (match k.rows with
   |[row]=>(match row[o]? with
    |some (.lit (.slice none 0 0))=>if (st.heap new).isNone∧0<esz then some { st with m:=eU new ⟨esz,false,[]⟩ (eU b { k with rows:=[row.set o (.sl new 0 0)] } st.m) } else some st
    |_=>some st)
   |_=>some st) else some st
  |none=>some st
 |st,.nilTmp t new esz=>match st.get t with
  | .lit (.slice none 0 0)=>if (st.heap new).isNone∧0<esz then some { e:=eU t (.sl new 0 0) st.e,m:=eU new ⟨esz,false,[]⟩ st.m } else some st
  |_=>some st
 |st,.both a b=>match bB st a with
  |some st1=>bB st1 b
  |none=>none
 |st,.drop ts=>some { st with e:=Lg ts st.e }
def trim (live:List Nat) (st:St):St:={ st with e:=live.map fun t=>(t,st.get t) }
def nO (C:aU) (ow:dl) (base:Nat) (steps:List aY) (live:List Nat) (st:St):Option (ah×St):=
 match hG C ow steps base st with
 |some st'=>some (.normal,trim live st')
 |none=>none
def uS (C:aU) (ow:dl) (base:Nat) (steps:List aY) (deps:List (List Nat)) (live:List Nat) (st:St):Option (ah×St):=
 match fm C ow base steps 0 st with
 |some (st',rs)=>if kK deps (rs.filter Rec.loud) then some (.normal,trim live st') else none
 |none=>none
def bA (C:aU) (ow:dl):Nat→ae→St→Option (ah×St)
 |0,_,_=>none
 |n+1,c,st=>match c with
  | .skip=>some (.normal,st)
  | .region base steps live=>nO C ow base steps live st
  | .drawn base steps deps live=>uS C ow base steps deps live st
  | .seq a b=>match bA C ow n a st with
    |some (.normal,st')=>bA C ow n b st'
    |r=>r
  | .cond c a b=>match st.ev c with
    | .lit (.bool true)=>bA C ow n a st
    | .lit (.bool false)=>bA C ow n b st
    |_=>none
  | .block id c=>match bA C ow n c st with
    |some (.exit id',st')=>if id'=id then some (.normal,st') else some (.exit id',st')
    |r=>r
  | .loop c=>match bA C ow n c st with
    |some (.normal,st')=>bA C ow n (.loop c) st'
    |r=>r
  | .exit id=>some (.exit id,st)
  | .ret=>some (.ret,st)
  | .ghost g c=>match bB st g with
    |some st'=>bA C ow n c st'
    |none=>none
inductive GE where
 |tmp (t:Nat)
 |cell (t:Nat) (agg:Option Nat)
 deriving Inhabited
structure ag where
 ntmps:Nat
 body:ae
 results:List GE
 keep:Bool
 raw:Bool
 deriving Inhabited
def IE (st:St):GE→Option V
 | .tmp t=>some (st.get t)
 | .cell t agg=>sn agg st.heap (st.get t)
def iN (st:St):List GE→Option (List V)
 |[]=>some []
 |r::rs=>match IE st r,iN st rs with
  |some v,some vs=>some (v::vs)
  |_,_=>none
def ni (h:ak) (m:Nat) (kp:List Nat):V→Option V
 | .sl b s n=>if b<m then some (.sl b s n) else if b∈kp then some (.sl (m+jV b kp) s n) else (match kP h (.sl b s n) with
   |some (v,_)=>some v
   |none=>none)
 | .ptr b i o n=>if b<m then some (.ptr b i o n) else if b∈kp then some (.ptr (m+jV b kp) i o n) else none
 | .fn f []=>some (.fn f [])
 | .lit v=>some (.lit v)
 | .imm e r=>some (.imm e r)
 | .iptr r o=>some (.iptr r o)
 | .undef=>some .undef
 |_=>none
def q8 (h:ak) (m:Nat) (kp:List Nat):List V→Option (List V)
 |[]=>some []
 |v::r=>match ni h m kp v,q8 h m kp r with
  |some v',some r'=>some (v'::r')
  |_,_=>none
def Du (h:ak) (m:Nat) (kp:List Nat):V→Option V
 | .agg cs=>match q8 h m kp cs with
   |some cs'=>some (.agg cs')
   |none=>none
 | .tup _=>none
 |v=>ni h m kp v
def ug (h:ak) (m:Nat) (kp:List Nat):List V→Option (List V)
 |[]=>some []
 |v::r=>match Du h m kp v,ug h m kp r with
  |some v',some r'=>some (v'::r')
  |_,_=>none
def DG (h:ak) (m:Nat) (kp:List Nat):V→Option V
 | .fn f (c::cs)=>match q8 h m kp (c::cs) with
   |some cs'=>some (.fn f cs')
   |none=>none
 |v=>ni h m kp v
def vW (h:ak) (m:Nat) (kp:List Nat):List V→Option (List V)
 |[]=>some []
 |v::r=>match DG h m kp v,vW h m kp r with
  |some v',some r'=>some (v'::r')
  |_,_=>none
def Bm (h:ak) (m:Nat) (kp:List Nat):List (List V)→Option (List (List V))
 |[]=>some []
 |v::r=>match vW h m kp v,Bm h m kp r with
  |some v',some r'=>some (v'::r')
  |_,_=>none
def SP (h:ak) (m:Nat) (kp:List Nat) (k:Blk):Option Blk:=
 if k.op=false then some k else match Bm h m kp k.rows with
  |some rows=>some { k with rows }
  |none=>none
def tl (h:ak) (m:Nat) (kp:List Nat):List Nat→Option (List Blk)
 |[]=>some []
 |b::r=>match h b with
  |some k=>match SP h m kp k,tl h m kp r with
   |some k',some r'=>some (k'::r')
   |_,_=>none
  |none=>none
def zV (m:Nat):List Nat→List Nat→List Nat
 |acc,[]=>acc
 |acc,b::r=>zV m (if m≤b then ft acc b else acc) r
def a6w:Option Blk→List Nat
 |some ⟨_,true,rows⟩=>rows.flatten.flatMap fa
 |_=>[]
def ip (raw:Bool) (h:ak) (m:Nat) (vs:List V):List Nat:=zV m [] (bif raw then (List.range m).flatMap fun b=>a6w (h b) else vs.flatMap fa)
def Zi:List V→V
 |[v]=>v
 |vs=> .tup vs
def jN (af:ag) (m:Nat) (r:Option (ah×St)):Option (V×List Blk):=
 match r with
 |some (.normal,st)|some (.ret,st)=>match iN st af.results with
  |none=>none
  |some vs=>
   let kp:=if af.keep then ip af.raw st.heap m vs else []
   match ug st.heap m kp vs,tl st.heap m kp (List.range m++kp) with
   |some vs',some bs=>if m≤1000 then some (Zi vs',bs) else none
   |_,_=>none
 |_=>none
def nh {α:Type}:Nat→List α→List (Nat×α)
 |_,[]=>[]
 |n,x::r=>(n,x)::nh (n+1) r
def start (args:List V) (blks:List Blk):St:=⟨nh 0 args,nh 0 blks⟩
inductive a84 where
 |code (a:ag)
 |ext (g:List V→List Blk→Option (V×List Blk))
abbrev Tab:=FuncId→Option a84
def UP (af:ag):Option (V×List Blk)→Option (V×List Blk)
 |some (v,bs)=>some (v.czR,if af.raw then bs else bs.map Blk.cz)
 |none=>none
def cJ (T:Tab) (ow:dl):Nat→aU
 |0=>fun _ _ _=>none
 |n+1=>fun f args blks=>match T f with
  |none=>none
  |some (.code af)=>UP af (jN af blks.length (bA (cJ T ow n) ow n af.body (start args blks)))
  |some (.ext g)=>g args blks
end Go.AI
