/- The abstract machine's control, calls and limit. Definitions, and the equations by which a run is reckoned. -/
import Derived.Test.YtdmhkkcihecndaaGreatAiDefs
namespace Go.AI
def dg {α:Type}:List (Nat×α)→Nat→Option α
 |[],_=>none
 | (k,v)::r,t=>if k=t then some v else dg r t
def iV {α:Type} (k:Nat) (v:α):List (Nat×α)→List (Nat×α)
 |[]=>[(k,v)]
 | (j,u)::r=>if j=k then (j,v)::r else (j,u)::iV k v r
structure St where
 e:List (Nat×V)
 m:List (Nat×Blk)
def St.get (s:St) (t:Nat):V:=(dg s.e t).getD .undef
def St.heap (s:St):au:=dg s.m
def St.ev (s:St):Opd→V:=Opd.ev s.get
def St.put (s:St) (d:Option Nat) (v:V):St:=match d with
 |some d=>{ s with e:=(d,v)::s.e }
 |none=>s
def a2m (m:List (Nat×Blk)):Upd→List (Nat×Blk)
 |[]=>m
 | (b,k)::r=>a2m (iV b k m) r
def St.upd (s:St) (u:Upd):St:={ s with m:=a2m s.m u }
structure bi where
 dst:Option Nat
 op:AOp
 guard:Option (Nat×Bool)
 deriving Inhabited
def St.want (s:St):Option (Nat×Bool)→Option Bool
 |none=>some true
 |some (t,b)=>match s.get t with
  | .lit (.bool c)=>some (c==b)
  | .lit (.tuple _)=>some false
  |_=>none
abbrev cY:=FuncId→List Nat
def vp (C:aY) (ow:cY) (st:St) (s:bi) (n:Nat):Option St:=
 match st.want s.guard with
 |none=>none
 |some false=>some (st.put s.dst (.lit (.tuple #[])))
 |some true=>match an C ow s.op st.ev st.heap n with
  |some (v,u)=>some ((st.upd u).put s.dst v)
  |none=>none
def gZ (C:aY) (ow:cY):List bi→Nat→St→Option St
 |[],_,st=>some st
 |s::r,n,st=>match vp C ow st s n with
  |some st'=>gZ C ow r (n+1) st'
  |none=>none
structure Rec where
 i:Nat
 fp:List Nat
 wr:List Nat
def FB:V→List Nat
 | .ptr b _ _ _=>[b]
 | .sl b _ _=>[b]
 |_=>[]
def a0L:V→List Nat
 | .agg cs=>cs.flatMap FB
 | .fn _ cs=>cs.flatMap FB
 | .tup vs=>vs.flatMap fun| .agg cs=>cs.flatMap FB|v=>FB v
 |v=>FB v
def G0 (ow:cY) (h:au) (f:FuncId) (args:List V):List Nat:=
 match cV ow h f args with
 |none=>[]
 |some (_,_,ids,bor)=>ids++bor
def NP (ow:cY) (o:AOp) (ev:Opd→V) (h:au):List Nat:=
 match o with
 | .call f args=>G0 ow h f (args.map ev)
 | .dyn f args=>match ev f with
   | .fn k caps=>G0 ow h k (args.map ev++caps)
   |_=>[]
 | .mv _| .ext _ _| .off _ _| .len _ _| .makeFunc _ _=>[]
 |o=>(o.opds.map ev).flatMap a0L
def mz (h:au) (fp:List Nat):au:=fun b=>if b∈fp then h b else none
def xG (C:aY) (ow:cY) (st:St) (s:bi) (i n:Nat):Option (St×Rec):=
 match st.want s.guard with
 |none=>none
 |some false=>some (st.put s.dst (.lit (.tuple #[])),⟨i,[],[]⟩)
 |some true=>match an C ow s.op st.ev (mz st.heap (NP ow s.op st.ev st.heap)) n with
  |some (v,u)=>
   if (u.map (·.1)).all (fun b=>b==n||b∈NP ow s.op st.ev st.heap)&&(!(u.map (·.1)).contains n||(st.heap n).isNone) then
    some ((st.upd u).put s.dst v,⟨i,NP ow s.op st.ev st.heap,u.map (·.1)⟩) else none
  |none=>none
def hJ (C:aY) (ow:cY) (base:Nat):List bi→Nat→St→Option (St×List Rec)
 |[],_,st=>some (st,[])
 |s::r,i,st=>match xG C ow st s i (base+i) with
  |some (st',rc)=>match hJ C ow base r (i+1) st' with
   |some (st'',rs)=>some (st'',rc::rs)
   |none=>none
  |none=>none
def P2 (p q:Rec):Bool:=p.wr.any (fun b=>b∈q.fp||b∈q.wr)||q.wr.any (· ∈p.fp)
def Qi (deps:List (List Nat)) (p:Rec):List Rec→Bool
 |[]=>true
 |q::r=>(p.wr.isEmpty&&q.wr.isEmpty||(deps.getD q.i []).contains p.i|| !P2 p q)&&Qi deps p r
def pA (deps:List (List Nat)):List Rec→Bool
 |[]=>true
 |p::r=>Qi deps p r&&pA deps r
def Rec.loud (r:Rec):Bool:= !(r.fp.isEmpty&&r.wr.isEmpty)
inductive kf where
 |close (bs:List Nat)
 |nilCell (b o new esz:Nat)
 |nilTmp (t new esz:Nat)
 |both (a b:kf)
 |drop (ts:List Nat)
 deriving Inhabited
inductive ag where
 |skip
 |region (base:Nat) (steps:List bi) (live:List Nat)
 |drawn (base:Nat) (steps:List bi) (deps:List (List Nat)) (live:List Nat)
 |seq (a b:ag)
 |cond (c:Opd) (a b:ag)
 |block (id:Nat) (c:ag)
 |loop (c:ag)
 |exit (id:Nat)
 |ret
 |ghost (g:kf) (c:ag)
 deriving Inhabited
inductive ai where
 |normal
 |exit (id:Nat)
 |ret
 deriving DecidableEq,Inhabited
def okC:V→Bool
 | .lit _| .imm _ _| .iptr _ _| .ptr .. | .sl .. | .undef=>true
 | .fn _ []=>true
 |_=>false
def fzC (h:au) (bs:List Nat):V→V
 | .sl b s n=>if b∈bs then (match pL h (.sl b s n) with
   |some (v,_)=>v.cz
   |none=> .undef) else .sl b s n
 | .ptr b i o n=>if b∈bs then .undef else .ptr b i o n
 | .fn f cs=>if (cs.all okC&& !(cs.flatMap FB).any (fun b=>decide (b∈bs)))=true then .fn f cs else .undef
 |v=>v
def fzA (h:au) (bs:List Nat):V→V
 | .agg cs=>if (cs.map (fzC h bs)).all V.cell then .agg (cs.map (fzC h bs)) else .undef
 | .tup _=> .undef
 |v=>fzC h bs v
def fzM (h:au) (bs:List Nat):List (Nat×Blk)→List (Nat×Blk)
 |[]=>[]
 | (b,k)::r=>if b∈bs then fzM h bs r else (b,if k.op then (if (k.rows.map (·.map (fzC h bs))).all (·.all V.cell) then { k with rows:=k.rows.map (·.map (fzC h bs)) } else cu) else k)::fzM h bs r
def Vm (g:V→V):List (Nat×V)→List (Nat×V)
 |[]=>[]
 | (t,v)::r=>(t,g v)::Vm g r
def QW (ts:List Nat):List (Nat×V)→List (Nat×V)
 |[]=>[]
 | (t,v)::r=>(t,if t∈ts then .undef else v)::QW ts r
def ca:St→kf→Option St
 |st,.close bs=>if bs.all (fun b=>decide (1000≤b))=true then some { e:=Vm (fzA st.heap bs) st.e,m:=fzM st.heap bs st.m } else none
 |st,.nilCell b o new esz=>match st.heap b with
  |some k=>if k.op then (match k.rows with
   |[row]=>(match row[o]? with
    |some (.lit (.slice none 0 0))=>if (st.heap new).isNone∧0<esz then some { st with m:=iV new ⟨esz,false,[]⟩ (iV b { k with rows:=[row.set o (.sl new 0 0)] } st.m) } else some st
    |_=>some st)
   |_=>some st) else some st
  |none=>some st
 |st,.nilTmp t new esz=>match st.get t with
  | .lit (.slice none 0 0)=>if (st.heap new).isNone∧0<esz then some { e:=iV t (.sl new 0 0) st.e,m:=iV new ⟨esz,false,[]⟩ st.m } else some st
  |_=>some st
 |st,.both a b=>match ca st a with
  |some st1=>ca st1 b
  |none=>none
 |st,.drop ts=>some { st with e:=QW ts st.e }
def trim (live:List Nat) (st:St):St:={ st with e:=live.map fun t=>(t,st.get t) }
def nG (C:aY) (ow:cY) (base:Nat) (steps:List bi) (live:List Nat) (st:St):Option (ai×St):=
 match gZ C ow steps base st with
 |some st'=>some (.normal,trim live st')
 |none=>none
def uC (C:aY) (ow:cY) (base:Nat) (steps:List bi) (deps:List (List Nat)) (live:List Nat) (st:St):Option (ai×St):=
 match hJ C ow base steps 0 st with
 |some (st',rs)=>if pA deps (rs.filter Rec.loud) then some (.normal,trim live st') else none
 |none=>none
def bD (C:aY) (ow:cY):Nat→ag→St→Option (ai×St)
 |0,_,_=>none
 |n+1,c,st=>match c with
  | .skip=>some (.normal,st)
  | .region base steps live=>nG C ow base steps live st
  | .drawn base steps deps live=>uC C ow base steps deps live st
  | .seq a b=>match bD C ow n a st with
    |some (.normal,st')=>bD C ow n b st'
    |r=>r
  | .cond c a b=>match st.ev c with
    | .lit (.bool true)=>bD C ow n a st
    | .lit (.bool false)=>bD C ow n b st
    |_=>none
  | .block id c=>match bD C ow n c st with
    |some (.exit id',st')=>if id'=id then some (.normal,st') else some (.exit id',st')
    |r=>r
  | .loop c=>match bD C ow n c st with
    |some (.normal,st')=>bD C ow n (.loop c) st'
    |r=>r
  | .exit id=>some (.exit id,st)
  | .ret=>some (.ret,st)
  | .ghost g c=>match ca st g with
    |some st'=>bD C ow n c st'
    |none=>none
inductive Ge where
 |tmp (t:Nat)
 |cell (t:Nat) (agg:Option Nat)
 deriving Inhabited
structure ah where
 ntmps:Nat
 body:ag
 results:List Ge
 keep:Bool
 raw:Bool
 deriving Inhabited
def OS (st:St):Ge→Option V
 | .tmp t=>some (st.get t)
 | .cell t agg=>z7 agg st.heap (st.get t)
def km (st:St):List Ge→Option (List V)
 |[]=>some []
 |r::rs=>match OS st r,km st rs with
  |some v,some vs=>some (v::vs)
  |_,_=>none
def rU (h:au) (m:Nat) (kp:List Nat):V→Option V
 | .sl b s n=>if b<m then some (.sl b s n) else if b∈kp then some (.sl (m+pb b kp) s n) else (match pL h (.sl b s n) with
   |some (v,_)=>some v
   |none=>none)
 | .ptr b i o n=>if b<m then some (.ptr b i o n) else if b∈kp then some (.ptr (m+pb b kp) i o n) else none
 | .fn f []=>some (.fn f [])
 | .lit v=>some (.lit v)
 | .imm e r=>some (.imm e r)
 | .iptr r o=>some (.iptr r o)
 | .undef=>some .undef
 |_=>none
def sJ (h:au) (m:Nat) (kp:List Nat):List V→Option (List V)
 |[]=>some []
 |v::r=>match rU h m kp v,sJ h m kp r with
  |some v',some r'=>some (v'::r')
  |_,_=>none
def LH (h:au) (m:Nat) (kp:List Nat):V→Option V
 | .agg cs=>match sJ h m kp cs with
   |some cs'=>some (.agg cs')
   |none=>none
 | .tup _=>none
 |v=>rU h m kp v
def xJ (h:au) (m:Nat) (kp:List Nat):List V→Option (List V)
 |[]=>some []
 |v::r=>match LH h m kp v,xJ h m kp r with
  |some v',some r'=>some (v'::r')
  |_,_=>none
def NJ (h:au) (m:Nat) (kp:List Nat):V→Option V
 | .fn f (c::cs)=>match sJ h m kp (c::cs) with
   |some cs'=>some (.fn f cs')
   |none=>none
 |v=>rU h m kp v
def xQ (h:au) (m:Nat) (kp:List Nat):List V→Option (List V)
 |[]=>some []
 |v::r=>match NJ h m kp v,xQ h m kp r with
  |some v',some r'=>some (v'::r')
  |_,_=>none
def Al (h:au) (m:Nat) (kp:List Nat):List (List V)→Option (List (List V))
 |[]=>some []
 |v::r=>match xQ h m kp v,Al h m kp r with
  |some v',some r'=>some (v'::r')
  |_,_=>none
def VL (h:au) (m:Nat) (kp:List Nat) (k:Blk):Option Blk:=
 if k.op=false then some k else match Al h m kp k.rows with
  |some rows=>some { k with rows }
  |none=>none
def yv (h:au) (m:Nat) (kp:List Nat):List Nat→Option (List Blk)
 |[]=>some []
 |b::r=>match h b with
  |some k=>match VL h m kp k,yv h m kp r with
   |some k',some r'=>some (k'::r')
   |_,_=>none
  |none=>none
def Is (m:Nat):List Nat→List Nat→List Nat
 |acc,[]=>acc
 |acc,b::r=>Is m (if m≤b then gS acc b else acc) r
def a5X:Option Blk→List Nat
 |some ⟨_,true,rows⟩=>rows.flatten.flatMap a0L
 |_=>[]
def mW (raw:Bool) (h:au) (m:Nat) (vs:List V):List Nat:=Is m [] (bif raw then (List.range m).flatMap fun b=>a5X (h b) else vs.flatMap a0L)
def a6e:List V→V
 |[v]=>v
 |vs=> .tup vs
def kh (af:ah) (m:Nat) (r:Option (ai×St)):Option (V×List Blk):=
 match r with
 |some (.normal,st)|some (.ret,st)=>match km st af.results with
  |none=>none
  |some vs=>
   let kp:=if af.keep then mW af.raw st.heap m vs else []
   match xJ st.heap m kp vs,yv st.heap m kp (List.range m++kp) with
   |some vs',some bs=>if m≤1000 then some (a6e vs',bs) else none
   |_,_=>none
 |_=>none
def zz {α:Type}:Nat→List α→List (Nat×α)
 |_,[]=>[]
 |n,x::r=>(n,x)::zz (n+1) r
def start (args:List V) (blks:List Blk):St:=⟨zz 0 args,zz 0 blks⟩
inductive a3y where
 |code (a:ah)
 |ext (g:List V→List Blk→Option (V×List Blk))
abbrev Tab:=FuncId→Option a3y
def Su (af:ah):Option (V×List Blk)→Option (V×List Blk)
 |some (v,bs)=>some (v.czR,if af.raw then bs else bs.map Blk.cz)
 |none=>none
def cG (T:Tab) (ow:cY):Nat→aY
 |0=>fun _ _ _=>none
 |n+1=>fun f args blks=>match T f with
  |none=>none
  |some (.code af)=>Su af (kh af blks.length (bD (cG T ow n) ow n af.body (start args blks)))
  |some (.ext g)=>g args blks
end Go.AI
