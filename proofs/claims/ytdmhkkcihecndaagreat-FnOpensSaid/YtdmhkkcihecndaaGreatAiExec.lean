/- The abstract machine's control, calls and limit. Definitions, and the equations by which a run is reckoned. -/
import Derived.Test.YtdmhkkcihecndaaGreatAiDefs
namespace Go.AI
def dn {α:Type}:List (Nat×α)→Nat→Option α
 |[],_=>none
 | (k,v)::r,t=>if k=t then some v else dn r t
def fu {α:Type} (k:Nat) (v:α):List (Nat×α)→List (Nat×α)
 |[]=>[(k,v)]
 | (j,u)::r=>if j=k then (j,v)::r else (j,u)::fu k v r
structure St where
 e:List (Nat×V)
 m:List (Nat×Blk)
def St.get (s:St) (t:Nat):V:=(dn s.e t).getD .undef
def St.heap (s:St):aw:=dn s.m
def St.ev (s:St):Opd→V:=Opd.ev s.get
def St.put (s:St) (d:Option Nat) (v:V):St:=match d with
 |some d=>{ s with e:=(d,v)::s.e }
 |none=>s
def V2 (m:List (Nat×Blk)):Upd→List (Nat×Blk)
 |[]=>m
 | (b,k)::r=>V2 (fu b k m) r
def St.upd (s:St) (u:Upd):St:={ s with m:=V2 s.m u }
structure bi where
 dst:Option Nat
 op:AOp
 guard:Option (Nat×Bool)
 deriving Inhabited
def St.want (s:St):Option (Nat×Bool)→Option Bool
 |none=>some true
 |some (t,b)=>match s.get t with
  | .lit (.bool c)=>some (c==b)
  | .lit (.tuple _)=>some false
  |_=>none
abbrev dg:=FuncId→List Nat
def xg (C:ba) (ow:dg) (st:St) (s:bi) (n:Nat):Option St:=
 match st.want s.guard with
 |none=>none
 |some false=>some (st.put s.dst (.lit (.tuple #[])))
 |some true=>match aj C ow s.op st.ev st.heap n with
  |some (v,u)=>some ((st.upd u).put s.dst v)
  |none=>none
def iz (C:ba) (ow:dg):List bi→Nat→St→Option St
 |[],_,st=>some st
 |s::r,n,st=>match xg C ow st s n with
  |some st'=>iz C ow r (n+1) st'
  |none=>none
structure Rec where
 i:Nat
 fp:List Nat
 wr:List Nat
def A9:V→List Nat
 | .ptr b _ _ _=>[b]
 | .sl b _ _=>[b]
 |_=>[]
def md:V→List Nat
 | .agg cs=>cs.flatMap A9
 | .fn _ cs=>cs.flatMap A9
 | .tup vs=>vs.flatMap fun| .agg cs=>cs.flatMap A9|v=>A9 v
 |v=>A9 v
def Ig (ow:dg) (h:aw) (f:FuncId) (args:List V):List Nat:=
 match cI ow h f args with
 |none=>[]
 |some (_,_,ids,bor)=>ids++bor
def jK (ow:dg) (o:AOp) (ev:Opd→V) (h:aw):List Nat:=
 match o with
 | .call f args=>Ig ow h f (args.map ev)
 | .dyn f args=>match ev f with
   | .fn k caps=>Ig ow h k (args.map ev++caps)
   |_=>[]
 | .mv _| .ext _ _| .off _ _| .len _ _| .makeFunc _ _=>[]
 |o=>(o.opds.map ev).flatMap md
def mU (h:aw) (fp:List Nat):aw:=fun b=>if b∈fp then h b else none
def tJ (C:ba) (ow:dg) (st:St) (s:bi) (i n:Nat):Option (St×Rec):=
 match st.want s.guard with
 |none=>none
 |some false=>some (st.put s.dst (.lit (.tuple #[])),⟨i,[],[]⟩)
 |some true=>match aj C ow s.op st.ev (mU st.heap (jK ow s.op st.ev st.heap)) n with
  |some (v,u)=>
   if (u.map (·.1)).all (fun b=>b==n||b∈jK ow s.op st.ev st.heap)&&(!(u.map (·.1)).contains n||(st.heap n).isNone) then
    some ((st.upd u).put s.dst v,⟨i,jK ow s.op st.ev st.heap,u.map (·.1)⟩) else none
  |none=>none
def fq (C:ba) (ow:dg) (base:Nat):List bi→Nat→St→Option (St×List Rec)
 |[],_,st=>some (st,[])
 |s::r,i,st=>match tJ C ow st s i (base+i) with
  |some (st',rc)=>match fq C ow base r (i+1) st' with
   |some (st'',rs)=>some (st'',rc::rs)
   |none=>none
  |none=>none
def RG (p q:Rec):Bool:=p.wr.any (fun b=>b∈q.fp||b∈q.wr)||q.wr.any (· ∈p.fp)
def Bm (deps:List (List Nat)) (p:Rec):List Rec→Bool
 |[]=>true
 |q::r=>(p.wr.isEmpty&&q.wr.isEmpty||(deps.getD q.i []).contains p.i|| !RG p q)&&Bm deps p r
def lg (deps:List (List Nat)):List Rec→Bool
 |[]=>true
 |p::r=>Bm deps p r&&lg deps r
def Rec.loud (r:Rec):Bool:= !(r.fp.isEmpty&&r.wr.isEmpty)
inductive gY where
 |close (bs:List Nat)
 |nilCell (b o new esz:Nat)
 |nilTmp (t new esz:Nat)
 |both (a b:gY)
 |drop (ts:List Nat)
 deriving Inhabited
inductive ae where
 |skip
 |region (base:Nat) (steps:List bi) (live:List Nat)
 |drawn (base:Nat) (steps:List bi) (deps:List (List Nat)) (live:List Nat)
 |seq (a b:ae)
 |cond (c:Opd) (a b:ae)
 |block (id:Nat) (c:ae)
 |loop (c:ae)
 |exit (id:Nat)
 |ret
 |ghost (g:gY) (c:ae)
 deriving Inhabited
inductive ai where
 |normal
 |exit (id:Nat)
 |ret
 deriving DecidableEq,Inhabited
def okC:V→Bool
 | .lit _| .imm _ _| .iptr _ _| .ptr .. | .sl .. | .undef=>true
 | .fn _ []=>true
 |_=>false
def fzC (h:aw) (bs:List Nat):V→V
 | .sl b s n=>if b∈bs then (match nu h (.sl b s n) with
   |some (v,_)=>v.cz
   |none=> .undef) else .sl b s n
 | .ptr b i o n=>if b∈bs then .undef else .ptr b i o n
 | .fn f cs=>if (cs.all okC&& !(cs.flatMap A9).any (fun b=>decide (b∈bs)))=true then .fn f cs else .undef
 |v=>v
def fzA (h:aw) (bs:List Nat):V→V
 | .agg cs=>if (cs.map (fzC h bs)).all V.cell then .agg (cs.map (fzC h bs)) else .undef
 | .tup _=> .undef
 |v=>fzC h bs v
def fzM (h:aw) (bs:List Nat):List (Nat×Blk)→List (Nat×Blk)
 |[]=>[]
 | (b,k)::r=>if b∈bs then fzM h bs r else (b,if k.op then (if (k.rows.map (·.map (fzC h bs))).all (·.all V.cell) then { k with rows:=k.rows.map (·.map (fzC h bs)) } else dR) else k)::fzM h bs r
def Nr (g:V→V):List (Nat×V)→List (Nat×V)
 |[]=>[]
 | (t,v)::r=>(t,g v)::Nr g r
def NP (ts:List Nat):List (Nat×V)→List (Nat×V)
 |[]=>[]
 | (t,v)::r=>(t,if t∈ts then .undef else v)::NP ts r
def bN:St→gY→Option St
 |st,.close bs=>if bs.all (fun b=>decide (1000≤b))=true then some { e:=Nr (fzA st.heap bs) st.e,m:=fzM st.heap bs st.m } else none
 |st,.nilCell b o new esz=>match st.heap b with
  |some k=>if k.op then (match k.rows with
   |[row]=>(match row[o]? with
    |some (.lit (.slice none 0 0))=>if (st.heap new).isNone∧0<esz then some { st with m:=fu new ⟨esz,false,[]⟩ (fu b { k with rows:=[row.set o (.sl new 0 0)] } st.m) } else some st
    |_=>some st)
   |_=>some st) else some st
  |none=>some st
 |st,.nilTmp t new esz=>match st.get t with
  | .lit (.slice none 0 0)=>if (st.heap new).isNone∧0<esz then some { e:=fu t (.sl new 0 0) st.e,m:=fu new ⟨esz,false,[]⟩ st.m } else some st
  |_=>some st
 |st,.both a b=>match bN st a with
  |some st1=>bN st1 b
  |none=>none
 |st,.drop ts=>some { st with e:=NP ts st.e }
def trim (live:List Nat) (st:St):St:={ st with e:=live.map fun t=>(t,st.get t) }
def oH (C:ba) (ow:dg) (base:Nat) (steps:List bi) (live:List Nat) (st:St):Option (ai×St):=
 match iz C ow steps base st with
 |some st'=>some (.normal,trim live st')
 |none=>none
def vG (C:ba) (ow:dg) (base:Nat) (steps:List bi) (deps:List (List Nat)) (live:List Nat) (st:St):Option (ai×St):=
 match fq C ow base steps 0 st with
 |some (st',rs)=>if lg deps (rs.filter Rec.loud) then some (.normal,trim live st') else none
 |none=>none
def bE (C:ba) (ow:dg):Nat→ae→St→Option (ai×St)
 |0,_,_=>none
 |n+1,c,st=>match c with
  | .skip=>some (.normal,st)
  | .region base steps live=>oH C ow base steps live st
  | .drawn base steps deps live=>vG C ow base steps deps live st
  | .seq a b=>match bE C ow n a st with
    |some (.normal,st')=>bE C ow n b st'
    |r=>r
  | .cond c a b=>match st.ev c with
    | .lit (.bool true)=>bE C ow n a st
    | .lit (.bool false)=>bE C ow n b st
    |_=>none
  | .block id c=>match bE C ow n c st with
    |some (.exit id',st')=>if id'=id then some (.normal,st') else some (.exit id',st')
    |r=>r
  | .loop c=>match bE C ow n c st with
    |some (.normal,st')=>bE C ow n (.loop c) st'
    |r=>r
  | .exit id=>some (.exit id,st)
  | .ret=>some (.ret,st)
  | .ghost g c=>match bN st g with
    |some st'=>bE C ow n c st'
    |none=>none
inductive Hy where
 |tmp (t:Nat)
 |cell (t:Nat) (agg:Option Nat)
 deriving Inhabited
structure ah where
 ntmps:Nat
 body:ae
 results:List Hy
 keep:Bool
 raw:Bool
 deriving Inhabited
def J7 (st:St):Hy→Option V
 | .tmp t=>some (st.get t)
 | .cell t agg=>sX agg st.heap (st.get t)
def jE (st:St):List Hy→Option (List V)
 |[]=>some []
 |r::rs=>match J7 st r,jE st rs with
  |some v,some vs=>some (v::vs)
  |_,_=>none
def rA (h:aw) (m:Nat) (kp:List Nat):V→Option V
 | .sl b s n=>if b<m then some (.sl b s n) else if b∈kp then some (.sl (m+kT b kp) s n) else (match nu h (.sl b s n) with
   |some (v,_)=>some v
   |none=>none)
 | .ptr b i o n=>if b<m then some (.ptr b i o n) else if b∈kp then some (.ptr (m+kT b kp) i o n) else none
 | .fn f []=>some (.fn f [])
 | .lit v=>some (.lit v)
 | .imm e r=>some (.imm e r)
 | .iptr r o=>some (.iptr r o)
 | .undef=>some .undef
 |_=>none
def qA (h:aw) (m:Nat) (kp:List Nat):List V→Option (List V)
 |[]=>some []
 |v::r=>match rA h m kp v,qA h m kp r with
  |some v',some r'=>some (v'::r')
  |_,_=>none
def KK (h:aw) (m:Nat) (kp:List Nat):V→Option V
 | .agg cs=>match qA h m kp cs with
   |some cs'=>some (.agg cs')
   |none=>none
 | .tup _=>none
 |v=>rA h m kp v
def ux (h:aw) (m:Nat) (kp:List Nat):List V→Option (List V)
 |[]=>some []
 |v::r=>match KK h m kp v,ux h m kp r with
  |some v',some r'=>some (v'::r')
  |_,_=>none
def KU (h:aw) (m:Nat) (kp:List Nat):V→Option V
 | .fn f (c::cs)=>match qA h m kp (c::cs) with
   |some cs'=>some (.fn f cs')
   |none=>none
 |v=>rA h m kp v
def xk (h:aw) (m:Nat) (kp:List Nat):List V→Option (List V)
 |[]=>some []
 |v::r=>match KU h m kp v,xk h m kp r with
  |some v',some r'=>some (v'::r')
  |_,_=>none
def BY (h:aw) (m:Nat) (kp:List Nat):List (List V)→Option (List (List V))
 |[]=>some []
 |v::r=>match xk h m kp v,BY h m kp r with
  |some v',some r'=>some (v'::r')
  |_,_=>none
def TV (h:aw) (m:Nat) (kp:List Nat) (k:Blk):Option Blk:=
 if k.op=false then some k else match BY h m kp k.rows with
  |some rows=>some { k with rows }
  |none=>none
def sN (h:aw) (m:Nat) (kp:List Nat):List Nat→Option (List Blk)
 |[]=>some []
 |b::r=>match h b with
  |some k=>match TV h m kp k,sN h m kp r with
   |some k',some r'=>some (k'::r')
   |_,_=>none
  |none=>none
def Bi (m:Nat):List Nat→List Nat→List Nat
 |acc,[]=>acc
 |acc,b::r=>Bi m (if m≤b then fS acc b else acc) r
def a7Y:Option Blk→List Nat
 |some ⟨_,true,rows⟩=>rows.flatten.flatMap md
 |_=>[]
def j4 (raw:Bool) (h:aw) (m:Nat) (vs:List V):List Nat:=Bi m [] (bif raw then (List.range m).flatMap fun b=>a7Y (h b) else vs.flatMap md)
def a04:List V→V
 |[v]=>v
 |vs=> .tup vs
def kM (af:ah) (m:Nat) (r:Option (ai×St)):Option (V×List Blk):=
 match r with
 |some (.normal,st)|some (.ret,st)=>match jE st af.results with
  |none=>none
  |some vs=>
   let kp:=if af.keep then j4 af.raw st.heap m vs else []
   match ux st.heap m kp vs,sN st.heap m kp (List.range m++kp) with
   |some vs',some bs=>if m≤1000 then some (a04 vs',bs) else none
   |_,_=>none
 |_=>none
def o8 {α:Type}:Nat→List α→List (Nat×α)
 |_,[]=>[]
 |n,x::r=>(n,x)::o8 (n+1) r
def start (args:List V) (blks:List Blk):St:=⟨o8 0 args,o8 0 blks⟩
inductive b02 where
 |code (a:ah)
 |ext (g:List V→List Blk→Option (V×List Blk))
abbrev Tab:=FuncId→Option b02
def W2 (af:ah):Option (V×List Blk)→Option (V×List Blk)
 |some (v,bs)=>some (v.czR,if af.raw then bs else bs.map Blk.cz)
 |none=>none
def cJ (T:Tab) (ow:dg):Nat→ba
 |0=>fun _ _ _=>none
 |n+1=>fun f args blks=>match T f with
  |none=>none
  |some (.code af)=>W2 af (kM af blks.length (bE (cJ T ow n) ow n af.body (start args blks)))
  |some (.ext g)=>g args blks
end Go.AI
