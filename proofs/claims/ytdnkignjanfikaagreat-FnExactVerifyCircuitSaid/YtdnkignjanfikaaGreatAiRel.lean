/- Part. -/
import Derived.Test.YtdnkignjanfikaaGreatAiDefs
set_option linter.unusedVariables false
namespace Go.AI
abbrev Mu:=Nat->Option Nat
class Frame where
 fr:Nat->Prop
section
def pd [Frame] (μ:Mu) (c:Nat):Prop:=(∀b,μ b≠some c)/\ ¬Frame.fr c
def bsize (w:World) (c:Nat):Nat:=match w.heap[c]? with
 |some (.cells a _ _)=>a.size
 |_=>0
inductive aY [Frame] (μ:Mu) (h:b8) (w:World):V->Value->Prop
 |lit (v:Value):aY μ h w (.lit v) v
 |agg (cs:List V) (xs:Array Value) (hl:xs.size=cs.length) (hcell: ∀v∈cs,v.cell=true) (hc: ∀i v,cs[i]? =some v->aY μ h w v (xs.getD i undef)):aY μ h w (.agg cs) (.agg xs)
 |tup (vs:List V) (xs:Array Value) (hl:xs.size=vs.length) (hc: ∀i v,vs[i]? =some v->aY μ h w v (xs.getD i undef)):aY μ h w (.tup vs) (.tuple xs)
 |ptr (b i o n:Nat) (x:Value) (k:Blk) (hk:h b=some k) (hn:k.esz=0\/n<=k.rows.length) (hx: ∃c off,x= .pointer (some ⟨c,off,none⟩))
  (hp:k.esz≠0->k.rows.length=n->i<n-> ∃c,μ b=some c/\x= .pointer (some ⟨c,i*k.esz+o,none⟩))
  (hd:k.esz=0->k.op=false):aY μ h w (.ptr b i o n) x
 |mp (b:Nat) (x:Value) (k:Blk) (hk:h b=some k) (hx: ∃c,x= .map (some c)) (hm:k.esz=0->k.op=true-> ∃c,μ b=some c/\x= .map (some c)):aY μ h w (.mp b) x
 |sl (b s n:Nat) (x:Value) (k:Blk) (hk:h b=some k) (hn:k.esz=0\/s+n<=k.rows.length) (hx: ∃a c,x= .slice a n c)
  (hp:k.esz≠0->s+n=k.rows.length-> ∃a cap,x= .slice a n cap/\((n=0/\cap=0)\/ ∃c,μ b=some c/\a=some ⟨c,s*k.esz,none⟩/\(s+cap)*k.esz<=bsize w c/\n<=cap)):
  aY μ h w (.sl b s n) x
 |emp (a:Option Addr):aY μ h w (.imm 0 []) (.slice a 0 0)
 |imm0 (e:Nat) (a:Option Addr) (cap:Nat) (he:e≠0):aY μ h w (.imm e []) (.slice a 0 cap)
 |imm (e:Nat) (rows:List (List V)) (c off cap:Nat) (ys:Nat->Nat->Value) (he:0<e) (hr:rows≠[]) (hcap:rows.length<=cap) (hc:c<w.heap.size) (hs:pd μ c)
  (hrow: ∀row∈rows,row.length=e/\ ∀v∈row,v.cl=true/\v.cell=true)
  (hcell: ∀i j,i<rows.length->j<e->w.cell? ⟨c,off+(i*e+j),none⟩=some (ys i j))
  (hv: ∀i row j v,rows[i]? =some row->row[j]? =some v->aY μ h w v (ys i j)):aY μ h w (.imm e rows) (.slice (some ⟨c,off,none⟩) rows.length cap)
 |iptr (row:List V) (o c off:Nat) (ys:Nat->Value) (hc:c<w.heap.size) (hs:pd μ c) (hrow: ∀v∈row,v.cl=true/\v.cell=true)
  (hcell: ∀j,j<row.length->w.cell? ⟨c,off+j,none⟩=some (ys j)) (hv: ∀j v,row[j]? =some v->aY μ h w v (ys j)):aY μ h w (.iptr row o) (.pointer (some ⟨c,off+o,none⟩))
 |fn (f:FuncId) (caps:List V) (xs:Array Value) (hl:xs.size=caps.length) (hc: ∀i v,caps[i]? =some v->aY μ h w v (xs.getD i undef)):aY μ h w (.fn f caps) (.func (.func f) #[] xs)
 |unk (x:Value):aY μ h w .undef x
def Fz (size lo hi:Nat):Prop:=lo=hi\/size<=lo
theorem Fz.at {size lo hi:Nat} (h:Fz size lo hi) (i:Nat) (a:lo<=i) (b:i<hi):size<=i:=by
 rcases h with h|h<;>omega
structure a4j (e:MapEntry) (t:Tri):Prop where
 key:e.key= .agg #[.int .i64 t.1,.int .i64 t.2.1]
 val:e.val= .int .i64 t.2.2
structure rK (w:World) (c:Nat) (rows:List (List V)):Prop where
 ex: ∃(es:Array MapEntry) (L:List Tri),w.heap[c]? =some (.map es es.size)/\rows=[bz L]/\L.length=es.size/\(∀(i:Nat) (e:MapEntry) (t:Tri),es[i]? =some e->L[i]? =some t->a4j e t)/\
  ∀(i:Nat) (e:MapEntry),es[i]? =some e->e.born=i
theorem rK.keep {w w':World} {c:Nat} {rows:List (List V)} (m:rK w c rows) (h:w'.heap[c]? =w.heap[c]?):rK w' c rows:=by
 obtain ⟨es,L,a,b⟩:=m.ex
 exact ⟨es,L,h.trans a,b⟩
theorem rK.lt {w:World} {c:Nat} {rows:List (List V)} (m:rK w c rows):c<w.heap.size:=by
 obtain ⟨es,L,d,e⟩:=m.ex
 rcases cA c w.heap.size with a|b
 ·exact a
 ·rw [eQ b] at d;cases d
theorem rK.bsize {w:World} {c:Nat} {rows:List (List V)} (m:rK w c rows):bsize w c=0:=by
 obtain ⟨es,L,a,b⟩:=m.ex
 unfold AI.bsize;rw [a]
theorem Rt: ∀{L:List Tri} {v:V},v∈bz L-> ∃n,v= .lit (.int .i64 n)
 | (a,b,c)::r,v,h=>by
   simp only [bz,b9] at h
   rcases h with rfl|rfl|rfl|h
   ·exact ⟨_,rfl⟩
   ·exact ⟨_,rfl⟩
   ·exact ⟨_,rfl⟩
   ·exact Rt h
theorem rK.lit {w:World} {c:Nat} {rows:List (List V)} (m:rK w c rows) {row:List V} {v:V} (a:row∈rows) (b:v∈row): ∃n,v= .lit (.int .i64 n):=by
 obtain ⟨es,L,_,d,_⟩:=m.ex
 subst d
 simp at a;subst a
 exact Rt b
theorem rK.map {w:World} {c:Nat} {rows:List (List V)} (m:rK w c rows) {f:V->V} (b: ∀n,f (.lit (.int .i64 n))= .lit (.int .i64 n)):rows.map (·.map f)=rows:=by
 a: ∀row∈rows,row.map f=row:=fun row d=>by
  a: ∀v∈row,f v=v:=fun v e=>by obtain ⟨n,rfl⟩:=m.lit d e;exact b n
  rw [cC this];simp
 rw [cC this];simp
def c8b [Frame] (μ:Mu) (h:b8) (w:World) (b:Nat) (k:Blk):Prop:=
 (k.rows=[]/\k.op=false/\μ b=none)\/
 (0<k.esz/\ ∃c arr t lo hi,μ b=some c/\w.heap[c]? =some (.cells arr t (lo,hi))/\Fz arr.size lo hi/\k.rows.length*k.esz<=arr.size/\
  ∀i row j v,k.rows[i]? =some row->row[j]? =some v->aY μ h w v (arr.getD (i*k.esz+j) undef))\/
 (k.esz=0/\k.op=true/\ ∃c,μ b=some c/\rK w c k.rows)
def Blk.lies (k:Blk):Prop:=0<k.esz\/k.op=true
structure bB [Frame] (μ:Mu) (h:b8) (w:World):Prop where
 inj: ∀b b' c,μ b=some c->μ b'=some c->b=b'
 dom: ∀b c,μ b=some c-> ∃k,h b=some k/\k.lies
 blk: ∀b k,h b=some k->c8b μ h w b k
 rows: ∀b k,h b=some k-> ∀row∈k.rows,(0<k.esz->row.length=k.esz)/\ ∀v∈row,v.cell=true/\(k.op=false->v.cl=true)
 frame: ∀b c,μ b=some c-> ¬Frame.fr c
 frlt: ∀c,Frame.fr c->c<w.heap.size
structure n0 [Frame] (μ:Mu) (w:World) (μ':Mu) (w':World):Prop where
 os:w'.os=w.os
 tape:w'.tape=w.tape
 output:w'.output=w.output
 size:w.heap.size<=w'.heap.size
 drawn:w.drawn<=w'.drawn
 keep: ∀c,c<w.heap.size->pd μ c->w'.heap[c]? =w.heap[c]? /\pd μ' c
 keepF: ∀c,Frame.fr c->w'.heap[c]? =w.heap[c]?
theorem n0.refl [Frame] (μ:Mu) (w:World):n0 μ w μ w:=⟨rfl,rfl,rfl,aw _,aw _,(fun _ _ h=>⟨rfl,h⟩),fun _ _=>rfl⟩
theorem n0.trans [Frame] {μ μ1 μ2:Mu} {w e f:World} (a:n0 μ w μ1 e) (b:n0 μ1 e μ2 f):n0 μ w μ2 f:=
 ⟨b.os.trans a.os,b.tape.trans a.tape,b.output.trans a.output,e7 a.size b.size,e7 a.drawn b.drawn,(fun c d h=>by
   obtain ⟨i,j⟩:=a.keep c d h
   obtain ⟨k,l⟩:=b.keep c (bP d a.size) j
   exact ⟨k.trans i,l⟩),fun c d=>(b.keepF c d).trans (a.keepF c d)⟩
def Xz (μ:Mu) (h:b8) (w:World) (μ':Mu) (h':b8) (w':World):Prop:=
 ∀b k,h b=some k-> ∃k',h' b=some k'/\((k'.esz=0/\k'.op=false)\/(k'.esz=k.esz/\0<k.esz/\k.rows.length<k'.rows.length)\/
  (k'.esz=k.esz/\(k.esz=0->k'.op=k.op)/\k'.rows.length=k.rows.length/\μ' b=μ b/\ ∀c,μ b=some c->bsize w' c=bsize w c))
structure Chg [Frame] (μ:Mu) (h:b8) (w:World) (μ':Mu) (h':b8) (w':World):Prop where
 ev:n0 μ w μ' w'
 refs:Xz μ h w μ' h' w'
theorem Xz.refl (μ:Mu) (h:b8) (w:World):Xz μ h w μ h w:=fun b k a=>⟨k,a,.inr (.inr ⟨rfl,fun _=>rfl,rfl,rfl,fun _ _=>rfl⟩)⟩
theorem Chg.refl [Frame] (μ:Mu) (h:b8) (w:World):Chg μ h w μ h w:=⟨n0.refl _ _,Xz.refl _ _ _⟩
theorem tA {w w':World} {c i:Nat} (h:w'.heap[c]? =w.heap[c]?):w'.cell? ⟨c,i,none⟩=w.cell? ⟨c,i,none⟩:=by simp [World.cell?,h]
theorem aY.chg [Frame] {μ:Mu} {h:b8} {w:World} {μ':Mu} {h':b8} {w':World} (ch:Chg μ h w μ' h' w') {v:V} {x:Value} (hv:aY μ h w v x):aY μ' h' w' v x:=by
 induction hv with
 |lit v=>exact .lit v
 |agg cs xs t l hc ih=>exact .agg cs xs t l ih
 |tup vs xs t hc ih=>exact .tup vs xs t ih
 |ptr b i o n x k hk d hx hp hmp=>
  obtain ⟨k',m,hr⟩:=ch.refs b k hk
  rcases hr with ⟨h0,h00⟩|⟨p,hl0,t⟩|⟨p,ho,t,hm,hb⟩
  ·exact .ptr b i o n x k' m (.inl h0) hx (fun q=>absurd h0 q) (fun _=>h00)
  ·refine .ptr b i o n x k' m ?_ hx (fun q u h3=> ?_) (fun q=>by omega)
   ·rcases d with d|d
    ·exact .inl (p.trans d)
    ·exact .inr (by omega)
   ·rcases d with d|d
    ·exact absurd (p.trans d) q
    ·omega
  ·refine .ptr b i o n x k' m ?_ hx (fun q u h3=> ?_) (fun q=>(ho (by omega)).trans (hmp (by omega)))
   ·rcases d with d|d
    ·exact .inl (p.trans d)
    ·exact .inr (by omega)
   ·obtain ⟨c,r,y⟩:=hp (by omega) (by omega) h3
    exact ⟨c,by rw [hm];exact r,by rw [p];exact y⟩
 |mp b x k hk hx hmp=>
  obtain ⟨k',m,hr⟩:=ch.refs b k hk
  refine .mp b x k' m hx (fun q u=> ?_)
  rcases hr with ⟨h0,h00⟩|⟨p,hl0,t⟩|⟨p,ho,t,hm,hb⟩
  ·rw [h00] at u;cases u
  ·omega
  ·obtain ⟨c,r,y⟩:=hmp (by omega) ((ho (by omega)).symm.trans u)
   exact ⟨c,by rw [hm];exact r,y⟩
 |sl b s n x k hk d hx hp=>
  obtain ⟨k',m,hr⟩:=ch.refs b k hk
  rcases hr with ⟨h0,h00⟩|⟨p,hl0,t⟩|⟨p,ho,t,hm,hb⟩
  ·exact .sl b s n x k' m (.inl h0) hx (fun q=>absurd h0 q)
  ·refine .sl b s n x k' m ?_ hx (fun q u=> ?_)
   ·rcases d with d|d
    ·exact .inl (p.trans d)
    ·exact .inr (by omega)
   ·rcases d with d|d
    ·exact absurd (p.trans d) q
    ·omega
  ·refine .sl b s n x k' m ?_ hx (fun q u=> ?_)
   ·rcases d with d|d
    ·exact .inl (p.trans d)
    ·exact .inr (by omega)
   ·obtain ⟨a,cap,hx',hs⟩:=hp (by omega) (by omega)
    refine ⟨a,cap,hx', ?_⟩
    rcases hs with hs|⟨c,r,y,hc3,hc4⟩
    ·exact .inl hs
    ·exact .inr ⟨c,by rw [hm];exact r,by rw [p];exact y,by rw [p,hb c r];exact hc3,hc4⟩
 |emp a=>exact .emp a
 |imm0 e a cap p=>exact .imm0 e a cap p
 |imm e rows c off cap ys p hr hcap hc hs z l hv ih=>
  obtain ⟨q,u⟩:=ch.ev.keep c hc hs
  exact .imm e rows c off cap ys p hr hcap (bP hc ch.ev.size) u z (fun i j hi hj=>by rw [tA q];exact l i j hi hj) ih
 |iptr row o c off ys hc hs z l hv ih=>
  obtain ⟨q,u⟩:=ch.ev.keep c hc hs
  exact .iptr row o c off ys (bP hc ch.ev.size) u z (fun j hj=>by rw [tA q];exact l j hj) ih
 |fn f caps xs t hc ih=>exact .fn f caps xs t ih
 |unk x=>exact .unk x
theorem V.cz_or (v:V):v.cz=v\/(v= .lit (.slice none 0 0)/\v.cz= .imm 1 [])\/ ∃e,v= .imm e []/\v.cz= .imm 1 []:=by
 unfold V.cz
 split
 ·exact .inr (.inl ⟨rfl,rfl⟩)
 ·exact .inr (.inr ⟨_,rfl,rfl⟩)
 ·exact .inl rfl
theorem aY.cz [Frame] {μ:Mu} {h:b8} {w:World} {v:V} {x:Value} (d:aY μ h w v x):aY μ h w v.cz x:=by
 rcases v.cz_or with b|⟨rfl,b⟩|⟨e,rfl,b⟩
 ·rw [b];exact d
 ·rw [b];cases d;exact .imm0 1 none 0 (by decide)
 ·rw [b]
  cases d with
  |emp a=>exact .imm0 1 a 0 (by decide)
  |imm0 _ a cap f=>exact .imm0 1 a cap (by decide)
  |imm _ _ c off cap ys f i=>exact absurd rfl i
theorem LG {v:V} (h:v.cell=true):v.cz.cell=true:=by
 rcases v.cz_or with a|⟨_,a⟩|⟨e,_,a⟩
 ·rw [a];exact h
 ·rw [a];rfl
 ·rw [a];rfl
theorem a7O {v:V} (h:v.cl=true):v.cz.cl=true:=by
 rcases v.cz_or with a|⟨_,a⟩|⟨e,_,a⟩
 ·rw [a];exact h
 ·rw [a];rfl
 ·rw [a];rfl
theorem ZS {y:Value} (h:ci y=true):(zc y).cell=true:=LG (v:= .lit y) h
theorem b3J (y:Value):(zc y).cl=true:=a7O (v:= .lit y) rfl
theorem aY.zc [Frame] {μ:Mu} {h:b8} {w:World} (y:Value):aY μ h w (zc y) y:=(aY.lit y).cz
theorem aY.closed [Frame] {μ:Mu} {h:b8} {w:World} {μ':Mu} (h':b8) {w':World} (ev:n0 μ w μ' w') {v:V} {x:Value} (t:aY μ h w v x) (m:v.cl=true):aY μ' h' w' v x:=by
 induction t with
 |lit v=>exact .lit v
 |agg cs xs u d q ih=>simp [V.cl] at m
 |tup vs xs u q ih=>simp [V.cl] at m
 |ptr b i o n x k hk hn hx hp y=>simp [V.cl] at m
 |mp b x k hk hx y=>simp [V.cl] at m
 |sl b s n x k hk hn hx hp=>simp [V.cl] at m
 |emp a=>exact .emp a
 |imm0 e a cap z=>exact .imm0 e a cap z
 |imm e rows c off cap ys z hr r q hs l d t ih=>
  obtain ⟨h1,h2⟩:=ev.keep c q hs
  exact .imm e rows c off cap ys z hr r (bP q ev.size) h2 l (fun i j hi p=>by rw [tA h1];exact d i j hi p)
   (fun i row j v hi p=>ih i row j v hi p ((l row (an hi)).2 v (an p)).1)
 |iptr row o c off ys q hs l d t ih=>
  obtain ⟨h1,h2⟩:=ev.keep c q hs
  exact .iptr row o c off ys (bP q ev.size) h2 l (fun j p=>by rw [tA h1];exact d j p) (fun j v p=>ih j v p (l v (an p)).1)
 |fn f caps xs u q ih=>
  cases caps with
  |nil=>exact .fn f [] xs u (fun i v h=>by simp at h)
  |cons a b=>simp [V.cl] at m
 |unk x=>simp [V.cl] at m
theorem aY.oneCell [Frame] {μ:Mu} {h:b8} {w:World} {v:V} {x:Value} (l:aY μ h w v x) (e:v.cell=true):ci x=true:=by
 cases l with
 |lit v=>exact e
 |agg=>simp [V.cell] at e
 |tup=>simp [V.cell] at e
 |ptr b i o n x k j m d p f=>obtain ⟨c,off,rfl⟩:=d;rfl
 |mp b x k j d f=>obtain ⟨c,rfl⟩:=d;rfl
 |sl b s n x k j m d p=>obtain ⟨a,c,rfl⟩:=d;rfl
 |emp=>rfl
 |imm0=>rfl
 |imm=>rfl
 |iptr=>rfl
 |fn=>rfl
 |unk=>simp [V.cell] at e
theorem kq {x:Value} (h:ci x=true):x.cells= #[x]:=by
 cases x<;>simp [ci,Value.cells] at h ⊢
theorem aY.cellsRel [Frame] {μ:Mu} {h:b8} {w:World} {v:V} {x:Value} (c:aY μ h w v x) (j:v.cells.all V.cell=true):
 x.cells.size=v.cells.length/\ ∀i u,v.cells[i]? =some u->aY μ h w u (x.cells.getD i undef):=by
 cases v with
 |agg cs=>
  cases c with
  |agg _ xs l k j=>exact ⟨l,j⟩
 |tup vs=>simp [V.cells,V.cell] at j
 |undef=>simp [V.cells,V.cell] at j
 |lit y=>
  a d:=c.oneCell (by simpa [V.cells] using j)
  rw [kq d]
  refine ⟨rfl,fun i u hi=> ?_⟩
  cases i with
  |zero=>simp [V.cells] at hi;subst hi;exact c
  |succ i=>simp [V.cells] at hi
 |ptr b i o n=>
  a d:=c.oneCell (by simpa [V.cells] using j)
  rw [kq d]
  refine ⟨rfl,fun i u hi=> ?_⟩
  cases i with
  |zero=>simp [V.cells] at hi;subst hi;exact c
  |succ i=>simp [V.cells] at hi
 |mp b=>
  a d:=c.oneCell (by simpa [V.cells] using j)
  rw [kq d]
  refine ⟨rfl,fun i u hi=> ?_⟩
  cases i with
  |zero=>simp [V.cells] at hi;subst hi;exact c
  |succ i=>simp [V.cells] at hi
 |sl b s n=>
  a d:=c.oneCell (by simpa [V.cells] using j)
  rw [kq d]
  refine ⟨rfl,fun i u hi=> ?_⟩
  cases i with
  |zero=>simp [V.cells] at hi;subst hi;exact c
  |succ i=>simp [V.cells] at hi
 |imm e r=>
  a d:=c.oneCell (by simpa [V.cells] using j)
  rw [kq d]
  refine ⟨rfl,fun i u hi=> ?_⟩
  cases i with
  |zero=>simp [V.cells] at hi;subst hi;exact c
  |succ i=>simp [V.cells] at hi
 |iptr r o=>
  a d:=c.oneCell (by simpa [V.cells] using j)
  rw [kq d]
  refine ⟨rfl,fun i u hi=> ?_⟩
  cases i with
  |zero=>simp [V.cells] at hi;subst hi;exact c
  |succ i=>simp [V.cells] at hi
 |fn f cs=>
  a d:=c.oneCell (by simpa [V.cells] using j)
  rw [kq d]
  refine ⟨rfl,fun i u hi=> ?_⟩
  cases i with
  |zero=>simp [V.cells] at hi;subst hi;exact c
  |succ i=>simp [V.cells] at hi
theorem bB.lt [Frame] {μ:Mu} {h:b8} {w:World} (H:bB μ h w) {b c:Nat} (a:μ b=some c):c<w.heap.size:=by
 obtain ⟨k,l,h0⟩:=H.dom b c a
 rcases H.blk b k l with ⟨_,_,m⟩|⟨_,c',arr,t,lo,hi,d,j,_⟩|⟨_,_,c',d,e⟩
 ·rw [m] at a;cases a
 ·rw [d] at a;cases a
  rcases cA c w.heap.size with f|i
  ·exact f
  ·rw [eQ i] at j;cases j
 ·rw [d] at a;cases a;exact e.lt
def cE (μ:Mu) (b:Nat) (c:Option Nat):Mu:=fun b'=>if b'=b then c else μ b'
def yP (w w':World):Prop:=w'.os=w.os/\w'.tape=w.tape/\w'.output=w.output/\w.heap.size<=w'.heap.size/\(∀c,c<w.heap.size->w'.heap[c]? =w.heap[c]?)/\w.drawn<=w'.drawn
theorem yP.refl (w:World):yP w w:=⟨rfl,rfl,rfl,aw _,fun _ _=>rfl,aw _⟩
theorem yP.drew {w w':World} (g:yP { w with drawn:=w.drawn+1 } w'):yP w w':=⟨g.1,g.2.1,g.2.2.1,g.2.2.2.1,g.2.2.2.2.1,e7 (mD _) g.2.2.2.2.2⟩
theorem yP.bsize {w w':World} (g:yP w w') {c:Nat} (a:c<w.heap.size):bsize w' c=bsize w c:=by
 unfold AI.bsize;rw [g.2.2.2.2.1 c a]
theorem yP.chg [Frame] {w w':World} (g:yP w w') {μ:Mu} {h:b8} (H:bB μ h w):Chg μ h w μ h w':=
 ⟨⟨g.1,g.2.1,g.2.2.1,g.2.2.2.1,g.2.2.2.2.2,(fun c a d=>⟨g.2.2.2.2.1 c a,d⟩),fun c a=>g.2.2.2.2.1 c (H.frlt c a)⟩,fun b k e=>⟨k,e,.inr (.inr ⟨rfl,fun _=>rfl,rfl,rfl,fun _ a=>g.bsize (H.lt a)⟩)⟩⟩
theorem bB.grown [Frame] {μ:Mu} {h:b8} {w w':World} (H:bB μ h w) (g:yP w w'):bB μ h w':=by
 refine ⟨H.inj,H.dom,fun b k e=> ?_,H.rows,H.frame,fun c f=>bP (H.frlt c f) g.2.2.2.1⟩
 rcases H.blk b k e with d|⟨h0,c,arr,t,lo,hi,a,l,m,n,o⟩|⟨h0,p,c,a,q⟩
 ·exact .inl d
 ·exact .inr (.inl ⟨h0,c,arr,t,lo,hi,a,by rw [g.2.2.2.2.1 c (H.lt a)];exact l,m,n,fun i row j v d r=>(o i row j v d r).chg (g.chg H)⟩)
 ·exact .inr (.inr ⟨h0,p,c,a,q.keep (g.2.2.2.2.1 c (H.lt a))⟩)
theorem bB.new [Frame] {μ:Mu} {h:b8} {w w':World} (H:bB μ h w) (g:yP w w') {b c:Nat} {k:Blk} (hb:h b=none) (q:w.heap.size<=c)
 {arr:Array Value} {t:TypeId} {lo hi:Nat} (hh:w'.heap[c]? =some (.cells arr t (lo,hi))) (hf:Fz arr.size lo hi)
 (h0:0<k.esz) (hl:k.rows.length*k.esz<=arr.size) (hr: ∀row∈k.rows,row.length=k.esz/\ ∀v∈row,v.cell=true/\(k.op=false->v.cl=true))
 (hv: ∀i row j v,k.rows[i]? =some row->row[j]? =some v->aY μ h w v (arr.getD (i*k.esz+j) undef)):
 bB (cE μ b (some c)) (bT h b k) w'/\Chg μ h w (cE μ b (some c)) (bT h b k) w':=by
 f hmb:μ b=none:=by
   cases hm:μ b with
   |none=>rfl
   |some c'=>obtain ⟨k',a,_⟩:=H.dom b c' hm;rw [hb] at a;cases a
 f r: ∀b' k',h b'=some k'->b'≠b:=fun b' k' a e=>by rw [e,hb] at a;cases a
 f ch:Chg μ h w (cE μ b (some c)) (bT h b k) w':=by
   refine ⟨⟨g.1,g.2.1,g.2.2.1,g.2.2.2.1,g.2.2.2.2.2,(fun c' p hs=>⟨g.2.2.2.2.1 c' p,fun b'=> ?_,hs.2⟩),fun c q=>g.2.2.2.2.1 c (H.frlt c q)⟩,fun b' k' a=> ?_⟩
   ·unfold cE
    by_cases e:b'=b
    ·rw [ae e];intro d;cases d;omega
    ·rw [aa e];exact hs.1 b'
   ·f e:=r b' k' a
    exact ⟨k',by simp [bT,e,a],.inr (.inr ⟨rfl,fun _=>rfl,rfl,by simp [cE,e],fun c' p=>g.bsize (H.lt p)⟩)⟩
 refine ⟨⟨fun b1 b2 c' d l=> ?_,fun b' c' d=> ?_,fun b' k' a=> ?_,fun b' k' a=> ?_,fun b' c' d=> ?_,fun c q=>bP (H.frlt c q) g.2.2.2.1⟩,ch⟩
 ·unfold cE at d l
  by_cases e1:b1=b<;>by_cases e2:b2=b
  ·rw [e1,e2]
  ·rw [ae e1] at d;rw [aa e2] at l;cases d;f:=H.lt l;omega
  ·rw [aa e1] at d;rw [ae e2] at l;cases l;f:=H.lt d;omega
  ·rw [aa e1] at d;rw [aa e2] at l;exact H.inj _ _ _ d l
 ·unfold cE at d
  by_cases e:b'=b
  ·exact ⟨k,by simp [bT,e],.inl h0⟩
  ·rw [aa e] at d
   obtain ⟨k',a,m⟩:=H.dom b' c' d
   exact ⟨k',by simp [bT,e,a],m⟩
 ·by_cases e:b'=b
  ·simp [bT,e] at a
   subst a
   exact .inr (.inl ⟨h0,c,arr,t,lo,hi,by simp [cE,e],hh,hf,hl,fun i row j v d l=>(hv i row j v d l).chg ch⟩)
  ·simp [bT,e] at a
   rcases H.blk b' k' a with d|⟨m,c',arr',t',lo',s,n,u,x,y,z⟩|⟨m,ho',c',n,hb'⟩
   ·exact .inl ⟨d.1,d.2.1,by simp [cE,e,d.2.2]⟩
   ·exact .inr (.inl ⟨m,c',arr',t',lo',s,by simp [cE,e,n],by rw [g.2.2.2.2.1 c' (H.lt n)];exact u,x,y,fun i row j v d l=>(z i row j v d l).chg ch⟩)
   ·exact .inr (.inr ⟨m,ho',c',by simp [cE,e,n],hb'.keep (g.2.2.2.2.1 c' (H.lt n))⟩)
 ·by_cases e:b'=b
  ·simp [bT,e] at a;subst a;exact fun row o=>⟨fun _=>(hr row o).1,(hr row o).2⟩
  ·simp [bT,e] at a;exact H.rows b' k' a
 ·unfold cE at d
  split at d
  ·cases d;intro l;f:=H.frlt _ l;omega
  ·exact H.frame b' c' d
theorem bB.newNil [Frame] {μ:Mu} {h:b8} {w:World} (H:bB μ h w) {b e:Nat} (t:h b=none):
 bB μ (bT h b ⟨e,false,[]⟩) w/\Chg μ h w μ (bT h b ⟨e,false,[]⟩) w:=by
 c l:μ b=none:=by
   cases u:μ b with
   |none=>rfl
   |some c'=>obtain ⟨k',a,_⟩:=H.dom b c' u;rw [t] at a;cases a
 c f: ∀b' k',h b'=some k'->b'≠b:=fun b' k' a e=>by rw [e,t] at a;cases a
 c ch:Chg μ h w μ (bT h b ⟨e,false,[]⟩) w:=
   ⟨n0.refl _ _,fun b' k' a=>⟨k',by simp [bT,f b' k' a,a],.inr (.inr ⟨rfl,fun _=>rfl,rfl,rfl,fun _ _=>rfl⟩)⟩⟩
 refine ⟨⟨H.inj,fun b' c' d=> ?_,fun b' k' a=> ?_,fun b' k' a=> ?_,H.frame,H.frlt⟩,ch⟩
 ·obtain ⟨k',a,h0⟩:=H.dom b' c' d
  exact ⟨k',by simp [bT,f b' k' a,a],h0⟩
 ·by_cases eb:b'=b
  ·simp [bT,eb] at a;subst a;exact .inl ⟨rfl,rfl,by rw [eb];exact l⟩
  ·simp [bT,eb] at a
   rcases H.blk b' k' a with d|⟨m,c',arr',t',lo',n,o,p,q,r,s⟩|d
   ·exact .inl d
   ·exact .inr (.inl ⟨m,c',arr',t',lo',n,o,p,q,r,fun i row j v d x=>(s i row j v d x).chg ch⟩)
   ·exact .inr (.inr d)
 ·by_cases eb:b'=b
  ·simp [bT,eb] at a;subst a;intro row k;simp at k
  ·simp [bT,eb] at a;exact H.rows b' k' a
theorem bB.kill [Frame] {μ:Mu} {h:b8} {w:World} (H:bB μ h w) {b:Nat} {k:Blk} (hb:h b=some k):
 bB (cE μ b none) (bT h b my) w/\Chg μ h w (cE μ b none) (bT h b my) w:=by
 x ch:Chg μ h w (cE μ b none) (bT h b my) w:=by
   refine ⟨⟨rfl,rfl,rfl,aw _,aw _,(fun c hc y=>⟨rfl,fun b'=> ?_,y.2⟩),fun _ _=>rfl⟩,fun b' k' a=> ?_⟩
   ·unfold cE
    by_cases e:b'=b
    ·rw [ae e];simp
    ·rw [aa e];exact y.1 b'
   ·by_cases e:b'=b
    ·exact ⟨my,by simp [bT,e],.inl ⟨rfl,rfl⟩⟩
    ·exact ⟨k',by simp [bT,e,a],.inr (.inr ⟨rfl,fun _=>rfl,rfl,by simp [cE,e],fun _ _=>rfl⟩)⟩
 refine ⟨⟨fun z b2 c d f=> ?_,fun b' c' d=> ?_,fun b' k' a=> ?_,fun b' k' a=> ?_,fun b' c' d=> ?_,H.frlt⟩,ch⟩
 ·unfold cE at d f
  by_cases e1:z=b
  ·rw [ae e1] at d;cases d
  ·by_cases e2:b2=b
   ·rw [ae e2] at f;cases f
   ·rw [aa e1] at d;rw [aa e2] at f;exact H.inj _ _ _ d f
 ·unfold cE at d
  by_cases e:b'=b
  ·rw [ae e] at d;cases d
  ·rw [aa e] at d
   obtain ⟨k',a,h0⟩:=H.dom b' c' d
   exact ⟨k',by simp [bT,e,a],h0⟩
 ·by_cases e:b'=b
  ·simp [bT,e] at a;subst a;exact .inl ⟨rfl,rfl,by simp [cE,e]⟩
  ·simp [bT,e] at a
   rcases H.blk b' k' a with d|⟨l,c',arr',t',lo',o,m,p,q,r,s⟩|⟨l,t,c',m,u⟩
   ·exact .inl ⟨d.1,d.2.1,by simp [cE,e,d.2.2]⟩
   ·exact .inr (.inl ⟨l,c',arr',t',lo',o,by simp [cE,e,m],p,q,r,fun i row j v d f=>(s i row j v d f).chg ch⟩)
   ·exact .inr (.inr ⟨l,t,c',by simp [cE,e,m],u⟩)
 ·by_cases e:b'=b
  ·simp [bT,e] at a;subst a;intro row n;simp [my] at n
  ·simp [bT,e] at a;exact H.rows b' k' a
 ·unfold cE at d
  split at d
  ·cases d
  ·exact H.frame b' c' d
theorem bB.put [Frame] {μ:Mu} {h:b8} {w w':World} (H:bB μ h w) {b c:Nat} {k k':Blk} (hb:h b=some k) (h0:0<k.esz) (m:μ b=some c\/w.heap.size<=c)
 (h1:w'.os=w.os) (h2:w'.tape=w.tape) (h3:w'.output=w.output) (h4:w.heap.size<=w'.heap.size) (hdr:w.drawn<=w'.drawn) (h5: ∀c',c'<w.heap.size->c'≠c->w'.heap[c']? =w.heap[c']?)
 {arr:Array Value} {t:TypeId} {lo hi:Nat} (hh:w'.heap[c]? =some (.cells arr t (lo,hi))) (hf:Fz arr.size lo hi)
 (he:k'.esz=k.esz) (hl:k'.rows.length*k'.esz<=arr.size) (hr: ∀row∈k'.rows,row.length=k'.esz/\ ∀v∈row,v.cell=true/\(k'.op=false->v.cl=true))
 (n:k.rows.length<k'.rows.length\/(k'.rows.length=k.rows.length/\μ b=some c/\arr.size=bsize w c))
 (hv: ∀i row j v,k'.rows[i]? =some row->row[j]? =some v->aY μ h w v (arr.getD (i*k'.esz+j) undef)):
 bB (cE μ b (some c)) (bT h b k') w'/\Chg μ h w (cE μ b (some c)) (bT h b k') w':=by
 d r: ∀b' c',μ b'=some c'->c'<w.heap.size:=fun b' c' x=>H.lt x
 d o: ∀b' c',b'≠b->μ b'=some c'->c'≠c:=by
   intro b' c' s x e
   subst e
   rcases m with m|m
   ·exact s (H.inj _ _ _ x m)
   ·d:=r _ _ x;omega
 d hbs: ∀c',c'<w.heap.size->c'≠c->bsize w' c'=bsize w c':=fun c' y h7=>by unfold bsize;rw [h5 c' y h7]
 d ch:Chg μ h w (cE μ b (some c)) (bT h b k') w':=by
   d hcf: ¬Frame.fr c:=by
     rcases m with m|m
     ·exact H.frame _ _ m
     ·intro y;d:=H.frlt _ y;omega
   refine ⟨⟨h1,h2,h3,h4,hdr,(fun c' l hs=> ?_),fun c' l=>h5 c' (H.frlt _ l) (fun e=>hcf (e▸l))⟩,fun b' z a=> ?_⟩
   ·d s:c'≠c:=by
      intro e;subst e
      rcases m with m|m
      ·exact hs.1 b m
      ·omega
    refine ⟨h5 c' l s,fun b'=> ?_,hs.2⟩
    unfold cE
    by_cases e:b'=b
    ·rw [ae e];intro y;cases y;exact s rfl
    ·rw [aa e];exact hs.1 b'
   ·by_cases e:b'=b
    ·subst e
     rw [hb] at a;cases a
     refine ⟨k',by simp [bT], ?_⟩
     rcases n with n|⟨n,x,hsz⟩
     ·exact .inr (.inl ⟨he,h0,n⟩)
     ·refine .inr (.inr ⟨he,fun h1=>by omega,n,by simp [cE,x],fun c' l=> ?_⟩)
      rw [x] at l;cases l
      unfold bsize
      rw [hh]
      exact hsz
    ·exact ⟨z,by simp [bT,e,a],.inr (.inr ⟨rfl,fun _=>rfl,rfl,by simp [cE,e],fun c' l=>hbs c' (r _ _ l) (o _ _ e l)⟩)⟩
 refine ⟨⟨fun b1 b2 c' f q=> ?_,fun b' c' f=> ?_,fun b' z a=> ?_,fun b' z a=> ?_,fun b' c' f=> ?_,fun c m=>bP (H.frlt c m) h4⟩,ch⟩
 ·unfold cE at f q
  by_cases e1:b1=b<;>by_cases e2:b2=b
  ·rw [e1,e2]
  ·rw [ae e1] at f;rw [aa e2] at q;cases f;exact absurd rfl (o _ _ e2 q)
  ·rw [aa e1] at f;rw [ae e2] at q;cases q;exact absurd rfl (o _ _ e1 f)
  ·rw [aa e1] at f;rw [aa e2] at q;exact H.inj _ _ _ f q
 ·unfold cE at f
  by_cases e:b'=b
  ·exact ⟨k',by simp [bT,e],.inl (by rw [he];exact h0)⟩
  ·rw [aa e] at f
   obtain ⟨z,a,h02⟩:=H.dom b' c' f
   exact ⟨z,by simp [bT,e,a],h02⟩
 ·by_cases e:b'=b
  ·simp [bT,e] at a
   subst a
   exact .inr (.inl ⟨by rw [he];exact h0,c,arr,t,lo,hi,by simp [cE,e],hh,hf,hl,fun i row j v f q=>(hv i row j v f q).chg ch⟩)
  ·simp [bT,e] at a
   rcases H.blk b' z a with f|⟨g0,c',arr',t',lo',hi',p,hh',hf',hl',hv'⟩|⟨g0,go,c',p,hb'⟩
   ·exact .inl ⟨f.1,f.2.1,by simp [cE,e,f.2.2]⟩
   ·exact .inr (.inl ⟨g0,c',arr',t',lo',hi',by simp [cE,e,p],by rw [h5 c' (r _ _ p) (o _ _ e p)];exact hh',hf',hl',fun i row j v f q=>(hv' i row j v f q).chg ch⟩)
   ·exact .inr (.inr ⟨g0,go,c',by simp [cE,e,p],hb'.keep (h5 c' (r _ _ p) (o _ _ e p))⟩)
 ·by_cases e:b'=b
  ·simp [bT,e] at a;subst a;exact fun row u=>⟨fun _=>(hr row u).1,(hr row u).2⟩
  ·simp [bT,e] at a;exact H.rows b' z a
 ·unfold cE at f
  split at f
  ·cases f
   rcases m with m|m
   ·exact H.frame _ _ m
   ·intro y;d:=H.frlt _ y;omega
  ·exact H.frame b' c' f
end
end Go.AI
