/- Part. -/
import Derived.Test.YtdnkignjanfikaaGreatAiDefs
set_option linter.unusedVariables false
namespace Go.AI
abbrev Mu:=Nat->Option Nat
class Frame where
 fr:Nat->Prop
section
def sX [Frame] (μ:Mu) (c:Nat):Prop:=(∀b,μ b≠some c)/\ ¬Frame.fr c
def bsize (w:World) (c:Nat):Nat:=match w.heap[c]? with
 |some (.cells a _ _)=>a.size
 |_=>0
inductive b7 [Frame] (μ:Mu) (h:ba) (w:World):V->Value->Prop
 |lit (v:Value):b7 μ h w (.lit v) v
 |agg (cs:List V) (xs:Array Value) (hl:xs.size=cs.length) (hcell: ∀v∈cs,v.cell=true) (hc: ∀i v,cs[i]? =some v->b7 μ h w v (xs.getD i undef)):b7 μ h w (.agg cs) (.agg xs)
 |tup (vs:List V) (xs:Array Value) (hl:xs.size=vs.length) (hc: ∀i v,vs[i]? =some v->b7 μ h w v (xs.getD i undef)):b7 μ h w (.tup vs) (.tuple xs)
 |ptr (b i o n:Nat) (x:Value) (k:Blk) (hk:h b=some k) (hn:k.esz=0\/n<=k.rows.length) (hx: ∃c off,x= .pointer (some ⟨c,off,none⟩))
  (hp:k.esz≠0->k.rows.length=n->i<n-> ∃c,μ b=some c/\x= .pointer (some ⟨c,i*k.esz+o,none⟩))
  (hd:k.esz=0->k.op=false):b7 μ h w (.ptr b i o n) x
 |mp (b:Nat) (x:Value) (k:Blk) (hk:h b=some k) (hx: ∃c,x= .map (some c)) (hm:k.esz=0->k.op=true-> ∃c,μ b=some c/\x= .map (some c)):b7 μ h w (.mp b) x
 |sl (b s n:Nat) (x:Value) (k:Blk) (hk:h b=some k) (hn:k.esz=0\/s+n<=k.rows.length) (hx: ∃a c,x= .slice a n c)
  (hp:k.esz≠0->s+n=k.rows.length-> ∃a cap,x= .slice a n cap/\((n=0/\cap=0)\/ ∃c,μ b=some c/\a=some ⟨c,s*k.esz,none⟩/\(s+cap)*k.esz<=bsize w c/\n<=cap)):
  b7 μ h w (.sl b s n) x
 |emp (a:Option Addr):b7 μ h w (.imm 0 []) (.slice a 0 0)
 |imm0 (e:Nat) (a:Option Addr) (cap:Nat) (he:e≠0):b7 μ h w (.imm e []) (.slice a 0 cap)
 |imm (e:Nat) (rows:List (List V)) (c off cap:Nat) (ys:Nat->Nat->Value) (he:0<e) (hr:rows≠[]) (hcap:rows.length<=cap) (hc:c<w.heap.size) (hs:sX μ c)
  (hrow: ∀row∈rows,row.length=e/\ ∀v∈row,v.cl=true/\v.cell=true)
  (hcell: ∀i j,i<rows.length->j<e->w.cell? ⟨c,off+(i*e+j),none⟩=some (ys i j))
  (hv: ∀i row j v,rows[i]? =some row->row[j]? =some v->b7 μ h w v (ys i j)):b7 μ h w (.imm e rows) (.slice (some ⟨c,off,none⟩) rows.length cap)
 |iptr (row:List V) (o c off:Nat) (ys:Nat->Value) (hc:c<w.heap.size) (hs:sX μ c) (hrow: ∀v∈row,v.cl=true/\v.cell=true)
  (hcell: ∀j,j<row.length->w.cell? ⟨c,off+j,none⟩=some (ys j)) (hv: ∀j v,row[j]? =some v->b7 μ h w v (ys j)):b7 μ h w (.iptr row o) (.pointer (some ⟨c,off+o,none⟩))
 |fn (f:FuncId) (caps:List V) (xs:Array Value) (hl:xs.size=caps.length) (hc: ∀i v,caps[i]? =some v->b7 μ h w v (xs.getD i undef)):b7 μ h w (.fn f caps) (.func (.func f) #[] xs)
 |unk (x:Value):b7 μ h w .undef x
def Fz (size lo hi:Nat):Prop:=lo=hi\/size<=lo
theorem Fz.at {size lo hi:Nat} (h:Fz size lo hi) (i:Nat) (a:lo<=i) (b:i<hi):size<=i:=by
 rcases h with h|h<;>omega
structure a3k (e:MapEntry) (t:Tri):Prop where
 key:e.key= .agg #[.int .i64 t.1,.int .i64 t.2.1]
 val:e.val= .int .i64 t.2.2
structure vz (w:World) (c:Nat) (rows:List (List V)):Prop where
 ex: ∃(es:Array MapEntry) (L:List Tri),w.heap[c]? =some (.map es es.size)/\rows=[bH L]/\L.length=es.size/\(∀(i:Nat) (e:MapEntry) (t:Tri),es[i]? =some e->L[i]? =some t->a3k e t)/\
  ∀(i:Nat) (e:MapEntry),es[i]? =some e->e.born=i
theorem vz.keep {w w':World} {c:Nat} {rows:List (List V)} (m:vz w c rows) (h:w'.heap[c]? =w.heap[c]?):vz w' c rows:=by
 obtain ⟨es,L,a,b⟩:=m.ex
 exact ⟨es,L,h.trans a,b⟩
theorem vz.lt {w:World} {c:Nat} {rows:List (List V)} (m:vz w c rows):c<w.heap.size:=by
 obtain ⟨es,L,d,e⟩:=m.ex
 rcases dc c w.heap.size with a|b
 ·exact a
 ·rw [fG b] at d;cases d
theorem vz.bsize {w:World} {c:Nat} {rows:List (List V)} (m:vz w c rows):bsize w c=0:=by
 obtain ⟨es,L,a,b⟩:=m.ex
 unfold AI.bsize;rw [a]
theorem Qt: ∀{L:List Tri} {v:V},v∈bH L-> ∃n,v= .lit (.int .i64 n)
 | (a,b,c)::r,v,h=>by
   simp only [bH,aW] at h
   rcases h with rfl|rfl|rfl|h
   ·exact ⟨_,rfl⟩
   ·exact ⟨_,rfl⟩
   ·exact ⟨_,rfl⟩
   ·exact Qt h
theorem vz.lit {w:World} {c:Nat} {rows:List (List V)} (m:vz w c rows) {row:List V} {v:V} (a:row∈rows) (b:v∈row): ∃n,v= .lit (.int .i64 n):=by
 obtain ⟨es,L,_,d,_⟩:=m.ex
 subst d
 simp at a;subst a
 exact Qt b
theorem vz.map {w:World} {c:Nat} {rows:List (List V)} (m:vz w c rows) {f:V->V} (a: ∀n,f (.lit (.int .i64 n))= .lit (.int .i64 n)):rows.map (·.map f)=rows:=by
 have: ∀row∈rows,row.map f=row:=fun row b=>by
  have: ∀v∈row,f v=v:=fun v d=>by obtain ⟨n,rfl⟩:=m.lit b d;exact a n
  rw [bk this];simp
 rw [bk this];simp
def c5S [Frame] (μ:Mu) (h:ba) (w:World) (b:Nat) (k:Blk):Prop:=
 (k.rows=[]/\k.op=false/\μ b=none)\/
 (0<k.esz/\ ∃c arr t lo hi,μ b=some c/\w.heap[c]? =some (.cells arr t (lo,hi))/\Fz arr.size lo hi/\k.rows.length*k.esz<=arr.size/\
  ∀i row j v,k.rows[i]? =some row->row[j]? =some v->b7 μ h w v (arr.getD (i*k.esz+j) undef))\/
 (k.esz=0/\k.op=true/\ ∃c,μ b=some c/\vz w c k.rows)
def Blk.lies (k:Blk):Prop:=0<k.esz\/k.op=true
structure bG [Frame] (μ:Mu) (h:ba) (w:World):Prop where
 inj: ∀b b' c,μ b=some c->μ b'=some c->b=b'
 dom: ∀b c,μ b=some c-> ∃k,h b=some k/\k.lies
 blk: ∀b k,h b=some k->c5S μ h w b k
 rows: ∀b k,h b=some k-> ∀row∈k.rows,(0<k.esz->row.length=k.esz)/\ ∀v∈row,v.cell=true/\(k.op=false->v.cl=true)
 frame: ∀b c,μ b=some c-> ¬Frame.fr c
 frlt: ∀c,Frame.fr c->c<w.heap.size
structure pI [Frame] (μ:Mu) (w:World) (μ':Mu) (w':World):Prop where
 os:w'.os=w.os
 tape:w'.tape=w.tape
 output:w'.output=w.output
 size:w.heap.size<=w'.heap.size
 drawn:w.drawn<=w'.drawn
 keep: ∀c,c<w.heap.size->sX μ c->w'.heap[c]? =w.heap[c]? /\sX μ' c
 keepF: ∀c,Frame.fr c->w'.heap[c]? =w.heap[c]?
theorem pI.refl [Frame] (μ:Mu) (w:World):pI μ w μ w:=⟨rfl,rfl,rfl,am _,am _,(fun _ _ h=>⟨rfl,h⟩),fun _ _=>rfl⟩
theorem pI.trans [Frame] {μ μ1 μ2:Mu} {w d w2:World} (a:pI μ w μ1 d) (b:pI μ1 d μ2 w2):pI μ w μ2 w2:=
 ⟨b.os.trans a.os,b.tape.trans a.tape,b.output.trans a.output,fT a.size b.size,fT a.drawn b.drawn,(fun c hc e=>by
   obtain ⟨f,h⟩:=a.keep c hc e
   obtain ⟨i,j⟩:=b.keep c (co hc a.size) h
   exact ⟨i.trans f,j⟩),fun c hc=>(b.keepF c hc).trans (a.keepF c hc)⟩
def WC (μ:Mu) (h:ba) (w:World) (μ':Mu) (h':ba) (w':World):Prop:=
 ∀b k,h b=some k-> ∃k',h' b=some k'/\((k'.esz=0/\k'.op=false)\/(k'.esz=k.esz/\0<k.esz/\k.rows.length<k'.rows.length)\/
  (k'.esz=k.esz/\(k.esz=0->k'.op=k.op)/\k'.rows.length=k.rows.length/\μ' b=μ b/\ ∀c,μ b=some c->bsize w' c=bsize w c))
structure Chg [Frame] (μ:Mu) (h:ba) (w:World) (μ':Mu) (h':ba) (w':World):Prop where
 ev:pI μ w μ' w'
 refs:WC μ h w μ' h' w'
theorem WC.refl (μ:Mu) (h:ba) (w:World):WC μ h w μ h w:=fun b k a=>⟨k,a,.inr (.inr ⟨rfl,fun _=>rfl,rfl,rfl,fun _ _=>rfl⟩)⟩
theorem Chg.refl [Frame] (μ:Mu) (h:ba) (w:World):Chg μ h w μ h w:=⟨pI.refl _ _,WC.refl _ _ _⟩
theorem ww {w w':World} {c i:Nat} (h:w'.heap[c]? =w.heap[c]?):w'.cell? ⟨c,i,none⟩=w.cell? ⟨c,i,none⟩:=by simp [World.cell?,h]
theorem b7.chg [Frame] {μ:Mu} {h:ba} {w:World} {μ':Mu} {h':ba} {w':World} (ch:Chg μ h w μ' h' w') {v:V} {x:Value} (hv:b7 μ h w v x):b7 μ' h' w' v x:=by
 induction hv with
 |lit v=>exact .lit v
 |agg cs xs r d hc ih=>exact .agg cs xs r d ih
 |tup vs xs r hc ih=>exact .tup vs xs r ih
 |ptr b i o n x k hk hn z hp hmp=>
  obtain ⟨k',l,hr⟩:=ch.refs b k hk
  rcases hr with ⟨h0,h00⟩|⟨m,hl0,r⟩|⟨m,ho,r,hm,hb⟩
  ·exact .ptr b i o n x k' l (.inl h0) z (fun p=>absurd h0 p) (fun _=>h00)
  ·refine .ptr b i o n x k' l ?_ z (fun p t h3=> ?_) (fun p=>by omega)
   ·rcases hn with hn|hn
    ·exact .inl (m.trans hn)
    ·exact .inr om
   ·rcases hn with hn|hn
    ·exact absurd (m.trans hn) p
    ·omega
  ·refine .ptr b i o n x k' l ?_ z (fun p t h3=> ?_) (fun p=>(ho om).trans (hmp om))
   ·rcases hn with hn|hn
    ·exact .inl (m.trans hn)
    ·exact .inr om
   ·obtain ⟨c,q,u⟩:=hp om om h3
    exact ⟨c,by rw [hm];exact q,by rw [m];exact u⟩
 |mp b x k hk z hmp=>
  obtain ⟨k',l,hr⟩:=ch.refs b k hk
  refine .mp b x k' l z (fun p t=> ?_)
  rcases hr with ⟨h0,h00⟩|⟨m,hl0,r⟩|⟨m,ho,r,hm,hb⟩
  ·rw [h00] at t;cases t
  ·omega
  ·obtain ⟨c,q,u⟩:=hmp om ((ho om).symm.trans t)
   exact ⟨c,by rw [hm];exact q,u⟩
 |sl b s n x k hk hn z hp=>
  obtain ⟨k',l,hr⟩:=ch.refs b k hk
  rcases hr with ⟨h0,h00⟩|⟨m,hl0,r⟩|⟨m,ho,r,hm,hb⟩
  ·exact .sl b s n x k' l (.inl h0) z (fun p=>absurd h0 p)
  ·refine .sl b s n x k' l ?_ z (fun p t=> ?_)
   ·rcases hn with hn|hn
    ·exact .inl (m.trans hn)
    ·exact .inr om
   ·rcases hn with hn|hn
    ·exact absurd (m.trans hn) p
    ·omega
  ·refine .sl b s n x k' l ?_ z (fun p t=> ?_)
   ·rcases hn with hn|hn
    ·exact .inl (m.trans hn)
    ·exact .inr om
   ·obtain ⟨a,cap,hx',hs⟩:=hp om om
    refine ⟨a,cap,hx', ?_⟩
    rcases hs with hs|⟨c,q,u,hc3,hc4⟩
    ·exact .inl hs
    ·exact .inr ⟨c,by rw [hm];exact q,by rw [m];exact u,by rw [m,hb c q];exact hc3,hc4⟩
 |emp a=>exact .emp a
 |imm0 e a cap m=>exact .imm0 e a cap m
 |imm e rows c off cap ys m hr hcap hc hs y d hv ih=>
  obtain ⟨p,t⟩:=ch.ev.keep c hc hs
  exact .imm e rows c off cap ys m hr hcap (co hc ch.ev.size) t y (fun i j hi hj=>by rw [ww p];exact d i j hi hj) ih
 |iptr row o c off ys hc hs y d hv ih=>
  obtain ⟨p,t⟩:=ch.ev.keep c hc hs
  exact .iptr row o c off ys (co hc ch.ev.size) t y (fun j hj=>by rw [ww p];exact d j hj) ih
 |fn f caps xs r hc ih=>exact .fn f caps xs r ih
 |unk x=>exact .unk x
theorem V.cz_or (v:V):v.cz=v\/(v= .lit (.slice none 0 0)/\v.cz= .imm 1 [])\/ ∃e,v= .imm e []/\v.cz= .imm 1 []:=by
 unfold V.cz
 split
 ·exact .inr (.inl ⟨rfl,rfl⟩)
 ·exact .inr (.inr ⟨_,rfl,rfl⟩)
 ·exact .inl rfl
theorem b7.cz [Frame] {μ:Mu} {h:ba} {w:World} {v:V} {x:Value} (d:b7 μ h w v x):b7 μ h w v.cz x:=by
 rcases v.cz_or with b|⟨rfl,b⟩|⟨e,rfl,b⟩
 ·rw [b];exact d
 ·rw [b];cases d;exact .imm0 1 none 0 dcd
 ·rw [b]
  cases d with
  |emp a=>exact .imm0 1 a 0 dcd
  |imm0 _ a cap f=>exact .imm0 1 a cap dcd
  |imm _ _ c off cap ys f i=>exact absurd rfl i
theorem Mp {v:V} (h:v.cell=true):v.cz.cell=true:=by
 rcases v.cz_or with a|⟨_,a⟩|⟨e,_,a⟩
 ·rw [a];exact h
 ·rw [a];rfl
 ·rw [a];rfl
theorem a6h {v:V} (h:v.cl=true):v.cz.cl=true:=by
 rcases v.cz_or with a|⟨_,a⟩|⟨e,_,a⟩
 ·rw [a];exact h
 ·rw [a];rfl
 ·rw [a];rfl
theorem Wm {y:Value} (h:cD y=true):(zc y).cell=true:=Mp (v:= .lit y) h
theorem b2u (y:Value):(zc y).cl=true:=a6h (v:= .lit y) rfl
theorem b7.zc [Frame] {μ:Mu} {h:ba} {w:World} (y:Value):b7 μ h w (zc y) y:=(b7.lit y).cz
theorem b7.closed [Frame] {μ:Mu} {h:ba} {w:World} {μ':Mu} (h':ba) {w':World} (ev:pI μ w μ' w') {v:V} {x:Value} (r:b7 μ h w v x) (m:v.cl=true):b7 μ' h' w' v x:=by
 induction r with
 |lit v=>exact .lit v
 |agg cs xs t d hc ih=>simp [V.cl] at m
 |tup vs xs t hc ih=>simp [V.cl] at m
 |ptr b i o n x k hk hn hx hp u=>simp [V.cl] at m
 |mp b x k hk hx u=>simp [V.cl] at m
 |sl b s n x k hk hn hx hp=>simp [V.cl] at m
 |emp a=>exact .emp a
 |imm0 e a cap y=>exact .imm0 e a cap y
 |imm e rows c off cap ys y hr q hc z l d r ih=>
  obtain ⟨h1,h2⟩:=ev.keep c hc z
  exact .imm e rows c off cap ys y hr q (co hc ev.size) h2 l (fun i j hi p=>by rw [ww h1];exact d i j hi p)
   (fun i row j v hi p=>ih i row j v hi p ((l row (al hi)).2 v (al p)).1)
 |iptr row o c off ys hc z l d r ih=>
  obtain ⟨h1,h2⟩:=ev.keep c hc z
  exact .iptr row o c off ys (co hc ev.size) h2 l (fun j p=>by rw [ww h1];exact d j p) (fun j v p=>ih j v p (l v (al p)).1)
 |fn f caps xs t hc ih=>
  cases caps with
  |nil=>exact .fn f [] xs t (fun i v h=>by simp at h)
  |cons a b=>simp [V.cl] at m
 |unk x=>simp [V.cl] at m
theorem b7.oneCell [Frame] {μ:Mu} {h:ba} {w:World} {v:V} {x:Value} (j:b7 μ h w v x) (hc:v.cell=true):cD x=true:=by
 cases j with
 |lit v=>exact hc
 |agg=>simp [V.cell] at hc
 |tup=>simp [V.cell] at hc
 |ptr b i o n x k f hn d l e=>obtain ⟨c,off,rfl⟩:=d;rfl
 |mp b x k f d e=>obtain ⟨c,rfl⟩:=d;rfl
 |sl b s n x k f hn d l=>obtain ⟨a,c,rfl⟩:=d;rfl
 |emp=>rfl
 |imm0=>rfl
 |imm=>rfl
 |iptr=>rfl
 |fn=>rfl
 |unk=>simp [V.cell] at hc
theorem mK {x:Value} (h:cD x=true):x.cells= #[x]:=by
 cases x<;>simp [cD,Value.cells] at h ⊢
theorem b7.cellsRel [Frame] {μ:Mu} {h:ba} {w:World} {v:V} {x:Value} (a:b7 μ h w v x) (hc:v.cells.all V.cell=true):
 x.cells.size=v.cells.length/\ ∀i u,v.cells[i]? =some u->b7 μ h w u (x.cells.getD i undef):=by
 cases v with
 |agg cs=>
  cases a with
  |agg _ xs j d hc=>exact ⟨j,hc⟩
 |tup vs=>simp [V.cells,V.cell] at hc
 |undef=>simp [V.cells,V.cell] at hc
 |lit y=>
  have c:=a.oneCell (by simpa [V.cells] using hc)
  rw [mK c]
  refine ⟨rfl,fun i u hi=> ?_⟩
  cases i with
  |zero=>simp [V.cells] at hi;subst hi;exact a
  |succ i=>simp [V.cells] at hi
 |ptr b i o n=>
  have c:=a.oneCell (by simpa [V.cells] using hc)
  rw [mK c]
  refine ⟨rfl,fun i u hi=> ?_⟩
  cases i with
  |zero=>simp [V.cells] at hi;subst hi;exact a
  |succ i=>simp [V.cells] at hi
 |mp b=>
  have c:=a.oneCell (by simpa [V.cells] using hc)
  rw [mK c]
  refine ⟨rfl,fun i u hi=> ?_⟩
  cases i with
  |zero=>simp [V.cells] at hi;subst hi;exact a
  |succ i=>simp [V.cells] at hi
 |sl b s n=>
  have c:=a.oneCell (by simpa [V.cells] using hc)
  rw [mK c]
  refine ⟨rfl,fun i u hi=> ?_⟩
  cases i with
  |zero=>simp [V.cells] at hi;subst hi;exact a
  |succ i=>simp [V.cells] at hi
 |imm e r=>
  have c:=a.oneCell (by simpa [V.cells] using hc)
  rw [mK c]
  refine ⟨rfl,fun i u hi=> ?_⟩
  cases i with
  |zero=>simp [V.cells] at hi;subst hi;exact a
  |succ i=>simp [V.cells] at hi
 |iptr r o=>
  have c:=a.oneCell (by simpa [V.cells] using hc)
  rw [mK c]
  refine ⟨rfl,fun i u hi=> ?_⟩
  cases i with
  |zero=>simp [V.cells] at hi;subst hi;exact a
  |succ i=>simp [V.cells] at hi
 |fn f cs=>
  have c:=a.oneCell (by simpa [V.cells] using hc)
  rw [mK c]
  refine ⟨rfl,fun i u hi=> ?_⟩
  cases i with
  |zero=>simp [V.cells] at hi;subst hi;exact a
  |succ i=>simp [V.cells] at hi
theorem bG.lt [Frame] {μ:Mu} {h:ba} {w:World} (H:bG μ h w) {b c:Nat} (a:μ b=some c):c<w.heap.size:=by
 obtain ⟨k,l,h0⟩:=H.dom b c a
 rcases H.blk b k l with ⟨_,_,hn⟩|⟨_,c',arr,t,lo,hi,d,j,_⟩|⟨_,_,c',d,e⟩
 ·rw [hn] at a;cases a
 ·rw [d] at a;cases a
  rcases dc c w.heap.size with f|i
  ·exact f
  ·rw [fG i] at j;cases j
 ·rw [d] at a;cases a;exact e.lt
def cM (μ:Mu) (b:Nat) (c:Option Nat):Mu:=fun b'=>if b'=b then c else μ b'
def Am (w w':World):Prop:=w'.os=w.os/\w'.tape=w.tape/\w'.output=w.output/\w.heap.size<=w'.heap.size/\(∀c,c<w.heap.size->w'.heap[c]? =w.heap[c]?)/\w.drawn<=w'.drawn
theorem Am.refl (w:World):Am w w:=⟨rfl,rfl,rfl,am _,fun _ _=>rfl,am _⟩
theorem Am.drew {w w':World} (g:Am { w with drawn:=w.drawn+1 } w'):Am w w':=⟨g.1,g.2.1,g.2.2.1,g.2.2.2.1,g.2.2.2.2.1,fT (p7 _) g.2.2.2.2.2⟩
theorem Am.bsize {w w':World} (g:Am w w') {c:Nat} (hc:c<w.heap.size):bsize w' c=bsize w c:=by
 unfold AI.bsize;rw [g.2.2.2.2.1 c hc]
theorem Am.chg [Frame] {w w':World} (g:Am w w') {μ:Mu} {h:ba} (H:bG μ h w):Chg μ h w μ h w':=
 ⟨⟨g.1,g.2.1,g.2.2.1,g.2.2.2.1,g.2.2.2.2.2,(fun c hc a=>⟨g.2.2.2.2.1 c hc,a⟩),fun c hc=>g.2.2.2.2.1 c (H.frlt c hc)⟩,fun b k d=>⟨k,d,.inr (.inr ⟨rfl,fun _=>rfl,rfl,rfl,fun _ hc=>g.bsize (H.lt hc)⟩)⟩⟩
theorem bG.grown [Frame] {μ:Mu} {h:ba} {w w':World} (H:bG μ h w) (g:Am w w'):bG μ h w':=by
 refine ⟨H.inj,H.dom,fun b k e=> ?_,H.rows,H.frame,fun c hc=>co (H.frlt c hc) g.2.2.2.1⟩
 rcases H.blk b k e with d|⟨h0,c,arr,t,lo,hi,a,f,l,m,n⟩|⟨h0,o,c,a,p⟩
 ·exact .inl d
 ·exact .inr (.inl ⟨h0,c,arr,t,lo,hi,a,by rw [g.2.2.2.2.1 c (H.lt a)];exact f,l,m,fun i row j v d q=>(n i row j v d q).chg (g.chg H)⟩)
 ·exact .inr (.inr ⟨h0,o,c,a,p.keep (g.2.2.2.2.1 c (H.lt a))⟩)
theorem bG.new [Frame] {μ:Mu} {h:ba} {w w':World} (H:bG μ h w) (g:Am w w') {b c:Nat} {k:Blk} (hb:h b=none) (hc:w.heap.size<=c)
 {arr:Array Value} {t:TypeId} {lo hi:Nat} (hh:w'.heap[c]? =some (.cells arr t (lo,hi))) (hf:Fz arr.size lo hi)
 (h0:0<k.esz) (hl:k.rows.length*k.esz<=arr.size) (hr: ∀row∈k.rows,row.length=k.esz/\ ∀v∈row,v.cell=true/\(k.op=false->v.cl=true))
 (hv: ∀i row j v,k.rows[i]? =some row->row[j]? =some v->b7 μ h w v (arr.getD (i*k.esz+j) undef)):
 bG (cM μ b (some c)) (ci h b k) w'/\Chg μ h w (cM μ b (some c)) (ci h b k) w':=by
 have hmb:μ b=none:=by
  cases hm:μ b with
  |none=>rfl
  |some c'=>obtain ⟨k',a,_⟩:=H.dom b c' hm;rw [hb] at a;cases a
 have p: ∀b' k',h b'=some k'->b'≠b:=fun b' k' a e=>by rw [e,hb] at a;cases a
 have ch:Chg μ h w (cM μ b (some c)) (ci h b k) w':=by
  refine ⟨⟨g.1,g.2.1,g.2.2.1,g.2.2.2.1,g.2.2.2.2.2,(fun c' o hs=>⟨g.2.2.2.2.1 c' o,fun b'=> ?_,hs.2⟩),fun c hc=>g.2.2.2.2.1 c (H.frlt c hc)⟩,fun b' k' a=> ?_⟩
  ·unfold cM
   by_cases e:b'=b
   ·rw [aa e];intro d;cases d;omega
   ·rw [a7 e];exact hs.1 b'
  ·have e:=p b' k' a
   exact ⟨k',by simp [ci,e,a],.inr (.inr ⟨rfl,fun _=>rfl,rfl,by simp [cM,e],fun c' o=>g.bsize (H.lt o)⟩)⟩
 refine ⟨⟨fun b1 b2 c' d f=> ?_,fun b' c' d=> ?_,fun b' k' a=> ?_,fun b' k' a=> ?_,fun b' c' d=> ?_,fun c hc=>co (H.frlt c hc) g.2.2.2.1⟩,ch⟩
 ·unfold cM at d f
  by_cases e1:b1=b<;>by_cases e2:b2=b
  ·rw [e1,e2]
  ·rw [aa e1] at d;rw [a7 e2] at f;cases d;have:=H.lt f;omega
  ·rw [a7 e1] at d;rw [aa e2] at f;cases f;have:=H.lt d;omega
  ·rw [a7 e1] at d;rw [a7 e2] at f;exact H.inj _ _ _ d f
 ·unfold cM at d
  by_cases e:b'=b
  ·exact ⟨k,by simp [ci,e],.inl h0⟩
  ·rw [a7 e] at d
   obtain ⟨k',a,l⟩:=H.dom b' c' d
   exact ⟨k',by simp [ci,e,a],l⟩
 ·by_cases e:b'=b
  ·simp [ci,e] at a
   subst a
   exact .inr (.inl ⟨h0,c,arr,t,lo,hi,by simp [cM,e],hh,hf,hl,fun i row j v d f=>(hv i row j v d f).chg ch⟩)
  ·simp [ci,e] at a
   rcases H.blk b' k' a with d|⟨l,c',arr',t',lo',q,m,r,s,u,x⟩|⟨l,y,c',m,z⟩
   ·exact .inl ⟨d.1,d.2.1,by simp [cM,e,d.2.2]⟩
   ·exact .inr (.inl ⟨l,c',arr',t',lo',q,by simp [cM,e,m],by rw [g.2.2.2.2.1 c' (H.lt m)];exact r,s,u,fun i row j v d f=>(x i row j v d f).chg ch⟩)
   ·exact .inr (.inr ⟨l,y,c',by simp [cM,e,m],z.keep (g.2.2.2.2.1 c' (H.lt m))⟩)
 ·by_cases e:b'=b
  ·simp [ci,e] at a;subst a;exact fun row n=>⟨fun _=>(hr row n).1,(hr row n).2⟩
  ·simp [ci,e] at a;exact H.rows b' k' a
 ·unfold cM at d
  split at d
  ·cases d;intro f;have:=H.frlt _ f;omega
  ·exact H.frame b' c' d
theorem bG.newNil [Frame] {μ:Mu} {h:ba} {w:World} (H:bG μ h w) {b e:Nat} (s:h b=none):
 bG μ (ci h b ⟨e,false,[]⟩) w/\Chg μ h w μ (ci h b ⟨e,false,[]⟩) w:=by
 have k:μ b=none:=by
  cases t:μ b with
  |none=>rfl
  |some c'=>obtain ⟨k',a,_⟩:=H.dom b c' t;rw [s] at a;cases a
 have d: ∀b' k',h b'=some k'->b'≠b:=fun b' k' a e=>by rw [e,s] at a;cases a
 have ch:Chg μ h w μ (ci h b ⟨e,false,[]⟩) w:=
  ⟨pI.refl _ _,fun b' k' a=>⟨k',by simp [ci,d b' k' a,a],.inr (.inr ⟨rfl,fun _=>rfl,rfl,rfl,fun _ _=>rfl⟩)⟩⟩
 refine ⟨⟨H.inj,fun b' c' c=> ?_,fun b' k' a=> ?_,fun b' k' a=> ?_,H.frame,H.frlt⟩,ch⟩
 ·obtain ⟨k',a,h0⟩:=H.dom b' c' c
  exact ⟨k',by simp [ci,d b' k' a,a],h0⟩
 ·by_cases eb:b'=b
  ·simp [ci,eb] at a;subst a;exact .inl ⟨rfl,rfl,by rw [eb];exact k⟩
  ·simp [ci,eb] at a
   rcases H.blk b' k' a with c|⟨l,c',arr',t',lo',m,n,o,p,q,r⟩|c
   ·exact .inl c
   ·exact .inr (.inl ⟨l,c',arr',t',lo',m,n,o,p,q,fun i row j v c u=>(r i row j v c u).chg ch⟩)
   ·exact .inr (.inr c)
 ·by_cases eb:b'=b
  ·simp [ci,eb] at a;subst a;intro row f;simp at f
  ·simp [ci,eb] at a;exact H.rows b' k' a
theorem bG.kill [Frame] {μ:Mu} {h:ba} {w:World} (H:bG μ h w) {b:Nat} {k:Blk} (hb:h b=some k):
 bG (cM μ b none) (ci h b kf) w/\Chg μ h w (cM μ b none) (ci h b kf) w:=by
 have ch:Chg μ h w (cM μ b none) (ci h b kf) w:=by
  refine ⟨⟨rfl,rfl,rfl,am _,am _,(fun c hc x=>⟨rfl,fun b'=> ?_,x.2⟩),fun _ _=>rfl⟩,fun b' k' a=> ?_⟩
  ·unfold cM
   by_cases e:b'=b
   ·rw [aa e];simp
   ·rw [a7 e];exact x.1 b'
  ·by_cases e:b'=b
   ·exact ⟨kf,by simp [ci,e],.inl ⟨rfl,rfl⟩⟩
   ·exact ⟨k',by simp [ci,e,a],.inr (.inr ⟨rfl,fun _=>rfl,rfl,by simp [cM,e],fun _ _=>rfl⟩)⟩
 refine ⟨⟨fun y z c d f=> ?_,fun b' c' d=> ?_,fun b' k' a=> ?_,fun b' k' a=> ?_,fun b' c' d=> ?_,H.frlt⟩,ch⟩
 ·unfold cM at d f
  by_cases e1:y=b
  ·rw [aa e1] at d;cases d
  ·by_cases e2:z=b
   ·rw [aa e2] at f;cases f
   ·rw [a7 e1] at d;rw [a7 e2] at f;exact H.inj _ _ _ d f
 ·unfold cM at d
  by_cases e:b'=b
  ·rw [aa e] at d;cases d
  ·rw [a7 e] at d
   obtain ⟨k',a,h0⟩:=H.dom b' c' d
   exact ⟨k',by simp [ci,e,a],h0⟩
 ·by_cases e:b'=b
  ·simp [ci,e] at a;subst a;exact .inl ⟨rfl,rfl,by simp [cM,e]⟩
  ·simp [ci,e] at a
   rcases H.blk b' k' a with d|⟨l,c',arr',t',lo',o,m,p,q,r,s⟩|⟨l,t,c',m,u⟩
   ·exact .inl ⟨d.1,d.2.1,by simp [cM,e,d.2.2]⟩
   ·exact .inr (.inl ⟨l,c',arr',t',lo',o,by simp [cM,e,m],p,q,r,fun i row j v d f=>(s i row j v d f).chg ch⟩)
   ·exact .inr (.inr ⟨l,t,c',by simp [cM,e,m],u⟩)
 ·by_cases e:b'=b
  ·simp [ci,e] at a;subst a;intro row n;simp [kf] at n
  ·simp [ci,e] at a;exact H.rows b' k' a
 ·unfold cM at d
  split at d
  ·cases d
  ·exact H.frame b' c' d
theorem bG.put [Frame] {μ:Mu} {h:ba} {w w':World} (H:bG μ h w) {b c:Nat} {k k':Blk} (hb:h b=some k) (h0:0<k.esz) (hc:μ b=some c\/w.heap.size<=c)
 (h1:w'.os=w.os) (h2:w'.tape=w.tape) (h3:w'.output=w.output) (h4:w.heap.size<=w'.heap.size) (hdr:w.drawn<=w'.drawn) (y: ∀c',c'<w.heap.size->c'≠c->w'.heap[c']? =w.heap[c']?)
 {arr:Array Value} {t:TypeId} {lo hi:Nat} (hh:w'.heap[c]? =some (.cells arr t (lo,hi))) (hf:Fz arr.size lo hi)
 (z:k'.esz=k.esz) (hl:k'.rows.length*k'.esz<=arr.size) (hr: ∀row∈k'.rows,row.length=k'.esz/\ ∀v∈row,v.cell=true/\(k'.op=false->v.cl=true))
 (l:k.rows.length<k'.rows.length\/(k'.rows.length=k.rows.length/\μ b=some c/\arr.size=bsize w c))
 (hv: ∀i row j v,k'.rows[i]? =some row->row[j]? =some v->b7 μ h w v (arr.getD (i*k'.esz+j) undef)):
 bG (cM μ b (some c)) (ci h b k') w'/\Chg μ h w (cM μ b (some c)) (ci h b k') w':=by
 have p: ∀b' c',μ b'=some c'->c'<w.heap.size:=fun b' c' s=>H.lt s
 have m: ∀b' c',b'≠b->μ b'=some c'->c'≠c:=by
  intro b' c' q s e
  subst e
  rcases hc with hc|hc
  ·exact q (H.inj _ _ _ s hc)
  ·have:=p _ _ s;omega
 have hbs: ∀c',c'<w.heap.size->c'≠c->bsize w' c'=bsize w c':=fun c' u h7=>by unfold bsize;rw [y c' u h7]
 have ch:Chg μ h w (cM μ b (some c)) (ci h b k') w':=by
  have hcf: ¬Frame.fr c:=by
   rcases hc with hc|hc
   ·exact H.frame _ _ hc
   ·intro u;have:=H.frlt _ u;omega
  refine ⟨⟨h1,h2,h3,h4,hdr,(fun c' f hs=> ?_),fun c' f=>y c' (H.frlt _ f) (fun e=>hcf (e▸f))⟩,fun b' x a=> ?_⟩
  ·have q:c'≠c:=by
    intro e;subst e
    rcases hc with hc|hc
    ·exact hs.1 b hc
    ·omega
   refine ⟨y c' f q,fun b'=> ?_,hs.2⟩
   unfold cM
   by_cases e:b'=b
   ·rw [aa e];intro u;cases u;exact q rfl
   ·rw [a7 e];exact hs.1 b'
  ·by_cases e:b'=b
   ·subst e
    rw [hb] at a;cases a
    refine ⟨k',by simp [ci], ?_⟩
    rcases l with l|⟨l,s,hsz⟩
    ·exact .inr (.inl ⟨z,h0,l⟩)
    ·refine .inr (.inr ⟨z,fun h1=>by omega,l,by simp [cM,s],fun c' f=> ?_⟩)
     rw [s] at f;cases f
     unfold bsize
     rw [hh]
     exact hsz
   ·exact ⟨x,by simp [ci,e,a],.inr (.inr ⟨rfl,fun _=>rfl,rfl,by simp [cM,e],fun c' f=>hbs c' (p _ _ f) (m _ _ e f)⟩)⟩
 refine ⟨⟨fun b1 b2 c' d o=> ?_,fun b' c' d=> ?_,fun b' x a=> ?_,fun b' x a=> ?_,fun b' c' d=> ?_,fun c hc=>co (H.frlt c hc) h4⟩,ch⟩
 ·unfold cM at d o
  by_cases e1:b1=b<;>by_cases e2:b2=b
  ·rw [e1,e2]
  ·rw [aa e1] at d;rw [a7 e2] at o;cases d;exact absurd rfl (m _ _ e2 o)
  ·rw [a7 e1] at d;rw [aa e2] at o;cases o;exact absurd rfl (m _ _ e1 d)
  ·rw [a7 e1] at d;rw [a7 e2] at o;exact H.inj _ _ _ d o
 ·unfold cM at d
  by_cases e:b'=b
  ·exact ⟨k',by simp [ci,e],.inl (by rw [z];exact h0)⟩
  ·rw [a7 e] at d
   obtain ⟨x,a,h02⟩:=H.dom b' c' d
   exact ⟨x,by simp [ci,e,a],h02⟩
 ·by_cases e:b'=b
  ·simp [ci,e] at a
   subst a
   exact .inr (.inl ⟨by rw [z];exact h0,c,arr,t,lo,hi,by simp [cM,e],hh,hf,hl,fun i row j v d o=>(hv i row j v d o).chg ch⟩)
  ·simp [ci,e] at a
   rcases H.blk b' x a with d|⟨g0,c',arr',t',lo',hi',n,hh',hf',hl',hv'⟩|⟨g0,go,c',n,hb'⟩
   ·exact .inl ⟨d.1,d.2.1,by simp [cM,e,d.2.2]⟩
   ·exact .inr (.inl ⟨g0,c',arr',t',lo',hi',by simp [cM,e,n],by rw [y c' (p _ _ n) (m _ _ e n)];exact hh',hf',hl',fun i row j v d o=>(hv' i row j v d o).chg ch⟩)
   ·exact .inr (.inr ⟨g0,go,c',by simp [cM,e,n],hb'.keep (y c' (p _ _ n) (m _ _ e n))⟩)
 ·by_cases e:b'=b
  ·simp [ci,e] at a;subst a;exact fun row r=>⟨fun _=>(hr row r).1,(hr row r).2⟩
  ·simp [ci,e] at a;exact H.rows b' x a
 ·unfold cM at d
  split at d
  ·cases d
   rcases hc with hc|hc
   ·exact H.frame _ _ hc
   ·intro u;have:=H.frlt _ u;omega
  ·exact H.frame b' c' d
end
end Go.AI
