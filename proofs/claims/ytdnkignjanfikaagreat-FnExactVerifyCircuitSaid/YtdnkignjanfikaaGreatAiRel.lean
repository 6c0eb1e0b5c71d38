/- How the abstract machine's values and memory stand to the model's, and what keeps that. -/
import Derived.Test.YtdnkignjanfikaaGreatAiDefs
set_option linter.unusedVariables false
namespace Go.AI
abbrev Mu:=Nat->Option Nat
class Frame where
 fr:Nat->Prop
section
def pS [Frame] (μ:Mu) (c:Nat):Prop:=(∀b,μ b≠some c)/\ ¬Frame.fr c
def bsize (w:World) (c:Nat):Nat:=match w.heap[c]? with
 |some (.cells a _ _)=>a.size
 |_=>0
inductive aX [Frame] (μ:Mu) (h:aZ) (w:World):V->Value->Prop
 |lit (v:Value):aX μ h w (.lit v) v
 |agg (cs:List V) (xs:Array Value) (hl:xs.size=cs.length) (hcell: ∀v∈cs,v.cell=true) (hc: ∀i v,cs[i]? =some v->aX μ h w v (xs.getD i undef)):aX μ h w (.agg cs) (.agg xs)
 |tup (vs:List V) (xs:Array Value) (hl:xs.size=vs.length) (hc: ∀i v,vs[i]? =some v->aX μ h w v (xs.getD i undef)):aX μ h w (.tup vs) (.tuple xs)
 |ptr (b i o n:Nat) (x:Value) (k:Blk) (hk:h b=some k) (hn:k.esz=0\/n<=k.rows.length) (hx: ∃c off,x= .pointer (some ⟨c,off,none⟩))
  (hp:k.esz≠0->k.rows.length=n->i<n-> ∃c,μ b=some c/\x= .pointer (some ⟨c,i*k.esz+o,none⟩))
  (hd:k.esz=0->k.op=false):aX μ h w (.ptr b i o n) x
 |mp (b:Nat) (x:Value) (k:Blk) (hk:h b=some k) (hx: ∃c,x= .map (some c)) (hm:k.esz=0->k.op=true-> ∃c,μ b=some c/\x= .map (some c)):aX μ h w (.mp b) x
 |sl (b s n:Nat) (x:Value) (k:Blk) (hk:h b=some k) (hn:k.esz=0\/s+n<=k.rows.length) (hx: ∃a c,x= .slice a n c)
  (hp:k.esz≠0->s+n=k.rows.length-> ∃a cap,x= .slice a n cap/\((n=0/\cap=0)\/ ∃c,μ b=some c/\a=some ⟨c,s*k.esz,none⟩/\(s+cap)*k.esz<=bsize w c/\n<=cap)):
  aX μ h w (.sl b s n) x
 |emp (a:Option Addr):aX μ h w (.imm 0 []) (.slice a 0 0)
 |imm0 (e:Nat) (a:Option Addr) (cap:Nat) (he:e≠0):aX μ h w (.imm e []) (.slice a 0 cap)
 |imm (e:Nat) (rows:List (List V)) (c off cap:Nat) (ys:Nat->Nat->Value) (he:0<e) (hr:rows≠[]) (hcap:rows.length<=cap) (hc:c<w.heap.size) (hs:pS μ c)
  (hrow: ∀row∈rows,row.length=e/\ ∀v∈row,v.cl=true/\v.cell=true)
  (hcell: ∀i j,i<rows.length->j<e->w.cell? ⟨c,off+(i*e+j),none⟩=some (ys i j))
  (hv: ∀i row j v,rows[i]? =some row->row[j]? =some v->aX μ h w v (ys i j)):aX μ h w (.imm e rows) (.slice (some ⟨c,off,none⟩) rows.length cap)
 |iptr (row:List V) (o c off:Nat) (ys:Nat->Value) (hc:c<w.heap.size) (hs:pS μ c) (hrow: ∀v∈row,v.cl=true/\v.cell=true)
  (hcell: ∀j,j<row.length->w.cell? ⟨c,off+j,none⟩=some (ys j)) (hv: ∀j v,row[j]? =some v->aX μ h w v (ys j)):aX μ h w (.iptr row o) (.pointer (some ⟨c,off+o,none⟩))
 |fn (f:FuncId) (caps:List V) (xs:Array Value) (hl:xs.size=caps.length) (hc: ∀i v,caps[i]? =some v->aX μ h w v (xs.getD i undef)):aX μ h w (.fn f caps) (.func (.func f) #[] xs)
 |unk (x:Value):aX μ h w .undef x
def Fz (size lo hi:Nat):Prop:=lo=hi\/size<=lo
theorem Fz.at {size lo hi:Nat} (h:Fz size lo hi) (i:Nat) (h1:lo<=i) (h2:i<hi):size<=i:=by
 rcases h with h|h<;>omega
structure a6A (e:MapEntry) (t:Tri):Prop where
 key:e.key= .agg #[.int .i64 t.1,.int .i64 t.2.1]
 val:e.val= .int .i64 t.2.2
structure sx (w:World) (c:Nat) (rows:List (List V)):Prop where
 ex: ∃(es:Array MapEntry) (L:List Tri),w.heap[c]? =some (.map es es.size)/\rows=[bB L]/\L.length=es.size/\(∀(i:Nat) (e:MapEntry) (t:Tri),es[i]? =some e->L[i]? =some t->a6A e t)/\
  ∀(i:Nat) (e:MapEntry),es[i]? =some e->e.born=i
theorem sx.keep {w w':World} {c:Nat} {rows:List (List V)} (m:sx w c rows) (h:w'.heap[c]? =w.heap[c]?):sx w' c rows:=by
 obtain ⟨es,L,h1,h2⟩:=m.ex
 exact ⟨es,L,h.trans h1,h2⟩
theorem sx.lt {w:World} {c:Nat} {rows:List (List V)} (m:sx w c rows):c<w.heap.size:=by
 obtain ⟨es,L,h1,h2⟩:=m.ex
 rcases cA c w.heap.size with hlt|hge
 ·exact hlt
 ·rw [eK hge] at h1;cases h1
theorem sx.bsize {w:World} {c:Nat} {rows:List (List V)} (m:sx w c rows):bsize w c=0:=by
 obtain ⟨es,L,h1,h2⟩:=m.ex
 unfold AI.bsize;rw [h1]
theorem Tt: ∀{L:List Tri} {v:V},v∈bB L-> ∃n,v= .lit (.int .i64 n)
 | (a,b,c)::r,v,h=>by
   simp only [bB,bc] at h
   rcases h with rfl|rfl|rfl|h
   ·exact ⟨_,rfl⟩
   ·exact ⟨_,rfl⟩
   ·exact ⟨_,rfl⟩
   ·exact Tt h
theorem sx.lit {w:World} {c:Nat} {rows:List (List V)} (m:sx w c rows) {row:List V} {v:V} (hr:row∈rows) (hv:v∈row): ∃n,v= .lit (.int .i64 n):=by
 obtain ⟨es,L,_,h2,_⟩:=m.ex
 subst h2
 simp at hr;subst hr
 exact Tt hv
theorem sx.map {w:World} {c:Nat} {rows:List (List V)} (m:sx w c rows) {f:V->V} (hf: ∀n,f (.lit (.int .i64 n))= .lit (.int .i64 n)):rows.map (·.map f)=rows:=by
 have: ∀row∈rows,row.map f=row:=fun row hr=>by
  have: ∀v∈row,f v=v:=fun v hv=>by obtain ⟨n,rfl⟩:=m.lit hr hv;exact hf n
  rw [cC this];simp
 rw [cC this];simp
def c4g [Frame] (μ:Mu) (h:aZ) (w:World) (b:Nat) (k:Blk):Prop:=
 (k.rows=[]/\k.op=false/\μ b=none)\/
 (0<k.esz/\ ∃c arr t lo hi,μ b=some c/\w.heap[c]? =some (.cells arr t (lo,hi))/\Fz arr.size lo hi/\k.rows.length*k.esz<=arr.size/\
  ∀i row j v,k.rows[i]? =some row->row[j]? =some v->aX μ h w v (arr.getD (i*k.esz+j) undef))\/
 (k.esz=0/\k.op=true/\ ∃c,μ b=some c/\sx w c k.rows)
def Blk.lies (k:Blk):Prop:=0<k.esz\/k.op=true
structure bD [Frame] (μ:Mu) (h:aZ) (w:World):Prop where
 inj: ∀b b' c,μ b=some c->μ b'=some c->b=b'
 dom: ∀b c,μ b=some c-> ∃k,h b=some k/\k.lies
 blk: ∀b k,h b=some k->c4g μ h w b k
 rows: ∀b k,h b=some k-> ∀row∈k.rows,(0<k.esz->row.length=k.esz)/\ ∀v∈row,v.cell=true/\(k.op=false->v.cl=true)
 frame: ∀b c,μ b=some c-> ¬Frame.fr c
 frlt: ∀c,Frame.fr c->c<w.heap.size
structure nv [Frame] (μ:Mu) (w:World) (μ':Mu) (w':World):Prop where
 os:w'.os=w.os
 tape:w'.tape=w.tape
 output:w'.output=w.output
 size:w.heap.size<=w'.heap.size
 drawn:w.drawn<=w'.drawn
 keep: ∀c,c<w.heap.size->pS μ c->w'.heap[c]? =w.heap[c]? /\pS μ' c
 keepF: ∀c,Frame.fr c->w'.heap[c]? =w.heap[c]?
theorem nv.refl [Frame] (μ:Mu) (w:World):nv μ w μ w:=⟨rfl,rfl,rfl,aw _,aw _,(fun _ _ h=>⟨rfl,h⟩),fun _ _=>rfl⟩
theorem nv.trans [Frame] {μ μ1 μ2:Mu} {w w1 w2:World} (a:nv μ w μ1 w1) (b:nv μ1 w1 μ2 w2):nv μ w μ2 w2:=
 ⟨b.os.trans a.os,b.tape.trans a.tape,b.output.trans a.output,ed a.size b.size,ed a.drawn b.drawn,(fun c hc hs=>by
   obtain ⟨h1,h2⟩:=a.keep c hc hs
   obtain ⟨h3,h4⟩:=b.keep c (bR hc a.size) h2
   exact ⟨h3.trans h1,h4⟩),fun c hc=>(b.keepF c hc).trans (a.keepF c hc)⟩
def Yx (μ:Mu) (h:aZ) (w:World) (μ':Mu) (h':aZ) (w':World):Prop:=
 ∀b k,h b=some k-> ∃k',h' b=some k'/\((k'.esz=0/\k'.op=false)\/(k'.esz=k.esz/\0<k.esz/\k.rows.length<k'.rows.length)\/
  (k'.esz=k.esz/\(k.esz=0->k'.op=k.op)/\k'.rows.length=k.rows.length/\μ' b=μ b/\ ∀c,μ b=some c->bsize w' c=bsize w c))
structure Chg [Frame] (μ:Mu) (h:aZ) (w:World) (μ':Mu) (h':aZ) (w':World):Prop where
 ev:nv μ w μ' w'
 refs:Yx μ h w μ' h' w'
theorem Yx.refl (μ:Mu) (h:aZ) (w:World):Yx μ h w μ h w:=fun b k hk=>⟨k,hk,.inr (.inr ⟨rfl,fun _=>rfl,rfl,rfl,fun _ _=>rfl⟩)⟩
theorem Chg.refl [Frame] (μ:Mu) (h:aZ) (w:World):Chg μ h w μ h w:=⟨nv.refl _ _,Yx.refl _ _ _⟩
theorem uf {w w':World} {c i:Nat} (h:w'.heap[c]? =w.heap[c]?):w'.cell? ⟨c,i,none⟩=w.cell? ⟨c,i,none⟩:=by simp [World.cell?,h]
theorem aX.chg [Frame] {μ:Mu} {h:aZ} {w:World} {μ':Mu} {h':aZ} {w':World} (ch:Chg μ h w μ' h' w') {v:V} {x:Value} (hv:aX μ h w v x):aX μ' h' w' v x:=by
 induction hv with
 |lit v=>exact .lit v
 |agg cs xs hl hcell hc ih=>exact .agg cs xs hl hcell ih
 |tup vs xs hl hc ih=>exact .tup vs xs hl ih
 |ptr b i o n x k hk hn hx hp hmp=>
  obtain ⟨k',hk',hr⟩:=ch.refs b k hk
  rcases hr with ⟨h0,h00⟩|⟨he,hl0,hl⟩|⟨he,ho,hl,hm,hb⟩
  ·exact .ptr b i o n x k' hk' (.inl h0) hx (fun h1=>absurd h0 h1) (fun _=>h00)
  ·refine .ptr b i o n x k' hk' ?_ hx (fun h1 h2 h3=> ?_) (fun h1=>by omega)
   ·rcases hn with hn|hn
    ·exact .inl (he.trans hn)
    ·exact .inr (by omega)
   ·rcases hn with hn|hn
    ·exact absurd (he.trans hn) h1
    ·omega
  ·refine .ptr b i o n x k' hk' ?_ hx (fun h1 h2 h3=> ?_) (fun h1=>(ho (by omega)).trans (hmp (by omega)))
   ·rcases hn with hn|hn
    ·exact .inl (he.trans hn)
    ·exact .inr (by omega)
   ·obtain ⟨c,hc1,hc2⟩:=hp (by omega) (by omega) h3
    exact ⟨c,by rw [hm];exact hc1,by rw [he];exact hc2⟩
 |mp b x k hk hx hmp=>
  obtain ⟨k',hk',hr⟩:=ch.refs b k hk
  refine .mp b x k' hk' hx (fun h1 h2=> ?_)
  rcases hr with ⟨h0,h00⟩|⟨he,hl0,hl⟩|⟨he,ho,hl,hm,hb⟩
  ·rw [h00] at h2;cases h2
  ·omega
  ·obtain ⟨c,hc1,hc2⟩:=hmp (by omega) ((ho (by omega)).symm.trans h2)
   exact ⟨c,by rw [hm];exact hc1,hc2⟩
 |sl b s n x k hk hn hx hp=>
  obtain ⟨k',hk',hr⟩:=ch.refs b k hk
  rcases hr with ⟨h0,h00⟩|⟨he,hl0,hl⟩|⟨he,ho,hl,hm,hb⟩
  ·exact .sl b s n x k' hk' (.inl h0) hx (fun h1=>absurd h0 h1)
  ·refine .sl b s n x k' hk' ?_ hx (fun h1 h2=> ?_)
   ·rcases hn with hn|hn
    ·exact .inl (he.trans hn)
    ·exact .inr (by omega)
   ·rcases hn with hn|hn
    ·exact absurd (he.trans hn) h1
    ·omega
  ·refine .sl b s n x k' hk' ?_ hx (fun h1 h2=> ?_)
   ·rcases hn with hn|hn
    ·exact .inl (he.trans hn)
    ·exact .inr (by omega)
   ·obtain ⟨a,cap,hx',hs⟩:=hp (by omega) (by omega)
    refine ⟨a,cap,hx', ?_⟩
    rcases hs with hs|⟨c,hc1,hc2,hc3,hc4⟩
    ·exact .inl hs
    ·exact .inr ⟨c,by rw [hm];exact hc1,by rw [he];exact hc2,by rw [he,hb c hc1];exact hc3,hc4⟩
 |emp a=>exact .emp a
 |imm0 e a cap he=>exact .imm0 e a cap he
 |imm e rows c off cap ys he hr hcap hc hs hrow hcell hv ih=>
  obtain ⟨h1,h2⟩:=ch.ev.keep c hc hs
  exact .imm e rows c off cap ys he hr hcap (bR hc ch.ev.size) h2 hrow (fun i j hi hj=>by rw [uf h1];exact hcell i j hi hj) ih
 |iptr row o c off ys hc hs hrow hcell hv ih=>
  obtain ⟨h1,h2⟩:=ch.ev.keep c hc hs
  exact .iptr row o c off ys (bR hc ch.ev.size) h2 hrow (fun j hj=>by rw [uf h1];exact hcell j hj) ih
 |fn f caps xs hl hc ih=>exact .fn f caps xs hl ih
 |unk x=>exact .unk x
theorem V.cz_or (v:V):v.cz=v\/(v= .lit (.slice none 0 0)/\v.cz= .imm 1 [])\/ ∃e,v= .imm e []/\v.cz= .imm 1 []:=by
 unfold V.cz
 split
 ·exact .inr (.inl ⟨rfl,rfl⟩)
 ·exact .inr (.inr ⟨_,rfl,rfl⟩)
 ·exact .inl rfl
theorem aX.cz [Frame] {μ:Mu} {h:aZ} {w:World} {v:V} {x:Value} (hv:aX μ h w v x):aX μ h w v.cz x:=by
 rcases v.cz_or with h1|⟨rfl,h1⟩|⟨e,rfl,h1⟩
 ·rw [h1];exact hv
 ·rw [h1];cases hv;exact .imm0 1 none 0 (by decide)
 ·rw [h1]
  cases hv with
  |emp a=>exact .imm0 1 a 0 (by decide)
  |imm0 _ a cap he=>exact .imm0 1 a cap (by decide)
  |imm _ _ c off cap ys he hr=>exact absurd rfl hr
theorem KK {v:V} (h:v.cell=true):v.cz.cell=true:=by
 rcases v.cz_or with h1|⟨_,h1⟩|⟨e,_,h1⟩
 ·rw [h1];exact h
 ·rw [h1];rfl
 ·rw [h1];rfl
theorem a8q {v:V} (h:v.cl=true):v.cz.cl=true:=by
 rcases v.cz_or with h1|⟨_,h1⟩|⟨e,_,h1⟩
 ·rw [h1];exact h
 ·rw [h1];rfl
 ·rw [h1];rfl
theorem a1c {y:Value} (h:ck y=true):(zc y).cell=true:=KK (v:= .lit y) h
theorem b36 (y:Value):(zc y).cl=true:=a8q (v:= .lit y) rfl
theorem aX.zc [Frame] {μ:Mu} {h:aZ} {w:World} (y:Value):aX μ h w (zc y) y:=(aX.lit y).cz
theorem aX.closed [Frame] {μ:Mu} {h:aZ} {w:World} {μ':Mu} (h':aZ) {w':World} (ev:nv μ w μ' w') {v:V} {x:Value} (hv:aX μ h w v x) (hcl:v.cl=true):aX μ' h' w' v x:=by
 induction hv with
 |lit v=>exact .lit v
 |agg cs xs hl hcell hc ih=>simp [V.cl] at hcl
 |tup vs xs hl hc ih=>simp [V.cl] at hcl
 |ptr b i o n x k hk hn hx hp hmp=>simp [V.cl] at hcl
 |mp b x k hk hx hmp=>simp [V.cl] at hcl
 |sl b s n x k hk hn hx hp=>simp [V.cl] at hcl
 |emp a=>exact .emp a
 |imm0 e a cap he=>exact .imm0 e a cap he
 |imm e rows c off cap ys he hr hcap hc hs hrow hcell hv ih=>
  obtain ⟨h1,h2⟩:=ev.keep c hc hs
  exact .imm e rows c off cap ys he hr hcap (bR hc ev.size) h2 hrow (fun i j hi hj=>by rw [uf h1];exact hcell i j hi hj)
   (fun i row j v hi hj=>ih i row j v hi hj ((hrow row (an hi)).2 v (an hj)).1)
 |iptr row o c off ys hc hs hrow hcell hv ih=>
  obtain ⟨h1,h2⟩:=ev.keep c hc hs
  exact .iptr row o c off ys (bR hc ev.size) h2 hrow (fun j hj=>by rw [uf h1];exact hcell j hj) (fun j v hj=>ih j v hj (hrow v (an hj)).1)
 |fn f caps xs hl hc ih=>
  cases caps with
  |nil=>exact .fn f [] xs hl (fun i v h=>by simp at h)
  |cons a b=>simp [V.cl] at hcl
 |unk x=>simp [V.cl] at hcl
theorem aX.oneCell [Frame] {μ:Mu} {h:aZ} {w:World} {v:V} {x:Value} (hv:aX μ h w v x) (hc:v.cell=true):ck x=true:=by
 cases hv with
 |lit v=>exact hc
 |agg=>simp [V.cell] at hc
 |tup=>simp [V.cell] at hc
 |ptr b i o n x k hk hn hx hp hmp=>obtain ⟨c,off,rfl⟩:=hx;rfl
 |mp b x k hk hx hmp=>obtain ⟨c,rfl⟩:=hx;rfl
 |sl b s n x k hk hn hx hp=>obtain ⟨a,c,rfl⟩:=hx;rfl
 |emp=>rfl
 |imm0=>rfl
 |imm=>rfl
 |iptr=>rfl
 |fn=>rfl
 |unk=>simp [V.cell] at hc
theorem kC {x:Value} (h:ck x=true):x.cells= #[x]:=by
 cases x<;>simp [ck,Value.cells] at h ⊢
theorem aX.cellsRel [Frame] {μ:Mu} {h:aZ} {w:World} {v:V} {x:Value} (hv:aX μ h w v x) (hc:v.cells.all V.cell=true):
 x.cells.size=v.cells.length/\ ∀i u,v.cells[i]? =some u->aX μ h w u (x.cells.getD i undef):=by
 cases v with
 |agg cs=>
  cases hv with
  |agg _ xs hl hcell hc=>exact ⟨hl,hc⟩
 |tup vs=>simp [V.cells,V.cell] at hc
 |undef=>simp [V.cells,V.cell] at hc
 |lit y=>
  have h1:=hv.oneCell (by simpa [V.cells] using hc)
  rw [kC h1]
  refine ⟨rfl,fun i u hi=> ?_⟩
  cases i with
  |zero=>simp [V.cells] at hi;subst hi;exact hv
  |succ i=>simp [V.cells] at hi
 |ptr b i o n=>
  have h1:=hv.oneCell (by simpa [V.cells] using hc)
  rw [kC h1]
  refine ⟨rfl,fun i u hi=> ?_⟩
  cases i with
  |zero=>simp [V.cells] at hi;subst hi;exact hv
  |succ i=>simp [V.cells] at hi
 |mp b=>
  have h1:=hv.oneCell (by simpa [V.cells] using hc)
  rw [kC h1]
  refine ⟨rfl,fun i u hi=> ?_⟩
  cases i with
  |zero=>simp [V.cells] at hi;subst hi;exact hv
  |succ i=>simp [V.cells] at hi
 |sl b s n=>
  have h1:=hv.oneCell (by simpa [V.cells] using hc)
  rw [kC h1]
  refine ⟨rfl,fun i u hi=> ?_⟩
  cases i with
  |zero=>simp [V.cells] at hi;subst hi;exact hv
  |succ i=>simp [V.cells] at hi
 |imm e r=>
  have h1:=hv.oneCell (by simpa [V.cells] using hc)
  rw [kC h1]
  refine ⟨rfl,fun i u hi=> ?_⟩
  cases i with
  |zero=>simp [V.cells] at hi;subst hi;exact hv
  |succ i=>simp [V.cells] at hi
 |iptr r o=>
  have h1:=hv.oneCell (by simpa [V.cells] using hc)
  rw [kC h1]
  refine ⟨rfl,fun i u hi=> ?_⟩
  cases i with
  |zero=>simp [V.cells] at hi;subst hi;exact hv
  |succ i=>simp [V.cells] at hi
 |fn f cs=>
  have h1:=hv.oneCell (by simpa [V.cells] using hc)
  rw [kC h1]
  refine ⟨rfl,fun i u hi=> ?_⟩
  cases i with
  |zero=>simp [V.cells] at hi;subst hi;exact hv
  |succ i=>simp [V.cells] at hi
theorem bD.lt [Frame] {μ:Mu} {h:aZ} {w:World} (H:bD μ h w) {b c:Nat} (hb:μ b=some c):c<w.heap.size:=by
 obtain ⟨k,hk,h0⟩:=H.dom b c hb
 rcases H.blk b k hk with ⟨_,_,hn⟩|⟨_,c',arr,t,lo,hi,hm,hh,_⟩|⟨_,_,c',hm,hb'⟩
 ·rw [hn] at hb;cases hb
 ·rw [hm] at hb;cases hb
  rcases cA c w.heap.size with hlt|hge
  ·exact hlt
  ·rw [eK hge] at hh;cases hh
 ·rw [hm] at hb;cases hb;exact hb'.lt
def cE (μ:Mu) (b:Nat) (c:Option Nat):Mu:=fun b'=>if b'=b then c else μ b'
def yD (w w':World):Prop:=w'.os=w.os/\w'.tape=w.tape/\w'.output=w.output/\w.heap.size<=w'.heap.size/\(∀c,c<w.heap.size->w'.heap[c]? =w.heap[c]?)/\w.drawn<=w'.drawn
theorem yD.refl (w:World):yD w w:=⟨rfl,rfl,rfl,aw _,fun _ _=>rfl,aw _⟩
theorem yD.drew {w w':World} (g:yD { w with drawn:=w.drawn+1 } w'):yD w w':=⟨g.1,g.2.1,g.2.2.1,g.2.2.2.1,g.2.2.2.2.1,ed (mS _) g.2.2.2.2.2⟩
theorem yD.bsize {w w':World} (g:yD w w') {c:Nat} (hc:c<w.heap.size):bsize w' c=bsize w c:=by
 unfold AI.bsize;rw [g.2.2.2.2.1 c hc]
theorem yD.chg [Frame] {w w':World} (g:yD w w') {μ:Mu} {h:aZ} (H:bD μ h w):Chg μ h w μ h w':=
 ⟨⟨g.1,g.2.1,g.2.2.1,g.2.2.2.1,g.2.2.2.2.2,(fun c hc hs=>⟨g.2.2.2.2.1 c hc,hs⟩),fun c hc=>g.2.2.2.2.1 c (H.frlt c hc)⟩,fun b k hk=>⟨k,hk,.inr (.inr ⟨rfl,fun _=>rfl,rfl,rfl,fun _ hc=>g.bsize (H.lt hc)⟩)⟩⟩
theorem bD.grown [Frame] {μ:Mu} {h:aZ} {w w':World} (H:bD μ h w) (g:yD w w'):bD μ h w':=by
 refine ⟨H.inj,H.dom,fun b k hk=> ?_,H.rows,H.frame,fun c hc=>bR (H.frlt c hc) g.2.2.2.1⟩
 rcases H.blk b k hk with h1|⟨h0,c,arr,t,lo,hi,hm,hh,hf,hl,hv⟩|⟨h0,ho,c,hm,hb⟩
 ·exact .inl h1
 ·exact .inr (.inl ⟨h0,c,arr,t,lo,hi,hm,by rw [g.2.2.2.2.1 c (H.lt hm)];exact hh,hf,hl,fun i row j v h1 h2=>(hv i row j v h1 h2).chg (g.chg H)⟩)
 ·exact .inr (.inr ⟨h0,ho,c,hm,hb.keep (g.2.2.2.2.1 c (H.lt hm))⟩)
theorem bD.new [Frame] {μ:Mu} {h:aZ} {w w':World} (H:bD μ h w) (g:yD w w') {b c:Nat} {k:Blk} (hb:h b=none) (hc:w.heap.size<=c)
 {arr:Array Value} {t:TypeId} {lo hi:Nat} (hh:w'.heap[c]? =some (.cells arr t (lo,hi))) (hf:Fz arr.size lo hi)
 (h0:0<k.esz) (hl:k.rows.length*k.esz<=arr.size) (hr: ∀row∈k.rows,row.length=k.esz/\ ∀v∈row,v.cell=true/\(k.op=false->v.cl=true))
 (hv: ∀i row j v,k.rows[i]? =some row->row[j]? =some v->aX μ h w v (arr.getD (i*k.esz+j) undef)):
 bD (cE μ b (some c)) (bV h b k) w'/\Chg μ h w (cE μ b (some c)) (bV h b k) w':=by
 have hmb:μ b=none:=by
  cases hm:μ b with
  |none=>rfl
  |some c'=>obtain ⟨k',hk',_⟩:=H.dom b c' hm;rw [hb] at hk';cases hk'
 have hne: ∀b' k',h b'=some k'->b'≠b:=fun b' k' hk' e=>by rw [e,hb] at hk';cases hk'
 have ch:Chg μ h w (cE μ b (some c)) (bV h b k) w':=by
  refine ⟨⟨g.1,g.2.1,g.2.2.1,g.2.2.2.1,g.2.2.2.2.2,(fun c' hc' hs=>⟨g.2.2.2.2.1 c' hc',fun b'=> ?_,hs.2⟩),fun c hc=>g.2.2.2.2.1 c (H.frlt c hc)⟩,fun b' k' hk'=> ?_⟩
  ·unfold cE
   by_cases e:b'=b
   ·rw [ae e];intro h1;cases h1;omega
   ·rw [aa e];exact hs.1 b'
  ·have e:=hne b' k' hk'
   exact ⟨k',by simp [bV,e,hk'],.inr (.inr ⟨rfl,fun _=>rfl,rfl,by simp [cE,e],fun c' hc'=>g.bsize (H.lt hc')⟩)⟩
 refine ⟨⟨fun b1 b2 c' h1 h2=> ?_,fun b' c' h1=> ?_,fun b' k' hk'=> ?_,fun b' k' hk'=> ?_,fun b' c' h1=> ?_,fun c hc=>bR (H.frlt c hc) g.2.2.2.1⟩,ch⟩
 ·unfold cE at h1 h2
  by_cases e1:b1=b<;>by_cases e2:b2=b
  ·rw [e1,e2]
  ·rw [ae e1] at h1;rw [aa e2] at h2;cases h1;have:=H.lt h2;omega
  ·rw [aa e1] at h1;rw [ae e2] at h2;cases h2;have:=H.lt h1;omega
  ·rw [aa e1] at h1;rw [aa e2] at h2;exact H.inj _ _ _ h1 h2
 ·unfold cE at h1
  by_cases e:b'=b
  ·exact ⟨k,by simp [bV,e],.inl h0⟩
  ·rw [aa e] at h1
   obtain ⟨k',hk',h0'⟩:=H.dom b' c' h1
   exact ⟨k',by simp [bV,e,hk'],h0'⟩
 ·by_cases e:b'=b
  ·simp [bV,e] at hk'
   subst hk'
   exact .inr (.inl ⟨h0,c,arr,t,lo,hi,by simp [cE,e],hh,hf,hl,fun i row j v h1 h2=>(hv i row j v h1 h2).chg ch⟩)
  ·simp [bV,e] at hk'
   rcases H.blk b' k' hk' with h1|⟨h0',c',arr',t',lo',hi',hm',hh',hf',hl',hv'⟩|⟨h0',ho',c',hm',hb'⟩
   ·exact .inl ⟨h1.1,h1.2.1,by simp [cE,e,h1.2.2]⟩
   ·exact .inr (.inl ⟨h0',c',arr',t',lo',hi',by simp [cE,e,hm'],by rw [g.2.2.2.2.1 c' (H.lt hm')];exact hh',hf',hl',fun i row j v h1 h2=>(hv' i row j v h1 h2).chg ch⟩)
   ·exact .inr (.inr ⟨h0',ho',c',by simp [cE,e,hm'],hb'.keep (g.2.2.2.2.1 c' (H.lt hm'))⟩)
 ·by_cases e:b'=b
  ·simp [bV,e] at hk';subst hk';exact fun row hrow=>⟨fun _=>(hr row hrow).1,(hr row hrow).2⟩
  ·simp [bV,e] at hk';exact H.rows b' k' hk'
 ·unfold cE at h1
  split at h1
  ·cases h1;intro h2;have:=H.frlt _ h2;omega
  ·exact H.frame b' c' h1
theorem bD.newNil [Frame] {μ:Mu} {h:aZ} {w:World} (H:bD μ h w) {b e:Nat} (hb:h b=none):
 bD μ (bV h b ⟨e,false,[]⟩) w/\Chg μ h w μ (bV h b ⟨e,false,[]⟩) w:=by
 have hmb:μ b=none:=by
  cases hm:μ b with
  |none=>rfl
  |some c'=>obtain ⟨k',hk',_⟩:=H.dom b c' hm;rw [hb] at hk';cases hk'
 have hne: ∀b' k',h b'=some k'->b'≠b:=fun b' k' hk' e=>by rw [e,hb] at hk';cases hk'
 have ch:Chg μ h w μ (bV h b ⟨e,false,[]⟩) w:=
  ⟨nv.refl _ _,fun b' k' hk'=>⟨k',by simp [bV,hne b' k' hk',hk'],.inr (.inr ⟨rfl,fun _=>rfl,rfl,rfl,fun _ _=>rfl⟩)⟩⟩
 refine ⟨⟨H.inj,fun b' c' h1=> ?_,fun b' k' hk'=> ?_,fun b' k' hk'=> ?_,H.frame,H.frlt⟩,ch⟩
 ·obtain ⟨k',hk',h0⟩:=H.dom b' c' h1
  exact ⟨k',by simp [bV,hne b' k' hk',hk'],h0⟩
 ·by_cases eb:b'=b
  ·simp [bV,eb] at hk';subst hk';exact .inl ⟨rfl,rfl,by rw [eb];exact hmb⟩
  ·simp [bV,eb] at hk'
   rcases H.blk b' k' hk' with h1|⟨h0',c',arr',t',lo',hi',hm',hh',hf',hl',hv'⟩|h1
   ·exact .inl h1
   ·exact .inr (.inl ⟨h0',c',arr',t',lo',hi',hm',hh',hf',hl',fun i row j v h1 h2=>(hv' i row j v h1 h2).chg ch⟩)
   ·exact .inr (.inr h1)
 ·by_cases eb:b'=b
  ·simp [bV,eb] at hk';subst hk';intro row hrow;simp at hrow
  ·simp [bV,eb] at hk';exact H.rows b' k' hk'
theorem bD.kill [Frame] {μ:Mu} {h:aZ} {w:World} (H:bD μ h w) {b:Nat} {k:Blk} (hb:h b=some k):
 bD (cE μ b none) (bV h b nG) w/\Chg μ h w (cE μ b none) (bV h b nG) w:=by
 have ch:Chg μ h w (cE μ b none) (bV h b nG) w:=by
  refine ⟨⟨rfl,rfl,rfl,aw _,aw _,(fun c hc hs=>⟨rfl,fun b'=> ?_,hs.2⟩),fun _ _=>rfl⟩,fun b' k' hk'=> ?_⟩
  ·unfold cE
   by_cases e:b'=b
   ·rw [ae e];simp
   ·rw [aa e];exact hs.1 b'
  ·by_cases e:b'=b
   ·exact ⟨nG,by simp [bV,e],.inl ⟨rfl,rfl⟩⟩
   ·exact ⟨k',by simp [bV,e,hk'],.inr (.inr ⟨rfl,fun _=>rfl,rfl,by simp [cE,e],fun _ _=>rfl⟩)⟩
 refine ⟨⟨fun b1 b2 c h1 h2=> ?_,fun b' c' h1=> ?_,fun b' k' hk'=> ?_,fun b' k' hk'=> ?_,fun b' c' h1=> ?_,H.frlt⟩,ch⟩
 ·unfold cE at h1 h2
  by_cases e1:b1=b
  ·rw [ae e1] at h1;cases h1
  ·by_cases e2:b2=b
   ·rw [ae e2] at h2;cases h2
   ·rw [aa e1] at h1;rw [aa e2] at h2;exact H.inj _ _ _ h1 h2
 ·unfold cE at h1
  by_cases e:b'=b
  ·rw [ae e] at h1;cases h1
  ·rw [aa e] at h1
   obtain ⟨k',hk',h0⟩:=H.dom b' c' h1
   exact ⟨k',by simp [bV,e,hk'],h0⟩
 ·by_cases e:b'=b
  ·simp [bV,e] at hk';subst hk';exact .inl ⟨rfl,rfl,by simp [cE,e]⟩
  ·simp [bV,e] at hk'
   rcases H.blk b' k' hk' with h1|⟨h0',c',arr',t',lo',hi',hm',hh',hf',hl',hv'⟩|⟨h0',ho',c',hm',hb'⟩
   ·exact .inl ⟨h1.1,h1.2.1,by simp [cE,e,h1.2.2]⟩
   ·exact .inr (.inl ⟨h0',c',arr',t',lo',hi',by simp [cE,e,hm'],hh',hf',hl',fun i row j v h1 h2=>(hv' i row j v h1 h2).chg ch⟩)
   ·exact .inr (.inr ⟨h0',ho',c',by simp [cE,e,hm'],hb'⟩)
 ·by_cases e:b'=b
  ·simp [bV,e] at hk';subst hk';intro row hrow;simp [nG] at hrow
  ·simp [bV,e] at hk';exact H.rows b' k' hk'
 ·unfold cE at h1
  split at h1
  ·cases h1
  ·exact H.frame b' c' h1
theorem bD.put [Frame] {μ:Mu} {h:aZ} {w w':World} (H:bD μ h w) {b c:Nat} {k k':Blk} (hb:h b=some k) (h0:0<k.esz) (hc:μ b=some c\/w.heap.size<=c)
 (h1:w'.os=w.os) (h2:w'.tape=w.tape) (h3:w'.output=w.output) (h4:w.heap.size<=w'.heap.size) (hdr:w.drawn<=w'.drawn) (h5: ∀c',c'<w.heap.size->c'≠c->w'.heap[c']? =w.heap[c']?)
 {arr:Array Value} {t:TypeId} {lo hi:Nat} (hh:w'.heap[c]? =some (.cells arr t (lo,hi))) (hf:Fz arr.size lo hi)
 (he:k'.esz=k.esz) (hl:k'.rows.length*k'.esz<=arr.size) (hr: ∀row∈k'.rows,row.length=k'.esz/\ ∀v∈row,v.cell=true/\(k'.op=false->v.cl=true))
 (hlen:k.rows.length<k'.rows.length\/(k'.rows.length=k.rows.length/\μ b=some c/\arr.size=bsize w c))
 (hv: ∀i row j v,k'.rows[i]? =some row->row[j]? =some v->aX μ h w v (arr.getD (i*k'.esz+j) undef)):
 bD (cE μ b (some c)) (bV h b k') w'/\Chg μ h w (cE μ b (some c)) (bV h b k') w':=by
 have hlt: ∀b' c',μ b'=some c'->c'<w.heap.size:=fun b' c' hm=>H.lt hm
 have hcne: ∀b' c',b'≠b->μ b'=some c'->c'≠c:=by
  intro b' c' hne hm e
  subst e
  rcases hc with hc|hc
  ·exact hne (H.inj _ _ _ hm hc)
  ·have:=hlt _ _ hm;omega
 have hbs: ∀c',c'<w.heap.size->c'≠c->bsize w' c'=bsize w c':=fun c' h6 h7=>by unfold bsize;rw [h5 c' h6 h7]
 have ch:Chg μ h w (cE μ b (some c)) (bV h b k') w':=by
  have hcf: ¬Frame.fr c:=by
   rcases hc with hc|hc
   ·exact H.frame _ _ hc
   ·intro h6;have:=H.frlt _ h6;omega
  refine ⟨⟨h1,h2,h3,h4,hdr,(fun c' hc' hs=> ?_),fun c' hc'=>h5 c' (H.frlt _ hc') (fun e=>hcf (e▸hc'))⟩,fun b' k2 hk2=> ?_⟩
  ·have hne:c'≠c:=by
    intro e;subst e
    rcases hc with hc|hc
    ·exact hs.1 b hc
    ·omega
   refine ⟨h5 c' hc' hne,fun b'=> ?_,hs.2⟩
   unfold cE
   by_cases e:b'=b
   ·rw [ae e];intro h6;cases h6;exact hne rfl
   ·rw [aa e];exact hs.1 b'
  ·by_cases e:b'=b
   ·subst e
    rw [hb] at hk2;cases hk2
    refine ⟨k',by simp [bV], ?_⟩
    rcases hlen with hlen|⟨hlen,hm,hsz⟩
    ·exact .inr (.inl ⟨he,h0,hlen⟩)
    ·refine .inr (.inr ⟨he,fun h1=>by omega,hlen,by simp [cE,hm],fun c' hc'=> ?_⟩)
     rw [hm] at hc';cases hc'
     unfold bsize
     rw [hh]
     exact hsz
   ·exact ⟨k2,by simp [bV,e,hk2],.inr (.inr ⟨rfl,fun _=>rfl,rfl,by simp [cE,e],fun c' hc'=>hbs c' (hlt _ _ hc') (hcne _ _ e hc')⟩)⟩
 refine ⟨⟨fun b1 b2 c' g1 g2=> ?_,fun b' c' g1=> ?_,fun b' k2 hk2=> ?_,fun b' k2 hk2=> ?_,fun b' c' g1=> ?_,fun c hc=>bR (H.frlt c hc) h4⟩,ch⟩
 ·unfold cE at g1 g2
  by_cases e1:b1=b<;>by_cases e2:b2=b
  ·rw [e1,e2]
  ·rw [ae e1] at g1;rw [aa e2] at g2;cases g1;exact absurd rfl (hcne _ _ e2 g2)
  ·rw [aa e1] at g1;rw [ae e2] at g2;cases g2;exact absurd rfl (hcne _ _ e1 g1)
  ·rw [aa e1] at g1;rw [aa e2] at g2;exact H.inj _ _ _ g1 g2
 ·unfold cE at g1
  by_cases e:b'=b
  ·exact ⟨k',by simp [bV,e],.inl (by rw [he];exact h0)⟩
  ·rw [aa e] at g1
   obtain ⟨k2,hk2,h02⟩:=H.dom b' c' g1
   exact ⟨k2,by simp [bV,e,hk2],h02⟩
 ·by_cases e:b'=b
  ·simp [bV,e] at hk2
   subst hk2
   exact .inr (.inl ⟨by rw [he];exact h0,c,arr,t,lo,hi,by simp [cE,e],hh,hf,hl,fun i row j v g1 g2=>(hv i row j v g1 g2).chg ch⟩)
  ·simp [bV,e] at hk2
   rcases H.blk b' k2 hk2 with g1|⟨g0,c',arr',t',lo',hi',hm',hh',hf',hl',hv'⟩|⟨g0,go,c',hm',hb'⟩
   ·exact .inl ⟨g1.1,g1.2.1,by simp [cE,e,g1.2.2]⟩
   ·exact .inr (.inl ⟨g0,c',arr',t',lo',hi',by simp [cE,e,hm'],by rw [h5 c' (hlt _ _ hm') (hcne _ _ e hm')];exact hh',hf',hl',fun i row j v g1 g2=>(hv' i row j v g1 g2).chg ch⟩)
   ·exact .inr (.inr ⟨g0,go,c',by simp [cE,e,hm'],hb'.keep (h5 c' (hlt _ _ hm') (hcne _ _ e hm'))⟩)
 ·by_cases e:b'=b
  ·simp [bV,e] at hk2;subst hk2;exact fun row hrow=>⟨fun _=>(hr row hrow).1,(hr row hrow).2⟩
  ·simp [bV,e] at hk2;exact H.rows b' k2 hk2
 ·unfold cE at g1
  split at g1
  ·cases g1
   rcases hc with hc|hc
   ·exact H.frame _ _ hc
   ·intro h6;have:=H.frlt _ h6;omega
  ·exact H.frame b' c' g1
end
end Go.AI
