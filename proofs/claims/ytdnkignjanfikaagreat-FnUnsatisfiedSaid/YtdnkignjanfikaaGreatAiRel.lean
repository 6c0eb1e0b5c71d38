/- How the abstract machine's values and memory stand to the model's, and what keeps that. -/
import Derived.Test.YtdnkignjanfikaaGreatAiDefs
set_option linter.unusedVariables false
namespace Go.AI
abbrev Mu:=Nat→Option Nat
class Frame where
 fr:Nat→Prop
section
def mi [Frame] (μ:Mu) (c:Nat):Prop:=(∀b,μ b≠some c)∧ ¬Frame.fr c
def bsize (w:World) (c:Nat):Nat:=match w.heap[c]? with
 |some (.cells a _ _)=>a.size
 |_=>0
inductive an [Frame] (μ:Mu) (h:au) (w:World):V→Value→Prop
 |lit (v:Value):an μ h w (.lit v) v
 |agg (cs:List V) (xs:Array Value) (hl:xs.size=cs.length) (hcell: ∀v∈cs,v.cell=true) (hc: ∀i v,cs[i]? =some v→an μ h w v (xs.getD i undef)):an μ h w (.agg cs) (.agg xs)
 |tup (vs:List V) (xs:Array Value) (hl:xs.size=vs.length) (hc: ∀i v,vs[i]? =some v→an μ h w v (xs.getD i undef)):an μ h w (.tup vs) (.tuple xs)
 |ptr (b i o n:Nat) (x:Value) (k:Blk) (hk:h b=some k) (hn:k.esz=0∨n≤k.rows.length) (hx: ∃c off,x= .pointer (some ⟨c,off,none⟩))
  (hp:k.esz≠0→k.rows.length=n→i<n→ ∃c,μ b=some c∧x= .pointer (some ⟨c,i*k.esz+o,none⟩))
  (hd:k.esz=0→k.op=false):an μ h w (.ptr b i o n) x
 |mp (b:Nat) (x:Value) (k:Blk) (hk:h b=some k) (hx: ∃c,x= .map (some c)) (hm:k.esz=0→k.op=true→ ∃c,μ b=some c∧x= .map (some c)):an μ h w (.mp b) x
 |sl (b s n:Nat) (x:Value) (k:Blk) (hk:h b=some k) (hn:k.esz=0∨s+n≤k.rows.length) (hx: ∃a c,x= .slice a n c)
  (hp:k.esz≠0→s+n=k.rows.length→ ∃a cap,x= .slice a n cap∧((n=0∧cap=0)∨ ∃c,μ b=some c∧a=some ⟨c,s*k.esz,none⟩∧(s+cap)*k.esz≤bsize w c∧n≤cap)):
  an μ h w (.sl b s n) x
 |emp (a:Option Addr):an μ h w (.imm 0 []) (.slice a 0 0)
 |imm0 (e:Nat) (a:Option Addr) (cap:Nat) (he:e≠0):an μ h w (.imm e []) (.slice a 0 cap)
 |imm (e:Nat) (rows:List (List V)) (c off cap:Nat) (ys:Nat→Nat→Value) (he:0<e) (hr:rows≠[]) (hcap:rows.length≤cap) (hc:c<w.heap.size) (hs:mi μ c)
  (hrow: ∀row∈rows,row.length=e∧ ∀v∈row,v.cl=true∧v.cell=true)
  (hcell: ∀i j,i<rows.length→j<e→w.cell? ⟨c,off+(i*e+j),none⟩=some (ys i j))
  (hv: ∀i row j v,rows[i]? =some row→row[j]? =some v→an μ h w v (ys i j)):an μ h w (.imm e rows) (.slice (some ⟨c,off,none⟩) rows.length cap)
 |iptr (row:List V) (o c off:Nat) (ys:Nat→Value) (hc:c<w.heap.size) (hs:mi μ c) (hrow: ∀v∈row,v.cl=true∧v.cell=true)
  (hcell: ∀j,j<row.length→w.cell? ⟨c,off+j,none⟩=some (ys j)) (hv: ∀j v,row[j]? =some v→an μ h w v (ys j)):an μ h w (.iptr row o) (.pointer (some ⟨c,off+o,none⟩))
 |fn (f:FuncId) (caps:List V) (xs:Array Value) (hl:xs.size=caps.length) (hc: ∀i v,caps[i]? =some v→an μ h w v (xs.getD i undef)):an μ h w (.fn f caps) (.func (.func f) #[] xs)
 |unk (x:Value):an μ h w .undef x
def Fz (size lo hi:Nat):Prop:=lo=hi∨size≤lo
theorem Fz.at {size lo hi:Nat} (h:Fz size lo hi) (i:Nat) (h1:lo≤i) (h2:i<hi):size≤i:=by
 rcases h with h|h<;>omega
structure ZR (e:MapEntry) (t:Tri):Prop where
 key:e.key= .agg #[.int .i64 t.1,.int .i64 t.2.1]
 val:e.val= .int .i64 t.2.2
structure oN (w:World) (c:Nat) (rows:List (List V)):Prop where
 ex: ∃(es:Array MapEntry) (L:List Tri),w.heap[c]? =some (.map es es.size)∧rows=[aC L]∧L.length=es.size∧(∀(i:Nat) (e:MapEntry) (t:Tri),es[i]? =some e→L[i]? =some t→ZR e t)∧
  ∀(i:Nat) (e:MapEntry),es[i]? =some e→e.born=i
theorem oN.keep {w w':World} {c:Nat} {rows:List (List V)} (m:oN w c rows) (h:w'.heap[c]? =w.heap[c]?):oN w' c rows:=by
 obtain ⟨es,L,h1,h2⟩:=m.ex
 exact ⟨es,L,h.trans h1,h2⟩
theorem oN.lt {w:World} {c:Nat} {rows:List (List V)} (m:oN w c rows):c<w.heap.size:=by
 obtain ⟨es,L,h1,h2⟩:=m.ex
 rcases Nat.lt_or_ge c w.heap.size with hlt|hge
 ·exact hlt
 ·rw [Array.getElem?_eq_none hge] at h1;cases h1
theorem oN.bsize {w:World} {c:Nat} {rows:List (List V)} (m:oN w c rows):bsize w c=0:=by
 obtain ⟨es,L,h1,h2⟩:=m.ex
 unfold AI.bsize;rw [h1]
theorem Oo: ∀{L:List Tri} {v:V},v∈aC L→ ∃n,v= .lit (.int .i64 n)
 | (a,b,c)::r,v,h=>by
   simp only [aC,List.mem_cons] at h
   rcases h with rfl|rfl|rfl|h
   ·exact ⟨_,rfl⟩
   ·exact ⟨_,rfl⟩
   ·exact ⟨_,rfl⟩
   ·exact Oo h
theorem oN.lit {w:World} {c:Nat} {rows:List (List V)} (m:oN w c rows) {row:List V} {v:V} (hr:row∈rows) (hv:v∈row): ∃n,v= .lit (.int .i64 n):=by
 obtain ⟨es,L,_,h2,_⟩:=m.ex
 subst h2
 simp at hr;subst hr
 exact Oo hv
theorem oN.map {w:World} {c:Nat} {rows:List (List V)} (m:oN w c rows) {f:V→V} (hf: ∀n,f (.lit (.int .i64 n))= .lit (.int .i64 n)):rows.map (·.map f)=rows:=by
 have: ∀row∈rows,row.map f=row:=fun row hr=>by
  have: ∀v∈row,f v=v:=fun v hv=>by obtain ⟨n,rfl⟩:=m.lit hr hv;exact hf n
  rw [List.map_congr_left this];simp
 rw [List.map_congr_left this];simp
def c1L [Frame] (μ:Mu) (h:au) (w:World) (b:Nat) (k:Blk):Prop:=
 (k.rows=[]∧k.op=false∧μ b=none)∨
 (0<k.esz∧ ∃c arr t lo hi,μ b=some c∧w.heap[c]? =some (.cells arr t (lo,hi))∧Fz arr.size lo hi∧k.rows.length*k.esz≤arr.size∧
  ∀i row j v,k.rows[i]? =some row→row[j]? =some v→an μ h w v (arr.getD (i*k.esz+j) undef))∨
 (k.esz=0∧k.op=true∧ ∃c,μ b=some c∧oN w c k.rows)
def Blk.lies (k:Blk):Prop:=0<k.esz∨k.op=true
structure aI [Frame] (μ:Mu) (h:au) (w:World):Prop where
 inj: ∀b b' c,μ b=some c→μ b'=some c→b=b'
 dom: ∀b c,μ b=some c→ ∃k,h b=some k∧k.lies
 blk: ∀b k,h b=some k→c1L μ h w b k
 rows: ∀b k,h b=some k→ ∀row∈k.rows,(0<k.esz→row.length=k.esz)∧ ∀v∈row,v.cell=true∧(k.op=false→v.cl=true)
 frame: ∀b c,μ b=some c→ ¬Frame.fr c
 frlt: ∀c,Frame.fr c→c<w.heap.size
structure jV [Frame] (μ:Mu) (w:World) (μ':Mu) (w':World):Prop where
 os:w'.os=w.os
 tape:w'.tape=w.tape
 output:w'.output=w.output
 size:w.heap.size≤w'.heap.size
 drawn:w.drawn≤w'.drawn
 keep: ∀c,c<w.heap.size→mi μ c→w'.heap[c]? =w.heap[c]? ∧mi μ' c
 keepF: ∀c,Frame.fr c→w'.heap[c]? =w.heap[c]?
theorem jV.refl [Frame] (μ:Mu) (w:World):jV μ w μ w:=⟨rfl,rfl,rfl,Nat.le_refl _,Nat.le_refl _,(fun _ _ h=>⟨rfl,h⟩),fun _ _=>rfl⟩
theorem jV.trans [Frame] {μ μ1 μ2:Mu} {w w1 w2:World} (a:jV μ w μ1 w1) (b:jV μ1 w1 μ2 w2):jV μ w μ2 w2:=
 ⟨b.os.trans a.os,b.tape.trans a.tape,b.output.trans a.output,Nat.le_trans a.size b.size,Nat.le_trans a.drawn b.drawn,(fun c hc hs=>by
   obtain ⟨h1,h2⟩:=a.keep c hc hs
   obtain ⟨h3,h4⟩:=b.keep c (Nat.lt_of_lt_of_le hc a.size) h2
   exact ⟨h3.trans h1,h4⟩),fun c hc=>(b.keepF c hc).trans (a.keepF c hc)⟩
def RC (μ:Mu) (h:au) (w:World) (μ':Mu) (h':au) (w':World):Prop:=
 ∀b k,h b=some k→ ∃k',h' b=some k'∧((k'.esz=0∧k'.op=false)∨(k'.esz=k.esz∧0<k.esz∧k.rows.length<k'.rows.length)∨
  (k'.esz=k.esz∧(k.esz=0→k'.op=k.op)∧k'.rows.length=k.rows.length∧μ' b=μ b∧ ∀c,μ b=some c→bsize w' c=bsize w c))
structure Chg [Frame] (μ:Mu) (h:au) (w:World) (μ':Mu) (h':au) (w':World):Prop where
 ev:jV μ w μ' w'
 refs:RC μ h w μ' h' w'
theorem RC.refl (μ:Mu) (h:au) (w:World):RC μ h w μ h w:=fun b k hk=>⟨k,hk,.inr (.inr ⟨rfl,fun _=>rfl,rfl,rfl,fun _ _=>rfl⟩)⟩
theorem Chg.refl [Frame] (μ:Mu) (h:au) (w:World):Chg μ h w μ h w:=⟨jV.refl _ _,RC.refl _ _ _⟩
theorem qJ {w w':World} {c i:Nat} (h:w'.heap[c]? =w.heap[c]?):w'.cell? ⟨c,i,none⟩=w.cell? ⟨c,i,none⟩:=by simp [World.cell?,h]
theorem an.chg [Frame] {μ:Mu} {h:au} {w:World} {μ':Mu} {h':au} {w':World} (ch:Chg μ h w μ' h' w') {v:V} {x:Value} (hv:an μ h w v x):an μ' h' w' v x:=by
 induction hv with
 |lit v=>exact .lit v
 |agg cs xs hl hcell hc ih=>exact .agg cs xs hl hcell ih
 |tup vs xs hl hc ih=>exact .tup vs xs hl ih
 |ptr b i o n x k hk hn hx hp hmp=>
  obtain ⟨k',hk',hr⟩:=ch.refs b k hk
  rcases hr with ⟨h0,h00⟩|⟨he,hl0,hl⟩|⟨he,ho,hl,hm,hb⟩
  ·exact .ptr b i o n x k' hk' (.inl h0) hx (fun h1=>absurd h0 h1) (fun _=>h00)
  ·refine .ptr b i o n x k' hk' ?_ hx (fun h1 h2 h3=> ?_) (fun h1=>by omega)
   ·rcases hn with hn|hn
    ·exact .inl (he.trans hn)
    ·exact .inr (by omega)
   ·rcases hn with hn|hn
    ·exact absurd (he.trans hn) h1
    ·omega
  ·refine .ptr b i o n x k' hk' ?_ hx (fun h1 h2 h3=> ?_) (fun h1=>(ho (by omega)).trans (hmp (by omega)))
   ·rcases hn with hn|hn
    ·exact .inl (he.trans hn)
    ·exact .inr (by omega)
   ·obtain ⟨c,hc1,hc2⟩:=hp (by omega) (by omega) h3
    exact ⟨c,by rw [hm];exact hc1,by rw [he];exact hc2⟩
 |mp b x k hk hx hmp=>
  obtain ⟨k',hk',hr⟩:=ch.refs b k hk
  refine .mp b x k' hk' hx (fun h1 h2=> ?_)
  rcases hr with ⟨h0,h00⟩|⟨he,hl0,hl⟩|⟨he,ho,hl,hm,hb⟩
  ·rw [h00] at h2;cases h2
  ·omega
  ·obtain ⟨c,hc1,hc2⟩:=hmp (by omega) ((ho (by omega)).symm.trans h2)
   exact ⟨c,by rw [hm];exact hc1,hc2⟩
 |sl b s n x k hk hn hx hp=>
  obtain ⟨k',hk',hr⟩:=ch.refs b k hk
  rcases hr with ⟨h0,h00⟩|⟨he,hl0,hl⟩|⟨he,ho,hl,hm,hb⟩
  ·exact .sl b s n x k' hk' (.inl h0) hx (fun h1=>absurd h0 h1)
  ·refine .sl b s n x k' hk' ?_ hx (fun h1 h2=> ?_)
   ·rcases hn with hn|hn
    ·exact .inl (he.trans hn)
    ·exact .inr (by omega)
   ·rcases hn with hn|hn
    ·exact absurd (he.trans hn) h1
    ·omega
  ·refine .sl b s n x k' hk' ?_ hx (fun h1 h2=> ?_)
   ·rcases hn with hn|hn
    ·exact .inl (he.trans hn)
    ·exact .inr (by omega)
   ·obtain ⟨a,cap,hx',hs⟩:=hp (by omega) (by omega)
    refine ⟨a,cap,hx', ?_⟩
    rcases hs with hs|⟨c,hc1,hc2,hc3,hc4⟩
    ·exact .inl hs
    ·exact .inr ⟨c,by rw [hm];exact hc1,by rw [he];exact hc2,by rw [he,hb c hc1];exact hc3,hc4⟩
 |emp a=>exact .emp a
 |imm0 e a cap he=>exact .imm0 e a cap he
 |imm e rows c off cap ys he hr hcap hc hs hrow hcell hv ih=>
  obtain ⟨h1,h2⟩:=ch.ev.keep c hc hs
  exact .imm e rows c off cap ys he hr hcap (Nat.lt_of_lt_of_le hc ch.ev.size) h2 hrow (fun i j hi hj=>by rw [qJ h1];exact hcell i j hi hj) ih
 |iptr row o c off ys hc hs hrow hcell hv ih=>
  obtain ⟨h1,h2⟩:=ch.ev.keep c hc hs
  exact .iptr row o c off ys (Nat.lt_of_lt_of_le hc ch.ev.size) h2 hrow (fun j hj=>by rw [qJ h1];exact hcell j hj) ih
 |fn f caps xs hl hc ih=>exact .fn f caps xs hl ih
 |unk x=>exact .unk x
theorem V.cz_or (v:V):v.cz=v∨(v= .lit (.slice none 0 0)∧v.cz= .imm 1 [])∨ ∃e,v= .imm e []∧v.cz= .imm 1 []:=by
 unfold V.cz
 split
 ·exact .inr (.inl ⟨rfl,rfl⟩)
 ·exact .inr (.inr ⟨_,rfl,rfl⟩)
 ·exact .inl rfl
theorem an.cz [Frame] {μ:Mu} {h:au} {w:World} {v:V} {x:Value} (hv:an μ h w v x):an μ h w v.cz x:=by
 rcases v.cz_or with h1|⟨rfl,h1⟩|⟨e,rfl,h1⟩
 ·rw [h1];exact hv
 ·rw [h1];cases hv;exact .imm0 1 none 0 (by decide)
 ·rw [h1]
  cases hv with
  |emp a=>exact .imm0 1 a 0 (by decide)
  |imm0 _ a cap he=>exact .imm0 1 a cap (by decide)
  |imm _ _ c off cap ys he hr=>exact absurd rfl hr
theorem GC {v:V} (h:v.cell=true):v.cz.cell=true:=by
 rcases v.cz_or with h1|⟨_,h1⟩|⟨e,_,h1⟩
 ·rw [h1];exact h
 ·rw [h1];rfl
 ·rw [h1];rfl
theorem a1s {v:V} (h:v.cl=true):v.cz.cl=true:=by
 rcases v.cz_or with h1|⟨_,h1⟩|⟨e,_,h1⟩
 ·rw [h1];exact h
 ·rw [h1];rfl
 ·rw [h1];rfl
theorem Uj {y:Value} (h:ba y=true):(zc y).cell=true:=GC (v:= .lit y) h
theorem a7e (y:Value):(zc y).cl=true:=a1s (v:= .lit y) rfl
theorem an.zc [Frame] {μ:Mu} {h:au} {w:World} (y:Value):an μ h w (zc y) y:=(an.lit y).cz
theorem c2d {v:V} (h:v.cl=true):(∃x,v= .lit x)∨(∃e r,v= .imm e r)∨(∃r o,v= .iptr r o)∨ ∃f,v= .fn f []:=by
 cases v with
 |lit x=>exact .inl ⟨x,rfl⟩
 |imm e r=>exact .inr (.inl ⟨e,r,rfl⟩)
 |iptr r o=>exact .inr (.inr (.inl ⟨r,o,rfl⟩))
 |fn f cs=>
  cases cs with
  |nil=>exact .inr (.inr (.inr ⟨f,rfl⟩))
  |cons a b=>simp [V.cl] at h
 |_=>simp [V.cl] at h
theorem an.closed [Frame] {μ:Mu} {h:au} {w:World} {μ':Mu} (h':au) {w':World} (ev:jV μ w μ' w') {v:V} {x:Value} (hv:an μ h w v x) (hcl:v.cl=true):an μ' h' w' v x:=by
 induction hv with
 |lit v=>exact .lit v
 |agg cs xs hl hcell hc ih=>simp [V.cl] at hcl
 |tup vs xs hl hc ih=>simp [V.cl] at hcl
 |ptr b i o n x k hk hn hx hp hmp=>simp [V.cl] at hcl
 |mp b x k hk hx hmp=>simp [V.cl] at hcl
 |sl b s n x k hk hn hx hp=>simp [V.cl] at hcl
 |emp a=>exact .emp a
 |imm0 e a cap he=>exact .imm0 e a cap he
 |imm e rows c off cap ys he hr hcap hc hs hrow hcell hv ih=>
  obtain ⟨h1,h2⟩:=ev.keep c hc hs
  exact .imm e rows c off cap ys he hr hcap (Nat.lt_of_lt_of_le hc ev.size) h2 hrow (fun i j hi hj=>by rw [qJ h1];exact hcell i j hi hj)
   (fun i row j v hi hj=>ih i row j v hi hj ((hrow row (List.mem_of_getElem? hi)).2 v (List.mem_of_getElem? hj)).1)
 |iptr row o c off ys hc hs hrow hcell hv ih=>
  obtain ⟨h1,h2⟩:=ev.keep c hc hs
  exact .iptr row o c off ys (Nat.lt_of_lt_of_le hc ev.size) h2 hrow (fun j hj=>by rw [qJ h1];exact hcell j hj) (fun j v hj=>ih j v hj (hrow v (List.mem_of_getElem? hj)).1)
 |fn f caps xs hl hc ih=>
  cases caps with
  |nil=>exact .fn f [] xs hl (fun i v h=>by simp at h)
  |cons a b=>simp [V.cl] at hcl
 |unk x=>simp [V.cl] at hcl
theorem an.oneCell [Frame] {μ:Mu} {h:au} {w:World} {v:V} {x:Value} (hv:an μ h w v x) (hc:v.cell=true):ba x=true:=by
 cases hv with
 |lit v=>exact hc
 |agg=>simp [V.cell] at hc
 |tup=>simp [V.cell] at hc
 |ptr b i o n x k hk hn hx hp hmp=>obtain ⟨c,off,rfl⟩:=hx;rfl
 |mp b x k hk hx hmp=>obtain ⟨c,rfl⟩:=hx;rfl
 |sl b s n x k hk hn hx hp=>obtain ⟨a,c,rfl⟩:=hx;rfl
 |emp=>rfl
 |imm0=>rfl
 |imm=>rfl
 |iptr=>rfl
 |fn=>rfl
 |unk=>simp [V.cell] at hc
theorem hJ {x:Value} (h:ba x=true):x.cells= #[x]:=by
 cases x<;>simp [ba,Value.cells] at h ⊢
theorem an.cellsRel [Frame] {μ:Mu} {h:au} {w:World} {v:V} {x:Value} (hv:an μ h w v x) (hc:v.cells.all V.cell=true):
 x.cells.size=v.cells.length∧ ∀i u,v.cells[i]? =some u→an μ h w u (x.cells.getD i undef):=by
 cases v with
 |agg cs=>
  cases hv with
  |agg _ xs hl hcell hc=>exact ⟨hl,hc⟩
 |tup vs=>simp [V.cells,V.cell] at hc
 |undef=>simp [V.cells,V.cell] at hc
 |lit y=>
  have h1:=hv.oneCell (by simpa [V.cells] using hc)
  rw [hJ h1]
  refine ⟨rfl,fun i u hi=> ?_⟩
  cases i with
  |zero=>simp [V.cells] at hi;subst hi;exact hv
  |succ i=>simp [V.cells] at hi
 |ptr b i o n=>
  have h1:=hv.oneCell (by simpa [V.cells] using hc)
  rw [hJ h1]
  refine ⟨rfl,fun i u hi=> ?_⟩
  cases i with
  |zero=>simp [V.cells] at hi;subst hi;exact hv
  |succ i=>simp [V.cells] at hi
 |mp b=>
  have h1:=hv.oneCell (by simpa [V.cells] using hc)
  rw [hJ h1]
  refine ⟨rfl,fun i u hi=> ?_⟩
  cases i with
  |zero=>simp [V.cells] at hi;subst hi;exact hv
  |succ i=>simp [V.cells] at hi
 |sl b s n=>
  have h1:=hv.oneCell (by simpa [V.cells] using hc)
  rw [hJ h1]
  refine ⟨rfl,fun i u hi=> ?_⟩
  cases i with
  |zero=>simp [V.cells] at hi;subst hi;exact hv
  |succ i=>simp [V.cells] at hi
 |imm e r=>
  have h1:=hv.oneCell (by simpa [V.cells] using hc)
  rw [hJ h1]
  refine ⟨rfl,fun i u hi=> ?_⟩
  cases i with
  |zero=>simp [V.cells] at hi;subst hi;exact hv
  |succ i=>simp [V.cells] at hi
 |iptr r o=>
  have h1:=hv.oneCell (by simpa [V.cells] using hc)
  rw [hJ h1]
  refine ⟨rfl,fun i u hi=> ?_⟩
  cases i with
  |zero=>simp [V.cells] at hi;subst hi;exact hv
  |succ i=>simp [V.cells] at hi
 |fn f cs=>
  have h1:=hv.oneCell (by simpa [V.cells] using hc)
  rw [hJ h1]
  refine ⟨rfl,fun i u hi=> ?_⟩
  cases i with
  |zero=>simp [V.cells] at hi;subst hi;exact hv
  |succ i=>simp [V.cells] at hi
theorem aI.lt [Frame] {μ:Mu} {h:au} {w:World} (H:aI μ h w) {b c:Nat} (hb:μ b=some c):c<w.heap.size:=by
 obtain ⟨k,hk,h0⟩:=H.dom b c hb
 rcases H.blk b k hk with ⟨_,_,hn⟩|⟨_,c',arr,t,lo,hi,hm,hh,_⟩|⟨_,_,c',hm,hb'⟩
 ·rw [hn] at hb;cases hb
 ·rw [hm] at hb;cases hb
  rcases Nat.lt_or_ge c w.heap.size with hlt|hge
  ·exact hlt
  ·rw [Array.getElem?_eq_none hge] at hh;cases hh
 ·rw [hm] at hb;cases hb;exact hb'.lt
def bk (μ:Mu) (b:Nat) (c:Option Nat):Mu:=fun b'=>if b'=b then c else μ b'
def wh (w w':World):Prop:=w'.os=w.os∧w'.tape=w.tape∧w'.output=w.output∧w.heap.size≤w'.heap.size∧(∀c,c<w.heap.size→w'.heap[c]? =w.heap[c]?)∧w.drawn≤w'.drawn
theorem wh.refl (w:World):wh w w:=⟨rfl,rfl,rfl,Nat.le_refl _,fun _ _=>rfl,Nat.le_refl _⟩
theorem wh.drew {w w':World} (g:wh { w with drawn:=w.drawn+1 } w'):wh w w':=⟨g.1,g.2.1,g.2.2.1,g.2.2.2.1,g.2.2.2.2.1,Nat.le_trans (Nat.le_succ _) g.2.2.2.2.2⟩
theorem wh.bsize {w w':World} (g:wh w w') {c:Nat} (hc:c<w.heap.size):bsize w' c=bsize w c:=by
 unfold AI.bsize;rw [g.2.2.2.2.1 c hc]
theorem wh.chg [Frame] {w w':World} (g:wh w w') {μ:Mu} {h:au} (H:aI μ h w):Chg μ h w μ h w':=
 ⟨⟨g.1,g.2.1,g.2.2.1,g.2.2.2.1,g.2.2.2.2.2,(fun c hc hs=>⟨g.2.2.2.2.1 c hc,hs⟩),fun c hc=>g.2.2.2.2.1 c (H.frlt c hc)⟩,fun b k hk=>⟨k,hk,.inr (.inr ⟨rfl,fun _=>rfl,rfl,rfl,fun _ hc=>g.bsize (H.lt hc)⟩)⟩⟩
theorem aI.grown [Frame] {μ:Mu} {h:au} {w w':World} (H:aI μ h w) (g:wh w w'):aI μ h w':=by
 refine ⟨H.inj,H.dom,fun b k hk=> ?_,H.rows,H.frame,fun c hc=>Nat.lt_of_lt_of_le (H.frlt c hc) g.2.2.2.1⟩
 rcases H.blk b k hk with h1|⟨h0,c,arr,t,lo,hi,hm,hh,hf,hl,hv⟩|⟨h0,ho,c,hm,hb⟩
 ·exact .inl h1
 ·exact .inr (.inl ⟨h0,c,arr,t,lo,hi,hm,by rw [g.2.2.2.2.1 c (H.lt hm)];exact hh,hf,hl,fun i row j v h1 h2=>(hv i row j v h1 h2).chg (g.chg H)⟩)
 ·exact .inr (.inr ⟨h0,ho,c,hm,hb.keep (g.2.2.2.2.1 c (H.lt hm))⟩)
theorem aI.new [Frame] {μ:Mu} {h:au} {w w':World} (H:aI μ h w) (g:wh w w') {b c:Nat} {k:Blk} (hb:h b=none) (hc:w.heap.size≤c)
 {arr:Array Value} {t:TypeId} {lo hi:Nat} (hh:w'.heap[c]? =some (.cells arr t (lo,hi))) (hf:Fz arr.size lo hi)
 (h0:0<k.esz) (hl:k.rows.length*k.esz≤arr.size) (hr: ∀row∈k.rows,row.length=k.esz∧ ∀v∈row,v.cell=true∧(k.op=false→v.cl=true))
 (hv: ∀i row j v,k.rows[i]? =some row→row[j]? =some v→an μ h w v (arr.getD (i*k.esz+j) undef)):
 aI (bk μ b (some c)) (aW h b k) w'∧Chg μ h w (bk μ b (some c)) (aW h b k) w':=by
 have hmb:μ b=none:=by
  cases hm:μ b with
  |none=>rfl
  |some c'=>obtain ⟨k',hk',_⟩:=H.dom b c' hm;rw [hb] at hk';cases hk'
 have hne: ∀b' k',h b'=some k'→b'≠b:=fun b' k' hk' e=>by rw [e,hb] at hk';cases hk'
 have ch:Chg μ h w (bk μ b (some c)) (aW h b k) w':=by
  refine ⟨⟨g.1,g.2.1,g.2.2.1,g.2.2.2.1,g.2.2.2.2.2,(fun c' hc' hs=>⟨g.2.2.2.2.1 c' hc',fun b'=> ?_,hs.2⟩),fun c hc=>g.2.2.2.2.1 c (H.frlt c hc)⟩,fun b' k' hk'=> ?_⟩
  ·unfold bk
   by_cases e:b'=b
   ·rw [if_pos e];intro h1;cases h1;omega
   ·rw [if_neg e];exact hs.1 b'
  ·have e:=hne b' k' hk'
   exact ⟨k',by simp [aW,e,hk'],.inr (.inr ⟨rfl,fun _=>rfl,rfl,by simp [bk,e],fun c' hc'=>g.bsize (H.lt hc')⟩)⟩
 refine ⟨⟨fun b1 b2 c' h1 h2=> ?_,fun b' c' h1=> ?_,fun b' k' hk'=> ?_,fun b' k' hk'=> ?_,fun b' c' h1=> ?_,fun c hc=>Nat.lt_of_lt_of_le (H.frlt c hc) g.2.2.2.1⟩,ch⟩
 ·unfold bk at h1 h2
  by_cases e1:b1=b<;>by_cases e2:b2=b
  ·rw [e1,e2]
  ·rw [if_pos e1] at h1;rw [if_neg e2] at h2;cases h1;have:=H.lt h2;omega
  ·rw [if_neg e1] at h1;rw [if_pos e2] at h2;cases h2;have:=H.lt h1;omega
  ·rw [if_neg e1] at h1;rw [if_neg e2] at h2;exact H.inj _ _ _ h1 h2
 ·unfold bk at h1
  by_cases e:b'=b
  ·exact ⟨k,by simp [aW,e],.inl h0⟩
  ·rw [if_neg e] at h1
   obtain ⟨k',hk',h0'⟩:=H.dom b' c' h1
   exact ⟨k',by simp [aW,e,hk'],h0'⟩
 ·by_cases e:b'=b
  ·simp [aW,e] at hk'
   subst hk'
   exact .inr (.inl ⟨h0,c,arr,t,lo,hi,by simp [bk,e],hh,hf,hl,fun i row j v h1 h2=>(hv i row j v h1 h2).chg ch⟩)
  ·simp [aW,e] at hk'
   rcases H.blk b' k' hk' with h1|⟨h0',c',arr',t',lo',hi',hm',hh',hf',hl',hv'⟩|⟨h0',ho',c',hm',hb'⟩
   ·exact .inl ⟨h1.1,h1.2.1,by simp [bk,e,h1.2.2]⟩
   ·exact .inr (.inl ⟨h0',c',arr',t',lo',hi',by simp [bk,e,hm'],by rw [g.2.2.2.2.1 c' (H.lt hm')];exact hh',hf',hl',fun i row j v h1 h2=>(hv' i row j v h1 h2).chg ch⟩)
   ·exact .inr (.inr ⟨h0',ho',c',by simp [bk,e,hm'],hb'.keep (g.2.2.2.2.1 c' (H.lt hm'))⟩)
 ·by_cases e:b'=b
  ·simp [aW,e] at hk';subst hk';exact fun row hrow=>⟨fun _=>(hr row hrow).1,(hr row hrow).2⟩
  ·simp [aW,e] at hk';exact H.rows b' k' hk'
 ·unfold bk at h1
  split at h1
  ·cases h1;intro h2;have:=H.frlt _ h2;omega
  ·exact H.frame b' c' h1
theorem aI.newNil [Frame] {μ:Mu} {h:au} {w:World} (H:aI μ h w) {b e:Nat} (hb:h b=none):
 aI μ (aW h b ⟨e,false,[]⟩) w∧Chg μ h w μ (aW h b ⟨e,false,[]⟩) w:=by
 have hmb:μ b=none:=by
  cases hm:μ b with
  |none=>rfl
  |some c'=>obtain ⟨k',hk',_⟩:=H.dom b c' hm;rw [hb] at hk';cases hk'
 have hne: ∀b' k',h b'=some k'→b'≠b:=fun b' k' hk' e=>by rw [e,hb] at hk';cases hk'
 have ch:Chg μ h w μ (aW h b ⟨e,false,[]⟩) w:=
  ⟨jV.refl _ _,fun b' k' hk'=>⟨k',by simp [aW,hne b' k' hk',hk'],.inr (.inr ⟨rfl,fun _=>rfl,rfl,rfl,fun _ _=>rfl⟩)⟩⟩
 refine ⟨⟨H.inj,fun b' c' h1=> ?_,fun b' k' hk'=> ?_,fun b' k' hk'=> ?_,H.frame,H.frlt⟩,ch⟩
 ·obtain ⟨k',hk',h0⟩:=H.dom b' c' h1
  exact ⟨k',by simp [aW,hne b' k' hk',hk'],h0⟩
 ·by_cases eb:b'=b
  ·simp [aW,eb] at hk';subst hk';exact .inl ⟨rfl,rfl,by rw [eb];exact hmb⟩
  ·simp [aW,eb] at hk'
   rcases H.blk b' k' hk' with h1|⟨h0',c',arr',t',lo',hi',hm',hh',hf',hl',hv'⟩|h1
   ·exact .inl h1
   ·exact .inr (.inl ⟨h0',c',arr',t',lo',hi',hm',hh',hf',hl',fun i row j v h1 h2=>(hv' i row j v h1 h2).chg ch⟩)
   ·exact .inr (.inr h1)
 ·by_cases eb:b'=b
  ·simp [aW,eb] at hk';subst hk';intro row hrow;simp at hrow
  ·simp [aW,eb] at hk';exact H.rows b' k' hk'
theorem aI.kill [Frame] {μ:Mu} {h:au} {w:World} (H:aI μ h w) {b:Nat} {k:Blk} (hb:h b=some k):
 aI (bk μ b none) (aW h b ip) w∧Chg μ h w (bk μ b none) (aW h b ip) w:=by
 have ch:Chg μ h w (bk μ b none) (aW h b ip) w:=by
  refine ⟨⟨rfl,rfl,rfl,Nat.le_refl _,Nat.le_refl _,(fun c hc hs=>⟨rfl,fun b'=> ?_,hs.2⟩),fun _ _=>rfl⟩,fun b' k' hk'=> ?_⟩
  ·unfold bk
   by_cases e:b'=b
   ·rw [if_pos e];simp
   ·rw [if_neg e];exact hs.1 b'
  ·by_cases e:b'=b
   ·exact ⟨ip,by simp [aW,e],.inl ⟨rfl,rfl⟩⟩
   ·exact ⟨k',by simp [aW,e,hk'],.inr (.inr ⟨rfl,fun _=>rfl,rfl,by simp [bk,e],fun _ _=>rfl⟩)⟩
 refine ⟨⟨fun b1 b2 c h1 h2=> ?_,fun b' c' h1=> ?_,fun b' k' hk'=> ?_,fun b' k' hk'=> ?_,fun b' c' h1=> ?_,H.frlt⟩,ch⟩
 ·unfold bk at h1 h2
  by_cases e1:b1=b
  ·rw [if_pos e1] at h1;cases h1
  ·by_cases e2:b2=b
   ·rw [if_pos e2] at h2;cases h2
   ·rw [if_neg e1] at h1;rw [if_neg e2] at h2;exact H.inj _ _ _ h1 h2
 ·unfold bk at h1
  by_cases e:b'=b
  ·rw [if_pos e] at h1;cases h1
  ·rw [if_neg e] at h1
   obtain ⟨k',hk',h0⟩:=H.dom b' c' h1
   exact ⟨k',by simp [aW,e,hk'],h0⟩
 ·by_cases e:b'=b
  ·simp [aW,e] at hk';subst hk';exact .inl ⟨rfl,rfl,by simp [bk,e]⟩
  ·simp [aW,e] at hk'
   rcases H.blk b' k' hk' with h1|⟨h0',c',arr',t',lo',hi',hm',hh',hf',hl',hv'⟩|⟨h0',ho',c',hm',hb'⟩
   ·exact .inl ⟨h1.1,h1.2.1,by simp [bk,e,h1.2.2]⟩
   ·exact .inr (.inl ⟨h0',c',arr',t',lo',hi',by simp [bk,e,hm'],hh',hf',hl',fun i row j v h1 h2=>(hv' i row j v h1 h2).chg ch⟩)
   ·exact .inr (.inr ⟨h0',ho',c',by simp [bk,e,hm'],hb'⟩)
 ·by_cases e:b'=b
  ·simp [aW,e] at hk';subst hk';intro row hrow;simp [ip] at hrow
  ·simp [aW,e] at hk';exact H.rows b' k' hk'
 ·unfold bk at h1
  split at h1
  ·cases h1
  ·exact H.frame b' c' h1
theorem aI.put [Frame] {μ:Mu} {h:au} {w w':World} (H:aI μ h w) {b c:Nat} {k k':Blk} (hb:h b=some k) (h0:0<k.esz) (hc:μ b=some c∨w.heap.size≤c)
 (h1:w'.os=w.os) (h2:w'.tape=w.tape) (h3:w'.output=w.output) (h4:w.heap.size≤w'.heap.size) (hdr:w.drawn≤w'.drawn) (h5: ∀c',c'<w.heap.size→c'≠c→w'.heap[c']? =w.heap[c']?)
 {arr:Array Value} {t:TypeId} {lo hi:Nat} (hh:w'.heap[c]? =some (.cells arr t (lo,hi))) (hf:Fz arr.size lo hi)
 (he:k'.esz=k.esz) (hl:k'.rows.length*k'.esz≤arr.size) (hr: ∀row∈k'.rows,row.length=k'.esz∧ ∀v∈row,v.cell=true∧(k'.op=false→v.cl=true))
 (hlen:k.rows.length<k'.rows.length∨(k'.rows.length=k.rows.length∧μ b=some c∧arr.size=bsize w c))
 (hv: ∀i row j v,k'.rows[i]? =some row→row[j]? =some v→an μ h w v (arr.getD (i*k'.esz+j) undef)):
 aI (bk μ b (some c)) (aW h b k') w'∧Chg μ h w (bk μ b (some c)) (aW h b k') w':=by
 have hlt: ∀b' c',μ b'=some c'→c'<w.heap.size:=fun b' c' hm=>H.lt hm
 have hcne: ∀b' c',b'≠b→μ b'=some c'→c'≠c:=by
  intro b' c' hne hm e
  subst e
  rcases hc with hc|hc
  ·exact hne (H.inj _ _ _ hm hc)
  ·have:=hlt _ _ hm;omega
 have hbs: ∀c',c'<w.heap.size→c'≠c→bsize w' c'=bsize w c':=fun c' h6 h7=>by unfold bsize;rw [h5 c' h6 h7]
 have ch:Chg μ h w (bk μ b (some c)) (aW h b k') w':=by
  have hcf: ¬Frame.fr c:=by
   rcases hc with hc|hc
   ·exact H.frame _ _ hc
   ·intro h6;have:=H.frlt _ h6;omega
  refine ⟨⟨h1,h2,h3,h4,hdr,(fun c' hc' hs=> ?_),fun c' hc'=>h5 c' (H.frlt _ hc') (fun e=>hcf (e▸hc'))⟩,fun b' k2 hk2=> ?_⟩
  ·have hne:c'≠c:=by
    intro e;subst e
    rcases hc with hc|hc
    ·exact hs.1 b hc
    ·omega
   refine ⟨h5 c' hc' hne,fun b'=> ?_,hs.2⟩
   unfold bk
   by_cases e:b'=b
   ·rw [if_pos e];intro h6;cases h6;exact hne rfl
   ·rw [if_neg e];exact hs.1 b'
  ·by_cases e:b'=b
   ·subst e
    rw [hb] at hk2;cases hk2
    refine ⟨k',by simp [aW], ?_⟩
    rcases hlen with hlen|⟨hlen,hm,hsz⟩
    ·exact .inr (.inl ⟨he,h0,hlen⟩)
    ·refine .inr (.inr ⟨he,fun h1=>by omega,hlen,by simp [bk,hm],fun c' hc'=> ?_⟩)
     rw [hm] at hc';cases hc'
     unfold bsize
     rw [hh]
     exact hsz
   ·exact ⟨k2,by simp [aW,e,hk2],.inr (.inr ⟨rfl,fun _=>rfl,rfl,by simp [bk,e],fun c' hc'=>hbs c' (hlt _ _ hc') (hcne _ _ e hc')⟩)⟩
 refine ⟨⟨fun b1 b2 c' g1 g2=> ?_,fun b' c' g1=> ?_,fun b' k2 hk2=> ?_,fun b' k2 hk2=> ?_,fun b' c' g1=> ?_,fun c hc=>Nat.lt_of_lt_of_le (H.frlt c hc) h4⟩,ch⟩
 ·unfold bk at g1 g2
  by_cases e1:b1=b<;>by_cases e2:b2=b
  ·rw [e1,e2]
  ·rw [if_pos e1] at g1;rw [if_neg e2] at g2;cases g1;exact absurd rfl (hcne _ _ e2 g2)
  ·rw [if_neg e1] at g1;rw [if_pos e2] at g2;cases g2;exact absurd rfl (hcne _ _ e1 g1)
  ·rw [if_neg e1] at g1;rw [if_neg e2] at g2;exact H.inj _ _ _ g1 g2
 ·unfold bk at g1
  by_cases e:b'=b
  ·exact ⟨k',by simp [aW,e],.inl (by rw [he];exact h0)⟩
  ·rw [if_neg e] at g1
   obtain ⟨k2,hk2,h02⟩:=H.dom b' c' g1
   exact ⟨k2,by simp [aW,e,hk2],h02⟩
 ·by_cases e:b'=b
  ·simp [aW,e] at hk2
   subst hk2
   exact .inr (.inl ⟨by rw [he];exact h0,c,arr,t,lo,hi,by simp [bk,e],hh,hf,hl,fun i row j v g1 g2=>(hv i row j v g1 g2).chg ch⟩)
  ·simp [aW,e] at hk2
   rcases H.blk b' k2 hk2 with g1|⟨g0,c',arr',t',lo',hi',hm',hh',hf',hl',hv'⟩|⟨g0,go,c',hm',hb'⟩
   ·exact .inl ⟨g1.1,g1.2.1,by simp [bk,e,g1.2.2]⟩
   ·exact .inr (.inl ⟨g0,c',arr',t',lo',hi',by simp [bk,e,hm'],by rw [h5 c' (hlt _ _ hm') (hcne _ _ e hm')];exact hh',hf',hl',fun i row j v g1 g2=>(hv' i row j v g1 g2).chg ch⟩)
   ·exact .inr (.inr ⟨g0,go,c',by simp [bk,e,hm'],hb'.keep (h5 c' (hlt _ _ hm') (hcne _ _ e hm'))⟩)
 ·by_cases e:b'=b
  ·simp [aW,e] at hk2;subst hk2;exact fun row hrow=>⟨fun _=>(hr row hrow).1,(hr row hrow).2⟩
  ·simp [aW,e] at hk2;exact H.rows b' k2 hk2
 ·unfold bk at g1
  split at g1
  ·cases g1
   rcases hc with hc|hc
   ·exact H.frame _ _ hc
   ·intro h6;have:=H.frlt _ h6;omega
  ·exact H.frame b' c' g1
end
end Go.AI
