/- Part. -/
import Derived.Test.YtdnkignjanfikaaGreatAiRel
import Derived.Test.YtdnkignjanfikaaGreatAiComp
import Derived.Laws.AppendOwn
import Derived.Laws.MakeOwn
import Derived.ChangeKeysEq
set_option linter.unusedVariables false
set_option linter.unusedSimpArgs false
namespace Go.AI
section
theorem ZG (v:Value):cD v=v.oneCell':=by cases v<;>rfl
theorem gx {P:Program} {t:TypeId} {s:Nat} (h:lj P t=some s) (w:World):(sizeOf t).run P w= .ok s w:=by
 unfold lj at h
 cases hi:P.info? t with
 |none=>rw [hi] at h;cases h
 |some i=>rw [hi] at h;cases h;simp [sizeOf,typeInfo,hi]
theorem uH {P:Program} {t:TypeId} {z:List Value} (h:Dr P t=some z): ∃i v,P.info? t=some i/\i.zero=some v/\v.cells.toList=z/\ ∀w,(zeroValue t).run P w= .ok v w:=by
 unfold Dr at h
 cases hi:P.info? t with
 |none=>rw [hi] at h;cases h
 |some i=>
  rw [hi] at h
  dsimp only at h
  cases a:i.zero with
  |none=>rw [a] at h;cases h
  |some v=>
   rw [a] at h;cases h
   exact ⟨i,v,rfl,a,rfl,fun w=>by simp [zeroValue,typeInfo,hi,a]⟩
theorem ui {P:Program} {t e:TypeId} (h:UL P t=some e):P.underlying t=some (.slice e):=by
 unfold UL at h
 split at h
 ·cases h;assumption
 ·cases h
theorem ZF {P:Program} {t:TypeId} {g:Option Nat} (h:Pr P t=some g) (w:World):
 (isAgg t).run P w= .ok g.isSome w/\ ∀n,g=some n->lj P t=some n:=by
 unfold Pr at h
 split at h
 ·rename_i a hi;cases h;exact ⟨by simp [isAgg,run_underlying a],fun n hn=>by cases hn;simp [lj,hi]⟩
 ·rename_i a hi;cases h;exact ⟨by simp [isAgg,run_underlying a],fun n hn=>by cases hn;simp [lj,hi]⟩
 ·rename_i d i b c a hi
  cases h
  refine ⟨?_,fun n hn=>by cases hn⟩
  cases d<;>first
   | (simp [isAgg,run_underlying a];done)
   | (exfalso;exact b _ rfl)
   | (exfalso;exact c _ _ rfl)
 ·cases h
theorem vy {P:Program} {w:World} {c off n:Nat} {f:Nat->Value} (h: ∀j,j<n->w.cell? ⟨c,off+j,none⟩=some (f j)):
 (loadCells ⟨c,off,none⟩ n).run P w= .ok ((Array.range n).map f) w:=by
 have:=run_loadCells (P:=P) w ⟨c,off,none⟩ n f (fun j a=>by
  unfold Addr.add
  by_cases h0:j=0
  ·subst h0;simpa using h 0 a
  ·rw [a7 h0];exact h j a)
 rw [this]
 congr 1
 apply fL
 simp
def iT (w:World) (g:Nat) (arr:Array Value) (t:TypeId) (fz:Nat×Nat):World:={ w with heap:=w.heap.setIfInBounds g (.cells arr t fz) }
theorem uz {w:World} {g:Nat} {arr:Array Value} {t:TypeId} {fz:Nat×Nat} (h:g<w.heap.size):(iT w g arr t fz).heap[g]? =some (.cells arr t fz):=by
 simp [iT,h]
theorem Dc {w:World} {g c:Nat} {arr:Array Value} {t:TypeId} {fz:Nat×Nat} (h:c≠g):(iT w g arr t fz).heap[c]? =w.heap[c]? :=by
 simp [iT,cE,Ne.symm h]
theorem yj {w:World} {g:Nat} {arr:Array Value} {t:TypeId} {fz:Nat×Nat}:(iT w g arr t fz).heap.size=w.heap.size:=by simp [iT]
theorem Un {w:World} {g:Nat} {arr arr':Array Value} {t t':TypeId} {fz fz':Nat×Nat}:iT (iT w g arr t fz) g arr' t' fz'=iT w g arr' t' fz':=by
 unfold iT
 congr 1
 apply fS
 intro k
 simp only [cE,eU]
 by_cases e:g=k
 ·simp [e]
 ·simp [e]
theorem rq {w:World} {g:Nat} {o:Obj} (h:w.heap[g]? =some o):g<w.heap.size:=by
 rcases dc g w.heap.size with a|a
 ·exact a
 ·rw [fG a] at h;cases h
theorem Sz {w:World} {g i:Nat} {arr:Array Value} {t:TypeId} {fz:Nat×Nat} (h:w.heap[g]? =some (.cells arr t fz)) (v:Value):
 w.setCell ⟨g,i,none⟩ v=iT w g (arr.setIfInBounds i v) t fz:=by
 unfold World.setCell iT
 congr 1
 apply fS
 intro k
 rw [eO,cE]
 by_cases e:g=k
 ·subst e
  have:=rq h
  rw [aa rfl,h]
  simp [this]
 ·simp [e]
theorem oe {P:Program} {g o:Nat} {t:TypeId} {lo hi:Nat}: ∀(vs:List Value) (i:Nat) (cur:Array Value) (w:World),w.heap[g]? =some (.cells cur t (lo,hi))->
 (∀k,lo<=k->k<hi->cur.size<=k)->o+i+vs.length<=cur.size->(∀v∈vs,cD v=true)->
 ∃arr,(storeCells ⟨g,o,none⟩ vs i).run P w= .ok () (iT w g arr t (lo,hi))/\arr.size=cur.size/\
  ∀k,arr.getD k undef=if o+i<=k/\k<o+i+vs.length then vs.getD (k-(o+i)) undef else cur.getD k undef
 |[],i,cur,w,hg,hf,hl,h1=>by
  refine ⟨cur, ?_,rfl,fun k=>by rw [a7 (by simp only [ah];omega)]⟩
  simp only [storeCells,Sem.run_pure]
  congr 1
  unfold iT
  have:=rq hg
  have e:w.heap.setIfInBounds g (.cells cur t (lo,hi))=w.heap:=by
   apply fS
   intro k
   rw [cE]
   by_cases e:g=k
   ·subst e;rw [aa rfl,aa this,hg]
   ·simp [e]
  rw [e]
 |v::vs,i,cur,w,hg,hf,hl,h1=>by
  have hlt:=rq hg
  have hadd:(⟨g,o,none⟩:Addr).add i=⟨g,o+i,none⟩:=by
   unfold Addr.add
   by_cases h0:i=0
   ·subst h0;rfl
   ·rw [a7 h0]
  simp only [ab] at hl
  have hcell:w.cell? ⟨g,o+i,none⟩=some (cur.getD (o+i) undef):=by
   have hi:o+i<cur.size:=by omega
   simp [World.cell?,hg,hi,aH hi]
  have hfr:w.frozen? ⟨g,o+i,none⟩=false:=by
   simp only [World.frozen?,hg]
   by_cases h2:lo<=o+i/\o+i<hi
   ·have:=hf _ h2.1 h2.2;omega
   ·simp;omega
  have hone:v.oneCell'=true:=by rw [<-ZG];exact h1 v sm
  have hstep:(store ((⟨g,o,none⟩:Addr).add i) v).run P w= .ok () (iT w g (cur.setIfInBounds (o+i) v) t (lo,hi)):=by
   rw [hadd,run_store P w _ v .plain hone,hcell]
   simp only [hfr,bC,if_false]
   rw [Sz hg]
  obtain ⟨arr,hr,hs,hv⟩:=oe (P:=P) (o:=o) vs (i+1) (cur.setIfInBounds (o+i) v) (iT w g (cur.setIfInBounds (o+i) v) t (lo,hi)) (uz hlt)
   (fun k a b=>by rw [eU];exact hf k a b) (by rw [eU];omega) (fun u hu=>h1 u (List.mem_cons_of_mem _ hu))
  refine ⟨arr, ?_,by rw [hs,eU],fun k=> ?_⟩
  ·simp only [storeCells,Sem.run_bind,hstep,Result.andThen_ok,hr,Un]
  ·rw [hv k]
   simp only [ab]
   by_cases e:k=o+i
   ·subst e
    rw [a7 om,aa om]
    have hi:o+i<cur.size:=by omega
    simp [hi]
   ·have hne:(cur.setIfInBounds (o+i) v).getD k undef=cur.getD k undef:=by
     rw [Array.getD_eq_getD_getElem?,Array.getD_eq_getD_getElem?,Array.getElem?_setIfInBounds_ne (Ne.symm e)]
    rw [hne]
    by_cases h2:o+(i+1)<=k/\k<o+(i+1)+vs.length
    ·rw [aa h2,aa om]
     have:k-(o+i)=(k-(o+(i+1)))+1:=by omega
     rw [this]
     simp
    ·rw [a7 h2,a7 om]
end
section
section
variable {P:Program} {μ:Mu} {h:ba} {w:World} {f:Nat->V} {a:Act}
def ic [Frame] (μ:Mu) (h:ba) (w:World) (f:Nat->V) (a:Act):Prop:= ∀t,b7 μ h w (f t) (a.tmps.getD t undef)
theorem bX [Frame] (E:ic μ h w f a) {x:Operand} {y:Opd} (b:bF x=some y):b7 μ h w (y.ev f) (a.eval x):=by
 cases x with
 |tmp t=>simp [bF] at b;subst b;exact E t
 |const v=>simp [bF] at b;subst b;exact .lit v
 |global g=>simp [bF] at b
 |func k=>simp [bF] at b;subst b;exact .fn k [] #[] rfl (fun i v h=>by simp at h)
def jv [Frame] (P:Program) (o:Oper) (a:Act) (μ:Mu) (h:ba) (w:World) (v:V) (u:Upd):Prop:=
 ∃x w' μ',((execOp a.eval o).run P w= .ok (.value x) w'\/((execOp a.eval o).run P w= .ok .skip w'/\x=undef))/\
  bG μ' (hU h u) w'/\Chg μ h w μ' (hU h u) w'/\b7 μ' (hU h u) w' v x
theorem jv.quiet [Frame] {o:Oper} {v:V} {x:Value} (H:bG μ h w) (b:(execOp a.eval o).run P w= .ok (.value x) w) (c:b7 μ h w v x):jv P o a μ h w v []:=
 ⟨x,w,μ,.inl b,H,Chg.refl _ _ _,c⟩
def p8 (w:World) (o:Obj):World:={ w with heap:=w.heap.push o }
theorem o7 (w:World) (o:Obj):Am w (p8 w o):=
 ⟨rfl,rfl,rfl,by show _<=(w.heap.push o).size;rw [Array.size_push];omega,fun c hc=>by show (w.heap.push o)[c]? =_;rw [jz,a7 (Nat.ne_of_lt hc)],am _⟩
theorem ti (w:World) (o:Obj):(p8 w o).heap[w.heap.size]? =some o:=by show (w.heap.push o)[w.heap.size]? =_;rw [jz,aa rfl]
theorem a5i [Frame] (H:bG μ h w) {new:Nat} (hn:h new=none) {cs:List V} {arr:Array Value} {t:TypeId} (h0:0<cs.length) (e:arr.size=cs.length)
 (hc: ∀v∈cs,v.cell=true) (f: ∀j v,cs[j]? =some v->b7 μ h w v (arr.getD j undef)):
 bG (cM μ new (some w.heap.size)) (ci h new ⟨cs.length,true,[cs]⟩) (p8 w (.cells arr t))/\
 Chg μ h w (cM μ new (some w.heap.size)) (ci h new ⟨cs.length,true,[cs]⟩) (p8 w (.cells arr t))/\
 b7 (cM μ new (some w.heap.size)) (ci h new ⟨cs.length,true,[cs]⟩) (p8 w (.cells arr t)) (.ptr new 0 0 1) (.pointer (some ⟨w.heap.size,0,none⟩)):=by
 have a:=H.new (o7 w (.cells arr t)) (b:=new) (c:=w.heap.size) (k:=⟨cs.length,true,[cs]⟩) hn (am _)
  (arr:=arr) (t:=t) (lo:=0) (hi:=0) (ti w _) (.inl rfl) h0 (by simp [e])
  (fun row d=>by simp at d;subst d;exact ⟨rfl,fun v f=>⟨hc v f,fun h=>by cases h⟩⟩)
  (fun i row j v l m=>by
   cases i with
   |zero=>simp at l;subst l;simpa using f j v m
   |succ i=>simp at l)
 refine ⟨a.1,a.2,.ptr new 0 0 1 _ ⟨cs.length,true,[cs]⟩ (by simp [ci]) (.inr sm) ⟨_,_,rfl⟩ (fun _ _ _=>⟨w.heap.size,by simp [cM],by simp⟩) (fun h=>absurd h (Nat.ne_of_gt h0))⟩
theorem uw {n:Nat} {k:Blk} {v:V} {r:V×Upd} (a:pc h n k v=some r):h n=none/\0<k.esz/\r=(v,[(n,k)]):=by
 unfold pc at a
 split at a
 ·rename_i hc;cases a;exact ⟨by simpa using hc.1,hc.2,rfl⟩
 ·cases a
theorem a6w [Frame] (H:bG μ h w) {o:Oper} {t:TypeId} {z:List Value} (m:o.op= .alloc t) (n:Dr P t=some z) {new:Nat} {v:V} {u:Upd}
 (k:(if z.all cD then pc h new ⟨z.length,true,[z.map .lit]⟩ (.ptr new 0 0 1) else none)=some (v,u)):jv P o a μ h w v u:=by
 split at k
 ·rename_i b
  obtain ⟨hn,h0,p⟩:=uw k
  cases p
  obtain ⟨i,zv,hi,q,c,l⟩:=uH n
  dsimp only at h0
  have d:zv.cells.size=(z.map V.lit).length:=by rw [aw, <-c];simp
  have:=a5i H (new:=new) hn (cs:=z.map .lit) (arr:=zv.cells) (t:=t) (by simpa using h0) d
   (fun v r=>by obtain ⟨y,e,rfl⟩:=bf.1 r;exact an.1 b y e)
   (fun j v f=>by
    rw [b6] at f
    cases e:z[j]? with
    |none=>rw [e] at f;cases f
    |some y=>
     rw [e] at f;cases f
     have:zv.cells[j]? =some y:=by rw [<-Array.getElem?_toList,c];exact e
     simp only [Array.getD_eq_getD_getElem?,this,dL]
     exact .lit y)
  simp only [aw] at this
  refine ⟨_,_,_,.inl ?_,this.1,this.2.1,this.2.2⟩
  simp [execOp,m,Instr.alloc,l,newVar,newRow,p8]
 ·cases k
theorem b8Q [Frame] (H:bG μ h w) (E:ic μ h w f a) {o:Oper} {t:TypeId} {x:Operand} {y:Opd} {s:Nat} (e:o.op= .box t x) (i:bF x=some y) {new:Nat} {v:V} {u:Upd}
 (c:(if (y.ev f).cells.length=s/\(y.ev f).cells.all V.cell then pc h new ⟨s,true,[(y.ev f).cells]⟩ (.ptr new 0 0 1) else none)=some (v,u)):jv P o a μ h w v u:=by
 split at c
 ·rename_i hc
  obtain ⟨j,b⟩:=hc
  subst j
  obtain ⟨hn,h0,k⟩:=uw c
  cases k
  dsimp only at h0
  have d:=bX E i
  obtain ⟨l,m⟩:=d.cellsRel b
  have:=a5i H (new:=new) hn (cs:=(y.ev f).cells) (arr:=(a.eval x).cells) (t:=t) h0 l (fun v d=>an.1 b v d) m
  refine ⟨_,_,_,.inl ?_,this.1,this.2.1,this.2.2⟩
  simp [execOp,e,Instr.box,newVar,newRow,p8]
 ·cases c
structure b3X [Frame] (μ:Mu) (h:ba) (w:World) (row:List V) (c off:Nat):Prop where
 cell: ∀j v,row[j]? =some v-> ∃y,w.cell? ⟨c,off+j,none⟩=some y/\b7 μ h w v y
 one: ∀v∈row,v.cell=true
theorem Qx [Frame] (H:bG μ h w) {b i o n:Nat} {x:Value} {k:Blk} {row:List V} (f:b7 μ h w (.ptr b i o n) x) (d:h b=some k) (hi:k.rows[i]? =some row):0<k.esz:=by
 rcases H.blk b k d with ⟨j,_,_⟩|⟨h0,_⟩|⟨h0,e,c,q,l⟩
 ·rw [j] at hi;simp at hi
 ·exact h0
 ·exfalso
  cases f with
  |ptr _ _ _ _ _ k' a m r s p=>
   rw [d] at a;cases a
   rw [p h0] at e;cases e
theorem Kd [Frame] (H:bG μ h w) {b i:Nat} {k:Blk} {row:List V} (p:h b=some k) (hi:k.rows[i]? =some row) (l:0<k.esz):
 ∃c,μ b=some c/\b3X μ h w row c (i*k.esz)/\row.length=k.esz/\0<k.esz:=by
 have d:=al hi
 have e:=H.rows b k p row d
 rcases H.blk b k p with ⟨q,_,_⟩|⟨h0,c,arr,t,lo,r,s,u,hf,hl,m⟩|⟨h0,_⟩
 ·rw [q] at d;cases d
 rotate_left
 ·omega
 ·have x:=e.1 l
  refine ⟨c,s,⟨fun j v n=> ?_,fun v m=>(e.2 v m).1⟩,e.1 l,h0⟩
  have y:j<row.length:=by
   rcases dc j row.length with a|f
   ·exact a
   ·rw [cf f] at n;cases n
  have o:i<k.rows.length:=by
   rcases dc i k.rows.length with a|f
   ·exact a
   ·rw [cf f] at hi;cases hi
  have a:i*k.esz+j<arr.size:=by
   have z:(i+1)*k.esz<=k.rows.length*k.esz:=bg _ o
   rw [Nat.add_mul,cK] at z
   omega
  refine ⟨arr.getD (i*k.esz+j) undef, ?_,m i row j v hi n⟩
  simp [World.cell?,u,a,aH a]
theorem ZE [Frame] {row:List V} {c off:Nat} {g:Option Nat} {t:TypeId} {o:Nat} {v:V} (R:b3X μ h w row c off) (m:Pr P t=some g) (b:part g row o=some v):
 ∃x,(loadVar t ⟨c,off+o,none⟩).run P w= .ok x w/\b7 μ h w v x:=by
 obtain ⟨l,hn⟩:=ZF m w
 cases g with
 |none=>
  simp only [part] at b
  obtain ⟨y,d,e⟩:=R.cell o v b
  refine ⟨y, ?_,e⟩
  simp [loadVar,l,d]
 |some n=>
  simp only [part] at b
  split at b
  ·rename_i p
   cases b
   have f:=gx (hn n rfl) w
   let fn:Nat->Value:=fun j=>(w.cell? ⟨c,off+o+j,none⟩).getD undef
   have a: ∀j,j<n->w.cell? ⟨c,off+o+j,none⟩=some (fn j):=by
    intro j r
    obtain ⟨y,d,_⟩:=R.cell (o+j) row[o+j] (aq om)
    show _=some ((w.cell? ⟨c,off+o+j,none⟩).getD undef)
    rw [show off+o+j=off+(o+j) by omega,d];rfl
   refine ⟨.agg ((Array.range n).map fn), ?_, ?_⟩
   ·simp [loadVar,l,f,vy a]
   ·refine .agg _ _ (by simp;omega) (fun v e=>R.one v (bZ (cm e))) (fun i v hi=> ?_)
    rw [kw] at hi
    split at hi
    ·rename_i k
     rw [fZ] at hi
     obtain ⟨y,d,e⟩:=R.cell (o+i) v hi
     have q:fn i=y:=by
      show (w.cell? ⟨c,off+o+i,none⟩).getD undef=y
      rw [show off+o+i=off+(o+i) by omega,d];rfl
     have:((Array.range n).map fn).getD i undef=y:=by
      simp [k,q]
     rw [this];exact e
    ·cases hi
  ·cases b
theorem YH [Frame] {row:List V} {o:Nat} {x:Value} (b:b7 μ h w (.iptr row o) x): ∃c off,x= .pointer (some ⟨c,off+o,none⟩)/\b3X μ h w row c off:=by
 cases b with
 |iptr _ _ c off ys hc l d a b=>
  refine ⟨c,off,rfl,⟨fun j v e=> ?_,fun v b=>(d v b).2⟩⟩
  have f:j<row.length:=by
   rcases dc j row.length with i|k
   ·exact i
   ·rw [cf k] at e;cases e
  exact ⟨ys j,a j f,b j v e⟩
theorem a3d [Frame] {b i o n:Nat} {x:Value} {k:Blk} (d:b7 μ h w (.ptr b i o n) x) (e:h b=some k) (hn:k.rows.length=n) (hi:i<n) (h0:0<k.esz):
 ∃c,μ b=some c/\x= .pointer (some ⟨c,i*k.esz+o,none⟩):=by
 cases d with
 |ptr _ _ _ _ _ k' a f m j l=>
  rw [e] at a;cases a
  exact j om hn hi
theorem UI [Frame] (H:bG μ h w) {av v:V} {x:Value} {g:Option Nat} {t:TypeId} (f:b7 μ h w av x) (r:Pr P t=some g) (a:Ac g h av=some v):
 ∃c off y,x= .pointer (some ⟨c,off,none⟩)/\(loadVar t ⟨c,off,none⟩).run P w= .ok y w/\b7 μ h w v y:=by
 cases av with
 |ptr b i o n=>
  simp only [Ac] at a
  cases d:h b with
  |none=>rw [d] at a;cases a
  |some k=>
   rw [d] at a
   dsimp only at a
   split at a
   ·rename_i hn
    cases hi:k.rows[i]? with
    |none=>rw [hi] at a;cases a
    |some row=>
     rw [hi] at a
     obtain ⟨c,s,R,u,h0⟩:=Kd H d hi (Qx H f d hi)
     have j:i<n:=by
      rw [<-hn]
      rcases dc i k.rows.length with l|m
      ·exact l
      ·rw [cf m] at hi;cases hi
     obtain ⟨c',e,rfl⟩:=a3d f d hn j h0
     rw [s] at e;cases e
     obtain ⟨y,p,q⟩:=ZE R r a
     exact ⟨c,i*k.esz+o,y,rfl,p,q⟩
   ·cases a
 |iptr row o=>
  simp only [Ac] at a
  obtain ⟨c,off,rfl,R⟩:=YH f
  obtain ⟨y,p,q⟩:=ZE R r a
  exact ⟨c,off+o,y,rfl,p,q⟩
 |_=>simp [Ac] at a
theorem b1O [Frame] (H:bG μ h w) (E:ic μ h w f a) {o:Oper} {t:TypeId} {x:Operand} {y:Opd} {g:Option Nat} (d:o.op= .load t x) (e:bF x=some y) (i:Pr P t=some g) {v:V}
 (j:Ac g h (y.ev f)=some v):jv P o a μ h w v []:=by
 obtain ⟨c,off,y',b,k,l⟩:=UI H (bX E e) i j
 exact .quiet H (by simp [execOp,d,Instr.loadAt,Instr.sureAddr,b,k]) l
theorem pI.sub [Frame] {μ μ':Mu} {w:World} (a: ∀b c,μ' b=some c->μ b=some c):pI μ w μ' w:=
 ⟨rfl,rfl,rfl,am _,am _,(fun c _ h=>⟨rfl,(fun b d=>h.1 b (a b c d)),h.2⟩),fun _ _=>rfl⟩
theorem MB [Frame] (H:bG μ h w) {b s n:Nat} {k:Blk} {x:Value} (hb:h b=some k) (m:k.op=false) (h0:0<k.esz) (hn:s+n=k.rows.length) (p:b7 μ h w (.sl b s n) x)
 {μ':Mu} (h':ba) (hm:μ' b=none) (l: ∀b c,μ' b=some c->μ b=some c):b7 μ' h' w (.imm k.esz (k.rows.drop s)) x:=by
 cases p with
 |sl _ _ _ _ k' q hn' hx hp=>
  rw [hb] at q;cases q
  obtain ⟨ad,cap,rfl,hok⟩:=hp om hn
  have a:(k.rows.drop s).length=n:=by simp;omega
  by_cases hz:n=0
  ·have:k.rows.drop s=[]:=bN om
   rw [this,hz]
   exact .imm0 _ _ _ om
  ·rcases hok with ⟨r,_⟩|⟨c,hc,rfl,hcap,hnc⟩
   ·exact absurd r hz
   ·have hst:sX μ' c:=by
     refine ⟨fun b' o=> ?_,H.frame _ _ hc⟩
     have r:=l b' c o
     have h2:=H.inj _ _ _ r hc
     rw [h2,hm] at o;cases o
    rcases H.blk b k hb with ⟨r,_,_⟩|⟨_,c',arr,t,lo,hi,u,hh,hf,hl,p⟩|⟨_,ho,_⟩
    ·rw [r] at hn;simp at hn;omega
    rotate_left
    ·rw [m] at ho;cases ho
    ·rw [hc] at u;cases u
     have f:=H.rows b k hb
     rw [<-a]
     have hsz: ∀i j,i<n->j<k.esz->s*k.esz+(i*k.esz+j)<arr.size:=by
      intro i j hi y
      have h2:(s+i+1)*k.esz<=k.rows.length*k.esz:=bg _ om
      rw [Nat.add_mul,Nat.add_mul,cK] at h2
      omega
     refine .imm k.esz (k.rows.drop s) c (s*k.esz) cap (fun i j=>arr.getD (s*k.esz+(i*k.esz+j)) undef) h0 (by intro e;rw [e] at a;simp at a;omega) om (H.lt hc) hst
      (fun row d=>⟨(f row (bZ d)).1 h0,fun v p=>⟨((f row (bZ d)).2 v p).2 m,((f row (bZ d)).2 v p).1⟩⟩)
      (fun i j hi y=> ?_) (fun i row j v hi y=> ?_)
     ·have:=hsz i j om y
      simp [World.cell?,hh,this,aH this]
     ·rw [fZ] at hi
      have z:=al hi
      have:=p (s+i) row j v hi y
      rw [Nat.add_mul,gt] at this
      exact this.closed h' (pI.sub l) (((f row z).2 v (al y)).2 m)
theorem Qc [Frame] (H:bG μ h w) {v v':V} {bs:List Nat} {x:Value} (a:uO h v=some (v',bs)) (d:b7 μ h w v x)
 {μ':Mu} (h':ba) (q: ∀b∈bs,μ' b=none) (j: ∀b c,μ' b=some c->μ b=some c):b7 μ' h' w v' x/\v'.cl=true/\v'.cell=true/\ ∀b∈bs, ∃k,h b=some k:=by
 have other: ∀v:V,(if v.cl&&v.cell then some (v,([]:List Nat)) else none)=some (v',bs)->b7 μ h w v x->b7 μ' h' w v' x/\v'.cl=true/\v'.cell=true/\ ∀b∈bs, ∃k,h b=some k:=by
  intro v p t
  split at p
  ·rename_i hc
   cases p
   simp only [aB] at hc
   exact ⟨t.closed h' (pI.sub j) hc.1,hc.1,hc.2,fun b l=>by cases l⟩
  ·cases p
 cases v with
 |sl b s n=>
  simp only [uO] at a
  cases l:h b with
  |none=>rw [l] at a;cases a
  |some k=>
   rw [l] at a
   dsimp only at a
   split at a
   ·rename_i hc
    cases a
    exact ⟨MB H l hc.1 hc.2.1 hc.2.2 d h' (q b sm) j,rfl,rfl,fun b' m=>by simp at m;subst m;exact ⟨k,l⟩⟩
   ·cases a
 |lit y=>exact other (.lit y) a d
 |agg cs=>exact other (.agg cs) a d
 |tup cs=>exact other (.tup cs) a d
 |ptr b i o n=>exact other (.ptr b i o n) a d
 |imm e r=>exact other (.imm e r) a d
 |iptr r o=>exact other (.iptr r o) a d
 |fn f cs=>exact other (.fn f cs) a d
 |undef=>exact other .undef a d
 |mp b=>exact other (.mp b) a d
theorem Hv [Frame] (H:bG μ h w) {μ':Mu} (h':ba) (d: ∀b c,μ' b=some c->μ b=some c): ∀{vs vs':List V} {bs:List Nat} (g:Nat->Value),pK h vs=some (vs',bs)->
 (∀j v,vs[j]? =some v->b7 μ h w v (g j))->(∀b∈bs,μ' b=none)->
 vs'.length=vs.length/\(∀j v,vs'[j]? =some v->b7 μ' h' w v (g j))/\(∀v∈vs',v.cl=true/\v.cell=true)/\ ∀b∈bs, ∃k,h b=some k
 |[],vs',bs,g,e,i,l=>by
  simp [pK] at e
  obtain ⟨rfl,rfl⟩:=e
  exact ⟨rfl,fun j v f=>by simp at f,fun v i=>by simp at i,fun b a=>by simp at a⟩
 |v::vs,vs',bs,g,e,i,l=>by
  simp only [pK] at e
  split at e
  ·rename_i v1 bs1 y bs2 n o
   cases e
   obtain ⟨p,a2,a3,q⟩:=Qc H n (i 0 v rfl) h' (fun b a=>l b (by simp [a])) d
   obtain ⟨r,s,t,x⟩:=Hv H h' d (fun j=>g (j+1)) o (fun j u f=>i (j+1) u (by simpa using f)) (fun b a=>l b (by simp [a]))
   refine ⟨by simp [r],fun j u f=> ?_,fun u m=> ?_,fun b a=> ?_⟩
   ·cases j with
    |zero=>simp at f;subst f;exact p.cz
    |succ j=>exact s j u (by simpa using f)
   ·rcases aW.1 m with rfl|m
    ·exact ⟨a6h a2,Mp a3⟩
    ·exact t u m
   ·rcases aJ.1 a with a|a
    ·exact q b a
    ·exact x b a
  ·cases e
theorem WC.trans {μ1 μ2:Mu} {m n:ba} {o w2:World} (a:WC μ h w μ1 m o) (b:WC μ1 m o μ2 n w2):WC μ h w μ2 n w2:=by
 intro p k t
 obtain ⟨u,f,d⟩:=a p k t
 obtain ⟨v,i,j⟩:=b p u f
 refine ⟨v,i, ?_⟩
 rcases j with j|⟨e2,p2,l2⟩|⟨e2,q,l2,x,y⟩
 ·exact .inl j
 ·rcases d with d|⟨e1,z,e⟩|⟨e1,r,e,l,s⟩
  ·omega
  ·exact .inr (.inl ⟨e2.trans e1,by omega,by omega⟩)
  ·exact .inr (.inl ⟨e2.trans e1,by omega,by omega⟩)
 ·rcases d with d|⟨e1,z,e⟩|⟨e1,r,e,l,s⟩
  ·exact .inl ⟨e2.trans d.1,(q d.1).trans d.2⟩
  ·exact .inr (.inl ⟨e2.trans e1,by omega,by omega⟩)
  ·exact .inr (.inr ⟨e2.trans e1,fun h0=>(q om).trans (r h0),l2.trans e,x.trans l,fun c hc=>(y c (by rw [l];exact hc)).trans (s c hc)⟩)
theorem Chg.trans [Frame] {μ1 μ2:Mu} {c d:ba} {e w2:World} (a:Chg μ h w μ1 c e) (b:Chg μ1 c e μ2 d w2):Chg μ h w μ2 d w2:=⟨a.ev.trans b.ev,a.refs.trans b.refs⟩
theorem b5o [Frame] {μ:Mu} {h:ba} {w:World}: ∀(bs:List Nat),(∀b∈bs, ∃k,h b=some k)->bG μ h w->
 ∃μ',bG μ' (hU h (ka bs)) w/\Chg μ h w μ' (hU h (ka bs)) w/\(∀b∈bs,μ' b=none)/\(∀b c,μ' b=some c->μ b=some c)/\ ∀b,b∉bs->μ' b=μ b/\hU h (ka bs) b=h b:=by
 intro bs
 induction bs generalizing μ h with
 |nil=>exact fun _ H=>⟨μ,H,Chg.refl _ _ _,(fun b o=>by simp at o),(fun b c h=>h),(fun b _=>⟨rfl,rfl⟩)⟩
 |cons b bs ih=>
  intro n H
  obtain ⟨k,p⟩:=n b sm
  obtain ⟨H1,C1⟩:=H.kill p
  obtain ⟨μ',H2,C2,q,d,j⟩:=ih (μ:=cM μ b none) (h:=ci h b kf) (fun b' a=>by
   by_cases e:b'=b
   ·exact ⟨kf,by simp [ci,e]⟩
   ·obtain ⟨k',l⟩:=n b' (by simp [a]);exact ⟨k',by simp [ci,e,l]⟩) H1
  have i: ∀b' c,cM μ b none b'=some c->μ b'=some c:=by
   intro b' c f
   unfold cM at f
   split at f
   ·cases f
   ·exact f
  refine ⟨μ',H2,C1.trans C2,fun b' a=> ?_,fun b' c f=>i b' c (d b' c f),fun b' a=> ?_⟩
  ·rcases aW.1 a with rfl|a
   ·cases m:μ' b' with
    |none=>rfl
    |some c=>have:=d b' c m;simp [cM] at this
   ·exact q b' a
  ·simp only [aW,not_or] at a
   obtain ⟨f,r⟩:=j b' a.2
   exact ⟨by rw [f];simp [cM,a.1],by show hU (ci h b kf) (ka bs) b'=h b';rw [r];simp [ci,a.1]⟩
theorem uK (h:ba) (u v:Upd):hU h (u++v)=hU (hU h u) v:=by
 induction u generalizing h with
 |nil=>rfl
 |cons x u ih=>exact ih _
end
end
section
section
variable {P:Program} {μ:Mu} {h:ba} {w:World} {f:Nat->V} {a:Act}
theorem dg {α:Type} {l:List α} {i:Nat} {x:α} (h:l[i]? =some x):i<l.length:=by
 rcases dc i l.length with a|b
 ·exact a
 ·rw [cf b] at h;cases h
theorem yw {α:Type} (l cs:List α) (o:Nat) (h:o+cs.length<=l.length) (j:Nat):
 (l.take o++(cs++l.drop (o+cs.length)))[j]? =if o<=j/\j<o+cs.length then cs[j-o]? else l[j]? :=by
 by_cases a:j<o
 ·rw [a7 om,bc (by simp;omega),kw,aa a]
 ·rw [bt (by simp;omega)]
  have b:(l.take o).length=o:=by simp;omega
  rw [b]
  by_cases c:j<o+cs.length
  ·rw [aa ⟨by omega,c⟩,bc om]
  ·rw [a7 om,bt om,fZ]
   congr 1
   omega
theorem Hg {α:Type} (l cs:List α) (o:Nat) (h:o+cs.length<=l.length):(l.take o++(cs++l.drop (o+cs.length))).length=l.length:=by
 simp;omega
theorem a5H [Frame] (H:bG μ h w) {b i o:Nat} {k:Blk} {row cs:List V} {xs:List Value} {c:Nat} (hb:h b=some k) (hi:k.rows[i]? =some row) (r:0<k.esz) (hm:μ b=some c)
 (hlen:xs.length=cs.length) (ho:o+cs.length<=row.length) (p: ∀j v,cs[j]? =some v->b7 μ h w v (xs.getD j undef)) (m: ∀v∈cs,v.cell=true/\(k.op=false->v.cl=true)):
 ∃w' μ',(storeCells ⟨c,i*k.esz+o,none⟩ xs).run P w= .ok () w'/\
  bG μ' (ci h b { k with rows:=k.rows.set i (row.take o++(cs++row.drop (o+cs.length))) }) w'/\
  Chg μ h w μ' (ci h b { k with rows:=k.rows.set i (row.take o++(cs++row.drop (o+cs.length))) }) w':=by
 have a:=al hi
 have f:=H.rows b k hb
 have z:=dg hi
 rcases H.blk b k hb with ⟨h1,_,_⟩|⟨h0,c',arr,t,lo,hi',hm',hh,hf,hl,hv⟩|⟨h0,_⟩
 ·rw [h1] at a;cases a
 rotate_left
 ·omega
 ·rw [hm] at hm';cases hm'
  have hrl:=(f row a).1 r
  have hle:(i+1)*k.esz<=k.rows.length*k.esz:=bg _ z
  rw [Nat.add_mul,cK] at hle
  have hone: ∀x∈xs,cD x=true:=by
   intro x hx
   obtain ⟨j,hj,rfl⟩:=bp hx
   have hjc:j<cs.length:=by omega
   have d:=p j cs[j] (aq hjc)
   have l:=d.oneCell (m _ (b9 hjc)).1
   simpa [List.getD_eq_getElem?_getD,aq hj] using l
  obtain ⟨arr',hrun,s,hval⟩:=oe (P:=P) (o:=i*k.esz+o) xs 0 arr w hh hf.at om hone
  have hlt:=rq hh
  have q:=H.put (w':=iT w c arr' t (lo,hi')) (c:=c) (k':={ k with rows:=k.rows.set i (row.take o++(cs++row.drop (o+cs.length))) }) hb h0 (.inl hm)
   rfl rfl rfl (by rw [yj];exact am _) (am _) (fun c' _ hne=>Dc hne) (uz hlt) (by rw [s];exact hf) rfl (by simpa [s] using hl)
   (fun row' u=>by
    rcases dC u with d|d
    ·exact ⟨(f row' d).1 r,(f row' d).2⟩
    ·subst d
     refine ⟨by rw [Hg _ _ _ ho];exact hrl,fun v hv=> ?_⟩
     rcases aJ.1 hv with l|l
     ·exact (f row a).2 v (cm l)
     ·rcases aJ.1 l with h4|h4
      ·exact m v h4
      ·exact (f row a).2 v (bZ h4))
   (.inr ⟨by simp,hm,by unfold bsize;rw [hh];exact s⟩)
   (fun y row2 j v d l=>by
    simp only at d ⊢
    have n:=hval (y*k.esz+j)
    simp only [cH] at n
    rw [n]
    rw [dW] at d
    by_cases e:i=y
    ·subst e
     rw [aa rfl,aa z] at d
     cases d
     rw [yw _ _ _ ho] at l
     by_cases hin:o<=j/\j<o+cs.length
     ·rw [aa hin] at l
      rw [aa om]
      have:=p (j-o) v l
      rwa [show i*k.esz+j-(i*k.esz+o)=j-o by omega]
     ·rw [a7 hin] at l
      rw [a7 om]
      exact hv i row j v hi l
    ·rw [a7 e] at d
     have hjl:j<k.esz:=by have:=dg l;have:=(f row2 (al d)).1 r;omega
     have hni: ¬(i*k.esz+o<=y*k.esz+j/\y*k.esz+j<i*k.esz+o+xs.length):=by
      intro hc
      have hr1:i*k.esz<(y+1)*k.esz:=by rw [Nat.add_mul,cK];omega
      have hr2:y*k.esz<(i+1)*k.esz:=by rw [Nat.add_mul,cK];omega
      have:=ey hr1
      have:=ey hr2
      omega
     rw [a7 hni]
     exact hv y row2 j v d l)
  exact ⟨_,_,hrun,q.1,q.2⟩
theorem UZ {x:Value} (j:Nat):x.cells.toList.getD j undef=x.cells.getD j undef:=by
 simp [List.getD_eq_getElem?_getD,Array.getD_eq_getD_getElem?]
theorem Vp [Frame] (H:bG μ h w) (E:ic μ h w f a) {C:cr} {ow:FuncId->List Nat} {o:Oper} {t:TypeId} {x y:Operand} {x' y':Opd} {s:Nat} (hop:o.op= .store t x y) (hx:bF x=some x') (hy:bF y=some y')
 (hsz:lj P t=some s) {new:Nat} {v:V} {u:Upd} (d:aK C ow (.store s x' y') (Opd.ev f) h new=some (v,u)):jv P o a μ h w v u:=by
 have hvx:=bX E hx
 have hvy:=bX E hy
 simp only [aK] at d
 cases hax:x'.ev f with
 |ptr b i o' n=>
  rw [hax] at d hvx
  dsimp only at d
  cases hb:h b with
  |none=>rw [hb] at d;cases d
  |some k=>
   rw [hb] at d
   dsimp only at d
   split at d
   ·rename_i hn
    cases hi:k.rows[i]? with
    |none=>rw [hi] at d;cases d
    |some row=>
     rw [hi] at d
     dsimp only at d
     obtain ⟨c,hm,R,hrl,h0⟩:=Kd H hb hi (Qx H hvx hb hi)
     obtain ⟨c',hm',hxe⟩:=a3d hvx hb hn (by rw [<-hn];exact dg hi) h0
     rw [hm] at hm';cases hm'
     have m:=gx hsz
     split at d
     ·rename_i hopn
      split at d
      ·rename_i hc
       cases d
       obtain ⟨p,hc2,r⟩:=hc
       obtain ⟨g1,g2⟩:=hvy.cellsRel r
       obtain ⟨w',μ',q,hH,hC⟩:=a5H (P:=P) H hb hi h0 hm (cs:=(y'.ev f).cells) (xs:=(a.eval y).cells.toList) (o:=o') (by rw [Array.length_toList];exact g1) om
        (fun j v hj=>by rw [UZ];exact g2 j v hj) (fun v l=>⟨an.1 r v l,fun e=>by rw [hopn] at e;cases e⟩)
       rw [p] at hH hC
       refine ⟨undef,w',μ',.inr ⟨?_,rfl⟩,hH,hC,.unk _⟩
       simp [execOp,hop,Instr.storeAt,Instr.sureAddr,hxe,storeVar,m,g1,p,q]
      ·cases d
     ·rename_i hopn
      split at d
      ·rename_i cs bs z
       split at d
       ·rename_i hc
        cases d
        obtain ⟨p,hc2,r⟩:=hc
        have hsn0:=z
        have hall:(y'.ev f).cells.all V.cell=true:=by
         rw [an]
         intro v l
         exact snaps_cell z v l
        obtain ⟨g1,g2⟩:=hvy.cellsRel hall
        have hdom:=(Hv H h (μ':=fun _=>none) (fun b c e=>by cases e) (fun j=>(a.eval y).cells.getD j undef) z g2 (fun b _=>rfl)).2.2.2
        obtain ⟨μ1,H1,C1,hk1,hsub,hoth⟩:=b5o bs hdom H
        obtain ⟨q1,q2,q3,_⟩:=Hv H (hU h (ka bs)) hsub (fun j=>(a.eval y).cells.getD j undef) z g2 hk1
        obtain ⟨hmb,hhb⟩:=hoth b r
        obtain ⟨w',μ',q,hH,hC⟩:=a5H (P:=P) H1 (by rw [hhb];exact hb) hi h0 (by rw [hmb];exact hm) (cs:=cs) (xs:=(a.eval y).cells.toList) (o:=o') (by rw [Array.length_toList,g1,q1]) om
         (fun j v hj=>by rw [UZ];exact q2 j v hj) (fun v l=>⟨(q3 v l).2,fun _=>(q3 v l).1⟩)
        rw [p] at hH hC
        refine ⟨undef,w',μ',.inr ⟨?_,rfl⟩, ?_, ?_,.unk _⟩
        ·simp [execOp,hop,Instr.storeAt,Instr.sureAddr,hxe,storeVar,m,g1, <-q1,p,q]
        ·rw [uK];exact hH
        ·rw [uK];exact C1.trans hC
       ·cases d
      ·cases d
   ·cases d
 |_=>rw [hax] at d;cases d
where
 snaps_cell: ∀{vs vs':List V} {bs:List Nat},pK h vs=some (vs',bs)-> ∀v∈vs,v.cell=true
  |[],_,_,_,v,l=>by cases l
  |x::vs,vs',bs,d,v,l=>by
   simp only [pK] at d
   split at d
   ·rename_i v1 bs1 r1 bs2 h1 h2
    rcases aW.1 l with rfl|l
    ·cases v<;>first
      |rfl
      | (simp [uO] at h1;done)
      | (simp only [uO] at h1;split at h1<;>simp_all [V.cell,V.cl])
    ·exact snaps_cell h2 v l
   ·cases d
end
end
section
section
variable {P:Program} {μ:Mu} {h:ba} {w:World} {f:Nat->V} {a:Act}
theorem Zc {α β:Type} (g:α->Sem β) (gv:α->β) (w:World): ∀(l:List α),(∀x∈l,(g x).run P w= .ok (gv x) w)->(l.mapM g).run P w= .ok (l.map gv) w
 |[],_=>by simp
 |x::l,a=>by
  rw [List.mapM_cons]
  have b:=a x sm
  have c:=Zc g gv w l (fun y d=>a y (by simp [d]))
  simp [b,c]
def Mz [Frame] (μ:Mu) (h:ba) (w:World) (cs:List V) (arr:Array Value):Prop:=
 arr.size=cs.length/\(∀v∈cs,v.cell=true)/\ ∀j v,cs[j]? =some v->b7 μ h w v (arr.getD j undef)
theorem b3W (xs:List Value) (off n:Nat): ∀(arr:Array Value),off+n+xs.length<=arr.size->
 ((xs.zipIdx n).foldl (fun cs (p:Value×Nat)=>cs.setIfInBounds (off+p.2) p.1) arr).size=arr.size/\
 ∀j,((xs.zipIdx n).foldl (fun cs (p:Value×Nat)=>cs.setIfInBounds (off+p.2) p.1) arr).getD j undef=
  if off+n<=j/\j<off+n+xs.length then xs.getD (j-(off+n)) undef else arr.getD j undef:=by
 induction xs generalizing n with
 |nil=>intro arr _;exact ⟨rfl,fun j=>by rw [a7 (by simp only [ah];omega)];rfl⟩
 |cons x xs ih=>
  intro arr a
  simp only [ab] at a
  simp only [List.zipIdx_cons,bQ]
  obtain ⟨d,f⟩:=ih (n+1) (arr.setIfInBounds (off+n) x) (by rw [eU];omega)
  refine ⟨by rw [d,eU],fun j=> ?_⟩
  rw [f j]
  simp only [ab]
  by_cases e:j=off+n
  ·subst e
   rw [a7 om,aa om]
   have hi:off+n<arr.size:=by omega
   simp [hi]
  ·have b:(arr.setIfInBounds (off+n) x).getD j undef=arr.getD j undef:=by
    rw [Array.getD_eq_getD_getElem?,Array.getD_eq_getD_getElem?,Array.getElem?_setIfInBounds_ne (Ne.symm e)]
   rw [b]
   by_cases c:off+(n+1)<=j/\j<off+(n+1)+xs.length
   ·rw [aa c,aa om]
    have:j-(off+n)=(j-(off+(n+1)))+1:=by omega
    rw [this];simp
   ·rw [a7 c,a7 om]
theorem Lh [Frame] (x:Array Value) (off:Nat) (arr:Array Value) (a:off+x.size<=arr.size):
 (x.zipIdx.foldl (fun cs (p:Value×Nat)=>cs.setIfInBounds (off+p.2) p.1) arr).size=arr.size/\
 ∀j,(x.zipIdx.foldl (fun cs (p:Value×Nat)=>cs.setIfInBounds (off+p.2) p.1) arr).getD j undef=
  if off<=j/\j<off+x.size then x.getD (j-off) undef else arr.getD j undef:=by
 have:=b3W x.toList off 0 arr (by simpa using a)
 rw [<-Array.foldl_toList,Array.toList_zipIdx]
 refine ⟨this.1,fun j=> ?_⟩
 rw [this.2 j]
 simp only [cH,Array.length_toList]
 by_cases hc:off<=j/\j<off+x.size
 ·rw [aa hc,aa hc];simp [List.getD_eq_getElem?_getD,Array.getD_eq_getD_getElem?]
 ·rw [a7 hc,a7 hc]
theorem Rj [Frame] (place:Nat->Option (Nat×Nat)): ∀(ps:List (Nat×Value)) (qs:List (Nat×Nat×V)) (cs cs':List V) (arr:Array Value),
 Mz μ h w cs arr->Jg cs qs=some cs'->ps.length=qs.length->
 (∀(j:Nat) (p:Nat×Value) (q:Nat×Nat×V),ps[j]? =some p->qs[j]? =some q->place p.1=some (q.1,q.2.1)/\b7 μ h w q.2.2 p.2)->
 ∃arr',Instr.fill place arr ps=some arr'/\Mz μ h w cs' arr'
 |[],[],cs,cs',arr,hc,c,_,_=>by simp [Jg] at c;subst c;exact ⟨arr,rfl,hc⟩
 |[],_::_,_,_,_,_,_,f,_=>by simp at f
 |_::_,[],_,_,_,_,_,f,_=>by simp at f
 |p::ps,q::qs,cs,cs',arr,hc,c,f,r=>by
  obtain ⟨i,x⟩:=p
  obtain ⟨off,size,v⟩:=q
  obtain ⟨k,t⟩:=r 0 (i,x) (off,size,v) rfl rfl
  simp only [Jg] at c
  split at c
  ·rename_i d
   obtain ⟨c1,c2,c3⟩:=d
   obtain ⟨y,s⟩:=t.cellsRel c3
   obtain ⟨z,a2,a3⟩:=hc
   dsimp only at k y s
   obtain ⟨s1,s2⟩:=Lh x.cells off arr om
   have l:Mz μ h w (cs.take off++(v.cells++cs.drop (off+size))) (x.cells.zipIdx.foldl (fun cs (p:Value×Nat)=>cs.setIfInBounds (off+p.2) p.1) arr):=by
    refine ⟨?_,fun u a=> ?_,fun j u m=> ?_⟩
    ·rw [s1,z, <-c1,Hg _ _ _ om]
    ·rcases aJ.1 a with a|a
     ·exact a2 u (cm a)
     ·rcases aJ.1 a with a|a
      ·exact an.1 c3 u a
      ·exact a2 u (bZ a)
    ·rw [<-c1,yw _ _ _ om] at m
     rw [s2 j]
     by_cases n:off<=j/\j<off+v.cells.length
     ·rw [aa n] at m
      rw [aa om]
      exact s _ u m
     ·rw [a7 n] at m
      rw [a7 om]
      exact a3 j u m
   obtain ⟨arr',e,o⟩:=Rj place ps qs _ cs' _ l c (by simpa using f) (fun j p q hp hq=>r (j+1) p q (by simpa using hp) (by simpa using hq))
   refine ⟨arr', ?_,o⟩
   simp only [Instr.fill,k]
   rw [a7 (by
    intro b
    simp only [dZ,aA,ne_eq,gt_iff_lt] at b
    rcases b with h1|h1
    ·omega
    ·omega)]
   exact e
  ·cases c
theorem a0j [Frame] {z:List Value} {zv:Value} (d:zv.cells.toList=z) (a:z.all cD=true):Mz μ h w (z.map .lit) zv.cells:=by
 refine ⟨by rw [aw, <-d];simp,fun v e=> ?_,fun j v b=> ?_⟩
 ·obtain ⟨y,c,rfl⟩:=bf.1 e;exact an.1 a y c
 ·rw [b6] at b
  cases c:z[j]? with
  |none=>rw [c] at b;cases b
  |some y=>
   rw [c] at b;cases b
   have:zv.cells[j]? =some y:=by rw [<-Array.getElem?_toList,d];exact c
   simp only [Array.getD_eq_getD_getElem?,this,dL]
   exact .lit y
theorem O1 [Frame] (E:ic μ h w f a) {fs:List Field}: ∀{ps:List (Nat×Operand)} {qs:List (Nat×Nat×Opd)},Hm P fs ps=some qs->
 qs.length=ps.length/\ ∀(j:Nat) (p:Nat×Operand) (q:Nat×Nat×Opd),ps[j]? =some p->qs[j]? =some q->(∃fd:Field,fs[p.1]? =some fd/\fd.offset=q.1/\lj P fd.type=some q.2.1)/\b7 μ h w (q.2.2.ev f) (a.eval p.2)
 |[],qs,hq=>by simp [Hm] at hq;subst hq;exact ⟨rfl,fun j p q hp=>by simp at hp⟩
 | (i,x)::ps,qs,hq=>by
   simp only [Hm] at hq
   split at hq
   ·rename_i fd y r' h1 h2 h3
    split at hq
    ·rename_i s hs
     cases hq
     obtain ⟨l,r⟩:=O1 E h3
     refine ⟨by simp [l],fun j p q hp hqj=> ?_⟩
     cases j with
     |zero=>simp at hp hqj;subst hp;subst hqj;exact ⟨⟨fd,h1,rfl,hs⟩,bX E h2⟩
     |succ j=>exact r j p q (by simpa using hp) (by simpa using hqj)
    ·cases hq
   ·cases hq
theorem Sk [Frame] (E:ic μ h w f a) {s:Nat}: ∀{ps:List (Nat×Operand)} {qs:List (Nat×Nat×Opd)},N4 s ps=some qs->
 qs.length=ps.length/\ ∀(j:Nat) (p:Nat×Operand) (q:Nat×Nat×Opd),ps[j]? =some p->qs[j]? =some q->(p.1*s=q.1/\s=q.2.1)/\b7 μ h w (q.2.2.ev f) (a.eval p.2)
 |[],qs,hq=>by simp [N4] at hq;subst hq;exact ⟨rfl,fun j p q hp=>by simp at hp⟩
 | (i,x)::ps,qs,hq=>by
   simp only [N4] at hq
   split at hq
   ·rename_i y r' h2 h3
    cases hq
    obtain ⟨l,r⟩:=Sk E h3
    refine ⟨by simp [l],fun j p q hp hqj=> ?_⟩
    cases j with
    |zero=>simp at hp hqj;subst hp;subst hqj;exact ⟨⟨rfl,rfl⟩,bX E h2⟩
    |succ j=>exact r j p q (by simpa using hp) (by simpa using hqj)
   ·cases hq
theorem Gk (ev:Opd->V): ∀(qs:List (Nat×Nat×Opd)),(jH ev qs).length=qs.length/\ ∀(j:Nat) (q:Nat×Nat×V),(jH ev qs)[j]? =some q-> ∃q0:Nat×Nat×Opd,qs[j]? =some q0/\q=(q0.1,q0.2.1,ev q0.2.2)
 |[]=>⟨rfl,fun j q h=>by simp [jH] at h⟩
 | (x,y,z)::qs=>by
   obtain ⟨l,r⟩:=Gk ev qs
   refine ⟨by simp [jH,l],fun j q hq=> ?_⟩
   cases j with
   |zero=>simp [jH] at hq;subst hq;exact ⟨_,rfl,rfl⟩
   |succ j=>simp only [jH,i6] at hq ⊢;exact r j q hq
theorem a71 [Frame] (H:bG μ h w) (E:ic μ h w f a) {o:Oper} {t:TypeId} {ps:Array (Nat×Operand)} {ao:AOp} (hop:o.op= .build t ps) (hc:eW P (.build t ps)=some ao)
 {C:cr} {ow:FuncId->List Nat} {new:Nat} {v:V} {u:Upd} (c:aK C ow ao (Opd.ev f) h new=some (v,u)):jv P o a μ h w v u:=by
 simp only [eW] at hc
 split at hc
 ·rename_i fs z hu hz
  split at hc
  ·rename_i hall
   cases r:Hm P fs.toList ps.toList with
   |none=>rw [r] at hc;cases hc
   |some qs=>
    rw [r] at hc;cases hc
    simp only [aK] at c
    split at c
    ·rename_i d
     split at c
     ·rename_i cs k
      cases c
      obtain ⟨i,zv,hi,hzv,y,hzr⟩:=uH hz
      obtain ⟨l1,r1⟩:=O1 (P:=P) E r
      obtain ⟨l2,r2⟩:=Gk (Opd.ev f) qs
      let places:=fs.toList.map fun fd=>(fd.offset,(lj P fd.type).getD 0)
      obtain ⟨arr',hf',b⟩:=Rj (fun i=>places[i]?) (ps.toList.map fun p=>(p.1,a.eval p.2)) (jH (Opd.ev f) qs) (z.map .lit) cs zv.cells (a0j y d) k (by simp [l1,l2])
       (fun j p q m hq'=>by
        rw [b6] at m
        cases l:ps.toList[j]? with
        |none=>rw [l] at m;cases m
        |some p0=>
         rw [l] at m;cases m
         obtain ⟨q0,hq0,rfl⟩:=r2 j q hq'
         obtain ⟨⟨fd,h1,h2,h3⟩,h4⟩:=r1 j p0 q0 l hq0
         refine ⟨?_,h4⟩
         show (fs.toList.map _)[p0.1]? =_
         rw [b6,h1]
         simp [h2,h3])
      have hmap:(Array.mapM (fun f:Field=>Prod.mk f.offset<$>sizeOf f.type) fs).run P w= .ok places.toArray w:=by
       rw [Array.mapM_eq_mapM_toList]
       have:=Zc (P:=P) (fun f:Field=>Prod.mk f.offset<$>sizeOf f.type) (fun fd=>(fd.offset,(lj P fd.type).getD 0)) w fs.toList (fun fd hfd=>by
        have h1:=an.1 hall fd hfd
        obtain ⟨s,c⟩:=Option.isSome_iff_exists.1 h1
        simp [gx c,c])
       rw [Sem.run_map,this]
       rfl
      refine .quiet H (x:= .agg arr') ?_ (.agg _ _ b.1 b.2.1 b.2.2)
      have e1:(fun x:Nat=>places.toArray[x]?)=fun i=>places[i]? :=by funext i;simp
      simp only [execOp,hop,Instr.build]
      simp [hzr,run_underlying hu]
      rw [hmap]
      simp only [Result.andThen_ok]
      rw [e1,hf']
      rfl
     ·cases c
    ·cases c
  ·cases hc
 ·rename_i n e z hu hz
  split at hc
  ·rename_i s hsz
   cases r:N4 s ps.toList with
   |none=>rw [r] at hc;cases hc
   |some qs=>
    rw [r] at hc;cases hc
    simp only [aK] at c
    split at c
    ·rename_i d
     split at c
     ·rename_i cs k
      cases c
      obtain ⟨i,zv,hi,hzv,y,hzr⟩:=uH hz
      obtain ⟨l1,r1⟩:=Sk E r
      obtain ⟨l2,r2⟩:=Gk (Opd.ev f) qs
      obtain ⟨arr',hf',b⟩:=Rj (fun i=>some (i*s,s)) (ps.toList.map fun p=>(p.1,a.eval p.2)) (jH (Opd.ev f) qs) (z.map .lit) cs zv.cells (a0j y d) k (by simp [l1,l2])
       (fun j p q m hq'=>by
        rw [b6] at m
        cases l:ps.toList[j]? with
        |none=>rw [l] at m;cases m
        |some p0=>
         rw [l] at m;cases m
         obtain ⟨q0,hq0,rfl⟩:=r2 j q hq'
         obtain ⟨⟨h1,h2⟩,h4⟩:=r1 j p0 q0 l hq0
         exact ⟨by simp [h1, <-h2],h4⟩)
      refine .quiet H (x:= .agg arr') ?_ (.agg _ _ b.1 b.2.1 b.2.2)
      simp only [execOp,hop,Instr.build]
      simp [hzr,run_underlying hu,gx hsz]
      rw [hf']
      rfl
     ·cases c
    ·cases c
  ·cases hc
 ·cases hc
end
end
end Go.AI
