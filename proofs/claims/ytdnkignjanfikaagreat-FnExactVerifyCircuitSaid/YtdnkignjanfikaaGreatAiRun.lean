/- Part. -/
import Derived.Test.YtdnkignjanfikaaGreatAiRel
import Derived.Test.YtdnkignjanfikaaGreatAiComp
import Derived.Laws.AppendOwn
import Derived.Laws.MakeOwn
import Derived.ChangeKeysEq
set_option linter.unusedVariables false
set_option linter.unusedSimpArgs false
namespace Go.AI
section
theorem a1U (v:Value):ci v=v.oneCell':=by cases v<;>rfl
theorem fD {P:Program} {t:TypeId} {s:Nat} (h:jB P t=some s) (w:World):(sizeOf t).run P w= .ok s w:=by
 unfold jB at h
 cases hi:P.info? t with
 |none=>rw [hi] at h;cases h
 |some i=>rw [hi] at h;cases h;simp [sizeOf,typeInfo,hi]
theorem rD {P:Program} {t:TypeId} {z:List Value} (h:C6 P t=some z): ∃i v,P.info? t=some i/\i.zero=some v/\v.cells.toList=z/\ ∀w,(zeroValue t).run P w= .ok v w:=by
 unfold C6 at h
 cases hi:P.info? t with
 |none=>rw [hi] at h;cases h
 |some i=>
  rw [hi] at h
  dsimp only at h
  cases a:i.zero with
  |none=>rw [a] at h;cases h
  |some v=>
   rw [a] at h;cases h
   exact ⟨i,v,rfl,a,rfl,fun w=>by simp [zeroValue,typeInfo,hi,a]⟩
theorem qF {P:Program} {t e:TypeId} (h:VZ P t=some e):P.underlying t=some (.slice e):=by
 unfold VZ at h
 split at h
 ·cases h;assumption
 ·cases h
theorem a1p {P:Program} {t:TypeId} {g:Option Nat} (h:Oo P t=some g) (w:World):
 (isAgg t).run P w= .ok g.isSome w/\ ∀n,g=some n->jB P t=some n:=by
 unfold Oo at h
 split at h
 ·rename_i a hi;cases h;exact ⟨by simp [isAgg,run_underlying a],fun n b=>by cases b;simp [jB,hi]⟩
 ·rename_i a hi;cases h;exact ⟨by simp [isAgg,run_underlying a],fun n b=>by cases b;simp [jB,hi]⟩
 ·rename_i d i c e a hi
  cases h
  refine ⟨?_,fun n b=>by cases b⟩
  cases d<;>first
   | (simp [isAgg,run_underlying a];done)
   | (exfalso;exact c _ rfl)
   | (exfalso;exact e _ _ rfl)
 ·cases h
theorem rX {P:Program} {w:World} {c off n:Nat} {f:Nat->Value} (h: ∀j,j<n->w.cell? ⟨c,off+j,none⟩=some (f j)):
 (loadCells ⟨c,off,none⟩ n).run P w= .ok ((Array.range n).map f) w:=by
 a:=run_loadCells (P:=P) w ⟨c,off,none⟩ n f (fun j b=>by
  unfold Addr.add
  by_cases h0:j=0
  ·subst h0;simpa using h 0 b
  ·rw [aa h0];exact h j b)
 rw [this]
 congr 1
 apply eV
 simp
def gZ (w:World) (g:Nat) (arr:Array Value) (t:TypeId) (fz:Nat×Nat):World:={ w with heap:=w.heap.setIfInBounds g (.cells arr t fz) }
theorem rd {w:World} {g:Nat} {arr:Array Value} {t:TypeId} {fz:Nat×Nat} (h:g<w.heap.size):(gZ w g arr t fz).heap[g]? =some (.cells arr t fz):=by
 simp [gZ,h]
theorem BY {w:World} {g c:Nat} {arr:Array Value} {t:TypeId} {fz:Nat×Nat} (h:c≠g):(gZ w g arr t fz).heap[c]? =w.heap[c]? :=by
 simp [gZ,cu,Ne.symm h]
theorem vK {w:World} {g:Nat} {arr:Array Value} {t:TypeId} {fz:Nat×Nat}:(gZ w g arr t fz).heap.size=w.heap.size:=by simp [gZ]
theorem V5 {w:World} {g:Nat} {arr arr':Array Value} {t t':TypeId} {fz fz':Nat×Nat}:gZ (gZ w g arr t fz) g arr' t' fz'=gZ w g arr' t' fz':=by
 unfold gZ
 congr 1
 apply fb
 intro k
 simp only [cu,dW]
 by_cases e:g=k
 ·simp [e]
 ·simp [e]
theorem o0 {w:World} {g:Nat} {o:Obj} (h:w.heap[g]? =some o):g<w.heap.size:=by
 rcases cA g w.heap.size with a|a
 ·exact a
 ·rw [eQ a] at h;cases h
theorem Sh {w:World} {g i:Nat} {arr:Array Value} {t:TypeId} {fz:Nat×Nat} (h:w.heap[g]? =some (.cells arr t fz)) (v:Value):
 w.setCell ⟨g,i,none⟩ v=gZ w g (arr.setIfInBounds i v) t fz:=by
 unfold World.setCell gZ
 congr 1
 apply fb
 intro k
 rw [dT,cu]
 by_cases e:g=k
 ·subst e
  a:=o0 h
  rw [ae rfl,h]
  simp [this]
 ·simp [e]
theorem mc {P:Program} {g o:Nat} {t:TypeId} {lo hi:Nat}: ∀(vs:List Value) (i:Nat) (cur:Array Value) (w:World),w.heap[g]? =some (.cells cur t (lo,hi))->
 (∀k,lo<=k->k<hi->cur.size<=k)->o+i+vs.length<=cur.size->(∀v∈vs,ci v=true)->
 ∃arr,(storeCells ⟨g,o,none⟩ vs i).run P w= .ok () (gZ w g arr t (lo,hi))/\arr.size=cur.size/\
  ∀k,arr.getD k undef=if o+i<=k/\k<o+i+vs.length then vs.getD (k-(o+i)) undef else cur.getD k undef
 |[],i,cur,w,d,n,x,p=>by
  refine ⟨cur, ?_,rfl,fun k=>by rw [aa (by simp only [ai];omega)]⟩
  simp only [storeCells,Sem.run_pure]
  congr 1
  unfold gZ
  c:=o0 d
  c e:w.heap.setIfInBounds g (.cells cur t (lo,hi))=w.heap:=by
    apply fb
    intro k
    rw [cu]
    by_cases e:g=k
    ·subst e;rw [ae rfl,ae this,d]
    ·simp [e]
  rw [e]
 |v::vs,i,cur,w,d,n,x,p=>by
  c q:=o0 d
  c j:(⟨g,o,none⟩:Addr).add i=⟨g,o+i,none⟩:=by
    unfold Addr.add
    by_cases h0:i=0
    ·subst h0;rfl
    ·rw [aa h0]
  simp only [ah] at x
  c f:w.cell? ⟨g,o+i,none⟩=some (cur.getD (o+i) undef):=by
    c hi:o+i<cur.size:=by omega
    simp [World.cell?,d,hi,aL hi]
  c r:w.frozen? ⟨g,o+i,none⟩=false:=by
    simp only [World.frozen?,d]
    by_cases l:lo<=o+i/\o+i<hi
    ·c:=n _ l.1 l.2;omega
    ·simp;omega
  c m:v.oneCell'=true:=by rw [<-a1U];exact p v (by simp)
  c h:(store ((⟨g,o,none⟩:Addr).add i) v).run P w= .ok () (gZ w g (cur.setIfInBounds (o+i) v) t (lo,hi)):=by
    rw [j,run_store P w _ v .plain m,f]
    simp only [r,bx,if_false]
    rw [Sh d]
  obtain ⟨arr,y,z,hv⟩:=mc (P:=P) (o:=o) vs (i+1) (cur.setIfInBounds (o+i) v) (gZ w g (cur.setIfInBounds (o+i) v) t (lo,hi)) (rd q)
   (fun k a b=>by rw [dW];exact n k a b) (by rw [dW];omega) (fun u hu=>p u (List.mem_cons_of_mem _ hu))
  refine ⟨arr, ?_,by rw [z,dW],fun k=> ?_⟩
  ·simp only [storeCells,Sem.run_bind,h,Result.andThen_ok,y,V5]
  ·rw [hv k]
   simp only [ah]
   by_cases e:k=o+i
   ·subst e
    rw [aa (by omega),ae (by omega)]
    c hi:o+i<cur.size:=by omega
    simp [hi]
   ·c s:(cur.setIfInBounds (o+i) v).getD k undef=cur.getD k undef:=by
      rw [Array.getD_eq_getD_getElem?,Array.getD_eq_getD_getElem?,Array.getElem?_setIfInBounds_ne (Ne.symm e)]
    rw [s]
    by_cases l:o+(i+1)<=k/\k<o+(i+1)+vs.length
    ·rw [ae l,ae (by omega)]
     c:k-(o+i)=(k-(o+(i+1)))+1:=by omega
     rw [this]
     simp
    ·rw [aa l,aa (by omega)]
end
section
section
variable {P:Program} {μ:Mu} {h:b8} {w:World} {f:Nat->V} {a:Act}
def gi [Frame] (μ:Mu) (h:b8) (w:World) (f:Nat->V) (a:Act):Prop:= ∀t,aY μ h w (f t) (a.tmps.getD t undef)
theorem bM [Frame] (E:gi μ h w f a) {x:Operand} {y:Opd} (b:bA x=some y):aY μ h w (y.ev f) (a.eval x):=by
 cases x with
 |tmp t=>simp [bA] at b;subst b;exact E t
 |const v=>simp [bA] at b;subst b;exact .lit v
 |global g=>simp [bA] at b
 |func k=>simp [bA] at b;subst b;exact .fn k [] #[] rfl (fun i v h=>by simp at h)
def ix [Frame] (P:Program) (o:Oper) (a:Act) (μ:Mu) (h:b8) (w:World) (v:V) (u:Upd):Prop:=
 ∃x w' μ',((execOp a.eval o).run P w= .ok (.value x) w'\/((execOp a.eval o).run P w= .ok .skip w'/\x=undef))/\
  bB μ' (fW h u) w'/\Chg μ h w μ' (fW h u) w'/\aY μ' (fW h u) w' v x
theorem ix.quiet [Frame] {o:Oper} {v:V} {x:Value} (H:bB μ h w) (b:(execOp a.eval o).run P w= .ok (.value x) w) (c:aY μ h w v x):ix P o a μ h w v []:=
 ⟨x,w,μ,.inl b,H,Chg.refl _ _ _,c⟩
def mK (w:World) (o:Obj):World:={ w with heap:=w.heap.push o }
theorem lS (w:World) (o:Obj):yP w (mK w o):=
 ⟨rfl,rfl,rfl,by show _<=(w.heap.push o).size;rw [Array.size_push];omega,fun c a=>by show (w.heap.push o)[c]? =_;rw [iD,aa (Nat.ne_of_lt a)],aw _⟩
theorem pJ (w:World) (o:Obj):(mK w o).heap[w.heap.size]? =some o:=by show (w.heap.push o)[w.heap.size]? =_;rw [iD,ae rfl]
theorem a7v [Frame] (H:bB μ h w) {new:Nat} (n:h new=none) {cs:List V} {arr:Array Value} {t:TypeId} (h0:0<cs.length) (e:arr.size=cs.length)
 (o: ∀v∈cs,v.cell=true) (f: ∀j v,cs[j]? =some v->aY μ h w v (arr.getD j undef)):
 bB (cE μ new (some w.heap.size)) (bT h new ⟨cs.length,true,[cs]⟩) (mK w (.cells arr t))/\
 Chg μ h w (cE μ new (some w.heap.size)) (bT h new ⟨cs.length,true,[cs]⟩) (mK w (.cells arr t))/\
 aY (cE μ new (some w.heap.size)) (bT h new ⟨cs.length,true,[cs]⟩) (mK w (.cells arr t)) (.ptr new 0 0 1) (.pointer (some ⟨w.heap.size,0,none⟩)):=by
 m a:=H.new (lS w (.cells arr t)) (b:=new) (c:=w.heap.size) (k:=⟨cs.length,true,[cs]⟩) n (aw _)
   (arr:=arr) (t:=t) (lo:=0) (hi:=0) (pJ w _) (.inl rfl) h0 (by simp [e])
   (fun row d=>by simp at d;subst d;exact ⟨rfl,fun v f=>⟨o v f,fun h=>by cases h⟩⟩)
   (fun i row j v l p=>by
    cases i with
    |zero=>simp at l;subst l;simpa using f j v p
    |succ i=>simp at l)
 refine ⟨a.1,a.2,.ptr new 0 0 1 _ ⟨cs.length,true,[cs]⟩ (by simp [bT]) (.inr (by simp)) ⟨_,_,rfl⟩ (fun _ _ _=>⟨w.heap.size,by simp [cE],by simp⟩) (fun h=>absurd h (Nat.ne_of_gt h0))⟩
theorem rb {n:Nat} {k:Blk} {v:V} {r:V×Upd} (a:mJ h n k v=some r):h n=none/\0<k.esz/\r=(v,[(n,k)]):=by
 unfold mJ at a
 split at a
 ·rename_i b;cases a;exact ⟨by simpa using b.1,b.2,rfl⟩
 ·cases a
theorem b0Z [Frame] (H:bB μ h w) {o:Oper} {t:TypeId} {z:List Value} (n:o.op= .alloc t) (p:C6 P t=some z) {new:Nat} {v:V} {u:Upd}
 (l:(if z.all ci then mJ h new ⟨z.length,true,[z.map .lit]⟩ (.ptr new 0 0 1) else none)=some (v,u)):ix P o a μ h w v u:=by
 split at l
 ·rename_i c
  obtain ⟨q,h0,r⟩:=rb l
  cases r
  obtain ⟨i,zv,hi,s,d,m⟩:=rD p
  dsimp only at h0
  b e:zv.cells.size=(z.map V.lit).length:=by rw [aO, <-d];simp
  b:=a7v H (new:=new) q (cs:=z.map .lit) (arr:=zv.cells) (t:=t) (by simpa using h0) e
   (fun v x=>by obtain ⟨y,f,rfl⟩:=bq.1 x;exact aB.1 c y f)
   (fun j v k=>by
    rw [aW] at k
    cases f:z[j]? with
    |none=>rw [f] at k;cases k
    |some y=>
     rw [f] at k;cases k
     b:zv.cells[j]? =some y:=by rw [<-Array.getElem?_toList,d];exact f
     simp only [Array.getD_eq_getD_getElem?,this,dq]
     exact .lit y)
  simp only [aO] at this
  refine ⟨_,_,_,.inl ?_,this.1,this.2.1,this.2.2⟩
  simp [execOp,n,Instr.alloc,m,newVar,newRow,mK]
 ·cases l
theorem b9m [Frame] (H:bB μ h w) (E:gi μ h w f a) {o:Oper} {t:TypeId} {x:Operand} {y:Opd} {s:Nat} (i:o.op= .box t x) (j:bA x=some y) {new:Nat} {v:V} {u:Upd}
 (d:(if (y.ev f).cells.length=s/\(y.ev f).cells.all V.cell then mJ h new ⟨s,true,[(y.ev f).cells]⟩ (.ptr new 0 0 1) else none)=some (v,u)):ix P o a μ h w v u:=by
 split at d
 ·rename_i k
  obtain ⟨l,b⟩:=k
  subst l
  obtain ⟨m,h0,n⟩:=rb d
  cases n
  dsimp only at h0
  c e:=bM E j
  obtain ⟨p,q⟩:=e.cellsRel b
  c:=a7v H (new:=new) m (cs:=(y.ev f).cells) (arr:=(a.eval x).cells) (t:=t) h0 p (fun v e=>aB.1 b v e) q
  refine ⟨_,_,_,.inl ?_,this.1,this.2.1,this.2.2⟩
  simp [execOp,i,Instr.box,newVar,newRow,mK]
 ·cases d
structure b49 [Frame] (μ:Mu) (h:b8) (w:World) (row:List V) (c off:Nat):Prop where
 cell: ∀j v,row[j]? =some v-> ∃y,w.cell? ⟨c,off+j,none⟩=some y/\aY μ h w v y
 one: ∀v∈row,v.cell=true
theorem Th [Frame] (H:bB μ h w) {b i o n:Nat} {x:Value} {k:Blk} {row:List V} (f:aY μ h w (.ptr b i o n) x) (d:h b=some k) (hi:k.rows[i]? =some row):0<k.esz:=by
 rcases H.blk b k d with ⟨j,_,_⟩|⟨h0,_⟩|⟨h0,e,c,q,l⟩
 ·rw [j] at hi;simp at hi
 ·exact h0
 ·exfalso
  cases f with
  |ptr _ _ _ _ _ k' a m r s p=>
   rw [d] at a;cases a
   rw [p h0] at e;cases e
theorem JL [Frame] (H:bB μ h w) {b i:Nat} {k:Blk} {row:List V} (q:h b=some k) (hi:k.rows[i]? =some row) (m:0<k.esz):
 ∃c,μ b=some c/\b49 μ h w row c (i*k.esz)/\row.length=k.esz/\0<k.esz:=by
 a e:=an hi
 a f:=H.rows b k q row e
 rcases H.blk b k q with ⟨r,_,_⟩|⟨h0,c,arr,t,lo,s,u,x,hf,hl,n⟩|⟨h0,_⟩
 ·rw [r] at e;cases e
 rotate_left
 ·omega
 ·a y:=f.1 m
  refine ⟨c,u,⟨fun j v o=> ?_,fun v n=>(f.2 v n).1⟩,f.1 m,h0⟩
  a z:j<row.length:=by
    rcases cA j row.length with d|l
    ·exact d
    ·rw [bD l] at o;cases o
  a p:i<k.rows.length:=by
    rcases cA i k.rows.length with d|l
    ·exact d
    ·rw [bD l] at hi;cases hi
  a d:i*k.esz+j<arr.size:=by
    a h2:(i+1)*k.esz<=k.rows.length*k.esz:=bi _ p
    rw [Nat.add_mul,cB] at h2
    omega
  refine ⟨arr.getD (i*k.esz+j) undef, ?_,n i row j v hi o⟩
  simp [World.cell?,x,d,aL d]
theorem a06 [Frame] {row:List V} {c off:Nat} {g:Option Nat} {t:TypeId} {o:Nat} {v:V} (R:b49 μ h w row c off) (p:Oo P t=some g) (d:part g row o=some v):
 ∃x,(loadVar t ⟨c,off+o,none⟩).run P w= .ok x w/\aY μ h w v x:=by
 obtain ⟨m,q⟩:=a1p p w
 cases g with
 |none=>
  simp only [part] at d
  obtain ⟨y,e,f⟩:=R.cell o v d
  refine ⟨y, ?_,f⟩
  simp [loadVar,m,e]
 |some n=>
  simp only [part] at d
  split at d
  ·rename_i r
   cases d
   a k:=fD (q n rfl) w
   let fn:Nat->Value:=fun j=>(w.cell? ⟨c,off+o+j,none⟩).getD undef
   a b: ∀j,j<n->w.cell? ⟨c,off+o+j,none⟩=some (fn j):=by
     intro j u
     obtain ⟨y,e,_⟩:=R.cell (o+j) row[o+j] (aq (by omega))
     show _=some ((w.cell? ⟨c,off+o+j,none⟩).getD undef)
     rw [show off+o+j=off+(o+j) by omega,e];rfl
   refine ⟨.agg ((Array.range n).map fn), ?_, ?_⟩
   ·simp [loadVar,m,k,rX b]
   ·refine .agg _ _ (by simp;omega) (fun v f=>R.one v (ca (cq f))) (fun i v hi=> ?_)
    rw [j3] at hi
    split at hi
    ·rename_i l
     rw [gw] at hi
     obtain ⟨y,e,f⟩:=R.cell (o+i) v hi
     a s:fn i=y:=by
       show (w.cell? ⟨c,off+o+i,none⟩).getD undef=y
       rw [show off+o+i=off+(o+i) by omega,e];rfl
     a:((Array.range n).map fn).getD i undef=y:=by
      simp [l,s]
     rw [this];exact f
    ·cases hi
  ·cases d
theorem a2g [Frame] {row:List V} {o:Nat} {x:Value} (b:aY μ h w (.iptr row o) x): ∃c off,x= .pointer (some ⟨c,off+o,none⟩)/\b49 μ h w row c off:=by
 cases b with
 |iptr _ _ c off ys m n d a b=>
  refine ⟨c,off,rfl,⟨fun j v e=> ?_,fun v b=>(d v b).2⟩⟩
  l f:j<row.length:=by
    rcases cA j row.length with i|k
    ·exact i
    ·rw [bD k] at e;cases e
  exact ⟨ys j,a j f,b j v e⟩
theorem a4S [Frame] {b i o n:Nat} {x:Value} {k:Blk} (d:aY μ h w (.ptr b i o n) x) (e:h b=some k) (f:k.rows.length=n) (hi:i<n) (h0:0<k.esz):
 ∃c,μ b=some c/\x= .pointer (some ⟨c,i*k.esz+o,none⟩):=by
 cases d with
 |ptr _ _ _ _ _ k' a j p l m=>
  rw [e] at a;cases a
  exact l (by omega) f hi
theorem VG [Frame] (H:bB μ h w) {av v:V} {x:Value} {g:Option Nat} {t:TypeId} (f:aY μ h w av x) (r:Oo P t=some g) (a:ym g h av=some v):
 ∃c off y,x= .pointer (some ⟨c,off,none⟩)/\(loadVar t ⟨c,off,none⟩).run P w= .ok y w/\aY μ h w v y:=by
 cases av with
 |ptr b i o n=>
  simp only [ym] at a
  cases d:h b with
  |none=>rw [d] at a;cases a
  |some k=>
   rw [d] at a
   dsimp only at a
   split at a
   ·rename_i s
    cases hi:k.rows[i]? with
    |none=>rw [hi] at a;cases a
    |some row=>
     rw [hi] at a
     obtain ⟨c,z,R,hl,h0⟩:=JL H d hi (Th H f d hi)
     u j:i<n:=by
       rw [<-s]
       rcases cA i k.rows.length with l|m
       ·exact l
       ·rw [bD m] at hi;cases hi
     obtain ⟨c',e,rfl⟩:=a4S f d s j h0
     rw [z] at e;cases e
     obtain ⟨y,p,q⟩:=a06 R r a
     exact ⟨c,i*k.esz+o,y,rfl,p,q⟩
   ·cases a
 |iptr row o=>
  simp only [ym] at a
  obtain ⟨c,off,rfl,R⟩:=a2g f
  obtain ⟨y,p,q⟩:=a06 R r a
  exact ⟨c,off+o,y,rfl,p,q⟩
 |_=>simp [ym] at a
theorem b58 [Frame] (H:bB μ h w) (E:gi μ h w f a) {o:Oper} {t:TypeId} {x:Operand} {y:Opd} {g:Option Nat} (d:o.op= .load t x) (e:bA x=some y) (i:Oo P t=some g) {v:V}
 (j:ym g h (y.ev f)=some v):ix P o a μ h w v []:=by
 obtain ⟨c,off,y',b,k,l⟩:=VG H (bM E e) i j
 exact .quiet H (by simp [execOp,d,Instr.loadAt,Instr.sureAddr,b,k]) l
theorem n0.sub [Frame] {μ μ':Mu} {w:World} (a: ∀b c,μ' b=some c->μ b=some c):n0 μ w μ' w:=
 ⟨rfl,rfl,rfl,aw _,aw _,(fun c _ h=>⟨rfl,(fun b d=>h.1 b (a b c d)),h.2⟩),fun _ _=>rfl⟩
theorem Lu [Frame] (H:bB μ h w) {b s n:Nat} {k:Blk} {x:Value} (hb:h b=some k) (o:k.op=false) (h0:0<k.esz) (hn:s+n=k.rows.length) (q:aY μ h w (.sl b s n) x)
 {μ':Mu} (h':b8) (hm:μ' b=none) (m: ∀b c,μ' b=some c->μ b=some c):aY μ' h' w (.imm k.esz (k.rows.drop s)) x:=by
 cases q with
 |sl _ _ _ _ k' r hn' hx hp=>
  rw [hb] at r;cases r
  obtain ⟨ad,cap,rfl,hok⟩:=hp (by omega) hn
  a d:(k.rows.drop s).length=n:=by simp;omega
  by_cases hz:n=0
  ·a:k.rows.drop s=[]:=bS (by omega)
   rw [this,hz]
   exact .imm0 _ _ _ (by omega)
  ·rcases hok with ⟨u,_⟩|⟨c,hc,rfl,hcap,hnc⟩
   ·exact absurd u hz
   ·a hst:pd μ' c:=by
      refine ⟨fun b' p=> ?_,H.frame _ _ hc⟩
      a u:=m b' c p
      a h2:=H.inj _ _ _ u hc
      rw [h2,hm] at p;cases p
    rcases H.blk b k hb with ⟨u,_,_⟩|⟨_,c',arr,t,lo,hi,y,hh,hf,hl,q⟩|⟨_,ho,_⟩
    ·rw [u] at hn;simp at hn;omega
    rotate_left
    ·rw [o] at ho;cases ho
    ·rw [hc] at y;cases y
     a l:=H.rows b k hb
     rw [<-d]
     a hsz: ∀i j,i<n->j<k.esz->s*k.esz+(i*k.esz+j)<arr.size:=by
       intro i j hi z
       a h2:(s+i+1)*k.esz<=k.rows.length*k.esz:=bi _ (by omega)
       rw [Nat.add_mul,Nat.add_mul,cB] at h2
       omega
     refine .imm k.esz (k.rows.drop s) c (s*k.esz) cap (fun i j=>arr.getD (s*k.esz+(i*k.esz+j)) undef) h0 (by intro e;rw [e] at d;simp at d;omega) (by omega) (H.lt hc) hst
      (fun row f=>⟨(l row (ca f)).1 h0,fun v q=>⟨((l row (ca f)).2 v q).2 o,((l row (ca f)).2 v q).1⟩⟩)
      (fun i j hi z=> ?_) (fun i row j v hi z=> ?_)
     ·a:=hsz i j (by omega) z
      simp [World.cell?,hh,this,aL this]
     ·rw [gw] at hi
      a hmem:=an hi
      a:=q (s+i) row j v hi z
      rw [Nat.add_mul,fx] at this
      exact this.closed h' (n0.sub m) (((l row hmem).2 v (an z)).2 o)
theorem Tf [Frame] (H:bB μ h w) {v v':V} {bs:List Nat} {x:Value} (a:pu h v=some (v',bs)) (d:aY μ h w v x)
 {μ':Mu} (h':b8) (u: ∀b∈bs,μ' b=none) (j: ∀b c,μ' b=some c->μ b=some c):aY μ' h' w v' x/\v'.cl=true/\v'.cell=true/\ ∀b∈bs, ∃k,h b=some k:=by
 t other: ∀v:V,(if v.cl&&v.cell then some (v,([]:List Nat)) else none)=some (v',bs)->aY μ h w v x->aY μ' h' w v' x/\v'.cl=true/\v'.cell=true/\ ∀b∈bs, ∃k,h b=some k:=by
   intro v q z
   split at q
   ·rename_i l
    cases q
    simp only [aD] at l
    exact ⟨z.closed h' (n0.sub j) l.1,l.1,l.2,fun b m=>by cases m⟩
   ·cases q
 cases v with
 |sl b s n=>
  simp only [pu] at a
  cases m:h b with
  |none=>rw [m] at a;cases a
  |some k=>
   rw [m] at a
   dsimp only at a
   split at a
   ·rename_i l
    cases a
    exact ⟨Lu H m l.1 l.2.1 l.2.2 d h' (u b (by simp)) j,rfl,rfl,fun b' p=>by simp at p;subst p;exact ⟨k,m⟩⟩
   ·cases a
 |lit y=>exact other (.lit y) a d
 |agg cs=>exact other (.agg cs) a d
 |tup cs=>exact other (.tup cs) a d
 |ptr b i o n=>exact other (.ptr b i o n) a d
 |imm e r=>exact other (.imm e r) a d
 |iptr r o=>exact other (.iptr r o) a d
 |fn f cs=>exact other (.fn f cs) a d
 |undef=>exact other .undef a d
 |mp b=>exact other (.mp b) a d
theorem Hf [Frame] (H:bB μ h w) {μ':Mu} (h':b8) (d: ∀b c,μ' b=some c->μ b=some c): ∀{vs vs':List V} {bs:List Nat} (g:Nat->Value),ng h vs=some (vs',bs)->
 (∀j v,vs[j]? =some v->aY μ h w v (g j))->(∀b∈bs,μ' b=none)->
 vs'.length=vs.length/\(∀j v,vs'[j]? =some v->aY μ' h' w v (g j))/\(∀v∈vs',v.cl=true/\v.cell=true)/\ ∀b∈bs, ∃k,h b=some k
 |[],vs',bs,g,e,i,l=>by
  simp [ng] at e
  obtain ⟨rfl,rfl⟩:=e
  exact ⟨rfl,fun j v f=>by simp at f,fun v i=>by simp at i,fun b a=>by simp at a⟩
 |v::vs,vs',bs,g,e,i,l=>by
  simp only [ng] at e
  split at e
  ·rename_i v1 bs1 y bs2 n o
   cases e
   obtain ⟨p,a2,a3,q⟩:=Tf H n (i 0 v rfl) h' (fun b a=>l b (by simp [a])) d
   obtain ⟨r,s,t,x⟩:=Hf H h' d (fun j=>g (j+1)) o (fun j u f=>i (j+1) u (by simpa using f)) (fun b a=>l b (by simp [a]))
   refine ⟨by simp [r],fun j u f=> ?_,fun u m=> ?_,fun b a=> ?_⟩
   ·cases j with
    |zero=>simp at f;subst f;exact p.cz
    |succ j=>exact s j u (by simpa using f)
   ·rcases b9.1 m with rfl|m
    ·exact ⟨a7O a2,LG a3⟩
    ·exact t u m
   ·rcases aX.1 a with a|a
    ·exact q b a
    ·exact x b a
  ·cases e
theorem Xz.trans {μ1 μ2:Mu} {m n:b8} {o p:World} (a:Xz μ h w μ1 m o) (b:Xz μ1 m o μ2 n p):Xz μ h w μ2 n p:=by
 intro q k v
 obtain ⟨x,f,d⟩:=a q k v
 obtain ⟨y,i,j⟩:=b q x f
 refine ⟨y,i, ?_⟩
 rcases j with j|⟨e2,p2,l2⟩|⟨e2,r,l2,z,s2⟩
 ·exact .inl j
 ·rcases d with d|⟨e1,p1,e⟩|⟨e1,s,e,l,t⟩
  ·omega
  ·exact .inr (.inl ⟨e2.trans e1,by omega,by omega⟩)
  ·exact .inr (.inl ⟨e2.trans e1,by omega,by omega⟩)
 ·rcases d with d|⟨e1,p1,e⟩|⟨e1,s,e,l,t⟩
  ·exact .inl ⟨e2.trans d.1,(r d.1).trans d.2⟩
  ·exact .inr (.inl ⟨e2.trans e1,by omega,by omega⟩)
  ·exact .inr (.inr ⟨e2.trans e1,fun h0=>(r (by omega)).trans (s h0),l2.trans e,z.trans l,fun c u=>(s2 c (by rw [l];exact u)).trans (t c u)⟩)
theorem Chg.trans [Frame] {μ1 μ2:Mu} {c d:b8} {e f:World} (a:Chg μ h w μ1 c e) (b:Chg μ1 c e μ2 d f):Chg μ h w μ2 d f:=⟨a.ev.trans b.ev,a.refs.trans b.refs⟩
theorem b4c [Frame] {μ:Mu} {h:b8} {w:World}: ∀(bs:List Nat),(∀b∈bs, ∃k,h b=some k)->bB μ h w->
 ∃μ',bB μ' (fW h (iS bs)) w/\Chg μ h w μ' (fW h (iS bs)) w/\(∀b∈bs,μ' b=none)/\(∀b c,μ' b=some c->μ b=some c)/\ ∀b,b∉bs->μ' b=μ b/\fW h (iS bs) b=h b:=by
 intro bs
 induction bs generalizing μ h with
 |nil=>exact fun _ H=>⟨μ,H,Chg.refl _ _ _,(fun b p=>by simp at p),(fun b c h=>h),(fun b _=>⟨rfl,rfl⟩)⟩
 |cons b bs ih=>
  intro o H
  obtain ⟨k,q⟩:=o b (by simp)
  obtain ⟨H1,C1⟩:=H.kill q
  obtain ⟨μ',H2,C2,r,d,j⟩:=ih (μ:=cE μ b none) (h:=bT h b my) (fun b' a=>by
   by_cases e:b'=b
   ·exact ⟨my,by simp [bT,e]⟩
   ·obtain ⟨k',m⟩:=o b' (by simp [a]);exact ⟨k',by simp [bT,e,m]⟩) H1
  l i: ∀b' c,cE μ b none b'=some c->μ b'=some c:=by
    intro b' c f
    unfold cE at f
    split at f
    ·cases f
    ·exact f
  refine ⟨μ',H2,C1.trans C2,fun b' a=> ?_,fun b' c f=>i b' c (d b' c f),fun b' a=> ?_⟩
  ·rcases b9.1 a with rfl|a
   ·cases n:μ' b' with
    |none=>rfl
    |some c=>l:=d b' c n;simp [cE] at this
   ·exact r b' a
  ·simp only [b9,not_or] at a
   obtain ⟨f,s⟩:=j b' a.2
   exact ⟨by rw [f];simp [cE,a.1],by show fW (bT h b my) (iS bs) b'=h b';rw [s];simp [bT,a.1]⟩
theorem qZ (h:b8) (u v:Upd):fW h (u++v)=fW (fW h u) v:=by
 induction u generalizing h with
 |nil=>rfl
 |cons x u ih=>exact ih _
end
end
section
section
variable {P:Program} {μ:Mu} {h:b8} {w:World} {f:Nat->V} {a:Act}
theorem cS {α:Type} {l:List α} {i:Nat} {x:α} (h:l[i]? =some x):i<l.length:=by
 rcases cA i l.length with a|b
 ·exact a
 ·rw [bD b] at h;cases h
theorem wo {α:Type} (l cs:List α) (o:Nat) (h:o+cs.length<=l.length) (j:Nat):
 (l.take o++(cs++l.drop (o+cs.length)))[j]? =if o<=j/\j<o+cs.length then cs[j-o]? else l[j]? :=by
 by_cases b:j<o
 ·rw [aa (by omega),bG (by simp;omega),j3,ae b]
 ·rw [bQ (by simp;omega)]
  a c:(l.take o).length=o:=by simp;omega
  rw [c]
  by_cases d:j<o+cs.length
  ·rw [ae ⟨by omega,d⟩,bG (by omega)]
  ·rw [aa (by omega),bQ (by omega),gw]
   congr 1
   omega
theorem F6 {α:Type} (l cs:List α) (o:Nat) (h:o+cs.length<=l.length):(l.take o++(cs++l.drop (o+cs.length))).length=l.length:=by
 simp;omega
theorem a6A [Frame] (H:bB μ h w) {b i o:Nat} {k:Blk} {row cs:List V} {xs:List Value} {c:Nat} (hb:h b=some k) (hi:k.rows[i]? =some row) (s:0<k.esz) (hm:μ b=some c)
 (hlen:xs.length=cs.length) (ho:o+cs.length<=row.length) (q: ∀j v,cs[j]? =some v->aY μ h w v (xs.getD j undef)) (n: ∀v∈cs,v.cell=true/\(k.op=false->v.cl=true)):
 ∃w' μ',(storeCells ⟨c,i*k.esz+o,none⟩ xs).run P w= .ok () w'/\
  bB μ' (bT h b { k with rows:=k.rows.set i (row.take o++(cs++row.drop (o+cs.length))) }) w'/\
  Chg μ h w μ' (bT h b { k with rows:=k.rows.set i (row.take o++(cs++row.drop (o+cs.length))) }) w':=by
 a d:=an hi
 a l:=H.rows b k hb
 a hil:=cS hi
 rcases H.blk b k hb with ⟨h1,_,_⟩|⟨h0,c',arr,t,lo,hi',hm',hh,hf,hl,hv⟩|⟨h0,_⟩
 ·rw [h1] at d;cases d
 rotate_left
 ·omega
 ·rw [hm] at hm';cases hm'
  a hrl:=(l row d).1 s
  a hle:(i+1)*k.esz<=k.rows.length*k.esz:=bi _ hil
  rw [Nat.add_mul,cB] at hle
  a hone: ∀x∈xs,ci x=true:=by
    intro x hx
    obtain ⟨j,hj,rfl⟩:=bp hx
    a hjc:j<cs.length:=by omega
    a f:=q j cs[j] (aq hjc)
    a m:=f.oneCell (n _ (aZ hjc)).1
    simpa [bo,aq hj] using m
  obtain ⟨arr',hrun,u,hval⟩:=mc (P:=P) (o:=i*k.esz+o) xs 0 arr w hh hf.at (by omega) hone
  a hlt:=o0 hh
  a r:=H.put (w':=gZ w c arr' t (lo,hi')) (c:=c) (k':={ k with rows:=k.rows.set i (row.take o++(cs++row.drop (o+cs.length))) }) hb h0 (.inl hm)
    rfl rfl rfl (by rw [vK];exact aw _) (aw _) (fun c' _ hne=>BY hne) (rd hlt) (by rw [u];exact hf) rfl (by simpa [u] using hl)
    (fun row' y=>by
     rcases dS y with f|f
     ·exact ⟨(l row' f).1 s,(l row' f).2⟩
     ·subst f
      refine ⟨by rw [F6 _ _ _ ho];exact hrl,fun v hv=> ?_⟩
      rcases aX.1 hv with m|m
      ·exact (l row d).2 v (cq m)
      ·rcases aX.1 m with h4|h4
       ·exact n v h4
       ·exact (l row d).2 v (ca h4))
    (.inr ⟨by simp,hm,by unfold bsize;rw [hh];exact u⟩)
    (fun z row2 j v f m=>by
     simp only at f ⊢
     a p:=hval (z*k.esz+j)
     simp only [cQ] at p
     rw [p]
     rw [fB] at f
     by_cases e:i=z
     ·subst e
      rw [ae rfl,ae hil] at f
      cases f
      rw [wo _ _ _ ho] at m
      by_cases hin:o<=j/\j<o+cs.length
      ·rw [ae hin] at m
       rw [ae (by omega)]
       a:=q (j-o) v m
       rwa [show i*k.esz+j-(i*k.esz+o)=j-o by omega]
      ·rw [aa hin] at m
       rw [aa (by omega)]
       exact hv i row j v hi m
     ·rw [aa e] at f
      a hjl:j<k.esz:=by a:=cS m;a:=(l row2 (an f)).1 s;omega
      a hni: ¬(i*k.esz+o<=z*k.esz+j/\z*k.esz+j<i*k.esz+o+xs.length):=by
        intro hc
        a hr1:i*k.esz<(z+1)*k.esz:=by rw [Nat.add_mul,cB];omega
        a hr2:z*k.esz<(i+1)*k.esz:=by rw [Nat.add_mul,cB];omega
        a:=dK hr1
        a:=dK hr2
        omega
      rw [aa hni]
      exact hv z row2 j v f m)
  exact ⟨_,_,hrun,r.1,r.2⟩
theorem VY {x:Value} (j:Nat):x.cells.toList.getD j undef=x.cells.getD j undef:=by
 simp [bo,Array.getD_eq_getD_getElem?]
theorem W2 [Frame] (H:bB μ h w) (E:gi μ h w f a) {C:ce} {ow:FuncId->List Nat} {o:Oper} {t:TypeId} {x y:Operand} {x' y':Opd} {s:Nat} (hop:o.op= .store t x y) (hx:bA x=some x') (hy:bA y=some y')
 (hsz:jB P t=some s) {new:Nat} {v:V} {u:Upd} (d:aM C ow (.store s x' y') (Opd.ev f) h new=some (v,u)):ix P o a μ h w v u:=by
 l hvx:=bM E hx
 l hvy:=bM E hy
 simp only [aM] at d
 cases hax:x'.ev f with
 |ptr b i o' n=>
  rw [hax] at d hvx
  dsimp only at d
  cases hb:h b with
  |none=>rw [hb] at d;cases d
  |some k=>
   rw [hb] at d
   dsimp only at d
   split at d
   ·rename_i hn
    cases hi:k.rows[i]? with
    |none=>rw [hi] at d;cases d
    |some row=>
     rw [hi] at d
     dsimp only at d
     obtain ⟨c,hm,R,hrl,h0⟩:=JL H hb hi (Th H hvx hb hi)
     obtain ⟨c',hm',hxe⟩:=a4S hvx hb hn (by rw [<-hn];exact cS hi) h0
     rw [hm] at hm';cases hm'
     l p:=fD hsz
     split at d
     ·rename_i hopn
      split at d
      ·rename_i hc
       cases d
       obtain ⟨q,hc2,z⟩:=hc
       obtain ⟨g1,g2⟩:=hvy.cellsRel z
       obtain ⟨w',μ',r,hH,hC⟩:=a6A (P:=P) H hb hi h0 hm (cs:=(y'.ev f).cells) (xs:=(a.eval y).cells.toList) (o:=o') (by rw [Array.length_toList];exact g1) (by omega)
        (fun j v hj=>by rw [VY];exact g2 j v hj) (fun v m=>⟨aB.1 z v m,fun e=>by rw [hopn] at e;cases e⟩)
       rw [q] at hH hC
       refine ⟨undef,w',μ',.inr ⟨?_,rfl⟩,hH,hC,.unk _⟩
       simp [execOp,hop,Instr.storeAt,Instr.sureAddr,hxe,storeVar,p,g1,q,r]
      ·cases d
     ·rename_i hopn
      split at d
      ·rename_i cs bs hsn
       split at d
       ·rename_i hc
        cases d
        obtain ⟨q,hc2,z⟩:=hc
        l hsn0:=hsn
        l hall:(y'.ev f).cells.all V.cell=true:=by
          rw [aB]
          intro v m
          exact snaps_cell hsn v m
        obtain ⟨g1,g2⟩:=hvy.cellsRel hall
        l hdom:=(Hf H h (μ':=fun _=>none) (fun b c e=>by cases e) (fun j=>(a.eval y).cells.getD j undef) hsn g2 (fun b _=>rfl)).2.2.2
        obtain ⟨μ1,H1,C1,hk1,hsub,hoth⟩:=b4c bs hdom H
        obtain ⟨q1,q2,q3,_⟩:=Hf H (fW h (iS bs)) hsub (fun j=>(a.eval y).cells.getD j undef) hsn g2 hk1
        obtain ⟨hmb,hhb⟩:=hoth b z
        obtain ⟨w',μ',r,hH,hC⟩:=a6A (P:=P) H1 (by rw [hhb];exact hb) hi h0 (by rw [hmb];exact hm) (cs:=cs) (xs:=(a.eval y).cells.toList) (o:=o') (by rw [Array.length_toList,g1,q1]) (by omega)
         (fun j v hj=>by rw [VY];exact q2 j v hj) (fun v m=>⟨(q3 v m).2,fun _=>(q3 v m).1⟩)
        rw [q] at hH hC
        refine ⟨undef,w',μ',.inr ⟨?_,rfl⟩, ?_, ?_,.unk _⟩
        ·simp [execOp,hop,Instr.storeAt,Instr.sureAddr,hxe,storeVar,p,g1, <-q1,q,r]
        ·rw [qZ];exact hH
        ·rw [qZ];exact C1.trans hC
       ·cases d
      ·cases d
   ·cases d
 |_=>rw [hax] at d;cases d
where
 snaps_cell: ∀{vs vs':List V} {bs:List Nat},ng h vs=some (vs',bs)-> ∀v∈vs,v.cell=true
  |[],_,_,_,v,m=>by cases m
  |x::vs,vs',bs,d,v,m=>by
   simp only [ng] at d
   split at d
   ·rename_i v1 bs1 r1 bs2 h1 h2
    rcases b9.1 m with rfl|m
    ·cases v<;>first
      |rfl
      | (simp [pu] at h1;done)
      | (simp only [pu] at h1;split at h1<;>simp_all [V.cell,V.cl])
    ·exact snaps_cell h2 v m
   ·cases d
end
end
section
section
variable {P:Program} {μ:Mu} {h:b8} {w:World} {f:Nat->V} {a:Act}
theorem a0C {α β:Type} (g:α->Sem β) (gv:α->β) (w:World): ∀(l:List α),(∀x∈l,(g x).run P w= .ok (gv x) w)->(l.mapM g).run P w= .ok (l.map gv) w
 |[],_=>by simp
 |x::l,b=>by
  rw [List.mapM_cons]
  a c:=b x (by simp)
  a d:=a0C g gv w l (fun y e=>b y (by simp [e]))
  simp [c,d]
def K5 [Frame] (μ:Mu) (h:b8) (w:World) (cs:List V) (arr:Array Value):Prop:=
 arr.size=cs.length/\(∀v∈cs,v.cell=true)/\ ∀j v,cs[j]? =some v->aY μ h w v (arr.getD j undef)
theorem b5F (xs:List Value) (off n:Nat): ∀(arr:Array Value),off+n+xs.length<=arr.size->
 ((xs.zipIdx n).foldl (fun cs (p:Value×Nat)=>cs.setIfInBounds (off+p.2) p.1) arr).size=arr.size/\
 ∀j,((xs.zipIdx n).foldl (fun cs (p:Value×Nat)=>cs.setIfInBounds (off+p.2) p.1) arr).getD j undef=
  if off+n<=j/\j<off+n+xs.length then xs.getD (j-(off+n)) undef else arr.getD j undef:=by
 induction xs generalizing n with
 |nil=>intro arr _;exact ⟨rfl,fun j=>by rw [aa (by simp only [ai];omega)];rfl⟩
 |cons x xs ih=>
  intro arr b
  simp only [ah] at b
  simp only [List.zipIdx_cons,pa]
  obtain ⟨f,h⟩:=ih (n+1) (arr.setIfInBounds (off+n) x) (by rw [dW];omega)
  refine ⟨by rw [f,dW],fun j=> ?_⟩
  rw [h j]
  simp only [ah]
  by_cases e:j=off+n
  ·subst e
   rw [aa (by omega),ae (by omega)]
   a hi:off+n<arr.size:=by omega
   simp [hi]
  ·a c:(arr.setIfInBounds (off+n) x).getD j undef=arr.getD j undef:=by
     rw [Array.getD_eq_getD_getElem?,Array.getD_eq_getD_getElem?,Array.getElem?_setIfInBounds_ne (Ne.symm e)]
   rw [c]
   by_cases d:off+(n+1)<=j/\j<off+(n+1)+xs.length
   ·rw [ae d,ae (by omega)]
    a:j-(off+n)=(j-(off+(n+1)))+1:=by omega
    rw [this];simp
   ·rw [aa d,aa (by omega)]
theorem Kf [Frame] (x:Array Value) (off:Nat) (arr:Array Value) (b:off+x.size<=arr.size):
 (x.zipIdx.foldl (fun cs (p:Value×Nat)=>cs.setIfInBounds (off+p.2) p.1) arr).size=arr.size/\
 ∀j,(x.zipIdx.foldl (fun cs (p:Value×Nat)=>cs.setIfInBounds (off+p.2) p.1) arr).getD j undef=
  if off<=j/\j<off+x.size then x.getD (j-off) undef else arr.getD j undef:=by
 c:=b5F x.toList off 0 arr (by simpa using b)
 rw [<-Array.foldl_toList,Array.toList_zipIdx]
 refine ⟨this.1,fun j=> ?_⟩
 rw [this.2 j]
 simp only [cQ,Array.length_toList]
 by_cases a:off<=j/\j<off+x.size
 ·rw [ae a,ae a];simp [bo,Array.getD_eq_getD_getElem?]
 ·rw [aa a,aa a]
theorem PJ [Frame] (place:Nat->Option (Nat×Nat)): ∀(ps:List (Nat×Value)) (qs:List (Nat×Nat×V)) (cs cs':List V) (arr:Array Value),
 K5 μ h w cs arr->IX cs qs=some cs'->ps.length=qs.length->
 (∀(j:Nat) (p:Nat×Value) (q:Nat×Nat×V),ps[j]? =some p->qs[j]? =some q->place p.1=some (q.1,q.2.1)/\aY μ h w q.2.2 p.2)->
 ∃arr',Instr.fill place arr ps=some arr'/\K5 μ h w cs' arr'
 |[],[],cs,cs',arr,r,c,_,_=>by simp [IX] at c;subst c;exact ⟨arr,rfl,r⟩
 |[],_::_,_,_,_,_,_,f,_=>by simp at f
 |_::_,[],_,_,_,_,_,f,_=>by simp at f
 |p::ps,q::qs,cs,cs',arr,r,c,f,s=>by
  obtain ⟨i,x⟩:=p
  obtain ⟨off,size,v⟩:=q
  obtain ⟨k,z⟩:=s 0 (i,x) (off,size,v) rfl rfl
  simp only [IX] at c
  split at c
  ·rename_i d
   obtain ⟨c1,c2,c3⟩:=d
   obtain ⟨g1,t⟩:=z.cellsRel c3
   obtain ⟨a1,a2,a3⟩:=r
   dsimp only at k g1 t
   obtain ⟨s1,s2⟩:=Kf x.cells off arr (by omega)
   y l:K5 μ h w (cs.take off++(v.cells++cs.drop (off+size))) (x.cells.zipIdx.foldl (fun cs (p:Value×Nat)=>cs.setIfInBounds (off+p.2) p.1) arr):=by
     refine ⟨?_,fun u a=> ?_,fun j u m=> ?_⟩
     ·rw [s1,a1, <-c1,F6 _ _ _ (by omega)]
     ·rcases aX.1 a with a|a
      ·exact a2 u (cq a)
      ·rcases aX.1 a with a|a
       ·exact aB.1 c3 u a
       ·exact a2 u (ca a)
     ·rw [<-c1,wo _ _ _ (by omega)] at m
      rw [s2 j]
      by_cases n:off<=j/\j<off+v.cells.length
      ·rw [ae n] at m
       rw [ae (by omega)]
       exact t _ u m
      ·rw [aa n] at m
       rw [aa (by omega)]
       exact a3 j u m
   obtain ⟨arr',e,o⟩:=PJ place ps qs _ cs' _ l c (by simpa using f) (fun j p q hp hq=>s (j+1) p q (by simpa using hp) (by simpa using hq))
   refine ⟨arr', ?_,o⟩
   simp only [Instr.fill,k]
   rw [aa (by
    intro b
    simp only [da,aC,ne_eq,gt_iff_lt] at b
    rcases b with h1|h1
    ·omega
    ·omega)]
   exact e
  ·cases c
theorem a3f [Frame] {z:List Value} {zv:Value} (d:zv.cells.toList=z) (a:z.all ci=true):K5 μ h w (z.map .lit) zv.cells:=by
 refine ⟨by rw [aO, <-d];simp,fun v f=> ?_,fun j v b=> ?_⟩
 ·obtain ⟨y,c,rfl⟩:=bq.1 f;exact aB.1 a y c
 ·rw [aW] at b
  cases c:z[j]? with
  |none=>rw [c] at b;cases b
  |some y=>
   rw [c] at b;cases b
   e:zv.cells[j]? =some y:=by rw [<-Array.getElem?_toList,d];exact c
   simp only [Array.getD_eq_getD_getElem?,this,dq]
   exact .lit y
theorem N9 [Frame] (E:gi μ h w f a) {fs:List Field}: ∀{ps:List (Nat×Operand)} {qs:List (Nat×Nat×Opd)},Hk P fs ps=some qs->
 qs.length=ps.length/\ ∀(j:Nat) (p:Nat×Operand) (q:Nat×Nat×Opd),ps[j]? =some p->qs[j]? =some q->(∃fd:Field,fs[p.1]? =some fd/\fd.offset=q.1/\jB P fd.type=some q.2.1)/\aY μ h w (q.2.2.ev f) (a.eval p.2)
 |[],qs,b=>by simp [Hk] at b;subst b;exact ⟨rfl,fun j p q d=>by simp at d⟩
 | (i,x)::ps,qs,b=>by
   simp only [Hk] at b
   split at b
   ·rename_i fd y r' e k m
    split at b
    ·rename_i s n
     cases b
     obtain ⟨l,r⟩:=N9 E m
     refine ⟨by simp [l],fun j p q d c=> ?_⟩
     cases j with
     |zero=>simp at d c;subst d;subst c;exact ⟨⟨fd,e,rfl,n⟩,bM E k⟩
     |succ j=>exact r j p q (by simpa using d) (by simpa using c)
    ·cases b
   ·cases b
theorem Ti [Frame] (E:gi μ h w f a) {s:Nat}: ∀{ps:List (Nat×Operand)} {qs:List (Nat×Nat×Opd)},MU s ps=some qs->
 qs.length=ps.length/\ ∀(j:Nat) (p:Nat×Operand) (q:Nat×Nat×Opd),ps[j]? =some p->qs[j]? =some q->(p.1*s=q.1/\s=q.2.1)/\aY μ h w (q.2.2.ev f) (a.eval p.2)
 |[],qs,b=>by simp [MU] at b;subst b;exact ⟨rfl,fun j p q d=>by simp at d⟩
 | (i,x)::ps,qs,b=>by
   simp only [MU] at b
   split at b
   ·rename_i y r' e k
    cases b
    obtain ⟨l,r⟩:=Ti E k
    refine ⟨by simp [l],fun j p q d c=> ?_⟩
    cases j with
    |zero=>simp at d c;subst d;subst c;exact ⟨⟨rfl,rfl⟩,bM E e⟩
    |succ j=>exact r j p q (by simpa using d) (by simpa using c)
   ·cases b
theorem Fw (ev:Opd->V): ∀(qs:List (Nat×Nat×Opd)),(iG ev qs).length=qs.length/\ ∀(j:Nat) (q:Nat×Nat×V),(iG ev qs)[j]? =some q-> ∃q0:Nat×Nat×Opd,qs[j]? =some q0/\q=(q0.1,q0.2.1,ev q0.2.2)
 |[]=>⟨rfl,fun j q h=>by simp [iG] at h⟩
 | (x,y,z)::qs=>by
   obtain ⟨l,r⟩:=Fw ev qs
   refine ⟨by simp [iG,l],fun j q a=> ?_⟩
   cases j with
   |zero=>simp [iG] at a;subst a;exact ⟨_,rfl,rfl⟩
   |succ j=>simp only [iG,j2] at a ⊢;exact r j q a
theorem a8b [Frame] (H:bB μ h w) (E:gi μ h w f a) {o:Oper} {t:TypeId} {ps:Array (Nat×Operand)} {ao:AOp} (hop:o.op= .build t ps) (c:dX P (.build t ps)=some ao)
 {C:ce} {ow:FuncId->List Nat} {new:Nat} {v:V} {u:Upd} (d:aM C ow ao (Opd.ev f) h new=some (v,u)):ix P o a μ h w v u:=by
 simp only [dX] at c
 split at c
 ·rename_i fs z hu hz
  split at c
  ·rename_i hall
   cases hq:Hk P fs.toList ps.toList with
   |none=>rw [hq] at c;cases c
   |some qs=>
    rw [hq] at c;cases c
    simp only [aM] at d
    split at d
    ·rename_i k
     split at d
     ·rename_i cs l
      cases d
      obtain ⟨i,zv,hi,hzv,hcs,hzr⟩:=rD hz
      obtain ⟨l1,r1⟩:=N9 (P:=P) E hq
      obtain ⟨l2,r2⟩:=Fw (Opd.ev f) qs
      let places:=fs.toList.map fun fd=>(fd.offset,(jB P fd.type).getD 0)
      obtain ⟨arr',hf',b⟩:=PJ (fun i=>places[i]?) (ps.toList.map fun p=>(p.1,a.eval p.2)) (iG (Opd.ev f) qs) (z.map .lit) cs zv.cells (a3f hcs k) l (by simp [l1,l2])
       (fun j p q r hq'=>by
        rw [aW] at r
        cases m:ps.toList[j]? with
        |none=>rw [m] at r;cases r
        |some p0=>
         rw [m] at r;cases r
         obtain ⟨q0,hq0,rfl⟩:=r2 j q hq'
         obtain ⟨⟨fd,h1,h2,h3⟩,h4⟩:=r1 j p0 q0 m hq0
         refine ⟨?_,h4⟩
         show (fs.toList.map _)[p0.1]? =_
         rw [aW,h1]
         simp [h2,h3])
      y hmap:(Array.mapM (fun f:Field=>Prod.mk f.offset<$>sizeOf f.type) fs).run P w= .ok places.toArray w:=by
        rw [Array.mapM_eq_mapM_toList]
        y:=a0C (P:=P) (fun f:Field=>Prod.mk f.offset<$>sizeOf f.type) (fun fd=>(fd.offset,(jB P fd.type).getD 0)) w fs.toList (fun fd hfd=>by
         y h1:=aB.1 hall fd hfd
         obtain ⟨s,d⟩:=Option.isSome_iff_exists.1 h1
         simp [fD d,d])
        rw [Sem.run_map,this]
        rfl
      refine .quiet H (x:= .agg arr') ?_ (.agg _ _ b.1 b.2.1 b.2.2)
      y e1:(fun x:Nat=>places.toArray[x]?)=fun i=>places[i]? :=by funext i;simp
      simp only [execOp,hop,Instr.build]
      simp [hzr,run_underlying hu]
      rw [hmap]
      simp only [Result.andThen_ok]
      rw [e1,hf']
      rfl
     ·cases d
    ·cases d
  ·cases c
 ·rename_i n e z hu hz
  split at c
  ·rename_i s hsz
   cases hq:MU s ps.toList with
   |none=>rw [hq] at c;cases c
   |some qs=>
    rw [hq] at c;cases c
    simp only [aM] at d
    split at d
    ·rename_i k
     split at d
     ·rename_i cs l
      cases d
      obtain ⟨i,zv,hi,hzv,hcs,hzr⟩:=rD hz
      obtain ⟨l1,r1⟩:=Ti E hq
      obtain ⟨l2,r2⟩:=Fw (Opd.ev f) qs
      obtain ⟨arr',hf',b⟩:=PJ (fun i=>some (i*s,s)) (ps.toList.map fun p=>(p.1,a.eval p.2)) (iG (Opd.ev f) qs) (z.map .lit) cs zv.cells (a3f hcs k) l (by simp [l1,l2])
       (fun j p q r hq'=>by
        rw [aW] at r
        cases m:ps.toList[j]? with
        |none=>rw [m] at r;cases r
        |some p0=>
         rw [m] at r;cases r
         obtain ⟨q0,hq0,rfl⟩:=r2 j q hq'
         obtain ⟨⟨h1,h2⟩,h4⟩:=r1 j p0 q0 m hq0
         exact ⟨by simp [h1, <-h2],h4⟩)
      refine .quiet H (x:= .agg arr') ?_ (.agg _ _ b.1 b.2.1 b.2.2)
      simp only [execOp,hop,Instr.build]
      simp [hzr,run_underlying hu,fD hsz]
      rw [hf']
      rfl
     ·cases d
    ·cases d
  ·cases c
 ·cases c
end
end
end Go.AI
