/- Runs of the model's own operations, in the forms that the proofs of the abstract machine's operations ask for. -/
import Derived.Test.YtdnkignjanfikaaGreatAiRel
import Derived.Test.YtdnkignjanfikaaGreatAiComp
import Derived.Laws.AppendOwn
import Derived.Laws.MakeOwn
import Derived.ChangeKeysEq
set_option linter.unusedVariables false
set_option linter.unusedSimpArgs false
namespace Go.AI
section
theorem a3s (v:Value):ck v=v.oneCell':=by cases v<;>rfl
theorem fD {P:Program} {t:TypeId} {s:Nat} (h:jI P t=some s) (w:World):(sizeOf t).run P w= .ok s w:=by
 unfold jI at h
 cases hi:P.info? t with
 |none=>rw [hi] at h;cases h
 |some i=>rw [hi] at h;cases h;simp [sizeOf,typeInfo,hi]
theorem rP {P:Program} {t:TypeId} {z:List Value} (h:Cl P t=some z): ∃i v,P.info? t=some i/\i.zero=some v/\v.cells.toList=z/\ ∀w,(zeroValue t).run P w= .ok v w:=by
 unfold Cl at h
 cases hi:P.info? t with
 |none=>rw [hi] at h;cases h
 |some i=>
  rw [hi] at h
  dsimp only at h
  cases hz:i.zero with
  |none=>rw [hz] at h;cases h
  |some v=>
   rw [hz] at h;cases h
   exact ⟨i,v,rfl,hz,rfl,fun w=>by simp [zeroValue,typeInfo,hi,hz]⟩
theorem rB {P:Program} {t e:TypeId} (h:WZ P t=some e):P.underlying t=some (.slice e):=by
 unfold WZ at h
 split at h
 ·cases h;assumption
 ·cases h
theorem a4C {P:Program} {t:TypeId} {g:Option Nat} (h:OY P t=some g) (w:World):
 (isAgg t).run P w= .ok g.isSome w/\ ∀n,g=some n->jI P t=some n:=by
 unfold OY at h
 split at h
 ·rename_i hu hi;cases h;exact ⟨by simp [isAgg,run_underlying hu],fun n hn=>by cases hn;simp [jI,hi]⟩
 ·rename_i hu hi;cases h;exact ⟨by simp [isAgg,run_underlying hu],fun n hn=>by cases hn;simp [jI,hi]⟩
 ·rename_i d i hns hna hu hi
  cases h
  refine ⟨?_,fun n hn=>by cases hn⟩
  cases d<;>first
   | (simp [isAgg,run_underlying hu];done)
   | (exfalso;exact hns _ rfl)
   | (exfalso;exact hna _ _ rfl)
 ·cases h
theorem sB {P:Program} {w:World} {c off n:Nat} {f:Nat->Value} (h: ∀j,j<n->w.cell? ⟨c,off+j,none⟩=some (f j)):
 (loadCells ⟨c,off,none⟩ n).run P w= .ok ((Array.range n).map f) w:=by
 have:=run_loadCells (P:=P) w ⟨c,off,none⟩ n f (fun j hj=>by
  unfold Addr.add
  by_cases h0:j=0
  ·subst h0;simpa using h 0 hj
  ·rw [aa h0];exact h j hj)
 rw [this]
 congr 1
 apply eO
 simp
def hO (w:World) (g:Nat) (arr:Array Value) (t:TypeId) (fz:Nat×Nat):World:={ w with heap:=w.heap.setIfInBounds g (.cells arr t fz) }
theorem rF {w:World} {g:Nat} {arr:Array Value} {t:TypeId} {fz:Nat×Nat} (h:g<w.heap.size):(hO w g arr t fz).heap[g]? =some (.cells arr t fz):=by
 simp [hO,h]
theorem Cp {w:World} {g c:Nat} {arr:Array Value} {t:TypeId} {fz:Nat×Nat} (h:c≠g):(hO w g arr t fz).heap[c]? =w.heap[c]? :=by
 simp [hO,cx,Ne.symm h]
theorem vD {w:World} {g:Nat} {arr:Array Value} {t:TypeId} {fz:Nat×Nat}:(hO w g arr t fz).heap.size=w.heap.size:=by simp [hO]
theorem Wz {w:World} {g:Nat} {arr arr':Array Value} {t t':TypeId} {fz fz':Nat×Nat}:hO (hO w g arr t fz) g arr' t' fz'=hO w g arr' t' fz':=by
 unfold hO
 congr 1
 apply fh
 intro k
 simp only [cx,dX]
 by_cases e:g=k
 ·simp [e]
 ·simp [e]
theorem ot {w:World} {g:Nat} {o:Obj} (h:w.heap[g]? =some o):g<w.heap.size:=by
 rcases cA g w.heap.size with h1|h1
 ·exact h1
 ·rw [eK h1] at h;cases h
theorem Qn {w:World} {g i:Nat} {arr:Array Value} {t:TypeId} {fz:Nat×Nat} (h:w.heap[g]? =some (.cells arr t fz)) (v:Value):
 w.setCell ⟨g,i,none⟩ v=hO w g (arr.setIfInBounds i v) t fz:=by
 unfold World.setCell hO
 congr 1
 apply fh
 intro k
 rw [dR,cx]
 by_cases e:g=k
 ·subst e
  have:=ot h
  rw [ae rfl,h]
  simp [this]
 ·simp [e]
theorem mM {P:Program} {g o:Nat} {t:TypeId} {lo hi:Nat}: ∀(vs:List Value) (i:Nat) (cur:Array Value) (w:World),w.heap[g]? =some (.cells cur t (lo,hi))->
 (∀k,lo<=k->k<hi->cur.size<=k)->o+i+vs.length<=cur.size->(∀v∈vs,ck v=true)->
 ∃arr,(storeCells ⟨g,o,none⟩ vs i).run P w= .ok () (hO w g arr t (lo,hi))/\arr.size=cur.size/\
  ∀k,arr.getD k undef=if o+i<=k/\k<o+i+vs.length then vs.getD (k-(o+i)) undef else cur.getD k undef
 |[],i,cur,w,hg,hf,hl,h1=>by
  refine ⟨cur, ?_,rfl,fun k=>by rw [aa (by simp only [ai];omega)]⟩
  simp only [storeCells,Sem.run_pure]
  congr 1
  unfold hO
  have:=ot hg
  have e:w.heap.setIfInBounds g (.cells cur t (lo,hi))=w.heap:=by
   apply fh
   intro k
   rw [cx]
   by_cases e:g=k
   ·subst e;rw [ae rfl,ae this,hg]
   ·simp [e]
  rw [e]
 |v::vs,i,cur,w,hg,hf,hl,h1=>by
  have hlt:=ot hg
  have hadd:(⟨g,o,none⟩:Addr).add i=⟨g,o+i,none⟩:=by
   unfold Addr.add
   by_cases h0:i=0
   ·subst h0;rfl
   ·rw [aa h0]
  simp only [ah] at hl
  have hcell:w.cell? ⟨g,o+i,none⟩=some (cur.getD (o+i) undef):=by
   have hi:o+i<cur.size:=by omega
   simp [World.cell?,hg,hi,aL hi]
  have hfr:w.frozen? ⟨g,o+i,none⟩=false:=by
   simp only [World.frozen?,hg]
   by_cases h2:lo<=o+i/\o+i<hi
   ·have:=hf _ h2.1 h2.2;omega
   ·simp;omega
  have hone:v.oneCell'=true:=by rw [<-a3s];exact h1 v (by simp)
  have hstep:(store ((⟨g,o,none⟩:Addr).add i) v).run P w= .ok () (hO w g (cur.setIfInBounds (o+i) v) t (lo,hi)):=by
   rw [hadd,run_store P w _ v .plain hone,hcell]
   simp only [hfr,bA,if_false]
   rw [Qn hg]
  obtain ⟨arr,hr,hs,hv⟩:=mM (P:=P) (o:=o) vs (i+1) (cur.setIfInBounds (o+i) v) (hO w g (cur.setIfInBounds (o+i) v) t (lo,hi)) (rF hlt)
   (fun k a b=>by rw [dX];exact hf k a b) (by rw [dX];omega) (fun u hu=>h1 u (List.mem_cons_of_mem _ hu))
  refine ⟨arr, ?_,by rw [hs,dX],fun k=> ?_⟩
  ·simp only [storeCells,Sem.run_bind,hstep,Result.andThen_ok,hr,Wz]
  ·rw [hv k]
   simp only [ah]
   by_cases e:k=o+i
   ·subst e
    rw [aa (by omega),ae (by omega)]
    have hi:o+i<cur.size:=by omega
    simp [hi]
   ·have hne:(cur.setIfInBounds (o+i) v).getD k undef=cur.getD k undef:=by
     rw [Array.getD_eq_getD_getElem?,Array.getD_eq_getD_getElem?,Array.getElem?_setIfInBounds_ne (Ne.symm e)]
    rw [hne]
    by_cases h2:o+(i+1)<=k/\k<o+(i+1)+vs.length
    ·rw [ae h2,ae (by omega)]
     have:k-(o+i)=(k-(o+(i+1)))+1:=by omega
     rw [this]
     simp
    ·rw [aa h2,aa (by omega)]
end
section
section
variable {P:Program} {μ:Mu} {h:aZ} {w:World} {f:Nat->V} {a:Act}
def gj [Frame] (μ:Mu) (h:aZ) (w:World) (f:Nat->V) (a:Act):Prop:= ∀t,aX μ h w (f t) (a.tmps.getD t undef)
theorem bP [Frame] (E:gj μ h w f a) {x:Operand} {y:Opd} (hx:bC x=some y):aX μ h w (y.ev f) (a.eval x):=by
 cases x with
 |tmp t=>simp [bC] at hx;subst hx;exact E t
 |const v=>simp [bC] at hx;subst hx;exact .lit v
 |global g=>simp [bC] at hx
 |func k=>simp [bC] at hx;subst hx;exact .fn k [] #[] rfl (fun i v h=>by simp at h)
def iC [Frame] (P:Program) (o:Oper) (a:Act) (μ:Mu) (h:aZ) (w:World) (v:V) (u:Upd):Prop:=
 ∃x w' μ',((execOp a.eval o).run P w= .ok (.value x) w'\/((execOp a.eval o).run P w= .ok .skip w'/\x=undef))/\
  bD μ' (fX h u) w'/\Chg μ h w μ' (fX h u) w'/\aX μ' (fX h u) w' v x
theorem iC.quiet [Frame] {o:Oper} {v:V} {x:Value} (H:bD μ h w) (hr:(execOp a.eval o).run P w= .ok (.value x) w) (hv:aX μ h w v x):iC P o a μ h w v []:=
 ⟨x,w,μ,.inl hr,H,Chg.refl _ _ _,hv⟩
def mV (w:World) (o:Obj):World:={ w with heap:=w.heap.push o }
theorem md (w:World) (o:Obj):yD w (mV w o):=
 ⟨rfl,rfl,rfl,by show _<=(w.heap.push o).size;rw [Array.size_push];omega,fun c hc=>by show (w.heap.push o)[c]? =_;rw [iO,aa (Nat.ne_of_lt hc)],aw _⟩
theorem qf (w:World) (o:Obj):(mV w o).heap[w.heap.size]? =some o:=by show (w.heap.push o)[w.heap.size]? =_;rw [iO,ae rfl]
theorem a8w [Frame] (H:bD μ h w) {new:Nat} (hn:h new=none) {cs:List V} {arr:Array Value} {t:TypeId} (h0:0<cs.length) (hsz:arr.size=cs.length)
 (hc: ∀v∈cs,v.cell=true) (hv: ∀j v,cs[j]? =some v->aX μ h w v (arr.getD j undef)):
 bD (cE μ new (some w.heap.size)) (bV h new ⟨cs.length,true,[cs]⟩) (mV w (.cells arr t))/\
 Chg μ h w (cE μ new (some w.heap.size)) (bV h new ⟨cs.length,true,[cs]⟩) (mV w (.cells arr t))/\
 aX (cE μ new (some w.heap.size)) (bV h new ⟨cs.length,true,[cs]⟩) (mV w (.cells arr t)) (.ptr new 0 0 1) (.pointer (some ⟨w.heap.size,0,none⟩)):=by
 have hnew:=H.new (md w (.cells arr t)) (b:=new) (c:=w.heap.size) (k:=⟨cs.length,true,[cs]⟩) hn (aw _)
  (arr:=arr) (t:=t) (lo:=0) (hi:=0) (qf w _) (.inl rfl) h0 (by simp [hsz])
  (fun row hrow=>by simp at hrow;subst hrow;exact ⟨rfl,fun v hv=>⟨hc v hv,fun h=>by cases h⟩⟩)
  (fun i row j v h1 h2=>by
   cases i with
   |zero=>simp at h1;subst h1;simpa using hv j v h2
   |succ i=>simp at h1)
 refine ⟨hnew.1,hnew.2,.ptr new 0 0 1 _ ⟨cs.length,true,[cs]⟩ (by simp [bV]) (.inr (by simp)) ⟨_,_,rfl⟩ (fun _ _ _=>⟨w.heap.size,by simp [cE],by simp⟩) (fun h=>absurd h (Nat.ne_of_gt h0))⟩
theorem rI {n:Nat} {k:Blk} {v:V} {r:V×Upd} (hf:ng h n k v=some r):h n=none/\0<k.esz/\r=(v,[(n,k)]):=by
 unfold ng at hf
 split at hf
 ·rename_i hc;cases hf;exact ⟨by simpa using hc.1,hc.2,rfl⟩
 ·cases hf
theorem b0q [Frame] (H:bD μ h w) {o:Oper} {t:TypeId} {z:List Value} (ho:o.op= .alloc t) (hz:Cl P t=some z) {new:Nat} {v:V} {u:Upd}
 (hs:(if z.all ck then ng h new ⟨z.length,true,[z.map .lit]⟩ (.ptr new 0 0 1) else none)=some (v,u)):iC P o a μ h w v u:=by
 split at hs
 ·rename_i hall
  obtain ⟨hn,h0,hr⟩:=rI hs
  cases hr
  obtain ⟨i,zv,hi,hzv,hcs,hzr⟩:=rP hz
  dsimp only at h0
  have hlen:zv.cells.size=(z.map V.lit).length:=by rw [aM, <-hcs];simp
  have:=a8w H (new:=new) hn (cs:=z.map .lit) (arr:=zv.cells) (t:=t) (by simpa using h0) hlen
   (fun v hv=>by obtain ⟨y,hy,rfl⟩:=bu.1 hv;exact aB.1 hall y hy)
   (fun j v hj=>by
    rw [aV] at hj
    cases hy:z[j]? with
    |none=>rw [hy] at hj;cases hj
    |some y=>
     rw [hy] at hj;cases hj
     have:zv.cells[j]? =some y:=by rw [<-Array.getElem?_toList,hcs];exact hy
     simp only [Array.getD_eq_getD_getElem?,this,du]
     exact .lit y)
  simp only [aM] at this
  refine ⟨_,_,_,.inl ?_,this.1,this.2.1,this.2.2⟩
  simp [execOp,ho,Instr.alloc,hzr,newVar,newRow,mV]
 ·cases hs
theorem b7z [Frame] (H:bD μ h w) (E:gj μ h w f a) {o:Oper} {t:TypeId} {x:Operand} {y:Opd} {s:Nat} (ho:o.op= .box t x) (hx:bC x=some y) {new:Nat} {v:V} {u:Upd}
 (hs:(if (y.ev f).cells.length=s/\(y.ev f).cells.all V.cell then ng h new ⟨s,true,[(y.ev f).cells]⟩ (.ptr new 0 0 1) else none)=some (v,u)):iC P o a μ h w v u:=by
 split at hs
 ·rename_i hc
  obtain ⟨hl,hall⟩:=hc
  subst hl
  obtain ⟨hn,h0,hr⟩:=rI hs
  cases hr
  dsimp only at h0
  have hv:=bP E hx
  obtain ⟨h1,h2⟩:=hv.cellsRel hall
  have:=a8w H (new:=new) hn (cs:=(y.ev f).cells) (arr:=(a.eval x).cells) (t:=t) h0 h1 (fun v hv=>aB.1 hall v hv) h2
  refine ⟨_,_,_,.inl ?_,this.1,this.2.1,this.2.2⟩
  simp [execOp,ho,Instr.box,newVar,newRow,mV]
 ·cases hs
structure b30 [Frame] (μ:Mu) (h:aZ) (w:World) (row:List V) (c off:Nat):Prop where
 cell: ∀j v,row[j]? =some v-> ∃y,w.cell? ⟨c,off+j,none⟩=some y/\aX μ h w v y
 one: ∀v∈row,v.cell=true
theorem TU [Frame] (H:bD μ h w) {b i o n:Nat} {x:Value} {k:Blk} {row:List V} (hv:aX μ h w (.ptr b i o n) x) (hb:h b=some k) (hi:k.rows[i]? =some row):0<k.esz:=by
 rcases H.blk b k hb with ⟨h1,_,_⟩|⟨h0,_⟩|⟨h0,ho,c,hm,hmb⟩
 ·rw [h1] at hi;simp at hi
 ·exact h0
 ·exfalso
  cases hv with
  |ptr _ _ _ _ _ k' hk' hn' hx hp hd=>
   rw [hb] at hk';cases hk'
   rw [hd h0] at ho;cases ho
theorem K2 [Frame] (H:bD μ h w) {b i:Nat} {k:Blk} {row:List V} (hb:h b=some k) (hi:k.rows[i]? =some row) (h00:0<k.esz):
 ∃c,μ b=some c/\b30 μ h w row c (i*k.esz)/\row.length=k.esz/\0<k.esz:=by
 have hmem:=an hi
 have hrow:=H.rows b k hb row hmem
 rcases H.blk b k hb with ⟨h1,_,_⟩|⟨h0,c,arr,t,lo,hi',hm,hh,hf,hl,hv⟩|⟨h0,_⟩
 ·rw [h1] at hmem;cases hmem
 rotate_left
 ·omega
 ·have hrl:=hrow.1 h00
  refine ⟨c,hm,⟨fun j v hj=> ?_,fun v hv=>(hrow.2 v hv).1⟩,hrow.1 h00,h0⟩
  have hjl:j<row.length:=by
   rcases cA j row.length with hlt|hge
   ·exact hlt
   ·rw [bF hge] at hj;cases hj
  have hil:i<k.rows.length:=by
   rcases cA i k.rows.length with hlt|hge
   ·exact hlt
   ·rw [bF hge] at hi;cases hi
  have hlt:i*k.esz+j<arr.size:=by
   have h2:(i+1)*k.esz<=k.rows.length*k.esz:=bt _ hil
   rw [Nat.add_mul,cB] at h2
   omega
  refine ⟨arr.getD (i*k.esz+j) undef, ?_,hv i row j v hi hj⟩
  simp [World.cell?,hh,hlt,aL hlt]
theorem a2l [Frame] {row:List V} {c off:Nat} {g:Option Nat} {t:TypeId} {o:Nat} {v:V} (R:b30 μ h w row c off) (hg:OY P t=some g) (hp:part g row o=some v):
 ∃x,(loadVar t ⟨c,off+o,none⟩).run P w= .ok x w/\aX μ h w v x:=by
 obtain ⟨hr,hn⟩:=a4C hg w
 cases g with
 |none=>
  simp only [part] at hp
  obtain ⟨y,hy,hv⟩:=R.cell o v hp
  refine ⟨y, ?_,hv⟩
  simp [loadVar,hr,hy]
 |some n=>
  simp only [part] at hp
  split at hp
  ·rename_i hle
   cases hp
   have hsz:=fD (hn n rfl) w
   let fn:Nat->Value:=fun j=>(w.cell? ⟨c,off+o+j,none⟩).getD undef
   have hcell: ∀j,j<n->w.cell? ⟨c,off+o+j,none⟩=some (fn j):=by
    intro j hj
    obtain ⟨y,hy,_⟩:=R.cell (o+j) row[o+j] (aq (by omega))
    show _=some ((w.cell? ⟨c,off+o+j,none⟩).getD undef)
    rw [show off+o+j=off+(o+j) by omega,hy];rfl
   refine ⟨.agg ((Array.range n).map fn), ?_, ?_⟩
   ·simp [loadVar,hr,hsz,sB hcell]
   ·refine .agg _ _ (by simp;omega) (fun v hv=>R.one v (cc (cp hv))) (fun i v hi=> ?_)
    rw [j8] at hi
    split at hi
    ·rename_i hin
     rw [gz] at hi
     obtain ⟨y,hy,hv⟩:=R.cell (o+i) v hi
     have he:fn i=y:=by
      show (w.cell? ⟨c,off+o+i,none⟩).getD undef=y
      rw [show off+o+i=off+(o+i) by omega,hy];rfl
     have:((Array.range n).map fn).getD i undef=y:=by
      simp [hin,he]
     rw [this];exact hv
    ·cases hi
  ·cases hp
theorem a3D [Frame] {row:List V} {o:Nat} {x:Value} (hv:aX μ h w (.iptr row o) x): ∃c off,x= .pointer (some ⟨c,off+o,none⟩)/\b30 μ h w row c off:=by
 cases hv with
 |iptr _ _ c off ys hc hs hrow hcell hv=>
  refine ⟨c,off,rfl,⟨fun j v hj=> ?_,fun v hv=>(hrow v hv).2⟩⟩
  have hjl:j<row.length:=by
   rcases cA j row.length with hlt|hge
   ·exact hlt
   ·rw [bF hge] at hj;cases hj
  exact ⟨ys j,hcell j hjl,hv j v hj⟩
theorem a5Q [Frame] {b i o n:Nat} {x:Value} {k:Blk} (hv:aX μ h w (.ptr b i o n) x) (hb:h b=some k) (hn:k.rows.length=n) (hi:i<n) (h0:0<k.esz):
 ∃c,μ b=some c/\x= .pointer (some ⟨c,i*k.esz+o,none⟩):=by
 cases hv with
 |ptr _ _ _ _ _ k' hk' hn' hx hp hmp=>
  rw [hb] at hk';cases hk'
  exact hp (by omega) hn hi
theorem XN [Frame] (H:bD μ h w) {av v:V} {x:Value} {g:Option Nat} {t:TypeId} (hx:aX μ h w av x) (hg:OY P t=some g) (hr:yM g h av=some v):
 ∃c off y,x= .pointer (some ⟨c,off,none⟩)/\(loadVar t ⟨c,off,none⟩).run P w= .ok y w/\aX μ h w v y:=by
 cases av with
 |ptr b i o n=>
  simp only [yM] at hr
  cases hb:h b with
  |none=>rw [hb] at hr;cases hr
  |some k=>
   rw [hb] at hr
   dsimp only at hr
   split at hr
   ·rename_i hn
    cases hi:k.rows[i]? with
    |none=>rw [hi] at hr;cases hr
    |some row=>
     rw [hi] at hr
     obtain ⟨c,hm,R,hl,h0⟩:=K2 H hb hi (TU H hx hb hi)
     have hil:i<n:=by
      rw [<-hn]
      rcases cA i k.rows.length with hlt|hge
      ·exact hlt
      ·rw [bF hge] at hi;cases hi
     obtain ⟨c',hm',rfl⟩:=a5Q hx hb hn hil h0
     rw [hm] at hm';cases hm'
     obtain ⟨y,hy,hv⟩:=a2l R hg hr
     exact ⟨c,i*k.esz+o,y,rfl,hy,hv⟩
   ·cases hr
 |iptr row o=>
  simp only [yM] at hr
  obtain ⟨c,off,rfl,R⟩:=a3D hx
  obtain ⟨y,hy,hv⟩:=a2l R hg hr
  exact ⟨c,off+o,y,rfl,hy,hv⟩
 |_=>simp [yM] at hr
theorem b6i [Frame] (H:bD μ h w) (E:gj μ h w f a) {o:Oper} {t:TypeId} {x:Operand} {y:Opd} {g:Option Nat} (ho:o.op= .load t x) (hx:bC x=some y) (hg:OY P t=some g) {v:V}
 (hs:yM g h (y.ev f)=some v):iC P o a μ h w v []:=by
 obtain ⟨c,off,y',hx',hy,hv⟩:=XN H (bP E hx) hg hs
 exact .quiet H (by simp [execOp,ho,Instr.loadAt,Instr.sureAddr,hx',hy]) hv
theorem nv.sub [Frame] {μ μ':Mu} {w:World} (hs: ∀b c,μ' b=some c->μ b=some c):nv μ w μ' w:=
 ⟨rfl,rfl,rfl,aw _,aw _,(fun c _ h=>⟨rfl,(fun b hb=>h.1 b (hs b c hb)),h.2⟩),fun _ _=>rfl⟩
theorem M3 [Frame] (H:bD μ h w) {b s n:Nat} {k:Blk} {x:Value} (hb:h b=some k) (hop:k.op=false) (h0:0<k.esz) (hn:s+n=k.rows.length) (hv:aX μ h w (.sl b s n) x)
 {μ':Mu} (h':aZ) (hm:μ' b=none) (hsub: ∀b c,μ' b=some c->μ b=some c):aX μ' h' w (.imm k.esz (k.rows.drop s)) x:=by
 cases hv with
 |sl _ _ _ _ k' hk' hn' hx hp=>
  rw [hb] at hk';cases hk'
  obtain ⟨ad,cap,rfl,hok⟩:=hp (by omega) hn
  have hlen:(k.rows.drop s).length=n:=by simp;omega
  by_cases hz:n=0
  ·have:k.rows.drop s=[]:=bU (by omega)
   rw [this,hz]
   exact .imm0 _ _ _ (by omega)
  ·rcases hok with ⟨h1,_⟩|⟨c,hc,rfl,hcap,hnc⟩
   ·exact absurd h1 hz
   ·have hst:pS μ' c:=by
     refine ⟨fun b' hb'=> ?_,H.frame _ _ hc⟩
     have h1:=hsub b' c hb'
     have h2:=H.inj _ _ _ h1 hc
     rw [h2,hm] at hb';cases hb'
    rcases H.blk b k hb with ⟨h1,_,_⟩|⟨_,c',arr,t,lo,hi,hm',hh,hf,hl,hv⟩|⟨_,ho,_⟩
    ·rw [h1] at hn;simp at hn;omega
    rotate_left
    ·rw [hop] at ho;cases ho
    ·rw [hc] at hm';cases hm'
     have hrw:=H.rows b k hb
     rw [<-hlen]
     have hsz: ∀i j,i<n->j<k.esz->s*k.esz+(i*k.esz+j)<arr.size:=by
      intro i j hi hj
      have h2:(s+i+1)*k.esz<=k.rows.length*k.esz:=bt _ (by omega)
      rw [Nat.add_mul,Nat.add_mul,cB] at h2
      omega
     refine .imm k.esz (k.rows.drop s) c (s*k.esz) cap (fun i j=>arr.getD (s*k.esz+(i*k.esz+j)) undef) h0 (by intro e;rw [e] at hlen;simp at hlen;omega) (by omega) (H.lt hc) hst
      (fun row hrow=>⟨(hrw row (cc hrow)).1 h0,fun v hv=>⟨((hrw row (cc hrow)).2 v hv).2 hop,((hrw row (cc hrow)).2 v hv).1⟩⟩)
      (fun i j hi hj=> ?_) (fun i row j v hi hj=> ?_)
     ·have:=hsz i j (by omega) hj
      simp [World.cell?,hh,this,aL this]
     ·rw [gz] at hi
      have hmem:=an hi
      have:=hv (s+i) row j v hi hj
      rw [Nat.add_mul,fA] at this
      exact this.closed h' (nv.sub hsub) (((hrw row hmem).2 v (an hj)).2 hop)
theorem QL [Frame] (H:bD μ h w) {v v':V} {bs:List Nat} {x:Value} (hs:rZ h v=some (v',bs)) (hv:aX μ h w v x)
 {μ':Mu} (h':aZ) (hm: ∀b∈bs,μ' b=none) (hsub: ∀b c,μ' b=some c->μ b=some c):aX μ' h' w v' x/\v'.cl=true/\v'.cell=true/\ ∀b∈bs, ∃k,h b=some k:=by
 have other: ∀v:V,(if v.cl&&v.cell then some (v,([]:List Nat)) else none)=some (v',bs)->aX μ h w v x->aX μ' h' w v' x/\v'.cl=true/\v'.cell=true/\ ∀b∈bs, ∃k,h b=some k:=by
  intro v h1 h2
  split at h1
  ·rename_i hc
   cases h1
   simp only [aC] at hc
   exact ⟨h2.closed h' (nv.sub hsub) hc.1,hc.1,hc.2,fun b hb=>by cases hb⟩
  ·cases h1
 cases v with
 |sl b s n=>
  simp only [rZ] at hs
  cases hb:h b with
  |none=>rw [hb] at hs;cases hs
  |some k=>
   rw [hb] at hs
   dsimp only at hs
   split at hs
   ·rename_i hc
    cases hs
    exact ⟨M3 H hb hc.1 hc.2.1 hc.2.2 hv h' (hm b (by simp)) hsub,rfl,rfl,fun b' hb'=>by simp at hb';subst hb';exact ⟨k,hb⟩⟩
   ·cases hs
 |lit y=>exact other (.lit y) hs hv
 |agg cs=>exact other (.agg cs) hs hv
 |tup cs=>exact other (.tup cs) hs hv
 |ptr b i o n=>exact other (.ptr b i o n) hs hv
 |imm e r=>exact other (.imm e r) hs hv
 |iptr r o=>exact other (.iptr r o) hs hv
 |fn f cs=>exact other (.fn f cs) hs hv
 |undef=>exact other .undef hs hv
 |mp b=>exact other (.mp b) hs hv
theorem HI [Frame] (H:bD μ h w) {μ':Mu} (h':aZ) (hsub: ∀b c,μ' b=some c->μ b=some c): ∀{vs vs':List V} {bs:List Nat} (g:Nat->Value),nJ h vs=some (vs',bs)->
 (∀j v,vs[j]? =some v->aX μ h w v (g j))->(∀b∈bs,μ' b=none)->
 vs'.length=vs.length/\(∀j v,vs'[j]? =some v->aX μ' h' w v (g j))/\(∀v∈vs',v.cl=true/\v.cell=true)/\ ∀b∈bs, ∃k,h b=some k
 |[],vs',bs,g,hs,hv,hm=>by
  simp [nJ] at hs
  obtain ⟨rfl,rfl⟩:=hs
  exact ⟨rfl,fun j v hj=>by simp at hj,fun v hv=>by simp at hv,fun b hb=>by simp at hb⟩
 |v::vs,vs',bs,g,hs,hv,hm=>by
  simp only [nJ] at hs
  split at hs
  ·rename_i v1 bs1 r1 bs2 h1 h2
   cases hs
   obtain ⟨a1,a2,a3,a4⟩:=QL H h1 (hv 0 v rfl) h' (fun b hb=>hm b (by simp [hb])) hsub
   obtain ⟨b1,b2,b3,b4⟩:=HI H h' hsub (fun j=>g (j+1)) h2 (fun j u hj=>hv (j+1) u (by simpa using hj)) (fun b hb=>hm b (by simp [hb]))
   refine ⟨by simp [b1],fun j u hj=> ?_,fun u hu=> ?_,fun b hb=> ?_⟩
   ·cases j with
    |zero=>simp at hj;subst hj;exact a1.cz
    |succ j=>exact b2 j u (by simpa using hj)
   ·rcases bc.1 hu with rfl|hu
    ·exact ⟨a8q a2,KK a3⟩
    ·exact b3 u hu
   ·rcases aW.1 hb with hb|hb
    ·exact a4 b hb
    ·exact b4 b hb
  ·cases hs
theorem Yx.trans {μ1 μ2:Mu} {h1 h2:aZ} {w1 w2:World} (a:Yx μ h w μ1 h1 w1) (b:Yx μ1 h1 w1 μ2 h2 w2):Yx μ h w μ2 h2 w2:=by
 intro b0 k hk
 obtain ⟨k1,hk1,r1⟩:=a b0 k hk
 obtain ⟨k2,hk2,r2⟩:=b b0 k1 hk1
 refine ⟨k2,hk2, ?_⟩
 rcases r2 with r2|⟨e2,p2,l2⟩|⟨e2,o2,l2,m2,s2⟩
 ·exact .inl r2
 ·rcases r1 with r1|⟨e1,p1,l1⟩|⟨e1,o1,l1,m1,s1⟩
  ·omega
  ·exact .inr (.inl ⟨e2.trans e1,by omega,by omega⟩)
  ·exact .inr (.inl ⟨e2.trans e1,by omega,by omega⟩)
 ·rcases r1 with r1|⟨e1,p1,l1⟩|⟨e1,o1,l1,m1,s1⟩
  ·exact .inl ⟨e2.trans r1.1,(o2 r1.1).trans r1.2⟩
  ·exact .inr (.inl ⟨e2.trans e1,by omega,by omega⟩)
  ·exact .inr (.inr ⟨e2.trans e1,fun h0=>(o2 (by omega)).trans (o1 h0),l2.trans l1,m2.trans m1,fun c hc=>(s2 c (by rw [m1];exact hc)).trans (s1 c hc)⟩)
theorem Chg.trans [Frame] {μ1 μ2:Mu} {h1 h2:aZ} {w1 w2:World} (a:Chg μ h w μ1 h1 w1) (b:Chg μ1 h1 w1 μ2 h2 w2):Chg μ h w μ2 h2 w2:=⟨a.ev.trans b.ev,a.refs.trans b.refs⟩
theorem b4t [Frame] {μ:Mu} {h:aZ} {w:World}: ∀(bs:List Nat),(∀b∈bs, ∃k,h b=some k)->bD μ h w->
 ∃μ',bD μ' (fX h (jo bs)) w/\Chg μ h w μ' (fX h (jo bs)) w/\(∀b∈bs,μ' b=none)/\(∀b c,μ' b=some c->μ b=some c)/\ ∀b,b∉bs->μ' b=μ b/\fX h (jo bs) b=h b:=by
 intro bs
 induction bs generalizing μ h with
 |nil=>exact fun _ H=>⟨μ,H,Chg.refl _ _ _,(fun b hb=>by simp at hb),(fun b c h=>h),(fun b _=>⟨rfl,rfl⟩)⟩
 |cons b bs ih=>
  intro hd H
  obtain ⟨k,hk⟩:=hd b (by simp)
  obtain ⟨H1,C1⟩:=H.kill hk
  obtain ⟨μ',H2,C2,hm,hsub,hoth⟩:=ih (μ:=cE μ b none) (h:=bV h b nG) (fun b' hb'=>by
   by_cases e:b'=b
   ·exact ⟨nG,by simp [bV,e]⟩
   ·obtain ⟨k',hk'⟩:=hd b' (by simp [hb']);exact ⟨k',by simp [bV,e,hk']⟩) H1
  have hsub': ∀b' c,cE μ b none b'=some c->μ b'=some c:=by
   intro b' c h1
   unfold cE at h1
   split at h1
   ·cases h1
   ·exact h1
  refine ⟨μ',H2,C1.trans C2,fun b' hb'=> ?_,fun b' c h1=>hsub' b' c (hsub b' c h1),fun b' hb'=> ?_⟩
  ·rcases bc.1 hb' with rfl|hb'
   ·cases hmu:μ' b' with
    |none=>rfl
    |some c=>have:=hsub b' c hmu;simp [cE] at this
   ·exact hm b' hb'
  ·simp only [bc,not_or] at hb'
   obtain ⟨h1,h2⟩:=hoth b' hb'.2
   exact ⟨by rw [h1];simp [cE,hb'.1],by show fX (bV h b nG) (jo bs) b'=h b';rw [h2];simp [bV,hb'.1]⟩
theorem rQ (h:aZ) (u v:Upd):fX h (u++v)=fX (fX h u) v:=by
 induction u generalizing h with
 |nil=>rfl
 |cons x u ih=>exact ih _
end
end
section
section
variable {P:Program} {μ:Mu} {h:aZ} {w:World} {f:Nat->V} {a:Act}
theorem cS {α:Type} {l:List α} {i:Nat} {x:α} (h:l[i]? =some x):i<l.length:=by
 rcases cA i l.length with hlt|hge
 ·exact hlt
 ·rw [bF hge] at h;cases h
theorem wM {α:Type} (l cs:List α) (o:Nat) (h:o+cs.length<=l.length) (j:Nat):
 (l.take o++(cs++l.drop (o+cs.length)))[j]? =if o<=j/\j<o+cs.length then cs[j-o]? else l[j]? :=by
 by_cases h1:j<o
 ·rw [aa (by omega),bI (by simp;omega),j8,ae h1]
 ·rw [bS (by simp;omega)]
  have ht:(l.take o).length=o:=by simp;omega
  rw [ht]
  by_cases h2:j<o+cs.length
  ·rw [ae ⟨by omega,h2⟩,bI (by omega)]
  ·rw [aa (by omega),bS (by omega),gz]
   congr 1
   omega
theorem GD {α:Type} (l cs:List α) (o:Nat) (h:o+cs.length<=l.length):(l.take o++(cs++l.drop (o+cs.length))).length=l.length:=by
 simp;omega
theorem a8O [Frame] (H:bD μ h w) {b i o:Nat} {k:Blk} {row cs:List V} {xs:List Value} {c:Nat} (hb:h b=some k) (hi:k.rows[i]? =some row) (h00:0<k.esz) (hm:μ b=some c)
 (hlen:xs.length=cs.length) (ho:o+cs.length<=row.length) (hrel: ∀j v,cs[j]? =some v->aX μ h w v (xs.getD j undef)) (hcell: ∀v∈cs,v.cell=true/\(k.op=false->v.cl=true)):
 ∃w' μ',(storeCells ⟨c,i*k.esz+o,none⟩ xs).run P w= .ok () w'/\
  bD μ' (bV h b { k with rows:=k.rows.set i (row.take o++(cs++row.drop (o+cs.length))) }) w'/\
  Chg μ h w μ' (bV h b { k with rows:=k.rows.set i (row.take o++(cs++row.drop (o+cs.length))) }) w':=by
 have hmem:=an hi
 have hrw:=H.rows b k hb
 have hil:=cS hi
 rcases H.blk b k hb with ⟨h1,_,_⟩|⟨h0,c',arr,t,lo,hi',hm',hh,hf,hl,hv⟩|⟨h0,_⟩
 ·rw [h1] at hmem;cases hmem
 rotate_left
 ·omega
 ·rw [hm] at hm';cases hm'
  have hrl:=(hrw row hmem).1 h00
  have hle:(i+1)*k.esz<=k.rows.length*k.esz:=bt _ hil
  rw [Nat.add_mul,cB] at hle
  have hone: ∀x∈xs,ck x=true:=by
   intro x hx
   obtain ⟨j,hj,rfl⟩:=bq hx
   have hjc:j<cs.length:=by omega
   have h2:=hrel j cs[j] (aq hjc)
   have h3:=h2.oneCell (hcell _ (aY hjc)).1
   simpa [bp,aq hj] using h3
  obtain ⟨arr',hrun,hsz,hval⟩:=mM (P:=P) (o:=i*k.esz+o) xs 0 arr w hh hf.at (by omega) hone
  have hlt:=ot hh
  have hput:=H.put (w':=hO w c arr' t (lo,hi')) (c:=c) (k':={ k with rows:=k.rows.set i (row.take o++(cs++row.drop (o+cs.length))) }) hb h0 (.inl hm)
   rfl rfl rfl (by rw [vD];exact aw _) (aw _) (fun c' _ hne=>Cp hne) (rF hlt) (by rw [hsz];exact hf) rfl (by simpa [hsz] using hl)
   (fun row' hrow'=>by
    rcases dQ hrow' with h2|h2
    ·exact ⟨(hrw row' h2).1 h00,(hrw row' h2).2⟩
    ·subst h2
     refine ⟨by rw [GD _ _ _ ho];exact hrl,fun v hv=> ?_⟩
     rcases aW.1 hv with h3|h3
     ·exact (hrw row hmem).2 v (cp h3)
     ·rcases aW.1 h3 with h4|h4
      ·exact hcell v h4
      ·exact (hrw row hmem).2 v (cc h4))
   (.inr ⟨by simp,hm,by unfold bsize;rw [hh];exact hsz⟩)
   (fun i2 row2 j v h2 h3=>by
    simp only at h2 ⊢
    have hval':=hval (i2*k.esz+j)
    simp only [cQ] at hval'
    rw [hval']
    rw [fC] at h2
    by_cases e:i=i2
    ·subst e
     rw [ae rfl,ae hil] at h2
     cases h2
     rw [wM _ _ _ ho] at h3
     by_cases hin:o<=j/\j<o+cs.length
     ·rw [ae hin] at h3
      rw [ae (by omega)]
      have:=hrel (j-o) v h3
      rwa [show i*k.esz+j-(i*k.esz+o)=j-o by omega]
     ·rw [aa hin] at h3
      rw [aa (by omega)]
      exact hv i row j v hi h3
    ·rw [aa e] at h2
     have hjl:j<k.esz:=by have:=cS h3;have:=(hrw row2 (an h2)).1 h00;omega
     have hni: ¬(i*k.esz+o<=i2*k.esz+j/\i2*k.esz+j<i*k.esz+o+xs.length):=by
      intro hc
      have hr1:i*k.esz<(i2+1)*k.esz:=by rw [Nat.add_mul,cB];omega
      have hr2:i2*k.esz<(i+1)*k.esz:=by rw [Nat.add_mul,cB];omega
      have:=dL hr1
      have:=dL hr2
      omega
     rw [aa hni]
     exact hv i2 row2 j v h2 h3)
  exact ⟨_,_,hrun,hput.1,hput.2⟩
theorem Xn {x:Value} (j:Nat):x.cells.toList.getD j undef=x.cells.getD j undef:=by
 simp [bp,Array.getD_eq_getD_getElem?]
theorem Xl [Frame] (H:bD μ h w) (E:gj μ h w f a) {C:cg} {ow:FuncId->List Nat} {o:Oper} {t:TypeId} {x y:Operand} {x' y':Opd} {s:Nat} (hop:o.op= .store t x y) (hx:bC x=some x') (hy:bC y=some y')
 (hsz:jI P t=some s) {new:Nat} {v:V} {u:Upd} (hs:aN C ow (.store s x' y') (Opd.ev f) h new=some (v,u)):iC P o a μ h w v u:=by
 have hvx:=bP E hx
 have hvy:=bP E hy
 simp only [aN] at hs
 cases hax:x'.ev f with
 |ptr b i o' n=>
  rw [hax] at hs hvx
  dsimp only at hs
  cases hb:h b with
  |none=>rw [hb] at hs;cases hs
  |some k=>
   rw [hb] at hs
   dsimp only at hs
   split at hs
   ·rename_i hn
    cases hi:k.rows[i]? with
    |none=>rw [hi] at hs;cases hs
    |some row=>
     rw [hi] at hs
     dsimp only at hs
     obtain ⟨c,hm,R,hrl,h0⟩:=K2 H hb hi (TU H hvx hb hi)
     obtain ⟨c',hm',hxe⟩:=a5Q hvx hb hn (by rw [<-hn];exact cS hi) h0
     rw [hm] at hm';cases hm'
     have hsize:=fD hsz
     split at hs
     ·rename_i hopn
      split at hs
      ·rename_i hc
       cases hs
       obtain ⟨hc1,hc2,hc3⟩:=hc
       obtain ⟨g1,g2⟩:=hvy.cellsRel hc3
       obtain ⟨w',μ',hrun,hH,hC⟩:=a8O (P:=P) H hb hi h0 hm (cs:=(y'.ev f).cells) (xs:=(a.eval y).cells.toList) (o:=o') (by rw [Array.length_toList];exact g1) (by omega)
        (fun j v hj=>by rw [Xn];exact g2 j v hj) (fun v hv=>⟨aB.1 hc3 v hv,fun e=>by rw [hopn] at e;cases e⟩)
       rw [hc1] at hH hC
       refine ⟨undef,w',μ',.inr ⟨?_,rfl⟩,hH,hC,.unk _⟩
       simp [execOp,hop,Instr.storeAt,Instr.sureAddr,hxe,storeVar,hsize,g1,hc1,hrun]
      ·cases hs
     ·rename_i hopn
      split at hs
      ·rename_i cs bs hsn
       split at hs
       ·rename_i hc
        cases hs
        obtain ⟨hc1,hc2,hc3⟩:=hc
        have hsn0:=hsn
        have hall:(y'.ev f).cells.all V.cell=true:=by
         rw [aB]
         intro v hv
         exact snaps_cell hsn v hv
        obtain ⟨g1,g2⟩:=hvy.cellsRel hall
        have hdom:=(HI H h (μ':=fun _=>none) (fun b c e=>by cases e) (fun j=>(a.eval y).cells.getD j undef) hsn g2 (fun b _=>rfl)).2.2.2
        obtain ⟨μ1,H1,C1,hk1,hsub,hoth⟩:=b4t bs hdom H
        obtain ⟨q1,q2,q3,_⟩:=HI H (fX h (jo bs)) hsub (fun j=>(a.eval y).cells.getD j undef) hsn g2 hk1
        obtain ⟨hmb,hhb⟩:=hoth b hc3
        obtain ⟨w',μ',hrun,hH,hC⟩:=a8O (P:=P) H1 (by rw [hhb];exact hb) hi h0 (by rw [hmb];exact hm) (cs:=cs) (xs:=(a.eval y).cells.toList) (o:=o') (by rw [Array.length_toList,g1,q1]) (by omega)
         (fun j v hj=>by rw [Xn];exact q2 j v hj) (fun v hv=>⟨(q3 v hv).2,fun _=>(q3 v hv).1⟩)
        rw [hc1] at hH hC
        refine ⟨undef,w',μ',.inr ⟨?_,rfl⟩, ?_, ?_,.unk _⟩
        ·simp [execOp,hop,Instr.storeAt,Instr.sureAddr,hxe,storeVar,hsize,g1, <-q1,hc1,hrun]
        ·rw [rQ];exact hH
        ·rw [rQ];exact C1.trans hC
       ·cases hs
      ·cases hs
   ·cases hs
 |_=>rw [hax] at hs;cases hs
where
 snaps_cell: ∀{vs vs':List V} {bs:List Nat},nJ h vs=some (vs',bs)-> ∀v∈vs,v.cell=true
  |[],_,_,_,v,hv=>by cases hv
  |x::vs,vs',bs,hs,v,hv=>by
   simp only [nJ] at hs
   split at hs
   ·rename_i v1 bs1 r1 bs2 h1 h2
    rcases bc.1 hv with rfl|hv
    ·cases v<;>first
      |rfl
      | (simp [rZ] at h1;done)
      | (simp only [rZ] at h1;split at h1<;>simp_all [V.cell,V.cl])
    ·exact snaps_cell h2 v hv
   ·cases hs
end
end
section
section
variable {P:Program} {μ:Mu} {h:aZ} {w:World} {f:Nat->V} {a:Act}
theorem a5l {α β:Type} (g:α->Sem β) (gv:α->β) (w:World): ∀(l:List α),(∀x∈l,(g x).run P w= .ok (gv x) w)->(l.mapM g).run P w= .ok (l.map gv) w
 |[],_=>by simp
 |x::l,hl=>by
  rw [List.mapM_cons]
  have h1:=hl x (by simp)
  have h2:=a5l g gv w l (fun y hy=>hl y (by simp [hy]))
  simp [h1,h2]
def KO [Frame] (μ:Mu) (h:aZ) (w:World) (cs:List V) (arr:Array Value):Prop:=
 arr.size=cs.length/\(∀v∈cs,v.cell=true)/\ ∀j v,cs[j]? =some v->aX μ h w v (arr.getD j undef)
theorem b5F (xs:List Value) (off n:Nat): ∀(arr:Array Value),off+n+xs.length<=arr.size->
 ((xs.zipIdx n).foldl (fun cs (p:Value×Nat)=>cs.setIfInBounds (off+p.2) p.1) arr).size=arr.size/\
 ∀j,((xs.zipIdx n).foldl (fun cs (p:Value×Nat)=>cs.setIfInBounds (off+p.2) p.1) arr).getD j undef=
  if off+n<=j/\j<off+n+xs.length then xs.getD (j-(off+n)) undef else arr.getD j undef:=by
 induction xs generalizing n with
 |nil=>intro arr _;exact ⟨rfl,fun j=>by rw [aa (by simp only [ai];omega)];rfl⟩
 |cons x xs ih=>
  intro arr hle
  simp only [ah] at hle
  simp only [List.zipIdx_cons,py]
  obtain ⟨h1,h2⟩:=ih (n+1) (arr.setIfInBounds (off+n) x) (by rw [dX];omega)
  refine ⟨by rw [h1,dX],fun j=> ?_⟩
  rw [h2 j]
  simp only [ah]
  by_cases e:j=off+n
  ·subst e
   rw [aa (by omega),ae (by omega)]
   have hi:off+n<arr.size:=by omega
   simp [hi]
  ·have hne:(arr.setIfInBounds (off+n) x).getD j undef=arr.getD j undef:=by
    rw [Array.getD_eq_getD_getElem?,Array.getD_eq_getD_getElem?,Array.getElem?_setIfInBounds_ne (Ne.symm e)]
   rw [hne]
   by_cases h3:off+(n+1)<=j/\j<off+(n+1)+xs.length
   ·rw [ae h3,ae (by omega)]
    have:j-(off+n)=(j-(off+(n+1)))+1:=by omega
    rw [this];simp
   ·rw [aa h3,aa (by omega)]
theorem Mn [Frame] (x:Array Value) (off:Nat) (arr:Array Value) (hle:off+x.size<=arr.size):
 (x.zipIdx.foldl (fun cs (p:Value×Nat)=>cs.setIfInBounds (off+p.2) p.1) arr).size=arr.size/\
 ∀j,(x.zipIdx.foldl (fun cs (p:Value×Nat)=>cs.setIfInBounds (off+p.2) p.1) arr).getD j undef=
  if off<=j/\j<off+x.size then x.getD (j-off) undef else arr.getD j undef:=by
 have:=b5F x.toList off 0 arr (by simpa using hle)
 rw [<-Array.foldl_toList,Array.toList_zipIdx]
 refine ⟨this.1,fun j=> ?_⟩
 rw [this.2 j]
 simp only [cQ,Array.length_toList]
 by_cases hc:off<=j/\j<off+x.size
 ·rw [ae hc,ae hc];simp [bp,Array.getD_eq_getD_getElem?]
 ·rw [aa hc,aa hc]
theorem Rp [Frame] (place:Nat->Option (Nat×Nat)): ∀(ps:List (Nat×Value)) (qs:List (Nat×Nat×V)) (cs cs':List V) (arr:Array Value),
 KO μ h w cs arr->Is cs qs=some cs'->ps.length=qs.length->
 (∀(j:Nat) (p:Nat×Value) (q:Nat×Nat×V),ps[j]? =some p->qs[j]? =some q->place p.1=some (q.1,q.2.1)/\aX μ h w q.2.2 p.2)->
 ∃arr',Instr.fill place arr ps=some arr'/\KO μ h w cs' arr'
 |[],[],cs,cs',arr,hc,hf,_,_=>by simp [Is] at hf;subst hf;exact ⟨arr,rfl,hc⟩
 |[],_::_,_,_,_,_,_,hl,_=>by simp at hl
 |_::_,[],_,_,_,_,_,hl,_=>by simp at hl
 |p::ps,q::qs,cs,cs',arr,hc,hf,hl,hr=>by
  obtain ⟨i,x⟩:=p
  obtain ⟨off,size,v⟩:=q
  obtain ⟨hpl,hv⟩:=hr 0 (i,x) (off,size,v) rfl rfl
  simp only [Is] at hf
  split at hf
  ·rename_i hcond
   obtain ⟨c1,c2,c3⟩:=hcond
   obtain ⟨g1,g2⟩:=hv.cellsRel c3
   obtain ⟨a1,a2,a3⟩:=hc
   dsimp only at hpl g1 g2
   obtain ⟨s1,s2⟩:=Mn x.cells off arr (by omega)
   have hnew:KO μ h w (cs.take off++(v.cells++cs.drop (off+size))) (x.cells.zipIdx.foldl (fun cs (p:Value×Nat)=>cs.setIfInBounds (off+p.2) p.1) arr):=by
    refine ⟨?_,fun u hu=> ?_,fun j u hj=> ?_⟩
    ·rw [s1,a1, <-c1,GD _ _ _ (by omega)]
    ·rcases aW.1 hu with hu|hu
     ·exact a2 u (cp hu)
     ·rcases aW.1 hu with hu|hu
      ·exact aB.1 c3 u hu
      ·exact a2 u (cc hu)
    ·rw [<-c1,wM _ _ _ (by omega)] at hj
     rw [s2 j]
     by_cases hin:off<=j/\j<off+v.cells.length
     ·rw [ae hin] at hj
      rw [ae (by omega)]
      exact g2 _ u hj
     ·rw [aa hin] at hj
      rw [aa (by omega)]
      exact a3 j u hj
   obtain ⟨arr',hfill,hrel⟩:=Rp place ps qs _ cs' _ hnew hf (by simpa using hl) (fun j p q hp hq=>hr (j+1) p q (by simpa using hp) (by simpa using hq))
   refine ⟨arr', ?_,hrel⟩
   simp only [Instr.fill,hpl]
   rw [aa (by
    intro hcon
    simp only [da,aG,ne_eq,gt_iff_lt] at hcon
    rcases hcon with h1|h1
    ·omega
    ·omega)]
   exact hfill
  ·cases hf
theorem a43 [Frame] {z:List Value} {zv:Value} (hz:zv.cells.toList=z) (hall:z.all ck=true):KO μ h w (z.map .lit) zv.cells:=by
 refine ⟨by rw [aM, <-hz];simp,fun v hv=> ?_,fun j v hj=> ?_⟩
 ·obtain ⟨y,hy,rfl⟩:=bu.1 hv;exact aB.1 hall y hy
 ·rw [aV] at hj
  cases hy:z[j]? with
  |none=>rw [hy] at hj;cases hj
  |some y=>
   rw [hy] at hj;cases hj
   have:zv.cells[j]? =some y:=by rw [<-Array.getElem?_toList,hz];exact hy
   simp only [Array.getD_eq_getD_getElem?,this,du]
   exact .lit y
theorem Oc [Frame] (E:gj μ h w f a) {fs:List Field}: ∀{ps:List (Nat×Operand)} {qs:List (Nat×Nat×Opd)},Hj P fs ps=some qs->
 qs.length=ps.length/\ ∀(j:Nat) (p:Nat×Operand) (q:Nat×Nat×Opd),ps[j]? =some p->qs[j]? =some q->(∃fd:Field,fs[p.1]? =some fd/\fd.offset=q.1/\jI P fd.type=some q.2.1)/\aX μ h w (q.2.2.ev f) (a.eval p.2)
 |[],qs,hq=>by simp [Hj] at hq;subst hq;exact ⟨rfl,fun j p q hp=>by simp at hp⟩
 | (i,x)::ps,qs,hq=>by
   simp only [Hj] at hq
   split at hq
   ·rename_i fd y r' h1 h2 h3
    split at hq
    ·rename_i s hs
     cases hq
     obtain ⟨l,r⟩:=Oc E h3
     refine ⟨by simp [l],fun j p q hp hqj=> ?_⟩
     cases j with
     |zero=>simp at hp hqj;subst hp;subst hqj;exact ⟨⟨fd,h1,rfl,hs⟩,bP E h2⟩
     |succ j=>exact r j p q (by simpa using hp) (by simpa using hqj)
    ·cases hq
   ·cases hq
theorem RX [Frame] (E:gj μ h w f a) {s:Nat}: ∀{ps:List (Nat×Operand)} {qs:List (Nat×Nat×Opd)},Nr s ps=some qs->
 qs.length=ps.length/\ ∀(j:Nat) (p:Nat×Operand) (q:Nat×Nat×Opd),ps[j]? =some p->qs[j]? =some q->(p.1*s=q.1/\s=q.2.1)/\aX μ h w (q.2.2.ev f) (a.eval p.2)
 |[],qs,hq=>by simp [Nr] at hq;subst hq;exact ⟨rfl,fun j p q hp=>by simp at hp⟩
 | (i,x)::ps,qs,hq=>by
   simp only [Nr] at hq
   split at hq
   ·rename_i y r' h2 h3
    cases hq
    obtain ⟨l,r⟩:=RX E h3
    refine ⟨by simp [l],fun j p q hp hqj=> ?_⟩
    cases j with
    |zero=>simp at hp hqj;subst hp;subst hqj;exact ⟨⟨rfl,rfl⟩,bP E h2⟩
    |succ j=>exact r j p q (by simpa using hp) (by simpa using hqj)
   ·cases hq
theorem H5 (ev:Opd->V): ∀(qs:List (Nat×Nat×Opd)),(iE ev qs).length=qs.length/\ ∀(j:Nat) (q:Nat×Nat×V),(iE ev qs)[j]? =some q-> ∃q0:Nat×Nat×Opd,qs[j]? =some q0/\q=(q0.1,q0.2.1,ev q0.2.2)
 |[]=>⟨rfl,fun j q h=>by simp [iE] at h⟩
 | (x,y,z)::qs=>by
   obtain ⟨l,r⟩:=H5 ev qs
   refine ⟨by simp [iE,l],fun j q hq=> ?_⟩
   cases j with
   |zero=>simp [iE] at hq;subst hq;exact ⟨_,rfl,rfl⟩
   |succ j=>simp only [iE,jg] at hq ⊢;exact r j q hq
theorem b1E [Frame] (H:bD μ h w) (E:gj μ h w f a) {o:Oper} {t:TypeId} {ps:Array (Nat×Operand)} {ao:AOp} (hop:o.op= .build t ps) (hc:dW P (.build t ps)=some ao)
 {C:cg} {ow:FuncId->List Nat} {new:Nat} {v:V} {u:Upd} (hs:aN C ow ao (Opd.ev f) h new=some (v,u)):iC P o a μ h w v u:=by
 simp only [dW] at hc
 split at hc
 ·rename_i fs z hu hz
  split at hc
  ·rename_i hall
   cases hq:Hj P fs.toList ps.toList with
   |none=>rw [hq] at hc;cases hc
   |some qs=>
    rw [hq] at hc;cases hc
    simp only [aN] at hs
    split at hs
    ·rename_i hcond
     split at hs
     ·rename_i cs hfill
      cases hs
      obtain ⟨i,zv,hi,hzv,hcs,hzr⟩:=rP hz
      obtain ⟨l1,r1⟩:=Oc (P:=P) E hq
      obtain ⟨l2,r2⟩:=H5 (Opd.ev f) qs
      let places:=fs.toList.map fun fd=>(fd.offset,(jI P fd.type).getD 0)
      obtain ⟨arr',hf',hrel⟩:=Rp (fun i=>places[i]?) (ps.toList.map fun p=>(p.1,a.eval p.2)) (iE (Opd.ev f) qs) (z.map .lit) cs zv.cells (a43 hcs hcond) hfill (by simp [l1,l2])
       (fun j p q hp hq'=>by
        rw [aV] at hp
        cases hpj:ps.toList[j]? with
        |none=>rw [hpj] at hp;cases hp
        |some p0=>
         rw [hpj] at hp;cases hp
         obtain ⟨q0,hq0,rfl⟩:=r2 j q hq'
         obtain ⟨⟨fd,h1,h2,h3⟩,h4⟩:=r1 j p0 q0 hpj hq0
         refine ⟨?_,h4⟩
         show (fs.toList.map _)[p0.1]? =_
         rw [aV,h1]
         simp [h2,h3])
      have hmap:(Array.mapM (fun f:Field=>Prod.mk f.offset<$>sizeOf f.type) fs).run P w= .ok places.toArray w:=by
       rw [Array.mapM_eq_mapM_toList]
       have:=a5l (P:=P) (fun f:Field=>Prod.mk f.offset<$>sizeOf f.type) (fun fd=>(fd.offset,(jI P fd.type).getD 0)) w fs.toList (fun fd hfd=>by
        have h1:=aB.1 hall fd hfd
        obtain ⟨s,hs⟩:=Option.isSome_iff_exists.1 h1
        simp [fD hs,hs])
       rw [Sem.run_map,this]
       rfl
      refine .quiet H (x:= .agg arr') ?_ (.agg _ _ hrel.1 hrel.2.1 hrel.2.2)
      have e1:(fun x:Nat=>places.toArray[x]?)=fun i=>places[i]? :=by funext i;simp
      simp only [execOp,hop,Instr.build]
      simp [hzr,run_underlying hu]
      rw [hmap]
      simp only [Result.andThen_ok]
      rw [e1,hf']
      rfl
     ·cases hs
    ·cases hs
  ·cases hc
 ·rename_i n e z hu hz
  split at hc
  ·rename_i s hsz
   cases hq:Nr s ps.toList with
   |none=>rw [hq] at hc;cases hc
   |some qs=>
    rw [hq] at hc;cases hc
    simp only [aN] at hs
    split at hs
    ·rename_i hcond
     split at hs
     ·rename_i cs hfill
      cases hs
      obtain ⟨i,zv,hi,hzv,hcs,hzr⟩:=rP hz
      obtain ⟨l1,r1⟩:=RX E hq
      obtain ⟨l2,r2⟩:=H5 (Opd.ev f) qs
      obtain ⟨arr',hf',hrel⟩:=Rp (fun i=>some (i*s,s)) (ps.toList.map fun p=>(p.1,a.eval p.2)) (iE (Opd.ev f) qs) (z.map .lit) cs zv.cells (a43 hcs hcond) hfill (by simp [l1,l2])
       (fun j p q hp hq'=>by
        rw [aV] at hp
        cases hpj:ps.toList[j]? with
        |none=>rw [hpj] at hp;cases hp
        |some p0=>
         rw [hpj] at hp;cases hp
         obtain ⟨q0,hq0,rfl⟩:=r2 j q hq'
         obtain ⟨⟨h1,h2⟩,h4⟩:=r1 j p0 q0 hpj hq0
         exact ⟨by simp [h1, <-h2],h4⟩)
      refine .quiet H (x:= .agg arr') ?_ (.agg _ _ hrel.1 hrel.2.1 hrel.2.2)
      simp only [execOp,hop,Instr.build]
      simp [hzr,run_underlying hu,fD hsz]
      rw [hf']
      rfl
     ·cases hs
    ·cases hs
  ·cases hc
 ·cases hc
end
end
end Go.AI
