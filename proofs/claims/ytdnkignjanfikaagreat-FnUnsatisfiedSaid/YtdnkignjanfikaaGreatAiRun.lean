/- Runs of the model's own operations, in the forms that the proofs of the abstract machine's operations ask for. -/
import Derived.Test.YtdnkignjanfikaaGreatAiRel
import Derived.Test.YtdnkignjanfikaaGreatAiComp
import Derived.Laws.AppendOwn
import Derived.Laws.MakeOwn
import Derived.ChangeKeysEq
set_option linter.unusedVariables false
set_option linter.unusedSimpArgs false
namespace Go.AI
theorem V7 (v:Value):ba v=v.oneCell':=by cases v<;>rfl
theorem dd {P:Program} {t:TypeId} {s:Nat} (h:g9 P t=some s) (w:World):(sizeOf t).run P w= .ok s w:=by
 unfold g9 at h
 cases hi:P.info? t with
 |none=>rw [hi] at h;cases h
 |some i=>rw [hi] at h;cases h;simp [sizeOf,typeInfo,hi]
theorem o5 {P:Program} {t:TypeId} {z:List Value} (h:yN P t=some z): ∃i v,P.info? t=some i∧i.zero=some v∧v.cells.toList=z∧ ∀w,(zeroValue t).run P w= .ok v w:=by
 unfold yN at h
 cases hi:P.info? t with
 |none=>rw [hi] at h;cases h
 |some i=>
  rw [hi] at h
  dsimp only at h
  cases hz:i.zero with
  |none=>rw [hz] at h;cases h
  |some v=>
   rw [hz] at h;cases h
   exact ⟨i,v,rfl,hz,rfl,fun w=>by simp [zeroValue,typeInfo,hi,hz]⟩
theorem nG {P:Program} {t e:TypeId} (h:Ro P t=some e):P.underlying t=some (.slice e):=by
 unfold Ro at h
 split at h
 ·cases h;assumption
 ·cases h
theorem WO {P:Program} {t:TypeId} {g:Option Nat} (h:Ln P t=some g) (w:World):
 (isAgg t).run P w= .ok g.isSome w∧ ∀n,g=some n→g9 P t=some n:=by
 unfold Ln at h
 split at h
 ·rename_i hu hi;cases h;exact ⟨by simp [isAgg,run_underlying hu],fun n hn=>by cases hn;simp [g9,hi]⟩
 ·rename_i hu hi;cases h;exact ⟨by simp [isAgg,run_underlying hu],fun n hn=>by cases hn;simp [g9,hi]⟩
 ·rename_i d i hns hna hu hi
  cases h
  refine ⟨?_,fun n hn=>by cases hn⟩
  cases d<;>first
   | (simp [isAgg,run_underlying hu];done)
   | (exfalso;exact hns _ rfl)
   | (exfalso;exact hna _ _ rfl)
 ·cases h
theorem pk {P:Program} {w:World} {c off n:Nat} {f:Nat→Value} (h: ∀j,j<n→w.cell? ⟨c,off+j,none⟩=some (f j)):
 (loadCells ⟨c,off,none⟩ n).run P w= .ok ((Array.range n).map f) w:=by
 have:=run_loadCells (P:=P) w ⟨c,off,none⟩ n f (fun j hj=>by
  unfold Addr.add
  by_cases h0:j=0
  ·subst h0;simpa using h 0 hj
  ·rw [if_neg h0];exact h j hj)
 rw [this]
 congr 1
 apply Array.ext'
 simp
def dV (w:World) (g:Nat) (arr:Array Value) (t:TypeId) (fz:Nat×Nat):World:={ w with heap:=w.heap.setIfInBounds g (.cells arr t fz) }
theorem o0 {w:World} {g:Nat} {arr:Array Value} {t:TypeId} {fz:Nat×Nat} (h:g<w.heap.size):(dV w g arr t fz).heap[g]? =some (.cells arr t fz):=by
 simp [dV,h]
theorem yU {w:World} {g c:Nat} {arr:Array Value} {t:TypeId} {fz:Nat×Nat} (h:c≠g):(dV w g arr t fz).heap[c]? =w.heap[c]? :=by
 simp [dV,Array.getElem?_setIfInBounds,Ne.symm h]
theorem sD {w:World} {g:Nat} {arr:Array Value} {t:TypeId} {fz:Nat×Nat}:(dV w g arr t fz).heap.size=w.heap.size:=by simp [dV]
theorem PH {w:World} {g:Nat} {arr arr':Array Value} {t t':TypeId} {fz fz':Nat×Nat}:dV (dV w g arr t fz) g arr' t' fz'=dV w g arr' t' fz':=by
 unfold dV
 congr 1
 apply Array.ext_getElem?
 intro k
 simp only [Array.getElem?_setIfInBounds,Array.size_setIfInBounds]
 by_cases e:g=k
 ·simp [e]
 ·simp [e]
theorem lf {w:World} {g:Nat} {o:Obj} (h:w.heap[g]? =some o):g<w.heap.size:=by
 rcases Nat.lt_or_ge g w.heap.size with h1|h1
 ·exact h1
 ·rw [Array.getElem?_eq_none h1] at h;cases h
theorem Nk {w:World} {g i:Nat} {arr:Array Value} {t:TypeId} {fz:Nat×Nat} (h:w.heap[g]? =some (.cells arr t fz)) (v:Value):
 w.setCell ⟨g,i,none⟩ v=dV w g (arr.setIfInBounds i v) t fz:=by
 unfold World.setCell dV
 congr 1
 apply Array.ext_getElem?
 intro k
 rw [Array.getElem?_modify,Array.getElem?_setIfInBounds]
 by_cases e:g=k
 ·subst e
  have:=lf h
  rw [if_pos rfl,h]
  simp [this]
 ·simp [e]
theorem j7 {P:Program} {g o:Nat} {t:TypeId} {lo hi:Nat}: ∀(vs:List Value) (i:Nat) (cur:Array Value) (w:World),w.heap[g]? =some (.cells cur t (lo,hi))→
 (∀k,lo≤k→k<hi→cur.size≤k)→o+i+vs.length≤cur.size→(∀v∈vs,ba v=true)→
 ∃arr,(storeCells ⟨g,o,none⟩ vs i).run P w= .ok () (dV w g arr t (lo,hi))∧arr.size=cur.size∧
  ∀k,arr.getD k undef=if o+i≤k∧k<o+i+vs.length then vs.getD (k-(o+i)) undef else cur.getD k undef
 |[],i,cur,w,hg,hf,hl,h1=>by
  refine ⟨cur, ?_,rfl,fun k=>by rw [if_neg (by simp only [List.length_nil];omega)]⟩
  simp only [storeCells,Sem.run_pure]
  congr 1
  unfold dV
  have:=lf hg
  have e:w.heap.setIfInBounds g (.cells cur t (lo,hi))=w.heap:=by
   apply Array.ext_getElem?
   intro k
   rw [Array.getElem?_setIfInBounds]
   by_cases e:g=k
   ·subst e;rw [if_pos rfl,if_pos this,hg]
   ·simp [e]
  rw [e]
 |v::vs,i,cur,w,hg,hf,hl,h1=>by
  have hlt:=lf hg
  have hadd:(⟨g,o,none⟩:Addr).add i=⟨g,o+i,none⟩:=by
   unfold Addr.add
   by_cases h0:i=0
   ·subst h0;rfl
   ·rw [if_neg h0]
  simp only [List.length_cons] at hl
  have hcell:w.cell? ⟨g,o+i,none⟩=some (cur.getD (o+i) undef):=by
   have hi:o+i<cur.size:=by omega
   simp [World.cell?,hg,hi,Array.getElem?_eq_getElem hi]
  have hfr:w.frozen? ⟨g,o+i,none⟩=false:=by
   simp only [World.frozen?,hg]
   by_cases h2:lo≤o+i∧o+i<hi
   ·have:=hf _ h2.1 h2.2;omega
   ·simp;omega
  have hone:v.oneCell'=true:=by rw [←V7];exact h1 v (by simp)
  have hstep:(store ((⟨g,o,none⟩:Addr).add i) v).run P w= .ok () (dV w g (cur.setIfInBounds (o+i) v) t (lo,hi)):=by
   rw [hadd,run_store P w _ v .plain hone,hcell]
   simp only [hfr,Bool.false_eq_true,if_false]
   rw [Nk hg]
  obtain ⟨arr,hr,hs,hv⟩:=j7 (P:=P) (o:=o) vs (i+1) (cur.setIfInBounds (o+i) v) (dV w g (cur.setIfInBounds (o+i) v) t (lo,hi)) (o0 hlt)
   (fun k a b=>by rw [Array.size_setIfInBounds];exact hf k a b) (by rw [Array.size_setIfInBounds];omega) (fun u hu=>h1 u (List.mem_cons_of_mem _ hu))
  refine ⟨arr, ?_,by rw [hs,Array.size_setIfInBounds],fun k=> ?_⟩
  ·simp only [storeCells,Sem.run_bind,hstep,Result.andThen_ok,hr,PH]
  ·rw [hv k]
   simp only [List.length_cons]
   by_cases e:k=o+i
   ·subst e
    rw [if_neg (by omega),if_pos (by omega)]
    have hi:o+i<cur.size:=by omega
    simp [hi]
   ·have hne:(cur.setIfInBounds (o+i) v).getD k undef=cur.getD k undef:=by
     rw [Array.getD_eq_getD_getElem?,Array.getD_eq_getD_getElem?,Array.getElem?_setIfInBounds_ne (Ne.symm e)]
    rw [hne]
    by_cases h2:o+(i+1)≤k∧k<o+(i+1)+vs.length
    ·rw [if_pos h2,if_pos (by omega)]
     have:k-(o+i)=(k-(o+(i+1)))+1:=by omega
     rw [this]
     simp
    ·rw [if_neg h2,if_neg (by omega)]
end Go.AI
set_option linter.unusedVariables false
set_option linter.unusedSimpArgs false
namespace Go.AI
section
variable {P:Program} {μ:Mu} {h:au} {w:World} {f:Nat→V} {a:Act}
def dF [Frame] (μ:Mu) (h:au) (w:World) (f:Nat→V) (a:Act):Prop:= ∀t,an μ h w (f t) (a.tmps.getD t undef)
theorem aS [Frame] (E:dF μ h w f a) {x:Operand} {y:Opd} (hx:aJ x=some y):an μ h w (y.ev f) (a.eval x):=by
 cases x with
 |tmp t=>simp [aJ] at hx;subst hx;exact E t
 |const v=>simp [aJ] at hx;subst hx;exact .lit v
 |global g=>simp [aJ] at hx
 |func k=>simp [aJ] at hx;subst hx;exact .fn k [] #[] rfl (fun i v h=>by simp at h)
def eV [Frame] (P:Program) (o:Oper) (a:Act) (μ:Mu) (h:au) (w:World) (v:V) (u:Upd):Prop:=
 ∃x w' μ',((execOp a.eval o).run P w= .ok (.value x) w'∨((execOp a.eval o).run P w= .ok .skip w'∧x=undef))∧
  aI μ' (dz h u) w'∧Chg μ h w μ' (dz h u) w'∧an μ' (dz h u) w' v x
theorem eV.quiet [Frame] {o:Oper} {v:V} {x:Value} (H:aI μ h w) (hr:(execOp a.eval o).run P w= .ok (.value x) w) (hv:an μ h w v x):eV P o a μ h w v []:=
 ⟨x,w,μ,.inl hr,H,Chg.refl _ _ _,hv⟩
def jD (w:World) (o:Obj):World:={ w with heap:=w.heap.push o }
theorem iZ (w:World) (o:Obj):wh w (jD w o):=
 ⟨rfl,rfl,rfl,by show _≤(w.heap.push o).size;rw [Array.size_push];omega,fun c hc=>by show (w.heap.push o)[c]? =_;rw [Array.getElem?_push,if_neg (Nat.ne_of_lt hc)],Nat.le_refl _⟩
theorem mO (w:World) (o:Obj):(jD w o).heap[w.heap.size]? =some o:=by show (w.heap.push o)[w.heap.size]? =_;rw [Array.getElem?_push,if_pos rfl]
theorem a1W [Frame] (H:aI μ h w) {new:Nat} (hn:h new=none) {cs:List V} {arr:Array Value} {t:TypeId} (h0:0<cs.length) (hsz:arr.size=cs.length)
 (hc: ∀v∈cs,v.cell=true) (hv: ∀j v,cs[j]? =some v→an μ h w v (arr.getD j undef)):
 aI (bk μ new (some w.heap.size)) (aW h new ⟨cs.length,true,[cs]⟩) (jD w (.cells arr t))∧
 Chg μ h w (bk μ new (some w.heap.size)) (aW h new ⟨cs.length,true,[cs]⟩) (jD w (.cells arr t))∧
 an (bk μ new (some w.heap.size)) (aW h new ⟨cs.length,true,[cs]⟩) (jD w (.cells arr t)) (.ptr new 0 0 1) (.pointer (some ⟨w.heap.size,0,none⟩)):=by
 have hnew:=H.new (iZ w (.cells arr t)) (b:=new) (c:=w.heap.size) (k:=⟨cs.length,true,[cs]⟩) hn (Nat.le_refl _)
  (arr:=arr) (t:=t) (lo:=0) (hi:=0) (mO w _) (.inl rfl) h0 (by simp [hsz])
  (fun row hrow=>by simp at hrow;subst hrow;exact ⟨rfl,fun v hv=>⟨hc v hv,fun h=>by cases h⟩⟩)
  (fun i row j v h1 h2=>by
   cases i with
   |zero=>simp at h1;subst h1;simpa using hv j v h2
   |succ i=>simp at h1)
 refine ⟨hnew.1,hnew.2,.ptr new 0 0 1 _ ⟨cs.length,true,[cs]⟩ (by simp [aW]) (.inr (by simp)) ⟨_,_,rfl⟩ (fun _ _ _=>⟨w.heap.size,by simp [bk],by simp⟩) (fun h=>absurd h (Nat.ne_of_gt h0))⟩
theorem nX {n:Nat} {k:Blk} {v:V} {r:V×Upd} (hf:jH h n k v=some r):h n=none∧0<k.esz∧r=(v,[(n,k)]):=by
 unfold jH at hf
 split at hf
 ·rename_i hc;cases hf;exact ⟨by simpa using hc.1,hc.2,rfl⟩
 ·cases hf
theorem a3w [Frame] (H:aI μ h w) {o:Oper} {t:TypeId} {z:List Value} (ho:o.op= .alloc t) (hz:yN P t=some z) {new:Nat} {v:V} {u:Upd}
 (hs:(if z.all ba then jH h new ⟨z.length,true,[z.map .lit]⟩ (.ptr new 0 0 1) else none)=some (v,u)):eV P o a μ h w v u:=by
 split at hs
 ·rename_i hall
  obtain ⟨hn,h0,hr⟩:=nX hs
  cases hr
  obtain ⟨i,zv,hi,hzv,hcs,hzr⟩:=o5 hz
  dsimp only at h0
  have hlen:zv.cells.size=(z.map V.lit).length:=by rw [List.length_map, ←hcs];simp
  have:=a1W H (new:=new) hn (cs:=z.map .lit) (arr:=zv.cells) (t:=t) (by simpa using h0) hlen
   (fun v hv=>by obtain ⟨y,hy,rfl⟩:=List.mem_map.1 hv;exact List.all_eq_true.1 hall y hy)
   (fun j v hj=>by
    rw [List.getElem?_map] at hj
    cases hy:z[j]? with
    |none=>rw [hy] at hj;cases hj
    |some y=>
     rw [hy] at hj;cases hj
     have:zv.cells[j]? =some y:=by rw [←Array.getElem?_toList,hcs];exact hy
     simp only [Array.getD_eq_getD_getElem?,this,Option.getD_some]
     exact .lit y)
  simp only [List.length_map] at this
  refine ⟨_,_,_,.inl ?_,this.1,this.2.1,this.2.2⟩
  simp [execOp,ho,Instr.alloc,hzr,newVar,newRow,jD]
 ·cases hs
theorem b5d [Frame] (H:aI μ h w) (E:dF μ h w f a) {o:Oper} {t:TypeId} {x:Operand} {y:Opd} {s:Nat} (ho:o.op= .box t x) (hx:aJ x=some y) {new:Nat} {v:V} {u:Upd}
 (hs:(if (y.ev f).cells.length=s∧(y.ev f).cells.all V.cell then jH h new ⟨s,true,[(y.ev f).cells]⟩ (.ptr new 0 0 1) else none)=some (v,u)):eV P o a μ h w v u:=by
 split at hs
 ·rename_i hc
  obtain ⟨hl,hall⟩:=hc
  subst hl
  obtain ⟨hn,h0,hr⟩:=nX hs
  cases hr
  dsimp only at h0
  have hv:=aS E hx
  obtain ⟨h1,h2⟩:=hv.cellsRel hall
  have:=a1W H (new:=new) hn (cs:=(y.ev f).cells) (arr:=(a.eval x).cells) (t:=t) h0 h1 (fun v hv=>List.all_eq_true.1 hall v hv) h2
  refine ⟨_,_,_,.inl ?_,this.1,this.2.1,this.2.2⟩
  simp [execOp,ho,Instr.box,newVar,newRow,jD]
 ·cases hs
structure b1F [Frame] (μ:Mu) (h:au) (w:World) (row:List V) (c off:Nat):Prop where
 cell: ∀j v,row[j]? =some v→ ∃y,w.cell? ⟨c,off+j,none⟩=some y∧an μ h w v y
 one: ∀v∈row,v.cell=true
theorem NR [Frame] (H:aI μ h w) {b i o n:Nat} {x:Value} {k:Blk} {row:List V} (hv:an μ h w (.ptr b i o n) x) (hb:h b=some k) (hi:k.rows[i]? =some row):0<k.esz:=by
 rcases H.blk b k hb with ⟨h1,_,_⟩|⟨h0,_⟩|⟨h0,ho,c,hm,hmb⟩
 ·rw [h1] at hi;simp at hi
 ·exact h0
 ·exfalso
  cases hv with
  |ptr _ _ _ _ _ k' hk' hn' hx hp hd=>
   rw [hb] at hk';cases hk'
   rw [hd h0] at ho;cases ho
theorem Gd [Frame] (H:aI μ h w) {b i:Nat} {k:Blk} {row:List V} (hb:h b=some k) (hi:k.rows[i]? =some row) (h00:0<k.esz):
 ∃c,μ b=some c∧b1F μ h w row c (i*k.esz)∧row.length=k.esz∧0<k.esz:=by
 have hmem:=List.mem_of_getElem? hi
 have hrow:=H.rows b k hb row hmem
 rcases H.blk b k hb with ⟨h1,_,_⟩|⟨h0,c,arr,t,lo,hi',hm,hh,hf,hl,hv⟩|⟨h0,_⟩
 ·rw [h1] at hmem;cases hmem
 rotate_left
 ·omega
 ·have hrl:=hrow.1 h00
  refine ⟨c,hm,⟨fun j v hj=> ?_,fun v hv=>(hrow.2 v hv).1⟩,hrow.1 h00,h0⟩
  have hjl:j<row.length:=by
   rcases Nat.lt_or_ge j row.length with hlt|hge
   ·exact hlt
   ·rw [List.getElem?_eq_none hge] at hj;cases hj
  have hil:i<k.rows.length:=by
   rcases Nat.lt_or_ge i k.rows.length with hlt|hge
   ·exact hlt
   ·rw [List.getElem?_eq_none hge] at hi;cases hi
  have hlt:i*k.esz+j<arr.size:=by
   have h2:(i+1)*k.esz≤k.rows.length*k.esz:=Nat.mul_le_mul_right _ hil
   rw [Nat.add_mul,Nat.one_mul] at h2
   omega
  refine ⟨arr.getD (i*k.esz+j) undef, ?_,hv i row j v hi hj⟩
  simp [World.cell?,hh,hlt,Array.getElem?_eq_getElem hlt]
theorem WY [Frame] {row:List V} {c off:Nat} {g:Option Nat} {t:TypeId} {o:Nat} {v:V} (R:b1F μ h w row c off) (hg:Ln P t=some g) (hp:part g row o=some v):
 ∃x,(loadVar t ⟨c,off+o,none⟩).run P w= .ok x w∧an μ h w v x:=by
 obtain ⟨hr,hn⟩:=WO hg w
 cases g with
 |none=>
  simp only [part] at hp
  obtain ⟨y,hy,hv⟩:=R.cell o v hp
  refine ⟨y, ?_,hv⟩
  simp [loadVar,hr,hy]
 |some n=>
  simp only [part] at hp
  split at hp
  ·rename_i hle
   cases hp
   have hsz:=dd (hn n rfl) w
   let fn:Nat→Value:=fun j=>(w.cell? ⟨c,off+o+j,none⟩).getD undef
   have hcell: ∀j,j<n→w.cell? ⟨c,off+o+j,none⟩=some (fn j):=by
    intro j hj
    obtain ⟨y,hy,_⟩:=R.cell (o+j) row[o+j] (List.getElem?_eq_getElem (by omega))
    show _=some ((w.cell? ⟨c,off+o+j,none⟩).getD undef)
    rw [show off+o+j=off+(o+j) by omega,hy];rfl
   refine ⟨.agg ((Array.range n).map fn), ?_, ?_⟩
   ·simp [loadVar,hr,hsz,pk hcell]
   ·refine .agg _ _ (by simp;omega) (fun v hv=>R.one v (List.mem_of_mem_drop (List.mem_of_mem_take hv))) (fun i v hi=> ?_)
    rw [List.getElem?_take] at hi
    split at hi
    ·rename_i hin
     rw [List.getElem?_drop] at hi
     obtain ⟨y,hy,hv⟩:=R.cell (o+i) v hi
     have he:fn i=y:=by
      show (w.cell? ⟨c,off+o+i,none⟩).getD undef=y
      rw [show off+o+i=off+(o+i) by omega,hy];rfl
     have:((Array.range n).map fn).getD i undef=y:=by
      simp [hin,he]
     rw [this];exact hv
    ·cases hi
  ·cases hp
theorem Wr [Frame] {row:List V} {o:Nat} {x:Value} (hv:an μ h w (.iptr row o) x): ∃c off,x= .pointer (some ⟨c,off+o,none⟩)∧b1F μ h w row c off:=by
 cases hv with
 |iptr _ _ c off ys hc hs hrow hcell hv=>
  refine ⟨c,off,rfl,⟨fun j v hj=> ?_,fun v hv=>(hrow v hv).2⟩⟩
  have hjl:j<row.length:=by
   rcases Nat.lt_or_ge j row.length with hlt|hge
   ·exact hlt
   ·rw [List.getElem?_eq_none hge] at hj;cases hj
  exact ⟨ys j,hcell j hjl,hv j v hj⟩
theorem a0s [Frame] {b i o n:Nat} {x:Value} {k:Blk} (hv:an μ h w (.ptr b i o n) x) (hb:h b=some k) (hn:k.rows.length=n) (hi:i<n) (h0:0<k.esz):
 ∃c,μ b=some c∧x= .pointer (some ⟨c,i*k.esz+o,none⟩):=by
 cases hv with
 |ptr _ _ _ _ _ k' hk' hn' hx hp hmp=>
  rw [hb] at hk';cases hk'
  exact hp (by omega) hn hi
theorem R4 [Frame] (H:aI μ h w) {av v:V} {x:Value} {g:Option Nat} {t:TypeId} (hx:an μ h w av x) (hg:Ln P t=some g) (hr:vZ g h av=some v):
 ∃c off y,x= .pointer (some ⟨c,off,none⟩)∧(loadVar t ⟨c,off,none⟩).run P w= .ok y w∧an μ h w v y:=by
 cases av with
 |ptr b i o n=>
  simp only [vZ] at hr
  cases hb:h b with
  |none=>rw [hb] at hr;cases hr
  |some k=>
   rw [hb] at hr
   dsimp only at hr
   split at hr
   ·rename_i hn
    cases hi:k.rows[i]? with
    |none=>rw [hi] at hr;cases hr
    |some row=>
     rw [hi] at hr
     obtain ⟨c,hm,R,hl,h0⟩:=Gd H hb hi (NR H hx hb hi)
     have hil:i<n:=by
      rw [←hn]
      rcases Nat.lt_or_ge i k.rows.length with hlt|hge
      ·exact hlt
      ·rw [List.getElem?_eq_none hge] at hi;cases hi
     obtain ⟨c',hm',rfl⟩:=a0s hx hb hn hil h0
     rw [hm] at hm';cases hm'
     obtain ⟨y,hy,hv⟩:=WY R hg hr
     exact ⟨c,i*k.esz+o,y,rfl,hy,hv⟩
   ·cases hr
 |iptr row o=>
  simp only [vZ] at hr
  obtain ⟨c,off,rfl,R⟩:=Wr hx
  obtain ⟨y,hy,hv⟩:=WY R hg hr
  exact ⟨c,off+o,y,rfl,hy,hv⟩
 |_=>simp [vZ] at hr
theorem a8Y [Frame] (H:aI μ h w) (E:dF μ h w f a) {o:Oper} {t:TypeId} {x:Operand} {y:Opd} {g:Option Nat} (ho:o.op= .load t x) (hx:aJ x=some y) (hg:Ln P t=some g) {v:V}
 (hs:vZ g h (y.ev f)=some v):eV P o a μ h w v []:=by
 obtain ⟨c,off,y',hx',hy,hv⟩:=R4 H (aS E hx) hg hs
 exact .quiet H (by simp [execOp,ho,Instr.loadAt,Instr.sureAddr,hx',hy]) hv
theorem jV.sub [Frame] {μ μ':Mu} {w:World} (hs: ∀b c,μ' b=some c→μ b=some c):jV μ w μ' w:=
 ⟨rfl,rfl,rfl,Nat.le_refl _,Nat.le_refl _,(fun c _ h=>⟨rfl,(fun b hb=>h.1 b (hs b c hb)),h.2⟩),fun _ _=>rfl⟩
theorem HL [Frame] (H:aI μ h w) {b s n:Nat} {k:Blk} {x:Value} (hb:h b=some k) (hop:k.op=false) (h0:0<k.esz) (hn:s+n=k.rows.length) (hv:an μ h w (.sl b s n) x)
 {μ':Mu} (h':au) (hm:μ' b=none) (hsub: ∀b c,μ' b=some c→μ b=some c):an μ' h' w (.imm k.esz (k.rows.drop s)) x:=by
 cases hv with
 |sl _ _ _ _ k' hk' hn' hx hp=>
  rw [hb] at hk';cases hk'
  obtain ⟨ad,cap,rfl,hok⟩:=hp (by omega) hn
  have hlen:(k.rows.drop s).length=n:=by simp;omega
  by_cases hz:n=0
  ·have:k.rows.drop s=[]:=List.eq_nil_of_length_eq_zero (by omega)
   rw [this,hz]
   exact .imm0 _ _ _ (by omega)
  ·rcases hok with ⟨h1,_⟩|⟨c,hc,rfl,hcap,hnc⟩
   ·exact absurd h1 hz
   ·have hst:mi μ' c:=by
     refine ⟨fun b' hb'=> ?_,H.frame _ _ hc⟩
     have h1:=hsub b' c hb'
     have h2:=H.inj _ _ _ h1 hc
     rw [h2,hm] at hb';cases hb'
    rcases H.blk b k hb with ⟨h1,_,_⟩|⟨_,c',arr,t,lo,hi,hm',hh,hf,hl,hv⟩|⟨_,ho,_⟩
    ·rw [h1] at hn;simp at hn;omega
    rotate_left
    ·rw [hop] at ho;cases ho
    ·rw [hc] at hm';cases hm'
     have hrw:=H.rows b k hb
     rw [←hlen]
     have hsz: ∀i j,i<n→j<k.esz→s*k.esz+(i*k.esz+j)<arr.size:=by
      intro i j hi hj
      have h2:(s+i+1)*k.esz≤k.rows.length*k.esz:=Nat.mul_le_mul_right _ (by omega)
      rw [Nat.add_mul,Nat.add_mul,Nat.one_mul] at h2
      omega
     refine .imm k.esz (k.rows.drop s) c (s*k.esz) cap (fun i j=>arr.getD (s*k.esz+(i*k.esz+j)) undef) h0 (by intro e;rw [e] at hlen;simp at hlen;omega) (by omega) (H.lt hc) hst
      (fun row hrow=>⟨(hrw row (List.mem_of_mem_drop hrow)).1 h0,fun v hv=>⟨((hrw row (List.mem_of_mem_drop hrow)).2 v hv).2 hop,((hrw row (List.mem_of_mem_drop hrow)).2 v hv).1⟩⟩)
      (fun i j hi hj=> ?_) (fun i row j v hi hj=> ?_)
     ·have:=hsz i j (by omega) hj
      simp [World.cell?,hh,this,Array.getElem?_eq_getElem this]
     ·rw [List.getElem?_drop] at hi
      have hmem:=List.mem_of_getElem? hi
      have:=hv (s+i) row j v hi hj
      rw [Nat.add_mul,Nat.add_assoc] at this
      exact this.closed h' (jV.sub hsub) (((hrw row hmem).2 v (List.mem_of_getElem? hj)).2 hop)
theorem NA [Frame] (H:aI μ h w) {v v':V} {bs:List Nat} {x:Value} (hs:ma h v=some (v',bs)) (hv:an μ h w v x)
 {μ':Mu} (h':au) (hm: ∀b∈bs,μ' b=none) (hsub: ∀b c,μ' b=some c→μ b=some c):an μ' h' w v' x∧v'.cl=true∧v'.cell=true∧ ∀b∈bs, ∃k,h b=some k:=by
 have other: ∀v:V,(if v.cl&&v.cell then some (v,([]:List Nat)) else none)=some (v',bs)→an μ h w v x→an μ' h' w v' x∧v'.cl=true∧v'.cell=true∧ ∀b∈bs, ∃k,h b=some k:=by
  intro v h1 h2
  split at h1
  ·rename_i hc
   cases h1
   simp only [Bool.and_eq_true] at hc
   exact ⟨h2.closed h' (jV.sub hsub) hc.1,hc.1,hc.2,fun b hb=>by cases hb⟩
  ·cases h1
 cases v with
 |sl b s n=>
  simp only [ma] at hs
  cases hb:h b with
  |none=>rw [hb] at hs;cases hs
  |some k=>
   rw [hb] at hs
   dsimp only at hs
   split at hs
   ·rename_i hc
    cases hs
    exact ⟨HL H hb hc.1 hc.2.1 hc.2.2 hv h' (hm b (by simp)) hsub,rfl,rfl,fun b' hb'=>by simp at hb';subst hb';exact ⟨k,hb⟩⟩
   ·cases hs
 |lit y=>exact other (.lit y) hs hv
 |agg cs=>exact other (.agg cs) hs hv
 |tup cs=>exact other (.tup cs) hs hv
 |ptr b i o n=>exact other (.ptr b i o n) hs hv
 |imm e r=>exact other (.imm e r) hs hv
 |iptr r o=>exact other (.iptr r o) hs hv
 |fn f cs=>exact other (.fn f cs) hs hv
 |undef=>exact other .undef hs hv
 |mp b=>exact other (.mp b) hs hv
theorem Db [Frame] (H:aI μ h w) {μ':Mu} (h':au) (hsub: ∀b c,μ' b=some c→μ b=some c): ∀{vs vs':List V} {bs:List Nat} (g:Nat→Value),jZ h vs=some (vs',bs)→
 (∀j v,vs[j]? =some v→an μ h w v (g j))→(∀b∈bs,μ' b=none)→
 vs'.length=vs.length∧(∀j v,vs'[j]? =some v→an μ' h' w v (g j))∧(∀v∈vs',v.cl=true∧v.cell=true)∧ ∀b∈bs, ∃k,h b=some k
 |[],vs',bs,g,hs,hv,hm=>by
  simp [jZ] at hs
  obtain ⟨rfl,rfl⟩:=hs
  exact ⟨rfl,fun j v hj=>by simp at hj,fun v hv=>by simp at hv,fun b hb=>by simp at hb⟩
 |v::vs,vs',bs,g,hs,hv,hm=>by
  simp only [jZ] at hs
  split at hs
  ·rename_i v1 bs1 r1 bs2 h1 h2
   cases hs
   obtain ⟨a1,a2,a3,a4⟩:=NA H h1 (hv 0 v rfl) h' (fun b hb=>hm b (by simp [hb])) hsub
   obtain ⟨b1,b2,b3,b4⟩:=Db H h' hsub (fun j=>g (j+1)) h2 (fun j u hj=>hv (j+1) u (by simpa using hj)) (fun b hb=>hm b (by simp [hb]))
   refine ⟨by simp [b1],fun j u hj=> ?_,fun u hu=> ?_,fun b hb=> ?_⟩
   ·cases j with
    |zero=>simp at hj;subst hj;exact a1.cz
    |succ j=>exact b2 j u (by simpa using hj)
   ·rcases List.mem_cons.1 hu with rfl|hu
    ·exact ⟨a1s a2,GC a3⟩
    ·exact b3 u hu
   ·rcases List.mem_append.1 hb with hb|hb
    ·exact a4 b hb
    ·exact b4 b hb
  ·cases hs
theorem RC.trans {μ1 μ2:Mu} {h1 h2:au} {w1 w2:World} (a:RC μ h w μ1 h1 w1) (b:RC μ1 h1 w1 μ2 h2 w2):RC μ h w μ2 h2 w2:=by
 intro b0 k hk
 obtain ⟨k1,hk1,r1⟩:=a b0 k hk
 obtain ⟨k2,hk2,r2⟩:=b b0 k1 hk1
 refine ⟨k2,hk2, ?_⟩
 rcases r2 with r2|⟨e2,p2,l2⟩|⟨e2,o2,l2,m2,s2⟩
 ·exact .inl r2
 ·rcases r1 with r1|⟨e1,p1,l1⟩|⟨e1,o1,l1,m1,s1⟩
  ·omega
  ·exact .inr (.inl ⟨e2.trans e1,by omega,by omega⟩)
  ·exact .inr (.inl ⟨e2.trans e1,by omega,by omega⟩)
 ·rcases r1 with r1|⟨e1,p1,l1⟩|⟨e1,o1,l1,m1,s1⟩
  ·exact .inl ⟨e2.trans r1.1,(o2 r1.1).trans r1.2⟩
  ·exact .inr (.inl ⟨e2.trans e1,by omega,by omega⟩)
  ·exact .inr (.inr ⟨e2.trans e1,fun h0=>(o2 (by omega)).trans (o1 h0),l2.trans l1,m2.trans m1,fun c hc=>(s2 c (by rw [m1];exact hc)).trans (s1 c hc)⟩)
theorem Chg.trans [Frame] {μ1 μ2:Mu} {h1 h2:au} {w1 w2:World} (a:Chg μ h w μ1 h1 w1) (b:Chg μ1 h1 w1 μ2 h2 w2):Chg μ h w μ2 h2 w2:=⟨a.ev.trans b.ev,a.refs.trans b.refs⟩
theorem b1x [Frame] {μ:Mu} {h:au} {w:World}: ∀(bs:List Nat),(∀b∈bs, ∃k,h b=some k)→aI μ h w→
 ∃μ',aI μ' (dz h (fm bs)) w∧Chg μ h w μ' (dz h (fm bs)) w∧(∀b∈bs,μ' b=none)∧(∀b c,μ' b=some c→μ b=some c)∧ ∀b,b∉bs→μ' b=μ b∧dz h (fm bs) b=h b:=by
 intro bs
 induction bs generalizing μ h with
 |nil=>exact fun _ H=>⟨μ,H,Chg.refl _ _ _,(fun b hb=>by simp at hb),(fun b c h=>h),(fun b _=>⟨rfl,rfl⟩)⟩
 |cons b bs ih=>
  intro hd H
  obtain ⟨k,hk⟩:=hd b (by simp)
  obtain ⟨H1,C1⟩:=H.kill hk
  obtain ⟨μ',H2,C2,hm,hsub,hoth⟩:=ih (μ:=bk μ b none) (h:=aW h b ip) (fun b' hb'=>by
   by_cases e:b'=b
   ·exact ⟨ip,by simp [aW,e]⟩
   ·obtain ⟨k',hk'⟩:=hd b' (by simp [hb']);exact ⟨k',by simp [aW,e,hk']⟩) H1
  have hsub': ∀b' c,bk μ b none b'=some c→μ b'=some c:=by
   intro b' c h1
   unfold bk at h1
   split at h1
   ·cases h1
   ·exact h1
  refine ⟨μ',H2,C1.trans C2,fun b' hb'=> ?_,fun b' c h1=>hsub' b' c (hsub b' c h1),fun b' hb'=> ?_⟩
  ·rcases List.mem_cons.1 hb' with rfl|hb'
   ·cases hmu:μ' b' with
    |none=>rfl
    |some c=>have:=hsub b' c hmu;simp [bk] at this
   ·exact hm b' hb'
  ·simp only [List.mem_cons,not_or] at hb'
   obtain ⟨h1,h2⟩:=hoth b' hb'.2
   exact ⟨by rw [h1];simp [bk,hb'.1],by show dz (aW h b ip) (fm bs) b'=h b';rw [h2];simp [aW,hb'.1]⟩
theorem nT (h:au) (u v:Upd):dz h (u++v)=dz (dz h u) v:=by
 induction u generalizing h with
 |nil=>rfl
 |cons x u ih=>exact ih _
end
end Go.AI
set_option linter.unusedVariables false
set_option linter.unusedSimpArgs false
namespace Go.AI
section
variable {P:Program} {μ:Mu} {h:au} {w:World} {f:Nat→V} {a:Act}
theorem bx {α:Type} {l:List α} {i:Nat} {x:α} (h:l[i]? =some x):i<l.length:=by
 rcases Nat.lt_or_ge i l.length with hlt|hge
 ·exact hlt
 ·rw [List.getElem?_eq_none hge] at h;cases h
theorem to {α:Type} (l cs:List α) (o:Nat) (h:o+cs.length≤l.length) (j:Nat):
 (l.take o++(cs++l.drop (o+cs.length)))[j]? =if o≤j∧j<o+cs.length then cs[j-o]? else l[j]? :=by
 by_cases h1:j<o
 ·rw [if_neg (by omega),List.getElem?_append_left (by simp;omega),List.getElem?_take,if_pos h1]
 ·rw [List.getElem?_append_right (by simp;omega)]
  have ht:(l.take o).length=o:=by simp;omega
  rw [ht]
  by_cases h2:j<o+cs.length
  ·rw [if_pos ⟨by omega,h2⟩,List.getElem?_append_left (by omega)]
  ·rw [if_neg (by omega),List.getElem?_append_right (by omega),List.getElem?_drop]
   congr 1
   omega
theorem BU {α:Type} (l cs:List α) (o:Nat) (h:o+cs.length≤l.length):(l.take o++(cs++l.drop (o+cs.length))).length=l.length:=by
 simp;omega
theorem a1m [Frame] (H:aI μ h w) {b i o:Nat} {k:Blk} {row cs:List V} {xs:List Value} {c:Nat} (hb:h b=some k) (hi:k.rows[i]? =some row) (h00:0<k.esz) (hm:μ b=some c)
 (hlen:xs.length=cs.length) (ho:o+cs.length≤row.length) (hrel: ∀j v,cs[j]? =some v→an μ h w v (xs.getD j undef)) (hcell: ∀v∈cs,v.cell=true∧(k.op=false→v.cl=true)):
 ∃w' μ',(storeCells ⟨c,i*k.esz+o,none⟩ xs).run P w= .ok () w'∧
  aI μ' (aW h b { k with rows:=k.rows.set i (row.take o++(cs++row.drop (o+cs.length))) }) w'∧
  Chg μ h w μ' (aW h b { k with rows:=k.rows.set i (row.take o++(cs++row.drop (o+cs.length))) }) w':=by
 have hmem:=List.mem_of_getElem? hi
 have hrw:=H.rows b k hb
 have hil:=bx hi
 rcases H.blk b k hb with ⟨h1,_,_⟩|⟨h0,c',arr,t,lo,hi',hm',hh,hf,hl,hv⟩|⟨h0,_⟩
 ·rw [h1] at hmem;cases hmem
 rotate_left
 ·omega
 ·rw [hm] at hm';cases hm'
  have hrl:=(hrw row hmem).1 h00
  have hle:(i+1)*k.esz≤k.rows.length*k.esz:=Nat.mul_le_mul_right _ hil
  rw [Nat.add_mul,Nat.one_mul] at hle
  have hone: ∀x∈xs,ba x=true:=by
   intro x hx
   obtain ⟨j,hj,rfl⟩:=List.getElem_of_mem hx
   have hjc:j<cs.length:=by omega
   have h2:=hrel j cs[j] (List.getElem?_eq_getElem hjc)
   have h3:=h2.oneCell (hcell _ (List.getElem_mem hjc)).1
   simpa [List.getD_eq_getElem?_getD,List.getElem?_eq_getElem hj] using h3
  obtain ⟨arr',hrun,hsz,hval⟩:=j7 (P:=P) (o:=i*k.esz+o) xs 0 arr w hh hf.at (by omega) hone
  have hlt:=lf hh
  have hput:=H.put (w':=dV w c arr' t (lo,hi')) (c:=c) (k':={ k with rows:=k.rows.set i (row.take o++(cs++row.drop (o+cs.length))) }) hb h0 (.inl hm)
   rfl rfl rfl (by rw [sD];exact Nat.le_refl _) (Nat.le_refl _) (fun c' _ hne=>yU hne) (o0 hlt) (by rw [hsz];exact hf) rfl (by simpa [hsz] using hl)
   (fun row' hrow'=>by
    rcases List.mem_or_eq_of_mem_set hrow' with h2|h2
    ·exact ⟨(hrw row' h2).1 h00,(hrw row' h2).2⟩
    ·subst h2
     refine ⟨by rw [BU _ _ _ ho];exact hrl,fun v hv=> ?_⟩
     rcases List.mem_append.1 hv with h3|h3
     ·exact (hrw row hmem).2 v (List.mem_of_mem_take h3)
     ·rcases List.mem_append.1 h3 with h4|h4
      ·exact hcell v h4
      ·exact (hrw row hmem).2 v (List.mem_of_mem_drop h4))
   (.inr ⟨by simp,hm,by unfold bsize;rw [hh];exact hsz⟩)
   (fun i2 row2 j v h2 h3=>by
    simp only at h2 ⊢
    have hval':=hval (i2*k.esz+j)
    simp only [Nat.add_zero] at hval'
    rw [hval']
    rw [List.getElem?_set] at h2
    by_cases e:i=i2
    ·subst e
     rw [if_pos rfl,if_pos hil] at h2
     cases h2
     rw [to _ _ _ ho] at h3
     by_cases hin:o≤j∧j<o+cs.length
     ·rw [if_pos hin] at h3
      rw [if_pos (by omega)]
      have:=hrel (j-o) v h3
      rwa [show i*k.esz+j-(i*k.esz+o)=j-o by omega]
     ·rw [if_neg hin] at h3
      rw [if_neg (by omega)]
      exact hv i row j v hi h3
    ·rw [if_neg e] at h2
     have hjl:j<k.esz:=by have:=bx h3;have:=(hrw row2 (List.mem_of_getElem? h2)).1 h00;omega
     have hni: ¬(i*k.esz+o≤i2*k.esz+j∧i2*k.esz+j<i*k.esz+o+xs.length):=by
      intro hc
      have hr1:i*k.esz<(i2+1)*k.esz:=by rw [Nat.add_mul,Nat.one_mul];omega
      have hr2:i2*k.esz<(i+1)*k.esz:=by rw [Nat.add_mul,Nat.one_mul];omega
      have:=Nat.lt_of_mul_lt_mul_right hr1
      have:=Nat.lt_of_mul_lt_mul_right hr2
      omega
     rw [if_neg hni]
     exact hv i2 row2 j v h2 h3)
  exact ⟨_,_,hrun,hput.1,hput.2⟩
theorem QP {x:Value} (j:Nat):x.cells.toList.getD j undef=x.cells.getD j undef:=by
 simp [List.getD_eq_getElem?_getD,Array.getD_eq_getD_getElem?]
theorem Rj [Frame] (H:aI μ h w) (E:dF μ h w f a) {C:aY} {ow:FuncId→List Nat} {o:Oper} {t:TypeId} {x y:Operand} {x' y':Opd} {s:Nat} (hop:o.op= .store t x y) (hx:aJ x=some x') (hy:aJ y=some y')
 (hsz:g9 P t=some s) {new:Nat} {v:V} {u:Upd} (hs:aj C ow (.store s x' y') (Opd.ev f) h new=some (v,u)):eV P o a μ h w v u:=by
 have hvx:=aS E hx
 have hvy:=aS E hy
 simp only [aj] at hs
 cases hax:x'.ev f with
 |ptr b i o' n=>
  rw [hax] at hs hvx
  dsimp only at hs
  cases hb:h b with
  |none=>rw [hb] at hs;cases hs
  |some k=>
   rw [hb] at hs
   dsimp only at hs
   split at hs
   ·rename_i hn
    cases hi:k.rows[i]? with
    |none=>rw [hi] at hs;cases hs
    |some row=>
     rw [hi] at hs
     dsimp only at hs
     obtain ⟨c,hm,R,hrl,h0⟩:=Gd H hb hi (NR H hvx hb hi)
     obtain ⟨c',hm',hxe⟩:=a0s hvx hb hn (by rw [←hn];exact bx hi) h0
     rw [hm] at hm';cases hm'
     have hsize:=dd hsz
     split at hs
     ·rename_i hopn
      split at hs
      ·rename_i hc
       cases hs
       obtain ⟨hc1,hc2,hc3⟩:=hc
       obtain ⟨g1,g2⟩:=hvy.cellsRel hc3
       obtain ⟨w',μ',hrun,hH,hC⟩:=a1m (P:=P) H hb hi h0 hm (cs:=(y'.ev f).cells) (xs:=(a.eval y).cells.toList) (o:=o') (by rw [Array.length_toList];exact g1) (by omega)
        (fun j v hj=>by rw [QP];exact g2 j v hj) (fun v hv=>⟨List.all_eq_true.1 hc3 v hv,fun e=>by rw [hopn] at e;cases e⟩)
       rw [hc1] at hH hC
       refine ⟨undef,w',μ',.inr ⟨?_,rfl⟩,hH,hC,.unk _⟩
       simp [execOp,hop,Instr.storeAt,Instr.sureAddr,hxe,storeVar,hsize,g1,hc1,hrun]
      ·cases hs
     ·rename_i hopn
      split at hs
      ·rename_i cs bs hsn
       split at hs
       ·rename_i hc
        cases hs
        obtain ⟨hc1,hc2,hc3⟩:=hc
        have hsn0:=hsn
        have hall:(y'.ev f).cells.all V.cell=true:=by
         rw [List.all_eq_true]
         intro v hv
         exact snaps_cell hsn v hv
        obtain ⟨g1,g2⟩:=hvy.cellsRel hall
        have hdom:=(Db H h (μ':=fun _=>none) (fun b c e=>by cases e) (fun j=>(a.eval y).cells.getD j undef) hsn g2 (fun b _=>rfl)).2.2.2
        obtain ⟨μ1,H1,C1,hk1,hsub,hoth⟩:=b1x bs hdom H
        obtain ⟨q1,q2,q3,_⟩:=Db H (dz h (fm bs)) hsub (fun j=>(a.eval y).cells.getD j undef) hsn g2 hk1
        obtain ⟨hmb,hhb⟩:=hoth b hc3
        obtain ⟨w',μ',hrun,hH,hC⟩:=a1m (P:=P) H1 (by rw [hhb];exact hb) hi h0 (by rw [hmb];exact hm) (cs:=cs) (xs:=(a.eval y).cells.toList) (o:=o') (by rw [Array.length_toList,g1,q1]) (by omega)
         (fun j v hj=>by rw [QP];exact q2 j v hj) (fun v hv=>⟨(q3 v hv).2,fun _=>(q3 v hv).1⟩)
        rw [hc1] at hH hC
        refine ⟨undef,w',μ',.inr ⟨?_,rfl⟩, ?_, ?_,.unk _⟩
        ·simp [execOp,hop,Instr.storeAt,Instr.sureAddr,hxe,storeVar,hsize,g1, ←q1,hc1,hrun]
        ·rw [nT];exact hH
        ·rw [nT];exact C1.trans hC
       ·cases hs
      ·cases hs
   ·cases hs
 |_=>rw [hax] at hs;cases hs
where
 snaps_cell: ∀{vs vs':List V} {bs:List Nat},jZ h vs=some (vs',bs)→ ∀v∈vs,v.cell=true
  |[],_,_,_,v,hv=>by cases hv
  |x::vs,vs',bs,hs,v,hv=>by
   simp only [jZ] at hs
   split at hs
   ·rename_i v1 bs1 r1 bs2 h1 h2
    rcases List.mem_cons.1 hv with rfl|hv
    ·cases v<;>first
      |rfl
      | (simp [ma] at h1;done)
      | (simp only [ma] at h1;split at h1<;>simp_all [V.cell,V.cl])
    ·exact snaps_cell h2 v hv
   ·cases hs
end
end Go.AI
set_option linter.unusedVariables false
set_option linter.unusedSimpArgs false
namespace Go.AI
section
variable {P:Program} {μ:Mu} {h:au} {w:World} {f:Nat→V} {a:Act}
theorem XH {α β:Type} (g:α→Sem β) (gv:α→β) (w:World): ∀(l:List α),(∀x∈l,(g x).run P w= .ok (gv x) w)→(l.mapM g).run P w= .ok (l.map gv) w
 |[],_=>by simp
 |x::l,hl=>by
  rw [List.mapM_cons]
  have h1:=hl x (by simp)
  have h2:=XH g gv w l (fun y hy=>hl y (by simp [hy]))
  simp [h1,h2]
def H7 [Frame] (μ:Mu) (h:au) (w:World) (cs:List V) (arr:Array Value):Prop:=
 arr.size=cs.length∧(∀v∈cs,v.cell=true)∧ ∀j v,cs[j]? =some v→an μ h w v (arr.getD j undef)
theorem b0Q (xs:List Value) (off n:Nat): ∀(arr:Array Value),off+n+xs.length≤arr.size→
 ((xs.zipIdx n).foldl (fun cs (p:Value×Nat)=>cs.setIfInBounds (off+p.2) p.1) arr).size=arr.size∧
 ∀j,((xs.zipIdx n).foldl (fun cs (p:Value×Nat)=>cs.setIfInBounds (off+p.2) p.1) arr).getD j undef=
  if off+n≤j∧j<off+n+xs.length then xs.getD (j-(off+n)) undef else arr.getD j undef:=by
 induction xs generalizing n with
 |nil=>intro arr _;exact ⟨rfl,fun j=>by rw [if_neg (by simp only [List.length_nil];omega)];rfl⟩
 |cons x xs ih=>
  intro arr hle
  simp only [List.length_cons] at hle
  simp only [List.zipIdx_cons,List.foldl_cons]
  obtain ⟨h1,h2⟩:=ih (n+1) (arr.setIfInBounds (off+n) x) (by rw [Array.size_setIfInBounds];omega)
  refine ⟨by rw [h1,Array.size_setIfInBounds],fun j=> ?_⟩
  rw [h2 j]
  simp only [List.length_cons]
  by_cases e:j=off+n
  ·subst e
   rw [if_neg (by omega),if_pos (by omega)]
   have hi:off+n<arr.size:=by omega
   simp [hi]
  ·have hne:(arr.setIfInBounds (off+n) x).getD j undef=arr.getD j undef:=by
    rw [Array.getD_eq_getD_getElem?,Array.getD_eq_getD_getElem?,Array.getElem?_setIfInBounds_ne (Ne.symm e)]
   rw [hne]
   by_cases h3:off+(n+1)≤j∧j<off+(n+1)+xs.length
   ·rw [if_pos h3,if_pos (by omega)]
    have:j-(off+n)=(j-(off+(n+1)))+1:=by omega
    rw [this];simp
   ·rw [if_neg h3,if_neg (by omega)]
theorem Hv [Frame] (x:Array Value) (off:Nat) (arr:Array Value) (hle:off+x.size≤arr.size):
 (x.zipIdx.foldl (fun cs (p:Value×Nat)=>cs.setIfInBounds (off+p.2) p.1) arr).size=arr.size∧
 ∀j,(x.zipIdx.foldl (fun cs (p:Value×Nat)=>cs.setIfInBounds (off+p.2) p.1) arr).getD j undef=
  if off≤j∧j<off+x.size then x.getD (j-off) undef else arr.getD j undef:=by
 have:=b0Q x.toList off 0 arr (by simpa using hle)
 rw [←Array.foldl_toList,Array.toList_zipIdx]
 refine ⟨this.1,fun j=> ?_⟩
 rw [this.2 j]
 simp only [Nat.add_zero,Array.length_toList]
 by_cases hc:off≤j∧j<off+x.size
 ·rw [if_pos hc,if_pos hc];simp [List.getD_eq_getElem?_getD,Array.getD_eq_getD_getElem?]
 ·rw [if_neg hc,if_neg hc]
theorem OF [Frame] (place:Nat→Option (Nat×Nat)): ∀(ps:List (Nat×Value)) (qs:List (Nat×Nat×V)) (cs cs':List V) (arr:Array Value),
 H7 μ h w cs arr→Ej cs qs=some cs'→ps.length=qs.length→
 (∀(j:Nat) (p:Nat×Value) (q:Nat×Nat×V),ps[j]? =some p→qs[j]? =some q→place p.1=some (q.1,q.2.1)∧an μ h w q.2.2 p.2)→
 ∃arr',Instr.fill place arr ps=some arr'∧H7 μ h w cs' arr'
 |[],[],cs,cs',arr,hc,hf,_,_=>by simp [Ej] at hf;subst hf;exact ⟨arr,rfl,hc⟩
 |[],_::_,_,_,_,_,_,hl,_=>by simp at hl
 |_::_,[],_,_,_,_,_,hl,_=>by simp at hl
 |p::ps,q::qs,cs,cs',arr,hc,hf,hl,hr=>by
  obtain ⟨i,x⟩:=p
  obtain ⟨off,size,v⟩:=q
  obtain ⟨hpl,hv⟩:=hr 0 (i,x) (off,size,v) rfl rfl
  simp only [Ej] at hf
  split at hf
  ·rename_i hcond
   obtain ⟨c1,c2,c3⟩:=hcond
   obtain ⟨g1,g2⟩:=hv.cellsRel c3
   obtain ⟨a1,a2,a3⟩:=hc
   dsimp only at hpl g1 g2
   obtain ⟨s1,s2⟩:=Hv x.cells off arr (by omega)
   have hnew:H7 μ h w (cs.take off++(v.cells++cs.drop (off+size))) (x.cells.zipIdx.foldl (fun cs (p:Value×Nat)=>cs.setIfInBounds (off+p.2) p.1) arr):=by
    refine ⟨?_,fun u hu=> ?_,fun j u hj=> ?_⟩
    ·rw [s1,a1, ←c1,BU _ _ _ (by omega)]
    ·rcases List.mem_append.1 hu with hu|hu
     ·exact a2 u (List.mem_of_mem_take hu)
     ·rcases List.mem_append.1 hu with hu|hu
      ·exact List.all_eq_true.1 c3 u hu
      ·exact a2 u (List.mem_of_mem_drop hu)
    ·rw [←c1,to _ _ _ (by omega)] at hj
     rw [s2 j]
     by_cases hin:off≤j∧j<off+v.cells.length
     ·rw [if_pos hin] at hj
      rw [if_pos (by omega)]
      exact g2 _ u hj
     ·rw [if_neg hin] at hj
      rw [if_neg (by omega)]
      exact a3 j u hj
   obtain ⟨arr',hfill,hrel⟩:=OF place ps qs _ cs' _ hnew hf (by simpa using hl) (fun j p q hp hq=>hr (j+1) p q (by simpa using hp) (by simpa using hq))
   refine ⟨arr', ?_,hrel⟩
   simp only [Instr.fill,hpl]
   rw [if_neg (by
    intro hcon
    simp only [Bool.or_eq_true,decide_eq_true_eq,ne_eq,gt_iff_lt] at hcon
    rcases hcon with h1|h1
    ·omega
    ·omega)]
   exact hfill
  ·cases hf
theorem VY [Frame] {z:List Value} {zv:Value} (hz:zv.cells.toList=z) (hall:z.all ba=true):H7 μ h w (z.map .lit) zv.cells:=by
 refine ⟨by rw [List.length_map, ←hz];simp,fun v hv=> ?_,fun j v hj=> ?_⟩
 ·obtain ⟨y,hy,rfl⟩:=List.mem_map.1 hv;exact List.all_eq_true.1 hall y hy
 ·rw [List.getElem?_map] at hj
  cases hy:z[j]? with
  |none=>rw [hy] at hj;cases hj
  |some y=>
   rw [hy] at hj;cases hj
   have:zv.cells[j]? =some y:=by rw [←Array.getElem?_toList,hz];exact hy
   simp only [Array.getD_eq_getD_getElem?,this,Option.getD_some]
   exact .lit y
theorem KA [Frame] (E:dF μ h w f a) {fs:List Field}: ∀{ps:List (Nat×Operand)} {qs:List (Nat×Nat×Opd)},Df P fs ps=some qs→
 qs.length=ps.length∧ ∀(j:Nat) (p:Nat×Operand) (q:Nat×Nat×Opd),ps[j]? =some p→qs[j]? =some q→(∃fd:Field,fs[p.1]? =some fd∧fd.offset=q.1∧g9 P fd.type=some q.2.1)∧an μ h w (q.2.2.ev f) (a.eval p.2)
 |[],qs,hq=>by simp [Df] at hq;subst hq;exact ⟨rfl,fun j p q hp=>by simp at hp⟩
 | (i,x)::ps,qs,hq=>by
   simp only [Df] at hq
   split at hq
   ·rename_i fd y r' h1 h2 h3
    split at hq
    ·rename_i s hs
     cases hq
     obtain ⟨l,r⟩:=KA E h3
     refine ⟨by simp [l],fun j p q hp hqj=> ?_⟩
     cases j with
     |zero=>simp at hp hqj;subst hp;subst hqj;exact ⟨⟨fd,h1,rfl,hs⟩,aS E h2⟩
     |succ j=>exact r j p q (by simpa using hp) (by simpa using hqj)
    ·cases hq
   ·cases hq
theorem Mr [Frame] (E:dF μ h w f a) {s:Nat}: ∀{ps:List (Nat×Operand)} {qs:List (Nat×Nat×Opd)},JQ s ps=some qs→
 qs.length=ps.length∧ ∀(j:Nat) (p:Nat×Operand) (q:Nat×Nat×Opd),ps[j]? =some p→qs[j]? =some q→(p.1*s=q.1∧s=q.2.1)∧an μ h w (q.2.2.ev f) (a.eval p.2)
 |[],qs,hq=>by simp [JQ] at hq;subst hq;exact ⟨rfl,fun j p q hp=>by simp at hp⟩
 | (i,x)::ps,qs,hq=>by
   simp only [JQ] at hq
   split at hq
   ·rename_i y r' h2 h3
    cases hq
    obtain ⟨l,r⟩:=Mr E h3
    refine ⟨by simp [l],fun j p q hp hqj=> ?_⟩
    cases j with
    |zero=>simp at hp hqj;subst hp;subst hqj;exact ⟨⟨rfl,rfl⟩,aS E h2⟩
    |succ j=>exact r j p q (by simpa using hp) (by simpa using hqj)
   ·cases hq
theorem BK (ev:Opd→V): ∀(qs:List (Nat×Nat×Opd)),(fa ev qs).length=qs.length∧ ∀(j:Nat) (q:Nat×Nat×V),(fa ev qs)[j]? =some q→ ∃q0:Nat×Nat×Opd,qs[j]? =some q0∧q=(q0.1,q0.2.1,ev q0.2.2)
 |[]=>⟨rfl,fun j q h=>by simp [fa] at h⟩
 | (x,y,z)::qs=>by
   obtain ⟨l,r⟩:=BK ev qs
   refine ⟨by simp [fa,l],fun j q hq=> ?_⟩
   cases j with
   |zero=>simp [fa] at hq;subst hq;exact ⟨_,rfl,rfl⟩
   |succ j=>simp only [fa,List.getElem?_cons_succ] at hq ⊢;exact r j q hq
theorem a5N [Frame] (H:aI μ h w) (E:dF μ h w f a) {o:Oper} {t:TypeId} {ps:Array (Nat×Operand)} {ao:AOp} (hop:o.op= .build t ps) (hc:cr P (.build t ps)=some ao)
 {C:aY} {ow:FuncId→List Nat} {new:Nat} {v:V} {u:Upd} (hs:aj C ow ao (Opd.ev f) h new=some (v,u)):eV P o a μ h w v u:=by
 simp only [cr] at hc
 split at hc
 ·rename_i fs z hu hz
  split at hc
  ·rename_i hall
   cases hq:Df P fs.toList ps.toList with
   |none=>rw [hq] at hc;cases hc
   |some qs=>
    rw [hq] at hc;cases hc
    simp only [aj] at hs
    split at hs
    ·rename_i hcond
     split at hs
     ·rename_i cs hfill
      cases hs
      obtain ⟨i,zv,hi,hzv,hcs,hzr⟩:=o5 hz
      obtain ⟨l1,r1⟩:=KA (P:=P) E hq
      obtain ⟨l2,r2⟩:=BK (Opd.ev f) qs
      let places:=fs.toList.map fun fd=>(fd.offset,(g9 P fd.type).getD 0)
      obtain ⟨arr',hf',hrel⟩:=OF (fun i=>places[i]?) (ps.toList.map fun p=>(p.1,a.eval p.2)) (fa (Opd.ev f) qs) (z.map .lit) cs zv.cells (VY hcs hcond) hfill (by simp [l1,l2])
       (fun j p q hp hq'=>by
        rw [List.getElem?_map] at hp
        cases hpj:ps.toList[j]? with
        |none=>rw [hpj] at hp;cases hp
        |some p0=>
         rw [hpj] at hp;cases hp
         obtain ⟨q0,hq0,rfl⟩:=r2 j q hq'
         obtain ⟨⟨fd,h1,h2,h3⟩,h4⟩:=r1 j p0 q0 hpj hq0
         refine ⟨?_,h4⟩
         show (fs.toList.map _)[p0.1]? =_
         rw [List.getElem?_map,h1]
         simp [h2,h3])
      have hmap:(Array.mapM (fun f:Field=>Prod.mk f.offset<$>sizeOf f.type) fs).run P w= .ok places.toArray w:=by
       rw [Array.mapM_eq_mapM_toList]
       have:=XH (P:=P) (fun f:Field=>Prod.mk f.offset<$>sizeOf f.type) (fun fd=>(fd.offset,(g9 P fd.type).getD 0)) w fs.toList (fun fd hfd=>by
        have h1:=List.all_eq_true.1 hall fd hfd
        obtain ⟨s,hs⟩:=Option.isSome_iff_exists.1 h1
        simp [dd hs,hs])
       rw [Sem.run_map,this]
       rfl
      refine .quiet H (x:= .agg arr') ?_ (.agg _ _ hrel.1 hrel.2.1 hrel.2.2)
      have e1:(fun x:Nat=>places.toArray[x]?)=fun i=>places[i]? :=by funext i;simp
      simp only [execOp,hop,Instr.build]
      simp [hzr,run_underlying hu]
      rw [hmap]
      simp only [Result.andThen_ok]
      rw [e1,hf']
      rfl
     ·cases hs
    ·cases hs
  ·cases hc
 ·rename_i n e z hu hz
  split at hc
  ·rename_i s hsz
   cases hq:JQ s ps.toList with
   |none=>rw [hq] at hc;cases hc
   |some qs=>
    rw [hq] at hc;cases hc
    simp only [aj] at hs
    split at hs
    ·rename_i hcond
     split at hs
     ·rename_i cs hfill
      cases hs
      obtain ⟨i,zv,hi,hzv,hcs,hzr⟩:=o5 hz
      obtain ⟨l1,r1⟩:=Mr E hq
      obtain ⟨l2,r2⟩:=BK (Opd.ev f) qs
      obtain ⟨arr',hf',hrel⟩:=OF (fun i=>some (i*s,s)) (ps.toList.map fun p=>(p.1,a.eval p.2)) (fa (Opd.ev f) qs) (z.map .lit) cs zv.cells (VY hcs hcond) hfill (by simp [l1,l2])
       (fun j p q hp hq'=>by
        rw [List.getElem?_map] at hp
        cases hpj:ps.toList[j]? with
        |none=>rw [hpj] at hp;cases hp
        |some p0=>
         rw [hpj] at hp;cases hp
         obtain ⟨q0,hq0,rfl⟩:=r2 j q hq'
         obtain ⟨⟨h1,h2⟩,h4⟩:=r1 j p0 q0 hpj hq0
         exact ⟨by simp [h1, ←h2],h4⟩)
      refine .quiet H (x:= .agg arr') ?_ (.agg _ _ hrel.1 hrel.2.1 hrel.2.2)
      simp only [execOp,hop,Instr.build]
      simp [hzr,run_underlying hu,dd hsz]
      rw [hf']
      rfl
     ·cases hs
    ·cases hs
  ·cases hc
 ·cases hc
end
end Go.AI
