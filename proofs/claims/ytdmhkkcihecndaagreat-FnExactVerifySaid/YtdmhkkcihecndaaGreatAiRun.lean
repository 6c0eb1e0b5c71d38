/- Runs of the model's own operations, in the forms that the proofs of the abstract machine's operations ask for. -/
import Derived.Test.YtdmhkkcihecndaaGreatAiRel
import Derived.Test.YtdmhkkcihecndaaGreatAiComp
import Derived.Laws.AppendOwn
import Derived.Laws.MakeOwn
import Derived.ChangeKeysEq
set_option linter.unusedVariables false
set_option linter.unusedSimpArgs false
namespace Go.AI
theorem WC (v:Value):aN v=v.oneCell':=by cases v<;>rfl
theorem dg {P:Program} {t:TypeId} {s:Nat} (h:fF P t=some s) (w:World):(sizeOf t).run P w= .ok s w:=by
 unfold fF at h
 cases hi:P.info? t with
 |none=>rw [hi] at h;cases h
 |some i=>rw [hi] at h;cases h;simp [sizeOf,typeInfo,hi]
theorem nk {P:Program} {t:TypeId} {z:List Value} (h:zr P t=some z): ∃i v,P.info? t=some i∧i.zero=some v∧v.cells.toList=z∧ ∀w,(zeroValue t).run P w= .ok v w:=by
 unfold zr at h
 cases hi:P.info? t with
 |none=>rw [hi] at h;cases h
 |some i=>
  rw [hi] at h
  dsimp only at h
  cases hz:i.zero with
  |none=>rw [hz] at h;cases h
  |some v=>
   rw [hz] at h;cases h
   exact ⟨i,v,rfl,hz,rfl,fun w=>by simp [zeroValue,typeInfo,hi,hz]⟩
theorem to {P:Program} {t e:TypeId} (h:PD P t=some e):P.underlying t=some (.slice e):=by
 unfold PD at h
 split at h
 ·cases h;assumption
 ·cases h
theorem WW {P:Program} {t:TypeId} {g:Option Nat} (h:Jh P t=some g) (w:World):
 (isAgg t).run P w= .ok g.isSome w∧ ∀n,g=some n→fF P t=some n:=by
 unfold Jh at h
 split at h
 ·rename_i hu hi;cases h;exact ⟨by simp [isAgg,run_underlying hu],fun n hn=>by cases hn;simp [fF,hi]⟩
 ·rename_i hu hi;cases h;exact ⟨by simp [isAgg,run_underlying hu],fun n hn=>by cases hn;simp [fF,hi]⟩
 ·rename_i d i hns hna hu hi
  cases h
  refine ⟨?_,fun n hn=>by cases hn⟩
  cases d<;>first
   | (simp [isAgg,run_underlying hu];done)
   | (exfalso;exact hns _ rfl)
   | (exfalso;exact hna _ _ rfl)
 ·cases h
theorem mi {P:Program} {w:World} {c off n:Nat} {f:Nat→Value} (h: ∀j,j<n→w.cell? ⟨c,off+j,none⟩=some (f j)):
 (loadCells ⟨c,off,none⟩ n).run P w= .ok ((Array.range n).map f) w:=by
 have:=run_loadCells (P:=P) w ⟨c,off,none⟩ n f (fun j hj=>by
  unfold Addr.add
  by_cases h0:j=0
  ·subst h0;simpa using h 0 hj
  ·rw [if_neg h0];exact h j hj)
 rw [this]
 congr 1
 apply Array.ext'
 simp
def dF (w:World) (g:Nat) (arr:Array Value) (t:TypeId) (fz:Nat×Nat):World:={ w with heap:=w.heap.setIfInBounds g (.cells arr t fz) }
theorem ll {w:World} {g:Nat} {arr:Array Value} {t:TypeId} {fz:Nat×Nat} (h:g<w.heap.size):(dF w g arr t fz).heap[g]? =some (.cells arr t fz):=by
 simp [dF,h]
theorem wv {w:World} {g c:Nat} {arr:Array Value} {t:TypeId} {fz:Nat×Nat} (h:c≠g):(dF w g arr t fz).heap[c]? =w.heap[c]? :=by
 simp [dF,Array.getElem?_setIfInBounds,Ne.symm h]
theorem oC {w:World} {g:Nat} {arr:Array Value} {t:TypeId} {fz:Nat×Nat}:(dF w g arr t fz).heap.size=w.heap.size:=by simp [dF]
theorem NL {w:World} {g:Nat} {arr arr':Array Value} {t t':TypeId} {fz fz':Nat×Nat}:dF (dF w g arr t fz) g arr' t' fz'=dF w g arr' t' fz':=by
 unfold dF
 congr 1
 apply Array.ext_getElem?
 intro k
 simp only [Array.getElem?_setIfInBounds,Array.size_setIfInBounds]
 by_cases e:g=k
 ·simp [e]
 ·simp [e]
theorem j0 {w:World} {g:Nat} {o:Obj} (h:w.heap[g]? =some o):g<w.heap.size:=by
 rcases Nat.lt_or_ge g w.heap.size with h1|h1
 ·exact h1
 ·rw [Array.getElem?_eq_none h1] at h;cases h
theorem M1 {w:World} {g i:Nat} {arr:Array Value} {t:TypeId} {fz:Nat×Nat} (h:w.heap[g]? =some (.cells arr t fz)) (v:Value):
 w.setCell ⟨g,i,none⟩ v=dF w g (arr.setIfInBounds i v) t fz:=by
 unfold World.setCell dF
 congr 1
 apply Array.ext_getElem?
 intro k
 rw [Array.getElem?_modify,Array.getElem?_setIfInBounds]
 by_cases e:g=k
 ·subst e
  have:=j0 h
  rw [if_pos rfl,h]
  simp [this]
 ·simp [e]
theorem gW {P:Program} {g o:Nat} {t:TypeId} {lo hi:Nat}: ∀(vs:List Value) (i:Nat) (cur:Array Value) (w:World),w.heap[g]? =some (.cells cur t (lo,hi))→
 (∀k,lo≤k→k<hi→cur.size≤k)→o+i+vs.length≤cur.size→(∀v∈vs,aN v=true)→
 ∃arr,(storeCells ⟨g,o,none⟩ vs i).run P w= .ok () (dF w g arr t (lo,hi))∧arr.size=cur.size∧
  ∀k,arr.getD k undef=if o+i≤k∧k<o+i+vs.length then vs.getD (k-(o+i)) undef else cur.getD k undef
 |[],i,cur,w,hg,hf,hl,h1=>by
  refine ⟨cur, ?_,rfl,fun k=>by rw [if_neg (by simp only [List.length_nil];omega)]⟩
  simp only [storeCells,Sem.run_pure]
  congr 1
  unfold dF
  have:=j0 hg
  have e:w.heap.setIfInBounds g (.cells cur t (lo,hi))=w.heap:=by
   apply Array.ext_getElem?
   intro k
   rw [Array.getElem?_setIfInBounds]
   by_cases e:g=k
   ·subst e;rw [if_pos rfl,if_pos this,hg]
   ·simp [e]
  rw [e]
 |v::vs,i,cur,w,hg,hf,hl,h1=>by
  have hlt:=j0 hg
  have hadd:(⟨g,o,none⟩:Addr).add i=⟨g,o+i,none⟩:=by
   unfold Addr.add
   by_cases h0:i=0
   ·subst h0;rfl
   ·rw [if_neg h0]
  simp only [List.length_cons] at hl
  have hcell:w.cell? ⟨g,o+i,none⟩=some (cur.getD (o+i) undef):=by
   have hi:o+i<cur.size:=by omega
   simp [World.cell?,hg,hi,Array.getElem?_eq_getElem hi]
  have hfr:w.frozen? ⟨g,o+i,none⟩=false:=by
   simp only [World.frozen?,hg]
   by_cases h2:lo≤o+i∧o+i<hi
   ·have:=hf _ h2.1 h2.2;omega
   ·simp;omega
  have hone:v.oneCell'=true:=by rw [←WC];exact h1 v (by simp)
  have hstep:(store ((⟨g,o,none⟩:Addr).add i) v).run P w= .ok () (dF w g (cur.setIfInBounds (o+i) v) t (lo,hi)):=by
   rw [hadd,run_store P w _ v .plain hone,hcell]
   simp only [hfr,Bool.false_eq_true,if_false]
   rw [M1 hg]
  obtain ⟨arr,hr,hs,hv⟩:=gW (P:=P) (o:=o) vs (i+1) (cur.setIfInBounds (o+i) v) (dF w g (cur.setIfInBounds (o+i) v) t (lo,hi)) (ll hlt)
   (fun k a b=>by rw [Array.size_setIfInBounds];exact hf k a b) (by rw [Array.size_setIfInBounds];omega) (fun u hu=>h1 u (List.mem_cons_of_mem _ hu))
  refine ⟨arr, ?_,by rw [hs,Array.size_setIfInBounds],fun k=> ?_⟩
  ·simp only [storeCells,Sem.run_bind,hstep,Result.andThen_ok,hr,NL]
  ·rw [hv k]
   simp only [List.length_cons]
   by_cases e:k=o+i
   ·subst e
    rw [if_neg (by omega),if_pos (by omega)]
    have hi:o+i<cur.size:=by omega
    simp [hi]
   ·have hne:(cur.setIfInBounds (o+i) v).getD k undef=cur.getD k undef:=by
     rw [Array.getD_eq_getD_getElem?,Array.getD_eq_getD_getElem?,Array.getElem?_setIfInBounds_ne (Ne.symm e)]
    rw [hne]
    by_cases h2:o+(i+1)≤k∧k<o+(i+1)+vs.length
    ·rw [if_pos h2,if_pos (by omega)]
     have:k-(o+i)=(k-(o+(i+1)))+1:=by omega
     rw [this]
     simp
    ·rw [if_neg h2,if_neg (by omega)]
end Go.AI
