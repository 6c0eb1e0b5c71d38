/- What an argument can be, told by its type. -/
import Derived.Test.YtdmhkkcihecndaaAiTop
set_option linter.unusedVariables false
namespace Go.AI
section
variable {H:Type} {P:Program}
theorem ua {n:Nat} {t:TypeId} {d:DataW H} {vs:List V} {k:IntKind} (hu:P.underlying t=some (.int k)) (h:aP P (n+1) t d=some vs): ∃m,vs=[.lit (.int k m)]∧(Lit.int k m).wf=true∧d= .lit (.int k m):=by
 cases d with
 |lit l=>
  cases l with
  |int k' m=>
   simp [aP,hu] at h
   obtain ⟨⟨rfl,hw⟩,rfl⟩:=h
   exact ⟨m,rfl,hw,rfl⟩
  |_=>simp [aP,hu] at h
 |_=>simp [aP,hu] at h
theorem jd {g:TypeId→DataW H→Option (List V)} {ds:List (DataW H)} {vs:List V} (h:fX g [] ds=some vs):ds=[]∧vs=[]:=by
 cases ds with
 |nil=>simp [fX] at h;exact ⟨rfl,h⟩
 |cons a b=>simp [fX] at h
theorem aO {g:TypeId→DataW H→Option (List V)} {f:Field} {fs:List Field} {ds:List (DataW H)} {vs:List V} (h:fX g (f::fs) ds=some vs):
 ∃d ds' a b,ds=d::ds'∧g f.type d=some a∧fX g fs ds'=some b∧vs=a++b:=by
 cases ds with
 |nil=>simp [fX] at h
 |cons d ds'=>
  simp only [fX] at h
  split at h
  ·rename_i a b h1 h2
   cases h
   exact ⟨d,ds',a,b,rfl,h1,h2,rfl⟩
  ·cases h
theorem i4 {n:Nat} {t:TypeId} {d:DataW H} {vs:List V} {fs:Array Field} (hu:P.underlying t=some (.struct fs)) (h:aP P (n+1) t d=some vs): ∃ps,d= .agg ps∧fX (aP P n) fs.toList ps=some vs:=by
 cases d with
 |agg ps=>
  simp [aP,hu] at h
  exact ⟨ps,rfl,h⟩
 |_=>simp [aP,hu] at h
theorem BP {n:Nat} {t:TypeId} {d:DataW H} {v:V} {fs:Array Field} (hu:P.underlying t=some (.struct fs)) (h:uf P n t d=some v): ∃vs,v= .agg vs∧aP P n t d=some vs:=by
 unfold uf at h
 split at h
 ·rename_i vs hd
  rw [hu] at h
  cases h
  exact ⟨vs,rfl,hd⟩
 ·cases h
theorem UQ {n:Nat} {t:TypeId} {d:DataW H} {v:V} {k:IntKind} (hu:P.underlying t=some (.int k)) (h:uf P (n+1) t d=some v): ∃m,v= .lit (.int k m)∧(Lit.int k m).wf=true∧d= .lit (.int k m):=by
 unfold uf at h
 split at h
 ·rename_i vs hd
  rw [hu] at h
  obtain ⟨m,rfl,h1,h2⟩:=ua hu hd
  cases h
  exact ⟨m,rfl,h1,h2⟩
 ·cases h
theorem Iq {n:Nat} {ds:List (DataW H)} {vs:List V} (h:o9 P n [] ds=some vs):ds=[]∧vs=[]:=by
 cases ds with
 |nil=>simp [o9] at h;exact ⟨rfl,h⟩
 |cons a b=>simp [o9] at h
theorem nO {n:Nat} {t:TypeId} {ts:List TypeId} {ds:List (DataW H)} {vs:List V} (h:o9 P n (t::ts) ds=some vs):
 ∃d ds' a b,ds=d::ds'∧uf P n t d=some a∧o9 P n ts ds'=some b∧vs=a::b:=by
 cases ds with
 |nil=>simp [o9] at h
 |cons d ds'=>
  simp only [o9] at h
  split at h
  ·rename_i a b h1 h2
   cases h
   exact ⟨d,ds',a,b,rfl,h1,h2,rfl⟩
  ·cases h
end
end Go.AI
