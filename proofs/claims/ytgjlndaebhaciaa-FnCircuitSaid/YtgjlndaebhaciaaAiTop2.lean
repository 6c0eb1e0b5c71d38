/- What an argument can be, told by its type. -/
import Derived.Test.YtgjlndaebhaciaaAiTop
set_option linter.unusedVariables false
namespace Go.AI
section
variable {H:Type} {P:Program}
theorem uV {n:Nat} {t:TypeId} {d:DataW H} {vs:List V} {k:IntKind} (hu:P.underlying t=some (.int k)) (h:bu P (n+1) t d=some vs): ∃m,vs=[.lit (.int k m)]∧(Lit.int k m).wf=true∧d= .lit (.int k m):=by
 cases d with
 |lit l=>
  cases l with
  |int k' m=>
   simp [bu,hu] at h
   obtain ⟨⟨rfl,hw⟩,rfl⟩:=h
   exact ⟨m,rfl,hw,rfl⟩
  |_=>simp [bu,hu] at h
 |_=>simp [bu,hu] at h
theorem Tm {g:TypeId→DataW H→Option (List V)} {ds:List (DataW H)} {vs:List V} (h:i5 g [] ds=some vs):ds=[]∧vs=[]:=by
 cases ds with
 |nil=>simp [i5] at h;exact ⟨rfl,h⟩
 |cons a b=>simp [i5] at h
theorem SQ {g:TypeId→DataW H→Option (List V)} {f:Field} {fs:List Field} {ds:List (DataW H)} {vs:List V} (h:i5 g (f::fs) ds=some vs):
 ∃d ds' a b,ds=d::ds'∧g f.type d=some a∧i5 g fs ds'=some b∧vs=a++b:=by
 cases ds with
 |nil=>simp [i5] at h
 |cons d ds'=>
  simp only [i5] at h
  split at h
  ·rename_i a b h1 h2
   cases h
   exact ⟨d,ds',a,b,rfl,h1,h2,rfl⟩
  ·cases h
theorem SU {n:Nat} {t:TypeId} {d:DataW H} {vs:List V} {fs:Array Field} (hu:P.underlying t=some (.struct fs)) (h:bu P (n+1) t d=some vs): ∃ps,d= .agg ps∧i5 (bu P n) fs.toList ps=some vs:=by
 cases d with
 |agg ps=>
  simp [bu,hu] at h
  exact ⟨ps,rfl,h⟩
 |_=>simp [bu,hu] at h
theorem Dc {n:Nat} {t:TypeId} {d:DataW H} {v:V} {fs:Array Field} (hu:P.underlying t=some (.struct fs)) (h:uI P n t d=some v): ∃vs,v= .agg vs∧bu P n t d=some vs:=by
 unfold uI at h
 split at h
 ·rename_i vs hd
  rw [hu] at h
  cases h
  exact ⟨vs,rfl,hd⟩
 ·cases h
theorem Xm {n:Nat} {t:TypeId} {d:DataW H} {v:V} {k:IntKind} (hu:P.underlying t=some (.int k)) (h:uI P (n+1) t d=some v): ∃m,v= .lit (.int k m)∧(Lit.int k m).wf=true∧d= .lit (.int k m):=by
 unfold uI at h
 split at h
 ·rename_i vs hd
  rw [hu] at h
  obtain ⟨m,rfl,h1,h2⟩:=uV hu hd
  cases h
  exact ⟨m,rfl,h1,h2⟩
 ·cases h
theorem IA {n:Nat} {ds:List (DataW H)} {vs:List V} (h:pu P n [] ds=some vs):ds=[]∧vs=[]:=by
 cases ds with
 |nil=>simp [pu] at h;exact ⟨rfl,h⟩
 |cons a b=>simp [pu] at h
theorem yA {n:Nat} {t:TypeId} {ts:List TypeId} {ds:List (DataW H)} {vs:List V} (h:pu P n (t::ts) ds=some vs):
 ∃d ds' a b,ds=d::ds'∧uI P n t d=some a∧pu P n ts ds'=some b∧vs=a::b:=by
 cases ds with
 |nil=>simp [pu] at h
 |cons d ds'=>
  simp only [pu] at h
  split at h
  ·rename_i a b h1 h2
   cases h
   exact ⟨d,ds',a,b,rfl,h1,h2,rfl⟩
  ·cases h
end
end Go.AI
