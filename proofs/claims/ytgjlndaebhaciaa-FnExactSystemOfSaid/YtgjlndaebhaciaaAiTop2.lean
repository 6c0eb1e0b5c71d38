/- What an argument can be, told by its type. -/
import Derived.Test.YtgjlndaebhaciaaAiTop
set_option linter.unusedVariables false
namespace Go.AI
section
variable {H:Type} {P:Program}
theorem ph {n:Nat} {t:TypeId} {d:DataW H} {vs:List V} {k:IntKind} (hu:P.underlying t=some (.int k)) (h:aV P (n+1) t d=some vs): ∃m,vs=[.lit (.int k m)]∧(Lit.int k m).wf=true∧d= .lit (.int k m):=by
 cases d with
 |lit l=>
  cases l with
  |int k' m=>
   simp [aV,hu] at h
   obtain ⟨⟨rfl,hw⟩,rfl⟩:=h
   exact ⟨m,rfl,hw,rfl⟩
  |_=>simp [aV,hu] at h
 |_=>simp [aV,hu] at h
theorem pN {g:TypeId→DataW H→Option (List V)} {ds:List (DataW H)} {vs:List V} (h:eU g [] ds=some vs):ds=[]∧vs=[]:=by
 cases ds with
 |nil=>simp [eU] at h;exact ⟨rfl,h⟩
 |cons a b=>simp [eU] at h
theorem fA {g:TypeId→DataW H→Option (List V)} {f:Field} {fs:List Field} {ds:List (DataW H)} {vs:List V} (h:eU g (f::fs) ds=some vs):
 ∃d ds' a b,ds=d::ds'∧g f.type d=some a∧eU g fs ds'=some b∧vs=a++b:=by
 cases ds with
 |nil=>simp [eU] at h
 |cons d ds'=>
  simp only [eU] at h
  split at h
  ·rename_i a b h1 h2
   cases h
   exact ⟨d,ds',a,b,rfl,h1,h2,rfl⟩
  ·cases h
theorem pd {n:Nat} {t:TypeId} {d:DataW H} {vs:List V} {fs:Array Field} (hu:P.underlying t=some (.struct fs)) (h:aV P (n+1) t d=some vs): ∃ps,d= .agg ps∧eU (aV P n) fs.toList ps=some vs:=by
 cases d with
 |agg ps=>
  simp [aV,hu] at h
  exact ⟨ps,rfl,h⟩
 |_=>simp [aV,hu] at h
theorem yQ {n:Nat} {t:TypeId} {d:DataW H} {v:V} {fs:Array Field} (hu:P.underlying t=some (.struct fs)) (h:pn P n t d=some v): ∃vs,v= .agg vs∧aV P n t d=some vs:=by
 unfold pn at h
 split at h
 ·rename_i vs hd
  rw [hu] at h
  cases h
  exact ⟨vs,rfl,hd⟩
 ·cases h
theorem Rv {n:Nat} {t:TypeId} {d:DataW H} {v:V} {k:IntKind} (hu:P.underlying t=some (.int k)) (h:pn P (n+1) t d=some v): ∃m,v= .lit (.int k m)∧(Lit.int k m).wf=true∧d= .lit (.int k m):=by
 unfold pn at h
 split at h
 ·rename_i vs hd
  rw [hu] at h
  obtain ⟨m,rfl,h1,h2⟩:=ph hu hd
  cases h
  exact ⟨m,rfl,h1,h2⟩
 ·cases h
theorem Dw {n:Nat} {ds:List (DataW H)} {vs:List V} (h:l0 P n [] ds=some vs):ds=[]∧vs=[]:=by
 cases ds with
 |nil=>simp [l0] at h;exact ⟨rfl,h⟩
 |cons a b=>simp [l0] at h
theorem Ae {n:Nat} {t:TypeId} {ts:List TypeId} {ds:List (DataW H)} {vs:List V} (h:l0 P n (t::ts) ds=some vs):
 ∃d ds' a b,ds=d::ds'∧pn P n t d=some a∧l0 P n ts ds'=some b∧vs=a::b:=by
 cases ds with
 |nil=>simp [l0] at h
 |cons d ds'=>
  simp only [l0] at h
  split at h
  ·rename_i a b h1 h2
   cases h
   exact ⟨d,ds',a,b,rfl,h1,h2,rfl⟩
  ·cases h
end
end Go.AI
