/- What an argument can be, told by its type. -/
import Derived.Test.YtdnkignjanfikaaGreatAiTop
set_option linter.unusedVariables false
namespace Go.AI
section
variable {H:Type} {P:Program}
theorem Je {n:Nat} {t:TypeId} {d:DataW H} {vs:List V} {k:IntKind} (hu:P.underlying t=some (.int k)) (h:cm P (n+1) t d=some vs): ∃m,vs=[.lit (.int k m)]∧(Lit.int k m).wf=true∧d= .lit (.int k m):=by
 cases d with
 |lit l=>
  cases l with
  |int k' m=>
   simp [cm,hu] at h
   obtain ⟨⟨rfl,hw⟩,rfl⟩:=h
   exact ⟨m,rfl,hw,rfl⟩
  |_=>simp [cm,hu] at h
 |_=>simp [cm,hu] at h
theorem b78 {g:TypeId→DataW H→Option (List V)} {ds:List (DataW H)} {vs:List V} (h:ng g [] ds=some vs):ds=[]∧vs=[]:=by
 cases ds with
 |nil=>simp [ng] at h;exact ⟨rfl,h⟩
 |cons a b=>simp [ng] at h
theorem b6b {g:TypeId→DataW H→Option (List V)} {f:Field} {fs:List Field} {ds:List (DataW H)} {vs:List V} (h:ng g (f::fs) ds=some vs):
 ∃d ds' a b,ds=d::ds'∧g f.type d=some a∧ng g fs ds'=some b∧vs=a++b:=by
 cases ds with
 |nil=>simp [ng] at h
 |cons d ds'=>
  simp only [ng] at h
  split at h
  ·rename_i a b h1 h2
   cases h
   exact ⟨d,ds',a,b,rfl,h1,h2,rfl⟩
  ·cases h
theorem b2I {n:Nat} {t:TypeId} {d:DataW H} {vs:List V} {fs:Array Field} (hu:P.underlying t=some (.struct fs)) (h:cm P (n+1) t d=some vs): ∃ps,d= .agg ps∧ng (cm P n) fs.toList ps=some vs:=by
 cases d with
 |agg ps=>
  simp [cm,hu] at h
  exact ⟨ps,rfl,h⟩
 |_=>simp [cm,hu] at h
theorem V0 {n:Nat} {t:TypeId} {d:DataW H} {v:V} {fs:Array Field} (hu:P.underlying t=some (.struct fs)) (h:JV P n t d=some v): ∃vs,v= .agg vs∧cm P n t d=some vs:=by
 unfold JV at h
 split at h
 ·rename_i vs hd
  rw [hu] at h
  cases h
  exact ⟨vs,rfl,hd⟩
 ·cases h
theorem c1P {n:Nat} {t:TypeId} {d:DataW H} {v:V} {k:IntKind} (hu:P.underlying t=some (.int k)) (h:JV P (n+1) t d=some v): ∃m,v= .lit (.int k m)∧(Lit.int k m).wf=true∧d= .lit (.int k m):=by
 unfold JV at h
 split at h
 ·rename_i vs hd
  rw [hu] at h
  obtain ⟨m,rfl,h1,h2⟩:=Je hu hd
  cases h
  exact ⟨m,rfl,h1,h2⟩
 ·cases h
theorem a37 {n:Nat} {ds:List (DataW H)} {vs:List V} (h:Ay P n [] ds=some vs):ds=[]∧vs=[]:=by
 cases ds with
 |nil=>simp [Ay] at h;exact ⟨rfl,h⟩
 |cons a b=>simp [Ay] at h
theorem NX {n:Nat} {t:TypeId} {ts:List TypeId} {ds:List (DataW H)} {vs:List V} (h:Ay P n (t::ts) ds=some vs):
 ∃d ds' a b,ds=d::ds'∧JV P n t d=some a∧Ay P n ts ds'=some b∧vs=a::b:=by
 cases ds with
 |nil=>simp [Ay] at h
 |cons d ds'=>
  simp only [Ay] at h
  split at h
  ·rename_i a b h1 h2
   cases h
   exact ⟨d,ds',a,b,rfl,h1,h2,rfl⟩
  ·cases h
end
end Go.AI
