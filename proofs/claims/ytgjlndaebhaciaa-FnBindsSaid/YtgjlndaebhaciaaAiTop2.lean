/- What an argument can be, told by its type. -/
import Derived.Test.YtgjlndaebhaciaaAiTop
set_option linter.unusedVariables false
namespace Go.AI
section
variable {H:Type} {P:Program}
theorem wM {n:Nat} {t:TypeId} {d:DataW H} {vs:List V} {k:IntKind} (hu:P.underlying t=some (.int k)) (h:bD P (n+1) t d=some vs): ∃m,vs=[.lit (.int k m)]∧(Lit.int k m).wf=true∧d= .lit (.int k m):=by
 cases d with
 |lit l=>
  cases l with
  |int k' m=>
   simp [bD,hu] at h
   obtain ⟨⟨rfl,hw⟩,rfl⟩:=h
   exact ⟨m,rfl,hw,rfl⟩
  |_=>simp [bD,hu] at h
 |_=>simp [bD,hu] at h
theorem We {g:TypeId→DataW H→Option (List V)} {ds:List (DataW H)} {vs:List V} (h:iC g [] ds=some vs):ds=[]∧vs=[]:=by
 cases ds with
 |nil=>simp [iC] at h;exact ⟨rfl,h⟩
 |cons a b=>simp [iC] at h
theorem Sc {g:TypeId→DataW H→Option (List V)} {f:Field} {fs:List Field} {ds:List (DataW H)} {vs:List V} (h:iC g (f::fs) ds=some vs):
 ∃d ds' a b,ds=d::ds'∧g f.type d=some a∧iC g fs ds'=some b∧vs=a++b:=by
 cases ds with
 |nil=>simp [iC] at h
 |cons d ds'=>
  simp only [iC] at h
  split at h
  ·rename_i a b h1 h2
   cases h
   exact ⟨d,ds',a,b,rfl,h1,h2,rfl⟩
  ·cases h
theorem RN {n:Nat} {t:TypeId} {d:DataW H} {vs:List V} {fs:Array Field} (hu:P.underlying t=some (.struct fs)) (h:bD P (n+1) t d=some vs): ∃ps,d= .agg ps∧iC (bD P n) fs.toList ps=some vs:=by
 cases d with
 |agg ps=>
  simp [bD,hu] at h
  exact ⟨ps,rfl,h⟩
 |_=>simp [bD,hu] at h
theorem Fs {n:Nat} {t:TypeId} {d:DataW H} {v:V} {fs:Array Field} (hu:P.underlying t=some (.struct fs)) (h:xc P n t d=some v): ∃vs,v= .agg vs∧bD P n t d=some vs:=by
 unfold xc at h
 split at h
 ·rename_i vs hd
  rw [hu] at h
  cases h
  exact ⟨vs,rfl,hd⟩
 ·cases h
theorem a1H {n:Nat} {t:TypeId} {d:DataW H} {v:V} {k:IntKind} (hu:P.underlying t=some (.int k)) (h:xc P (n+1) t d=some v): ∃m,v= .lit (.int k m)∧(Lit.int k m).wf=true∧d= .lit (.int k m):=by
 unfold xc at h
 split at h
 ·rename_i vs hd
  rw [hu] at h
  obtain ⟨m,rfl,h1,h2⟩:=wM hu hd
  cases h
  exact ⟨m,rfl,h1,h2⟩
 ·cases h
theorem M5 {n:Nat} {ds:List (DataW H)} {vs:List V} (h:qV P n [] ds=some vs):ds=[]∧vs=[]:=by
 cases ds with
 |nil=>simp [qV] at h;exact ⟨rfl,h⟩
 |cons a b=>simp [qV] at h
theorem z6 {n:Nat} {t:TypeId} {ts:List TypeId} {ds:List (DataW H)} {vs:List V} (h:qV P n (t::ts) ds=some vs):
 ∃d ds' a b,ds=d::ds'∧xc P n t d=some a∧qV P n ts ds'=some b∧vs=a::b:=by
 cases ds with
 |nil=>simp [qV] at h
 |cons d ds'=>
  simp only [qV] at h
  split at h
  ·rename_i a b h1 h2
   cases h
   exact ⟨d,ds',a,b,rfl,h1,h2,rfl⟩
  ·cases h
end
end Go.AI
