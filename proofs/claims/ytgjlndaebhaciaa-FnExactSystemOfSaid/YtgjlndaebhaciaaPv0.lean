/- Plain laws for printed functions: loops whose states are told in advance; numbers; places. -/
import Derived.Test.YtgjlndaebhaciaaAiW
import Derived.Test.YtgjlndaebhaciaaFx0
import Derived.KernelRfl
set_option linter.unusedVariables false
namespace Go.AI
theorem cE {S E:Type} {step:S→Option (S⊕E)} {s s':S} (h:step s=some (.inl s')):Loop step s=Loop step s':=by rw [mZ,h];rfl
theorem cf {S E:Type} {step:S→Option (S⊕E)} {s:S} {e:E} (h:step s=some (.inr e)):Loop step s=some e:=by rw [mZ,h];rfl
theorem dL {S E:Type} {step:S→Option (S⊕E)} (F:Nat→S) (n:Nat) {e:E} (hs: ∀k,k<n→step (F k)=some (.inl (F (k+1)))) (he:step (F n)=some (.inr e)):Loop step (F 0)=some e:=by
 have key: ∀m k,k+m=n→Loop step (F k)=some e:=by
  intro m
  induction m with
  |zero=>intro k hk;have:k=n:=by omega
         subst this;exact cf he
  |succ m ih=>intro k hk;rw [cE (hs k om)];exact ih (k+1) om
 exact key n 0 om
theorem uy (P:Nat→Bool): ∀n,(∀k,k<n→P k=true)∨ ∃k,k<n∧P k=false∧ ∀j,j<k→P j=true
 |0=> .inl om
 |n+1=>by
  rcases uy P n with h|⟨k,hk,h1,h2⟩
  ·cases hn:P n
   ·exact .inr ⟨n,by omega,hn,h⟩
   ·refine .inl fun k hk=> ?_
    by_cases e:k=n
    ·subst e;exact hn
    ·exact h k om
  ·exact .inr ⟨k,by omega,h1,h2⟩
theorem wH {S E:Type} {step:S→Option (S⊕E)} (F:Nat→S) (n:Nat) (P:Nat→Bool) (x:Nat→E) {e:E} (hs: ∀k,k<n→P k=true→step (F k)=some (.inl (F (k+1))))
 (hx: ∀k,k<n→P k=false→step (F k)=some (.inr (x k))) (he:step (F n)=some (.inr e)):
 ((∀k,k<n→P k=true)∧Loop step (F 0)=some e)∨ ∃k,k<n∧P k=false∧(∀j,j<k→P j=true)∧Loop step (F 0)=some (x k):=by
 rcases uy P n with h|⟨k,hk,h1,h2⟩
 ·exact .inl ⟨h,dL F n (fun k hk=>hs k hk (h k hk)) he⟩
 ·exact .inr ⟨k,hk,h1,h2,dL F k (fun j hj=>hs j om (h2 j hj)) (hx k hk h1)⟩
theorem oR {S E:Type} {step:S→Option (S⊕E)} (Inv:S→Prop) (me:S→Nat) (Post:E→Prop)
 (hs: ∀s,Inv s→(∃s',step s=some (.inl s')∧Inv s'∧me s'<me s)∨(∃e,step s=some (.inr e)∧Post e)):
 ∀s,Inv s→ ∃e,Loop step s=some e∧Post e:=by
 intro s
 generalize hm:me s=m
 induction m using Nat.strongRecOn generalizing s with
 |_ m ih=>
  intro hi
  rw [mZ]
  rcases hs s hi with ⟨s',h1,h2,h3⟩|⟨e,h1,h2⟩
  ·rw [h1];exact ih (me s') om s' rfl h2
  ·rw [h1];exact ⟨e,rfl,h2⟩
theorem yw {α:Type} {c:Bool} {x y:α} (h:c=true):br c x y=x:=by subst h;rfl
theorem He {α:Type} {c:Bool} {x y:α} (h:c=false):br c x y=y:=by subst h;rfl
theorem brd {α:Type} {p:Prop} [Decidable p] {x y:α} (h:p):br (decide p) x y=x:=yw (decide_eq_true h)
theorem brn {α:Type} {p:Prop} [Decidable p] {x y:α} (h: ¬p):br (decide p) x y=y:=He (decide_eq_false h)
theorem bre {α:Type} {a b:Int} {x y:α} (h:a=b):br (a==b) x y=x:=yw (by simp [h])
theorem ep {α:Type} {a b:Int} {x y:α} (h:a≠b):br (a==b) x y=y:=He (by simp [h])
theorem brb {α:Type} {a b:Int} {x y:α} (h:a≠b):br (a !=b) x y=x:=yw (by simp [h])
theorem jA {α:Type} {a b:Int} {x y:α} (h:a=b):br (a !=b) x y=y:=He (by simp [h])
theorem Jk (a b:Int) (h:0≤a):a.tmod b=a%b:=Int.tmod_eq_emod_of_nonneg h
theorem K5 {n b:Nat} (h:n*b≤1099511627776):dN n b=true:=by simp [dN,aK,h]
theorem ec {α:Type} {n b:Nat} {x y:α} (h:n*b≤1099511627776):br (dN n b) x y=x:=yw (K5 h)
theorem wt {α:Type} {l:List α} {i:Int} (h0:0≤i) {x:α} (h:l[i.toNat]? =some x):atL l i=some x:=by simp [atL,h0,h]
theorem dh {α:Type} {l:List α} {k:Nat} (h:k<l.length):atL l (k:Int)=some l[k]:=by simp [atL,h]
theorem na {α:Type} {l:List α} {i:Nat} (h:i<l.length): ∃x r,l.drop i=x::r∧l.drop (i+1)=r∧l[i]? =some x:=
 ⟨l[i],l.drop (i+1),List.drop_eq_getElem_cons h,rfl,by simp [h]⟩
theorem Bc {α:Type} {l:List α} {a b:Int} (h0:0≤a) (h1:a≤b) (h2:b≤l.length):fT l a b=some ((l.drop a.toNat).take (b.toNat-a.toNat)):=by
 simp [fT,h0,h1,h2,List.drop_take]
theorem iE {α:Type} {l:List α} {k:Nat} (h:k<l.length):l.take (k+1)=l.take k++[l[k]]:=by rw [List.take_succ_eq_append_getElem h]
def iU {α:Type} (f:Nat→α→α):Nat→α→α
 |0,l=>l
 |k+1,l=>f k (iU f k l)
end Go.AI
set_option linter.unusedVariables false
set_option linter.unusedSimpArgs false
namespace Go.AI.Fn
def okF (a:Int):Prop:=0≤a∧a≤2130706432
def okE (x:Ext):Prop:=okF x.A∧okF x.B
def E0 (a:Int):Bool:=decide (0≤a)&&decide (a≤2130706432)
theorem In {a:Int}:E0 a=true↔okF a:=by simp [E0,okF]
def aF (a b:Int):Int:=(a+b)%2130706433
def eA (x y:Ext):Ext:=⟨(x.A+y.A)%2130706433,(x.B+y.B)%2130706433⟩
def eS (x y:Ext):Ext:=⟨(x.A-y.A)%2130706433,(x.B-y.B)%2130706433⟩
def eM (x y:Ext):Ext:=⟨(x.A*y.A+3*(x.B*y.B))%2130706433,(x.A*y.B+x.B*y.A)%2130706433⟩
def e0:Ext:=⟨0,0⟩
def e1:Ext:=⟨1,0⟩
def eN (n:Int):Ext:=⟨n,0⟩
theorem SV:okF 0:=⟨by decide,by decide⟩
theorem ko (a:Int):okF (a%2130706433):=⟨by omega,by omega⟩
theorem N0 (a b:Int):okF (aF a b):=ko _
theorem T4 (x y:Ext):okE (eA x y):=⟨ko _,ko _⟩
theorem T7 (x y:Ext):okE (eS x y):=⟨ko _,ko _⟩
theorem T9 (x y:Ext):okE (eM x y):=⟨ko _,ko _⟩
theorem QP:okE e0:=⟨⟨by decide,by decide⟩,⟨by decide,by decide⟩⟩
theorem T3 {n:Int} (h:okF n):okE (eN n):=⟨h,SV⟩
theorem MP {a b:Int} (ha:okF a) (hb:okF b):(IntKind.wrap .i64 (a+b)).tmod 2130706433=aF a b:=by
 obtain ⟨h1,h2⟩:=ha;obtain ⟨h3,h4⟩:=hb
 unfold aF;rw [aj _ om om,Jk _ _ om]
theorem sC {a b:Int} (ha:okF a) (hb:okF b):yO a b=some (aF a b):=by unfold yO;rw [MP ha hb]
theorem Jo (n a b:Int):en n a b=some (decide (a≤n)&&decide (n≤b)):=by
 unfold en;cases decide (a≤n)<;>rfl
theorem w9 (a:Int):jY a=some (E0 a):=by
 unfold jY;rw [Jo];rfl
theorem F3 {a b:Int} (ha:okF a) (hb:okF b):mG a b=some (aF a b):=by unfold mG;rw [MP ha hb]
theorem KG (n a b:Int):dm n a b=some (decide (a≤n)&&decide (n≤b)):=by
 unfold dm;cases decide (a≤n)<;>rfl
theorem wu (a:Int):bj a=some (E0 a):=by
 unfold bj;rw [KG];rfl
end Go.AI.Fn
set_option linter.unusedVariables false
namespace Go.AI.Fn
def ltE (y x:ab):Prop:=y.Row<x.Row∨(y.Row=x.Row∧y.Col<x.Col)
def inE (R C:Int) (x:ab):Prop:=(0≤x.Row∧x.Row≤R-1)∧(0≤x.Col∧x.Col≤C-1)∧1≤x.Value∧x.Value≤2130706432
def T2 (l:List ab) (R C:Int) (t:Nat):Prop:= ∃x,l[t]? =some x∧(¬inE R C x∨(0<t∧ ∃y,l[t-1]? =some y∧ ¬ltE y x))
open Classical in
noncomputable def OM (l:List ab) (R C:Int):Bool:=decide (l.length≤200∧ ∀t, ¬T2 l R C t)
theorem MS (n a b:Int):en n a b=some (decide (a≤n∧n≤b)):=by
 unfold en
 by_cases h:a≤n
 ·rw [brd h];simp [h]
 ·rw [brn h];simp [h]
theorem EI (n a b:Int):dm n a b=some (decide (a≤n∧n≤b)):=by
 unfold dm
 by_cases h:a≤n
 ·rw [brd h];simp [h]
 ·rw [brn h];simp [h]
end Go.AI.Fn
set_option linter.unusedVariables false
namespace Go.AI.Fn
noncomputable def Tb (s:aQ):Bool:=
 decide (1≤s.Rows∧s.Rows≤5)&&(decide (2≤s.Cols∧s.Cols≤5)&&(decide (0≤s.Publics∧s.Publics≤da .i64 1 (s.Cols-1)-1)&&
  (OM s.A (da .i64 1 s.Rows) (da .i64 1 s.Cols)&&(OM s.B (da .i64 1 s.Rows) (da .i64 1 s.Cols)&&OM s.C (da .i64 1 s.Rows) (da .i64 1 s.Cols)))))
def setB (t:Setting):Bool:=decide (1≤t.Rate∧t.Rate≤3)&&(decide (1≤t.Queries∧t.Queries≤8)&&decide (0≤t.Grind∧t.Grind≤12))
theorem AM {a:List ab} (ha:a.length≤1048576):fb a a=some true:=by
 unfold fb
 rw [jA rfl]
 have key:=oR (step:=dP a a) (fun t=>0≤t∧t≤a.length) (fun t=>(a.length-t).toNat) (fun e=> ∃p,e= .inr p) ?_ 0 ⟨by omega,by omega⟩
 ·obtain ⟨e,he,p,rfl⟩:=key
  rw [he];rfl
 ·intro t ⟨h0,h1⟩
  simp only [dP]
  by_cases c:t<(a.length:Int)
  ·left
   obtain ⟨x,r,e1,e2,e3⟩:=na (l:=a) (i:=t.toNat) om
   rw [brd c,wt h0 e3]
   simp only [obs,n9]
   rw [jA rfl,jA rfl,jA rfl]
   simp only [obs,Bool.not_true,aZ]
   rw [aj (t+1) om om]
   exact ⟨_,rfl,⟨by omega,by omega⟩,by omega⟩
  ·right
   rw [brn c]
   exact ⟨_,rfl,_,rfl⟩
theorem N5 {s:aQ} (hA:s.A.length≤1048576) (hB:s.B.length≤1048576) (hC:s.C.length≤1048576):fa s s=some true:=by
 unfold fa
 rw [jA rfl,jA rfl,jA rfl,AM hA,AM hB,AM hC];rfl
end Go.AI.Fn
set_option linter.unusedVariables false
namespace Go.AI.Fn
structure Src (B:Int) (m:ib):Prop where
 at0:0≤m.at_
 at1:m.at_≤B
 sd0:0≤m.seed
 sd1:m.seed<2147483648
 len:m.code.length≤1048600
end Go.AI.Fn
set_option linter.unusedVariables false
namespace Go.AI.Fn
end Go.AI.Fn
set_option linter.unusedVariables false
namespace Go.AI.Fn
def QS (n:Int):List UInt8:=[UInt8.ofInt (s8 .i64 n 24),UInt8.ofInt (s8 .i64 n 16),UInt8.ofInt (s8 .i64 n 8),UInt8.ofInt n]
def e8 (x:Ext):List UInt8:=QS x.A++QS x.B
end Go.AI.Fn
set_option linter.unusedVariables false
set_option linter.unusedSimpArgs false
namespace Go.AI.Fn
end Go.AI.Fn
set_option linter.unusedVariables false
set_option linter.unusedSimpArgs false
namespace Go.AI.Fn
def jC (l:List Ext):Prop:= ∀x∈l,okE x
def R8 (l:List Int):Prop:= ∀x∈l,okF x
theorem jC.get {l:List Ext} (h:jC l) {k:Nat} (hk:k<l.length):okE l[k]:=h _ (List.getElem_mem hk)
theorem R8.get {l:List Int} (h:R8 l) {k:Nat} (hk:k<l.length):okF l[k]:=h _ (List.getElem_mem hk)
theorem jC.app {l m:List Ext} (h:jC l) (h2:jC m):jC (l++m):=fun x hx=>(List.mem_append.1 hx).elim (h x) (h2 x)
theorem jC.nil:jC []:=fun x hx=>by cases hx
theorem jC.one {x:Ext} (h:okE x):jC [x]:=fun y hy=>by rw [List.mem_singleton.1 hy];exact h
theorem jC.map {α:Type} {f:α→Ext} (l:List α) (h: ∀x∈l,okE (f x)):jC (l.map f):=fun y hy=>by obtain ⟨x,hx,rfl⟩:=List.mem_map.1 hy;exact h x hx
theorem jC.take {l:List Ext} (h:jC l) (k:Nat):jC (l.take k):=fun x hx=>h x (List.mem_of_mem_take hx)
theorem jC.drop {l:List Ext} (h:jC l) (k:Nat):jC (l.drop k):=fun x hx=>h x (List.mem_of_mem_drop hx)
theorem jC.getD {l:List Ext} (h:jC l) (k:Nat):okE (l.getD k e0):=by
 by_cases hk:k<l.length
 ·simp [hk];exact h.get hk
 ·simp [List.getElem?_eq_none (Nat.le_of_not_lt hk)];exact QP
end Go.AI.Fn
set_option linter.unusedVariables false
set_option linter.unusedSimpArgs false
namespace Go.AI.Fn
def kj (op:Int):Int:=if 4≤op∧op≤7 then 2 else if op=8 then 1 else 0
theorem Dj (op:Int):jJ op=some (kj op):=by
 unfold jJ kj
 rw [EI,obs]
 by_cases h1:4≤op∧op≤7
 ·rw [decide_eq_true h1,if_pos h1];rfl
 ·rw [decide_eq_false h1,if_neg h1,aZ]
  by_cases h2:op=8
  ·rw [bre h2,if_pos h2]
  ·rw [ep h2,if_neg h2]
def bS (l:List Gate) (op:Int):Nat:=l.countP fun g=>g.Op==op
theorem iG (l:List Gate) (x:Gate) (op:Int):bS (l++[x]) op=bS l op+(if (x.Op==op)=true then 1 else 0):=by
 simp only [bS,List.countP_append,List.countP_singleton]
theorem jb (l:List Gate) (op:Int):bS l op≤l.length:=List.countP_le_length
theorem G7 (b:Bool):oB b=some (if b=true then 1 else 0):=by cases b<;>rfl
theorem og {c:Circuit} {op:Int} (h:c.Gates.length≤1048576):eZ c op=some (bS c.Gates op:Int):=by
 unfold eZ
 have key:=dL (step:=cX op c.Gates) (fun j=>((bS (c.Gates.take j) op:Int),(j:Int))) c.Gates.length (e:=((bS c.Gates op:Int),(c.Gates.length:Int),false)) (fun j hj=> ?_) ?_
 ·rw [show ((0:Int),(0:Int))=((bS (c.Gates.take 0) op:Int),((0:Nat):Int)) from rfl,key];rfl
 ·have hle:=jb (c.Gates.take j) op
  rw [List.length_take] at hle
  simp only [cX]
  rw [brd om,dh hj,obs,G7,obs,iE hj,iG]
  cases hb:(c.Gates[j].Op==op)
  ·rw [if_neg (by simp),if_neg (by simp),aj _ om om,aj _ om om];simp
  ·rw [if_pos rfl,if_pos rfl,aj _ om om,aj _ om om];simp
 ·simp only [cX]
  rw [brn om,decide_eq_false om,List.take_length]
def fB (g:Gate) (k:Int):Bool:=
 decide (1≤g.Op∧g.Op≤8)&&(br (decide (kj g.Op>0)) (decide (0≤g.A∧g.A≤k-1)) (g.A==0)&&(br (decide (kj g.Op>1)) (decide (0≤g.B∧g.B≤k-1)) (g.B==0)&&br (g.Op==3) (E0 g.K) (g.K==0)))
theorem uq {g:Gate} {k:Int} (h0:0≤k) (h1:k≤1048576):jU g k=some (fB g k):=by
 have hu:kj g.Op=0∨kj g.Op=1∨kj g.Op=2:=by
  unfold kj
  split
  ·simp
  ·split<;>simp
 unfold jU fB
 simp only [EI,wu,Dj,obs,bne]
 rw [aj (k-1) om om]
 generalize kj g.Op=u at hu ⊢
 generalize decide (0≤g.A∧g.A≤k-1)=a
 generalize decide (0≤g.B∧g.B≤k-1)=b
 generalize decide (1≤g.Op∧g.Op≤8)=o
 generalize (g.A==0)=za
 generalize (g.B==0)=zb
 generalize (g.Op==3)=o3
 generalize (g.K==0)=zk
 rcases hu with rfl|rfl|rfl<;>cases o<;>cases a<;>cases b<;>cases za<;>cases zb<;>cases o3<;>rfl
def kf (l:List Gate):Bool:=decide (1≤l.length∧l.length≤15)&&((List.range l.length).all (fun k=>((l[k]?.map fun g=>fB g (k:Int)).getD false))&&decide ((bS l 2:Int)≤7))
structure OkC (l:List Gate):Prop where
 n1:1≤l.length
 n2:l.length≤15
 g: ∀(k:Nat) (h:k<l.length),fB l[k] (k:Int)=true
 p:bS l 2≤7
theorem sZ {l:List Gate} (h:kf l=true):OkC l:=by
 simp only [kf,Bool.and_eq_true,decide_eq_true_eq,List.all_eq_true,List.mem_range] at h
 obtain ⟨⟨h1,h2⟩,h3,h4⟩:=h
 exact ⟨h1,h2,fun k hk=>by simpa [hk] using h3 k hk,by omega⟩
theorem tl {c:Circuit} (h:c.Gates.length≤1048576):gZ c=some (kf c.Gates):=by
 unfold gZ kf
 rw [EI,obs]
 by_cases h1:1≤c.Gates.length∧c.Gates.length≤15
 ·rw [decide_eq_true om,decide_eq_true h1,Bool.not_true,aZ,Bool.true_and]
  have key:=wH (step:=bz c.Gates) (fun k=>(k:Int)) c.Gates.length (fun k=>((c.Gates[k]?.map fun g=>fB g (k:Int)).getD false)) (fun k=> .inl ()) (e:= .inr ((c.Gates.length:Int),false)) (fun k hk hp=>by
   have hb:fB c.Gates[k] (k:Int)=true:=by simpa [hk] using hp
   simp only [bz]
   rw [brd om,dh hk,obs,uq om om,obs,hb,Bool.not_true,aZ,aj _ om om];rfl)
   (fun k hk hp=>by
    have hb:fB c.Gates[k] (k:Int)=false:=by simpa [hk] using hp
    simp only [bz]
    rw [brd om,dh hk,obs,uq om om,obs,hb,Bool.not_false,bH])
   (by simp only [bz];rw [brn om,decide_eq_false om])
  rcases key with ⟨h2,h3⟩|⟨k,hk,h2,_,h3⟩
  ·have e:Loop (bz c.Gates) 0=some (.inr ((c.Gates.length:Int),false)):=h3
   have ha:(List.range c.Gates.length).all (fun k=>((c.Gates[k]?.map fun g=>fB g (k:Int)).getD false))=true:=List.all_eq_true.2 fun k hk=>h2 k (List.mem_range.1 hk)
   rw [e,ha,obs,qZ,og h,obs,Bool.true_and]
  ·have e:Loop (bz c.Gates) 0=some (.inl ()):=h3
   have ha:(List.range c.Gates.length).all (fun k=>((c.Gates[k]?.map fun g=>fB g (k:Int)).getD false))=false:=List.all_eq_false.2 ⟨k,List.mem_range.2 hk,by rw [h2];simp⟩
   rw [e,ha,obs,re,Bool.false_and]
 ·rw [decide_eq_false om,decide_eq_false h1,Bool.not_false,bH,Bool.false_and]
theorem vN {g:Gate} {k:Int} (h:fB g k=true):(1≤g.Op∧g.Op≤8)∧(4≤g.Op→0≤g.A∧g.A≤k-1)∧(4≤g.Op→g.Op≤7→0≤g.B∧g.B≤k-1)∧(g.Op=3→okF g.K):=by
 simp only [fB,Bool.and_eq_true,decide_eq_true_eq] at h
 obtain ⟨h1,h2,h3,h4⟩:=h
 refine ⟨h1,fun h=> ?_,fun h g7=> ?_,fun h=> ?_⟩
 ·rw [brd (by
   unfold kj
   split
   ·omega
   ·split<;>omega)] at h2
  exact of_decide_eq_true h2
 ·rw [brd (by unfold kj;rw [if_pos ⟨h,g7⟩];omega)] at h3
  exact of_decide_eq_true h3
 ·rw [bre h] at h4
  exact In.1 h4
theorem vh {l:List Gate} {j:Nat} {op:Int} (hj:j<l.length) (h:l[j].Op=op):bS (l.take j) op<bS l op:=by
 have h1:bS (l.take (j+1)) op≤bS l op:=List.Sublist.countP_le (List.take_sublist _ _)
 rw [iE hj,iG,if_pos (by simp [h])] at h1
 omega
theorem pd {l:List Int} {k:Nat} (h:k<l.length):atL l (k:Int)=some (l.getD k 0):=by rw [dh h];simp [h]
theorem JG {l:List Int} {k:Nat} (h:k<l.length):l[k]? =some (l.getD k 0):=by simp [h]
theorem Fg {l:List Int} {i:Int} (h0:0≤i) (h1:i.toNat<l.length):atL l i=some (l.getD i.toNat 0):=by
 have:i=((i.toNat:Nat):Int):=by omega
 conv=>lhs;rw [this]
 exact pd h1
end Go.AI.Fn
set_option linter.unusedVariables false
set_option linter.unusedSimpArgs false
namespace Go.AI.Fn
end Go.AI.Fn
set_option linter.unusedVariables false
set_option linter.unusedSimpArgs false
namespace Go.AI.Fn
theorem EH {k:Nat} (h:k≤62):da .i64 1 (k:Int)=((2^k:Nat):Int):=by
 have h2: ∀k:Nat,k<63→(2:Int)^k≤4611686018427387904∧0<(2:Int)^k:=by decide
 obtain ⟨h3,h4⟩:=h2 k om
 show IntKind.wrap .i64 (1*2^(min ((k:Int).toNat) 64))=_
 rw [Int.toNat_natCast,Nat.min_eq_left om,Int.one_mul,aj _ om om]
 simp
theorem vC: ∀k:Nat,k≤5→1≤2^k∧2^k≤32:=by decide
end Go.AI.Fn
set_option linter.unusedVariables false
set_option linter.unusedSimpArgs false
namespace Go.AI.Fn
theorem nW {k:Nat} (h:k≤9223372036854775807):IntKind.wrap .u64 (k:Int)=(k:Int):=by
 simp only [IntKind.wrap,IntKind.bits,IntKind.signed]
 simp
 omega
def lgM (m:Int):Nat:=if m≤2 then 2 else if m≤4 then 3 else if m≤8 then 4 else 5
theorem rf {p w:Int} {l:List Gate} {k:Nat} (hk:k≤50) (hp:0≤p) (hp1:p≤100):
 dX p w l ((k+1:Nat):Int)=if ((2^k:Nat):Int)<mx (p+1) w then some (.inl ((k+2:Nat):Int)) else some (.inr (((k+1:Nat):Int),false)):=by
 have e:IntKind.wrap .i64 (((k+1:Nat):Int)-1)=(k:Int):=by rw [aj _ om om];omega
 have e2:IntKind.wrap .i64 (((k+1:Nat):Int)+1)=((k+2:Nat):Int):=by rw [aj _ om om];omega
 simp only [dX]
 rw [e,e2,nW om,brd om,EH om,aj _ om om]
 by_cases h:((2^k:Nat):Int)<mx (p+1) w
 ·rw [brd h,if_pos h]
 ·rw [brn h,if_neg h,decide_eq_false h]
theorem Kg {p w:Int} {l:List Gate} (hp:0≤p) (hp1:p≤7) (hw:w≤15):Loop (dX p w l) 2=some ((lgM (mx (p+1) w):Int),false):=by
 have hm:mx (p+1) w≤15:=by unfold mx;split<;>omega
 have s1:=rf (p:=p) (w:=w) (l:=l) (k:=1) om hp om
 have s2:=rf (p:=p) (w:=w) (l:=l) (k:=2) om hp om
 have s3:=rf (p:=p) (w:=w) (l:=l) (k:=3) om hp om
 have s4:=rf (p:=p) (w:=w) (l:=l) (k:=4) om hp om
 simp only [Nat.reducePow,Nat.reduceAdd] at s1 s2 s3 s4
 unfold lgM
 generalize mx (p+1) w=m at*
 by_cases h1:m≤2
 ·rw [if_pos h1];rw [if_neg om] at s1;exact cf s1
 rw [if_neg h1];rw [if_pos om] at s1
 refine (cE s1).trans ?_
 by_cases h2:m≤4
 ·rw [if_pos h2];rw [if_neg om] at s2;exact cf s2
 rw [if_neg h2];rw [if_pos om] at s2
 refine (cE s2).trans ?_
 by_cases h3:m≤8
 ·rw [if_pos h3];rw [if_neg om] at s3;exact cf s3
 rw [if_neg h3];rw [if_pos om] at s3
 refine (cE s3).trans ?_
 rw [if_neg om] at s4;exact cf s4
def lgC (l:List Gate):Nat:=lgM (mx ((bS l 2:Int)+1) ((l.length:Int)-(bS l 2:Int)))
theorem xd {c:Circuit} (ok:OkC c.Gates):mh c=some (lgC c.Gates:Int):=by
 have h1:=ok.n2
 have h2:=ok.p
 have h3:=jb c.Gates 2
 unfold mh
 rw [og om,obs,aj _ om om,Kg om om om];rfl
theorem ES (m:Int):2≤lgM m∧lgM m≤5:=by
 unfold lgM
 split
 ·omega
 ·split
  ·omega
  ·split<;>omega
theorem JI {m:Int} (h:m≤15):m≤((2^(lgM m-1):Nat):Int):=by
 unfold lgM
 split
 ·simpa
 ·split
  ·simpa
  ·split
   ·simpa
   ·simp;omega
def xF (l:List Gate) (j:Nat):Int:=if (l.getD j ⟨0,0,0,0⟩).Op=2 then (bS (l.take j) 2:Int)+1 else ((2^(lgC l-1):Nat):Int)+((j:Int)-(bS (l.take j) 2:Int))
def cc (l:List Gate) (n:Nat):List Int:=(List.range n).map (xF l)
theorem nk (l:List Gate) (n:Nat):(cc l n).length=n:=by simp [cc]
theorem sy (l:List Gate) (n:Nat):cc l (n+1)=cc l n++[xF l n]:=by simp [cc,List.range_succ]
theorem wm {c:Circuit} (ok:OkC c.Gates):jQ c=some (cc c.Gates c.Gates.length,(lgC c.Gates:Int)):=by
 have h1:=ok.n2
 have h2:=ES (mx ((bS c.Gates 2:Int)+1) ((c.Gates.length:Int)-(bS c.Gates 2:Int)))
 have h2':2≤lgC c.Gates∧lgC c.Gates≤5:=h2
 have e:IntKind.wrap .i64 ((lgC c.Gates:Int)-1)=((lgC c.Gates-1:Nat):Int):=by rw [aj _ om om];omega
 have hpw:=vC (lgC c.Gates-1) om
 unfold jQ
 rw [xd ok,obs,e,nW om,brd om,EH om]
 have key:=dL (step:=dv (lgC c.Gates:Int) ((2^(lgC c.Gates-1):Nat):Int) c.Gates) (fun j=>(cc c.Gates j,(bS (c.Gates.take j) 2:Int),(j:Int)-(bS (c.Gates.take j) 2:Int),(j:Int))) c.Gates.length (e:=(cc c.Gates c.Gates.length,(bS c.Gates 2:Int),(c.Gates.length:Int)-(bS c.Gates 2:Int),(c.Gates.length:Int),false)) (fun j hj=> ?_) ?_
 ·have:((cc c.Gates 0,(bS (c.Gates.take 0) 2:Int),((0:Nat):Int)-(bS (c.Gates.take 0) 2:Int),((0:Nat):Int)):List Int×Int×Int×Int)=([],0,0,0):=rfl
  rw [←this,key];rfl
 ·have hd:c.Gates.getD j ⟨0,0,0,0⟩=c.Gates[j]:=by simp [hj]
  have l2:=jb (c.Gates.take j) 2
  rw [List.length_take] at l2
  have hcl:=nk c.Gates j
  have hfit: ∀v:Int,(cc c.Gates j++[v]).length*8≤1099511627776:=fun v=>by rw [List.length_append,hcl];simp;omega
  simp only [dv]
  rw [brd om,dh hj,obs,iE hj,iG,sy,xF,hd]
  by_cases h:c.Gates[j].Op=2
  ·rw [bre h,ec (hfit _),aj _ om om,aj _ om om,if_pos h,if_pos (by simp [h])]
   simp;omega
  ·rw [ep h,ec (hfit _),aj _ om om,aj _ om om,aj _ om om,if_neg h,if_neg (by simp [h])]
   simp;omega
 ·simp only [dv]
  rw [brn om,decide_eq_false om,List.take_length]
end Go.AI.Fn
set_option linter.unusedVariables false
set_option linter.unusedSimpArgs false
namespace Go.AI.Fn
def enP (row col:Int) (e:ab):Bool:=decide (e.Row=row)&&decide (e.Col>col)
def enR (row col v:Int):List ab→List ab
 |[]=>[⟨row,col,v⟩]
 |e::R=>if enP row col e=true then e::enR row col v R
  else if e.Row=row∧e.Col=col then (if aF e.Value v=0 then R else ⟨row,col,aF e.Value v⟩::R)
  else ⟨row,col,v⟩::e::R
def enM (L:List ab) (row col v:Int):List ab:=(enR row col v L.reverse).reverse
theorem B5 {row col v:Int} {R:List ab}: ∀{T:List ab},(∀e∈T,enP row col e=true)→enR row col v (T++R)=T++enR row col v R
 |[],_=>rfl
 |e::T,h=>by
  rw [List.cons_append,enR,if_pos (h e (by simp)),B5 fun x hx=>h x (by simp [hx])];rfl
theorem yN (row col:Int) (L:List ab): ∃A T,L=A++T∧(∀e∈T,enP row col e=true)∧(A=[]∨ ∃B e,A=B++[e]∧enP row col e=false):=by
 refine ⟨(L.reverse.dropWhile (enP row col)).reverse,(L.reverse.takeWhile (enP row col)).reverse, ?_, ?_, ?_⟩
 ·rw [←List.reverse_append,List.takeWhile_append_dropWhile,List.reverse_reverse]
 ·intro e he
  rw [List.mem_reverse] at he
  have: ∀(l:List ab), ∀e∈l.takeWhile (enP row col),enP row col e=true:=by
   intro l
   induction l with
   |nil=>intro e he;cases he
   |cons x l ih=>
    intro e he
    rw [List.takeWhile_cons] at he
    split at he
    ·rename_i hx
     rcases List.mem_cons.1 he with rfl|he
     ·exact hx
     ·exact ih e he
    ·cases he
  exact this _ e he
 ·have: ∀(l:List ab),l.dropWhile (enP row col)=[]∨ ∃x r,l.dropWhile (enP row col)=x::r∧enP row col x=false:=by
   intro l
   induction l with
   |nil=>exact .inl rfl
   |cons x l ih=>
    rw [List.dropWhile_cons]
    split
    ·exact ih
    ·rename_i hx;exact .inr ⟨x,l,rfl,by simpa using hx⟩
  rcases this L.reverse with h|⟨x,r,h,hx⟩
  ·exact .inl (by rw [h];rfl)
  ·exact .inr ⟨r.reverse,x,by rw [h,List.reverse_cons],hx⟩
theorem pz {row col v:Int} {A T:List ab} (h: ∀e∈T,enP row col e=true):enM (A++T) row col v=enM A row col v++T:=by
 unfold enM
 rw [List.reverse_append,B5 (fun e he=>h e (by simpa using he)),List.reverse_append,List.reverse_reverse]
theorem yc {α:Type} {A B:List α} {n:Int} (h:n=A.length):fT (A++B) 0 n=some A:=by
 subst h
 rw [Bc om om (by simp;omega)]
 simp
theorem sw {α:Type} {A B:List α} {n m:Int} (h:n=A.length) (hm:m=((A++B).length:Nat)):fT (A++B) n m=some B:=by
 subst h;subst hm
 rw [Bc om (by simp;omega) om]
 have:((A.length:Int)+(B.length:Int)).toNat-A.length=B.length:=by omega
 simp [this]
theorem JT {row col v:Int} {A T:List ab} (hT: ∀e∈T,enP row col e=true) (hA:A=[]∨ ∃B e,A=B++[e]∧enP row col e=false) (hl:(A++T).length≤1000000):
 Loop (cm (A++T) row col v) (((A++T).length:Nat):Int)=some ((A.length:Int),false):=by
 have hlen:(A++T).length=A.length+T.length:=List.length_append
 have key:=dL (step:=cm (A++T) row col v) (fun j=>(((A.length+T.length-j:Nat)):Int)) T.length (e:=((A.length:Int),false)) (fun j hj=> ?_) ?_
 ·rw [hlen];simpa using key
 ·have hi:A.length+T.length-j-1<(A++T).length:=by omega
  have hp:enP row col (A++T)[A.length+T.length-j-1]=true:=by
   rw [List.getElem_append_right om]
   exact hT _ (List.getElem_mem _)
  simp only [enP,Bool.and_eq_true,decide_eq_true_eq] at hp
  have e:IntKind.wrap .i64 (((A.length+T.length-j:Nat):Int)-1)=((A.length+T.length-j-1:Nat):Int):=by rw [aj _ om om];omega
  simp only [cm]
  rw [brd om,e,dh hi,obs,bre hp.1,obs,brd hp.2]
  have e3:A.length+T.length-j-1=A.length+T.length-(j+1):=by omega
  rw [e3]
 ·simp only [cm]
  rw [show A.length+T.length-T.length=A.length by omega]
  rcases hA with rfl|⟨B,x,rfl,hx⟩
  ·rw [brn (by simp)]
  ·have e:IntKind.wrap .i64 (((B++[x]).length:Nat)-1:Int)=(B.length:Int):=by
    rw [aj _ om om];simp
   have hx':atL (B++[x]++T) (B.length:Int)=some x:=by
    rw [dh (by simp)];simp
   rw [brd (by simp),e,hx',obs]
   simp only [enP,Bool.and_eq_false_iff,decide_eq_false_iff_not] at hx
   by_cases h1:x.Row=row
   ·have h2: ¬x.Col>col:=by rcases hx with hx|hx;exact absurd h1 hx;exact hx
    rw [bre h1,obs,brn h2,decide_eq_false h2]
   ·rw [ep h1]
theorem tx {L:List ab} {row col v:Int} (hl:L.length≤1000000) (hv:okF v) (hL: ∀e∈L,okF e.Value):aa L row col v=some (enM L row col v):=by
 obtain ⟨A,T,rfl,hT,hA⟩:=yN row col L
 have hlen:(A++T).length=A.length+T.length:=List.length_append
 unfold aa
 rw [JT hT hA hl,obs,pz hT]
 dsimp only
 have f1: ∀M:List ab,M.length≤2000000→M.length*24≤1099511627776:=fun M h=>by omega
 have ins:((fT (A++T) 0 (A.length:Int)).bind fun y=>br (dN (([]++y:List ab)).length 24) (br (dN (([]++y)++[ab.mk row col v]).length 24) ((fT (A++T) (A.length:Int) (((A++T).length:Nat):Int)).bind fun y2=>br (dN ((([]++y)++[ab.mk row col v])++y2).length 24) (some ((([]++y)++[ab.mk row col v])++y2)) none) none) none)=some (A++[ab.mk row col v]++T):=by
  rw [yc rfl,obs,List.nil_append,ec (f1 _ om),ec (f1 _ (by simp;omega)),sw rfl rfl,obs,ec (f1 _ (by simp;omega))]
 rcases hA with rfl|⟨B,x,rfl,hx⟩
 ·rw [brn (by simp),ins];rfl
 ·have e:IntKind.wrap .i64 (((B++[x]).length:Nat)-1:Int)=(B.length:Int):=by
   rw [aj _ om om];simp
  have hx':atL (B++[x]++T) (B.length:Int)=some x:=by
   rw [dh (by simp)];simp
  rw [brd (by simp),e,hx',obs]
  have hm:enM (B++[x]) row col v=if x.Row=row∧x.Col=col then (if aF x.Value v=0 then B else B++[⟨row,col,aF x.Value v⟩]) else B++[x]++[⟨row,col,v⟩]:=by
   unfold enM
   rw [List.reverse_append,List.reverse_singleton,List.singleton_append,enR,if_neg (by rw [hx];simp)]
   split
   ·split<;>simp
   ·simp
  rw [hm]
  by_cases h1:x.Row=row
  ·rw [bre h1,obs]
   by_cases h2:x.Col=col
   ·have hs:fT (B++[x]++T) 0 (B.length:Int)=some B:=by rw [List.append_assoc];exact yc rfl
    rw [bre h2,obs,F3 (hL x (by simp)) hv,obs,hs,obs,List.nil_append,ec (f1 _ (by simp at hl;omega)),if_pos ⟨h1,h2⟩]
    by_cases h3:aF x.Value v=0
    ·rw [jA h3,if_pos h3,sw rfl rfl,obs,ec (f1 _ (by simp at hl ⊢;omega))]
    ·rw [brb h3,if_neg h3,ec (f1 _ (by simp at hl ⊢;omega)),sw rfl rfl,obs,ec (f1 _ (by simp at hl ⊢;omega))]
   ·rw [ep h2,ins,if_neg (fun h=>h2 h.2)]
  ·rw [ep h1,ins,if_neg (fun h=>h1 h.1)]
end Go.AI.Fn
set_option linter.unusedVariables false
set_option linter.unusedSimpArgs false
namespace Go.AI.Fn
abbrev xo (a b:Int):Int:=p6 .u64 a b
def rot (x s:Int):Int:=if s=0 then x else rF .u64 (da .u64 x s) (s8 .u64 x (64-s))
end Go.AI.Fn
set_option linter.unusedVariables false
set_option linter.unusedSimpArgs false
namespace Go.AI.Fn
abbrev g (l:List Int) (i:Int):Int:=l.getD i.toNat 0
def Q6:List Int:=[0,1,62,28,27,36,44,6,55,20,3,10,43,25,39,41,45,15,21,8,18,2,61,56,14]
def p2 (m:List Int) (k:Nat) (l:List Int):List Int:=l.set ((k:Int)%5).toNat (xo (g l ((k:Int)%5)) (g m k))
def p3 (m c:List Int) (k:Nat) (l:List Int):List Int:=
 l.set ((k:Int)/5+5*((2*((k:Int)%5)+3*((k:Int)/5))%5)).toNat (rot (xo (g m k) (xo (g c (((k:Int)%5+4)%5)) (rot (g c (((k:Int)%5+1)%5)) 1))) (g Q6 k))
def p4 (b:List Int) (k:Nat) (l:List Int):List Int:=
 l.set k (xo (g b k) (AY .u64 (g b ((k:Int)-(k:Int)%5+((k:Int)%5+2)%5)) (g b ((k:Int)-(k:Int)%5+((k:Int)%5+1)%5))))
def q2 (m:List Int) (k:Nat) (l:List Int):List Int:=l.set k (xo (xo (xo (xo (g m k) (g m ((k:Int)+5))) (g m ((k:Int)+10))) (g m ((k:Int)+15))) (g m ((k:Int)+20)))
def q3 (c:List Int) (k:Nat) (l:List Int):List Int:=l.set k (xo (g l k) (xo (g c (((k:Int)+4)%5)) (rot (g c (((k:Int)+1)%5)) 1)))
def PB (m:List Int) (rc:Int):List Int:=
 let c:=iU (p2 m) 25 (nZ 5)
 let b:=iU (p3 m c) 25 (nZ 25)
 let r:=iU (p4 b) 25 m
 r.set 0 (xo (r.getD 0 0) rc)
end Go.AI.Fn
set_option linter.unusedVariables false
set_option linter.unusedSimpArgs false
namespace Go.AI.Fn
end Go.AI.Fn
set_option linter.unusedVariables false
set_option linter.unusedSimpArgs false
set_option maxRecDepth 10000
namespace Go.AI.Fn
def rcL:List Int:=[1,32898,9223372036854808714,9223372039002292224,32907,2147483649,9223372039002292353,9223372036854808585,138,136,2147516425,2147483658,2147516555,9223372036854775947,9223372036854808713,9223372036854808579,9223372036854808578,9223372036854775936,32778,9223372039002259466,9223372039002292353,9223372036854808704,2147483649,9223372039002292232]
def rdP (k:Nat) (m:List Int):List Int:=PB m (rcL.getD k 0)
def R6 (m:List Int):List Int:=iU rdP 24 m
def lnS (t:List UInt8) (k:Nat) (l:List Int):List Int:=l.set ((k:Int)/8).toNat (rF .u64 (g l ((k:Int)/8)) (da .u64 (IntKind.wrap .u64 ((t.getD k 0).toNat:Int)) (8*((k:Int)%8))))
def Qg (t:List UInt8):List Int:=iU (lnS t) t.length (nZ 25)
def txB (m:List Int) (i:Nat):UInt8:=UInt8.ofInt (s8 .u64 (g m ((i:Int)/8)) (8*((i:Int)%8)))
def Hf (m:List Int) (n:Nat):List UInt8:=(List.range n).map (txB m)
theorem BW (m:List Int) (n:Nat):(Hf m n).length=n:=by simp [Hf]
end Go.AI.Fn
set_option linter.unusedVariables false
set_option linter.unusedSimpArgs false
namespace Go.AI.Fn
def xoS (t:List Int) (k:Nat) (l:List Int):List Int:=l.set k (xo (g l k) (g t k))
def SI (t m:List Int):List Int:=iU (xoS t) 25 m
def SY (a:List UInt8) (k:Nat) (m:List Int):List Int:=R6 (SI (Qg ((a.drop (136*k)).take 136)) m)
def SG (a:List UInt8) (n:Nat):List Int:=iU (SY a) n (nZ 25)
def JQ (l:List UInt8):List UInt8:=l++List.replicate ((136-l.length%136)%136) 0
def SX (b:List UInt8):List UInt8:=(JQ (b++[1])).set ((JQ (b++[1])).length-1) (UInt8.ofInt (rF .u8 (((JQ (b++[1])).getD ((JQ (b++[1])).length-1) 0).toNat:Int) 128))
def H (b:List UInt8):List UInt8:=Hf (SG (SX b) ((b.length+136)/136)) 32
theorem T8 (b:List UInt8):(H b).length=32:=BW _ _
end Go.AI.Fn
set_option linter.unusedVariables false
namespace Go.AI.Fn
theorem Tc {l:List UInt8} (h:8≤l.length): ∃a b c d e f g k r,l=a::b::c::d::e::f::g::k::r:=by
 match l,h with
 |a::b::c::d::e::f::g::k::r,_=>exact ⟨a,b,c,d,e,f,g,k,r,rfl⟩
end Go.AI.Fn
set_option linter.unusedVariables false
set_option linter.unusedSimpArgs false
namespace Go.AI.Fn
def Ta:List UInt8:=[97,98,115,111,114,98]
structure T5 (s:Source):Prop where
 len:s.Script.length≤64
 scr:jC s.Script
 st:s.State.length=32
 a0:0≤s.At
 a1:s.At≤1000000
 c0:0≤s.Count
 c1:s.Count≤1000000
end Go.AI.Fn
set_option linter.unusedVariables false
namespace Go.AI.Fn
end Go.AI.Fn
set_option linter.unusedVariables false
set_option linter.unusedSimpArgs false
namespace Go.AI.Fn
end Go.AI.Fn
set_option linter.unusedVariables false
set_option linter.unusedSimpArgs false
namespace Go.AI.Fn
structure OkM (l:List ab) (R C:Int):Prop where
 len:l.length≤200
 ent: ∀x∈l,inE R C x
 srt: ∀k (hk:k<l.length), ∀y∈l.take k,ltE y l[k]
theorem C5 {x y z:ab} (h:ltE x y) (g:ltE y z):ltE x z:=by unfold ltE at*;omega
end Go.AI.Fn
set_option linter.unusedVariables false
set_option linter.unusedSimpArgs false
namespace Go.AI.Fn
end Go.AI.Fn
set_option linter.unusedVariables false
set_option linter.unusedSimpArgs false
namespace Go.AI.Fn
structure MkR (l:List ab) (row C:Int):Prop where
 ent: ∀x∈l,0≤x.Row∧x.Row≤row∧0≤x.Col∧x.Col≤C-1∧1≤x.Value∧x.Value≤2130706432
 srt:l.Pairwise ltE
theorem MkR.nil (row C:Int):MkR [] row C:=⟨fun x hx=>(by cases hx),List.Pairwise.nil⟩
theorem MkR.up {l:List ab} {row C r:Int} (h:MkR l row C) (hr:row≤r):MkR l r C:=
 ⟨fun x hx=>by obtain ⟨a,b,c⟩:=h.ent x hx;exact ⟨a,by omega,c⟩,h.srt⟩
theorem MkR.okF {l:List ab} {row C:Int} (h:MkR l row C): ∀e∈l,Fn.okF e.Value:=fun e he=>by
 obtain ⟨_,_,_,_,a,b⟩:=h.ent e he
 exact ⟨by omega,by omega⟩
theorem v7 {A T:List ab} {n:ab} {row C:Int} (h:MkR (A++T) row C) (hn:n.Row=row) (h0:0≤row) (hc:0≤n.Col∧n.Col≤C-1) (hv:1≤n.Value∧n.Value≤2130706432) (hA: ∀a∈A,ltE a n) (hT: ∀b∈T,ltE n b):MkR (A++[n]++T) row C:=by
 obtain ⟨p1,p2,p3⟩:=List.pairwise_append.1 h.srt
 refine ⟨fun x hx=> ?_, ?_⟩
 ·simp only [List.mem_append,List.mem_singleton] at hx
  rcases hx with (hx|rfl)|hx
  ·exact h.ent x (by simp [hx])
  ·exact ⟨by omega,by omega,hc.1,hc.2,hv.1,hv.2⟩
  ·exact h.ent x (by simp [hx])
 ·rw [List.append_assoc,List.pairwise_append]
  refine ⟨p1, ?_,fun a ha b hb=> ?_⟩
  ·rw [List.singleton_append,List.pairwise_cons];exact ⟨hT,p2⟩
  ·rw [List.singleton_append,List.mem_cons] at hb
   rcases hb with rfl|hb
   ·exact hA a ha
   ·exact p3 a ha b hb
theorem MkR.sub {l l':List ab} {row C:Int} (h:MkR l row C) (hs:List.Sublist l' l):MkR l' row C:=
 ⟨fun x hx=>h.ent x (hs.subset hx),h.srt.sublist hs⟩
theorem ci {l:List ab} {row col v C:Int} (h:MkR l row C) (h0:0≤row) (hc:0≤col∧col≤C-1) (hv:1≤v∧v≤2130706432):MkR (enM l row col v) row C∧(enM l row col v).length≤l.length+1:=by
 obtain ⟨A,T,rfl,hT,hA⟩:=yN row col l
 have hT': ∀b∈T,b.Row=row∧b.Col>col:=fun b hb=>by simpa [enP] using hT b hb
 rw [pz hT]
 rcases hA with rfl|⟨B,x,rfl,hx⟩
 ·refine ⟨v7 (A:=[]) (n:=⟨row,col,v⟩) h rfl h0 hc hv (fun a ha=>by cases ha) (fun b hb=> ?_),by simp [enM,enR]⟩
  have:=hT' b hb
  unfold ltE;dsimp only;omega
 ·have hm:enM (B++[x]) row col v=if x.Row=row∧x.Col=col then (if aF x.Value v=0 then B else B++[⟨row,col,aF x.Value v⟩]) else B++[x]++[⟨row,col,v⟩]:=by
   unfold enM
   rw [List.reverse_append,List.reverse_singleton,List.singleton_append,enR,if_neg (by rw [hx];simp)]
   split
   ·split<;>simp
   ·simp
  have hxe:=h.ent x (by simp)
  obtain ⟨p1,p2,p3⟩:=List.pairwise_append.1 h.srt
  obtain ⟨q1,q2,q3⟩:=List.pairwise_append.1 p1
  have hBx: ∀a∈B,ltE a x:=fun a ha=>q3 a ha x (by simp)
  rw [hm]
  split
  ·rename_i he
   have hs:MkR (B++T) row C:=h.sub (by simp)
   split
   ·exact ⟨hs,by simp;omega⟩
   ·rename_i hz
    have hk:=N0 x.Value v
    refine ⟨v7 hs rfl h0 hc ⟨(by have:=hk.1;show 1≤aF x.Value v;omega),hk.2⟩ (fun a ha=> ?_) (fun b hb=> ?_),by simp⟩
    ·have:=hBx a ha
     unfold ltE at*;dsimp only;omega
    ·have:=hT' b hb
     unfold ltE;dsimp only;omega
  ·rename_i he
   have hxn:ltE x ⟨row,col,v⟩:=by
    simp only [enP,Bool.and_eq_false_iff,decide_eq_false_iff_not] at hx
    unfold ltE;dsimp only;omega
   refine ⟨v7 h rfl h0 hc hv (fun a ha=> ?_) (fun b hb=> ?_),by simp;omega⟩
   ·rcases List.mem_append.1 ha with ha|ha
    ·exact C5 (hBx a ha) hxn
    ·rw [List.mem_singleton] at ha;subst ha;exact hxn
   ·have:=hT' b hb
    unfold ltE;dsimp only;omega
end Go.AI.Fn
set_option linter.unusedVariables false
set_option linter.unusedSimpArgs false
namespace Go.AI.Fn
def syM (a b c:Int) (g:Gate) (r:Int) (A B C:List ab):Int×List ab×List ab×List ab:=
 if g.Op=1∨g.Op=2 then (r,A,B,C)
 else if g.Op=6 then (r+1,enM A r a 1,enM B r b 1,enM C r c 1)
 else if g.Op=4 then (r+1,enM (enM A r a 1) r b 1,enM B r 0 1,enM C r c 1)
 else if g.Op=5 then (r+1,enM (enM A r a 1) r b 2130706432,enM B r 0 1,enM C r c 1)
 else if g.Op=3 then (r+1,if g.K>0 then enM A r 0 g.K else A,enM B r 0 1,enM C r c 1)
 else if g.Op=7 then (r+1+1,enM (enM A r b 1) (r+1) a 1,enM (enM B r 0 1) (r+1) 0 1,enM (enM C r c 1) (r+1) c 1)
 else (r+1+1,enM (enM A r a 1) (r+1) a 1,enM (enM B r a 1) (r+1) 0 1,enM (enM C r c 1) (r+1) c 1)
theorem hQ {L:List ab} {row col v C:Int} (h:MkR L row C) (hl:L.length≤1000) (hv:1≤v∧v≤2130706432):aa L row col v=some (enM L row col v):=
 tx om ⟨by omega,hv.2⟩ h.okF
theorem Ky {t:List Int} {l:List Gate} {c2 c3 c4 c5 c6 c7 r CC:Int} {k:Nat} {A B C:List ab} (ok:OkC l) (hk:k<l.length) (ht:t.length=l.length) (hr:0≤r) (hr1:r≤100)
 (hC:1≤CC) (hc: ∀i,i<l.length→0≤t.getD i 0∧t.getD i 0≤CC-1) (mA:MkR A r CC) (mB:MkR B r CC) (mC:MkR C r CC) (lA:A.length≤900) (lB:B.length≤900) (lC:C.length≤900):
 bP t l c2 c3 c4 c5 c6 c7 (r,(k:Int),A,B,C)=
  (fun S:Int×List ab×List ab×List ab=>some (.inl (S.1,((k+1:Nat):Int),S.2.1,S.2.2.1,S.2.2.2))) (syM (t.getD l[k].A.toNat 0) (t.getD l[k].B.toNat 0) (t.getD k 0) l[k] r A B C):=by
 have hn:=ok.n2
 obtain ⟨g1,g2,g3,g4⟩:=vN (ok.g k hk)
 have hck:=hc k hk
 simp only [bP]
 rw [brd om,dh hk,obs]
 generalize l[k]=g at*
 have ek:IntKind.wrap .i64 ((k:Int)+1)=((k+1:Nat):Int):=by rw [aj _ om om];omega
 have er:IntKind.wrap .i64 (r+1)=r+1:=aj _ om om
 have er2:IntKind.wrap .i64 (r+1+1)=r+1+1:=aj _ om om
 have one:(1:Int)≤1∧(1:Int)≤2130706432:=⟨by omega,by omega⟩
 have big:(1:Int)≤2130706432∧(2130706432:Int)≤2130706432:=⟨by omega,by omega⟩
 have c0:(0:Int)≤0∧(0:Int)≤CC-1:=⟨by omega,by omega⟩
 have hkk:atL t (k:Int)=some (t.getD k 0):=pd om
 rw [ek,er,er2,hkk]
 simp only [obs]
 have hop:g.Op=1∨g.Op=2∨g.Op=3∨g.Op=4∨g.Op=5∨g.Op=6∨g.Op=7∨g.Op=8:=by omega
 have ha:4≤g.Op→atL t g.A=some (t.getD g.A.toNat 0)∧0≤t.getD g.A.toNat 0∧t.getD g.A.toNat 0≤CC-1:=fun h=>by
  have:=g2 h
  exact ⟨Fg this.1 om,hc _ om⟩
 have hb:4≤g.Op→g.Op≤7→atL t g.B=some (t.getD g.B.toNat 0)∧0≤t.getD g.B.toNat 0∧t.getD g.B.toNat 0≤CC-1:=fun h h7=>by
  have:=g3 h h7
  exact ⟨Fg this.1 om,hc _ om⟩
 have dB:=hQ (col:=0) mB om one
 have dC:=hQ (col:=t.getD k 0) mC om one
 have nB:=ci mB hr c0 one
 have nC:=ci mC hr hck one
 have dB2:=hQ (col:=0) (nB.1.up (r:=r+1) om) om one
 have dC2:=hQ (col:=t.getD k 0) (nC.1.up (r:=r+1) om) om one
 rcases hop with h|h|h|h|h|h|h|h
 ·simp [syM,h,br]
 ·simp [syM,h,br]
 ·by_cases hK:g.K>0
  ·have dA:=hQ (col:=0) (v:=g.K) mA om ⟨by omega,(g4 h).2⟩
   simp only [syM,h,decide_eq_true hK,dA,dB,dC,obs,if_pos hK];rfl
  ·simp only [syM,h,decide_eq_false hK,dB,dC,obs,if_neg hK];rfl
 ·obtain ⟨a1,a2⟩:=ha om
  obtain ⟨b1,b2⟩:=hb om om
  have dA:=hQ (col:=t.getD g.A.toNat 0) mA om one
  have nA:=ci mA hr a2 one
  have dA2:=hQ (col:=t.getD g.B.toNat 0) nA.1 om one
  simp only [syM,h,a1,b1,dA,dA2,dB,dC,obs];rfl
 ·obtain ⟨a1,a2⟩:=ha om
  obtain ⟨b1,b2⟩:=hb om om
  have dA:=hQ (col:=t.getD g.A.toNat 0) mA om one
  have nA:=ci mA hr a2 one
  have dA2:=hQ (col:=t.getD g.B.toNat 0) nA.1 om big
  simp only [syM,h,a1,b1,dA,dA2,dB,dC,obs];rfl
 ·obtain ⟨a1,a2⟩:=ha om
  obtain ⟨b1,b2⟩:=hb om om
  have dA:=hQ (col:=t.getD g.A.toNat 0) mA om one
  have dBb:=hQ (col:=t.getD g.B.toNat 0) mB om one
  simp only [syM,h,a1,b1,dA,dBb,dC,obs];rfl
 ·obtain ⟨a1,a2⟩:=ha om
  obtain ⟨b1,b2⟩:=hb om om
  have dA:=hQ (col:=t.getD g.B.toNat 0) mA om one
  have nA:=ci mA hr b2 one
  have dA2:=hQ (col:=t.getD g.A.toNat 0) (nA.1.up (r:=r+1) om) om one
  simp only [syM,h,a1,b1,dA,dA2,dB,dB2,dC,dC2,obs];rfl
 ·obtain ⟨a1,a2⟩:=ha om
  have dA:=hQ (col:=t.getD g.A.toNat 0) mA om one
  have nA:=ci mA hr a2 one
  have dA2:=hQ (col:=t.getD g.A.toNat 0) (nA.1.up (r:=r+1) om) om one
  have dBa:=hQ (col:=t.getD g.A.toNat 0) mB om one
  have nBa:=ci mB hr a2 one
  have dBa2:=hQ (col:=0) (nBa.1.up (r:=r+1) om) om one
  simp only [syM,h,a1,dA,dA2,dBa,dBa2,dC,dC2,obs];rfl
end Go.AI.Fn
set_option linter.unusedVariables false
set_option linter.unusedSimpArgs false
namespace Go.AI.Fn
structure Mk3 (r:Int) (A B C:List ab) (CC:Int) (n:Nat):Prop where
 a:MkR A (r-1) CC
 b:MkR B (r-1) CC
 c:MkR C (r-1) CC
 la:A.length≤n
 lb:B.length≤n
 lc:C.length≤n
theorem Mk3.of {r' r:Int} {A B C:List ab} {CC:Int} {n m:Nat} (e:r'-1=r) (a:MkR A r CC) (b:MkR B r CC) (c:MkR C r CC) (la:A.length≤n) (lb:B.length≤n) (lc:C.length≤n) (h:n≤m):Mk3 r' A B C CC m:=by
 subst e;exact ⟨a,b,c,by omega,by omega,by omega⟩
theorem QZ {a b c r CC:Int} {g:Gate} {A B C:List ab} {n:Nat} (hr:0≤r) (hC:1≤CC) (ha:4≤g.Op→0≤a∧a≤CC-1) (hb:4≤g.Op→g.Op≤7→0≤b∧b≤CC-1) (hc:0≤c∧c≤CC-1) (hk:g.Op=3→okF g.K)
 (hop:1≤g.Op∧g.Op≤8) (m:Mk3 r A B C CC n):
 Mk3 (syM a b c g r A B C).1 (syM a b c g r A B C).2.1 (syM a b c g r A B C).2.2.1 (syM a b c g r A B C).2.2.2 CC (n+2)∧r≤(syM a b c g r A B C).1∧(syM a b c g r A B C).1≤r+2:=by
 have one:(1:Int)≤1∧(1:Int)≤2130706432:=⟨by omega,by omega⟩
 have big:(1:Int)≤2130706432∧(2130706432:Int)≤2130706432:=⟨by omega,by omega⟩
 have c0:(0:Int)≤0∧(0:Int)≤CC-1:=⟨by omega,by omega⟩
 have mA:=m.a.up (r:=r) om
 have mB:=m.b.up (r:=r) om
 have mC:=m.c.up (r:=r) om
 have la:=m.la
 have lb:=m.lb
 have lc:=m.lc
 have nB:=ci mB hr c0 one
 have nC:=ci mC hr hc one
 have nB2:=ci (nB.1.up (r:=r+1) om) om c0 one
 have nC2:=ci (nC.1.up (r:=r+1) om) om hc one
 unfold syM
 by_cases h1:g.Op=1∨g.Op=2
 ·rw [if_pos h1];exact ⟨⟨m.a,m.b,m.c,by dsimp only;omega,by dsimp only;omega,by dsimp only;omega⟩,by dsimp only;omega,by dsimp only;omega⟩
 rw [if_neg h1]
 by_cases h6:g.Op=6
 ·have nA:=ci mA hr (ha om) one
  have nb:=ci mB hr (hb om om) one
  rw [if_pos h6];exact ⟨Mk3.of (n:=n+1) (by dsimp only;omega) nA.1 nb.1 nC.1 (by dsimp only;omega) (by dsimp only;omega) (by dsimp only;omega) om,by dsimp only;omega,by dsimp only;omega⟩
 rw [if_neg h6]
 by_cases h4:g.Op=4
 ·have nA:=ci mA hr (ha om) one
  have nA2:=ci nA.1 hr (hb om om) one
  rw [if_pos h4];exact ⟨Mk3.of (n:=n+2) (by dsimp only;omega) nA2.1 nB.1 nC.1 (by dsimp only;omega) (by dsimp only;omega) (by dsimp only;omega) om,by dsimp only;omega,by dsimp only;omega⟩
 rw [if_neg h4]
 by_cases h5:g.Op=5
 ·have nA:=ci mA hr (ha om) one
  have nA2:=ci nA.1 hr (hb om om) big
  rw [if_pos h5];exact ⟨Mk3.of (n:=n+2) (by dsimp only;omega) nA2.1 nB.1 nC.1 (by dsimp only;omega) (by dsimp only;omega) (by dsimp only;omega) om,by dsimp only;omega,by dsimp only;omega⟩
 rw [if_neg h5]
 by_cases h3:g.Op=3
 ·rw [if_pos h3]
  by_cases hK:g.K>0
  ·have nA:=ci mA hr c0 (v:=g.K) ⟨by omega,(hk h3).2⟩
   rw [if_pos hK];exact ⟨Mk3.of (n:=n+1) (by dsimp only;omega) nA.1 nB.1 nC.1 (by dsimp only;omega) (by dsimp only;omega) (by dsimp only;omega) om,by dsimp only;omega,by dsimp only;omega⟩
  ·rw [if_neg hK];exact ⟨Mk3.of (n:=n+1) (by dsimp only;omega) mA nB.1 nC.1 (by dsimp only;omega) (by dsimp only;omega) (by dsimp only;omega) om,by dsimp only;omega,by dsimp only;omega⟩
 rw [if_neg h3]
 by_cases h7:g.Op=7
 ·have nA:=ci mA hr (hb om om) one
  have nA2:=ci (nA.1.up (r:=r+1) om) om (ha om) one
  rw [if_pos h7];exact ⟨Mk3.of (n:=n+2) (by dsimp only;omega) nA2.1 nB2.1 nC2.1 (by dsimp only;omega) (by dsimp only;omega) (by dsimp only;omega) om,by dsimp only;omega,by dsimp only;omega⟩
 ·have nA:=ci mA hr (ha om) one
  have nA2:=ci (nA.1.up (r:=r+1) om) om (ha om) one
  have nb:=ci mB hr (ha om) one
  have nb2:=ci (nb.1.up (r:=r+1) om) om c0 one
  rw [if_neg h7];exact ⟨Mk3.of (n:=n+2) (by dsimp only;omega) nA2.1 nb2.1 nC2.1 (by dsimp only;omega) (by dsimp only;omega) (by dsimp only;omega) om,by dsimp only;omega,by dsimp only;omega⟩
end Go.AI.Fn
set_option linter.unusedVariables false
set_option linter.unusedSimpArgs false
namespace Go.AI.Fn
theorem DX (l:List Gate) (k:Nat) (op:Int):bS l op≤bS (l.take k) op+(l.length-k):=by
 have h:bS l op=bS (l.take k) op+(l.drop k).countP (fun g=>g.Op==op):=by
  conv=>lhs;rw [←List.take_append_drop k l]
  simp only [bS,List.countP_append]
 have:=List.countP_le_length (p:=fun g:Gate=>g.Op==op) (l:=l.drop k)
 rw [List.length_drop] at this
 omega
theorem sE (l:List Gate):2≤lgC l∧lgC l≤5:=ES _
theorem Ad {n:Nat} (h:1≤n):((2^n:Nat):Int)=((2^(n-1):Nat):Int)+((2^(n-1):Nat):Int):=by
 obtain ⟨m,rfl⟩: ∃m,n=m+1:=⟨n-1,by omega⟩
 rw [Nat.add_sub_cancel,Nat.pow_succ];omega
theorem NH {a b c:Int} (h:mx a b≤c):a≤c∧b≤c:=by
 unfold mx at h
 split at h<;>constructor<;>omega
theorem Nc {l:List Gate} (ok:OkC l):(bS l 2:Int)+1≤((2^(lgC l-1):Nat):Int)∧(l.length:Int)-(bS l 2:Int)≤((2^(lgC l-1):Nat):Int):=by
 have h1:=ok.n2
 have h2:=ok.p
 have h3:=jb l 2
 have h4:mx ((bS l 2:Int)+1) ((l.length:Int)-(bS l 2:Int))≤15:=by unfold mx;split<;>omega
 exact NH (JI h4)
theorem vQ {l:List Gate} (ok:OkC l) {j:Nat} (hj:j<l.length):0≤xF l j∧xF l j≤((2^lgC l:Nat):Int)-1:=by
 have hf:=Nc ok
 have hg:=sE l
 have hp:=Ad (n:=lgC l) om
 have h1:bS (l.take j) 2≤j:=by have:=jb (l.take j) 2;rw [List.length_take] at this;omega
 unfold xF
 rw [show l.getD j ⟨0,0,0,0⟩=l[j] by simp [hj]]
 split
 ·rename_i h
  have:=vh hj h
  omega
 ·rename_i h
  have h2:=DX l (j+1) 2
  rw [iE hj,iG,if_neg (by simpa using h)] at h2
  omega
theorem pA {l:List Gate} {n i:Nat} (hi:i<n):(cc l n).getD i 0=xF l i:=by
 simp [cc,hi]
def fdM (l:List Gate):Nat→Int×List ab×List ab×List ab
 |0=>(0,[],[],[])
 |j+1=>syM ((cc l l.length).getD (l.getD j ⟨0,0,0,0⟩).A.toNat 0) ((cc l l.length).getD (l.getD j ⟨0,0,0,0⟩).B.toNat 0) ((cc l l.length).getD j 0) (l.getD j ⟨0,0,0,0⟩) (fdM l j).1 (fdM l j).2.1 (fdM l j).2.2.1 (fdM l j).2.2.2
theorem pw {l:List Gate} (ok:OkC l): ∀j,j≤l.length→Mk3 (fdM l j).1 (fdM l j).2.1 (fdM l j).2.2.1 (fdM l j).2.2.2 ((2^lgC l:Nat):Int) (2*j)∧0≤(fdM l j).1∧(fdM l j).1≤2*j
 |0,_=>⟨⟨MkR.nil _ _,MkR.nil _ _,MkR.nil _ _,Nat.le_refl _,Nat.le_refl _,Nat.le_refl _⟩,Int.le_refl _,by simp [fdM]⟩
 |j+1,h=>by
  obtain ⟨m,h0,h1⟩:=pw ok j om
  have hj:j<l.length:=by omega
  have hd:l.getD j ⟨0,0,0,0⟩=l[j]:=by simp [hj]
  obtain ⟨g1,g2,g3,g4⟩:=vN (ok.g j hj)
  have hp:=vC (lgC l) (by have:=sE l;omega)
  have hc: ∀a:Int,0≤a∧a≤(j:Int)-1→0≤(cc l l.length).getD a.toNat 0∧(cc l l.length).getD a.toNat 0≤((2^lgC l:Nat):Int)-1:=fun a ha=>by
   rw [pA om];exact vQ ok om
  have hcj:0≤(cc l l.length).getD j 0∧(cc l l.length).getD j 0≤((2^lgC l:Nat):Int)-1:=by
   rw [pA hj];exact vQ ok hj
  have:=QZ (a:=(cc l l.length).getD l[j].A.toNat 0) (b:=(cc l l.length).getD l[j].B.toNat 0) (c:=(cc l l.length).getD j 0) (g:=l[j]) h0 om (fun h=>hc _ (g2 h)) (fun h h7=>hc _ (g3 h h7)) hcj g4 g1 m
  rw [fdM,hd]
  refine ⟨?_,by omega,by omega⟩
  have e:2*(j+1)=2*j+2:=by omega
  rw [e];exact this.1
def rlM (r:Int):Nat:=if r≤2 then 1 else if r≤4 then 2 else if r≤8 then 3 else if r≤16 then 4 else 5
def o5 (l:List Gate):aQ:=⟨(rlM (fdM l l.length).1:Int),(lgC l:Int),(bS l 2:Int),(fdM l l.length).2.1,(fdM l l.length).2.2.1,(fdM l l.length).2.2.2⟩
theorem xx {r:Int} {step:Int→Option (Int⊕(Bool×Int))} (hr:r≤32) (hs: ∀k:Nat,1≤k→k≤5→step (k:Int)=if ((2^k:Nat):Int)<r then some (.inl ((k+1:Nat):Int)) else some (.inr (false,(k:Int)))):
 Loop step 1=some (false,(rlM r:Int)):=by
 have s1:=hs 1 om om
 have s2:=hs 2 om om
 have s3:=hs 3 om om
 have s4:=hs 4 om om
 have s5:=hs 5 om om
 simp only [Nat.reducePow,Nat.reduceAdd] at s1 s2 s3 s4 s5
 unfold rlM
 by_cases h1:r≤2
 ·rw [if_pos h1];rw [if_neg om] at s1;exact cf s1
 rw [if_neg h1];rw [if_pos om] at s1
 refine (cE s1).trans ?_
 by_cases h2:r≤4
 ·rw [if_pos h2];rw [if_neg om] at s2;exact cf s2
 rw [if_neg h2];rw [if_pos om] at s2
 refine (cE s2).trans ?_
 by_cases h3:r≤8
 ·rw [if_pos h3];rw [if_neg om] at s3;exact cf s3
 rw [if_neg h3];rw [if_pos om] at s3
 refine (cE s3).trans ?_
 by_cases h4:r≤16
 ·rw [if_pos h4];rw [if_neg om] at s4;exact cf s4
 rw [if_neg h4];rw [if_pos om] at s4
 refine (cE s4).trans ?_
 rw [if_neg om] at s5;exact cf s5
theorem rM {c:Circuit} (ok:OkC c.Gates):gY c=some (o5 c.Gates):=by
 have hn:=ok.n2
 have hp:=vC (lgC c.Gates) (by have:=sE c.Gates;omega)
 unfold gY
 rw [wm ok,obs,og om,obs]
 dsimp only
 have key:=dL (step:=bP (cc c.Gates c.Gates.length) c.Gates 0 0 0 0 (lgC c.Gates:Int) (bS c.Gates 2:Int)) (fun j=>((fdM c.Gates j).1,(j:Int),(fdM c.Gates j).2.1,(fdM c.Gates j).2.2.1,(fdM c.Gates j).2.2.2)) c.Gates.length
  (e:=((fdM c.Gates c.Gates.length).1,(c.Gates.length:Int),false,(fdM c.Gates c.Gates.length).2.1,(fdM c.Gates c.Gates.length).2.2.1,(fdM c.Gates c.Gates.length).2.2.2)) (fun j hj=> ?_) ?_
 ·have e0:Loop (bP (cc c.Gates c.Gates.length) c.Gates 0 0 0 0 (lgC c.Gates:Int) (bS c.Gates 2:Int)) (0,0,[],[],[])=_:=key
  rw [e0,obs]
  dsimp only
  have hr:=(pw ok c.Gates.length (Nat.le_refl _)).2
  rw [xx (r:=(fdM c.Gates c.Gates.length).1) om (fun k h1 h5=> ?_),obs]
  ·rfl
  ·simp only [eP]
   have e2:IntKind.wrap .i64 ((k:Int)+1)=((k+1:Nat):Int):=by rw [aj _ om om];omega
   rw [nW om,brd om,EH om,e2]
   by_cases h:((2^k:Nat):Int)<(fdM c.Gates c.Gates.length).1
   ·rw [brd h,if_pos h]
   ·rw [brn h,if_neg h,decide_eq_false h]
 ·obtain ⟨m,h0,h1⟩:=pw ok j om
  have:=Ky (c2:=0) (c3:=0) (c4:=0) (c5:=0) (c6:=(lgC c.Gates:Int)) (c7:=(bS c.Gates 2:Int)) (r:=(fdM c.Gates j).1) (CC:=((2^lgC c.Gates:Nat):Int)) (A:=(fdM c.Gates j).2.1) (B:=(fdM c.Gates j).2.2.1) (C:=(fdM c.Gates j).2.2.2) ok hj (nk c.Gates c.Gates.length) h0 om om
   (fun i hi=>by rw [pA hi];exact vQ ok hi) (m.a.up om) (m.b.up om) (m.c.up om) (by have:=m.la;omega) (by have:=m.lb;omega) (by have:=m.lc;omega)
  have hd:c.Gates.getD j ⟨0,0,0,0⟩=c.Gates[j]:=by simp [hj]
  rw [this,fdM,hd]
 ·simp only [bP]
  rw [brn om,decide_eq_false om]
theorem tS {c:Circuit} (h:c.Gates.length≤1048576):gw c=some (if kf c.Gates=true then (o5 c.Gates,0) else (⟨0,0,0,[],[],[]⟩,19)):=by
 unfold gw
 rw [tl h,obs]
 by_cases hc:kf c.Gates=true
 ·rw [hc,rM (sZ hc)];rfl
 ·have:kf c.Gates=false:=by simpa using hc
  rw [this];rfl
end Go.AI.Fn
set_option linter.unusedVariables false
set_option linter.unusedSimpArgs false
namespace Go.AI.Fn
def eT (e:ab):Tri:=(e.Row,e.Col,e.Value)
structure Rm (r:Int) (m:List Tri) (L:List ab):Prop where
 kd:db m=true
 lt: ∀t∈m,t.1<r
 eq:L.map eT=bk (m.filter nzT)
theorem Rm.nil (r:Int):Rm r [] []:=⟨rfl,(fun t h=>by cases h),(List.length_eq_zero_iff.1 (dj []).length_eq).symm⟩
theorem Rm.up {r r':Int} {m:List Tri} {L:List ab} (h:Rm r m L) (hr:r≤r'):Rm r' m L:=⟨h.kd,fun t ht=>by have:=h.lt t ht;omega,h.eq⟩
theorem Rm.row {r:Int} {m:List Tri} {L:List ab} (h:Rm r m L): ∀e∈L,e.Row<r:=fun e he=>by
 have:eT e∈bk (m.filter nzT):=by rw [←h.eq];exact List.mem_map.2 ⟨e,he,rfl⟩
 have:=(dj _).mem_iff.1 this
 exact h.lt _ (List.mem_filter.1 this).1
theorem CX {x y:Tri} (h:x.1≠y.1):mJ x y=false:=by
 simp only [mJ,decide_eq_false_iff_not];omega
theorem Rm.app {r:Int} {m N:List Tri} {L E:List ab} (h:Rm r m L) (hN: ∀t∈N,t.1=r) (hk:db N=true) (hE:(E.map eT).Perm (N.filter nzT)) (hs:(E.map eT).Pairwise (fun x y=>iY y x=false)):Rm (r+1) (m++N) (L++E):=by
 have hkd:db (m++N)=true:=by
  refine gr (List.pairwise_append.2 ⟨fc h.kd,fc hk,fun a ha b hb=>CX ?_⟩)
  have:=h.lt a ha;have:=hN b hb;omega
 refine ⟨hkd,fun t ht=> ?_, ?_⟩
 ·rcases List.mem_append.1 ht with ht|ht
  ·have:=h.lt t ht;omega
  ·have:=hN t ht;omega
 ·refine kD (gr ((fc hkd).filter _)) ?_ ?_
  ·rw [List.map_append,List.filter_append,h.eq]
   exact (dj _).append hE
  ·rw [List.map_append]
   refine List.pairwise_append.2 ⟨by rw [h.eq];exact kx _,hs,fun a ha b hb=> ?_⟩
   obtain ⟨e,he,rfl⟩:=List.mem_map.1 ha
   have h1:=h.row e he
   have h2:=hN b (List.mem_filter.1 (hE.mem_iff.1 hb)).1
   rw [jh]
   simp only [eT]
   omega
theorem lX {r c:Int}: ∀{m:List Tri},(∀t∈m,t.1<r)→bU r c m=0
 |[],_=>rfl
 | (x,y,v)::m,h=>by
   have h0:=h (x,y,v) (by simp)
   simp only at h0
   rw [bU,if_neg om];exact lX (fun t ht=>h t (by simp [ht]))
theorem mo {r c v:Int}: ∀{m:List Tri},(∀t∈m,t.1<r)→bX r c v m=m++[(r,c,v)]
 |[],_=>rfl
 | (x,y,u)::m,h=>by
   have h0:=h (x,y,u) (by simp)
   simp only at h0
   rw [bX,if_neg om,mo (fun t ht=>h t (by simp [ht]))];rfl
theorem ru {r c:Int} {N:List Tri}: ∀{m:List Tri},(∀t∈m,t.1<r)→bU r c (m++N)=bU r c N
 |[],_=>rfl
 | (x,y,v)::m,h=>by
   have h0:=h (x,y,v) (by simp)
   simp only at h0
   rw [List.cons_append,bU,if_neg om];exact ru (fun t ht=>h t (by simp [ht]))
theorem yQ {r c v:Int} {N:List Tri}: ∀{m:List Tri},(∀t∈m,t.1<r)→bX r c v (m++N)=m++bX r c v N
 |[],_=>rfl
 | (x,y,u)::m,h=>by
   have h0:=h (x,y,u) (by simp)
   simp only at h0
   rw [List.cons_append,bX,if_neg om,yQ (fun t ht=>h t (by simp [ht]))];rfl
theorem Jd {v:Int} (h:okF v):aF 0 v=v:=by
 unfold aF okF at*;omega
theorem vy {r c v:Int} {L:List ab} (h: ∀e∈L,e.Row<r):enM L r c v=L++[⟨r,c,v⟩]:=by
 unfold enM
 have: ∀R:List ab,(∀e∈R,e.Row<r)→enR r c v R=⟨r,c,v⟩::R:=by
  intro R hR
  cases R with
  |nil=>rfl
  |cons e R=>
   have:=hR e (by simp)
   have h1:enP r c e=false:=by
    simp only [enP,Bool.and_eq_false_iff,decide_eq_false_iff_not];omega
   rw [enR,if_neg (by rw [h1];simp),if_neg om]
 rw [this _ (fun e he=>h e (by simpa using he))]
 simp
theorem JV {r c1 c2 v1 v2:Int} {L:List ab} (h: ∀e∈L,e.Row<r):enM (L++[⟨r,c1,v1⟩]) r c2 v2=
 if c1>c2 then L++[⟨r,c2,v2⟩,⟨r,c1,v1⟩] else if c1=c2 then (if aF v1 v2=0 then L else L++[⟨r,c2,aF v1 v2⟩]) else L++[⟨r,c1,v1⟩,⟨r,c2,v2⟩]:=by
 by_cases h1:c1>c2
 ·rw [if_pos h1,pz (fun e he=>by simp at he;subst he;simp [enP];omega),vy h]
  simp
 ·rw [if_neg h1]
  unfold enM
  rw [List.reverse_append,List.reverse_singleton,List.singleton_append,enR,if_neg (by simp [enP];omega)]
  by_cases h2:c1=c2
  ·rw [if_pos ⟨rfl,h2⟩,if_pos h2]
   split<;>simp
  ·rw [if_neg (fun h=>h2 h.2),if_neg h2]
   simp
theorem S7 {r c v:Int} (h:v≠0):nzT (r,c,v)=true:=by simp [nzT,h]
theorem Ew {r c v:Int} (h:v≠0):([(r,c,v)]:List Tri).filter nzT=[(r,c,v)]:=by rw [List.filter_cons,if_pos (S7 h)];rfl
theorem MZ {r c:Int}:([(r,c,0)]:List Tri).filter nzT=[]:=rfl
theorem Rm.one {r c v:Int} {m:List Tri} {L:List ab} (h:Rm r m L) (hv:v≠0):Rm (r+1) (bX r c v m) (enM L r c v):=by
 rw [mo h.lt,vy h.row]
 refine h.app (fun t ht=>by simp at ht;subst ht;rfl) rfl ?_ ?_
 ·rw [Ew hv];exact List.Perm.refl _
 ·simp
theorem Rm.add1 {r c v:Int} {m:List Tri} {L:List ab} (h:Rm r m L) (hv:1≤v∧v≤2130706432):Rm (r+1) (bX r c (aF (bU r c m) v) m) (enM L r c v):=by
 rw [lX h.lt,Jd ⟨by omega,hv.2⟩];exact h.one om
theorem Rm.add0 {r c:Int} {m:List Tri} {L:List ab} (h:Rm r m L):Rm (r+1) (bX r c (aF (bU r c m) 0) m) L:=by
 rw [lX h.lt,Jd ⟨by omega,by omega⟩,mo h.lt]
 have:=h.app (N:=[(r,c,0)]) (E:=[]) (fun t ht=>by simp at ht;subst ht;rfl) rfl (by rw [MZ];exact List.Perm.refl _) (by simp)
 simpa using this
theorem Rm.add2 {r c1 c2 v1 v2:Int} {m:List Tri} {L:List ab} (h:Rm r m L) (h1:1≤v1∧v1≤2130706432) (h2:1≤v2∧v2≤2130706432):
 Rm (r+1) (bX r c2 (aF (bU r c2 (bX r c1 (aF (bU r c1 m) v1) m)) v2) (bX r c1 (aF (bU r c1 m) v1) m)) (enM (enM L r c1 v1) r c2 v2):=by
 rw [lX h.lt,Jd (v:=v1) ⟨by omega,h1.2⟩,mo h.lt,ru h.lt,yQ h.lt,vy h.row,JV h.row]
 by_cases hc:c1=c2
 ·subst hc
  rw [if_neg om,if_pos rfl]
  have e1:bU r c1 [(r,c1,v1)]=v1:=by simp [bU]
  have e2: ∀u,bX r c1 u [(r,c1,v1)]=[(r,c1,u)]:=fun u=>by simp [bX]
  rw [e1,e2]
  by_cases hz:aF v1 v2=0
  ·rw [if_pos hz,hz]
   have:=h.app (N:=[(r,c1,0)]) (E:=[]) (fun t ht=>by simp at ht;subst ht;rfl) rfl (by rw [MZ];exact List.Perm.refl _) (by simp)
   simpa using this
  ·rw [if_neg hz]
   refine h.app (fun t ht=>by simp at ht;subst ht;rfl) rfl ?_ ?_
   ·rw [Ew hz];exact List.Perm.refl _
   ·simp
 ·have e1:bU r c2 [(r,c1,v1)]=0:=by simp [bU];omega
  have e2: ∀u,bX r c2 u [(r,c1,v1)]=[(r,c1,v1),(r,c2,u)]:=fun u=>by
   rw [bX,if_neg om];rfl
  rw [e1,e2,Jd ⟨by omega,h2.2⟩]
  have hN: ∀t∈([(r,c1,v1),(r,c2,v2)]:List Tri),t.1=r:=fun t ht=>by simp at ht;rcases ht with rfl|rfl<;>rfl
  have hk:db [(r,c1,v1),(r,c2,v2)]=true:=by simp [db,mJ];omega
  have hf:([(r,c1,v1),(r,c2,v2)]:List Tri).filter nzT=[(r,c1,v1),(r,c2,v2)]:=by
   rw [List.filter_cons,if_pos (S7 om),Ew om]
  by_cases hgt:c1>c2
  ·rw [if_pos hgt]
   refine h.app hN hk ?_ ?_
   ·rw [hf];exact List.Perm.swap _ _ _
   ·simp only [List.map_cons,List.map_nil,eT,List.pairwise_cons,List.mem_singleton,forall_eq,jh]
    refine ⟨by omega,by simp⟩
  ·rw [if_neg hgt,if_neg hc]
   refine h.app hN hk ?_ ?_
   ·rw [hf];exact List.Perm.refl _
   ·simp only [List.map_cons,List.map_nil,eT,List.pairwise_cons,List.mem_singleton,forall_eq,jh]
    refine ⟨by omega,by simp⟩
theorem dR (r c v:Int): ∀m:List Tri,(bX r c v m).length≤m.length+1
 |[]=>by simp [bX]
 | (x,y,u)::m=>by
   rw [bX];split
   ·simp
   ·have:=dR r c v m;simp;omega
theorem uY {r c:Int} {m:List Tri} (h: ∀t∈m,t.1<r):okF (bU r c m):=by rw [lX h];exact ⟨by omega,by omega⟩
theorem Rm.ent {r:Int} {m:List Tri} {L:List ab} (h:Rm r m L) (hl:m.length<1073741824):gy m=some (L,m):=by
 unfold gy
 rw [h.kd,Bool.true_and,brd hl, ←h.eq]
 have:(L.map eT).map js=L:=by
  rw [List.map_map]
  have: ∀e∈L,(js∘eT) e=e:=fun e _=>rfl
  rw [List.map_congr_left this];simp
 rw [this]
end Go.AI.Fn
set_option linter.unusedVariables false
set_option linter.unusedSimpArgs false
namespace Go.AI.Fn
theorem pL {g:Gate} {k:Int} (h0:0≤k) (h1:k≤1048576):mR g k=some (fB g k):=by
 unfold mR fB
 simp only [MS,w9,obs]
 rw [aj (k-1) om om]
 obtain ⟨op,a,b,c⟩:=g
 dsimp only
 generalize decide (0≤a∧a≤k-1)=x
 generalize decide (0≤b∧b≤k-1)=y
 generalize E0 c=z
 generalize (a==0)=za
 generalize (b==0)=zb
 generalize (c==0)=zc
 have hop:op=3∨op=4∨op=5∨op=6∨op=7∨op=8∨(op≠3∧op≠4∧op≠5∧op≠6∧op≠7∧op≠8):=by omega
 rcases hop with rfl|rfl|rfl|rfl|rfl|rfl|⟨h3,h4,h5,h6,h7,h8⟩
 ·cases x<;>cases y<;>cases z<;>cases za<;>cases zb<;>cases zc<;>rfl
 ·cases x<;>cases y<;>cases z<;>cases za<;>cases zb<;>cases zc<;>rfl
 ·cases x<;>cases y<;>cases z<;>cases za<;>cases zb<;>cases zc<;>rfl
 ·cases x<;>cases y<;>cases z<;>cases za<;>cases zb<;>cases zc<;>rfl
 ·cases x<;>cases y<;>cases z<;>cases za<;>cases zb<;>cases zc<;>rfl
 ·cases x<;>cases y<;>cases z<;>cases za<;>cases zb<;>cases zc<;>rfl
 ·have hu:kj op=0:=by unfold kj;rw [if_neg om,if_neg h8]
  have e3:(op==3)=false:=by simpa using h3
  have e4:(op==4)=false:=by simpa using h4
  have e5:(op==5)=false:=by simpa using h5
  have e6:(op==6)=false:=by simpa using h6
  have e7:(op==7)=false:=by simpa using h7
  have e8:(op==8)=false:=by simpa using h8
  rw [hu,e3,e4,e5,e6,e7,e8]
  generalize decide (1≤op∧op≤8)=o
  cases o<;>cases za<;>cases zb<;>cases zc<;>rfl
theorem rC {c:Circuit} {op:Int} (h:c.Gates.length≤1048576):bZ c op=some (bS c.Gates op:Int):=by
 unfold bZ
 have key:=dL (step:=bx op c.Gates (c.Gates.length:Int) c.Gates) (fun j=>((bS (c.Gates.take j) op:Int),(j:Int))) c.Gates.length (e:=((bS c.Gates op:Int),(c.Gates.length:Int),false)) (fun j hj=> ?_) ?_
 ·rw [show ((0:Int),(0:Int))=((bS (c.Gates.take 0) op:Int),((0:Nat):Int)) from rfl,key];rfl
 ·have hle:=jb (c.Gates.take j) op
  rw [List.length_take] at hle
  simp only [bx]
  rw [brd om,dh hj,obs,iE hj,iG]
  cases hb:(c.Gates[j].Op==op)
  ·rw [aZ,if_neg (by simp),aj _ om om];simp
  ·rw [bH,if_pos rfl,aj _ om om,aj _ om om];simp
 ·simp only [bx]
  rw [brn om,decide_eq_false om,List.take_length]
theorem sP {c:Circuit} (h:c.Gates.length≤1048576):i7 c=some (kf c.Gates):=by
 unfold i7 kf
 rw [MS,obs]
 by_cases h1:1≤c.Gates.length∧c.Gates.length≤15
 ·rw [decide_eq_true om,decide_eq_true h1,Bool.not_true,aZ,Bool.true_and]
  have key:=wH (step:=bA c.Gates (c.Gates.length:Int) c.Gates) (fun k=>(k:Int)) c.Gates.length (fun k=>((c.Gates[k]?.map fun g=>fB g (k:Int)).getD false)) (fun k=> .inl ((c.Gates.getD k ⟨0,0,0,0⟩).Op,(c.Gates.getD k ⟨0,0,0,0⟩).A,(c.Gates.getD k ⟨0,0,0,0⟩).B,(c.Gates.getD k ⟨0,0,0,0⟩).K)) (e:= .inr ((c.Gates.length:Int),false)) (fun k hk hp=>by
   have hb:fB c.Gates[k] (k:Int)=true:=by simpa [hk] using hp
   simp only [bA]
   rw [brd om,dh hk,obs,pL om om,obs,hb,Bool.not_true,aZ,aj _ om om];rfl)
   (fun k hk hp=>by
    have hb:fB c.Gates[k] (k:Int)=false:=by simpa [hk] using hp
    have hd:c.Gates.getD k ⟨0,0,0,0⟩=c.Gates[k]:=by simp [hk]
    simp only [bA]
    rw [brd om,dh hk,obs,pL om om,obs,hb,Bool.not_false,bH,hd])
   (by simp only [bA];rw [brn om,decide_eq_false om])
  rcases key with ⟨h2,h3⟩|⟨k,hk,h2,_,h3⟩
  ·have e:Loop (bA c.Gates (c.Gates.length:Int) c.Gates) 0=some (.inr ((c.Gates.length:Int),false)):=h3
   have ha:(List.range c.Gates.length).all (fun k=>((c.Gates[k]?.map fun g=>fB g (k:Int)).getD false))=true:=List.all_eq_true.2 fun k hk=>h2 k (List.mem_range.1 hk)
   rw [e,ha,obs,qZ,rC h,obs,Bool.true_and]
  ·have e:Loop (bA c.Gates (c.Gates.length:Int) c.Gates) 0=some (.inl _):=h3
   have ha:(List.range c.Gates.length).all (fun k=>((c.Gates[k]?.map fun g=>fB g (k:Int)).getD false))=false:=List.all_eq_false.2 ⟨k,List.mem_range.2 hk,by rw [h2];simp⟩
   rw [e,ha,obs,re,Bool.false_and]
 ·rw [decide_eq_false om,decide_eq_false h1,Bool.not_false,bH,Bool.false_and]
theorem Bf {c v a2 a3 r:Int} {mA mB mC:List Tri} (h0:0≤r) (h1:r≤1000) (hm:okF (bU r c mA)) (hv:okF v):
 b8 [(c,v)] a2 a3 r mA mB mC=some (r+1,bX r c (aF (bU r c mA) v) mA,bX r a2 1 mB,bX r a3 1 mC):=by
 unfold b8
 have s1:aO mB mC a2 a3 [(c,v)] (([(c,v)]:List (Int×Int)).length:Int) r (mA,0)=some (.inl (bX r c (aF (bU r c mA) v) mA,1)):=by
  simp only [aO]
  rw [brd (by simp)]
  show (Option.bind (some (c,v)) _)=_
  rw [obs,sC hm hv,obs,aj _ om om];rfl
 have s2:aO mB mC a2 a3 [(c,v)] (([(c,v)]:List (Int×Int)).length:Int) r (bX r c (aF (bU r c mA) v) mA,1)=some (.inr (bX r c (aF (bU r c mA) v) mA,1,false)):=by
  simp only [aO]
  rw [brn (by simp),decide_eq_false (by simp)]
 rw [cE s1,cf s2,obs,aj _ om om]
theorem Jq {c1 v1 c2 v2 a2 a3 r:Int} {mA mB mC:List Tri} (h0:0≤r) (h1:r≤1000) (hm:okF (bU r c1 mA)) (hv1:okF v1) (hm2:okF (bU r c2 (bX r c1 (aF (bU r c1 mA) v1) mA))) (hv2:okF v2):
 b8 [(c1,v1),(c2,v2)] a2 a3 r mA mB mC=some (r+1,bX r c2 (aF (bU r c2 (bX r c1 (aF (bU r c1 mA) v1) mA)) v2) (bX r c1 (aF (bU r c1 mA) v1) mA),bX r a2 1 mB,bX r a3 1 mC):=by
 unfold b8
 have s1:aO mB mC a2 a3 [(c1,v1),(c2,v2)] (([(c1,v1),(c2,v2)]:List (Int×Int)).length:Int) r (mA,0)=some (.inl (bX r c1 (aF (bU r c1 mA) v1) mA,1)):=by
  simp only [aO]
  rw [brd (by simp)]
  show (Option.bind (some (c1,v1)) _)=_
  rw [obs,sC hm hv1,obs,aj _ om om];rfl
 generalize bX r c1 (aF (bU r c1 mA) v1) mA=m1 at*
 have s2:aO mB mC a2 a3 [(c1,v1),(c2,v2)] (([(c1,v1),(c2,v2)]:List (Int×Int)).length:Int) r (m1,1)=some (.inl (bX r c2 (aF (bU r c2 m1) v2) m1,2)):=by
  simp only [aO]
  rw [brd (by simp)]
  show (Option.bind (some (c2,v2)) _)=_
  rw [obs,sC hm2 hv2,obs,aj _ om om];rfl
 have s3:aO mB mC a2 a3 [(c1,v1),(c2,v2)] (([(c1,v1),(c2,v2)]:List (Int×Int)).length:Int) r (bX r c2 (aF (bU r c2 m1) v2) m1,2)=some (.inr (bX r c2 (aF (bU r c2 m1) v2) m1,2,false)):=by
  simp only [aO]
  rw [brn (by simp),decide_eq_false (by simp)]
 rw [cE s1,cE s2,cf s3,obs,aj _ om om]
theorem yl {r c1 c2 u:Int} {m:List Tri} (h: ∀t∈m,t.1<r) (hu:okF u):okF (bU r c2 (bX r c1 u m)):=by
 rw [mo h,ru h]
 by_cases hc:c1=c2
 ·have:bU r c2 [(r,c1,u)]=u:=by simp [bU,hc]
  rw [this];exact hu
 ·have:bU r c2 [(r,c1,u)]=0:=by simp [bU];exact fun e=>absurd e.symm hc
  rw [this];exact ⟨by omega,by omega⟩
structure R3 (r:Int) (mA mB mC:List Tri) (A B C:List ab) (n:Nat):Prop where
 a:Rm r mA A
 b:Rm r mB B
 c:Rm r mC C
 la:mA.length≤n
 lb:mB.length≤n
 lc:mC.length≤n
theorem nf {c v a2 a3 r:Int} {mA mB mC:List Tri} {A B C:List ab} {n:Nat} (h0:0≤r) (h1:r≤1000) (hv:1≤v∧v≤2130706432) (h:R3 r mA mB mC A B C n):
 ∃mA' mB' mC',b8 [(c,v)] a2 a3 r mA mB mC=some (r+1,mA',mB',mC')∧R3 (r+1) mA' mB' mC' (enM A r c v) (enM B r a2 1) (enM C r a3 1) (n+1):=
 ⟨_,_,_,Bf h0 h1 (uY h.a.lt) ⟨by omega,hv.2⟩,h.a.add1 hv,h.b.one om,h.c.one om,by have:=dR r c (aF (bU r c mA) v) mA;have:=h.la;omega,by have:=dR r a2 1 mB;have:=h.lb;omega,by have:=dR r a3 1 mC;have:=h.lc;omega⟩
theorem Mt {c a2 a3 r:Int} {mA mB mC:List Tri} {A B C:List ab} {n:Nat} (h0:0≤r) (h1:r≤1000) (h:R3 r mA mB mC A B C n):
 ∃mA' mB' mC',b8 [(c,0)] a2 a3 r mA mB mC=some (r+1,mA',mB',mC')∧R3 (r+1) mA' mB' mC' A (enM B r a2 1) (enM C r a3 1) (n+1):=
 ⟨_,_,_,Bf h0 h1 (uY h.a.lt) ⟨by omega,by omega⟩,h.a.add0,h.b.one om,h.c.one om,by have:=dR r c (aF (bU r c mA) 0) mA;have:=h.la;omega,by have:=dR r a2 1 mB;have:=h.lb;omega,by have:=dR r a3 1 mC;have:=h.lc;omega⟩
theorem Bt {c1 v1 c2 v2 a2 a3 r:Int} {mA mB mC:List Tri} {A B C:List ab} {n:Nat} (h0:0≤r) (h1:r≤1000) (hv1:1≤v1∧v1≤2130706432) (hv2:1≤v2∧v2≤2130706432) (h:R3 r mA mB mC A B C n):
 ∃mA' mB' mC',b8 [(c1,v1),(c2,v2)] a2 a3 r mA mB mC=some (r+1,mA',mB',mC')∧R3 (r+1) mA' mB' mC' (enM (enM A r c1 v1) r c2 v2) (enM B r a2 1) (enM C r a3 1) (n+2):=
 ⟨_,_,_,Jq h0 h1 (uY h.a.lt) ⟨by omega,hv1.2⟩ (yl h.a.lt (N0 _ _)) ⟨by omega,hv2.2⟩,h.a.add2 hv1 hv2,h.b.one om,h.c.one om,by
   have:=dR r c1 (aF (bU r c1 mA) v1) mA
   have:=dR r c2 (aF (bU r c2 (bX r c1 (aF (bU r c1 mA) v1) mA)) v2) (bX r c1 (aF (bU r c1 mA) v1) mA)
   have:=h.la;omega,by have:=dR r a2 1 mB;have:=h.lb;omega,by have:=dR r a3 1 mC;have:=h.lc;omega⟩
theorem R3.up {r:Int} {mA mB mC:List Tri} {A B C:List ab} {n m:Nat} (h:R3 r mA mB mC A B C n) (hn:n≤m):R3 r mA mB mC A B C m:=⟨h.a,h.b,h.c,by have:=h.la;omega,by have:=h.lb;omega,by have:=h.lc;omega⟩
theorem hP {t:List Int} {p v:Int} (h:0≤p∧p<t.length):b6 p v t=some [(t.getD p.toNat 0,v)]:=by
 unfold b6
 obtain ⟨k,rfl⟩: ∃k:Nat,p=k:=⟨p.toNat,by omega⟩
 rw [pd om,obs,Int.toNat_natCast]
theorem MW {t:List Int} {p:Int} (h:0≤p∧p<t.length):atL t p=some (t.getD p.toNat 0):=by
 obtain ⟨k,rfl⟩: ∃k:Nat,p=k:=⟨p.toNat,by omega⟩
 rw [pd om,Int.toNat_natCast]
theorem DG {t:List Int} {g:Gate} {k c r:Int} {mA mB mC:List Tri} {A B C:List ab} {n:Nat} (hg:fB g k=true) (hk:k<t.length) (h0:0≤r) (h1:r≤100) (h:R3 r mA mB mC A B C n):
 ∃mA' mB' mC',fw g c t r mA mB mC=some ((syM (t.getD g.A.toNat 0) (t.getD g.B.toNat 0) c g r A B C).1,mA',mB',mC')∧
  R3 (syM (t.getD g.A.toNat 0) (t.getD g.B.toNat 0) c g r A B C).1 mA' mB' mC' (syM (t.getD g.A.toNat 0) (t.getD g.B.toNat 0) c g r A B C).2.1 (syM (t.getD g.A.toNat 0) (t.getD g.B.toNat 0) c g r A B C).2.2.1 (syM (t.getD g.A.toNat 0) (t.getD g.B.toNat 0) c g r A B C).2.2.2 (n+2):=by
 obtain ⟨g1,g2,g3,g4⟩:=vN hg
 have one:(1:Int)≤1∧(1:Int)≤2130706432:=⟨by omega,by omega⟩
 have big:(1:Int)≤2130706432∧(2130706432:Int)≤2130706432:=⟨by omega,by omega⟩
 unfold fw
 have hop:g.Op=1∨g.Op=2∨g.Op=3∨g.Op=4∨g.Op=5∨g.Op=6∨g.Op=7∨g.Op=8:=by omega
 rcases hop with e|e|e|e|e|e|e|e
 ·rw [ep om,ep om,ep om,ep om,ep om,ep om]
  simp only [syM,e]
  exact ⟨_,_,_,rfl,h.up om⟩
 ·rw [ep om,ep om,ep om,ep om,ep om,ep om]
  simp only [syM,e]
  exact ⟨_,_,_,rfl,h.up om⟩
 ·have hk3:=g4 e
  rw [bre e]
  by_cases hp:g.K>0
  ·obtain ⟨x,y,z,e1,e2⟩:=nf (c:=0) (v:=g.K) (a2:=0) (a3:=c) h0 om ⟨by omega,hk3.2⟩ h
   rw [e1,obs]
   simp only [syM,e,if_pos hp]
   exact ⟨_,_,_,rfl,e2.up om⟩
  ·have hz:g.K=0:=by have:=hk3.1;omega
   obtain ⟨x,y,z,e1,e2⟩:=Mt (c:=0) (a2:=0) (a3:=c) h0 om h
   rw [hz,e1,obs]
   simp only [syM,e,if_neg hp]
   exact ⟨_,_,_,rfl,e2.up om⟩
 ·have a:=g2 om
  have b:=g3 om om
  rw [ep om,bre e,hP om,obs,hP om,obs,ec (by simp)]
  obtain ⟨x,y,z,e1,e2⟩:=Bt (c1:=t.getD g.A.toNat 0) (v1:=1) (c2:=t.getD g.B.toNat 0) (v2:=1) (a2:=0) (a3:=c) h0 om one one h
  rw [List.singleton_append,e1,obs]
  simp only [syM,e]
  exact ⟨_,_,_,rfl,e2⟩
 ·have a:=g2 om
  have b:=g3 om om
  rw [ep om,ep om,bre e,hP om,obs,hP om,obs,ec (by simp)]
  obtain ⟨x,y,z,e1,e2⟩:=Bt (c1:=t.getD g.A.toNat 0) (v1:=1) (c2:=t.getD g.B.toNat 0) (v2:=2130706432) (a2:=0) (a3:=c) h0 om one big h
  rw [List.singleton_append,e1,obs]
  simp only [syM,e]
  exact ⟨_,_,_,rfl,e2⟩
 ·have a:=g2 om
  have b:=g3 om om
  rw [ep om,ep om,ep om,bre e,hP om,obs,MW om,obs]
  obtain ⟨x,y,z,e1,e2⟩:=nf (c:=t.getD g.A.toNat 0) (v:=1) (a2:=t.getD g.B.toNat 0) (a3:=c) h0 om one h
  rw [e1,obs]
  simp only [syM,e]
  exact ⟨_,_,_,rfl,e2.up om⟩
 ·have a:=g2 om
  have b:=g3 om om
  rw [ep om,ep om,ep om,ep om,bre e,hP om,obs]
  obtain ⟨x,y,z,e1,e2⟩:=nf (c:=t.getD g.B.toNat 0) (v:=1) (a2:=0) (a3:=c) h0 om one h
  obtain ⟨x',y',z',e3,e4⟩:=nf (c:=t.getD g.A.toNat 0) (v:=1) (a2:=0) (a3:=c) om om one e2
  rw [e1,obs,hP om,obs,e3,obs]
  simp only [syM,e]
  exact ⟨_,_,_,rfl,e4⟩
 ·have a:=g2 om
  rw [ep om,ep om,ep om,ep om,ep om,bre e,hP om,obs,MW om,obs]
  obtain ⟨x,y,z,e1,e2⟩:=nf (c:=t.getD g.A.toNat 0) (v:=1) (a2:=t.getD g.A.toNat 0) (a3:=c) h0 om one h
  obtain ⟨x',y',z',e3,e4⟩:=nf (c:=t.getD g.A.toNat 0) (v:=1) (a2:=0) (a3:=c) om om one e2
  rw [e1,obs,obs,e3,obs]
  simp only [syM,e]
  exact ⟨_,_,_,rfl,e4⟩
end Go.AI.Fn
set_option linter.unusedVariables false
set_option linter.unusedSimpArgs false
namespace Go.AI.Fn
theorem Qa {a:List Gate} {left:Int} (ha:a.length≤9223372036854775807) (h0: -1≤left) (h1:left≤1048576):
 ∃r,jW a left=some r∧ -1≤r∧r≤1048576∧(0≤r→a.length≤1048576):=by
 unfold jW
 rw [aj _ om om]
 by_cases c:left-(a.length:Int)<0
 ·rw [brd c];exact ⟨_,rfl,by omega,by omega,by omega⟩
 ·rw [brn c];exact ⟨_,rfl,by omega,by omega,by omega⟩
theorem N2 {a:Circuit} {left:Int} (ha:a.Gates.length≤9223372036854775807) (h0: -1≤left) (h1:left≤1048576):
 ∃r,hJ a left=some r∧ -1≤r∧r≤1048576∧(0≤r→a.Gates.length≤1048576):=by
 unfold hJ
 obtain ⟨b,eb,b0,b1,b2⟩:=Qa ha h0 h1
 rw [eb,obs]
 by_cases cb:b<0
 ·rw [brd cb];exact ⟨_,rfl,by omega,by omega,by omega⟩
 rw [brn cb]
 exact ⟨_,rfl,b0,b1,b2⟩
theorem PJ {a:List Gate} (ha:a.length≤1048576):jT a=some a:=by
 unfold jT
 have hm:AZ ((a.length:Nat):Int) ((a.length:Nat):Int) 32=true:=by
  have h24:((a.length:Nat):Int)*((32:Nat):Int)≤((aK:Nat):Int):=by simp only [aK];omega
  unfold AZ;rw [decide_eq_true (show (0:Int)≤((a.length:Nat):Int) by omega),decide_eq_true (Int.le_refl _),decide_eq_true h24];rfl
 rw [yw hm]
 have key:=oR (step:=eC a) (fun s=>0≤s.2∧s.2≤a.length∧s.1.length=a.length∧ ∀k:Nat,(k:Int)<s.2→s.1[k]? =a[k]?) (fun s=>(a.length-s.2).toNat)
  (fun e=>e.1=a) ?_ ((List.replicate (((a.length:Nat):Int).toNat) (Gate.mk (0:Int) (0:Int) (0:Int) (0:Int))),(0:Int)) ⟨by simp,by simp,by simp,fun k (hk:(k:Int)<0)=>by omega⟩
 ·obtain ⟨e,he,h⟩:=key
  rw [he];simp only [obs,h]
 ·rintro ⟨l,i⟩ ⟨h0,h1,hl,h2⟩
  dsimp only at h0 h1 hl h2
  simp only [eC]
  by_cases c:i<(a.length:Int)
  ·obtain ⟨x,rest,e1,e2,e3⟩:=na (l:=a) (i:=i.toNat) om
   obtain ⟨y,rest2,f1,f2,f3⟩:=na (l:=l) (i:=i.toNat) om
   rw [brd c,wt h0 e3]
   simp only [obs,ol]
   rw [brd h0,brd om,f3]
   simp only [obs]
   rw [aj (i+1) om om]
   refine .inl ⟨_,rfl,⟨by dsimp only;omega,by dsimp only;omega,by simp [hl],fun k hk=> ?_⟩,by dsimp only;omega⟩
   dsimp only at hk ⊢
   rw [List.getElem?_set]
   by_cases e:i.toNat=k
   ·rw [if_pos e,if_pos om, ←e,e3]
   ·rw [if_neg e];exact h2 k om
  ·rw [brn c]
   refine .inr ⟨_,rfl, ?_⟩
   apply List.ext_getElem?
   intro k
   show l[k]? =a[k]?
   by_cases hk:k<a.length
   ·exact h2 k om
   ·rw [List.getElem?_eq_none om,List.getElem?_eq_none om]
theorem No {a:List Gate} (ha:a.length≤1048576):ke a a=some true:=by
 unfold ke
 rw [jA rfl]
 have key:=oR (step:=eK a a) (fun t=>0≤t∧t≤a.length) (fun t=>(a.length-t).toNat) (fun e=> ∃p,e= .inr p) ?_ 0 ⟨by omega,by omega⟩
 ·obtain ⟨e,he,p,rfl⟩:=key
  rw [he];rfl
 ·intro t ⟨h0,h1⟩
  simp only [eK]
  by_cases c:t<(a.length:Int)
  ·left
   obtain ⟨x,r,e1,e2,e3⟩:=na (l:=a) (i:=t.toNat) om
   rw [brd c,wt h0 e3]
   simp only [obs,oH]
   rw [jA rfl,jA rfl,jA rfl,jA rfl]
   simp only [obs,Bool.not_true,aZ]
   rw [aj (t+1) om om]
   exact ⟨_,rfl,⟨by omega,by omega⟩,by omega⟩
  ·right
   rw [brn c]
   exact ⟨_,rfl,_,rfl⟩
theorem O0 {c:Circuit} (h:c.Gates.length≤1048576):i8 c c=some true:=by
 unfold i8
 rw [No h];rfl
theorem L1 {c:Circuit} (h:c.Gates.length≤1048576):cJ c=some c.Gates:=by
 unfold cJ
 rw [PJ h];rfl
end Go.AI.Fn
set_option linter.unusedVariables false
set_option linter.unusedSimpArgs false
namespace Go.AI.Fn
theorem j9 {α:Type} {x y:α} {B:List α}: ∀{A:List α} {j:Nat},A.length=j→(A++x::B).set j y=A++y::B
 |[],j,h=>by subst h;rfl
 |a::A,j,h=>by subst h;simp only [List.cons_append,List.length_cons,List.set_cons_succ,j9 rfl]
theorem ku {α:Type} {x:α} {B A:List α} {j:Nat} (h:A.length=j):(A++x::B)[j]? =some x:=by
 subst h;simp
def mkT (k:Int) (n:Nat):List ab:=(List.range n).map fun (j:Nat)=>⟨k+3*(j:Int),k+3*(j:Int)+1,k+3*(j:Int)+1+1⟩
theorem fQ (k:Int) (n:Nat):(mkT k n).length=n:=by simp [mkT]
theorem GG (k:Int) (n:Nat):mkT k (n+1)=mkT k n++[⟨k+3*n,k+3*n+1,k+3*n+1+1⟩]:=by simp [mkT,List.range_succ]
theorem Bw {α:Type} {l:List α} {j:Nat} (h:j<l.length):l.drop j=l[j]::l.drop (j+1):=List.drop_eq_getElem_cons h
theorem sS {k:Int} {l:List ab} (h0:0≤k) (h1:k≤1000000000000) (hl:l.length≤1048576):cp k l=some (k+3*l.length,mkT k l.length):=by
 unfold cp
 have key:Loop bC (l,k,0)=some (mkT k l.length,k+3*l.length,(l.length:Int),false):=by
  have:=dL (step:=bC) (fun j=>(mkT k j++l.drop j,k+3*j,(j:Int))) l.length (e:=(mkT k l.length,k+3*l.length,(l.length:Int),false)) (fun j hj=> ?_) ?_
  ·simpa [mkT] using this
  ·have hn:(mkT k j++l.drop j).length=l.length:=by rw [List.length_append,fQ,List.length_drop];omega
   simp only [bC]
   rw [hn,brd om,brd om,brd om,Bw hj,Int.toNat_natCast,ku (fQ k j),obs,brd om,brd om,j9 (fQ k j),ku (fQ k j),obs,brd om,brd om,j9 (fQ k j),ku (fQ k j),obs,j9 (fQ k j),aj _ om om,aj _ om om,aj _ om om,aj _ om om,GG,List.append_assoc]
   have:k+3*(j:Int)+1+1+1=k+3*((j+1:Nat):Int):=by omega
   rw [this];rfl
  ·have hn:(mkT k l.length++l.drop l.length).length=l.length:=by rw [List.length_append,fQ,List.length_drop];omega
   simp only [bC]
   rw [hn,brn om,decide_eq_false om,List.drop_length,List.append_nil]
 rw [key];rfl
end Go.AI.Fn
set_option linter.unusedVariables false
set_option linter.unusedSimpArgs false
namespace Go.AI.Fn
def mkG (k:Int) (n:Nat):List Gate:=(List.range n).map fun (j:Nat)=>⟨k+4*(j:Int),k+4*(j:Int)+1,k+4*(j:Int)+1+1,k+4*(j:Int)+1+1+1⟩
theorem gV (k:Int) (n:Nat):(mkG k n).length=n:=by simp [mkG]
theorem J7 (k:Int) (n:Nat):mkG k (n+1)=mkG k n++[⟨k+4*n,k+4*n+1,k+4*n+1+1,k+4*n+1+1+1⟩]:=by simp [mkG,List.range_succ]
theorem Nh (k:Int) {n j:Nat} (h:j<n):(mkT k n)[j]'(by rw [fQ];exact h)=⟨k+3*j,k+3*j+1,k+3*j+1+1⟩:=by simp [mkT]
theorem GB {k:Int} {l:List Gate} (h0:0≤k) (h1:k≤1000000000000) (hl:l.length≤1048576):eO k l=some (k+4*l.length,mkG k l.length):=by
 unfold eO
 have key:Loop bM (l,k,0)=some (mkG k l.length,k+4*l.length,(l.length:Int),false):=by
  have:=dL (step:=bM) (fun j=>(mkG k j++l.drop j,k+4*j,(j:Int))) l.length (e:=(mkG k l.length,k+4*l.length,(l.length:Int),false)) (fun j hj=> ?_) ?_
  ·simpa [mkG] using this
  ·have hn:(mkG k j++l.drop j).length=l.length:=by rw [List.length_append,gV,List.length_drop];omega
   simp only [bM]
   rw [hn,brd om,brd om,brd om,Bw hj,Int.toNat_natCast,ku (gV k j),obs,brd om,brd om,j9 (gV k j),ku (gV k j),obs,brd om,brd om,j9 (gV k j),ku (gV k j),obs,brd om,brd om,j9 (gV k j),ku (gV k j),obs,j9 (gV k j),aj (k+4*(j:Int)+1) om om,aj (k+4*(j:Int)+1+1) om om,aj (k+4*(j:Int)+1+1+1) om om,aj _ om om,aj _ om om,J7,List.append_assoc]
   have:k+4*(j:Int)+1+1+1+1=k+4*((j+1:Nat):Int):=by omega
   rw [this];rfl
  ·have hn:(mkG k l.length++l.drop l.length).length=l.length:=by rw [List.length_append,gV,List.length_drop];omega
   simp only [bM]
   rw [hn,brn om,decide_eq_false om,List.drop_length,List.append_nil]
 rw [key];rfl
theorem G1 {k:Int} {l:List Gate} (h0:0≤k) (h1:k≤1000000000000) (hl:l.length≤1048576):ew k l=some (k+4*l.length,mkG k l.length):=by
 unfold ew
 rw [GB h0 h1 hl];rfl
theorem ti {k:Int} {n:Nat} (h0:0≤k) (h1:k≤1000000000000) (hl:n≤1048576):de (mkT k n) k=some (k+3*n):=by
 unfold de
 have hn:=fQ k n
 have key:Loop (bV (mkT k n)) (k,0)=some (.inr (k+3*n,(n:Int),false)):=by
  have:=dL (step:=bV (mkT k n)) (fun j=>(k+3*j,(j:Int))) n (e:= .inr (k+3*n,(n:Int),false)) (fun j hj=> ?_) ?_
  ·simpa using this
  ·simp only [bV]
   rw [hn,brd om,dh om,obs,Nh k hj,jA rfl,obs,aj _ om om,jA rfl,obs,aj _ om om,jA rfl,aj _ om om,aj _ om om]
   have:k+3*(j:Int)+1+1+1=k+3*((j+1:Nat):Int):=by omega
   rw [this];rfl
  ·simp only [bV]
   rw [hn,brn om,decide_eq_false om]
 rw [key];rfl
theorem zL {a b c:Int} {A B C:List ab} {k:Int} (h0:0≤k) (h1:k≤1000000) (hA:A.length≤1048576) (hB:B.length≤1048576) (hC:C.length≤1048576):
 fM a b c k A B C=some (k+3*A.length+3*B.length+3*C.length,mkT k A.length,mkT (k+3*A.length) B.length,mkT (k+3*A.length+3*B.length) C.length):=by
 unfold fM
 rw [sS h0 om hA,obs,sS (by dsimp only;omega) (by dsimp only;omega) hB,obs,sS (by dsimp only;omega) (by dsimp only;omega) hC,obs]
theorem zY {a b c:Int} {nA nB nC:Nat} {k:Int} (h0:0≤k) (h1:k≤1000000) (hA:nA≤1048576) (hB:nB≤1048576) (hC:nC≤1048576):
 dY ⟨a,b,c,mkT k nA,mkT (k+3*nA) nB,mkT (k+3*nA+3*nB) nC⟩ k=some (k+3*nA+3*nB+3*nC):=by
 unfold dY
 dsimp only
 rw [ti h0 om hA,obs,brn om,ti om om hB,obs,brn om,ti om om hC,obs,brn om]
end Go.AI.Fn
set_option linter.unusedVariables false
set_option linter.unusedSimpArgs false
namespace Go.AI.Fn
theorem uc {s:aQ} {k:Nat} (h:s.Cols=((k+1:Nat):Int)) (hk:k≤50):dw s=some ((2^k:Nat):Int):=by
 have e:IntKind.wrap .i64 (((k+1:Nat):Int)-1)=(k:Int):=by rw [aj _ om om];omega
 unfold dw
 rw [h,e,brd om,EH om]
theorem nj {p w c2 c3 c4 c5:Int} {l:List Gate} {k:Nat} (hk:k≤50) (hp:0≤p) (hp1:p≤100):
 bc w l c2 c3 c4 c5 p ((k+1:Nat):Int)=if ((2^k:Nat):Int)<mx (p+1) w then some (.inl ((k+2:Nat):Int)) else some (.inr (false,((k+1:Nat):Int))):=by
 have e2:IntKind.wrap .i64 (((k+1:Nat):Int)+1)=((k+2:Nat):Int):=by rw [aj _ om om];omega
 simp only [bc]
 rw [uc (k:=k) rfl hk,obs,e2,aj (p+1) om om]
 by_cases h:((2^k:Nat):Int)<mx (p+1) w
 ·rw [brd h,if_pos h]
 ·rw [brn h,if_neg h,decide_eq_false h]
theorem D8 {p w c2 c3 c4 c5:Int} {l:List Gate} (hp:0≤p) (hp1:p≤7) (hw:w≤15):Loop (bc w l c2 c3 c4 c5 p) 2=some (false,(lgM (mx (p+1) w):Int)):=by
 have hm:mx (p+1) w≤15:=by unfold mx;split<;>omega
 have s1:=nj (p:=p) (w:=w) (l:=l) (c2:=c2) (c3:=c3) (c4:=c4) (c5:=c5) (k:=1) om hp om
 have s2:=nj (p:=p) (w:=w) (l:=l) (c2:=c2) (c3:=c3) (c4:=c4) (c5:=c5) (k:=2) om hp om
 have s3:=nj (p:=p) (w:=w) (l:=l) (c2:=c2) (c3:=c3) (c4:=c4) (c5:=c5) (k:=3) om hp om
 have s4:=nj (p:=p) (w:=w) (l:=l) (c2:=c2) (c3:=c3) (c4:=c4) (c5:=c5) (k:=4) om hp om
 simp only [Nat.reducePow,Nat.reduceAdd] at s1 s2 s3 s4
 unfold lgM
 generalize mx (p+1) w=m at*
 by_cases h1:m≤2
 ·rw [if_pos h1];rw [if_neg om] at s1;exact cf s1
 rw [if_neg h1];rw [if_pos om] at s1
 refine (cE s1).trans ?_
 by_cases h2:m≤4
 ·rw [if_pos h2];rw [if_neg om] at s2;exact cf s2
 rw [if_neg h2];rw [if_pos om] at s2
 refine (cE s2).trans ?_
 by_cases h3:m≤8
 ·rw [if_pos h3];rw [if_neg om] at s3;exact cf s3
 rw [if_neg h3];rw [if_pos om] at s3
 refine (cE s3).trans ?_
 rw [if_neg om] at s4;exact cf s4
theorem yi {l:List Gate} {c9 c10 c11 c12 c13 c14:Int} (ok:OkC l):Loop (ba l (l.length:Int) l c9 c10 c11 c12 c13 c14) ([],1,((2^(lgC l-1):Nat):Int),0)=
 some (cc l l.length,(bS l 2:Int)+1,((2^(lgC l-1):Nat):Int)+((l.length:Int)-(bS l 2:Int)),(l.length:Int),false):=by
 have h1:=ok.n2
 have h2':=sE l
 have hpw:=vC (lgC l-1) om
 have key:=dL (step:=ba l (l.length:Int) l c9 c10 c11 c12 c13 c14) (fun j=>(cc l j,(bS (l.take j) 2:Int)+1,((2^(lgC l-1):Nat):Int)+((j:Int)-(bS (l.take j) 2:Int)),(j:Int))) l.length (e:=(cc l l.length,(bS l 2:Int)+1,((2^(lgC l-1):Nat):Int)+((l.length:Int)-(bS l 2:Int)),(l.length:Int),false)) (fun j hj=> ?_) ?_
 ·have:((cc l 0,(bS (l.take 0) 2:Int)+1,((2^(lgC l-1):Nat):Int)+(((0:Nat):Int)-(bS (l.take 0) 2:Int)),((0:Nat):Int)):List Int×Int×Int×Int)=([],1,((2^(lgC l-1):Nat):Int),0):=by simp [cc,bS]
  rw [←this,key]
 ·have hd:l.getD j ⟨0,0,0,0⟩=l[j]:=by simp [hj]
  have l2:=jb (l.take j) 2
  rw [List.length_take] at l2
  have hcl:=nk l j
  have hfit: ∀v:Int,(cc l j++[v]).length*8≤1099511627776:=fun v=>by rw [List.length_append,hcl];simp;omega
  simp only [ba]
  rw [brd om,dh hj,obs,iE hj,iG,sy,xF,hd]
  by_cases h:l[j].Op=2
  ·rw [bre h,ec (hfit _),aj _ om om,aj _ om om,if_pos h,if_pos (by simp [h])]
   simp;omega
  ·rw [ep h,ec (hfit _),aj _ om om,aj _ om om,if_neg h,if_neg (by simp [h])]
   simp;omega
 ·simp only [ba]
  rw [brn om,decide_eq_false om,List.take_length]
theorem vF {l:List Gate} {c16 c17 c18 c19 c20 c21:Int} (ok:OkC l): ∃mA mB mC,Loop (bw (cc l l.length) l (l.length:Int) l c16 c17 c18 c19 c20 c21) ([],[],[],0,0)=
 some (mA,mB,mC,(l.length:Int),false,(fdM l l.length).1)∧R3 (fdM l l.length).1 mA mB mC (fdM l l.length).2.1 (fdM l l.length).2.2.1 (fdM l l.length).2.2.2 (2*l.length):=by
 have hn:=ok.n2
 obtain ⟨⟨mA,mB,mC,i,b,r⟩,h1,h2,h3,h4,h5⟩:=oR (step:=bw (cc l l.length) l (l.length:Int) l c16 c17 c18 c19 c20 c21)
  (fun s=> ∃j:Nat,j≤l.length∧s.2.2.2.1=(j:Int)∧s.2.2.2.2=(fdM l j).1∧R3 (fdM l j).1 s.1 s.2.1 s.2.2.1 (fdM l j).2.1 (fdM l j).2.2.1 (fdM l j).2.2.2 (2*j)) (fun s=>l.length-s.2.2.2.1.toNat)
  (fun e=>e.2.2.2.1=(l.length:Int)∧e.2.2.2.2.1=false∧e.2.2.2.2.2=(fdM l l.length).1∧R3 (fdM l l.length).1 e.1 e.2.1 e.2.2.1 (fdM l l.length).2.1 (fdM l l.length).2.2.1 (fdM l l.length).2.2.2 (2*l.length))
  (fun s=>by
   obtain ⟨mA,mB,mC,i,r⟩:=s
   rintro ⟨j,hj,e1,e2,h⟩
   dsimp only at e1 e2 h
   subst e1
   simp only [bw]
   by_cases hlt:j<l.length
   ·left
    have hd:l.getD j ⟨0,0,0,0⟩=l[j]:=by simp [hlt]
    have hl:=nk l l.length
    obtain ⟨_,r0,r1⟩:=pw ok j hj
    obtain ⟨x,y,z,g1,g2⟩:=DG (t:=cc l l.length) (c:=(cc l l.length).getD j 0) (ok.g j hlt) om r0 om h
    rw [brd om,dh hlt,obs,brd om,brd (by rw [Int.toNat_natCast];omega),Int.toNat_natCast,JG om,obs,e2,g1,obs,aj _ om om]
    refine ⟨_,rfl,⟨j+1,by omega,by dsimp only;omega,by rw [fdM,hd], ?_⟩,by dsimp only;omega⟩
    rw [fdM,hd]
    exact g2
   ·right
    have:j=l.length:=by omega
    subst this
    rw [brn om,decide_eq_false om]
    exact ⟨_,rfl,rfl,rfl,e2,h⟩)
  ([],[],[],0,0) ⟨0,by omega,rfl,rfl,⟨Rm.nil _,Rm.nil _,Rm.nil _,by simp,by simp,by simp⟩⟩
 dsimp only at h2 h3 h4 h5
 subst h2 h3 h4
 exact ⟨mA,mB,mC,h1,h5⟩
theorem va {c:Circuit} (ok:OkC c.Gates):cF c=some ((o5 c.Gates).Rows,(o5 c.Gates).Cols,(o5 c.Gates).Publics,(o5 c.Gates).A,(o5 c.Gates).B,(o5 c.Gates).C):=by
 have hn:=ok.n2
 have h2:=ok.p
 have h3:=jb c.Gates 2
 have h5:=sE c.Gates
 unfold cF
 have hl:Loop (bc ((c.Gates.length:Int)-(bS c.Gates 2:Int)) c.Gates 0 0 0 1 (bS c.Gates 2:Int)) 2=some (false,(lgC c.Gates:Int)):=D8 om om om
 rw [rC om,obs,aj _ om om,hl,obs]
 dsimp only
 rw [uc (k:=lgC c.Gates-1) (by dsimp only;omega) om,obs,yi ok,obs]
 dsimp only
 obtain ⟨mA,mB,mC,g1,g2⟩:=vF (c16:=0) (c17:=0) (c18:=0) (c19:=1) (c20:=(lgC c.Gates:Int)) (c21:=(bS c.Gates 2:Int)) ok
 obtain ⟨_,r0,r1⟩:=pw ok c.Gates.length (Nat.le_refl _)
 rw [g1,obs]
 dsimp only
 rw [xx (r:=(fdM c.Gates c.Gates.length).1) om (fun k k1 k5=> ?_),obs,g2.a.ent (by have:=g2.la;omega),obs,g2.b.ent (by have:=g2.lb;omega),obs,g2.c.ent (by have:=g2.lc;omega),obs]
 ·rfl
 ·simp only [ct]
  have e2:IntKind.wrap .i64 ((k:Int)+1)=((k+1:Nat):Int):=by rw [aj _ om om];omega
  rw [brd om,EH om,e2]
  by_cases h:((2^k:Nat):Int)<(fdM c.Gates c.Gates.length).1
  ·rw [brd h,if_pos h]
  ·rw [brn h,if_neg h,decide_eq_false h]
theorem sA {c:Circuit} (h:c.Gates.length≤1048576):dQ c=some (if kf c.Gates=true then ((o5 c.Gates).Rows,(o5 c.Gates).Cols,(o5 c.Gates).Publics,0,(o5 c.Gates).A,(o5 c.Gates).B,(o5 c.Gates).C) else (0,0,0,19,[],[],[])):=by
 unfold dQ
 rw [sP h,obs]
 by_cases hc:kf c.Gates=true
 ·rw [hc,va (sZ hc)];rfl
 ·have:kf c.Gates=false:=by simpa using hc
  rw [this];rfl
end Go.AI.Fn
set_option linter.unusedVariables false
namespace Go.AI.Fn
theorem zj {c:Circuit} (hL:c.Gates.length≤1048576): ∃(S:aQ) (z:Int),gw c=some (S,z)∧dQ c=some (S.Rows,S.Cols,S.Publics,z,S.A,S.B,S.C)∧S.A.length≤1000∧S.B.length≤1000∧S.C.length≤1000:=by
 rw [tS hL,sA hL]
 by_cases h:kf c.Gates=true
 ·have ok:=sZ h
  have hn:=ok.n2
  obtain ⟨m,_⟩:=pw ok c.Gates.length (Nat.le_refl _)
  rw [if_pos h,if_pos h]
  exact ⟨o5 c.Gates,0,rfl,rfl,by show (fdM _ _).2.1.length≤_;have:=m.la;omega,by show (fdM _ _).2.2.1.length≤_;have:=m.lb;omega,by show (fdM _ _).2.2.2.length≤_;have:=m.lc;omega⟩
 ·rw [if_neg h,if_neg h]
  exact ⟨⟨0,0,0,[],[],[]⟩,19,rfl,rfl,by simp,by simp,by simp⟩
theorem law_FnExactSystemOf (c:Circuit) (hc:bdCircuit c):dI c=some true:=by
 unfold dI
 obtain ⟨r,e1,r0,r1,h1⟩:=N2 (a:=c) (left:=1048576) hc.1 om om
 rw [e1,obs]
 by_cases c2:r<0
 ·rw [brd c2]
 rw [brn c2]
 have hL:=h1 om
 obtain ⟨S,z,g1,g2,hA,hB,hC⟩:=zj hL
 rw [L1 hL]
 simp only [obs]
 rw [show Circuit.mk c.Gates=c from rfl,g1,g2,O0 hL,G1 om om hL]
 simp only [obs]
 rw [show aQ.mk S.Rows S.Cols S.Publics S.A S.B S.C=S from rfl,N5 om om om,zL om om om om om]
 simp only [obs,Bool.not_true,aZ]
 rw [zY om om om om om]
 simp only [obs,fQ]
 rw [jA rfl,brn om,jA rfl,brd trivial,brd trivial,brd trivial,brn om,jA rfl,jA rfl,brd trivial,brd trivial,brd trivial,brn om,jA rfl]
end Go.AI.Fn
