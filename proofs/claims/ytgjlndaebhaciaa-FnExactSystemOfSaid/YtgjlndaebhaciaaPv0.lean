/- Plain laws for printed functions: loops whose states are told in advance; numbers; places. -/
import Derived.Test.YtgjlndaebhaciaaAiW
import Derived.Test.YtgjlndaebhaciaaFx0
import Derived.KernelRfl
set_option linter.unusedVariables false
namespace Go.AI
theorem cD {S E:Type} {step:S→Option (S⊕E)} {s s':S} (h:step s=some (.inl s')):Loop step s=Loop step s':=by rw [ng,h];rfl
theorem ce {S E:Type} {step:S→Option (S⊕E)} {s:S} {e:E} (h:step s=some (.inr e)):Loop step s=some e:=by rw [ng,h];rfl
theorem dJ {S E:Type} {step:S→Option (S⊕E)} (F:Nat→S) (n:Nat) {e:E} (hs: ∀k,k<n→step (F k)=some (.inl (F (k+1)))) (he:step (F n)=some (.inr e)):Loop step (F 0)=some e:=by
 have key: ∀m k,k+m=n→Loop step (F k)=some e:=by
  intro m
  induction m with
  |zero=>intro k hk;have:k=n:=by omega
         subst this;exact ce he
  |succ m ih=>intro k hk;rw [cD (hs k om)];exact ih (k+1) om
 exact key n 0 om
theorem uD (P:Nat→Bool): ∀n,(∀k,k<n→P k=true)∨ ∃k,k<n∧P k=false∧ ∀j,j<k→P j=true
 |0=> .inl om
 |n+1=>by
  rcases uD P n with h|⟨k,hk,h1,h2⟩
  ·cases hn:P n
   ·exact .inr ⟨n,by omega,hn,h⟩
   ·refine .inl fun k hk=> ?_
    by_cases e:k=n
    ·subst e;exact hn
    ·exact h k om
  ·exact .inr ⟨k,by omega,h1,h2⟩
theorem xS {S E:Type} {step:S→Option (S⊕E)} (F:Nat→S) (n:Nat) (P:Nat→Bool) (x:Nat→E) {e:E} (hs: ∀k,k<n→P k=true→step (F k)=some (.inl (F (k+1))))
 (hx: ∀k,k<n→P k=false→step (F k)=some (.inr (x k))) (he:step (F n)=some (.inr e)):
 ((∀k,k<n→P k=true)∧Loop step (F 0)=some e)∨ ∃k,k<n∧P k=false∧(∀j,j<k→P j=true)∧Loop step (F 0)=some (x k):=by
 rcases uD P n with h|⟨k,hk,h1,h2⟩
 ·exact .inl ⟨h,dJ F n (fun k hk=>hs k hk (h k hk)) he⟩
 ·exact .inr ⟨k,hk,h1,h2,dJ F k (fun j hj=>hs j om (h2 j hj)) (hx k hk h1)⟩
theorem oo {S E:Type} {step:S→Option (S⊕E)} (Inv:S→Prop) (me:S→Nat) (Post:E→Prop)
 (hs: ∀s,Inv s→(∃s',step s=some (.inl s')∧Inv s'∧me s'<me s)∨(∃e,step s=some (.inr e)∧Post e)):
 ∀s,Inv s→ ∃e,Loop step s=some e∧Post e:=by
 intro s
 generalize hm:me s=m
 induction m using Nat.strongRecOn generalizing s with
 |_ m ih=>
  intro hi
  rw [ng]
  rcases hs s hi with ⟨s',h1,h2,h3⟩|⟨e,h1,h2⟩
  ·rw [h1];exact ih (me s') om s' rfl h2
  ·rw [h1];exact ⟨e,rfl,h2⟩
theorem xp {α:Type} {c:Bool} {x y:α} (h:c=true):br c x y=x:=by subst h;rfl
theorem FQ {α:Type} {c:Bool} {x y:α} (h:c=false):br c x y=y:=by subst h;rfl
theorem brd {α:Type} {p:Prop} [Decidable p] {x y:α} (h:p):br (decide p) x y=x:=xp (decide_eq_true h)
theorem brn {α:Type} {p:Prop} [Decidable p] {x y:α} (h: ¬p):br (decide p) x y=y:=FQ (decide_eq_false h)
theorem bre {α:Type} {a b:Int} {x y:α} (h:a=b):br (a==b) x y=x:=xp (by simp [h])
theorem ee {α:Type} {a b:Int} {x y:α} (h:a≠b):br (a==b) x y=y:=FQ (by simp [h])
theorem brb {α:Type} {a b:Int} {x y:α} (h:a≠b):br (a !=b) x y=x:=xp (by simp [h])
theorem jv {α:Type} {a b:Int} {x y:α} (h:a=b):br (a !=b) x y=y:=FQ (by simp [h])
theorem Lr (a b:Int) (h:0≤a):a.tmod b=a%b:=Int.tmod_eq_emod_of_nonneg h
theorem KZ {n b:Nat} (h:n*b≤1099511627776):dP n b=true:=by simp [dP,aK,h]
theorem dU {α:Type} {n b:Nat} {x y:α} (h:n*b≤1099511627776):br (dP n b) x y=x:=xp (KZ h)
theorem w9 {α:Type} {l:List α} {i:Int} (h0:0≤i) {x:α} (h:l[i.toNat]? =some x):atL l i=some x:=by simp [atL,h0,h]
theorem dh {α:Type} {l:List α} {k:Nat} (h:k<l.length):atL l (k:Int)=some l[k]:=by simp [atL,h]
theorem mX {α:Type} {l:List α} {i:Nat} (h:i<l.length): ∃x r,l.drop i=x::r∧l.drop (i+1)=r∧l[i]? =some x:=
 ⟨l[i],l.drop (i+1),List.drop_eq_getElem_cons h,rfl,by simp [h]⟩
theorem Bf {α:Type} {l:List α} {a b:Int} (h0:0≤a) (h1:a≤b) (h2:b≤l.length):fT l a b=some ((l.drop a.toNat).take (b.toNat-a.toNat)):=by
 simp [fT,h0,h1,h2,List.drop_take]
theorem iI {α:Type} {l:List α} {k:Nat} (h:k<l.length):l.take (k+1)=l.take k++[l[k]]:=by rw [List.take_succ_eq_append_getElem h]
def iU {α:Type} (f:Nat→α→α):Nat→α→α
 |0,l=>l
 |k+1,l=>f k (iU f k l)
end Go.AI
set_option linter.unusedVariables false
set_option linter.unusedSimpArgs false
namespace Go.AI.Fn
def okF (a:Int):Prop:=0≤a∧a≤2130706432
def okE (x:Ext):Prop:=okF x.A∧okF x.B
def DB (a:Int):Bool:=decide (0≤a)&&decide (a≤2130706432)
theorem Fx {a:Int}:DB a=true↔okF a:=by simp [DB,okF]
def aF (a b:Int):Int:=(a+b)%2130706433
def mF (a b:Int):Int:=(a*b)%2130706433
def eA (x y:Ext):Ext:=⟨(x.A+y.A)%2130706433,(x.B+y.B)%2130706433⟩
def eS (x y:Ext):Ext:=⟨(x.A-y.A)%2130706433,(x.B-y.B)%2130706433⟩
def eM (x y:Ext):Ext:=⟨(x.A*y.A+3*(x.B*y.B))%2130706433,(x.A*y.B+x.B*y.A)%2130706433⟩
def e0:Ext:=⟨0,0⟩
def e1:Ext:=⟨1,0⟩
def eN (n:Int):Ext:=⟨n,0⟩
theorem SW:okF 0:=⟨by decide,by decide⟩
theorem kG (a:Int):okF (a%2130706433):=⟨by omega,by omega⟩
theorem N0 (a b:Int):okF (aF a b):=kG _
theorem Ta (x y:Ext):okE (eA x y):=⟨kG _,kG _⟩
theorem T8 (x y:Ext):okE (eS x y):=⟨kG _,kG _⟩
theorem T6 (x y:Ext):okE (eM x y):=⟨kG _,kG _⟩
theorem Rd:okE e0:=⟨⟨by decide,by decide⟩,⟨by decide,by decide⟩⟩
theorem T5 {n:Int} (h:okF n):okE (eN n):=⟨h,SW⟩
theorem MQ {a b:Int} (ha:okF a) (hb:okF b):(IntKind.wrap .i64 (a+b)).tmod 2130706433=aF a b:=by
 obtain ⟨h1,h2⟩:=ha;obtain ⟨h3,h4⟩:=hb
 unfold aF;rw [aj _ om om,Lr _ _ om]
theorem sW {a b:Int} (ha:okF a) (hb:okF b):wW a b=some (aF a b):=by unfold wW;rw [MQ ha hb]
theorem LY (n a b:Int):eo n a b=some (decide (a≤n)&&decide (n≤b)):=by
 unfold eo;cases decide (a≤n)<;>rfl
theorem vr (a:Int):ki a=some (DB a):=by
 unfold ki;rw [LY];rfl
theorem Iw {a b:Int} (ha:okF a) (hb:okF b):lO a b=some (aF a b):=by unfold lO;rw [MQ ha hb]
theorem M6 (n a b:Int):di n a b=some (decide (a≤n)&&decide (n≤b)):=by
 unfold di;cases decide (a≤n)<;>rfl
theorem vN (a:Int):bi a=some (DB a):=by
 unfold bi;rw [M6];rfl
end Go.AI.Fn
set_option linter.unusedVariables false
namespace Go.AI.Fn
def ltE (y x:ab):Prop:=y.Row<x.Row∨(y.Row=x.Row∧y.Col<x.Col)
def inE (R C:Int) (x:ab):Prop:=(0≤x.Row∧x.Row≤R-1)∧(0≤x.Col∧x.Col≤C-1)∧1≤x.Value∧x.Value≤2130706432
def SV (l:List ab) (R C:Int) (t:Nat):Prop:= ∃x,l[t]? =some x∧(¬inE R C x∨(0<t∧ ∃y,l[t-1]? =some y∧ ¬ltE y x))
open Classical in
noncomputable def Ox (l:List ab) (R C:Int):Bool:=decide (l.length≤200∧ ∀t, ¬SV l R C t)
theorem MW (n a b:Int):eo n a b=some (decide (a≤n∧n≤b)):=by
 unfold eo
 by_cases h:a≤n
 ·rw [brd h];simp [h]
 ·rw [brn h];simp [h]
theorem FR (n a b:Int):di n a b=some (decide (a≤n∧n≤b)):=by
 unfold di
 by_cases h:a≤n
 ·rw [brd h];simp [h]
 ·rw [brn h];simp [h]
end Go.AI.Fn
set_option linter.unusedVariables false
namespace Go.AI.Fn
noncomputable def Te (s:aQ):Bool:=
 decide (1≤s.Rows∧s.Rows≤5)&&(decide (2≤s.Cols∧s.Cols≤5)&&(decide (0≤s.Publics∧s.Publics≤da .i64 1 (s.Cols-1)-1)&&
  (Ox s.A (da .i64 1 s.Rows) (da .i64 1 s.Cols)&&(Ox s.B (da .i64 1 s.Rows) (da .i64 1 s.Cols)&&Ox s.C (da .i64 1 s.Rows) (da .i64 1 s.Cols)))))
def setB (t:Setting):Bool:=decide (1≤t.Rate∧t.Rate≤3)&&(decide (1≤t.Queries∧t.Queries≤8)&&decide (0≤t.Grind∧t.Grind≤12))
theorem zW {a:List ab} (ha:a.length≤1048576):eY a a=some true:=by
 unfold eY
 rw [jv rfl]
 have key:=oo (step:=dK a a) (fun t=>0≤t∧t≤a.length) (fun t=>(a.length-t).toNat) (fun e=> ∃p,e= .inr p) ?_ 0 ⟨by omega,by omega⟩
 ·obtain ⟨e,he,p,rfl⟩:=key
  rw [he];rfl
 ·intro t ⟨h0,h1⟩
  simp only [dK]
  by_cases c:t<(a.length:Int)
  ·left
   obtain ⟨x,r,e1,e2,e3⟩:=mX (l:=a) (i:=t.toNat) om
   rw [brd c,w9 h0 e3]
   simp only [obs,n9]
   rw [jv rfl,jv rfl,jv rfl]
   simp only [obs,Bool.not_true,aX]
   rw [aj (t+1) om om]
   exact ⟨_,rfl,⟨by omega,by omega⟩,by omega⟩
  ·right
   rw [brn c]
   exact ⟨_,rfl,_,rfl⟩
theorem Ot {s:aQ} (hA:s.A.length≤1048576) (hB:s.B.length≤1048576) (hC:s.C.length≤1048576):fa s s=some true:=by
 unfold fa
 rw [jv rfl,jv rfl,jv rfl,zW hA,zW hB,zW hC];rfl
end Go.AI.Fn
set_option linter.unusedVariables false
namespace Go.AI.Fn
structure Src (B:Int) (m:ia):Prop where
 at0:0≤m.at_
 at1:m.at_≤B
 sd0:0≤m.seed
 sd1:m.seed<2147483648
 len:m.code.length≤1048600
end Go.AI.Fn
set_option linter.unusedVariables false
namespace Go.AI.Fn
end Go.AI.Fn
set_option linter.unusedVariables false
namespace Go.AI.Fn
def Re (n:Int):List UInt8:=[UInt8.ofInt (sv .i64 n 24),UInt8.ofInt (sv .i64 n 16),UInt8.ofInt (sv .i64 n 8),UInt8.ofInt n]
def e8 (x:Ext):List UInt8:=Re x.A++Re x.B
end Go.AI.Fn
set_option linter.unusedVariables false
set_option linter.unusedSimpArgs false
namespace Go.AI.Fn
end Go.AI.Fn
set_option linter.unusedVariables false
set_option linter.unusedSimpArgs false
namespace Go.AI.Fn
def jH (l:List Ext):Prop:= ∀x∈l,okE x
def Sl (l:List Int):Prop:= ∀x∈l,okF x
theorem jH.get {l:List Ext} (h:jH l) {k:Nat} (hk:k<l.length):okE l[k]:=h _ (List.getElem_mem hk)
theorem Sl.get {l:List Int} (h:Sl l) {k:Nat} (hk:k<l.length):okF l[k]:=h _ (List.getElem_mem hk)
theorem jH.app {l m:List Ext} (h:jH l) (h2:jH m):jH (l++m):=fun x hx=>(List.mem_append.1 hx).elim (h x) (h2 x)
theorem jH.nil:jH []:=fun x hx=>by cases hx
theorem jH.one {x:Ext} (h:okE x):jH [x]:=fun y hy=>by rw [List.mem_singleton.1 hy];exact h
theorem jH.map {α:Type} {f:α→Ext} (l:List α) (h: ∀x∈l,okE (f x)):jH (l.map f):=fun y hy=>by obtain ⟨x,hx,rfl⟩:=List.mem_map.1 hy;exact h x hx
theorem jH.take {l:List Ext} (h:jH l) (k:Nat):jH (l.take k):=fun x hx=>h x (List.mem_of_mem_take hx)
theorem jH.drop {l:List Ext} (h:jH l) (k:Nat):jH (l.drop k):=fun x hx=>h x (List.mem_of_mem_drop hx)
theorem jH.getD {l:List Ext} (h:jH l) (k:Nat):okE (l.getD k e0):=by
 by_cases hk:k<l.length
 ·simp [hk];exact h.get hk
 ·simp [List.getElem?_eq_none (Nat.le_of_not_lt hk)];exact Rd
end Go.AI.Fn
set_option linter.unusedVariables false
set_option linter.unusedSimpArgs false
namespace Go.AI.Fn
def jP (op:Int):Int:=if 4≤op∧op≤7 then 2 else if op=8 then 1 else 0
theorem Dd (op:Int):k8 op=some (jP op):=by
 unfold k8 jP
 rw [FR,obs]
 by_cases h1:4≤op∧op≤7
 ·rw [decide_eq_true h1,if_pos h1];rfl
 ·rw [decide_eq_false h1,if_neg h1,aX]
  by_cases h2:op=8
  ·rw [bre h2,if_pos h2]
  ·rw [ee h2,if_neg h2]
def bT (l:List Gate) (op:Int):Nat:=l.countP fun g=>g.Op==op
theorem iF (l:List Gate) (x:Gate) (op:Int):bT (l++[x]) op=bT l op+(if (x.Op==op)=true then 1 else 0):=by
 simp only [bT,List.countP_append,List.countP_singleton]
theorem jt (l:List Gate) (op:Int):bT l op≤l.length:=List.countP_le_length
theorem HV (b:Bool):oS b=some (if b=true then 1 else 0):=by cases b<;>rfl
theorem oj {c:Circuit} {op:Int} (h:c.Gates.length≤1048576):fb c op=some (bT c.Gates op:Int):=by
 unfold fb
 have key:=dJ (step:=cQ op c.Gates) (fun j=>((bT (c.Gates.take j) op:Int),(j:Int))) c.Gates.length (e:=((bT c.Gates op:Int),(c.Gates.length:Int),false)) (fun j hj=> ?_) ?_
 ·rw [show ((0:Int),(0:Int))=((bT (c.Gates.take 0) op:Int),((0:Nat):Int)) from rfl,key];rfl
 ·have hle:=jt (c.Gates.take j) op
  rw [List.length_take] at hle
  simp only [cQ]
  rw [brd om,dh hj,obs,HV,obs,iI hj,iF]
  cases hb:(c.Gates[j].Op==op)
  ·rw [if_neg (by simp),if_neg (by simp),aj _ om om,aj _ om om];simp
  ·rw [if_pos rfl,if_pos rfl,aj _ om om,aj _ om om];simp
 ·simp only [cQ]
  rw [brn om,decide_eq_false om,List.take_length]
def fE (g:Gate) (k:Int):Bool:=
 decide (1≤g.Op∧g.Op≤8)&&(br (decide (jP g.Op>0)) (decide (0≤g.A∧g.A≤k-1)) (g.A==0)&&(br (decide (jP g.Op>1)) (decide (0≤g.B∧g.B≤k-1)) (g.B==0)&&br (g.Op==3) (DB g.K) (g.K==0)))
theorem uC {g:Gate} {k:Int} (h0:0≤k) (h1:k≤1048576):jY g k=some (fE g k):=by
 have hu:jP g.Op=0∨jP g.Op=1∨jP g.Op=2:=by
  unfold jP
  split
  ·simp
  ·split<;>simp
 unfold jY fE
 simp only [FR,vN,Dd,obs,bne]
 rw [aj (k-1) om om]
 generalize jP g.Op=u at hu ⊢
 generalize decide (0≤g.A∧g.A≤k-1)=a
 generalize decide (0≤g.B∧g.B≤k-1)=b
 generalize decide (1≤g.Op∧g.Op≤8)=o
 generalize (g.A==0)=za
 generalize (g.B==0)=zb
 generalize (g.Op==3)=o3
 generalize (g.K==0)=zk
 rcases hu with rfl|rfl|rfl<;>cases o<;>cases a<;>cases b<;>cases za<;>cases zb<;>cases o3<;>rfl
def jJ (l:List Gate):Bool:=decide (1≤l.length∧l.length≤15)&&((List.range l.length).all (fun k=>((l[k]?.map fun g=>fE g (k:Int)).getD false))&&decide ((bT l 2:Int)≤7))
structure OkC (l:List Gate):Prop where
 n1:1≤l.length
 n2:l.length≤15
 g: ∀(k:Nat) (h:k<l.length),fE l[k] (k:Int)=true
 p:bT l 2≤7
theorem sC {l:List Gate} (h:jJ l=true):OkC l:=by
 simp only [jJ,Bool.and_eq_true,decide_eq_true_eq,List.all_eq_true,List.mem_range] at h
 obtain ⟨⟨h1,h2⟩,h3,h4⟩:=h
 exact ⟨h1,h2,fun k hk=>by simpa [hk] using h3 k hk,by omega⟩
theorem sN {c:Circuit} (h:c.Gates.length≤1048576):gZ c=some (jJ c.Gates):=by
 unfold gZ jJ
 rw [FR,obs]
 by_cases h1:1≤c.Gates.length∧c.Gates.length≤15
 ·rw [decide_eq_true om,decide_eq_true h1,Bool.not_true,aX,Bool.true_and]
  have key:=xS (step:=bB c.Gates) (fun k=>(k:Int)) c.Gates.length (fun k=>((c.Gates[k]?.map fun g=>fE g (k:Int)).getD false)) (fun k=> .inl ()) (e:= .inr ((c.Gates.length:Int),false)) (fun k hk hp=>by
   have hb:fE c.Gates[k] (k:Int)=true:=by simpa [hk] using hp
   simp only [bB]
   rw [brd om,dh hk,obs,uC om om,obs,hb,Bool.not_true,aX,aj _ om om];rfl)
   (fun k hk hp=>by
    have hb:fE c.Gates[k] (k:Int)=false:=by simpa [hk] using hp
    simp only [bB]
    rw [brd om,dh hk,obs,uC om om,obs,hb,Bool.not_false,bH])
   (by simp only [bB];rw [brn om,decide_eq_false om])
  rcases key with ⟨h2,h3⟩|⟨k,hk,h2,_,h3⟩
  ·have e:Loop (bB c.Gates) 0=some (.inr ((c.Gates.length:Int),false)):=h3
   have ha:(List.range c.Gates.length).all (fun k=>((c.Gates[k]?.map fun g=>fE g (k:Int)).getD false))=true:=List.all_eq_true.2 fun k hk=>h2 k (List.mem_range.1 hk)
   rw [e,ha,obs,qW,oj h,obs,Bool.true_and]
  ·have e:Loop (bB c.Gates) 0=some (.inl ()):=h3
   have ha:(List.range c.Gates.length).all (fun k=>((c.Gates[k]?.map fun g=>fE g (k:Int)).getD false))=false:=List.all_eq_false.2 ⟨k,List.mem_range.2 hk,by rw [h2];simp⟩
   rw [e,ha,obs,rd,Bool.false_and]
 ·rw [decide_eq_false om,decide_eq_false h1,Bool.not_false,bH,Bool.false_and]
theorem vo {g:Gate} {k:Int} (h:fE g k=true):(1≤g.Op∧g.Op≤8)∧(4≤g.Op→0≤g.A∧g.A≤k-1)∧(4≤g.Op→g.Op≤7→0≤g.B∧g.B≤k-1)∧(g.Op=3→okF g.K):=by
 simp only [fE,Bool.and_eq_true,decide_eq_true_eq] at h
 obtain ⟨h1,h2,h3,h4⟩:=h
 refine ⟨h1,fun h=> ?_,fun h g7=> ?_,fun h=> ?_⟩
 ·rw [brd (by
   unfold jP
   split
   ·omega
   ·split<;>omega)] at h2
  exact of_decide_eq_true h2
 ·rw [brd (by unfold jP;rw [if_pos ⟨h,g7⟩];omega)] at h3
  exact of_decide_eq_true h3
 ·rw [bre h] at h4
  exact Fx.1 h4
theorem v7 {l:List Gate} {j:Nat} {op:Int} (hj:j<l.length) (h:l[j].Op=op):bT (l.take j) op<bT l op:=by
 have h1:bT (l.take (j+1)) op≤bT l op:=List.Sublist.countP_le (List.take_sublist _ _)
 rw [iI hj,iF,if_pos (by simp [h])] at h1
 omega
theorem pf {l:List Int} {k:Nat} (h:k<l.length):atL l (k:Int)=some (l.getD k 0):=by rw [dh h];simp [h]
theorem Jp {l:List Int} {k:Nat} (h:k<l.length):l[k]? =some (l.getD k 0):=by simp [h]
theorem Gd {l:List Int} {i:Int} (h0:0≤i) (h1:i.toNat<l.length):atL l i=some (l.getD i.toNat 0):=by
 have:i=((i.toNat:Nat):Int):=by omega
 conv=>lhs;rw [this]
 exact pf h1
end Go.AI.Fn
set_option linter.unusedVariables false
set_option linter.unusedSimpArgs false
namespace Go.AI.Fn
end Go.AI.Fn
set_option linter.unusedVariables false
set_option linter.unusedSimpArgs false
namespace Go.AI.Fn
theorem G9 {k:Nat} (h:k≤62):da .i64 1 (k:Int)=((2^k:Nat):Int):=by
 have h2: ∀k:Nat,k<63→(2:Int)^k≤4611686018427387904∧0<(2:Int)^k:=by decide
 obtain ⟨h3,h4⟩:=h2 k om
 show IntKind.wrap .i64 (1*2^(min ((k:Int).toNat) 64))=_
 rw [Int.toNat_natCast,Nat.min_eq_left om,Int.one_mul,aj _ om om]
 simp
theorem vc: ∀k:Nat,k≤5→1≤2^k∧2^k≤32:=by decide
end Go.AI.Fn
set_option linter.unusedVariables false
set_option linter.unusedSimpArgs false
namespace Go.AI.Fn
theorem ol {k:Nat} (h:k≤9223372036854775807):IntKind.wrap .u64 (k:Int)=(k:Int):=by
 simp only [IntKind.wrap,IntKind.bits,IntKind.signed]
 simp
 omega
def lgM (m:Int):Nat:=if m≤2 then 2 else if m≤4 then 3 else if m≤8 then 4 else 5
theorem r7 {p w:Int} {l:List Gate} {k:Nat} (hk:k≤50) (hp:0≤p) (hp1:p≤100):
 dX p w l ((k+1:Nat):Int)=if ((2^k:Nat):Int)<mx (p+1) w then some (.inl ((k+2:Nat):Int)) else some (.inr (((k+1:Nat):Int),false)):=by
 have e:IntKind.wrap .i64 (((k+1:Nat):Int)-1)=(k:Int):=by rw [aj _ om om];omega
 have e2:IntKind.wrap .i64 (((k+1:Nat):Int)+1)=((k+2:Nat):Int):=by rw [aj _ om om];omega
 simp only [dX]
 rw [e,e2,ol om,brd om,G9 om,aj _ om om]
 by_cases h:((2^k:Nat):Int)<mx (p+1) w
 ·rw [brd h,if_pos h]
 ·rw [brn h,if_neg h,decide_eq_false h]
theorem Jn {p w:Int} {l:List Gate} (hp:0≤p) (hp1:p≤7) (hw:w≤15):Loop (dX p w l) 2=some ((lgM (mx (p+1) w):Int),false):=by
 have hm:mx (p+1) w≤15:=by unfold mx;split<;>omega
 have s1:=r7 (p:=p) (w:=w) (l:=l) (k:=1) om hp om
 have s2:=r7 (p:=p) (w:=w) (l:=l) (k:=2) om hp om
 have s3:=r7 (p:=p) (w:=w) (l:=l) (k:=3) om hp om
 have s4:=r7 (p:=p) (w:=w) (l:=l) (k:=4) om hp om
 simp only [Nat.reducePow,Nat.reduceAdd] at s1 s2 s3 s4
 unfold lgM
 generalize mx (p+1) w=m at*
 by_cases h1:m≤2
 ·rw [if_pos h1];rw [if_neg om] at s1;exact ce s1
 rw [if_neg h1];rw [if_pos om] at s1
 refine (cD s1).trans ?_
 by_cases h2:m≤4
 ·rw [if_pos h2];rw [if_neg om] at s2;exact ce s2
 rw [if_neg h2];rw [if_pos om] at s2
 refine (cD s2).trans ?_
 by_cases h3:m≤8
 ·rw [if_pos h3];rw [if_neg om] at s3;exact ce s3
 rw [if_neg h3];rw [if_pos om] at s3
 refine (cD s3).trans ?_
 rw [if_neg om] at s4;exact ce s4
def lgC (l:List Gate):Nat:=lgM (mx ((bT l 2:Int)+1) ((l.length:Int)-(bT l 2:Int)))
theorem wY {c:Circuit} (ok:OkC c.Gates):mJ c=some (lgC c.Gates:Int):=by
 have h1:=ok.n2
 have h2:=ok.p
 have h3:=jt c.Gates 2
 unfold mJ
 rw [oj om,obs,aj _ om om,Jn om om om];rfl
theorem FZ (m:Int):2≤lgM m∧lgM m≤5:=by
 unfold lgM
 split
 ·omega
 ·split
  ·omega
  ·split<;>omega
theorem Kv {m:Int} (h:m≤15):m≤((2^(lgM m-1):Nat):Int):=by
 unfold lgM
 split
 ·simpa
 ·split
  ·simpa
  ·split
   ·simpa
   ·simp;omega
def yi (l:List Gate) (j:Nat):Int:=if (l.getD j ⟨0,0,0,0⟩).Op=2 then (bT (l.take j) 2:Int)+1 else ((2^(lgC l-1):Nat):Int)+((j:Int)-(bT (l.take j) 2:Int))
def cc (l:List Gate) (n:Nat):List Int:=(List.range n).map (yi l)
theorem nj (l:List Gate) (n:Nat):(cc l n).length=n:=by simp [cc]
theorem s8 (l:List Gate) (n:Nat):cc l (n+1)=cc l n++[yi l n]:=by simp [cc,List.range_succ]
theorem vv {c:Circuit} (ok:OkC c.Gates):jW c=some (cc c.Gates c.Gates.length,(lgC c.Gates:Int)):=by
 have h1:=ok.n2
 have h2:=FZ (mx ((bT c.Gates 2:Int)+1) ((c.Gates.length:Int)-(bT c.Gates 2:Int)))
 have h2':2≤lgC c.Gates∧lgC c.Gates≤5:=h2
 have e:IntKind.wrap .i64 ((lgC c.Gates:Int)-1)=((lgC c.Gates-1:Nat):Int):=by rw [aj _ om om];omega
 have hpw:=vc (lgC c.Gates-1) om
 unfold jW
 rw [wY ok,obs,e,ol om,brd om,G9 om]
 have key:=dJ (step:=dw (lgC c.Gates:Int) ((2^(lgC c.Gates-1):Nat):Int) c.Gates) (fun j=>(cc c.Gates j,(bT (c.Gates.take j) 2:Int),(j:Int)-(bT (c.Gates.take j) 2:Int),(j:Int))) c.Gates.length (e:=(cc c.Gates c.Gates.length,(bT c.Gates 2:Int),(c.Gates.length:Int)-(bT c.Gates 2:Int),(c.Gates.length:Int),false)) (fun j hj=> ?_) ?_
 ·have:((cc c.Gates 0,(bT (c.Gates.take 0) 2:Int),((0:Nat):Int)-(bT (c.Gates.take 0) 2:Int),((0:Nat):Int)):List Int×Int×Int×Int)=([],0,0,0):=rfl
  rw [←this,key];rfl
 ·have hd:c.Gates.getD j ⟨0,0,0,0⟩=c.Gates[j]:=by simp [hj]
  have l2:=jt (c.Gates.take j) 2
  rw [List.length_take] at l2
  have hcl:=nj c.Gates j
  have hfit: ∀v:Int,(cc c.Gates j++[v]).length*8≤1099511627776:=fun v=>by rw [List.length_append,hcl];simp;omega
  simp only [dw]
  rw [brd om,dh hj,obs,iI hj,iF,s8,yi,hd]
  by_cases h:c.Gates[j].Op=2
  ·rw [bre h,dU (hfit _),aj _ om om,aj _ om om,if_pos h,if_pos (by simp [h])]
   simp;omega
  ·rw [ee h,dU (hfit _),aj _ om om,aj _ om om,aj _ om om,if_neg h,if_neg (by simp [h])]
   simp;omega
 ·simp only [dw]
  rw [brn om,decide_eq_false om,List.take_length]
end Go.AI.Fn
set_option linter.unusedVariables false
set_option linter.unusedSimpArgs false
namespace Go.AI.Fn
def enP (row col:Int) (e:ab):Bool:=decide (e.Row=row)&&decide (e.Col>col)
def enR (row col v:Int):List ab→List ab
 |[]=>[⟨row,col,v⟩]
 |e::R=>if enP row col e=true then e::enR row col v R
  else if e.Row=row∧e.Col=col then (if aF e.Value v=0 then R else ⟨row,col,aF e.Value v⟩::R)
  else ⟨row,col,v⟩::e::R
def enM (L:List ab) (row col v:Int):List ab:=(enR row col v L.reverse).reverse
theorem Bp {row col v:Int} {R:List ab}: ∀{T:List ab},(∀e∈T,enP row col e=true)→enR row col v (T++R)=T++enR row col v R
 |[],_=>rfl
 |e::T,h=>by
  rw [List.cons_append,enR,if_pos (h e (by simp)),Bp fun x hx=>h x (by simp [hx])];rfl
theorem xi (row col:Int) (L:List ab): ∃A T,L=A++T∧(∀e∈T,enP row col e=true)∧(A=[]∨ ∃B e,A=B++[e]∧enP row col e=false):=by
 refine ⟨(L.reverse.dropWhile (enP row col)).reverse,(L.reverse.takeWhile (enP row col)).reverse, ?_, ?_, ?_⟩
 ·rw [←List.reverse_append,List.takeWhile_append_dropWhile,List.reverse_reverse]
 ·intro e he
  rw [List.mem_reverse] at he
  have: ∀(l:List ab), ∀e∈l.takeWhile (enP row col),enP row col e=true:=by
   intro l
   induction l with
   |nil=>intro e he;cases he
   |cons x l ih=>
    intro e he
    rw [List.takeWhile_cons] at he
    split at he
    ·rename_i hx
     rcases List.mem_cons.1 he with rfl|he
     ·exact hx
     ·exact ih e he
    ·cases he
  exact this _ e he
 ·have: ∀(l:List ab),l.dropWhile (enP row col)=[]∨ ∃x r,l.dropWhile (enP row col)=x::r∧enP row col x=false:=by
   intro l
   induction l with
   |nil=>exact .inl rfl
   |cons x l ih=>
    rw [List.dropWhile_cons]
    split
    ·exact ih
    ·rename_i hx;exact .inr ⟨x,l,rfl,by simpa using hx⟩
  rcases this L.reverse with h|⟨x,r,h,hx⟩
  ·exact .inl (by rw [h];rfl)
  ·exact .inr ⟨r.reverse,x,by rw [h,List.reverse_cons],hx⟩
theorem pJ {row col v:Int} {A T:List ab} (h: ∀e∈T,enP row col e=true):enM (A++T) row col v=enM A row col v++T:=by
 unfold enM
 rw [List.reverse_append,Bp (fun e he=>h e (by simpa using he)),List.reverse_append,List.reverse_reverse]
theorem wJ {α:Type} {A B:List α} {n:Int} (h:n=A.length):fT (A++B) 0 n=some A:=by
 subst h
 rw [Bf om om (by simp;omega)]
 simp
theorem rU {α:Type} {A B:List α} {n m:Int} (h:n=A.length) (hm:m=((A++B).length:Nat)):fT (A++B) n m=some B:=by
 subst h;subst hm
 rw [Bf om (by simp;omega) om]
 have:((A.length:Int)+(B.length:Int)).toNat-A.length=B.length:=by omega
 simp [this]
theorem M1 {row col v:Int} {A T:List ab} (hT: ∀e∈T,enP row col e=true) (hA:A=[]∨ ∃B e,A=B++[e]∧enP row col e=false) (hl:(A++T).length≤1000000):
 Loop (cn (A++T) row col v) (((A++T).length:Nat):Int)=some ((A.length:Int),false):=by
 have hlen:(A++T).length=A.length+T.length:=List.length_append
 have key:=dJ (step:=cn (A++T) row col v) (fun j=>(((A.length+T.length-j:Nat)):Int)) T.length (e:=((A.length:Int),false)) (fun j hj=> ?_) ?_
 ·rw [hlen];simpa using key
 ·have hi:A.length+T.length-j-1<(A++T).length:=by omega
  have hp:enP row col (A++T)[A.length+T.length-j-1]=true:=by
   rw [List.getElem_append_right om]
   exact hT _ (List.getElem_mem _)
  simp only [enP,Bool.and_eq_true,decide_eq_true_eq] at hp
  have e:IntKind.wrap .i64 (((A.length+T.length-j:Nat):Int)-1)=((A.length+T.length-j-1:Nat):Int):=by rw [aj _ om om];omega
  simp only [cn]
  rw [brd om,e,dh hi,obs,bre hp.1,obs,brd hp.2]
  have e3:A.length+T.length-j-1=A.length+T.length-(j+1):=by omega
  rw [e3]
 ·simp only [cn]
  rw [show A.length+T.length-T.length=A.length by omega]
  rcases hA with rfl|⟨B,x,rfl,hx⟩
  ·rw [brn (by simp)]
  ·have e:IntKind.wrap .i64 (((B++[x]).length:Nat)-1:Int)=(B.length:Int):=by
    rw [aj _ om om];simp
   have hx':atL (B++[x]++T) (B.length:Int)=some x:=by
    rw [dh (by simp)];simp
   rw [brd (by simp),e,hx',obs]
   simp only [enP,Bool.and_eq_false_iff,decide_eq_false_iff_not] at hx
   by_cases h1:x.Row=row
   ·have h2: ¬x.Col>col:=by rcases hx with hx|hx;exact absurd h1 hx;exact hx
    rw [bre h1,obs,brn h2,decide_eq_false h2]
   ·rw [ee h1]
theorem tO {L:List ab} {row col v:Int} (hl:L.length≤1000000) (hv:okF v) (hL: ∀e∈L,okF e.Value):aa L row col v=some (enM L row col v):=by
 obtain ⟨A,T,rfl,hT,hA⟩:=xi row col L
 have hlen:(A++T).length=A.length+T.length:=List.length_append
 unfold aa
 rw [M1 hT hA hl,obs,pJ hT]
 dsimp only
 have f1: ∀M:List ab,M.length≤2000000→M.length*24≤1099511627776:=fun M h=>by omega
 have ins:((fT (A++T) 0 (A.length:Int)).bind fun y=>br (dP (([]++y:List ab)).length 24) (br (dP (([]++y)++[ab.mk row col v]).length 24) ((fT (A++T) (A.length:Int) (((A++T).length:Nat):Int)).bind fun y2=>br (dP ((([]++y)++[ab.mk row col v])++y2).length 24) (some ((([]++y)++[ab.mk row col v])++y2)) none) none) none)=some (A++[ab.mk row col v]++T):=by
  rw [wJ rfl,obs,List.nil_append,dU (f1 _ om),dU (f1 _ (by simp;omega)),rU rfl rfl,obs,dU (f1 _ (by simp;omega))]
 rcases hA with rfl|⟨B,x,rfl,hx⟩
 ·rw [brn (by simp),ins];rfl
 ·have e:IntKind.wrap .i64 (((B++[x]).length:Nat)-1:Int)=(B.length:Int):=by
   rw [aj _ om om];simp
  have hx':atL (B++[x]++T) (B.length:Int)=some x:=by
   rw [dh (by simp)];simp
  rw [brd (by simp),e,hx',obs]
  have hm:enM (B++[x]) row col v=if x.Row=row∧x.Col=col then (if aF x.Value v=0 then B else B++[⟨row,col,aF x.Value v⟩]) else B++[x]++[⟨row,col,v⟩]:=by
   unfold enM
   rw [List.reverse_append,List.reverse_singleton,List.singleton_append,enR,if_neg (by rw [hx];simp)]
   split
   ·split<;>simp
   ·simp
  rw [hm]
  by_cases h1:x.Row=row
  ·rw [bre h1,obs]
   by_cases h2:x.Col=col
   ·have hs:fT (B++[x]++T) 0 (B.length:Int)=some B:=by rw [List.append_assoc];exact wJ rfl
    rw [bre h2,obs,Iw (hL x (by simp)) hv,obs,hs,obs,List.nil_append,dU (f1 _ (by simp at hl;omega)),if_pos ⟨h1,h2⟩]
    by_cases h3:aF x.Value v=0
    ·rw [jv h3,if_pos h3,rU rfl rfl,obs,dU (f1 _ (by simp at hl ⊢;omega))]
    ·rw [brb h3,if_neg h3,dU (f1 _ (by simp at hl ⊢;omega)),rU rfl rfl,obs,dU (f1 _ (by simp at hl ⊢;omega))]
   ·rw [ee h2,ins,if_neg (fun h=>h2 h.2)]
  ·rw [ee h1,ins,if_neg (fun h=>h1 h.1)]
end Go.AI.Fn
set_option linter.unusedVariables false
set_option linter.unusedSimpArgs false
namespace Go.AI.Fn
abbrev xo (a b:Int):Int:=pc .u64 a b
def rot (x s:Int):Int:=if s=0 then x else sA .u64 (da .u64 x s) (sv .u64 x (64-s))
end Go.AI.Fn
set_option linter.unusedVariables false
set_option linter.unusedSimpArgs false
namespace Go.AI.Fn
abbrev g (l:List Int) (i:Int):Int:=l.getD i.toNat 0
def PO:List Int:=[0,1,62,28,27,36,44,6,55,20,3,10,43,25,39,41,45,15,21,8,18,2,61,56,14]
def p2 (m:List Int) (k:Nat) (l:List Int):List Int:=l.set ((k:Int)%5).toNat (xo (g l ((k:Int)%5)) (g m k))
def p3 (m c:List Int) (k:Nat) (l:List Int):List Int:=
 l.set ((k:Int)/5+5*((2*((k:Int)%5)+3*((k:Int)/5))%5)).toNat (rot (xo (g m k) (xo (g c (((k:Int)%5+4)%5)) (rot (g c (((k:Int)%5+1)%5)) 1))) (g PO k))
def p4 (b:List Int) (k:Nat) (l:List Int):List Int:=
 l.set k (xo (g b k) (AO .u64 (g b ((k:Int)-(k:Int)%5+((k:Int)%5+2)%5)) (g b ((k:Int)-(k:Int)%5+((k:Int)%5+1)%5))))
def q2 (m:List Int) (k:Nat) (l:List Int):List Int:=l.set k (xo (xo (xo (xo (g m k) (g m ((k:Int)+5))) (g m ((k:Int)+10))) (g m ((k:Int)+15))) (g m ((k:Int)+20)))
def q3 (c:List Int) (k:Nat) (l:List Int):List Int:=l.set k (xo (g l k) (xo (g c (((k:Int)+4)%5)) (rot (g c (((k:Int)+1)%5)) 1)))
def P4 (m:List Int) (rc:Int):List Int:=
 let c:=iU (p2 m) 25 (nZ 5)
 let b:=iU (p3 m c) 25 (nZ 25)
 let r:=iU (p4 b) 25 m
 r.set 0 (xo (r.getD 0 0) rc)
end Go.AI.Fn
set_option linter.unusedVariables false
set_option linter.unusedSimpArgs false
namespace Go.AI.Fn
end Go.AI.Fn
set_option linter.unusedVariables false
set_option linter.unusedSimpArgs false
set_option maxRecDepth 10000
namespace Go.AI.Fn
def rcL:List Int:=[1,32898,9223372036854808714,9223372039002292224,32907,2147483649,9223372039002292353,9223372036854808585,138,136,2147516425,2147483658,2147516555,9223372036854775947,9223372036854808713,9223372036854808579,9223372036854808578,9223372036854775936,32778,9223372039002259466,9223372039002292353,9223372036854808704,2147483649,9223372039002292232]
def rdP (k:Nat) (m:List Int):List Int:=P4 m (rcL.getD k 0)
def Rz (m:List Int):List Int:=iU rdP 24 m
def lnS (t:List UInt8) (k:Nat) (l:List Int):List Int:=l.set ((k:Int)/8).toNat (sA .u64 (g l ((k:Int)/8)) (da .u64 (IntKind.wrap .u64 ((t.getD k 0).toNat:Int)) (8*((k:Int)%8))))
def PX (t:List UInt8):List Int:=iU (lnS t) t.length (nZ 25)
def txB (m:List Int) (i:Nat):UInt8:=UInt8.ofInt (sv .u64 (g m ((i:Int)/8)) (8*((i:Int)%8)))
def Gq (m:List Int) (n:Nat):List UInt8:=(List.range n).map (txB m)
theorem D6 (m:List Int) (n:Nat):(Gq m n).length=n:=by simp [Gq]
end Go.AI.Fn
set_option linter.unusedVariables false
set_option linter.unusedSimpArgs false
namespace Go.AI.Fn
def xoS (t:List Int) (k:Nat) (l:List Int):List Int:=l.set k (xo (g l k) (g t k))
def SJ (t m:List Int):List Int:=iU (xoS t) 25 m
def SX (a:List UInt8) (k:Nat) (m:List Int):List Int:=Rz (SJ (PX ((a.drop (136*k)).take 136)) m)
def T2 (a:List UInt8) (n:Nat):List Int:=iU (SX a) n (nZ 25)
def JO (l:List UInt8):List UInt8:=l++List.replicate ((136-l.length%136)%136) 0
def SA (b:List UInt8):List UInt8:=(JO (b++[1])).set ((JO (b++[1])).length-1) (UInt8.ofInt (sA .u8 (((JO (b++[1])).getD ((JO (b++[1])).length-1) 0).toNat:Int) 128))
def H (b:List UInt8):List UInt8:=Gq (T2 (SA b) ((b.length+136)/136)) 32
theorem T9 (b:List UInt8):(H b).length=32:=D6 _ _
end Go.AI.Fn
set_option linter.unusedVariables false
namespace Go.AI.Fn
theorem Td {l:List UInt8} (h:8≤l.length): ∃a b c d e f g k r,l=a::b::c::d::e::f::g::k::r:=by
 match l,h with
 |a::b::c::d::e::f::g::k::r,_=>exact ⟨a,b,c,d,e,f,g,k,r,rfl⟩
end Go.AI.Fn
set_option linter.unusedVariables false
set_option linter.unusedSimpArgs false
namespace Go.AI.Fn
def Tg:List UInt8:=[97,98,115,111,114,98]
structure T7 (s:Source):Prop where
 len:s.Script.length≤64
 scr:jH s.Script
 st:s.State.length=32
 a0:0≤s.At
 a1:s.At≤1000000
 c0:0≤s.Count
 c1:s.Count≤1000000
end Go.AI.Fn
set_option linter.unusedVariables false
namespace Go.AI.Fn
end Go.AI.Fn
set_option linter.unusedVariables false
set_option linter.unusedSimpArgs false
namespace Go.AI.Fn
end Go.AI.Fn
set_option linter.unusedVariables false
set_option linter.unusedSimpArgs false
namespace Go.AI.Fn
structure OkM (l:List ab) (R C:Int):Prop where
 len:l.length≤200
 ent: ∀x∈l,inE R C x
 srt: ∀k (hk:k<l.length), ∀y∈l.take k,ltE y l[k]
theorem DJ {x y z:ab} (h:ltE x y) (g:ltE y z):ltE x z:=by unfold ltE at*;omega
end Go.AI.Fn
set_option linter.unusedVariables false
set_option linter.unusedSimpArgs false
namespace Go.AI.Fn
end Go.AI.Fn
set_option linter.unusedVariables false
set_option linter.unusedSimpArgs false
namespace Go.AI.Fn
structure MkR (l:List ab) (row C:Int):Prop where
 ent: ∀x∈l,0≤x.Row∧x.Row≤row∧0≤x.Col∧x.Col≤C-1∧1≤x.Value∧x.Value≤2130706432
 srt:l.Pairwise ltE
theorem MkR.nil (row C:Int):MkR [] row C:=⟨fun x hx=>(by cases hx),List.Pairwise.nil⟩
theorem MkR.up {l:List ab} {row C r:Int} (h:MkR l row C) (hr:row≤r):MkR l r C:=
 ⟨fun x hx=>by obtain ⟨a,b,c⟩:=h.ent x hx;exact ⟨a,by omega,c⟩,h.srt⟩
theorem MkR.okF {l:List ab} {row C:Int} (h:MkR l row C): ∀e∈l,Fn.okF e.Value:=fun e he=>by
 obtain ⟨_,_,_,_,a,b⟩:=h.ent e he
 exact ⟨by omega,by omega⟩
theorem wh {A T:List ab} {n:ab} {row C:Int} (h:MkR (A++T) row C) (hn:n.Row=row) (h0:0≤row) (hc:0≤n.Col∧n.Col≤C-1) (hv:1≤n.Value∧n.Value≤2130706432) (hA: ∀a∈A,ltE a n) (hT: ∀b∈T,ltE n b):MkR (A++[n]++T) row C:=by
 obtain ⟨p1,p2,p3⟩:=List.pairwise_append.1 h.srt
 refine ⟨fun x hx=> ?_, ?_⟩
 ·simp only [List.mem_append,List.mem_singleton] at hx
  rcases hx with (hx|rfl)|hx
  ·exact h.ent x (by simp [hx])
  ·exact ⟨by omega,by omega,hc.1,hc.2,hv.1,hv.2⟩
  ·exact h.ent x (by simp [hx])
 ·rw [List.append_assoc,List.pairwise_append]
  refine ⟨p1, ?_,fun a ha b hb=> ?_⟩
  ·rw [List.singleton_append,List.pairwise_cons];exact ⟨hT,p2⟩
  ·rw [List.singleton_append,List.mem_cons] at hb
   rcases hb with rfl|hb
   ·exact hA a ha
   ·exact p3 a ha b hb
theorem MkR.sub {l l':List ab} {row C:Int} (h:MkR l row C) (hs:List.Sublist l' l):MkR l' row C:=
 ⟨fun x hx=>h.ent x (hs.subset hx),h.srt.sublist hs⟩
theorem cg {l:List ab} {row col v C:Int} (h:MkR l row C) (h0:0≤row) (hc:0≤col∧col≤C-1) (hv:1≤v∧v≤2130706432):MkR (enM l row col v) row C∧(enM l row col v).length≤l.length+1:=by
 obtain ⟨A,T,rfl,hT,hA⟩:=xi row col l
 have hT': ∀b∈T,b.Row=row∧b.Col>col:=fun b hb=>by simpa [enP] using hT b hb
 rw [pJ hT]
 rcases hA with rfl|⟨B,x,rfl,hx⟩
 ·refine ⟨wh (A:=[]) (n:=⟨row,col,v⟩) h rfl h0 hc hv (fun a ha=>by cases ha) (fun b hb=> ?_),by simp [enM,enR]⟩
  have:=hT' b hb
  unfold ltE;dsimp only;omega
 ·have hm:enM (B++[x]) row col v=if x.Row=row∧x.Col=col then (if aF x.Value v=0 then B else B++[⟨row,col,aF x.Value v⟩]) else B++[x]++[⟨row,col,v⟩]:=by
   unfold enM
   rw [List.reverse_append,List.reverse_singleton,List.singleton_append,enR,if_neg (by rw [hx];simp)]
   split
   ·split<;>simp
   ·simp
  have hxe:=h.ent x (by simp)
  obtain ⟨p1,p2,p3⟩:=List.pairwise_append.1 h.srt
  obtain ⟨q1,q2,q3⟩:=List.pairwise_append.1 p1
  have hBx: ∀a∈B,ltE a x:=fun a ha=>q3 a ha x (by simp)
  rw [hm]
  split
  ·rename_i he
   have hs:MkR (B++T) row C:=h.sub (by simp)
   split
   ·exact ⟨hs,by simp;omega⟩
   ·rename_i hz
    have hk:=N0 x.Value v
    refine ⟨wh hs rfl h0 hc ⟨(by have:=hk.1;show 1≤aF x.Value v;omega),hk.2⟩ (fun a ha=> ?_) (fun b hb=> ?_),by simp⟩
    ·have:=hBx a ha
     unfold ltE at*;dsimp only;omega
    ·have:=hT' b hb
     unfold ltE;dsimp only;omega
  ·rename_i he
   have hxn:ltE x ⟨row,col,v⟩:=by
    simp only [enP,Bool.and_eq_false_iff,decide_eq_false_iff_not] at hx
    unfold ltE;dsimp only;omega
   refine ⟨wh h rfl h0 hc hv (fun a ha=> ?_) (fun b hb=> ?_),by simp;omega⟩
   ·rcases List.mem_append.1 ha with ha|ha
    ·exact DJ (hBx a ha) hxn
    ·rw [List.mem_singleton] at ha;subst ha;exact hxn
   ·have:=hT' b hb
    unfold ltE;dsimp only;omega
end Go.AI.Fn
set_option linter.unusedVariables false
set_option linter.unusedSimpArgs false
namespace Go.AI.Fn
def syM (a b c:Int) (g:Gate) (r:Int) (A B C:List ab):Int×List ab×List ab×List ab:=
 if g.Op=1∨g.Op=2 then (r,A,B,C)
 else if g.Op=6 then (r+1,enM A r a 1,enM B r b 1,enM C r c 1)
 else if g.Op=4 then (r+1,enM (enM A r a 1) r b 1,enM B r 0 1,enM C r c 1)
 else if g.Op=5 then (r+1,enM (enM A r a 1) r b 2130706432,enM B r 0 1,enM C r c 1)
 else if g.Op=3 then (r+1,if g.K>0 then enM A r 0 g.K else A,enM B r 0 1,enM C r c 1)
 else if g.Op=7 then (r+1+1,enM (enM A r b 1) (r+1) a 1,enM (enM B r 0 1) (r+1) 0 1,enM (enM C r c 1) (r+1) c 1)
 else (r+1+1,enM (enM A r a 1) (r+1) a 1,enM (enM B r a 1) (r+1) 0 1,enM (enM C r c 1) (r+1) c 1)
theorem i7 {L:List ab} {row col v C:Int} (h:MkR L row C) (hl:L.length≤1000) (hv:1≤v∧v≤2130706432):aa L row col v=some (enM L row col v):=
 tO om ⟨by omega,hv.2⟩ h.okF
theorem LH {t:List Int} {l:List Gate} {c2 c3 c4 c5 c6 c7 r CC:Int} {k:Nat} {A B C:List ab} (ok:OkC l) (hk:k<l.length) (ht:t.length=l.length) (hr:0≤r) (hr1:r≤100)
 (hC:1≤CC) (hc: ∀i,i<l.length→0≤t.getD i 0∧t.getD i 0≤CC-1) (mA:MkR A r CC) (mB:MkR B r CC) (mC:MkR C r CC) (lA:A.length≤900) (lB:B.length≤900) (lC:C.length≤900):
 bP t l c2 c3 c4 c5 c6 c7 (r,(k:Int),A,B,C)=
  (fun S:Int×List ab×List ab×List ab=>some (.inl (S.1,((k+1:Nat):Int),S.2.1,S.2.2.1,S.2.2.2))) (syM (t.getD l[k].A.toNat 0) (t.getD l[k].B.toNat 0) (t.getD k 0) l[k] r A B C):=by
 have hn:=ok.n2
 obtain ⟨g1,g2,g3,g4⟩:=vo (ok.g k hk)
 have hck:=hc k hk
 simp only [bP]
 rw [brd om,dh hk,obs]
 generalize l[k]=g at*
 have ek:IntKind.wrap .i64 ((k:Int)+1)=((k+1:Nat):Int):=by rw [aj _ om om];omega
 have er:IntKind.wrap .i64 (r+1)=r+1:=aj _ om om
 have er2:IntKind.wrap .i64 (r+1+1)=r+1+1:=aj _ om om
 have one:(1:Int)≤1∧(1:Int)≤2130706432:=⟨by omega,by omega⟩
 have big:(1:Int)≤2130706432∧(2130706432:Int)≤2130706432:=⟨by omega,by omega⟩
 have c0:(0:Int)≤0∧(0:Int)≤CC-1:=⟨by omega,by omega⟩
 have hkk:atL t (k:Int)=some (t.getD k 0):=pf om
 rw [ek,er,er2,hkk]
 simp only [obs]
 have hop:g.Op=1∨g.Op=2∨g.Op=3∨g.Op=4∨g.Op=5∨g.Op=6∨g.Op=7∨g.Op=8:=by omega
 have ha:4≤g.Op→atL t g.A=some (t.getD g.A.toNat 0)∧0≤t.getD g.A.toNat 0∧t.getD g.A.toNat 0≤CC-1:=fun h=>by
  have:=g2 h
  exact ⟨Gd this.1 om,hc _ om⟩
 have hb:4≤g.Op→g.Op≤7→atL t g.B=some (t.getD g.B.toNat 0)∧0≤t.getD g.B.toNat 0∧t.getD g.B.toNat 0≤CC-1:=fun h h7=>by
  have:=g3 h h7
  exact ⟨Gd this.1 om,hc _ om⟩
 have dB:=i7 (col:=0) mB om one
 have dC:=i7 (col:=t.getD k 0) mC om one
 have nB:=cg mB hr c0 one
 have nC:=cg mC hr hck one
 have dB2:=i7 (col:=0) (nB.1.up (r:=r+1) om) om one
 have dC2:=i7 (col:=t.getD k 0) (nC.1.up (r:=r+1) om) om one
 rcases hop with h|h|h|h|h|h|h|h
 ·simp [syM,h,br]
 ·simp [syM,h,br]
 ·by_cases hK:g.K>0
  ·have dA:=i7 (col:=0) (v:=g.K) mA om ⟨by omega,(g4 h).2⟩
   simp only [syM,h,decide_eq_true hK,dA,dB,dC,obs,if_pos hK];rfl
  ·simp only [syM,h,decide_eq_false hK,dB,dC,obs,if_neg hK];rfl
 ·obtain ⟨a1,a2⟩:=ha om
  obtain ⟨b1,b2⟩:=hb om om
  have dA:=i7 (col:=t.getD g.A.toNat 0) mA om one
  have nA:=cg mA hr a2 one
  have dA2:=i7 (col:=t.getD g.B.toNat 0) nA.1 om one
  simp only [syM,h,a1,b1,dA,dA2,dB,dC,obs];rfl
 ·obtain ⟨a1,a2⟩:=ha om
  obtain ⟨b1,b2⟩:=hb om om
  have dA:=i7 (col:=t.getD g.A.toNat 0) mA om one
  have nA:=cg mA hr a2 one
  have dA2:=i7 (col:=t.getD g.B.toNat 0) nA.1 om big
  simp only [syM,h,a1,b1,dA,dA2,dB,dC,obs];rfl
 ·obtain ⟨a1,a2⟩:=ha om
  obtain ⟨b1,b2⟩:=hb om om
  have dA:=i7 (col:=t.getD g.A.toNat 0) mA om one
  have dBb:=i7 (col:=t.getD g.B.toNat 0) mB om one
  simp only [syM,h,a1,b1,dA,dBb,dC,obs];rfl
 ·obtain ⟨a1,a2⟩:=ha om
  obtain ⟨b1,b2⟩:=hb om om
  have dA:=i7 (col:=t.getD g.B.toNat 0) mA om one
  have nA:=cg mA hr b2 one
  have dA2:=i7 (col:=t.getD g.A.toNat 0) (nA.1.up (r:=r+1) om) om one
  simp only [syM,h,a1,b1,dA,dA2,dB,dB2,dC,dC2,obs];rfl
 ·obtain ⟨a1,a2⟩:=ha om
  have dA:=i7 (col:=t.getD g.A.toNat 0) mA om one
  have nA:=cg mA hr a2 one
  have dA2:=i7 (col:=t.getD g.A.toNat 0) (nA.1.up (r:=r+1) om) om one
  have dBa:=i7 (col:=t.getD g.A.toNat 0) mB om one
  have nBa:=cg mB hr a2 one
  have dBa2:=i7 (col:=0) (nBa.1.up (r:=r+1) om) om one
  simp only [syM,h,a1,dA,dA2,dBa,dBa2,dC,dC2,obs];rfl
end Go.AI.Fn
set_option linter.unusedVariables false
set_option linter.unusedSimpArgs false
namespace Go.AI.Fn
structure Mk3 (r:Int) (A B C:List ab) (CC:Int) (n:Nat):Prop where
 a:MkR A (r-1) CC
 b:MkR B (r-1) CC
 c:MkR C (r-1) CC
 la:A.length≤n
 lb:B.length≤n
 lc:C.length≤n
theorem Mk3.of {r' r:Int} {A B C:List ab} {CC:Int} {n m:Nat} (e:r'-1=r) (a:MkR A r CC) (b:MkR B r CC) (c:MkR C r CC) (la:A.length≤n) (lb:B.length≤n) (lc:C.length≤n) (h:n≤m):Mk3 r' A B C CC m:=by
 subst e;exact ⟨a,b,c,by omega,by omega,by omega⟩
theorem QW {a b c r CC:Int} {g:Gate} {A B C:List ab} {n:Nat} (hr:0≤r) (hC:1≤CC) (ha:4≤g.Op→0≤a∧a≤CC-1) (hb:4≤g.Op→g.Op≤7→0≤b∧b≤CC-1) (hc:0≤c∧c≤CC-1) (hk:g.Op=3→okF g.K)
 (hop:1≤g.Op∧g.Op≤8) (m:Mk3 r A B C CC n):
 Mk3 (syM a b c g r A B C).1 (syM a b c g r A B C).2.1 (syM a b c g r A B C).2.2.1 (syM a b c g r A B C).2.2.2 CC (n+2)∧r≤(syM a b c g r A B C).1∧(syM a b c g r A B C).1≤r+2:=by
 have one:(1:Int)≤1∧(1:Int)≤2130706432:=⟨by omega,by omega⟩
 have big:(1:Int)≤2130706432∧(2130706432:Int)≤2130706432:=⟨by omega,by omega⟩
 have c0:(0:Int)≤0∧(0:Int)≤CC-1:=⟨by omega,by omega⟩
 have mA:=m.a.up (r:=r) om
 have mB:=m.b.up (r:=r) om
 have mC:=m.c.up (r:=r) om
 have la:=m.la
 have lb:=m.lb
 have lc:=m.lc
 have nB:=cg mB hr c0 one
 have nC:=cg mC hr hc one
 have nB2:=cg (nB.1.up (r:=r+1) om) om c0 one
 have nC2:=cg (nC.1.up (r:=r+1) om) om hc one
 unfold syM
 by_cases h1:g.Op=1∨g.Op=2
 ·rw [if_pos h1];exact ⟨⟨m.a,m.b,m.c,by dsimp only;omega,by dsimp only;omega,by dsimp only;omega⟩,by dsimp only;omega,by dsimp only;omega⟩
 rw [if_neg h1]
 by_cases h6:g.Op=6
 ·have nA:=cg mA hr (ha om) one
  have nb:=cg mB hr (hb om om) one
  rw [if_pos h6];exact ⟨Mk3.of (n:=n+1) (by dsimp only;omega) nA.1 nb.1 nC.1 (by dsimp only;omega) (by dsimp only;omega) (by dsimp only;omega) om,by dsimp only;omega,by dsimp only;omega⟩
 rw [if_neg h6]
 by_cases h4:g.Op=4
 ·have nA:=cg mA hr (ha om) one
  have nA2:=cg nA.1 hr (hb om om) one
  rw [if_pos h4];exact ⟨Mk3.of (n:=n+2) (by dsimp only;omega) nA2.1 nB.1 nC.1 (by dsimp only;omega) (by dsimp only;omega) (by dsimp only;omega) om,by dsimp only;omega,by dsimp only;omega⟩
 rw [if_neg h4]
 by_cases h5:g.Op=5
 ·have nA:=cg mA hr (ha om) one
  have nA2:=cg nA.1 hr (hb om om) big
  rw [if_pos h5];exact ⟨Mk3.of (n:=n+2) (by dsimp only;omega) nA2.1 nB.1 nC.1 (by dsimp only;omega) (by dsimp only;omega) (by dsimp only;omega) om,by dsimp only;omega,by dsimp only;omega⟩
 rw [if_neg h5]
 by_cases h3:g.Op=3
 ·rw [if_pos h3]
  by_cases hK:g.K>0
  ·have nA:=cg mA hr c0 (v:=g.K) ⟨by omega,(hk h3).2⟩
   rw [if_pos hK];exact ⟨Mk3.of (n:=n+1) (by dsimp only;omega) nA.1 nB.1 nC.1 (by dsimp only;omega) (by dsimp only;omega) (by dsimp only;omega) om,by dsimp only;omega,by dsimp only;omega⟩
  ·rw [if_neg hK];exact ⟨Mk3.of (n:=n+1) (by dsimp only;omega) mA nB.1 nC.1 (by dsimp only;omega) (by dsimp only;omega) (by dsimp only;omega) om,by dsimp only;omega,by dsimp only;omega⟩
 rw [if_neg h3]
 by_cases h7:g.Op=7
 ·have nA:=cg mA hr (hb om om) one
  have nA2:=cg (nA.1.up (r:=r+1) om) om (ha om) one
  rw [if_pos h7];exact ⟨Mk3.of (n:=n+2) (by dsimp only;omega) nA2.1 nB2.1 nC2.1 (by dsimp only;omega) (by dsimp only;omega) (by dsimp only;omega) om,by dsimp only;omega,by dsimp only;omega⟩
 ·have nA:=cg mA hr (ha om) one
  have nA2:=cg (nA.1.up (r:=r+1) om) om (ha om) one
  have nb:=cg mB hr (ha om) one
  have nb2:=cg (nb.1.up (r:=r+1) om) om c0 one
  rw [if_neg h7];exact ⟨Mk3.of (n:=n+2) (by dsimp only;omega) nA2.1 nb2.1 nC2.1 (by dsimp only;omega) (by dsimp only;omega) (by dsimp only;omega) om,by dsimp only;omega,by dsimp only;omega⟩
end Go.AI.Fn
set_option linter.unusedVariables false
set_option linter.unusedSimpArgs false
namespace Go.AI.Fn
theorem Cg (l:List Gate) (k:Nat) (op:Int):bT l op≤bT (l.take k) op+(l.length-k):=by
 have h:bT l op=bT (l.take k) op+(l.drop k).countP (fun g=>g.Op==op):=by
  conv=>lhs;rw [←List.take_append_drop k l]
  simp only [bT,List.countP_append]
 have:=List.countP_le_length (p:=fun g:Gate=>g.Op==op) (l:=l.drop k)
 rw [List.length_drop] at this
 omega
theorem s9 (l:List Gate):2≤lgC l∧lgC l≤5:=FZ _
theorem zQ {n:Nat} (h:1≤n):((2^n:Nat):Int)=((2^(n-1):Nat):Int)+((2^(n-1):Nat):Int):=by
 obtain ⟨m,rfl⟩: ∃m,n=m+1:=⟨n-1,by omega⟩
 rw [Nat.add_sub_cancel,Nat.pow_succ];omega
theorem O1 {a b c:Int} (h:mx a b≤c):a≤c∧b≤c:=by
 unfold mx at h
 split at h<;>constructor<;>omega
theorem Ph {l:List Gate} (ok:OkC l):(bT l 2:Int)+1≤((2^(lgC l-1):Nat):Int)∧(l.length:Int)-(bT l 2:Int)≤((2^(lgC l-1):Nat):Int):=by
 have h1:=ok.n2
 have h2:=ok.p
 have h3:=jt l 2
 have h4:mx ((bT l 2:Int)+1) ((l.length:Int)-(bT l 2:Int))≤15:=by unfold mx;split<;>omega
 exact O1 (Kv h4)
theorem vG {l:List Gate} (ok:OkC l) {j:Nat} (hj:j<l.length):0≤yi l j∧yi l j≤((2^lgC l:Nat):Int)-1:=by
 have hf:=Ph ok
 have hg:=s9 l
 have hp:=zQ (n:=lgC l) om
 have h1:bT (l.take j) 2≤j:=by have:=jt (l.take j) 2;rw [List.length_take] at this;omega
 unfold yi
 rw [show l.getD j ⟨0,0,0,0⟩=l[j] by simp [hj]]
 split
 ·rename_i h
  have:=v7 hj h
  omega
 ·rename_i h
  have h2:=Cg l (j+1) 2
  rw [iI hj,iF,if_neg (by simpa using h)] at h2
  omega
theorem pq {l:List Gate} {n i:Nat} (hi:i<n):(cc l n).getD i 0=yi l i:=by
 simp [cc,hi]
def fdM (l:List Gate):Nat→Int×List ab×List ab×List ab
 |0=>(0,[],[],[])
 |j+1=>syM ((cc l l.length).getD (l.getD j ⟨0,0,0,0⟩).A.toNat 0) ((cc l l.length).getD (l.getD j ⟨0,0,0,0⟩).B.toNat 0) ((cc l l.length).getD j 0) (l.getD j ⟨0,0,0,0⟩) (fdM l j).1 (fdM l j).2.1 (fdM l j).2.2.1 (fdM l j).2.2.2
theorem pv {l:List Gate} (ok:OkC l): ∀j,j≤l.length→Mk3 (fdM l j).1 (fdM l j).2.1 (fdM l j).2.2.1 (fdM l j).2.2.2 ((2^lgC l:Nat):Int) (2*j)∧0≤(fdM l j).1∧(fdM l j).1≤2*j
 |0,_=>⟨⟨MkR.nil _ _,MkR.nil _ _,MkR.nil _ _,Nat.le_refl _,Nat.le_refl _,Nat.le_refl _⟩,Int.le_refl _,by simp [fdM]⟩
 |j+1,h=>by
  obtain ⟨m,h0,h1⟩:=pv ok j om
  have hj:j<l.length:=by omega
  have hd:l.getD j ⟨0,0,0,0⟩=l[j]:=by simp [hj]
  obtain ⟨g1,g2,g3,g4⟩:=vo (ok.g j hj)
  have hp:=vc (lgC l) (by have:=s9 l;omega)
  have hc: ∀a:Int,0≤a∧a≤(j:Int)-1→0≤(cc l l.length).getD a.toNat 0∧(cc l l.length).getD a.toNat 0≤((2^lgC l:Nat):Int)-1:=fun a ha=>by
   rw [pq om];exact vG ok om
  have hcj:0≤(cc l l.length).getD j 0∧(cc l l.length).getD j 0≤((2^lgC l:Nat):Int)-1:=by
   rw [pq hj];exact vG ok hj
  have:=QW (a:=(cc l l.length).getD l[j].A.toNat 0) (b:=(cc l l.length).getD l[j].B.toNat 0) (c:=(cc l l.length).getD j 0) (g:=l[j]) h0 om (fun h=>hc _ (g2 h)) (fun h h7=>hc _ (g3 h h7)) hcj g4 g1 m
  rw [fdM,hd]
  refine ⟨?_,by omega,by omega⟩
  have e:2*(j+1)=2*j+2:=by omega
  rw [e];exact this.1
def rlM (r:Int):Nat:=if r≤2 then 1 else if r≤4 then 2 else if r≤8 then 3 else if r≤16 then 4 else 5
def oa (l:List Gate):aQ:=⟨(rlM (fdM l l.length).1:Int),(lgC l:Int),(bT l 2:Int),(fdM l l.length).2.1,(fdM l l.length).2.2.1,(fdM l l.length).2.2.2⟩
theorem xc {r:Int} {step:Int→Option (Int⊕(Bool×Int))} (hr:r≤32) (hs: ∀k:Nat,1≤k→k≤5→step (k:Int)=if ((2^k:Nat):Int)<r then some (.inl ((k+1:Nat):Int)) else some (.inr (false,(k:Int)))):
 Loop step 1=some (false,(rlM r:Int)):=by
 have s1:=hs 1 om om
 have s2:=hs 2 om om
 have s3:=hs 3 om om
 have s4:=hs 4 om om
 have s5:=hs 5 om om
 simp only [Nat.reducePow,Nat.reduceAdd] at s1 s2 s3 s4 s5
 unfold rlM
 by_cases h1:r≤2
 ·rw [if_pos h1];rw [if_neg om] at s1;exact ce s1
 rw [if_neg h1];rw [if_pos om] at s1
 refine (cD s1).trans ?_
 by_cases h2:r≤4
 ·rw [if_pos h2];rw [if_neg om] at s2;exact ce s2
 rw [if_neg h2];rw [if_pos om] at s2
 refine (cD s2).trans ?_
 by_cases h3:r≤8
 ·rw [if_pos h3];rw [if_neg om] at s3;exact ce s3
 rw [if_neg h3];rw [if_pos om] at s3
 refine (cD s3).trans ?_
 by_cases h4:r≤16
 ·rw [if_pos h4];rw [if_neg om] at s4;exact ce s4
 rw [if_neg h4];rw [if_pos om] at s4
 refine (cD s4).trans ?_
 rw [if_neg om] at s5;exact ce s5
theorem rH {c:Circuit} (ok:OkC c.Gates):hO c=some (oa c.Gates):=by
 have hn:=ok.n2
 have hp:=vc (lgC c.Gates) (by have:=s9 c.Gates;omega)
 unfold hO
 rw [vv ok,obs,oj om,obs]
 dsimp only
 have key:=dJ (step:=bP (cc c.Gates c.Gates.length) c.Gates 0 0 0 0 (lgC c.Gates:Int) (bT c.Gates 2:Int)) (fun j=>((fdM c.Gates j).1,(j:Int),(fdM c.Gates j).2.1,(fdM c.Gates j).2.2.1,(fdM c.Gates j).2.2.2)) c.Gates.length
  (e:=((fdM c.Gates c.Gates.length).1,(c.Gates.length:Int),false,(fdM c.Gates c.Gates.length).2.1,(fdM c.Gates c.Gates.length).2.2.1,(fdM c.Gates c.Gates.length).2.2.2)) (fun j hj=> ?_) ?_
 ·have e0:Loop (bP (cc c.Gates c.Gates.length) c.Gates 0 0 0 0 (lgC c.Gates:Int) (bT c.Gates 2:Int)) (0,0,[],[],[])=_:=key
  rw [e0,obs]
  dsimp only
  have hr:=(pv ok c.Gates.length (Nat.le_refl _)).2
  rw [xc (r:=(fdM c.Gates c.Gates.length).1) om (fun k h1 h5=> ?_),obs]
  ·rfl
  ·simp only [eP]
   have e2:IntKind.wrap .i64 ((k:Int)+1)=((k+1:Nat):Int):=by rw [aj _ om om];omega
   rw [ol om,brd om,G9 om,e2]
   by_cases h:((2^k:Nat):Int)<(fdM c.Gates c.Gates.length).1
   ·rw [brd h,if_pos h]
   ·rw [brn h,if_neg h,decide_eq_false h]
 ·obtain ⟨m,h0,h1⟩:=pv ok j om
  have:=LH (c2:=0) (c3:=0) (c4:=0) (c5:=0) (c6:=(lgC c.Gates:Int)) (c7:=(bT c.Gates 2:Int)) (r:=(fdM c.Gates j).1) (CC:=((2^lgC c.Gates:Nat):Int)) (A:=(fdM c.Gates j).2.1) (B:=(fdM c.Gates j).2.2.1) (C:=(fdM c.Gates j).2.2.2) ok hj (nj c.Gates c.Gates.length) h0 om om
   (fun i hi=>by rw [pq hi];exact vG ok hi) (m.a.up om) (m.b.up om) (m.c.up om) (by have:=m.la;omega) (by have:=m.lb;omega) (by have:=m.lc;omega)
  have hd:c.Gates.getD j ⟨0,0,0,0⟩=c.Gates[j]:=by simp [hj]
  rw [this,fdM,hd]
 ·simp only [bP]
  rw [brn om,decide_eq_false om]
theorem tH {c:Circuit} (h:c.Gates.length≤1048576):gr c=some (if jJ c.Gates=true then (oa c.Gates,0) else (⟨0,0,0,[],[],[]⟩,19)):=by
 unfold gr
 rw [sN h,obs]
 by_cases hc:jJ c.Gates=true
 ·rw [hc,rH (sC hc)];rfl
 ·have:jJ c.Gates=false:=by simpa using hc
  rw [this];rfl
end Go.AI.Fn
set_option linter.unusedVariables false
set_option linter.unusedSimpArgs false
namespace Go.AI.Fn
def eT (e:ab):Tri:=(e.Row,e.Col,e.Value)
structure Rm (r:Int) (m:List Tri) (L:List ab):Prop where
 kd:db m=true
 lt: ∀t∈m,t.1<r
 eq:L.map eT=bk (m.filter nzT)
theorem Rm.nil (r:Int):Rm r [] []:=⟨rfl,(fun t h=>by cases h),(List.length_eq_zero_iff.1 (dc []).length_eq).symm⟩
theorem Rm.up {r r':Int} {m:List Tri} {L:List ab} (h:Rm r m L) (hr:r≤r'):Rm r' m L:=⟨h.kd,fun t ht=>by have:=h.lt t ht;omega,h.eq⟩
theorem Rm.row {r:Int} {m:List Tri} {L:List ab} (h:Rm r m L): ∀e∈L,e.Row<r:=fun e he=>by
 have:eT e∈bk (m.filter nzT):=by rw [←h.eq];exact List.mem_map.2 ⟨e,he,rfl⟩
 have:=(dc _).mem_iff.1 this
 exact h.lt _ (List.mem_filter.1 this).1
theorem DT {x y:Tri} (h:x.1≠y.1):mO x y=false:=by
 simp only [mO,decide_eq_false_iff_not];omega
theorem Rm.app {r:Int} {m N:List Tri} {L E:List ab} (h:Rm r m L) (hN: ∀t∈N,t.1=r) (hk:db N=true) (hE:(E.map eT).Perm (N.filter nzT)) (hs:(E.map eT).Pairwise (fun x y=>iR y x=false)):Rm (r+1) (m++N) (L++E):=by
 have hkd:db (m++N)=true:=by
  refine gu (List.pairwise_append.2 ⟨fc h.kd,fc hk,fun a ha b hb=>DT ?_⟩)
  have:=h.lt a ha;have:=hN b hb;omega
 refine ⟨hkd,fun t ht=> ?_, ?_⟩
 ·rcases List.mem_append.1 ht with ht|ht
  ·have:=h.lt t ht;omega
  ·have:=hN t ht;omega
 ·refine kH (gu ((fc hkd).filter _)) ?_ ?_
  ·rw [List.map_append,List.filter_append,h.eq]
   exact (dc _).append hE
  ·rw [List.map_append]
   refine List.pairwise_append.2 ⟨by rw [h.eq];exact kF _,hs,fun a ha b hb=> ?_⟩
   obtain ⟨e,he,rfl⟩:=List.mem_map.1 ha
   have h1:=h.row e he
   have h2:=hN b (List.mem_filter.1 (hE.mem_iff.1 hb)).1
   rw [jb]
   simp only [eT]
   omega
theorem mw {r c:Int}: ∀{m:List Tri},(∀t∈m,t.1<r)→bU r c m=0
 |[],_=>rfl
 | (x,y,v)::m,h=>by
   have h0:=h (x,y,v) (by simp)
   simp only at h0
   rw [bU,if_neg om];exact mw (fun t ht=>h t (by simp [ht]))
theorem ma {r c v:Int}: ∀{m:List Tri},(∀t∈m,t.1<r)→bW r c v m=m++[(r,c,v)]
 |[],_=>rfl
 | (x,y,u)::m,h=>by
   have h0:=h (x,y,u) (by simp)
   simp only at h0
   rw [bW,if_neg om,ma (fun t ht=>h t (by simp [ht]))];rfl
theorem sM {r c:Int} {N:List Tri}: ∀{m:List Tri},(∀t∈m,t.1<r)→bU r c (m++N)=bU r c N
 |[],_=>rfl
 | (x,y,v)::m,h=>by
   have h0:=h (x,y,v) (by simp)
   simp only at h0
   rw [List.cons_append,bU,if_neg om];exact sM (fun t ht=>h t (by simp [ht]))
theorem wX {r c v:Int} {N:List Tri}: ∀{m:List Tri},(∀t∈m,t.1<r)→bW r c v (m++N)=m++bW r c v N
 |[],_=>rfl
 | (x,y,u)::m,h=>by
   have h0:=h (x,y,u) (by simp)
   simp only at h0
   rw [List.cons_append,bW,if_neg om,wX (fun t ht=>h t (by simp [ht]))];rfl
theorem My {v:Int} (h:okF v):aF 0 v=v:=by
 unfold aF okF at*;omega
theorem vx {r c v:Int} {L:List ab} (h: ∀e∈L,e.Row<r):enM L r c v=L++[⟨r,c,v⟩]:=by
 unfold enM
 have: ∀R:List ab,(∀e∈R,e.Row<r)→enR r c v R=⟨r,c,v⟩::R:=by
  intro R hR
  cases R with
  |nil=>rfl
  |cons e R=>
   have:=hR e (by simp)
   have h1:enP r c e=false:=by
    simp only [enP,Bool.and_eq_false_iff,decide_eq_false_iff_not];omega
   rw [enR,if_neg (by rw [h1];simp),if_neg om]
 rw [this _ (fun e he=>h e (by simpa using he))]
 simp
theorem Lp {r c1 c2 v1 v2:Int} {L:List ab} (h: ∀e∈L,e.Row<r):enM (L++[⟨r,c1,v1⟩]) r c2 v2=
 if c1>c2 then L++[⟨r,c2,v2⟩,⟨r,c1,v1⟩] else if c1=c2 then (if aF v1 v2=0 then L else L++[⟨r,c2,aF v1 v2⟩]) else L++[⟨r,c1,v1⟩,⟨r,c2,v2⟩]:=by
 by_cases h1:c1>c2
 ·rw [if_pos h1,pJ (fun e he=>by simp at he;subst he;simp [enP];omega),vx h]
  simp
 ·rw [if_neg h1]
  unfold enM
  rw [List.reverse_append,List.reverse_singleton,List.singleton_append,enR,if_neg (by simp [enP];omega)]
  by_cases h2:c1=c2
  ·rw [if_pos ⟨rfl,h2⟩,if_pos h2]
   split<;>simp
  ·rw [if_neg (fun h=>h2 h.2),if_neg h2]
   simp
theorem RV {r c v:Int} (h:v≠0):nzT (r,c,v)=true:=by simp [nzT,h]
theorem FJ {r c v:Int} (h:v≠0):([(r,c,v)]:List Tri).filter nzT=[(r,c,v)]:=by rw [List.filter_cons,if_pos (RV h)];rfl
theorem MS {r c:Int}:([(r,c,0)]:List Tri).filter nzT=[]:=rfl
theorem Rm.one {r c v:Int} {m:List Tri} {L:List ab} (h:Rm r m L) (hv:v≠0):Rm (r+1) (bW r c v m) (enM L r c v):=by
 rw [ma h.lt,vx h.row]
 refine h.app (fun t ht=>by simp at ht;subst ht;rfl) rfl ?_ ?_
 ·rw [FJ hv];exact List.Perm.refl _
 ·simp
theorem Rm.add1 {r c v:Int} {m:List Tri} {L:List ab} (h:Rm r m L) (hv:1≤v∧v≤2130706432):Rm (r+1) (bW r c (aF (bU r c m) v) m) (enM L r c v):=by
 rw [mw h.lt,My ⟨by omega,hv.2⟩];exact h.one om
theorem Rm.add0 {r c:Int} {m:List Tri} {L:List ab} (h:Rm r m L):Rm (r+1) (bW r c (aF (bU r c m) 0) m) L:=by
 rw [mw h.lt,My ⟨by omega,by omega⟩,ma h.lt]
 have:=h.app (N:=[(r,c,0)]) (E:=[]) (fun t ht=>by simp at ht;subst ht;rfl) rfl (by rw [MS];exact List.Perm.refl _) (by simp)
 simpa using this
theorem Rm.add2 {r c1 c2 v1 v2:Int} {m:List Tri} {L:List ab} (h:Rm r m L) (h1:1≤v1∧v1≤2130706432) (h2:1≤v2∧v2≤2130706432):
 Rm (r+1) (bW r c2 (aF (bU r c2 (bW r c1 (aF (bU r c1 m) v1) m)) v2) (bW r c1 (aF (bU r c1 m) v1) m)) (enM (enM L r c1 v1) r c2 v2):=by
 rw [mw h.lt,My (v:=v1) ⟨by omega,h1.2⟩,ma h.lt,sM h.lt,wX h.lt,vx h.row,Lp h.row]
 by_cases hc:c1=c2
 ·subst hc
  rw [if_neg om,if_pos rfl]
  have e1:bU r c1 [(r,c1,v1)]=v1:=by simp [bU]
  have e2: ∀u,bW r c1 u [(r,c1,v1)]=[(r,c1,u)]:=fun u=>by simp [bW]
  rw [e1,e2]
  by_cases hz:aF v1 v2=0
  ·rw [if_pos hz,hz]
   have:=h.app (N:=[(r,c1,0)]) (E:=[]) (fun t ht=>by simp at ht;subst ht;rfl) rfl (by rw [MS];exact List.Perm.refl _) (by simp)
   simpa using this
  ·rw [if_neg hz]
   refine h.app (fun t ht=>by simp at ht;subst ht;rfl) rfl ?_ ?_
   ·rw [FJ hz];exact List.Perm.refl _
   ·simp
 ·have e1:bU r c2 [(r,c1,v1)]=0:=by simp [bU];omega
  have e2: ∀u,bW r c2 u [(r,c1,v1)]=[(r,c1,v1),(r,c2,u)]:=fun u=>by
   rw [bW,if_neg om];rfl
  rw [e1,e2,My ⟨by omega,h2.2⟩]
  have hN: ∀t∈([(r,c1,v1),(r,c2,v2)]:List Tri),t.1=r:=fun t ht=>by simp at ht;rcases ht with rfl|rfl<;>rfl
  have hk:db [(r,c1,v1),(r,c2,v2)]=true:=by simp [db,mO];omega
  have hf:([(r,c1,v1),(r,c2,v2)]:List Tri).filter nzT=[(r,c1,v1),(r,c2,v2)]:=by
   rw [List.filter_cons,if_pos (RV om),FJ om]
  by_cases hgt:c1>c2
  ·rw [if_pos hgt]
   refine h.app hN hk ?_ ?_
   ·rw [hf];exact List.Perm.swap _ _ _
   ·simp only [List.map_cons,List.map_nil,eT,List.pairwise_cons,List.mem_singleton,forall_eq,jb]
    refine ⟨by omega,by simp⟩
  ·rw [if_neg hgt,if_neg hc]
   refine h.app hN hk ?_ ?_
   ·rw [hf];exact List.Perm.refl _
   ·simp only [List.map_cons,List.map_nil,eT,List.pairwise_cons,List.mem_singleton,forall_eq,jb]
    refine ⟨by omega,by simp⟩
theorem dQ (r c v:Int): ∀m:List Tri,(bW r c v m).length≤m.length+1
 |[]=>by simp [bW]
 | (x,y,u)::m=>by
   rw [bW];split
   ·simp
   ·have:=dQ r c v m;simp;omega
theorem vI {r c:Int} {m:List Tri} (h: ∀t∈m,t.1<r):okF (bU r c m):=by rw [mw h];exact ⟨by omega,by omega⟩
theorem Rm.ent {r:Int} {m:List Tri} {L:List ab} (h:Rm r m L) (hl:m.length<1073741824):gy m=some (L,m):=by
 unfold gy
 rw [h.kd,Bool.true_and,brd hl, ←h.eq]
 have:(L.map eT).map jo=L:=by
  rw [List.map_map]
  have: ∀e∈L,(jo∘eT) e=e:=fun e _=>rfl
  rw [List.map_congr_left this];simp
 rw [this]
end Go.AI.Fn
set_option linter.unusedVariables false
set_option linter.unusedSimpArgs false
namespace Go.AI.Fn
theorem q7 {g:Gate} {k:Int} (h0:0≤k) (h1:k≤1048576):mi g k=some (fE g k):=by
 unfold mi fE
 simp only [MW,vr,obs]
 rw [aj (k-1) om om]
 obtain ⟨op,a,b,c⟩:=g
 dsimp only
 generalize decide (0≤a∧a≤k-1)=x
 generalize decide (0≤b∧b≤k-1)=y
 generalize DB c=z
 generalize (a==0)=za
 generalize (b==0)=zb
 generalize (c==0)=zc
 have hop:op=3∨op=4∨op=5∨op=6∨op=7∨op=8∨(op≠3∧op≠4∧op≠5∧op≠6∧op≠7∧op≠8):=by omega
 rcases hop with rfl|rfl|rfl|rfl|rfl|rfl|⟨h3,h4,h5,h6,h7,h8⟩
 ·cases x<;>cases y<;>cases z<;>cases za<;>cases zb<;>cases zc<;>rfl
 ·cases x<;>cases y<;>cases z<;>cases za<;>cases zb<;>cases zc<;>rfl
 ·cases x<;>cases y<;>cases z<;>cases za<;>cases zb<;>cases zc<;>rfl
 ·cases x<;>cases y<;>cases z<;>cases za<;>cases zb<;>cases zc<;>rfl
 ·cases x<;>cases y<;>cases z<;>cases za<;>cases zb<;>cases zc<;>rfl
 ·cases x<;>cases y<;>cases z<;>cases za<;>cases zb<;>cases zc<;>rfl
 ·have hu:jP op=0:=by unfold jP;rw [if_neg om,if_neg h8]
  have e3:(op==3)=false:=by simpa using h3
  have e4:(op==4)=false:=by simpa using h4
  have e5:(op==5)=false:=by simpa using h5
  have e6:(op==6)=false:=by simpa using h6
  have e7:(op==7)=false:=by simpa using h7
  have e8:(op==8)=false:=by simpa using h8
  rw [hu,e3,e4,e5,e6,e7,e8]
  generalize decide (1≤op∧op≤8)=o
  cases o<;>cases za<;>cases zb<;>cases zc<;>rfl
theorem rp {c:Circuit} {op:Int} (h:c.Gates.length≤1048576):bZ c op=some (bT c.Gates op:Int):=by
 unfold bZ
 have key:=dJ (step:=bw op c.Gates (c.Gates.length:Int) c.Gates) (fun j=>((bT (c.Gates.take j) op:Int),(j:Int))) c.Gates.length (e:=((bT c.Gates op:Int),(c.Gates.length:Int),false)) (fun j hj=> ?_) ?_
 ·rw [show ((0:Int),(0:Int))=((bT (c.Gates.take 0) op:Int),((0:Nat):Int)) from rfl,key];rfl
 ·have hle:=jt (c.Gates.take j) op
  rw [List.length_take] at hle
  simp only [bw]
  rw [brd om,dh hj,obs,iI hj,iF]
  cases hb:(c.Gates[j].Op==op)
  ·rw [aX,if_neg (by simp),aj _ om om];simp
  ·rw [bH,if_pos rfl,aj _ om om,aj _ om om];simp
 ·simp only [bw]
  rw [brn om,decide_eq_false om,List.take_length]
theorem su {c:Circuit} (h:c.Gates.length≤1048576):hU c=some (jJ c.Gates):=by
 unfold hU jJ
 rw [MW,obs]
 by_cases h1:1≤c.Gates.length∧c.Gates.length≤15
 ·rw [decide_eq_true om,decide_eq_true h1,Bool.not_true,aX,Bool.true_and]
  have key:=xS (step:=bA c.Gates (c.Gates.length:Int) c.Gates) (fun k=>(k:Int)) c.Gates.length (fun k=>((c.Gates[k]?.map fun g=>fE g (k:Int)).getD false)) (fun k=> .inl ((c.Gates.getD k ⟨0,0,0,0⟩).Op,(c.Gates.getD k ⟨0,0,0,0⟩).A,(c.Gates.getD k ⟨0,0,0,0⟩).B,(c.Gates.getD k ⟨0,0,0,0⟩).K)) (e:= .inr ((c.Gates.length:Int),false)) (fun k hk hp=>by
   have hb:fE c.Gates[k] (k:Int)=true:=by simpa [hk] using hp
   simp only [bA]
   rw [brd om,dh hk,obs,q7 om om,obs,hb,Bool.not_true,aX,aj _ om om];rfl)
   (fun k hk hp=>by
    have hb:fE c.Gates[k] (k:Int)=false:=by simpa [hk] using hp
    have hd:c.Gates.getD k ⟨0,0,0,0⟩=c.Gates[k]:=by simp [hk]
    simp only [bA]
    rw [brd om,dh hk,obs,q7 om om,obs,hb,Bool.not_false,bH,hd])
   (by simp only [bA];rw [brn om,decide_eq_false om])
  rcases key with ⟨h2,h3⟩|⟨k,hk,h2,_,h3⟩
  ·have e:Loop (bA c.Gates (c.Gates.length:Int) c.Gates) 0=some (.inr ((c.Gates.length:Int),false)):=h3
   have ha:(List.range c.Gates.length).all (fun k=>((c.Gates[k]?.map fun g=>fE g (k:Int)).getD false))=true:=List.all_eq_true.2 fun k hk=>h2 k (List.mem_range.1 hk)
   rw [e,ha,obs,qW,rp h,obs,Bool.true_and]
  ·have e:Loop (bA c.Gates (c.Gates.length:Int) c.Gates) 0=some (.inl _):=h3
   have ha:(List.range c.Gates.length).all (fun k=>((c.Gates[k]?.map fun g=>fE g (k:Int)).getD false))=false:=List.all_eq_false.2 ⟨k,List.mem_range.2 hk,by rw [h2];simp⟩
   rw [e,ha,obs,rd,Bool.false_and]
 ·rw [decide_eq_false om,decide_eq_false h1,Bool.not_false,bH,Bool.false_and]
theorem Bb {c v a2 a3 r:Int} {mA mB mC:List Tri} (h0:0≤r) (h1:r≤1000) (hm:okF (bU r c mA)) (hv:okF v):
 b8 [(c,v)] a2 a3 r mA mB mC=some (r+1,bW r c (aF (bU r c mA) v) mA,bW r a2 1 mB,bW r a3 1 mC):=by
 unfold b8
 have s1:aO mB mC a2 a3 [(c,v)] (([(c,v)]:List (Int×Int)).length:Int) r (mA,0)=some (.inl (bW r c (aF (bU r c mA) v) mA,1)):=by
  simp only [aO]
  rw [brd (by simp)]
  show (Option.bind (some (c,v)) _)=_
  rw [obs,sW hm hv,obs,aj _ om om];rfl
 have s2:aO mB mC a2 a3 [(c,v)] (([(c,v)]:List (Int×Int)).length:Int) r (bW r c (aF (bU r c mA) v) mA,1)=some (.inr (bW r c (aF (bU r c mA) v) mA,1,false)):=by
  simp only [aO]
  rw [brn (by simp),decide_eq_false (by simp)]
 rw [cD s1,ce s2,obs,aj _ om om]
theorem KW {c1 v1 c2 v2 a2 a3 r:Int} {mA mB mC:List Tri} (h0:0≤r) (h1:r≤1000) (hm:okF (bU r c1 mA)) (hv1:okF v1) (hm2:okF (bU r c2 (bW r c1 (aF (bU r c1 mA) v1) mA))) (hv2:okF v2):
 b8 [(c1,v1),(c2,v2)] a2 a3 r mA mB mC=some (r+1,bW r c2 (aF (bU r c2 (bW r c1 (aF (bU r c1 mA) v1) mA)) v2) (bW r c1 (aF (bU r c1 mA) v1) mA),bW r a2 1 mB,bW r a3 1 mC):=by
 unfold b8
 have s1:aO mB mC a2 a3 [(c1,v1),(c2,v2)] (([(c1,v1),(c2,v2)]:List (Int×Int)).length:Int) r (mA,0)=some (.inl (bW r c1 (aF (bU r c1 mA) v1) mA,1)):=by
  simp only [aO]
  rw [brd (by simp)]
  show (Option.bind (some (c1,v1)) _)=_
  rw [obs,sW hm hv1,obs,aj _ om om];rfl
 generalize bW r c1 (aF (bU r c1 mA) v1) mA=m1 at*
 have s2:aO mB mC a2 a3 [(c1,v1),(c2,v2)] (([(c1,v1),(c2,v2)]:List (Int×Int)).length:Int) r (m1,1)=some (.inl (bW r c2 (aF (bU r c2 m1) v2) m1,2)):=by
  simp only [aO]
  rw [brd (by simp)]
  show (Option.bind (some (c2,v2)) _)=_
  rw [obs,sW hm2 hv2,obs,aj _ om om];rfl
 have s3:aO mB mC a2 a3 [(c1,v1),(c2,v2)] (([(c1,v1),(c2,v2)]:List (Int×Int)).length:Int) r (bW r c2 (aF (bU r c2 m1) v2) m1,2)=some (.inr (bW r c2 (aF (bU r c2 m1) v2) m1,2,false)):=by
  simp only [aO]
  rw [brn (by simp),decide_eq_false (by simp)]
 rw [cD s1,cD s2,ce s3,obs,aj _ om om]
theorem yc {r c1 c2 u:Int} {m:List Tri} (h: ∀t∈m,t.1<r) (hu:okF u):okF (bU r c2 (bW r c1 u m)):=by
 rw [ma h,sM h]
 by_cases hc:c1=c2
 ·have:bU r c2 [(r,c1,u)]=u:=by simp [bU,hc]
  rw [this];exact hu
 ·have:bU r c2 [(r,c1,u)]=0:=by simp [bU];exact fun e=>absurd e.symm hc
  rw [this];exact ⟨by omega,by omega⟩
structure R3 (r:Int) (mA mB mC:List Tri) (A B C:List ab) (n:Nat):Prop where
 a:Rm r mA A
 b:Rm r mB B
 c:Rm r mC C
 la:mA.length≤n
 lb:mB.length≤n
 lc:mC.length≤n
theorem n8 {c v a2 a3 r:Int} {mA mB mC:List Tri} {A B C:List ab} {n:Nat} (h0:0≤r) (h1:r≤1000) (hv:1≤v∧v≤2130706432) (h:R3 r mA mB mC A B C n):
 ∃mA' mB' mC',b8 [(c,v)] a2 a3 r mA mB mC=some (r+1,mA',mB',mC')∧R3 (r+1) mA' mB' mC' (enM A r c v) (enM B r a2 1) (enM C r a3 1) (n+1):=
 ⟨_,_,_,Bb h0 h1 (vI h.a.lt) ⟨by omega,hv.2⟩,h.a.add1 hv,h.b.one om,h.c.one om,by have:=dQ r c (aF (bU r c mA) v) mA;have:=h.la;omega,by have:=dQ r a2 1 mB;have:=h.lb;omega,by have:=dQ r a3 1 mC;have:=h.lc;omega⟩
theorem Lc {c a2 a3 r:Int} {mA mB mC:List Tri} {A B C:List ab} {n:Nat} (h0:0≤r) (h1:r≤1000) (h:R3 r mA mB mC A B C n):
 ∃mA' mB' mC',b8 [(c,0)] a2 a3 r mA mB mC=some (r+1,mA',mB',mC')∧R3 (r+1) mA' mB' mC' A (enM B r a2 1) (enM C r a3 1) (n+1):=
 ⟨_,_,_,Bb h0 h1 (vI h.a.lt) ⟨by omega,by omega⟩,h.a.add0,h.b.one om,h.c.one om,by have:=dQ r c (aF (bU r c mA) 0) mA;have:=h.la;omega,by have:=dQ r a2 1 mB;have:=h.lb;omega,by have:=dQ r a3 1 mC;have:=h.lc;omega⟩
theorem Bz {c1 v1 c2 v2 a2 a3 r:Int} {mA mB mC:List Tri} {A B C:List ab} {n:Nat} (h0:0≤r) (h1:r≤1000) (hv1:1≤v1∧v1≤2130706432) (hv2:1≤v2∧v2≤2130706432) (h:R3 r mA mB mC A B C n):
 ∃mA' mB' mC',b8 [(c1,v1),(c2,v2)] a2 a3 r mA mB mC=some (r+1,mA',mB',mC')∧R3 (r+1) mA' mB' mC' (enM (enM A r c1 v1) r c2 v2) (enM B r a2 1) (enM C r a3 1) (n+2):=
 ⟨_,_,_,KW h0 h1 (vI h.a.lt) ⟨by omega,hv1.2⟩ (yc h.a.lt (N0 _ _)) ⟨by omega,hv2.2⟩,h.a.add2 hv1 hv2,h.b.one om,h.c.one om,by
   have:=dQ r c1 (aF (bU r c1 mA) v1) mA
   have:=dQ r c2 (aF (bU r c2 (bW r c1 (aF (bU r c1 mA) v1) mA)) v2) (bW r c1 (aF (bU r c1 mA) v1) mA)
   have:=h.la;omega,by have:=dQ r a2 1 mB;have:=h.lb;omega,by have:=dQ r a3 1 mC;have:=h.lc;omega⟩
theorem R3.up {r:Int} {mA mB mC:List Tri} {A B C:List ab} {n m:Nat} (h:R3 r mA mB mC A B C n) (hn:n≤m):R3 r mA mB mC A B C m:=⟨h.a,h.b,h.c,by have:=h.la;omega,by have:=h.lb;omega,by have:=h.lc;omega⟩
theorem i9 {t:List Int} {p v:Int} (h:0≤p∧p<t.length):b6 p v t=some [(t.getD p.toNat 0,v)]:=by
 unfold b6
 obtain ⟨k,rfl⟩: ∃k:Nat,p=k:=⟨p.toNat,by omega⟩
 rw [pf om,obs,Int.toNat_natCast]
theorem MZ {t:List Int} {p:Int} (h:0≤p∧p<t.length):atL t p=some (t.getD p.toNat 0):=by
 obtain ⟨k,rfl⟩: ∃k:Nat,p=k:=⟨p.toNat,by omega⟩
 rw [pf om,Int.toNat_natCast]
theorem CT {t:List Int} {g:Gate} {k c r:Int} {mA mB mC:List Tri} {A B C:List ab} {n:Nat} (hg:fE g k=true) (hk:k<t.length) (h0:0≤r) (h1:r≤100) (h:R3 r mA mB mC A B C n):
 ∃mA' mB' mC',fQ g c t r mA mB mC=some ((syM (t.getD g.A.toNat 0) (t.getD g.B.toNat 0) c g r A B C).1,mA',mB',mC')∧
  R3 (syM (t.getD g.A.toNat 0) (t.getD g.B.toNat 0) c g r A B C).1 mA' mB' mC' (syM (t.getD g.A.toNat 0) (t.getD g.B.toNat 0) c g r A B C).2.1 (syM (t.getD g.A.toNat 0) (t.getD g.B.toNat 0) c g r A B C).2.2.1 (syM (t.getD g.A.toNat 0) (t.getD g.B.toNat 0) c g r A B C).2.2.2 (n+2):=by
 obtain ⟨g1,g2,g3,g4⟩:=vo hg
 have one:(1:Int)≤1∧(1:Int)≤2130706432:=⟨by omega,by omega⟩
 have big:(1:Int)≤2130706432∧(2130706432:Int)≤2130706432:=⟨by omega,by omega⟩
 unfold fQ
 have hop:g.Op=1∨g.Op=2∨g.Op=3∨g.Op=4∨g.Op=5∨g.Op=6∨g.Op=7∨g.Op=8:=by omega
 rcases hop with e|e|e|e|e|e|e|e
 ·rw [ee om,ee om,ee om,ee om,ee om,ee om]
  simp only [syM,e]
  exact ⟨_,_,_,rfl,h.up om⟩
 ·rw [ee om,ee om,ee om,ee om,ee om,ee om]
  simp only [syM,e]
  exact ⟨_,_,_,rfl,h.up om⟩
 ·have hk3:=g4 e
  rw [bre e]
  by_cases hp:g.K>0
  ·obtain ⟨x,y,z,e1,e2⟩:=n8 (c:=0) (v:=g.K) (a2:=0) (a3:=c) h0 om ⟨by omega,hk3.2⟩ h
   rw [e1,obs]
   simp only [syM,e,if_pos hp]
   exact ⟨_,_,_,rfl,e2.up om⟩
  ·have hz:g.K=0:=by have:=hk3.1;omega
   obtain ⟨x,y,z,e1,e2⟩:=Lc (c:=0) (a2:=0) (a3:=c) h0 om h
   rw [hz,e1,obs]
   simp only [syM,e,if_neg hp]
   exact ⟨_,_,_,rfl,e2.up om⟩
 ·have a:=g2 om
  have b:=g3 om om
  rw [ee om,bre e,i9 om,obs,i9 om,obs,dU (by simp)]
  obtain ⟨x,y,z,e1,e2⟩:=Bz (c1:=t.getD g.A.toNat 0) (v1:=1) (c2:=t.getD g.B.toNat 0) (v2:=1) (a2:=0) (a3:=c) h0 om one one h
  rw [List.singleton_append,e1,obs]
  simp only [syM,e]
  exact ⟨_,_,_,rfl,e2⟩
 ·have a:=g2 om
  have b:=g3 om om
  rw [ee om,ee om,bre e,i9 om,obs,i9 om,obs,dU (by simp)]
  obtain ⟨x,y,z,e1,e2⟩:=Bz (c1:=t.getD g.A.toNat 0) (v1:=1) (c2:=t.getD g.B.toNat 0) (v2:=2130706432) (a2:=0) (a3:=c) h0 om one big h
  rw [List.singleton_append,e1,obs]
  simp only [syM,e]
  exact ⟨_,_,_,rfl,e2⟩
 ·have a:=g2 om
  have b:=g3 om om
  rw [ee om,ee om,ee om,bre e,i9 om,obs,MZ om,obs]
  obtain ⟨x,y,z,e1,e2⟩:=n8 (c:=t.getD g.A.toNat 0) (v:=1) (a2:=t.getD g.B.toNat 0) (a3:=c) h0 om one h
  rw [e1,obs]
  simp only [syM,e]
  exact ⟨_,_,_,rfl,e2.up om⟩
 ·have a:=g2 om
  have b:=g3 om om
  rw [ee om,ee om,ee om,ee om,bre e,i9 om,obs]
  obtain ⟨x,y,z,e1,e2⟩:=n8 (c:=t.getD g.B.toNat 0) (v:=1) (a2:=0) (a3:=c) h0 om one h
  obtain ⟨x',y',z',e3,e4⟩:=n8 (c:=t.getD g.A.toNat 0) (v:=1) (a2:=0) (a3:=c) om om one e2
  rw [e1,obs,i9 om,obs,e3,obs]
  simp only [syM,e]
  exact ⟨_,_,_,rfl,e4⟩
 ·have a:=g2 om
  rw [ee om,ee om,ee om,ee om,ee om,bre e,i9 om,obs,MZ om,obs]
  obtain ⟨x,y,z,e1,e2⟩:=n8 (c:=t.getD g.A.toNat 0) (v:=1) (a2:=t.getD g.A.toNat 0) (a3:=c) h0 om one h
  obtain ⟨x',y',z',e3,e4⟩:=n8 (c:=t.getD g.A.toNat 0) (v:=1) (a2:=0) (a3:=c) om om one e2
  rw [e1,obs,obs,e3,obs]
  simp only [syM,e]
  exact ⟨_,_,_,rfl,e4⟩
end Go.AI.Fn
set_option linter.unusedVariables false
set_option linter.unusedSimpArgs false
namespace Go.AI.Fn
theorem Pa {a:List Gate} {left:Int} (ha:a.length≤9223372036854775807) (h0: -1≤left) (h1:left≤1048576):
 ∃r,jV a left=some r∧ -1≤r∧r≤1048576∧(0≤r→a.length≤1048576):=by
 unfold jV
 rw [aj _ om om]
 by_cases c:left-(a.length:Int)<0
 ·rw [brd c];exact ⟨_,rfl,by omega,by omega,by omega⟩
 ·rw [brn c];exact ⟨_,rfl,by omega,by omega,by omega⟩
theorem Qc {a:Circuit} {left:Int} (ha:a.Gates.length≤9223372036854775807) (h0: -1≤left) (h1:left≤1048576):
 ∃r,i5 a left=some r∧ -1≤r∧r≤1048576∧(0≤r→a.Gates.length≤1048576):=by
 unfold i5
 obtain ⟨b,eb,b0,b1,b2⟩:=Pa ha h0 h1
 rw [eb,obs]
 by_cases cb:b<0
 ·rw [brd cb];exact ⟨_,rfl,by omega,by omega,by omega⟩
 rw [brn cb]
 exact ⟨_,rfl,b0,b1,b2⟩
theorem PD {a:List Gate} (ha:a.length≤1048576):k9 a=some a:=by
 unfold k9
 have hm:Ay ((a.length:Nat):Int) ((a.length:Nat):Int) 32=true:=by
  have h24:((a.length:Nat):Int)*((32:Nat):Int)≤((aK:Nat):Int):=by simp only [aK];omega
  unfold Ay;rw [decide_eq_true (show (0:Int)≤((a.length:Nat):Int) by omega),decide_eq_true (Int.le_refl _),decide_eq_true h24];rfl
 rw [xp hm]
 have key:=oo (step:=eG a) (fun s=>0≤s.2∧s.2≤a.length∧s.1.length=a.length∧ ∀k:Nat,(k:Int)<s.2→s.1[k]? =a[k]?) (fun s=>(a.length-s.2).toNat)
  (fun e=>e.1=a) ?_ ((List.replicate (((a.length:Nat):Int).toNat) (Gate.mk (0:Int) (0:Int) (0:Int) (0:Int))),(0:Int)) ⟨by simp,by simp,by simp,fun k (hk:(k:Int)<0)=>by omega⟩
 ·obtain ⟨e,he,h⟩:=key
  rw [he];simp only [obs,h]
 ·rintro ⟨l,i⟩ ⟨h0,h1,hl,h2⟩
  dsimp only at h0 h1 hl h2
  simp only [eG]
  by_cases c:i<(a.length:Int)
  ·obtain ⟨x,rest,e1,e2,e3⟩:=mX (l:=a) (i:=i.toNat) om
   obtain ⟨y,rest2,f1,f2,f3⟩:=mX (l:=l) (i:=i.toNat) om
   rw [brd c,w9 h0 e3]
   simp only [obs,oJ]
   rw [brd h0,brd om,f3]
   simp only [obs]
   rw [aj (i+1) om om]
   refine .inl ⟨_,rfl,⟨by dsimp only;omega,by dsimp only;omega,by simp [hl],fun k hk=> ?_⟩,by dsimp only;omega⟩
   dsimp only at hk ⊢
   rw [List.getElem?_set]
   by_cases e:i.toNat=k
   ·rw [if_pos e,if_pos om, ←e,e3]
   ·rw [if_neg e];exact h2 k om
  ·rw [brn c]
   refine .inr ⟨_,rfl, ?_⟩
   apply List.ext_getElem?
   intro k
   show l[k]? =a[k]?
   by_cases hk:k<a.length
   ·exact h2 k om
   ·rw [List.getElem?_eq_none om,List.getElem?_eq_none om]
theorem OI {a:List Gate} (ha:a.length≤1048576):km a a=some true:=by
 unfold km
 rw [jv rfl]
 have key:=oo (step:=eC a a) (fun t=>0≤t∧t≤a.length) (fun t=>(a.length-t).toNat) (fun e=> ∃p,e= .inr p) ?_ 0 ⟨by omega,by omega⟩
 ·obtain ⟨e,he,p,rfl⟩:=key
  rw [he];rfl
 ·intro t ⟨h0,h1⟩
  simp only [eC]
  by_cases c:t<(a.length:Int)
  ·left
   obtain ⟨x,r,e1,e2,e3⟩:=mX (l:=a) (i:=t.toNat) om
   rw [brd c,w9 h0 e3]
   simp only [obs,oR]
   rw [jv rfl,jv rfl,jv rfl,jv rfl]
   simp only [obs,Bool.not_true,aX]
   rw [aj (t+1) om om]
   exact ⟨_,rfl,⟨by omega,by omega⟩,by omega⟩
  ·right
   rw [brn c]
   exact ⟨_,rfl,_,rfl⟩
theorem PV {c:Circuit} (h:c.Gates.length≤1048576):hG c c=some true:=by
 unfold hG
 rw [OI h];rfl
theorem LA {c:Circuit} (h:c.Gates.length≤1048576):cE c=some c.Gates:=by
 unfold cE
 rw [PD h];rfl
end Go.AI.Fn
set_option linter.unusedVariables false
set_option linter.unusedSimpArgs false
namespace Go.AI.Fn
theorem jq {α:Type} {x y:α} {B:List α}: ∀{A:List α} {j:Nat},A.length=j→(A++x::B).set j y=A++y::B
 |[],j,h=>by subst h;rfl
 |a::A,j,h=>by subst h;simp only [List.cons_append,List.length_cons,List.set_cons_succ,jq rfl]
theorem kB {α:Type} {x:α} {B A:List α} {j:Nat} (h:A.length=j):(A++x::B)[j]? =some x:=by
 subst h;simp
def mkT (k:Int) (n:Nat):List ab:=(List.range n).map fun (j:Nat)=>⟨k+3*(j:Int),k+3*(j:Int)+1,k+3*(j:Int)+1+1⟩
theorem fw (k:Int) (n:Nat):(mkT k n).length=n:=by simp [mkT]
theorem GB (k:Int) (n:Nat):mkT k (n+1)=mkT k n++[⟨k+3*n,k+3*n+1,k+3*n+1+1⟩]:=by simp [mkT,List.range_succ]
theorem B8 {α:Type} {l:List α} {j:Nat} (h:j<l.length):l.drop j=l[j]::l.drop (j+1):=List.drop_eq_getElem_cons h
theorem se {k:Int} {l:List ab} (h0:0≤k) (h1:k≤1000000000000) (hl:l.length≤1048576):cr k l=some (k+3*l.length,mkT k l.length):=by
 unfold cr
 have key:Loop bC (l,k,0)=some (mkT k l.length,k+3*l.length,(l.length:Int),false):=by
  have:=dJ (step:=bC) (fun j=>(mkT k j++l.drop j,k+3*j,(j:Int))) l.length (e:=(mkT k l.length,k+3*l.length,(l.length:Int),false)) (fun j hj=> ?_) ?_
  ·simpa [mkT] using this
  ·have hn:(mkT k j++l.drop j).length=l.length:=by rw [List.length_append,fw,List.length_drop];omega
   simp only [bC]
   rw [hn,brd om,brd om,brd om,B8 hj,Int.toNat_natCast,kB (fw k j),obs,brd om,brd om,jq (fw k j),kB (fw k j),obs,brd om,brd om,jq (fw k j),kB (fw k j),obs,jq (fw k j),aj _ om om,aj _ om om,aj _ om om,aj _ om om,GB,List.append_assoc]
   have:k+3*(j:Int)+1+1+1=k+3*((j+1:Nat):Int):=by omega
   rw [this];rfl
  ·have hn:(mkT k l.length++l.drop l.length).length=l.length:=by rw [List.length_append,fw,List.length_drop];omega
   simp only [bC]
   rw [hn,brn om,decide_eq_false om,List.drop_length,List.append_nil]
 rw [key];rfl
end Go.AI.Fn
set_option linter.unusedVariables false
set_option linter.unusedSimpArgs false
namespace Go.AI.Fn
def mkG (k:Int) (n:Nat):List Gate:=(List.range n).map fun (j:Nat)=>⟨k+4*(j:Int),k+4*(j:Int)+1,k+4*(j:Int)+1+1,k+4*(j:Int)+1+1+1⟩
theorem gN (k:Int) (n:Nat):(mkG k n).length=n:=by simp [mkG]
theorem Hd (k:Int) (n:Nat):mkG k (n+1)=mkG k n++[⟨k+4*n,k+4*n+1,k+4*n+1+1,k+4*n+1+1+1⟩]:=by simp [mkG,List.range_succ]
theorem Qb (k:Int) {n j:Nat} (h:j<n):(mkT k n)[j]'(by rw [fw];exact h)=⟨k+3*j,k+3*j+1,k+3*j+1+1⟩:=by simp [mkT]
theorem Fv {k:Int} {l:List Gate} (h0:0≤k) (h1:k≤1000000000000) (hl:l.length≤1048576):ey k l=some (k+4*l.length,mkG k l.length):=by
 unfold ey
 have key:Loop bM (l,k,0)=some (mkG k l.length,k+4*l.length,(l.length:Int),false):=by
  have:=dJ (step:=bM) (fun j=>(mkG k j++l.drop j,k+4*j,(j:Int))) l.length (e:=(mkG k l.length,k+4*l.length,(l.length:Int),false)) (fun j hj=> ?_) ?_
  ·simpa [mkG] using this
  ·have hn:(mkG k j++l.drop j).length=l.length:=by rw [List.length_append,gN,List.length_drop];omega
   simp only [bM]
   rw [hn,brd om,brd om,brd om,B8 hj,Int.toNat_natCast,kB (gN k j),obs,brd om,brd om,jq (gN k j),kB (gN k j),obs,brd om,brd om,jq (gN k j),kB (gN k j),obs,brd om,brd om,jq (gN k j),kB (gN k j),obs,jq (gN k j),aj (k+4*(j:Int)+1) om om,aj (k+4*(j:Int)+1+1) om om,aj (k+4*(j:Int)+1+1+1) om om,aj _ om om,aj _ om om,Hd,List.append_assoc]
   have:k+4*(j:Int)+1+1+1+1=k+4*((j+1:Nat):Int):=by omega
   rw [this];rfl
  ·have hn:(mkG k l.length++l.drop l.length).length=l.length:=by rw [List.length_append,gN,List.length_drop];omega
   simp only [bM]
   rw [hn,brn om,decide_eq_false om,List.drop_length,List.append_nil]
 rw [key];rfl
theorem F7 {k:Int} {l:List Gate} (h0:0≤k) (h1:k≤1000000000000) (hl:l.length≤1048576):eH k l=some (k+4*l.length,mkG k l.length):=by
 unfold eH
 rw [Fv h0 h1 hl];rfl
theorem sD {k:Int} {n:Nat} (h0:0≤k) (h1:k≤1000000000000) (hl:n≤1048576):dm (mkT k n) k=some (k+3*n):=by
 unfold dm
 have hn:=fw k n
 have key:Loop (bV (mkT k n)) (k,0)=some (.inr (k+3*n,(n:Int),false)):=by
  have:=dJ (step:=bV (mkT k n)) (fun j=>(k+3*j,(j:Int))) n (e:= .inr (k+3*n,(n:Int),false)) (fun j hj=> ?_) ?_
  ·simpa using this
  ·simp only [bV]
   rw [hn,brd om,dh om,obs,Qb k hj,jv rfl,obs,aj _ om om,jv rfl,obs,aj _ om om,jv rfl,aj _ om om,aj _ om om]
   have:k+3*(j:Int)+1+1+1=k+3*((j+1:Nat):Int):=by omega
   rw [this];rfl
  ·simp only [bV]
   rw [hn,brn om,decide_eq_false om]
 rw [key];rfl
theorem zY {a b c:Int} {A B C:List ab} {k:Int} (h0:0≤k) (h1:k≤1000000) (hA:A.length≤1048576) (hB:B.length≤1048576) (hC:C.length≤1048576):
 fD a b c k A B C=some (k+3*A.length+3*B.length+3*C.length,mkT k A.length,mkT (k+3*A.length) B.length,mkT (k+3*A.length+3*B.length) C.length):=by
 unfold fD
 rw [se h0 om hA,obs,se (by dsimp only;omega) (by dsimp only;omega) hB,obs,se (by dsimp only;omega) (by dsimp only;omega) hC,obs]
theorem zs {a b c:Int} {nA nB nC:Nat} {k:Int} (h0:0≤k) (h1:k≤1000000) (hA:nA≤1048576) (hB:nB≤1048576) (hC:nC≤1048576):
 ea ⟨a,b,c,mkT k nA,mkT (k+3*nA) nB,mkT (k+3*nA+3*nB) nC⟩ k=some (k+3*nA+3*nB+3*nC):=by
 unfold ea
 dsimp only
 rw [sD h0 om hA,obs,brn om,sD om om hB,obs,brn om,sD om om hC,obs,brn om]
end Go.AI.Fn
set_option linter.unusedVariables false
set_option linter.unusedSimpArgs false
namespace Go.AI.Fn
theorem ud {s:aQ} {k:Nat} (h:s.Cols=((k+1:Nat):Int)) (hk:k≤50):dv s=some ((2^k:Nat):Int):=by
 have e:IntKind.wrap .i64 (((k+1:Nat):Int)-1)=(k:Int):=by rw [aj _ om om];omega
 unfold dv
 rw [h,e,brd om,G9 om]
theorem nl {p w c2 c3 c4 c5:Int} {l:List Gate} {k:Nat} (hk:k≤50) (hp:0≤p) (hp1:p≤100):
 ba w l c2 c3 c4 c5 p ((k+1:Nat):Int)=if ((2^k:Nat):Int)<mx (p+1) w then some (.inl ((k+2:Nat):Int)) else some (.inr (false,((k+1:Nat):Int))):=by
 have e2:IntKind.wrap .i64 (((k+1:Nat):Int)+1)=((k+2:Nat):Int):=by rw [aj _ om om];omega
 simp only [ba]
 rw [ud (k:=k) rfl hk,obs,e2,aj (p+1) om om]
 by_cases h:((2^k:Nat):Int)<mx (p+1) w
 ·rw [brd h,if_pos h]
 ·rw [brn h,if_neg h,decide_eq_false h]
theorem Cr {p w c2 c3 c4 c5:Int} {l:List Gate} (hp:0≤p) (hp1:p≤7) (hw:w≤15):Loop (ba w l c2 c3 c4 c5 p) 2=some (false,(lgM (mx (p+1) w):Int)):=by
 have hm:mx (p+1) w≤15:=by unfold mx;split<;>omega
 have s1:=nl (p:=p) (w:=w) (l:=l) (c2:=c2) (c3:=c3) (c4:=c4) (c5:=c5) (k:=1) om hp om
 have s2:=nl (p:=p) (w:=w) (l:=l) (c2:=c2) (c3:=c3) (c4:=c4) (c5:=c5) (k:=2) om hp om
 have s3:=nl (p:=p) (w:=w) (l:=l) (c2:=c2) (c3:=c3) (c4:=c4) (c5:=c5) (k:=3) om hp om
 have s4:=nl (p:=p) (w:=w) (l:=l) (c2:=c2) (c3:=c3) (c4:=c4) (c5:=c5) (k:=4) om hp om
 simp only [Nat.reducePow,Nat.reduceAdd] at s1 s2 s3 s4
 unfold lgM
 generalize mx (p+1) w=m at*
 by_cases h1:m≤2
 ·rw [if_pos h1];rw [if_neg om] at s1;exact ce s1
 rw [if_neg h1];rw [if_pos om] at s1
 refine (cD s1).trans ?_
 by_cases h2:m≤4
 ·rw [if_pos h2];rw [if_neg om] at s2;exact ce s2
 rw [if_neg h2];rw [if_pos om] at s2
 refine (cD s2).trans ?_
 by_cases h3:m≤8
 ·rw [if_pos h3];rw [if_neg om] at s3;exact ce s3
 rw [if_neg h3];rw [if_pos om] at s3
 refine (cD s3).trans ?_
 rw [if_neg om] at s4;exact ce s4
theorem xP {l:List Gate} {c9 c10 c11 c12 c13 c14:Int} (ok:OkC l):Loop (bc l (l.length:Int) l c9 c10 c11 c12 c13 c14) ([],1,((2^(lgC l-1):Nat):Int),0)=
 some (cc l l.length,(bT l 2:Int)+1,((2^(lgC l-1):Nat):Int)+((l.length:Int)-(bT l 2:Int)),(l.length:Int),false):=by
 have h1:=ok.n2
 have h2':=s9 l
 have hpw:=vc (lgC l-1) om
 have key:=dJ (step:=bc l (l.length:Int) l c9 c10 c11 c12 c13 c14) (fun j=>(cc l j,(bT (l.take j) 2:Int)+1,((2^(lgC l-1):Nat):Int)+((j:Int)-(bT (l.take j) 2:Int)),(j:Int))) l.length (e:=(cc l l.length,(bT l 2:Int)+1,((2^(lgC l-1):Nat):Int)+((l.length:Int)-(bT l 2:Int)),(l.length:Int),false)) (fun j hj=> ?_) ?_
 ·have:((cc l 0,(bT (l.take 0) 2:Int)+1,((2^(lgC l-1):Nat):Int)+(((0:Nat):Int)-(bT (l.take 0) 2:Int)),((0:Nat):Int)):List Int×Int×Int×Int)=([],1,((2^(lgC l-1):Nat):Int),0):=by simp [cc,bT]
  rw [←this,key]
 ·have hd:l.getD j ⟨0,0,0,0⟩=l[j]:=by simp [hj]
  have l2:=jt (l.take j) 2
  rw [List.length_take] at l2
  have hcl:=nj l j
  have hfit: ∀v:Int,(cc l j++[v]).length*8≤1099511627776:=fun v=>by rw [List.length_append,hcl];simp;omega
  simp only [bc]
  rw [brd om,dh hj,obs,iI hj,iF,s8,yi,hd]
  by_cases h:l[j].Op=2
  ·rw [bre h,dU (hfit _),aj _ om om,aj _ om om,if_pos h,if_pos (by simp [h])]
   simp;omega
  ·rw [ee h,dU (hfit _),aj _ om om,aj _ om om,if_neg h,if_neg (by simp [h])]
   simp;omega
 ·simp only [bc]
  rw [brn om,decide_eq_false om,List.take_length]
theorem vm {l:List Gate} {c16 c17 c18 c19 c20 c21:Int} (ok:OkC l): ∃mA mB mC,Loop (bv (cc l l.length) l (l.length:Int) l c16 c17 c18 c19 c20 c21) ([],[],[],0,0)=
 some (mA,mB,mC,(l.length:Int),false,(fdM l l.length).1)∧R3 (fdM l l.length).1 mA mB mC (fdM l l.length).2.1 (fdM l l.length).2.2.1 (fdM l l.length).2.2.2 (2*l.length):=by
 have hn:=ok.n2
 obtain ⟨⟨mA,mB,mC,i,b,r⟩,h1,h2,h3,h4,h5⟩:=oo (step:=bv (cc l l.length) l (l.length:Int) l c16 c17 c18 c19 c20 c21)
  (fun s=> ∃j:Nat,j≤l.length∧s.2.2.2.1=(j:Int)∧s.2.2.2.2=(fdM l j).1∧R3 (fdM l j).1 s.1 s.2.1 s.2.2.1 (fdM l j).2.1 (fdM l j).2.2.1 (fdM l j).2.2.2 (2*j)) (fun s=>l.length-s.2.2.2.1.toNat)
  (fun e=>e.2.2.2.1=(l.length:Int)∧e.2.2.2.2.1=false∧e.2.2.2.2.2=(fdM l l.length).1∧R3 (fdM l l.length).1 e.1 e.2.1 e.2.2.1 (fdM l l.length).2.1 (fdM l l.length).2.2.1 (fdM l l.length).2.2.2 (2*l.length))
  (fun s=>by
   obtain ⟨mA,mB,mC,i,r⟩:=s
   rintro ⟨j,hj,e1,e2,h⟩
   dsimp only at e1 e2 h
   subst e1
   simp only [bv]
   by_cases hlt:j<l.length
   ·left
    have hd:l.getD j ⟨0,0,0,0⟩=l[j]:=by simp [hlt]
    have hl:=nj l l.length
    obtain ⟨_,r0,r1⟩:=pv ok j hj
    obtain ⟨x,y,z,g1,g2⟩:=CT (t:=cc l l.length) (c:=(cc l l.length).getD j 0) (ok.g j hlt) om r0 om h
    rw [brd om,dh hlt,obs,brd om,brd (by rw [Int.toNat_natCast];omega),Int.toNat_natCast,Jp om,obs,e2,g1,obs,aj _ om om]
    refine ⟨_,rfl,⟨j+1,by omega,by dsimp only;omega,by rw [fdM,hd], ?_⟩,by dsimp only;omega⟩
    rw [fdM,hd]
    exact g2
   ·right
    have:j=l.length:=by omega
    subst this
    rw [brn om,decide_eq_false om]
    exact ⟨_,rfl,rfl,rfl,e2,h⟩)
  ([],[],[],0,0) ⟨0,by omega,rfl,rfl,⟨Rm.nil _,Rm.nil _,Rm.nil _,by simp,by simp,by simp⟩⟩
 dsimp only at h2 h3 h4 h5
 subst h2 h3 h4
 exact ⟨mA,mB,mC,h1,h5⟩
theorem vh {c:Circuit} (ok:OkC c.Gates):cB c=some ((oa c.Gates).Rows,(oa c.Gates).Cols,(oa c.Gates).Publics,(oa c.Gates).A,(oa c.Gates).B,(oa c.Gates).C):=by
 have hn:=ok.n2
 have h2:=ok.p
 have h3:=jt c.Gates 2
 have h5:=s9 c.Gates
 unfold cB
 have hl:Loop (ba ((c.Gates.length:Int)-(bT c.Gates 2:Int)) c.Gates 0 0 0 1 (bT c.Gates 2:Int)) 2=some (false,(lgC c.Gates:Int)):=Cr om om om
 rw [rp om,obs,aj _ om om,hl,obs]
 dsimp only
 rw [ud (k:=lgC c.Gates-1) (by dsimp only;omega) om,obs,xP ok,obs]
 dsimp only
 obtain ⟨mA,mB,mC,g1,g2⟩:=vm (c16:=0) (c17:=0) (c18:=0) (c19:=1) (c20:=(lgC c.Gates:Int)) (c21:=(bT c.Gates 2:Int)) ok
 obtain ⟨_,r0,r1⟩:=pv ok c.Gates.length (Nat.le_refl _)
 rw [g1,obs]
 dsimp only
 rw [xc (r:=(fdM c.Gates c.Gates.length).1) om (fun k k1 k5=> ?_),obs,g2.a.ent (by have:=g2.la;omega),obs,g2.b.ent (by have:=g2.lb;omega),obs,g2.c.ent (by have:=g2.lc;omega),obs]
 ·rfl
 ·simp only [cu]
  have e2:IntKind.wrap .i64 ((k:Int)+1)=((k+1:Nat):Int):=by rw [aj _ om om];omega
  rw [brd om,G9 om,e2]
  by_cases h:((2^k:Nat):Int)<(fdM c.Gates c.Gates.length).1
  ·rw [brd h,if_pos h]
  ·rw [brn h,if_neg h,decide_eq_false h]
theorem tj {c:Circuit} (h:c.Gates.length≤1048576):dO c=some (if jJ c.Gates=true then ((oa c.Gates).Rows,(oa c.Gates).Cols,(oa c.Gates).Publics,0,(oa c.Gates).A,(oa c.Gates).B,(oa c.Gates).C) else (0,0,0,19,[],[],[])):=by
 unfold dO
 rw [su h,obs]
 by_cases hc:jJ c.Gates=true
 ·rw [hc,vh (sC hc)];rfl
 ·have:jJ c.Gates=false:=by simpa using hc
  rw [this];rfl
end Go.AI.Fn
set_option linter.unusedVariables false
namespace Go.AI.Fn
theorem AH {c:Circuit} (hL:c.Gates.length≤1048576): ∃(S:aQ) (z:Int),gr c=some (S,z)∧dO c=some (S.Rows,S.Cols,S.Publics,z,S.A,S.B,S.C)∧S.A.length≤1000∧S.B.length≤1000∧S.C.length≤1000:=by
 rw [tH hL,tj hL]
 by_cases h:jJ c.Gates=true
 ·have ok:=sC h
  have hn:=ok.n2
  obtain ⟨m,_⟩:=pv ok c.Gates.length (Nat.le_refl _)
  rw [if_pos h,if_pos h]
  exact ⟨oa c.Gates,0,rfl,rfl,by show (fdM _ _).2.1.length≤_;have:=m.la;omega,by show (fdM _ _).2.2.1.length≤_;have:=m.lb;omega,by show (fdM _ _).2.2.2.length≤_;have:=m.lc;omega⟩
 ·rw [if_neg h,if_neg h]
  exact ⟨⟨0,0,0,[],[],[]⟩,19,rfl,rfl,by simp,by simp,by simp⟩
theorem law_FnExactSystemOf (c:Circuit) (hc:bdCircuit c):dG c=some true:=by
 unfold dG
 obtain ⟨r,e1,r0,r1,h1⟩:=Qc (a:=c) (left:=1048576) hc.1 om om
 rw [e1,obs]
 by_cases c2:r<0
 ·rw [brd c2]
 rw [brn c2]
 have hL:=h1 om
 obtain ⟨S,z,g1,g2,hA,hB,hC⟩:=AH hL
 rw [LA hL]
 simp only [obs]
 rw [show Circuit.mk c.Gates=c from rfl,g1,g2,PV hL,F7 om om hL]
 simp only [obs]
 rw [show aQ.mk S.Rows S.Cols S.Publics S.A S.B S.C=S from rfl,Ot om om om,zY om om om om om]
 simp only [obs,Bool.not_true,aX]
 rw [zs om om om om om]
 simp only [obs,fw]
 rw [jv rfl,brn om,jv rfl,brd trivial,brd trivial,brd trivial,brn om,jv rfl,jv rfl,brd trivial,brd trivial,brd trivial,brn om,jv rfl]
end Go.AI.Fn
