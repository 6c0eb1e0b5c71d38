/- Plain laws for printed functions: loops whose states are told in advance; numbers; places. -/
import Derived.Test.YtdmhkkcihecndaaAiW
import Derived.Test.YtdmhkkcihecndaaFx0
import Derived.KernelRfl
set_option linter.unusedVariables false
namespace Go.AI
theorem rd {S E:Type} {step:S→Option (S⊕E)} {s s':S} (h:step s=some (.inl s')):Loop step s=Loop step s':=by rw [uH,h];rfl
theorem nm {S E:Type} {step:S→Option (S⊕E)} {s:S} {e:E} (h:step s=some (.inr e)):Loop step s=some e:=by rw [uH,h];rfl
theorem cn {S E:Type} {step:S→Option (S⊕E)} (F:Nat→S) (n:Nat) {e:E} (hs: ∀k,k<n→step (F k)=some (.inl (F (k+1)))) (he:step (F n)=some (.inr e)):Loop step (F 0)=some e:=by
 have key: ∀m k,k+m=n→Loop step (F k)=some e:=by
  intro m
  induction m with
  |zero=>intro k hk;have:k=n:=by omega
         subst this;exact nm he
  |succ m ih=>intro k hk;rw [rd (hs k om)];exact ih (k+1) om
 exact key n 0 om
theorem sZ (P:Nat→Bool): ∀n,(∀k,k<n→P k=true)∨ ∃k,k<n∧P k=false∧ ∀j,j<k→P j=true
 |0=> .inl om
 |n+1=>by
  rcases sZ P n with h|⟨k,hk,h1,h2⟩
  ·cases hn:P n
   ·exact .inr ⟨n,by omega,hn,h⟩
   ·refine .inl fun k hk=> ?_
    by_cases e:k=n
    ·subst e;exact hn
    ·exact h k om
  ·exact .inr ⟨k,by omega,h1,h2⟩
theorem wt {S E:Type} {step:S→Option (S⊕E)} (F:Nat→S) (n:Nat) (P:Nat→Bool) (x:Nat→E) {e:E} (hs: ∀k,k<n→P k=true→step (F k)=some (.inl (F (k+1))))
 (hx: ∀k,k<n→P k=false→step (F k)=some (.inr (x k))) (he:step (F n)=some (.inr e)):
 ((∀k,k<n→P k=true)∧Loop step (F 0)=some e)∨ ∃k,k<n∧P k=false∧(∀j,j<k→P j=true)∧Loop step (F 0)=some (x k):=by
 rcases sZ P n with h|⟨k,hk,h1,h2⟩
 ·exact .inl ⟨h,cn F n (fun k hk=>hs k hk (h k hk)) he⟩
 ·exact .inr ⟨k,hk,h1,h2,cn F k (fun j hj=>hs j om (h2 j hj)) (hx k hk h1)⟩
theorem mQ {S E:Type} {step:S→Option (S⊕E)} (Inv:S→Prop) (me:S→Nat) (Post:E→Prop)
 (hs: ∀s,Inv s→(∃s',step s=some (.inl s')∧Inv s'∧me s'<me s)∨(∃e,step s=some (.inr e)∧Post e)):
 ∀s,Inv s→ ∃e,Loop step s=some e∧Post e:=by
 intro s
 generalize hm:me s=m
 induction m using Nat.strongRecOn generalizing s with
 |_ m ih=>
  intro hi
  rw [uH]
  rcases hs s hi with ⟨s',h1,h2,h3⟩|⟨e,h1,h2⟩
  ·rw [h1];exact ih (me s') om s' rfl h2
  ·rw [h1];exact ⟨e,rfl,h2⟩
theorem r5 {α:Type} {c:Bool} {x y:α} (h:c=true):br c x y=x:=by subst h;rfl
theorem zH {α:Type} {c:Bool} {x y:α} (h:c=false):br c x y=y:=by subst h;rfl
theorem brd {α:Type} {p:Prop} [Decidable p] {x y:α} (h:p):br (decide p) x y=x:=r5 (decide_eq_true h)
theorem brn {α:Type} {p:Prop} [Decidable p] {x y:α} (h: ¬p):br (decide p) x y=y:=zH (decide_eq_false h)
theorem bre {α:Type} {a b:Int} {x y:α} (h:a=b):br (a==b) x y=x:=r5 (by simp [h])
theorem PV {α:Type} {a b:Int} {x y:α} (h:a≠b):br (a==b) x y=y:=zH (by simp [h])
theorem brb {α:Type} {a b:Int} {x y:α} (h:a≠b):br (a !=b) x y=x:=r5 (by simp [h])
theorem it {α:Type} {a b:Int} {x y:α} (h:a=b):br (a !=b) x y=y:=zH (by simp [h])
theorem ua {α:Type} {p:Prop} [Decidable p] {x y:α} (h:p):br (!decide p) x y=y:=zH (by simp [h])
theorem u2 {α:Type} {p:Prop} [Decidable p] {x y:α} (h: ¬p):br (!decide p) x y=x:=r5 (by simp [h])
theorem pj (a b:Int) (h:0≤a):a.tmod b=a%b:=Int.tmod_eq_emod_of_nonneg h
theorem HU {n b:Nat} (h:n*b≤1099511627776):mH n b=true:=by simp [mH,aC,h]
theorem ul {α:Type} {n b:Nat} {x y:α} (h:n*b≤1099511627776):br (mH n b) x y=x:=r5 (HU h)
theorem J1 {l c:Int} {b:Nat} (h0:0≤l) (h1:l≤c) (h2:c*b≤1099511627776):nw l c b=true:=by simp [nw,aC,h0,h1,h2]
theorem A5 {α:Type} {l c:Int} {b:Nat} {x y:α} (h0:0≤l) (h1:l≤c) (h2:c*b≤1099511627776):br (nw l c b) x y=x:=r5 (J1 h0 h1 h2)
theorem l7 {α:Type} {l:List α} {i:Int} (h0:0≤i) {x:α} (h:l[i.toNat]? =some x):atL l i=some x:=by simp [atL,h0,h]
theorem dR {α:Type} {l:List α} {k:Nat} (h:k<l.length):atL l (k:Int)=some l[k]:=by simp [atL,h]
theorem kn {α:Type} {l:List α} {i:Nat} (h:i<l.length):l[i]? =some l[i]:=List.getElem?_eq_getElem h
theorem fb {α:Type} {l:List α} {i:Nat} (h:i<l.length): ∃x r,l.drop i=x::r∧l.drop (i+1)=r∧l[i]? =some x:=
 ⟨l[i],l.drop (i+1),List.drop_eq_getElem_cons h,rfl,by simp [h]⟩
theorem fj {α:Type} {l:List α} {k:Nat} (h:k<l.length):l.take (k+1)=l.take k++[l[k]]:=by rw [List.take_succ_eq_append_getElem h]
def iU {α:Type} (f:Nat→α→α):Nat→α→α
 |0,l=>l
 |k+1,l=>f k (iU f k l)
end Go.AI
set_option linter.unusedVariables false
set_option linter.unusedSimpArgs false
namespace Go.AI.Fn
def okF (a:Int):Prop:=0≤a∧a≤2130706432
def okE (x:Ext):Prop:=okF x.A∧okF x.B
def wB (a:Int):Bool:=decide (0≤a)&&decide (a≤2130706432)
def iY (x:Ext):Bool:=wB x.A&&wB x.B
theorem Dv {a:Int}:wB a=true↔okF a:=by simp [wB,okF]
theorem jQ {x:Ext}:iY x=true↔okE x:=by simp [iY,okE,Dv]
def aF (a b:Int):Int:=(a+b)%2130706433
def sF (a b:Int):Int:=(a-b)%2130706433
def mF (a b:Int):Int:=(a*b)%2130706433
def eA (x y:Ext):Ext:=⟨(x.A+y.A)%2130706433,(x.B+y.B)%2130706433⟩
def eS (x y:Ext):Ext:=⟨(x.A-y.A)%2130706433,(x.B-y.B)%2130706433⟩
def eM (x y:Ext):Ext:=⟨(x.A*y.A+3*(x.B*y.B))%2130706433,(x.A*y.B+x.B*y.A)%2130706433⟩
def eC (x:Ext) (n:Int):Ext:=⟨(x.A*n)%2130706433,(x.B*n)%2130706433⟩
def e0:Ext:=⟨0,0⟩
def e1:Ext:=⟨1,0⟩
def eN (n:Int):Ext:=⟨n,0⟩
theorem Pe:okF 3:=⟨by decide,by decide⟩
theorem PT:okF 0:=⟨by decide,by decide⟩
theorem dL (a:Int):okF (a%2130706433):=⟨by omega,by omega⟩
theorem lS (a b:Int):okF (mF a b):=dL _
theorem Oj (x y:Ext):okE (eA x y):=⟨dL _,dL _⟩
theorem zS (x y:Ext):okE (eS x y):=⟨dL _,dL _⟩
theorem sA (x y:Ext):okE (eM x y):=⟨dL _,dL _⟩
theorem Ov (x:Ext) (n:Int):okE (eC x n):=⟨dL _,dL _⟩
theorem Oa:okE e0:=⟨⟨by decide,by decide⟩,⟨by decide,by decide⟩⟩
theorem Dh:okE e1:=⟨⟨by decide,by decide⟩,⟨by decide,by decide⟩⟩
theorem Pi {n:Int} (h:okF n):okE (eN n):=⟨h,PT⟩
theorem Np {a b:Int} (ha:okF a) (hb:okF b):0≤a*b∧a*b≤4539909900063178624:=
 ⟨Int.mul_nonneg ha.1 hb.1,Int.le_trans (Int.mul_le_mul ha.2 hb.2 hb.1 (by decide)) (by decide)⟩
theorem pP {a:Int} (h:okF a):a%2130706433=a:=by obtain ⟨h1,h2⟩:=h;omega
theorem zm {x y:Ext} (h1:x.A=y.A) (h2:x.B=y.B):x=y:=by cases x;cases y;cases h1;cases h2;rfl
theorem mA1 (a b:Int):(a%2130706433+b)%2130706433=(a+b)%2130706433:=Int.emod_add_emod _ _ _
theorem mA2 (a b:Int):(a+b%2130706433)%2130706433=(a+b)%2130706433:=Int.add_emod_emod _ _ _
theorem mM2 (a b:Int):(a*(b%2130706433))%2130706433=(a*b)%2130706433:=by rw [Int.mul_emod,Int.emod_emod, ←Int.mul_emod]
theorem mX4 (a b c:Int):(c+a*(b%2130706433))%2130706433=(c+a*b)%2130706433:=by rw [←mA2,mM2,mA2]
theorem Kp {a b:Int} (ha:okF a) (hb:okF b):(IntKind.wrap .i64 (a+b)).tmod 2130706433=aF a b:=by
 obtain ⟨h1,h2⟩:=ha;obtain ⟨h3,h4⟩:=hb
 unfold aF;rw [ae _ om om,pj _ _ om]
theorem nh {a b:Int} (ha:okF a) (hb:okF b):oj a b=some (aF a b):=by unfold oj;rw [Kp ha hb]
theorem wT {a b:Int} (ha:okF a) (hb:okF b):sE a b=some (sF a b):=by
 obtain ⟨h1,h2⟩:=ha;obtain ⟨h3,h4⟩:=hb
 unfold sE sF;rw [ae (a-b) om om,ae _ om om,pj _ _ om]
 congr 1;omega
theorem GJ {a b:Int} (ha:okF a) (hb:okF b):(IntKind.wrap .i64 (a*b)).tmod 2130706433=mF a b:=by
 have h:=Np ha hb
 unfold mF;rw [ae _ om om,pj _ _ om]
theorem gZ {a b:Int} (ha:okF a) (hb:okF b):kB a b=some (mF a b):=by unfold kB;rw [GJ ha hb]
theorem BH {x y:Ext} (hx:okE x) (hy:okE y):dY x y=some (eA x y):=by
 unfold dY;rw [nh hx.1 hy.1,nh hx.2 hy.2];rfl
theorem z9 {x y:Ext} (hx:okE x) (hy:okE y):fN x y=some (eS x y):=by
 unfold fN;rw [wT hx.1 hy.1,wT hx.2 hy.2];rfl
theorem zq (x y:Ext):eM x y=⟨aF (mF x.A y.A) (mF 3 (mF x.B y.B)),aF (mF x.A y.B) (mF x.B y.A)⟩:=by
 unfold eM aF mF
 congr 1
 ·rw [mA1,mA2,mX4]
 ·rw [mA1,mA2]
theorem m4 {x y:Ext} (hx:okE x) (hy:okE y):cp x y=some (eM x y):=by
 unfold cp
 rw [gZ hx.1 hy.1,gZ hx.2 hy.2]
 simp only [obs]
 rw [gZ Pe (lS _ _)]
 simp only [obs]
 rw [nh (lS _ _) (lS _ _),gZ hx.1 hy.2,gZ hx.2 hy.1]
 simp only [obs]
 rw [nh (lS _ _) (lS _ _),zq];rfl
theorem wO {x:Ext} {n:Int} (hx:okE x) (hn:okF n):cN x n=some (eC x n):=by
 unfold cN;rw [gZ hx.1 hn,gZ hx.2 hn];rfl
theorem uZ:xf=some e1:=rfl
theorem JE (n a b:Int):nG n a b=some (decide (a≤n)&&decide (n≤b)):=by
 unfold nG;cases decide (a≤n)<;>rfl
theorem mV (a:Int):gK a=some (wB a):=by
 unfold gK;rw [JE];rfl
theorem iW (x:Ext):il x=some (iY x):=by
 unfold il iY;rw [mV,mV];cases wB x.A<;>rfl
theorem nb {a b:Int} (ha:okF a) (hb:okF b):fH a b=some (aF a b):=by unfold fH;rw [Kp ha hb]
theorem w7 {a b:Int} (ha:okF a) (hb:okF b):iL a b=some (sF a b):=by
 obtain ⟨h1,h2⟩:=ha;obtain ⟨h3,h4⟩:=hb
 unfold iL sF;rw [ae (a+2130706433) om om,ae _ om om,pj _ _ om]
 congr 1;omega
theorem na {a b:Int} (ha:okF a) (hb:okF b):fG a b=some (mF a b):=by unfold fG;rw [GJ ha hb]
theorem Az {x y:Ext} (hx:okE x) (hy:okE y):kD x y=some (eA x y):=by
 unfold kD;rw [nb hx.1 hy.1,nb hx.2 hy.2];rfl
theorem C0 {x y:Ext} (hx:okE x) (hy:okE y):kA x y=some (eS x y):=by
 unfold kA;rw [w7 hx.1 hy.1,w7 hx.2 hy.2];rfl
theorem kT {x y:Ext} (hx:okE x) (hy:okE y):fI x y=some (eM x y):=by
 unfold fI
 have h3:(IntKind.wrap .i64 (3*mF x.B y.B)).tmod 2130706433=mF 3 (mF x.B y.B):=GJ Pe (lS x.B y.B)
 rw [na hx.1 hy.1,na hx.2 hy.2]
 simp only [obs]
 rw [h3,nb (lS _ _) (lS _ _),na hx.1 hy.2,na hx.2 hy.1]
 simp only [obs]
 rw [nb (lS _ _) (lS _ _),zq];rfl
theorem JM (n:Int):nv n=some (eN n):=rfl
theorem xi:jU=some e1:=rfl
theorem Bq {x:Ext} (hx:okE x):iD x=some (eS e1 x):=by
 unfold iD;rw [xi,obs,C0 Dh hx];rfl
theorem Iq (n a b:Int):dn n a b=some (decide (a≤n)&&decide (n≤b)):=by
 unfold dn;cases decide (a≤n)<;>rfl
theorem mS (a:Int):gB a=some (wB a):=by
 unfold gB;rw [Iq];rfl
theorem xu (x:Ext):l6 x=some (iY x):=by
 unfold l6 iY;rw [mS,mS];cases wB x.A<;>rfl
theorem NZ (x:Ext) (n:Int):eC x n=eM x (eN n):=by
 apply zm<;>(simp only [eC,eM,eN];congr 1;grind)
end Go.AI.Fn
set_option linter.unusedVariables false
set_option linter.unusedSimpArgs false
namespace Go.AI.Fn
end Go.AI.Fn
set_option linter.unusedVariables false
namespace Go.AI.Fn
structure Src (B:Int) (m:fV):Prop where
 at0:0≤m.at_
 at1:m.at_≤B
 sd0:0≤m.seed
 sd1:m.seed<2147483648
 len:m.code.length≤1048600
end Go.AI.Fn
set_option linter.unusedVariables false
namespace Go.AI.Fn
end Go.AI.Fn
set_option linter.unusedVariables false
set_option linter.unusedSimpArgs false
namespace Go.AI.Fn
theorem yF {α:Type} {p:α→Bool} {l:List α} {k:Nat} (hk:k<l.length) (h:p l[k]=true):l.any p=true:=List.any_eq_true.2 ⟨l[k],List.getElem_mem hk,h⟩
theorem Iv {α:Type} {p:α→Bool} {l:List α} (h: ∀k (hk:k<l.length),p l[k]=false):l.any p=false:=by
 rw [List.any_eq_false]
 intro x hx
 obtain ⟨k,hk,rfl⟩:=List.getElem_of_mem hx
 simp [h k hk]
theorem tW {α:Type} {p:α→Bool} {f:α→Option Bool} {l:List α} (hl:l.length≤1099511627776) (hf: ∀x∈l,f x=some (p x)) {step:Int→Option (Int⊕(Int⊕(Int×Bool)))}
 (hs: ∀t,step t=br (decide (t<((l.length:Nat):Int))) ((atL l t).bind fun x=>(f x).bind fun r=>br r (some (.inr (.inl t))) (some (.inl (IntKind.wrap .i64 (t+1))))) (some (.inr (.inr (t,decide (t<((l.length:Nat):Int))))))):
 ((Loop step 0).bind (alt (fun e=>some e) (fun _=>some (-1)))).bind (fun r=>some (decide (r≥0)))=some (l.any p):=by
 have key:=wt (step:=step) (fun k=>(k:Int)) l.length (fun k=> !((l[k]?.map p).getD false)) (fun k=> .inl (k:Int)) (e:= .inr ((l.length:Int),false)) (fun k hk hp=>by
  have hb:p l[k]=false:=by simpa [hk] using hp
  rw [hs,brd om,dR hk,obs,hf _ (List.getElem_mem hk),obs,hb,aA,ae _ om om];rfl)
  (fun k hk hp=>by
   have hb:p l[k]=true:=by simpa [hk] using hp
   rw [hs,brd om,dR hk,obs,hf _ (List.getElem_mem hk),obs,hb,bF])
  (by rw [hs,brn om,decide_eq_false om])
 rcases key with ⟨h1,h2⟩|⟨k,hk,h1,_,h2⟩
 ·have e:Loop step 0=some (.inr ((l.length:Int),false)):=h2
  rw [e,Iv (fun k hk=>by simpa [hk] using h1 k hk)];rfl
 ·have e:Loop step 0=some (.inl (k:Int)):=h2
  rw [e,yF hk (by simpa [hk] using h1)]
  simp only [obs,nr]
  rw [decide_eq_true om]
theorem IS {α:Type} {p:α→Bool} {f:α→Option Bool} {l:List α} (hl:l.length≤1099511627776) (hf: ∀x∈l,f x=some (p x)) {step:Int→Option (Int⊕(Unit⊕(Int×Bool)))}
 (hs: ∀t,step t=br (decide (t<((l.length:Nat):Int))) ((atL l t).bind fun x=>(f x).bind fun r=>br (!r) (some (.inr (.inl ()))) (some (.inl (IntKind.wrap .i64 (t+1))))) (some (.inr (.inr (t,decide (t<((l.length:Nat):Int))))))):
 (Loop step 0).bind (alt (fun _=>some false) (fun _=>some true))=some (l.all p):=by
 have key:=wt (step:=step) (fun k=>(k:Int)) l.length (fun k=>((l[k]?.map p).getD false)) (fun k=> .inl ()) (e:= .inr ((l.length:Int),false)) (fun k hk hp=>by
  have hb:p l[k]=true:=by simpa [hk] using hp
  rw [hs,brd om,dR hk,obs,hf _ (List.getElem_mem hk),obs,hb,Bool.not_true,aA,ae _ om om];rfl)
  (fun k hk hp=>by
   have hb:p l[k]=false:=by simpa [hk] using hp
   rw [hs,brd om,dR hk,obs,hf _ (List.getElem_mem hk),obs,hb,Bool.not_false,bF])
  (by rw [hs,brn om,decide_eq_false om])
 rcases key with ⟨h1,h2⟩|⟨k,hk,h1,_,h2⟩
 ·have e:Loop step 0=some (.inr ((l.length:Int),false)):=h2
  have ha:l.all p=true:=List.all_eq_true.2 fun x hx=>by
   obtain ⟨k,hk,rfl⟩:=List.getElem_of_mem hx
   simpa [hk] using h1 k hk
  rw [e,ha];rfl
 ·have e:Loop step 0=some (.inl ()):=h2
  have ha:l.all p=false:=by
   rw [List.all_eq_false]
   exact ⟨l[k],List.getElem_mem hk,by simpa [hk] using h1⟩
  rw [e,ha];rfl
theorem vq {α:Type} (p:α→Bool) (l:List α):(!l.any fun x=> !p x)=l.all p:=by
 induction l with
 |nil=>rfl
 |cons x l ih=>simp only [List.any_cons,List.all_cons, ←ih];cases p x<;>simp
theorem Bc {l:List Ext} (hl:l.length≤1099511627776):cm l=some (l.all iY):=by
 unfold cm an aw
 rw [tW (step:=ak l ((l.length:Nat):Int)) (p:=fun x=> !iY x) (f:=bL) hl (fun x _=>by unfold bL;rw [iW];rfl) (fun t=>rfl),obs,vq]
theorem rv {l:List Ext} (hl:l.length≤1099511627776):gM l=some (l.all iY):=by
 unfold gM
 exact IS (f:=l6) hl (fun x _=>xu x) (fun t=>rfl)
def cJ (l:List Ext):Prop:= ∀x∈l,okE x
def Mm (l:List Int):Prop:= ∀x∈l,okF x
theorem PB {l:List Ext}:l.all iY=true↔cJ l:=by
 rw [List.all_eq_true];exact ⟨fun h x hx=>jQ.1 (h x hx),fun h x hx=>jQ.2 (h x hx)⟩
theorem cJ.get {l:List Ext} (h:cJ l) {k:Nat} (hk:k<l.length):okE l[k]:=h _ (List.getElem_mem hk)
theorem Mm.get {l:List Int} (h:Mm l) {k:Nat} (hk:k<l.length):okF l[k]:=h _ (List.getElem_mem hk)
theorem cJ.app {l m:List Ext} (h:cJ l) (h2:cJ m):cJ (l++m):=fun x hx=>(List.mem_append.1 hx).elim (h x) (h2 x)
theorem cJ.nil:cJ []:=fun x hx=>by cases hx
theorem cJ.one {x:Ext} (h:okE x):cJ [x]:=fun y hy=>by rw [List.mem_singleton.1 hy];exact h
theorem cJ.map {α:Type} {f:α→Ext} (l:List α) (h: ∀x∈l,okE (f x)):cJ (l.map f):=fun y hy=>by obtain ⟨x,hx,rfl⟩:=List.mem_map.1 hy;exact h x hx
theorem cJ.take {l:List Ext} (h:cJ l) (k:Nat):cJ (l.take k):=fun x hx=>h x (List.mem_of_mem_take hx)
theorem cJ.drop {l:List Ext} (h:cJ l) (k:Nat):cJ (l.drop k):=fun x hx=>h x (List.mem_of_mem_drop hx)
def eqS (out:List Ext) (p:Ext):List Ext:=out.map (fun a=>eM a (eS e1 p))++out.map (fun a=>eM a p)
def eqT (pt:List Ext):List Ext:=pt.foldl eqS [e1]
theorem zN (out:List Ext) (p:Ext):(eqS out p).length=2*out.length:=by simp [eqS];omega
theorem L0 (out:List Ext) (p:Ext):cJ (eqS out p):=cJ.app (cJ.map _ fun x _=>sA _ _) (cJ.map _ fun x _=>sA _ _)
theorem wF (l:List Ext) (p:Ext):eqT (l++[p])=eqS (eqT l) p:=by simp [eqT,List.foldl_append]
theorem Kz {l out:List Ext} (h:cJ out):cJ (l.foldl eqS out):=by
 induction l generalizing out with
 |nil=>exact h
 |cons p l ih=>exact ih (L0 _ _)
theorem Ew (l:List Ext):cJ (eqT l):=Kz (cJ.one Dh)
theorem Ji (l out:List Ext):(l.foldl eqS out).length=2^l.length*out.length:=by
 induction l generalizing out with
 |nil=>simp
 |cons p l ih=>rw [List.foldl_cons,ih,zN,List.length_cons,Nat.pow_succ];rw [Nat.mul_assoc]
theorem pm (l:List Ext):(eqT l).length=2^l.length:=by rw [eqT,Ji];simp
theorem Ec: ∀k:Nat,k≤6→2^k≤64:=by decide
theorem O9 {t:List Ext} {t2 t3:Int} {out:List Ext} {p:Ext} (ho:cJ out) (hp:okE p) (hn:out.length≤1000000000):
 Loop (cU t t2 t3 out ((out.length:Nat):Int) p.A p.B) ([],[],0)=some (out.map (fun a=>eM a (eS e1 p)),out.map (fun a=>eM a p),(out.length:Int),false):=
 cn (fun k=>((out.take k).map (fun a=>eM a (eS e1 p)),(out.take k).map (fun a=>eM a p),(k:Int))) out.length (fun k hk=>by
  have he:Ext.mk p.A p.B=p:=rfl
  simp only [cU,he]
  rw [brd om,dR hk,obs,uZ,obs,z9 Dh hp,obs,m4 (ho.get hk) (zS _ _),obs,
   ul (by simp only [List.length_append,List.length_map,List.length_take,List.length_singleton];omega),m4 (ho.get hk) hp,obs,
   ul (by simp only [List.length_append,List.length_map,List.length_take,List.length_singleton];omega),ae _ om om,fj hk,List.map_append,List.map_append]
  rfl) (by
  simp only [cU]
  rw [brn om,decide_eq_false om,List.take_length])
theorem u4 {l:List Ext} (h:cJ l) (hn:l.length≤6):iN l=some (eqT l):=by
 unfold iN
 have key:Loop (cT l ((l.length:Nat):Int)) ([e1],0)=some (eqT l,(l.length:Int),false):=
  cn (fun k=>(eqT (l.take k),(k:Int))) l.length (fun k hk=>by
   have hl:=pm (l.take k)
   have hb:=Ec (l.take k).length (by rw [List.length_take];omega)
   simp only [cT]
   rw [brd om,dR hk,obs,O9 (Ew _) (h.get hk) om,obs]
   dsimp only
   rw [ul (by simp only [List.length_append,List.length_map];omega),ae _ om om,fj hk,wF]
   rfl) (by
   simp only [cT]
   rw [brn om,decide_eq_false om,List.take_length])
 rw [uZ,obs,key];rfl
def eqU (out:List Ext) (p:Ext) (k:Nat) (l:List Ext):List Ext:=(l.set k (eM (out.getD k e0) (eS e1 p))).set (k+out.length) (eM (out.getD k e0) p)
theorem zQ {f:Nat→List Ext→List Ext} (hf: ∀k l,(f k l).length=l.length): ∀(k:Nat) (l:List Ext),(iU f k l).length=l.length
 |0,l=>rfl
 |k+1,l=>by rw [iU,hf,zQ hf k l]
theorem mJ (out:List Ext) (p:Ext) (k:Nat) (l:List Ext):(iU (eqU out p) k l).length=l.length:=zQ (fun _ _=>by simp [eqU]) k l
theorem zF (out:List Ext) (p:Ext) (l:List Ext) (hl:l.length=2*out.length): ∀k,k≤out.length→ ∀j (hj:j<(iU (eqU out p) k l).length),(iU (eqU out p) k l)[j]=
 if j<k then eM (out.getD j e0) (eS e1 p) else if out.length≤j∧j<out.length+k then eM (out.getD (j-out.length) e0) p else l[j]'(by rw [mJ] at hj;exact hj)
 |0,_,j,hj=>by
  rw [if_neg om,if_neg om];rfl
 |k+1,hk,j,hj=>by
  have ih:=zF out p l hl k om j (by rw [mJ] at hj ⊢;exact hj)
  simp only [iU,eqU,List.getElem_set]
  by_cases h1:k+out.length=j
  ·rw [if_pos h1,if_neg om,if_pos om,show j-out.length=k by omega]
  ·rw [if_neg h1]
   by_cases h2:k=j
   ·rw [if_pos h2,if_pos om,h2]
   ·rw [if_neg h2,ih]
    by_cases h3:j<k
    ·rw [if_pos h3,if_pos om]
    ·by_cases h4:out.length≤j∧j<out.length+k
     ·rw [if_neg h3,if_pos h4,if_neg om,if_pos om]
     ·rw [if_neg h3,if_neg h4,if_neg om,if_neg om]
theorem GP (out:List Ext) (p:Ext) (l:List Ext) (hl:l.length=2*out.length):iU (eqU out p) out.length l=eqS out p:=by
 apply List.ext_getElem (by rw [mJ,zN,hl])
 intro j h1 h2
 rw [zF out p l hl out.length (Nat.le_refl _) j h1]
 rw [mJ,hl] at h1
 simp only [eqS]
 by_cases h3:j<out.length
 ·rw [if_pos h3,List.getElem_append_left (by simpa using h3),List.getElem_map];simp [h3]
 ·rw [if_neg h3,if_pos om,List.getElem_append_right (by simp;omega),List.getElem_map]
  have:j-out.length<out.length:=by omega
  simp [this]
theorem Kd {l:List Ext} {k:Nat} (h:k<l.length):atL l (k:Int)=some (l.getD k e0):=by simp [atL,h]
theorem cJ.getD {l:List Ext} (h:cJ l) (k:Nat):okE (l.getD k e0):=by
 by_cases hk:k<l.length
 ·simp [hk];exact h.get hk
 ·simp [List.getElem?_eq_none (Nat.le_of_not_lt hk)];exact Oa
theorem Kn {β:Type} {l:List Ext} {i:Nat} {f:Ext→Option β} (h:i<l.length):(l[i]?).bind f=f (l.getD i e0):=by simp [h]
theorem Pp {pt out l:List Ext} {i:Nat} (ho:cJ out) (hp:cJ pt) (hi:i<pt.length) (hl:l.length=2*out.length) (hn:out.length≤1000000000):
 Loop (eo pt out i) (l,0)=some (eqS out (pt.getD i e0),(out.length:Int),false):=by
 rw [←GP out (pt.getD i e0) l hl]
 exact cn (fun k=>(iU (eqU out (pt.getD i e0)) k l,(k:Int))) out.length (fun k hk=>by
  have h1:=mJ out (pt.getD i e0) k l
  simp only [eo]
  rw [brd om,Kd hk,obs,Kd hi,obs,Bq (hp.getD _),obs,kT (ho.getD _) (zS _ _),obs,brd om,brd om,Kn om,
   obs,obs,kT (ho.getD _) (hp.getD _),obs,ae _ om om,brd om,brd om,Kn (by rw [List.length_set];omega),ae _ om om]
  rw [show ((k:Int)+(out.length:Int)).toNat=k+out.length by omega,Int.toNat_natCast]
  rfl) (by
  simp only [eo]
  rw [brn om,decide_eq_false om])
theorem tN {l:List Ext} (h:cJ l) (hn:l.length≤6):n8 l=some (eqT l):=by
 unfold n8
 have key:Loop (ed l) ([e1],0)=some (eqT l,(l.length:Int),false):=
  cn (fun k=>(eqT (l.take k),(k:Int))) l.length (fun k hk=>by
   have hl:=pm (l.take k)
   have hb:=Ec (l.take k).length (by rw [List.length_take];omega)
   simp only [ed]
   rw [brd om,ae _ om om,A5 om om om,Pp (Ew _) h hk (by rw [List.length_replicate];omega) om,obs,ae _ om om,fj hk,wF]
   simp [hk]) (by
   simp only [ed]
   rw [brn om,decide_eq_false om,List.take_length])
 rw [xi,obs,key];rfl
end Go.AI.Fn
set_option linter.unusedVariables false
set_option linter.unusedSimpArgs false
namespace Go.AI.Fn
abbrev K:={x:Ext//okE x}
def K.n (i:Int):K:=⟨eN (i%2130706433),Pi (dL _)⟩
instance OS:Add K:=⟨fun a b=>⟨eA a.1 b.1,Oj _ _⟩⟩
instance Pb:Mul K:=⟨fun a b=>⟨eM a.1 b.1,sA _ _⟩⟩
instance OM:Sub K:=⟨fun a b=>⟨eS a.1 b.1,zS _ _⟩⟩
instance NK:Neg K:=⟨fun a=>⟨eS e0 a.1,zS _ _⟩⟩
instance Hb:NatCast K:=⟨fun n=>K.n n⟩
instance JU:IntCast K:=⟨fun n=>K.n n⟩
instance Ll (n:Nat):OfNat K n:=⟨K.n n⟩
def K.pow (a:K):Nat→K
 |0=>K.n 1
 |n+1=>K.pow a n*a
instance NG:HPow K Nat K:=⟨K.pow⟩
theorem K.ext {a b:K} (h:a.1=b.1):a=b:=Subtype.ext h
instance HX:NeZero 2130706433:=⟨by decide⟩
abbrev FP:=Fin 2130706433
def K.a (x:K):FP:=⟨x.1.A.toNat,by have h:=x.2.1;unfold okF at h;omega⟩
def K.b (x:K):FP:=⟨x.1.B.toNat,by have h:=x.2.2;unfold okF at h;omega⟩
theorem K.A_nat (x:K): ∃n:Nat,x.1.A=(n:Int)∧n<2130706433∧(K.a x).val=n:=⟨x.1.A.toNat,by have h:=x.2.1;unfold okF at h;omega,(K.a x).isLt,rfl⟩
theorem K.B_nat (x:K): ∃n:Nat,x.1.B=(n:Int)∧n<2130706433∧(K.b x).val=n:=⟨x.1.B.toNat,by have h:=x.2.2;unfold okF at h;omega,(K.b x).isLt,rfl⟩
theorem K.eqv {x y:K}:x=y↔K.a x=K.a y∧K.b x=K.b y:=⟨fun h=>by rw [h];exact ⟨rfl,rfl⟩,fun h=>by
 obtain ⟨n,h1,_,h2⟩:=K.A_nat x
 obtain ⟨m,h3,_,h4⟩:=K.A_nat y
 obtain ⟨i,h5,_,h6⟩:=K.B_nat x
 obtain ⟨j,h7,_,h8⟩:=K.B_nat y
 have e1:=congrArg Fin.val h.1
 have e2:=congrArg Fin.val h.2
 exact K.ext (zm om om)⟩
theorem K.ad_a (x y:K):K.a (x+y)=K.a x+K.a y:=Fin.ext (by
 obtain ⟨n,h1,_,h2⟩:=K.A_nat x
 obtain ⟨m,h3,_,h4⟩:=K.A_nat y
 rw [Fin.val_add,h2,h4]
 show ((x.1.A+y.1.A)%2130706433).toNat=_
 omega)
theorem K.ad_b (x y:K):K.b (x+y)=K.b x+K.b y:=Fin.ext (by
 obtain ⟨n,h1,_,h2⟩:=K.B_nat x
 obtain ⟨m,h3,_,h4⟩:=K.B_nat y
 rw [Fin.val_add,h2,h4]
 show ((x.1.B+y.1.B)%2130706433).toNat=_
 omega)
theorem K.su_a (x y:K):K.a (x-y)=K.a x-K.a y:=Fin.ext (by
 obtain ⟨n,h1,_,h2⟩:=K.A_nat x
 obtain ⟨m,h3,_,h4⟩:=K.A_nat y
 rw [Fin.sub_def]
 show ((x.1.A-y.1.A)%2130706433).toNat=(2130706433-(K.a y).val+(K.a x).val)%2130706433
 omega)
theorem K.su_b (x y:K):K.b (x-y)=K.b x-K.b y:=Fin.ext (by
 obtain ⟨n,h1,_,h2⟩:=K.B_nat x
 obtain ⟨m,h3,_,h4⟩:=K.B_nat y
 rw [Fin.sub_def]
 show ((x.1.B-y.1.B)%2130706433).toNat=(2130706433-(K.b y).val+(K.b x).val)%2130706433
 omega)
theorem K.n0_a:K.a 0=0:=rfl
theorem K.n0_b:K.b 0=0:=rfl
theorem K.n1_a:K.a 1=1:=rfl
theorem K.n1_b:K.b 1=0:=rfl
theorem K.n2_a:K.a 2=2:=rfl
theorem K.n2_b:K.b 2=0:=rfl
theorem K.n3_a:K.a 3=3:=rfl
theorem K.n3_b:K.b 3=0:=rfl
theorem K.ne_sub (x:K): -x=0-x:=rfl
theorem K.mu_a (x y:K):K.a (x*y)=K.a x*K.a y+3*(K.b x*K.b y):=Fin.ext (by
 obtain ⟨n,h1,_,h2⟩:=K.A_nat x
 obtain ⟨m,h3,_,h4⟩:=K.A_nat y
 obtain ⟨i,h5,_,h6⟩:=K.B_nat x
 obtain ⟨j,h7,_,h8⟩:=K.B_nat y
 rw [Fin.val_add,Fin.val_mul,Fin.val_mul,Fin.val_mul,h2,h4,h6,h8,show (3:FP).val=3 from rfl]
 show ((x.1.A*y.1.A+3*(x.1.B*y.1.B))%2130706433).toNat=_
 rw [h1,h3,h5,h7, ←Int.natCast_mul, ←Int.natCast_mul]
 generalize n*m=u
 generalize i*j=v
 omega)
theorem K.mu_b (x y:K):K.b (x*y)=K.a x*K.b y+K.b x*K.a y:=Fin.ext (by
 obtain ⟨n,h1,_,h2⟩:=K.A_nat x
 obtain ⟨m,h3,_,h4⟩:=K.A_nat y
 obtain ⟨i,h5,_,h6⟩:=K.B_nat x
 obtain ⟨j,h7,_,h8⟩:=K.B_nat y
 rw [Fin.val_add,Fin.val_mul,Fin.val_mul,h2,h4,h6,h8]
 show ((x.1.A*y.1.B+x.1.B*y.1.A)%2130706433).toNat=_
 rw [h1,h3,h5,h7, ←Int.natCast_mul, ←Int.natCast_mul]
 generalize n*j=u
 generalize i*m=v
 omega)
theorem kg {p:Prop} (h:p:=by (simp only [K.ne_sub,K.eqv,K.ad_a,K.ad_b,K.su_a,K.su_b,K.mu_a,K.mu_b,K.n0_a,K.n0_b,K.n1_a,K.n1_b,K.n2_a,K.n2_b,K.n3_a,K.n3_b] at* <;>first|grind only|grind)):p:=h
def kF (a:Int):K:=K.n a
theorem Ex {a:Int} (h:okF a):(kF a).1=eN a:=by show eN (a%2130706433)=eN a;rw [pP h]
def kv (l:List K):List Ext:=l.map (·.1)
theorem eJ (l:List K):(kv l).length=l.length:=by simp [kv]
theorem Ks (l:List K):cJ (kv l):=cJ.map l fun x _=>x.2
theorem Gp {l:List K} {j:Nat} (h:j<l.length):(kv l)[j]'(by rw [eJ];exact h)=(l.getD j 0).1:=by simp [kv,h]
theorem Fx {l:List K} {j:Nat} (h:j<l.length):atL (kv l) (j:Int)=some (l.getD j 0).1:=by rw [dR (by rw [eJ];exact h),Gp h]
theorem zp {l:List K} {j:Nat} (h:j<l.length):(kv l)[j]? =some (l.getD j 0).1:=by rw [kn (by rw [eJ];exact h),Gp h]
end Go.AI.Fn
set_option linter.unusedVariables false
set_option linter.unusedSimpArgs false
namespace Go.AI.Fn
def cb (r:K) (a b:List K):List K:=List.zipWith (fun x y=>x+r*y) a b
end Go.AI.Fn
set_option linter.unusedVariables false
set_option linter.unusedSimpArgs false
namespace Go.AI.Fn
def fdK (r:K):List K→List K
 |a::b::l=>(a+r*(b-a))::fdK r l
 |_=>[]
theorem A1 (r:K): ∀(l:List K) (m:Nat),l.length=2*m→(fdK r l).length=m
 |[],m,h=>by simp at h;simp [fdK];omega
 |[a],m,h=>by simp at h;omega
 |a::b::l,0,h=>by simp at h
 |a::b::l,m+1,h=>by simp only [fdK,List.length_cons];rw [A1 r l m (by simp only [List.length_cons] at h;omega)]
def bdK (r:K) (T:List (List K)):List (List K):=T.map (fdK r)
theorem HC (r:K) (T:List (List K)) (i:Nat):(bdK r T).getD i []=fdK r (T.getD i []):=by
 by_cases h:i<T.length
 ·simp [bdK,h]
 ·simp [bdK,h,fdK]
end Go.AI.Fn
set_option linter.unusedVariables false
set_option linter.unusedSimpArgs false
namespace Go.AI.Fn
theorem EB {α:Type} {a:List α} {n k:Nat} {z x:α} (hk:k<n) (ha:a.length=k):(a++List.replicate (n-k) z).set k x=(a++[x])++List.replicate (n-(k+1)) z:=by
 subst ha
 have e:n-a.length=(n-(a.length+1))+1:=by omega
 rw [e,List.replicate_succ]
 simp
theorem LB {α β:Type} {f:α→Option β} {g:α→β} {a:List α} {z:β} (hl:a.length≤1099511627776) (hf: ∀x∈a,f x=some (g x)) {step:List β×Int→Option ((List β×Int)⊕(List β×Int×Bool))}
 (hs: ∀l i,step (l,i)=br (decide (i<((a.length:Nat):Int))) ((atL a i).bind fun x=>(f x).bind fun r=>br (decide (0≤i)) (br (decide (i.toNat<l.length)) ((l[i.toNat]?).bind fun _=>some (.inl (l.set i.toNat r,IntKind.wrap .i64 (i+1)))) none) none) (some (.inr (l,i,decide (i<((a.length:Nat):Int)))))) {n:Nat} (hn:a.length≤n):
 Loop step (List.replicate n z,0)=some (a.map g++List.replicate (n-a.length) z,(a.length:Int),false):=by
 have key:=cn (step:=step) (fun k=>((a.take k).map g++List.replicate (n-k) z,(k:Int))) a.length (e:=(a.map g++List.replicate (n-a.length) z,(a.length:Int),false)) (fun k hk=>by
  have hlen:((a.take k).map g++List.replicate (n-k) z).length=n:=by simp;omega
  rw [hs,brd om,dR hk,obs,hf _ (List.getElem_mem hk),obs,brd om,brd om,Int.toNat_natCast,kn om,obs,EB om (by simp;omega),ae _ om om,fj hk,List.map_append]
  rfl) (by
  rw [hs,brn om,decide_eq_false om,List.take_length])
 simpa using key
theorem Lu {α:Type} {f:α→α→Option Bool} {a:List α} (hl:a.length≤1099511627776) (hf: ∀x∈a,f x x=some true) {step:Int→Option (Int⊕(Unit⊕(Int×Bool)))}
 (hs: ∀t,step t=br (decide (t<((a.length:Nat):Int))) ((atL a t).bind fun x=>(atL a t).bind fun y=>(f x y).bind fun r=>br (!r) (some (.inr (.inl ()))) (some (.inl (IntKind.wrap .i64 (t+1))))) (some (.inr (.inr (t,decide (t<((a.length:Nat):Int))))))):
 (Loop step 0).bind (alt (fun _=>some false) (fun _=>some true))=some true:=by
 have key:Loop step 0=some (.inr ((a.length:Int),false)):=cn (step:=step) (fun k=>(k:Int)) a.length (fun k hk=>by
  rw [hs,brd om,dR hk,obs,obs,hf _ (List.getElem_mem hk),obs,Bool.not_true,aA,ae _ om om];rfl)
  (by rw [hs,brn om,decide_eq_false om])
 rw [key];rfl
theorem u6 (x:Ext):lh x x=some true:=by unfold lh;rw [it rfl,it rfl]
theorem we {a:List Ext} (h:a.length≤1048576):fJ a=some a:=by
 unfold fJ
 rw [A5 om om om,Int.toNat_natCast,LB (step:=g9 a) (f:=db) (g:=fun x=>x) om (fun x _=>rfl) (fun l i=>rfl) (Nat.le_refl _)]
 simp
theorem ln {a:List Ext} (h:a.length≤1048576):fO a a=some true:=by
 unfold fO
 rw [it rfl]
 exact Lu (f:=lh) om (fun x _=>u6 x) (fun t=>rfl)
theorem xm {a:List Ext} {left:Int} (ha:a.length≤9223372036854775807) (h0: -1≤left) (h1:left≤1048576): ∃r,jW a left=some r∧ -1≤r∧r≤1048576∧(0≤r→a.length≤1048576):=by
 unfold jW
 rw [ae _ om om]
 by_cases h:left-(a.length:Int)<0
 ·rw [brd h];exact ⟨_,rfl,by omega,by omega,by omega⟩
 ·rw [brn h];exact ⟨_,rfl,by omega,by omega,by omega⟩
end Go.AI.Fn
set_option linter.unusedVariables false
namespace Go.AI.Fn
theorem Fc (x y:Int):cj x y=some (if x<y then-1 else if x>y then 1 else 0):=by
 unfold cj dF
 simp only [obs,bne_self_eq_false,aA]
 by_cases h:x<y
 ·rw [brd h,if_pos h]
 ·rw [brn h,if_neg h]
  by_cases h2:x>y
  ·rw [brd h2,if_pos h2]
  ·rw [brn h2,if_neg h2]
theorem xd (a b:Int):bt 0 [a,b] (([a,b].length:Nat):Int) 0=br (a !=0) (some (.inr (.inl a))) (some (.inl 1)):=by
 simp only [bt]
 rw [brd (by simp),show atL [a,b] 0=some a by simp [atL],show IntKind.wrap .i64 (0+1)=1 by decide];rfl
theorem vT (a b:Int):bt 0 [a,b] (([a,b].length:Nat):Int) 1=br (b !=0) (some (.inr (.inl b))) (some (.inl 2)):=by
 simp only [bt]
 rw [brd (by simp),show atL [a,b] 1=some b by simp [atL],show IntKind.wrap .i64 (1+1)=2 by decide];rfl
theorem Gy (a b:Int):bt 0 [a,b] (([a,b].length:Nat):Int) 2=some (.inr (.inr (2,false))):=by
 simp only [bt]
 rw [brn (by simp)];simp
theorem Of (a b:Int):gS [a,b]=some (if a=0 then b else a):=by
 unfold gS
 by_cases ha:a=0
 ·rw [rd (s':=1) (by rw [xd,it ha]),if_pos ha]
  by_cases hb:b=0
  ·rw [rd (s':=2) (by rw [vT,it hb]),nm (Gy a b),hb];rfl
  ·rw [nm (e:= .inl b) (by rw [vT,brb hb])];rfl
 ·rw [nm (e:= .inl a) (by rw [xd,brb ha]),if_neg ha];rfl
def ltE (y x:Entry):Prop:=y.Row<x.Row∨(y.Row=x.Row∧y.Col<x.Col)
theorem FM (y x:Entry): ∃c,dE y x=some c∧(c≥0↔ ¬ltE y x):=by
 unfold dE
 rw [Fc,Fc]
 simp only [obs,Of]
 refine ⟨_,rfl, ?_⟩
 unfold ltE
 by_cases h1:y.Row<x.Row
 ·simp [h1]
 ·by_cases h2:y.Row>x.Row
  ·simp [h1,h2];omega
  ·have h3:y.Row=x.Row:=by omega
   by_cases h4:y.Col<x.Col
   ·simp [h3,h4]
   ·by_cases h5:y.Col>x.Col
    ·simp [h3,h4,h5]
    ·simp [h3,h4,h5]
def inE (R C:Int) (x:Entry):Prop:=(0≤x.Row∧x.Row≤R-1)∧(0≤x.Col∧x.Col≤C-1)∧1≤x.Value∧x.Value≤2130706432
def lY (l:List Entry) (R C:Int) (t:Nat):Prop:= ∃x,l[t]? =some x∧(¬inE R C x∨(0<t∧ ∃y,l[t-1]? =some y∧ ¬ltE y x))
open Classical in
noncomputable def i7 (l:List Entry) (R C:Int):Bool:=decide (l.length≤200∧ ∀t, ¬lY l R C t)
open Classical in
theorem CW {l:List Entry} {R C:Int} (h:l.length≤200) (g: ∀t, ¬lY l R C t):i7 l R C=true:=by unfold i7;exact decide_eq_true ⟨h,g⟩
open Classical in
theorem tQ {l:List Entry} {R C:Int} (h:l.length≤200→ ¬ ∀t, ¬lY l R C t):i7 l R C=false:=by unfold i7;exact decide_eq_false fun g=>h g.1 g.2
open Classical in
theorem r9 {l:List Entry} {R C:Int} (h:i7 l R C=true):l.length≤200:=by unfold i7 at h;exact (of_decide_eq_true h).1
theorem Kh (n a b:Int):nG n a b=some (decide (a≤n∧n≤b)):=by
 unfold nG
 by_cases h:a≤n
 ·rw [brd h];simp [h]
 ·rw [brn h];simp [h]
theorem Ke (n a b:Int):dn n a b=some (decide (a≤n∧n≤b)):=by
 unfold dn
 by_cases h:a≤n
 ·rw [brd h];simp [h]
 ·rw [brn h];simp [h]
theorem ko {l:List Entry} {R C:Int} (hl:l.length≤1099511627776) (hR:1≤R∧R≤4096) (hC:1≤C∧C≤4096):e5 l R C=some (i7 l R C):=by
 unfold e5
 have key:=mQ (step:=dj l R C l ((l.length:Nat):Int)) (fun t=>0≤t∧t≤l.length∧ ∀k:Nat,(k:Int)<t→ ¬lY l R C k) (fun t=>(l.length-t).toNat)
  (fun e=>(∃x,e= .inl x∧ ∃k,lY l R C k)∨(∃x,e= .inr x∧ ∀k, ¬lY l R C k)) ?_ 0 ⟨by omega,by omega,by omega⟩
 ·obtain ⟨e,he,⟨x,rfl,k,hk⟩|⟨x,rfl,hk⟩⟩:=key
  ·rw [he]
   simp only [obs,nr]
   rw [tQ fun _ h=>h k hk]
  ·rw [he]
   simp only [obs,pb]
   by_cases h:l.length≤200
   ·rw [decide_eq_true om,CW h hk]
   ·rw [decide_eq_false om,tQ fun g=>absurd g h]
 ·intro t ⟨h0,h1,h2⟩
  simp only [dj]
  by_cases c:t<(l.length:Int)
  ·obtain ⟨x,r,e1,e2,e3⟩:=fb (l:=l) (i:=t.toNat) om
   have next: ¬lY l R C t.toNat→(fun t:Int=>0≤t∧t≤l.length∧ ∀k:Nat,(k:Int)<t→ ¬lY l R C k) (t+1):=by
    intro hn
    refine ⟨by omega,by omega,fun k hk=> ?_⟩
    by_cases e:k=t.toNat
    ·subst e;exact hn
    ·exact h2 k om
   rw [brd c,l7 h0 e3]
   simp only [obs,Kh]
   rw [ae (R-1) om om,ae (C-1) om om,ae (t+1) om om]
   by_cases i1:0≤x.Row∧x.Row≤R-1
   ·rw [ua i1]
    by_cases i2:0≤x.Col∧x.Col≤C-1
    ·rw [ua i2]
     by_cases i3:1≤x.Value∧x.Value≤2130706432
     ·rw [ua i3]
      by_cases c3:t>0
      ·rw [brd c3,ae (t-1) om om]
       obtain ⟨y,r2,f1,f2,f3⟩:=fb (l:=l) (i:=(t-1).toNat) om
       rw [l7 om f3]
       simp only [obs]
       obtain ⟨d,hd,hd2⟩:=FM y x
       rw [hd]
       simp only [obs]
       rw [show (t-1).toNat=t.toNat-1 by omega] at f3
       by_cases c4:d≥0
       ·rw [brd c4]
        exact .inr ⟨_,rfl,.inl ⟨_,rfl,t.toNat,x,e3,.inr ⟨by omega,y,f3,hd2.1 c4⟩⟩⟩
       ·rw [brn c4]
        refine .inl ⟨_,rfl,next ?_,by omega⟩
        rintro ⟨x',g1,g|⟨_,y',g2,g3⟩⟩
        ·rw [e3] at g1;cases g1;exact g ⟨i1,i2,i3⟩
        ·rw [e3] at g1;cases g1;rw [f3] at g2;cases g2;exact c4 (hd2.2 g3)
      ·rw [brn c3]
       refine .inl ⟨_,rfl,next ?_,by omega⟩
       rintro ⟨x',g1,g|⟨g0,_⟩⟩
       ·rw [e3] at g1;cases g1;exact g ⟨i1,i2,i3⟩
       ·omega
     ·rw [u2 i3]
      exact .inr ⟨_,rfl,.inl ⟨_,rfl,t.toNat,x,e3,.inl fun g=>i3 g.2.2⟩⟩
    ·rw [u2 i2]
     exact .inr ⟨_,rfl,.inl ⟨_,rfl,t.toNat,x,e3,.inl fun g=>i2 g.2.1⟩⟩
   ·rw [u2 i1]
    exact .inr ⟨_,rfl,.inl ⟨_,rfl,t.toNat,x,e3,.inl fun g=>i1 g.1⟩⟩
  ·rw [brn c]
   refine .inr ⟨_,rfl,.inr ⟨_,rfl,fun k hk=> ?_⟩⟩
   have hkl:k<l.length:=by
    obtain ⟨x,hx,_⟩:=hk
    obtain ⟨h,_⟩:=List.getElem?_eq_some_iff.1 hx
    exact h
   exact h2 k om hk
theorem tZ {l:List Entry} {r c:Int} (hr:0≤r∧r≤5) (hc:0≤c∧c≤5) {R C:Int} (hR:aJ .i64 1 r=R) (hC:aJ .i64 1 c=C) (hR':1≤R∧R≤4096) (hC':1≤C∧C≤4096):ff l r c=some (i7 l R C):=by
 unfold ff
 by_cases hl:(l.length:Int)>200
 ·rw [brd hl]
  rw [tQ om]
 rw [brn hl]
 have key:=mQ (step:=dH l r c) (fun t=>0≤t∧t≤l.length∧ ∀k:Nat,(k:Int)<t→ ¬lY l R C k) (fun t=>(l.length-t).toNat)
  (fun e=>(∃x,e= .inl x∧ ∃k,lY l R C k)∨(∃x,e= .inr x∧ ∀k, ¬lY l R C k)) ?_ 0 ⟨by omega,by omega,by omega⟩
 ·obtain ⟨e,he,⟨x,rfl,k,hk⟩|⟨x,rfl,hk⟩⟩:=key
  ·rw [he]
   simp only [obs,nr]
   rw [tQ fun _ h=>h k hk]
  ·rw [he]
   simp only [obs,pb]
   rw [CW om hk]
 ·intro t ⟨h0,h1,h2⟩
  simp only [dH]
  rw [jG r om om,jG c om om,hR,hC]
  by_cases ct:t<(l.length:Int)
  ·obtain ⟨x,rest,e1,e2,e3⟩:=fb (l:=l) (i:=t.toNat) om
   have next: ¬lY l R C t.toNat→(fun t:Int=>0≤t∧t≤l.length∧ ∀k:Nat,(k:Int)<t→ ¬lY l R C k) (t+1):=by
    intro hn
    refine ⟨by omega,by omega,fun k hk=> ?_⟩
    by_cases e:k=t.toNat
    ·subst e;exact hn
    ·exact h2 k om
   rw [brd ct,l7 h0 e3]
   simp only [obs,Ke]
   rw [brd hr.1]
   rw [ae (R-1) om om,ae (C-1) om om,ae (t+1) om om]
   by_cases i1:0≤x.Row∧x.Row≤R-1
   ·rw [ua i1,brd hc.1]
    by_cases i2:0≤x.Col∧x.Col≤C-1
    ·rw [ua i2]
     by_cases i3:1≤x.Value∧x.Value≤2130706432
     ·rw [ua i3]
      by_cases c3:t>0
      ·rw [brd c3,ae (t-1) om om]
       obtain ⟨y,r2,f1,f2,f3⟩:=fb (l:=l) (i:=(t-1).toNat) om
       rw [l7 om f3]
       simp only [obs]
       rw [show (t-1).toNat=t.toNat-1 by omega] at f3
       have good:ltE y x→ ¬lY l R C t.toNat:=by
        rintro hlt ⟨x',g1,g|⟨_,y',g2,g3⟩⟩
        ·rw [e3] at g1;cases g1;exact g ⟨i1,i2,i3⟩
        ·rw [e3] at g1;cases g1;rw [f3] at g2;cases g2;exact g3 hlt
       have bad: ¬ltE y x→lY l R C t.toNat:=fun h=>⟨x,e3,.inr ⟨by omega,y,f3,h⟩⟩
       by_cases c4:y.Row>x.Row
       ·rw [brd c4]
        exact .inr ⟨_,rfl,.inl ⟨_,rfl,_,bad (by unfold ltE;omega)⟩⟩
       ·rw [brn c4]
        by_cases c5:y.Row=x.Row
        ·rw [bre c5]
         by_cases c6:y.Col≥x.Col
         ·rw [brd c6]
          exact .inr ⟨_,rfl,.inl ⟨_,rfl,_,bad (by unfold ltE;omega)⟩⟩
         ·rw [brn c6]
          exact .inl ⟨_,rfl,next (good (by unfold ltE;omega)),by omega⟩
        ·rw [PV c5]
         exact .inl ⟨_,rfl,next (good (by unfold ltE;omega)),by omega⟩
      ·rw [brn c3]
       refine .inl ⟨_,rfl,next ?_,by omega⟩
       rintro ⟨x',g1,g|⟨g0,_⟩⟩
       ·rw [e3] at g1;cases g1;exact g ⟨i1,i2,i3⟩
       ·omega
     ·rw [u2 i3]
      exact .inr ⟨_,rfl,.inl ⟨_,rfl,t.toNat,x,e3,.inl fun g=>i3 g.2.2⟩⟩
    ·rw [u2 i2]
     exact .inr ⟨_,rfl,.inl ⟨_,rfl,t.toNat,x,e3,.inl fun g=>i2 g.2.1⟩⟩
   ·rw [u2 i1]
    exact .inr ⟨_,rfl,.inl ⟨_,rfl,t.toNat,x,e3,.inl fun g=>i1 g.1⟩⟩
  ·rw [brn ct]
   refine .inr ⟨_,rfl,.inr ⟨_,rfl,fun k hk=> ?_⟩⟩
   have hkl:k<l.length:=by
    obtain ⟨x,hx,_⟩:=hk
    obtain ⟨h,_⟩:=List.getElem?_eq_some_iff.1 hx
    exact h
   exact h2 k om hk
end Go.AI.Fn
set_option linter.unusedVariables false
namespace Go.AI.Fn
theorem lX {k:Int} (h:0≤k∧k≤5):1≤aJ .i64 1 k∧aJ .i64 1 k≤4096:=by
 have:k=0∨k=1∨k=2∨k=3∨k=4∨k=5:=by omega
 rcases this with rfl|rfl|rfl|rfl|rfl|rfl<;>decide
noncomputable def oE (s:System):Bool:=
 decide (1≤s.Rows∧s.Rows≤5)&&(decide (2≤s.Cols∧s.Cols≤5)&&(decide (0≤s.Publics∧s.Publics≤aJ .i64 1 (s.Cols-1)-1)&&
  (i7 s.A (aJ .i64 1 s.Rows) (aJ .i64 1 s.Cols)&&(i7 s.B (aJ .i64 1 s.Rows) (aJ .i64 1 s.Cols)&&i7 s.C (aJ .i64 1 s.Rows) (aJ .i64 1 s.Cols)))))
theorem rX {s:System} (hA:s.A.length≤1099511627776) (hB:s.B.length≤1099511627776) (hC:s.C.length≤1099511627776):i4 s=some (oE s):=by
 unfold i4 oE
 simp only [Kh,obs]
 by_cases h1:1≤s.Rows∧s.Rows≤5
 ·rw [ua h1]
  by_cases h2:2≤s.Cols∧s.Cols≤5
  ·rw [ua h2]
   have k1:=lX (k:=s.Rows) om
   have k2:=lX (k:=s.Cols) om
   have k3:=lX (k:=s.Cols-1) om
   unfold ft bH
   rw [ae (s.Cols-1) om om,brd om]
   simp only [obs]
   rw [ae (aJ .i64 1 (s.Cols-1)-1) om om]
   by_cases h3:0≤s.Publics∧s.Publics≤aJ .i64 1 (s.Cols-1)-1
   ·rw [ua h3,brd om,brd om,ko hA k1 k2]
    simp only [obs]
    rw [decide_eq_true h1,decide_eq_true h2,decide_eq_true h3]
    cases i7 s.A (aJ .i64 1 s.Rows) (aJ .i64 1 s.Cols)
    ·rfl
    ·simp only [Bool.not_true,aA]
     rw [brd om,brd om,ko hB k1 k2]
     simp only [obs]
     cases i7 s.B (aJ .i64 1 s.Rows) (aJ .i64 1 s.Cols)
     ·rfl
     ·simp only [Bool.not_true,aA]
      rw [brd om,brd om,ko hC k1 k2]
      simp only [obs]
      cases i7 s.C (aJ .i64 1 s.Rows) (aJ .i64 1 s.Cols)<;>rfl
   ·rw [u2 h3,decide_eq_true h1,decide_eq_true h2,decide_eq_false h3];rfl
  ·rw [u2 h2,decide_eq_true h1,decide_eq_false h2];rfl
 ·rw [u2 h1,decide_eq_false h1];rfl
theorem sm (s:System):hG s=some (oE s):=by
 unfold hG oE
 simp only [Ke,obs]
 by_cases h1:1≤s.Rows∧s.Rows≤5
 ·rw [brd h1]
  by_cases h2:2≤s.Cols∧s.Cols≤5
  ·rw [brd h2]
   have k1:=lX (k:=s.Rows) om
   have k2:=lX (k:=s.Cols) om
   have k3:=lX (k:=s.Cols-1) om
   rw [ae (s.Cols-1) om om,jG (s.Cols-1) om om,brd om,ae (aJ .i64 1 (s.Cols-1)-1) om om]
   by_cases h3:0≤s.Publics∧s.Publics≤aJ .i64 1 (s.Cols-1)-1
   ·rw [brd h3,tZ om om rfl rfl k1 k2,tZ om om rfl rfl k1 k2,tZ om om rfl rfl k1 k2]
    rw [decide_eq_true h1,decide_eq_true h2,decide_eq_true h3]
    cases i7 s.A (aJ .i64 1 s.Rows) (aJ .i64 1 s.Cols)<;>cases i7 s.B (aJ .i64 1 s.Rows) (aJ .i64 1 s.Cols)<;>cases i7 s.C (aJ .i64 1 s.Rows) (aJ .i64 1 s.Cols)<;>rfl
   ·rw [brn h3,decide_eq_true h1,decide_eq_true h2,decide_eq_false h3];rfl
  ·rw [brn h2,decide_eq_true h1,decide_eq_false h2];rfl
 ·rw [brn h1,decide_eq_false h1];rfl
theorem ph {s:System} (h:oE s=true):(1≤s.Rows∧s.Rows≤5)∧(2≤s.Cols∧s.Cols≤5)∧(0≤s.Publics∧s.Publics≤4096)∧s.A.length≤200∧s.B.length≤200∧s.C.length≤200:=by
 unfold oE at h
 simp only [Bool.and_eq_true,decide_eq_true_eq] at h
 obtain ⟨h1,h2,h3,h4,h5,h6⟩:=h
 have k3:=lX (k:=s.Cols-1) om
 exact ⟨h1,h2,by omega,r9 h4,r9 h5,r9 h6⟩
def setB (t:bD):Bool:=decide (1≤t.Rate∧t.Rate≤3)&&(decide (1≤t.Queries∧t.Queries≤8)&&decide (0≤t.Grind∧t.Grind≤12))
theorem xM {a:List Entry} {left:Int} (ha:a.length≤9223372036854775807) (h0: -1≤left) (h1:left≤1048576): ∃r,dZ a left=some r∧ -1≤r∧r≤1048576∧(0≤r→a.length≤1048576):=by
 unfold dZ
 rw [ae _ om om]
 by_cases c:left-(a.length:Int)<0
 ·rw [brd c];exact ⟨_,rfl,by omega,by omega,by omega⟩
 ·rw [brn c];exact ⟨_,rfl,by omega,by omega,by omega⟩
theorem Nt {s:System} {left:Int} (hA:s.A.length≤9223372036854775807) (hB:s.B.length≤9223372036854775807) (hC:s.C.length≤9223372036854775807) (h0: -1≤left) (h1:left≤1048576):
 ∃r,i6 s left=some r∧ -1≤r∧r≤1048576∧(0≤r→s.A.length≤1048576∧s.B.length≤1048576∧s.C.length≤1048576):=by
 unfold i6
 obtain ⟨a,ea,a0,a1,a2⟩:=xM (left:=left) hA om om
 rw [ea]
 simp only [obs]
 by_cases ca:a<0
 ·rw [brd ca];exact ⟨_,rfl,by omega,by omega,by omega⟩
 rw [brn ca]
 obtain ⟨b,eb,b0,b1,b2⟩:=xM (left:=a) hB a0 a1
 rw [eb]
 simp only [obs]
 by_cases cb:b<0
 ·rw [brd cb];exact ⟨_,rfl,by omega,by omega,by omega⟩
 rw [brn cb]
 obtain ⟨c,ec,c0,c1,c2⟩:=xM (left:=b) hC b0 b1
 rw [ec]
 simp only [obs]
 by_cases cc:c<0
 ·rw [brd cc];exact ⟨_,rfl,by omega,by omega,by omega⟩
 rw [brn cc]
 exact ⟨_,rfl,by omega,by omega,fun _=>⟨a2 om,b2 om,c2 om⟩⟩
theorem zh {a:List Entry} (ha:a.length≤1048576):e7 a=some a:=by
 unfold e7
 have hm:nw ((a.length:Nat):Int) ((a.length:Nat):Int) 24=true:=by
  have h24:((a.length:Nat):Int)*((24:Nat):Int)≤((aC:Nat):Int):=by simp only [aC];omega
  unfold nw;rw [decide_eq_true (show (0:Int)≤((a.length:Nat):Int) by omega),decide_eq_true (Int.le_refl _),decide_eq_true h24];rfl
 rw [r5 hm]
 have key:=mQ (step:=dg a) (fun s=>0≤s.2∧s.2≤a.length∧s.1.length=a.length∧ ∀k:Nat,(k:Int)<s.2→s.1[k]? =a[k]?) (fun s=>(a.length-s.2).toNat)
  (fun e=>e.1=a) ?_ ((List.replicate (((a.length:Nat):Int).toNat) (Entry.mk (0:Int) (0:Int) (0:Int))),(0:Int)) ⟨by simp,by simp,by simp,fun k (hk:(k:Int)<0)=>by omega⟩
 ·obtain ⟨e,he,h⟩:=key
  rw [he];simp only [obs,h]
 ·rintro ⟨l,i⟩ ⟨h0,h1,hl,h2⟩
  dsimp only at h0 h1 hl h2
  simp only [dg]
  by_cases c:i<(a.length:Int)
  ·obtain ⟨x,rest,e1,e2,e3⟩:=fb (l:=a) (i:=i.toNat) om
   obtain ⟨y,rest2,f1,f2,f3⟩:=fb (l:=l) (i:=i.toNat) om
   rw [brd c,l7 h0 e3]
   simp only [obs,kZ]
   rw [brd h0,brd om,f3]
   simp only [obs]
   rw [ae (i+1) om om]
   refine .inl ⟨_,rfl,⟨by dsimp only;omega,by dsimp only;omega,by simp [hl],fun k hk=> ?_⟩,by dsimp only;omega⟩
   dsimp only at hk ⊢
   rw [List.getElem?_set]
   by_cases e:i.toNat=k
   ·rw [if_pos e,if_pos om, ←e,e3]
   ·rw [if_neg e];exact h2 k om
  ·rw [brn c]
   refine .inr ⟨_,rfl, ?_⟩
   apply List.ext_getElem?
   intro k
   show l[k]? =a[k]?
   by_cases hk:k<a.length
   ·exact h2 k om
   ·rw [List.getElem?_eq_none om,List.getElem?_eq_none om]
theorem zf {a:List Entry} (ha:a.length≤1048576):dW a a=some true:=by
 unfold dW
 rw [it rfl]
 have key:=mQ (step:=dh a a) (fun t=>0≤t∧t≤a.length) (fun t=>(a.length-t).toNat) (fun e=> ∃p,e= .inr p) ?_ 0 ⟨by omega,by omega⟩
 ·obtain ⟨e,he,p,rfl⟩:=key
  rw [he];rfl
 ·intro t ⟨h0,h1⟩
  simp only [dh]
  by_cases c:t<(a.length:Int)
  ·left
   obtain ⟨x,r,e1,e2,e3⟩:=fb (l:=a) (i:=t.toNat) om
   rw [brd c,l7 h0 e3]
   simp only [obs,lf]
   rw [it rfl,it rfl,it rfl]
   simp only [obs,Bool.not_true,aA]
   rw [ae (t+1) om om]
   exact ⟨_,rfl,⟨by omega,by omega⟩,by omega⟩
  ·right
   rw [brn c]
   exact ⟨_,rfl,_,rfl⟩
theorem La {s:System} (hA:s.A.length≤1048576) (hB:s.B.length≤1048576) (hC:s.C.length≤1048576):i5 s s=some true:=by
 unfold i5
 rw [it rfl,it rfl,it rfl,zf hA,zf hB,zf hC];rfl
end Go.AI.Fn
set_option linter.unusedVariables false
set_option linter.unusedSimpArgs false
namespace Go.AI.Fn
theorem I0 {k:Nat} (h:k≤62):aJ .i64 1 (k:Int)=((2^k:Nat):Int):=by
 have h2: ∀k:Nat,k<63→(2:Int)^k≤4611686018427387904∧0<(2:Int)^k:=by decide
 obtain ⟨h3,h4⟩:=h2 k om
 show IntKind.wrap .i64 (1*2^(min ((k:Int).toNat) 64))=_
 rw [Int.toNat_natCast,Nat.min_eq_left om,Int.one_mul,ae _ om om]
 simp
theorem xS: ∀k:Nat,k≤5→1≤2^k∧2^k≤32:=by decide
end Go.AI.Fn
set_option linter.unusedVariables false
namespace Go.AI.Fn
end Go.AI.Fn
set_option linter.unusedVariables false
set_option linter.unusedSimpArgs false
namespace Go.AI.Fn
end Go.AI.Fn
set_option linter.unusedVariables false
set_option linter.unusedSimpArgs false
namespace Go.AI.Fn
structure OkT (kind n:Nat) (T:List (List K)):Prop where
 kd:kind=1∨kind=2
 len:T.length=2*kind
 tab: ∀i,i<T.length→(T.getD i []).length=n
theorem OkT.bd {kind n:Nat} {T:List (List K)} (h:OkT kind (2*n) T) (r:K):OkT kind n (bdK r T):=⟨h.kd,by simp [bdK,h.len],fun i hi=>by
 rw [HC]
 exact A1 r _ n (h.tab i (by simpa [bdK] using hi))⟩
variable {kind n:Nat} {T:List (List K)}
end Go.AI.Fn
set_option linter.unusedVariables false
set_option linter.unusedSimpArgs false
namespace Go.AI.Fn
end Go.AI.Fn
set_option linter.unusedVariables false
set_option linter.unusedSimpArgs false
namespace Go.AI.Fn
abbrev xo (a b:Int):Int:=my .u64 a b
def rot (x s:Int):Int:=if s=0 then x else qU .u64 (aJ .u64 x s) (px .u64 x (64-s))
end Go.AI.Fn
set_option linter.unusedVariables false
set_option linter.unusedSimpArgs false
namespace Go.AI.Fn
abbrev g (l:List Int) (i:Int):Int:=l.getD i.toNat 0
def Mv:List Int:=[0,1,62,28,27,36,44,6,55,20,3,10,43,25,39,41,45,15,21,8,18,2,61,56,14]
def p2 (m:List Int) (k:Nat) (l:List Int):List Int:=l.set ((k:Int)%5).toNat (xo (g l ((k:Int)%5)) (g m k))
def p3 (m c:List Int) (k:Nat) (l:List Int):List Int:=
 l.set ((k:Int)/5+5*((2*((k:Int)%5)+3*((k:Int)/5))%5)).toNat (rot (xo (g m k) (xo (g c (((k:Int)%5+4)%5)) (rot (g c (((k:Int)%5+1)%5)) 1))) (g Mv k))
def p4 (b:List Int) (k:Nat) (l:List Int):List Int:=
 l.set k (xo (g b k) (xO .u64 (g b ((k:Int)-(k:Int)%5+((k:Int)%5+2)%5)) (g b ((k:Int)-(k:Int)%5+((k:Int)%5+1)%5))))
def KJ (m:List Int) (rc:Int):List Int:=
 let c:=iU (p2 m) 25 (nZ 5)
 let b:=iU (p3 m c) 25 (nZ 25)
 let r:=iU (p4 b) 25 m
 r.set 0 (xo (r.getD 0 0) rc)
end Go.AI.Fn
set_option linter.unusedVariables false
set_option linter.unusedSimpArgs false
namespace Go.AI.Fn
end Go.AI.Fn
set_option linter.unusedVariables false
set_option linter.unusedSimpArgs false
set_option maxRecDepth 10000
namespace Go.AI.Fn
def rcL:List Int:=[1,32898,9223372036854808714,9223372039002292224,32907,2147483649,9223372039002292353,9223372036854808585,138,136,2147516425,2147483658,2147516555,9223372036854775947,9223372036854808713,9223372036854808579,9223372036854808578,9223372036854775936,32778,9223372039002259466,9223372039002292353,9223372036854808704,2147483649,9223372039002292232]
def rdP (k:Nat) (m:List Int):List Int:=KJ m (rcL.getD k 0)
def OO (m:List Int):List Int:=iU rdP 24 m
def lnS (t:List UInt8) (k:Nat) (l:List Int):List Int:=l.set ((k:Int)/8).toNat (qU .u64 (g l ((k:Int)/8)) (aJ .u64 (IntKind.wrap .u64 ((t.getD k 0).toNat:Int)) (8*((k:Int)%8))))
def MA (t:List UInt8):List Int:=iU (lnS t) t.length (nZ 25)
def txB (m:List Int) (i:Nat):UInt8:=UInt8.ofInt (px .u64 (g m ((i:Int)/8)) (8*((i:Int)%8)))
def E9 (m:List Int) (n:Nat):List UInt8:=(List.range n).map (txB m)
theorem Cr (m:List Int) (n:Nat):(E9 m n).length=n:=by simp [E9]
end Go.AI.Fn
set_option linter.unusedVariables false
set_option linter.unusedSimpArgs false
namespace Go.AI.Fn
def xoS (t:List Int) (k:Nat) (l:List Int):List Int:=l.set k (xo (g l k) (g t k))
def Pw (t m:List Int):List Int:=iU (xoS t) 25 m
def PH (a:List UInt8) (k:Nat) (m:List Int):List Int:=OO (Pw (MA ((a.drop (136*k)).take 136)) m)
def PS (a:List UInt8) (n:Nat):List Int:=iU (PH a) n (nZ 25)
def JI (l:List UInt8):List UInt8:=l++List.replicate ((136-l.length%136)%136) 0
def PI (b:List UInt8):List UInt8:=(JI (b++[1])).set ((JI (b++[1])).length-1) (UInt8.ofInt (qU .u8 (((JI (b++[1])).getD ((JI (b++[1])).length-1) 0).toNat:Int) 128))
def H (b:List UInt8):List UInt8:=E9 (PS (PI b) ((b.length+136)/136)) 32
theorem NS (b:List UInt8):(H b).length=32:=Cr _ _
end Go.AI.Fn
set_option linter.unusedVariables false
namespace Go.AI.Fn
def PA (n:Int):List UInt8:=[UInt8.ofInt (px .i64 n 24),UInt8.ofInt (px .i64 n 16),UInt8.ofInt (px .i64 n 8),UInt8.ofInt n]
end Go.AI.Fn
set_option linter.unusedVariables false
namespace Go.AI.Fn
theorem Q1 {l:List UInt8} (h:8≤l.length): ∃a b c d e f g k r,l=a::b::c::d::e::f::g::k::r:=by
 match l,h with
 |a::b::c::d::e::f::g::k::r,_=>exact ⟨a,b,c,d,e,f,g,k,r,rfl⟩
end Go.AI.Fn
set_option linter.unusedVariables false
set_option linter.unusedSimpArgs false
namespace Go.AI.Fn
def PW:List UInt8:=[97,98,115,111,114,98]
structure Fh (s:Source):Prop where
 len:s.Script.length≤64
 scr:cJ s.Script
 st:s.State.length=32
 a0:0≤s.At
 a1:s.At≤1000000
 c0:0≤s.Count
 c1:s.Count≤1000000
end Go.AI.Fn
set_option linter.unusedVariables false
set_option linter.unusedSimpArgs false
namespace Go.AI.Fn
def tkM (s:Source) (t:List UInt8):Source:=⟨s.Script,s.At,H (s.State++(PW++(PA t.length++t))),0⟩
theorem LK {s:Source} (t:List UInt8) (h:Fh s):Fh (tkM s t):=⟨h.1,h.2,NS _,h.4,h.5,by simp [tkM],by simp [tkM]⟩
structure Few (s:Source) (k:Int):Prop where
 ok:Fh s
 a:s.At≤k
 c:s.Count≤k
theorem Few.take {s:Source} {k:Int} (h:Few s k) (t:List UInt8):Few (tkM s t) (k+1):=⟨LK t h.1,by have:=h.2;simp [tkM];omega,by have:=h.3;have:=h.1.c0;simp [tkM];omega⟩
end Go.AI.Fn
set_option linter.unusedVariables false
set_option linter.unusedSimpArgs false
namespace Go.AI.Fn
variable {s:Source} {k:Int}
end Go.AI.Fn
set_option linter.unusedVariables false
set_option linter.unusedSimpArgs false
namespace Go.AI.Fn
def toK (x:Ext):K:=⟨⟨x.A%2130706433,x.B%2130706433⟩,⟨dL _,dL _⟩⟩
theorem pk {x:Ext} (h:okE x):(toK x).1=x:=zm (pP h.1) (pP h.2)
variable {kind:Nat} {bh:List K→Source→Source}
theorem K7 (v:Nat):2^(v+1)=2*2^v:=by rw [Nat.pow_succ,Nat.mul_comm]
theorem OkT.up {v:Nat} {T:List (List K)} (h:OkT kind (2^(v+1)) T) (r:K):OkT kind (2^v) (bdK r T):=by
 rw [K7] at h;exact h.bd r
noncomputable instance Pf:DecidableEq K:=fun a b=>Classical.propDecidable _
variable {bv:Nat→Source→Source}
end Go.AI.Fn
set_option linter.unusedVariables false
set_option linter.unusedSimpArgs false
namespace Go.AI.Fn
structure OkM (l:List Entry) (R C:Int):Prop where
 len:l.length≤200
 ent: ∀x∈l,inE R C x
 srt: ∀k (hk:k<l.length), ∀y∈l.take k,ltE y l[k]
theorem B4 {x y z:Entry} (h:ltE x y) (g:ltE y z):ltE x z:=by unfold ltE at*;omega
open Classical in
theorem um {l:List Entry} {R C:Int} (h:i7 l R C=true):OkM l R C:=by
 unfold i7 at h
 obtain ⟨hl,hb⟩:=of_decide_eq_true h
 refine ⟨hl,fun x hx=> ?_,fun k=> ?_⟩
 ·obtain ⟨k,hk,rfl⟩:=List.getElem_of_mem hx
  by_cases c:inE R C l[k]
  ·exact c
  ·exact absurd ⟨_,kn hk,.inl c⟩ (hb k)
 ·induction k with
  |zero=>intro hk y hy;simp at hy
  |succ k ih=>
   intro hk y hy
   rw [fj om] at hy
   have hlt:ltE l[k] l[k+1]:=by
    by_cases c:ltE l[k] l[k+1]
    ·exact c
    ·exact absurd ⟨_,kn hk,.inr ⟨by omega,_,kn om,c⟩⟩ (hb (k+1))
   rcases List.mem_append.1 hy with hy|hy
   ·exact B4 (ih om y hy) hlt
   ·rw [List.mem_singleton.1 hy];exact hlt
theorem Dc {R C:Int} {x:Entry} (h:inE R C x):okF x.Value:=⟨by have:=h.2.2.1;omega,h.2.2.2⟩
end Go.AI.Fn
set_option linter.unusedVariables false
set_option linter.unusedSimpArgs false
namespace Go.AI.Fn
def btS (β:K) (R T:List K) (x:Entry):List K:=T.set x.Col.toNat (T.getD x.Col.toNat 0+β*R.getD x.Row.toNat 0*kF x.Value)
theorem dQ (β:K) (R:List K): ∀(l:List Entry) (T:List K),(l.foldl (btS β R) T).length=T.length
 |[],T=>rfl
 |x::l,T=>by rw [List.foldl_cons,dQ β R l,btS,List.length_set]
theorem CT (l:List K) (j:Nat) (x:K):(kv l).set j x.1=kv (l.set j x):=by simp [kv,List.map_set]
theorem rt {R T:List K} {β:K} {l t t2 t3 c4 c5 c6:List Entry} {t4 c c2 c3 c9 c10 c11 c12 RR CC:Int} (hm:OkM l RR CC) (hR:(R.length:Int)=RR) (hT:(T.length:Int)=CC):
 Loop (bA (kv R) t t2 t3 t4 l ((l.length:Nat):Int) c c2 c3 c4 c5 c6 β.1.A β.1.B c9 c10 c11 c12) (kv T,0)=some (kv (l.foldl (btS β R) T),(l.length:Int),false):=by
 have hl:=hm.len
 have key:=cn (step:=bA (kv R) t t2 t3 t4 l ((l.length:Nat):Int) c c2 c3 c4 c5 c6 β.1.A β.1.B c9 c10 c11 c12) (fun j=>(kv ((l.take j).foldl (btS β R) T),(j:Int))) l.length (e:=(kv (l.foldl (btS β R) T),(l.length:Int),false)) (fun j hj=> ?_) ?_
 ·exact key
 ·simp only [bA]
  obtain ⟨hr,hc,_⟩:=hm.ent _ (List.getElem_mem hj)
  have hv:=Dc (hm.ent _ (List.getElem_mem hj))
  have hn:=dQ β R (l.take j) T
  have hrow:atL (kv R) l[j].Row=some (R.getD l[j].Row.toNat 0).1:=by
   have:=Fx (l:=R) (j:=l[j].Row.toNat) om
   rwa [Int.toNat_of_nonneg hr.1] at this
  rw [brd om,dR hj,obs,brd hc.1,brd (by rw [eJ,hn];omega),zp om,obs,hrow,obs,show Ext.mk β.1.A β.1.B=β.1 from rfl,m4 β.2 (Subtype.property _),obs,wO (sA _ _) hv,obs,
   BH (Subtype.property _) (Ov _ _),obs,brd hc.1,brd (by rw [eJ,hn];omega),obs,ae _ om om,NZ, ←Ex hv,fj hj,List.foldl_append]
  show some (Sum.inl ((kv _).set l[j].Col.toNat ((List.foldl (btS β R) T (l.take j)).getD l[j].Col.toNat 0+β*R.getD l[j].Row.toNat 0*kF l[j].Value).1,_))=_
  rw [CT];rfl
 ·simp only [bA]
  rw [brn om,decide_eq_false om,List.take_length]
end Go.AI.Fn
set_option linter.unusedVariables false
set_option linter.unusedSimpArgs false
namespace Go.AI.Fn
def JA (out:List K) (p:K):List K:=out.map (fun a=>a*(1-p))++out.map (fun a=>a*p)
def eqK (P:List K):List K:=P.foldl JA [1]
theorem Nb (out:List K) (p:K):eqS (kv out) p.1=kv (JA out p):=by
 simp only [eqS,kv,JA,List.map_append,List.map_map];rfl
theorem G4: ∀(P out:List K),(kv P).foldl eqS (kv out)=kv (P.foldl JA out)
 |[],out=>rfl
 |p::P,out=>by
  show (kv P).foldl eqS (eqS (kv out) p.1)=_
  rw [Nb,G4 P];rfl
theorem Do (P:List K):eqT (kv P)=kv (eqK P):=G4 P [1]
variable {kind:Nat} {bh:List K→Source→Source}
end Go.AI.Fn
set_option linter.unusedVariables false
set_option linter.unusedSimpArgs false
namespace Go.AI.Fn
end Go.AI.Fn
set_option linter.unusedVariables false
set_option linter.unusedSimpArgs false
namespace Go.AI.Fn
abbrev Tx:=List UInt8
def Ou (t:Tx):Tx:=0::t
def hL (t:Tx):Tx:=H (Ou t)
def Hs (l:List Tx):Prop:= ∀x∈l,x.length=32
theorem Hs.getD {l:List Tx} (h:Hs l) {k:Nat} (hk:k<l.length):(l.getD k []).length=32:=by simp [hk];exact h _ (List.getElem_mem hk)
end Go.AI.Fn
set_option linter.unusedVariables false
set_option linter.unusedSimpArgs false
namespace Go.AI.Fn
end Go.AI.Fn
set_option linter.unusedVariables false
set_option linter.unusedSimpArgs false
namespace Go.AI.Fn
end Go.AI.Fn
set_option linter.unusedVariables false
set_option linter.unusedSimpArgs false
namespace Go.AI.Fn
end Go.AI.Fn
set_option linter.unusedVariables false
set_option linter.unusedSimpArgs false
namespace Go.AI.Fn
def PL (n:Nat) (p:Nat→Bool):Bool:=(List.range n).all p
def h32 (x:List UInt8):Bool:=decide (x.length=32)
def PY (vars:Int) (t:bD) (q:dc) (j:Nat):Bool:=decide (((q.Paths.getD j []).length:Int)=vars+t.Rate-1-j)&&(q.Paths.getD j []).all h32
def PD (vars:Int) (t:bD) (q:dc):Bool:=decide ((q.Pairs.length:Int)=2*vars)&&(q.Pairs.all iY&&(decide ((q.Paths.length:Int)=vars)&&PL vars.toNat (PY vars t q)))
structure SmO (o:aN):Prop where
 rn:o.Rounds.length≤1099511627776
 rr: ∀g∈o.Rounds,g.length≤1099511627776
 ro:o.Roots.length≤1099511627776
 qn:o.Queries.length≤1099511627776
 qp: ∀q∈o.Queries,q.Pairs.length≤1099511627776
 qt: ∀q∈o.Queries, ∀p∈q.Paths,p.length≤1099511627776
end Go.AI.Fn
set_option linter.unusedVariables false
set_option linter.unusedSimpArgs false
namespace Go.AI.Fn
end Go.AI.Fn
set_option linter.unusedVariables false
set_option linter.unusedSimpArgs false
namespace Go.AI.Fn
end Go.AI.Fn
set_option linter.unusedVariables false
set_option linter.unusedSimpArgs false
namespace Go.AI.Fn
end Go.AI.Fn
set_option linter.unusedVariables false
set_option linter.unusedSimpArgs false
namespace Go.AI.Fn
variable {kind:Nat}
end Go.AI.Fn
set_option linter.unusedVariables false
set_option linter.unusedSimpArgs false
namespace Go.AI.Fn
variable {v ρ:Nat} {t P:List K} {s:Source} {k:Int}
end Go.AI.Fn
set_option linter.unusedVariables false
set_option linter.unusedSimpArgs false
namespace Go.AI.Fn
end Go.AI.Fn
set_option linter.unusedVariables false
set_option linter.unusedSimpArgs false
namespace Go.AI.Fn
def Pv (due:Option K) (x:K):Prop:= ∃d,due=some d∧x≠d
noncomputable instance KQ (due:Option K) (x:K):Decidable (Pv due x):=Classical.propDecidable _
variable {v ρ:Nat} {t P:List K} {s:Source} {k:Int}
end Go.AI.Fn
set_option linter.unusedVariables false
set_option linter.unusedSimpArgs false
namespace Go.AI.Fn
end Go.AI.Fn
set_option linter.unusedVariables false
set_option linter.unusedSimpArgs false
namespace Go.AI.Fn
end Go.AI.Fn
set_option linter.unusedVariables false
set_option linter.unusedSimpArgs false
namespace Go.AI.Fn
end Go.AI.Fn
set_option linter.unusedVariables false
set_option linter.unusedSimpArgs false
namespace Go.AI.Fn
variable {v ρ:Nat} {t P:List K} {s:Source} {k:Int}
end Go.AI.Fn
set_option linter.unusedVariables false
set_option linter.unusedSimpArgs false
namespace Go.AI.Fn
end Go.AI.Fn
set_option linter.unusedVariables false
set_option linter.unusedSimpArgs false
namespace Go.AI.Fn
structure BoO (o:aN):Prop where
 rn:o.Rounds.length≤6
 rr: ∀g∈o.Rounds,g.length≤3
 ro:o.Roots.length≤6
 rh: ∀x∈o.Roots,x.length≤32
 qn:o.Queries.length≤8
 qp: ∀q∈o.Queries,q.Pairs.length≤12
 qt: ∀q∈o.Queries,q.Paths.length≤6
 qq: ∀q∈o.Queries, ∀p∈q.Paths,p.length≤8∧ ∀x∈p,x.length≤32
structure OkO (o:aN) (v:Nat) (t:bD):Prop where
 v1:1≤v∧v≤6
 st:setB t=true
 rn:o.Rounds.length=v
 rr: ∀g∈o.Rounds,g.length=3∧cJ g
 ro:o.Roots.length=v-1
 rh: ∀x∈o.Roots,x.length=32
 la:okE o.Last
 no:0≤o.Nonce∧o.Nonce≤65535
 qn:(o.Queries.length:Int)=t.Queries
 qq: ∀q∈o.Queries,PD (v:Int) t q=true
variable {o:aN} {v:Nat} {t:bD}
end Go.AI.Fn
set_option linter.unusedVariables false
set_option linter.unusedSimpArgs false
namespace Go.AI.Fn
variable {o:aN} {v ρ:Nat} {t:bD} {root:List UInt8} {D:List K} {q:dc}
end Go.AI.Fn
set_option linter.unusedVariables false
set_option linter.unusedSimpArgs false
namespace Go.AI.Fn
end Go.AI.Fn
set_option linter.unusedVariables false
set_option linter.unusedSimpArgs false
namespace Go.AI.Fn
variable {o:aN} {v ρ nq bits:Nat} {t:bD} {root:List UInt8} {D P:List K} {s:Source} {k:Int}
end Go.AI.Fn
set_option linter.unusedVariables false
set_option linter.unusedSimpArgs false
namespace Go.AI.Fn
variable {o:aN} {v ρ nq bits:Nat} {t:bD} {root:List UInt8} {P:List K} {cl:K} {s:Source} {k:Int}
end Go.AI.Fn
set_option linter.unusedVariables false
set_option linter.unusedSimpArgs false
namespace Go.AI.Fn
variable {o:aN} {v ρ nq bits:Nat} {t:bD} {root:List UInt8} {P:List K} {cl:K} {s:Source} {k:Int}
end Go.AI.Fn
set_option linter.unusedVariables false
set_option linter.unusedSimpArgs false
namespace Go.AI.Fn
variable {o:aN} {v ρ nq bits:Nat} {t:bD} {root:List UInt8} {P:List K} {cl:K} {s:Source} {k:Int}
end Go.AI.Fn
set_option linter.unusedVariables false
set_option linter.unusedSimpArgs false
namespace Go.AI.Fn
end Go.AI.Fn
set_option linter.unusedVariables false
set_option linter.unusedSimpArgs false
namespace Go.AI.Fn
end Go.AI.Fn
set_option linter.unusedVariables false
set_option linter.unusedSimpArgs false
namespace Go.AI.Fn
theorem Dl {R T:List K} {β:K} {l t t2 t3 c4 c5 c6:List Entry} {c c2 c3 c7 c8 c11 c12 RR CC:Int} (hm:OkM l RR CC) (hR:(R.length:Int)=RR) (hT:(T.length:Int)=CC):
 Loop (dx (kv R) t t2 t3 l ((l.length:Nat):Int) c c2 c3 c4 c5 c6 c7 c8 β.1.A β.1.B c11 c12) (kv T,0)=some (kv (l.foldl (btS β R) T),(l.length:Int),false):=
 rt (t:=t) (t2:=t2) (t3:=t3) (t4:=0) (c:=c) (c2:=c2) (c3:=c3) (c4:=c4) (c5:=c5) (c6:=c6) (c9:=0) (c10:=0) (c11:=0) (c12:=0) hm hR hT
theorem DG {R T:List K} {β:K} {l t t2 t3 c4 c5 c6:List Entry} {c c2 c3 c7 c8 c9 c10 RR CC:Int} (hm:OkM l RR CC) (hR:(R.length:Int)=RR) (hT:(T.length:Int)=CC):
 Loop (dt (kv R) t t2 t3 l ((l.length:Nat):Int) c c2 c3 c4 c5 c6 c7 c8 c9 c10 β.1.A β.1.B) (kv T,0)=some (kv (l.foldl (btS β R) T),(l.length:Int),false):=
 rt (t:=t) (t2:=t2) (t3:=t3) (t4:=0) (c:=c) (c2:=c2) (c3:=c3) (c4:=c4) (c5:=c5) (c6:=c6) (c9:=0) (c10:=0) (c11:=0) (c12:=0) hm hR hT
def btM (s:System) (R:List K) (x y z:K):List K:=s.C.foldl (btS z R) (s.B.foldl (btS y R) (s.A.foldl (btS x R) (List.replicate (2^s.Cols.toNat) 0)))
theorem Jn (s:System) (R:List K) (x y z:K):(btM s R x y z).length=2^s.Cols.toNat:=by rw [btM,dQ,dQ,dQ,List.length_replicate]
theorem A3 (n:Nat):kv (List.replicate n 0)=List.replicate n e0:=by rw [kv,List.map_replicate];rfl
theorem xc {s:System} (h:oE s=true):OkM s.A ((2^s.Rows.toNat:Nat):Int) ((2^s.Cols.toNat:Nat):Int)∧OkM s.B ((2^s.Rows.toNat:Nat):Int) ((2^s.Cols.toNat:Nat):Int)∧OkM s.C ((2^s.Rows.toNat:Nat):Int) ((2^s.Cols.toNat:Nat):Int)∧
 i7 s.A ((2^s.Rows.toNat:Nat):Int) ((2^s.Cols.toNat:Nat):Int)=true∧i7 s.B ((2^s.Rows.toNat:Nat):Int) ((2^s.Cols.toNat:Nat):Int)=true∧i7 s.C ((2^s.Rows.toNat:Nat):Int) ((2^s.Cols.toNat:Nat):Int)=true:=by
 obtain ⟨hR,hC,_⟩:=ph h
 have e1:s.Rows=((s.Rows.toNat:Nat):Int):=by omega
 have e2:s.Cols=((s.Cols.toNat:Nat):Int):=by omega
 have f1:aJ .i64 1 s.Rows=((2^s.Rows.toNat:Nat):Int):=by conv=>lhs;rw [e1];rw [I0 om]
 have f2:aJ .i64 1 s.Cols=((2^s.Cols.toNat:Nat):Int):=by conv=>lhs;rw [e2];rw [I0 om]
 unfold oE at h
 simp only [Bool.and_eq_true,decide_eq_true_eq,f1,f2] at h
 obtain ⟨_,_,_,mA,mB,mC⟩:=h
 exact ⟨um mA,um mB,um mC,mA,mB,mC⟩
theorem oF {s:System} (h:oE s=true) {p R:List K} {x y z:K} (hp:p.length=s.Rows.toNat) (hR:eqT (kv p)=kv R):eT s (kv p) (x.1,y.1,z.1)=some (kv (btM s R x y z)):=by
 obtain ⟨hr,hc,_⟩:=ph h
 obtain ⟨mA,mB,mC,_⟩:=xc h
 have hpw:=xS s.Cols.toNat om
 have hRl:(R.length:Int)=((2^s.Rows.toNat:Nat):Int):=by
  have:=pm (kv p)
  rw [hR,eJ,eJ,hp] at this;omega
 have e2:s.Cols=((s.Cols.toNat:Nat):Int):=by omega
 have f2:aJ .i64 1 s.Cols=((2^s.Cols.toNat:Nat):Int):=by conv=>lhs;rw [e2];rw [I0 om]
 unfold eT bH
 rw [brd om,f2,A5 om om om,u4 (Ks p) (by rw [eJ];omega),obs,hR,obs]
 dsimp only
 rw [Int.toNat_natCast,show Ext.mk 0 0=e0 from rfl, ←A3,rt mA hRl (by rw [List.length_replicate]),obs]
 dsimp only
 rw [Dl mB hRl (by rw [dQ,List.length_replicate]),obs]
 dsimp only
 rw [DG mC hRl (by rw [dQ,dQ,List.length_replicate]),obs];rfl
end Go.AI.Fn
set_option linter.unusedVariables false
set_option linter.unusedSimpArgs false
namespace Go.AI.Fn
structure Q2 (s:System) (t:bD) (p:List Int) (src:Source):Prop where
 sy:oE s=true
 se:setB t=true
 pl:p.length≤4096
 pf:Mm p
 pe:(p.length:Int)=s.Publics
 fw:Few src 999800
theorem o1 {R T B:List K} {M:List (List Entry)} {k:Nat} {c7 c8 c9:Int} {c10 c11 c12:List Entry} {RR CC:Int} (hk:k<M.length) (hB:k<B.length) (hm:OkM (M.getD k []) RR CC) (hR:(R.length:Int)=RR) (hT:(T.length:Int)=CC):
 Loop (bf M (kv B) (kv R) (k:Int) c7 c8 c9 c10 c11 c12) (kv T,0)=some (kv ((M.getD k []).foldl (btS (B.getD k 0) R) T),((M.getD k []).length:Int),false):=by
 have hl:=hm.len
 have hMk:M[(k:Int).toNat]? =some (M.getD k []):=by rw [Int.toNat_natCast];simp [hk]
 generalize M.getD k []=l at*
 have key:=cn (step:=bf M (kv B) (kv R) (k:Int) c7 c8 c9 c10 c11 c12) (fun j=>(kv ((l.take j).foldl (btS (B.getD k 0) R) T),(j:Int))) l.length (e:=(kv (l.foldl (btS (B.getD k 0) R) T),(l.length:Int),false)) (fun j hj=> ?_) ?_
 ·exact key
 ·simp only [bf]
  obtain ⟨hr,hc,_⟩:=hm.ent _ (List.getElem_mem hj)
  have hv:=Dc (hm.ent _ (List.getElem_mem hj))
  have hn:=dQ (B.getD k 0) R (l.take j) T
  have hrow:atL (kv R) l[j].Row=some (R.getD l[j].Row.toNat 0).1:=by
   have:=Fx (l:=R) (j:=l[j].Row.toNat) om
   rwa [Int.toNat_of_nonneg hr.1] at this
  rw [brd om,brd om,hMk,obs,brd om,brd om,brd om,obs,dR hj,obs,brd hc.1,brd (by rw [eJ,hn];omega),zp om,obs,Fx hB,obs,JM,obs,hrow,obs, ←Ex hv,
   kT (kF _).2 (Subtype.property _),obs,kT (Subtype.property _) (sA _ _),obs,Az (Subtype.property _) (sA _ _),obs,brd hc.1,brd (by rw [eJ,hn];omega),obs,ae _ om om,fj hj,List.foldl_append]
  show some (Sum.inl ((kv _).set l[j].Col.toNat ((List.foldl (btS (B.getD k 0) R) T (l.take j)).getD l[j].Col.toNat 0+B.getD k 0*(kF l[j].Value*R.getD l[j].Row.toNat 0)).1,_))=_
  rw [CT,show B.getD k 0*(kF l[j].Value*R.getD l[j].Row.toNat 0)=B.getD k 0*R.getD l[j].Row.toNat 0*kF l[j].Value by exact kg];rfl
 ·simp only [bf]
  rw [brd om,brd om,hMk,obs,brn om,decide_eq_false om,List.take_length]
theorem s4 {s:System} (h:oE s=true) {p R:List K} {x y z:K} (hp:p.length=s.Rows.toNat) (hR:eqT (kv p)=kv R):hO s (kv p) (kv [x,y,z])=some (kv (btM s R x y z)):=by
 obtain ⟨hr,hc,_⟩:=ph h
 obtain ⟨mA,mB,mC,_⟩:=xc h
 have hpw:=xS s.Cols.toNat om
 have hRl:(R.length:Int)=((2^s.Rows.toNat:Nat):Int):=by
  have:=pm (kv p)
  rw [hR,eJ,eJ,hp] at this;omega
 have e2:s.Cols=((s.Cols.toNat:Nat):Int):=by omega
 have f2:aJ .i64 1 s.Cols=((2^s.Cols.toNat:Nat):Int):=by conv=>lhs;rw [e2];rw [I0 om]
 have l0:=o1 (M:=[s.A,s.B,s.C]) (B:=[x,y,z]) (k:=0) (T:=List.replicate (2^s.Cols.toNat) 0) (R:=R) (c7:=s.Rows) (c8:=s.Cols) (c9:=s.Publics) (c10:=s.A) (c11:=s.B) (c12:=s.C) (by simp) (by simp) mA hRl (by rw [List.length_replicate])
 have l1:=o1 (M:=[s.A,s.B,s.C]) (B:=[x,y,z]) (k:=1) (T:=s.A.foldl (btS x R) (List.replicate (2^s.Cols.toNat) 0)) (R:=R) (c7:=s.Rows) (c8:=s.Cols) (c9:=s.Publics) (c10:=s.A) (c11:=s.B) (c12:=s.C) (by simp) (by simp) mB hRl (by rw [dQ,List.length_replicate])
 have l2:=o1 (M:=[s.A,s.B,s.C]) (B:=[x,y,z]) (k:=2) (T:=s.B.foldl (btS y R) (s.A.foldl (btS x R) (List.replicate (2^s.Cols.toNat) 0))) (R:=R) (c7:=s.Rows) (c8:=s.Cols) (c9:=s.Publics) (c10:=s.A) (c11:=s.B) (c12:=s.C) (by simp) (by simp) mC hRl (by rw [dQ,dQ,List.length_replicate])
 simp only [List.getD_cons_zero,List.getD_cons_succ] at l0 l1 l2
 unfold hO
 rw [jG _ om om,brd om,f2,A5 om om om,tN (Ks p) (by rw [eJ];omega),obs,hR]
 rw [Int.toNat_natCast,show Ext.mk 0 0=e0 from rfl, ←A3]
 have key:=cn (step:=cE [s.A,s.B,s.C] (kv [x,y,z]) (kv R) s.Rows s.Cols s.Publics s.A s.B s.C) (fun j=>(kv (match j with
  |0=>List.replicate (2^s.Cols.toNat) 0
  |1=>s.A.foldl (btS x R) (List.replicate (2^s.Cols.toNat) 0)
  |2=>s.B.foldl (btS y R) (s.A.foldl (btS x R) (List.replicate (2^s.Cols.toNat) 0))
  |_=>btM s R x y z),(j:Int))) 3 (e:=(kv (btM s R x y z),3,false)) (fun j hj=> ?_) (by rfl)
 ·have key':Loop (cE [s.A,s.B,s.C] (kv [x,y,z]) (kv R) s.Rows s.Cols s.Publics s.A s.B s.C) (kv (List.replicate (2^s.Cols.toNat) 0),0)=_:=key
  rw [key',obs]
 ·simp only [cE]
  rw [brd om]
  match j,hj with
  |0,_=>
   show (Loop (bf [s.A,s.B,s.C] (kv [x,y,z]) (kv R) ((0:Nat):Int) s.Rows s.Cols s.Publics s.A s.B s.C) (kv (List.replicate (2^s.Cols.toNat) 0),0)).bind _=_
   rw [l0,obs];rfl
  |1,_=>
   show (Loop (bf [s.A,s.B,s.C] (kv [x,y,z]) (kv R) ((1:Nat):Int) s.Rows s.Cols s.Publics s.A s.B s.C) (kv (s.A.foldl (btS x R) (List.replicate (2^s.Cols.toNat) 0)),0)).bind _=_
   rw [l1,obs];rfl
  |2,_=>
   show (Loop (bf [s.A,s.B,s.C] (kv [x,y,z]) (kv R) ((2:Nat):Int) s.Rows s.Cols s.Publics s.A s.B s.C) (kv (s.B.foldl (btS y R) (s.A.foldl (btS x R) (List.replicate (2^s.Cols.toNat) 0))),0)).bind _=_
   rw [l2,obs];rfl
theorem Lh {L:List Ext} (h:cJ L):kv (L.map toK)=L:=by
 rw [kv,List.map_map]
 conv=>rhs;rw [←List.map_id L]
 exact List.map_congr_left fun x hx=>pk (h x hx)
end Go.AI.Fn
set_option linter.unusedVariables false
set_option linter.unusedSimpArgs false
namespace Go.AI.Fn
theorem l8 {α:Type} {x y:α} {B:List α}: ∀{A:List α} {j:Nat},A.length=j→(A++x::B).set j y=A++y::B
 |[],j,h=>by subst h;rfl
 |a::A,j,h=>by subst h;simp only [List.cons_append,List.length_cons,List.set_cons_succ,l8 rfl]
theorem mE {α:Type} {x:α} {B A:List α} {j:Nat} (h:A.length=j):(A++x::B)[j]? =some x:=by
 subst h;simp
def mkE (k:Int) (n:Nat):List Ext:=(List.range n).map fun (j:Nat)=>⟨k+2*(j:Int),k+2*(j:Int)+1⟩
theorem g7 (k:Int) (n:Nat):(mkE k n).length=n:=by simp [mkE]
theorem Dx (k:Int) (n:Nat):mkE k (n+1)=mkE k n++[⟨k+2*n,k+2*n+1⟩]:=by simp [mkE,List.range_succ]
theorem N6 (k:Int) {n j:Nat} (h:j<n):(mkE k n)[j]'(by rw [g7];exact h)=⟨k+2*j,k+2*j+1⟩:=by simp [mkE]
def mkT (k:Int) (n:Nat):List Entry:=(List.range n).map fun (j:Nat)=>⟨k+3*(j:Int),k+3*(j:Int)+1,k+3*(j:Int)+1+1⟩
theorem ij (k:Int) (n:Nat):(mkT k n).length=n:=by simp [mkT]
theorem FK (k:Int) (n:Nat):mkT k (n+1)=mkT k n++[⟨k+3*n,k+3*n+1,k+3*n+1+1⟩]:=by simp [mkT,List.range_succ]
theorem A4 {α:Type} {l:List α} {j:Nat} (h:j<l.length):l.drop j=l[j]::l.drop (j+1):=List.drop_eq_getElem_cons h
theorem uV {k:Int} {l:List Ext} (h0:0≤k) (h1:k≤1000000000000) (hl:l.length≤1048576):dy k l=some (k+2*l.length,mkE k l.length):=by
 unfold dy
 have key:Loop bC (l,k,0)=some (mkE k l.length,k+2*l.length,(l.length:Int),false):=by
  have:=cn (step:=bC) (fun j=>(mkE k j++l.drop j,k+2*j,(j:Int))) l.length (e:=(mkE k l.length,k+2*l.length,(l.length:Int),false)) (fun j hj=> ?_) ?_
  ·simpa [mkE] using this
  ·have hn:(mkE k j++l.drop j).length=l.length:=by rw [List.length_append,g7,List.length_drop];omega
   simp only [bC]
   rw [hn,brd om,brd om,brd om,A4 hj,Int.toNat_natCast,mE (g7 k j),obs,brd om,brd om,l8 (g7 k j),mE (g7 k j),obs,l8 (g7 k j),ae _ om om,ae _ om om,ae _ om om,Dx,List.append_assoc]
   have:k+2*(j:Int)+1+1=k+2*((j+1:Nat):Int):=by omega
   rw [this];rfl
  ·have hn:(mkE k l.length++l.drop l.length).length=l.length:=by rw [List.length_append,g7,List.length_drop];omega
   simp only [bC]
   rw [hn,brn om,decide_eq_false om,List.drop_length,List.append_nil]
 rw [key];rfl
theorem Ez {k:Int} {n:Nat} (h0:0≤k) (h1:k≤1000000000000) (hl:n≤1048576):fa (mkE k n) k=some (k+2*n):=by
 unfold fa
 have hn:=g7 k n
 have key:Loop (bV (mkE k n)) (k,0)=some (.inr (k+2*n,(n:Int),false)):=by
  have:=cn (step:=bV (mkE k n)) (fun j=>(k+2*j,(j:Int))) n (e:= .inr (k+2*n,(n:Int),false)) (fun j hj=> ?_) ?_
  ·simpa using this
  ·simp only [bV]
   rw [hn,brd om,dR om,obs,N6 k hj,it rfl,obs,ae _ om om,it rfl,ae _ om om,ae _ om om]
   have:k+2*(j:Int)+1+1=k+2*((j+1:Nat):Int):=by omega
   rw [this];rfl
  ·simp only [bV]
   rw [hn,brn om,decide_eq_false om]
 rw [key];rfl
theorem qh {k:Int} {l:List Entry} (h0:0≤k) (h1:k≤1000000000000) (hl:l.length≤1048576):bU k l=some (k+3*l.length,mkT k l.length):=by
 unfold bU
 have key:Loop bk (l,k,0)=some (mkT k l.length,k+3*l.length,(l.length:Int),false):=by
  have:=cn (step:=bk) (fun j=>(mkT k j++l.drop j,k+3*j,(j:Int))) l.length (e:=(mkT k l.length,k+3*l.length,(l.length:Int),false)) (fun j hj=> ?_) ?_
  ·simpa [mkT] using this
  ·have hn:(mkT k j++l.drop j).length=l.length:=by rw [List.length_append,ij,List.length_drop];omega
   simp only [bk]
   rw [hn,brd om,brd om,brd om,A4 hj,Int.toNat_natCast,mE (ij k j),obs,brd om,brd om,l8 (ij k j),mE (ij k j),obs,brd om,brd om,l8 (ij k j),mE (ij k j),obs,l8 (ij k j),ae _ om om,ae _ om om,ae _ om om,ae _ om om,FK,List.append_assoc]
   have:k+3*(j:Int)+1+1+1=k+3*((j+1:Nat):Int):=by omega
   rw [this];rfl
  ·have hn:(mkT k l.length++l.drop l.length).length=l.length:=by rw [List.length_append,ij,List.length_drop];omega
   simp only [bk]
   rw [hn,brn om,decide_eq_false om,List.drop_length,List.append_nil]
 rw [key];rfl
theorem Dj {a b c k:Int} {A B C:List Entry} (h0:0≤k) (h1:k≤1000000) (hA:A.length≤1048576) (hB:B.length≤1048576) (hC:C.length≤1048576):
 ∃r,ex a b c k A B C=some r∧0≤r.1∧r.1≤100000000:=by
 unfold ex
 rw [qh h0 om hA,obs,qh (by dsimp only;omega) (by dsimp only;omega) hB,obs,qh (by dsimp only;omega) (by dsimp only;omega) hC,obs]
 exact ⟨_,rfl,by dsimp only;omega,by dsimp only;omega⟩
theorem JT {s:System} (hA:s.A.length≤1048576) (hB:s.B.length≤1048576) (hC:s.C.length≤1048576):cI s=some (s.Rows,s.Cols,s.Publics,s.A,s.B,s.C):=by
 unfold cI
 rw [zh hA,obs,zh hB,obs,zh hC,obs]
theorem H9 {s:System} {rx:List Ext} {x y z:Ext} (hA:s.A.length≤1048576) (hB:s.B.length≤1048576) (hC:s.C.length≤1048576) (hr:rx.length≤1048576):
 ∃c L,eu s rx x y z=some (L,c)∧cS s rx x y z=some (c,L)∧L.length≤1000:=by
 unfold eu cS
 by_cases c1:rx.length>4096
 ·rw [brd om,brd om];exact ⟨_,_,rfl,rfl,by simp⟩
 rw [brn om,brn om,sm,rX om om om,obs,obs]
 cases h2:oE s
 ·exact ⟨_,_,rfl,rfl,by simp⟩
 rw [Bool.not_true,aA,aA,rv om,Bc om,obs,obs]
 cases h3:rx.all iY
 ·exact ⟨_,_,rfl,rfl,by simp⟩
 rw [Bool.not_true,aA,aA,rv (by simp),iW,obs,obs]
 cases h4:iY x
 ·rw [show [x,y,z].all iY=false by simp [h4]];exact ⟨_,_,rfl,rfl,by simp⟩
 rw [Bool.not_true,aA,iW,obs]
 cases h5:iY y
 ·rw [show [x,y,z].all iY=false by simp [h5]];exact ⟨_,_,rfl,rfl,by simp⟩
 rw [Bool.not_true,aA,iW,obs]
 cases h6:iY z
 ·rw [show [x,y,z].all iY=false by simp [h6]];exact ⟨_,_,rfl,rfl,by simp⟩
 rw [show [x,y,z].all iY=true by simp [h4,h5,h6],Bool.not_true,aA,aA]
 by_cases c7:(rx.length:Int)=s.Rows
 ·rw [it c7,it c7]
  obtain ⟨hR,hCo,_⟩:=ph h2
  have e3:kv (rx.map toK)=rx:=Lh (PB.1 h3)
  have hx:=pk (jQ.1 h4)
  have hy:=pk (jQ.1 h5)
  have hz:=pk (jQ.1 h6)
  have hp:(rx.map toK).length=s.Rows.toNat:=by rw [List.length_map];omega
  have g1:=s4 (x:=toK x) (y:=toK y) (z:=toK z) h2 hp (Do (rx.map toK))
  have g2:=oF (x:=toK x) (y:=toK y) (z:=toK z) h2 hp (Do (rx.map toK))
  rw [e3,show kv [toK x,toK y,toK z]=[x,y,z] by simp only [kv,List.map_cons,List.map_nil,hx,hy,hz]] at g1
  rw [e3,hx,hy,hz] at g2
  rw [g1,g2]
  refine ⟨_,_,rfl,rfl, ?_⟩
  rw [eJ,Jn]
  have:=xS s.Cols.toNat om
  omega
 ·rw [brb c7,brb c7];exact ⟨_,_,rfl,rfl,by simp⟩
end Go.AI.Fn
set_option linter.unusedVariables false
namespace Go.AI.Fn
theorem law_FnExactBoundTable (s:System) (rx:List Ext) (x y z:Ext) (hs:bdSystem s) (hr:bdL bdExt rx) (hx:bdExt x) (hy:bdExt y) (hz:bdExt z):cw s rx x y z=some true:=by
 obtain ⟨_,_,_,⟨hA,_⟩,⟨hB,_⟩,⟨hC,_⟩⟩:=hs
 unfold cw
 obtain ⟨r,e1,r0,r1,h1⟩:=Nt (left:=1048576) hA hB hC om om
 rw [e1,obs]
 by_cases c2:r<0
 ·rw [brd c2]
 rw [brn c2]
 obtain ⟨q,e2,q0,q1,h2⟩:=xm hr.1 r0 r1
 rw [e2,obs]
 by_cases c3:q<0
 ·rw [brd c3]
 rw [brn c3]
 obtain ⟨hA',hB',hC'⟩:=h1 om
 have hL:=h2 om
 unfold db
 rw [JT hA' hB' hC',we hL]
 simp only [obs]
 obtain ⟨c,L,i1,i2,i3⟩:=H9 (x:=x) (y:=y) (z:=z) hA' hB' hC' hL
 obtain ⟨m,m1,m2,m3⟩:=Dj (a:=s.Rows) (b:=s.Cols) (c:=s.Publics) (k:=1) om om hA' hB' hC'
 rw [i1,i2]
 simp only [obs]
 rw [ln om,La hA' hB' hC',ln hL,m1]
 simp only [obs,Bool.not_true,aA]
 rw [uV m2 om hL,uV om om (show L.length≤1048576 by omega)]
 simp only [obs]
 rw [g7,Ez om om om]
 simp only [obs]
 rw [it rfl,brn om,it rfl,brd trivial,brn om,it rfl,it rfl,brd trivial,brn om,it rfl]
end Go.AI.Fn
