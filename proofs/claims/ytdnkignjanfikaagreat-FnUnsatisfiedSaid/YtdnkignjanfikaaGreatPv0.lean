/- Plain laws for printed functions: loops whose states are told in advance; numbers; places. -/
import Derived.Test.YtdnkignjanfikaaGreatAiW
import Derived.Test.YtdnkignjanfikaaGreatFx3
import Derived.KernelRfl
set_option linter.unusedVariables false
namespace Go.AI
theorem ct {S E:Type} {step:S→Option (S⊕E)} {s s':S} (h:step s=some (.inl s')):Loop step s=Loop step s':=by rw [Ds,h];rfl
theorem dx {S E:Type} {step:S→Option (S⊕E)} {s:S} {e:E} (h:step s=some (.inr e)):Loop step s=some e:=by rw [Ds,h];rfl
theorem aH {S E:Type} {step:S→Option (S⊕E)} (F:Nat→S) (n:Nat) {e:E} (hs: ∀k,k<n→step (F k)=some (.inl (F (k+1)))) (he:step (F n)=some (.inr e)):Loop step (F 0)=some e:=by
 have key: ∀m k,k+m=n→Loop step (F k)=some e:=by
  intro m
  induction m with
  |zero=>intro k hk;have:k=n:=by omega
         subst this;exact dx he
  |succ m ih=>intro k hk;rw [ct (hs k om)];exact ih (k+1) om
 exact key n 0 om
theorem QF (P:Nat→Bool): ∀n,(∀k,k<n→P k=true)∨ ∃k,k<n∧P k=false∧ ∀j,j<k→P j=true
 |0=> .inl om
 |n+1=>by
  rcases QF P n with h|⟨k,hk,h1,h2⟩
  ·cases hn:P n
   ·exact .inr ⟨n,by omega,hn,h⟩
   ·refine .inl fun k hk=> ?_
    by_cases e:k=n
    ·subst e;exact hn
    ·exact h k om
  ·exact .inr ⟨k,by omega,h1,h2⟩
theorem sg {S E:Type} {step:S→Option (S⊕E)} (F:Nat→S) (n:Nat) (P:Nat→Bool) (x:Nat→E) {e:E} (hs: ∀k,k<n→P k=true→step (F k)=some (.inl (F (k+1))))
 (hx: ∀k,k<n→P k=false→step (F k)=some (.inr (x k))) (he:step (F n)=some (.inr e)):
 ((∀k,k<n→P k=true)∧Loop step (F 0)=some e)∨ ∃k,k<n∧P k=false∧(∀j,j<k→P j=true)∧Loop step (F 0)=some (x k):=by
 rcases QF P n with h|⟨k,hk,h1,h2⟩
 ·exact .inl ⟨h,aH F n (fun k hk=>hs k hk (h k hk)) he⟩
 ·exact .inr ⟨k,hk,h1,h2,aH F k (fun j hj=>hs j om (h2 j hj)) (hx k hk h1)⟩
theorem jw {S E:Type} {step:S→Option (S⊕E)} (Inv:S→Prop) (me:S→Nat) (Post:E→Prop)
 (hs: ∀s,Inv s→(∃s',step s=some (.inl s')∧Inv s'∧me s'<me s)∨(∃e,step s=some (.inr e)∧Post e)):
 ∀s,Inv s→ ∃e,Loop step s=some e∧Post e:=by
 intro s
 generalize hm:me s=m
 induction m using Nat.strongRecOn generalizing s with
 |_ m ih=>
  intro hi
  rw [Ds]
  rcases hs s hi with ⟨s',h1,h2,h3⟩|⟨e,h1,h2⟩
  ·rw [h1];exact ih (me s') om s' rfl h2
  ·rw [h1];exact ⟨e,rfl,h2⟩
theorem CZ {α:Type} {c:Bool} {x y:α} (h:c=true):br c x y=x:=by subst h;rfl
theorem a1P {α:Type} {c:Bool} {x y:α} (h:c=false):br c x y=y:=by subst h;rfl
theorem brd {α:Type} {p:Prop} [Decidable p] {x y:α} (h:p):br (decide p) x y=x:=CZ (decide_eq_true h)
theorem brn {α:Type} {p:Prop} [Decidable p] {x y:α} (h: ¬p):br (decide p) x y=y:=a1P (decide_eq_false h)
theorem Bz {α:Type} {p q:Prop} [Decidable p] [Decidable q] {x y:α} (h:p) (g:q):br (decide p&&decide q) x y=x:=CZ (by simp [h,g])
theorem bre {α:Type} {a b:Int} {x y:α} (h:a=b):br (a==b) x y=x:=CZ (by simp [h])
theorem bc {α:Type} {a b:Int} {x y:α} (h:a≠b):br (a==b) x y=y:=a1P (by simp [h])
theorem brb {α:Type} {a b:Int} {x y:α} (h:a≠b):br (a !=b) x y=x:=CZ (by simp [h])
theorem y8 {α:Type} {a b:Int} {x y:α} (h:a=b):br (a !=b) x y=y:=a1P (by simp [h])
theorem a5l {α:Type} {p:Prop} [Decidable p] {x y:α} (h:p):br (!decide p) x y=y:=a1P (by simp [h])
theorem a4s {α:Type} {p:Prop} [Decidable p] {x y:α} (h: ¬p):br (!decide p) x y=x:=CZ (by simp [h])
theorem cg (a b:Int) (h:0≤a):a.tmod b=a%b:=Int.tmod_eq_emod_of_nonneg h
theorem lU (a b:Int) (h:0≤a):a.tdiv b=a/b:=Int.tdiv_eq_ediv_of_nonneg h
theorem yW (x:UInt8):(x.toNat:Int)<256:=by have:=x.toNat_lt;omega
theorem Ip {n b:Nat} (h:n*b≤1099511627776):aB n b=true:=by simp [aB,bH,h]
theorem aA {α:Type} {n b:Nat} {x y:α} (h:n*b≤1099511627776):br (aB n b) x y=x:=CZ (Ip h)
theorem b3W {l c:Int} {b:Nat} (h0:0≤l) (h1:l≤c) (h2:c*b≤1099511627776):LR l c b=true:=by simp [LR,bH,h0,h1,h2]
theorem Xi {α:Type} {l c:Int} {b:Nat} {x y:α} (h0:0≤l) (h1:l≤c) (h2:c*b≤1099511627776):br (LR l c b) x y=x:=CZ (b3W h0 h1 h2)
theorem a2I {α:Type} {l:List α} {i:Int} (h0:0≤i) {x:α} (h:l[i.toNat]? =some x):atL l i=some x:=by simp [atL,h0,h]
theorem bN {α:Type} {l:List α} {k:Nat} (h:k<l.length):atL l (k:Int)=some l[k]:=by simp [atL,h]
theorem eQ {β:Type} {l:List Int} {i:Nat} {f:Int→Option β} (h:i<l.length):(l[i]?).bind f=f (l.getD i 0):=by simp [h]
theorem yf {α:Type} {l:List α} {i:Nat} (h:i<l.length):l[i]? =some l[i]:=List.getElem?_eq_getElem h
theorem b1H {α:Type} {l:List α} {i:Int} (h0:0≤i) (h1:i<l.length): ∃x,atL l i=some x∧l[i.toNat]? =some x∧x∈l:=by
 have h:i.toNat<l.length:=by omega
 exact ⟨l[i.toNat],by simp [atL,h0,h],by simp [h],List.getElem_mem h⟩
theorem Kc {α:Type} {l:List α} {i:Nat} (h:i<l.length): ∃x r,l.drop i=x::r∧l.drop (i+1)=r∧l[i]? =some x:=
 ⟨l[i],l.drop (i+1),List.drop_eq_getElem_cons h,rfl,by simp [h]⟩
theorem b08 {α:Type} {l r:List α} {x:α} {i:Int} (h0:0≤i) (h:l.drop i.toNat=x::r):atL l i=some x:=by
 have:l[i.toNat]? =some x:=by rw [←List.head?_drop,h];rfl
 simp [atL,h0,this]
theorem lQ {α:Type} {l:List α} {a b:Int} (h0:0≤a) (h1:a≤b) (h2:b≤l.length):nL l a b=some ((l.drop a.toNat).take (b.toNat-a.toNat)):=by
 simp [nL,h0,h1,h2,List.drop_take]
theorem bt {α:Type} {l:List α} {k:Nat} (h:k<l.length):l.take (k+1)=l.take k++[l[k]]:=by rw [List.take_succ_eq_append_getElem h]
theorem uW (k:Nat):((k+1:Nat):Int)=(k:Int)+1:=by omega
theorem lZ (n:Nat):(nZ n).length=n:=by simp [nZ]
def iU {α:Type} (f:Nat→α→α):Nat→α→α
 |0,l=>l
 |k+1,l=>f k (iU f k l)
theorem th {f:Nat→List Int→List Int} (hf: ∀k l,(f k l).length=l.length): ∀(k:Nat) (l:List Int),(iU f k l).length=l.length
 |0,l=>rfl
 |k+1,l=>by rw [iU,hf,th hf k l]
end Go.AI
set_option linter.unusedVariables false
set_option linter.unusedSimpArgs false
namespace Go.AI.Fn
def okF (a:Int):Prop:=0≤a∧a≤2130706432
def okE (x:Ext):Prop:=okF x.A∧okF x.B
def vg (a:Int):Bool:=decide (0≤a)&&decide (a≤2130706432)
def Qp (x:Ext):Bool:=vg x.A&&vg x.B
theorem CK {a:Int}:vg a=true↔okF a:=by simp [vg,okF]
theorem UU {x:Ext}:Qp x=true↔okE x:=by simp [Qp,okE,CK]
def aF (a b:Int):Int:=(a+b)%2130706433
def sF (a b:Int):Int:=(a-b)%2130706433
def mF (a b:Int):Int:=(a*b)%2130706433
def eA (x y:Ext):Ext:=⟨(x.A+y.A)%2130706433,(x.B+y.B)%2130706433⟩
def eS (x y:Ext):Ext:=⟨(x.A-y.A)%2130706433,(x.B-y.B)%2130706433⟩
def eM (x y:Ext):Ext:=⟨(x.A*y.A+3*(x.B*y.B))%2130706433,(x.A*y.B+x.B*y.A)%2130706433⟩
def eC (x:Ext) (n:Int):Ext:=⟨(x.A*n)%2130706433,(x.B*n)%2130706433⟩
def e0:Ext:=⟨0,0⟩
def e1:Ext:=⟨1,0⟩
def eN (n:Int):Ext:=⟨n,0⟩
theorem c3r:okF 3:=⟨by decide,by decide⟩
theorem c0Z:okF 1:=⟨by decide,by decide⟩
theorem c0s:okF 0:=⟨by decide,by decide⟩
theorem is (a:Int):okF (a%2130706433):=⟨by omega,by omega⟩
theorem a28 (a b:Int):okF (aF a b):=is _
theorem c3n (a b:Int):okF (sF a b):=is _
theorem wK (a b:Int):okF (mF a b):=is _
theorem a7d (x y:Ext):okE (eA x y):=⟨is _,is _⟩
theorem Qs (x y:Ext):okE (eS x y):=⟨is _,is _⟩
theorem KG (x y:Ext):okE (eM x y):=⟨is _,is _⟩
theorem a9G (x:Ext) (n:Int):okE (eC x n):=⟨is _,is _⟩
theorem b6X:okE e0:=⟨⟨by decide,by decide⟩,⟨by decide,by decide⟩⟩
theorem b6Z:okE e1:=⟨⟨by decide,by decide⟩,⟨by decide,by decide⟩⟩
theorem b76 {n:Int} (h:okF n):okE (eN n):=⟨h,c0s⟩
theorem b92 {a b:Int} (ha:okF a) (hb:okF b):0≤a*b∧a*b≤4539909900063178624:=
 ⟨Int.mul_nonneg ha.1 hb.1,Int.le_trans (Int.mul_le_mul ha.2 hb.2 hb.1 (by decide)) (by decide)⟩
theorem Hm {a:Int} (h:okF a):a%2130706433=a:=by obtain ⟨h1,h2⟩:=h;omega
theorem N5 {x y:Ext} (h1:x.A=y.A) (h2:x.B=y.B):x=y:=by cases x;cases y;cases h1;cases h2;rfl
theorem mA1 (a b:Int):(a%2130706433+b)%2130706433=(a+b)%2130706433:=Int.emod_add_emod _ _ _
theorem mA2 (a b:Int):(a+b%2130706433)%2130706433=(a+b)%2130706433:=Int.add_emod_emod _ _ _
theorem mM1 (a b:Int):(a%2130706433*b)%2130706433=(a*b)%2130706433:=by rw [Int.mul_emod,Int.emod_emod, ←Int.mul_emod]
theorem mM2 (a b:Int):(a*(b%2130706433))%2130706433=(a*b)%2130706433:=by rw [Int.mul_emod,Int.emod_emod, ←Int.mul_emod]
theorem mX1 (a b c:Int):(a%2130706433*b+c)%2130706433=(a*b+c)%2130706433:=by rw [←mA1,mM1,mA1]
theorem mX4 (a b c:Int):(c+a*(b%2130706433))%2130706433=(c+a*b)%2130706433:=by rw [←mA2,mM2,mA2]
theorem b70 {a b:Int} (ha:okF a) (hb:okF b):(IntKind.wrap .i64 (a+b)).tmod 2130706433=aF a b:=by
 obtain ⟨h1,h2⟩:=ha;obtain ⟨h3,h4⟩:=hb
 unfold aF;rw [aa _ om om,cg _ _ om]
theorem pu {a b:Int} (ha:okF a) (hb:okF b):Cq a b=some (aF a b):=by unfold Cq;rw [b70 ha hb]
theorem P8 {a b:Int} (ha:okF a) (hb:okF b):Mo a b=some (sF a b):=by
 obtain ⟨h1,h2⟩:=ha;obtain ⟨h3,h4⟩:=hb
 unfold Mo sF;rw [aa (a-b) om om,aa _ om om,cg _ _ om]
 congr 1;omega
theorem b73 {a b:Int} (ha:okF a) (hb:okF b):(IntKind.wrap .i64 (a*b)).tmod 2130706433=mF a b:=by
 have h:=b92 ha hb
 unfold mF;rw [aa _ om om,cg _ _ om]
theorem gr {a b:Int} (ha:okF a) (hb:okF b):mK a b=some (mF a b):=by unfold mK;rw [b73 ha hb]
theorem qC {x y:Ext} (hx:okE x) (hy:okE y):er x y=some (eA x y):=by
 unfold er;rw [pu hx.1 hy.1,pu hx.2 hy.2];rfl
theorem qa {x y:Ext} (hx:okE x) (hy:okE y):fF x y=some (eS x y):=by
 unfold fF;rw [P8 hx.1 hy.1,P8 hx.2 hy.2];rfl
theorem b50 (x y:Ext):eM x y=⟨aF (mF x.A y.A) (mF 3 (mF x.B y.B)),aF (mF x.A y.B) (mF x.B y.A)⟩:=by
 unfold eM aF mF
 congr 1
 ·rw [mA1,mA2,mX4]
 ·rw [mA1,mA2]
theorem jv {x y:Ext} (hx:okE x) (hy:okE y):cM x y=some (eM x y):=by
 unfold cM
 rw [gr hx.1 hy.1,gr hx.2 hy.2]
 simp only [obs]
 rw [gr c3r (wK _ _)]
 simp only [obs]
 rw [pu (wK _ _) (wK _ _),gr hx.1 hy.2,gr hx.2 hy.1]
 simp only [obs]
 rw [pu (wK _ _) (wK _ _),b50];rfl
theorem xm {x:Ext} {n:Int} (hx:okE x) (hn:okF n):eD x n=some (eC x n):=by
 unfold eD;rw [gr hx.1 hn,gr hx.2 hn];rfl
theorem Vy:WD=some e1:=rfl
theorem M4 (n a b:Int):gK n a b=some (decide (a≤n)&&decide (n≤b)):=by
 unfold gK;cases decide (a≤n)<;>rfl
theorem ux (a:Int):nW a=some (vg a):=by
 unfold nW;rw [M4];rfl
theorem YY (x:Ext):GR x=some (Qp x):=by
 unfold GR Qp;rw [ux,ux];cases vg x.A<;>rfl
theorem a6f {a b:Int} (ha:okF a) (hb:okF b):Cx a b=some (aF a b):=by unfold Cx;rw [b70 ha hb]
theorem a78 {a b:Int} (ha:okF a) (hb:okF b):Bs a b=some (sF a b):=by
 obtain ⟨h1,h2⟩:=ha;obtain ⟨h3,h4⟩:=hb
 unfold Bs sF;rw [aa (a+2130706433) om om,aa _ om om,cg _ _ om]
 congr 1;omega
theorem a6n {a b:Int} (ha:okF a) (hb:okF b):Cl a b=some (mF a b):=by unfold Cl;rw [b73 ha hb]
theorem b44 (n a b:Int):jj n a b=some (decide (a≤n)&&decide (n≤b)):=by
 unfold jj;cases decide (a≤n)<;>rfl
theorem GK (a:Int):cn a=some (vg a):=by
 unfold cn;rw [b44];rfl
theorem sub_self (x:Ext):eS x x=e0:=by
 apply N5<;>simp [eS,e0]
theorem a2a (x:Ext) (n:Int):eC x n=eM x (eN n):=by
 apply N5<;>(simp only [eC,eM,eN];congr 1;grind)
end Go.AI.Fn
set_option linter.unusedVariables false
set_option linter.unusedSimpArgs false
namespace Go.AI.Fn
def pF (a:Int) (n:Nat):Int:=(a^n)%2130706433
theorem a6w (a:Int) (n:Nat):okF (pF a n):=is _
theorem c47 {n:Int} (h:0≤n) (h2:n<9223372036854775808):bo .i64 n 1=n%2:=by
 show IntKind.wrap .i64 ((BitVec.ofInt 64 n&&&BitVec.ofInt 64 1).toNat:Int)=n%2
 have e1:(BitVec.ofInt 64 n).toNat=n.toNat:=by rw [BitVec.toNat_ofInt];omega
 have e2:(BitVec.ofInt 64 1).toNat=1:=by decide
 rw [BitVec.toNat_and,e1,e2,Nat.and_one_is_mod,aa _ om om]
 omega
theorem c3J {n:Int} (h:0≤n):bA .i64 n 1=n/2:=by
 show n.fdiv (2^1)=n/2
 rw [Int.fdiv_eq_ediv_of_nonneg _ (by decide)];rfl
theorem a7i {a:Int} {n:Nat} (h:n%2=0):(a*a)^(n/2)=a^n:=by
 have e:n=2*(n/2):=by omega
 have e2:a^n=a^(2*(n/2)):=by rw [←e]
 rw [e2,Int.pow_mul,Int.pow_succ,Int.pow_succ,Int.pow_zero,Int.one_mul]
theorem b3e {a:Int} {n:Nat} (h:n%2=1):a*(a*a)^(n/2)=a^n:=by
 have e:n=2*(n/2)+1:=by omega
 have e2:a^n=a^(2*(n/2)+1):=by rw [←e]
 rw [e2,Int.pow_succ,Int.pow_mul,Int.pow_succ,Int.pow_succ,Int.pow_zero,Int.one_mul,Int.mul_comm]
theorem a2A (a:Int) (n:Nat):((a%2130706433)^n)%2130706433=(a^n)%2130706433:=by
 induction n with
 |zero=>rw [Int.pow_zero,Int.pow_zero]
 |succ n ih=>rw [Int.pow_succ,Int.pow_succ,mM2, ←mM1,ih,mM1]
theorem a6Y {a out:Int} {n:Nat} (hn:0<n):(n%2=1→(mF out a*(mF a a)^(n/2))%2130706433=(out*a^n)%2130706433)∧(n%2=0→(out*(mF a a)^(n/2))%2130706433=(out*a^n)%2130706433):=by
 constructor
 ·intro h
  unfold mF
  rw [mM1, ←mM2,a2A,mM2, ←b3e h,Int.mul_assoc]
 ·intro h
  unfold mF
  rw [←mM2,a2A,mM2,a7i h]
theorem a0x {a out n:Int} (ha:okF a) (ho:okF out) (h0:0≤n) (hn:n<9223372036854775808): ∃e,Loop uJ (a,n,out)=some e∧e.2.2.1=(out*a^n.toNat)%2130706433:=by
 refine jw (step:=uJ) (fun s=>okF s.1∧okF s.2.2∧0≤s.2.1∧s.2.1<9223372036854775808∧(s.2.2*s.1^s.2.1.toNat)%2130706433=(out*a^n.toNat)%2130706433) (fun s=>s.2.1.toNat) _ ?_ (a,n,out) ⟨ha,ho,h0,hn,rfl⟩
 rintro ⟨b,k,o⟩ ⟨hb,ho',hk0,hk1,hinv⟩
 dsimp only at hb ho' hk0 hk1 hinv
 simp only [uJ]
 by_cases hk:k>0
 ·left
  rw [brd hk,c47 hk0 hk1,c3J hk0,gr hb hb]
  have hs:=a6Y (a:=b) (out:=o) (n:=k.toNat) om
  have e:(k/2).toNat=k.toNat/2:=by omega
  by_cases h2:k%2=1
  ·rw [bre h2,gr ho' hb]
   refine ⟨_,rfl,⟨wK _ _,wK _ _,by dsimp only;omega,by dsimp only;omega, ?_⟩,by dsimp only;omega⟩
   dsimp only
   rw [e,hs.1 om,hinv]
  ·rw [bc h2]
   refine ⟨_,rfl,⟨wK _ _,ho',by dsimp only;omega,by dsimp only;omega, ?_⟩,by dsimp only;omega⟩
   dsimp only
   rw [e,hs.2 om,hinv]
 ·right
  rw [brn hk]
  refine ⟨_,rfl, ?_⟩
  have:k=0:=by omega
  subst this
  dsimp only
  rw [←hinv]
  simp [Hm ho']
theorem Ou {a n:Int} (ha:okF a) (h0:0≤n) (hn:n<9223372036854775808):OM a n=some (pF a n.toNat):=by
 unfold OM
 obtain ⟨e,h1,h2⟩:=a0x ha c0Z h0 hn
 rw [h1,obs,h2,Int.one_mul];rfl
def iF (a:Int):Int:=pF a 2130706431
theorem Hi {a:Int} (ha:okF a):uM a=some (iF a):=by
 unfold uM;rw [Ou ha (by decide) (by decide),obs];rfl
def W7 (k:Nat):Int:=pF 3 (127*2^(24-k))
theorem V6 (k:Nat):okF (W7 k):=a6w _ _
theorem b6V: ∀j:Nat,j<25→(2:Int)^j≤16777216∧0<(2:Int)^j:=by decide
theorem b7K {j:Nat} (h:j≤24):aP .i64 127 (j:Int)=127*2^j:=by
 obtain ⟨h1,h0⟩:=b6V j om
 show IntKind.wrap .i64 (127*2^(min ((j:Int).toNat) 64))=_
 rw [Int.toNat_natCast,Nat.min_eq_left om,aa _ om om]
theorem QU {k:Nat} (h:k≤24):JS (k:Int)=some (W7 k):=by
 unfold JS
 obtain ⟨hq,hp⟩:=b6V (24-k) om
 rw [aa _ om om,brd om,show (24:Int)-k=((24-k:Nat):Int) by omega,b7K om,Ou c3r om om,obs,W7]
 congr 2
end Go.AI.Fn
set_option linter.unusedVariables false
namespace Go.AI.Fn
structure Src (B:Int) (m:aD):Prop where
 at0:0≤m.at_
 at1:m.at_≤B
 sd0:0≤m.seed
 sd1:m.seed<2147483648
 len:m.code.length≤1048600
theorem Src.mono {B C:Int} {m:aD} (h:Src B m) (hc:B≤C):Src C m:=⟨h.at0,by have:=h.at1;omega,h.sd0,h.sd1,h.len⟩
abbrev Big:Int:=4611686018427387904
theorem uQ {code:List UInt8} (h:code.length≤1048600): ∃m,gS code=some m∧Src 0 m:=by
 refine ⟨_,rfl, ?_⟩
 have:(((code.length:Nat):Int).tmod (1000:Int))=(code.length:Int)%1000:=cg _ _ om
 constructor<;>dsimp only<;>omega
theorem Mh {B:Int} {m:aD} (h:Src B m) (hB:B<Big): ∃x m',fI m=some (x,m')∧0≤x∧x<256∧Src (B+1) m':=by
 obtain ⟨h1,h2,h3,h4,h5⟩:=h
 rcases m with ⟨code,at_,seed⟩
 dsimp only at h1 h2 h3 h4 h5
 unfold fI
 dsimp only
 simp only [Big] at hB
 rw [aa (at_+1) om om]
 by_cases c:at_+1≤((code.length:Nat):Int)
 ·rw [brd c,aa (at_+1-1) om om]
  obtain ⟨x,hx,_,_⟩:=b1H (l:=code) (i:=at_+1-1) om om
  have:=yW x
  rw [hx]
  simp only [obs]
  rw [aa (x.toNat:Int) om om,aa (seed*31) om om,aa (seed*31+(x.toNat:Int)) om om,aa _ om om,cg _ _ om]
  refine ⟨_,_,rfl,by omega,by omega, ?_⟩
  constructor<;>dsimp only<;>omega
 ·rw [brn c]
  by_cases c2:at_+1>3000
  ·rw [brd c2]
   refine ⟨_,_,rfl,by omega,by omega, ?_⟩
   constructor<;>dsimp only<;>omega
  ·rw [brn c2,aa (seed*1103515245) om om,aa (seed*1103515245+12345) om om,cg (seed*1103515245+12345) _ om,lU _ _ om,aa _ om om,cg _ _ om]
   refine ⟨_,_,rfl,by omega,by omega, ?_⟩
   constructor<;>dsimp only<;>omega
theorem dY {B n:Int} {m:aD} (h:Src B m) (hB:B+3<Big): ∃x m',ab n m=some (x,m')∧0≤x∧(1<n→x<n)∧(n≤1→x=0)∧Src (B+3) m':=by
 unfold ab
 by_cases c:n≤1
 ·rw [brd c];exact ⟨_,_,rfl,by omega,by omega,fun _=>rfl,h.mono om⟩
 ·rw [brn c]
  by_cases c2:n≤256
  ·rw [brd c2]
   obtain ⟨x,m1,e1,x0,x1,s1⟩:=Mh h om
   rw [e1]
   simp only [obs]
   rw [brd om,cg _ _ x0]
   exact ⟨_,_,rfl,Int.emod_nonneg _ om,fun _=>Int.emod_lt_of_pos _ om,by omega,s1.mono om⟩
  ·rw [brn c2]
   obtain ⟨x,m1,e1,x0,x1,s1⟩:=Mh h om
   obtain ⟨y,m2,e2,y0,y1,s2⟩:=Mh s1 om
   obtain ⟨z,m3,e3,z0,z1,s3⟩:=Mh s2 om
   rw [e1]
   simp only [obs]
   rw [e2]
   simp only [obs]
   rw [e3]
   simp only [obs]
   rw [brd om,aa (x*65536) om om,aa (y*256) om om,aa (x*65536+y*256) om om,aa _ om om,cg _ _ om]
   exact ⟨_,_,rfl,Int.emod_nonneg _ om,fun _=>Int.emod_lt_of_pos _ om,by omega,s3.mono om⟩
theorem qv {B n:Int} {m:aD} (h:Src B m) (hB:B+3<Big): ∃x m',aU n m=some (x,m')∧Src (B+3) m':=by
 unfold aU
 obtain ⟨x,m1,e1,_,_,_,s1⟩:=dY (n:=n) h hB
 rw [e1]
 exact ⟨_,_,rfl,s1⟩
theorem z7 {B:Int} {m:aD} (h:Src B m) (hB:B+18<Big): ∃x m',am m=some (x,m')∧okF x∧Src (B+18) m':=by
 unfold am
 obtain ⟨x,m1,e1,x0,x1,_,s1⟩:=dY (n:=5) h om
 have:=x1 om
 rw [e1]
 simp only [obs]
 by_cases c:x=0
 ·rw [bre c]
  obtain ⟨y,m2,e2,y0,y1,_,s2⟩:=dY (n:=4) s1 om
  have:=y1 om
  rw [e2]
  exact ⟨_,_,rfl,⟨by omega,by omega⟩,s2.mono om⟩
 ·rw [bc c]
  by_cases c2:x=1
  ·rw [bre c2]
   obtain ⟨y,m2,e2,y0,y1,_,s2⟩:=dY (n:=3) s1 om
   have:=y1 om
   rw [e2]
   refine ⟨_,_,rfl,⟨?_, ?_⟩,s2.mono om⟩<;>rw [aa _ om om]<;>omega
  ·rw [bc c2]
   have key:=jw (step:=ee)
    (fun s=>okF s.1∧0≤s.2.1∧s.2.1≤5∧Src (B+3+3*s.2.1) ⟨s.2.2.1,s.2.2.2.1,s.2.2.2.2⟩) (fun s=>(5-s.2.1).toNat)
    (fun e=>okF e.1∧Src (B+18) ⟨e.2.2.2.1,e.2.2.2.2.1,e.2.2.2.2.2⟩) ?_ ((0:Int),(0:Int),m1.code,m1.at_,m1.seed) ⟨⟨by first|omega| (dsimp only;omega),by first|omega| (dsimp only;omega)⟩,by first|omega| (dsimp only;omega),by first|omega| (dsimp only;omega),s1.mono (by first|omega| (dsimp only;omega))⟩
   ·obtain ⟨e,he,h1,h2⟩:=key
    rw [he]
    exact ⟨_,_,rfl,h1,h2⟩
   ·rintro ⟨n,i,c,c2,c3⟩ ⟨⟨n0,n1⟩,i0,i1,hs⟩
    dsimp only at n0 n1 i0 i1 hs
    by_cases hi:i<5
    ·left
     obtain ⟨y,m2,e2,y0,y1,_,s2⟩:=dY (n:=256) hs om
     have:=y1 om
     simp only [ee]
     rw [brd hi,e2]
     simp only [obs]
     rw [aa (n*256) om om,aa (n*256+y) om om,aa (i+1) om om,cg _ _ om]
     refine ⟨_,rfl,⟨⟨?_, ?_⟩, ?_, ?_,s2.mono ?_⟩, ?_⟩<;>dsimp only<;>omega
    ·right
     simp only [ee]
     rw [brn hi]
     exact ⟨_,rfl,⟨n0,n1⟩,hs.mono (by first|omega| (dsimp only;omega))⟩
end Go.AI.Fn
set_option linter.unusedVariables false
namespace Go.AI.Fn
theorem b9F {B:Int} {m:aD} (h:Src B m) (hB:B+40<Big): ∃x m',oC m=some (x,m')∧okE x∧Src (B+40) m':=by
 unfold oC
 obtain ⟨x,m1,e1,s1⟩:=qv (n:=4) h om
 rw [e1]
 simp only [obs]
 obtain ⟨y,m2,e2,y0,s2⟩:=z7 s1 om
 obtain ⟨z,m3,e3,z0,s3⟩:=z7 s2 om
 rw [e2]
 cases x
 ·simp only [aK,obs]
  rw [e3]
  exact ⟨_,_,rfl,⟨y0,z0⟩,s3.mono om⟩
 ·exact ⟨_,_,rfl,⟨y0,⟨by first|omega| (dsimp only;omega),by first|omega| (dsimp only;omega)⟩⟩,s2.mono om⟩
theorem b3T {B n:Int} {m:aD} (h:Src B m) (hn0:0≤n) (hn1:n≤1048576) (hB:B+40*n<Big): ∃l m',mR n m=some (l,m')∧(l.length:Int)=n∧(∀x∈l,okE x)∧Src (B+40*n) m':=by
 unfold mR
 have key:=jw (step:=eW n)
  (fun s=>(s.1.length:Int)=s.2.1∧(∀x∈s.1,okE x)∧s.2.1≤n∧Src (B+40*s.2.1) ⟨s.2.2.1,s.2.2.2.1,s.2.2.2.2⟩) (fun s=>(n-s.2.1).toNat)
  (fun e=>(e.1.length:Int)=n∧(∀x∈e.1,okE x)∧Src (B+40*n) ⟨e.2.2.2.1,e.2.2.2.2.1,e.2.2.2.2.2⟩) ?_ (([]:List Ext),(0:Int),m.code,m.at_,m.seed) ⟨by simp,by simp,by dsimp only;omega,h.mono (by first|omega| (dsimp only;omega))⟩
 ·obtain ⟨e,he,h1,h2,h3⟩:=key
  rw [he]
  exact ⟨_,_,rfl,h1,h2,h3⟩
 ·rintro ⟨l,i,c,c2,c3⟩ ⟨hl,ha,i1,hs⟩
  dsimp only at hl ha i1 hs
  by_cases hi:i<n
  ·left
   obtain ⟨y,m2,e2,y0,s2⟩:=b9F hs om
   simp only [eW]
   rw [brd hi,e2]
   simp only [obs]
   rw [CZ (Ip (by simp only [List.length_append,List.length_cons,List.length_nil];omega)),aa (i+1) om om]
   refine ⟨_,rfl,⟨?_, ?_, ?_,s2.mono ?_⟩, ?_⟩
   ·simp only [List.length_append,List.length_cons,List.length_nil];omega
   ·intro x hx
    rcases List.mem_append.1 hx with hx|hx
    ·exact ha x hx
    ·rw [List.mem_singleton] at hx;subst hx;exact y0
   all_goals dsimp only;omega
  ·right
   simp only [eW]
   rw [brn hi]
   exact ⟨_,rfl,by dsimp only;omega,ha,hs.mono (by first|omega| (dsimp only;omega))⟩
end Go.AI.Fn
set_option linter.unusedVariables false
set_option linter.unusedSimpArgs false
namespace Go.AI.Fn
theorem a1c {α:Type} {p:α→Bool} {l:List α} {k:Nat} (hk:k<l.length) (h:p l[k]=true):l.any p=true:=List.any_eq_true.2 ⟨l[k],List.getElem_mem hk,h⟩
theorem b2i {α:Type} {p:α→Bool} {l:List α} (h: ∀k (hk:k<l.length),p l[k]=false):l.any p=false:=by
 rw [List.any_eq_false]
 intro x hx
 obtain ⟨k,hk,rfl⟩:=List.getElem_of_mem hx
 simp [h k hk]
theorem HH {α:Type} {p:α→Bool} {f:α→Option Bool} {l:List α} (hl:l.length≤1099511627776) (hf: ∀x∈l,f x=some (p x)) {step:Int→Option (Int⊕(Int⊕(Int×Bool)))}
 (hs: ∀t,step t=br (decide (t<((l.length:Nat):Int))) ((atL l t).bind fun x=>(f x).bind fun r=>br r (some (.inr (.inl t))) (some (.inl (IntKind.wrap .i64 (t+1))))) (some (.inr (.inr (t,decide (t<((l.length:Nat):Int))))))):
 ((Loop step 0).bind (alt (fun e=>some e) (fun _=>some (-1)))).bind (fun r=>some (decide (r≥0)))=some (l.any p):=by
 have key:=sg (step:=step) (fun k=>(k:Int)) l.length (fun k=> !((l[k]?.map p).getD false)) (fun k=> .inl (k:Int)) (e:= .inr ((l.length:Int),false)) (fun k hk hp=>by
  have hb:p l[k]=false:=by simpa [hk] using hp
  rw [hs,brd om,bN hk,obs,hf _ (List.getElem_mem hk),obs,hb,aK,aa _ om om];rfl)
  (fun k hk hp=>by
   have hb:p l[k]=true:=by simpa [hk] using hp
   rw [hs,brd om,bN hk,obs,hf _ (List.getElem_mem hk),obs,hb,bM])
  (by rw [hs,brn om,decide_eq_false om])
 rcases key with ⟨h1,h2⟩|⟨k,hk,h1,_,h2⟩
 ·have e:Loop step 0=some (.inr ((l.length:Int),false)):=h2
  rw [e,b2i (fun k hk=>by simpa [hk] using h1 k hk)];rfl
 ·have e:Loop step 0=some (.inl (k:Int)):=h2
  rw [e,a1c hk (by simpa [hk] using h1)]
  simp only [obs,ue]
  rw [decide_eq_true om]
theorem b36 {α:Type} {p:α→Bool} {f:α→Option Bool} {l:List α} (hl:l.length≤1099511627776) (hf: ∀x∈l,f x=some (p x)) {step:Int→Option (Int⊕(Unit⊕(Int×Bool)))}
 (hs: ∀t,step t=br (decide (t<((l.length:Nat):Int))) ((atL l t).bind fun x=>(f x).bind fun r=>br (!r) (some (.inr (.inl ()))) (some (.inl (IntKind.wrap .i64 (t+1))))) (some (.inr (.inr (t,decide (t<((l.length:Nat):Int))))))):
 (Loop step 0).bind (alt (fun _=>some false) (fun _=>some true))=some (l.all p):=by
 have key:=sg (step:=step) (fun k=>(k:Int)) l.length (fun k=>((l[k]?.map p).getD false)) (fun k=> .inl ()) (e:= .inr ((l.length:Int),false)) (fun k hk hp=>by
  have hb:p l[k]=true:=by simpa [hk] using hp
  rw [hs,brd om,bN hk,obs,hf _ (List.getElem_mem hk),obs,hb,Bool.not_true,aK,aa _ om om];rfl)
  (fun k hk hp=>by
   have hb:p l[k]=false:=by simpa [hk] using hp
   rw [hs,brd om,bN hk,obs,hf _ (List.getElem_mem hk),obs,hb,Bool.not_false,bM])
  (by rw [hs,brn om,decide_eq_false om])
 rcases key with ⟨h1,h2⟩|⟨k,hk,h1,_,h2⟩
 ·have e:Loop step 0=some (.inr ((l.length:Int),false)):=h2
  have ha:l.all p=true:=List.all_eq_true.2 fun x hx=>by
   obtain ⟨k,hk,rfl⟩:=List.getElem_of_mem hx
   simpa [hk] using h1 k hk
  rw [e,ha];rfl
 ·have e:Loop step 0=some (.inl ()):=h2
  have ha:l.all p=false:=by
   rw [List.all_eq_false]
   exact ⟨l[k],List.getElem_mem hk,by simpa [hk] using h1⟩
  rw [e,ha];rfl
theorem L9 {α:Type} (p:α→Bool) (l:List α):(!l.any fun x=> !p x)=l.all p:=by
 induction l with
 |nil=>rfl
 |cons x l ih=>simp only [List.any_cons,List.all_cons, ←ih];cases p x<;>simp
theorem qH {l:List Int} (hl:l.length≤1099511627776):bS l=some (l.all vg):=by
 unfold bS bq bB
 rw [HH (step:=bn l ((l.length:Nat):Int)) (p:=fun x=> !vg x) (f:=fq) hl (fun x _=>by unfold fq;rw [ux];rfl) (fun t=>rfl),obs,L9]
theorem a5D {l:List Ext} (hl:l.length≤1099511627776):i7 l=some (l.all Qp):=by
 unfold i7 bi bm
 rw [HH (step:=bg l ((l.length:Nat):Int)) (p:=fun x=> !Qp x) (f:=fk) hl (fun x _=>by unfold fk;rw [YY];rfl) (fun t=>rfl),obs,L9]
theorem L3 {l:List Int} (hl:l.length≤1099511627776):o7 l=some (l.all vg):=by
 unfold o7
 exact b36 (f:=cn) hl (fun x _=>GK x) (fun t=>rfl)
def gJ (l:List Ext):Prop:= ∀x∈l,okE x
def eU (l:List Int):Prop:= ∀x∈l,okF x
theorem c3Y {l:List Ext}:l.all Qp=true↔gJ l:=by
 rw [List.all_eq_true];exact ⟨fun h x hx=>UU.1 (h x hx),fun h x hx=>UU.2 (h x hx)⟩
theorem gJ.get {l:List Ext} (h:gJ l) {k:Nat} (hk:k<l.length):okE l[k]:=h _ (List.getElem_mem hk)
theorem eU.get {l:List Int} (h:eU l) {k:Nat} (hk:k<l.length):okF l[k]:=h _ (List.getElem_mem hk)
theorem gJ.app {l m:List Ext} (h:gJ l) (h2:gJ m):gJ (l++m):=fun x hx=>(List.mem_append.1 hx).elim (h x) (h2 x)
theorem gJ.nil:gJ []:=fun x hx=>by cases hx
theorem gJ.one {x:Ext} (h:okE x):gJ [x]:=fun y hy=>by rw [List.mem_singleton.1 hy];exact h
theorem gJ.map {α:Type} {f:α→Ext} (l:List α) (h: ∀x∈l,okE (f x)):gJ (l.map f):=fun y hy=>by obtain ⟨x,hx,rfl⟩:=List.mem_map.1 hy;exact h x hx
theorem gJ.take {l:List Ext} (h:gJ l) (k:Nat):gJ (l.take k):=fun x hx=>h x (List.mem_of_mem_take hx)
theorem gJ.drop {l:List Ext} (h:gJ l) (k:Nat):gJ (l.drop k):=fun x hx=>h x (List.mem_of_mem_drop hx)
def a6p (a b:List Ext):Ext:=(a.zip b).foldl (fun c p=>eA c (eM p.1 p.2)) e0
theorem PC {α β:Type} {a:List α} {b:List β} {k:Nat} (ha:k<a.length) (hb:k<b.length):(a.zip b).take (k+1)=(a.zip b).take k++[(a[k],b[k])]:=by
 rw [bt (by rw [List.length_zip];omega),List.getElem_zip]
theorem b7M (l:List (Ext×Ext)) {c:Ext} (h:okE c):okE (l.foldl (fun c p=>eA c (eM p.1 p.2)) c):=by
 induction l generalizing c with
 |nil=>exact h
 |cons p l ih=>exact ih (a7d _ _)
theorem a8G {a b:List Ext} (ha:gJ a) (hb:gJ b) (hl:a.length≤b.length) (hn:a.length≤1099511627776):R5 a b=some (a6p a b):=by
 unfold R5
 have key:Loop (uU b a ((a.length:Nat):Int) 0 0) ((0:Int),(0:Int),(0:Int))=some ((a.length:Int),false,(a6p a b).A,(a6p a b).B):=
  aH (fun k=>((k:Int),(((a.zip b).take k).foldl (fun c p=>eA c (eM p.1 p.2)) e0).A,(((a.zip b).take k).foldl (fun c p=>eA c (eM p.1 p.2)) e0).B)) a.length (fun k hk=>by
   simp only [uU]
   have hc:=b7M ((a.zip b).take k) b6X
   rw [brd om,bN hk,obs,bN om,obs,jv (ha.get hk) (hb.get om),obs,qC hc (KG _ _),obs,aa _ om om,PC hk om,List.foldl_append]
   rfl) (by
   simp only [uU]
   rw [brn om,decide_eq_false om,List.take_of_length_le (by rw [List.length_zip];omega)]
   rfl)
 rw [key];rfl
def eqS (out:List Ext) (p:Ext):List Ext:=out.map (fun a=>eM a (eS e1 p))++out.map (fun a=>eM a p)
def eqT (pt:List Ext):List Ext:=pt.foldl eqS [e1]
theorem b5P (out:List Ext) (p:Ext):(eqS out p).length=2*out.length:=by simp [eqS];omega
theorem b8I (out:List Ext) (p:Ext):gJ (eqS out p):=gJ.app (gJ.map _ fun x _=>KG _ _) (gJ.map _ fun x _=>KG _ _)
theorem b0l (l:List Ext) (p:Ext):eqT (l++[p])=eqS (eqT l) p:=by simp [eqT,List.foldl_append]
theorem b85 {l out:List Ext} (h:gJ out):gJ (l.foldl eqS out):=by
 induction l generalizing out with
 |nil=>exact h
 |cons p l ih=>exact ih (b8I _ _)
theorem b8p (l:List Ext):gJ (eqT l):=b85 (gJ.one b6Z)
theorem b6s (l out:List Ext):(l.foldl eqS out).length=2^l.length*out.length:=by
 induction l generalizing out with
 |nil=>simp
 |cons p l ih=>rw [List.foldl_cons,ih,b5P,List.length_cons,Nat.pow_succ];rw [Nat.mul_assoc]
theorem U0 (l:List Ext):(eqT l).length=2^l.length:=by rw [eqT,b6s];simp
theorem b7x: ∀k:Nat,k≤6→2^k≤64:=by decide
theorem c1k {t:List Ext} {t2 t3:Int} {out:List Ext} {p:Ext} (ho:gJ out) (hp:okE p) (hn:out.length≤1000000000):
 Loop (jM t t2 t3 out ((out.length:Nat):Int) p.A p.B) ([],[],0)=some (out.map (fun a=>eM a (eS e1 p)),out.map (fun a=>eM a p),(out.length:Int),false):=
 aH (fun k=>((out.take k).map (fun a=>eM a (eS e1 p)),(out.take k).map (fun a=>eM a p),(k:Int))) out.length (fun k hk=>by
  have he:Ext.mk p.A p.B=p:=rfl
  simp only [jM,he]
  rw [brd om,bN hk,obs,Vy,obs,qa b6Z hp,obs,jv (ho.get hk) (Qs _ _),obs,
   aA (by simp only [List.length_append,List.length_map,List.length_take,List.length_singleton];omega),jv (ho.get hk) hp,obs,
   aA (by simp only [List.length_append,List.length_map,List.length_take,List.length_singleton];omega),aa _ om om,bt hk,List.map_append,List.map_append]
  rfl) (by
  simp only [jM]
  rw [brn om,decide_eq_false om,List.take_length])
theorem uk {l:List Ext} (h:gJ l) (hn:l.length≤6):jU l=some (eqT l):=by
 unfold jU
 have key:Loop (jO l ((l.length:Nat):Int)) ([e1],0)=some (eqT l,(l.length:Int),false):=
  aH (fun k=>(eqT (l.take k),(k:Int))) l.length (fun k hk=>by
   have hl:=U0 (l.take k)
   have hb:=b7x (l.take k).length (by rw [List.length_take];omega)
   simp only [jO]
   rw [brd om,bN hk,obs,c1k (b8p _) (h.get hk) om,obs]
   dsimp only
   rw [aA (by simp only [List.length_append,List.length_map];omega),aa _ om om,bt hk,b0l]
   rfl) (by
   simp only [jO]
   rw [brn om,decide_eq_false om,List.take_length])
 rw [Vy,obs,key];rfl
theorem b6R {l:List Ext} {k:Nat} (h:k<l.length):atL l (k:Int)=some (l.getD k e0):=by simp [atL,h]
theorem gJ.getD {l:List Ext} (h:gJ l) (k:Nat):okE (l.getD k e0):=by
 by_cases hk:k<l.length
 ·simp [hk];exact h.get hk
 ·simp [List.getElem?_eq_none (Nat.le_of_not_lt hk)];exact b6X
end Go.AI.Fn
set_option linter.unusedVariables false
set_option linter.unusedSimpArgs false
namespace Go.AI.Fn
abbrev K:={x:Ext//okE x}
def K.n (i:Int):K:=⟨eN (i%2130706433),b76 (is _)⟩
instance c2W:Add K:=⟨fun a b=>⟨eA a.1 b.1,a7d _ _⟩⟩
instance c1y:Mul K:=⟨fun a b=>⟨eM a.1 b.1,KG _ _⟩⟩
instance c1n:Sub K:=⟨fun a b=>⟨eS a.1 b.1,Qs _ _⟩⟩
instance c3e:Neg K:=⟨fun a=>⟨eS e0 a.1,Qs _ _⟩⟩
instance b3U:NatCast K:=⟨fun n=>K.n n⟩
instance b3y:IntCast K:=⟨fun n=>K.n n⟩
instance c0E (n:Nat):OfNat K n:=⟨K.n n⟩
def K.pow (a:K):Nat→K
 |0=>K.n 1
 |n+1=>K.pow a n*a
instance c1g:HPow K Nat K:=⟨K.pow⟩
theorem K.ext {a b:K} (h:a.1=b.1):a=b:=Subtype.ext h
theorem K.n_mul (i j:Int):K.n (i*j)=K.n i*K.n j:=K.ext (N5 (by
 show (i*j)%2130706433=((i%2130706433)*(j%2130706433)+3*(0*0))%2130706433
 rw [show (3:Int)*(0*0)=0 from rfl,Int.add_zero, ←Int.mul_emod]) (by
 show (0:Int)=((i%2130706433)*0+0*(j%2130706433))%2130706433
 rw [Int.mul_zero,Int.zero_mul];rfl))
instance b35:NeZero 2130706433:=⟨by decide⟩
abbrev FP:=Fin 2130706433
def K.a (x:K):FP:=⟨x.1.A.toNat,by have h:=x.2.1;unfold okF at h;omega⟩
def K.b (x:K):FP:=⟨x.1.B.toNat,by have h:=x.2.2;unfold okF at h;omega⟩
theorem K.A_nat (x:K): ∃n:Nat,x.1.A=(n:Int)∧n<2130706433∧(K.a x).val=n:=⟨x.1.A.toNat,by have h:=x.2.1;unfold okF at h;omega,(K.a x).isLt,rfl⟩
theorem K.B_nat (x:K): ∃n:Nat,x.1.B=(n:Int)∧n<2130706433∧(K.b x).val=n:=⟨x.1.B.toNat,by have h:=x.2.2;unfold okF at h;omega,(K.b x).isLt,rfl⟩
theorem K.eqv {x y:K}:x=y↔K.a x=K.a y∧K.b x=K.b y:=⟨fun h=>by rw [h];exact ⟨rfl,rfl⟩,fun h=>by
 obtain ⟨n,h1,_,h2⟩:=K.A_nat x
 obtain ⟨m,h3,_,h4⟩:=K.A_nat y
 obtain ⟨i,h5,_,h6⟩:=K.B_nat x
 obtain ⟨j,h7,_,h8⟩:=K.B_nat y
 have e1:=congrArg Fin.val h.1
 have e2:=congrArg Fin.val h.2
 exact K.ext (N5 om om)⟩
theorem K.ad_a (x y:K):K.a (x+y)=K.a x+K.a y:=Fin.ext (by
 obtain ⟨n,h1,_,h2⟩:=K.A_nat x
 obtain ⟨m,h3,_,h4⟩:=K.A_nat y
 rw [Fin.val_add,h2,h4]
 show ((x.1.A+y.1.A)%2130706433).toNat=_
 omega)
theorem K.ad_b (x y:K):K.b (x+y)=K.b x+K.b y:=Fin.ext (by
 obtain ⟨n,h1,_,h2⟩:=K.B_nat x
 obtain ⟨m,h3,_,h4⟩:=K.B_nat y
 rw [Fin.val_add,h2,h4]
 show ((x.1.B+y.1.B)%2130706433).toNat=_
 omega)
theorem K.su_a (x y:K):K.a (x-y)=K.a x-K.a y:=Fin.ext (by
 obtain ⟨n,h1,_,h2⟩:=K.A_nat x
 obtain ⟨m,h3,_,h4⟩:=K.A_nat y
 rw [Fin.sub_def]
 show ((x.1.A-y.1.A)%2130706433).toNat=(2130706433-(K.a y).val+(K.a x).val)%2130706433
 omega)
theorem K.su_b (x y:K):K.b (x-y)=K.b x-K.b y:=Fin.ext (by
 obtain ⟨n,h1,_,h2⟩:=K.B_nat x
 obtain ⟨m,h3,_,h4⟩:=K.B_nat y
 rw [Fin.sub_def]
 show ((x.1.B-y.1.B)%2130706433).toNat=(2130706433-(K.b y).val+(K.b x).val)%2130706433
 omega)
theorem K.n0_a:K.a 0=0:=rfl
theorem K.n0_b:K.b 0=0:=rfl
theorem K.n1_a:K.a 1=1:=rfl
theorem K.n1_b:K.b 1=0:=rfl
theorem K.n2_a:K.a 2=2:=rfl
theorem K.n2_b:K.b 2=0:=rfl
theorem K.n3_a:K.a 3=3:=rfl
theorem K.n3_b:K.b 3=0:=rfl
theorem K.ne_sub (x:K): -x=0-x:=rfl
theorem K.mu_a (x y:K):K.a (x*y)=K.a x*K.a y+3*(K.b x*K.b y):=Fin.ext (by
 obtain ⟨n,h1,_,h2⟩:=K.A_nat x
 obtain ⟨m,h3,_,h4⟩:=K.A_nat y
 obtain ⟨i,h5,_,h6⟩:=K.B_nat x
 obtain ⟨j,h7,_,h8⟩:=K.B_nat y
 rw [Fin.val_add,Fin.val_mul,Fin.val_mul,Fin.val_mul,h2,h4,h6,h8,show (3:FP).val=3 from rfl]
 show ((x.1.A*y.1.A+3*(x.1.B*y.1.B))%2130706433).toNat=_
 rw [h1,h3,h5,h7, ←Int.natCast_mul, ←Int.natCast_mul]
 generalize n*m=u
 generalize i*j=v
 omega)
theorem K.mu_b (x y:K):K.b (x*y)=K.a x*K.b y+K.b x*K.a y:=Fin.ext (by
 obtain ⟨n,h1,_,h2⟩:=K.A_nat x
 obtain ⟨m,h3,_,h4⟩:=K.A_nat y
 obtain ⟨i,h5,_,h6⟩:=K.B_nat x
 obtain ⟨j,h7,_,h8⟩:=K.B_nat y
 rw [Fin.val_add,Fin.val_mul,Fin.val_mul,h2,h4,h6,h8]
 show ((x.1.A*y.1.B+x.1.B*y.1.A)%2130706433).toNat=_
 rw [h1,h3,h5,h7, ←Int.natCast_mul, ←Int.natCast_mul]
 generalize n*j=u
 generalize i*m=v
 omega)
theorem kg {p:Prop} (h:p:=by (simp only [K.ne_sub,K.eqv,K.ad_a,K.ad_b,K.su_a,K.su_b,K.mu_a,K.mu_b,K.n0_a,K.n0_b,K.n1_a,K.n1_b,K.n2_a,K.n2_b,K.n3_a,K.n3_b] at* <;>first|grind only|grind)):p:=h
def kF (a:Int):K:=K.n a
theorem OD {a:Int} (h:okF a):(kF a).1=eN a:=by show eN (a%2130706433)=eN a;rw [Hm h]
theorem b1c (a b:Int):kF (mF a b)=kF a*kF b:=by
 rw [kF,kF,kF, ←K.n_mul]
 exact K.ext (by show eN ((a*b)%2130706433%2130706433)=eN ((a*b)%2130706433);rw [Int.emod_emod])
def kv (l:List K):List Ext:=l.map (·.1)
theorem aZ (l:List K):(kv l).length=l.length:=by simp [kv]
theorem QX (l:List K):gJ (kv l):=gJ.map l fun x _=>x.2
theorem b6n {L:List Ext} (h:gJ L): ∃l,L=kv l:=by
 induction L with
 |nil=>exact ⟨[],rfl⟩
 |cons x L ih=>
  obtain ⟨l,rfl⟩:=ih fun y hy=>h y (by simp [hy])
  exact ⟨⟨x,h x (by simp)⟩::l,rfl⟩
theorem a8t {l:List K} {j:Nat} (h:j<l.length):(kv l)[j]'(by rw [aZ];exact h)=(l.getD j 0).1:=by simp [kv,h]
theorem pH {l:List K} {j:Nat} (h:j<l.length):atL (kv l) (j:Int)=some (l.getD j 0).1:=by rw [bN (by rw [aZ];exact h),a8t h]
theorem Hd {l:List K} {j:Nat} (h:j<l.length):(kv l)[j]? =some (l.getD j 0).1:=by rw [yf (by rw [aZ];exact h),a8t h]
end Go.AI.Fn
set_option linter.unusedVariables false
set_option linter.unusedSimpArgs false
namespace Go.AI.Fn
theorem pwS (x:K) (n:Nat):x^(n+1)=x^n*x:=rfl
def evs:List K→List K
 |a::_::l=>a::evs l
 |[a]=>[a]
 |[]=>[]
def ods:List K→List K
 |_::b::l=>b::ods l
 |_=>[]
theorem a26: ∀(l:List K) (j:Nat),(evs l).getD j 0=l.getD (2*j) 0
 |[],j=>by simp [evs]
 |[a],0=>rfl
 |[a],j+1=>by simp [evs]
 |a::b::l,0=>rfl
 |a::b::l,j+1=>by rw [show 2*(j+1)=2*j+1+1 by omega];exact a26 l j
theorem a2G: ∀(l:List K) (j:Nat),(ods l).getD j 0=l.getD (2*j+1) 0
 |[],j=>by simp [ods]
 |[a],j=>by simp [ods]
 |a::b::l,0=>rfl
 |a::b::l,j+1=>by rw [show 2*(j+1)+1=2*j+1+1+1 by omega];exact a2G l j
theorem Uh: ∀(l:List K) (m:Nat),l.length=2*m→(evs l).length=m
 |[],m,h=>by simp at h;simp [evs];omega
 |[a],m,h=>by simp at h;omega
 |a::b::l,0,h=>by simp at h
 |a::b::l,m+1,h=>by simp only [evs,List.length_cons];rw [Uh l m (by simp only [List.length_cons] at h;omega)]
theorem SS: ∀(l:List K) (m:Nat),l.length=2*m→(ods l).length=m
 |[],m,h=>by simp at h;simp [ods];omega
 |[a],m,h=>by simp at h;omega
 |a::b::l,0,h=>by simp at h
 |a::b::l,m+1,h=>by simp only [ods,List.length_cons];rw [SS l m (by simp only [List.length_cons] at h;omega)]
theorem WL {a b:List K} (hl:a.length=b.length) (h: ∀j,j<a.length→a.getD j 0=b.getD j 0):a=b:=by
 refine List.ext_getElem hl fun j h1 h2=> ?_
 have:=h j h1
 simpa [h1,h2] using this
theorem a2p {f:Nat→K} {h j:Nat} (hj:j<h):((List.range h).map f).getD j 0=f j:=by simp [hj]
def b00 (E O:List K) (w:K) (h:Nat):List K:=(List.range h).map fun j=>E.getD j 0+O.getD j 0*w^j
def b1u (E O:List K) (w:K) (h:Nat):List K:=(List.range h).map fun j=>E.getD j 0-O.getD j 0*w^j
theorem a9y (E O:List K) (w:K) (h:Nat):(b00 E O w h).length=h:=by simp [b00]
theorem a81 (E O:List K) (w:K) (h:Nat):(b1u E O w h).length=h:=by simp [b1u]
def V:Nat→List K→K→List K
 |0,l,_=>l
 |k+1,l,w=>b00 (V k (evs l) (w*w)) (V k (ods l) (w*w)) w (2^k)++b1u (V k (evs l) (w*w)) (V k (ods l) (w*w)) w (2^k)
theorem a8N: ∀(k:Nat) (l:List K) (w:K),l.length=2^k→(V k l w).length=2^k
 |0,l,w,h=>h
 |k+1,l,w,h=>by rw [V,List.length_append,a9y,a81,Nat.pow_succ];omega
theorem c2q {l:List K} {k:Nat} (h:l.length=2^(k+1)):(evs l).length=2^k:=Uh l _ (by rw [h,Nat.pow_succ];omega)
theorem c2m {l:List K} {k:Nat} (h:l.length=2^(k+1)):(ods l).length=2^k:=SS l _ (by rw [h,Nat.pow_succ];omega)
def Rt:Nat→K→Prop
 |0,_=>True
 |k+1,w=>w^2^k= -1
end Go.AI.Fn
set_option linter.unusedVariables false
set_option linter.unusedSimpArgs false
namespace Go.AI.Fn
def a8a:Nat→(Nat→K)→K
 |0,_=>0
 |n+1,f=>a8a n f+f n
def fdK (r:K):List K→List K
 |a::b::l=>(a+r*(b-a))::fdK r l
 |_=>[]
theorem M3 (r:K): ∀(l:List K) (m:Nat),l.length=2*m→(fdK r l).length=m
 |[],m,h=>by simp at h;simp [fdK];omega
 |[a],m,h=>by simp at h;omega
 |a::b::l,0,h=>by simp at h
 |a::b::l,m+1,h=>by simp only [fdK,List.length_cons];rw [M3 r l m (by simp only [List.length_cons] at h;omega)]
theorem a2u (r:K): ∀(l:List K) (m j:Nat),l.length=2*m→(fdK r l).getD j 0=l.getD (2*j) 0+r*(l.getD (2*j+1) 0-l.getD (2*j) 0)
 |[],m,j,h=>by simp [fdK];exact kg
 |[a],m,j,h=>by simp at h;omega
 |a::b::l,0,j,h=>by simp at h
 |a::b::l,m+1,0,h=>rfl
 |a::b::l,m+1,j+1,h=>by
  rw [show 2*(j+1)=2*j+1+1 by omega]
  exact a2u r l m j (by simp only [List.length_cons] at h;omega)
def cmK (kind:Nat) (v:List K):K:=if kind=1 then v.getD 0 0*v.getD 1 0 else v.getD 0 0*(v.getD 1 0*v.getD 2 0-v.getD 3 0)
def JE (T:List (List K)) (k:Nat):List K:=T.map fun t=>t.getD k 0
def a6h (kind:Nat) (T:List (List K)) (n:Nat):K:=a8a n fun k=>cmK kind (JE T k)
def bdK (r:K) (T:List (List K)):List (List K):=T.map (fdK r)
theorem b3H (r:K) (T:List (List K)) (i:Nat):(bdK r T).getD i []=fdK r (T.getD i []):=by
 by_cases h:i<T.length
 ·simp [bdK,h]
 ·simp [bdK,h,fdK]
end Go.AI.Fn
set_option linter.unusedVariables false
set_option linter.unusedSimpArgs false
namespace Go.AI.Fn
end Go.AI.Fn
set_option linter.unusedVariables false
namespace Go.AI.Fn
theorem RQ (x y:Int):bQ x y=some (if x<y then-1 else if x>y then 1 else 0):=by
 unfold bQ dj
 simp only [obs,bne_self_eq_false,aK]
 by_cases h:x<y
 ·rw [brd h,if_pos h]
 ·rw [brn h,if_neg h]
  by_cases h2:x>y
  ·rw [brd h2,if_pos h2]
  ·rw [brn h2,if_neg h2]
theorem Y1 (a b:Int):aQ 0 [a,b] (([a,b].length:Nat):Int) 0=br (a !=0) (some (.inr (.inl a))) (some (.inl 1)):=by
 simp only [aQ]
 rw [brd (by simp),show atL [a,b] 0=some a by simp [atL],show IntKind.wrap .i64 (0+1)=1 by decide];rfl
theorem Y9 (a b:Int):aQ 0 [a,b] (([a,b].length:Nat):Int) 1=br (b !=0) (some (.inr (.inl b))) (some (.inl 2)):=by
 simp only [aQ]
 rw [brd (by simp),show atL [a,b] 1=some b by simp [atL],show IntKind.wrap .i64 (1+1)=2 by decide];rfl
theorem a9l (a b:Int):aQ 0 [a,b] (([a,b].length:Nat):Int) 2=some (.inr (.inr (2,false))):=by
 simp only [aQ]
 rw [brn (by simp)];simp
theorem b1E (a b:Int):gn [a,b]=some (if a=0 then b else a):=by
 unfold gn
 by_cases ha:a=0
 ·rw [ct (s':=1) (by rw [Y1,y8 ha]),if_pos ha]
  by_cases hb:b=0
  ·rw [ct (s':=2) (by rw [Y9,y8 hb]),dx (a9l a b),hb];rfl
  ·rw [dx (e:= .inl b) (by rw [Y9,brb hb])];rfl
 ·rw [dx (e:= .inl a) (by rw [Y1,brb ha]),if_neg ha];rfl
def ltE (y x:ae):Prop:=y.Row<x.Row∨(y.Row=x.Row∧y.Col<x.Col)
theorem b28 (y x:ae): ∃c,dI y x=some c∧(c≥0↔ ¬ltE y x):=by
 unfold dI
 rw [RQ,RQ]
 simp only [obs,b1E]
 refine ⟨_,rfl, ?_⟩
 unfold ltE
 by_cases h1:y.Row<x.Row
 ·simp [h1]
 ·by_cases h2:y.Row>x.Row
  ·simp [h1,h2];omega
  ·have h3:y.Row=x.Row:=by omega
   by_cases h4:y.Col<x.Col
   ·simp [h3,h4]
   ·by_cases h5:y.Col>x.Col
    ·simp [h3,h4,h5]
    ·simp [h3,h4,h5]
def inE (R C:Int) (x:ae):Prop:=(0≤x.Row∧x.Row≤R-1)∧(0≤x.Col∧x.Col≤C-1)∧1≤x.Value∧x.Value≤2130706432
def DG (l:List ae) (R C:Int) (t:Nat):Prop:= ∃x,l[t]? =some x∧(¬inE R C x∨(0<t∧ ∃y,l[t-1]? =some y∧ ¬ltE y x))
open Classical in
noncomputable def vm (l:List ae) (R C:Int):Bool:=decide (l.length≤200∧ ∀t, ¬DG l R C t)
open Classical in
theorem ZU {l:List ae} {R C:Int} (h:l.length≤200) (g: ∀t, ¬DG l R C t):vm l R C=true:=by unfold vm;exact decide_eq_true ⟨h,g⟩
open Classical in
theorem a7h {l:List ae} {R C:Int} (h:l.length≤200→ ¬ ∀t, ¬DG l R C t):vm l R C=false:=by unfold vm;exact decide_eq_false fun g=>h g.1 g.2
open Classical in
theorem NW {l:List ae} {R C:Int} (h:vm l R C=true):l.length≤200:=by unfold vm at h;exact (of_decide_eq_true h).1
theorem Vv (n a b:Int):gK n a b=some (decide (a≤n∧n≤b)):=by
 unfold gK
 by_cases h:a≤n
 ·rw [brd h];simp [h]
 ·rw [brn h];simp [h]
theorem a6X (n a b:Int):jj n a b=some (decide (a≤n∧n≤b)):=by
 unfold jj
 by_cases h:a≤n
 ·rw [brd h];simp [h]
 ·rw [brn h];simp [h]
theorem Ct {l:List ae} {R C:Int} (hl:l.length≤1099511627776) (hR:1≤R∧R≤4096) (hC:1≤C∧C≤4096):nP l R C=some (vm l R C):=by
 unfold nP
 have key:=jw (step:=li l R C l ((l.length:Nat):Int)) (fun t=>0≤t∧t≤l.length∧ ∀k:Nat,(k:Int)<t→ ¬DG l R C k) (fun t=>(l.length-t).toNat)
  (fun e=>(∃x,e= .inl x∧ ∃k,DG l R C k)∨(∃x,e= .inr x∧ ∀k, ¬DG l R C k)) ?_ 0 ⟨by omega,by omega,by omega⟩
 ·obtain ⟨e,he,⟨x,rfl,k,hk⟩|⟨x,rfl,hk⟩⟩:=key
  ·rw [he]
   simp only [obs,ue]
   rw [a7h fun _ h=>h k hk]
  ·rw [he]
   simp only [obs,wG]
   by_cases h:l.length≤200
   ·rw [decide_eq_true om,ZU h hk]
   ·rw [decide_eq_false om,a7h fun g=>absurd g h]
 ·intro t ⟨h0,h1,h2⟩
  simp only [li]
  by_cases c:t<(l.length:Int)
  ·obtain ⟨x,r,e1,e2,e3⟩:=Kc (l:=l) (i:=t.toNat) om
   have next: ¬DG l R C t.toNat→(fun t:Int=>0≤t∧t≤l.length∧ ∀k:Nat,(k:Int)<t→ ¬DG l R C k) (t+1):=by
    intro hn
    refine ⟨by omega,by omega,fun k hk=> ?_⟩
    by_cases e:k=t.toNat
    ·subst e;exact hn
    ·exact h2 k om
   rw [brd c,a2I h0 e3]
   simp only [obs,Vv]
   rw [aa (R-1) om om,aa (C-1) om om,aa (t+1) om om]
   by_cases i1:0≤x.Row∧x.Row≤R-1
   ·rw [a5l i1]
    by_cases i2:0≤x.Col∧x.Col≤C-1
    ·rw [a5l i2]
     by_cases i3:1≤x.Value∧x.Value≤2130706432
     ·rw [a5l i3]
      by_cases c3:t>0
      ·rw [brd c3,aa (t-1) om om]
       obtain ⟨y,r2,f1,f2,f3⟩:=Kc (l:=l) (i:=(t-1).toNat) om
       rw [a2I om f3]
       simp only [obs]
       obtain ⟨d,hd,hd2⟩:=b28 y x
       rw [hd]
       simp only [obs]
       rw [show (t-1).toNat=t.toNat-1 by omega] at f3
       by_cases c4:d≥0
       ·rw [brd c4]
        exact .inr ⟨_,rfl,.inl ⟨_,rfl,t.toNat,x,e3,.inr ⟨by omega,y,f3,hd2.1 c4⟩⟩⟩
       ·rw [brn c4]
        refine .inl ⟨_,rfl,next ?_,by omega⟩
        rintro ⟨x',g1,g|⟨_,y',g2,g3⟩⟩
        ·rw [e3] at g1;cases g1;exact g ⟨i1,i2,i3⟩
        ·rw [e3] at g1;cases g1;rw [f3] at g2;cases g2;exact c4 (hd2.2 g3)
      ·rw [brn c3]
       refine .inl ⟨_,rfl,next ?_,by omega⟩
       rintro ⟨x',g1,g|⟨g0,_⟩⟩
       ·rw [e3] at g1;cases g1;exact g ⟨i1,i2,i3⟩
       ·omega
     ·rw [a4s i3]
      exact .inr ⟨_,rfl,.inl ⟨_,rfl,t.toNat,x,e3,.inl fun g=>i3 g.2.2⟩⟩
    ·rw [a4s i2]
     exact .inr ⟨_,rfl,.inl ⟨_,rfl,t.toNat,x,e3,.inl fun g=>i2 g.2.1⟩⟩
   ·rw [a4s i1]
    exact .inr ⟨_,rfl,.inl ⟨_,rfl,t.toNat,x,e3,.inl fun g=>i1 g.1⟩⟩
  ·rw [brn c]
   refine .inr ⟨_,rfl,.inr ⟨_,rfl,fun k hk=> ?_⟩⟩
   have hkl:k<l.length:=by
    obtain ⟨x,hx,_⟩:=hk
    obtain ⟨h,_⟩:=List.getElem?_eq_some_iff.1 hx
    exact h
   exact h2 k om hk
end Go.AI.Fn
set_option linter.unusedVariables false
namespace Go.AI.Fn
theorem TW {k:Int} (h:0≤k∧k≤5):1≤aP .i64 1 k∧aP .i64 1 k≤4096:=by
 have:k=0∨k=1∨k=2∨k=3∨k=4∨k=5:=by omega
 rcases this with rfl|rfl|rfl|rfl|rfl|rfl<;>decide
noncomputable def kY (s:aL):Bool:=
 decide (1≤s.Rows∧s.Rows≤5)&&(decide (2≤s.Cols∧s.Cols≤5)&&(decide (0≤s.Publics∧s.Publics≤aP .i64 1 (s.Cols-1)-1)&&
  (vm s.A (aP .i64 1 s.Rows) (aP .i64 1 s.Cols)&&(vm s.B (aP .i64 1 s.Rows) (aP .i64 1 s.Cols)&&vm s.C (aP .i64 1 s.Rows) (aP .i64 1 s.Cols)))))
theorem xT {s:aL} (hA:s.A.length≤1099511627776) (hB:s.B.length≤1099511627776) (hC:s.C.length≤1099511627776):nJ s=some (kY s):=by
 unfold nJ kY
 simp only [Vv,obs]
 by_cases h1:1≤s.Rows∧s.Rows≤5
 ·rw [a5l h1]
  by_cases h2:2≤s.Cols∧s.Cols≤5
  ·rw [a5l h2]
   have k1:=TW (k:=s.Rows) om
   have k2:=TW (k:=s.Cols) om
   have k3:=TW (k:=s.Cols-1) om
   unfold cf ci
   rw [aa (s.Cols-1) om om,brd om]
   simp only [obs]
   rw [aa (aP .i64 1 (s.Cols-1)-1) om om]
   by_cases h3:0≤s.Publics∧s.Publics≤aP .i64 1 (s.Cols-1)-1
   ·rw [a5l h3,brd om,brd om,Ct hA k1 k2]
    simp only [obs]
    rw [decide_eq_true h1,decide_eq_true h2,decide_eq_true h3]
    cases vm s.A (aP .i64 1 s.Rows) (aP .i64 1 s.Cols)
    ·rfl
    ·simp only [Bool.not_true,aK]
     rw [brd om,brd om,Ct hB k1 k2]
     simp only [obs]
     cases vm s.B (aP .i64 1 s.Rows) (aP .i64 1 s.Cols)
     ·rfl
     ·simp only [Bool.not_true,aK]
      rw [brd om,brd om,Ct hC k1 k2]
      simp only [obs]
      cases vm s.C (aP .i64 1 s.Rows) (aP .i64 1 s.Cols)<;>rfl
   ·rw [a4s h3,decide_eq_true h1,decide_eq_true h2,decide_eq_false h3];rfl
  ·rw [a4s h2,decide_eq_true h1,decide_eq_false h2];rfl
 ·rw [a4s h1,decide_eq_false h1];rfl
theorem j8 {s:aL} (h:kY s=true):(1≤s.Rows∧s.Rows≤5)∧(2≤s.Cols∧s.Cols≤5)∧(0≤s.Publics∧s.Publics≤4096)∧s.A.length≤200∧s.B.length≤200∧s.C.length≤200:=by
 unfold kY at h
 simp only [Bool.and_eq_true,decide_eq_true_eq] at h
 obtain ⟨h1,h2,h3,h4,h5,h6⟩:=h
 have k3:=TW (k:=s.Cols-1) om
 exact ⟨h1,h2,by omega,NW h4,NW h5,NW h6⟩
def setB (t:Setting):Bool:=decide (1≤t.Rate∧t.Rate≤3)&&(decide (1≤t.Queries∧t.Queries≤8)&&decide (0≤t.Grind∧t.Grind≤12))
theorem CU (t:Setting):nY t=some (setB t):=by
 unfold nY setB
 simp only [Vv,obs]
 cases decide (1≤t.Rate∧t.Rate≤3)<;>cases decide (1≤t.Queries∧t.Queries≤8)<;>rfl
theorem a1K {t:Setting} (h:setB t=true):(1≤t.Rate∧t.Rate≤3)∧(1≤t.Queries∧t.Queries≤8)∧0≤t.Grind∧t.Grind≤12:=by
 unfold setB at h
 simpa only [Bool.and_eq_true,decide_eq_true_eq] using h
end Go.AI.Fn
set_option linter.unusedVariables false
set_option linter.unusedSimpArgs false
namespace Go.AI.Fn
theorem Gc {k:Nat} (h:k≤62):aP .i64 1 (k:Int)=((2^k:Nat):Int):=by
 have h2: ∀k:Nat,k<63→(2:Int)^k≤4611686018427387904∧0<(2:Int)^k:=by decide
 obtain ⟨h3,h4⟩:=h2 k om
 show IntKind.wrap .i64 (1*2^(min ((k:Int).toNat) 64))=_
 rw [Int.toNat_natCast,Nat.min_eq_left om,Int.one_mul,aa _ om om]
 simp
def IK (h n:Nat) (pub priv:List Int):List Int:=((1::pub)++List.replicate (h-1-pub.length) 0)++(priv++List.replicate (n-h-priv.length) 0)
theorem MK {h n:Nat} {pub priv:List Int} (h1:pub.length+1≤h) (h2:priv.length≤n-h) (h3:h≤n):(IK h n pub priv).length=n:=by simp [IK];omega
theorem a1i {l r:List Int} {s:Nat} (h:s+r.length≤l.length):tK l s r.length r=l.take s++(r++l.drop (s+r.length)):=by
 rw [tK,List.take_length]
theorem b2a {h n:Nat} {pub priv:List Int} (h1:pub.length+1≤h) (h2:priv.length≤n-h) (h3:h≤n):
 tK (tK ((List.replicate n (0:Int)).set 0 1) 1 pub.length pub) h priv.length priv=IK h n pub priv:=by
 obtain ⟨m,rfl⟩: ∃m,n=m+1:=⟨n-1,by omega⟩
 have e1:(List.replicate (m+1) (0:Int)).set 0 1=1::List.replicate m 0:=by rw [List.replicate_succ];rfl
 have e2:tK (1::List.replicate m (0:Int)) 1 pub.length pub=1::(pub++List.replicate (m-pub.length) 0):=by
  rw [a1i (by simp;omega),Nat.add_comm 1];simp
 rw [e1,e2,a1i (by simp;omega),IK]
 have e3:(1::(pub++List.replicate (m-pub.length) (0:Int))).take h=(1::pub)++List.replicate (h-1-pub.length) 0:=by
  obtain ⟨q,rfl⟩: ∃q,h=q+1:=⟨h-1,by omega⟩
  rw [List.take_succ_cons,List.take_append,List.take_of_length_le om,List.take_replicate,Nat.min_eq_left om]
  simp
 have e4:(1::(pub++List.replicate (m-pub.length) (0:Int))).drop (h+priv.length)=List.replicate (m+1-h-priv.length) 0:=by
  obtain ⟨q,rfl⟩: ∃q,h=q+1:=⟨h-1,by omega⟩
  rw [show q+1+priv.length=(q+priv.length)+1 by omega,List.drop_succ_cons,List.drop_append,List.drop_eq_nil_of_le om,List.nil_append,List.drop_replicate]
  congr 1;omega
 rw [e3,e4]
def gU (s:aL):Nat:=2^(s.Cols.toNat-1)
theorem Cv {s:aL} (h:kY s=true):2≤s.Cols.toNat∧s.Cols.toNat≤5∧s.Cols=(s.Cols.toNat:Int):=by
 obtain ⟨_,h2,_⟩:=j8 h;omega
theorem BQ {s:aL} (h:kY s=true):2^s.Cols.toNat=2*gU s:=by
 obtain ⟨h1,_⟩:=Cv h
 rw [gU, ←Nat.pow_succ'];congr 1;omega
theorem qF: ∀k:Nat,k≤5→1≤2^k∧2^k≤32:=by decide
theorem Dk {s:aL} (h:kY s=true):cf s=some (gU s:Int):=by
 obtain ⟨h1,h2,h3⟩:=Cv h
 unfold cf
 rw [aa _ om om,brd om,show s.Cols-1=((s.Cols.toNat-1:Nat):Int) by omega,Gc om];rfl
theorem D7 {s:aL} (h:kY s=true) {pub priv:List Int} (h1:pub.length+1≤gU s) (h2:priv.length≤gU s):dU s pub priv=some (IK (gU s) (2^s.Cols.toNat) pub priv):=by
 obtain ⟨c1,c2,c3⟩:=Cv h
 have hh:=BQ h
 have hb:=qF s.Cols.toNat c2
 unfold dU
 rw [brd om,c3,Gc om, ←c3]
 simp only [Int.toNat_natCast,List.length_replicate]
 have hn0:0<(List.replicate (2^s.Cols.toNat) (0:Int)).length:=by rw [List.length_replicate];omega
 rw [Xi om om om,brd om,eQ hn0,brd om,brd om,Dk h,obs,Bz om om,brd om]
 simp only [Int.toNat_natCast]
 rw [Nat.min_eq_left om,Nat.min_eq_left om,b2a h1 om om]
theorem JJ {l:List Int} (h:l.length≤1000000):xQ l=some (l.map eN):=by
 unfold xQ
 have key:Loop (pR l ((l.length:Nat):Int)) ([],0)=some (l.map eN,(l.length:Int),false):=
  aH (fun k=>((l.take k).map eN,(k:Int))) l.length (fun k hk=>by
   simp only [pR]
   rw [brd om,bN hk,obs,aA (by simp only [List.length_append,List.length_map,List.length_take,List.length_singleton];omega),aa _ om om,bt hk,List.map_append]
   rfl) (by
   simp only [pR]
   rw [brn om,decide_eq_false om,List.take_length])
 rw [key];rfl
theorem T5 {h n:Nat} {pub priv:List Int} (h1:eU pub) (h2:eU priv):eU (IK h n pub priv):=by
 intro x hx
 simp only [IK,List.mem_append,List.mem_cons,List.mem_replicate] at hx
 rcases hx with ((rfl|hx)|⟨_,rfl⟩)|hx|⟨_,rfl⟩
 ·exact c0Z
 ·exact h1 x hx
 ·exact c0s
 ·exact h2 x hx
 ·exact c0s
theorem RT {s:aL} (h:kY s=true):0≤s.Publics∧s.Publics.toNat+1≤gU s:=by
 obtain ⟨c1,c2,c3⟩:=Cv h
 have h0:=h
 unfold kY at h0
 simp only [Bool.and_eq_true,decide_eq_true_eq] at h0
 obtain ⟨_,_,h3,_⟩:=h0
 have e:aP .i64 1 (s.Cols-1)=(gU s:Int):=by
  rw [show s.Cols-1=((s.Cols.toNat-1:Nat):Int) by omega,Gc om];rfl
 rw [e] at h3
 omega
end Go.AI.Fn
set_option linter.unusedVariables false
namespace Go.AI.Fn
theorem b4S {l:List ae} {R C:Int} {y:ae} (h: ∀k, ¬DG l R C k) (hy:inE R C y) (hl: ∀x∈l,ltE x y): ∀k, ¬DG (l++[y]) R C k:=by
 rintro k ⟨x,hx,hb⟩
 by_cases hk:k<l.length
 ·rw [List.getElem?_append_left hk] at hx
  rcases hb with hb|⟨h0,z,hz,hb⟩
  ·exact h k ⟨x,hx,.inl hb⟩
  ·rw [List.getElem?_append_left om] at hz
   exact h k ⟨x,hx,.inr ⟨h0,z,hz,hb⟩⟩
 ·have hk2:k=l.length:=by
   obtain ⟨h1,_⟩:=List.getElem?_eq_some_iff.1 hx
   rw [List.length_append,List.length_singleton] at h1;omega
  subst hk2
  rw [List.getElem?_append_right (Nat.le_refl _),Nat.sub_self] at hx
  cases hx
  rcases hb with hb|⟨h0,z,hz,hb⟩
  ·exact hb hy
  ·rw [List.getElem?_append_left om] at hz
   exact hb (hl z (List.mem_of_getElem? hz))
theorem c1V {v:Int} (h:okF v):1≤mx 1 v∧mx 1 v≤2130706432:=by
 obtain ⟨h0,h1⟩:=h
 unfold mx
 split<;>omega
theorem b0L {R C r c r0 B:Int} (hr:aP .i64 1 r=R) (hc:aP .i64 1 c=C) (hr':0≤r∧r≤5) (hc':0≤c∧c≤5) (hR:1≤R∧R≤8) (hC:1≤C∧C≤8) (h0:0≤r0∧r0<R) (hB:B+200<Big)
 {l:List ae} {m:aD} (hs:Src B m) (hl: ∀k, ¬DG l R C k) (hm: ∀x∈l,x.Row<r0) (hn:(l.length:Int)≤8*r0):
 ∃e,Loop (dB r c r0) (l,(0:Int),m.code,m.at_,m.seed)=some e∧(∀k, ¬DG e.1 R C k)∧(∀x∈e.1,x.Row<r0+1)∧(e.1.length:Int)≤8*(r0+1)∧Src (B+200) ⟨e.2.2.2.1,e.2.2.2.2.1,e.2.2.2.2.2⟩:=by
 refine jw (step:=dB r c r0)
  (fun s=>0≤s.2.1∧s.2.1≤C∧(∀k, ¬DG s.1 R C k)∧(∀x∈s.1,x.Row<r0∨(x.Row=r0∧x.Col<s.2.1))∧(s.1.length:Int)≤8*r0+s.2.1∧Src (B+21*s.2.1) ⟨s.2.2.1,s.2.2.2.1,s.2.2.2.2⟩)
  (fun s=>(C-s.2.1).toNat) (fun e=>(∀k, ¬DG e.1 R C k)∧(∀x∈e.1,x.Row<r0+1)∧(e.1.length:Int)≤8*(r0+1)∧Src (B+200) ⟨e.2.2.2.1,e.2.2.2.2.1,e.2.2.2.2.2⟩) ?_ (l,(0:Int),m.code,m.at_,m.seed)
  ⟨by dsimp only;omega,by dsimp only;omega,hl,fun x hx=> .inl (hm x hx),by dsimp only;omega,hs.mono (by dsimp only;omega)⟩
 rintro ⟨l,j,c1,c2,c3⟩ ⟨j0,j1,g1,g2,g3,g4⟩
 dsimp only at j0 j1 g1 g2 g3 g4
 simp only [dB]
 rw [ga c om om,brd hc'.1,hc]
 by_cases hj:j<C
 ·rw [brd hj]
  obtain ⟨b,m1,e1,s1⟩:=qv (n:=4) g4 om
  rw [e1]
  simp only [obs]
  rw [aa (j+1) om om]
  cases b
  ·rw [aK]
   exact .inl ⟨_,rfl,⟨by dsimp only;omega,by dsimp only;omega,g1,fun x hx=>by rcases g2 x hx with h|h;exact .inl h;exact .inr ⟨h.1,by dsimp only;omega⟩,by dsimp only;omega,s1.mono (by dsimp only;omega)⟩,by dsimp only;omega⟩
  ·rw [bM]
   obtain ⟨v,m2,e2,v0,s2⟩:=z7 s1 om
   rw [e2]
   simp only [obs]
   rw [CZ (Ip (by simp only [List.length_append,List.length_cons,List.length_nil];omega))]
   have hmx:=c1V v0
   refine .inl ⟨_,rfl,⟨by dsimp only;omega,by dsimp only;omega, ?_, ?_, ?_,s2.mono (by dsimp only;omega)⟩,by dsimp only;omega⟩
   ·refine b4S g1 ⟨⟨by dsimp only;omega,by dsimp only;omega⟩,⟨by dsimp only;omega,by dsimp only;omega⟩,hmx.1,hmx.2⟩ fun x hx=> ?_
    exact g2 x hx
   ·intro x hx
    rcases List.mem_append.1 hx with hx|hx
    ·rcases g2 x hx with h|h
     ·exact .inl h
     ·exact .inr ⟨h.1,by dsimp only;omega⟩
    ·rw [List.mem_singleton] at hx;subst hx;exact .inr ⟨rfl,by dsimp only;omega⟩
   ·simp only [List.length_append,List.length_cons,List.length_nil];omega
 ·rw [brn hj]
  exact .inr ⟨_,rfl,g1,fun x hx=>by rcases g2 x hx with h|h<;>omega,by show (l.length:Int)≤8*(r0+1);omega,g4.mono om⟩
theorem G8 {R C r c B:Int} (hr:aP .i64 1 r=R) (hc:aP .i64 1 c=C) (hr':0≤r∧r≤5) (hc':0≤c∧c≤5) (hR:1≤R∧R≤8) (hC:1≤C∧C≤8) {m:aD} (hs:Src B m) (hB:B+2000<Big):
 ∃l m',en r c m=some (l,m')∧vm l R C=true∧Src (B+1600) m':=by
 unfold en
 have key:=jw (step:=eH r c)
  (fun s=>0≤s.2.1∧s.2.1≤R∧(∀k, ¬DG s.1 R C k)∧(∀x∈s.1,x.Row<s.2.1)∧(s.1.length:Int)≤8*s.2.1∧Src (B+200*s.2.1) ⟨s.2.2.1,s.2.2.2.1,s.2.2.2.2⟩)
  (fun s=>(R-s.2.1).toNat) (fun e=>(∀k, ¬DG e.1 R C k)∧(e.1.length:Int)≤64∧Src (B+1600) ⟨e.2.2.2.1,e.2.2.2.2.1,e.2.2.2.2.2⟩) ?_ (([]:List ae),(0:Int),m.code,m.at_,m.seed)
  ⟨by dsimp only;omega,by dsimp only;omega,fun k ⟨x,hx,_⟩=>by simp at hx,fun x hx=>by simp at hx,by simp,hs.mono (by dsimp only;omega)⟩
 ·obtain ⟨e,he,h1,h2,h3⟩:=key
  rw [he]
  exact ⟨_,_,rfl,ZU om h1,h3⟩
 rintro ⟨l,j,c1,c2,c3⟩ ⟨j0,j1,g1,g2,g3,g4⟩
 dsimp only at j0 j1 g1 g2 g3 g4
 simp only [eH]
 rw [ga r om om,brd hr'.1,hr]
 by_cases hj:j<R
 ·rw [brd hj]
  obtain ⟨e,he,k1,k2,k3,k4⟩:=b0L (B:=B+200*j) hr hc hr' hc' hR hC ⟨j0,hj⟩ om g4 g1 g2 g3
  rw [he]
  simp only [obs]
  rw [aa (j+1) om om]
  exact .inl ⟨_,rfl,⟨by dsimp only;omega,by dsimp only;omega,k1,k2,k3,k4.mono (by dsimp only;omega)⟩,by dsimp only;omega⟩
 ·rw [brn hj]
  exact .inr ⟨_,rfl,g1,by show (l.length:Int)≤64;omega,g4.mono om⟩
theorem Qv {k:Int} (h:0≤k∧k≤3):1≤aP .i64 1 k∧aP .i64 1 k≤8:=by
 have:k=0∨k=1∨k=2∨k=3:=by omega
 rcases this with rfl|rfl|rfl|rfl<;>decide
theorem a9S {k:Int} (h:1≤k∧k≤3):1<aP .i64 1 k:=by
 have:k=1∨k=2∨k=3:=by omega
 rcases this with rfl|rfl|rfl<;>decide
theorem a3b {B:Int} {m:aD} (hs:Src B m) (hB:B+9000<Big): ∃s m',jI m=some (s,m')∧kY s=true∧s.Rows≤2∧s.Cols≤3∧Src (B+6000) m':=by
 unfold jI
 obtain ⟨a,m1,e1,a0,a1,_,s1⟩:=dY (n:=2) hs om
 have:=a1 om
 rw [e1]
 simp only [obs]
 obtain ⟨b,m2,e2,b0,b1,_,s2⟩:=dY (n:=2) s1 om
 have:=b1 om
 rw [e2]
 simp only [obs]
 rw [aa (1+a) om om,aa (2+b) om om,aa (2+b-1) om om,ga (2+b-1) om om,brd om]
 have k3:=a9S (k:=2+b-1) om
 obtain ⟨p,m3,e3,p0,p1,_,s3⟩:=dY (n:=aP .i64 1 (2+b-1)) s2 om
 have:=p1 k3
 rw [e3]
 simp only [obs]
 have kR:=Qv (k:=1+a) om
 have kC:=Qv (k:=2+b) om
 obtain ⟨x,m4,e4,x1,s4⟩:=G8 (r:=1+a) (c:=2+b) rfl rfl om om kR kC s3 om
 rw [e4]
 simp only [obs]
 obtain ⟨y,m5,e5,y1,s5⟩:=G8 (r:=1+a) (c:=2+b) rfl rfl om om kR kC s4 om
 rw [e5]
 simp only [obs]
 obtain ⟨z,m6,e6,z1,s6⟩:=G8 (r:=1+a) (c:=2+b) rfl rfl om om kR kC s5 om
 rw [e6]
 refine ⟨_,_,rfl, ?_,by dsimp only;omega,by dsimp only;omega,s6.mono om⟩
 unfold kY
 dsimp only
 rw [x1,y1,z1,decide_eq_true om,decide_eq_true om,decide_eq_true om];rfl
theorem Ms {code:List UInt8} (h:code.length≤1048576): ∃s,mI code=some s∧kY s=true∧s.Rows≤2∧s.Cols≤3:=by
 unfold mI
 obtain ⟨m,e1,s1⟩:=uQ (show code.length≤1048600 by omega)
 rw [e1]
 simp only [obs]
 obtain ⟨s,m',e2,h1,h2,h3,_⟩:=a3b s1 (by decide)
 rw [e2]
 exact ⟨s,rfl,h1,h2,h3⟩
theorem Uy {code:List UInt8} (h:code.length≤1048576): ∃t,sK code=some t∧(1≤t.Rate∧t.Rate≤2)∧(1≤t.Queries∧t.Queries≤3)∧0≤t.Grind∧t.Grind≤2:=by
 unfold sK ly
 obtain ⟨m,e1,s1⟩:=uQ (show code.length≤1048600 by omega)
 rw [e1]
 simp only [obs]
 obtain ⟨a,m1,f1,a0,a1,_,s2⟩:=dY (n:=2) s1 (by decide)
 obtain ⟨b,m2,f2,b0,b1,_,s3⟩:=dY (n:=3) s2 (by decide)
 obtain ⟨c,m3,f3,c0,c1,_,s4⟩:=dY (n:=3) s3 (by decide)
 have:=a1 om
 have:=b1 om
 have:=c1 om
 rw [f1]
 simp only [obs]
 rw [f2]
 simp only [obs]
 rw [f3]
 simp only [obs]
 rw [aa (1+a) om om,aa (1+b) om om]
 exact ⟨_,rfl,by dsimp only;omega,by dsimp only;omega,by dsimp only;omega⟩
end Go.AI.Fn
set_option linter.unusedVariables false
set_option linter.unusedSimpArgs false
namespace Go.AI.Fn
theorem a5T {B n:Int} {m:aD} (h:Src B m) (hn0:0≤n) (hn1:n≤1048576) (hB:B+40*n<Big): ∃l m',jy n m=some (l,m')∧(l.length:Int)=n∧(∀x∈l,okF x)∧Src (B+40*n) m':=by
 unfold jy
 have key:=jw (step:=dO n)
  (fun s=>(s.1.length:Int)=s.2.1∧(∀x∈s.1,okF x)∧s.2.1≤n∧Src (B+40*s.2.1) ⟨s.2.2.1,s.2.2.2.1,s.2.2.2.2⟩) (fun s=>(n-s.2.1).toNat)
  (fun e=>(e.1.length:Int)=n∧(∀x∈e.1,okF x)∧Src (B+40*n) ⟨e.2.2.2.1,e.2.2.2.2.1,e.2.2.2.2.2⟩) ?_ (([]:List Int),(0:Int),m.code,m.at_,m.seed) ⟨by simp,by simp,by dsimp only;omega,h.mono (by first|omega| (dsimp only;omega))⟩
 ·obtain ⟨e,he,h1,h2,h3⟩:=key
  rw [he]
  exact ⟨_,_,rfl,h1,h2,h3⟩
 ·rintro ⟨l,i,c,c2,c3⟩ ⟨hl,ha,i1,hs⟩
  dsimp only at hl ha i1 hs
  by_cases hi:i<n
  ·left
   obtain ⟨y,m2,e2,y0,s2⟩:=z7 hs om
   simp only [dO]
   rw [brd hi,e2]
   simp only [obs]
   rw [CZ (Ip (by simp only [List.length_append,List.length_cons,List.length_nil];omega)),aa (i+1) om om]
   refine ⟨_,rfl,⟨?_, ?_, ?_,s2.mono ?_⟩, ?_⟩
   ·simp only [List.length_append,List.length_cons,List.length_nil];omega
   ·intro x hx
    rcases List.mem_append.1 hx with hx|hx
    ·exact ha x hx
    ·rw [List.mem_singleton] at hx;subst hx;exact y0
   all_goals dsimp only;omega
  ·right
   simp only [dO]
   rw [brn hi]
   exact ⟨_,rfl,by dsimp only;omega,ha,hs.mono (by first|omega| (dsimp only;omega))⟩
theorem In {code:List UInt8} {n:Int} (h:code.length≤1048576) (hn0:0≤n) (hn1:n≤1048576): ∃l,oe code n=some l∧(l.length:Int)=n∧ ∀x∈l,okF x:=by
 unfold oe
 obtain ⟨m,e1,s1⟩:=uQ (show code.length≤1048600 by omega)
 rw [e1]
 simp only [obs]
 obtain ⟨l,m2,e2,h1,h2,_⟩:=a5T (n:=n) s1 hn0 hn1 (by simp only [Big];omega)
 rw [e2]
 exact ⟨_,rfl,h1,h2⟩
end Go.AI.Fn
set_option linter.unusedVariables false
set_option linter.unusedSimpArgs false
namespace Go.AI.Fn
def kvv (T:List (List K)):List (List Ext):=T.map kv
theorem ut (T:List (List K)):(kvv T).length=T.length:=by simp [kvv]
theorem JZ {T:List (List K)} {j:Nat} (h:j<T.length):atL (kvv T) (j:Int)=some (kv (T.getD j [])):=by rw [bN (by rw [ut];exact h)];simp [kvv,h]
theorem b1j (T:List (List K)) (t:List K):kvv (T++[t])=kvv T++[kv t]:=by simp [kvv]
theorem a8E {r:K} {l:List K} {j:Nat} (m:Nat) (h:l.length=2*m) (hj:j<m):(fdK r l).take (j+1)=(fdK r l).take j++[l.getD (2*j) 0+r*(l.getD (2*j+1) 0-l.getD (2*j) 0)]:=by
 have hl:=M3 r l m h
 rw [bt om, ←a2u r l m j h];simp [show j<(fdK r l).length by omega]
theorem kvS (l:List K) (x:K):kv (l++[x])=kv l++[x.1]:=by simp [kv]
theorem Mp {l:List K} {m:Nat} (r:K) (h:l.length=2*m) (hm:m≤1000):sL (kv l) r.1=some (kv (fdK r l)):=by
 have hl:=M3 r l m h
 unfold sL
 have key:=aH (step:=fe (kv l) r.1.A r.1.B) (fun j=>(kv ((fdK r l).take j),((2*j:Nat):Int))) m (e:=(kv (fdK r l),(l.length:Int),false)) (fun j hj=> ?_) ?_
 ·have key':Loop (fe (kv l) r.1.A r.1.B) ([],0)=_:=key
  rw [key'];rfl
 ·simp only [fe]
  rw [brd (by rw [aZ];omega),pH om,obs,aa _ om om,show (((2*j:Nat):Int))+1=((2*j+1:Nat):Int) by omega,pH om,obs]
  unfold Dr
  rw [qa (Subtype.property _) (Subtype.property _),obs,show Ext.mk r.1.A r.1.B=r.1 from rfl,jv r.2 (Qs _ _),obs,qC (Subtype.property _) (KG _ _),obs,obs,aA (by rw [List.length_append,aZ,List.length_take,List.length_singleton];omega),
   aa _ om om,show (((2*j:Nat):Int))+2=((2*(j+1):Nat):Int) by omega,a8E m h hj,kvS];rfl
 ·simp only [fe]
  rw [brn (by rw [aZ];omega),decide_eq_false (by rw [aZ];omega),List.take_of_length_le om,h]
structure OkT (kind n:Nat) (T:List (List K)):Prop where
 kd:kind=1∨kind=2
 len:T.length=2*kind
 tab: ∀i,i<T.length→(T.getD i []).length=n
theorem OkT.bd {kind n:Nat} {T:List (List K)} (h:OkT kind (2*n) T) (r:K):OkT kind n (bdK r T):=⟨h.kd,by simp [bdK,h.len],fun i hi=>by
 rw [b3H]
 exact M3 r _ n (h.tab i (by simpa [bdK] using hi))⟩
theorem b3s {r:K} {T:List (List K)} {j:Nat} (hj:j<T.length):(bdK r T).take (j+1)=(bdK r T).take j++[fdK r (T.getD j [])]:=by
 rw [bt (by simpa [bdK] using hj)];simp [bdK,hj]
variable {kind n:Nat} {T:List (List K)}
theorem zw (h:OkT kind (2*n) T) (hn:n≤1000) (r:K):zx (kvv T) r.1=some (kvv (bdK r T)):=by
 have hl:=h.len
 have hk:=h.kd
 have hb:(bdK r T).length=T.length:=by simp [bdK]
 unfold zx
 have key:=aH (step:=kQ (kvv T) (T.length:Int) r.1.A r.1.B) (fun j=>(kvv ((bdK r T).take j),(j:Int))) T.length (e:=(kvv (bdK r T),(T.length:Int),false)) (fun j hj=> ?_) ?_
 ·have key':Loop (kQ (kvv T) (T.length:Int) r.1.A r.1.B) ([],0)=_:=key
  rw [ut,key'];rfl
 ·simp only [kQ]
  rw [brd om,JZ hj,obs,show Ext.mk r.1.A r.1.B=r.1 from rfl,Mp r (h.tab j hj) hn,obs,aA (by rw [List.length_append,ut,List.length_take,List.length_singleton];omega),aa _ om om,b3s hj,b1j];rfl
 ·simp only [kQ]
  rw [brn om,decide_eq_false om,List.take_of_length_le om]
theorem Sx {v:List K} (hk:kind=1∨kind=2) (hv:v.length=2*kind):yE (kind:Int) (kv v)=some (cmK kind v).1:=by
 unfold yE cmK
 have k0:=pH (l:=v) (j:=0) om
 have k1:=pH (l:=v) (j:=1) om
 rw [show ((0:Nat):Int)=0 from rfl] at k0
 rw [show ((1:Nat):Int)=1 from rfl] at k1
 rcases hk with rfl|rfl
 ·rw [bre om,k0,obs,k1,obs,jv (Subtype.property _) (Subtype.property _),if_pos rfl];rfl
 ·have k2:=pH (l:=v) (j:=2) om
  have k3:=pH (l:=v) (j:=3) om
  rw [show ((2:Nat):Int)=2 from rfl] at k2
  rw [show ((3:Nat):Int)=3 from rfl] at k3
  rw [bc om,k0,obs,k1,obs,k2,obs,jv (Subtype.property _) (Subtype.property _),obs,k3,obs,qa (KG _ _) (Subtype.property _),obs,jv (Subtype.property _) (Qs _ _),if_neg (by decide)];rfl
theorem b1g {k j:Nat} (hj:j<T.length):(JE T k).take (j+1)=(JE T k).take j++[(T.getD j []).getD k 0]:=by
 rw [bt (by simpa [JE] using hj)];simp [JE,hj]
theorem MR (T:List (List K)) (k:Nat):(JE T k).length=T.length:=by simp [JE]
theorem a0U (h:OkT kind n T) (hn:n≤1000):Hz (kind:Int) (kvv T)=some (a6h kind T n).1:=by
 have hl:=h.len
 have hk:=h.kd
 have k0:=JZ (T:=T) (j:=0) om
 rw [show ((0:Nat):Int)=0 from rfl] at k0
 unfold Hz
 rw [k0,obs,aZ,h.tab 0 om]
 have key:=aH (step:=ky (kind:Int) (kvv T) (n:Int) 0 0) (fun j=>((j:Int),(a8a j fun k=>cmK kind (JE T k)).1.A,(a8a j fun k=>cmK kind (JE T k)).1.B)) n (e:=((n:Int),false,(a6h kind T n).1.A,(a6h kind T n).1.B)) (fun j hj=> ?_) ?_
 ·have key':Loop (ky (kind:Int) (kvv T) (n:Int) 0 0) (0,0,0)=_:=key
  rw [key'];rfl
 ·simp only [ky]
  have inner: ∀c7 c8,Loop (kE (kind:Int) (kvv T) (j:Int) (n:Int) (j:Int) (kvv T) (((kvv T).length:Nat):Int) 0 0 c7 c8) ([],0)=some (kv (JE T j),(T.length:Int),false):=fun c7 c8=>by
   have key:=aH (step:=kE (kind:Int) (kvv T) (j:Int) (n:Int) (j:Int) (kvv T) (((kvv T).length:Nat):Int) 0 0 c7 c8) (fun i=>(kv ((JE T j).take i),(i:Int))) T.length (e:=(kv (JE T j),(T.length:Int),false)) (fun i hi=> ?_) ?_
   ·exact key
   ·simp only [kE,ut]
    rw [brd om,JZ hi,obs,pH (by rw [h.tab i hi];exact hj),obs,aA (by rw [List.length_append,aZ,List.length_take,MR,List.length_singleton];omega),aa _ om om,b1g hi,kvS];rfl
   ·simp only [kE,ut]
    rw [brn om,decide_eq_false om,List.take_of_length_le (by rw [MR];omega)]
  rw [brd om,inner,obs,Sx hk (by rw [MR,hl]),obs,qC (Subtype.property (a8a j fun k=>cmK kind (JE T k))) (Subtype.property _),obs,aa _ om om];rfl
 ·simp only [ky]
  rw [brn om,decide_eq_false om];rfl
def rdK (kind:Nat) (T:List (List K)) (n:Nat):List K:=(List.range (kind+2)).map fun (x:Nat)=>a6h kind (bdK (kF (x:Int)) T) n
theorem U7 (kind:Nat) (T:List (List K)) (n:Nat):(rdK kind T n).length=kind+2:=by simp [rdK]
theorem a5i {x:Nat} (h:x≤10):Ext.mk (x:Int) 0=(kF (x:Int)).1:=(OD ⟨by omega,by omega⟩).symm
theorem UV (hk:kind=1∨kind=2):v6 (kind:Int)=some ((kind+1:Nat):Int):=by
 unfold v6
 rw [M4,obs,decide_eq_true om,decide_eq_true om,Bool.and_self,Bool.not_true,aK,aa _ om om];rfl
theorem zC (h:OkT kind (2*n) T) (hn:n≤1000):o4 (kind:Int) (kvv T)=some (kv (rdK kind T n)):=by
 have hk:=h.kd
 unfold o4
 rw [UV hk,obs,aa _ om om,show (((kind+1:Nat):Int))+1=((kind+2:Nat):Int) by omega]
 have key:=aH (step:=i9 (kind:Int) (kvv T) ((kind+2:Nat):Int)) (fun j=>(kv ((List.range j).map fun (x:Nat)=>a6h kind (bdK (kF (x:Int)) T) n),(j:Int))) (kind+2) (e:=(kv (rdK kind T n),((kind+2:Nat):Int),false)) (fun j hj=> ?_) ?_
 ·have key':Loop (i9 (kind:Int) (kvv T) ((kind+2:Nat):Int)) ([],0)=_:=key
  rw [key'];rfl
 ·simp only [i9]
  rw [brd om,a5i om,zw h hn,obs,a0U (h.bd _) hn,obs,aA (by rw [List.length_append,aZ,List.length_map,List.length_range,List.length_singleton];omega),aa _ om om,List.range_succ,List.map_append,List.map_singleton,kvS];rfl
 ·simp only [i9]
  rw [brn om,decide_eq_false om];rfl
end Go.AI.Fn
set_option linter.unusedVariables false
set_option linter.unusedSimpArgs false
namespace Go.AI.Fn
end Go.AI.Fn
set_option linter.unusedVariables false
set_option linter.unusedSimpArgs false
namespace Go.AI.Fn
abbrev xo (a b:Int):Int:=io .u64 a b
def rot (x s:Int):Int:=if s=0 then x else ui .u64 (aP .u64 x s) (bA .u64 x (64-s))
def LO (x:Int):Prop:=0≤x∧x<18446744073709551616
theorem UA (x:Int):LO (IntKind.wrap .u64 x):=by
 unfold LO;simp [IntKind.wrap,IntKind.bits,IntKind.signed];omega
theorem b9H (a b:Int):LO (xo a b):=UA _
theorem WC {x:Int} (h:LO x):((BitVec.ofInt 64 x).toNat:Int)=x:=by
 obtain ⟨h0,h1⟩:=h
 rw [BitVec.toNat_ofInt];omega
theorem HF {a:Int} (h:LO a):xo 0 a=a:=by
 show IntKind.wrap .u64 _=a
 have:(BitVec.ofInt 64 0^^^BitVec.ofInt 64 a)=BitVec.ofInt 64 a:=by simp
 show IntKind.wrap .u64 ((BitVec.ofInt 64 0^^^BitVec.ofInt 64 a).toNat:Int)=a
 rw [this,WC h,ga a h.1 h.2]
theorem b37 {a:Int} (h:LO a):ui .u64 a 0=a:=by
 have:(BitVec.ofInt 64 a|||BitVec.ofInt 64 0)=BitVec.ofInt 64 a:=by simp
 show IntKind.wrap .u64 ((BitVec.ofInt 64 a|||BitVec.ofInt 64 0).toNat:Int)=a
 rw [this,WC h,ga a h.1 h.2]
theorem b5O (x y:Int):Pb .u64 x y=bo .u64 (bW .u64 y) x:=by
 show IntKind.wrap .u64 ((BitVec.ofInt 64 x&&& ~~~ BitVec.ofInt 64 y).toNat:Int)=IntKind.wrap .u64 ((BitVec.ofInt 64 (bW .u64 y)&&&BitVec.ofInt 64 x).toNat:Int)
 have h:BitVec.ofInt 64 (bW .u64 y)= ~~~ BitVec.ofInt 64 y:=by
  show BitVec.ofInt 64 (IntKind.wrap .u64 ((BitVec.ofInt 64 18446744073709551615^^^BitVec.ofInt 64 y).toNat:Int))=_
  have e:(BitVec.ofInt 64 18446744073709551615^^^BitVec.ofInt 64 y)= ~~~ BitVec.ofInt 64 y:=by
   rw [show BitVec.ofInt 64 18446744073709551615=BitVec.allOnes 64 by decide,BitVec.allOnes_xor]
  rw [e,ga _ om (by have:=(~~~ BitVec.ofInt 64 y).isLt;omega)]
  rw [BitVec.ofInt_natCast,BitVec.ofNat_toNat];simp
 rw [h,BitVec.and_comm]
theorem a1f {x s:Int} (hs:0≤s∧s<64):uR x s=some (rot x s):=by
 unfold uR rot
 by_cases h:s=0
 ·rw [bre h,if_pos h]
 ·rw [bc h,if_neg h,brd hs.1,ga (64-s) om om,brd om]
end Go.AI.Fn
set_option linter.unusedVariables false
set_option linter.unusedSimpArgs false
namespace Go.AI.Fn
theorem c1m: ∀k:Nat,k<64→bo .u64 (IntKind.wrap .u64 (k:Int)) 63=(k:Int):=by decide
theorem a2w {x s:Int} (hs:0≤s∧s<64) (hx:s≠0∨LO x):cO x s=some (rot x s):=by
 have e:bo .u64 (IntKind.wrap .u64 s) 63=s:=by
  have:=c1m s.toNat om
  rwa [Int.toNat_of_nonneg hs.1] at this
 unfold cO rot
 rw [e,brd hs.1,ga (64-s) om om,brd om]
 by_cases h:s=0
 ·subst h
  have hx:LO x:=hx.resolve_left (fun h=>h rfl)
  have e1:aP .u64 x 0=x:=by
   show IntKind.wrap .u64 (x*2^0)=x
   rw [Int.pow_zero,Int.mul_one,ga x hx.1 hx.2]
  have e2:bA .u64 x (64-0)=0:=by
   show x.fdiv (2^64)=0
   rw [Int.fdiv_eq_ediv_of_nonneg _ (by decide)]
   exact Int.ediv_eq_zero_of_lt hx.1 hx.2
  rw [e1,e2,b37 hx,if_pos rfl]
 ·rw [if_neg h]
abbrev g (l:List Int) (i:Int):Int:=l.getD i.toNat 0
def pb:List Int:=[0,1,62,28,27,36,44,6,55,20,3,10,43,25,39,41,45,15,21,8,18,2,61,56,14]
theorem b1y: ∀k:Nat,k<25→0≤pb.getD k 0∧pb.getD k 0<64:=by decide
def p2 (m:List Int) (k:Nat) (l:List Int):List Int:=l.set ((k:Int)%5).toNat (xo (g l ((k:Int)%5)) (g m k))
def p3 (m c:List Int) (k:Nat) (l:List Int):List Int:=
 l.set ((k:Int)/5+5*((2*((k:Int)%5)+3*((k:Int)/5))%5)).toNat (rot (xo (g m k) (xo (g c (((k:Int)%5+4)%5)) (rot (g c (((k:Int)%5+1)%5)) 1))) (g pb k))
def p4 (b:List Int) (k:Nat) (l:List Int):List Int:=
 l.set k (xo (g b k) (Pb .u64 (g b ((k:Int)-(k:Int)%5+((k:Int)%5+2)%5)) (g b ((k:Int)-(k:Int)%5+((k:Int)%5+1)%5))))
def q2 (m:List Int) (k:Nat) (l:List Int):List Int:=l.set k (xo (xo (xo (xo (g m k) (g m ((k:Int)+5))) (g m ((k:Int)+10))) (g m ((k:Int)+15))) (g m ((k:Int)+20)))
def q3 (c:List Int) (k:Nat) (l:List Int):List Int:=l.set k (xo (g l k) (xo (g c (((k:Int)+4)%5)) (rot (g c (((k:Int)+1)%5)) 1)))
def q5 (m:List Int) (x:Int) (y:Nat) (l:List Int):List Int:=l.set ((y:Int)+5*((2*x+3*(y:Int))%5)).toNat (rot (g m (x+5*(y:Int))) (g pb (x+5*(y:Int))))
def q4 (m:List Int) (x:Nat) (l:List Int):List Int:=iU (q5 m x) 5 l
def q7 (b:List Int) (x:Int) (y:Nat) (l:List Int):List Int:=l.set (x+5*(y:Int)).toNat (xo (g b (x+5*(y:Int))) (bo .u64 (bW .u64 (g b ((x+1)%5+5*(y:Int)))) (g b ((x+2)%5+5*(y:Int)))))
def q6 (b:List Int) (x:Nat) (l:List Int):List Int:=iU (q7 b x) 5 l
theorem a7r (m:List Int) (k:Nat) (l:List Int):(iU (p2 m) k l).length=l.length:=th (fun _ _=>List.length_set) k l
theorem TP (m c:List Int) (k:Nat) (l:List Int):(iU (p3 m c) k l).length=l.length:=th (fun _ _=>List.length_set) k l
theorem TC (b:List Int) (k:Nat) (l:List Int):(iU (p4 b) k l).length=l.length:=th (fun _ _=>List.length_set) k l
theorem a1e (m:List Int) (k:Nat) (l:List Int):(iU (q2 m) k l).length=l.length:=th (fun _ _=>List.length_set) k l
theorem Mw (c:List Int) (k:Nat) (l:List Int):(iU (q3 c) k l).length=l.length:=th (fun _ _=>List.length_set) k l
theorem b1N (m:List Int) (x:Int) (k:Nat) (l:List Int):(iU (q5 m x) k l).length=l.length:=th (fun _ _=>List.length_set) k l
theorem a80 (m:List Int) (x:Int) (k:Nat) (l:List Int):(iU (q7 m x) k l).length=l.length:=th (fun _ _=>List.length_set) k l
theorem a0m (m:List Int) (k:Nat) (l:List Int):(iU (q4 m) k l).length=l.length:=th (fun x l=>b1N m x 5 l) k l
theorem a9h (m:List Int) (k:Nat) (l:List Int):(iU (q6 m) k l).length=l.length:=th (fun x l=>a80 m x 5 l) k l
theorem b60 {m5 m6 m7 m9 t4:List Int} {t3 t5:Int} (h:m5.length=25):Loop (dQ m5 m6 m7 m9 t3 t4 t5) (nZ 5,0)=some (iU (p2 m5) 25 (nZ 5),25,false):=
 aH (fun k=>(iU (p2 m5) k (nZ 5),(k:Int))) 25 (fun k hk=>by
  have hl:=a7r m5 k (nZ 5)
  rw [lZ] at hl
  simp only [dQ]
  simp (disch:=omega) only [brd,cg,Bz,eQ,aa]
  simp only [iU,p2,Int.toNat_natCast,uW]
  rfl) (by
  simp (disch:=omega) only [dQ,brn];rfl)
theorem b30 {m5 m6 m7 m8:List Int} {t2:Int} (h:m5.length=25):Loop (fN m5 m6 m7 m8 t2) (nZ 5,0)=some (iU (q2 m5) 5 (nZ 5),5,false):=
 aH (fun k=>(iU (q2 m5) k (nZ 5),(k:Int))) 5 (fun k hk=>by
  have hl:=a1e m5 k (nZ 5)
  rw [lZ] at hl
  simp only [fN]
  simp (disch:=omega) only [brd,cg,Bz,eQ,aa]
  simp only [iU,q2,Int.toNat_natCast,uW]
  rfl) (by
  simp (disch:=omega) only [fN,brn];rfl)
theorem Wy (k:Nat) (hk:k<25):0≤pb.getD k 0∧pb.getD k 0<64:=b1y k hk
theorem JP:pb.length=25:=rfl
theorem b5s {m10 m12 c t8:List Int} {t7 t9:Int} (h:m10.length=25) (hc:c.length=5):Loop (dR m10 pb m12 c t7 t8 t9) (nZ 25,0)=some (iU (p3 m10 c) 25 (nZ 25),25,false):=
 aH (fun k=>(iU (p3 m10 c) k (nZ 25),(k:Int))) 25 (fun k hk=>by
  have hl:=TP m10 c k (nZ 25)
  rw [lZ] at hl
  have hs:=Wy k hk
  have hs1:=JP
  simp only [dR]
  simp (disch:=omega) only [brd,cg,lU,Bz,eQ,aa]
  rw [a2w ⟨by decide,by decide⟩ (.inl (by decide))]
  simp only [obs]
  simp only [Int.toNat_natCast]
  rw [a2w hs (.inr (b9H _ _))]
  simp only [obs]
  rfl) (by
  simp (disch:=omega) only [dR,brn];rfl)
theorem b3F {m16 m17 m18 b t12:List Int} {t11 t13:Int} {m:List Int} (h:m.length=25) (hb:b.length=25):Loop (dN m16 m17 m18 b t11 t12 t13 b) (m,0)=some (iU (p4 b) 25 m,25,false):=
 aH (fun k=>(iU (p4 b) k m,(k:Int))) 25 (fun k hk=>by
  have hl:=TC b k m
  simp only [dN]
  simp (disch:=omega) only [brd,cg,lU,Bz,eQ,aa]
  rfl) (by
  simp (disch:=omega) only [dN,brn];rfl)
theorem b4u {m11 m12 m13 c m:List Int} {t4:Int} (h:m.length=25) (hc:c.length=5):Loop (fT m11 m12 m13 c t4) (m,0)=some (iU (q3 c) 25 m,25,false):=
 aH (fun k=>(iU (q3 c) k m,(k:Int))) 25 (fun k hk=>by
  have hl:=Mw c k m
  simp only [fT]
  simp (disch:=omega) only [brd,cg,lU,Bz,eQ,aa]
  rw [a1f ⟨by decide,by decide⟩]
  simp only [obs]
  rfl) (by
  simp (disch:=omega) only [fT,brn];rfl)
theorem b2o {a m22 m23 m25 m:List Int} {t8:Int} {x:Nat} (hx:x<5) (h:m.length=25) (ha:a.length=25):Loop (fX a m22 m23 pb m25 t8 x) (m,0)=some (iU (q5 a x) 5 m,5,false):=
 aH (fun k=>(iU (q5 a x) k m,(k:Int))) 5 (fun k hk=>by
  have hl:=b1N a x k m
  have hs:=Wy ((x:Int)+5*(k:Int)).toNat om
  have hs1:=JP
  simp only [fX]
  simp (disch:=omega) only [brd,cg,lU,Bz,eQ,aa]
  rw [a1f hs]
  simp only [obs]
  rfl) (by
  simp (disch:=omega) only [fX,brn];rfl)
theorem b4q {a m16 m17 m19 m:List Int} {t6:Int} (h:m.length=25) (ha:a.length=25):Loop (fV a m16 m17 pb m19 t6) (m,0)=some (iU (q4 a) 5 m,5,false):=
 aH (fun k=>(iU (q4 a) k m,(k:Int))) 5 (fun k hk=>by
  have hl:=a0m a k m
  simp only [fV]
  rw [brd om,b2o hk om ha,obs,aa _ om om]
  rfl) (by
  simp (disch:=omega) only [fV,brn];rfl)
theorem b5E {m34 m35 m36 m37 b m:List Int} {t13:Int} {x:Nat} (hx:x<5) (h:m.length=25) (hb:b.length=25):Loop (fR m34 m35 m36 m37 b t13 x) (m,0)=some (iU (q7 b x) 5 m,5,false):=
 aH (fun k=>(iU (q7 b x) k m,(k:Int))) 5 (fun k hk=>by
  have hl:=a80 b x k m
  simp only [fR]
  simp (disch:=omega) only [brd,cg,lU,Bz,eQ,aa]
  rfl) (by
  simp (disch:=omega) only [fR,brn];rfl)
theorem b6M {m28 m29 m30 m31 b m:List Int} {t11:Int} (h:m.length=25) (hb:b.length=25):Loop (fO m28 m29 m30 m31 b t11) (m,0)=some (iU (q6 b) 5 m,5,false):=
 aH (fun k=>(iU (q6 b) k m,(k:Int))) 5 (fun k hk=>by
  have hl:=a9h b k m
  simp only [fO]
  rw [brd om,b5E hk om hb,obs,aa _ om om]
  rfl) (by
  simp (disch:=omega) only [fO,brn];rfl)
def zj (m:List Int) (rc:Int):List Int:=
 let c:=iU (p2 m) 25 (nZ 5)
 let b:=iU (p3 m c) 25 (nZ 25)
 let r:=iU (p4 b) 25 m
 r.set 0 (xo (r.getD 0 0) rc)
def Zp (m:List Int) (rc:Int):List Int:=
 let c:=iU (q2 m) 5 (nZ 5)
 let a:=iU (q3 c) 25 m
 let b:=iU (q4 a) 5 (nZ 25)
 let r:=iU (q6 b) 5 a
 r.set 0 (xo (r.getD 0 0) rc)
end Go.AI.Fn
set_option linter.unusedVariables false
set_option linter.unusedSimpArgs false
namespace Go.AI.Fn
theorem bO {l:List Int} {n:Nat} (h:l.length=n+1): ∃a r,l=a::r∧r.length=n:=by
 cases l with
 |nil=>simp at h
 |cons a r=>exact ⟨a,r,rfl,by simpa using h⟩
theorem b64 {l:List Int} (h:l.length=0):l=[]:=List.eq_nil_of_length_eq_zero h
theorem Wv {l:List Int} (h:l.length=25): ∃a0 a1 a2 a3 a4 a5 a6 a7 a8 a9 a10 a11 a12 a13 a14 a15 a16 a17 a18 a19 a20 a21 a22 a23 a24,l=[a0,a1,a2,a3,a4,a5,a6,a7,a8,a9,a10,a11,a12,a13,a14,a15,a16,a17,a18,a19,a20,a21,a22,a23,a24]:=by
 obtain ⟨a0,r0,rfl,h0⟩:=bO h
 obtain ⟨a1,r1,rfl,h1⟩:=bO h0
 obtain ⟨a2,r2,rfl,h2⟩:=bO h1
 obtain ⟨a3,r3,rfl,h3⟩:=bO h2
 obtain ⟨a4,r4,rfl,h4⟩:=bO h3
 obtain ⟨a5,r5,rfl,h5⟩:=bO h4
 obtain ⟨a6,r6,rfl,h6⟩:=bO h5
 obtain ⟨a7,r7,rfl,h7⟩:=bO h6
 obtain ⟨a8,r8,rfl,h8⟩:=bO h7
 obtain ⟨a9,r9,rfl,h9⟩:=bO h8
 obtain ⟨a10,r10,rfl,h10⟩:=bO h9
 obtain ⟨a11,r11,rfl,h11⟩:=bO h10
 obtain ⟨a12,r12,rfl,h12⟩:=bO h11
 obtain ⟨a13,r13,rfl,h13⟩:=bO h12
 obtain ⟨a14,r14,rfl,h14⟩:=bO h13
 obtain ⟨a15,r15,rfl,h15⟩:=bO h14
 obtain ⟨a16,r16,rfl,h16⟩:=bO h15
 obtain ⟨a17,r17,rfl,h17⟩:=bO h16
 obtain ⟨a18,r18,rfl,h18⟩:=bO h17
 obtain ⟨a19,r19,rfl,h19⟩:=bO h18
 obtain ⟨a20,r20,rfl,h20⟩:=bO h19
 obtain ⟨a21,r21,rfl,h21⟩:=bO h20
 obtain ⟨a22,r22,rfl,h22⟩:=bO h21
 obtain ⟨a23,r23,rfl,h23⟩:=bO h22
 obtain ⟨a24,r24,rfl,h24⟩:=bO h23
 obtain rfl:=b64 h24
 exact ⟨_,_,_,_,_,_,_,_,_,_,_,_,_,_,_,_,_,_,_,_,_,_,_,_,_,rfl⟩
def jg (m:List Int):Prop:=m.length=25∧ ∀x∈m,LO x
def cs (m:List Int):List Int:=iU (q2 m) 5 (nZ 5)
theorem b5W {m:List Int} (h:jg m):iU (p2 m) 25 (nZ 5)=cs m:=by
 obtain ⟨hl,hb⟩:=h
 obtain ⟨a0,a1,a2,a3,a4,a5,a6,a7,a8,a9,a10,a11,a12,a13,a14,a15,a16,a17,a18,a19,a20,a21,a22,a23,a24,rfl⟩:=Wv hl
 have e0:=HF (hb a0 (by simp))
 have e1:=HF (hb a1 (by simp))
 have e2:=HF (hb a2 (by simp))
 have e3:=HF (hb a3 (by simp))
 have e4:=HF (hb a4 (by simp))
 have k:iU (p2 [a0,a1,a2,a3,a4,a5,a6,a7,a8,a9,a10,a11,a12,a13,a14,a15,a16,a17,a18,a19,a20,a21,a22,a23,a24]) 25 (nZ 5)=[xo (xo (xo (xo (xo 0 a0) a5) a10) a15) a20,xo (xo (xo (xo (xo 0 a1) a6) a11) a16) a21,xo (xo (xo (xo (xo 0 a2) a7) a12) a17) a22,xo (xo (xo (xo (xo 0 a3) a8) a13) a18) a23,xo (xo (xo (xo (xo 0 a4) a9) a14) a19) a24]:=by kernel_rfl
 have k2:cs [a0,a1,a2,a3,a4,a5,a6,a7,a8,a9,a10,a11,a12,a13,a14,a15,a16,a17,a18,a19,a20,a21,a22,a23,a24]=
  [xo (xo (xo (xo a0 a5) a10) a15) a20,xo (xo (xo (xo a1 a6) a11) a16) a21,xo (xo (xo (xo a2 a7) a12) a17) a22,xo (xo (xo (xo a3 a8) a13) a18) a23,xo (xo (xo (xo a4 a9) a14) a19) a24]:=by kernel_rfl
 rw [k,k2,e0,e1,e2,e3,e4]
theorem b6j {c:List Int} (a0 a1 a2 a3 a4 a5 a6 a7 a8 a9 a10 a11 a12 a13 a14 a15 a16 a17 a18 a19 a20 a21 a22 a23 a24:Int):iU (p3 [a0,a1,a2,a3,a4,a5,a6,a7,a8,a9,a10,a11,a12,a13,a14,a15,a16,a17,a18,a19,a20,a21,a22,a23,a24] c) 25 (nZ 25)=[rot (xo a0 (xo (g c 4) (rot (g c 1) 1))) 0,rot (xo a6 (xo (g c 0) (rot (g c 2) 1))) 44,rot (xo a12 (xo (g c 1) (rot (g c 3) 1))) 43,rot (xo a18 (xo (g c 2) (rot (g c 4) 1))) 21,rot (xo a24 (xo (g c 3) (rot (g c 0) 1))) 14,rot (xo a3 (xo (g c 2) (rot (g c 4) 1))) 28,rot (xo a9 (xo (g c 3) (rot (g c 0) 1))) 20,rot (xo a10 (xo (g c 4) (rot (g c 1) 1))) 3,rot (xo a16 (xo (g c 0) (rot (g c 2) 1))) 45,rot (xo a22 (xo (g c 1) (rot (g c 3) 1))) 61,rot (xo a1 (xo (g c 0) (rot (g c 2) 1))) 1,rot (xo a7 (xo (g c 1) (rot (g c 3) 1))) 6,rot (xo a13 (xo (g c 2) (rot (g c 4) 1))) 25,rot (xo a19 (xo (g c 3) (rot (g c 0) 1))) 8,rot (xo a20 (xo (g c 4) (rot (g c 1) 1))) 18,rot (xo a4 (xo (g c 3) (rot (g c 0) 1))) 27,rot (xo a5 (xo (g c 4) (rot (g c 1) 1))) 36,rot (xo a11 (xo (g c 0) (rot (g c 2) 1))) 10,rot (xo a17 (xo (g c 1) (rot (g c 3) 1))) 15,rot (xo a23 (xo (g c 2) (rot (g c 4) 1))) 56,rot (xo a2 (xo (g c 1) (rot (g c 3) 1))) 62,rot (xo a8 (xo (g c 2) (rot (g c 4) 1))) 55,rot (xo a14 (xo (g c 3) (rot (g c 0) 1))) 39,rot (xo a15 (xo (g c 4) (rot (g c 1) 1))) 41,rot (xo a21 (xo (g c 0) (rot (g c 2) 1))) 2]:=by kernel_rfl
theorem b63 {c:List Int} (a0 a1 a2 a3 a4 a5 a6 a7 a8 a9 a10 a11 a12 a13 a14 a15 a16 a17 a18 a19 a20 a21 a22 a23 a24:Int):iU (q3 c) 25 [a0,a1,a2,a3,a4,a5,a6,a7,a8,a9,a10,a11,a12,a13,a14,a15,a16,a17,a18,a19,a20,a21,a22,a23,a24]=[xo a0 (xo (g c 4) (rot (g c 1) 1)),xo a1 (xo (g c 0) (rot (g c 2) 1)),xo a2 (xo (g c 1) (rot (g c 3) 1)),xo a3 (xo (g c 2) (rot (g c 4) 1)),xo a4 (xo (g c 3) (rot (g c 0) 1)),xo a5 (xo (g c 4) (rot (g c 1) 1)),xo a6 (xo (g c 0) (rot (g c 2) 1)),xo a7 (xo (g c 1) (rot (g c 3) 1)),xo a8 (xo (g c 2) (rot (g c 4) 1)),xo a9 (xo (g c 3) (rot (g c 0) 1)),xo a10 (xo (g c 4) (rot (g c 1) 1)),xo a11 (xo (g c 0) (rot (g c 2) 1)),xo a12 (xo (g c 1) (rot (g c 3) 1)),xo a13 (xo (g c 2) (rot (g c 4) 1)),xo a14 (xo (g c 3) (rot (g c 0) 1)),xo a15 (xo (g c 4) (rot (g c 1) 1)),xo a16 (xo (g c 0) (rot (g c 2) 1)),xo a17 (xo (g c 1) (rot (g c 3) 1)),xo a18 (xo (g c 2) (rot (g c 4) 1)),xo a19 (xo (g c 3) (rot (g c 0) 1)),xo a20 (xo (g c 4) (rot (g c 1) 1)),xo a21 (xo (g c 0) (rot (g c 2) 1)),xo a22 (xo (g c 1) (rot (g c 3) 1)),xo a23 (xo (g c 2) (rot (g c 4) 1)),xo a24 (xo (g c 3) (rot (g c 0) 1))]:=by kernel_rfl
theorem b3g (a0 a1 a2 a3 a4 a5 a6 a7 a8 a9 a10 a11 a12 a13 a14 a15 a16 a17 a18 a19 a20 a21 a22 a23 a24:Int):iU (q4 [a0,a1,a2,a3,a4,a5,a6,a7,a8,a9,a10,a11,a12,a13,a14,a15,a16,a17,a18,a19,a20,a21,a22,a23,a24]) 5 (nZ 25)=[rot a0 0,rot a6 44,rot a12 43,rot a18 21,rot a24 14,rot a3 28,rot a9 20,rot a10 3,rot a16 45,rot a22 61,rot a1 1,rot a7 6,rot a13 25,rot a19 8,rot a20 18,rot a4 27,rot a5 36,rot a11 10,rot a17 15,rot a23 56,rot a2 62,rot a8 55,rot a14 39,rot a15 41,rot a21 2]:=by kernel_rfl
theorem b0P {m c:List Int} (hm:m.length=25):iU (p3 m c) 25 (nZ 25)=iU (q4 (iU (q3 c) 25 m)) 5 (nZ 25):=by
 obtain ⟨a0,a1,a2,a3,a4,a5,a6,a7,a8,a9,a10,a11,a12,a13,a14,a15,a16,a17,a18,a19,a20,a21,a22,a23,a24,rfl⟩:=Wv hm
 rw [b6j,b63,b3g]
def p4' (b:List Int) (k:Nat) (l:List Int):List Int:=l.set k (xo (g b k) (bo .u64 (bW .u64 (g b ((k:Int)-(k:Int)%5+((k:Int)%5+1)%5))) (g b ((k:Int)-(k:Int)%5+((k:Int)%5+2)%5))))
theorem c2u (b:List Int):p4 b=p4' b:=by funext k l;unfold p4 p4';rw [b5O]
theorem b61 (a0 a1 a2 a3 a4 a5 a6 a7 a8 a9 a10 a11 a12 a13 a14 a15 a16 a17 a18 a19 a20 a21 a22 a23 a24 b0 b1 b2 b3 b4 b5 b6 b7 b8 b9 b10 b11 b12 b13 b14 b15 b16 b17 b18 b19 b20 b21 b22 b23 b24:Int):iU (p4' [a0,a1,a2,a3,a4,a5,a6,a7,a8,a9,a10,a11,a12,a13,a14,a15,a16,a17,a18,a19,a20,a21,a22,a23,a24]) 25 [b0,b1,b2,b3,b4,b5,b6,b7,b8,b9,b10,b11,b12,b13,b14,b15,b16,b17,b18,b19,b20,b21,b22,b23,b24]=[xo a0 (bo .u64 (bW .u64 a1) a2),xo a1 (bo .u64 (bW .u64 a2) a3),xo a2 (bo .u64 (bW .u64 a3) a4),xo a3 (bo .u64 (bW .u64 a4) a0),xo a4 (bo .u64 (bW .u64 a0) a1),xo a5 (bo .u64 (bW .u64 a6) a7),xo a6 (bo .u64 (bW .u64 a7) a8),xo a7 (bo .u64 (bW .u64 a8) a9),xo a8 (bo .u64 (bW .u64 a9) a5),xo a9 (bo .u64 (bW .u64 a5) a6),xo a10 (bo .u64 (bW .u64 a11) a12),xo a11 (bo .u64 (bW .u64 a12) a13),xo a12 (bo .u64 (bW .u64 a13) a14),xo a13 (bo .u64 (bW .u64 a14) a10),xo a14 (bo .u64 (bW .u64 a10) a11),xo a15 (bo .u64 (bW .u64 a16) a17),xo a16 (bo .u64 (bW .u64 a17) a18),xo a17 (bo .u64 (bW .u64 a18) a19),xo a18 (bo .u64 (bW .u64 a19) a15),xo a19 (bo .u64 (bW .u64 a15) a16),xo a20 (bo .u64 (bW .u64 a21) a22),xo a21 (bo .u64 (bW .u64 a22) a23),xo a22 (bo .u64 (bW .u64 a23) a24),xo a23 (bo .u64 (bW .u64 a24) a20),xo a24 (bo .u64 (bW .u64 a20) a21)]:=by kernel_rfl
theorem b2Y (a0 a1 a2 a3 a4 a5 a6 a7 a8 a9 a10 a11 a12 a13 a14 a15 a16 a17 a18 a19 a20 a21 a22 a23 a24 b0 b1 b2 b3 b4 b5 b6 b7 b8 b9 b10 b11 b12 b13 b14 b15 b16 b17 b18 b19 b20 b21 b22 b23 b24:Int):iU (q6 [a0,a1,a2,a3,a4,a5,a6,a7,a8,a9,a10,a11,a12,a13,a14,a15,a16,a17,a18,a19,a20,a21,a22,a23,a24]) 5 [b0,b1,b2,b3,b4,b5,b6,b7,b8,b9,b10,b11,b12,b13,b14,b15,b16,b17,b18,b19,b20,b21,b22,b23,b24]=[xo a0 (bo .u64 (bW .u64 a1) a2),xo a1 (bo .u64 (bW .u64 a2) a3),xo a2 (bo .u64 (bW .u64 a3) a4),xo a3 (bo .u64 (bW .u64 a4) a0),xo a4 (bo .u64 (bW .u64 a0) a1),xo a5 (bo .u64 (bW .u64 a6) a7),xo a6 (bo .u64 (bW .u64 a7) a8),xo a7 (bo .u64 (bW .u64 a8) a9),xo a8 (bo .u64 (bW .u64 a9) a5),xo a9 (bo .u64 (bW .u64 a5) a6),xo a10 (bo .u64 (bW .u64 a11) a12),xo a11 (bo .u64 (bW .u64 a12) a13),xo a12 (bo .u64 (bW .u64 a13) a14),xo a13 (bo .u64 (bW .u64 a14) a10),xo a14 (bo .u64 (bW .u64 a10) a11),xo a15 (bo .u64 (bW .u64 a16) a17),xo a16 (bo .u64 (bW .u64 a17) a18),xo a17 (bo .u64 (bW .u64 a18) a19),xo a18 (bo .u64 (bW .u64 a19) a15),xo a19 (bo .u64 (bW .u64 a15) a16),xo a20 (bo .u64 (bW .u64 a21) a22),xo a21 (bo .u64 (bW .u64 a22) a23),xo a22 (bo .u64 (bW .u64 a23) a24),xo a23 (bo .u64 (bW .u64 a24) a20),xo a24 (bo .u64 (bW .u64 a20) a21)]:=by kernel_rfl
theorem b5Q {b m a:List Int} (hb:b.length=25) (hm:m.length=25) (ha:a.length=25):iU (p4 b) 25 m=iU (q6 b) 5 a:=by
 rw [c2u]
 obtain ⟨a0,a1,a2,a3,a4,a5,a6,a7,a8,a9,a10,a11,a12,a13,a14,a15,a16,a17,a18,a19,a20,a21,a22,a23,a24,rfl⟩:=Wv hb
 obtain ⟨b0,b1,b2,b3,b4,b5,b6,b7,b8,b9,b10,b11,b12,b13,b14,b15,b16,b17,b18,b19,b20,b21,b22,b23,b24,rfl⟩:=Wv hm
 obtain ⟨c0,c1,c2,c3,c4,c5,c6,c7,c8,c9,c10,c11,c12,c13,c14,c15,c16,c17,c18,c19,c20,c21,c22,c23,c24,rfl⟩:=Wv ha
 rw [b61,b2Y]
theorem a7V {m:List Int} {rc:Int} (h:jg m):zj m rc=Zp m rc:=by
 unfold zj Zp
 dsimp only
 have h1:=b5W h
 unfold cs at h1
 rw [h1]
 have hc:(iU (q2 m) 5 (nZ 5)).length=5:=by rw [a1e,lZ]
 have ha:(iU (q3 (iU (q2 m) 5 (nZ 5))) 25 m).length=25:=by rw [Mw];exact h.1
 rw [b0P h.1]
 rw [b5Q (a:=iU (q3 (iU (q2 m) 5 (nZ 5))) 25 m) (by rw [a0m,lZ]) h.1 ha]
theorem a7b {m:List Int} {rc:Int} (h:jg m):jg (zj m rc):=by
 have hl:(zj m rc).length=25:=by
  unfold zj;dsimp only;rw [List.length_set,TC];exact h.1
 refine ⟨hl, ?_⟩
 unfold zj
 dsimp only
 have hb:(iU (p3 m (iU (p2 m) 25 (nZ 5))) 25 (nZ 25)).length=25:=by rw [TP,lZ]
 generalize iU (p3 m (iU (p2 m) 25 (nZ 5))) 25 (nZ 25)=b at hb
 have key: ∀k,k≤25→ ∀i,i<k→ ∀hi:i<(iU (p4 b) k m).length,LO (iU (p4 b) k m)[i]:=by
  intro k
  induction k with
  |zero=>intro _ i hi;omega
  |succ k ih=>
   intro hk i hi hlen
   simp only [iU,p4]
   rw [List.getElem_set]
   split
   ·exact b9H _ _
   ·exact ih om i om (by simpa [iU,p4] using hlen)
 intro x hx
 rcases List.mem_or_eq_of_mem_set hx with h1|h1
 ·obtain ⟨i,hi,rfl⟩:=List.getElem_of_mem h1
  exact key 25 om i (by rw [TC] at hi;have:=h.1;omega) hi
 ·rw [h1];exact b9H _ _
end Go.AI.Fn
set_option linter.unusedVariables false
set_option linter.unusedSimpArgs false
set_option maxRecDepth 10000
namespace Go.AI.Fn
def rcL:List Int:=[1,32898,9223372036854808714,9223372039002292224,32907,2147483649,9223372039002292353,9223372036854808585,138,136,2147516425,2147483658,2147516555,9223372036854775947,9223372036854808713,9223372036854808579,9223372036854808578,9223372036854775936,32778,9223372039002259466,9223372039002292353,9223372036854808704,2147483649,9223372039002292232]
theorem b99:[1,32898,9223372036854808714,9223372039002292224,32907,2147483649,9223372039002292353,9223372036854808585,138,136,2147516425,2147483658,2147516555,9223372036854775947,9223372036854808713,9223372036854808579,9223372036854808578,9223372036854775936,32778,9223372039002259466,9223372039002292353,9223372036854808704,2147483649,9223372039002292232]=rcL:=rfl
theorem a4S:[0,1,62,28,27,36,44,6,55,20,3,10,43,25,39,41,45,15,21,8,18,2,61,56,14]=pb:=rfl
theorem SV:rcL.length=24:=rfl
def rdP (k:Nat) (m:List Int):List Int:=zj m (rcL.getD k 0)
def OI (m:List Int):List Int:=iU rdP 24 m
theorem Rv (k:Nat) (m:List Int):iU rdP (k+1) m=zj (iU rdP k m) (rcL.getD k 0):=by rw [iU,rdP]
theorem a1X {m:List Int} (h:jg m): ∀k,jg (iU rdP k m)
 |0=>h
 |k+1=>by rw [Rv];exact a7b (a1X h k)
theorem TT {m:List Int} (h:jg m):jg (OI m):=a1X h 24
theorem Ut {m:List Int} (h:jg m):jF m=some (OI m):=by
 unfold jF
 have key:Loop (dS pb rcL rcL) (m,0)=some (OI m,24,false):=
  aH (fun k=>(iU rdP k m,(k:Int))) 24 (fun k hk=>by
   have h1:=a1X h k
   have hl1:=h1.1
   have hr:=SV
   simp only [dS]
   simp (disch:=omega) only [brd,Bz,eQ,aa]
   rw [b60 h1.1,obs,b5s h1.1 (by rw [a7r,lZ]),obs,brd (by rw [TP,lZ]),b3F h1.1 (by rw [TP,lZ]),obs]
   have hl:=TC (iU (p3 (iU rdP k m) (iU (p2 (iU rdP k m)) 25 (nZ 5))) 25 (nZ 25)) 25 (iU rdP k m)
   simp (disch:=omega) only [eQ,brd]
   rw [Rv]
   unfold zj
   simp only [uW,Int.toNat_natCast]) (by simp (disch:=omega) only [dS,brn];rfl)
 rw [b99,a4S,key,obs]
theorem Ud {m:List Int} (h:jg m):pa m=some (OI m):=by
 unfold pa
 have key:Loop (fQ (nZ 25) rcL pb) (m,0)=some (OI m,24,false):=
  aH (fun k=>(iU rdP k m,(k:Int))) 24 (fun k hk=>by
   have h1:=a1X h k
   have hl1:=h1.1
   have hr:=SV
   simp only [fQ]
   rw [brd om,b30 h1.1,obs,b4u h1.1 (by rw [a1e,lZ]),obs,b4q (lZ 25) (by rw [Mw];exact h1.1),obs,
    b6M (by rw [Mw];exact h1.1) (by rw [a0m,lZ]),obs]
   have hl:=a9h (iU (q4 (iU (q3 (iU (q2 (iU rdP k m)) 5 (nZ 5))) 25 (iU rdP k m))) 5 (nZ 25)) 5 (iU (q3 (iU (q2 (iU rdP k m)) 5 (nZ 5))) 25 (iU rdP k m))
   rw [Mw] at hl
   simp (disch:=omega) only [eQ,brd,Bz,aa]
   rw [Rv,a7V h1]
   unfold Zp
   simp only [uW,Int.toNat_natCast]) (by simp (disch:=omega) only [fQ,brn];rfl)
 have hp:=(TT h).1
 rw [brd h.1]
 show (some rcL).bind _=_
 rw [obs,brd SV]
 show (some pb).bind _=_
 rw [obs,brd JP,key,obs,brd hp,brd hp,brd hp]
theorem a7o {l:List UInt8} {k:Nat} (h:k<l.length):atL l (k:Int)=some (l.getD k 0):=by simp [atL,h]
def lnS (t:List UInt8) (k:Nat) (l:List Int):List Int:=l.set ((k:Int)/8).toNat (ui .u64 (g l ((k:Int)/8)) (aP .u64 (IntKind.wrap .u64 ((t.getD k 0).toNat:Int)) (8*((k:Int)%8))))
def y9 (t:List UInt8):List Int:=iU (lnS t) t.length (nZ 25)
theorem Un (t:List UInt8) (k:Nat) (l:List Int):(iU (lnS t) k l).length=l.length:=th (fun _ _=>List.length_set) k l
theorem BS (t:List UInt8):jg (y9 t):=by
 refine ⟨by rw [y9,Un,lZ], ?_⟩
 have key: ∀k, ∀x∈iU (lnS t) k (nZ 25),LO x:=by
  intro k
  induction k with
  |zero=>intro x hx;simp only [iU,nZ,List.mem_replicate] at hx;rw [hx.2];exact ⟨by decide,by decide⟩
  |succ k ih=>
   intro x hx
   rcases List.mem_or_eq_of_mem_set hx with h1|h1
   ·exact ih x h1
   ·rw [h1];exact UA _
 exact key _
theorem Ub {t:List UInt8} (h:t.length≤200):yv t=some (y9 t):=by
 unfold yv
 have key:Loop (jL (nZ 25) t ((t.length:Nat):Int)) (nZ 25,0)=some (y9 t,(t.length:Int),false):=
  aH (fun k=>(iU (lnS t) k (nZ 25),(k:Int))) t.length (fun k hk=>by
   have hl:=Un t k (nZ 25)
   rw [lZ] at hl
   simp only [jL]
   simp (disch:=omega) only [brd,cg,lU,Bz,eQ,aa,a7o,obs]
   rfl) (by simp (disch:=omega) only [jL,brn];simp;rfl)
 have hl:=(BS t).1
 rw [key,obs,brd hl,brd hl,brd hl]
theorem a09 {t:List UInt8} (h:t.length≤200):vd t=some (y9 t):=by
 unfold vd
 have key:Loop (iI (nZ 25) t) (nZ 25,0)=some (y9 t,(t.length:Int),false):=
  aH (fun k=>(iU (lnS t) k (nZ 25),(k:Int))) t.length (fun k hk=>by
   have hl:=Un t k (nZ 25)
   rw [lZ] at hl
   simp only [iI]
   simp (disch:=omega) only [brd,cg,lU,Bz,eQ,aa,ga,a7o,obs]
   rfl) (by simp (disch:=omega) only [iI,brn];simp;rfl)
 have hl:=(BS t).1
 rw [key,obs,brd hl,brd hl,brd hl]
def txB (m:List Int) (i:Nat):UInt8:=UInt8.ofInt (bA .u64 (g m ((i:Int)/8)) (8*((i:Int)%8)))
def vN (m:List Int) (n:Nat):List UInt8:=(List.range n).map (txB m)
theorem Di (m:List Int) (n:Nat):(vN m n).length=n:=by simp [vN]
theorem Na (m:List Int) (n:Nat):vN m (n+1)=vN m n++[txB m n]:=by simp [vN,List.range_succ]
theorem a5m {m:List Int} (h:m.length=25):ot m=some (vN m 200,m):=by
 unfold ot
 have key:Loop (fY m) ([],0)=some (vN m 200,200,false):=
  aH (fun k=>(vN m k,(k:Int))) 200 (fun k hk=>by
   have hl:=Di m k
   simp only [fY]
   simp (disch:=omega) only [brd,cg,lU,Bz,eQ,aa]
   rw [aA (by simp only [List.length_append,List.length_cons,List.length_nil];omega),Na]
   rfl) (by simp (disch:=omega) only [fY,brn];rfl)
 rw [key];rfl
theorem a3O {m:List Int} (h:m.length=25) {n:Nat} (hn:n≤200):yQ m n=some (vN m n):=by
 unfold yQ
 have key:Loop (jP m n) ([],0)=some (vN m n,(n:Int),false):=
  aH (fun k=>(vN m k,(k:Int))) n (fun k hk=>by
   have hl:=Di m k
   simp only [jP]
   simp (disch:=omega) only [brd,cg,lU,Bz,eQ,aa,ga]
   rw [aA (by simp only [List.length_append,List.length_cons,List.length_nil];omega),Na]
   rfl) (by simp (disch:=omega) only [jP,brn];simp)
 rw [brd h,key];rfl
end Go.AI.Fn
set_option linter.unusedVariables false
set_option linter.unusedSimpArgs false
namespace Go.AI.Fn
def xoS (t:List Int) (k:Nat) (l:List Int):List Int:=l.set k (xo (g l k) (g t k))
def a32 (t m:List Int):List Int:=iU (xoS t) 25 m
theorem Tf (t:List Int) (k:Nat) (l:List Int):(iU (xoS t) k l).length=l.length:=th (fun _ _=>List.length_set) k l
theorem YF {t m:List Int} (h:jg m):jg (a32 t m):=by
 refine ⟨by rw [a32,Tf];exact h.1, ?_⟩
 have key: ∀k, ∀x∈iU (xoS t) k m,LO x:=by
  intro k
  induction k with
  |zero=>exact h.2
  |succ k ih=>
   intro x hx
   rcases List.mem_or_eq_of_mem_set hx with h1|h1
   ·exact ih x h1
   ·rw [h1];exact UA _
 exact key _
theorem a9v {l5 a:List UInt8} {t m:List Int} (ht:t.length=25) (h:m.length=25):Loop (lS l5 a t) (m,0)=some (a32 t m,25,false):=
 aH (fun k=>(iU (xoS t) k m,(k:Int))) 25 (fun k hk=>by
  have hl:=Tf t k m
  simp only [lS]
  simp (disch:=omega) only [brd,Bz,eQ,aa]
  rfl) (by simp (disch:=omega) only [lS,brn];rfl)
theorem a6P {l5 a:List UInt8} {p:Int} {t m:List Int} (ht:t.length=25) (h:m.length=25):Loop (jS l5 t a p) (m,0)=some (a32 t m,25,false):=
 aH (fun k=>(iU (xoS t) k m,(k:Int))) 25 (fun k hk=>by
  have hl:=Tf t k m
  simp only [jS]
  simp (disch:=omega) only [brd,Bz,eQ,aa]
  rfl) (by simp (disch:=omega) only [jS,brn];rfl)
def c1q (a:List UInt8) (k:Nat) (m:List Int):List Int:=OI (a32 (y9 ((a.drop (136*k)).take 136)) m)
def Rz (a:List UInt8) (n:Nat):List Int:=iU (c1q a) n (nZ 25)
theorem c1i:jg (nZ 25):=⟨lZ 25,fun x hx=>by simp only [nZ,List.mem_replicate] at hx;rw [hx.2];exact ⟨by decide,by decide⟩⟩
theorem Oa (a:List UInt8) (n:Nat):Rz a (n+1)=OI (a32 (y9 ((a.drop (136*n)).take 136)) (Rz a n)):=by
 unfold Rz;rw [iU,c1q]
theorem Mz (a:List UInt8): ∀n,jg (Rz a n)
 |0=>c1i
 |n+1=>by rw [Oa];exact TT (YF (Mz a n))
theorem b1O {l4 a:List UInt8} {n:Nat} (h:a.length=136*n) (hn:n≤1000000000):Loop (lJ l4) (nZ 25,a)=some (Rz a n,[],false):=
 aH (fun k=>(Rz a k,a.drop (136*k))) n (fun k hk=>by
  have h1:=Mz a k
  have hx:=YF (t:=y9 ((a.drop (136*k)).take 136)) h1
  simp only [lJ]
  rw [brd (by rw [List.length_drop];omega),lQ om om (by rw [List.length_drop];omega),obs,lQ om (by rw [List.length_drop];omega) om]
  have e1:(List.drop (Int.toNat 0) (List.drop (136*k) a)).take (Int.toNat 136-Int.toNat 0)=(a.drop (136*k)).take 136:=rfl
  have e2:(List.drop (Int.toNat 136) (List.drop (136*k) a)).take ((((List.drop (136*k) a).length:Nat):Int).toNat-Int.toNat 136)=a.drop (136*(k+1)):=by
   rw [List.drop_drop,List.take_of_length_le (by rw [List.length_drop,List.length_drop];simp;omega)]
   congr 1
  rw [e1,e2,Ub (by rw [List.length_take];omega),obs,a9v (BS _).1 h1.1,obs,Ut hx,obs,obs,Oa]) (by
  simp only [lJ]
  rw [brn (by rw [List.length_drop];omega),List.drop_eq_nil_of_le om]
  rfl)
theorem b09 {l3 a:List UInt8} {n:Nat} (h:a.length=136*n) (hn:n≤1000000000): ∃p,Loop (jN l3 a) (nZ 25,0)=some (Rz a n,p):=
 ⟨_,aH (fun k=>(Rz a k,((136*k:Nat):Int))) n (fun k hk=>by
   have h1:=Mz a k
   have hx:=YF (t:=y9 ((a.drop (136*k)).take 136)) h1
   simp only [jN]
   rw [brd om,aa _ om om,lQ om om om,obs]
   have e1:(List.drop (((136*k:Nat):Int)).toNat a).take (((((136*k:Nat):Int))+136).toNat-(((136*k:Nat):Int)).toNat)=(a.drop (136*k)).take 136:=by
    congr 1
    omega
   rw [e1,a09 (by rw [List.length_take];omega),obs,brd (BS _).1,a6P (BS _).1 h1.1,obs,brd hx.1,Ud hx,obs,Bz (TT hx).1 hx.1,Oa]
   have e2:(((136*k:Nat):Int))+136=((136*(k+1):Nat):Int):=by omega
   rw [e2]) (by
   simp only [jN]
   rw [brn om])⟩
def GY (l:List UInt8):List UInt8:=l++List.replicate ((136-l.length%136)%136) 0
theorem Mv (l:List UInt8):(GY l).length=136*((l.length+135)/136):=by
 rw [GY,List.length_append,List.length_replicate];omega
theorem Vt {α:Type} (n:Nat) (x:α):List.replicate (n+1) x=List.replicate n x++[x]:=by
 rw [List.replicate_succ']
theorem a6N {c l:List UInt8} (h:l.length≤1000000000):Loop (ju c) l=some (GY l,false):=by
 have key:=aH (step:=ju c) (e:=(GY l,false)) (fun k=>l++List.replicate k 0) ((136-l.length%136)%136) (fun k hk=>by
  simp only [ju]
  rw [cg _ _ om,brb (by rw [List.length_append,List.length_replicate];omega),aA (by simp only [List.length_append,List.length_replicate,List.length_cons,List.length_nil];omega),Vt,List.append_assoc]) (by
  simp only [ju]
  have e:((((l++List.replicate ((136-l.length%136)%136) (0:UInt8)).length:Nat):Int).tmod 136)=0:=by
   rw [cg _ _ om,List.length_append,List.length_replicate];omega
  rw [e,y8 rfl];rfl)
 rwa [List.replicate_zero,List.append_nil] at key
theorem a6k {c l:List UInt8} (h:l.length≤1000000000):Loop (i8 c) l=some (GY l,false):=by
 have key:=aH (step:=i8 c) (e:=(GY l,false)) (fun k=>l++List.replicate k 0) ((136-l.length%136)%136) (fun k hk=>by
  simp only [i8]
  rw [cg _ _ om,brb (by rw [List.length_append,List.length_replicate];omega),aA (by simp only [List.length_append,List.length_replicate,List.length_cons,List.length_nil];omega),Vt,List.append_assoc]) (by
  simp only [i8]
  have e:((((l++List.replicate ((136-l.length%136)%136) (0:UInt8)).length:Nat):Int).tmod 136)=0:=by
   rw [cg _ _ om,List.length_append,List.length_replicate];omega
  rw [e,y8 rfl];rfl)
 rwa [List.replicate_zero,List.append_nil] at key
def OE (b:List UInt8):List UInt8:=(GY (b++[1])).set ((GY (b++[1])).length-1) (UInt8.ofInt (ui .u8 (((GY (b++[1])).getD ((GY (b++[1])).length-1) 0).toNat:Int) 128))
def H (b:List UInt8):List UInt8:=vN (Rz (OE b) ((b.length+136)/136)) 32
theorem H0 (b:List UInt8):(H b).length=32:=Di _ _
theorem W9 (b:List UInt8):(OE b).length=136*((b.length+136)/136):=by
 rw [OE,List.length_set,Mv,List.length_append,List.length_singleton]
theorem a6q {β:Type} {l:List UInt8} {i:Nat} {f:UInt8→Option β} (h:i<l.length):(l[i]?).bind f=f (l.getD i 0):=by simp [h]
theorem a1a (m:List Int):(vN m 200).take 32=vN m 32:=by
 rw [vN, ←List.map_take,List.take_range];rfl
theorem JF {b:List UInt8} (h:b.length≤100000000):qM b=some (H b):=by
 unfold qM
 have hl:=Mv (b++[1])
 rw [List.length_append,List.length_singleton] at hl
 have hpl:=W9 b
 rw [aA om,aA (by rw [List.length_append,List.length_singleton];omega),a6k (by rw [List.length_append,List.length_singleton];omega),obs]
 dsimp only
 rw [aa _ om om]
 have ei:(((GY (b++[1])).length:Int)-1).toNat=(GY (b++[1])).length-1:=by omega
 rw [ei]
 simp (disch:=omega) only [brd,a6q]
 obtain ⟨p,hp⟩:=b09 (l3:=[1]) hpl om
 unfold OE at hp
 rw [hp,obs]
 dsimp only
 have ok:=Mz (OE b) ((b.length+136)/136)
 unfold OE at ok
 rw [brd ok.1]
 have ht:=a3O (n:=32) ok.1 om
 rw [show ((32:Nat):Int)=32 from rfl] at ht
 rw [ht,obs,H,OE]
theorem WZ {l:List (List UInt8)} (h:l.flatten.length≤1000000000) (hn:l.length≤1000000):Loop (lu l ((l.length:Nat):Int)) ([],0)=some (l.flatten,(l.length:Int),false):=
 aH (fun k=>((l.take k).flatten,(k:Int))) l.length (fun k hk=>by
  simp only [lu]
  have h1:((l.take k).flatten++l[k]).length≤l.flatten.length:=by
   have e:l.flatten=(l.take (k+1)).flatten++(l.drop (k+1)).flatten:=by rw [←List.flatten_append,List.take_append_drop]
   rw [bt hk,List.flatten_append,List.flatten_singleton] at e
   have e2:=congrArg List.length e
   simp only [List.length_append] at e2 ⊢
   omega
  rw [brd om,bN hk,obs,aA om,aa _ om om,bt hk,List.flatten_append,List.flatten_singleton]
  rfl) (by
  simp only [lu]
  rw [brn om,List.take_length];simp)
theorem sI {l:List (List UInt8)} (h:l.flatten.length≤100000000) (hn:l.length≤1000000):ph l=some (H l.flatten):=by
 unfold ph
 rw [WZ om hn,obs]
 dsimp only
 generalize l.flatten=b at h
 have hl:=Mv (b++[1])
 rw [List.length_append,List.length_singleton] at hl
 have hpl:=W9 b
 rw [aA (by rw [List.length_append,List.length_singleton];omega),a6N (by rw [List.length_append,List.length_singleton];omega),obs]
 dsimp only
 rw [aa _ om om]
 have ei:(((GY (b++[1])).length:Int)-1).toNat=(GY (b++[1])).length-1:=by omega
 rw [ei]
 simp (disch:=omega) only [brd,a6q]
 have hp:=b1O (l4:=[1]) hpl om
 unfold OE at hp
 rw [hp,obs]
 dsimp only
 have ok:=Mz (OE b) ((b.length+136)/136)
 unfold OE at ok
 rw [a5m ok.1,obs,lQ om om (by rw [Di];omega),obs,H,OE, ←a1a]
 rfl
theorem L7 {t:List UInt8} (h:t.length≤100000000):yY t=some (H t):=by
 unfold yY
 rw [aA om,sI (by simpa using h) (by simp)]
 simp
end Go.AI.Fn
set_option linter.unusedVariables false
namespace Go.AI.Fn
def nO (n:Int):List UInt8:=[UInt8.ofInt (bA .i64 n 24),UInt8.ofInt (bA .i64 n 16),UInt8.ofInt (bA .i64 n 8),UInt8.ofInt n]
def e8 (x:Ext):List UInt8:=nO x.A++nO x.B
theorem eP (n:Int):(nO n).length=4:=rfl
theorem b96 (x:Ext):(e8 x).length=8:=rfl
theorem nI {n:Int} {l:List UInt8} (h:l.length≤1099511627770):iE n l=some (l++nO n):=by
 unfold iE
 rw [CZ (Ip (by simp only [List.length_append,List.length_cons,List.length_nil];omega))];rfl
theorem c3N (n:Int):bA .i64 n 0=n:=by simp [bA]
theorem a2v (n:Int):ob n 4=some (nO n):=by
 unfold ob
 rw [show IntKind.wrap .i64 (4-1)=3 by decide,
  ct (s':=([UInt8.ofInt (bA .i64 n 24)],2)) (by kernel_rfl),
  ct (s':=([UInt8.ofInt (bA .i64 n 24),UInt8.ofInt (bA .i64 n 16)],1)) (by kernel_rfl),
  ct (s':=([UInt8.ofInt (bA .i64 n 24),UInt8.ofInt (bA .i64 n 16),UInt8.ofInt (bA .i64 n 8)],0)) (by kernel_rfl),
  ct (s':=([UInt8.ofInt (bA .i64 n 24),UInt8.ofInt (bA .i64 n 16),UInt8.ofInt (bA .i64 n 8),UInt8.ofInt (bA .i64 n 0)], -1)) (by kernel_rfl),
  dx (e:=([UInt8.ofInt (bA .i64 n 24),UInt8.ofInt (bA .i64 n 16),UInt8.ofInt (bA .i64 n 8),UInt8.ofInt (bA .i64 n 0)], -1,false)) (by kernel_rfl),c3N]
 rfl
theorem EV {l:List Ext} (hl:l.length≤4194304):qW l=some (l.flatMap e8):=by
 unfold qW
 have key:=jw (step:=iQ l ((l.length:Nat):Int))
  (fun s=>0≤s.2∧s.2≤l.length∧(s.1.length:Int)=8*s.2∧s.1++(l.drop s.2.toNat).flatMap e8=l.flatMap e8) (fun s=>(l.length-s.2).toNat)
  (fun e=>e.1=l.flatMap e8) ?_ ([],0) ⟨by first|omega| (dsimp only;omega),by first|omega| (dsimp only;omega),by simp,rfl⟩
 ·obtain ⟨e,he,h⟩:=key
  rw [he];simp only [obs,h]
 ·rintro ⟨o,t⟩ ⟨h0,h1,h3,h2⟩
  dsimp only at h0 h1 h2 h3
  by_cases c:t<(l.length:Int)
  ·left
   obtain ⟨x,r,e1,e2,e3⟩:=Kc (l:=l) (i:=t.toNat) om
   simp only [iQ]
   rw [brd c,b08 h0 e1]
   simp only [obs]
   rw [nI om]
   simp only [obs]
   rw [nI (by simp only [List.length_append,eP];omega),aa (t+1) om om]
   refine ⟨_,rfl,⟨by first|omega| (dsimp only;omega),by first|omega| (dsimp only;omega), ?_, ?_⟩,by first|omega| (dsimp only;omega)⟩
   ·simp only [List.length_append,eP];omega
   ·dsimp only
    rw [show (t+1).toNat=t.toNat+1 by omega,e2]
    rw [e1,List.flatMap_cons] at h2
    simpa [e8] using h2
  ·right
   simp only [iQ]
   rw [brn c]
   refine ⟨_,rfl, ?_⟩
   rw [List.drop_eq_nil_of_le om] at h2
   simpa using h2
end Go.AI.Fn
set_option linter.unusedVariables false
namespace Go.AI.Fn
def be (w x y z:UInt8):Int:=(((w.toNat:Int)*256+x.toNat)*256+y.toNat)*256+z.toNat
theorem c4b {l:List UInt8} (h:8≤l.length): ∃a b c d e f g k r,l=a::b::c::d::e::f::g::k::r:=by
 match l,h with
 |a::b::c::d::e::f::g::k::r,_=>exact ⟨a,b,c,d,e,f,g,k,r,rfl⟩
theorem b2u {n:Int} (x:UInt8) (h0:0≤n) (h1:n<16777216):ui .i64 (aP .i64 n 8) (IntKind.wrap .i64 (x.toNat:Int))=n*256+x.toNat:=by
 have hx:=yW x
 have e1:aP .i64 n 8=n*256:=by
  have:n*2^(min (8:Int).toNat (IntKind.bits .i64))=n*256:=by
   have:(2:Int)^(min (8:Int).toNat (IntKind.bits .i64))=256:=by decide
   rw [this]
  unfold aP
  rw [this,aa _ om om]
 rw [e1,aa (x.toNat:Int) om om]
 unfold ui
 obtain ⟨m,rfl⟩:=Int.eq_ofNat_of_zero_le h0
 have e2:(BitVec.ofInt (IntKind.bits .i64) ((m:Int)*256)|||BitVec.ofInt (IntKind.bits .i64) (x.toNat:Int)).toNat=m*256+x.toNat:=by
  rw [BitVec.toNat_or,BitVec.toNat_ofInt,BitVec.toNat_ofInt]
  have b1:(((m:Int)*256)%((2^(IntKind.bits .i64):Nat):Int)).toNat=m<<<8:=by
   rw [show ((2^(IntKind.bits .i64):Nat):Int)=18446744073709551616 by decide,Nat.shiftLeft_eq];omega
  have b2:((x.toNat:Int)%((2^(IntKind.bits .i64):Nat):Int)).toNat=x.toNat:=by
   rw [show ((2^(IntKind.bits .i64):Nat):Int)=18446744073709551616 by decide];omega
  rw [b1,b2, ←Nat.shiftLeft_add_eq_or_of_lt (show x.toNat<2^8 by omega),Nat.shiftLeft_eq]
 rw [e2,aa _ om om]
 omega
theorem Y5 (w x y z:UInt8):C9 [w,x,y,z]=some (be w x y z):=by
 have hw:=yW w
 have hx:=yW x
 have hy:=yW y
 have hz:=yW z
 unfold C9
 have st: ∀(n t:Int) (b:UInt8),0≤n→n<16777216→0≤t→t<4→[w,x,y,z][t.toNat]? =some b→lH [w,x,y,z] (([w,x,y,z].length:Nat):Int) (n,t)=some (.inl (n*256+b.toNat,t+1)):=by
  intro n t b h0 h1 h2 h3 h4
  simp only [lH]
  rw [brd (by simp only [List.length_cons,List.length_nil];omega),show atL [w,x,y,z] t=some b by simp [atL,h2,h4]]
  simp only [obs]
  rw [b2u b h0 h1,aa (t+1) om om]
 rw [ct (st 0 0 w om om om om rfl),ct (st _ _ x om om om om rfl),ct (st _ _ y om om om om rfl),ct (st _ _ z om om om om rfl)]
 rw [dx (e:=(be w x y z,4,false)) ?_]
 ·rfl
 ·simp only [lH]
  rw [brn (by simp only [List.length_cons,List.length_nil];omega)]
  simp [be]
theorem b7f (n:Int) (k:Nat) (hk:k≤64) (h0:0≤n):bA .i64 n (k:Int)=n/2^k:=by
 unfold bA
 have:min ((k:Int).toNat) (IntKind.bits .i64)=k:=by simp [IntKind.bits];omega
 rw [this,Int.fdiv_eq_ediv_of_nonneg _ (by exact Int.pow_nonneg (by decide))]
end Go.AI.Fn
set_option linter.unusedVariables false
set_option linter.unusedSimpArgs false
namespace Go.AI.Fn
def b0x:List UInt8:=[97,98,115,111,114,98]
def Ue:List UInt8:=[100,114,97,119]
def YA:List UInt8:=[103,114,105,110,100]
def b3V:List UInt8:=[115,111,117,114,99,101]
def a2R (s:Source):Bool:=decide (s.Script.length≤64)&&(s.Script.all Qp&&(decide (s.State.length=32)&&((decide (0≤s.At)&&decide (s.At≤1000000))&&(decide (0≤s.Count)&&decide (s.Count≤1000000)))))
structure AV (s:Source):Prop where
 len:s.Script.length≤64
 scr:gJ s.Script
 st:s.State.length=32
 a0:0≤s.At
 a1:s.At≤1000000
 c0:0≤s.Count
 c1:s.Count≤1000000
theorem Nm {s:Source}:a2R s=true↔AV s:=by
 unfold a2R
 simp only [Bool.and_eq_true,decide_eq_true_eq,c3Y]
 exact ⟨fun ⟨h1,h2,h3,⟨h4,h5⟩,h6,h7⟩=>⟨h1,h2,h3,h4,h5,h6,h7⟩,fun h=>⟨h.1,h.2,h.3,⟨h.4,h.5⟩,h.6,h.7⟩⟩
theorem Yh (h:List UInt8):Cz h=some (decide (h.length=32)):=by
 unfold Cz
 congr 1
 by_cases c:h.length=32
 ·rw [decide_eq_true c,c];rfl
 ·rw [decide_eq_false c];simp;omega
theorem Ez {s:Source} (hl:s.Script.length≤1099511627776):nN s=some (a2R s):=by
 unfold nN a2R
 rw [a5D hl]
 by_cases h1:s.Script.length≤64
 ·rw [brd om,decide_eq_true h1,obs,Yh,M4,M4]
  cases s.Script.all Qp
  ·rfl
  ·simp only [bM,obs,Bool.true_and]
   cases decide (s.State.length=32)
   ·rfl
   ·simp only [bM,Bool.true_and]
    cases (decide (0≤s.At)&&decide (s.At≤1000000))<;>rfl
 ·rw [brn om,decide_eq_false h1];rfl
theorem Dh (n:Int):BV n=some (nO n):=by
 unfold BV;rw [aA (by simp only [List.length_cons,List.length_nil];omega)];rfl
theorem c3p {l:List UInt8} (h:4≤l.length):l.take 4=[l.getD 0 0,l.getD 1 0,l.getD 2 0,l.getD 3 0]:=by
 match l,h with
 |a::b::c::d::r,_=>rfl
theorem a9p {n:Int} {k:Nat} (hk:k≤64) (h0:0≤n):(bA .i64 n (k:Int)==0)=decide (n<2^k):=by
 rw [b7f n k hk h0]
 have hp:(0:Int)<2^k:=Int.pow_pos (by decide)
 by_cases h:n<2^k
 ·rw [decide_eq_true h,Int.ediv_eq_zero_of_lt h0 h];rfl
 ·rw [decide_eq_false h]
  have:1≤n/2^k:=(Int.le_ediv_iff_mul_le hp).2 om
  simp;omega
def AZ (st:List UInt8) (bits:Nat) (nonce:Int):Bool:=decide (((H (st++(YA++nO nonce))).getD 0 0).toNat*256+((H (st++(YA++nO nonce))).getD 1 0).toNat<2^(16-bits))
theorem c3i: ∀b:Nat,b≤12→(2:Int)^(32-b)=65536*((2^(16-b):Nat):Int)∧(2:Int)^(16-b)=((2^(16-b):Nat):Int):=by decide
theorem Re {s:Source} {bits:Nat} {nonce:Int} (hs:s.State.length=32) (hb:bits≤12):mN s bits nonce=some (AZ s.State bits nonce):=by
 unfold mN
 have hf:[s.State,[103,114,105,110,100],nO nonce].flatten=s.State++(YA++nO nonce):=by simp [YA]
 have h4:(nO nonce).length=4:=eP nonce
 have h5:YA.length=5:=rfl
 rw [aA om,Dh,obs,sI (by rw [hf];simp only [List.length_append];omega) (by simp),obs,hf]
 have hl:=H0 (s.State++(YA++nO nonce))
 unfold AZ
 generalize H (s.State++(YA++nO nonce))=h at hl
 rw [aA om,lQ om om om,obs]
 have e:(h.drop (Int.toNat 0)).take (Int.toNat 4-Int.toNat 0)=[h.getD 0 0,h.getD 1 0,h.getD 2 0,h.getD 3 0]:=by
  show h.take 4=_
  exact c3p om
 rw [e,Y5,obs,aa _ om om,brd om,show (32:Int)-(bits:Int)=((32-bits:Nat):Int) by omega]
 have b0:=yW (h.getD 0 0)
 have b1:=yW (h.getD 1 0)
 have b2:=yW (h.getD 2 0)
 have b3:=yW (h.getD 3 0)
 obtain ⟨g1,g2⟩:=c3i bits hb
 rw [a9p om (by unfold be;omega),g1]
 congr 1
 have hiff:be (h.getD 0 0) (h.getD 1 0) (h.getD 2 0) (h.getD 3 0)<65536*((2^(16-bits):Nat):Int)↔(h.getD 0 0).toNat*256+(h.getD 1 0).toNat<2^(16-bits):=by
  unfold be;omega
 exact decide_eq_decide.2 hiff
open Classical in
noncomputable def zX (st:List UInt8) (bits:Nat):Option Nat:=if h: ∃n:Nat,n<65536∧AZ st bits n=true∧ ∀j:Nat,j<n→AZ st bits j=false then some h.choose else none
theorem a0j {st:List UInt8} {bits n:Nat} (h:n<65536) (h1:AZ st bits n=true) (h2: ∀j:Nat,j<n→AZ st bits j=false):zX st bits=some n:=by
 have hex: ∃n:Nat,n<65536∧AZ st bits n=true∧ ∀j:Nat,j<n→AZ st bits j=false:=⟨n,h,h1,h2⟩
 unfold zX
 rw [dif_pos hex]
 obtain ⟨g1,g2,g3⟩:=hex.choose_spec
 congr 1
 rcases Nat.lt_trichotomy hex.choose n with hlt|heq|hgt
 ·have:=h2 _ hlt;rw [g2] at this;cases this
 ·exact heq
 ·have:=g3 _ hgt;rw [h1] at this;cases this
theorem ZG {st:List UInt8} {bits:Nat} (h: ∀n:Nat,n<65536→AZ st bits n=false):zX st bits=none:=by
 unfold zX
 rw [dif_neg]
 rintro ⟨n,hn,h1,_⟩
 rw [h n hn] at h1;cases h1
theorem a0S {s:Source} {bits:Nat} (hs:s.State.length=32) (hb:bits≤12):kX s bits=some (match zX s.State bits with|some n=>(n:Int)|none=> -1):=by
 unfold kX
 have key:=sg (step:=cq bits s.Script s.At s.State s.Count) (fun k=>(k:Int)) 65536 (fun k=> !AZ s.State bits (k:Int)) (fun k=> .inl (k:Int)) (e:= .inr (65536,false)) (fun k hk hp=>by
  have hd:AZ s.State bits (k:Int)=false:=by simpa using hp
  simp only [cq]
  rw [brd om,Re (by exact hs) hb,obs,hd,aK,aa _ om om];rfl)
  (fun k hk hp=>by
   have hd:AZ s.State bits (k:Int)=true:=by simpa using hp
   simp only [cq]
   rw [brd om,Re (by exact hs) hb,obs,hd,bM])
  (by simp only [cq];rw [brn (by decide)];rfl)
 rcases key with ⟨h1,h2⟩|⟨k,hk,h1,h3,h2⟩
 ·have e:Loop (cq bits s.Script s.At s.State s.Count) 0=some (.inr (65536,false)):=h2
  rw [e,ZG fun n hn=>by simpa using h1 n hn];rfl
 ·have e:Loop (cq bits s.Script s.At s.State s.Count) 0=some (.inl (k:Int)):=h2
  rw [e,a0j hk (by simpa using h1) fun j hj=>by simpa using h3 j hj];rfl
end Go.AI.Fn
set_option linter.unusedVariables false
set_option linter.unusedSimpArgs false
namespace Go.AI.Fn
def tkM (s:Source) (t:List UInt8):Source:=⟨s.Script,s.At,H (s.State++(b0x++(nO t.length++t))),0⟩
theorem b9W {s:Source} (t:List UInt8) (h:AV s):AV (tkM s t):=⟨h.1,h.2,H0 _,h.4,h.5,by simp [tkM],by simp [tkM]⟩
def beN (l:List UInt8):Int:=l.foldl (fun n c=>n*256+(c.toNat:Int)) 0
def a4D (l:List UInt8):Int:=beN l%2130706433
def sS (s:Source):Source×Ext:=
 if s.Script.length=0 then (⟨s.Script,s.At,s.State,s.Count+1⟩,⟨a4D ((H (s.State++(Ue++nO s.Count))).take 8),a4D (((H (s.State++(Ue++nO s.Count))).drop 8).take 8)⟩)
 else (⟨s.Script,s.At+1,s.State,s.Count⟩,s.Script.getD (s.At%(s.Script.length:Int)).toNat e0)
theorem a2l (l:List UInt8):okF (a4D l):=is _
theorem WA {s:Source} (h:AV s):okE (sS s).2:=by
 unfold sS
 split
 ·exact ⟨a2l _,a2l _⟩
 ·exact h.scr.getD _
theorem a3G {s:Source} (h:AV s) (ha:s.At<1000000) (hc:s.Count<1000000):AV (sS s).1:=by
 unfold sS
 split
 ·exact ⟨h.1,h.2,h.3,h.4,h.5,by have:=h.6;simp;omega,by simp;omega⟩
 ·exact ⟨h.1,h.2,h.3,by have:=h.4;simp;omega,by simp;omega,h.6,h.7⟩
theorem Y7 {s:Source} {t:List UInt8} (hs:s.State.length=32) (ht:t.length≤1000000):og s t=some (tkM s t):=by
 unfold og
 have h4:=eP ((t.length:Nat):Int)
 rw [aA (by simp only [List.length_cons,List.length_nil];omega),a2v,obs,aA (by simp only [List.length_append,List.length_cons,List.length_nil];omega),
  aA (by simp only [List.length_append,List.length_cons,List.length_nil];omega),JF (by simp only [List.length_append,List.length_cons,List.length_nil];omega),obs,tkM]
 simp [b0x]
theorem Pe (l:List UInt8) (c:UInt8):beN (l++[c])=beN l*256+(c.toNat:Int):=by simp [beN,List.foldl_append]
theorem OU {t:List UInt8} (h:t.length=8):qw t=some (a4D t):=by
 unfold qw
 have key:Loop (iL t) (0,0)=some (a4D t,8,false):=
  aH (fun k=>(beN (t.take k)%2130706433,(k:Int))) 8 (fun k hk=>by
   have hk':k<t.length:=by omega
   have hb:=yW t[k]
   have hm:0≤beN (t.take k)%2130706433∧beN (t.take k)%2130706433<2130706433:=by omega
   simp only [iL]
   rw [brd om,bN hk',obs]
   simp (disch:=omega) only [aa,cg]
   rw [bt hk',Pe,mX1];rfl) (by
   simp only [iL]
   rw [brn (by decide),List.take_of_length_le om];rfl)
 rw [key];rfl
theorem a4u {s:Source} (h:AV s):uV s=some (sS s):=by
 have h1:=h.1
 have h3:=h.3
 have h4:=h.4
 have h5:=h.5
 have h6:=h.6
 have h7:=h.7
 unfold uV sS
 by_cases hl:s.Script.length=0
 ·have hf:=eP s.Count
  rw [brn om,if_pos hl,aA (by simp only [List.length_cons,List.length_nil];omega),a2v,obs,aA (by simp only [List.length_append,List.length_cons,List.length_nil];omega),JF (by simp only [List.length_append,List.length_cons,List.length_nil];omega),obs]
  have e:s.State++[100,114,97,119]++nO s.Count=s.State++(Ue++nO s.Count):=by simp [Ue]
  rw [e]
  have hh:=H0 (s.State++(Ue++nO s.Count))
  rw [lQ om om om,obs,OU (by simp;omega),obs,lQ om om om,obs,OU (by simp;omega),obs,aa _ om om]
  rfl
 ·have hr:=Int.emod_nonneg s.At (b:=(s.Script.length:Int)) om
  have hr2:=Int.emod_lt_of_pos s.At (b:=(s.Script.length:Int)) om
  rw [brd om,if_neg hl,brd om,cg _ _ h4,aa _ om om]
  have e:atL s.Script (s.At%(s.Script.length:Int))=some (s.Script.getD (s.At%(s.Script.length:Int)).toNat e0):=by
   have:=b6R (l:=s.Script) (k:=(s.At%(s.Script.length:Int)).toNat) om
   rwa [Int.toNat_of_nonneg hr] at this
  rw [e];rfl
theorem Xy {s:Source} (h:s.Script.length≤1000000):yG s=some s:=by
 unfold yG;rw [aA (by simp;omega)];simp
theorem b1J {l:List UInt8} {scr:List Ext} (h:l.length≤1000000):Bu l scr=some ⟨scr,0,H (b3V++l),0⟩:=by
 unfold Bu
 rw [aA (by simp only [List.length_cons,List.length_nil];omega),JF (by simp only [List.length_append,List.length_cons,List.length_nil];omega),obs];rfl
theorem b06 {l:List UInt8} {scr:List Ext} (h:scr.length≤64) (hs:gJ scr):AV ⟨scr,0,H (b3V++l),0⟩:=⟨h,hs,H0 _,by simp,by simp,by simp,by simp⟩
theorem a1C {l:List (List UInt8)} {m:aD} {B:Int} (h:Src B m) (hB:B+3<Big) (h0:1<l.length) (h1:l.length≤100): ∃x m',ig l m=some (x,m')∧x∈l∧Src (B+3) m':=by
 unfold ig
 obtain ⟨x,m1,e1,x0,x1,_,s1⟩:=dY (n:=(l.length:Int)) h om
 rw [bc om,e1,obs]
 obtain ⟨y,hy,_,hm⟩:=b1H (l:=l) x0 (by have:=x1;omega)
 dsimp only
 rw [hy]
 exact ⟨_,_,rfl,hm,s1⟩
structure Few (s:Source) (k:Int):Prop where
 ok:AV s
 a:s.At≤k
 c:s.Count≤k
theorem Few.mono {s:Source} {j k:Int} (h:Few s j) (hk:j≤k):Few s k:=⟨h.1,by have:=h.2;omega,by have:=h.3;omega⟩
theorem Few.take {s:Source} {k:Int} (h:Few s k) (t:List UInt8):Few (tkM s t) (k+1):=⟨b9W t h.1,by have:=h.2;simp [tkM];omega,by have:=h.3;have:=h.1.c0;simp [tkM];omega⟩
theorem Few.draw {s:Source} {k:Int} (h:Few s k) (hk:k<1000000):Few (sS s).1 (k+1):=by
 have h2:=h.2
 have h3:=h.3
 refine ⟨a3G h.1 om om, ?_, ?_⟩<;>(unfold sS;split<;>dsimp only<;>omega)
theorem a2B {c4 c6:Int} {c5:List UInt8} {i B k:Int} {m:aD} {s:Source} (h:Src B m) (hs:Few s k) (hi0:0≤i) (hi:i≤4) (hk:k≤100) (hB:B+6*i<Big):
 ∃e,Loop (dL c4 c5 c6) (i,m.code,m.at_,m.seed,s.Script,s.At,s.State,s.Count)=some e∧Src (B+6*i) ⟨e.2.2.1,e.2.2.2.1,e.2.2.2.2.1⟩∧Few ⟨e.2.2.2.2.2.1,e.2.2.2.2.2.2.1,e.2.2.2.2.2.2.2.1,e.2.2.2.2.2.2.2.2⟩ (k+i):=by
 refine jw (step:=dL c4 c5 c6) (fun x=>0≤x.1∧x.1≤i∧Src (B+6*(i-x.1)) ⟨x.2.1,x.2.2.1,x.2.2.2.1⟩∧Few ⟨x.2.2.2.2.1,x.2.2.2.2.2.1,x.2.2.2.2.2.2.1,x.2.2.2.2.2.2.2⟩ (k+(i-x.1))) (fun x=>x.1.toNat) _ ?_ (i,m.code,m.at_,m.seed,s.Script,s.At,s.State,s.Count) ⟨hi0,by dsimp only;omega,h.mono (by dsimp only;omega),hs.mono (by dsimp only;omega)⟩
 rintro ⟨j,c,c2,c3,d,d2,d3,d4⟩ ⟨j0,j1,hsr,hfw⟩
 dsimp only at j0 j1 hsr hfw
 simp only [dL]
 by_cases hj:j>0
 ·left
  rw [brd hj]
  obtain ⟨b,m1,e1,s1⟩:=qv (n:=2) hsr om
  rw [e1,obs]
  cases b
  ·dsimp only
   rw [aK,a4u hfw.1,obs,aa _ om om]
   exact ⟨_,rfl,⟨by dsimp only;omega,by dsimp only;omega,s1.mono (by dsimp only;omega),(hfw.draw om).mono (by dsimp only;omega)⟩,by dsimp only;omega⟩
  ·dsimp only
   obtain ⟨y,m2,e2,_,s2⟩:=a1C (l:=[[],[116,101,120,116]]) s1 om (by decide) (by decide)
   have hy:y.length≤1000:=by
    have:y∈[[],[116,101,120,116]]:=by assumption
    simp only [List.mem_cons,List.mem_nil_iff,or_false] at this
    rcases this with rfl|rfl<;>simp
   rw [bM,e2,obs,Y7 (t:=y) hfw.1.3 om,obs,aa _ om om]
   exact ⟨_,rfl,⟨by dsimp only;omega,by dsimp only;omega,s2.mono (by dsimp only;omega),(hfw.take y).mono (by dsimp only;omega)⟩,by dsimp only;omega⟩
 ·right
  rw [brn hj]
  have:j=0:=by omega
  subst this
  exact ⟨_,rfl,hsr.mono om,hfw.mono om⟩
theorem b4o {c4 c6:Int} {c5:List UInt8} {i B k:Int} {m:aD} {s:Source} (h:Src B m) (hs:Few s k) (hi0:0≤i) (hi:i≤4) (hk:k≤100) (hB:B+6*i<Big):
 ∃e,Loop (iy c4 c5 c6) (i,m.code,m.at_,m.seed,s.Script,s.At,s.State,s.Count)=some e∧Src (B+6*i) ⟨e.2.2.1,e.2.2.2.1,e.2.2.2.2.1⟩∧Few ⟨e.2.2.2.2.2.1,e.2.2.2.2.2.2.1,e.2.2.2.2.2.2.2.1,e.2.2.2.2.2.2.2.2⟩ (k+i):=
 a2B (c4:=c4) (c5:=c5) (c6:=c6) h hs hi0 hi hk hB
theorem UM {code:List UInt8} (h:code.length≤1048576): ∃s,vW code=some s∧Few s 4:=by
 unfold vW mZ
 obtain ⟨m,e1,s1⟩:=uQ (show code.length≤1048600 by omega)
 rw [e1,obs]
 obtain ⟨y,m2,e2,hy,s2⟩:=a1C (l:=[[],[97],[108,97,98,101,108]]) s1 (by decide) (by decide) (by decide)
 have hyl:y.length≤1000:=by
  simp only [List.mem_cons,List.mem_nil_iff,or_false] at hy
  rcases hy with rfl|rfl|rfl<;>simp
 rw [e2,obs,b1J (l:=y) om,obs]
 obtain ⟨b,m3,e3,s3⟩:=qv (n:=3) s2 (by decide)
 dsimp only
 rw [e3,obs]
 cases b
 ·dsimp only
  obtain ⟨x,m4,e4,x0,x1,_,s4⟩:=dY (n:=4) s3 (by decide)
  rw [aK,e4,obs]
  obtain ⟨e,e5,s5,f5⟩:=b4o (c4:=0) (c5:=[]) (c6:=0) (i:=x) (k:=0) s4 (s:=⟨[],0,H (b3V++y),0⟩) ⟨b06 (by simp) gJ.nil,by simp,by simp⟩ x0 (by have:=x1 (by decide);omega) (by decide) (by have:=x1 (by decide);simp only [Big];omega)
  dsimp only at e5 ⊢
  rw [e5,obs,Xy (by have:=f5.1.1;dsimp only at this ⊢;omega),obs,obs]
  exact ⟨_,rfl,f5.mono (by have:=x1 (by decide);omega)⟩
 ·dsimp only
  obtain ⟨n,m4,e4,n0,n1,_,s4⟩:=dY (n:=5) s3 (by decide)
  have hn:=n1 (by decide)
  rw [bM,e4,obs,aa _ om om]
  obtain ⟨l,m5,e5,l0,l1,s5⟩:=b3T (n:=1+n) s4 om om (by simp only [Big];omega)
  dsimp only
  rw [e5,obs]
  obtain ⟨x,m6,e6,x0,x1,_,s6⟩:=dY (n:=4) s5 (by simp only [Big];omega)
  dsimp only
  rw [e6,obs]
  obtain ⟨e,e7,s7,f7⟩:=a2B (c4:=0) (c5:=[]) (c6:=0) (i:=x) (k:=0) s6 (s:=⟨l,0,H (b3V++y),0⟩) ⟨b06 om l1,by simp,by simp⟩ x0 (by have:=x1 (by decide);omega) (by decide) (by have:=x1 (by decide);simp only [Big];omega)
  dsimp only at e7 ⊢
  rw [e7,obs,Xy (by have:=f7.1.1;dsimp only at this ⊢;omega),obs,obs]
  exact ⟨_,rfl,f7.mono (by have:=x1 (by decide);omega)⟩
end Go.AI.Fn
set_option linter.unusedVariables false
set_option linter.unusedSimpArgs false
namespace Go.AI.Fn
theorem a5t {n:Int} (x:UInt8) (h0:0≤n) (h1:n<72057594037927936):ui .u64 (aP .u64 n 8) (IntKind.wrap .u64 (x.toNat:Int))=n*256+x.toNat:=by
 have hx:=yW x
 have e1:aP .u64 n 8=n*256:=by
  have:n*2^(min (8:Int).toNat (IntKind.bits .u64))=n*256:=by
   have:(2:Int)^(min (8:Int).toNat (IntKind.bits .u64))=256:=by decide
   rw [this]
  unfold aP
  rw [this,ga _ om om]
 rw [e1,ga (x.toNat:Int) om om]
 unfold ui
 obtain ⟨m,rfl⟩:=Int.eq_ofNat_of_zero_le h0
 have e2:(BitVec.ofInt (IntKind.bits .u64) ((m:Int)*256)|||BitVec.ofInt (IntKind.bits .u64) (x.toNat:Int)).toNat=m*256+x.toNat:=by
  rw [BitVec.toNat_or,BitVec.toNat_ofInt,BitVec.toNat_ofInt]
  have b1:(((m:Int)*256)%((2^(IntKind.bits .u64):Nat):Int)).toNat=m<<<8:=by
   rw [show ((2^(IntKind.bits .u64):Nat):Int)=18446744073709551616 by decide,Nat.shiftLeft_eq];omega
  have b2:((x.toNat:Int)%((2^(IntKind.bits .u64):Nat):Int)).toNat=x.toNat:=by
   rw [show ((2^(IntKind.bits .u64):Nat):Int)=18446744073709551616 by decide];omega
  rw [b1,b2, ←Nat.shiftLeft_add_eq_or_of_lt (show x.toNat<2^8 by omega),Nat.shiftLeft_eq]
 rw [e2,ga _ om om]
 omega
theorem Zx: ∀(l:List UInt8) (k:Nat),k≤8→k≤l.length→0≤beN (l.take k)∧beN (l.take k)<256^k
 |l,0,_,_=>by simp [beN]
 |l,k+1,h,hl=>by
  have ⟨h0,h1⟩:=Zx l k om om
  have hb:=yW l[k]
  rw [bt om,Pe]
  have:(256:Int)^(k+1)=256^k*256:=Int.pow_succ _ _
  rw [this]
  generalize (256:Int)^k=p at*
  omega
theorem c3S: ∀k:Nat,k<8→(256:Int)^k≤72057594037927936:=by decide
theorem KP {t:List UInt8} (h:t.length=8):yu t=some (a4D t):=by
 unfold yu
 have key:Loop (jr t ((t.length:Nat):Int)) (0,0)=some (beN t,(t.length:Int),false):=by
  have key:=aH (step:=jr t ((t.length:Nat):Int)) (fun k=>(beN (t.take k),(k:Int))) t.length (e:=(beN t,(t.length:Int),false)) (fun k hk=> ?_) ?_
  ·exact key
  ·have ⟨h0,h1⟩:=Zx t k om om
   have h2:=c3S k om
   simp only [jr]
   rw [brd om,bN hk,obs,a5t _ h0 om,aa _ om om,bt hk,Pe];rfl
  ·simp only [jr]
   rw [brn om,decide_eq_false om,List.take_length]
 have ⟨h0,h1⟩:=Zx t 8 om om
 rw [List.take_of_length_le om] at h0 h1
 rw [key,obs]
 dsimp only
 rw [cg _ _ h0,aa _ om om];rfl
theorem su {s:Source} {t:List UInt8} (hs:s.State.length=32) (ht:t.length≤1000000):dt t s=some (tkM s t):=by
 unfold dt
 have hf:[s.State,[97,98,115,111,114,98],nO ((t.length:Nat):Int),t].flatten=s.State++(b0x++(nO t.length++t)):=by simp [b0x]
 rw [aA om,Dh,obs,sI (by rw [hf];simp only [List.length_append,eP,b0x,List.length_cons,List.length_nil];omega) (by simp),obs,hf];rfl
theorem Rc {s:Source} (h:AV s):fK s=some ((sS s).2,(sS s).1):=by
 have h1:=h.1
 have h3:=h.3
 have h4:=h.4
 have h5:=h.5
 have h6:=h.6
 have h7:=h.7
 unfold fK sS
 by_cases hl:s.Script.length=0
 ·have hf:=eP s.Count
  have hh:=H0 (s.State++(Ue++nO s.Count))
  have e:[s.State,[100,114,97,119],nO s.Count].flatten=s.State++(Ue++nO s.Count):=by simp [Ue]
  rw [brn om,if_pos hl,aA om,Dh,obs,sI (by rw [e];simp only [List.length_append,eP,Ue,List.length_cons,List.length_nil];omega) (by simp),obs,e,aA om,
   lQ om om om,obs,KP (by simp;omega),obs,lQ om om om,obs,KP (by simp;omega),obs,aa _ om om]
  rfl
 ·have hr:=Int.emod_nonneg s.At (b:=(s.Script.length:Int)) om
  have hr2:=Int.emod_lt_of_pos s.At (b:=(s.Script.length:Int)) om
  rw [brd om,if_neg hl,brd om,aa (s.At+1) om om,aa (s.At+1-1) om om,show s.At+1-1=s.At by omega,cg _ _ h4]
  have e:atL s.Script (s.At%(s.Script.length:Int))=some (s.Script.getD (s.At%(s.Script.length:Int)).toNat e0):=by
   have:=b6R (l:=s.Script) (k:=(s.At%(s.Script.length:Int)).toNat) om
   rwa [Int.toNat_of_nonneg hr] at this
  rw [e];rfl
def drS (s:Source):Nat→Source
 |0=>s
 |j+1=>(sS (drS s j)).1
def drL (s:Source) (n:Nat):List Ext:=(List.range n).map fun j=>(sS (drS s j)).2
theorem Hx (s:Source) (n:Nat):(drL s n).length=n:=by simp [drL]
theorem Ic {s:Source} {k:Int} (h:Few s k) (hk:k≤999890): ∀j:Nat,j≤100→Few (drS s j) (k+j)
 |0,_=>h.mono om
 |j+1,hj=>((Ic h hk j om).draw om).mono om
theorem TY {s:Source} {k:Int} (h:Few s k) (hk:k≤999890) {n:Nat} (hn:n≤100):gJ (drL s n):=fun x hx=>by
 obtain ⟨j,hj,rfl⟩:=List.mem_map.1 hx
 have hj:=List.mem_range.1 hj
 exact WA (Ic h hk j om).1
theorem a7P (s:Source) (n:Nat):drL s (n+1)=drL s n++[(sS (drS s n)).2]:=by simp [drL,List.range_succ]
theorem Fa {s:Source} {k:Int} (h:Few s k) (hk:k≤999890) {n:Nat} (hn:n≤100):gg (n:Int) s=some (drL s n,drS s n):=by
 unfold gg
 have key:=aH (step:=dv (n:Int)) (fun j=>(drL s j,(j:Int),(drS s j).Script,(drS s j).At,(drS s j).State,(drS s j).Count)) n (e:=(drL s n,(n:Int),false,(drS s n).Script,(drS s n).At,(drS s n).State,(drS s n).Count)) (fun j hj=> ?_) ?_
 ·have key':Loop (dv (n:Int)) ([],0,s.Script,s.At,s.State,s.Count)=_:=key
  rw [key'];rfl
 ·simp only [dv]
  rw [brd om,Rc (Ic h hk j om).1,obs,aA (by simp only [List.length_append,Hx,List.length_singleton];omega),aa _ om om, ←a7P];rfl
 ·simp only [dv]
  rw [brn om,decide_eq_false om]
theorem Ye {s:Source} (h:s.Script.length≤1000000):jA s=some s:=by
 unfold jA co
 rw [aA om];rfl
theorem Ts {s:Source} (h:AV s):nN s=some true:=by
 have:=h.1
 rw [Ez om,Nm.2 h]
variable {s:Source} {k:Int}
theorem b0g {a b c:Int} (h:a≤c) (g:b≤c):mx a b≤c:=by unfold mx;split<;>assumption
def plM (l:List Ext) (m:Int):List Int:=l.map fun x=>x.A%m
theorem Yj {l:List Ext} {m:Int} (hl:l.length≤1000) (ok:gJ l) (hm:0<m):D4 l m=some (plM l m):=by
 unfold D4
 have key:Loop (jd m l ((l.length:Nat):Int)) ([],0)=some (plM l m,(l.length:Int),false):=
  aH (step:=jd m l ((l.length:Nat):Int)) (fun j=>(plM (l.take j) m,(j:Int))) l.length (fun j hj=>by
   simp only [jd]
   rw [brd om,bN hj,obs,brd om,aA (by simp only [List.length_append,plM,List.length_map,List.length_take,List.length_singleton];omega),aa _ om om,cg _ _ (ok.get hj).1.1,bt hj]
   simp only [plM,List.map_append,List.map_cons,List.map_nil,uW]) (by
   simp only [jd]
   rw [brn om,decide_eq_false om,List.take_length])
 rw [key];rfl
end Go.AI.Fn
