/- Plain laws for printed functions: loops whose states are told in advance; numbers; places. -/
import Derived.Test.YtdmhkkcihecndaaGreatAiW
import Derived.Test.YtdmhkkcihecndaaGreatFx3
import Derived.KernelRfl
set_option linter.unusedVariables false
namespace Go.AI
theorem bG {S E:Type} {step:S→Option (S⊕E)} {s s':S} (h:step s=some (.inl s')):Loop step s=Loop step s':=by rw [Sb,h];rfl
theorem bI {S E:Type} {step:S→Option (S⊕E)} {s:S} {e:E} (h:step s=some (.inr e)):Loop step s=some e:=by rw [Sb,h];rfl
theorem au {S E:Type} {step:S→Option (S⊕E)} (F:Nat→S) (n:Nat) {e:E} (hs: ∀k,k<n→step (F k)=some (.inl (F (k+1)))) (he:step (F n)=some (.inr e)):Loop step (F 0)=some e:=by
 have key: ∀m k,k+m=n→Loop step (F k)=some e:=by
  intro m
  induction m with
  |zero=>intro k hk;have:k=n:=by omega
         subst this;exact bI he
  |succ m ih=>intro k hk;rw [bG (hs k (by omega))];exact ih (k+1) (by omega)
 exact key n 0 (by omega)
theorem PI (P:Nat→Bool): ∀n,(∀k,k<n→P k=true)∨ ∃k,k<n∧P k=false∧ ∀j,j<k→P j=true
 |0=> .inl (by omega)
 |n+1=>by
  rcases PI P n with h|⟨k,hk,h1,h2⟩
  ·cases hn:P n
   ·exact .inr ⟨n,by omega,hn,h⟩
   ·refine .inl fun k hk=> ?_
    by_cases e:k=n
    ·subst e;exact hn
    ·exact h k (by omega)
  ·exact .inr ⟨k,by omega,h1,h2⟩
theorem FG {S E:Type} {step:S→Option (S⊕E)} (F:Nat→S) (n:Nat) (P:Nat→Bool) (x:Nat→E) {e:E} (hs: ∀k,k<n→P k=true→step (F k)=some (.inl (F (k+1))))
 (hx: ∀k,k<n→P k=false→step (F k)=some (.inr (x k))) (he:step (F n)=some (.inr e)):
 ((∀k,k<n→P k=true)∧Loop step (F 0)=some e)∨ ∃k,k<n∧P k=false∧(∀j,j<k→P j=true)∧Loop step (F 0)=some (x k):=by
 rcases PI P n with h|⟨k,hk,h1,h2⟩
 ·exact .inl ⟨h,au F n (fun k hk=>hs k hk (h k hk)) he⟩
 ·exact .inr ⟨k,hk,h1,h2,au F k (fun j hj=>hs j (by omega) (h2 j hj)) (hx k hk h1)⟩
theorem lQ {S E:Type} {step:S→Option (S⊕E)} (Inv:S→Prop) (me:S→Nat) (Post:E→Prop)
 (hs: ∀s,Inv s→(∃s',step s=some (.inl s')∧Inv s'∧me s'<me s)∨(∃e,step s=some (.inr e)∧Post e)):
 ∀s,Inv s→ ∃e,Loop step s=some e∧Post e:=by
 intro s
 generalize hm:me s=m
 induction m using Nat.strongRecOn generalizing s with
 |_ m ih=>
  intro hi
  rw [Sb]
  rcases hs s hi with ⟨s',h1,h2,h3⟩|⟨e,h1,h2⟩
  ·rw [h1];exact ih (me s') (by omega) s' rfl h2
  ·rw [h1];exact ⟨e,rfl,h2⟩
theorem zR {α:Type} {c:Bool} {x y:α} (h:c=true):br c x y=x:=by subst h;rfl
theorem KF {α:Type} {c:Bool} {x y:α} (h:c=false):br c x y=y:=by subst h;rfl
theorem brd {α:Type} {p:Prop} [Decidable p] {x y:α} (h:p):br (decide p) x y=x:=zR (decide_eq_true h)
theorem brn {α:Type} {p:Prop} [Decidable p] {x y:α} (h: ¬p):br (decide p) x y=y:=KF (decide_eq_false h)
theorem zQ {α:Type} {p q:Prop} [Decidable p] [Decidable q] {x y:α} (h:p) (g:q):br (decide p&&decide q) x y=x:=zR (by simp [h,g])
theorem bre {α:Type} {a b:Int} {x y:α} (h:a=b):br (a==b) x y=x:=zR (by simp [h])
theorem TB {α:Type} {a b:Int} {x y:α} (h:a≠b):br (a==b) x y=y:=KF (by simp [h])
theorem brb {α:Type} {a b:Int} {x y:α} (h:a≠b):br (a !=b) x y=x:=zR (by simp [h])
theorem cE {α:Type} {a b:Int} {x y:α} (h:a=b):br (a !=b) x y=y:=KF (by simp [h])
theorem TI {α:Type} {p:Prop} [Decidable p] {x y:α} (h:p):br (!decide p) x y=y:=KF (by simp [h])
theorem SA {α:Type} {p:Prop} [Decidable p] {x y:α} (h: ¬p):br (!decide p) x y=x:=zR (by simp [h])
theorem cm (a b:Int) (h:0≤a):a.tmod b=a%b:=Int.tmod_eq_emod_of_nonneg h
theorem km (a b:Int) (h:0≤a):a.tdiv b=a/b:=Int.tdiv_eq_ediv_of_nonneg h
theorem uv (x:UInt8):(x.toNat:Int)<256:=by have:=x.toNat_lt;omega
theorem JO {n b:Nat} (h:n*b≤1099511627776):bW n b=true:=by simp [bW,bq,h]
theorem aA {α:Type} {n b:Nat} {x y:α} (h:n*b≤1099511627776):br (bW n b) x y=x:=zR (JO h)
theorem a89 {l c:Int} {b:Nat} (h0:0≤l) (h1:l≤c) (h2:c*b≤1099511627776):tF l c b=true:=by simp [tF,bq,h0,h1,h2]
theorem yL {α:Type} {l c:Int} {b:Nat} {x y:α} (h0:0≤l) (h1:l≤c) (h2:c*b≤1099511627776):br (tF l c b) x y=x:=zR (a89 h0 h1 h2)
theorem Bn {α:Type} {l:List α} {i:Int} (h0:0≤i) {x:α} (h:l[i.toNat]? =some x):atL l i=some x:=by simp [atL,h0,h]
theorem bH {α:Type} {l:List α} {k:Nat} (h:k<l.length):atL l (k:Int)=some l[k]:=by simp [atL,h]
theorem dO {β:Type} {l:List Int} {i:Nat} {f:Int→Option β} (h:i<l.length):(l[i]?).bind f=f (l.getD i 0):=by simp [h]
theorem oE {α:Type} {l:List α} {i:Nat} (h:i<l.length):l[i]? =some l[i]:=List.getElem?_eq_getElem h
theorem b1N {α:Type} {l:List α} {i:Int} (h0:0≤i) (h1:i<l.length): ∃x,atL l i=some x∧l[i.toNat]? =some x∧x∈l:=by
 have h:i.toNat<l.length:=by omega
 exact ⟨l[i.toNat],by simp [atL,h0,h],by simp [h],List.getElem_mem h⟩
theorem jn {α:Type} {l:List α} {i:Nat} (h:i<l.length): ∃x r,l.drop i=x::r∧l.drop (i+1)=r∧l[i]? =some x:=
 ⟨l[i],l.drop (i+1),List.drop_eq_getElem_cons h,rfl,by simp [h]⟩
theorem Vs {α:Type} {l r:List α} {x:α} {i:Int} (h0:0≤i) (h:l.drop i.toNat=x::r):atL l i=some x:=by
 have:l[i.toNat]? =some x:=by rw [←List.head?_drop,h];rfl
 simp [atL,h0,this]
theorem ju {α:Type} {l:List α} {a b:Int} (h0:0≤a) (h1:a≤b) (h2:b≤l.length):ny l a b=some ((l.drop a.toNat).take (b.toNat-a.toNat)):=by
 simp [ny,h0,h1,h2,List.drop_take]
theorem bX {α:Type} {l:List α} {k:Nat} (h:k<l.length):l.take (k+1)=l.take k++[l[k]]:=by rw [List.take_succ_eq_append_getElem h]
theorem gp (k:Nat):((k+1:Nat):Int)=(k:Int)+1:=by omega
theorem jJ (n:Nat):(nZ n).length=n:=by simp [nZ]
def iU {α:Type} (f:Nat→α→α):Nat→α→α
 |0,l=>l
 |k+1,l=>f k (iU f k l)
theorem pP {f:Nat→List Int→List Int} (hf: ∀k l,(f k l).length=l.length): ∀(k:Nat) (l:List Int),(iU f k l).length=l.length
 |0,l=>rfl
 |k+1,l=>by rw [iU,hf,pP hf k l]
end Go.AI
set_option linter.unusedVariables false
set_option linter.unusedSimpArgs false
namespace Go.AI.Fn
def okF (a:Int):Prop:=0≤a∧a≤2130706432
def okE (x:Ext):Prop:=okF x.A∧okF x.B
def DU (a:Int):Bool:=decide (0≤a)&&decide (a≤2130706432)
def iq (x:Ext):Bool:=DU x.A&&DU x.B
theorem KX {a:Int}:DU a=true↔okF a:=by simp [DU,okF]
theorem F2 {x:Ext}:iq x=true↔okE x:=by simp [iq,okE,KX]
def aF (a b:Int):Int:=(a+b)%2130706433
def sF (a b:Int):Int:=(a-b)%2130706433
def mF (a b:Int):Int:=(a*b)%2130706433
def eA (x y:Ext):Ext:=⟨(x.A+y.A)%2130706433,(x.B+y.B)%2130706433⟩
def eS (x y:Ext):Ext:=⟨(x.A-y.A)%2130706433,(x.B-y.B)%2130706433⟩
def eM (x y:Ext):Ext:=⟨(x.A*y.A+3*(x.B*y.B))%2130706433,(x.A*y.B+x.B*y.A)%2130706433⟩
def eC (x:Ext) (n:Int):Ext:=⟨(x.A*n)%2130706433,(x.B*n)%2130706433⟩
def e0:Ext:=⟨0,0⟩
def e1:Ext:=⟨1,0⟩
def eN (n:Int):Ext:=⟨n,0⟩
theorem a9e:okF 3:=⟨by decide,by decide⟩
theorem b1f:okF 1:=⟨by decide,by decide⟩
theorem b38:okF 0:=⟨by decide,by decide⟩
theorem gT (a:Int):okF (a%2130706433):=⟨by omega,by omega⟩
theorem b1t (a b:Int):okF (sF a b):=gT _
theorem jT (a b:Int):okF (mF a b):=gT _
theorem PR (x y:Ext):okE (eA x y):=⟨gT _,gT _⟩
theorem t1 (x y:Ext):okE (eS x y):=⟨gT _,gT _⟩
theorem l9 (x y:Ext):okE (eM x y):=⟨gT _,gT _⟩
theorem a7N (x:Ext) (n:Int):okE (eC x n):=⟨gT _,gT _⟩
theorem ZG:okE e0:=⟨⟨by decide,by decide⟩,⟨by decide,by decide⟩⟩
theorem UQ:okE e1:=⟨⟨by decide,by decide⟩,⟨by decide,by decide⟩⟩
theorem a08 {n:Int} (h:okF n):okE (eN n):=⟨h,b38⟩
theorem b4m {a b:Int} (ha:okF a) (hb:okF b):0≤a*b∧a*b≤4539909900063178624:=
 ⟨Int.mul_nonneg ha.1 hb.1,Int.le_trans (Int.mul_le_mul ha.2 hb.2 hb.1 (by decide)) (by decide)⟩
theorem Ab {a:Int} (h:okF a):a%2130706433=a:=by obtain ⟨h1,h2⟩:=h;omega
theorem Gz {x y:Ext} (h1:x.A=y.A) (h2:x.B=y.B):x=y:=by cases x;cases y;cases h1;cases h2;rfl
theorem mA1 (a b:Int):(a%2130706433+b)%2130706433=(a+b)%2130706433:=Int.emod_add_emod _ _ _
theorem mA2 (a b:Int):(a+b%2130706433)%2130706433=(a+b)%2130706433:=Int.add_emod_emod _ _ _
theorem mM1 (a b:Int):(a%2130706433*b)%2130706433=(a*b)%2130706433:=by rw [Int.mul_emod,Int.emod_emod, ←Int.mul_emod]
theorem mM2 (a b:Int):(a*(b%2130706433))%2130706433=(a*b)%2130706433:=by rw [Int.mul_emod,Int.emod_emod, ←Int.mul_emod]
theorem mX1 (a b c:Int):(a%2130706433*b+c)%2130706433=(a*b+c)%2130706433:=by rw [←mA1,mM1,mA1]
theorem mX4 (a b c:Int):(c+a*(b%2130706433))%2130706433=(c+a*b)%2130706433:=by rw [←mA2,mM2,mA2]
theorem b1F {a b:Int} (ha:okF a) (hb:okF b):(IntKind.wrap .i64 (a+b)).tmod 2130706433=aF a b:=by
 obtain ⟨h1,h2⟩:=ha;obtain ⟨h3,h4⟩:=hb
 unfold aF;rw [ab _ (by omega) (by omega),cm _ _ (by omega)]
theorem G0 {a b:Int} (ha:okF a) (hb:okF b):In a b=some (aF a b):=by unfold In;rw [b1F ha hb]
theorem LM {a b:Int} (ha:okF a) (hb:okF b):Mt a b=some (sF a b):=by
 obtain ⟨h1,h2⟩:=ha;obtain ⟨h3,h4⟩:=hb
 unfold Mt sF;rw [ab (a-b) (by omega) (by omega),ab _ (by omega) (by omega),cm _ _ (by omega)]
 congr 1;omega
theorem a4o {a b:Int} (ha:okF a) (hb:okF b):(IntKind.wrap .i64 (a*b)).tmod 2130706433=mF a b:=by
 have h:=b4m ha hb
 unfold mF;rw [ab _ (by omega) (by omega),cm _ _ (by omega)]
theorem ka {a b:Int} (ha:okF a) (hb:okF b):sM a b=some (mF a b):=by unfold sM;rw [a4o ha hb]
theorem gI {x y:Ext} (hx:okE x) (hy:okE y):cZ x y=some (eA x y):=by
 unfold cZ;rw [G0 hx.1 hy.1,G0 hx.2 hy.2];rfl
theorem kS {x y:Ext} (hx:okE x) (hy:okE y):dZ x y=some (eS x y):=by
 unfold dZ;rw [LM hx.1 hy.1,LM hx.2 hy.2];rfl
theorem a07 (x y:Ext):eM x y=⟨aF (mF x.A y.A) (mF 3 (mF x.B y.B)),aF (mF x.A y.B) (mF x.B y.A)⟩:=by
 unfold eM aF mF
 congr 1
 ·rw [mA1,mA2,mX4]
 ·rw [mA1,mA2]
theorem db {x y:Ext} (hx:okE x) (hy:okE y):bt x y=some (eM x y):=by
 unfold bt
 rw [ka hx.1 hy.1,ka hx.2 hy.2]
 simp only [obs]
 rw [ka a9e (jT _ _)]
 simp only [obs]
 rw [G0 (jT _ _) (jT _ _),ka hx.1 hy.2,ka hx.2 hy.1]
 simp only [obs]
 rw [G0 (jT _ _) (jT _ _),a07];rfl
theorem um {x:Ext} {n:Int} (hx:okE x) (hn:okF n):dW x n=some (eC x n):=by
 unfold dW;rw [ka hx.1 hn,ka hx.2 hn];rfl
theorem F0:I4=some e1:=rfl
theorem Bf (n a b:Int):vp n a b=some (decide (a≤n)&&decide (n≤b)):=by
 unfold vp;cases decide (a≤n)<;>rfl
theorem xF (a:Int):mZ a=some (DU a):=by
 unfold mZ;rw [Bf];rfl
theorem mD (x:Ext):nN x=some (iq x):=by
 unfold nN iq;rw [xF,xF];cases DU x.A<;>rfl
theorem EA {a b:Int} (ha:okF a) (hb:okF b):p8 a b=some (aF a b):=by unfold p8;rw [b1F ha hb]
theorem Lj {a b:Int} (ha:okF a) (hb:okF b):t0 a b=some (sF a b):=by
 obtain ⟨h1,h2⟩:=ha;obtain ⟨h3,h4⟩:=hb
 unfold t0 sF;rw [ab (a+2130706433) (by omega) (by omega),ab _ (by omega) (by omega),cm _ _ (by omega)]
 congr 1;omega
theorem oG {a b:Int} (ha:okF a) (hb:okF b):gB a b=some (mF a b):=by unfold gB;rw [a4o ha hb]
theorem gH {x y:Ext} (hx:okE x) (hy:okE y):eF x y=some (eA x y):=by
 unfold eF;rw [EA hx.1 hy.1,EA hx.2 hy.2];rfl
theorem Bs {x y:Ext} (hx:okE x) (hy:okE y):pa x y=some (eS x y):=by
 unfold pa;rw [Lj hx.1 hy.1,Lj hx.2 hy.2];rfl
theorem cT {x y:Ext} (hx:okE x) (hy:okE y):bN x y=some (eM x y):=by
 unfold bN
 have h3:(IntKind.wrap .i64 (3*mF x.B y.B)).tmod 2130706433=mF 3 (mF x.B y.B):=a4o a9e (jT x.B y.B)
 rw [oG hx.1 hy.1,oG hx.2 hy.2]
 simp only [obs]
 rw [h3,EA (jT _ _) (jT _ _),oG hx.1 hy.2,oG hx.2 hy.1]
 simp only [obs]
 rw [EA (jT _ _) (jT _ _),a07];rfl
theorem Fl (n:Int):lN n=some (eN n):=rfl
theorem MF:wQ=some e1:=rfl
theorem BA {x:Ext} (hx:okE x):jp x=some (eS e1 x):=by
 unfold jp;rw [MF,obs,Bs UQ hx];rfl
theorem FO (n a b:Int):en n a b=some (decide (a≤n)&&decide (n≤b)):=by
 unfold en;cases decide (a≤n)<;>rfl
theorem yr (a:Int):lb a=some (DU a):=by
 unfold lb;rw [FO];rfl
theorem Lw (x:Ext):y4 x=some (iq x):=by
 unfold y4 iq;rw [yr,yr];cases DU x.A<;>rfl
theorem sub_self (x:Ext):eS x x=e0:=by
 apply Gz<;>simp [eS,e0]
theorem Zz (x:Ext) (n:Int):eC x n=eM x (eN n):=by
 apply Gz<;>(simp only [eC,eM,eN];congr 1;grind)
end Go.AI.Fn
set_option linter.unusedVariables false
set_option linter.unusedSimpArgs false
namespace Go.AI.Fn
def pF (a:Int) (n:Nat):Int:=(a^n)%2130706433
theorem Md (a:Int) (n:Nat):okF (pF a n):=gT _
theorem b6M {n:Int} (h:0≤n) (h2:n<9223372036854775808):bp .i64 n 1=n%2:=by
 show IntKind.wrap .i64 ((BitVec.ofInt 64 n&&&BitVec.ofInt 64 1).toNat:Int)=n%2
 have e1:(BitVec.ofInt 64 n).toNat=n.toNat:=by rw [BitVec.toNat_ofInt];omega
 have e2:(BitVec.ofInt 64 1).toNat=1:=by decide
 rw [BitVec.toNat_and,e1,e2,Nat.and_one_is_mod,ab _ (by omega) (by omega)]
 omega
theorem b6A {n:Int} (h:0≤n):aJ .i64 n 1=n/2:=by
 show n.fdiv (2^1)=n/2
 rw [Int.fdiv_eq_ediv_of_nonneg _ (by decide)];rfl
theorem a6b {a:Int} {n:Nat} (h:n%2=0):(a*a)^(n/2)=a^n:=by
 have e:n=2*(n/2):=by omega
 have e2:a^n=a^(2*(n/2)):=by rw [←e]
 rw [e2,Int.pow_mul,Int.pow_succ,Int.pow_succ,Int.pow_zero,Int.one_mul]
theorem b0b {a:Int} {n:Nat} (h:n%2=1):a*(a*a)^(n/2)=a^n:=by
 have e:n=2*(n/2)+1:=by omega
 have e2:a^n=a^(2*(n/2)+1):=by rw [←e]
 rw [e2,Int.pow_succ,Int.pow_mul,Int.pow_succ,Int.pow_succ,Int.pow_zero,Int.one_mul,Int.mul_comm]
theorem a0d (a:Int) (n:Nat):((a%2130706433)^n)%2130706433=(a^n)%2130706433:=by
 induction n with
 |zero=>rw [Int.pow_zero,Int.pow_zero]
 |succ n ih=>rw [Int.pow_succ,Int.pow_succ,mM2, ←mM1,ih,mM1]
theorem VP {a out:Int} {n:Nat} (hn:0<n):(n%2=1→(mF out a*(mF a a)^(n/2))%2130706433=(out*a^n)%2130706433)∧(n%2=0→(out*(mF a a)^(n/2))%2130706433=(out*a^n)%2130706433):=by
 constructor
 ·intro h
  unfold mF
  rw [mM1, ←mM2,a0d,mM2, ←b0b h,Int.mul_assoc]
 ·intro h
  unfold mF
  rw [←mM2,a0d,mM2,a6b h]
theorem XM {a out n:Int} (ha:okF a) (ho:okF out) (h0:0≤n) (hn:n<9223372036854775808): ∃e,Loop rQ (a,n,out)=some e∧e.2.2.1=(out*a^n.toNat)%2130706433:=by
 refine lQ (step:=rQ) (fun s=>okF s.1∧okF s.2.2∧0≤s.2.1∧s.2.1<9223372036854775808∧(s.2.2*s.1^s.2.1.toNat)%2130706433=(out*a^n.toNat)%2130706433) (fun s=>s.2.1.toNat) _ ?_ (a,n,out) ⟨ha,ho,h0,hn,rfl⟩
 rintro ⟨b,k,o⟩ ⟨hb,ho',hk0,hk1,hinv⟩
 dsimp only at hb ho' hk0 hk1 hinv
 simp only [rQ]
 by_cases hk:k>0
 ·left
  rw [brd hk,b6M hk0 hk1,b6A hk0,ka hb hb]
  have hs:=VP (a:=b) (out:=o) (n:=k.toNat) (by omega)
  have e:(k/2).toNat=k.toNat/2:=by omega
  by_cases h2:k%2=1
  ·rw [bre h2,ka ho' hb]
   refine ⟨_,rfl,⟨jT _ _,jT _ _,by dsimp only;omega,by dsimp only;omega, ?_⟩,by dsimp only;omega⟩
   dsimp only
   rw [e,hs.1 (by omega),hinv]
  ·rw [TB h2]
   refine ⟨_,rfl,⟨jT _ _,ho',by dsimp only;omega,by dsimp only;omega, ?_⟩,by dsimp only;omega⟩
   dsimp only
   rw [e,hs.2 (by omega),hinv]
 ·right
  rw [brn hk]
  refine ⟨_,rfl, ?_⟩
  have:k=0:=by omega
  subst this
  dsimp only
  rw [←hinv]
  simp [Ab ho']
theorem LS {a n:Int} (ha:okF a) (h0:0≤n) (hn:n<9223372036854775808):M5 a n=some (pF a n.toNat):=by
 unfold M5
 obtain ⟨e,h1,h2⟩:=XM ha b1f h0 hn
 rw [h1,obs,h2,Int.one_mul];rfl
theorem YE {a out n:Int} (ha:okF a) (ho:okF out) (h0:0≤n) (hn:n<9223372036854775808): ∃e,Loop jf (a,n,out)=some e∧e.2.2.1=(out*a^n.toNat)%2130706433:=by
 refine lQ (step:=jf) (fun s=>okF s.1∧okF s.2.2∧0≤s.2.1∧s.2.1<9223372036854775808∧(s.2.2*s.1^s.2.1.toNat)%2130706433=(out*a^n.toNat)%2130706433) (fun s=>s.2.1.toNat) _ ?_ (a,n,out) ⟨ha,ho,h0,hn,rfl⟩
 rintro ⟨b,k,o⟩ ⟨hb,ho',hk0,hk1,hinv⟩
 dsimp only at hb ho' hk0 hk1 hinv
 simp only [jf]
 by_cases hk:k>0
 ·left
  rw [brd hk,cm _ _ hk0,km _ _ hk0,ab _ (by omega) (by omega),oG hb hb]
  have hs:=VP (a:=b) (out:=o) (n:=k.toNat) (by omega)
  have e:(k/2).toNat=k.toNat/2:=by omega
  by_cases h2:k%2=1
  ·rw [bre h2,oG ho' hb]
   refine ⟨_,rfl,⟨jT _ _,jT _ _,by dsimp only;omega,by dsimp only;omega, ?_⟩,by dsimp only;omega⟩
   dsimp only
   rw [e,hs.1 (by omega),hinv]
  ·rw [TB h2]
   refine ⟨_,rfl,⟨jT _ _,ho',by dsimp only;omega,by dsimp only;omega, ?_⟩,by dsimp only;omega⟩
   dsimp only
   rw [e,hs.2 (by omega),hinv]
 ·right
  rw [brn hk]
  refine ⟨_,rfl, ?_⟩
  have:k=0:=by omega
  subst this
  dsimp only
  rw [←hinv]
  simp [Ab ho']
theorem Nx {a n:Int} (ha:okF a) (h0:0≤n) (hn:n<9223372036854775808):ox a n=some (pF a n.toNat):=by
 unfold ox
 obtain ⟨e,h1,h2⟩:=YE ha b1f h0 hn
 rw [h1,obs,h2,Int.one_mul];rfl
def iF (a:Int):Int:=pF a 2130706431
theorem xU {a:Int} (ha:okF a):nj a=some (iF a):=by
 unfold nj;rw [LS ha (by decide) (by decide),obs];rfl
theorem ym {a:Int} (ha:okF a):ox a 2130706431=some (iF a):=by
 rw [Nx ha (by decide) (by decide)];rfl
def N0 (k:Nat):Int:=pF 3 (127*2^(24-k))
theorem Wq (k:Nat):okF (N0 k):=Md _ _
theorem a6i: ∀j:Nat,j<25→(2:Int)^j≤16777216∧0<(2:Int)^j:=by decide
theorem a6p {j:Nat} (h:j≤24):aB .i64 127 (j:Int)=127*2^j:=by
 obtain ⟨h1,h0⟩:=a6i j (by omega)
 show IntKind.wrap .i64 (127*2^(min ((j:Int).toNat) 64))=_
 rw [Int.toNat_natCast,Nat.min_eq_left (by omega),ab _ (by omega) (by omega)]
theorem a2q {k:Nat} (h:k≤24):MV (k:Int)=some (N0 k):=by
 unfold MV
 obtain ⟨hq,hp⟩:=a6i (24-k) (by omega)
 rw [ab _ (by omega) (by omega),brd (by omega),show (24:Int)-k=((24-k:Nat):Int) by omega,a6p (by omega),LS a9e (by omega) (by omega),obs,N0]
 congr 2
theorem a2I {k:Nat} (h:k≤24):wD (k:Int)=some (N0 k):=by
 unfold wD
 obtain ⟨hq,hp⟩:=a6i (24-k) (by omega)
 rw [ab _ (by omega) (by omega),cw _ (by omega) (by omega),brd (by omega),show (24:Int)-k=((24-k:Nat):Int) by omega,a6p (by omega),Nx a9e (by omega) (by omega),obs,N0]
 congr 2
end Go.AI.Fn
set_option linter.unusedVariables false
namespace Go.AI.Fn
structure Src (B:Int) (m:sB):Prop where
 at0:0≤m.at_
 at1:m.at_≤B
 sd0:0≤m.seed
 sd1:m.seed<2147483648
 len:m.code.length≤1048600
theorem Src.mono {B C:Int} {m:sB} (h:Src B m) (hc:B≤C):Src C m:=⟨h.at0,by have:=h.at1;omega,h.sd0,h.sd1,h.len⟩
end Go.AI.Fn
set_option linter.unusedVariables false
namespace Go.AI.Fn
end Go.AI.Fn
set_option linter.unusedVariables false
set_option linter.unusedSimpArgs false
namespace Go.AI.Fn
theorem Nj {α:Type} {p:α→Bool} {l:List α} {k:Nat} (hk:k<l.length) (h:p l[k]=true):l.any p=true:=List.any_eq_true.2 ⟨l[k],List.getElem_mem hk,h⟩
theorem a0x {α:Type} {p:α→Bool} {l:List α} (h: ∀k (hk:k<l.length),p l[k]=false):l.any p=false:=by
 rw [List.any_eq_false]
 intro x hx
 obtain ⟨k,hk,rfl⟩:=List.getElem_of_mem hx
 simp [h k hk]
theorem rP {α:Type} {p:α→Bool} {f:α→Option Bool} {l:List α} (hl:l.length≤1099511627776) (hf: ∀x∈l,f x=some (p x)) {step:Int→Option (Int⊕(Int⊕(Int×Bool)))}
 (hs: ∀t,step t=br (decide (t<((l.length:Nat):Int))) ((atL l t).bind fun x=>(f x).bind fun r=>br r (some (.inr (.inl t))) (some (.inl (IntKind.wrap .i64 (t+1))))) (some (.inr (.inr (t,decide (t<((l.length:Nat):Int))))))):
 ((Loop step 0).bind (alt (fun e=>some e) (fun _=>some (-1)))).bind (fun r=>some (decide (r≥0)))=some (l.any p):=by
 have key:=FG (step:=step) (fun k=>(k:Int)) l.length (fun k=> !((l[k]?.map p).getD false)) (fun k=> .inl (k:Int)) (e:= .inr ((l.length:Int),false)) (fun k hk hp=>by
  have hb:p l[k]=false:=by simpa [hk] using hp
  rw [hs,brd (by omega),bH hk,obs,hf _ (List.getElem_mem hk),obs,hb,an,ab _ (by omega) (by omega)];rfl)
  (fun k hk hp=>by
   have hb:p l[k]=true:=by simpa [hk] using hp
   rw [hs,brd (by omega),bH hk,obs,hf _ (List.getElem_mem hk),obs,hb,bz])
  (by rw [hs,brn (by omega),decide_eq_false (by omega)])
 rcases key with ⟨h1,h2⟩|⟨k,hk,h1,_,h2⟩
 ·have e:Loop step 0=some (.inr ((l.length:Int),false)):=h2
  rw [e,a0x (fun k hk=>by simpa [hk] using h1 k hk)];rfl
 ·have e:Loop step 0=some (.inl (k:Int)):=h2
  rw [e,Nj hk (by simpa [hk] using h1)]
  simp only [obs,iC]
  rw [decide_eq_true (by omega)]
theorem ZM {α:Type} {p:α→Bool} {f:α→Option Bool} {l:List α} (hl:l.length≤1099511627776) (hf: ∀x∈l,f x=some (p x)) {step:Int→Option (Int⊕(Unit⊕(Int×Bool)))}
 (hs: ∀t,step t=br (decide (t<((l.length:Nat):Int))) ((atL l t).bind fun x=>(f x).bind fun r=>br (!r) (some (.inr (.inl ()))) (some (.inl (IntKind.wrap .i64 (t+1))))) (some (.inr (.inr (t,decide (t<((l.length:Nat):Int))))))):
 (Loop step 0).bind (alt (fun _=>some false) (fun _=>some true))=some (l.all p):=by
 have key:=FG (step:=step) (fun k=>(k:Int)) l.length (fun k=>((l[k]?.map p).getD false)) (fun k=> .inl ()) (e:= .inr ((l.length:Int),false)) (fun k hk hp=>by
  have hb:p l[k]=true:=by simpa [hk] using hp
  rw [hs,brd (by omega),bH hk,obs,hf _ (List.getElem_mem hk),obs,hb,Bool.not_true,an,ab _ (by omega) (by omega)];rfl)
  (fun k hk hp=>by
   have hb:p l[k]=false:=by simpa [hk] using hp
   rw [hs,brd (by omega),bH hk,obs,hf _ (List.getElem_mem hk),obs,hb,Bool.not_false,bz])
  (by rw [hs,brn (by omega),decide_eq_false (by omega)])
 rcases key with ⟨h1,h2⟩|⟨k,hk,h1,_,h2⟩
 ·have e:Loop step 0=some (.inr ((l.length:Int),false)):=h2
  have ha:l.all p=true:=List.all_eq_true.2 fun x hx=>by
   obtain ⟨k,hk,rfl⟩:=List.getElem_of_mem hx
   simpa [hk] using h1 k hk
  rw [e,ha];rfl
 ·have e:Loop step 0=some (.inl ()):=h2
  have ha:l.all p=false:=by
   rw [List.all_eq_false]
   exact ⟨l[k],List.getElem_mem hk,by simpa [hk] using h1⟩
  rw [e,ha];rfl
theorem pc {α:Type} (p:α→Bool) (l:List α):(!l.any fun x=> !p x)=l.all p:=by
 induction l with
 |nil=>rfl
 |cons x l ih=>simp only [List.any_cons,List.all_cons, ←ih];cases p x<;>simp
theorem a0Q {l:List Int} (hl:l.length≤1099511627776):fN l=some (l.all DU):=by
 unfold fN ba bm
 rw [rP (step:=aX l ((l.length:Nat):Int)) (p:=fun x=> !DU x) (f:=eH) hl (fun x _=>by unfold eH;rw [xF];rfl) (fun t=>rfl),obs,pc]
theorem Gm {l:List Ext} (hl:l.length≤1099511627776):dx l=some (l.all iq):=by
 unfold dx aR aW
 rw [rP (step:=aP l ((l.length:Nat):Int)) (p:=fun x=> !iq x) (f:=eQ) hl (fun x _=>by unfold eQ;rw [mD];rfl) (fun t=>rfl),obs,pc]
theorem iI {l:List Ext} (hl:l.length≤1099511627776):gO l=some (l.all iq):=by
 unfold gO
 exact ZM (f:=y4) hl (fun x _=>Lw x) (fun t=>rfl)
theorem Vt {l:List Int} (hl:l.length≤1099511627776):pg l=some (l.all DU):=by
 unfold pg
 exact ZM (f:=lb) hl (fun x _=>yr x) (fun t=>rfl)
def dH (l:List Ext):Prop:= ∀x∈l,okE x
def IY (l:List Int):Prop:= ∀x∈l,okF x
theorem a8s {l:List Ext}:l.all iq=true↔dH l:=by
 rw [List.all_eq_true];exact ⟨fun h x hx=>F2.1 (h x hx),fun h x hx=>F2.2 (h x hx)⟩
theorem b6K {l:List Int}:l.all DU=true↔IY l:=by
 rw [List.all_eq_true];exact ⟨fun h x hx=>KX.1 (h x hx),fun h x hx=>KX.2 (h x hx)⟩
theorem dH.get {l:List Ext} (h:dH l) {k:Nat} (hk:k<l.length):okE l[k]:=h _ (List.getElem_mem hk)
theorem IY.get {l:List Int} (h:IY l) {k:Nat} (hk:k<l.length):okF l[k]:=h _ (List.getElem_mem hk)
theorem dH.app {l m:List Ext} (h:dH l) (h2:dH m):dH (l++m):=fun x hx=>(List.mem_append.1 hx).elim (h x) (h2 x)
theorem dH.nil:dH []:=fun x hx=>by cases hx
theorem dH.one {x:Ext} (h:okE x):dH [x]:=fun y hy=>by rw [List.mem_singleton.1 hy];exact h
theorem dH.map {α:Type} {f:α→Ext} (l:List α) (h: ∀x∈l,okE (f x)):dH (l.map f):=fun y hy=>by obtain ⟨x,hx,rfl⟩:=List.mem_map.1 hy;exact h x hx
theorem dH.take {l:List Ext} (h:dH l) (k:Nat):dH (l.take k):=fun x hx=>h x (List.mem_of_mem_take hx)
theorem dH.drop {l:List Ext} (h:dH l) (k:Nat):dH (l.drop k):=fun x hx=>h x (List.mem_of_mem_drop hx)
def OE (a b:List Ext):Ext:=(a.zip b).foldl (fun c p=>eA c (eM p.1 p.2)) e0
theorem CH {α β:Type} {a:List α} {b:List β} {k:Nat} (ha:k<a.length) (hb:k<b.length):(a.zip b).take (k+1)=(a.zip b).take k++[(a[k],b[k])]:=by
 rw [bX (by rw [List.length_zip];omega),List.getElem_zip]
theorem Xq (l:List (Ext×Ext)) {c:Ext} (h:okE c):okE (l.foldl (fun c p=>eA c (eM p.1 p.2)) c):=by
 induction l generalizing c with
 |nil=>exact h
 |cons p l ih=>exact ih (PR _ _)
theorem b0g (a b:List Ext):okE (OE a b):=Xq _ ZG
theorem Na {a b:List Ext} (ha:dH a) (hb:dH b) (hl:a.length≤b.length) (hn:a.length≤1099511627776):Fi a b=some (OE a b):=by
 unfold Fi
 have key:Loop (rZ b a ((a.length:Nat):Int) 0 0) ((0:Int),(0:Int),(0:Int))=some ((a.length:Int),false,(OE a b).A,(OE a b).B):=
  au (fun k=>((k:Int),(((a.zip b).take k).foldl (fun c p=>eA c (eM p.1 p.2)) e0).A,(((a.zip b).take k).foldl (fun c p=>eA c (eM p.1 p.2)) e0).B)) a.length (fun k hk=>by
   simp only [rZ]
   have hc:=Xq ((a.zip b).take k) ZG
   rw [brd (by omega),bH hk,obs,bH (by omega),obs,db (ha.get hk) (hb.get (by omega)),obs,gI hc (l9 _ _),obs,ab _ (by omega) (by omega),CH hk (by omega),List.foldl_append]
   rfl) (by
   simp only [rZ]
   rw [brn (by omega),decide_eq_false (by omega),List.take_of_length_le (by rw [List.length_zip];omega)]
   rfl)
 rw [key];rfl
def eqS (out:List Ext) (p:Ext):List Ext:=out.map (fun a=>eM a (eS e1 p))++out.map (fun a=>eM a p)
def eqT (pt:List Ext):List Ext:=pt.foldl eqS [e1]
theorem Zy (out:List Ext) (p:Ext):(eqS out p).length=2*out.length:=by simp [eqS];omega
theorem b4H (out:List Ext) (p:Ext):dH (eqS out p):=dH.app (dH.map _ fun x _=>l9 _ _) (dH.map _ fun x _=>l9 _ _)
theorem Wm (l:List Ext) (p:Ext):eqT (l++[p])=eqS (eqT l) p:=by simp [eqT,List.foldl_append]
theorem b36 {l out:List Ext} (h:dH out):dH (l.foldl eqS out):=by
 induction l generalizing out with
 |nil=>exact h
 |cons p l ih=>exact ih (b4H _ _)
theorem Tv (l:List Ext):dH (eqT l):=b36 (dH.one UQ)
theorem a8e (l out:List Ext):(l.foldl eqS out).length=2^l.length*out.length:=by
 induction l generalizing out with
 |nil=>simp
 |cons p l ih=>rw [List.foldl_cons,ih,Zy,List.length_cons,Nat.pow_succ];rw [Nat.mul_assoc]
theorem xP (l:List Ext):(eqT l).length=2^l.length:=by rw [eqT,a8e];simp
theorem Yo: ∀k:Nat,k≤6→2^k≤64:=by decide
theorem b5h {t:List Ext} {t2 t3:Int} {out:List Ext} {p:Ext} (ho:dH out) (hp:okE p) (hn:out.length≤1000000000):
 Loop (ie t t2 t3 out ((out.length:Nat):Int) p.A p.B) ([],[],0)=some (out.map (fun a=>eM a (eS e1 p)),out.map (fun a=>eM a p),(out.length:Int),false):=
 au (fun k=>((out.take k).map (fun a=>eM a (eS e1 p)),(out.take k).map (fun a=>eM a p),(k:Int))) out.length (fun k hk=>by
  have he:Ext.mk p.A p.B=p:=rfl
  simp only [ie,he]
  rw [brd (by omega),bH hk,obs,F0,obs,kS UQ hp,obs,db (ho.get hk) (t1 _ _),obs,
   aA (by simp only [List.length_append,List.length_map,List.length_take,List.length_singleton];omega),db (ho.get hk) hp,obs,
   aA (by simp only [List.length_append,List.length_map,List.length_take,List.length_singleton];omega),ab _ (by omega) (by omega),bX hk,List.map_append,List.map_append]
  rfl) (by
  simp only [ie]
  rw [brn (by omega),decide_eq_false (by omega),List.take_length])
theorem xV {l:List Ext} (h:dH l) (hn:l.length≤6):n6 l=some (eqT l):=by
 unfold n6
 have key:Loop (im l ((l.length:Nat):Int)) ([e1],0)=some (eqT l,(l.length:Int),false):=
  au (fun k=>(eqT (l.take k),(k:Int))) l.length (fun k hk=>by
   have hl:=xP (l.take k)
   have hb:=Yo (l.take k).length (by rw [List.length_take];omega)
   simp only [im]
   rw [brd (by omega),bH hk,obs,b5h (Tv _) (h.get hk) (by omega),obs]
   dsimp only
   rw [aA (by simp only [List.length_append,List.length_map];omega),ab _ (by omega) (by omega),bX hk,Wm]
   rfl) (by
   simp only [im]
   rw [brn (by omega),decide_eq_false (by omega),List.take_length])
 rw [F0,obs,key];rfl
def eqU (out:List Ext) (p:Ext) (k:Nat) (l:List Ext):List Ext:=(l.set k (eM (out.getD k e0) (eS e1 p))).set (k+out.length) (eM (out.getD k e0) p)
theorem ZC {f:Nat→List Ext→List Ext} (hf: ∀k l,(f k l).length=l.length): ∀(k:Nat) (l:List Ext),(iU f k l).length=l.length
 |0,l=>rfl
 |k+1,l=>by rw [iU,hf,ZC hf k l]
theorem Fx (out:List Ext) (p:Ext) (k:Nat) (l:List Ext):(iU (eqU out p) k l).length=l.length:=ZC (fun _ _=>by simp [eqU]) k l
theorem ZT (out:List Ext) (p:Ext) (l:List Ext) (hl:l.length=2*out.length): ∀k,k≤out.length→ ∀j (hj:j<(iU (eqU out p) k l).length),(iU (eqU out p) k l)[j]=
 if j<k then eM (out.getD j e0) (eS e1 p) else if out.length≤j∧j<out.length+k then eM (out.getD (j-out.length) e0) p else l[j]'(by rw [Fx] at hj;exact hj)
 |0,_,j,hj=>by
  rw [if_neg (by omega),if_neg (by omega)];rfl
 |k+1,hk,j,hj=>by
  have ih:=ZT out p l hl k (by omega) j (by rw [Fx] at hj ⊢;exact hj)
  simp only [iU,eqU,List.getElem_set]
  by_cases h1:k+out.length=j
  ·rw [if_pos h1,if_neg (by omega),if_pos (by omega),show j-out.length=k by omega]
  ·rw [if_neg h1]
   by_cases h2:k=j
   ·rw [if_pos h2,if_pos (by omega),h2]
   ·rw [if_neg h2,ih]
    by_cases h3:j<k
    ·rw [if_pos h3,if_pos (by omega)]
    ·by_cases h4:out.length≤j∧j<out.length+k
     ·rw [if_neg h3,if_pos h4,if_neg (by omega),if_pos (by omega)]
     ·rw [if_neg h3,if_neg h4,if_neg (by omega),if_neg (by omega)]
theorem a8j (out:List Ext) (p:Ext) (l:List Ext) (hl:l.length=2*out.length):iU (eqU out p) out.length l=eqS out p:=by
 apply List.ext_getElem (by rw [Fx,Zy,hl])
 intro j h1 h2
 rw [ZT out p l hl out.length (Nat.le_refl _) j h1]
 rw [Fx,hl] at h1
 simp only [eqS]
 by_cases h3:j<out.length
 ·rw [if_pos h3,List.getElem_append_left (by simpa using h3),List.getElem_map];simp [h3]
 ·rw [if_neg h3,if_pos (by omega),List.getElem_append_right (by simp;omega),List.getElem_map]
  have:j-out.length<out.length:=by omega
  simp [this]
theorem a0q {l:List Ext} {k:Nat} (h:k<l.length):atL l (k:Int)=some (l.getD k e0):=by simp [atL,h]
theorem dH.getD {l:List Ext} (h:dH l) (k:Nat):okE (l.getD k e0):=by
 by_cases hk:k<l.length
 ·simp [hk];exact h.get hk
 ·simp [List.getElem?_eq_none (Nat.le_of_not_lt hk)];exact ZG
theorem b1u {β:Type} {l:List Ext} {i:Nat} {f:Ext→Option β} (h:i<l.length):(l[i]?).bind f=f (l.getD i e0):=by simp [h]
theorem b6y {pt out l:List Ext} {i:Nat} (ho:dH out) (hp:dH pt) (hi:i<pt.length) (hl:l.length=2*out.length) (hn:out.length≤1000000000):
 Loop (lr pt out i) (l,0)=some (eqS out (pt.getD i e0),(out.length:Int),false):=by
 rw [←a8j out (pt.getD i e0) l hl]
 exact au (fun k=>(iU (eqU out (pt.getD i e0)) k l,(k:Int))) out.length (fun k hk=>by
  have h1:=Fx out (pt.getD i e0) k l
  simp only [lr]
  rw [brd (by omega),a0q hk,obs,a0q hi,obs,BA (hp.getD _),obs,cT (ho.getD _) (t1 _ _),obs,brd (by omega),brd (by omega),b1u (by omega),
   obs,obs,cT (ho.getD _) (hp.getD _),obs,ab _ (by omega) (by omega),brd (by omega),brd (by omega),b1u (by rw [List.length_set];omega),ab _ (by omega) (by omega)]
  rw [show ((k:Int)+(out.length:Int)).toNat=k+out.length by omega,Int.toNat_natCast]
  rfl) (by
  simp only [lr]
  rw [brn (by omega),decide_eq_false (by omega)])
theorem Fj {l:List Ext} (h:dH l) (hn:l.length≤6):BD l=some (eqT l):=by
 unfold BD
 have key:Loop (lh l) ([e1],0)=some (eqT l,(l.length:Int),false):=
  au (fun k=>(eqT (l.take k),(k:Int))) l.length (fun k hk=>by
   have hl:=xP (l.take k)
   have hb:=Yo (l.take k).length (by rw [List.length_take];omega)
   simp only [lh]
   rw [brd (by omega),ab _ (by omega) (by omega),yL (by omega) (by omega) (by omega),b6y (Tv _) h hk (by rw [List.length_replicate];omega) (by omega),obs,ab _ (by omega) (by omega),bX hk,Wm]
   simp [hk]) (by
   simp only [lh]
   rw [brn (by omega),decide_eq_false (by omega),List.take_length])
 rw [MF,obs,key];rfl
theorem a1p {a b:List Ext} (ha:dH a) (hb:dH b) (hl:a.length≤b.length) (hn:a.length≤1000000000):Loop (li a b 0 0) ((0:Int),(0:Int),(0:Int))=some ((a.length:Int),false,(OE a b).A,(OE a b).B):=
 au (fun k=>((k:Int),(((a.zip b).take k).foldl (fun c p=>eA c (eM p.1 p.2)) e0).A,(((a.zip b).take k).foldl (fun c p=>eA c (eM p.1 p.2)) e0).B)) a.length (fun k hk=>by
  simp only [li]
  have hc:=Xq ((a.zip b).take k) ZG
  rw [brd (by omega),bH hk,obs,bH (by omega),obs,cT (ha.get hk) (hb.get (by omega)),obs,gH hc (l9 _ _),obs,ab _ (by omega) (by omega),CH hk (by omega),List.foldl_append]
  rfl) (by
  simp only [li]
  rw [brn (by omega),decide_eq_false (by omega),List.take_of_length_le (by rw [List.length_zip];omega)]
  rfl)
theorem ZJ {a pt:List Ext} (ha:dH a) (hp:dH pt) (hn:pt.length≤6) (hl:a.length≤2^pt.length):xr a pt=some (OE a (eqT pt)):=by
 unfold xr
 have h6:=Yo pt.length hn
 have hel:=xP pt
 rw [Fj hp hn,obs,a1p ha (Tv _) (by omega) (by omega)];rfl
end Go.AI.Fn
set_option linter.unusedVariables false
set_option linter.unusedSimpArgs false
namespace Go.AI.Fn
abbrev K:={x:Ext//okE x}
def K.n (i:Int):K:=⟨eN (i%2130706433),a08 (gT _)⟩
instance b5P:Add K:=⟨fun a b=>⟨eA a.1 b.1,PR _ _⟩⟩
instance b5w:Mul K:=⟨fun a b=>⟨eM a.1 b.1,l9 _ _⟩⟩
instance b6i:Sub K:=⟨fun a b=>⟨eS a.1 b.1,t1 _ _⟩⟩
instance b5l:Neg K:=⟨fun a=>⟨eS e0 a.1,t1 _ _⟩⟩
instance b0l:NatCast K:=⟨fun n=>K.n n⟩
instance a9r:IntCast K:=⟨fun n=>K.n n⟩
instance b4p (n:Nat):OfNat K n:=⟨K.n n⟩
def K.pow (a:K):Nat→K
 |0=>K.n 1
 |n+1=>K.pow a n*a
instance b51:HPow K Nat K:=⟨K.pow⟩
theorem K.ext {a b:K} (h:a.1=b.1):a=b:=Subtype.ext h
theorem K.mul_val (a b:K):(a*b).1=eM a.1 b.1:=rfl
theorem K.n_mul (i j:Int):K.n (i*j)=K.n i*K.n j:=K.ext (Gz (by
 show (i*j)%2130706433=((i%2130706433)*(j%2130706433)+3*(0*0))%2130706433
 rw [show (3:Int)*(0*0)=0 from rfl,Int.add_zero, ←Int.mul_emod]) (by
 show (0:Int)=((i%2130706433)*0+0*(j%2130706433))%2130706433
 rw [Int.mul_zero,Int.zero_mul];rfl))
instance b0j:NeZero 2130706433:=⟨by decide⟩
abbrev FP:=Fin 2130706433
def K.a (x:K):FP:=⟨x.1.A.toNat,by have h:=x.2.1;unfold okF at h;omega⟩
def K.b (x:K):FP:=⟨x.1.B.toNat,by have h:=x.2.2;unfold okF at h;omega⟩
theorem K.A_nat (x:K): ∃n:Nat,x.1.A=(n:Int)∧n<2130706433∧(K.a x).val=n:=⟨x.1.A.toNat,by have h:=x.2.1;unfold okF at h;omega,(K.a x).isLt,rfl⟩
theorem K.B_nat (x:K): ∃n:Nat,x.1.B=(n:Int)∧n<2130706433∧(K.b x).val=n:=⟨x.1.B.toNat,by have h:=x.2.2;unfold okF at h;omega,(K.b x).isLt,rfl⟩
theorem K.eqv {x y:K}:x=y↔K.a x=K.a y∧K.b x=K.b y:=⟨fun h=>by rw [h];exact ⟨rfl,rfl⟩,fun h=>by
 obtain ⟨n,h1,_,h2⟩:=K.A_nat x
 obtain ⟨m,h3,_,h4⟩:=K.A_nat y
 obtain ⟨i,h5,_,h6⟩:=K.B_nat x
 obtain ⟨j,h7,_,h8⟩:=K.B_nat y
 have e1:=congrArg Fin.val h.1
 have e2:=congrArg Fin.val h.2
 exact K.ext (Gz (by omega) (by omega))⟩
theorem K.ad_a (x y:K):K.a (x+y)=K.a x+K.a y:=Fin.ext (by
 obtain ⟨n,h1,_,h2⟩:=K.A_nat x
 obtain ⟨m,h3,_,h4⟩:=K.A_nat y
 rw [Fin.val_add,h2,h4]
 show ((x.1.A+y.1.A)%2130706433).toNat=_
 omega)
theorem K.ad_b (x y:K):K.b (x+y)=K.b x+K.b y:=Fin.ext (by
 obtain ⟨n,h1,_,h2⟩:=K.B_nat x
 obtain ⟨m,h3,_,h4⟩:=K.B_nat y
 rw [Fin.val_add,h2,h4]
 show ((x.1.B+y.1.B)%2130706433).toNat=_
 omega)
theorem K.su_a (x y:K):K.a (x-y)=K.a x-K.a y:=Fin.ext (by
 obtain ⟨n,h1,_,h2⟩:=K.A_nat x
 obtain ⟨m,h3,_,h4⟩:=K.A_nat y
 rw [Fin.sub_def]
 show ((x.1.A-y.1.A)%2130706433).toNat=(2130706433-(K.a y).val+(K.a x).val)%2130706433
 omega)
theorem K.su_b (x y:K):K.b (x-y)=K.b x-K.b y:=Fin.ext (by
 obtain ⟨n,h1,_,h2⟩:=K.B_nat x
 obtain ⟨m,h3,_,h4⟩:=K.B_nat y
 rw [Fin.sub_def]
 show ((x.1.B-y.1.B)%2130706433).toNat=(2130706433-(K.b y).val+(K.b x).val)%2130706433
 omega)
theorem K.n0_a:K.a 0=0:=rfl
theorem K.n0_b:K.b 0=0:=rfl
theorem K.n1_a:K.a 1=1:=rfl
theorem K.n1_b:K.b 1=0:=rfl
theorem K.n2_a:K.a 2=2:=rfl
theorem K.n2_b:K.b 2=0:=rfl
theorem K.n3_a:K.a 3=3:=rfl
theorem K.n3_b:K.b 3=0:=rfl
theorem K.ne_sub (x:K): -x=0-x:=rfl
theorem K.mu_a (x y:K):K.a (x*y)=K.a x*K.a y+3*(K.b x*K.b y):=Fin.ext (by
 obtain ⟨n,h1,_,h2⟩:=K.A_nat x
 obtain ⟨m,h3,_,h4⟩:=K.A_nat y
 obtain ⟨i,h5,_,h6⟩:=K.B_nat x
 obtain ⟨j,h7,_,h8⟩:=K.B_nat y
 rw [Fin.val_add,Fin.val_mul,Fin.val_mul,Fin.val_mul,h2,h4,h6,h8,show (3:FP).val=3 from rfl]
 show ((x.1.A*y.1.A+3*(x.1.B*y.1.B))%2130706433).toNat=_
 rw [h1,h3,h5,h7, ←Int.natCast_mul, ←Int.natCast_mul]
 generalize n*m=u
 generalize i*j=v
 omega)
theorem K.mu_b (x y:K):K.b (x*y)=K.a x*K.b y+K.b x*K.a y:=Fin.ext (by
 obtain ⟨n,h1,_,h2⟩:=K.A_nat x
 obtain ⟨m,h3,_,h4⟩:=K.A_nat y
 obtain ⟨i,h5,_,h6⟩:=K.B_nat x
 obtain ⟨j,h7,_,h8⟩:=K.B_nat y
 rw [Fin.val_add,Fin.val_mul,Fin.val_mul,h2,h4,h6,h8]
 show ((x.1.A*y.1.B+x.1.B*y.1.A)%2130706433).toNat=_
 rw [h1,h3,h5,h7, ←Int.natCast_mul, ←Int.natCast_mul]
 generalize n*j=u
 generalize i*m=v
 omega)
theorem kg {p:Prop} (h:p:=by (simp only [K.ne_sub,K.eqv,K.ad_a,K.ad_b,K.su_a,K.su_b,K.mu_a,K.mu_b,K.n0_a,K.n0_b,K.n1_a,K.n1_b,K.n2_a,K.n2_b,K.n3_a,K.n3_b] at* <;>first|grind only|grind)):p:=h
def kF (a:Int):K:=K.n a
theorem xf {a:Int} (h:okF a):(kF a).1=eN a:=by show eN (a%2130706433)=eN a;rw [Ab h]
theorem a3Q (a b:Int):kF (mF a b)=kF a*kF b:=by
 rw [kF,kF,kF, ←K.n_mul]
 exact K.ext (by show eN ((a*b)%2130706433%2130706433)=eN ((a*b)%2130706433);rw [Int.emod_emod])
def kv (l:List K):List Ext:=l.map (·.1)
theorem aM (l:List K):(kv l).length=l.length:=by simp [kv]
theorem AR (l:List K):dH (kv l):=dH.map l fun x _=>x.2
theorem b0W {L:List Ext} (h:dH L): ∃l,L=kv l:=by
 induction L with
 |nil=>exact ⟨[],rfl⟩
 |cons x L ih=>
  obtain ⟨l,rfl⟩:=ih fun y hy=>h y (by simp [hy])
  exact ⟨⟨x,h x (by simp)⟩::l,rfl⟩
theorem a5D {l:List K} {j:Nat} (h:j<l.length):(kv l)[j]'(by rw [aM];exact h)=(l.getD j 0).1:=by simp [kv,h]
theorem qa {l:List K} {j:Nat} (h:j<l.length):atL (kv l) (j:Int)=some (l.getD j 0).1:=by rw [bH (by rw [aM];exact h),a5D h]
theorem a0g {l:List K} {j:Nat} (h:j<l.length):(kv l)[j]? =some (l.getD j 0).1:=by rw [oE (by rw [aM];exact h),a5D h]
end Go.AI.Fn
set_option linter.unusedVariables false
set_option linter.unusedSimpArgs false
namespace Go.AI.Fn
theorem pw0 (x:K):x^0=1:=rfl
theorem pwS (x:K) (n:Nat):x^(n+1)=x^n*x:=rfl
theorem a6x: ∀n:Nat,(1:K)^n=1
 |0=>rfl
 |n+1=>by rw [pwS,a6x n];exact kg
theorem a5U (x y:K): ∀n:Nat,(x*y)^n=x^n*y^n
 |0=>by rw [pw0,pw0,pw0];exact kg
 |n+1=>by rw [pwS,pwS,pwS,a5U x y n];exact kg
def evs:List K→List K
 |a::_::l=>a::evs l
 |[a]=>[a]
 |[]=>[]
def ods:List K→List K
 |_::b::l=>b::ods l
 |_=>[]
def b6X (E O:List K) (w:K) (h:Nat):List K:=(List.range h).map fun j=>E.getD j 0+O.getD j 0*w^j
def b6V (E O:List K) (w:K) (h:Nat):List K:=(List.range h).map fun j=>E.getD j 0-O.getD j 0*w^j
def V:Nat→List K→K→List K
 |0,l,_=>l
 |k+1,l,w=>b6X (V k (evs l) (w*w)) (V k (ods l) (w*w)) w (2^k)++b6V (V k (evs l) (w*w)) (V k (ods l) (w*w)) w (2^k)
def cb (r:K) (a b:List K):List K:=List.zipWith (fun x y=>x+r*y) a b
end Go.AI.Fn
set_option linter.unusedVariables false
set_option linter.unusedSimpArgs false
namespace Go.AI.Fn
def UH:Nat→(Nat→K)→K
 |0,_=>0
 |n+1,f=>UH n f+f n
def fdK (r:K):List K→List K
 |a::b::l=>(a+r*(b-a))::fdK r l
 |_=>[]
theorem Zs (r:K): ∀(l:List K) (m:Nat),l.length=2*m→(fdK r l).length=m
 |[],m,h=>by simp at h;simp [fdK];omega
 |[a],m,h=>by simp at h;omega
 |a::b::l,0,h=>by simp at h
 |a::b::l,m+1,h=>by simp only [fdK,List.length_cons];rw [Zs r l m (by simp only [List.length_cons] at h;omega)]
def cmK (kind:Nat) (v:List K):K:=if kind=1 then v.getD 0 0*v.getD 1 0 else v.getD 0 0*(v.getD 1 0*v.getD 2 0-v.getD 3 0)
def bdK (r:K) (T:List (List K)):List (List K):=T.map (fdK r)
theorem a9Y (r:K) (T:List (List K)) (i:Nat):(bdK r T).getD i []=fdK r (T.getD i []):=by
 by_cases h:i<T.length
 ·simp [bdK,h]
 ·simp [bdK,h,fdK]
end Go.AI.Fn
set_option linter.unusedVariables false
set_option linter.unusedSimpArgs false
namespace Go.AI.Fn
theorem Kf {α:Type} {a:List α} {n k:Nat} {z x:α} (hk:k<n) (ha:a.length=k):(a++List.replicate (n-k) z).set k x=(a++[x])++List.replicate (n-(k+1)) z:=by
 subst ha
 have e:n-a.length=(n-(a.length+1))+1:=by omega
 rw [e,List.replicate_succ]
 simp
theorem DO {α β:Type} {f:α→Option β} {g:α→β} {a:List α} {z:β} (hl:a.length≤1099511627776) (hf: ∀x∈a,f x=some (g x)) {step:List β×Int→Option ((List β×Int)⊕(List β×Int×Bool))}
 (hs: ∀l i,step (l,i)=br (decide (i<((a.length:Nat):Int))) ((atL a i).bind fun x=>(f x).bind fun r=>br (decide (0≤i)) (br (decide (i.toNat<l.length)) ((l[i.toNat]?).bind fun _=>some (.inl (l.set i.toNat r,IntKind.wrap .i64 (i+1)))) none) none) (some (.inr (l,i,decide (i<((a.length:Nat):Int)))))) {n:Nat} (hn:a.length≤n):
 Loop step (List.replicate n z,0)=some (a.map g++List.replicate (n-a.length) z,(a.length:Int),false):=by
 have key:=au (step:=step) (fun k=>((a.take k).map g++List.replicate (n-k) z,(k:Int))) a.length (e:=(a.map g++List.replicate (n-a.length) z,(a.length:Int),false)) (fun k hk=>by
  have hlen:((a.take k).map g++List.replicate (n-k) z).length=n:=by simp;omega
  rw [hs,brd (by omega),bH hk,obs,hf _ (List.getElem_mem hk),obs,brd (by omega),brd (by omega),Int.toNat_natCast,oE (by omega),obs,Kf (by omega) (by simp;omega),ab _ (by omega) (by omega),bX hk,List.map_append]
  rfl) (by
  rw [hs,brn (by omega),decide_eq_false (by omega),List.take_length])
 simpa using key
theorem H0 {α:Type} {f:α→α→Option Bool} {a:List α} (hl:a.length≤1099511627776) (hf: ∀x∈a,f x x=some true) {step:Int→Option (Int⊕(Unit⊕(Int×Bool)))}
 (hs: ∀t,step t=br (decide (t<((a.length:Nat):Int))) ((atL a t).bind fun x=>(atL a t).bind fun y=>(f x y).bind fun r=>br (!r) (some (.inr (.inl ()))) (some (.inl (IntKind.wrap .i64 (t+1))))) (some (.inr (.inr (t,decide (t<((a.length:Nat):Int))))))):
 (Loop step 0).bind (alt (fun _=>some false) (fun _=>some true))=some true:=by
 have key:Loop step 0=some (.inr ((a.length:Int),false)):=au (step:=step) (fun k=>(k:Int)) a.length (fun k hk=>by
  rw [hs,brd (by omega),bH hk,obs,obs,hf _ (List.getElem_mem hk),obs,Bool.not_true,an,ab _ (by omega) (by omega)];rfl)
  (by rw [hs,brn (by omega),decide_eq_false (by omega)])
 rw [key];rfl
theorem jo (x:Ext):lM x x=some true:=by unfold lM;rw [cE rfl,cE rfl]
theorem A6 {a:List Ext} (h:a.length≤1048576):oV a=some a:=by
 unfold oV
 rw [yL (by omega) (by omega) (by omega),Int.toNat_natCast,DO (step:=qQ a) (f:=mg) (g:=fun x=>x) (by omega) (fun x _=>rfl) (fun l i=>rfl) (Nat.le_refl _)]
 simp
theorem Vw {a:List Int} (h:a.length≤1048576):sj a=some a:=by
 unfold sj
 rw [yL (by omega) (by omega) (by omega),Int.toNat_natCast,DO (step:=qN a) (f:=fun x=>some x) (g:=fun x=>x) (by omega) (fun x _=>rfl) (fun l i=>rfl) (Nat.le_refl _)]
 simp
theorem uM {a:List Ext} (h:a.length≤1048576):oW a a=some true:=by
 unfold oW
 rw [cE rfl]
 exact H0 (f:=lM) (by omega) (fun x _=>jo x) (fun t=>rfl)
theorem Pa {a:List Int} (h:a.length≤1048576):zG a a=some true:=by
 unfold zG
 rw [cE rfl]
 refine H0 (a:=a) (f:=fun x y=>some (x==y)) (by omega) (fun x _=>by simp) (fun t=> ?_)
 simp only [qH]
 rfl
theorem Ah {a:List Ext} {left:Int} (ha:a.length≤9223372036854775807) (h0: -1≤left) (h1:left≤1048576): ∃r,oP a left=some r∧ -1≤r∧r≤1048576∧(0≤r→a.length≤1048576):=by
 unfold oP
 rw [ab _ (by omega) (by omega)]
 by_cases h:left-(a.length:Int)<0
 ·rw [brd h];exact ⟨_,rfl,by omega,by omega,by omega⟩
 ·rw [brn h];exact ⟨_,rfl,by omega,by omega,by omega⟩
end Go.AI.Fn
set_option linter.unusedVariables false
namespace Go.AI.Fn
theorem a4q (x y:Int):fK x y=some (if x<y then-1 else if x>y then 1 else 0):=by
 unfold fK jS
 simp only [obs,bne_self_eq_false,an]
 by_cases h:x<y
 ·rw [brd h,if_pos h]
 ·rw [brn h,if_neg h]
  by_cases h2:x>y
  ·rw [brd h2,if_pos h2]
  ·rw [brn h2,if_neg h2]
theorem Um (a b:Int):dw 0 [a,b] (([a,b].length:Nat):Int) 0=br (a !=0) (some (.inr (.inl a))) (some (.inl 1)):=by
 simp only [dw]
 rw [brd (by simp),show atL [a,b] 0=some a by simp [atL],show IntKind.wrap .i64 (0+1)=1 by decide];rfl
theorem VZ (a b:Int):dw 0 [a,b] (([a,b].length:Nat):Int) 1=br (b !=0) (some (.inr (.inl b))) (some (.inl 2)):=by
 simp only [dw]
 rw [brd (by simp),show atL [a,b] 1=some b by simp [atL],show IntKind.wrap .i64 (1+1)=2 by decide];rfl
theorem a3W (a b:Int):dw 0 [a,b] (([a,b].length:Nat):Int) 2=some (.inr (.inr (2,false))):=by
 simp only [dw]
 rw [brn (by simp)];simp
theorem b62 (a b:Int):sZ [a,b]=some (if a=0 then b else a):=by
 unfold sZ
 by_cases ha:a=0
 ·rw [bG (s':=1) (by rw [Um,cE ha]),if_pos ha]
  by_cases hb:b=0
  ·rw [bG (s':=2) (by rw [VZ,cE hb]),bI (a3W a b),hb];rfl
  ·rw [bI (e:= .inl b) (by rw [VZ,brb hb])];rfl
 ·rw [bI (e:= .inl a) (by rw [Um,brb ha]),if_neg ha];rfl
def ltE (y x:Entry):Prop:=y.Row<x.Row∨(y.Row=x.Row∧y.Col<x.Col)
theorem a4B (y x:Entry): ∃c,jZ y x=some c∧(c≥0↔ ¬ltE y x):=by
 unfold jZ
 rw [a4q,a4q]
 simp only [obs,b62]
 refine ⟨_,rfl, ?_⟩
 unfold ltE
 by_cases h1:y.Row<x.Row
 ·simp [h1]
 ·by_cases h2:y.Row>x.Row
  ·simp [h1,h2];omega
  ·have h3:y.Row=x.Row:=by omega
   by_cases h4:y.Col<x.Col
   ·simp [h3,h4]
   ·by_cases h5:y.Col>x.Col
    ·simp [h3,h4,h5]
    ·simp [h3,h4,h5]
def inE (R C:Int) (x:Entry):Prop:=(0≤x.Row∧x.Row≤R-1)∧(0≤x.Col∧x.Col≤C-1)∧1≤x.Value∧x.Value≤2130706432
def Dw (l:List Entry) (R C:Int) (t:Nat):Prop:= ∃x,l[t]? =some x∧(¬inE R C x∨(0<t∧ ∃y,l[t-1]? =some y∧ ¬ltE y x))
open Classical in
noncomputable def tG (l:List Entry) (R C:Int):Bool:=decide (l.length≤200∧ ∀t, ¬Dw l R C t)
open Classical in
theorem a4N {l:List Entry} {R C:Int} (h:l.length≤200) (g: ∀t, ¬Dw l R C t):tG l R C=true:=by unfold tG;exact decide_eq_true ⟨h,g⟩
open Classical in
theorem Tt {l:List Entry} {R C:Int} (h:l.length≤200→ ¬ ∀t, ¬Dw l R C t):tG l R C=false:=by unfold tG;exact decide_eq_false fun g=>h g.1 g.2
open Classical in
theorem MJ {l:List Entry} {R C:Int} (h:tG l R C=true):l.length≤200:=by unfold tG at h;exact (of_decide_eq_true h).1
theorem a3J (n a b:Int):vp n a b=some (decide (a≤n∧n≤b)):=by
 unfold vp
 by_cases h:a≤n
 ·rw [brd h];simp [h]
 ·rw [brn h];simp [h]
theorem a4Z (n a b:Int):en n a b=some (decide (a≤n∧n≤b)):=by
 unfold en
 by_cases h:a≤n
 ·rw [brd h];simp [h]
 ·rw [brn h];simp [h]
theorem AG {l:List Entry} {R C:Int} (hl:l.length≤1099511627776) (hR:1≤R∧R≤4096) (hC:1≤C∧C≤4096):kW l R C=some (tG l R C):=by
 unfold kW
 have key:=lQ (step:=iQ l R C l ((l.length:Nat):Int)) (fun t=>0≤t∧t≤l.length∧ ∀k:Nat,(k:Int)<t→ ¬Dw l R C k) (fun t=>(l.length-t).toNat)
  (fun e=>(∃x,e= .inl x∧ ∃k,Dw l R C k)∨(∃x,e= .inr x∧ ∀k, ¬Dw l R C k)) ?_ 0 ⟨by omega,by omega,by omega⟩
 ·obtain ⟨e,he,⟨x,rfl,k,hk⟩|⟨x,rfl,hk⟩⟩:=key
  ·rw [he]
   simp only [obs,iC]
   rw [Tt fun _ h=>h k hk]
  ·rw [he]
   simp only [obs,kt]
   by_cases h:l.length≤200
   ·rw [decide_eq_true (by omega),a4N h hk]
   ·rw [decide_eq_false (by omega),Tt fun g=>absurd g h]
 ·intro t ⟨h0,h1,h2⟩
  simp only [iQ]
  by_cases c:t<(l.length:Int)
  ·obtain ⟨x,r,e1,e2,e3⟩:=jn (l:=l) (i:=t.toNat) (by omega)
   have next: ¬Dw l R C t.toNat→(fun t:Int=>0≤t∧t≤l.length∧ ∀k:Nat,(k:Int)<t→ ¬Dw l R C k) (t+1):=by
    intro hn
    refine ⟨by omega,by omega,fun k hk=> ?_⟩
    by_cases e:k=t.toNat
    ·subst e;exact hn
    ·exact h2 k (by omega)
   rw [brd c,Bn h0 e3]
   simp only [obs,a3J]
   rw [ab (R-1) (by omega) (by omega),ab (C-1) (by omega) (by omega),ab (t+1) (by omega) (by omega)]
   by_cases i1:0≤x.Row∧x.Row≤R-1
   ·rw [TI i1]
    by_cases i2:0≤x.Col∧x.Col≤C-1
    ·rw [TI i2]
     by_cases i3:1≤x.Value∧x.Value≤2130706432
     ·rw [TI i3]
      by_cases c3:t>0
      ·rw [brd c3,ab (t-1) (by omega) (by omega)]
       obtain ⟨y,r2,f1,f2,f3⟩:=jn (l:=l) (i:=(t-1).toNat) (by omega)
       rw [Bn (by omega) f3]
       simp only [obs]
       obtain ⟨d,hd,hd2⟩:=a4B y x
       rw [hd]
       simp only [obs]
       rw [show (t-1).toNat=t.toNat-1 by omega] at f3
       by_cases c4:d≥0
       ·rw [brd c4]
        exact .inr ⟨_,rfl,.inl ⟨_,rfl,t.toNat,x,e3,.inr ⟨by omega,y,f3,hd2.1 c4⟩⟩⟩
       ·rw [brn c4]
        refine .inl ⟨_,rfl,next ?_,by omega⟩
        rintro ⟨x',g1,g|⟨_,y',g2,g3⟩⟩
        ·rw [e3] at g1;cases g1;exact g ⟨i1,i2,i3⟩
        ·rw [e3] at g1;cases g1;rw [f3] at g2;cases g2;exact c4 (hd2.2 g3)
      ·rw [brn c3]
       refine .inl ⟨_,rfl,next ?_,by omega⟩
       rintro ⟨x',g1,g|⟨g0,_⟩⟩
       ·rw [e3] at g1;cases g1;exact g ⟨i1,i2,i3⟩
       ·omega
     ·rw [SA i3]
      exact .inr ⟨_,rfl,.inl ⟨_,rfl,t.toNat,x,e3,.inl fun g=>i3 g.2.2⟩⟩
    ·rw [SA i2]
     exact .inr ⟨_,rfl,.inl ⟨_,rfl,t.toNat,x,e3,.inl fun g=>i2 g.2.1⟩⟩
   ·rw [SA i1]
    exact .inr ⟨_,rfl,.inl ⟨_,rfl,t.toNat,x,e3,.inl fun g=>i1 g.1⟩⟩
  ·rw [brn c]
   refine .inr ⟨_,rfl,.inr ⟨_,rfl,fun k hk=> ?_⟩⟩
   have hkl:k<l.length:=by
    obtain ⟨x,hx,_⟩:=hk
    obtain ⟨h,_⟩:=List.getElem?_eq_some_iff.1 hx
    exact h
   exact h2 k (by omega) hk
theorem T0 {l:List Entry} {r c:Int} (hr:0≤r∧r≤5) (hc:0≤c∧c≤5) {R C:Int} (hR:aB .i64 1 r=R) (hC:aB .i64 1 c=C) (hR':1≤R∧R≤4096) (hC':1≤C∧C≤4096):mH l r c=some (tG l R C):=by
 unfold mH
 by_cases hl:(l.length:Int)>200
 ·rw [brd hl]
  rw [Tt (by omega)]
 rw [brn hl]
 have key:=lQ (step:=k8 l r c) (fun t=>0≤t∧t≤l.length∧ ∀k:Nat,(k:Int)<t→ ¬Dw l R C k) (fun t=>(l.length-t).toNat)
  (fun e=>(∃x,e= .inl x∧ ∃k,Dw l R C k)∨(∃x,e= .inr x∧ ∀k, ¬Dw l R C k)) ?_ 0 ⟨by omega,by omega,by omega⟩
 ·obtain ⟨e,he,⟨x,rfl,k,hk⟩|⟨x,rfl,hk⟩⟩:=key
  ·rw [he]
   simp only [obs,iC]
   rw [Tt fun _ h=>h k hk]
  ·rw [he]
   simp only [obs,kt]
   rw [a4N (by omega) hk]
 ·intro t ⟨h0,h1,h2⟩
  simp only [k8]
  rw [cw r (by omega) (by omega),cw c (by omega) (by omega),hR,hC]
  by_cases ct:t<(l.length:Int)
  ·obtain ⟨x,rest,e1,e2,e3⟩:=jn (l:=l) (i:=t.toNat) (by omega)
   have next: ¬Dw l R C t.toNat→(fun t:Int=>0≤t∧t≤l.length∧ ∀k:Nat,(k:Int)<t→ ¬Dw l R C k) (t+1):=by
    intro hn
    refine ⟨by omega,by omega,fun k hk=> ?_⟩
    by_cases e:k=t.toNat
    ·subst e;exact hn
    ·exact h2 k (by omega)
   rw [brd ct,Bn h0 e3]
   simp only [obs,a4Z]
   rw [brd hr.1]
   rw [ab (R-1) (by omega) (by omega),ab (C-1) (by omega) (by omega),ab (t+1) (by omega) (by omega)]
   by_cases i1:0≤x.Row∧x.Row≤R-1
   ·rw [TI i1,brd hc.1]
    by_cases i2:0≤x.Col∧x.Col≤C-1
    ·rw [TI i2]
     by_cases i3:1≤x.Value∧x.Value≤2130706432
     ·rw [TI i3]
      by_cases c3:t>0
      ·rw [brd c3,ab (t-1) (by omega) (by omega)]
       obtain ⟨y,r2,f1,f2,f3⟩:=jn (l:=l) (i:=(t-1).toNat) (by omega)
       rw [Bn (by omega) f3]
       simp only [obs]
       rw [show (t-1).toNat=t.toNat-1 by omega] at f3
       have good:ltE y x→ ¬Dw l R C t.toNat:=by
        rintro hlt ⟨x',g1,g|⟨_,y',g2,g3⟩⟩
        ·rw [e3] at g1;cases g1;exact g ⟨i1,i2,i3⟩
        ·rw [e3] at g1;cases g1;rw [f3] at g2;cases g2;exact g3 hlt
       have bad: ¬ltE y x→Dw l R C t.toNat:=fun h=>⟨x,e3,.inr ⟨by omega,y,f3,h⟩⟩
       by_cases c4:y.Row>x.Row
       ·rw [brd c4]
        exact .inr ⟨_,rfl,.inl ⟨_,rfl,_,bad (by unfold ltE;omega)⟩⟩
       ·rw [brn c4]
        by_cases c5:y.Row=x.Row
        ·rw [bre c5]
         by_cases c6:y.Col≥x.Col
         ·rw [brd c6]
          exact .inr ⟨_,rfl,.inl ⟨_,rfl,_,bad (by unfold ltE;omega)⟩⟩
         ·rw [brn c6]
          exact .inl ⟨_,rfl,next (good (by unfold ltE;omega)),by omega⟩
        ·rw [TB c5]
         exact .inl ⟨_,rfl,next (good (by unfold ltE;omega)),by omega⟩
      ·rw [brn c3]
       refine .inl ⟨_,rfl,next ?_,by omega⟩
       rintro ⟨x',g1,g|⟨g0,_⟩⟩
       ·rw [e3] at g1;cases g1;exact g ⟨i1,i2,i3⟩
       ·omega
     ·rw [SA i3]
      exact .inr ⟨_,rfl,.inl ⟨_,rfl,t.toNat,x,e3,.inl fun g=>i3 g.2.2⟩⟩
    ·rw [SA i2]
     exact .inr ⟨_,rfl,.inl ⟨_,rfl,t.toNat,x,e3,.inl fun g=>i2 g.2.1⟩⟩
   ·rw [SA i1]
    exact .inr ⟨_,rfl,.inl ⟨_,rfl,t.toNat,x,e3,.inl fun g=>i1 g.1⟩⟩
  ·rw [brn ct]
   refine .inr ⟨_,rfl,.inr ⟨_,rfl,fun k hk=> ?_⟩⟩
   have hkl:k<l.length:=by
    obtain ⟨x,hx,_⟩:=hk
    obtain ⟨h,_⟩:=List.getElem?_eq_some_iff.1 hx
    exact h
   exact h2 k (by omega) hk
end Go.AI.Fn
set_option linter.unusedVariables false
namespace Go.AI.Fn
theorem DP {k:Int} (h:0≤k∧k≤5):1≤aB .i64 1 k∧aB .i64 1 k≤4096:=by
 have:k=0∨k=1∨k=2∨k=3∨k=4∨k=5:=by omega
 rcases this with rfl|rfl|rfl|rfl|rfl|rfl<;>decide
noncomputable def oF (s:System):Bool:=
 decide (1≤s.Rows∧s.Rows≤5)&&(decide (2≤s.Cols∧s.Cols≤5)&&(decide (0≤s.Publics∧s.Publics≤aB .i64 1 (s.Cols-1)-1)&&
  (tG s.A (aB .i64 1 s.Rows) (aB .i64 1 s.Cols)&&(tG s.B (aB .i64 1 s.Rows) (aB .i64 1 s.Cols)&&tG s.C (aB .i64 1 s.Rows) (aB .i64 1 s.Cols)))))
theorem CW {s:System} (hA:s.A.length≤1099511627776) (hB:s.B.length≤1099511627776) (hC:s.C.length≤1099511627776):ng s=some (oF s):=by
 unfold ng oF
 simp only [a3J,obs]
 by_cases h1:1≤s.Rows∧s.Rows≤5
 ·rw [TI h1]
  by_cases h2:2≤s.Cols∧s.Cols≤5
  ·rw [TI h2]
   have k1:=DP (k:=s.Rows) (by omega)
   have k2:=DP (k:=s.Cols) (by omega)
   have k3:=DP (k:=s.Cols-1) (by omega)
   unfold eY cO
   rw [ab (s.Cols-1) (by omega) (by omega),brd (by omega)]
   simp only [obs]
   rw [ab (aB .i64 1 (s.Cols-1)-1) (by omega) (by omega)]
   by_cases h3:0≤s.Publics∧s.Publics≤aB .i64 1 (s.Cols-1)-1
   ·rw [TI h3,brd (by omega),brd (by omega),AG hA k1 k2]
    simp only [obs]
    rw [decide_eq_true h1,decide_eq_true h2,decide_eq_true h3]
    cases tG s.A (aB .i64 1 s.Rows) (aB .i64 1 s.Cols)
    ·rfl
    ·simp only [Bool.not_true,an]
     rw [brd (by omega),brd (by omega),AG hB k1 k2]
     simp only [obs]
     cases tG s.B (aB .i64 1 s.Rows) (aB .i64 1 s.Cols)
     ·rfl
     ·simp only [Bool.not_true,an]
      rw [brd (by omega),brd (by omega),AG hC k1 k2]
      simp only [obs]
      cases tG s.C (aB .i64 1 s.Rows) (aB .i64 1 s.Cols)<;>rfl
   ·rw [SA h3,decide_eq_true h1,decide_eq_true h2,decide_eq_false h3];rfl
  ·rw [SA h2,decide_eq_true h1,decide_eq_false h2];rfl
 ·rw [SA h1,decide_eq_false h1];rfl
theorem CQ (s:System):mJ s=some (oF s):=by
 unfold mJ oF
 simp only [a4Z,obs]
 by_cases h1:1≤s.Rows∧s.Rows≤5
 ·rw [brd h1]
  by_cases h2:2≤s.Cols∧s.Cols≤5
  ·rw [brd h2]
   have k1:=DP (k:=s.Rows) (by omega)
   have k2:=DP (k:=s.Cols) (by omega)
   have k3:=DP (k:=s.Cols-1) (by omega)
   rw [ab (s.Cols-1) (by omega) (by omega),cw (s.Cols-1) (by omega) (by omega),brd (by omega),ab (aB .i64 1 (s.Cols-1)-1) (by omega) (by omega)]
   by_cases h3:0≤s.Publics∧s.Publics≤aB .i64 1 (s.Cols-1)-1
   ·rw [brd h3,T0 (by omega) (by omega) rfl rfl k1 k2,T0 (by omega) (by omega) rfl rfl k1 k2,T0 (by omega) (by omega) rfl rfl k1 k2]
    rw [decide_eq_true h1,decide_eq_true h2,decide_eq_true h3]
    cases tG s.A (aB .i64 1 s.Rows) (aB .i64 1 s.Cols)<;>cases tG s.B (aB .i64 1 s.Rows) (aB .i64 1 s.Cols)<;>cases tG s.C (aB .i64 1 s.Rows) (aB .i64 1 s.Cols)<;>rfl
   ·rw [brn h3,decide_eq_true h1,decide_eq_true h2,decide_eq_false h3];rfl
  ·rw [brn h2,decide_eq_true h1,decide_eq_false h2];rfl
 ·rw [brn h1,decide_eq_false h1];rfl
theorem iv {s:System} (h:oF s=true):(1≤s.Rows∧s.Rows≤5)∧(2≤s.Cols∧s.Cols≤5)∧(0≤s.Publics∧s.Publics≤4096)∧s.A.length≤200∧s.B.length≤200∧s.C.length≤200:=by
 unfold oF at h
 simp only [Bool.and_eq_true,decide_eq_true_eq] at h
 obtain ⟨h1,h2,h3,h4,h5,h6⟩:=h
 have k3:=DP (k:=s.Cols-1) (by omega)
 exact ⟨h1,h2,by omega,MJ h4,MJ h5,MJ h6⟩
def setB (t:Setting):Bool:=decide (1≤t.Rate∧t.Rate≤3)&&(decide (1≤t.Queries∧t.Queries≤8)&&decide (0≤t.Grind∧t.Grind≤12))
theorem ti (t:Setting):iY t=some (setB t):=by
 unfold iY setB
 simp only [a3J,obs]
 cases decide (1≤t.Rate∧t.Rate≤3)<;>cases decide (1≤t.Queries∧t.Queries≤8)<;>rfl
theorem sC (t:Setting):iS t=some (setB t):=by
 unfold iS setB
 simp only [a4Z,obs]
 cases decide (1≤t.Rate∧t.Rate≤3)<;>cases decide (1≤t.Queries∧t.Queries≤8)<;>rfl
theorem nK {t:Setting} (h:setB t=true):(1≤t.Rate∧t.Rate≤3)∧(1≤t.Queries∧t.Queries≤8)∧0≤t.Grind∧t.Grind≤12:=by
 unfold setB at h
 simpa only [Bool.and_eq_true,decide_eq_true_eq] using h
theorem Ye {a:List Entry} {left:Int} (ha:a.length≤9223372036854775807) (h0: -1≤left) (h1:left≤1048576): ∃r,kY a left=some r∧ -1≤r∧r≤1048576∧(0≤r→a.length≤1048576):=by
 unfold kY
 rw [ab _ (by omega) (by omega)]
 by_cases c:left-(a.length:Int)<0
 ·rw [brd c];exact ⟨_,rfl,by omega,by omega,by omega⟩
 ·rw [brn c];exact ⟨_,rfl,by omega,by omega,by omega⟩
theorem b4N {s:System} {left:Int} (hA:s.A.length≤9223372036854775807) (hB:s.B.length≤9223372036854775807) (hC:s.C.length≤9223372036854775807) (h0: -1≤left) (h1:left≤1048576):
 ∃r,sU s left=some r∧ -1≤r∧r≤1048576∧(0≤r→s.A.length≤1048576∧s.B.length≤1048576∧s.C.length≤1048576):=by
 unfold sU
 obtain ⟨a,ea,a0,a1,a2⟩:=Ye (left:=left) hA (by omega) (by omega)
 rw [ea]
 simp only [obs]
 by_cases ca:a<0
 ·rw [brd ca];exact ⟨_,rfl,by omega,by omega,by omega⟩
 rw [brn ca]
 obtain ⟨b,eb,b0,b1,b2⟩:=Ye (left:=a) hB a0 a1
 rw [eb]
 simp only [obs]
 by_cases cb:b<0
 ·rw [brd cb];exact ⟨_,rfl,by omega,by omega,by omega⟩
 rw [brn cb]
 obtain ⟨c,ec,c0,c1,c2⟩:=Ye (left:=b) hC b0 b1
 rw [ec]
 simp only [obs]
 by_cases cc:c<0
 ·rw [brd cc];exact ⟨_,rfl,by omega,by omega,by omega⟩
 rw [brn cc]
 exact ⟨_,rfl,by omega,by omega,fun _=>⟨a2 (by omega),b2 (by omega),c2 (by omega)⟩⟩
theorem YP {a:List Entry} (ha:a.length≤1048576):kR a=some a:=by
 unfold kR
 have hm:tF ((a.length:Nat):Int) ((a.length:Nat):Int) 24=true:=by
  have h24:((a.length:Nat):Int)*((24:Nat):Int)≤((bq:Nat):Int):=by simp only [bq];omega
  unfold tF;rw [decide_eq_true (show (0:Int)≤((a.length:Nat):Int) by omega),decide_eq_true (Int.le_refl _),decide_eq_true h24];rfl
 rw [zR hm]
 have key:=lQ (step:=j4 a) (fun s=>0≤s.2∧s.2≤a.length∧s.1.length=a.length∧ ∀k:Nat,(k:Int)<s.2→s.1[k]? =a[k]?) (fun s=>(a.length-s.2).toNat)
  (fun e=>e.1=a) ?_ ((List.replicate (((a.length:Nat):Int).toNat) (Entry.mk (0:Int) (0:Int) (0:Int))),(0:Int)) ⟨by simp,by simp,by simp,fun k (hk:(k:Int)<0)=>by omega⟩
 ·obtain ⟨e,he,h⟩:=key
  rw [he];simp only [obs,h]
 ·rintro ⟨l,i⟩ ⟨h0,h1,hl,h2⟩
  dsimp only at h0 h1 hl h2
  simp only [j4]
  by_cases c:i<(a.length:Int)
  ·obtain ⟨x,rest,e1,e2,e3⟩:=jn (l:=a) (i:=i.toNat) (by omega)
   obtain ⟨y,rest2,f1,f2,f3⟩:=jn (l:=l) (i:=i.toNat) (by omega)
   rw [brd c,Bn h0 e3]
   simp only [obs,Bq]
   rw [brd h0,brd (by omega),f3]
   simp only [obs]
   rw [ab (i+1) (by omega) (by omega)]
   refine .inl ⟨_,rfl,⟨by dsimp only;omega,by dsimp only;omega,by simp [hl],fun k hk=> ?_⟩,by dsimp only;omega⟩
   dsimp only at hk ⊢
   rw [List.getElem?_set]
   by_cases e:i.toNat=k
   ·rw [if_pos e,if_pos (by omega), ←e,e3]
   ·rw [if_neg e];exact h2 k (by omega)
  ·rw [brn c]
   refine .inr ⟨_,rfl, ?_⟩
   apply List.ext_getElem?
   intro k
   show l[k]? =a[k]?
   by_cases hk:k<a.length
   ·exact h2 k (by omega)
   ·rw [List.getElem?_eq_none (by omega),List.getElem?_eq_none (by omega)]
theorem b1T {s:System} (hA:s.A.length≤1048576) (hB:s.B.length≤1048576) (hC:s.C.length≤1048576):l8 s=some s:=by
 unfold l8
 rw [YP hA,YP hB,YP hC];rfl
theorem Yz {a:List Entry} (ha:a.length≤1048576):l7 a a=some true:=by
 unfold l7
 rw [cE rfl]
 have key:=lQ (step:=j6 a a) (fun t=>0≤t∧t≤a.length) (fun t=>(a.length-t).toNat) (fun e=> ∃p,e= .inr p) ?_ 0 ⟨by omega,by omega⟩
 ·obtain ⟨e,he,p,rfl⟩:=key
  rw [he];rfl
 ·intro t ⟨h0,h1⟩
  simp only [j6]
  by_cases c:t<(a.length:Int)
  ·left
   obtain ⟨x,r,e1,e2,e3⟩:=jn (l:=a) (i:=t.toNat) (by omega)
   rw [brd c,Bn h0 e3]
   simp only [obs,BE]
   rw [cE rfl,cE rfl,cE rfl]
   simp only [obs,Bool.not_true,an]
   rw [ab (t+1) (by omega) (by omega)]
   exact ⟨_,rfl,⟨by omega,by omega⟩,by omega⟩
  ·right
   rw [brn c]
   exact ⟨_,rfl,_,rfl⟩
theorem b4n {s:System} (hA:s.A.length≤1048576) (hB:s.B.length≤1048576) (hC:s.C.length≤1048576):sA s s=some true:=by
 unfold sA
 rw [cE rfl,cE rfl,cE rfl,Yz hA,Yz hB,Yz hC];rfl
end Go.AI.Fn
set_option linter.unusedVariables false
set_option linter.unusedSimpArgs false
namespace Go.AI.Fn
theorem Nh {k:Nat} (h:k≤62):aB .i64 1 (k:Int)=((2^k:Nat):Int):=by
 have h2: ∀k:Nat,k<63→(2:Int)^k≤4611686018427387904∧0<(2:Int)^k:=by decide
 obtain ⟨h3,h4⟩:=h2 k (by omega)
 show IntKind.wrap .i64 (1*2^(min ((k:Int).toNat) 64))=_
 rw [Int.toNat_natCast,Nat.min_eq_left (by omega),Int.one_mul,ab _ (by omega) (by omega)]
 simp
def y7 (h n:Nat) (pub priv:List Int):List Int:=((1::pub)++List.replicate (h-1-pub.length) 0)++(priv++List.replicate (n-h-priv.length) 0)
theorem VR {h n:Nat} {pub priv:List Int} (h1:pub.length+1≤h) (h2:priv.length≤n-h) (h3:h≤n):(y7 h n pub priv).length=n:=by simp [y7];omega
theorem ZI {l r:List Int} {s:Nat} (h:s+r.length≤l.length):wx l s r.length r=l.take s++(r++l.drop (s+r.length)):=by
 rw [wx,List.take_length]
theorem a7x {h n:Nat} {pub priv:List Int} (h1:pub.length+1≤h) (h2:priv.length≤n-h) (h3:h≤n):
 wx (wx ((List.replicate n (0:Int)).set 0 1) 1 pub.length pub) h priv.length priv=y7 h n pub priv:=by
 obtain ⟨m,rfl⟩: ∃m,n=m+1:=⟨n-1,by omega⟩
 have e1:(List.replicate (m+1) (0:Int)).set 0 1=1::List.replicate m 0:=by rw [List.replicate_succ];rfl
 have e2:wx (1::List.replicate m (0:Int)) 1 pub.length pub=1::(pub++List.replicate (m-pub.length) 0):=by
  rw [ZI (by simp;omega),Nat.add_comm 1];simp
 rw [e1,e2,ZI (by simp;omega),y7]
 have e3:(1::(pub++List.replicate (m-pub.length) (0:Int))).take h=(1::pub)++List.replicate (h-1-pub.length) 0:=by
  obtain ⟨q,rfl⟩: ∃q,h=q+1:=⟨h-1,by omega⟩
  rw [List.take_succ_cons,List.take_append,List.take_of_length_le (by omega),List.take_replicate,Nat.min_eq_left (by omega)]
  simp
 have e4:(1::(pub++List.replicate (m-pub.length) (0:Int))).drop (h+priv.length)=List.replicate (m+1-h-priv.length) 0:=by
  obtain ⟨q,rfl⟩: ∃q,h=q+1:=⟨h-1,by omega⟩
  rw [show q+1+priv.length=(q+priv.length)+1 by omega,List.drop_succ_cons,List.drop_append,List.drop_eq_nil_of_le (by omega),List.nil_append,List.drop_replicate]
  congr 1;omega
 rw [e3,e4]
def dM (s:System):Nat:=2^(s.Cols.toNat-1)
theorem sG {s:System} (h:oF s=true):2≤s.Cols.toNat∧s.Cols.toNat≤5∧s.Cols=(s.Cols.toNat:Int):=by
 obtain ⟨_,h2,_⟩:=iv h;omega
theorem Gb {s:System} (h:oF s=true):2^s.Cols.toNat=2*dM s:=by
 obtain ⟨h1,_⟩:=sG h
 rw [dM, ←Nat.pow_succ'];congr 1;omega
theorem Ac: ∀k:Nat,k≤5→1≤2^k∧2^k≤32:=by decide
theorem PX {s:System} (h:oF s=true):eY s=some (dM s:Int):=by
 obtain ⟨h1,h2,h3⟩:=sG h
 unfold eY
 rw [ab _ (by omega) (by omega),brd (by omega),show s.Cols-1=((s.Cols.toNat-1:Nat):Int) by omega,Nh (by omega)];rfl
theorem WJ {s:System} (h:oF s=true) {pub priv:List Int} (h1:pub.length+1≤dM s) (h2:priv.length≤dM s):i7 s pub priv=some (y7 (dM s) (2^s.Cols.toNat) pub priv):=by
 obtain ⟨c1,c2,c3⟩:=sG h
 have hh:=Gb h
 have hb:=Ac s.Cols.toNat c2
 unfold i7
 rw [brd (by omega),c3,Nh (by omega), ←c3]
 simp only [Int.toNat_natCast,List.length_replicate]
 have hn0:0<(List.replicate (2^s.Cols.toNat) (0:Int)).length:=by rw [List.length_replicate];omega
 rw [yL (by omega) (by omega) (by omega),brd (by omega),dO hn0,brd (by omega),brd (by omega),PX h,obs,zQ (by omega) (by omega),brd (by omega)]
 simp only [Int.toNat_natCast]
 rw [Nat.min_eq_left (by omega),Nat.min_eq_left (by omega),a7x h1 (by omega) (by omega)]
theorem b2p {pub priv:List Int} {h c c2 c3:Int} {A B C:List Entry} {n:Nat} (hn:pub.length+1≤n) (hb:n≤1000000):
 Loop (ew pub priv h c c2 c3 A B C) ((List.replicate n (0:Int)).set 0 1,0)=some ((1::pub)++List.replicate (n-1-pub.length) 0,(pub.length:Int),false):=by
 have key:=au (step:=ew pub priv h c c2 c3 A B C) (fun k=>((1::pub.take k)++List.replicate (n-(k+1)) 0,(k:Int))) pub.length (e:=((1::pub)++List.replicate (n-1-pub.length) 0,(pub.length:Int),false)) (fun k hk=>by
  have hlen:((1::pub.take k)++List.replicate (n-(k+1)) (0:Int)).length=n:=by simp;omega
  simp only [ew]
  rw [brd (by omega),bH hk,obs,ab (1+(k:Int)) (by omega) (by omega),show (1:Int)+(k:Int)=((k+1:Nat):Int) by omega,brd (by omega),brd (by omega),oE (by omega),obs,Int.toNat_natCast,Kf (by omega) (by simp;omega),
   ab _ (by omega) (by omega),bX hk]
  simp) (by
  simp only [ew]
  rw [brn (by omega),decide_eq_false (by omega),List.take_length,show n-(pub.length+1)=n-1-pub.length by omega])
 obtain ⟨m,rfl⟩: ∃m,n=m+1:=⟨n-1,by omega⟩
 have e:(List.replicate (m+1) (0:Int)).set 0 1=(1::pub.take 0)++List.replicate (m+1-(0+1)) 0:=by rw [List.replicate_succ];simp
 rw [e];exact key
theorem b1V {L priv:List Int} {h n:Nat} {c c2 c3:Int} {A B C:List Entry} (hL:L.length=h) (hp:priv.length≤n-h) (hh:h≤n) (hb:n≤1000000):
 Loop (eu priv (h:Int) c c2 c3 A B C) (L++List.replicate (n-h) 0,0)=some (L++(priv++List.replicate (n-h-priv.length) 0),(priv.length:Int),false):=by
 have key:=au (step:=eu priv (h:Int) c c2 c3 A B C) (fun k=>((L++priv.take k)++List.replicate (n-(h+k)) 0,(k:Int))) priv.length (e:=(L++(priv++List.replicate (n-h-priv.length) 0),(priv.length:Int),false)) (fun k hk=>by
  have hlen:((L++priv.take k)++List.replicate (n-(h+k)) (0:Int)).length=n:=by simp;omega
  simp only [eu]
  rw [brd (by omega),bH hk,obs,ab ((h:Int)+(k:Int)) (by omega) (by omega),show (h:Int)+(k:Int)=((h+k:Nat):Int) by omega,brd (by omega),brd (by omega),oE (by omega),obs,Int.toNat_natCast,Kf (by omega) (by simp;omega),
   ab _ (by omega) (by omega),bX hk]
  simp [Nat.add_assoc]) (by
  simp only [eu]
  rw [brn (by omega),decide_eq_false (by omega),List.take_length,show n-(h+priv.length)=n-h-priv.length by omega,List.append_assoc])
 simpa using key
theorem Wk {s:System} (h:oF s=true) {pub priv:List Int} (h1:pub.length+1≤dM s) (h2:priv.length≤dM s):oJ s pub priv=some (y7 (dM s) (2^s.Cols.toNat) pub priv):=by
 obtain ⟨c1,c2,c3⟩:=sG h
 have hh:=Gb h
 have hb:=Ac s.Cols.toNat c2
 unfold oJ
 have e:IntKind.wrap .u64 (IntKind.wrap .i64 (s.Cols-1))=((s.Cols.toNat-1:Nat):Int):=by
  rw [ab _ (by omega) (by omega),cw _ (by omega) (by omega)];omega
 rw [e,brd (by omega),Nh (by omega)]
 have e2:IntKind.wrap .i64 (2*((2^(s.Cols.toNat-1):Nat):Int))=((2^s.Cols.toNat:Nat):Int):=by
  have:2^(s.Cols.toNat-1)=dM s:=rfl
  rw [this,ab _ (by omega) (by omega)];omega
 rw [e2,yL (by omega) (by omega) (by omega),Int.toNat_natCast,brd (by rw [List.length_replicate];omega),dO (by rw [List.length_replicate];omega),b2p (by omega) (by omega),obs]
 dsimp only
 have e3:1::pub++List.replicate (2^s.Cols.toNat-1-pub.length) (0:Int)=(1::pub++List.replicate (dM s-1-pub.length) 0)++List.replicate (2^s.Cols.toNat-dM s) 0:=by
  rw [List.append_assoc,List.replicate_append_replicate]
  congr 2;omega
 have e4:2^(s.Cols.toNat-1)=dM s:=rfl
 rw [e3,e4,b1V (by simp;omega) (by omega) (by omega) (by omega),obs,y7]
theorem a2C {l:List Int} (h:l.length≤1000000):LF l=some (l.map eN):=by
 unfold LF
 have key:Loop (n8 l ((l.length:Nat):Int)) ([],0)=some (l.map eN,(l.length:Int),false):=
  au (fun k=>((l.take k).map eN,(k:Int))) l.length (fun k hk=>by
   simp only [n8]
   rw [brd (by omega),bH hk,obs,aA (by simp only [List.length_append,List.length_map,List.length_take,List.length_singleton];omega),ab _ (by omega) (by omega),bX hk,List.map_append]
   rfl) (by
   simp only [n8]
   rw [brn (by omega),decide_eq_false (by omega),List.take_length])
 rw [key];rfl
theorem a2E {l:List Int} {n:Nat} (h:l.length≤n) (hn:n≤1000000):vR l (n:Int)=some (l.map eN++List.replicate (n-l.length) e0):=by
 unfold vR
 rw [yL (by omega) (by omega) (by omega),Int.toNat_natCast,DO (step:=o5 l) (f:=lN) (g:=eN) (by omega) (fun x _=>rfl) (fun l i=>rfl) h,obs];rfl
theorem Zw {h n:Nat} {pub priv:List Int} (h1:IY pub) (h2:IY priv):IY (y7 h n pub priv):=by
 intro x hx
 simp only [y7,List.mem_append,List.mem_cons,List.mem_replicate] at hx
 rcases hx with ((rfl|hx)|⟨_,rfl⟩)|hx|⟨_,rfl⟩
 ·exact b1f
 ·exact h1 x hx
 ·exact b38
 ·exact h2 x hx
 ·exact b38
theorem Qc {l:List Int} (h:IY l):dH (l.map eN):=dH.map l fun x hx=>a08 (h x hx)
def b0d (s:System) (pub:List Int) (pt:List Ext):Ext:=OE (((y7 (dM s) (2^s.Cols.toNat) pub []).take (dM s)).map eN) (eqT pt)
theorem Ot {s:System} (h:oF s=true) {pub:List Int} {pt:List Ext} (h1:pub.length+1≤dM s) (hf:IY pub) (hp:dH pt) (hl:pt.length+1=s.Cols.toNat):sw s pub pt=some (b0d s pub pt):=by
 obtain ⟨c1,c2,c3⟩:=sG h
 have hh:=Gb h
 have hb:=Ac s.Cols.toNat c2
 have hv:(y7 (dM s) (2^s.Cols.toNat) pub []).length=2^s.Cols.toNat:=VR h1 (by simp) (by omega)
 have hz:IY (y7 (dM s) (2^s.Cols.toNat) pub []):=Zw hf (fun x hx=>by cases hx)
 unfold sw
 rw [WJ h h1 (by simp),obs,PX h,obs,ju (by omega) (by omega) (by omega),obs]
 have e:((y7 (dM s) (2^s.Cols.toNat) pub []).drop (Int.toNat 0)).take (((dM s:Nat):Int).toNat-Int.toNat 0)=(y7 (dM s) (2^s.Cols.toNat) pub []).take (dM s):=rfl
 have hel:=xP pt
 have hpl:pt.length=s.Cols.toNat-1:=by omega
 have hq:2^pt.length=dM s:=by rw [hpl];rfl
 rw [e,a2C (by rw [List.length_take];omega),obs,xV hp (by omega),obs,
  Na (Qc fun x hx=>hz x (List.mem_of_mem_take hx)) (Tv _) (by rw [List.length_map,List.length_take];omega) (by rw [List.length_map,List.length_take];omega)]
 rfl
theorem UD {s:System} (h:oF s=true) {pub:List Int} {pt:List Ext} (h1:pub.length+1≤dM s) (hf:IY pub) (hp:dH pt) (hl:pt.length+1=s.Cols.toNat):oX s pub pt=some (b0d s pub pt):=by
 obtain ⟨c1,c2,c3⟩:=sG h
 have hh:=Gb h
 have hb:=Ac s.Cols.toNat c2
 have hv:(y7 (dM s) (2^s.Cols.toNat) pub []).length=2^s.Cols.toNat:=VR h1 (by simp) (by omega)
 have hz:IY (y7 (dM s) (2^s.Cols.toNat) pub []):=Zw hf (fun x hx=>by cases hx)
 unfold oX
 have e1:IntKind.wrap .u64 (IntKind.wrap .i64 (s.Cols-1))=((s.Cols.toNat-1:Nat):Int):=by
  rw [ab _ (by omega) (by omega),cw _ (by omega) (by omega)];omega
 have e2:aB .i64 1 ((s.Cols.toNat-1:Nat):Int)=(dM s:Int):=Nh (by omega)
 rw [Wk h h1 (by simp),obs,e1,brd (by omega),e2,ju (by omega) (by omega) (by omega),obs,brd (by omega)]
 have e:((y7 (dM s) (2^s.Cols.toNat) pub []).drop (Int.toNat 0)).take (((dM s:Nat):Int).toNat-Int.toNat 0)=(y7 (dM s) (2^s.Cols.toNat) pub []).take (dM s):=rfl
 have hpl:pt.length=s.Cols.toNat-1:=by omega
 have hq:2^pt.length=dM s:=by rw [hpl];rfl
 have hlt:((y7 (dM s) (2^s.Cols.toNat) pub []).take (dM s)).length=dM s:=by rw [List.length_take];omega
 rw [e,a2E (by omega) (by omega),obs,hlt,Nat.sub_self,List.replicate_zero,List.append_nil,
  ZJ (Qc fun x hx=>hz x (List.mem_of_mem_take hx)) hp (by omega) (by rw [List.length_map];omega)]
 rfl
theorem ZF {s:System} (h:oF s=true):0≤s.Publics∧s.Publics.toNat+1≤dM s:=by
 obtain ⟨c1,c2,c3⟩:=sG h
 have h0:=h
 unfold oF at h0
 simp only [Bool.and_eq_true,decide_eq_true_eq] at h0
 obtain ⟨_,_,h3,_⟩:=h0
 have e:aB .i64 1 (s.Cols-1)=(dM s:Int):=by
  rw [show s.Cols-1=((s.Cols.toNat-1:Nat):Int) by omega,Nh (by omega)];rfl
 rw [e] at h3
 omega
end Go.AI.Fn
set_option linter.unusedVariables false
namespace Go.AI.Fn
end Go.AI.Fn
set_option linter.unusedVariables false
set_option linter.unusedSimpArgs false
namespace Go.AI.Fn
end Go.AI.Fn
set_option linter.unusedVariables false
set_option linter.unusedSimpArgs false
namespace Go.AI.Fn
def kvv (T:List (List K)):List (List Ext):=T.map kv
theorem T8 (T:List (List K)):(kvv T).length=T.length:=by simp [kvv]
theorem SI {T:List (List K)} {j:Nat} (h:j<T.length):atL (kvv T) (j:Int)=some (kv (T.getD j [])):=by rw [bH (by rw [T8];exact h)];simp [kvv,h]
structure OkT (kind n:Nat) (T:List (List K)):Prop where
 kd:kind=1∨kind=2
 len:T.length=2*kind
 tab: ∀i,i<T.length→(T.getD i []).length=n
theorem OkT.bd {kind n:Nat} {T:List (List K)} (h:OkT kind (2*n) T) (r:K):OkT kind n (bdK r T):=⟨h.kd,by simp [bdK,h.len],fun i hi=>by
 rw [a9Y]
 exact Zs r _ n (h.tab i (by simpa [bdK] using hi))⟩
variable {kind n:Nat} {T:List (List K)}
theorem RQ {v:List K} (hk:kind=1∨kind=2) (hv:v.length=2*kind):rY (kind:Int) (kv v)=some (cmK kind v).1:=by
 unfold rY cmK
 have k0:=qa (l:=v) (j:=0) (by omega)
 have k1:=qa (l:=v) (j:=1) (by omega)
 rw [show ((0:Nat):Int)=0 from rfl] at k0
 rw [show ((1:Nat):Int)=1 from rfl] at k1
 rcases hk with rfl|rfl
 ·rw [bre (by omega),k0,obs,k1,obs,db (Subtype.property _) (Subtype.property _),if_pos rfl];rfl
 ·have k2:=qa (l:=v) (j:=2) (by omega)
  have k3:=qa (l:=v) (j:=3) (by omega)
  rw [show ((2:Nat):Int)=2 from rfl] at k2
  rw [show ((3:Nat):Int)=3 from rfl] at k3
  rw [TB (by omega),k0,obs,k1,obs,k2,obs,db (Subtype.property _) (Subtype.property _),obs,k3,obs,kS (l9 _ _) (Subtype.property _),obs,db (Subtype.property _) (t1 _ _),if_neg (by decide)];rfl
theorem Sz {v:List K} (hk:kind=1∨kind=2) (hv:v.length=2*kind):jm (kind:Int) (kv v)=some (cmK kind v).1:=by
 unfold jm cmK
 have k0:=qa (l:=v) (j:=0) (by omega)
 have k1:=qa (l:=v) (j:=1) (by omega)
 rw [show ((0:Nat):Int)=0 from rfl] at k0
 rw [show ((1:Nat):Int)=1 from rfl] at k1
 rcases hk with rfl|rfl
 ·rw [bre (by omega),k0,obs,k1,obs,cT (Subtype.property _) (Subtype.property _),if_pos rfl];rfl
 ·have k2:=qa (l:=v) (j:=2) (by omega)
  have k3:=qa (l:=v) (j:=3) (by omega)
  rw [show ((2:Nat):Int)=2 from rfl] at k2
  rw [show ((3:Nat):Int)=3 from rfl] at k3
  rw [TB (by omega),k0,obs,k1,obs,k2,obs,cT (Subtype.property _) (Subtype.property _),obs,k3,obs,Bs (l9 _ _) (Subtype.property _),obs,cT (Subtype.property _) (t1 _ _),if_neg (by decide)];rfl
theorem tU (hk:kind=1∨kind=2):kN (kind:Int)=some ((kind+1:Nat):Int):=by
 unfold kN
 rw [Bf,obs,decide_eq_true (by omega),decide_eq_true (by omega),Bool.and_self,Bool.not_true,an,ab _ (by omega) (by omega)];rfl
end Go.AI.Fn
set_option linter.unusedVariables false
set_option linter.unusedSimpArgs false
namespace Go.AI.Fn
theorem a3I (a:Int): ∀n:Nat,K.n (a^n)=K.n a^n
 |0=>by rw [Int.pow_zero,pw0];rfl
 |n+1=>by rw [Int.pow_succ,K.n_mul,a3I a n,pwS]
theorem b4F (a:Int):K.n (a%2130706433)=K.n a:=K.ext (by show eN (a%2130706433%2130706433)=eN (a%2130706433);rw [Int.emod_emod])
theorem b5m (a:Int) (n:Nat):kF (pF a n)=kF a^n:=by rw [kF,pF,b4F,a3I];rfl
theorem ZQ (a:Int):kF (iF a)=kF a^2130706431:=by rw [iF,b5m]
theorem a3m (a b:Int):kF (iF (mF a b))=kF (iF a)*kF (iF b):=by rw [ZQ,ZQ,ZQ,a3Q,a5U]
theorem a2z:kF (iF 1)=1:=by rw [ZQ,show kF 1=1 from rfl,a6x]
def lnI (i:Nat) (x v:K):Nat→K
 |0=>v
 |k+1=>if k=i then lnI i x v k else lnI i x v k*(x-kF (k:Int))*kF (iF (sF (i:Int) (k:Int)))
def lnP (i:Nat) (x v:K):Nat→K
 |0=>v
 |k+1=>if k=i then lnP i x v k else lnP i x v k*(x-kF (k:Int))
def lnD (i:Nat):Nat→Int
 |0=>1
 |k+1=>if k=i then lnD i k else mF (lnD i k) (sF (i:Int) (k:Int))
theorem YW (i:Nat): ∀k,okF (lnD i k)
 |0=>b1f
 |k+1=>by unfold lnD;split;exact YW i k;exact jT _ _
theorem b1K (i:Nat) (x v:K): ∀k,lnI i x v k=lnP i x v k*kF (iF (lnD i k))
 |0=>by rw [lnI,lnP,lnD,a2z];exact kg
 |k+1=>by
  have ih:=b1K i x v k
  unfold lnI lnP lnD
  split
  ·exact ih
  ·rw [a3m,ih];exact kg
def lnK (vs:List K) (x:K):K:=UH vs.length fun i=>lnI i x (vs.getD i 0) vs.length
theorem a5B {x:Nat} (h:x≤10):Ext.mk (x:Int) 0=(kF (x:Int)).1:=(xf ⟨by omega,by omega⟩).symm
theorem IF {vs:List K} (x:K) (hl:vs.length≤8):vU (kv vs) x.1=some (lnK vs x).1:=by
 unfold vU
 have key:=au (step:=gZ (kv vs) (kv vs) (vs.length:Int) x.1.A x.1.B 0 0) (fun j=>((j:Int),(UH j fun i=>lnI i x (vs.getD i 0) vs.length).1.A,(UH j fun i=>lnI i x (vs.getD i 0) vs.length).1.B)) vs.length (e:=((vs.length:Int),false,(lnK vs x).1.A,(lnK vs x).1.B)) (fun j hj=> ?_) ?_
 ·have key':Loop (gZ (kv vs) (kv vs) (vs.length:Int) x.1.A x.1.B 0 0) (0,0,0)=_:=key
  rw [aM,key'];rfl
 ·simp only [gZ]
  have inner: ∀c9 c10 c11 c12 c13 c14,Loop (hU (kv vs) (j:Int) (kv vs) (vs.length:Int) (j:Int) (((kv vs).length:Nat):Int) x.1.A x.1.B c9 c10 c11 c12 c13 c14) (0,(vs.getD j 0).1.A,(vs.getD j 0).1.B)=some ((vs.length:Int),false,(lnI j x (vs.getD j 0) vs.length).1.A,(lnI j x (vs.getD j 0) vs.length).1.B):=fun c9 c10 c11 c12 c13 c14=>by
   refine au (step:=hU (kv vs) (j:Int) (kv vs) (vs.length:Int) (j:Int) (((kv vs).length:Nat):Int) x.1.A x.1.B c9 c10 c11 c12 c13 c14) (fun k=>((k:Int),(lnI j x (vs.getD j 0) k).1.A,(lnI j x (vs.getD j 0) k).1.B)) vs.length (fun k hk=> ?_) ?_
   ·simp only [hU,aM]
    rw [brd (by omega)]
    by_cases c:k=j
    ·rw [cE (by omega),ab _ (by omega) (by omega),lnI,if_pos c];rfl
    ·rw [brb (by omega),a5B (by omega),show Ext.mk x.1.A x.1.B=x.1 from rfl,kS x.2 (Subtype.property _),obs,db (Subtype.property (lnI j x (vs.getD j 0) k)) (t1 _ _),obs,LM ⟨by omega,by omega⟩ ⟨by omega,by omega⟩,obs,xU (b1t _ _),obs,um (l9 _ _) (show okF (iF (sF (j:Int) (k:Int))) from Md _ _),obs,ab _ (by omega) (by omega),lnI,if_neg c,Zz, ←xf (a:=iF (sF (j:Int) (k:Int))) (Md _ _)];rfl
   ·simp only [hU,aM]
    rw [brn (by omega),decide_eq_false (by omega)]
  rw [brd (by omega),qa hj,obs,inner,obs,gI (Subtype.property (UH j fun i=>lnI i x (vs.getD i 0) vs.length)) (Subtype.property (lnI j x (vs.getD j 0) vs.length)),obs,ab _ (by omega) (by omega)];rfl
 ·simp only [gZ]
  rw [brn (by omega),decide_eq_false (by omega)];rfl
theorem Qm {vs:List K} (x:K) (hl:vs.length≤8):s9 (kv vs) x.1=some (lnK vs x).1:=by
 unfold s9
 have key:=au (step:=fV (kv vs) x.1.A x.1.B 0 0) (fun j=>((j:Int),(UH j fun i=>lnI i x (vs.getD i 0) vs.length).1.A,(UH j fun i=>lnI i x (vs.getD i 0) vs.length).1.B)) vs.length (e:=((vs.length:Int),false,(lnK vs x).1.A,(lnK vs x).1.B)) (fun j hj=> ?_) ?_
 ·have key':Loop (fV (kv vs) x.1.A x.1.B 0 0) (0,0,0)=_:=key
  rw [key'];rfl
 ·simp only [fV,aM]
  have inner: ∀c9 c10 c11 c12,Loop (fY (kv vs) (j:Int) x.1.A x.1.B c9 c10 c11 c12) (1,0,(vs.getD j 0).1.A,(vs.getD j 0).1.B)=some (lnD j vs.length,(vs.length:Int),false,(lnP j x (vs.getD j 0) vs.length).1.A,(lnP j x (vs.getD j 0) vs.length).1.B):=fun c9 c10 c11 c12=>by
   refine au (step:=fY (kv vs) (j:Int) x.1.A x.1.B c9 c10 c11 c12) (fun k=>(lnD j k,(k:Int),(lnP j x (vs.getD j 0) k).1.A,(lnP j x (vs.getD j 0) k).1.B)) vs.length (fun k hk=> ?_) ?_
   ·simp only [fY,aM]
    rw [brd (by omega)]
    by_cases c:k=j
    ·rw [cE (by omega),ab _ (by omega) (by omega),lnP,lnD,if_pos c,if_pos c];rfl
    ·rw [brb (by omega),Fl,obs,show eN (k:Int)=(kF (k:Int)).1 from a5B (by omega),show Ext.mk x.1.A x.1.B=x.1 from rfl,Bs x.2 (Subtype.property _),obs,cT (Subtype.property (lnP j x (vs.getD j 0) k)) (t1 _ _),obs,Lj ⟨by omega,by omega⟩ ⟨by omega,by omega⟩,obs,oG (YW j k) (b1t _ _),obs,ab _ (by omega) (by omega),lnP,lnD,if_neg c,if_neg c];rfl
   ·simp only [fY,aM]
    rw [brn (by omega),decide_eq_false (by omega)]
  unfold gY
  rw [brd (by omega),qa hj,obs,inner,obs]
  dsimp only
  rw [ym (YW j _),obs,obs,Fl,obs, ←xf (a:=iF (lnD j vs.length)) (Md _ _),cT (Subtype.property (lnP j x (vs.getD j 0) vs.length)) (Subtype.property _),obs,
   show eM (Ext.mk (lnP j x (vs.getD j 0) vs.length).1.A (lnP j x (vs.getD j 0) vs.length).1.B) (kF (iF (lnD j vs.length))).1=(lnI j x (vs.getD j 0) vs.length).1 from congrArg Subtype.val (b1K j x _ _).symm,
   gH (Subtype.property (UH j fun i=>lnI i x (vs.getD i 0) vs.length)) (Subtype.property (lnI j x (vs.getD j 0) vs.length)),obs,ab _ (by omega) (by omega)];rfl
 ·simp only [fV,aM]
  rw [brn (by omega),decide_eq_false (by omega)];rfl
end Go.AI.Fn
set_option linter.unusedVariables false
set_option linter.unusedSimpArgs false
namespace Go.AI.Fn
abbrev xo (a b:Int):Int:=mp .u64 a b
def rot (x s:Int):Int:=if s=0 then x else vh .u64 (aB .u64 x s) (aJ .u64 x (64-s))
def Jq (x:Int):Prop:=0≤x∧x<18446744073709551616
theorem Rq (x:Int):Jq (IntKind.wrap .u64 x):=by
 unfold Jq;simp [IntKind.wrap,IntKind.bits,IntKind.signed];omega
theorem b3G (a b:Int):Jq (xo a b):=Rq _
theorem W3 {x:Int} (h:Jq x):((BitVec.ofInt 64 x).toNat:Int)=x:=by
 obtain ⟨h0,h1⟩:=h
 rw [BitVec.toNat_ofInt];omega
theorem Ea {a:Int} (h:Jq a):xo 0 a=a:=by
 show IntKind.wrap .u64 _=a
 have:(BitVec.ofInt 64 0^^^BitVec.ofInt 64 a)=BitVec.ofInt 64 a:=by simp
 show IntKind.wrap .u64 ((BitVec.ofInt 64 0^^^BitVec.ofInt 64 a).toNat:Int)=a
 rw [this,W3 h,cw a h.1 h.2]
theorem a9a {a:Int} (h:Jq a):vh .u64 a 0=a:=by
 have:(BitVec.ofInt 64 a|||BitVec.ofInt 64 0)=BitVec.ofInt 64 a:=by simp
 show IntKind.wrap .u64 ((BitVec.ofInt 64 a|||BitVec.ofInt 64 0).toNat:Int)=a
 rw [this,W3 h,cw a h.1 h.2]
theorem a9i (x y:Int):La .u64 x y=bp .u64 (bM .u64 y) x:=by
 show IntKind.wrap .u64 ((BitVec.ofInt 64 x&&& ~~~ BitVec.ofInt 64 y).toNat:Int)=IntKind.wrap .u64 ((BitVec.ofInt 64 (bM .u64 y)&&&BitVec.ofInt 64 x).toNat:Int)
 have h:BitVec.ofInt 64 (bM .u64 y)= ~~~ BitVec.ofInt 64 y:=by
  show BitVec.ofInt 64 (IntKind.wrap .u64 ((BitVec.ofInt 64 18446744073709551615^^^BitVec.ofInt 64 y).toNat:Int))=_
  have e:(BitVec.ofInt 64 18446744073709551615^^^BitVec.ofInt 64 y)= ~~~ BitVec.ofInt 64 y:=by
   rw [show BitVec.ofInt 64 18446744073709551615=BitVec.allOnes 64 by decide,BitVec.allOnes_xor]
  rw [e,cw _ (by omega) (by have:=(~~~ BitVec.ofInt 64 y).isLt;omega)]
  rw [BitVec.ofInt_natCast,BitVec.ofNat_toNat];simp
 rw [h,BitVec.and_comm]
theorem ZR {x s:Int} (hs:0≤s∧s<64):s3 x s=some (rot x s):=by
 unfold s3 rot
 by_cases h:s=0
 ·rw [bre h,if_pos h]
 ·rw [TB h,if_neg h,brd hs.1,cw (64-s) (by omega) (by omega),brd (by omega)]
end Go.AI.Fn
set_option linter.unusedVariables false
set_option linter.unusedSimpArgs false
namespace Go.AI.Fn
theorem b5I: ∀k:Nat,k<64→bp .u64 (IntKind.wrap .u64 (k:Int)) 63=(k:Int):=by decide
theorem a0c {x s:Int} (hs:0≤s∧s<64) (hx:s≠0∨Jq x):cC x s=some (rot x s):=by
 have e:bp .u64 (IntKind.wrap .u64 s) 63=s:=by
  have:=b5I s.toNat (by omega)
  rwa [Int.toNat_of_nonneg hs.1] at this
 unfold cC rot
 rw [e,brd hs.1,cw (64-s) (by omega) (by omega),brd (by omega)]
 by_cases h:s=0
 ·subst h
  have hx:Jq x:=hx.resolve_left (fun h=>h rfl)
  have e1:aB .u64 x 0=x:=by
   show IntKind.wrap .u64 (x*2^0)=x
   rw [Int.pow_zero,Int.mul_one,cw x hx.1 hx.2]
  have e2:aJ .u64 x (64-0)=0:=by
   show x.fdiv (2^64)=0
   rw [Int.fdiv_eq_ediv_of_nonneg _ (by decide)]
   exact Int.ediv_eq_zero_of_lt hx.1 hx.2
  rw [e1,e2,a9a hx,if_pos rfl]
 ·rw [if_neg h]
abbrev g (l:List Int) (i:Int):Int:=l.getD i.toNat 0
def md:List Int:=[0,1,62,28,27,36,44,6,55,20,3,10,43,25,39,41,45,15,21,8,18,2,61,56,14]
theorem a6G: ∀k:Nat,k<25→0≤md.getD k 0∧md.getD k 0<64:=by decide
def p2 (m:List Int) (k:Nat) (l:List Int):List Int:=l.set ((k:Int)%5).toNat (xo (g l ((k:Int)%5)) (g m k))
def p3 (m c:List Int) (k:Nat) (l:List Int):List Int:=
 l.set ((k:Int)/5+5*((2*((k:Int)%5)+3*((k:Int)/5))%5)).toNat (rot (xo (g m k) (xo (g c (((k:Int)%5+4)%5)) (rot (g c (((k:Int)%5+1)%5)) 1))) (g md k))
def p4 (b:List Int) (k:Nat) (l:List Int):List Int:=
 l.set k (xo (g b k) (La .u64 (g b ((k:Int)-(k:Int)%5+((k:Int)%5+2)%5)) (g b ((k:Int)-(k:Int)%5+((k:Int)%5+1)%5))))
def q2 (m:List Int) (k:Nat) (l:List Int):List Int:=l.set k (xo (xo (xo (xo (g m k) (g m ((k:Int)+5))) (g m ((k:Int)+10))) (g m ((k:Int)+15))) (g m ((k:Int)+20)))
def q3 (c:List Int) (k:Nat) (l:List Int):List Int:=l.set k (xo (g l k) (xo (g c (((k:Int)+4)%5)) (rot (g c (((k:Int)+1)%5)) 1)))
def q5 (m:List Int) (x:Int) (y:Nat) (l:List Int):List Int:=l.set ((y:Int)+5*((2*x+3*(y:Int))%5)).toNat (rot (g m (x+5*(y:Int))) (g md (x+5*(y:Int))))
def q4 (m:List Int) (x:Nat) (l:List Int):List Int:=iU (q5 m x) 5 l
def q7 (b:List Int) (x:Int) (y:Nat) (l:List Int):List Int:=l.set (x+5*(y:Int)).toNat (xo (g b (x+5*(y:Int))) (bp .u64 (bM .u64 (g b ((x+1)%5+5*(y:Int)))) (g b ((x+2)%5+5*(y:Int)))))
def q6 (b:List Int) (x:Nat) (l:List Int):List Int:=iU (q7 b x) 5 l
theorem a5T (m:List Int) (k:Nat) (l:List Int):(iU (p2 m) k l).length=l.length:=pP (fun _ _=>List.length_set) k l
theorem Sv (m c:List Int) (k:Nat) (l:List Int):(iU (p3 m c) k l).length=l.length:=pP (fun _ _=>List.length_set) k l
theorem Sl (b:List Int) (k:Nat) (l:List Int):(iU (p4 b) k l).length=l.length:=pP (fun _ _=>List.length_set) k l
theorem YQ (m:List Int) (k:Nat) (l:List Int):(iU (q2 m) k l).length=l.length:=pP (fun _ _=>List.length_set) k l
theorem Kr (c:List Int) (k:Nat) (l:List Int):(iU (q3 c) k l).length=l.length:=pP (fun _ _=>List.length_set) k l
theorem a6T (m:List Int) (x:Int) (k:Nat) (l:List Int):(iU (q5 m x) k l).length=l.length:=pP (fun _ _=>List.length_set) k l
theorem a3u (m:List Int) (x:Int) (k:Nat) (l:List Int):(iU (q7 m x) k l).length=l.length:=pP (fun _ _=>List.length_set) k l
theorem YG (m:List Int) (k:Nat) (l:List Int):(iU (q4 m) k l).length=l.length:=pP (fun x l=>a6T m x 5 l) k l
theorem a6z (m:List Int) (k:Nat) (l:List Int):(iU (q6 m) k l).length=l.length:=pP (fun x l=>a3u m x 5 l) k l
theorem a9s {m5 m6 m7 m9 t4:List Int} {t3 t5:Int} (h:m5.length=25):Loop (dB m5 m6 m7 m9 t3 t4 t5) (nZ 5,0)=some (iU (p2 m5) 25 (nZ 5),25,false):=
 au (fun k=>(iU (p2 m5) k (nZ 5),(k:Int))) 25 (fun k hk=>by
  have hl:=a5T m5 k (nZ 5)
  rw [jJ] at hl
  simp only [dB]
  simp (disch:=omega) only [brd,cm,zQ,dO,ab]
  simp only [iU,p2,Int.toNat_natCast,gp]
  rfl) (by
  simp (disch:=omega) only [dB,brn];rfl)
theorem b0E {m5 m6 m7 m8:List Int} {t2:Int} (h:m5.length=25):Loop (fb m5 m6 m7 m8 t2) (nZ 5,0)=some (iU (q2 m5) 5 (nZ 5),5,false):=
 au (fun k=>(iU (q2 m5) k (nZ 5),(k:Int))) 5 (fun k hk=>by
  have hl:=YQ m5 k (nZ 5)
  rw [jJ] at hl
  simp only [fb]
  simp (disch:=omega) only [brd,cm,zQ,dO,ab]
  simp only [iU,q2,Int.toNat_natCast,gp]
  rfl) (by
  simp (disch:=omega) only [fb,brn];rfl)
theorem UE (k:Nat) (hk:k<25):0≤md.getD k 0∧md.getD k 0<64:=a6G k hk
theorem Hi:md.length=25:=rfl
theorem b0T {m10 m12 c t8:List Int} {t7 t9:Int} (h:m10.length=25) (hc:c.length=5):Loop (dy m10 md m12 c t7 t8 t9) (nZ 25,0)=some (iU (p3 m10 c) 25 (nZ 25),25,false):=
 au (fun k=>(iU (p3 m10 c) k (nZ 25),(k:Int))) 25 (fun k hk=>by
  have hl:=Sv m10 c k (nZ 25)
  rw [jJ] at hl
  have hs:=UE k hk
  have hs1:=Hi
  simp only [dy]
  simp (disch:=omega) only [brd,cm,km,zQ,dO,ab]
  rw [a0c ⟨by decide,by decide⟩ (.inl (by decide))]
  simp only [obs]
  simp only [Int.toNat_natCast]
  rw [a0c hs (.inr (b3G _ _))]
  simp only [obs]
  rfl) (by
  simp (disch:=omega) only [dy,brn];rfl)
theorem a7V {m16 m17 m18 b t12:List Int} {t11 t13:Int} {m:List Int} (h:m.length=25) (hb:b.length=25):Loop (dz m16 m17 m18 b t11 t12 t13 b) (m,0)=some (iU (p4 b) 25 m,25,false):=
 au (fun k=>(iU (p4 b) k m,(k:Int))) 25 (fun k hk=>by
  have hl:=Sl b k m
  simp only [dz]
  simp (disch:=omega) only [brd,cm,km,zQ,dO,ab]
  rfl) (by
  simp (disch:=omega) only [dz,brn];rfl)
theorem b0N {m11 m12 m13 c m:List Int} {t4:Int} (h:m.length=25) (hc:c.length=5):Loop (f6 m11 m12 m13 c t4) (m,0)=some (iU (q3 c) 25 m,25,false):=
 au (fun k=>(iU (q3 c) k m,(k:Int))) 25 (fun k hk=>by
  have hl:=Kr c k m
  simp only [f6]
  simp (disch:=omega) only [brd,cm,km,zQ,dO,ab]
  rw [ZR ⟨by decide,by decide⟩]
  simp only [obs]
  rfl) (by
  simp (disch:=omega) only [f6,brn];rfl)
theorem a8u {a m22 m23 m25 m:List Int} {t8:Int} {x:Nat} (hx:x<5) (h:m.length=25) (ha:a.length=25):Loop (fc a m22 m23 md m25 t8 x) (m,0)=some (iU (q5 a x) 5 m,5,false):=
 au (fun k=>(iU (q5 a x) k m,(k:Int))) 5 (fun k hk=>by
  have hl:=a6T a x k m
  have hs:=UE ((x:Int)+5*(k:Int)).toNat (by omega)
  have hs1:=Hi
  simp only [fc]
  simp (disch:=omega) only [brd,cm,km,zQ,dO,ab]
  rw [ZR hs]
  simp only [obs]
  rfl) (by
  simp (disch:=omega) only [fc,brn];rfl)
theorem a8z {a m16 m17 m19 m:List Int} {t6:Int} (h:m.length=25) (ha:a.length=25):Loop (fi a m16 m17 md m19 t6) (m,0)=some (iU (q4 a) 5 m,5,false):=
 au (fun k=>(iU (q4 a) k m,(k:Int))) 5 (fun k hk=>by
  have hl:=YG a k m
  simp only [fi]
  rw [brd (by omega),a8u hk (by omega) ha,obs,ab _ (by omega) (by omega)]
  rfl) (by
  simp (disch:=omega) only [fi,brn];rfl)
theorem b1j {m34 m35 m36 m37 b m:List Int} {t13:Int} {x:Nat} (hx:x<5) (h:m.length=25) (hb:b.length=25):Loop (f8 m34 m35 m36 m37 b t13 x) (m,0)=some (iU (q7 b x) 5 m,5,false):=
 au (fun k=>(iU (q7 b x) k m,(k:Int))) 5 (fun k hk=>by
  have hl:=a3u b x k m
  simp only [f8]
  simp (disch:=omega) only [brd,cm,km,zQ,dO,ab]
  rfl) (by
  simp (disch:=omega) only [f8,brn];rfl)
theorem a9d {m28 m29 m30 m31 b m:List Int} {t11:Int} (h:m.length=25) (hb:b.length=25):Loop (fe m28 m29 m30 m31 b t11) (m,0)=some (iU (q6 b) 5 m,5,false):=
 au (fun k=>(iU (q6 b) k m,(k:Int))) 5 (fun k hk=>by
  have hl:=a6z b k m
  simp only [fe]
  rw [brd (by omega),b1j hk (by omega) hb,obs,ab _ (by omega) (by omega)]
  rfl) (by
  simp (disch:=omega) only [fe,brn];rfl)
def xJ (m:List Int) (rc:Int):List Int:=
 let c:=iU (p2 m) 25 (nZ 5)
 let b:=iU (p3 m c) 25 (nZ 25)
 let r:=iU (p4 b) 25 m
 r.set 0 (xo (r.getD 0 0) rc)
def Y9 (m:List Int) (rc:Int):List Int:=
 let c:=iU (q2 m) 5 (nZ 5)
 let a:=iU (q3 c) 25 m
 let b:=iU (q4 a) 5 (nZ 25)
 let r:=iU (q6 b) 5 a
 r.set 0 (xo (r.getD 0 0) rc)
end Go.AI.Fn
set_option linter.unusedVariables false
set_option linter.unusedSimpArgs false
namespace Go.AI.Fn
theorem bF {l:List Int} {n:Nat} (h:l.length=n+1): ∃a r,l=a::r∧r.length=n:=by
 cases l with
 |nil=>simp at h
 |cons a r=>exact ⟨a,r,rfl,by simpa using h⟩
theorem a9p {l:List Int} (h:l.length=0):l=[]:=List.eq_nil_of_length_eq_zero h
theorem VS {l:List Int} (h:l.length=25): ∃a0 a1 a2 a3 a4 a5 a6 a7 a8 a9 a10 a11 a12 a13 a14 a15 a16 a17 a18 a19 a20 a21 a22 a23 a24,l=[a0,a1,a2,a3,a4,a5,a6,a7,a8,a9,a10,a11,a12,a13,a14,a15,a16,a17,a18,a19,a20,a21,a22,a23,a24]:=by
 obtain ⟨a0,r0,rfl,h0⟩:=bF h
 obtain ⟨a1,r1,rfl,h1⟩:=bF h0
 obtain ⟨a2,r2,rfl,h2⟩:=bF h1
 obtain ⟨a3,r3,rfl,h3⟩:=bF h2
 obtain ⟨a4,r4,rfl,h4⟩:=bF h3
 obtain ⟨a5,r5,rfl,h5⟩:=bF h4
 obtain ⟨a6,r6,rfl,h6⟩:=bF h5
 obtain ⟨a7,r7,rfl,h7⟩:=bF h6
 obtain ⟨a8,r8,rfl,h8⟩:=bF h7
 obtain ⟨a9,r9,rfl,h9⟩:=bF h8
 obtain ⟨a10,r10,rfl,h10⟩:=bF h9
 obtain ⟨a11,r11,rfl,h11⟩:=bF h10
 obtain ⟨a12,r12,rfl,h12⟩:=bF h11
 obtain ⟨a13,r13,rfl,h13⟩:=bF h12
 obtain ⟨a14,r14,rfl,h14⟩:=bF h13
 obtain ⟨a15,r15,rfl,h15⟩:=bF h14
 obtain ⟨a16,r16,rfl,h16⟩:=bF h15
 obtain ⟨a17,r17,rfl,h17⟩:=bF h16
 obtain ⟨a18,r18,rfl,h18⟩:=bF h17
 obtain ⟨a19,r19,rfl,h19⟩:=bF h18
 obtain ⟨a20,r20,rfl,h20⟩:=bF h19
 obtain ⟨a21,r21,rfl,h21⟩:=bF h20
 obtain ⟨a22,r22,rfl,h22⟩:=bF h21
 obtain ⟨a23,r23,rfl,h23⟩:=bF h22
 obtain ⟨a24,r24,rfl,h24⟩:=bF h23
 obtain rfl:=a9p h24
 exact ⟨_,_,_,_,_,_,_,_,_,_,_,_,_,_,_,_,_,_,_,_,_,_,_,_,_,rfl⟩
def hK (m:List Int):Prop:=m.length=25∧ ∀x∈m,Jq x
def cs (m:List Int):List Int:=iU (q2 m) 5 (nZ 5)
theorem a9M {m:List Int} (h:hK m):iU (p2 m) 25 (nZ 5)=cs m:=by
 obtain ⟨hl,hb⟩:=h
 obtain ⟨a0,a1,a2,a3,a4,a5,a6,a7,a8,a9,a10,a11,a12,a13,a14,a15,a16,a17,a18,a19,a20,a21,a22,a23,a24,rfl⟩:=VS hl
 have e0:=Ea (hb a0 (by simp))
 have e1:=Ea (hb a1 (by simp))
 have e2:=Ea (hb a2 (by simp))
 have e3:=Ea (hb a3 (by simp))
 have e4:=Ea (hb a4 (by simp))
 have k:iU (p2 [a0,a1,a2,a3,a4,a5,a6,a7,a8,a9,a10,a11,a12,a13,a14,a15,a16,a17,a18,a19,a20,a21,a22,a23,a24]) 25 (nZ 5)=[xo (xo (xo (xo (xo 0 a0) a5) a10) a15) a20,xo (xo (xo (xo (xo 0 a1) a6) a11) a16) a21,xo (xo (xo (xo (xo 0 a2) a7) a12) a17) a22,xo (xo (xo (xo (xo 0 a3) a8) a13) a18) a23,xo (xo (xo (xo (xo 0 a4) a9) a14) a19) a24]:=by kernel_rfl
 have k2:cs [a0,a1,a2,a3,a4,a5,a6,a7,a8,a9,a10,a11,a12,a13,a14,a15,a16,a17,a18,a19,a20,a21,a22,a23,a24]=
  [xo (xo (xo (xo a0 a5) a10) a15) a20,xo (xo (xo (xo a1 a6) a11) a16) a21,xo (xo (xo (xo a2 a7) a12) a17) a22,xo (xo (xo (xo a3 a8) a13) a18) a23,xo (xo (xo (xo a4 a9) a14) a19) a24]:=by kernel_rfl
 rw [k,k2,e0,e1,e2,e3,e4]
theorem a8n {c:List Int} (a0 a1 a2 a3 a4 a5 a6 a7 a8 a9 a10 a11 a12 a13 a14 a15 a16 a17 a18 a19 a20 a21 a22 a23 a24:Int):iU (p3 [a0,a1,a2,a3,a4,a5,a6,a7,a8,a9,a10,a11,a12,a13,a14,a15,a16,a17,a18,a19,a20,a21,a22,a23,a24] c) 25 (nZ 25)=[rot (xo a0 (xo (g c 4) (rot (g c 1) 1))) 0,rot (xo a6 (xo (g c 0) (rot (g c 2) 1))) 44,rot (xo a12 (xo (g c 1) (rot (g c 3) 1))) 43,rot (xo a18 (xo (g c 2) (rot (g c 4) 1))) 21,rot (xo a24 (xo (g c 3) (rot (g c 0) 1))) 14,rot (xo a3 (xo (g c 2) (rot (g c 4) 1))) 28,rot (xo a9 (xo (g c 3) (rot (g c 0) 1))) 20,rot (xo a10 (xo (g c 4) (rot (g c 1) 1))) 3,rot (xo a16 (xo (g c 0) (rot (g c 2) 1))) 45,rot (xo a22 (xo (g c 1) (rot (g c 3) 1))) 61,rot (xo a1 (xo (g c 0) (rot (g c 2) 1))) 1,rot (xo a7 (xo (g c 1) (rot (g c 3) 1))) 6,rot (xo a13 (xo (g c 2) (rot (g c 4) 1))) 25,rot (xo a19 (xo (g c 3) (rot (g c 0) 1))) 8,rot (xo a20 (xo (g c 4) (rot (g c 1) 1))) 18,rot (xo a4 (xo (g c 3) (rot (g c 0) 1))) 27,rot (xo a5 (xo (g c 4) (rot (g c 1) 1))) 36,rot (xo a11 (xo (g c 0) (rot (g c 2) 1))) 10,rot (xo a17 (xo (g c 1) (rot (g c 3) 1))) 15,rot (xo a23 (xo (g c 2) (rot (g c 4) 1))) 56,rot (xo a2 (xo (g c 1) (rot (g c 3) 1))) 62,rot (xo a8 (xo (g c 2) (rot (g c 4) 1))) 55,rot (xo a14 (xo (g c 3) (rot (g c 0) 1))) 39,rot (xo a15 (xo (g c 4) (rot (g c 1) 1))) 41,rot (xo a21 (xo (g c 0) (rot (g c 2) 1))) 2]:=by kernel_rfl
theorem b0o {c:List Int} (a0 a1 a2 a3 a4 a5 a6 a7 a8 a9 a10 a11 a12 a13 a14 a15 a16 a17 a18 a19 a20 a21 a22 a23 a24:Int):iU (q3 c) 25 [a0,a1,a2,a3,a4,a5,a6,a7,a8,a9,a10,a11,a12,a13,a14,a15,a16,a17,a18,a19,a20,a21,a22,a23,a24]=[xo a0 (xo (g c 4) (rot (g c 1) 1)),xo a1 (xo (g c 0) (rot (g c 2) 1)),xo a2 (xo (g c 1) (rot (g c 3) 1)),xo a3 (xo (g c 2) (rot (g c 4) 1)),xo a4 (xo (g c 3) (rot (g c 0) 1)),xo a5 (xo (g c 4) (rot (g c 1) 1)),xo a6 (xo (g c 0) (rot (g c 2) 1)),xo a7 (xo (g c 1) (rot (g c 3) 1)),xo a8 (xo (g c 2) (rot (g c 4) 1)),xo a9 (xo (g c 3) (rot (g c 0) 1)),xo a10 (xo (g c 4) (rot (g c 1) 1)),xo a11 (xo (g c 0) (rot (g c 2) 1)),xo a12 (xo (g c 1) (rot (g c 3) 1)),xo a13 (xo (g c 2) (rot (g c 4) 1)),xo a14 (xo (g c 3) (rot (g c 0) 1)),xo a15 (xo (g c 4) (rot (g c 1) 1)),xo a16 (xo (g c 0) (rot (g c 2) 1)),xo a17 (xo (g c 1) (rot (g c 3) 1)),xo a18 (xo (g c 2) (rot (g c 4) 1)),xo a19 (xo (g c 3) (rot (g c 0) 1)),xo a20 (xo (g c 4) (rot (g c 1) 1)),xo a21 (xo (g c 0) (rot (g c 2) 1)),xo a22 (xo (g c 1) (rot (g c 3) 1)),xo a23 (xo (g c 2) (rot (g c 4) 1)),xo a24 (xo (g c 3) (rot (g c 0) 1))]:=by kernel_rfl
theorem a8p (a0 a1 a2 a3 a4 a5 a6 a7 a8 a9 a10 a11 a12 a13 a14 a15 a16 a17 a18 a19 a20 a21 a22 a23 a24:Int):iU (q4 [a0,a1,a2,a3,a4,a5,a6,a7,a8,a9,a10,a11,a12,a13,a14,a15,a16,a17,a18,a19,a20,a21,a22,a23,a24]) 5 (nZ 25)=[rot a0 0,rot a6 44,rot a12 43,rot a18 21,rot a24 14,rot a3 28,rot a9 20,rot a10 3,rot a16 45,rot a22 61,rot a1 1,rot a7 6,rot a13 25,rot a19 8,rot a20 18,rot a4 27,rot a5 36,rot a11 10,rot a17 15,rot a23 56,rot a2 62,rot a8 55,rot a14 39,rot a15 41,rot a21 2]:=by kernel_rfl
theorem a5E {m c:List Int} (hm:m.length=25):iU (p3 m c) 25 (nZ 25)=iU (q4 (iU (q3 c) 25 m)) 5 (nZ 25):=by
 obtain ⟨a0,a1,a2,a3,a4,a5,a6,a7,a8,a9,a10,a11,a12,a13,a14,a15,a16,a17,a18,a19,a20,a21,a22,a23,a24,rfl⟩:=VS hm
 rw [a8n,b0o,a8p]
def p4' (b:List Int) (k:Nat) (l:List Int):List Int:=l.set k (xo (g b k) (bp .u64 (bM .u64 (g b ((k:Int)-(k:Int)%5+((k:Int)%5+1)%5))) (g b ((k:Int)-(k:Int)%5+((k:Int)%5+2)%5))))
theorem b6r (b:List Int):p4 b=p4' b:=by funext k l;unfold p4 p4';rw [a9i]
theorem a8X (a0 a1 a2 a3 a4 a5 a6 a7 a8 a9 a10 a11 a12 a13 a14 a15 a16 a17 a18 a19 a20 a21 a22 a23 a24 b0 b1 b2 b3 b4 b5 b6 b7 b8 b9 b10 b11 b12 b13 b14 b15 b16 b17 b18 b19 b20 b21 b22 b23 b24:Int):iU (p4' [a0,a1,a2,a3,a4,a5,a6,a7,a8,a9,a10,a11,a12,a13,a14,a15,a16,a17,a18,a19,a20,a21,a22,a23,a24]) 25 [b0,b1,b2,b3,b4,b5,b6,b7,b8,b9,b10,b11,b12,b13,b14,b15,b16,b17,b18,b19,b20,b21,b22,b23,b24]=[xo a0 (bp .u64 (bM .u64 a1) a2),xo a1 (bp .u64 (bM .u64 a2) a3),xo a2 (bp .u64 (bM .u64 a3) a4),xo a3 (bp .u64 (bM .u64 a4) a0),xo a4 (bp .u64 (bM .u64 a0) a1),xo a5 (bp .u64 (bM .u64 a6) a7),xo a6 (bp .u64 (bM .u64 a7) a8),xo a7 (bp .u64 (bM .u64 a8) a9),xo a8 (bp .u64 (bM .u64 a9) a5),xo a9 (bp .u64 (bM .u64 a5) a6),xo a10 (bp .u64 (bM .u64 a11) a12),xo a11 (bp .u64 (bM .u64 a12) a13),xo a12 (bp .u64 (bM .u64 a13) a14),xo a13 (bp .u64 (bM .u64 a14) a10),xo a14 (bp .u64 (bM .u64 a10) a11),xo a15 (bp .u64 (bM .u64 a16) a17),xo a16 (bp .u64 (bM .u64 a17) a18),xo a17 (bp .u64 (bM .u64 a18) a19),xo a18 (bp .u64 (bM .u64 a19) a15),xo a19 (bp .u64 (bM .u64 a15) a16),xo a20 (bp .u64 (bM .u64 a21) a22),xo a21 (bp .u64 (bM .u64 a22) a23),xo a22 (bp .u64 (bM .u64 a23) a24),xo a23 (bp .u64 (bM .u64 a24) a20),xo a24 (bp .u64 (bM .u64 a20) a21)]:=by kernel_rfl
theorem a8H (a0 a1 a2 a3 a4 a5 a6 a7 a8 a9 a10 a11 a12 a13 a14 a15 a16 a17 a18 a19 a20 a21 a22 a23 a24 b0 b1 b2 b3 b4 b5 b6 b7 b8 b9 b10 b11 b12 b13 b14 b15 b16 b17 b18 b19 b20 b21 b22 b23 b24:Int):iU (q6 [a0,a1,a2,a3,a4,a5,a6,a7,a8,a9,a10,a11,a12,a13,a14,a15,a16,a17,a18,a19,a20,a21,a22,a23,a24]) 5 [b0,b1,b2,b3,b4,b5,b6,b7,b8,b9,b10,b11,b12,b13,b14,b15,b16,b17,b18,b19,b20,b21,b22,b23,b24]=[xo a0 (bp .u64 (bM .u64 a1) a2),xo a1 (bp .u64 (bM .u64 a2) a3),xo a2 (bp .u64 (bM .u64 a3) a4),xo a3 (bp .u64 (bM .u64 a4) a0),xo a4 (bp .u64 (bM .u64 a0) a1),xo a5 (bp .u64 (bM .u64 a6) a7),xo a6 (bp .u64 (bM .u64 a7) a8),xo a7 (bp .u64 (bM .u64 a8) a9),xo a8 (bp .u64 (bM .u64 a9) a5),xo a9 (bp .u64 (bM .u64 a5) a6),xo a10 (bp .u64 (bM .u64 a11) a12),xo a11 (bp .u64 (bM .u64 a12) a13),xo a12 (bp .u64 (bM .u64 a13) a14),xo a13 (bp .u64 (bM .u64 a14) a10),xo a14 (bp .u64 (bM .u64 a10) a11),xo a15 (bp .u64 (bM .u64 a16) a17),xo a16 (bp .u64 (bM .u64 a17) a18),xo a17 (bp .u64 (bM .u64 a18) a19),xo a18 (bp .u64 (bM .u64 a19) a15),xo a19 (bp .u64 (bM .u64 a15) a16),xo a20 (bp .u64 (bM .u64 a21) a22),xo a21 (bp .u64 (bM .u64 a22) a23),xo a22 (bp .u64 (bM .u64 a23) a24),xo a23 (bp .u64 (bM .u64 a24) a20),xo a24 (bp .u64 (bM .u64 a20) a21)]:=by kernel_rfl
theorem a7S {b m a:List Int} (hb:b.length=25) (hm:m.length=25) (ha:a.length=25):iU (p4 b) 25 m=iU (q6 b) 5 a:=by
 rw [b6r]
 obtain ⟨a0,a1,a2,a3,a4,a5,a6,a7,a8,a9,a10,a11,a12,a13,a14,a15,a16,a17,a18,a19,a20,a21,a22,a23,a24,rfl⟩:=VS hb
 obtain ⟨b0,b1,b2,b3,b4,b5,b6,b7,b8,b9,b10,b11,b12,b13,b14,b15,b16,b17,b18,b19,b20,b21,b22,b23,b24,rfl⟩:=VS hm
 obtain ⟨c0,c1,c2,c3,c4,c5,c6,c7,c8,c9,c10,c11,c12,c13,c14,c15,c16,c17,c18,c19,c20,c21,c22,c23,c24,rfl⟩:=VS ha
 rw [a8X,a8H]
theorem a4P {m:List Int} {rc:Int} (h:hK m):xJ m rc=Y9 m rc:=by
 unfold xJ Y9
 dsimp only
 have h1:=a9M h
 unfold cs at h1
 rw [h1]
 have hc:(iU (q2 m) 5 (nZ 5)).length=5:=by rw [YQ,jJ]
 have ha:(iU (q3 (iU (q2 m) 5 (nZ 5))) 25 m).length=25:=by rw [Kr];exact h.1
 rw [a5E h.1]
 rw [a7S (a:=iU (q3 (iU (q2 m) 5 (nZ 5))) 25 m) (by rw [YG,jJ]) h.1 ha]
theorem a67 {m:List Int} {rc:Int} (h:hK m):hK (xJ m rc):=by
 have hl:(xJ m rc).length=25:=by
  unfold xJ;dsimp only;rw [List.length_set,Sl];exact h.1
 refine ⟨hl, ?_⟩
 unfold xJ
 dsimp only
 have hb:(iU (p3 m (iU (p2 m) 25 (nZ 5))) 25 (nZ 25)).length=25:=by rw [Sv,jJ]
 generalize iU (p3 m (iU (p2 m) 25 (nZ 5))) 25 (nZ 25)=b at hb
 have key: ∀k,k≤25→ ∀i,i<k→ ∀hi:i<(iU (p4 b) k m).length,Jq (iU (p4 b) k m)[i]:=by
  intro k
  induction k with
  |zero=>intro _ i hi;omega
  |succ k ih=>
   intro hk i hi hlen
   simp only [iU,p4]
   rw [List.getElem_set]
   split
   ·exact b3G _ _
   ·exact ih (by omega) i (by omega) (by simpa [iU,p4] using hlen)
 intro x hx
 rcases List.mem_or_eq_of_mem_set hx with h1|h1
 ·obtain ⟨i,hi,rfl⟩:=List.getElem_of_mem h1
  exact key 25 (by omega) i (by rw [Sl] at hi;have:=h.1;omega) hi
 ·rw [h1];exact b3G _ _
end Go.AI.Fn
set_option linter.unusedVariables false
set_option linter.unusedSimpArgs false
set_option maxRecDepth 10000
namespace Go.AI.Fn
def rcL:List Int:=[1,32898,9223372036854808714,9223372039002292224,32907,2147483649,9223372039002292353,9223372036854808585,138,136,2147516425,2147483658,2147516555,9223372036854775947,9223372036854808713,9223372036854808579,9223372036854808578,9223372036854775936,32778,9223372039002259466,9223372039002292353,9223372036854808704,2147483649,9223372039002292232]
theorem b2j:[1,32898,9223372036854808714,9223372039002292224,32907,2147483649,9223372039002292353,9223372036854808585,138,136,2147516425,2147483658,2147516555,9223372036854775947,9223372036854808713,9223372036854808579,9223372036854808578,9223372036854775936,32778,9223372039002259466,9223372039002292353,9223372036854808704,2147483649,9223372039002292232]=rcL:=rfl
theorem a3e:[0,1,62,28,27,36,44,6,55,20,3,10,43,25,39,41,45,15,21,8,18,2,61,56,14]=md:=rfl
theorem Sq:rcL.length=24:=rfl
def rdP (k:Nat) (m:List Int):List Int:=xJ m (rcL.getD k 0)
def Lv (m:List Int):List Int:=iU rdP 24 m
theorem R1 (k:Nat) (m:List Int):iU rdP (k+1) m=xJ (iU rdP k m) (rcL.getD k 0):=by rw [iU,rdP]
theorem ZZ {m:List Int} (h:hK m): ∀k,hK (iU rdP k m)
 |0=>h
 |k+1=>by rw [R1];exact a67 (ZZ h k)
theorem SY {m:List Int} (h:hK m):hK (Lv m):=ZZ h 24
theorem Ss {m:List Int} (h:hK m):ic m=some (Lv m):=by
 unfold ic
 have key:Loop (dC md rcL rcL) (m,0)=some (Lv m,24,false):=
  au (fun k=>(iU rdP k m,(k:Int))) 24 (fun k hk=>by
   have h1:=ZZ h k
   have hl1:=h1.1
   have hr:=Sq
   simp only [dC]
   simp (disch:=omega) only [brd,zQ,dO,ab]
   rw [a9s h1.1,obs,b0T h1.1 (by rw [a5T,jJ]),obs,brd (by rw [Sv,jJ]),a7V h1.1 (by rw [Sv,jJ]),obs]
   have hl:=Sl (iU (p3 (iU rdP k m) (iU (p2 (iU rdP k m)) 25 (nZ 5))) 25 (nZ 25)) 25 (iU rdP k m)
   simp (disch:=omega) only [dO,brd]
   rw [R1]
   unfold xJ
   simp only [gp,Int.toNat_natCast]) (by simp (disch:=omega) only [dC,brn];rfl)
 rw [b2j,a3e,key,obs]
theorem SJ {m:List Int} (h:hK m):lD m=some (Lv m):=by
 unfold lD
 have key:Loop (f9 (nZ 25) rcL md) (m,0)=some (Lv m,24,false):=
  au (fun k=>(iU rdP k m,(k:Int))) 24 (fun k hk=>by
   have h1:=ZZ h k
   have hl1:=h1.1
   have hr:=Sq
   simp only [f9]
   rw [brd (by omega),b0E h1.1,obs,b0N h1.1 (by rw [YQ,jJ]),obs,a8z (jJ 25) (by rw [Kr];exact h1.1),obs,
    a9d (by rw [Kr];exact h1.1) (by rw [YG,jJ]),obs]
   have hl:=a6z (iU (q4 (iU (q3 (iU (q2 (iU rdP k m)) 5 (nZ 5))) 25 (iU rdP k m))) 5 (nZ 25)) 5 (iU (q3 (iU (q2 (iU rdP k m)) 5 (nZ 5))) 25 (iU rdP k m))
   rw [Kr] at hl
   simp (disch:=omega) only [dO,brd,zQ,ab]
   rw [R1,a4P h1]
   unfold Y9
   simp only [gp,Int.toNat_natCast]) (by simp (disch:=omega) only [f9,brn];rfl)
 have hp:=(SY h).1
 rw [brd h.1]
 show (some rcL).bind _=_
 rw [obs,brd Sq]
 show (some md).bind _=_
 rw [obs,brd Hi,key,obs,brd hp,brd hp,brd hp]
theorem TU {l:List UInt8} {k:Nat} (h:k<l.length):atL l (k:Int)=some (l.getD k 0):=by simp [atL,h]
def lnS (t:List UInt8) (k:Nat) (l:List Int):List Int:=l.set ((k:Int)/8).toNat (vh .u64 (g l ((k:Int)/8)) (aB .u64 (IntKind.wrap .u64 ((t.getD k 0).toNat:Int)) (8*((k:Int)%8))))
def vB (t:List UInt8):List Int:=iU (lnS t) t.length (nZ 25)
theorem QT (t:List UInt8) (k:Nat) (l:List Int):(iU (lnS t) k l).length=l.length:=pP (fun _ _=>List.length_set) k l
theorem AN (t:List UInt8):hK (vB t):=by
 refine ⟨by rw [vB,QT,jJ], ?_⟩
 have key: ∀k, ∀x∈iU (lnS t) k (nZ 25),Jq x:=by
  intro k
  induction k with
  |zero=>intro x hx;simp only [iU,nZ,List.mem_replicate] at hx;rw [hx.2];exact ⟨by decide,by decide⟩
  |succ k ih=>
   intro x hx
   rcases List.mem_or_eq_of_mem_set hx with h1|h1
   ·exact ih x h1
   ·rw [h1];exact Rq _
 exact key _
theorem RO {t:List UInt8} (h:t.length≤200):wu t=some (vB t):=by
 unfold wu
 have key:Loop (ii (nZ 25) t ((t.length:Nat):Int)) (nZ 25,0)=some (vB t,(t.length:Int),false):=
  au (fun k=>(iU (lnS t) k (nZ 25),(k:Int))) t.length (fun k hk=>by
   have hl:=QT t k (nZ 25)
   rw [jJ] at hl
   simp only [ii]
   simp (disch:=omega) only [brd,cm,km,zQ,dO,ab,TU,obs]
   rfl) (by simp (disch:=omega) only [ii,brn];simp;rfl)
 have hl:=(AN t).1
 rw [key,obs,brd hl,brd hl,brd hl]
theorem Xr {t:List UInt8} (h:t.length≤200):sE t=some (vB t):=by
 unfold sE
 have key:Loop (gE (nZ 25) t) (nZ 25,0)=some (vB t,(t.length:Int),false):=
  au (fun k=>(iU (lnS t) k (nZ 25),(k:Int))) t.length (fun k hk=>by
   have hl:=QT t k (nZ 25)
   rw [jJ] at hl
   simp only [gE]
   simp (disch:=omega) only [brd,cm,km,zQ,dO,ab,cw,TU,obs]
   rfl) (by simp (disch:=omega) only [gE,brn];simp;rfl)
 have hl:=(AN t).1
 rw [key,obs,brd hl,brd hl,brd hl]
def txB (m:List Int) (i:Nat):UInt8:=UInt8.ofInt (aJ .u64 (g m ((i:Int)/8)) (8*((i:Int)%8)))
def sR (m:List Int) (n:Nat):List UInt8:=(List.range n).map (txB m)
theorem Bb (m:List Int) (n:Nat):(sR m n).length=n:=by simp [sR]
theorem N7 (m:List Int) (n:Nat):sR m (n+1)=sR m n++[txB m n]:=by simp [sR,List.range_succ]
theorem a1B {m:List Int} (h:m.length=25):lE m=some (sR m 200,m):=by
 unfold lE
 have key:Loop (f7 m) ([],0)=some (sR m 200,200,false):=
  au (fun k=>(sR m k,(k:Int))) 200 (fun k hk=>by
   have hl:=Bb m k
   simp only [f7]
   simp (disch:=omega) only [brd,cm,km,zQ,dO,ab]
   rw [aA (by simp only [List.length_append,List.length_cons,List.length_nil];omega),N7]
   rfl) (by simp (disch:=omega) only [f7,brn];rfl)
 rw [key];rfl
theorem a0O {m:List Int} (h:m.length=25) {n:Nat} (hn:n≤200):wc m n=some (sR m n):=by
 unfold wc
 have key:Loop (ig m n) ([],0)=some (sR m n,(n:Int),false):=
  au (fun k=>(sR m k,(k:Int))) n (fun k hk=>by
   have hl:=Bb m k
   simp only [ig]
   simp (disch:=omega) only [brd,cm,km,zQ,dO,ab,cw]
   rw [aA (by simp only [List.length_append,List.length_cons,List.length_nil];omega),N7]
   rfl) (by simp (disch:=omega) only [ig,brn];simp)
 rw [brd h,key];rfl
end Go.AI.Fn
set_option linter.unusedVariables false
set_option linter.unusedSimpArgs false
namespace Go.AI.Fn
def xoS (t:List Int) (k:Nat) (l:List Int):List Int:=l.set k (xo (g l k) (g t k))
def a3c (t m:List Int):List Int:=iU (xoS t) 25 m
theorem TC (t:List Int) (k:Nat) (l:List Int):(iU (xoS t) k l).length=l.length:=pP (fun _ _=>List.length_set) k l
theorem XN {t m:List Int} (h:hK m):hK (a3c t m):=by
 refine ⟨by rw [a3c,TC];exact h.1, ?_⟩
 have key: ∀k, ∀x∈iU (xoS t) k m,Jq x:=by
  intro k
  induction k with
  |zero=>exact h.2
  |succ k ih=>
   intro x hx
   rcases List.mem_or_eq_of_mem_set hx with h1|h1
   ·exact ih x h1
   ·rw [h1];exact Rq _
 exact key _
theorem a5l {l5 a:List UInt8} {t m:List Int} (ht:t.length=25) (h:m.length=25):Loop (jr l5 a t) (m,0)=some (a3c t m,25,false):=
 au (fun k=>(iU (xoS t) k m,(k:Int))) 25 (fun k hk=>by
  have hl:=TC t k m
  simp only [jr]
  simp (disch:=omega) only [brd,zQ,dO,ab]
  rfl) (by simp (disch:=omega) only [jr,brn];rfl)
theorem a7D {l5 a:List UInt8} {p:Int} {t m:List Int} (ht:t.length=25) (h:m.length=25):Loop (ik l5 t a p) (m,0)=some (a3c t m,25,false):=
 au (fun k=>(iU (xoS t) k m,(k:Int))) 25 (fun k hk=>by
  have hl:=TC t k m
  simp only [ik]
  simp (disch:=omega) only [brd,zQ,dO,ab]
  rfl) (by simp (disch:=omega) only [ik,brn];rfl)
def b5i (a:List UInt8) (k:Nat) (m:List Int):List Int:=Lv (a3c (vB ((a.drop (136*k)).take 136)) m)
def Tn (a:List UInt8) (n:Nat):List Int:=iU (b5i a) n (nZ 25)
theorem b5T:hK (nZ 25):=⟨jJ 25,fun x hx=>by simp only [nZ,List.mem_replicate] at hx;rw [hx.2];exact ⟨by decide,by decide⟩⟩
theorem K7 (a:List UInt8) (n:Nat):Tn a (n+1)=Lv (a3c (vB ((a.drop (136*n)).take 136)) (Tn a n)):=by
 unfold Tn;rw [iU,b5i]
theorem MQ (a:List UInt8): ∀n,hK (Tn a n)
 |0=>b5T
 |n+1=>by rw [K7];exact SY (XN (MQ a n))
theorem a5K {l4 a:List UInt8} {n:Nat} (h:a.length=136*n) (hn:n≤1000000000):Loop (js l4) (nZ 25,a)=some (Tn a n,[],false):=
 au (fun k=>(Tn a k,a.drop (136*k))) n (fun k hk=>by
  have h1:=MQ a k
  have hx:=XN (t:=vB ((a.drop (136*k)).take 136)) h1
  simp only [js]
  rw [brd (by rw [List.length_drop];omega),ju (by omega) (by omega) (by rw [List.length_drop];omega),obs,ju (by omega) (by rw [List.length_drop];omega) (by omega)]
  have e1:(List.drop (Int.toNat 0) (List.drop (136*k) a)).take (Int.toNat 136-Int.toNat 0)=(a.drop (136*k)).take 136:=rfl
  have e2:(List.drop (Int.toNat 136) (List.drop (136*k) a)).take ((((List.drop (136*k) a).length:Nat):Int).toNat-Int.toNat 136)=a.drop (136*(k+1)):=by
   rw [List.drop_drop,List.take_of_length_le (by rw [List.length_drop,List.length_drop];simp;omega)]
   congr 1
  rw [e1,e2,RO (by rw [List.length_take];omega),obs,a5l (AN _).1 h1.1,obs,Ss hx,obs,obs,K7]) (by
  simp only [js]
  rw [brn (by rw [List.length_drop];omega),List.drop_eq_nil_of_le (by omega)]
  rfl)
theorem a7r {l3 a:List UInt8} {n:Nat} (h:a.length=136*n) (hn:n≤1000000000): ∃p,Loop (ij l3 a) (nZ 25,0)=some (Tn a n,p):=
 ⟨_,au (fun k=>(Tn a k,((136*k:Nat):Int))) n (fun k hk=>by
   have h1:=MQ a k
   have hx:=XN (t:=vB ((a.drop (136*k)).take 136)) h1
   simp only [ij]
   rw [brd (by omega),ab _ (by omega) (by omega),ju (by omega) (by omega) (by omega),obs]
   have e1:(List.drop (((136*k:Nat):Int)).toNat a).take (((((136*k:Nat):Int))+136).toNat-(((136*k:Nat):Int)).toNat)=(a.drop (136*k)).take 136:=by
    congr 1
    omega
   rw [e1,Xr (by rw [List.length_take];omega),obs,brd (AN _).1,a7D (AN _).1 h1.1,obs,brd hx.1,SJ hx,obs,zQ (SY hx).1 hx.1,K7]
   have e2:(((136*k:Nat):Int))+136=((136*(k+1):Nat):Int):=by omega
   rw [e2]) (by
   simp only [ij]
   rw [brn (by omega)])⟩
def EQ (l:List UInt8):List UInt8:=l++List.replicate ((136-l.length%136)%136) 0
theorem K9 (l:List UInt8):(EQ l).length=136*((l.length+135)/136):=by
 rw [EQ,List.length_append,List.length_replicate];omega
theorem Vu {α:Type} (n:Nat) (x:α):List.replicate (n+1) x=List.replicate n x++[x]:=by
 rw [List.replicate_succ']
theorem a7h {c l:List UInt8} (h:l.length≤1000000000):Loop (i4 c) l=some (EQ l,false):=by
 have key:=au (step:=i4 c) (e:=(EQ l,false)) (fun k=>l++List.replicate k 0) ((136-l.length%136)%136) (fun k hk=>by
  simp only [i4]
  rw [cm _ _ (by omega),brb (by rw [List.length_append,List.length_replicate];omega),aA (by simp only [List.length_append,List.length_replicate,List.length_cons,List.length_nil];omega),Vu,List.append_assoc]) (by
  simp only [i4]
  have e:((((l++List.replicate ((136-l.length%136)%136) (0:UInt8)).length:Nat):Int).tmod 136)=0:=by
   rw [cm _ _ (by omega),List.length_append,List.length_replicate];omega
  rw [e,cE rfl];rfl)
 rwa [List.replicate_zero,List.append_nil] at key
theorem a6v {c l:List UInt8} (h:l.length≤1000000000):Loop (g8 c) l=some (EQ l,false):=by
 have key:=au (step:=g8 c) (e:=(EQ l,false)) (fun k=>l++List.replicate k 0) ((136-l.length%136)%136) (fun k hk=>by
  simp only [g8]
  rw [cm _ _ (by omega),brb (by rw [List.length_append,List.length_replicate];omega),aA (by simp only [List.length_append,List.length_replicate,List.length_cons,List.length_nil];omega),Vu,List.append_assoc]) (by
  simp only [g8]
  have e:((((l++List.replicate ((136-l.length%136)%136) (0:UInt8)).length:Nat):Int).tmod 136)=0:=by
   rw [cm _ _ (by omega),List.length_append,List.length_replicate];omega
  rw [e,cE rfl];rfl)
 rwa [List.replicate_zero,List.append_nil] at key
def L3 (b:List UInt8):List UInt8:=(EQ (b++[1])).set ((EQ (b++[1])).length-1) (UInt8.ofInt (vh .u8 (((EQ (b++[1])).getD ((EQ (b++[1])).length-1) 0).toNat:Int) 128))
def H (b:List UInt8):List UInt8:=sR (Tn (L3 b) ((b.length+136)/136)) 32
theorem yC (b:List UInt8):(H b).length=32:=Bb _ _
theorem WV (b:List UInt8):(L3 b).length=136*((b.length+136)/136):=by
 rw [L3,List.length_set,K9,List.length_append,List.length_singleton]
theorem a7d {β:Type} {l:List UInt8} {i:Nat} {f:UInt8→Option β} (h:i<l.length):(l[i]?).bind f=f (l.getD i 0):=by simp [h]
theorem Xd (m:List Int):(sR m 200).take 32=sR m 32:=by
 rw [sR, ←List.map_take,List.take_range];rfl
theorem mQ {b:List UInt8} (h:b.length≤100000000):gK b=some (H b):=by
 unfold gK
 have hl:=K9 (b++[1])
 rw [List.length_append,List.length_singleton] at hl
 have hpl:=WV b
 rw [aA (by omega),aA (by rw [List.length_append,List.length_singleton];omega),a6v (by rw [List.length_append,List.length_singleton];omega),obs]
 dsimp only
 rw [ab _ (by omega) (by omega)]
 have ei:(((EQ (b++[1])).length:Int)-1).toNat=(EQ (b++[1])).length-1:=by omega
 rw [ei]
 simp (disch:=omega) only [brd,a7d]
 obtain ⟨p,hp⟩:=a7r (l3:=[1]) hpl (by omega)
 unfold L3 at hp
 rw [hp,obs]
 dsimp only
 have ok:=MQ (L3 b) ((b.length+136)/136)
 unfold L3 at ok
 rw [brd ok.1]
 have ht:=a0O (n:=32) ok.1 (by omega)
 rw [show ((32:Nat):Int)=32 from rfl] at ht
 rw [ht,obs,H,L3]
theorem UK {l:List (List UInt8)} (h:l.flatten.length≤1000000000) (hn:l.length≤1000000):Loop (jz l ((l.length:Nat):Int)) ([],0)=some (l.flatten,(l.length:Int),false):=
 au (fun k=>((l.take k).flatten,(k:Int))) l.length (fun k hk=>by
  simp only [jz]
  have h1:((l.take k).flatten++l[k]).length≤l.flatten.length:=by
   have e:l.flatten=(l.take (k+1)).flatten++(l.drop (k+1)).flatten:=by rw [←List.flatten_append,List.take_append_drop]
   rw [bX hk,List.flatten_append,List.flatten_singleton] at e
   have e2:=congrArg List.length e
   simp only [List.length_append] at e2 ⊢
   omega
  rw [brd (by omega),bH hk,obs,aA (by omega),ab _ (by omega) (by omega),bX hk,List.flatten_append,List.flatten_singleton]
  rfl) (by
  simp only [jz]
  rw [brn (by omega),List.take_length];simp)
theorem oT {l:List (List UInt8)} (h:l.flatten.length≤100000000) (hn:l.length≤1000000):lZ l=some (H l.flatten):=by
 unfold lZ
 rw [UK (by omega) hn,obs]
 dsimp only
 generalize l.flatten=b at h
 have hl:=K9 (b++[1])
 rw [List.length_append,List.length_singleton] at hl
 have hpl:=WV b
 rw [aA (by rw [List.length_append,List.length_singleton];omega),a7h (by rw [List.length_append,List.length_singleton];omega),obs]
 dsimp only
 rw [ab _ (by omega) (by omega)]
 have ei:(((EQ (b++[1])).length:Int)-1).toNat=(EQ (b++[1])).length-1:=by omega
 rw [ei]
 simp (disch:=omega) only [brd,a7d]
 have hp:=a5K (l4:=[1]) hpl (by omega)
 unfold L3 at hp
 rw [hp,obs]
 dsimp only
 have ok:=MQ (L3 b) ((b.length+136)/136)
 unfold L3 at ok
 rw [a1B ok.1,obs,ju (by omega) (by omega) (by rw [Bb];omega),obs,H,L3, ←Xd]
 rfl
theorem HR {t:List UInt8} (h:t.length≤100000000):wo t=some (H t):=by
 unfold wo
 rw [aA (by omega),oT (by simpa using h) (by simp)]
 simp
end Go.AI.Fn
set_option linter.unusedVariables false
namespace Go.AI.Fn
def dT (n:Int):List UInt8:=[UInt8.ofInt (aJ .i64 n 24),UInt8.ofInt (aJ .i64 n 16),UInt8.ofInt (aJ .i64 n 8),UInt8.ofInt n]
def e8 (x:Ext):List UInt8:=dT x.A++dT x.B
theorem bR (n:Int):(dT n).length=4:=rfl
theorem b4q (x:Ext):(e8 x).length=8:=rfl
theorem kT {n:Int} {l:List UInt8} (h:l.length≤1099511627770):gz n l=some (l++dT n):=by
 unfold gz
 rw [zR (JO (by simp only [List.length_append,List.length_cons,List.length_nil];omega))];rfl
theorem b6G (n:Int):aJ .i64 n 0=n:=by simp [aJ]
theorem uu (n:Int):de n 4=some (dT n):=by
 unfold de
 rw [show IntKind.wrap .i64 (4-1)=3 by decide,
  bG (s':=([UInt8.ofInt (aJ .i64 n 24)],2)) (by kernel_rfl),
  bG (s':=([UInt8.ofInt (aJ .i64 n 24),UInt8.ofInt (aJ .i64 n 16)],1)) (by kernel_rfl),
  bG (s':=([UInt8.ofInt (aJ .i64 n 24),UInt8.ofInt (aJ .i64 n 16),UInt8.ofInt (aJ .i64 n 8)],0)) (by kernel_rfl),
  bG (s':=([UInt8.ofInt (aJ .i64 n 24),UInt8.ofInt (aJ .i64 n 16),UInt8.ofInt (aJ .i64 n 8),UInt8.ofInt (aJ .i64 n 0)], -1)) (by kernel_rfl),
  bI (e:=([UInt8.ofInt (aJ .i64 n 24),UInt8.ofInt (aJ .i64 n 16),UInt8.ofInt (aJ .i64 n 8),UInt8.ofInt (aJ .i64 n 0)], -1,false)) (by kernel_rfl),b6G]
 rfl
theorem CB {l:List Ext} (hl:l.length≤4194304):mT l=some (l.flatMap e8):=by
 unfold mT
 have key:=lQ (step:=gF l ((l.length:Nat):Int))
  (fun s=>0≤s.2∧s.2≤l.length∧(s.1.length:Int)=8*s.2∧s.1++(l.drop s.2.toNat).flatMap e8=l.flatMap e8) (fun s=>(l.length-s.2).toNat)
  (fun e=>e.1=l.flatMap e8) ?_ ([],0) ⟨by first|omega| (dsimp only;omega),by first|omega| (dsimp only;omega),by simp,rfl⟩
 ·obtain ⟨e,he,h⟩:=key
  rw [he];simp only [obs,h]
 ·rintro ⟨o,t⟩ ⟨h0,h1,h3,h2⟩
  dsimp only at h0 h1 h2 h3
  by_cases c:t<(l.length:Int)
  ·left
   obtain ⟨x,r,e1,e2,e3⟩:=jn (l:=l) (i:=t.toNat) (by omega)
   simp only [gF]
   rw [brd c,Vs h0 e1]
   simp only [obs]
   rw [kT (by omega)]
   simp only [obs]
   rw [kT (by simp only [List.length_append,bR];omega),ab (t+1) (by omega) (by omega)]
   refine ⟨_,rfl,⟨by first|omega| (dsimp only;omega),by first|omega| (dsimp only;omega), ?_, ?_⟩,by first|omega| (dsimp only;omega)⟩
   ·simp only [List.length_append,bR];omega
   ·dsimp only
    rw [show (t+1).toNat=t.toNat+1 by omega,e2]
    rw [e1,List.flatMap_cons] at h2
    simpa [e8] using h2
  ·right
   simp only [gF]
   rw [brn c]
   refine ⟨_,rfl, ?_⟩
   rw [List.drop_eq_nil_of_le (by omega)] at h2
   simpa using h2
theorem L2 {l:List Ext} (hl:l.length≤4194304):np l=some (l.flatMap e8):=by
 unfold np
 have key:=lQ (step:=gx l)
  (fun s=>0≤s.2∧s.2≤l.length∧(s.1.length:Int)=8*s.2∧s.1++(l.drop s.2.toNat).flatMap e8=l.flatMap e8) (fun s=>(l.length-s.2).toNat)
  (fun e=>e.1=l.flatMap e8) ?_ ([],0) ⟨by first|omega| (dsimp only;omega),by first|omega| (dsimp only;omega),by simp,rfl⟩
 ·obtain ⟨e,he,h⟩:=key
  rw [he];simp only [obs,h]
 ·rintro ⟨o,t⟩ ⟨h0,h1,h3,h2⟩
  dsimp only at h0 h1 h2 h3
  by_cases c:t<(l.length:Int)
  ·left
   obtain ⟨x,r,e1,e2,e3⟩:=jn (l:=l) (i:=t.toNat) (by omega)
   simp only [gx]
   rw [brd c,Vs h0 e1]
   simp only [obs,uu]
   rw [zR (JO (by simp only [List.length_append,bR];omega)),zR (JO (by simp only [List.length_append,bR];omega)),ab (t+1) (by omega) (by omega)]
   refine ⟨_,rfl,⟨by first|omega| (dsimp only;omega),by first|omega| (dsimp only;omega), ?_, ?_⟩,by first|omega| (dsimp only;omega)⟩
   ·simp only [List.length_append,bR];omega
   ·dsimp only
    rw [show (t+1).toNat=t.toNat+1 by omega,e2]
    rw [e1,List.flatMap_cons] at h2
    simpa [e8] using h2
  ·right
   simp only [gx]
   rw [brn c]
   refine ⟨_,rfl, ?_⟩
   rw [List.drop_eq_nil_of_le (by omega)] at h2
   simpa using h2
end Go.AI.Fn
set_option linter.unusedVariables false
namespace Go.AI.Fn
def be (w x y z:UInt8):Int:=(((w.toNat:Int)*256+x.toNat)*256+y.toNat)*256+z.toNat
theorem b6Z {l:List UInt8} (h:8≤l.length): ∃a b c d e f g k r,l=a::b::c::d::e::f::g::k::r:=by
 match l,h with
 |a::b::c::d::e::f::g::k::r,_=>exact ⟨a,b,c,d,e,f,g,k,r,rfl⟩
theorem a9T {n:Int} (x:UInt8) (h0:0≤n) (h1:n<16777216):vh .i64 (aB .i64 n 8) (IntKind.wrap .i64 (x.toNat:Int))=n*256+x.toNat:=by
 have hx:=uv x
 have e1:aB .i64 n 8=n*256:=by
  have:n*2^(min (8:Int).toNat (IntKind.bits .i64))=n*256:=by
   have:(2:Int)^(min (8:Int).toNat (IntKind.bits .i64))=256:=by decide
   rw [this]
  unfold aB
  rw [this,ab _ (by omega) (by omega)]
 rw [e1,ab (x.toNat:Int) (by omega) (by omega)]
 unfold vh
 obtain ⟨m,rfl⟩:=Int.eq_ofNat_of_zero_le h0
 have e2:(BitVec.ofInt (IntKind.bits .i64) ((m:Int)*256)|||BitVec.ofInt (IntKind.bits .i64) (x.toNat:Int)).toNat=m*256+x.toNat:=by
  rw [BitVec.toNat_or,BitVec.toNat_ofInt,BitVec.toNat_ofInt]
  have b1:(((m:Int)*256)%((2^(IntKind.bits .i64):Nat):Int)).toNat=m<<<8:=by
   rw [show ((2^(IntKind.bits .i64):Nat):Int)=18446744073709551616 by decide,Nat.shiftLeft_eq];omega
  have b2:((x.toNat:Int)%((2^(IntKind.bits .i64):Nat):Int)).toNat=x.toNat:=by
   rw [show ((2^(IntKind.bits .i64):Nat):Int)=18446744073709551616 by decide];omega
  rw [b1,b2, ←Nat.shiftLeft_add_eq_or_of_lt (show x.toNat<2^8 by omega),Nat.shiftLeft_eq]
 rw [e2,ab _ (by omega) (by omega)]
 omega
theorem UZ (w x y z:UInt8):AC [w,x,y,z]=some (be w x y z):=by
 have hw:=uv w
 have hx:=uv x
 have hy:=uv y
 have hz:=uv z
 unfold AC
 have st: ∀(n t:Int) (b:UInt8),0≤n→n<16777216→0≤t→t<4→[w,x,y,z][t.toNat]? =some b→jd [w,x,y,z] (([w,x,y,z].length:Nat):Int) (n,t)=some (.inl (n*256+b.toNat,t+1)):=by
  intro n t b h0 h1 h2 h3 h4
  simp only [jd]
  rw [brd (by simp only [List.length_cons,List.length_nil];omega),show atL [w,x,y,z] t=some b by simp [atL,h2,h4]]
  simp only [obs]
  rw [a9T b h0 h1,ab (t+1) (by omega) (by omega)]
 rw [bG (st 0 0 w (by omega) (by omega) (by omega) (by omega) rfl),bG (st _ _ x (by omega) (by omega) (by omega) (by omega) rfl),bG (st _ _ y (by omega) (by omega) (by omega) (by omega) rfl),bG (st _ _ z (by omega) (by omega) (by omega) (by omega) rfl)]
 rw [bI (e:=(be w x y z,4,false)) ?_]
 ·rfl
 ·simp only [jd]
  rw [brn (by simp only [List.length_cons,List.length_nil];omega)]
  simp [be]
theorem b3M (n:Int) (k:Nat) (hk:k≤64) (h0:0≤n):aJ .i64 n (k:Int)=n/2^k:=by
 unfold aJ
 have:min ((k:Int).toNat) (IntKind.bits .i64)=k:=by simp [IntKind.bits];omega
 rw [this,Int.fdiv_eq_ediv_of_nonneg _ (by exact Int.pow_nonneg (by decide))]
end Go.AI.Fn
set_option linter.unusedVariables false
set_option linter.unusedSimpArgs false
namespace Go.AI.Fn
def a3U:List UInt8:=[97,98,115,111,114,98]
def Tl:List UInt8:=[100,114,97,119]
def Jw:List UInt8:=[103,114,105,110,100]
def RV (s:Source):Bool:=decide (s.Script.length≤64)&&(s.Script.all iq&&(decide (s.State.length=32)&&((decide (0≤s.At)&&decide (s.At≤1000000))&&(decide (0≤s.Count)&&decide (s.Count≤1000000)))))
structure Ai (s:Source):Prop where
 len:s.Script.length≤64
 scr:dH s.Script
 st:s.State.length=32
 a0:0≤s.At
 a1:s.At≤1000000
 c0:0≤s.Count
 c1:s.Count≤1000000
theorem Mn {s:Source}:RV s=true↔Ai s:=by
 unfold RV
 simp only [Bool.and_eq_true,decide_eq_true_eq,a8s]
 exact ⟨fun ⟨h1,h2,h3,⟨h4,h5⟩,h6,h7⟩=>⟨h1,h2,h3,h4,h5,h6,h7⟩,fun h=>⟨h.1,h.2,h.3,⟨h.4,h.5⟩,h.6,h.7⟩⟩
theorem u6 (h:List UInt8):oY h=some (decide (h.length=32)):=by
 unfold oY
 congr 1
 by_cases c:h.length=32
 ·rw [decide_eq_true c,c];rfl
 ·rw [decide_eq_false c];simp;omega
theorem OU {s:Source} (hl:s.Script.length≤1099511627776):tB s=some (RV s):=by
 unfold tB RV
 rw [Gm hl]
 by_cases h1:s.Script.length≤64
 ·rw [brd (by omega),decide_eq_true h1,obs,u6,Bf,Bf]
  cases s.Script.all iq
  ·rfl
  ·simp only [bz,obs,Bool.true_and]
   cases decide (s.State.length=32)
   ·rfl
   ·simp only [bz,Bool.true_and]
    cases (decide (0≤s.At)&&decide (s.At≤1000000))<;>rfl
 ·rw [brn (by omega),decide_eq_false h1];rfl
theorem PB {s:Source} (hl:s.Script.length≤1099511627776):sk s=some (RV s):=by
 unfold sk RV
 rw [iI hl]
 have e:(((s.State.length:Nat):Int)==32)=decide (s.State.length=32):=by
  by_cases c:s.State.length=32
  ·rw [decide_eq_true c,c];rfl
  ·rw [decide_eq_false c];simp;omega
 by_cases h1:s.Script.length≤64
 ·rw [brd (by omega),decide_eq_true h1,obs,FO,FO,e]
  cases s.Script.all iq
  ·rfl
  ·simp only [bz,obs,Bool.true_and]
   cases (decide (0≤s.At)&&decide (s.At≤1000000))
   ·simp [br]
   ·simp only [bz,Bool.true_and]
    cases decide (s.State.length=32)<;>rfl
 ·rw [brn (by omega),decide_eq_false h1];rfl
theorem Bv (n:Int):Ay n=some (dT n):=by
 unfold Ay;rw [aA (by simp only [List.length_cons,List.length_nil];omega)];rfl
theorem b6m {l:List UInt8} (h:4≤l.length):l.take 4=[l.getD 0 0,l.getD 1 0,l.getD 2 0,l.getD 3 0]:=by
 match l,h with
 |a::b::c::d::r,_=>rfl
theorem UF {n:Int} {k:Nat} (hk:k≤64) (h0:0≤n):(aJ .i64 n (k:Int)==0)=decide (n<2^k):=by
 rw [b3M n k hk h0]
 have hp:(0:Int)<2^k:=Int.pow_pos (by decide)
 by_cases h:n<2^k
 ·rw [decide_eq_true h,Int.ediv_eq_zero_of_lt h0 h];rfl
 ·rw [decide_eq_false h]
  have:1≤n/2^k:=(Int.le_ediv_iff_mul_le hp).2 (by omega)
  simp;omega
def LU (st:List UInt8) (bits:Nat) (nonce:Int):Bool:=decide (((H (st++(Jw++dT nonce))).getD 0 0).toNat*256+((H (st++(Jw++dT nonce))).getD 1 0).toNat<2^(16-bits))
theorem b1G: ∀b:Nat,b≤12→(2:Int)^(32-b)=65536*((2^(16-b):Nat):Int)∧(2:Int)^(16-b)=((2^(16-b):Nat):Int):=by decide
theorem a1c {s:Source} {bits:Nat} {nonce:Int} (hs:s.State.length=32) (hb:bits≤12):jX s bits nonce=some (LU s.State bits nonce):=by
 unfold jX
 have hf:[s.State,[103,114,105,110,100],dT nonce].flatten=s.State++(Jw++dT nonce):=by simp [Jw]
 have h4:(dT nonce).length=4:=bR nonce
 have h5:Jw.length=5:=rfl
 rw [aA (by omega),Bv,obs,oT (by rw [hf];simp only [List.length_append];omega) (by simp),obs,hf]
 have hl:=yC (s.State++(Jw++dT nonce))
 unfold LU
 generalize H (s.State++(Jw++dT nonce))=h at hl
 rw [aA (by omega),ju (by omega) (by omega) (by omega),obs]
 have e:(h.drop (Int.toNat 0)).take (Int.toNat 4-Int.toNat 0)=[h.getD 0 0,h.getD 1 0,h.getD 2 0,h.getD 3 0]:=by
  show h.take 4=_
  exact b6m (by omega)
 rw [e,UZ,obs,ab _ (by omega) (by omega),brd (by omega),show (32:Int)-(bits:Int)=((32-bits:Nat):Int) by omega]
 have b0:=uv (h.getD 0 0)
 have b1:=uv (h.getD 1 0)
 have b2:=uv (h.getD 2 0)
 have b3:=uv (h.getD 3 0)
 obtain ⟨g1,g2⟩:=b1G bits hb
 rw [UF (by omega) (by unfold be;omega),g1]
 congr 1
 have hiff:be (h.getD 0 0) (h.getD 1 0) (h.getD 2 0) (h.getD 3 0)<65536*((2^(16-bits):Nat):Int)↔(h.getD 0 0).toNat*256+(h.getD 1 0).toNat<2^(16-bits):=by
  unfold be;omega
 exact decide_eq_decide.2 hiff
theorem a3f {s:Source} {bits:Nat} {nonce:Int} (hs:s.State.length=32) (hb:bits≤12):wy s bits nonce=some (LU s.State bits nonce):=by
 unfold wy
 have hf:s.State++[103,114,105,110,100]++dT nonce=s.State++(Jw++dT nonce):=by simp [Jw]
 have h4:(dT nonce).length=4:=bR nonce
 have h5:Jw.length=5:=rfl
 rw [aA (by simp only [List.length_cons,List.length_nil];omega),uu,obs,aA (by simp only [List.length_append,List.length_cons,List.length_nil];omega),hf,mQ (by simp only [List.length_append];omega),obs]
 have hl:=yC (s.State++(Jw++dT nonce))
 unfold LU
 generalize H (s.State++(Jw++dT nonce))=h at hl
 have e0:atL h 0=some (h.getD 0 0):=TU (k:=0) (by omega)
 have e1:atL h 1=some (h.getD 1 0):=TU (k:=1) (by omega)
 have b0:=uv (h.getD 0 0)
 have b1:=uv (h.getD 1 0)
 rw [e0,obs,e1,obs]
 simp (disch:=omega) only [ab,cw]
 rw [brd (by omega),show (16:Int)-(bits:Int)=((16-bits:Nat):Int) by omega,UF (by omega) (by omega),(b1G bits hb).2]
 congr 1
 exact decide_eq_decide.2 (by omega)
end Go.AI.Fn
set_option linter.unusedVariables false
set_option linter.unusedSimpArgs false
namespace Go.AI.Fn
def tkM (s:Source) (t:List UInt8):Source:=⟨s.Script,s.At,H (s.State++(a3U++(dT t.length++t))),0⟩
theorem b4D {s:Source} (t:List UInt8) (h:Ai s):Ai (tkM s t):=⟨h.1,h.2,yC _,h.4,h.5,by simp [tkM],by simp [tkM]⟩
def beN (l:List UInt8):Int:=l.foldl (fun n c=>n*256+(c.toNat:Int)) 0
def a0F (l:List UInt8):Int:=beN l%2130706433
def oR (s:Source):Source×Ext:=
 if s.Script.length=0 then (⟨s.Script,s.At,s.State,s.Count+1⟩,⟨a0F ((H (s.State++(Tl++dT s.Count))).take 8),a0F (((H (s.State++(Tl++dT s.Count))).drop 8).take 8)⟩)
 else (⟨s.Script,s.At+1,s.State,s.Count⟩,s.Script.getD (s.At%(s.Script.length:Int)).toNat e0)
theorem ZB (l:List UInt8):okF (a0F l):=gT _
theorem UO {s:Source} (h:Ai s):okE (oR s).2:=by
 unfold oR
 split
 ·exact ⟨ZB _,ZB _⟩
 ·exact h.scr.getD _
theorem a2w {s:Source} (h:Ai s) (ha:s.At<1000000) (hc:s.Count<1000000):Ai (oR s).1:=by
 unfold oR
 split
 ·exact ⟨h.1,h.2,h.3,h.4,h.5,by have:=h.6;simp;omega,by simp;omega⟩
 ·exact ⟨h.1,h.2,h.3,by have:=h.4;simp;omega,by simp;omega,h.6,h.7⟩
theorem oH {s:Source} {t:List UInt8} (hs:s.State.length=32) (ht:t.length≤1000000):fS s t=some (tkM s t):=by
 unfold fS
 have h4:=bR ((t.length:Nat):Int)
 rw [aA (by simp only [List.length_cons,List.length_nil];omega),uu,obs,aA (by simp only [List.length_append,List.length_cons,List.length_nil];omega),
  aA (by simp only [List.length_append,List.length_cons,List.length_nil];omega),mQ (by simp only [List.length_append,List.length_cons,List.length_nil];omega),obs,tkM]
 simp [a3U]
theorem K5 (l:List UInt8) (c:UInt8):beN (l++[c])=beN l*256+(c.toNat:Int):=by simp [beN,List.foldl_append]
theorem K4 {t:List UInt8} (h:t.length=8):nl t=some (a0F t):=by
 unfold nl
 have key:Loop (gG t) (0,0)=some (a0F t,8,false):=
  au (fun k=>(beN (t.take k)%2130706433,(k:Int))) 8 (fun k hk=>by
   have hk':k<t.length:=by omega
   have hb:=uv t[k]
   have hm:0≤beN (t.take k)%2130706433∧beN (t.take k)%2130706433<2130706433:=by omega
   simp only [gG]
   rw [brd (by omega),bH hk',obs]
   simp (disch:=omega) only [ab,cm]
   rw [bX hk',K5,mX1];rfl) (by
   simp only [gG]
   rw [brn (by decide),List.take_of_length_le (by omega)];rfl)
 rw [key];rfl
theorem Qx {s:Source} (h:Ai s):lf s=some (oR s):=by
 have h1:=h.1
 have h3:=h.3
 have h4:=h.4
 have h5:=h.5
 have h6:=h.6
 have h7:=h.7
 unfold lf oR
 by_cases hl:s.Script.length=0
 ·have hf:=bR s.Count
  rw [brn (by omega),if_pos hl,aA (by simp only [List.length_cons,List.length_nil];omega),uu,obs,aA (by simp only [List.length_append,List.length_cons,List.length_nil];omega),mQ (by simp only [List.length_append,List.length_cons,List.length_nil];omega),obs]
  have e:s.State++[100,114,97,119]++dT s.Count=s.State++(Tl++dT s.Count):=by simp [Tl]
  rw [e]
  have hh:=yC (s.State++(Tl++dT s.Count))
  rw [ju (by omega) (by omega) (by omega),obs,K4 (by simp;omega),obs,ju (by omega) (by omega) (by omega),obs,K4 (by simp;omega),obs,ab _ (by omega) (by omega)]
  rfl
 ·have hr:=Int.emod_nonneg s.At (b:=(s.Script.length:Int)) (by omega)
  have hr2:=Int.emod_lt_of_pos s.At (b:=(s.Script.length:Int)) (by omega)
  rw [brd (by omega),if_neg hl,brd (by omega),cm _ _ h4,ab _ (by omega) (by omega)]
  have e:atL s.Script (s.At%(s.Script.length:Int))=some (s.Script.getD (s.At%(s.Script.length:Int)).toNat e0):=by
   have:=a0q (l:=s.Script) (k:=(s.At%(s.Script.length:Int)).toNat) (by omega)
   rwa [Int.toNat_of_nonneg hr] at this
  rw [e];rfl
structure Few (s:Source) (k:Int):Prop where
 ok:Ai s
 a:s.At≤k
 c:s.Count≤k
theorem Few.mono {s:Source} {j k:Int} (h:Few s j) (hk:j≤k):Few s k:=⟨h.1,by have:=h.2;omega,by have:=h.3;omega⟩
theorem Few.take {s:Source} {k:Int} (h:Few s k) (t:List UInt8):Few (tkM s t) (k+1):=⟨b4D t h.1,by have:=h.2;simp [tkM];omega,by have:=h.3;have:=h.1.c0;simp [tkM];omega⟩
theorem Few.draw {s:Source} {k:Int} (h:Few s k) (hk:k<1000000):Few (oR s).1 (k+1):=by
 have h2:=h.2
 have h3:=h.3
 refine ⟨a2w h.1 (by omega) (by omega), ?_, ?_⟩<;>(unfold oR;split<;>dsimp only<;>omega)
end Go.AI.Fn
