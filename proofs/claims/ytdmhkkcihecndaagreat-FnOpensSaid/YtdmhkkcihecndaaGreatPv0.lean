/- Plain laws for printed functions: loops whose states are told in advance; numbers; places. -/
import Derived.Test.YtdmhkkcihecndaaGreatAiW
import Derived.Test.YtdmhkkcihecndaaGreatFx1
import Derived.KernelRfl
set_option linter.unusedVariables false
namespace Go.AI
theorem ck {S E:Type} {step:S→Option (S⊕E)} {s s':S} (h:step s=some (.inl s')):Loop step s=Loop step s':=by rw [UB,h];rfl
theorem cx {S E:Type} {step:S→Option (S⊕E)} {s:S} {e:E} (h:step s=some (.inr e)):Loop step s=some e:=by rw [UB,h];rfl
theorem an {S E:Type} {step:S→Option (S⊕E)} (F:Nat→S) (n:Nat) {e:E} (hs: ∀k,k<n→step (F k)=some (.inl (F (k+1)))) (he:step (F n)=some (.inr e)):Loop step (F 0)=some e:=by
 have key: ∀m k,k+m=n→Loop step (F k)=some e:=by
  intro m
  induction m with
  |zero=>intro k hk;have:k=n:=by omega
         subst this;exact cx he
  |succ m ih=>intro k hk;rw [ck (hs k (by omega))];exact ih (k+1) (by omega)
 exact key n 0 (by omega)
theorem I0 (P:Nat→Bool): ∀n,(∀k,k<n→P k=true)∨ ∃k,k<n∧P k=false∧ ∀j,j<k→P j=true
 |0=> .inl (by omega)
 |n+1=>by
  rcases I0 P n with h|⟨k,hk,h1,h2⟩
  ·cases hn:P n
   ·exact .inr ⟨n,by omega,hn,h⟩
   ·refine .inl fun k hk=> ?_
    by_cases e:k=n
    ·subst e;exact hn
    ·exact h k (by omega)
  ·exact .inr ⟨k,by omega,h1,h2⟩
theorem wR {S E:Type} {step:S→Option (S⊕E)} (F:Nat→S) (n:Nat) (P:Nat→Bool) (x:Nat→E) {e:E} (hs: ∀k,k<n→P k=true→step (F k)=some (.inl (F (k+1))))
 (hx: ∀k,k<n→P k=false→step (F k)=some (.inr (x k))) (he:step (F n)=some (.inr e)):
 ((∀k,k<n→P k=true)∧Loop step (F 0)=some e)∨ ∃k,k<n∧P k=false∧(∀j,j<k→P j=true)∧Loop step (F 0)=some (x k):=by
 rcases I0 P n with h|⟨k,hk,h1,h2⟩
 ·exact .inl ⟨h,an F n (fun k hk=>hs k hk (h k hk)) he⟩
 ·exact .inr ⟨k,hk,h1,h2,an F k (fun j hj=>hs j (by omega) (h2 j hj)) (hx k hk h1)⟩
theorem tG {S E:Type} {step:S→Option (S⊕E)} (Inv:S→Prop) (me:S→Nat) (Post:E→Prop)
 (hs: ∀s,Inv s→(∃s',step s=some (.inl s')∧Inv s'∧me s'<me s)∨(∃e,step s=some (.inr e)∧Post e)):
 ∀s,Inv s→ ∃e,Loop step s=some e∧Post e:=by
 intro s
 generalize hm:me s=m
 induction m using Nat.strongRecOn generalizing s with
 |_ m ih=>
  intro hi
  rw [UB]
  rcases hs s hi with ⟨s',h1,h2,h3⟩|⟨e,h1,h2⟩
  ·rw [h1];exact ih (me s') (by omega) s' rfl h2
  ·rw [h1];exact ⟨e,rfl,h2⟩
theorem zw {α:Type} {c:Bool} {x y:α} (h:c=true):br c x y=x:=by subst h;rfl
theorem XN {α:Type} {c:Bool} {x y:α} (h:c=false):br c x y=y:=by subst h;rfl
theorem brd {α:Type} {p:Prop} [Decidable p] {x y:α} (h:p):br (decide p) x y=x:=zw (decide_eq_true h)
theorem brn {α:Type} {p:Prop} [Decidable p] {x y:α} (h: ¬p):br (decide p) x y=y:=XN (decide_eq_false h)
theorem Cv {α:Type} {p q:Prop} [Decidable p] [Decidable q] {x y:α} (h:p) (g:q):br (decide p&&decide q) x y=x:=zw (by simp [h,g])
theorem bre {α:Type} {a b:Int} {x y:α} (h:a=b):br (a==b) x y=x:=zw (by simp [h])
theorem AL {α:Type} {a b:Int} {x y:α} (h:a≠b):br (a==b) x y=y:=XN (by simp [h])
theorem brb {α:Type} {a b:Int} {x y:α} (h:a≠b):br (a !=b) x y=x:=zw (by simp [h])
theorem fw {α:Type} {a b:Int} {x y:α} (h:a=b):br (a !=b) x y=y:=XN (by simp [h])
theorem bq (a b:Int) (h:0≤a):a.tmod b=a%b:=Int.tmod_eq_emod_of_nonneg h
theorem fN (a b:Int) (h:0≤a):a.tdiv b=a/b:=Int.tdiv_eq_ediv_of_nonneg h
theorem pj (x:UInt8):(x.toNat:Int)<256:=by have:=x.toNat_lt;omega
theorem Fo {n b:Nat} (h:n*b≤1099511627776):bc n b=true:=by simp [bc,bC,h]
theorem al {α:Type} {n b:Nat} {x y:α} (h:n*b≤1099511627776):br (bc n b) x y=x:=zw (Fo h)
theorem a1P {l c:Int} {b:Nat} (h0:0≤l) (h1:l≤c) (h2:c*b≤1099511627776):KS l c b=true:=by simp [KS,bC,h0,h1,h2]
theorem a1o {α:Type} {l c:Int} {b:Nat} {x y:α} (h0:0≤l) (h1:l≤c) (h2:c*b≤1099511627776):br (KS l c b) x y=x:=zw (a1P h0 h1 h2)
theorem bS {α:Type} {l:List α} {k:Nat} (h:k<l.length):atL l (k:Int)=some l[k]:=by simp [atL,h]
theorem eH {β:Type} {l:List Int} {i:Nat} {f:Int→Option β} (h:i<l.length):(l[i]?).bind f=f (l.getD i 0):=by simp [h]
theorem xi {α:Type} {l:List α} {i:Nat} (h:i<l.length):l[i]? =some l[i]:=List.getElem?_eq_getElem h
theorem Ug {α:Type} {l:List α} {i:Int} (h0:0≤i) (h1:i<l.length): ∃x,atL l i=some x∧l[i.toNat]? =some x∧x∈l:=by
 have h:i.toNat<l.length:=by omega
 exact ⟨l[i.toNat],by simp [atL,h0,h],by simp [h],List.getElem_mem h⟩
theorem RD {α:Type} {l:List α} {i:Nat} (h:i<l.length): ∃x r,l.drop i=x::r∧l.drop (i+1)=r∧l[i]? =some x:=
 ⟨l[i],l.drop (i+1),List.drop_eq_getElem_cons h,rfl,by simp [h]⟩
theorem Y7 {α:Type} {l r:List α} {x:α} {i:Int} (h0:0≤i) (h:l.drop i.toNat=x::r):atL l i=some x:=by
 have:l[i.toNat]? =some x:=by rw [←List.head?_drop,h];rfl
 simp [atL,h0,this]
theorem oA {α:Type} {l:List α} {a b:Int} (h0:0≤a) (h1:a≤b) (h2:b≤l.length):rL l a b=some ((l.drop a.toNat).take (b.toNat-a.toNat)):=by
 simp [rL,h0,h1,h2,List.drop_take]
theorem cr {α:Type} {l:List α} {k:Nat} (h:k<l.length):l.take (k+1)=l.take k++[l[k]]:=by rw [List.take_succ_eq_append_getElem h]
theorem mi (k:Nat):((k+1:Nat):Int)=(k:Int)+1:=by omega
theorem kJ (n:Nat):(nZ n).length=n:=by simp [nZ]
def iU {α:Type} (f:Nat→α→α):Nat→α→α
 |0,l=>l
 |k+1,l=>f k (iU f k l)
theorem pM {f:Nat→List Int→List Int} (hf: ∀k l,(f k l).length=l.length): ∀(k:Nat) (l:List Int),(iU f k l).length=l.length
 |0,l=>rfl
 |k+1,l=>by rw [iU,hf,pM hf k l]
end Go.AI
set_option linter.unusedVariables false
set_option linter.unusedSimpArgs false
namespace Go.AI.Fn
def okF (a:Int):Prop:=0≤a∧a≤2130706432
def okE (x:Ext):Prop:=okF x.A∧okF x.B
def UV (a:Int):Bool:=decide (0≤a)&&decide (a≤2130706432)
def ru (x:Ext):Bool:=UV x.A&&UV x.B
theorem a5k {a:Int}:UV a=true↔okF a:=by simp [UV,okF]
theorem pk {x:Ext}:ru x=true↔okE x:=by simp [ru,okE,a5k]
def aF (a b:Int):Int:=(a+b)%2130706433
def sF (a b:Int):Int:=(a-b)%2130706433
def mF (a b:Int):Int:=(a*b)%2130706433
def eA (x y:Ext):Ext:=⟨(x.A+y.A)%2130706433,(x.B+y.B)%2130706433⟩
def eS (x y:Ext):Ext:=⟨(x.A-y.A)%2130706433,(x.B-y.B)%2130706433⟩
def eM (x y:Ext):Ext:=⟨(x.A*y.A+3*(x.B*y.B))%2130706433,(x.A*y.B+x.B*y.A)%2130706433⟩
def eC (x:Ext) (n:Int):Ext:=⟨(x.A*n)%2130706433,(x.B*n)%2130706433⟩
def e0:Ext:=⟨0,0⟩
def e1:Ext:=⟨1,0⟩
def eN (n:Int):Ext:=⟨n,0⟩
theorem a9A:okF 3:=⟨by decide,by decide⟩
theorem a9j:okF 1:=⟨by decide,by decide⟩
theorem b7j:okF 0:=⟨by decide,by decide⟩
theorem iu (a:Int):okF (a%2130706433):=⟨by omega,by omega⟩
theorem b2v (a b:Int):okF (sF a b):=iu _
theorem jg (a b:Int):okF (mF a b):=iu _
theorem QN (x y:Ext):okE (eA x y):=⟨iu _,iu _⟩
theorem qv (x y:Ext):okE (eS x y):=⟨iu _,iu _⟩
theorem pp (x y:Ext):okE (eM x y):=⟨iu _,iu _⟩
theorem b2k (x:Ext) (n:Int):okE (eC x n):=⟨iu _,iu _⟩
theorem b2i:okE e0:=⟨⟨by decide,by decide⟩,⟨by decide,by decide⟩⟩
theorem XQ:okE e1:=⟨⟨by decide,by decide⟩,⟨by decide,by decide⟩⟩
theorem a1I {n:Int} (h:okF n):okE (eN n):=⟨h,b7j⟩
theorem b2H {a b:Int} (ha:okF a) (hb:okF b):0≤a*b∧a*b≤4539909900063178624:=
 ⟨Int.mul_nonneg ha.1 hb.1,Int.le_trans (Int.mul_le_mul ha.2 hb.2 hb.1 (by decide)) (by decide)⟩
theorem Bl {a:Int} (h:okF a):a%2130706433=a:=by obtain ⟨h1,h2⟩:=h;omega
theorem BH {x y:Ext} (h1:x.A=y.A) (h2:x.B=y.B):x=y:=by cases x;cases y;cases h1;cases h2;rfl
theorem mA1 (a b:Int):(a%2130706433+b)%2130706433=(a+b)%2130706433:=Int.emod_add_emod _ _ _
theorem mA2 (a b:Int):(a+b%2130706433)%2130706433=(a+b)%2130706433:=Int.add_emod_emod _ _ _
theorem mM1 (a b:Int):(a%2130706433*b)%2130706433=(a*b)%2130706433:=by rw [Int.mul_emod,Int.emod_emod, ←Int.mul_emod]
theorem mM2 (a b:Int):(a*(b%2130706433))%2130706433=(a*b)%2130706433:=by rw [Int.mul_emod,Int.emod_emod, ←Int.mul_emod]
theorem mX1 (a b c:Int):(a%2130706433*b+c)%2130706433=(a*b+c)%2130706433:=by rw [←mA1,mM1,mA1]
theorem mX4 (a b c:Int):(c+a*(b%2130706433))%2130706433=(c+a*b)%2130706433:=by rw [←mA2,mM2,mA2]
theorem b2C {a b:Int} (ha:okF a) (hb:okF b):(IntKind.wrap .i64 (a+b)).tmod 2130706433=aF a b:=by
 obtain ⟨h1,h2⟩:=ha;obtain ⟨h3,h4⟩:=hb
 unfold aF;rw [aa _ (by omega) (by omega),bq _ _ (by omega)]
theorem GY {a b:Int} (ha:okF a) (hb:okF b):IW a b=some (aF a b):=by unfold IW;rw [b2C ha hb]
theorem LP {a b:Int} (ha:okF a) (hb:okF b):NT a b=some (sF a b):=by
 obtain ⟨h1,h2⟩:=ha;obtain ⟨h3,h4⟩:=hb
 unfold NT sF;rw [aa (a-b) (by omega) (by omega),aa _ (by omega) (by omega),bq _ _ (by omega)]
 congr 1;omega
theorem a7h {a b:Int} (ha:okF a) (hb:okF b):(IntKind.wrap .i64 (a*b)).tmod 2130706433=mF a b:=by
 have h:=b2H ha hb
 unfold mF;rw [aa _ (by omega) (by omega),bq _ _ (by omega)]
theorem iG {a b:Int} (ha:okF a) (hb:okF b):nv a b=some (mF a b):=by unfold nv;rw [a7h ha hb]
theorem gL {x y:Ext} (hx:okE x) (hy:okE y):du x y=some (eA x y):=by
 unfold du;rw [GY hx.1 hy.1,GY hx.2 hy.2];rfl
theorem ir {x y:Ext} (hx:okE x) (hy:okE y):cY x y=some (eS x y):=by
 unfold cY;rw [LP hx.1 hy.1,LP hx.2 hy.2];rfl
theorem a1i (x y:Ext):eM x y=⟨aF (mF x.A y.A) (mF 3 (mF x.B y.B)),aF (mF x.A y.B) (mF x.B y.A)⟩:=by
 unfold eM aF mF
 congr 1
 ·rw [mA1,mA2,mX4]
 ·rw [mA1,mA2]
theorem dP {x y:Ext} (hx:okE x) (hy:okE y):bY x y=some (eM x y):=by
 unfold bY
 rw [iG hx.1 hy.1,iG hx.2 hy.2]
 simp only [obs]
 rw [iG a9A (jg _ _)]
 simp only [obs]
 rw [GY (jg _ _) (jg _ _),iG hx.1 hy.2,iG hx.2 hy.1]
 simp only [obs]
 rw [GY (jg _ _) (jg _ _),a1i];rfl
theorem uB {x:Ext} {n:Int} (hx:okE x) (hn:okF n):g8 x n=some (eC x n):=by
 unfold g8;rw [iG hx.1 hn,iG hx.2 hn];rfl
theorem GN:Kh=some e1:=rfl
theorem oh (n a b:Int):ye n a b=some (decide (a≤n)&&decide (n≤b)):=by
 unfold ye;cases decide (a≤n)<;>rfl
theorem GL (a:Int):rX a=some (UV a):=by
 unfold rX;rw [oh];rfl
theorem ti (x:Ext):rD x=some (ru x):=by
 unfold rD ru;rw [GL,GL];cases UV x.A<;>rfl
theorem FY {a b:Int} (ha:okF a) (hb:okF b):p9 a b=some (aF a b):=by unfold p9;rw [b2C ha hb]
theorem Oy {a b:Int} (ha:okF a) (hb:okF b):tx a b=some (sF a b):=by
 obtain ⟨h1,h2⟩:=ha;obtain ⟨h3,h4⟩:=hb
 unfold tx sF;rw [aa (a+2130706433) (by omega) (by omega),aa _ (by omega) (by omega),bq _ _ (by omega)]
 congr 1;omega
theorem kX {a b:Int} (ha:okF a) (hb:okF b):eK a b=some (mF a b):=by unfold eK;rw [a7h ha hb]
theorem ke {x y:Ext} (hx:okE x) (hy:okE y):gQ x y=some (eA x y):=by
 unfold gQ;rw [FY hx.1 hy.1,FY hx.2 hy.2];rfl
theorem nN {x y:Ext} (hx:okE x) (hy:okE y):jx x y=some (eS x y):=by
 unfold jx;rw [Oy hx.1 hy.1,Oy hx.2 hy.2];rfl
theorem dC {x y:Ext} (hx:okE x) (hy:okE y):cZ x y=some (eM x y):=by
 unfold cZ
 have h3:(IntKind.wrap .i64 (3*mF x.B y.B)).tmod 2130706433=mF 3 (mF x.B y.B):=a7h a9A (jg x.B y.B)
 rw [kX hx.1 hy.1,kX hx.2 hy.2]
 simp only [obs]
 rw [h3,FY (jg _ _) (jg _ _),kX hx.1 hy.2,kX hx.2 hy.1]
 simp only [obs]
 rw [FY (jg _ _) (jg _ _),a1i];rfl
theorem Cm (n:Int):oK n=some (eN n):=rfl
theorem LO:xy=some e1:=rfl
theorem HS {x:Ext} (hx:okE x):nT x=some (eS e1 x):=by
 unfold nT;rw [LO,obs,nN XQ hx];rfl
theorem z8 (n a b:Int):gG n a b=some (decide (a≤n)&&decide (n≤b)):=by
 unfold gG;cases decide (a≤n)<;>rfl
theorem Fj (a:Int):s9 a=some (UV a):=by
 unfold s9;rw [z8];rfl
theorem EG (x:Ext):uJ x=some (ru x):=by
 unfold uJ ru;rw [Fj,Fj];cases UV x.A<;>rfl
theorem sub_self (x:Ext):eS x x=e0:=by
 apply BH<;>simp [eS,e0]
theorem a0u (x:Ext) (n:Int):eC x n=eM x (eN n):=by
 apply BH<;>(simp only [eC,eM,eN];congr 1;grind)
end Go.AI.Fn
set_option linter.unusedVariables false
set_option linter.unusedSimpArgs false
namespace Go.AI.Fn
def pF (a:Int) (n:Nat):Int:=(a^n)%2130706433
theorem Na (a:Int) (n:Nat):okF (pF a n):=iu _
theorem b7I {n:Int} (h:0≤n) (h2:n<9223372036854775808):bm .i64 n 1=n%2:=by
 show IntKind.wrap .i64 ((BitVec.ofInt 64 n&&&BitVec.ofInt 64 1).toNat:Int)=n%2
 have e1:(BitVec.ofInt 64 n).toNat=n.toNat:=by rw [BitVec.toNat_ofInt];omega
 have e2:(BitVec.ofInt 64 1).toNat=1:=by decide
 rw [BitVec.toNat_and,e1,e2,Nat.and_one_is_mod,aa _ (by omega) (by omega)]
 omega
theorem b7D {n:Int} (h:0≤n):aM .i64 n 1=n/2:=by
 show n.fdiv (2^1)=n/2
 rw [Int.fdiv_eq_ediv_of_nonneg _ (by decide)];rfl
theorem a7X {a:Int} {n:Nat} (h:n%2=0):(a*a)^(n/2)=a^n:=by
 have e:n=2*(n/2):=by omega
 have e2:a^n=a^(2*(n/2)):=by rw [←e]
 rw [e2,Int.pow_mul,Int.pow_succ,Int.pow_succ,Int.pow_zero,Int.one_mul]
theorem a8T {a:Int} {n:Nat} (h:n%2=1):a*(a*a)^(n/2)=a^n:=by
 have e:n=2*(n/2)+1:=by omega
 have e2:a^n=a^(2*(n/2)+1):=by rw [←e]
 rw [e2,Int.pow_succ,Int.pow_mul,Int.pow_succ,Int.pow_succ,Int.pow_zero,Int.one_mul,Int.mul_comm]
theorem a0s (a:Int) (n:Nat):((a%2130706433)^n)%2130706433=(a^n)%2130706433:=by
 induction n with
 |zero=>rw [Int.pow_zero,Int.pow_zero]
 |succ n ih=>rw [Int.pow_succ,Int.pow_succ,mM2, ←mM1,ih,mM1]
theorem Wt {a out:Int} {n:Nat} (hn:0<n):(n%2=1→(mF out a*(mF a a)^(n/2))%2130706433=(out*a^n)%2130706433)∧(n%2=0→(out*(mF a a)^(n/2))%2130706433=(out*a^n)%2130706433):=by
 constructor
 ·intro h
  unfold mF
  rw [mM1, ←mM2,a0s,mM2, ←a8T h,Int.mul_assoc]
 ·intro h
  unfold mF
  rw [←mM2,a0s,mM2,a7X h]
theorem Z2 {a out n:Int} (ha:okF a) (ho:okF out) (h0:0≤n) (hn:n<9223372036854775808): ∃e,Loop su (a,n,out)=some e∧e.2.2.1=(out*a^n.toNat)%2130706433:=by
 refine tG (step:=su) (fun s=>okF s.1∧okF s.2.2∧0≤s.2.1∧s.2.1<9223372036854775808∧(s.2.2*s.1^s.2.1.toNat)%2130706433=(out*a^n.toNat)%2130706433) (fun s=>s.2.1.toNat) _ ?_ (a,n,out) ⟨ha,ho,h0,hn,rfl⟩
 rintro ⟨b,k,o⟩ ⟨hb,ho',hk0,hk1,hinv⟩
 dsimp only at hb ho' hk0 hk1 hinv
 simp only [su]
 by_cases hk:k>0
 ·left
  rw [brd hk,b7I hk0 hk1,b7D hk0,iG hb hb]
  have hs:=Wt (a:=b) (out:=o) (n:=k.toNat) (by omega)
  have e:(k/2).toNat=k.toNat/2:=by omega
  by_cases h2:k%2=1
  ·rw [bre h2,iG ho' hb]
   refine ⟨_,rfl,⟨jg _ _,jg _ _,by dsimp only;omega,by dsimp only;omega, ?_⟩,by dsimp only;omega⟩
   dsimp only
   rw [e,hs.1 (by omega),hinv]
  ·rw [AL h2]
   refine ⟨_,rfl,⟨jg _ _,ho',by dsimp only;omega,by dsimp only;omega, ?_⟩,by dsimp only;omega⟩
   dsimp only
   rw [e,hs.2 (by omega),hinv]
 ·right
  rw [brn hk]
  refine ⟨_,rfl, ?_⟩
  have:k=0:=by omega
  subst this
  dsimp only
  rw [←hinv]
  simp [Bl ho']
theorem Nz {a n:Int} (ha:okF a) (h0:0≤n) (hn:n<9223372036854775808):OF a n=some (pF a n.toNat):=by
 unfold OF
 obtain ⟨e,h1,h2⟩:=Z2 ha a9j h0 hn
 rw [h1,obs,h2,Int.one_mul];rfl
theorem ZL {a out n:Int} (ha:okF a) (ho:okF out) (h0:0≤n) (hn:n<9223372036854775808): ∃e,Loop jR (a,n,out)=some e∧e.2.2.1=(out*a^n.toNat)%2130706433:=by
 refine tG (step:=jR) (fun s=>okF s.1∧okF s.2.2∧0≤s.2.1∧s.2.1<9223372036854775808∧(s.2.2*s.1^s.2.1.toNat)%2130706433=(out*a^n.toNat)%2130706433) (fun s=>s.2.1.toNat) _ ?_ (a,n,out) ⟨ha,ho,h0,hn,rfl⟩
 rintro ⟨b,k,o⟩ ⟨hb,ho',hk0,hk1,hinv⟩
 dsimp only at hb ho' hk0 hk1 hinv
 simp only [jR]
 by_cases hk:k>0
 ·left
  rw [brd hk,bq _ _ hk0,fN _ _ hk0,aa _ (by omega) (by omega),kX hb hb]
  have hs:=Wt (a:=b) (out:=o) (n:=k.toNat) (by omega)
  have e:(k/2).toNat=k.toNat/2:=by omega
  by_cases h2:k%2=1
  ·rw [bre h2,kX ho' hb]
   refine ⟨_,rfl,⟨jg _ _,jg _ _,by dsimp only;omega,by dsimp only;omega, ?_⟩,by dsimp only;omega⟩
   dsimp only
   rw [e,hs.1 (by omega),hinv]
  ·rw [AL h2]
   refine ⟨_,rfl,⟨jg _ _,ho',by dsimp only;omega,by dsimp only;omega, ?_⟩,by dsimp only;omega⟩
   dsimp only
   rw [e,hs.2 (by omega),hinv]
 ·right
  rw [brn hk]
  refine ⟨_,rfl, ?_⟩
  have:k=0:=by omega
  subst this
  dsimp only
  rw [←hinv]
  simp [Bl ho']
theorem Mr {a n:Int} (ha:okF a) (h0:0≤n) (hn:n<9223372036854775808):pD a n=some (pF a n.toNat):=by
 unfold pD
 obtain ⟨e,h1,h2⟩:=ZL ha a9j h0 hn
 rw [h1,obs,h2,Int.one_mul];rfl
def iF (a:Int):Int:=pF a 2130706431
theorem yG {a:Int} (ha:okF a):nG a=some (iF a):=by
 unfold nG;rw [Nz ha (by decide) (by decide),obs];rfl
theorem xZ {a:Int} (ha:okF a):pD a 2130706431=some (iF a):=by
 rw [Mr ha (by decide) (by decide)];rfl
def zx (k:Nat):Int:=pF 3 (127*2^(24-k))
theorem Gi (k:Nat):okF (zx k):=Na _ _
theorem a7D: ∀j:Nat,j<25→(2:Int)^j≤16777216∧0<(2:Int)^j:=by decide
theorem a4M {j:Nat} (h:j≤24):bX .i64 127 (j:Int)=127*2^j:=by
 obtain ⟨h1,h0⟩:=a7D j (by omega)
 show IntKind.wrap .i64 (127*2^(min ((j:Int).toNat) 64))=_
 rw [Int.toNat_natCast,Nat.min_eq_left (by omega),aa _ (by omega) (by omega)]
theorem QA {k:Nat} (h:k≤24):HV (k:Int)=some (zx k):=by
 unfold HV
 obtain ⟨hq,hp⟩:=a7D (24-k) (by omega)
 rw [aa _ (by omega) (by omega),brd (by omega),show (24:Int)-k=((24-k:Nat):Int) by omega,a4M (by omega),Nz a9A (by omega) (by omega),obs,zx]
 congr 2
theorem RA {k:Nat} (h:k≤24):sk (k:Int)=some (zx k):=by
 unfold sk
 obtain ⟨hq,hp⟩:=a7D (24-k) (by omega)
 rw [aa _ (by omega) (by omega),cX _ (by omega) (by omega),brd (by omega),show (24:Int)-k=((24-k:Nat):Int) by omega,a4M (by omega),Mr a9A (by omega) (by omega),obs,zx]
 congr 2
def isP (n:Nat):Bool:=n==1||n==2||n==4||n==8||n==16||n==32||n==64||n==128||n==256||n==512
def a35 (n most:Int):Bool:=decide (1≤n)&&decide (n≤most)&&isP n.toNat
theorem b0C: ∀n:Nat,n<513→1≤n→(bm .i64 (n:Int) ((n:Int)-1)==0)=isP n:=by decide+kernel
theorem Uk {n most:Int} (h:most≤512):wN n most=some (a35 n most):=by
 unfold wN a35
 rw [oh,obs]
 by_cases h1:1≤n
 ·by_cases h2:n≤most
  ·rw [decide_eq_true h1,decide_eq_true h2,Bool.and_true,aR,Bool.true_and,aa _ (by omega) (by omega)]
   have:=b0C n.toNat (by omega) (by omega)
   rw [Int.toNat_of_nonneg (by omega)] at this
   rw [this]
  ·rw [decide_eq_false h2];simp [br]
 ·rw [decide_eq_false h1];simp [br]
end Go.AI.Fn
set_option linter.unusedVariables false
namespace Go.AI.Fn
structure Src (B:Int) (m:bJ):Prop where
 at0:0≤m.at_
 at1:m.at_≤B
 sd0:0≤m.seed
 sd1:m.seed<2147483648
 len:m.code.length≤1048600
theorem Src.mono {B C:Int} {m:bJ} (h:Src B m) (hc:B≤C):Src C m:=⟨h.at0,by have:=h.at1;omega,h.sd0,h.sd1,h.len⟩
abbrev Big:Int:=4611686018427387904
theorem HX {code:List UInt8} (h:code.length≤1048600): ∃m,mB code=some m∧Src 0 m:=by
 refine ⟨_,rfl, ?_⟩
 have:(((code.length:Nat):Int).tmod (1000:Int))=(code.length:Int)%1000:=bq _ _ (by omega)
 constructor<;>dsimp only<;>omega
theorem Lv {B:Int} {m:bJ} (h:Src B m) (hB:B<Big): ∃x m',f9 m=some (x,m')∧0≤x∧x<256∧Src (B+1) m':=by
 obtain ⟨h1,h2,h3,h4,h5⟩:=h
 rcases m with ⟨code,at_,seed⟩
 dsimp only at h1 h2 h3 h4 h5
 unfold f9
 dsimp only
 simp only [Big] at hB
 rw [aa (at_+1) (by omega) (by omega)]
 by_cases c:at_+1≤((code.length:Nat):Int)
 ·rw [brd c,aa (at_+1-1) (by omega) (by omega)]
  obtain ⟨x,hx,_,_⟩:=Ug (l:=code) (i:=at_+1-1) (by omega) (by omega)
  have:=pj x
  rw [hx]
  simp only [obs]
  rw [aa (x.toNat:Int) (by omega) (by omega),aa (seed*31) (by omega) (by omega),aa (seed*31+(x.toNat:Int)) (by omega) (by omega),aa _ (by omega) (by omega),bq _ _ (by omega)]
  refine ⟨_,_,rfl,by omega,by omega, ?_⟩
  constructor<;>dsimp only<;>omega
 ·rw [brn c]
  by_cases c2:at_+1>3000
  ·rw [brd c2]
   refine ⟨_,_,rfl,by omega,by omega, ?_⟩
   constructor<;>dsimp only<;>omega
  ·rw [brn c2,aa (seed*1103515245) (by omega) (by omega),aa (seed*1103515245+12345) (by omega) (by omega),bq (seed*1103515245+12345) _ (by omega),fN _ _ (by omega),aa _ (by omega) (by omega),bq _ _ (by omega)]
   refine ⟨_,_,rfl,by omega,by omega, ?_⟩
   constructor<;>dsimp only<;>omega
theorem ld {B n:Int} {m:bJ} (h:Src B m) (hB:B+3<Big): ∃x m',bD n m=some (x,m')∧0≤x∧(1<n→x<n)∧(n≤1→x=0)∧Src (B+3) m':=by
 unfold bD
 by_cases c:n≤1
 ·rw [brd c];exact ⟨_,_,rfl,by omega,by omega,fun _=>rfl,h.mono (by omega)⟩
 ·rw [brn c]
  by_cases c2:n≤256
  ·rw [brd c2]
   obtain ⟨x,m1,e1,x0,x1,s1⟩:=Lv h (by omega)
   rw [e1]
   simp only [obs]
   rw [brd (by omega),bq _ _ x0]
   exact ⟨_,_,rfl,Int.emod_nonneg _ (by omega),fun _=>Int.emod_lt_of_pos _ (by omega),by omega,s1.mono (by omega)⟩
  ·rw [brn c2]
   obtain ⟨x,m1,e1,x0,x1,s1⟩:=Lv h (by omega)
   obtain ⟨y,m2,e2,y0,y1,s2⟩:=Lv s1 (by omega)
   obtain ⟨z,m3,e3,z0,z1,s3⟩:=Lv s2 (by omega)
   rw [e1]
   simp only [obs]
   rw [e2]
   simp only [obs]
   rw [e3]
   simp only [obs]
   rw [brd (by omega),aa (x*65536) (by omega) (by omega),aa (y*256) (by omega) (by omega),aa (x*65536+y*256) (by omega) (by omega),aa _ (by omega) (by omega),bq _ _ (by omega)]
   exact ⟨_,_,rfl,Int.emod_nonneg _ (by omega),fun _=>Int.emod_lt_of_pos _ (by omega),by omega,s3.mono (by omega)⟩
theorem I4 {B n:Int} {m:bJ} (h:Src B m) (hB:B+3<Big): ∃x m',dG n m=some (x,m')∧Src (B+3) m':=by
 unfold dG
 obtain ⟨x,m1,e1,_,_,_,s1⟩:=ld (n:=n) h hB
 rw [e1]
 exact ⟨_,_,rfl,s1⟩
theorem WB {B:Int} {m:bJ} (h:Src B m) (hB:B+18<Big): ∃x m',fF m=some (x,m')∧okF x∧Src (B+18) m':=by
 unfold fF
 obtain ⟨x,m1,e1,x0,x1,_,s1⟩:=ld (n:=5) h (by omega)
 have:=x1 (by omega)
 rw [e1]
 simp only [obs]
 by_cases c:x=0
 ·rw [bre c]
  obtain ⟨y,m2,e2,y0,y1,_,s2⟩:=ld (n:=4) s1 (by omega)
  have:=y1 (by omega)
  rw [e2]
  exact ⟨_,_,rfl,⟨by omega,by omega⟩,s2.mono (by omega)⟩
 ·rw [AL c]
  by_cases c2:x=1
  ·rw [bre c2]
   obtain ⟨y,m2,e2,y0,y1,_,s2⟩:=ld (n:=3) s1 (by omega)
   have:=y1 (by omega)
   rw [e2]
   refine ⟨_,_,rfl,⟨?_, ?_⟩,s2.mono (by omega)⟩<;>rw [aa _ (by omega) (by omega)]<;>omega
  ·rw [AL c2]
   have key:=tG (step:=dN)
    (fun s=>okF s.1∧0≤s.2.1∧s.2.1≤5∧Src (B+3+3*s.2.1) ⟨s.2.2.1,s.2.2.2.1,s.2.2.2.2⟩) (fun s=>(5-s.2.1).toNat)
    (fun e=>okF e.1∧Src (B+18) ⟨e.2.2.2.1,e.2.2.2.2.1,e.2.2.2.2.2⟩) ?_ ((0:Int),(0:Int),m1.code,m1.at_,m1.seed) ⟨⟨by first|omega| (dsimp only;omega),by first|omega| (dsimp only;omega)⟩,by first|omega| (dsimp only;omega),by first|omega| (dsimp only;omega),s1.mono (by first|omega| (dsimp only;omega))⟩
   ·obtain ⟨e,he,h1,h2⟩:=key
    rw [he]
    exact ⟨_,_,rfl,h1,h2⟩
   ·rintro ⟨n,i,c,c2,c3⟩ ⟨⟨n0,n1⟩,i0,i1,hs⟩
    dsimp only at n0 n1 i0 i1 hs
    by_cases hi:i<5
    ·left
     obtain ⟨y,m2,e2,y0,y1,_,s2⟩:=ld (n:=256) hs (by omega)
     have:=y1 (by omega)
     simp only [dN]
     rw [brd hi,e2]
     simp only [obs]
     rw [aa (n*256) (by omega) (by omega),aa (n*256+y) (by omega) (by omega),aa (i+1) (by omega) (by omega),bq _ _ (by omega)]
     refine ⟨_,rfl,⟨⟨?_, ?_⟩, ?_, ?_,s2.mono ?_⟩, ?_⟩<;>dsimp only<;>omega
    ·right
     simp only [dN]
     rw [brn hi]
     exact ⟨_,rfl,⟨n0,n1⟩,hs.mono (by first|omega| (dsimp only;omega))⟩
end Go.AI.Fn
set_option linter.unusedVariables false
namespace Go.AI.Fn
theorem b4O {B:Int} {m:bJ} (h:Src B m) (hB:B+40<Big): ∃x m',nl m=some (x,m')∧okE x∧Src (B+40) m':=by
 unfold nl
 obtain ⟨x,m1,e1,s1⟩:=I4 (n:=4) h (by omega)
 rw [e1]
 simp only [obs]
 obtain ⟨y,m2,e2,y0,s2⟩:=WB s1 (by omega)
 obtain ⟨z,m3,e3,z0,s3⟩:=WB s2 (by omega)
 rw [e2]
 cases x
 ·simp only [ak,obs]
  rw [e3]
  exact ⟨_,_,rfl,⟨y0,z0⟩,s3.mono (by omega)⟩
 ·exact ⟨_,_,rfl,⟨y0,⟨by first|omega| (dsimp only;omega),by first|omega| (dsimp only;omega)⟩⟩,s2.mono (by omega)⟩
theorem a1f {B n:Int} {m:bJ} (h:Src B m) (hn0:0≤n) (hn1:n≤1048576) (hB:B+40*n<Big): ∃l m',iT n m=some (l,m')∧(l.length:Int)=n∧(∀x∈l,okE x)∧Src (B+40*n) m':=by
 unfold iT
 have key:=tG (step:=ej n)
  (fun s=>(s.1.length:Int)=s.2.1∧(∀x∈s.1,okE x)∧s.2.1≤n∧Src (B+40*s.2.1) ⟨s.2.2.1,s.2.2.2.1,s.2.2.2.2⟩) (fun s=>(n-s.2.1).toNat)
  (fun e=>(e.1.length:Int)=n∧(∀x∈e.1,okE x)∧Src (B+40*n) ⟨e.2.2.2.1,e.2.2.2.2.1,e.2.2.2.2.2⟩) ?_ (([]:List Ext),(0:Int),m.code,m.at_,m.seed) ⟨by simp,by simp,by dsimp only;omega,h.mono (by first|omega| (dsimp only;omega))⟩
 ·obtain ⟨e,he,h1,h2,h3⟩:=key
  rw [he]
  exact ⟨_,_,rfl,h1,h2,h3⟩
 ·rintro ⟨l,i,c,c2,c3⟩ ⟨hl,ha,i1,hs⟩
  dsimp only at hl ha i1 hs
  by_cases hi:i<n
  ·left
   obtain ⟨y,m2,e2,y0,s2⟩:=b4O hs (by omega)
   simp only [ej]
   rw [brd hi,e2]
   simp only [obs]
   rw [zw (Fo (by simp only [List.length_append,List.length_cons,List.length_nil];omega)),aa (i+1) (by omega) (by omega)]
   refine ⟨_,rfl,⟨?_, ?_, ?_,s2.mono ?_⟩, ?_⟩
   ·simp only [List.length_append,List.length_cons,List.length_nil];omega
   ·intro x hx
    rcases List.mem_append.1 hx with hx|hx
    ·exact ha x hx
    ·rw [List.mem_singleton] at hx;subst hx;exact y0
   all_goals dsimp only;omega
  ·right
   simp only [ej]
   rw [brn hi]
   exact ⟨_,rfl,by dsimp only;omega,ha,hs.mono (by first|omega| (dsimp only;omega))⟩
theorem QQ {code:List UInt8} {n:Int} (h:code.length≤1048600) (hn0:0≤n) (hn1:n≤1048576): ∃l,wK code n=some l∧(l.length:Int)=n∧ ∀x∈l,okE x:=by
 unfold wK
 obtain ⟨m,e1,s1⟩:=HX (show code.length≤1048600 by omega)
 rw [e1]
 simp only [obs]
 obtain ⟨l,m2,e2,h1,h2,_⟩:=a1f (n:=n) s1 hn0 hn1 (by simp only [Big];omega)
 rw [e2]
 exact ⟨_,rfl,h1,h2⟩
end Go.AI.Fn
set_option linter.unusedVariables false
set_option linter.unusedSimpArgs false
namespace Go.AI.Fn
theorem LB {α:Type} {p:α→Bool} {l:List α} {k:Nat} (hk:k<l.length) (h:p l[k]=true):l.any p=true:=List.any_eq_true.2 ⟨l[k],List.getElem_mem hk,h⟩
theorem a1h {α:Type} {p:α→Bool} {l:List α} (h: ∀k (hk:k<l.length),p l[k]=false):l.any p=false:=by
 rw [List.any_eq_false]
 intro x hx
 obtain ⟨k,hk,rfl⟩:=List.getElem_of_mem hx
 simp [h k hk]
theorem yU {α:Type} {p:α→Bool} {f:α→Option Bool} {l:List α} (hl:l.length≤1099511627776) (hf: ∀x∈l,f x=some (p x)) {step:Int→Option (Int⊕(Int⊕(Int×Bool)))}
 (hs: ∀t,step t=br (decide (t<((l.length:Nat):Int))) ((atL l t).bind fun x=>(f x).bind fun r=>br r (some (.inr (.inl t))) (some (.inl (IntKind.wrap .i64 (t+1))))) (some (.inr (.inr (t,decide (t<((l.length:Nat):Int))))))):
 ((Loop step 0).bind (alt (fun e=>some e) (fun _=>some (-1)))).bind (fun r=>some (decide (r≥0)))=some (l.any p):=by
 have key:=wR (step:=step) (fun k=>(k:Int)) l.length (fun k=> !((l[k]?.map p).getD false)) (fun k=> .inl (k:Int)) (e:= .inr ((l.length:Int),false)) (fun k hk hp=>by
  have hb:p l[k]=false:=by simpa [hk] using hp
  rw [hs,brd (by omega),bS hk,obs,hf _ (List.getElem_mem hk),obs,hb,ak,aa _ (by omega) (by omega)];rfl)
  (fun k hk hp=>by
   have hb:p l[k]=true:=by simpa [hk] using hp
   rw [hs,brd (by omega),bS hk,obs,hf _ (List.getElem_mem hk),obs,hb,aR])
  (by rw [hs,brn (by omega),decide_eq_false (by omega)])
 rcases key with ⟨h1,h2⟩|⟨k,hk,h1,_,h2⟩
 ·have e:Loop step 0=some (.inr ((l.length:Int),false)):=h2
  rw [e,a1h (fun k hk=>by simpa [hk] using h1 k hk)];rfl
 ·have e:Loop step 0=some (.inl (k:Int)):=h2
  rw [e,LB hk (by simpa [hk] using h1)]
  simp only [obs,lB]
  rw [decide_eq_true (by omega)]
theorem b1X {α:Type} {p:α→Bool} {f:α→Option Bool} {l:List α} (hl:l.length≤1099511627776) (hf: ∀x∈l,f x=some (p x)) {step:Int→Option (Int⊕(Unit⊕(Int×Bool)))}
 (hs: ∀t,step t=br (decide (t<((l.length:Nat):Int))) ((atL l t).bind fun x=>(f x).bind fun r=>br (!r) (some (.inr (.inl ()))) (some (.inl (IntKind.wrap .i64 (t+1))))) (some (.inr (.inr (t,decide (t<((l.length:Nat):Int))))))):
 (Loop step 0).bind (alt (fun _=>some false) (fun _=>some true))=some (l.all p):=by
 have key:=wR (step:=step) (fun k=>(k:Int)) l.length (fun k=>((l[k]?.map p).getD false)) (fun k=> .inl ()) (e:= .inr ((l.length:Int),false)) (fun k hk hp=>by
  have hb:p l[k]=true:=by simpa [hk] using hp
  rw [hs,brd (by omega),bS hk,obs,hf _ (List.getElem_mem hk),obs,hb,Bool.not_true,ak,aa _ (by omega) (by omega)];rfl)
  (fun k hk hp=>by
   have hb:p l[k]=false:=by simpa [hk] using hp
   rw [hs,brd (by omega),bS hk,obs,hf _ (List.getElem_mem hk),obs,hb,Bool.not_false,aR])
  (by rw [hs,brn (by omega),decide_eq_false (by omega)])
 rcases key with ⟨h1,h2⟩|⟨k,hk,h1,_,h2⟩
 ·have e:Loop step 0=some (.inr ((l.length:Int),false)):=h2
  have ha:l.all p=true:=List.all_eq_true.2 fun x hx=>by
   obtain ⟨k,hk,rfl⟩:=List.getElem_of_mem hx
   simpa [hk] using h1 k hk
  rw [e,ha];rfl
 ·have e:Loop step 0=some (.inl ()):=h2
  have ha:l.all p=false:=by
   rw [List.all_eq_false]
   exact ⟨l[k],List.getElem_mem hk,by simpa [hk] using h1⟩
  rw [e,ha];rfl
theorem uV {α:Type} (p:α→Bool) (l:List α):(!l.any fun x=> !p x)=l.all p:=by
 induction l with
 |nil=>rfl
 |cons x l ih=>simp only [List.any_cons,List.all_cons, ←ih];cases p x<;>simp
theorem sj {l:List Ext} (hl:l.length≤1099511627776):bW l=some (l.all ru):=by
 unfold bW aY bj
 rw [yU (step:=aT l ((l.length:Nat):Int)) (p:=fun x=> !ru x) (f:=eJ) hl (fun x _=>by unfold eJ;rw [ti];rfl) (fun t=>rfl),obs,uV]
theorem jO {l:List Ext} (hl:l.length≤1099511627776):kr l=some (l.all ru):=by
 unfold kr
 exact b1X (f:=uJ) hl (fun x _=>EG x) (fun t=>rfl)
def eD (l:List Ext):Prop:= ∀x∈l,okE x
def b5G (l:List Int):Prop:= ∀x∈l,okF x
theorem I6 {l:List Ext}:l.all ru=true↔eD l:=by
 rw [List.all_eq_true];exact ⟨fun h x hx=>pk.1 (h x hx),fun h x hx=>pk.2 (h x hx)⟩
theorem eD.get {l:List Ext} (h:eD l) {k:Nat} (hk:k<l.length):okE l[k]:=h _ (List.getElem_mem hk)
theorem b5G.get {l:List Int} (h:b5G l) {k:Nat} (hk:k<l.length):okF l[k]:=h _ (List.getElem_mem hk)
theorem eD.app {l m:List Ext} (h:eD l) (h2:eD m):eD (l++m):=fun x hx=>(List.mem_append.1 hx).elim (h x) (h2 x)
theorem eD.nil:eD []:=fun x hx=>by cases hx
theorem eD.one {x:Ext} (h:okE x):eD [x]:=fun y hy=>by rw [List.mem_singleton.1 hy];exact h
theorem eD.map {α:Type} {f:α→Ext} (l:List α) (h: ∀x∈l,okE (f x)):eD (l.map f):=fun y hy=>by obtain ⟨x,hx,rfl⟩:=List.mem_map.1 hy;exact h x hx
theorem eD.take {l:List Ext} (h:eD l) (k:Nat):eD (l.take k):=fun x hx=>h x (List.mem_of_mem_take hx)
theorem eD.drop {l:List Ext} (h:eD l) (k:Nat):eD (l.drop k):=fun x hx=>h x (List.mem_of_mem_drop hx)
def a3i (a b:List Ext):Ext:=(a.zip b).foldl (fun c p=>eA c (eM p.1 p.2)) e0
theorem Qv {α β:Type} {a:List α} {b:List β} {k:Nat} (ha:k<a.length) (hb:k<b.length):(a.zip b).take (k+1)=(a.zip b).take k++[(a[k],b[k])]:=by
 rw [cr (by rw [List.length_zip];omega),List.getElem_zip]
theorem b3Q (l:List (Ext×Ext)) {c:Ext} (h:okE c):okE (l.foldl (fun c p=>eA c (eM p.1 p.2)) c):=by
 induction l generalizing c with
 |nil=>exact h
 |cons p l ih=>exact ih (QN _ _)
theorem a5c {a b:List Ext} (ha:eD a) (hb:eD b) (hl:a.length≤b.length) (hn:a.length≤1099511627776):WS a b=some (a3i a b):=by
 unfold WS
 have key:Loop (rR b a ((a.length:Nat):Int) 0 0) ((0:Int),(0:Int),(0:Int))=some ((a.length:Int),false,(a3i a b).A,(a3i a b).B):=
  an (fun k=>((k:Int),(((a.zip b).take k).foldl (fun c p=>eA c (eM p.1 p.2)) e0).A,(((a.zip b).take k).foldl (fun c p=>eA c (eM p.1 p.2)) e0).B)) a.length (fun k hk=>by
   simp only [rR]
   have hc:=b3Q ((a.zip b).take k) b2i
   rw [brd (by omega),bS hk,obs,bS (by omega),obs,dP (ha.get hk) (hb.get (by omega)),obs,gL hc (pp _ _),obs,aa _ (by omega) (by omega),Qv hk (by omega),List.foldl_append]
   rfl) (by
   simp only [rR]
   rw [brn (by omega),decide_eq_false (by omega),List.take_of_length_le (by rw [List.length_zip];omega)]
   rfl)
 rw [key];rfl
def eqS (out:List Ext) (p:Ext):List Ext:=out.map (fun a=>eM a (eS e1 p))++out.map (fun a=>eM a p)
def eqT (pt:List Ext):List Ext:=pt.foldl eqS [e1]
theorem a1v (out:List Ext) (p:Ext):(eqS out p).length=2*out.length:=by simp [eqS];omega
theorem b4K (out:List Ext) (p:Ext):eD (eqS out p):=eD.app (eD.map _ fun x _=>pp _ _) (eD.map _ fun x _=>pp _ _)
theorem Xy (l:List Ext) (p:Ext):eqT (l++[p])=eqS (eqT l) p:=by simp [eqT,List.foldl_append]
theorem b2L {l out:List Ext} (h:eD out):eD (l.foldl eqS out):=by
 induction l generalizing out with
 |nil=>exact h
 |cons p l ih=>exact ih (b4K _ _)
theorem YL (l:List Ext):eD (eqT l):=b2L (eD.one XQ)
theorem a9a (l out:List Ext):(l.foldl eqS out).length=2^l.length*out.length:=by
 induction l generalizing out with
 |nil=>simp
 |cons p l ih=>rw [List.foldl_cons,ih,a1v,List.length_cons,Nat.pow_succ];rw [Nat.mul_assoc]
theorem Lp (l:List Ext):(eqT l).length=2^l.length:=by rw [eqT,a9a];simp
theorem Zd: ∀k:Nat,k≤6→2^k≤64:=by decide
theorem b6b {t:List Ext} {t2 t3:Int} {out:List Ext} {p:Ext} (ho:eD out) (hp:okE p) (hn:out.length≤1000000000):
 Loop (iZ t t2 t3 out ((out.length:Nat):Int) p.A p.B) ([],[],0)=some (out.map (fun a=>eM a (eS e1 p)),out.map (fun a=>eM a p),(out.length:Int),false):=
 an (fun k=>((out.take k).map (fun a=>eM a (eS e1 p)),(out.take k).map (fun a=>eM a p),(k:Int))) out.length (fun k hk=>by
  have he:Ext.mk p.A p.B=p:=rfl
  simp only [iZ,he]
  rw [brd (by omega),bS hk,obs,GN,obs,ir XQ hp,obs,dP (ho.get hk) (qv _ _),obs,
   al (by simp only [List.length_append,List.length_map,List.length_take,List.length_singleton];omega),dP (ho.get hk) hp,obs,
   al (by simp only [List.length_append,List.length_map,List.length_take,List.length_singleton];omega),aa _ (by omega) (by omega),cr hk,List.map_append,List.map_append]
  rfl) (by
  simp only [iZ]
  rw [brn (by omega),decide_eq_false (by omega),List.take_length])
theorem F7 {l:List Ext} (h:eD l) (hn:l.length≤6):rT l=some (eqT l):=by
 unfold rT
 have key:Loop (iR l ((l.length:Nat):Int)) ([e1],0)=some (eqT l,(l.length:Int),false):=
  an (fun k=>(eqT (l.take k),(k:Int))) l.length (fun k hk=>by
   have hl:=Lp (l.take k)
   have hb:=Zd (l.take k).length (by rw [List.length_take];omega)
   simp only [iR]
   rw [brd (by omega),bS hk,obs,b6b (YL _) (h.get hk) (by omega),obs]
   dsimp only
   rw [al (by simp only [List.length_append,List.length_map];omega),aa _ (by omega) (by omega),cr hk,Xy]
   rfl) (by
   simp only [iR]
   rw [brn (by omega),decide_eq_false (by omega),List.take_length])
 rw [GN,obs,key];rfl
def eqU (out:List Ext) (p:Ext) (k:Nat) (l:List Ext):List Ext:=(l.set k (eM (out.getD k e0) (eS e1 p))).set (k+out.length) (eM (out.getD k e0) p)
theorem a0R {f:Nat→List Ext→List Ext} (hf: ∀k l,(f k l).length=l.length): ∀(k:Nat) (l:List Ext),(iU f k l).length=l.length
 |0,l=>rfl
 |k+1,l=>by rw [iU,hf,a0R hf k l]
theorem Fg (out:List Ext) (p:Ext) (k:Nat) (l:List Ext):(iU (eqU out p) k l).length=l.length:=a0R (fun _ _=>by simp [eqU]) k l
theorem a1O (out:List Ext) (p:Ext) (l:List Ext) (hl:l.length=2*out.length): ∀k,k≤out.length→ ∀j (hj:j<(iU (eqU out p) k l).length),(iU (eqU out p) k l)[j]=
 if j<k then eM (out.getD j e0) (eS e1 p) else if out.length≤j∧j<out.length+k then eM (out.getD (j-out.length) e0) p else l[j]'(by rw [Fg] at hj;exact hj)
 |0,_,j,hj=>by
  rw [if_neg (by omega),if_neg (by omega)];rfl
 |k+1,hk,j,hj=>by
  have ih:=a1O out p l hl k (by omega) j (by rw [Fg] at hj ⊢;exact hj)
  simp only [iU,eqU,List.getElem_set]
  by_cases h1:k+out.length=j
  ·rw [if_pos h1,if_neg (by omega),if_pos (by omega),show j-out.length=k by omega]
  ·rw [if_neg h1]
   by_cases h2:k=j
   ·rw [if_pos h2,if_pos (by omega),h2]
   ·rw [if_neg h2,ih]
    by_cases h3:j<k
    ·rw [if_pos h3,if_pos (by omega)]
    ·by_cases h4:out.length≤j∧j<out.length+k
     ·rw [if_neg h3,if_pos h4,if_neg (by omega),if_pos (by omega)]
     ·rw [if_neg h3,if_neg h4,if_neg (by omega),if_neg (by omega)]
theorem a9e (out:List Ext) (p:Ext) (l:List Ext) (hl:l.length=2*out.length):iU (eqU out p) out.length l=eqS out p:=by
 apply List.ext_getElem (by rw [Fg,a1v,hl])
 intro j h1 h2
 rw [a1O out p l hl out.length (Nat.le_refl _) j h1]
 rw [Fg,hl] at h1
 simp only [eqS]
 by_cases h3:j<out.length
 ·rw [if_pos h3,List.getElem_append_left (by simpa using h3),List.getElem_map];simp [h3]
 ·rw [if_neg h3,if_pos (by omega),List.getElem_append_right (by simp;omega),List.getElem_map]
  have:j-out.length<out.length:=by omega
  simp [this]
theorem a1S {l:List Ext} {k:Nat} (h:k<l.length):atL l (k:Int)=some (l.getD k e0):=by simp [atL,h]
theorem eD.getD {l:List Ext} (h:eD l) (k:Nat):okE (l.getD k e0):=by
 by_cases hk:k<l.length
 ·simp [hk];exact h.get hk
 ·simp [List.getElem?_eq_none (Nat.le_of_not_lt hk)];exact b2i
theorem b2s {β:Type} {l:List Ext} {i:Nat} {f:Ext→Option β} (h:i<l.length):(l[i]?).bind f=f (l.getD i e0):=by simp [h]
theorem b6W {pt out l:List Ext} {i:Nat} (ho:eD out) (hp:eD pt) (hi:i<pt.length) (hl:l.length=2*out.length) (hn:out.length≤1000000000):
 Loop (my pt out i) (l,0)=some (eqS out (pt.getD i e0),(out.length:Int),false):=by
 rw [←a9e out (pt.getD i e0) l hl]
 exact an (fun k=>(iU (eqU out (pt.getD i e0)) k l,(k:Int))) out.length (fun k hk=>by
  have h1:=Fg out (pt.getD i e0) k l
  simp only [my]
  rw [brd (by omega),a1S hk,obs,a1S hi,obs,HS (hp.getD _),obs,dC (ho.getD _) (qv _ _),obs,brd (by omega),brd (by omega),b2s (by omega),
   obs,obs,dC (ho.getD _) (hp.getD _),obs,aa _ (by omega) (by omega),brd (by omega),brd (by omega),b2s (by rw [List.length_set];omega),aa _ (by omega) (by omega)]
  rw [show ((k:Int)+(out.length:Int)).toNat=k+out.length by omega,Int.toNat_natCast]
  rfl) (by
  simp only [my]
  rw [brn (by omega),decide_eq_false (by omega)])
theorem Sc {l:List Ext} (h:eD l) (hn:l.length≤6):Gq l=some (eqT l):=by
 unfold Gq
 have key:Loop (mz l) ([e1],0)=some (eqT l,(l.length:Int),false):=
  an (fun k=>(eqT (l.take k),(k:Int))) l.length (fun k hk=>by
   have hl:=Lp (l.take k)
   have hb:=Zd (l.take k).length (by rw [List.length_take];omega)
   simp only [mz]
   rw [brd (by omega),aa _ (by omega) (by omega),a1o (by omega) (by omega) (by omega),b6W (YL _) h hk (by rw [List.length_replicate];omega) (by omega),obs,aa _ (by omega) (by omega),cr hk,Xy]
   simp [hk]) (by
   simp only [mz]
   rw [brn (by omega),decide_eq_false (by omega),List.take_length])
 rw [LO,obs,key];rfl
end Go.AI.Fn
set_option linter.unusedVariables false
set_option linter.unusedSimpArgs false
namespace Go.AI.Fn
abbrev K:={x:Ext//okE x}
def K.n (i:Int):K:=⟨eN (i%2130706433),a1I (iu _)⟩
instance b68:Add K:=⟨fun a b=>⟨eA a.1 b.1,QN _ _⟩⟩
instance b6f:Mul K:=⟨fun a b=>⟨eM a.1 b.1,pp _ _⟩⟩
instance b6Z:Sub K:=⟨fun a b=>⟨eS a.1 b.1,qv _ _⟩⟩
instance b6p:Neg K:=⟨fun a=>⟨eS e0 a.1,qv _ _⟩⟩
instance b1B:NatCast K:=⟨fun n=>K.n n⟩
instance a9M:IntCast K:=⟨fun n=>K.n n⟩
instance b36 (n:Nat):OfNat K n:=⟨K.n n⟩
def K.pow (a:K):Nat→K
 |0=>K.n 1
 |n+1=>K.pow a n*a
instance b5p:HPow K Nat K:=⟨K.pow⟩
theorem K.ext {a b:K} (h:a.1=b.1):a=b:=Subtype.ext h
theorem K.mul_val (a b:K):(a*b).1=eM a.1 b.1:=rfl
theorem K.n_mul (i j:Int):K.n (i*j)=K.n i*K.n j:=K.ext (BH (by
 show (i*j)%2130706433=((i%2130706433)*(j%2130706433)+3*(0*0))%2130706433
 rw [show (3:Int)*(0*0)=0 from rfl,Int.add_zero, ←Int.mul_emod]) (by
 show (0:Int)=((i%2130706433)*0+0*(j%2130706433))%2130706433
 rw [Int.mul_zero,Int.zero_mul];rfl))
instance b00:NeZero 2130706433:=⟨by decide⟩
abbrev FP:=Fin 2130706433
def K.a (x:K):FP:=⟨x.1.A.toNat,by have h:=x.2.1;unfold okF at h;omega⟩
def K.b (x:K):FP:=⟨x.1.B.toNat,by have h:=x.2.2;unfold okF at h;omega⟩
theorem K.A_nat (x:K): ∃n:Nat,x.1.A=(n:Int)∧n<2130706433∧(K.a x).val=n:=⟨x.1.A.toNat,by have h:=x.2.1;unfold okF at h;omega,(K.a x).isLt,rfl⟩
theorem K.B_nat (x:K): ∃n:Nat,x.1.B=(n:Int)∧n<2130706433∧(K.b x).val=n:=⟨x.1.B.toNat,by have h:=x.2.2;unfold okF at h;omega,(K.b x).isLt,rfl⟩
theorem K.eqv {x y:K}:x=y↔K.a x=K.a y∧K.b x=K.b y:=⟨fun h=>by rw [h];exact ⟨rfl,rfl⟩,fun h=>by
 obtain ⟨n,h1,_,h2⟩:=K.A_nat x
 obtain ⟨m,h3,_,h4⟩:=K.A_nat y
 obtain ⟨i,h5,_,h6⟩:=K.B_nat x
 obtain ⟨j,h7,_,h8⟩:=K.B_nat y
 have e1:=congrArg Fin.val h.1
 have e2:=congrArg Fin.val h.2
 exact K.ext (BH (by omega) (by omega))⟩
theorem K.ad_a (x y:K):K.a (x+y)=K.a x+K.a y:=Fin.ext (by
 obtain ⟨n,h1,_,h2⟩:=K.A_nat x
 obtain ⟨m,h3,_,h4⟩:=K.A_nat y
 rw [Fin.val_add,h2,h4]
 show ((x.1.A+y.1.A)%2130706433).toNat=_
 omega)
theorem K.ad_b (x y:K):K.b (x+y)=K.b x+K.b y:=Fin.ext (by
 obtain ⟨n,h1,_,h2⟩:=K.B_nat x
 obtain ⟨m,h3,_,h4⟩:=K.B_nat y
 rw [Fin.val_add,h2,h4]
 show ((x.1.B+y.1.B)%2130706433).toNat=_
 omega)
theorem K.su_a (x y:K):K.a (x-y)=K.a x-K.a y:=Fin.ext (by
 obtain ⟨n,h1,_,h2⟩:=K.A_nat x
 obtain ⟨m,h3,_,h4⟩:=K.A_nat y
 rw [Fin.sub_def]
 show ((x.1.A-y.1.A)%2130706433).toNat=(2130706433-(K.a y).val+(K.a x).val)%2130706433
 omega)
theorem K.su_b (x y:K):K.b (x-y)=K.b x-K.b y:=Fin.ext (by
 obtain ⟨n,h1,_,h2⟩:=K.B_nat x
 obtain ⟨m,h3,_,h4⟩:=K.B_nat y
 rw [Fin.sub_def]
 show ((x.1.B-y.1.B)%2130706433).toNat=(2130706433-(K.b y).val+(K.b x).val)%2130706433
 omega)
theorem K.n0_a:K.a 0=0:=rfl
theorem K.n0_b:K.b 0=0:=rfl
theorem K.n1_a:K.a 1=1:=rfl
theorem K.n1_b:K.b 1=0:=rfl
theorem K.n2_a:K.a 2=2:=rfl
theorem K.n2_b:K.b 2=0:=rfl
theorem K.n3_a:K.a 3=3:=rfl
theorem K.n3_b:K.b 3=0:=rfl
theorem K.ne_sub (x:K): -x=0-x:=rfl
theorem K.mu_a (x y:K):K.a (x*y)=K.a x*K.a y+3*(K.b x*K.b y):=Fin.ext (by
 obtain ⟨n,h1,_,h2⟩:=K.A_nat x
 obtain ⟨m,h3,_,h4⟩:=K.A_nat y
 obtain ⟨i,h5,_,h6⟩:=K.B_nat x
 obtain ⟨j,h7,_,h8⟩:=K.B_nat y
 rw [Fin.val_add,Fin.val_mul,Fin.val_mul,Fin.val_mul,h2,h4,h6,h8,show (3:FP).val=3 from rfl]
 show ((x.1.A*y.1.A+3*(x.1.B*y.1.B))%2130706433).toNat=_
 rw [h1,h3,h5,h7, ←Int.natCast_mul, ←Int.natCast_mul]
 generalize n*m=u
 generalize i*j=v
 omega)
theorem K.mu_b (x y:K):K.b (x*y)=K.a x*K.b y+K.b x*K.a y:=Fin.ext (by
 obtain ⟨n,h1,_,h2⟩:=K.A_nat x
 obtain ⟨m,h3,_,h4⟩:=K.A_nat y
 obtain ⟨i,h5,_,h6⟩:=K.B_nat x
 obtain ⟨j,h7,_,h8⟩:=K.B_nat y
 rw [Fin.val_add,Fin.val_mul,Fin.val_mul,h2,h4,h6,h8]
 show ((x.1.A*y.1.B+x.1.B*y.1.A)%2130706433).toNat=_
 rw [h1,h3,h5,h7, ←Int.natCast_mul, ←Int.natCast_mul]
 generalize n*j=u
 generalize i*m=v
 omega)
theorem kg {p:Prop} (h:p:=by (simp only [K.ne_sub,K.eqv,K.ad_a,K.ad_b,K.su_a,K.su_b,K.mu_a,K.mu_b,K.n0_a,K.n0_b,K.n1_a,K.n1_b,K.n2_a,K.n2_b,K.n3_a,K.n3_b] at* <;>first|grind only|grind)):p:=h
def kF (a:Int):K:=K.n a
theorem wg {a:Int} (h:okF a):(kF a).1=eN a:=by show eN (a%2130706433)=eN a;rw [Bl h]
theorem Ka (a b:Int):kF (mF a b)=kF a*kF b:=by
 rw [kF,kF,kF, ←K.n_mul]
 exact K.ext (by show eN ((a*b)%2130706433%2130706433)=eN ((a*b)%2130706433);rw [Int.emod_emod])
def kv (l:List K):List Ext:=l.map (·.1)
theorem am (l:List K):(kv l).length=l.length:=by simp [kv]
theorem zf (l:List K):eD (kv l):=eD.map l fun x _=>x.2
theorem a0B {L:List Ext} (h:eD L): ∃l,L=kv l:=by
 induction L with
 |nil=>exact ⟨[],rfl⟩
 |cons x L ih=>
  obtain ⟨l,rfl⟩:=ih fun y hy=>h y (by simp [hy])
  exact ⟨⟨x,h x (by simp)⟩::l,rfl⟩
theorem a5B {l:List K} {j:Nat} (h:j<l.length):(kv l)[j]'(by rw [am];exact h)=(l.getD j 0).1:=by simp [kv,h]
theorem dQ {l:List K} {j:Nat} (h:j<l.length):atL (kv l) (j:Int)=some (l.getD j 0).1:=by rw [bS (by rw [am];exact h),a5B h]
theorem C4 {l:List K} {j:Nat} (h:j<l.length):(kv l)[j]? =some (l.getD j 0).1:=by rw [xi (by rw [am];exact h),a5B h]
end Go.AI.Fn
set_option linter.unusedVariables false
set_option linter.unusedSimpArgs false
namespace Go.AI.Fn
theorem pw0 (x:K):x^0=1:=rfl
theorem pwS (x:K) (n:Nat):x^(n+1)=x^n*x:=rfl
theorem pw1 (x:K):x^1=x:=by rw [pwS,pw0];exact kg
theorem NM (x:K) (m:Nat): ∀n,x^(m+n)=x^m*x^n
 |0=>by rw [Nat.add_zero,pw0];exact kg
 |n+1=>by rw [←Nat.add_assoc,pwS,pwS,NM x m n];exact kg
theorem BL (x:K) (m:Nat): ∀n,x^(m*n)=(x^m)^n
 |0=>by rw [Nat.mul_zero,pw0,pw0]
 |n+1=>by rw [Nat.mul_succ,NM,pwS,BL x m n]
theorem RR: ∀n:Nat,(1:K)^n=1
 |0=>rfl
 |n+1=>by rw [pwS,RR n];exact kg
theorem YY (x y:K): ∀n:Nat,(x*y)^n=x^n*y^n
 |0=>by rw [pw0,pw0,pw0];exact kg
 |n+1=>by rw [pwS,pwS,pwS,YY x y n];exact kg
theorem WU (x:K) (n:Nat):(x*x)^n=x^n*x^n:=YY x x n
theorem NC (x:K) (n:Nat):x^(2*n)=x^n*x^n:=by rw [Nat.two_mul,NM]
theorem a8V (x:K) (m n:Nat):(x^m)^n=(x^n)^m:=by rw [←BL,Nat.mul_comm,BL]
def evs:List K→List K
 |a::_::l=>a::evs l
 |[a]=>[a]
 |[]=>[]
def ods:List K→List K
 |_::b::l=>b::ods l
 |_=>[]
theorem iw: ∀(l:List K) (j:Nat),(evs l).getD j 0=l.getD (2*j) 0
 |[],j=>by simp [evs]
 |[a],0=>rfl
 |[a],j+1=>by simp [evs]
 |a::b::l,0=>rfl
 |a::b::l,j+1=>by rw [show 2*(j+1)=2*j+1+1 by omega];exact iw l j
theorem jc: ∀(l:List K) (j:Nat),(ods l).getD j 0=l.getD (2*j+1) 0
 |[],j=>by simp [ods]
 |[a],j=>by simp [ods]
 |a::b::l,0=>rfl
 |a::b::l,j+1=>by rw [show 2*(j+1)+1=2*j+1+1+1 by omega];exact jc l j
theorem fJ: ∀(l:List K) (m:Nat),l.length=2*m→(evs l).length=m
 |[],m,h=>by simp at h;simp [evs];omega
 |[a],m,h=>by simp at h;omega
 |a::b::l,0,h=>by simp at h
 |a::b::l,m+1,h=>by simp only [evs,List.length_cons];rw [fJ l m (by simp only [List.length_cons] at h;omega)]
theorem g9: ∀(l:List K) (m:Nat),l.length=2*m→(ods l).length=m
 |[],m,h=>by simp at h;simp [ods];omega
 |[a],m,h=>by simp at h;omega
 |a::b::l,0,h=>by simp at h
 |a::b::l,m+1,h=>by simp only [ods,List.length_cons];rw [g9 l m (by simp only [List.length_cons] at h;omega)]
theorem fC {a b:List K} (hl:a.length=b.length) (h: ∀j,j<a.length→a.getD j 0=b.getD j 0):a=b:=by
 refine List.ext_getElem hl fun j h1 h2=> ?_
 have:=h j h1
 simpa [h1,h2] using this
theorem b6u {a b:List K} {j:Nat} (h:j<a.length):(a++b).getD j 0=a.getD j 0:=by simp [List.getElem?_append_left h]
theorem b6B {a b:List K} {j:Nat}:(a++b).getD (a.length+j) 0=b.getD j 0:=by simp [List.getElem?_append_right]
theorem b0R (n j:Nat):(List.replicate n (0:K)).getD j 0=0:=by
 by_cases h:j<n<;>simp [h]
theorem ot {f:Nat→K} {h j:Nat} (hj:j<h):((List.range h).map f).getD j 0=f j:=by simp [hj]
def RV (E O:List K) (w:K) (h:Nat):List K:=(List.range h).map fun j=>E.getD j 0+O.getD j 0*w^j
def Up (E O:List K) (w:K) (h:Nat):List K:=(List.range h).map fun j=>E.getD j 0-O.getD j 0*w^j
theorem MQ (E O:List K) (w:K) (h:Nat):(RV E O w h).length=h:=by simp [RV]
theorem a7x (E O:List K) (w:K) (h:Nat):(Up E O w h).length=h:=by simp [Up]
def V:Nat→List K→K→List K
 |0,l,_=>l
 |k+1,l,w=>RV (V k (evs l) (w*w)) (V k (ods l) (w*w)) w (2^k)++Up (V k (evs l) (w*w)) (V k (ods l) (w*w)) w (2^k)
theorem ta: ∀(k:Nat) (l:List K) (w:K),l.length=2^k→(V k l w).length=2^k
 |0,l,w,h=>h
 |k+1,l,w,h=>by rw [V,List.length_append,MQ,a7x,Nat.pow_succ];omega
theorem a4g {k:Nat} {l:List K} {w:K} {j:Nat} (hj:j<2^k):(V (k+1) l w).getD j 0=(V k (evs l) (w*w)).getD j 0+(V k (ods l) (w*w)).getD j 0*w^j:=by
 rw [V,b6u (by rw [MQ];exact hj),RV,ot hj]
theorem a4r {k:Nat} {l:List K} {w:K} {j:Nat} (hj:j<2^k):(V (k+1) l w).getD (2^k+j) 0=(V k (evs l) (w*w)).getD j 0-(V k (ods l) (w*w)).getD j 0*w^j:=by
 have e:=b6B (a:=RV (V k (evs l) (w*w)) (V k (ods l) (w*w)) w (2^k)) (b:=Up (V k (evs l) (w*w)) (V k (ods l) (w*w)) w (2^k)) (j:=j)
 rw [MQ] at e
 rw [V,e,Up,ot hj]
theorem Am {l:List K} {k:Nat} (h:l.length=2^(k+1)):(evs l).length=2^k:=fJ l _ (by rw [h,Nat.pow_succ];omega)
theorem Au {l:List K} {k:Nat} (h:l.length=2^(k+1)):(ods l).length=2^k:=g9 l _ (by rw [h,Nat.pow_succ];omega)
def cb (r:K) (a b:List K):List K:=List.zipWith (fun x y=>x+r*y) a b
theorem j5 {r:K} {a b:List K} (h:a.length=b.length):(cb r a b).length=a.length:=by simp [cb,h]
theorem hI {r:K}: ∀{a b:List K} (h:a.length=b.length) (j:Nat),(cb r a b).getD j 0=a.getD j 0+r*b.getD j 0
 |[],[],_,j=>by simp [cb];exact kg
 |x::a,y::b,h,0=>by simp [cb]
 |x::a,y::b,h,j+1=>by
  have:=hI (r:=r) (a:=a) (b:=b) (by simpa using h) j
  simpa [cb] using this
theorem b3D {r:K} {a b:List K} {n:Nat} (h:a.length=2*n) (g:b.length=2*n):evs (cb r a b)=cb r (evs a) (evs b):=by
 have h1:=fJ a n h
 have h2:=fJ b n g
 have h3:=fJ (cb r a b) n (by rw [j5 (by omega),h])
 refine fC (by rw [j5 (by omega)];omega) fun j hj=> ?_
 rw [iw,hI (by omega),hI (by omega),iw,iw]
theorem b3q {r:K} {a b:List K} {n:Nat} (h:a.length=2*n) (g:b.length=2*n):ods (cb r a b)=cb r (ods a) (ods b):=by
 have h1:=g9 a n h
 have h2:=g9 b n g
 have h3:=g9 (cb r a b) n (by rw [j5 (by omega),h])
 refine fC (by rw [j5 (by omega)];omega) fun j hj=> ?_
 rw [jc,hI (by omega),hI (by omega),jc,jc]
theorem a6f {r:K}: ∀(k:Nat) (a b:List K) (w:K),a.length=2^k→b.length=2^k→V k (cb r a b) w=cb r (V k a w) (V k b w)
 |0,a,b,w,_,_=>rfl
 |k+1,a,b,w,ha,hb=>by
  have hc:(cb r a b).length=2^(k+1):=by rw [j5 (by omega),ha]
  have h1:=ta (k+1) a w ha
  have h2:=ta (k+1) b w hb
  have ea:=ta k (evs a) (w*w) (Am ha)
  have eb:=ta k (evs b) (w*w) (Am hb)
  have oa:=ta k (ods a) (w*w) (Au ha)
  have ob:=ta k (ods b) (w*w) (Au hb)
  refine fC (by rw [j5 (by omega),ta _ _ _ hc,h1]) fun j hj=> ?_
  rw [ta _ _ _ hc,Nat.pow_succ] at hj
  rw [hI (by omega)]
  have e1:evs (cb r a b)=cb r (evs a) (evs b):=b3D (n:=2^k) (by rw [ha,Nat.pow_succ];omega) (by rw [hb,Nat.pow_succ];omega)
  have e2:ods (cb r a b)=cb r (ods a) (ods b):=b3q (n:=2^k) (by rw [ha,Nat.pow_succ];omega) (by rw [hb,Nat.pow_succ];omega)
  by_cases c:j<2^k
  ·rw [a4g c,a4g c,a4g c,e1,e2,a6f k _ _ _ (Am ha) (Am hb),a6f k _ _ _ (Au ha) (Au hb),hI (by omega),hI (by omega)]
   exact kg
  ·obtain ⟨i,rfl⟩: ∃i,j=2^k+i:=⟨j-2^k,by omega⟩
   have hi:i<2^k:=by omega
   rw [a4r hi,a4r hi,a4r hi,e1,e2,a6f k _ _ _ (Am ha) (Am hb),a6f k _ _ _ (Au ha) (Au hb),hI (by omega),hI (by omega)]
   exact kg
def ev:List K→K→K
 |[],_=>0
 |a::l,x=>a+x*ev l x
theorem Lx: ∀(l:List K) (x:K),ev l x=ev (evs l) (x*x)+x*ev (ods l) (x*x)
 |[],x=>by simp only [ev,evs,ods];exact kg
 |[a],x=>by simp only [ev,evs,ods];exact kg
 |a::b::l,x=>by
  have:=Lx l x
  simp only [ev,evs,ods];exact kg
theorem a7H: ∀(a b:List K) (x:K),ev (a++b) x=ev a x+x^a.length*ev b x
 |[],b,x=>by simp only [List.nil_append,ev,List.length_nil,pw0];exact kg
 |y::a,b,x=>by
  have:=a7H a b x
  simp only [List.cons_append,ev,List.length_cons,pwS];exact kg
def Rt:Nat→K→Prop
 |0,_=>True
 |k+1,w=>w^2^k= -1
theorem Rt.sq {k:Nat} {w:K} (h:Rt (k+1) w):Rt k (w*w):=by
 cases k with
 |zero=>trivial
 |succ k=>
  show (w*w)^2^k= -1
  rw [WU, ←NM,show 2^k+2^k=2^(k+1) by rw [Nat.pow_succ];omega];exact h
theorem b3R: ∀(k:Nat) (l:List K) (w:K),l.length=2^k→Rt k w→ ∀j,j<2^k→(V k l w).getD j 0=ev l (w^j)
 |0,[a],w,_,_,0,_=>by
  show a=a+w^0*0
  exact kg
 |k+1,l,w,hl,hw,j,hj=>by
  have ih1:=b3R k (evs l) (w*w) (Am hl) hw.sq
  have ih2:=b3R k (ods l) (w*w) (Au hl) hw.sq
  rw [Nat.pow_succ] at hj
  by_cases c:j<2^k
  ·rw [a4g c,ih1 j c,ih2 j c,Lx l,WU];exact kg
  ·obtain ⟨i,rfl⟩: ∃i,j=2^k+i:=⟨j-2^k,by omega⟩
   have hi:i<2^k:=by omega
   have hq:w^(2^k+i)= -(w^i):=by rw [NM,show w^2^k= -1 from hw];exact kg
   rw [a4r hi,ih1 i hi,ih2 i hi,Lx l,hq,WU,show-w^i* -w^i=w^i*w^i by exact kg];exact kg
def sc (c:K) (l:List K):List K:=l.map fun a=>c*a
theorem b2U (c:K) (l:List K) (j:Nat):(sc c l).getD j 0=c*l.getD j 0:=by
 by_cases h:j<l.length
 ·simp [sc,h]
 ·simp [sc,h];exact kg
end Go.AI.Fn
set_option linter.unusedVariables false
set_option linter.unusedSimpArgs false
namespace Go.AI.Fn
def j6:Nat→(Nat→K)→K
 |0,_=>0
 |n+1,f=>j6 n f+f n
theorem tA {f g:Nat→K}: ∀n,(∀k,k<n→f k=g k)→j6 n f=j6 n g
 |0,_=>rfl
 |n+1,h=>by rw [j6,j6,tA n fun k hk=>h k (by omega),h n (by omega)]
theorem Y6 (f:Nat→K): ∀n,j6 (2*n) f=j6 n (fun k=>f (2*k))+j6 n (fun k=>f (2*k+1))
 |0=>by show (0:K)=0+0;exact kg
 |n+1=>by
  have:=Y6 f n
  rw [show 2*(n+1)=2*n+1+1 by omega,j6,j6,this,j6,j6];exact kg
def fdK (r:K):List K→List K
 |a::b::l=>(a+r*(b-a))::fdK r l
 |_=>[]
theorem uy (r:K): ∀(l:List K) (m:Nat),l.length=2*m→(fdK r l).length=m
 |[],m,h=>by simp at h;simp [fdK];omega
 |[a],m,h=>by simp at h;omega
 |a::b::l,0,h=>by simp at h
 |a::b::l,m+1,h=>by simp only [fdK,List.length_cons];rw [uy r l m (by simp only [List.length_cons] at h;omega)]
theorem xQ (r:K): ∀(l:List K) (m j:Nat),l.length=2*m→(fdK r l).getD j 0=l.getD (2*j) 0+r*(l.getD (2*j+1) 0-l.getD (2*j) 0)
 |[],m,j,h=>by simp [fdK];exact kg
 |[a],m,j,h=>by simp at h;omega
 |a::b::l,0,j,h=>by simp at h
 |a::b::l,m+1,0,h=>rfl
 |a::b::l,m+1,j+1,h=>by
  rw [show 2*(j+1)=2*j+1+1 by omega]
  exact xQ r l m j (by simp only [List.length_cons] at h;omega)
def cmK (kind:Nat) (v:List K):K:=if kind=1 then v.getD 0 0*v.getD 1 0 else v.getD 0 0*(v.getD 1 0*v.getD 2 0-v.getD 3 0)
def kj (T:List (List K)) (k:Nat):List K:=T.map fun t=>t.getD k 0
def pN (kind:Nat) (T:List (List K)) (n:Nat):K:=j6 n fun k=>cmK kind (kj T k)
def bdK (r:K) (T:List (List K)):List (List K):=T.map (fdK r)
theorem AD (T:List (List K)) (k i:Nat):(kj T k).getD i 0=(T.getD i []).getD k 0:=by
 by_cases h:i<T.length
 ·simp [kj,h]
 ·simp [kj,h]
theorem Li (r:K) (T:List (List K)) (i:Nat):(bdK r T).getD i []=fdK r (T.getD i []):=by
 by_cases h:i<T.length
 ·simp [bdK,h]
 ·simp [bdK,h,fdK]
theorem b2p (a b c d:Nat→K): ∀n, ∃p q s:K, ∀x,j6 n (fun k=>(a k+x*b k)*(c k+x*d k))=p+x*(q+x*s)
 |0=>⟨0,0,0,fun x=>by show (0:K)=_;exact kg⟩
 |n+1=>by
  obtain ⟨p,q,s,h⟩:=b2p a b c d n
  exact ⟨p+a n*c n,q+(a n*d n+b n*c n),s+b n*d n,fun x=>by rw [j6,h];clear h;exact kg⟩
theorem b2c (a b c d e f g h:Nat→K): ∀n, ∃p q s t:K, ∀x,j6 n (fun k=>(a k+x*b k)*((c k+x*d k)*(e k+x*f k)-(g k+x*h k)))=p+x*(q+x*(s+x*t))
 |0=>⟨0,0,0,0,fun x=>by show (0:K)=_;exact kg⟩
 |n+1=>by
  obtain ⟨p,q,s,t,hh⟩:=b2c a b c d e f g h n
  exact ⟨p+a n*(c n*e n-g n),q+(a n*(c n*f n+d n*e n-h n)+b n*(c n*e n-g n)),s+(a n*(d n*f n)+b n*(c n*f n+d n*e n-h n)),t+b n*(d n*f n),fun x=>by rw [j6,hh];clear hh;exact kg⟩
theorem YN {kind:Nat} {T:List (List K)} {n:Nat} (hk:kind=1∨kind=2) (hT: ∀i,i<4→(T.getD i []).length=2*n∨T.getD i []=[]):
 ∃p q s t:K,(kind=1→t=0)∧ ∀x,pN kind (bdK x T) n=p+x*(q+x*(s+x*t)):=by
 have hg: ∀x i k,i<4→(kj (bdK x T) k).getD i 0=(T.getD i []).getD (2*k) 0+x*((T.getD i []).getD (2*k+1) 0-(T.getD i []).getD (2*k) 0):=by
  intro x i k hi
  rw [AD,Li]
  rcases hT i hi with h|h
  ·exact xQ x _ n k h
  ·rw [h];exact xQ x [] 0 k rfl
 rcases hk with rfl|rfl
 ·obtain ⟨p,q,s,h⟩:=b2p (fun k=>(T.getD 0 []).getD (2*k) 0) (fun k=>(T.getD 0 []).getD (2*k+1) 0-(T.getD 0 []).getD (2*k) 0) (fun k=>(T.getD 1 []).getD (2*k) 0) (fun k=>(T.getD 1 []).getD (2*k+1) 0-(T.getD 1 []).getD (2*k) 0) n
  refine ⟨p,q,s,0,fun _=>rfl,fun x=> ?_⟩
  rw [pN,tA n (g:=fun k=>((T.getD 0 []).getD (2*k) 0+x*((T.getD 0 []).getD (2*k+1) 0-(T.getD 0 []).getD (2*k) 0))*((T.getD 1 []).getD (2*k) 0+x*((T.getD 1 []).getD (2*k+1) 0-(T.getD 1 []).getD (2*k) 0))) fun k _=>by rw [cmK,if_pos rfl,hg x 0 k (by omega),hg x 1 k (by omega)],h]
  clear h;exact kg
 ·obtain ⟨p,q,s,t,h⟩:=b2c (fun k=>(T.getD 0 []).getD (2*k) 0) (fun k=>(T.getD 0 []).getD (2*k+1) 0-(T.getD 0 []).getD (2*k) 0) (fun k=>(T.getD 1 []).getD (2*k) 0) (fun k=>(T.getD 1 []).getD (2*k+1) 0-(T.getD 1 []).getD (2*k) 0)
   (fun k=>(T.getD 2 []).getD (2*k) 0) (fun k=>(T.getD 2 []).getD (2*k+1) 0-(T.getD 2 []).getD (2*k) 0) (fun k=>(T.getD 3 []).getD (2*k) 0) (fun k=>(T.getD 3 []).getD (2*k+1) 0-(T.getD 3 []).getD (2*k) 0) n
  refine ⟨p,q,s,t,fun h=>absurd h (by decide),fun x=> ?_⟩
  rw [←h,pN]
  exact tA n fun k _=>by rw [cmK,if_neg (by decide),hg x 0 k (by omega),hg x 1 k (by omega),hg x 2 k (by omega),hg x 3 k (by omega)]
theorem a2q {kind:Nat} {T:List (List K)} {n:Nat} (hT: ∀i,i<4→(T.getD i []).length=2*n∨T.getD i []=[]):pN kind T (2*n)=pN kind (bdK 0 T) n+pN kind (bdK 1 T) n:=by
 have hg: ∀x i k,i<4→(kj (bdK x T) k).getD i 0=(T.getD i []).getD (2*k) 0+x*((T.getD i []).getD (2*k+1) 0-(T.getD i []).getD (2*k) 0):=by
  intro x i k hi
  rw [AD,Li]
  rcases hT i hi with h|h
  ·exact xQ x _ n k h
  ·rw [h];exact xQ x [] 0 k rfl
 have h0: ∀i k,i<4→(kj (bdK 0 T) k).getD i 0=(kj T (2*k)).getD i 0:=fun i k hi=>by rw [hg 0 i k hi,AD];exact kg
 have h1: ∀i k,i<4→(kj (bdK 1 T) k).getD i 0=(kj T (2*k+1)).getD i 0:=fun i k hi=>by rw [hg 1 i k hi,AD];exact kg
 have c0: ∀k,cmK kind (kj (bdK 0 T) k)=cmK kind (kj T (2*k)):=fun k=>by simp only [cmK,h0 0 k (by omega),h0 1 k (by omega),h0 2 k (by omega),h0 3 k (by omega)]
 have c1: ∀k,cmK kind (kj (bdK 1 T) k)=cmK kind (kj T (2*k+1)):=fun k=>by simp only [cmK,h1 0 k (by omega),h1 1 k (by omega),h1 2 k (by omega),h1 3 k (by omega)]
 unfold pN
 rw [Y6,tA n fun k _=>(c0 k).symm,tA n fun k _=>(c1 k).symm]
end Go.AI.Fn
set_option linter.unusedVariables false
set_option linter.unusedSimpArgs false
namespace Go.AI.Fn
end Go.AI.Fn
set_option linter.unusedVariables false
namespace Go.AI.Fn
def ltE (y x:tR):Prop:=y.Row<x.Row∨(y.Row=x.Row∧y.Col<x.Col)
def inE (R C:Int) (x:tR):Prop:=(0≤x.Row∧x.Row≤R-1)∧(0≤x.Col∧x.Col≤C-1)∧1≤x.Value∧x.Value≤2130706432
def b7g (l:List tR) (R C:Int) (t:Nat):Prop:= ∃x,l[t]? =some x∧(¬inE R C x∨(0<t∧ ∃y,l[t-1]? =some y∧ ¬ltE y x))
open Classical in
noncomputable def b3T (l:List tR) (R C:Int):Bool:=decide (l.length≤200∧ ∀t, ¬b7g l R C t)
theorem b6P (n a b:Int):ye n a b=some (decide (a≤n∧n≤b)):=by
 unfold ye
 by_cases h:a≤n
 ·rw [brd h];simp [h]
 ·rw [brn h];simp [h]
theorem b6d (n a b:Int):gG n a b=some (decide (a≤n∧n≤b)):=by
 unfold gG
 by_cases h:a≤n
 ·rw [brd h];simp [h]
 ·rw [brn h];simp [h]
end Go.AI.Fn
set_option linter.unusedVariables false
namespace Go.AI.Fn
noncomputable def b7Q (s:a0a):Bool:=
 decide (1≤s.Rows∧s.Rows≤5)&&(decide (2≤s.Cols∧s.Cols≤5)&&(decide (0≤s.Publics∧s.Publics≤bX .i64 1 (s.Cols-1)-1)&&
  (b3T s.A (bX .i64 1 s.Rows) (bX .i64 1 s.Cols)&&(b3T s.B (bX .i64 1 s.Rows) (bX .i64 1 s.Cols)&&b3T s.C (bX .i64 1 s.Rows) (bX .i64 1 s.Cols)))))
def setB (t:Setting):Bool:=decide (1≤t.Rate∧t.Rate≤3)&&(decide (1≤t.Queries∧t.Queries≤8)&&decide (0≤t.Grind∧t.Grind≤12))
theorem mN (t:Setting):hZ t=some (setB t):=by
 unfold hZ setB
 simp only [b6P,obs]
 cases decide (1≤t.Rate∧t.Rate≤3)<;>cases decide (1≤t.Queries∧t.Queries≤8)<;>rfl
theorem tg (t:Setting):jJ t=some (setB t):=by
 unfold jJ setB
 simp only [b6d,obs]
 cases decide (1≤t.Rate∧t.Rate≤3)<;>cases decide (1≤t.Queries∧t.Queries≤8)<;>rfl
theorem n9 {t:Setting} (h:setB t=true):(1≤t.Rate∧t.Rate≤3)∧(1≤t.Queries∧t.Queries≤8)∧0≤t.Grind∧t.Grind≤12:=by
 unfold setB at h
 simpa only [Bool.and_eq_true,decide_eq_true_eq] using h
end Go.AI.Fn
set_option linter.unusedVariables false
set_option linter.unusedSimpArgs false
namespace Go.AI.Fn
theorem a2s {k:Nat} (h:k≤62):bX .i64 1 (k:Int)=((2^k:Nat):Int):=by
 have h2: ∀k:Nat,k<63→(2:Int)^k≤4611686018427387904∧0<(2:Int)^k:=by decide
 obtain ⟨h3,h4⟩:=h2 k (by omega)
 show IntKind.wrap .i64 (1*2^(min ((k:Int).toNat) 64))=_
 rw [Int.toNat_natCast,Nat.min_eq_left (by omega),Int.one_mul,aa _ (by omega) (by omega)]
 simp
end Go.AI.Fn
set_option linter.unusedVariables false
namespace Go.AI.Fn
theorem Sp {code:List UInt8} (h:code.length≤1048576): ∃t,pG code=some t∧(1≤t.Rate∧t.Rate≤2)∧(1≤t.Queries∧t.Queries≤3)∧0≤t.Grind∧t.Grind≤2:=by
 unfold pG k9
 obtain ⟨m,e1,s1⟩:=HX (show code.length≤1048600 by omega)
 rw [e1]
 simp only [obs]
 obtain ⟨a,m1,f1,a0,a1,_,s2⟩:=ld (n:=2) s1 (by decide)
 obtain ⟨b,m2,f2,b0,b1,_,s3⟩:=ld (n:=3) s2 (by decide)
 obtain ⟨c,m3,f3,c0,c1,_,s4⟩:=ld (n:=3) s3 (by decide)
 have:=a1 (by omega)
 have:=b1 (by omega)
 have:=c1 (by omega)
 rw [f1]
 simp only [obs]
 rw [f2]
 simp only [obs]
 rw [f3]
 simp only [obs]
 rw [aa (1+a) (by omega) (by omega),aa (1+b) (by omega) (by omega)]
 exact ⟨_,rfl,by dsimp only;omega,by dsimp only;omega,by dsimp only;omega⟩
end Go.AI.Fn
set_option linter.unusedVariables false
set_option linter.unusedSimpArgs false
namespace Go.AI.Fn
theorem a9J: ∀k:Nat,k≤9→isP (2^k)=true:=by decide
theorem XH {k:Nat} {most:Int} (h:k≤9) (hm:((2^k:Nat):Int)≤most):a35 ((2^k:Nat):Int) most=true:=by
 have:1≤2^k:=Nat.one_le_two_pow
 unfold a35
 rw [decide_eq_true (by omega),decide_eq_true hm,Int.toNat_natCast,a9J k h];rfl
theorem Fl {l:List Ext} (hl:l.length≤1099511627776):mu l=some (a35 (l.length:Int) 64&&l.all ru):=by
 unfold mu
 rw [Uk (by decide),obs,sj hl]
 cases a35 (l.length:Int) 64<;>rfl
theorem Gx {l:List Ext} (hl:l.length≤1099511627776):rQ l=some (decide (l.length≤6)&&l.all ru):=by
 unfold rQ
 rw [sj hl]
 by_cases h:l.length≤6
 ·rw [brd (by omega),decide_eq_true h];rfl
 ·rw [brn (by omega),decide_eq_false h];rfl
theorem UD {t p:List Ext} (ht:eD t) (hp:eD p) (hn:p.length≤6) (hl:t.length=2^p.length):sf t p=some (a3i t (eqT p),0):=by
 have h6:=Zd p.length hn
 unfold sf
 rw [brn (by omega),brn (by omega),Fl (by omega),obs,Gx (by omega),I6.2 ht,I6.2 hp,hl,XH (by omega) (by omega),decide_eq_true hn]
 simp only [Bool.and_self,Bool.not_true,ak,obs]
 rw [brd (by omega),a2s (by omega),fw rfl,F7 hp hn,obs,a5c ht (YL _) (by rw [Lp];omega) (by omega),obs]
end Go.AI.Fn
set_option linter.unusedVariables false
set_option linter.unusedSimpArgs false
namespace Go.AI.Fn
def kvv (T:List (List K)):List (List Ext):=T.map kv
theorem gE (T:List (List K)):(kvv T).length=T.length:=by simp [kvv]
theorem vD {T:List (List K)} {j:Nat} (h:j<T.length):atL (kvv T) (j:Int)=some (kv (T.getD j [])):=by rw [bS (by rw [gE];exact h)];simp [kvv,h]
theorem VO (T:List (List K)) (t:List K):kvv (T++[t])=kvv T++[kv t]:=by simp [kvv]
theorem X4 {r:K} {l:List K} {j:Nat} (m:Nat) (h:l.length=2*m) (hj:j<m):(fdK r l).take (j+1)=(fdK r l).take j++[l.getD (2*j) 0+r*(l.getD (2*j+1) 0-l.getD (2*j) 0)]:=by
 have hl:=uy r l m h
 rw [cr (by omega), ←xQ r l m j h];simp [show j<(fdK r l).length by omega]
theorem kvS (l:List K) (x:K):kv (l++[x])=kv l++[x.1]:=by simp [kv]
theorem Ov {l:List K} {m:Nat} (r:K) (h:l.length=2*m) (hm:m≤1000):pw (kv l) r.1=some (kv (fdK r l)):=by
 have hl:=uy r l m h
 unfold pw
 have key:=an (step:=ey (kv l) r.1.A r.1.B) (fun j=>(kv ((fdK r l).take j),((2*j:Nat):Int))) m (e:=(kv (fdK r l),(l.length:Int),false)) (fun j hj=> ?_) ?_
 ·have key':Loop (ey (kv l) r.1.A r.1.B) ([],0)=_:=key
  rw [key'];rfl
 ·simp only [ey]
  rw [brd (by rw [am];omega),dQ (by omega),obs,aa _ (by omega) (by omega),show (((2*j:Nat):Int))+1=((2*j+1:Nat):Int) by omega,dQ (by omega),obs]
  unfold C3
  rw [ir (Subtype.property _) (Subtype.property _),obs,show Ext.mk r.1.A r.1.B=r.1 from rfl,dP r.2 (qv _ _),obs,gL (Subtype.property _) (pp _ _),obs,obs,al (by rw [List.length_append,am,List.length_take,List.length_singleton];omega),
   aa _ (by omega) (by omega),show (((2*j:Nat):Int))+2=((2*(j+1):Nat):Int) by omega,X4 m h hj,kvS];rfl
 ·simp only [ey]
  rw [brn (by rw [am];omega),decide_eq_false (by rw [am];omega),List.take_of_length_le (by omega),h]
theorem a3Q {l:List K} {m:Nat} (r:K) (h:l.length=2*m) (hm:m≤1000):wW (kv l) r.1=some (kv (fdK r l)):=by
 have hl:=uy r l m h
 unfold wW
 have key:=an (step:=gu (kv l) r.1.A r.1.B) (fun j=>(kv ((fdK r l).take j),((2*j:Nat):Int))) m (e:=(kv (fdK r l),(l.length:Int),false)) (fun j hj=> ?_) ?_
 ·have key':Loop (gu (kv l) r.1.A r.1.B) ([],0)=_:=key
  rw [key'];rfl
 ·simp only [gu]
  rw [brd (by rw [am];omega),dQ (by omega),obs,aa _ (by omega) (by omega),show (((2*j:Nat):Int))+1=((2*j+1:Nat):Int) by omega,dQ (by omega),obs,obs,
   nN (Subtype.property _) (Subtype.property _),obs,show Ext.mk r.1.A r.1.B=r.1 from rfl,dC r.2 (qv _ _),obs,ke (Subtype.property _) (pp _ _),obs,al (by rw [List.length_append,am,List.length_take,List.length_singleton];omega),
   aa _ (by omega) (by omega),show (((2*j:Nat):Int))+2=((2*(j+1):Nat):Int) by omega,X4 m h hj,kvS];rfl
 ·simp only [gu]
  rw [brn (by rw [am];omega),decide_eq_false (by rw [am];omega),List.take_of_length_le (by omega),h]
structure OkT (kind n:Nat) (T:List (List K)):Prop where
 kd:kind=1∨kind=2
 len:T.length=2*kind
 tab: ∀i,i<T.length→(T.getD i []).length=n
theorem OkT.bd {kind n:Nat} {T:List (List K)} (h:OkT kind (2*n) T) (r:K):OkT kind n (bdK r T):=⟨h.kd,by simp [bdK,h.len],fun i hi=>by
 rw [Li]
 exact uy r _ n (h.tab i (by simpa [bdK] using hi))⟩
theorem a1b {r:K} {T:List (List K)} {j:Nat} (hj:j<T.length):(bdK r T).take (j+1)=(bdK r T).take j++[fdK r (T.getD j [])]:=by
 rw [cr (by simpa [bdK] using hj)];simp [bdK,hj]
variable {kind n:Nat} {T:List (List K)}
theorem EE (h:OkT kind (2*n) T) (hn:n≤1000) (r:K):Ce (kvv T) r.1=some (kvv (bdK r T)):=by
 have hl:=h.len
 have hk:=h.kd
 have hb:(bdK r T).length=T.length:=by simp [bdK]
 unfold Ce
 have key:=an (step:=jt (kvv T) (T.length:Int) r.1.A r.1.B) (fun j=>(kvv ((bdK r T).take j),(j:Int))) T.length (e:=(kvv (bdK r T),(T.length:Int),false)) (fun j hj=> ?_) ?_
 ·have key':Loop (jt (kvv T) (T.length:Int) r.1.A r.1.B) ([],0)=_:=key
  rw [gE,key'];rfl
 ·simp only [jt]
  rw [brd (by omega),vD hj,obs,show Ext.mk r.1.A r.1.B=r.1 from rfl,Ov r (h.tab j hj) hn,obs,al (by rw [List.length_append,gE,List.length_take,List.length_singleton];omega),aa _ (by omega) (by omega),a1b hj,VO];rfl
 ·simp only [jt]
  rw [brn (by omega),decide_eq_false (by omega),List.take_of_length_le (by omega)]
theorem RH (h:OkT kind (2*n) T) (hn:n≤1000) (r:K):si (kvv T) r.1=some (kvv (bdK r T)):=by
 have hl:=h.len
 have hk:=h.kd
 have hb:(bdK r T).length=T.length:=by simp [bdK]
 unfold si
 have key:=an (step:=gz (kvv T) r.1.A r.1.B) (fun j=>(kvv ((bdK r T).take j),(j:Int))) T.length (e:=(kvv (bdK r T),(T.length:Int),false)) (fun j hj=> ?_) ?_
 ·have key':Loop (gz (kvv T) r.1.A r.1.B) ([],0)=_:=key
  rw [key'];rfl
 ·simp only [gz,gE]
  rw [brd (by omega),vD hj,obs,show Ext.mk r.1.A r.1.B=r.1 from rfl,a3Q r (h.tab j hj) hn,obs,al (by rw [List.length_append,gE,List.length_take,List.length_singleton];omega),aa _ (by omega) (by omega),a1b hj,VO];rfl
 ·simp only [gz,gE]
  rw [brn (by omega),decide_eq_false (by omega),List.take_of_length_le (by omega)]
theorem SF {v:List K} (hk:kind=1∨kind=2) (hv:v.length=2*kind):wS (kind:Int) (kv v)=some (cmK kind v).1:=by
 unfold wS cmK
 have k0:=dQ (l:=v) (j:=0) (by omega)
 have k1:=dQ (l:=v) (j:=1) (by omega)
 rw [show ((0:Nat):Int)=0 from rfl] at k0
 rw [show ((1:Nat):Int)=1 from rfl] at k1
 rcases hk with rfl|rfl
 ·rw [bre (by omega),k0,obs,k1,obs,dP (Subtype.property _) (Subtype.property _),if_pos rfl];rfl
 ·have k2:=dQ (l:=v) (j:=2) (by omega)
  have k3:=dQ (l:=v) (j:=3) (by omega)
  rw [show ((2:Nat):Int)=2 from rfl] at k2
  rw [show ((3:Nat):Int)=3 from rfl] at k3
  rw [AL (by omega),k0,obs,k1,obs,k2,obs,dP (Subtype.property _) (Subtype.property _),obs,k3,obs,ir (pp _ _) (Subtype.property _),obs,dP (Subtype.property _) (qv _ _),if_neg (by decide)];rfl
theorem TK {v:List K} (hk:kind=1∨kind=2) (hv:v.length=2*kind):nk (kind:Int) (kv v)=some (cmK kind v).1:=by
 unfold nk cmK
 have k0:=dQ (l:=v) (j:=0) (by omega)
 have k1:=dQ (l:=v) (j:=1) (by omega)
 rw [show ((0:Nat):Int)=0 from rfl] at k0
 rw [show ((1:Nat):Int)=1 from rfl] at k1
 rcases hk with rfl|rfl
 ·rw [bre (by omega),k0,obs,k1,obs,dC (Subtype.property _) (Subtype.property _),if_pos rfl];rfl
 ·have k2:=dQ (l:=v) (j:=2) (by omega)
  have k3:=dQ (l:=v) (j:=3) (by omega)
  rw [show ((2:Nat):Int)=2 from rfl] at k2
  rw [show ((3:Nat):Int)=3 from rfl] at k3
  rw [AL (by omega),k0,obs,k1,obs,k2,obs,dC (Subtype.property _) (Subtype.property _),obs,k3,obs,nN (pp _ _) (Subtype.property _),obs,dC (Subtype.property _) (qv _ _),if_neg (by decide)];rfl
theorem WI {k j:Nat} (hj:j<T.length):(kj T k).take (j+1)=(kj T k).take j++[(T.getD j []).getD k 0]:=by
 rw [cr (by simpa [kj] using hj)];simp [kj,hj]
theorem xe (T:List (List K)) (k:Nat):(kj T k).length=T.length:=by simp [kj]
theorem ZG (h:OkT kind n T) (hn:n≤1000):GJ (kind:Int) (kvv T)=some (pN kind T n).1:=by
 have hl:=h.len
 have hk:=h.kd
 have k0:=vD (T:=T) (j:=0) (by omega)
 rw [show ((0:Nat):Int)=0 from rfl] at k0
 unfold GJ
 rw [k0,obs,am,h.tab 0 (by omega)]
 have key:=an (step:=jD (kind:Int) (kvv T) (n:Int) 0 0) (fun j=>((j:Int),(j6 j fun k=>cmK kind (kj T k)).1.A,(j6 j fun k=>cmK kind (kj T k)).1.B)) n (e:=((n:Int),false,(pN kind T n).1.A,(pN kind T n).1.B)) (fun j hj=> ?_) ?_
 ·have key':Loop (jD (kind:Int) (kvv T) (n:Int) 0 0) (0,0,0)=_:=key
  rw [key'];rfl
 ·simp only [jD]
  have inner: ∀c7 c8,Loop (ju (kind:Int) (kvv T) (j:Int) (n:Int) (j:Int) (kvv T) (((kvv T).length:Nat):Int) 0 0 c7 c8) ([],0)=some (kv (kj T j),(T.length:Int),false):=fun c7 c8=>by
   have key:=an (step:=ju (kind:Int) (kvv T) (j:Int) (n:Int) (j:Int) (kvv T) (((kvv T).length:Nat):Int) 0 0 c7 c8) (fun i=>(kv ((kj T j).take i),(i:Int))) T.length (e:=(kv (kj T j),(T.length:Int),false)) (fun i hi=> ?_) ?_
   ·exact key
   ·simp only [ju,gE]
    rw [brd (by omega),vD hi,obs,dQ (by rw [h.tab i hi];exact hj),obs,al (by rw [List.length_append,am,List.length_take,xe,List.length_singleton];omega),aa _ (by omega) (by omega),WI hi,kvS];rfl
   ·simp only [ju,gE]
    rw [brn (by omega),decide_eq_false (by omega),List.take_of_length_le (by rw [xe];omega)]
  rw [brd (by omega),inner,obs,SF hk (by rw [xe,hl]),obs,gL (Subtype.property (j6 j fun k=>cmK kind (kj T k))) (Subtype.property _),obs,aa _ (by omega) (by omega)];rfl
 ·simp only [jD]
  rw [brn (by omega),decide_eq_false (by omega)];rfl
theorem b0n (h:OkT kind n T) {j:Nat} (hj:j<n) (hn:n≤1000):Hc (kind:Int) (kvv T) (j:Int)=some (cmK kind (kj T j)).1:=by
 have hl:=h.len
 have hk:=h.kd
 unfold Hc
 have key:=an (step:=jz (kind:Int) (kvv T) (j:Int) 0 0) (fun i=>(kv ((kj T j).take i),(i:Int))) T.length (e:=(kv (kj T j),(T.length:Int),false)) (fun i hi=> ?_) ?_
 ·have key':Loop (jz (kind:Int) (kvv T) (j:Int) 0 0) ([],0)=_:=key
  rw [key',obs]
  dsimp only
  rw [TK hk (by rw [xe,hl])];rfl
 ·simp only [jz,gE]
  rw [brd (by omega),vD hi,obs,dQ (by rw [h.tab i hi];exact hj),obs,al (by rw [List.length_append,am,List.length_take,xe,List.length_singleton];omega),aa _ (by omega) (by omega),WI hi,kvS];rfl
 ·simp only [jz,gE]
  rw [brn (by omega),decide_eq_false (by omega),List.take_of_length_le (by rw [xe];omega)]
theorem a5D (h:OkT kind n T) (hn:n≤1000):Ac (kind:Int) (kvv T)=some (pN kind T n).1:=by
 have hl:=h.len
 have hk:=h.kd
 have k0:=vD (T:=T) (j:=0) (by omega)
 rw [show ((0:Nat):Int)=0 from rfl] at k0
 unfold Ac
 have key:=an (step:=ic (kind:Int) (kvv T) 0 0) (fun j=>((j:Int),(j6 j fun k=>cmK kind (kj T k)).1.A,(j6 j fun k=>cmK kind (kj T k)).1.B)) n (e:=((n:Int),false,(pN kind T n).1.A,(pN kind T n).1.B)) (fun j hj=> ?_) ?_
 ·have key':Loop (ic (kind:Int) (kvv T) 0 0) (0,0,0)=_:=key
  rw [key'];rfl
 ·simp only [ic]
  rw [k0,obs,am,h.tab 0 (by omega),brd (by omega),b0n h hj hn,obs,ke (Subtype.property (j6 j fun k=>cmK kind (kj T k))) (Subtype.property _),obs,aa _ (by omega) (by omega)];rfl
 ·simp only [ic]
  rw [k0,obs,am,h.tab 0 (by omega),brn (by omega),decide_eq_false (by omega)];rfl
def rdK (kind:Nat) (T:List (List K)) (n:Nat):List K:=(List.range (kind+2)).map fun (x:Nat)=>pN kind (bdK (kF (x:Int)) T) n
theorem BX (kind:Nat) (T:List (List K)) (n:Nat):(rdK kind T n).length=kind+2:=by simp [rdK]
theorem Rq {x:Nat} (h:x≤10):Ext.mk (x:Int) 0=(kF (x:Int)).1:=(wg ⟨by omega,by omega⟩).symm
theorem JZ (hk:kind=1∨kind=2):lL (kind:Int)=some ((kind+1:Nat):Int):=by
 unfold lL
 rw [oh,obs,decide_eq_true (by omega),decide_eq_true (by omega),Bool.and_self,Bool.not_true,ak,aa _ (by omega) (by omega)];rfl
theorem GV (h:OkT kind (2*n) T) (hn:n≤1000):nH (kind:Int) (kvv T)=some (kv (rdK kind T n)):=by
 have hk:=h.kd
 unfold nH
 rw [JZ hk,obs,aa _ (by omega) (by omega),show (((kind+1:Nat):Int))+1=((kind+2:Nat):Int) by omega]
 have key:=an (step:=gn (kind:Int) (kvv T) ((kind+2:Nat):Int)) (fun j=>(kv ((List.range j).map fun (x:Nat)=>pN kind (bdK (kF (x:Int)) T) n),(j:Int))) (kind+2) (e:=(kv (rdK kind T n),((kind+2:Nat):Int),false)) (fun j hj=> ?_) ?_
 ·have key':Loop (gn (kind:Int) (kvv T) ((kind+2:Nat):Int)) ([],0)=_:=key
  rw [key'];rfl
 ·simp only [gn]
  rw [brd (by omega),Rq (by omega),EE h hn,obs,ZG (h.bd _) hn,obs,al (by rw [List.length_append,am,List.length_map,List.length_range,List.length_singleton];omega),aa _ (by omega) (by omega),List.range_succ,List.map_append,List.map_singleton,kvS];rfl
 ·simp only [gn]
  rw [brn (by omega),decide_eq_false (by omega)];rfl
theorem YE (h:OkT kind (2*n) T) (hn:n≤1000):nM (kind:Int) (kvv T)=some (kv (rdK kind T n)):=by
 have hk:=h.kd
 unfold nM
 have key:=an (step:=fl (kind:Int) (kvv T)) (fun j=>(kv ((List.range j).map fun (x:Nat)=>pN kind (bdK (kF (x:Int)) T) n),(j:Int))) (kind+2) (e:=(kv (rdK kind T n),((kind+2:Nat):Int),false)) (fun j hj=> ?_) ?_
 ·have key':Loop (fl (kind:Int) (kvv T)) ([],0)=_:=key
  rw [key'];rfl
 ·simp only [fl,pg]
  rw [obs,aa ((kind:Int)+1) (by omega) (by omega),brd (by omega),Cm,obs,show eN (j:Int)=(kF (j:Int)).1 from Rq (by omega),RH h hn,obs,a5D (h.bd _) hn,obs,al (by rw [List.length_append,am,List.length_map,List.length_range,List.length_singleton];omega),aa _ (by omega) (by omega),List.range_succ,List.map_append,List.map_singleton,kvS];rfl
 ·simp only [fl,pg]
  rw [obs,aa ((kind:Int)+1) (by omega) (by omega),brn (by omega),decide_eq_false (by omega)];rfl
end Go.AI.Fn
set_option linter.unusedVariables false
set_option linter.unusedSimpArgs false
namespace Go.AI.Fn
theorem a6S (a:Int): ∀n:Nat,K.n (a^n)=K.n a^n
 |0=>by rw [Int.pow_zero,pw0];rfl
 |n+1=>by rw [Int.pow_succ,K.n_mul,a6S a n,pwS]
theorem b4d (a:Int):K.n (a%2130706433)=K.n a:=K.ext (by show eN (a%2130706433%2130706433)=eN (a%2130706433);rw [Int.emod_emod])
theorem b2h (a:Int) (n:Nat):kF (pF a n)=kF a^n:=by rw [kF,pF,b4d,a6S];rfl
theorem WY (a:Int):kF (iF a)=kF a^2130706431:=by rw [iF,b2h]
theorem a2S (a b:Int):kF (iF (mF a b))=kF (iF a)*kF (iF b):=by rw [WY,WY,WY,Ka,YY]
theorem a3V:kF (iF 1)=1:=by rw [WY,show kF 1=1 from rfl,RR]
def lnI (i:Nat) (x v:K):Nat→K
 |0=>v
 |k+1=>if k=i then lnI i x v k else lnI i x v k*(x-kF (k:Int))*kF (iF (sF (i:Int) (k:Int)))
def lnP (i:Nat) (x v:K):Nat→K
 |0=>v
 |k+1=>if k=i then lnP i x v k else lnP i x v k*(x-kF (k:Int))
def lnD (i:Nat):Nat→Int
 |0=>1
 |k+1=>if k=i then lnD i k else mF (lnD i k) (sF (i:Int) (k:Int))
theorem YR (i:Nat): ∀k,okF (lnD i k)
 |0=>a9j
 |k+1=>by unfold lnD;split;exact YR i k;exact jg _ _
theorem b2g (i:Nat) (x v:K): ∀k,lnI i x v k=lnP i x v k*kF (iF (lnD i k))
 |0=>by rw [lnI,lnP,lnD,a3V];exact kg
 |k+1=>by
  have ih:=b2g i x v k
  unfold lnI lnP lnD
  split
  ·exact ih
  ·rw [a2S,ih];exact kg
def lnK (vs:List K) (x:K):K:=j6 vs.length fun i=>lnI i x (vs.getD i 0) vs.length
theorem a89 {x:Nat} (h:x≤10):Ext.mk (x:Int) 0=(kF (x:Int)).1:=(wg ⟨by omega,by omega⟩).symm
theorem V9 {vs:List K} (x:K) (hl:vs.length≤8):Bn (kv vs) x.1=some (lnK vs x).1:=by
 unfold Bn
 have key:=an (step:=ie (kv vs) (kv vs) (vs.length:Int) x.1.A x.1.B 0 0) (fun j=>((j:Int),(j6 j fun i=>lnI i x (vs.getD i 0) vs.length).1.A,(j6 j fun i=>lnI i x (vs.getD i 0) vs.length).1.B)) vs.length (e:=((vs.length:Int),false,(lnK vs x).1.A,(lnK vs x).1.B)) (fun j hj=> ?_) ?_
 ·have key':Loop (ie (kv vs) (kv vs) (vs.length:Int) x.1.A x.1.B 0 0) (0,0,0)=_:=key
  rw [am,key'];rfl
 ·simp only [ie]
  have inner: ∀c9 c10 c11 c12 c13 c14,Loop (ia (kv vs) (j:Int) (kv vs) (vs.length:Int) (j:Int) (((kv vs).length:Nat):Int) x.1.A x.1.B c9 c10 c11 c12 c13 c14) (0,(vs.getD j 0).1.A,(vs.getD j 0).1.B)=some ((vs.length:Int),false,(lnI j x (vs.getD j 0) vs.length).1.A,(lnI j x (vs.getD j 0) vs.length).1.B):=fun c9 c10 c11 c12 c13 c14=>by
   refine an (step:=ia (kv vs) (j:Int) (kv vs) (vs.length:Int) (j:Int) (((kv vs).length:Nat):Int) x.1.A x.1.B c9 c10 c11 c12 c13 c14) (fun k=>((k:Int),(lnI j x (vs.getD j 0) k).1.A,(lnI j x (vs.getD j 0) k).1.B)) vs.length (fun k hk=> ?_) ?_
   ·simp only [ia,am]
    rw [brd (by omega)]
    by_cases c:k=j
    ·rw [fw (by omega),aa _ (by omega) (by omega),lnI,if_pos c];rfl
    ·rw [brb (by omega),a89 (by omega),show Ext.mk x.1.A x.1.B=x.1 from rfl,ir x.2 (Subtype.property _),obs,dP (Subtype.property (lnI j x (vs.getD j 0) k)) (qv _ _),obs,LP ⟨by omega,by omega⟩ ⟨by omega,by omega⟩,obs,yG (b2v _ _),obs,uB (pp _ _) (show okF (iF (sF (j:Int) (k:Int))) from Na _ _),obs,aa _ (by omega) (by omega),lnI,if_neg c,a0u, ←wg (a:=iF (sF (j:Int) (k:Int))) (Na _ _)];rfl
   ·simp only [ia,am]
    rw [brn (by omega),decide_eq_false (by omega)]
  rw [brd (by omega),dQ hj,obs,inner,obs,gL (Subtype.property (j6 j fun i=>lnI i x (vs.getD i 0) vs.length)) (Subtype.property (lnI j x (vs.getD j 0) vs.length)),obs,aa _ (by omega) (by omega)];rfl
 ·simp only [ie]
  rw [brn (by omega),decide_eq_false (by omega)];rfl
theorem a2A {vs:List K} (x:K) (hl:vs.length≤8):xa (kv vs) x.1=some (lnK vs x).1:=by
 unfold xa
 have key:=an (step:=gi (kv vs) x.1.A x.1.B 0 0) (fun j=>((j:Int),(j6 j fun i=>lnI i x (vs.getD i 0) vs.length).1.A,(j6 j fun i=>lnI i x (vs.getD i 0) vs.length).1.B)) vs.length (e:=((vs.length:Int),false,(lnK vs x).1.A,(lnK vs x).1.B)) (fun j hj=> ?_) ?_
 ·have key':Loop (gi (kv vs) x.1.A x.1.B 0 0) (0,0,0)=_:=key
  rw [key'];rfl
 ·simp only [gi,am]
  have inner: ∀c9 c10 c11 c12,Loop (gj (kv vs) (j:Int) x.1.A x.1.B c9 c10 c11 c12) (1,0,(vs.getD j 0).1.A,(vs.getD j 0).1.B)=some (lnD j vs.length,(vs.length:Int),false,(lnP j x (vs.getD j 0) vs.length).1.A,(lnP j x (vs.getD j 0) vs.length).1.B):=fun c9 c10 c11 c12=>by
   refine an (step:=gj (kv vs) (j:Int) x.1.A x.1.B c9 c10 c11 c12) (fun k=>(lnD j k,(k:Int),(lnP j x (vs.getD j 0) k).1.A,(lnP j x (vs.getD j 0) k).1.B)) vs.length (fun k hk=> ?_) ?_
   ·simp only [gj,am]
    rw [brd (by omega)]
    by_cases c:k=j
    ·rw [fw (by omega),aa _ (by omega) (by omega),lnP,lnD,if_pos c,if_pos c];rfl
    ·rw [brb (by omega),Cm,obs,show eN (k:Int)=(kF (k:Int)).1 from a89 (by omega),show Ext.mk x.1.A x.1.B=x.1 from rfl,nN x.2 (Subtype.property _),obs,dC (Subtype.property (lnP j x (vs.getD j 0) k)) (qv _ _),obs,Oy ⟨by omega,by omega⟩ ⟨by omega,by omega⟩,obs,kX (YR j k) (b2v _ _),obs,aa _ (by omega) (by omega),lnP,lnD,if_neg c,if_neg c];rfl
   ·simp only [gj,am]
    rw [brn (by omega),decide_eq_false (by omega)]
  unfold iA
  rw [brd (by omega),dQ hj,obs,inner,obs]
  dsimp only
  rw [xZ (YR j _),obs,obs,Cm,obs, ←wg (a:=iF (lnD j vs.length)) (Na _ _),dC (Subtype.property (lnP j x (vs.getD j 0) vs.length)) (Subtype.property _),obs,
   show eM (Ext.mk (lnP j x (vs.getD j 0) vs.length).1.A (lnP j x (vs.getD j 0) vs.length).1.B) (kF (iF (lnD j vs.length))).1=(lnI j x (vs.getD j 0) vs.length).1 from congrArg Subtype.val (b2g j x _ _).symm,
   ke (Subtype.property (j6 j fun i=>lnI i x (vs.getD i 0) vs.length)) (Subtype.property (lnI j x (vs.getD j 0) vs.length)),obs,aa _ (by omega) (by omega)];rfl
 ·simp only [gi,am]
  rw [brn (by omega),decide_eq_false (by omega)];rfl
def sqJ:Nat→Int→Int
 |0,x=>x
 |n+1,x=>sqJ n (mF x x)
theorem a81: ∀(n:Nat) (x:Int),kF (sqJ n x)=kF x^2^n
 |0,x=>by rw [sqJ,Nat.pow_zero,pw1]
 |n+1,x=>by rw [sqJ,a81 n,Ka,WU, ←NC,Nat.pow_succ,Nat.mul_comm]
theorem b4V {a:Int} (h:sqJ 24 (pF a 127)=1):kF (iF a)*kF a=1:=by
 rw [WY, ←pwS,show 2130706431+1=127*2^24 by decide,BL, ←b2h, ←a81,h];rfl
theorem ivs: ∀i:Nat,i<4→ ∀k:Nat,k<4→k≠i→sqJ 24 (pF (sF (i:Int) (k:Int)) 127)=1:=by decide+kernel
theorem b6r (a b:Int):kF (sF a b)=kF a-kF b:=K.ext (BH (by show (a-b)%2130706433%2130706433=(a%2130706433-b%2130706433)%2130706433;omega) rfl)
theorem iv (i k:Nat) (hi:i<4) (hk:k<4) (h:k≠i):kF (iF (sF (i:Int) (k:Int)))*(kF (i:Int)-kF (k:Int))=1:=by
 have:=b4V (ivs i hi k hk h)
 rw [b6r] at this;exact this
theorem k0v:kF ((0:Nat):Int)=0:=rfl
theorem k1v:kF ((1:Nat):Int)=1:=rfl
theorem k2v:kF ((2:Nat):Int)=2:=rfl
theorem k3v:kF ((3:Nat):Int)=3:=rfl
theorem lr2 {p q s x w:K} (hw:w*2=1):(0+p*(x-1)*(-1)*(x-2)*(-w)+(p+1*(q+1*s))*x*1*(x-2)*(-1))+(p+2*(q+2*s))*x*w*(x-1)*1=p+x*(q+x*s):=by exact kg
theorem kmA (a b c:K):a*b*c=a*(b*c):=kg
theorem b7o {x w u:K} (hw:w*2=1) (hu:u*3=1):(x-1)*((-1)*((x-2)*((-w)*((x-3)*(-u)))))+x*(1*((x-2)*((-1)*((x-3)*(-w)))))+x*(w*((x-1)*(1*((x-3)*(-1)))))+x*(u*((x-1)*(w*((x-2)*1))))=1:=kg
theorem b7B {x w u:K} (hw:w*2=1) (hu:u*3=1):x*(1*((x-2)*((-1)*((x-3)*(-w)))))+2*(x*(w*((x-1)*(1*((x-3)*(-1))))))+3*(x*(u*((x-1)*(w*((x-2)*1)))))=x:=kg
theorem b7i {x w u:K} (hw:w*2=1) (hu:u*3=1):x*(1*((x-2)*((-1)*((x-3)*(-w)))))+2*(2*(x*(w*((x-1)*(1*((x-3)*(-1)))))))+3*(3*(x*(u*((x-1)*(w*((x-2)*1))))))=x*x:=kg
theorem b7m {x w u:K} (hw:w*2=1) (hu:u*3=1):x*(1*((x-2)*((-1)*((x-3)*(-w)))))+2*(2*(2*(x*(w*((x-1)*(1*((x-3)*(-1))))))))+3*(3*(3*(x*(u*((x-1)*(w*((x-2)*1)))))))=x*(x*x):=kg
theorem b7v {p q s t x c0 c1 c2 c3:K} (h0:c0+c1+c2+c3=1) (h1:c1+2*c2+3*c3=x) (h2:c1+2*(2*c2)+3*(3*c3)=x*x) (h3:c1+2*(2*(2*c2))+3*(3*(3*c3))=x*(x*x)):
 0+p*c0+(p+1*(q+1*(s+1*t)))*c1+(p+2*(q+2*(s+2*t)))*c2+(p+3*(q+3*(s+3*t)))*c3=p+x*(q+x*(s+x*t)):=by
 have e:0+p*c0+(p+1*(q+1*(s+1*t)))*c1+(p+2*(q+2*(s+2*t)))*c2+(p+3*(q+3*(s+3*t)))*c3=p*(c0+c1+c2+c3)+q*(c1+2*c2+3*c3)+s*(c1+2*(2*c2)+3*(3*c3))+t*(c1+2*(2*(2*c2))+3*(3*(3*c3))):=by clear h0 h1 h2 h3;exact kg
 rw [e,h0,h1,h2,h3];clear h0 h1 h2 h3 e;exact kg
theorem lr3 {p q s t x w u:K} (hw:w*2=1) (hu:u*3=1):((0+p*(x-1)*(-1)*(x-2)*(-w)*(x-3)*(-u)+(p+1*(q+1*(s+1*t)))*x*1*(x-2)*(-1)*(x-3)*(-w))+(p+2*(q+2*(s+2*t)))*x*w*(x-1)*1*(x-3)*(-1))+(p+3*(q+3*(s+3*t)))*x*u*(x-1)*w*(x-2)*1=p+x*(q+x*(s+x*t)):=by
 have:=b7v (p:=p) (q:=q) (s:=s) (t:=t) (b7o (x:=x) hw hu) (b7B hw hu) (b7i hw hu) (b7m hw hu)
 simp only [kmA] at this ⊢
 exact this
theorem a1K {a b i j:K} (h1:i*(a-b)=1) (h2:j*(b-a)=1):i= -j:=by
 have:i*(j*(b-a))= -j*(i*(a-b)):=by exact kg
 rw [h1,h2] at this;exact kg
theorem a0e {kind n:Nat} {T:List (List K)} (h:OkT kind (2*n) T) (x:K):lnK (rdK kind T n) x=pN kind (bdK x T) n:=by
 have hT: ∀i,i<4→(T.getD i []).length=2*n∨T.getD i []=[]:=fun i _=>by
  by_cases c:i<T.length
  ·exact .inl (h.tab i c)
  ·exact .inr (by simp [c])
 obtain ⟨p,q,s,t,h1,h2⟩:=YN h.kd hT
 have hv: ∀i:Nat,i<kind+2→(rdK kind T n).getD i 0=p+kF (i:Int)*(q+kF (i:Int)*(s+kF (i:Int)*t)):=fun i hi=>by rw [rdK,ot hi,h2]
 have a1:=iv 0 1 (by omega) (by omega) (by omega)
 have a2:=iv 0 2 (by omega) (by omega) (by omega)
 have a3:=iv 1 0 (by omega) (by omega) (by omega)
 have a4:=iv 1 2 (by omega) (by omega) (by omega)
 have a5:=iv 2 0 (by omega) (by omega) (by omega)
 have a6:=iv 2 1 (by omega) (by omega) (by omega)
 have a7:=iv 0 3 (by omega) (by omega) (by omega)
 have a8:=iv 1 3 (by omega) (by omega) (by omega)
 have a9:=iv 2 3 (by omega) (by omega) (by omega)
 have b1:=iv 3 0 (by omega) (by omega) (by omega)
 have b2:=iv 3 1 (by omega) (by omega) (by omega)
 have b3:=iv 3 2 (by omega) (by omega) (by omega)
 rw [k0v] at a1 a2 a3 a5 a7 b1
 rw [k1v] at a1 a3 a4 a6 a8 b2
 rw [k2v] at a2 a4 a5 a6 a9 b3
 rw [k3v] at a7 a8 a9 b1 b2 b3
 have hl:lnK (rdK kind T n) x=j6 (kind+2) fun i=>lnI i x ((rdK kind T n).getD i 0) (kind+2):=by rw [lnK,BX]
 rw [hl,h2]
 have f0: ∀v,lnI 0 x v 3=v*(x-1)*kF (iF (sF ((0:Nat):Int) ((1:Nat):Int)))*(x-2)*kF (iF (sF ((0:Nat):Int) ((2:Nat):Int))):=fun v=>by
  simp only [lnI,k0v,k1v,k2v,reduceIte,show ¬(1:Nat)=0 by decide,show ¬(2:Nat)=0 by decide]
 have f1: ∀v,lnI 1 x v 3=v*(x-0)*kF (iF (sF ((1:Nat):Int) ((0:Nat):Int)))*(x-2)*kF (iF (sF ((1:Nat):Int) ((2:Nat):Int))):=fun v=>by
  simp only [lnI,k0v,k1v,k2v,reduceIte,show ¬(0:Nat)=1 by decide,show ¬(2:Nat)=1 by decide]
 have f2: ∀v,lnI 2 x v 3=v*(x-0)*kF (iF (sF ((2:Nat):Int) ((0:Nat):Int)))*(x-1)*kF (iF (sF ((2:Nat):Int) ((1:Nat):Int))):=fun v=>by
  simp only [lnI,k0v,k1v,k2v,reduceIte,show ¬(0:Nat)=2 by decide,show ¬(1:Nat)=2 by decide]
 have g3: ∀v,lnI 3 x v 4=v*(x-0)*kF (iF (sF ((3:Nat):Int) ((0:Nat):Int)))*(x-1)*kF (iF (sF ((3:Nat):Int) ((1:Nat):Int)))*(x-2)*kF (iF (sF ((3:Nat):Int) ((2:Nat):Int))):=fun v=>by
  simp only [lnI,k0v,k1v,k2v,reduceIte,show ¬(0:Nat)=3 by decide,show ¬(1:Nat)=3 by decide,show ¬(2:Nat)=3 by decide]
 have gs: ∀i v,i≠3→lnI i x v 4=lnI i x v 3*(x-3)*kF (iF (sF (i:Int) ((3:Nat):Int))):=fun i v hi=>by
  show (if 3=i then _ else _)=_
  rw [if_neg (fun e=>hi e.symm),k3v]
 have g0:=fun v=>gs 0 v (by decide)
 have g1:=fun v=>gs 1 v (by decide)
 have g2:=fun v=>gs 2 v (by decide)
 clear gs
 generalize kF (iF (sF ((0:Nat):Int) ((1:Nat):Int)))=i01 at*
 generalize kF (iF (sF ((0:Nat):Int) ((2:Nat):Int)))=i02 at*
 generalize kF (iF (sF ((1:Nat):Int) ((0:Nat):Int)))=i10 at*
 generalize kF (iF (sF ((1:Nat):Int) ((2:Nat):Int)))=i12 at*
 generalize kF (iF (sF ((2:Nat):Int) ((0:Nat):Int)))=w at*
 generalize kF (iF (sF ((2:Nat):Int) ((1:Nat):Int)))=i21 at*
 generalize kF (iF (sF ((0:Nat):Int) ((3:Nat):Int)))=i03 at*
 generalize kF (iF (sF ((1:Nat):Int) ((3:Nat):Int)))=i13 at*
 generalize kF (iF (sF ((2:Nat):Int) ((3:Nat):Int)))=i23 at*
 generalize kF (iF (sF ((3:Nat):Int) ((0:Nat):Int)))=u at*
 generalize kF (iF (sF ((3:Nat):Int) ((1:Nat):Int)))=i31 at*
 generalize kF (iF (sF ((3:Nat):Int) ((2:Nat):Int)))=i32 at*
 have e1:i01= -1:=by exact kg
 have e2:i02= -w:=a1K a2 a5
 have e3:i10=1:=by exact kg
 have e4:i12= -1:=by exact kg
 have e5:i21=1:=by exact kg
 have e6:w*2=1:=by exact kg
 have e7:i03= -u:=a1K a7 b1
 have e8:i13= -w:=by
  have:i13*(w*2)= -w*(i13*(1-3)):=by exact kg
  rw [a8,e6] at this;exact kg
 have e9:i23= -1:=by exact kg
 have e10:i31=w:=by
  have:i31*(w*2)=w*(i31*(3-1)):=by exact kg
  rw [b2,e6] at this;exact kg
 have e11:i32=1:=by exact kg
 have e12:u*3=1:=by exact kg
 clear a1 a2 a3 a4 a5 a6 a7 a8 a9 b1 b2 b3
 subst e1 e2 e3 e4 e5 e7 e8 e9 e10 e11
 have v0:=hv 0 (by omega)
 have v1:=hv 1 (by have:=h.kd;omega)
 have v2:=hv 2 (by have:=h.kd;omega)
 rw [k0v] at v0
 rw [k1v] at v1
 rw [k2v] at v2
 rcases h.kd with rfl|rfl
 ·have ht:=h1 rfl
  subst ht
  show ((0+lnI 0 x _ 3)+lnI 1 x _ 3)+lnI 2 x _ 3=_
  rw [v0,v1,v2,f0,f1,f2]
  clear hv hl h1 h2 hT g0 g1 g2 g3 f0 f1 f2 h e12
  have z1:x-0=x:=by clear e6;exact kg
  have z2: ∀u:K,p+0*u=p:=fun u=>by clear e6;exact kg
  have z3: ∀y u:K,u+y*0=u:=fun y u=>by clear e6;exact kg
  simp only [z1,z2,z3]
  exact lr2 (p:=p) (q:=q) (s:=s) (x:=x) e6
 ·have v3:=hv 3 (by omega)
  rw [k3v] at v3
  show (((0+lnI 0 x _ 4)+lnI 1 x _ 4)+lnI 2 x _ 4)+lnI 3 x _ 4=_
  rw [v0,v1,v2,v3,g0,g1,g2,f0,f1,f2,g3]
  clear hv hl h1 h2 hT g0 g1 g2 g3 f0 f1 f2 h
  have z1:x-0=x:=by clear e6 e12;exact kg
  have z2: ∀u:K,p+0*u=p:=fun u=>by clear e6 e12;exact kg
  rw [z1,z2]
  exact lr3 (p:=p) (q:=q) (s:=s) (t:=t) (x:=x) e6 e12
end Go.AI.Fn
set_option linter.unusedVariables false
set_option linter.unusedSimpArgs false
namespace Go.AI.Fn
abbrev xo (a b:Int):Int:=ga .u64 a b
def rot (x s:Int):Int:=if s=0 then x else vX .u64 (bX .u64 x s) (aM .u64 x (64-s))
def Ky (x:Int):Prop:=0≤x∧x<18446744073709551616
theorem S6 (x:Int):Ky (IntKind.wrap .u64 x):=by
 unfold Ky;simp [IntKind.wrap,IntKind.bits,IntKind.signed];omega
theorem b43 (a b:Int):Ky (xo a b):=S6 _
theorem Vr {x:Int} (h:Ky x):((BitVec.ofInt 64 x).toNat:Int)=x:=by
 obtain ⟨h0,h1⟩:=h
 rw [BitVec.toNat_ofInt];omega
theorem Hj {a:Int} (h:Ky a):xo 0 a=a:=by
 show IntKind.wrap .u64 _=a
 have:(BitVec.ofInt 64 0^^^BitVec.ofInt 64 a)=BitVec.ofInt 64 a:=by simp
 show IntKind.wrap .u64 ((BitVec.ofInt 64 0^^^BitVec.ofInt 64 a).toNat:Int)=a
 rw [this,Vr h,cX a h.1 h.2]
theorem a9Z {a:Int} (h:Ky a):vX .u64 a 0=a:=by
 have:(BitVec.ofInt 64 a|||BitVec.ofInt 64 0)=BitVec.ofInt 64 a:=by simp
 show IntKind.wrap .u64 ((BitVec.ofInt 64 a|||BitVec.ofInt 64 0).toNat:Int)=a
 rw [this,Vr h,cX a h.1 h.2]
theorem a96 (x y:Int):NL .u64 x y=bm .u64 (bQ .u64 y) x:=by
 show IntKind.wrap .u64 ((BitVec.ofInt 64 x&&& ~~~ BitVec.ofInt 64 y).toNat:Int)=IntKind.wrap .u64 ((BitVec.ofInt 64 (bQ .u64 y)&&&BitVec.ofInt 64 x).toNat:Int)
 have h:BitVec.ofInt 64 (bQ .u64 y)= ~~~ BitVec.ofInt 64 y:=by
  show BitVec.ofInt 64 (IntKind.wrap .u64 ((BitVec.ofInt 64 18446744073709551615^^^BitVec.ofInt 64 y).toNat:Int))=_
  have e:(BitVec.ofInt 64 18446744073709551615^^^BitVec.ofInt 64 y)= ~~~ BitVec.ofInt 64 y:=by
   rw [show BitVec.ofInt 64 18446744073709551615=BitVec.allOnes 64 by decide,BitVec.allOnes_xor]
  rw [e,cX _ (by omega) (by have:=(~~~ BitVec.ofInt 64 y).isLt;omega)]
  rw [BitVec.ofInt_natCast,BitVec.ofNat_toNat];simp
 rw [h,BitVec.and_comm]
theorem a0P {x s:Int} (hs:0≤s∧s<64):sa x s=some (rot x s):=by
 unfold sa rot
 by_cases h:s=0
 ·rw [bre h,if_pos h]
 ·rw [AL h,if_neg h,brd hs.1,cX (64-s) (by omega) (by omega),brd (by omega)]
end Go.AI.Fn
set_option linter.unusedVariables false
set_option linter.unusedSimpArgs false
namespace Go.AI.Fn
theorem b6g: ∀k:Nat,k<64→bm .u64 (IntKind.wrap .u64 (k:Int)) 63=(k:Int):=by decide
theorem a1T {x s:Int} (hs:0≤s∧s<64) (hx:s≠0∨Ky x):cG x s=some (rot x s):=by
 have e:bm .u64 (IntKind.wrap .u64 s) 63=s:=by
  have:=b6g s.toNat (by omega)
  rwa [Int.toNat_of_nonneg hs.1] at this
 unfold cG rot
 rw [e,brd hs.1,cX (64-s) (by omega) (by omega),brd (by omega)]
 by_cases h:s=0
 ·subst h
  have hx:Ky x:=hx.resolve_left (fun h=>h rfl)
  have e1:bX .u64 x 0=x:=by
   show IntKind.wrap .u64 (x*2^0)=x
   rw [Int.pow_zero,Int.mul_one,cX x hx.1 hx.2]
  have e2:aM .u64 x (64-0)=0:=by
   show x.fdiv (2^64)=0
   rw [Int.fdiv_eq_ediv_of_nonneg _ (by decide)]
   exact Int.ediv_eq_zero_of_lt hx.1 hx.2
  rw [e1,e2,a9Z hx,if_pos rfl]
 ·rw [if_neg h]
abbrev g (l:List Int) (i:Int):Int:=l.getD i.toNat 0
def mS:List Int:=[0,1,62,28,27,36,44,6,55,20,3,10,43,25,39,41,45,15,21,8,18,2,61,56,14]
theorem a6u: ∀k:Nat,k<25→0≤mS.getD k 0∧mS.getD k 0<64:=by decide
def p2 (m:List Int) (k:Nat) (l:List Int):List Int:=l.set ((k:Int)%5).toNat (xo (g l ((k:Int)%5)) (g m k))
def p3 (m c:List Int) (k:Nat) (l:List Int):List Int:=
 l.set ((k:Int)/5+5*((2*((k:Int)%5)+3*((k:Int)/5))%5)).toNat (rot (xo (g m k) (xo (g c (((k:Int)%5+4)%5)) (rot (g c (((k:Int)%5+1)%5)) 1))) (g mS k))
def p4 (b:List Int) (k:Nat) (l:List Int):List Int:=
 l.set k (xo (g b k) (NL .u64 (g b ((k:Int)-(k:Int)%5+((k:Int)%5+2)%5)) (g b ((k:Int)-(k:Int)%5+((k:Int)%5+1)%5))))
def q2 (m:List Int) (k:Nat) (l:List Int):List Int:=l.set k (xo (xo (xo (xo (g m k) (g m ((k:Int)+5))) (g m ((k:Int)+10))) (g m ((k:Int)+15))) (g m ((k:Int)+20)))
def q3 (c:List Int) (k:Nat) (l:List Int):List Int:=l.set k (xo (g l k) (xo (g c (((k:Int)+4)%5)) (rot (g c (((k:Int)+1)%5)) 1)))
def q5 (m:List Int) (x:Int) (y:Nat) (l:List Int):List Int:=l.set ((y:Int)+5*((2*x+3*(y:Int))%5)).toNat (rot (g m (x+5*(y:Int))) (g mS (x+5*(y:Int))))
def q4 (m:List Int) (x:Nat) (l:List Int):List Int:=iU (q5 m x) 5 l
def q7 (b:List Int) (x:Int) (y:Nat) (l:List Int):List Int:=l.set (x+5*(y:Int)).toNat (xo (g b (x+5*(y:Int))) (bm .u64 (bQ .u64 (g b ((x+1)%5+5*(y:Int)))) (g b ((x+2)%5+5*(y:Int)))))
def q6 (b:List Int) (x:Nat) (l:List Int):List Int:=iU (q7 b x) 5 l
theorem a7v (m:List Int) (k:Nat) (l:List Int):(iU (p2 m) k l).length=l.length:=pM (fun _ _=>List.length_set) k l
theorem Sr (m c:List Int) (k:Nat) (l:List Int):(iU (p3 m c) k l).length=l.length:=pM (fun _ _=>List.length_set) k l
theorem Ut (b:List Int) (k:Nat) (l:List Int):(iU (p4 b) k l).length=l.length:=pM (fun _ _=>List.length_set) k l
theorem Zc (m:List Int) (k:Nat) (l:List Int):(iU (q2 m) k l).length=l.length:=pM (fun _ _=>List.length_set) k l
theorem Ou (c:List Int) (k:Nat) (l:List Int):(iU (q3 c) k l).length=l.length:=pM (fun _ _=>List.length_set) k l
theorem a5u (m:List Int) (x:Int) (k:Nat) (l:List Int):(iU (q5 m x) k l).length=l.length:=pM (fun _ _=>List.length_set) k l
theorem a68 (m:List Int) (x:Int) (k:Nat) (l:List Int):(iU (q7 m x) k l).length=l.length:=pM (fun _ _=>List.length_set) k l
theorem YX (m:List Int) (k:Nat) (l:List Int):(iU (q4 m) k l).length=l.length:=pM (fun x l=>a5u m x 5 l) k l
theorem a6o (m:List Int) (k:Nat) (l:List Int):(iU (q6 m) k l).length=l.length:=pM (fun x l=>a68 m x 5 l) k l
theorem b0L {m5 m6 m7 m9 t4:List Int} {t3 t5:Int} (h:m5.length=25):Loop (dD m5 m6 m7 m9 t3 t4 t5) (nZ 5,0)=some (iU (p2 m5) 25 (nZ 5),25,false):=
 an (fun k=>(iU (p2 m5) k (nZ 5),(k:Int))) 25 (fun k hk=>by
  have hl:=a7v m5 k (nZ 5)
  rw [kJ] at hl
  simp only [dD]
  simp (disch:=omega) only [brd,bq,Cv,eH,aa]
  simp only [iU,p2,Int.toNat_natCast,mi]
  rfl) (by
  simp (disch:=omega) only [dD,brn];rfl)
theorem a9E {m5 m6 m7 m8:List Int} {t2:Int} (h:m5.length=25):Loop (fh m5 m6 m7 m8 t2) (nZ 5,0)=some (iU (q2 m5) 5 (nZ 5),5,false):=
 an (fun k=>(iU (q2 m5) k (nZ 5),(k:Int))) 5 (fun k hk=>by
  have hl:=Zc m5 k (nZ 5)
  rw [kJ] at hl
  simp only [fh]
  simp (disch:=omega) only [brd,bq,Cv,eH,aa]
  simp only [iU,q2,Int.toNat_natCast,mi]
  rfl) (by
  simp (disch:=omega) only [fh,brn];rfl)
theorem W3 (k:Nat) (hk:k<25):0≤mS.getD k 0∧mS.getD k 0<64:=a6u k hk
theorem Hn:mS.length=25:=rfl
theorem a9F {m10 m12 c t8:List Int} {t7 t9:Int} (h:m10.length=25) (hc:c.length=5):Loop (dy m10 mS m12 c t7 t8 t9) (nZ 25,0)=some (iU (p3 m10 c) 25 (nZ 25),25,false):=
 an (fun k=>(iU (p3 m10 c) k (nZ 25),(k:Int))) 25 (fun k hk=>by
  have hl:=Sr m10 c k (nZ 25)
  rw [kJ] at hl
  have hs:=W3 k hk
  have hs1:=Hn
  simp only [dy]
  simp (disch:=omega) only [brd,bq,fN,Cv,eH,aa]
  rw [a1T ⟨by decide,by decide⟩ (.inl (by decide))]
  simp only [obs]
  simp only [Int.toNat_natCast]
  rw [a1T hs (.inr (b43 _ _))]
  simp only [obs]
  rfl) (by
  simp (disch:=omega) only [dy,brn];rfl)
theorem b0q {m16 m17 m18 b t12:List Int} {t11 t13:Int} {m:List Int} (h:m.length=25) (hb:b.length=25):Loop (dw m16 m17 m18 b t11 t12 t13 b) (m,0)=some (iU (p4 b) 25 m,25,false):=
 an (fun k=>(iU (p4 b) k m,(k:Int))) 25 (fun k hk=>by
  have hl:=Ut b k m
  simp only [dw]
  simp (disch:=omega) only [brd,bq,fN,Cv,eH,aa]
  rfl) (by
  simp (disch:=omega) only [dw,brn];rfl)
theorem b0c {m11 m12 m13 c m:List Int} {t4:Int} (h:m.length=25) (hc:c.length=5):Loop (ff m11 m12 m13 c t4) (m,0)=some (iU (q3 c) 25 m,25,false):=
 an (fun k=>(iU (q3 c) k m,(k:Int))) 25 (fun k hk=>by
  have hl:=Ou c k m
  simp only [ff]
  simp (disch:=omega) only [brd,bq,fN,Cv,eH,aa]
  rw [a0P ⟨by decide,by decide⟩]
  simp only [obs]
  rfl) (by
  simp (disch:=omega) only [ff,brn];rfl)
theorem b0z {a m22 m23 m25 m:List Int} {t8:Int} {x:Nat} (hx:x<5) (h:m.length=25) (ha:a.length=25):Loop (fe a m22 m23 mS m25 t8 x) (m,0)=some (iU (q5 a x) 5 m,5,false):=
 an (fun k=>(iU (q5 a x) k m,(k:Int))) 5 (fun k hk=>by
  have hl:=a5u a x k m
  have hs:=W3 ((x:Int)+5*(k:Int)).toNat (by omega)
  have hs1:=Hn
  simp only [fe]
  simp (disch:=omega) only [brd,bq,fN,Cv,eH,aa]
  rw [a0P hs]
  simp only [obs]
  rfl) (by
  simp (disch:=omega) only [fe,brn];rfl)
theorem a9i {a m16 m17 m19 m:List Int} {t6:Int} (h:m.length=25) (ha:a.length=25):Loop (fi a m16 m17 mS m19 t6) (m,0)=some (iU (q4 a) 5 m,5,false):=
 an (fun k=>(iU (q4 a) k m,(k:Int))) 5 (fun k hk=>by
  have hl:=YX a k m
  simp only [fi]
  rw [brd (by omega),b0z hk (by omega) ha,obs,aa _ (by omega) (by omega)]
  rfl) (by
  simp (disch:=omega) only [fi,brn];rfl)
theorem a8Y {m34 m35 m36 m37 b m:List Int} {t13:Int} {x:Nat} (hx:x<5) (h:m.length=25) (hb:b.length=25):Loop (fk m34 m35 m36 m37 b t13 x) (m,0)=some (iU (q7 b x) 5 m,5,false):=
 an (fun k=>(iU (q7 b x) k m,(k:Int))) 5 (fun k hk=>by
  have hl:=a68 b x k m
  simp only [fk]
  simp (disch:=omega) only [brd,bq,fN,Cv,eH,aa]
  rfl) (by
  simp (disch:=omega) only [fk,brn];rfl)
theorem a9P {m28 m29 m30 m31 b m:List Int} {t11:Int} (h:m.length=25) (hb:b.length=25):Loop (fc m28 m29 m30 m31 b t11) (m,0)=some (iU (q6 b) 5 m,5,false):=
 an (fun k=>(iU (q6 b) k m,(k:Int))) 5 (fun k hk=>by
  have hl:=a6o b k m
  simp only [fc]
  rw [brd (by omega),a8Y hk (by omega) hb,obs,aa _ (by omega) (by omega)]
  rfl) (by
  simp (disch:=omega) only [fc,brn];rfl)
def yv (m:List Int) (rc:Int):List Int:=
 let c:=iU (p2 m) 25 (nZ 5)
 let b:=iU (p3 m c) 25 (nZ 25)
 let r:=iU (p4 b) 25 m
 r.set 0 (xo (r.getD 0 0) rc)
def Zt (m:List Int) (rc:Int):List Int:=
 let c:=iU (q2 m) 5 (nZ 5)
 let a:=iU (q3 c) 25 m
 let b:=iU (q4 a) 5 (nZ 25)
 let r:=iU (q6 b) 5 a
 r.set 0 (xo (r.getD 0 0) rc)
end Go.AI.Fn
set_option linter.unusedVariables false
set_option linter.unusedSimpArgs false
namespace Go.AI.Fn
theorem bI {l:List Int} {n:Nat} (h:l.length=n+1): ∃a r,l=a::r∧r.length=n:=by
 cases l with
 |nil=>simp at h
 |cons a r=>exact ⟨a,r,rfl,by simpa using h⟩
theorem a9D {l:List Int} (h:l.length=0):l=[]:=List.eq_nil_of_length_eq_zero h
theorem V0 {l:List Int} (h:l.length=25): ∃a0 a1 a2 a3 a4 a5 a6 a7 a8 a9 a10 a11 a12 a13 a14 a15 a16 a17 a18 a19 a20 a21 a22 a23 a24,l=[a0,a1,a2,a3,a4,a5,a6,a7,a8,a9,a10,a11,a12,a13,a14,a15,a16,a17,a18,a19,a20,a21,a22,a23,a24]:=by
 obtain ⟨a0,r0,rfl,h0⟩:=bI h
 obtain ⟨a1,r1,rfl,h1⟩:=bI h0
 obtain ⟨a2,r2,rfl,h2⟩:=bI h1
 obtain ⟨a3,r3,rfl,h3⟩:=bI h2
 obtain ⟨a4,r4,rfl,h4⟩:=bI h3
 obtain ⟨a5,r5,rfl,h5⟩:=bI h4
 obtain ⟨a6,r6,rfl,h6⟩:=bI h5
 obtain ⟨a7,r7,rfl,h7⟩:=bI h6
 obtain ⟨a8,r8,rfl,h8⟩:=bI h7
 obtain ⟨a9,r9,rfl,h9⟩:=bI h8
 obtain ⟨a10,r10,rfl,h10⟩:=bI h9
 obtain ⟨a11,r11,rfl,h11⟩:=bI h10
 obtain ⟨a12,r12,rfl,h12⟩:=bI h11
 obtain ⟨a13,r13,rfl,h13⟩:=bI h12
 obtain ⟨a14,r14,rfl,h14⟩:=bI h13
 obtain ⟨a15,r15,rfl,h15⟩:=bI h14
 obtain ⟨a16,r16,rfl,h16⟩:=bI h15
 obtain ⟨a17,r17,rfl,h17⟩:=bI h16
 obtain ⟨a18,r18,rfl,h18⟩:=bI h17
 obtain ⟨a19,r19,rfl,h19⟩:=bI h18
 obtain ⟨a20,r20,rfl,h20⟩:=bI h19
 obtain ⟨a21,r21,rfl,h21⟩:=bI h20
 obtain ⟨a22,r22,rfl,h22⟩:=bI h21
 obtain ⟨a23,r23,rfl,h23⟩:=bI h22
 obtain ⟨a24,r24,rfl,h24⟩:=bI h23
 obtain rfl:=a9D h24
 exact ⟨_,_,_,_,_,_,_,_,_,_,_,_,_,_,_,_,_,_,_,_,_,_,_,_,_,rfl⟩
def ib (m:List Int):Prop:=m.length=25∧ ∀x∈m,Ky x
def cs (m:List Int):List Int:=iU (q2 m) 5 (nZ 5)
theorem b1b {m:List Int} (h:ib m):iU (p2 m) 25 (nZ 5)=cs m:=by
 obtain ⟨hl,hb⟩:=h
 obtain ⟨a0,a1,a2,a3,a4,a5,a6,a7,a8,a9,a10,a11,a12,a13,a14,a15,a16,a17,a18,a19,a20,a21,a22,a23,a24,rfl⟩:=V0 hl
 have e0:=Hj (hb a0 (by simp))
 have e1:=Hj (hb a1 (by simp))
 have e2:=Hj (hb a2 (by simp))
 have e3:=Hj (hb a3 (by simp))
 have e4:=Hj (hb a4 (by simp))
 have k:iU (p2 [a0,a1,a2,a3,a4,a5,a6,a7,a8,a9,a10,a11,a12,a13,a14,a15,a16,a17,a18,a19,a20,a21,a22,a23,a24]) 25 (nZ 5)=[xo (xo (xo (xo (xo 0 a0) a5) a10) a15) a20,xo (xo (xo (xo (xo 0 a1) a6) a11) a16) a21,xo (xo (xo (xo (xo 0 a2) a7) a12) a17) a22,xo (xo (xo (xo (xo 0 a3) a8) a13) a18) a23,xo (xo (xo (xo (xo 0 a4) a9) a14) a19) a24]:=by kernel_rfl
 have k2:cs [a0,a1,a2,a3,a4,a5,a6,a7,a8,a9,a10,a11,a12,a13,a14,a15,a16,a17,a18,a19,a20,a21,a22,a23,a24]=
  [xo (xo (xo (xo a0 a5) a10) a15) a20,xo (xo (xo (xo a1 a6) a11) a16) a21,xo (xo (xo (xo a2 a7) a12) a17) a22,xo (xo (xo (xo a3 a8) a13) a18) a23,xo (xo (xo (xo a4 a9) a14) a19) a24]:=by kernel_rfl
 rw [k,k2,e0,e1,e2,e3,e4]
theorem a9Y {c:List Int} (a0 a1 a2 a3 a4 a5 a6 a7 a8 a9 a10 a11 a12 a13 a14 a15 a16 a17 a18 a19 a20 a21 a22 a23 a24:Int):iU (p3 [a0,a1,a2,a3,a4,a5,a6,a7,a8,a9,a10,a11,a12,a13,a14,a15,a16,a17,a18,a19,a20,a21,a22,a23,a24] c) 25 (nZ 25)=[rot (xo a0 (xo (g c 4) (rot (g c 1) 1))) 0,rot (xo a6 (xo (g c 0) (rot (g c 2) 1))) 44,rot (xo a12 (xo (g c 1) (rot (g c 3) 1))) 43,rot (xo a18 (xo (g c 2) (rot (g c 4) 1))) 21,rot (xo a24 (xo (g c 3) (rot (g c 0) 1))) 14,rot (xo a3 (xo (g c 2) (rot (g c 4) 1))) 28,rot (xo a9 (xo (g c 3) (rot (g c 0) 1))) 20,rot (xo a10 (xo (g c 4) (rot (g c 1) 1))) 3,rot (xo a16 (xo (g c 0) (rot (g c 2) 1))) 45,rot (xo a22 (xo (g c 1) (rot (g c 3) 1))) 61,rot (xo a1 (xo (g c 0) (rot (g c 2) 1))) 1,rot (xo a7 (xo (g c 1) (rot (g c 3) 1))) 6,rot (xo a13 (xo (g c 2) (rot (g c 4) 1))) 25,rot (xo a19 (xo (g c 3) (rot (g c 0) 1))) 8,rot (xo a20 (xo (g c 4) (rot (g c 1) 1))) 18,rot (xo a4 (xo (g c 3) (rot (g c 0) 1))) 27,rot (xo a5 (xo (g c 4) (rot (g c 1) 1))) 36,rot (xo a11 (xo (g c 0) (rot (g c 2) 1))) 10,rot (xo a17 (xo (g c 1) (rot (g c 3) 1))) 15,rot (xo a23 (xo (g c 2) (rot (g c 4) 1))) 56,rot (xo a2 (xo (g c 1) (rot (g c 3) 1))) 62,rot (xo a8 (xo (g c 2) (rot (g c 4) 1))) 55,rot (xo a14 (xo (g c 3) (rot (g c 0) 1))) 39,rot (xo a15 (xo (g c 4) (rot (g c 1) 1))) 41,rot (xo a21 (xo (g c 0) (rot (g c 2) 1))) 2]:=by kernel_rfl
theorem b1U {c:List Int} (a0 a1 a2 a3 a4 a5 a6 a7 a8 a9 a10 a11 a12 a13 a14 a15 a16 a17 a18 a19 a20 a21 a22 a23 a24:Int):iU (q3 c) 25 [a0,a1,a2,a3,a4,a5,a6,a7,a8,a9,a10,a11,a12,a13,a14,a15,a16,a17,a18,a19,a20,a21,a22,a23,a24]=[xo a0 (xo (g c 4) (rot (g c 1) 1)),xo a1 (xo (g c 0) (rot (g c 2) 1)),xo a2 (xo (g c 1) (rot (g c 3) 1)),xo a3 (xo (g c 2) (rot (g c 4) 1)),xo a4 (xo (g c 3) (rot (g c 0) 1)),xo a5 (xo (g c 4) (rot (g c 1) 1)),xo a6 (xo (g c 0) (rot (g c 2) 1)),xo a7 (xo (g c 1) (rot (g c 3) 1)),xo a8 (xo (g c 2) (rot (g c 4) 1)),xo a9 (xo (g c 3) (rot (g c 0) 1)),xo a10 (xo (g c 4) (rot (g c 1) 1)),xo a11 (xo (g c 0) (rot (g c 2) 1)),xo a12 (xo (g c 1) (rot (g c 3) 1)),xo a13 (xo (g c 2) (rot (g c 4) 1)),xo a14 (xo (g c 3) (rot (g c 0) 1)),xo a15 (xo (g c 4) (rot (g c 1) 1)),xo a16 (xo (g c 0) (rot (g c 2) 1)),xo a17 (xo (g c 1) (rot (g c 3) 1)),xo a18 (xo (g c 2) (rot (g c 4) 1)),xo a19 (xo (g c 3) (rot (g c 0) 1)),xo a20 (xo (g c 4) (rot (g c 1) 1)),xo a21 (xo (g c 0) (rot (g c 2) 1)),xo a22 (xo (g c 1) (rot (g c 3) 1)),xo a23 (xo (g c 2) (rot (g c 4) 1)),xo a24 (xo (g c 3) (rot (g c 0) 1))]:=by kernel_rfl
theorem a9n (a0 a1 a2 a3 a4 a5 a6 a7 a8 a9 a10 a11 a12 a13 a14 a15 a16 a17 a18 a19 a20 a21 a22 a23 a24:Int):iU (q4 [a0,a1,a2,a3,a4,a5,a6,a7,a8,a9,a10,a11,a12,a13,a14,a15,a16,a17,a18,a19,a20,a21,a22,a23,a24]) 5 (nZ 25)=[rot a0 0,rot a6 44,rot a12 43,rot a18 21,rot a24 14,rot a3 28,rot a9 20,rot a10 3,rot a16 45,rot a22 61,rot a1 1,rot a7 6,rot a13 25,rot a19 8,rot a20 18,rot a4 27,rot a5 36,rot a11 10,rot a17 15,rot a23 56,rot a2 62,rot a8 55,rot a14 39,rot a15 41,rot a21 2]:=by kernel_rfl
theorem a7q {m c:List Int} (hm:m.length=25):iU (p3 m c) 25 (nZ 25)=iU (q4 (iU (q3 c) 25 m)) 5 (nZ 25):=by
 obtain ⟨a0,a1,a2,a3,a4,a5,a6,a7,a8,a9,a10,a11,a12,a13,a14,a15,a16,a17,a18,a19,a20,a21,a22,a23,a24,rfl⟩:=V0 hm
 rw [a9Y,b1U,a9n]
def p4' (b:List Int) (k:Nat) (l:List Int):List Int:=l.set k (xo (g b k) (bm .u64 (bQ .u64 (g b ((k:Int)-(k:Int)%5+((k:Int)%5+1)%5))) (g b ((k:Int)-(k:Int)%5+((k:Int)%5+2)%5))))
theorem b6v (b:List Int):p4 b=p4' b:=by funext k l;unfold p4 p4';rw [a96]
theorem a9b (a0 a1 a2 a3 a4 a5 a6 a7 a8 a9 a10 a11 a12 a13 a14 a15 a16 a17 a18 a19 a20 a21 a22 a23 a24 b0 b1 b2 b3 b4 b5 b6 b7 b8 b9 b10 b11 b12 b13 b14 b15 b16 b17 b18 b19 b20 b21 b22 b23 b24:Int):iU (p4' [a0,a1,a2,a3,a4,a5,a6,a7,a8,a9,a10,a11,a12,a13,a14,a15,a16,a17,a18,a19,a20,a21,a22,a23,a24]) 25 [b0,b1,b2,b3,b4,b5,b6,b7,b8,b9,b10,b11,b12,b13,b14,b15,b16,b17,b18,b19,b20,b21,b22,b23,b24]=[xo a0 (bm .u64 (bQ .u64 a1) a2),xo a1 (bm .u64 (bQ .u64 a2) a3),xo a2 (bm .u64 (bQ .u64 a3) a4),xo a3 (bm .u64 (bQ .u64 a4) a0),xo a4 (bm .u64 (bQ .u64 a0) a1),xo a5 (bm .u64 (bQ .u64 a6) a7),xo a6 (bm .u64 (bQ .u64 a7) a8),xo a7 (bm .u64 (bQ .u64 a8) a9),xo a8 (bm .u64 (bQ .u64 a9) a5),xo a9 (bm .u64 (bQ .u64 a5) a6),xo a10 (bm .u64 (bQ .u64 a11) a12),xo a11 (bm .u64 (bQ .u64 a12) a13),xo a12 (bm .u64 (bQ .u64 a13) a14),xo a13 (bm .u64 (bQ .u64 a14) a10),xo a14 (bm .u64 (bQ .u64 a10) a11),xo a15 (bm .u64 (bQ .u64 a16) a17),xo a16 (bm .u64 (bQ .u64 a17) a18),xo a17 (bm .u64 (bQ .u64 a18) a19),xo a18 (bm .u64 (bQ .u64 a19) a15),xo a19 (bm .u64 (bQ .u64 a15) a16),xo a20 (bm .u64 (bQ .u64 a21) a22),xo a21 (bm .u64 (bQ .u64 a22) a23),xo a22 (bm .u64 (bQ .u64 a23) a24),xo a23 (bm .u64 (bQ .u64 a24) a20),xo a24 (bm .u64 (bQ .u64 a20) a21)]:=by kernel_rfl
theorem b0h (a0 a1 a2 a3 a4 a5 a6 a7 a8 a9 a10 a11 a12 a13 a14 a15 a16 a17 a18 a19 a20 a21 a22 a23 a24 b0 b1 b2 b3 b4 b5 b6 b7 b8 b9 b10 b11 b12 b13 b14 b15 b16 b17 b18 b19 b20 b21 b22 b23 b24:Int):iU (q6 [a0,a1,a2,a3,a4,a5,a6,a7,a8,a9,a10,a11,a12,a13,a14,a15,a16,a17,a18,a19,a20,a21,a22,a23,a24]) 5 [b0,b1,b2,b3,b4,b5,b6,b7,b8,b9,b10,b11,b12,b13,b14,b15,b16,b17,b18,b19,b20,b21,b22,b23,b24]=[xo a0 (bm .u64 (bQ .u64 a1) a2),xo a1 (bm .u64 (bQ .u64 a2) a3),xo a2 (bm .u64 (bQ .u64 a3) a4),xo a3 (bm .u64 (bQ .u64 a4) a0),xo a4 (bm .u64 (bQ .u64 a0) a1),xo a5 (bm .u64 (bQ .u64 a6) a7),xo a6 (bm .u64 (bQ .u64 a7) a8),xo a7 (bm .u64 (bQ .u64 a8) a9),xo a8 (bm .u64 (bQ .u64 a9) a5),xo a9 (bm .u64 (bQ .u64 a5) a6),xo a10 (bm .u64 (bQ .u64 a11) a12),xo a11 (bm .u64 (bQ .u64 a12) a13),xo a12 (bm .u64 (bQ .u64 a13) a14),xo a13 (bm .u64 (bQ .u64 a14) a10),xo a14 (bm .u64 (bQ .u64 a10) a11),xo a15 (bm .u64 (bQ .u64 a16) a17),xo a16 (bm .u64 (bQ .u64 a17) a18),xo a17 (bm .u64 (bQ .u64 a18) a19),xo a18 (bm .u64 (bQ .u64 a19) a15),xo a19 (bm .u64 (bQ .u64 a15) a16),xo a20 (bm .u64 (bQ .u64 a21) a22),xo a21 (bm .u64 (bQ .u64 a22) a23),xo a22 (bm .u64 (bQ .u64 a23) a24),xo a23 (bm .u64 (bQ .u64 a24) a20),xo a24 (bm .u64 (bQ .u64 a20) a21)]:=by kernel_rfl
theorem b1v {b m a:List Int} (hb:b.length=25) (hm:m.length=25) (ha:a.length=25):iU (p4 b) 25 m=iU (q6 b) 5 a:=by
 rw [b6v]
 obtain ⟨a0,a1,a2,a3,a4,a5,a6,a7,a8,a9,a10,a11,a12,a13,a14,a15,a16,a17,a18,a19,a20,a21,a22,a23,a24,rfl⟩:=V0 hb
 obtain ⟨b0,b1,b2,b3,b4,b5,b6,b7,b8,b9,b10,b11,b12,b13,b14,b15,b16,b17,b18,b19,b20,b21,b22,b23,b24,rfl⟩:=V0 hm
 obtain ⟨c0,c1,c2,c3,c4,c5,c6,c7,c8,c9,c10,c11,c12,c13,c14,c15,c16,c17,c18,c19,c20,c21,c22,c23,c24,rfl⟩:=V0 ha
 rw [a9b,b0h]
theorem a79 {m:List Int} {rc:Int} (h:ib m):yv m rc=Zt m rc:=by
 unfold yv Zt
 dsimp only
 have h1:=b1b h
 unfold cs at h1
 rw [h1]
 have hc:(iU (q2 m) 5 (nZ 5)).length=5:=by rw [Zc,kJ]
 have ha:(iU (q3 (iU (q2 m) 5 (nZ 5))) 25 m).length=25:=by rw [Ou];exact h.1
 rw [a7q h.1]
 rw [b1v (a:=iU (q3 (iU (q2 m) 5 (nZ 5))) 25 m) (by rw [YX,kJ]) h.1 ha]
theorem a7G {m:List Int} {rc:Int} (h:ib m):ib (yv m rc):=by
 have hl:(yv m rc).length=25:=by
  unfold yv;dsimp only;rw [List.length_set,Ut];exact h.1
 refine ⟨hl, ?_⟩
 unfold yv
 dsimp only
 have hb:(iU (p3 m (iU (p2 m) 25 (nZ 5))) 25 (nZ 25)).length=25:=by rw [Sr,kJ]
 generalize iU (p3 m (iU (p2 m) 25 (nZ 5))) 25 (nZ 25)=b at hb
 have key: ∀k,k≤25→ ∀i,i<k→ ∀hi:i<(iU (p4 b) k m).length,Ky (iU (p4 b) k m)[i]:=by
  intro k
  induction k with
  |zero=>intro _ i hi;omega
  |succ k ih=>
   intro hk i hi hlen
   simp only [iU,p4]
   rw [List.getElem_set]
   split
   ·exact b43 _ _
   ·exact ih (by omega) i (by omega) (by simpa [iU,p4] using hlen)
 intro x hx
 rcases List.mem_or_eq_of_mem_set hx with h1|h1
 ·obtain ⟨i,hi,rfl⟩:=List.getElem_of_mem h1
  exact key 25 (by omega) i (by rw [Ut] at hi;have:=h.1;omega) hi
 ·rw [h1];exact b43 _ _
end Go.AI.Fn
set_option linter.unusedVariables false
set_option linter.unusedSimpArgs false
set_option maxRecDepth 10000
namespace Go.AI.Fn
def rcL:List Int:=[1,32898,9223372036854808714,9223372039002292224,32907,2147483649,9223372039002292353,9223372036854808585,138,136,2147516425,2147483658,2147516555,9223372036854775947,9223372036854808713,9223372036854808579,9223372036854808578,9223372036854775936,32778,9223372039002259466,9223372039002292353,9223372036854808704,2147483649,9223372039002292232]
theorem b4j:[1,32898,9223372036854808714,9223372039002292224,32907,2147483649,9223372039002292353,9223372036854808585,138,136,2147516425,2147483658,2147516555,9223372036854775947,9223372036854808713,9223372036854808579,9223372036854808578,9223372036854775936,32778,9223372039002259466,9223372039002292353,9223372036854808704,2147483649,9223372039002292232]=rcL:=rfl
theorem a49:[0,1,62,28,27,36,44,6,55,20,3,10,43,25,39,41,45,15,21,8,18,2,61,56,14]=mS:=rfl
theorem UN:rcL.length=24:=rfl
def rdP (k:Nat) (m:List Int):List Int:=yv m (rcL.getD k 0)
def Nn (m:List Int):List Int:=iU rdP 24 m
theorem SY (k:Nat) (m:List Int):iU rdP (k+1) m=yv (iU rdP k m) (rcL.getD k 0):=by rw [iU,rdP]
theorem a0O {m:List Int} (h:ib m): ∀k,ib (iU rdP k m)
 |0=>h
 |k+1=>by rw [SY];exact a7G (a0O h k)
theorem U4 {m:List Int} (h:ib m):ib (Nn m):=a0O h 24
theorem UF {m:List Int} (h:ib m):iI m=some (Nn m):=by
 unfold iI
 have key:Loop (dx mS rcL rcL) (m,0)=some (Nn m,24,false):=
  an (fun k=>(iU rdP k m,(k:Int))) 24 (fun k hk=>by
   have h1:=a0O h k
   have hl1:=h1.1
   have hr:=UN
   simp only [dx]
   simp (disch:=omega) only [brd,Cv,eH,aa]
   rw [b0L h1.1,obs,a9F h1.1 (by rw [a7v,kJ]),obs,brd (by rw [Sr,kJ]),b0q h1.1 (by rw [Sr,kJ]),obs]
   have hl:=Ut (iU (p3 (iU rdP k m) (iU (p2 (iU rdP k m)) 25 (nZ 5))) 25 (nZ 25)) 25 (iU rdP k m)
   simp (disch:=omega) only [eH,brd]
   rw [SY]
   unfold yv
   simp only [mi,Int.toNat_natCast]) (by simp (disch:=omega) only [dx,brn];rfl)
 rw [b4j,a49,key,obs]
theorem Us {m:List Int} (h:ib m):n6 m=some (Nn m):=by
 unfold n6
 have key:Loop (fg (nZ 25) rcL mS) (m,0)=some (Nn m,24,false):=
  an (fun k=>(iU rdP k m,(k:Int))) 24 (fun k hk=>by
   have h1:=a0O h k
   have hl1:=h1.1
   have hr:=UN
   simp only [fg]
   rw [brd (by omega),a9E h1.1,obs,b0c h1.1 (by rw [Zc,kJ]),obs,a9i (kJ 25) (by rw [Ou];exact h1.1),obs,
    a9P (by rw [Ou];exact h1.1) (by rw [YX,kJ]),obs]
   have hl:=a6o (iU (q4 (iU (q3 (iU (q2 (iU rdP k m)) 5 (nZ 5))) 25 (iU rdP k m))) 5 (nZ 25)) 5 (iU (q3 (iU (q2 (iU rdP k m)) 5 (nZ 5))) 25 (iU rdP k m))
   rw [Ou] at hl
   simp (disch:=omega) only [eH,brd,Cv,aa]
   rw [SY,a79 h1]
   unfold Zt
   simp only [mi,Int.toNat_natCast]) (by simp (disch:=omega) only [fg,brn];rfl)
 have hp:=(U4 h).1
 rw [brd h.1]
 show (some rcL).bind _=_
 rw [obs,brd UN]
 show (some mS).bind _=_
 rw [obs,brd Hn,key,obs,brd hp,brd hp,brd hp]
theorem TM {l:List UInt8} {k:Nat} (h:k<l.length):atL l (k:Int)=some (l.getD k 0):=by simp [atL,h]
def lnS (t:List UInt8) (k:Nat) (l:List Int):List Int:=l.set ((k:Int)/8).toNat (vX .u64 (g l ((k:Int)/8)) (bX .u64 (IntKind.wrap .u64 ((t.getD k 0).toNat:Int)) (8*((k:Int)%8))))
def vN (t:List UInt8):List Int:=iU (lnS t) t.length (nZ 25)
theorem RL (t:List UInt8) (k:Nat) (l:List Int):(iU (lnS t) k l).length=l.length:=pM (fun _ _=>List.length_set) k l
theorem B8 (t:List UInt8):ib (vN t):=by
 refine ⟨by rw [vN,RL,kJ], ?_⟩
 have key: ∀k, ∀x∈iU (lnS t) k (nZ 25),Ky x:=by
  intro k
  induction k with
  |zero=>intro x hx;simp only [iU,nZ,List.mem_replicate] at hx;rw [hx.2];exact ⟨by decide,by decide⟩
  |succ k ih=>
   intro x hx
   rcases List.mem_or_eq_of_mem_set hx with h1|h1
   ·exact ih x h1
   ·rw [h1];exact S6 _
 exact key _
theorem Tj {t:List UInt8} (h:t.length≤200):xm t=some (vN t):=by
 unfold xm
 have key:Loop (iQ (nZ 25) t ((t.length:Nat):Int)) (nZ 25,0)=some (vN t,(t.length:Int),false):=
  an (fun k=>(iU (lnS t) k (nZ 25),(k:Int))) t.length (fun k hk=>by
   have hl:=RL t k (nZ 25)
   rw [kJ] at hl
   simp only [iQ]
   simp (disch:=omega) only [brd,bq,fN,Cv,eH,aa,TM,obs]
   rfl) (by simp (disch:=omega) only [iQ,brn];simp;rfl)
 have hl:=(B8 t).1
 rw [key,obs,brd hl,brd hl,brd hl]
theorem YH {t:List UInt8} (h:t.length≤200):sG t=some (vN t):=by
 unfold sG
 have key:Loop (gW (nZ 25) t) (nZ 25,0)=some (vN t,(t.length:Int),false):=
  an (fun k=>(iU (lnS t) k (nZ 25),(k:Int))) t.length (fun k hk=>by
   have hl:=RL t k (nZ 25)
   rw [kJ] at hl
   simp only [gW]
   simp (disch:=omega) only [brd,bq,fN,Cv,eH,aa,cX,TM,obs]
   rfl) (by simp (disch:=omega) only [gW,brn];simp;rfl)
 have hl:=(B8 t).1
 rw [key,obs,brd hl,brd hl,brd hl]
def txB (m:List Int) (i:Nat):UInt8:=UInt8.ofInt (aM .u64 (g m ((i:Int)/8)) (8*((i:Int)%8)))
def tu (m:List Int) (n:Nat):List UInt8:=(List.range n).map (txB m)
theorem BM (m:List Int) (n:Nat):(tu m n).length=n:=by simp [tu]
theorem OT (m:List Int) (n:Nat):tu m (n+1)=tu m n++[txB m n]:=by simp [tu,List.range_succ]
theorem a3N {m:List Int} (h:m.length=25):mQ m=some (tu m 200,m):=by
 unfold mQ
 have key:Loop (fj m) ([],0)=some (tu m 200,200,false):=
  an (fun k=>(tu m k,(k:Int))) 200 (fun k hk=>by
   have hl:=BM m k
   simp only [fj]
   simp (disch:=omega) only [brd,bq,fN,Cv,eH,aa]
   rw [al (by simp only [List.length_append,List.length_cons,List.length_nil];omega),OT]
   rfl) (by simp (disch:=omega) only [fj,brn];rfl)
 rw [key];rfl
theorem a3P {m:List Int} (h:m.length=25) {n:Nat} (hn:n≤200):wC m n=some (tu m n):=by
 unfold wC
 have key:Loop (iM m n) ([],0)=some (tu m n,(n:Int),false):=
  an (fun k=>(tu m k,(k:Int))) n (fun k hk=>by
   have hl:=BM m k
   simp only [iM]
   simp (disch:=omega) only [brd,bq,fN,Cv,eH,aa,cX]
   rw [al (by simp only [List.length_append,List.length_cons,List.length_nil];omega),OT]
   rfl) (by simp (disch:=omega) only [iM,brn];simp)
 rw [brd h,key];rfl
end Go.AI.Fn
set_option linter.unusedVariables false
set_option linter.unusedSimpArgs false
namespace Go.AI.Fn
def xoS (t:List Int) (k:Nat) (l:List Int):List Int:=l.set k (xo (g l k) (g t k))
def a3Y (t m:List Int):List Int:=iU (xoS t) 25 m
theorem RP (t:List Int) (k:Nat) (l:List Int):(iU (xoS t) k l).length=l.length:=pM (fun _ _=>List.length_set) k l
theorem Zx {t m:List Int} (h:ib m):ib (a3Y t m):=by
 refine ⟨by rw [a3Y,RP];exact h.1, ?_⟩
 have key: ∀k, ∀x∈iU (xoS t) k m,Ky x:=by
  intro k
  induction k with
  |zero=>exact h.2
  |succ k ih=>
   intro x hx
   rcases List.mem_or_eq_of_mem_set hx with h1|h1
   ·exact ih x h1
   ·rw [h1];exact S6 _
 exact key _
theorem a6T {l5 a:List UInt8} {t m:List Int} (ht:t.length=25) (h:m.length=25):Loop (ko l5 a t) (m,0)=some (a3Y t m,25,false):=
 an (fun k=>(iU (xoS t) k m,(k:Int))) 25 (fun k hk=>by
  have hl:=RP t k m
  simp only [ko]
  simp (disch:=omega) only [brd,Cv,eH,aa]
  rfl) (by simp (disch:=omega) only [ko,brn];rfl)
theorem a4E {l5 a:List UInt8} {p:Int} {t m:List Int} (ht:t.length=25) (h:m.length=25):Loop (iV l5 t a p) (m,0)=some (a3Y t m,25,false):=
 an (fun k=>(iU (xoS t) k m,(k:Int))) 25 (fun k hk=>by
  have hl:=RP t k m
  simp only [iV]
  simp (disch:=omega) only [brd,Cv,eH,aa]
  rfl) (by simp (disch:=omega) only [iV,brn];rfl)
def b6I (a:List UInt8) (k:Nat) (m:List Int):List Int:=Nn (a3Y (vN ((a.drop (136*k)).take 136)) m)
def UE (a:List UInt8) (n:Nat):List Int:=iU (b6I a) n (nZ 25)
theorem b6s:ib (nZ 25):=⟨kJ 25,fun x hx=>by simp only [nZ,List.mem_replicate] at hx;rw [hx.2];exact ⟨by decide,by decide⟩⟩
theorem MR (a:List UInt8) (n:Nat):UE a (n+1)=Nn (a3Y (vN ((a.drop (136*n)).take 136)) (UE a n)):=by
 unfold UE;rw [iU,b6I]
theorem Ma (a:List UInt8): ∀n,ib (UE a n)
 |0=>b6s
 |n+1=>by rw [MR];exact U4 (Zx (Ma a n))
theorem a4x {l4 a:List UInt8} {n:Nat} (h:a.length=136*n) (hn:n≤1000000000):Loop (jV l4) (nZ 25,a)=some (UE a n,[],false):=
 an (fun k=>(UE a k,a.drop (136*k))) n (fun k hk=>by
  have h1:=Ma a k
  have hx:=Zx (t:=vN ((a.drop (136*k)).take 136)) h1
  simp only [jV]
  rw [brd (by rw [List.length_drop];omega),oA (by omega) (by omega) (by rw [List.length_drop];omega),obs,oA (by omega) (by rw [List.length_drop];omega) (by omega)]
  have e1:(List.drop (Int.toNat 0) (List.drop (136*k) a)).take (Int.toNat 136-Int.toNat 0)=(a.drop (136*k)).take 136:=rfl
  have e2:(List.drop (Int.toNat 136) (List.drop (136*k) a)).take ((((List.drop (136*k) a).length:Nat):Int).toNat-Int.toNat 136)=a.drop (136*(k+1)):=by
   rw [List.drop_drop,List.take_of_length_le (by rw [List.length_drop,List.length_drop];simp;omega)]
   congr 1
  rw [e1,e2,Tj (by rw [List.length_take];omega),obs,a6T (B8 _).1 h1.1,obs,UF hx,obs,obs,MR]) (by
  simp only [jV]
  rw [brn (by rw [List.length_drop];omega),List.drop_eq_nil_of_le (by omega)]
  rfl)
theorem a8m {l3 a:List UInt8} {n:Nat} (h:a.length=136*n) (hn:n≤1000000000): ∃p,Loop (iW l3 a) (nZ 25,0)=some (UE a n,p):=
 ⟨_,an (fun k=>(UE a k,((136*k:Nat):Int))) n (fun k hk=>by
   have h1:=Ma a k
   have hx:=Zx (t:=vN ((a.drop (136*k)).take 136)) h1
   simp only [iW]
   rw [brd (by omega),aa _ (by omega) (by omega),oA (by omega) (by omega) (by omega),obs]
   have e1:(List.drop (((136*k:Nat):Int)).toNat a).take (((((136*k:Nat):Int))+136).toNat-(((136*k:Nat):Int)).toNat)=(a.drop (136*k)).take 136:=by
    congr 1
    omega
   rw [e1,YH (by rw [List.length_take];omega),obs,brd (B8 _).1,a4E (B8 _).1 h1.1,obs,brd hx.1,Us hx,obs,Cv (U4 hx).1 hx.1,MR]
   have e2:(((136*k:Nat):Int))+136=((136*(k+1):Nat):Int):=by omega
   rw [e2]) (by
   simp only [iW]
   rw [brn (by omega)])⟩
def FO (l:List UInt8):List UInt8:=l++List.replicate ((136-l.length%136)%136) 0
theorem M9 (l:List UInt8):(FO l).length=136*((l.length+135)/136):=by
 rw [FO,List.length_append,List.length_replicate];omega
theorem XD {α:Type} (n:Nat) (x:α):List.replicate (n+1) x=List.replicate n x++[x]:=by
 rw [List.replicate_succ']
theorem a6a {c l:List UInt8} (h:l.length≤1000000000):Loop (i7 c) l=some (FO l,false):=by
 have key:=an (step:=i7 c) (e:=(FO l,false)) (fun k=>l++List.replicate k 0) ((136-l.length%136)%136) (fun k hk=>by
  simp only [i7]
  rw [bq _ _ (by omega),brb (by rw [List.length_append,List.length_replicate];omega),al (by simp only [List.length_append,List.length_replicate,List.length_cons,List.length_nil];omega),XD,List.append_assoc]) (by
  simp only [i7]
  have e:((((l++List.replicate ((136-l.length%136)%136) (0:UInt8)).length:Nat):Int).tmod 136)=0:=by
   rw [bq _ _ (by omega),List.length_append,List.length_replicate];omega
  rw [e,fw rfl];rfl)
 rwa [List.replicate_zero,List.append_nil] at key
theorem a6q {c l:List UInt8} (h:l.length≤1000000000):Loop (gA c) l=some (FO l,false):=by
 have key:=an (step:=gA c) (e:=(FO l,false)) (fun k=>l++List.replicate k 0) ((136-l.length%136)%136) (fun k hk=>by
  simp only [gA]
  rw [bq _ _ (by omega),brb (by rw [List.length_append,List.length_replicate];omega),al (by simp only [List.length_append,List.length_replicate,List.length_cons,List.length_nil];omega),XD,List.append_assoc]) (by
  simp only [gA]
  have e:((((l++List.replicate ((136-l.length%136)%136) (0:UInt8)).length:Nat):Int).tmod 136)=0:=by
   rw [bq _ _ (by omega),List.length_append,List.length_replicate];omega
  rw [e,fw rfl];rfl)
 rwa [List.replicate_zero,List.append_nil] at key
def No (b:List UInt8):List UInt8:=(FO (b++[1])).set ((FO (b++[1])).length-1) (UInt8.ofInt (vX .u8 (((FO (b++[1])).getD ((FO (b++[1])).length-1) 0).toNat:Int) 128))
def H (b:List UInt8):List UInt8:=tu (UE (No b) ((b.length+136)/136)) 32
theorem uQ (b:List UInt8):(H b).length=32:=BM _ _
theorem W0 (b:List UInt8):(No b).length=136*((b.length+136)/136):=by
 rw [No,List.length_set,M9,List.length_append,List.length_singleton]
theorem a7V {β:Type} {l:List UInt8} {i:Nat} {f:UInt8→Option β} (h:i<l.length):(l[i]?).bind f=f (l.getD i 0):=by simp [h]
theorem ZB (m:List Int):(tu m 200).take 32=tu m 32:=by
 rw [tu, ←List.map_take,List.take_range];rfl
theorem mj {b:List UInt8} (h:b.length≤100000000):fW b=some (H b):=by
 unfold fW
 have hl:=M9 (b++[1])
 rw [List.length_append,List.length_singleton] at hl
 have hpl:=W0 b
 rw [al (by omega),al (by rw [List.length_append,List.length_singleton];omega),a6q (by rw [List.length_append,List.length_singleton];omega),obs]
 dsimp only
 rw [aa _ (by omega) (by omega)]
 have ei:(((FO (b++[1])).length:Int)-1).toNat=(FO (b++[1])).length-1:=by omega
 rw [ei]
 simp (disch:=omega) only [brd,a7V]
 obtain ⟨p,hp⟩:=a8m (l3:=[1]) hpl (by omega)
 unfold No at hp
 rw [hp,obs]
 dsimp only
 have ok:=Ma (No b) ((b.length+136)/136)
 unfold No at ok
 rw [brd ok.1]
 have ht:=a3P (n:=32) ok.1 (by omega)
 rw [show ((32:Nat):Int)=32 from rfl] at ht
 rw [ht,obs,H,No]
theorem WN {l:List (List UInt8)} (h:l.flatten.length≤1000000000) (hn:l.length≤1000000):Loop (kt l ((l.length:Nat):Int)) ([],0)=some (l.flatten,(l.length:Int),false):=
 an (fun k=>((l.take k).flatten,(k:Int))) l.length (fun k hk=>by
  simp only [kt]
  have h1:((l.take k).flatten++l[k]).length≤l.flatten.length:=by
   have e:l.flatten=(l.take (k+1)).flatten++(l.drop (k+1)).flatten:=by rw [←List.flatten_append,List.take_append_drop]
   rw [cr hk,List.flatten_append,List.flatten_singleton] at e
   have e2:=congrArg List.length e
   simp only [List.length_append] at e2 ⊢
   omega
  rw [brd (by omega),bS hk,obs,al (by omega),aa _ (by omega) (by omega),cr hk,List.flatten_append,List.flatten_singleton]
  rfl) (by
  simp only [kt]
  rw [brn (by omega),List.take_length];simp)
theorem pA {l:List (List UInt8)} (h:l.flatten.length≤100000000) (hn:l.length≤1000000):mK l=some (H l.flatten):=by
 unfold mK
 rw [WN (by omega) hn,obs]
 dsimp only
 generalize l.flatten=b at h
 have hl:=M9 (b++[1])
 rw [List.length_append,List.length_singleton] at hl
 have hpl:=W0 b
 rw [al (by rw [List.length_append,List.length_singleton];omega),a6a (by rw [List.length_append,List.length_singleton];omega),obs]
 dsimp only
 rw [aa _ (by omega) (by omega)]
 have ei:(((FO (b++[1])).length:Int)-1).toNat=(FO (b++[1])).length-1:=by omega
 rw [ei]
 simp (disch:=omega) only [brd,a7V]
 have hp:=a4x (l4:=[1]) hpl (by omega)
 unfold No at hp
 rw [hp,obs]
 dsimp only
 have ok:=Ma (No b) ((b.length+136)/136)
 unfold No at ok
 rw [a3N ok.1,obs,oA (by omega) (by omega) (by rw [BM];omega),obs,H,No, ←ZB]
 rfl
theorem uw {t:List UInt8} (h:t.length≤100000000):pu t=some (H t):=by
 unfold pu
 rw [al (by omega),pA (by simpa using h) (by simp)]
 simp
end Go.AI.Fn
set_option linter.unusedVariables false
namespace Go.AI.Fn
theorem b5U {a:List UInt8} {i n:Int} (hl:a.length≤1048576) (hi0:0≤i) (hi1:i≤1099511627776) (hn:1<n): ∃x,a7n a i n=some x∧0≤x∧x<n:=by
 unfold a7n
 rw [brn (by omega)]
 by_cases c:((a.length:Nat):Int)=0
 ·rw [bre c,brd (by omega),aa _ (by omega) (by omega),bq _ _ (by omega)]
  exact ⟨_,rfl,Int.emod_nonneg _ (by omega),Int.emod_lt_of_pos _ (by omega)⟩
 ·rw [AL c,brd c,bq _ _ hi0]
  have h1:=Int.emod_nonneg i c
  have h2:=Int.emod_lt_of_pos i (b:=(a.length:Int)) (by omega)
  obtain ⟨x,hx,_,_⟩:=Ug (l:=a) h1 h2
  have h3:=Int.emod_nonneg (i+1) c
  have h4:=Int.emod_lt_of_pos (i+1) (b:=(a.length:Int)) (by omega)
  obtain ⟨y,hy,_,_⟩:=Ug (l:=a) h3 h4
  have bx:=pj x
  have bz:=pj y
  have h5:0≤i/(a.length:Int):=Int.ediv_nonneg hi0 (by omega)
  have h6:i/(a.length:Int)≤i:=Int.ediv_le_self _ hi0
  rw [hx]
  simp only [obs]
  rw [brd c,aa (i+1) (by omega) (by omega),bq _ _ (by omega),hy]
  simp only [obs]
  rw [brd c,brd (by omega),fN _ _ hi0]
  generalize i/((a.length:Nat):Int)=q at h5 h6 ⊢
  rw [aa q (by omega) (by omega),aa (x.toNat:Int) (by omega) (by omega),aa (y.toNat:Int) (by omega) (by omega),aa ((x.toNat:Int)*31) (by omega) (by omega),aa ((x.toNat:Int)*31+(y.toNat:Int)) (by omega) (by omega),aa _ (by omega) (by omega),bq _ _ (by omega)]
  exact ⟨_,rfl,Int.emod_nonneg _ (by omega),Int.emod_lt_of_pos _ (by omega)⟩
def dX (n:Int):List UInt8:=[UInt8.ofInt (aM .i64 n 24),UInt8.ofInt (aM .i64 n 16),UInt8.ofInt (aM .i64 n 8),UInt8.ofInt n]
def e8 (x:Ext):List UInt8:=dX x.A++dX x.B
theorem eP (n:Int):(dX n).length=4:=rfl
theorem b4f (x:Ext):(e8 x).length=8:=rfl
theorem Nb {n:Int} {l:List UInt8} (h:l.length≤1099511627770):xx n l=some (l++dX n):=by
 unfold xx
 rw [zw (Fo (by simp only [List.length_append,List.length_cons,List.length_nil];omega))];rfl
theorem b7C (n:Int):aM .i64 n 0=n:=by simp [aM]
theorem Ck (n:Int):ed n 4=some (dX n):=by
 unfold ed
 rw [show IntKind.wrap .i64 (4-1)=3 by decide,
  ck (s':=([UInt8.ofInt (aM .i64 n 24)],2)) (by kernel_rfl),
  ck (s':=([UInt8.ofInt (aM .i64 n 24),UInt8.ofInt (aM .i64 n 16)],1)) (by kernel_rfl),
  ck (s':=([UInt8.ofInt (aM .i64 n 24),UInt8.ofInt (aM .i64 n 16),UInt8.ofInt (aM .i64 n 8)],0)) (by kernel_rfl),
  ck (s':=([UInt8.ofInt (aM .i64 n 24),UInt8.ofInt (aM .i64 n 16),UInt8.ofInt (aM .i64 n 8),UInt8.ofInt (aM .i64 n 0)], -1)) (by kernel_rfl),
  cx (e:=([UInt8.ofInt (aM .i64 n 24),UInt8.ofInt (aM .i64 n 16),UInt8.ofInt (aM .i64 n 8),UInt8.ofInt (aM .i64 n 0)], -1,false)) (by kernel_rfl),b7C]
 rfl
theorem vx {l:List Ext} (hl:l.length≤4194304):lG l=some (l.flatMap e8):=by
 unfold lG
 have key:=tG (step:=gJ l ((l.length:Nat):Int))
  (fun s=>0≤s.2∧s.2≤l.length∧(s.1.length:Int)=8*s.2∧s.1++(l.drop s.2.toNat).flatMap e8=l.flatMap e8) (fun s=>(l.length-s.2).toNat)
  (fun e=>e.1=l.flatMap e8) ?_ ([],0) ⟨by first|omega| (dsimp only;omega),by first|omega| (dsimp only;omega),by simp,rfl⟩
 ·obtain ⟨e,he,h⟩:=key
  rw [he];simp only [obs,h]
 ·rintro ⟨o,t⟩ ⟨h0,h1,h3,h2⟩
  dsimp only at h0 h1 h2 h3
  by_cases c:t<(l.length:Int)
  ·left
   obtain ⟨x,r,e1,e2,e3⟩:=RD (l:=l) (i:=t.toNat) (by omega)
   simp only [gJ]
   rw [brd c,Y7 h0 e1]
   simp only [obs]
   rw [Nb (by omega)]
   simp only [obs]
   rw [Nb (by simp only [List.length_append,eP];omega),aa (t+1) (by omega) (by omega)]
   refine ⟨_,rfl,⟨by first|omega| (dsimp only;omega),by first|omega| (dsimp only;omega), ?_, ?_⟩,by first|omega| (dsimp only;omega)⟩
   ·simp only [List.length_append,eP];omega
   ·dsimp only
    rw [show (t+1).toNat=t.toNat+1 by omega,e2]
    rw [e1,List.flatMap_cons] at h2
    simpa [e8] using h2
  ·right
   simp only [gJ]
   rw [brn c]
   refine ⟨_,rfl, ?_⟩
   rw [List.drop_eq_nil_of_le (by omega)] at h2
   simpa using h2
theorem Ec {l:List Ext} (hl:l.length≤4194304):lF l=some (l.flatMap e8):=by
 unfold lF
 have key:=tG (step:=gN l)
  (fun s=>0≤s.2∧s.2≤l.length∧(s.1.length:Int)=8*s.2∧s.1++(l.drop s.2.toNat).flatMap e8=l.flatMap e8) (fun s=>(l.length-s.2).toNat)
  (fun e=>e.1=l.flatMap e8) ?_ ([],0) ⟨by first|omega| (dsimp only;omega),by first|omega| (dsimp only;omega),by simp,rfl⟩
 ·obtain ⟨e,he,h⟩:=key
  rw [he];simp only [obs,h]
 ·rintro ⟨o,t⟩ ⟨h0,h1,h3,h2⟩
  dsimp only at h0 h1 h2 h3
  by_cases c:t<(l.length:Int)
  ·left
   obtain ⟨x,r,e1,e2,e3⟩:=RD (l:=l) (i:=t.toNat) (by omega)
   simp only [gN]
   rw [brd c,Y7 h0 e1]
   simp only [obs,Ck]
   rw [zw (Fo (by simp only [List.length_append,eP];omega)),zw (Fo (by simp only [List.length_append,eP];omega)),aa (t+1) (by omega) (by omega)]
   refine ⟨_,rfl,⟨by first|omega| (dsimp only;omega),by first|omega| (dsimp only;omega), ?_, ?_⟩,by first|omega| (dsimp only;omega)⟩
   ·simp only [List.length_append,eP];omega
   ·dsimp only
    rw [show (t+1).toNat=t.toNat+1 by omega,e2]
    rw [e1,List.flatMap_cons] at h2
    simpa [e8] using h2
  ·right
   simp only [gN]
   rw [brn c]
   refine ⟨_,rfl, ?_⟩
   rw [List.drop_eq_nil_of_le (by omega)] at h2
   simpa using h2
end Go.AI.Fn
set_option linter.unusedVariables false
namespace Go.AI.Fn
def be (w x y z:UInt8):Int:=(((w.toNat:Int)*256+x.toNat)*256+y.toNat)*256+z.toNat
theorem b7P {l:List UInt8} (h:8≤l.length): ∃a b c d e f g k r,l=a::b::c::d::e::f::g::k::r:=by
 match l,h with
 |a::b::c::d::e::f::g::k::r,_=>exact ⟨a,b,c,d,e,f,g,k,r,rfl⟩
theorem a9v {n:Int} (x:UInt8) (h0:0≤n) (h1:n<16777216):vX .i64 (bX .i64 n 8) (IntKind.wrap .i64 (x.toNat:Int))=n*256+x.toNat:=by
 have hx:=pj x
 have e1:bX .i64 n 8=n*256:=by
  have:n*2^(min (8:Int).toNat (IntKind.bits .i64))=n*256:=by
   have:(2:Int)^(min (8:Int).toNat (IntKind.bits .i64))=256:=by decide
   rw [this]
  unfold bX
  rw [this,aa _ (by omega) (by omega)]
 rw [e1,aa (x.toNat:Int) (by omega) (by omega)]
 unfold vX
 obtain ⟨m,rfl⟩:=Int.eq_ofNat_of_zero_le h0
 have e2:(BitVec.ofInt (IntKind.bits .i64) ((m:Int)*256)|||BitVec.ofInt (IntKind.bits .i64) (x.toNat:Int)).toNat=m*256+x.toNat:=by
  rw [BitVec.toNat_or,BitVec.toNat_ofInt,BitVec.toNat_ofInt]
  have b1:(((m:Int)*256)%((2^(IntKind.bits .i64):Nat):Int)).toNat=m<<<8:=by
   rw [show ((2^(IntKind.bits .i64):Nat):Int)=18446744073709551616 by decide,Nat.shiftLeft_eq];omega
  have b2:((x.toNat:Int)%((2^(IntKind.bits .i64):Nat):Int)).toNat=x.toNat:=by
   rw [show ((2^(IntKind.bits .i64):Nat):Int)=18446744073709551616 by decide];omega
  rw [b1,b2, ←Nat.shiftLeft_add_eq_or_of_lt (show x.toNat<2^8 by omega),Nat.shiftLeft_eq]
 rw [e2,aa _ (by omega) (by omega)]
 omega
theorem WZ (w x y z:UInt8):BF [w,x,y,z]=some (be w x y z):=by
 have hw:=pj w
 have hx:=pj x
 have hy:=pj y
 have hz:=pj z
 unfold BF
 have st: ∀(n t:Int) (b:UInt8),0≤n→n<16777216→0≤t→t<4→[w,x,y,z][t.toNat]? =some b→jW [w,x,y,z] (([w,x,y,z].length:Nat):Int) (n,t)=some (.inl (n*256+b.toNat,t+1)):=by
  intro n t b h0 h1 h2 h3 h4
  simp only [jW]
  rw [brd (by simp only [List.length_cons,List.length_nil];omega),show atL [w,x,y,z] t=some b by simp [atL,h2,h4]]
  simp only [obs]
  rw [a9v b h0 h1,aa (t+1) (by omega) (by omega)]
 rw [ck (st 0 0 w (by omega) (by omega) (by omega) (by omega) rfl),ck (st _ _ x (by omega) (by omega) (by omega) (by omega) rfl),ck (st _ _ y (by omega) (by omega) (by omega) (by omega) rfl),ck (st _ _ z (by omega) (by omega) (by omega) (by omega) rfl)]
 rw [cx (e:=(be w x y z,4,false)) ?_]
 ·rfl
 ·simp only [jW]
  rw [brn (by simp only [List.length_cons,List.length_nil];omega)]
  simp [be]
theorem b57 (n:Int) (k:Nat) (hk:k≤64) (h0:0≤n):aM .i64 n (k:Int)=n/2^k:=by
 unfold aM
 have:min ((k:Int).toNat) (IntKind.bits .i64)=k:=by simp [IntKind.bits];omega
 rw [this,Int.fdiv_eq_ediv_of_nonneg _ (by exact Int.pow_nonneg (by decide))]
end Go.AI.Fn
set_option linter.unusedVariables false
set_option linter.unusedSimpArgs false
namespace Go.AI.Fn
def a7P:List UInt8:=[97,98,115,111,114,98]
def RS:List UInt8:=[100,114,97,119]
def KC:List UInt8:=[103,114,105,110,100]
def a9T:List UInt8:=[115,111,117,114,99,101]
def a29 (s:Source):Bool:=decide (s.Script.length≤64)&&(s.Script.all ru&&(decide (s.State.length=32)&&((decide (0≤s.At)&&decide (s.At≤1000000))&&(decide (0≤s.Count)&&decide (s.Count≤1000000)))))
structure uP (s:Source):Prop where
 len:s.Script.length≤64
 scr:eD s.Script
 st:s.State.length=32
 a0:0≤s.At
 a1:s.At≤1000000
 c0:0≤s.Count
 c1:s.Count≤1000000
theorem VP {s:Source}:a29 s=true↔uP s:=by
 unfold a29
 simp only [Bool.and_eq_true,decide_eq_true_eq,I6]
 exact ⟨fun ⟨h1,h2,h3,⟨h4,h5⟩,h6,h7⟩=>⟨h1,h2,h3,h4,h5,h6,h7⟩,fun h=>⟨h.1,h.2,h.3,⟨h.4,h.5⟩,h.6,h.7⟩⟩
theorem AY (h:List UInt8):tD h=some (decide (h.length=32)):=by
 unfold tD
 congr 1
 by_cases c:h.length=32
 ·rw [decide_eq_true c,c];rfl
 ·rw [decide_eq_false c];simp;omega
theorem Pl {s:Source} (hl:s.Script.length≤1099511627776):lY s=some (a29 s):=by
 unfold lY a29
 rw [sj hl]
 by_cases h1:s.Script.length≤64
 ·rw [brd (by omega),decide_eq_true h1,obs,AY,oh,oh]
  cases s.Script.all ru
  ·rfl
  ·simp only [aR,obs,Bool.true_and]
   cases decide (s.State.length=32)
   ·rfl
   ·simp only [aR,Bool.true_and]
    cases (decide (0≤s.At)&&decide (s.At≤1000000))<;>rfl
 ·rw [brn (by omega),decide_eq_false h1];rfl
theorem PF {s:Source} (hl:s.Script.length≤1099511627776):lW s=some (a29 s):=by
 unfold lW a29
 rw [jO hl]
 have e:(((s.State.length:Nat):Int)==32)=decide (s.State.length=32):=by
  by_cases c:s.State.length=32
  ·rw [decide_eq_true c,c];rfl
  ·rw [decide_eq_false c];simp;omega
 by_cases h1:s.Script.length≤64
 ·rw [brd (by omega),decide_eq_true h1,obs,z8,z8,e]
  cases s.Script.all ru
  ·rfl
  ·simp only [aR,obs,Bool.true_and]
   cases (decide (0≤s.At)&&decide (s.At≤1000000))
   ·simp [br]
   ·simp only [aR,Bool.true_and]
    cases decide (s.State.length=32)<;>rfl
 ·rw [brn (by omega),decide_eq_false h1];rfl
theorem wX (n:Int):y6 n=some (dX n):=by
 unfold y6;rw [al (by simp only [List.length_cons,List.length_nil];omega)];rfl
theorem b6R {l:List UInt8} (h:4≤l.length):l.take 4=[l.getD 0 0,l.getD 1 0,l.getD 2 0,l.getD 3 0]:=by
 match l,h with
 |a::b::c::d::r,_=>rfl
theorem Wn {n:Int} {k:Nat} (hk:k≤64) (h0:0≤n):(aM .i64 n (k:Int)==0)=decide (n<2^k):=by
 rw [b57 n k hk h0]
 have hp:(0:Int)<2^k:=Int.pow_pos (by decide)
 by_cases h:n<2^k
 ·rw [decide_eq_true h,Int.ediv_eq_zero_of_lt h0 h];rfl
 ·rw [decide_eq_false h]
  have:1≤n/2^k:=(Int.le_ediv_iff_mul_le hp).2 (by omega)
  simp;omega
def gR (st:List UInt8) (bits:Nat) (nonce:Int):Bool:=decide (((H (st++(KC++dX nonce))).getD 0 0).toNat*256+((H (st++(KC++dX nonce))).getD 1 0).toNat<2^(16-bits))
theorem b2a: ∀b:Nat,b≤12→(2:Int)^(32-b)=65536*((2^(16-b):Nat):Int)∧(2:Int)^(16-b)=((2^(16-b):Nat):Int):=by decide
theorem Ij {s:Source} {bits:Nat} {nonce:Int} (hs:s.State.length=32) (hb:bits≤12):iJ s bits nonce=some (gR s.State bits nonce):=by
 unfold iJ
 have hf:[s.State,[103,114,105,110,100],dX nonce].flatten=s.State++(KC++dX nonce):=by simp [KC]
 have h4:(dX nonce).length=4:=eP nonce
 have h5:KC.length=5:=rfl
 rw [al (by omega),wX,obs,pA (by rw [hf];simp only [List.length_append];omega) (by simp),obs,hf]
 have hl:=uQ (s.State++(KC++dX nonce))
 unfold gR
 generalize H (s.State++(KC++dX nonce))=h at hl
 rw [al (by omega),oA (by omega) (by omega) (by omega),obs]
 have e:(h.drop (Int.toNat 0)).take (Int.toNat 4-Int.toNat 0)=[h.getD 0 0,h.getD 1 0,h.getD 2 0,h.getD 3 0]:=by
  show h.take 4=_
  exact b6R (by omega)
 rw [e,WZ,obs,aa _ (by omega) (by omega),brd (by omega),show (32:Int)-(bits:Int)=((32-bits:Nat):Int) by omega]
 have b0:=pj (h.getD 0 0)
 have b1:=pj (h.getD 1 0)
 have b2:=pj (h.getD 2 0)
 have b3:=pj (h.getD 3 0)
 obtain ⟨g1,g2⟩:=b2a bits hb
 rw [Wn (by omega) (by unfold be;omega),g1]
 congr 1
 have hiff:be (h.getD 0 0) (h.getD 1 0) (h.getD 2 0) (h.getD 3 0)<65536*((2^(16-bits):Nat):Int)↔(h.getD 0 0).toNat*256+(h.getD 1 0).toNat<2^(16-bits):=by
  unfold be;omega
 exact decide_eq_decide.2 hiff
theorem HY {s:Source} {bits:Nat} {nonce:Int} (hs:s.State.length=32) (hb:bits≤12):sr s bits nonce=some (gR s.State bits nonce):=by
 unfold sr
 have hf:s.State++[103,114,105,110,100]++dX nonce=s.State++(KC++dX nonce):=by simp [KC]
 have h4:(dX nonce).length=4:=eP nonce
 have h5:KC.length=5:=rfl
 rw [al (by simp only [List.length_cons,List.length_nil];omega),Ck,obs,al (by simp only [List.length_append,List.length_cons,List.length_nil];omega),hf,mj (by simp only [List.length_append];omega),obs]
 have hl:=uQ (s.State++(KC++dX nonce))
 unfold gR
 generalize H (s.State++(KC++dX nonce))=h at hl
 have e0:atL h 0=some (h.getD 0 0):=TM (k:=0) (by omega)
 have e1:atL h 1=some (h.getD 1 0):=TM (k:=1) (by omega)
 have b0:=pj (h.getD 0 0)
 have b1:=pj (h.getD 1 0)
 rw [e0,obs,e1,obs]
 simp (disch:=omega) only [aa,cX]
 rw [brd (by omega),show (16:Int)-(bits:Int)=((16-bits:Nat):Int) by omega,Wn (by omega) (by omega),(b2a bits hb).2]
 congr 1
 exact decide_eq_decide.2 (by omega)
theorem a5e (st:List UInt8) (bits:Nat):(∃n:Nat,n<65536∧gR st bits n=true∧ ∀j:Nat,j<n→gR st bits j=false)∨ ∀n:Nat,n<65536→gR st bits n=false:=by
 rcases I0 (fun k=> !gR st bits (k:Int)) 65536 with h|⟨k,hk,h1,h2⟩
 ·exact .inr fun n hn=>by simpa using h n hn
 ·exact .inl ⟨k,hk,by simpa using h1,fun j hj=>by simpa using h2 j hj⟩
open Classical in
noncomputable def ij (st:List UInt8) (bits:Nat):Option Nat:=if h: ∃n:Nat,n<65536∧gR st bits n=true∧ ∀j:Nat,j<n→gR st bits j=false then some h.choose else none
theorem DY {st:List UInt8} {bits n:Nat} (h:n<65536) (h1:gR st bits n=true) (h2: ∀j:Nat,j<n→gR st bits j=false):ij st bits=some n:=by
 have hex: ∃n:Nat,n<65536∧gR st bits n=true∧ ∀j:Nat,j<n→gR st bits j=false:=⟨n,h,h1,h2⟩
 unfold ij
 rw [dif_pos hex]
 obtain ⟨g1,g2,g3⟩:=hex.choose_spec
 congr 1
 rcases Nat.lt_trichotomy hex.choose n with hlt|heq|hgt
 ·have:=h2 _ hlt;rw [g2] at this;cases this
 ·exact heq
 ·have:=g3 _ hgt;rw [h1] at this;cases this
theorem E8 {st:List UInt8} {bits:Nat} (h: ∀n:Nat,n<65536→gR st bits n=false):ij st bits=none:=by
 unfold ij
 rw [dif_neg]
 rintro ⟨n,hn,h1,_⟩
 rw [h n hn] at h1;cases h1
theorem LS {st:List UInt8} {bits n:Nat} (h:ij st bits=some n):n<65536∧gR st bits n=true∧ ∀j:Nat,j<n→gR st bits j=false:=by
 rcases a5e st bits with ⟨m,h1,h2,h3⟩|h1
 ·rw [DY h1 h2 h3] at h;cases h;exact ⟨h1,h2,h3⟩
 ·rw [E8 h1] at h;cases h
theorem ZI {s:Source} {bits:Nat} (hs:s.State.length=32) (hb:bits≤12):jA s bits=some (match ij s.State bits with|some n=>(n:Int)|none=> -1):=by
 unfold jA
 have key:=wR (step:=ca bits s.Script s.At s.State s.Count) (fun k=>(k:Int)) 65536 (fun k=> !gR s.State bits (k:Int)) (fun k=> .inl (k:Int)) (e:= .inr (65536,false)) (fun k hk hp=>by
  have hd:gR s.State bits (k:Int)=false:=by simpa using hp
  simp only [ca]
  rw [brd (by omega),Ij (by exact hs) hb,obs,hd,ak,aa _ (by omega) (by omega)];rfl)
  (fun k hk hp=>by
   have hd:gR s.State bits (k:Int)=true:=by simpa using hp
   simp only [ca]
   rw [brd (by omega),Ij (by exact hs) hb,obs,hd,aR])
  (by simp only [ca];rw [brn (by decide)];rfl)
 rcases key with ⟨h1,h2⟩|⟨k,hk,h1,h3,h2⟩
 ·have e:Loop (ca bits s.Script s.At s.State s.Count) 0=some (.inr (65536,false)):=h2
  rw [e,E8 fun n hn=>by simpa using h1 n hn];rfl
 ·have e:Loop (ca bits s.Script s.At s.State s.Count) 0=some (.inl (k:Int)):=h2
  rw [e,DY hk (by simpa using h1) fun j hj=>by simpa using h3 j hj];rfl
theorem a09 {s:Source} {bits:Nat} (hs:s.State.length=32) (hb:bits≤12):tr s bits=some (match ij s.State bits with|some n=>((n:Int),true)|none=>(0,false)):=by
 unfold tr
 have key:=wR (step:=dq bits s.Script s.At s.State s.Count) (fun k=>(k:Int)) 65536 (fun k=> !gR s.State bits (k:Int)) (fun k=> .inl (k:Int)) (e:= .inr (65536,false)) (fun k hk hp=>by
  have hd:gR s.State bits (k:Int)=false:=by simpa using hp
  simp only [dq]
  rw [brd (by omega),HY (by exact hs) hb,obs,hd,ak,aa _ (by omega) (by omega)];rfl)
  (fun k hk hp=>by
   have hd:gR s.State bits (k:Int)=true:=by simpa using hp
   simp only [dq]
   rw [brd (by omega),HY (by exact hs) hb,obs,hd,aR])
  (by simp only [dq];rw [brn (by decide)];rfl)
 rcases key with ⟨h1,h2⟩|⟨k,hk,h1,h3,h2⟩
 ·have e:Loop (dq bits s.Script s.At s.State s.Count) 0=some (.inr (65536,false)):=h2
  rw [e,E8 fun n hn=>by simpa using h1 n hn];rfl
 ·have e:Loop (dq bits s.Script s.At s.State s.Count) 0=some (.inl (k:Int)):=h2
  rw [e,DY hk (by simpa using h1) fun j hj=>by simpa using h3 j hj];rfl
end Go.AI.Fn
set_option linter.unusedVariables false
set_option linter.unusedSimpArgs false
namespace Go.AI.Fn
def tkM (s:Source) (t:List UInt8):Source:=⟨s.Script,s.At,H (s.State++(a7P++(dX t.length++t))),0⟩
theorem b3s {s:Source} (t:List UInt8) (h:uP s):uP (tkM s t):=⟨h.1,h.2,uQ _,h.4,h.5,by simp [tkM],by simp [tkM]⟩
def beN (l:List UInt8):Int:=l.foldl (fun n c=>n*256+(c.toNat:Int)) 0
def a3a (l:List UInt8):Int:=beN l%2130706433
def nC (s:Source):Source×Ext:=
 if s.Script.length=0 then (⟨s.Script,s.At,s.State,s.Count+1⟩,⟨a3a ((H (s.State++(RS++dX s.Count))).take 8),a3a (((H (s.State++(RS++dX s.Count))).drop 8).take 8)⟩)
 else (⟨s.Script,s.At+1,s.State,s.Count⟩,s.Script.getD (s.At%(s.Script.length:Int)).toNat e0)
theorem a0M (l:List UInt8):okF (a3a l):=iu _
theorem Wg {s:Source} (h:uP s):okE (nC s).2:=by
 unfold nC
 split
 ·exact ⟨a0M _,a0M _⟩
 ·exact h.scr.getD _
theorem a3M {s:Source} (h:uP s) (ha:s.At<1000000) (hc:s.Count<1000000):uP (nC s).1:=by
 unfold nC
 split
 ·exact ⟨h.1,h.2,h.3,h.4,h.5,by have:=h.6;simp;omega,by simp;omega⟩
 ·exact ⟨h.1,h.2,h.3,by have:=h.4;simp;omega,by simp;omega,h.6,h.7⟩
theorem ml {s:Source} {t:List UInt8} (hs:s.State.length=32) (ht:t.length≤1000000):dZ s t=some (tkM s t):=by
 unfold dZ
 have h4:=eP ((t.length:Nat):Int)
 rw [al (by simp only [List.length_cons,List.length_nil];omega),Ck,obs,al (by simp only [List.length_append,List.length_cons,List.length_nil];omega),
  al (by simp only [List.length_append,List.length_cons,List.length_nil];omega),mj (by simp only [List.length_append,List.length_cons,List.length_nil];omega),obs,tkM]
 simp [a7P]
theorem M2 (l:List UInt8) (c:UInt8):beN (l++[c])=beN l*256+(c.toNat:Int):=by simp [beN,List.foldl_append]
theorem Oh {t:List UInt8} (h:t.length=8):o5 t=some (a3a t):=by
 unfold o5
 have key:Loop (hG t) (0,0)=some (a3a t,8,false):=
  an (fun k=>(beN (t.take k)%2130706433,(k:Int))) 8 (fun k hk=>by
   have hk':k<t.length:=by omega
   have hb:=pj t[k]
   have hm:0≤beN (t.take k)%2130706433∧beN (t.take k)%2130706433<2130706433:=by omega
   simp only [hG]
   rw [brd (by omega),bS hk',obs]
   simp (disch:=omega) only [aa,bq]
   rw [cr hk',M2,mX1];rfl) (by
   simp only [hG]
   rw [brn (by decide),List.take_of_length_le (by omega)];rfl)
 rw [key];rfl
theorem HQ {s:Source} (h:uP s):iL s=some (nC s):=by
 have h1:=h.1
 have h3:=h.3
 have h4:=h.4
 have h5:=h.5
 have h6:=h.6
 have h7:=h.7
 unfold iL nC
 by_cases hl:s.Script.length=0
 ·have hf:=eP s.Count
  rw [brn (by omega),if_pos hl,al (by simp only [List.length_cons,List.length_nil];omega),Ck,obs,al (by simp only [List.length_append,List.length_cons,List.length_nil];omega),mj (by simp only [List.length_append,List.length_cons,List.length_nil];omega),obs]
  have e:s.State++[100,114,97,119]++dX s.Count=s.State++(RS++dX s.Count):=by simp [RS]
  rw [e]
  have hh:=uQ (s.State++(RS++dX s.Count))
  rw [oA (by omega) (by omega) (by omega),obs,Oh (by simp;omega),obs,oA (by omega) (by omega) (by omega),obs,Oh (by simp;omega),obs,aa _ (by omega) (by omega)]
  rfl
 ·have hr:=Int.emod_nonneg s.At (b:=(s.Script.length:Int)) (by omega)
  have hr2:=Int.emod_lt_of_pos s.At (b:=(s.Script.length:Int)) (by omega)
  rw [brd (by omega),if_neg hl,brd (by omega),bq _ _ h4,aa _ (by omega) (by omega)]
  have e:atL s.Script (s.At%(s.Script.length:Int))=some (s.Script.getD (s.At%(s.Script.length:Int)).toNat e0):=by
   have:=a1S (l:=s.Script) (k:=(s.At%(s.Script.length:Int)).toNat) (by omega)
   rwa [Int.toNat_of_nonneg hr] at this
  rw [e];rfl
theorem FZ {s:Source} (h:s.Script.length≤1000000):pz s=some s:=by
 unfold pz;rw [al (by simp;omega)];simp
theorem a6Y {l:List UInt8} {scr:List Ext} (h:l.length≤1000000):B0 l scr=some ⟨scr,0,H (a9T++l),0⟩:=by
 unfold B0
 rw [al (by simp only [List.length_cons,List.length_nil];omega),mj (by simp only [List.length_append,List.length_cons,List.length_nil];omega),obs];rfl
theorem a6c {l:List UInt8} {scr:List Ext} (h:scr.length≤64) (hs:eD scr):uP ⟨scr,0,H (a9T++l),0⟩:=⟨h,hs,uQ _,by simp,by simp,by simp,by simp⟩
theorem a0z {l:List (List UInt8)} {m:bJ} {B:Int} (h:Src B m) (hB:B+3<Big) (h0:1<l.length) (h1:l.length≤100): ∃x m',gw l m=some (x,m')∧x∈l∧Src (B+3) m':=by
 unfold gw
 obtain ⟨x,m1,e1,x0,x1,_,s1⟩:=ld (n:=(l.length:Int)) h (by omega)
 rw [AL (by omega),e1,obs]
 obtain ⟨y,hy,_,hm⟩:=Ug (l:=l) x0 (by have:=x1;omega)
 dsimp only
 rw [hy]
 exact ⟨_,_,rfl,hm,s1⟩
structure Few (s:Source) (k:Int):Prop where
 ok:uP s
 a:s.At≤k
 c:s.Count≤k
theorem Few.mono {s:Source} {j k:Int} (h:Few s j) (hk:j≤k):Few s k:=⟨h.1,by have:=h.2;omega,by have:=h.3;omega⟩
theorem Few.take {s:Source} {k:Int} (h:Few s k) (t:List UInt8):Few (tkM s t) (k+1):=⟨b3s t h.1,by have:=h.2;simp [tkM];omega,by have:=h.3;have:=h.1.c0;simp [tkM];omega⟩
theorem Few.draw {s:Source} {k:Int} (h:Few s k) (hk:k<1000000):Few (nC s).1 (k+1):=by
 have h2:=h.2
 have h3:=h.3
 refine ⟨a3M h.1 (by omega) (by omega), ?_, ?_⟩<;>(unfold nC;split<;>dsimp only<;>omega)
theorem a1x {c4 c6:Int} {c5:List UInt8} {i B k:Int} {m:bJ} {s:Source} (h:Src B m) (hs:Few s k) (hi0:0≤i) (hi:i≤4) (hk:k≤100) (hB:B+6*i<Big):
 ∃e,Loop (dB c4 c5 c6) (i,m.code,m.at_,m.seed,s.Script,s.At,s.State,s.Count)=some e∧Src (B+6*i) ⟨e.2.2.1,e.2.2.2.1,e.2.2.2.2.1⟩∧Few ⟨e.2.2.2.2.2.1,e.2.2.2.2.2.2.1,e.2.2.2.2.2.2.2.1,e.2.2.2.2.2.2.2.2⟩ (k+i):=by
 refine tG (step:=dB c4 c5 c6) (fun x=>0≤x.1∧x.1≤i∧Src (B+6*(i-x.1)) ⟨x.2.1,x.2.2.1,x.2.2.2.1⟩∧Few ⟨x.2.2.2.2.1,x.2.2.2.2.2.1,x.2.2.2.2.2.2.1,x.2.2.2.2.2.2.2⟩ (k+(i-x.1))) (fun x=>x.1.toNat) _ ?_ (i,m.code,m.at_,m.seed,s.Script,s.At,s.State,s.Count) ⟨hi0,by dsimp only;omega,h.mono (by dsimp only;omega),hs.mono (by dsimp only;omega)⟩
 rintro ⟨j,c,c2,c3,d,d2,d3,d4⟩ ⟨j0,j1,hsr,hfw⟩
 dsimp only at j0 j1 hsr hfw
 simp only [dB]
 by_cases hj:j>0
 ·left
  rw [brd hj]
  obtain ⟨b,m1,e1,s1⟩:=I4 (n:=2) hsr (by omega)
  rw [e1,obs]
  cases b
  ·dsimp only
   rw [ak,HQ hfw.1,obs,aa _ (by omega) (by omega)]
   exact ⟨_,rfl,⟨by dsimp only;omega,by dsimp only;omega,s1.mono (by dsimp only;omega),(hfw.draw (by omega)).mono (by dsimp only;omega)⟩,by dsimp only;omega⟩
  ·dsimp only
   obtain ⟨y,m2,e2,_,s2⟩:=a0z (l:=[[],[116,101,120,116]]) s1 (by omega) (by decide) (by decide)
   have hy:y.length≤1000:=by
    have:y∈[[],[116,101,120,116]]:=by assumption
    simp only [List.mem_cons,List.mem_nil_iff,or_false] at this
    rcases this with rfl|rfl<;>simp
   rw [aR,e2,obs,ml (t:=y) hfw.1.3 (by omega),obs,aa _ (by omega) (by omega)]
   exact ⟨_,rfl,⟨by dsimp only;omega,by dsimp only;omega,s2.mono (by dsimp only;omega),(hfw.take y).mono (by dsimp only;omega)⟩,by dsimp only;omega⟩
 ·right
  rw [brn hj]
  have:j=0:=by omega
  subst this
  exact ⟨_,rfl,hsr.mono (by omega),hfw.mono (by omega)⟩
theorem b1S {c4 c6:Int} {c5:List UInt8} {i B k:Int} {m:bJ} {s:Source} (h:Src B m) (hs:Few s k) (hi0:0≤i) (hi:i≤4) (hk:k≤100) (hB:B+6*i<Big):
 ∃e,Loop (gH c4 c5 c6) (i,m.code,m.at_,m.seed,s.Script,s.At,s.State,s.Count)=some e∧Src (B+6*i) ⟨e.2.2.1,e.2.2.2.1,e.2.2.2.2.1⟩∧Few ⟨e.2.2.2.2.2.1,e.2.2.2.2.2.2.1,e.2.2.2.2.2.2.2.1,e.2.2.2.2.2.2.2.2⟩ (k+i):=
 a1x (c4:=c4) (c5:=c5) (c6:=c6) h hs hi0 hi hk hB
theorem V3 {code:List UInt8} (h:code.length≤1048576): ∃s,tv code=some s∧Few s 4:=by
 unfold tv ll
 obtain ⟨m,e1,s1⟩:=HX (show code.length≤1048600 by omega)
 rw [e1,obs]
 obtain ⟨y,m2,e2,hy,s2⟩:=a0z (l:=[[],[97],[108,97,98,101,108]]) s1 (by decide) (by decide) (by decide)
 have hyl:y.length≤1000:=by
  simp only [List.mem_cons,List.mem_nil_iff,or_false] at hy
  rcases hy with rfl|rfl|rfl<;>simp
 rw [e2,obs,a6Y (l:=y) (by omega),obs]
 obtain ⟨b,m3,e3,s3⟩:=I4 (n:=3) s2 (by decide)
 dsimp only
 rw [e3,obs]
 cases b
 ·dsimp only
  obtain ⟨x,m4,e4,x0,x1,_,s4⟩:=ld (n:=4) s3 (by decide)
  rw [ak,e4,obs]
  obtain ⟨e,e5,s5,f5⟩:=b1S (c4:=0) (c5:=[]) (c6:=0) (i:=x) (k:=0) s4 (s:=⟨[],0,H (a9T++y),0⟩) ⟨a6c (by simp) eD.nil,by simp,by simp⟩ x0 (by have:=x1 (by decide);omega) (by decide) (by have:=x1 (by decide);simp only [Big];omega)
  dsimp only at e5 ⊢
  rw [e5,obs,FZ (by have:=f5.1.1;dsimp only at this ⊢;omega),obs,obs]
  exact ⟨_,rfl,f5.mono (by have:=x1 (by decide);omega)⟩
 ·dsimp only
  obtain ⟨n,m4,e4,n0,n1,_,s4⟩:=ld (n:=5) s3 (by decide)
  have hn:=n1 (by decide)
  rw [aR,e4,obs,aa _ (by omega) (by omega)]
  obtain ⟨l,m5,e5,l0,l1,s5⟩:=a1f (n:=1+n) s4 (by omega) (by omega) (by simp only [Big];omega)
  dsimp only
  rw [e5,obs]
  obtain ⟨x,m6,e6,x0,x1,_,s6⟩:=ld (n:=4) s5 (by simp only [Big];omega)
  dsimp only
  rw [e6,obs]
  obtain ⟨e,e7,s7,f7⟩:=a1x (c4:=0) (c5:=[]) (c6:=0) (i:=x) (k:=0) s6 (s:=⟨l,0,H (a9T++y),0⟩) ⟨a6c (by omega) l1,by simp,by simp⟩ x0 (by have:=x1 (by decide);omega) (by decide) (by have:=x1 (by decide);simp only [Big];omega)
  dsimp only at e7 ⊢
  rw [e7,obs,FZ (by have:=f7.1.1;dsimp only at this ⊢;omega),obs,obs]
  exact ⟨_,rfl,f7.mono (by have:=x1 (by decide);omega)⟩
end Go.AI.Fn
set_option linter.unusedVariables false
set_option linter.unusedSimpArgs false
namespace Go.AI.Fn
theorem a3u {n:Int} (x:UInt8) (h0:0≤n) (h1:n<72057594037927936):vX .u64 (bX .u64 n 8) (IntKind.wrap .u64 (x.toNat:Int))=n*256+x.toNat:=by
 have hx:=pj x
 have e1:bX .u64 n 8=n*256:=by
  have:n*2^(min (8:Int).toNat (IntKind.bits .u64))=n*256:=by
   have:(2:Int)^(min (8:Int).toNat (IntKind.bits .u64))=256:=by decide
   rw [this]
  unfold bX
  rw [this,cX _ (by omega) (by omega)]
 rw [e1,cX (x.toNat:Int) (by omega) (by omega)]
 unfold vX
 obtain ⟨m,rfl⟩:=Int.eq_ofNat_of_zero_le h0
 have e2:(BitVec.ofInt (IntKind.bits .u64) ((m:Int)*256)|||BitVec.ofInt (IntKind.bits .u64) (x.toNat:Int)).toNat=m*256+x.toNat:=by
  rw [BitVec.toNat_or,BitVec.toNat_ofInt,BitVec.toNat_ofInt]
  have b1:(((m:Int)*256)%((2^(IntKind.bits .u64):Nat):Int)).toNat=m<<<8:=by
   rw [show ((2^(IntKind.bits .u64):Nat):Int)=18446744073709551616 by decide,Nat.shiftLeft_eq];omega
  have b2:((x.toNat:Int)%((2^(IntKind.bits .u64):Nat):Int)).toNat=x.toNat:=by
   rw [show ((2^(IntKind.bits .u64):Nat):Int)=18446744073709551616 by decide];omega
  rw [b1,b2, ←Nat.shiftLeft_add_eq_or_of_lt (show x.toNat<2^8 by omega),Nat.shiftLeft_eq]
 rw [e2,cX _ (by omega) (by omega)]
 omega
theorem Z9: ∀(l:List UInt8) (k:Nat),k≤8→k≤l.length→0≤beN (l.take k)∧beN (l.take k)<256^k
 |l,0,_,_=>by simp [beN]
 |l,k+1,h,hl=>by
  have ⟨h0,h1⟩:=Z9 l k (by omega) (by omega)
  have hb:=pj l[k]
  rw [cr (by omega),M2]
  have:(256:Int)^(k+1)=256^k*256:=Int.pow_succ _ _
  rw [this]
  generalize (256:Int)^k=p at*
  omega
theorem b7K: ∀k:Nat,k<8→(256:Int)^k≤72057594037927936:=by decide
theorem IJ {t:List UInt8} (h:t.length=8):wI t=some (a3a t):=by
 unfold wI
 have key:Loop (i9 t ((t.length:Nat):Int)) (0,0)=some (beN t,(t.length:Int),false):=by
  have key:=an (step:=i9 t ((t.length:Nat):Int)) (fun k=>(beN (t.take k),(k:Int))) t.length (e:=(beN t,(t.length:Int),false)) (fun k hk=> ?_) ?_
  ·exact key
  ·have ⟨h0,h1⟩:=Z9 t k (by omega) (by omega)
   have h2:=b7K k (by omega)
   simp only [i9]
   rw [brd (by omega),bS hk,obs,a3u _ h0 (by omega),aa _ (by omega) (by omega),cr hk,M2];rfl
  ·simp only [i9]
   rw [brn (by omega),decide_eq_false (by omega),List.take_length]
 have ⟨h0,h1⟩:=Z9 t 8 (by omega) (by omega)
 rw [List.take_of_length_le (by omega)] at h0 h1
 rw [key,obs]
 dsimp only
 rw [bq _ _ h0,aa _ (by omega) (by omega)];rfl
theorem pr {s:Source} {t:List UInt8} (hs:s.State.length=32) (ht:t.length≤1000000):cS t s=some (tkM s t):=by
 unfold cS
 have hf:[s.State,[97,98,115,111,114,98],dX ((t.length:Nat):Int),t].flatten=s.State++(a7P++(dX t.length++t)):=by simp [a7P]
 rw [al (by omega),wX,obs,pA (by rw [hf];simp only [List.length_append,eP,a7P,List.length_cons,List.length_nil];omega) (by simp),obs,hf];rfl
theorem QP {s:Source} (h:uP s):f4 s=some ((nC s).2,(nC s).1):=by
 have h1:=h.1
 have h3:=h.3
 have h4:=h.4
 have h5:=h.5
 have h6:=h.6
 have h7:=h.7
 unfold f4 nC
 by_cases hl:s.Script.length=0
 ·have hf:=eP s.Count
  have hh:=uQ (s.State++(RS++dX s.Count))
  have e:[s.State,[100,114,97,119],dX s.Count].flatten=s.State++(RS++dX s.Count):=by simp [RS]
  rw [brn (by omega),if_pos hl,al (by omega),wX,obs,pA (by rw [e];simp only [List.length_append,eP,RS,List.length_cons,List.length_nil];omega) (by simp),obs,e,al (by omega),
   oA (by omega) (by omega) (by omega),obs,IJ (by simp;omega),obs,oA (by omega) (by omega) (by omega),obs,IJ (by simp;omega),obs,aa _ (by omega) (by omega)]
  rfl
 ·have hr:=Int.emod_nonneg s.At (b:=(s.Script.length:Int)) (by omega)
  have hr2:=Int.emod_lt_of_pos s.At (b:=(s.Script.length:Int)) (by omega)
  rw [brd (by omega),if_neg hl,brd (by omega),aa (s.At+1) (by omega) (by omega),aa (s.At+1-1) (by omega) (by omega),show s.At+1-1=s.At by omega,bq _ _ h4]
  have e:atL s.Script (s.At%(s.Script.length:Int))=some (s.Script.getD (s.At%(s.Script.length:Int)).toNat e0):=by
   have:=a1S (l:=s.Script) (k:=(s.At%(s.Script.length:Int)).toNat) (by omega)
   rwa [Int.toNat_of_nonneg hr] at this
  rw [e];rfl
def drS (s:Source):Nat→Source
 |0=>s
 |j+1=>(nC (drS s j)).1
def drL (s:Source) (n:Nat):List Ext:=(List.range n).map fun j=>(nC (drS s j)).2
theorem lu (s:Source) (n:Nat):(drL s n).length=n:=by simp [drL]
theorem Lf {s:Source} {k:Int} (h:Few s k) (hk:k≤999890): ∀j:Nat,j≤100→Few (drS s j) (k+j)
 |0,_=>h.mono (by omega)
 |j+1,hj=>((Lf h hk j (by omega)).draw (by omega)).mono (by omega)
theorem M8 {s:Source} {k:Int} (h:Few s k) (hk:k≤999890) {n:Nat} (hn:n≤100):eD (drL s n):=fun x hx=>by
 obtain ⟨j,hj,rfl⟩:=List.mem_map.1 hx
 have hj:=List.mem_range.1 hj
 exact Wg (Lf h hk j (by omega)).1
theorem Vh (s:Source) (n:Nat):drL s (n+1)=drL s n++[(nC (drS s n)).2]:=by simp [drL,List.range_succ]
theorem NU {s:Source} {k:Int} (h:Few s k) (hk:k≤999890) {n:Nat} (hn:n≤100):gO (n:Int) s=some (drL s n,drS s n):=by
 unfold gO
 have key:=an (step:=cU (n:Int)) (fun j=>(drL s j,(j:Int),(drS s j).Script,(drS s j).At,(drS s j).State,(drS s j).Count)) n (e:=(drL s n,(n:Int),false,(drS s n).Script,(drS s n).At,(drS s n).State,(drS s n).Count)) (fun j hj=> ?_) ?_
 ·have key':Loop (cU (n:Int)) ([],0,s.Script,s.At,s.State,s.Count)=_:=key
  rw [key'];rfl
 ·simp only [cU]
  rw [brd (by omega),QP (Lf h hk j (by omega)).1,obs,al (by simp only [List.length_append,lu,List.length_singleton];omega),aa _ (by omega) (by omega), ←Vh];rfl
 ·simp only [cU]
  rw [brn (by omega),decide_eq_false (by omega)]
theorem a34 {s:Source} {k:Int} (h:Few s k) (hk:k≤999890) {n:Nat} (hn:n≤100):wU s (n:Int)=some (drS s n,drL s n):=by
 unfold wU
 have key:=an (step:=gg (n:Int) 0 [] 0) (fun j=>(drL s j,(j:Int),(drS s j).Script,(drS s j).At,(drS s j).State,(drS s j).Count)) n (e:=(drL s n,(n:Int),false,(drS s n).Script,(drS s n).At,(drS s n).State,(drS s n).Count)) (fun j hj=> ?_) ?_
 ·have key':Loop (gg (n:Int) 0 [] 0) ([],0,s.Script,s.At,s.State,s.Count)=_:=key
  rw [key'];rfl
 ·simp only [gg]
  rw [brd (by omega),HQ (Lf h hk j (by omega)).1,obs,al (by simp only [List.length_append,lu,List.length_singleton];omega),aa _ (by omega) (by omega), ←Vh];rfl
 ·simp only [gg]
  rw [brn (by omega),decide_eq_false (by omega)]
theorem Jo {s:Source} (h:s.Script.length≤1000000):fU s=some s:=by
 unfold fU bZ
 rw [al (by omega)];rfl
theorem Gl {s:Source} (h:uP s):lY s=some true:=by
 have:=h.1
 rw [Pl (by omega),VP.2 h]
theorem G0 {s:Source} (h:uP s):lW s=some true:=by
 have:=h.1
 rw [PF (by omega),VP.2 h]
variable {s:Source} {k:Int}
theorem b6J {a b c:Int} (h:a≤c) (g:b≤c):mx a b≤c:=by unfold mx;split<;>assumption
theorem Cn (s:Source): ∀n,(drS s n).Script=s.Script
 |0=>rfl
 |n+1=>by
  rw [drS,nC]
  split
  ·exact Cn s n
  ·exact Cn s n
theorem VX (h:Few s k) (hk:k≤999890) {n:Nat} (hn:n≤100):jN s (n:Int)=some false:=by
 have h2:=h.2
 have h3:=h.3
 unfold jN
 rw [aa _ (by omega) (by omega),brn (by omega),decide_eq_false (by omega)]
def plM (l:List Ext) (m:Int):List Int:=l.map fun x=>x.A%m
theorem Js {l:List Ext} {m:Int} (hl:l.length≤1000) (ok:eD l) (hm:0<m):xv l m=some (plM l m):=by
 unfold xv
 have key:Loop (ig m l ((l.length:Nat):Int)) ([],0)=some (plM l m,(l.length:Int),false):=
  an (step:=ig m l ((l.length:Nat):Int)) (fun j=>(plM (l.take j) m,(j:Int))) l.length (fun j hj=>by
   simp only [ig]
   rw [brd (by omega),bS hj,obs,brd (by omega),al (by simp only [List.length_append,plM,List.length_map,List.length_take,List.length_singleton];omega),aa _ (by omega) (by omega),bq _ _ (ok.get hj).1.1,cr hj]
   simp only [plM,List.map_append,List.map_cons,List.map_nil,mi]) (by
   simp only [ig]
   rw [brn (by omega),decide_eq_false (by omega),List.take_length])
 rw [key];rfl
theorem WL {l:List Ext} {m:Int} {c c8:List Ext} {c2 c4 c5 c7 c9 c11:Int} {c3 c6 c10:List UInt8} (hl:l.length≤1000) (ok:eD l) (hm:0<m):Loop (eu (l.length:Int) m l c c2 c3 c4 c5 c6 c7 c8 c9 c10 c11) ([],0)=some (plM l m,(l.length:Int),false):=
 an (step:=eu (l.length:Int) m l c c2 c3 c4 c5 c6 c7 c8 c9 c10 c11) (fun j=>(plM (l.take j) m,(j:Int))) l.length (fun j hj=>by
  simp only [eu]
  rw [brd (by omega),bS hj,obs,brd (by omega),al (by simp only [List.length_append,plM,List.length_map,List.length_take,List.length_singleton];omega),aa _ (by omega) (by omega),bq _ _ (ok.get hj).1.1,cr hj]
  simp only [plM,List.map_append,List.map_cons,List.map_nil,mi]) (by
  simp only [eu]
  rw [brn (by omega),decide_eq_false (by omega),List.take_length])
end Go.AI.Fn
set_option linter.unusedVariables false
set_option linter.unusedSimpArgs false
namespace Go.AI.Fn
def toK (x:Ext):K:=⟨⟨x.A%2130706433,x.B%2130706433⟩,⟨iu _,iu _⟩⟩
theorem re {x:Ext} (h:okE x):(toK x).1=x:=BH (Bl h.1) (Bl h.2)
theorem Gh (l:List Ext):(l.flatMap e8).length=8*l.length:=by
 induction l with
 |nil=>rfl
 |cons x l ih=>simp only [List.flatMap_cons,List.length_append,ih,b4f,List.length_cons];omega
def rsM (s:Source) (g:List K):Source:=tkM s ((kv g).flatMap e8)
def rdM (s:Source) (g:List K):K:=toK (nC (rsM s g)).2
def nsM (s:Source) (g:List K):Source:=(nC (rsM s g)).1
theorem yP {s:Source} {k:Int} (h:Few s k) (hk:k≤999990) (g:List K):Few (nsM s g) (k+2):=by
 have:=(h.take ((kv g).flatMap e8)).draw (by omega)
 rw [show k+1+1=k+2 by omega] at this;exact this
theorem a7E {s:Source} {k:Int} (h:Few s k) (g:List K):(rdM s g).1=(nC (rsM s g)).2:=re (Wg (h.take _).1)
theorem NI {s:Source} (h:uP s) {g:List K} (hl:g.length≤1000):cj (kv g) s=some (rsM s g):=by
 have e:=Gh (kv g)
 rw [am] at e
 unfold cj
 rw [vx (by rw [am];omega),obs,pr h.3 (by omega)];rfl
theorem TT {s:Source} (h:uP s) {g:List K} (hl:g.length≤1000):mg s (kv g)=some (rsM s g):=by
 have e:=Gh (kv g)
 rw [am] at e
 unfold mg
 rw [Ec (by rw [am];omega),obs,ml h.3 (by omega)];rfl
theorem a5T {s:Source} {k:Int} (h:Few s k) (g:List K):f4 (rsM s g)=some ((rdM s g).1,nsM s g):=by
 rw [QP (s:=rsM s g) (h.take _).1,a7E h];rfl
theorem b2q {s:Source} {k:Int} (h:Few s k) (g:List K):iL (rsM s g)=some (nsM s g,(rdM s g).1):=by
 rw [HQ (s:=rsM s g) (h.take _).1,a7E h];rfl
def pvM (kind:Nat) (bh:List K→Source→Source):Nat→List K→List (List K)→Source→List (List K)×List K×List (List K)×Source
 |0,P,T,s=>([],[],T,s)
 |v+1,P,T,s=>(rdK kind T (2^v)::(pvM kind bh v (P++[rdM s (rdK kind T (2^v))]) (bdK (rdM s (rdK kind T (2^v))) T) (bh (P++[rdM s (rdK kind T (2^v))]) (nsM s (rdK kind T (2^v))))).1,
   rdM s (rdK kind T (2^v))::(pvM kind bh v (P++[rdM s (rdK kind T (2^v))]) (bdK (rdM s (rdK kind T (2^v))) T) (bh (P++[rdM s (rdK kind T (2^v))]) (nsM s (rdK kind T (2^v))))).2.1,
   (pvM kind bh v (P++[rdM s (rdK kind T (2^v))]) (bdK (rdM s (rdK kind T (2^v))) T) (bh (P++[rdM s (rdK kind T (2^v))]) (nsM s (rdK kind T (2^v))))).2.2)
def b0m (bh:List K→Source→Source):Prop:= ∀P s k,Few s k→k≤999990→Few (bh P s) (k+1)
variable {kind:Nat} {bh:List K→Source→Source}
theorem ol (v:Nat):2^(v+1)=2*2^v:=by rw [Nat.pow_succ,Nat.mul_comm]
theorem OkT.up {v:Nat} {T:List (List K)} (h:OkT kind (2^(v+1)) T) (r:K):OkT kind (2^v) (bdK r T):=by
 rw [ol] at h;exact h.bd r
theorem Iv: ∀(v:Nat) (P:List K) (T:List (List K)) (s:Source),(pvM kind bh v P T s).1.length=v∧(pvM kind bh v P T s).2.1.length=v
 |0,P,T,s=>⟨rfl,rfl⟩
 |v+1,P,T,s=>by simp only [pvM,List.length_cons];exact ⟨by rw [(Iv v _ _ _).1],by rw [(Iv v _ _ _).2]⟩
theorem Sn: ∀(v:Nat) (P:List K) (T:List (List K)) (s:Source),OkT kind (2^v) T→OkT kind 1 (pvM kind bh v P T s).2.2.1
 |0,P,T,s,h=>h
 |v+1,P,T,s,h=>Sn v _ _ _ (h.up _)
theorem a5q (hb:b0m bh): ∀(v:Nat) (P:List K) (T:List (List K)) (s:Source) (k:Int),Few s k→k+3*v≤999990→Few (pvM kind bh v P T s).2.2.2 (k+3*v)
 |0,P,T,s,k,h,hk=>by rw [show k+3*((0:Nat):Int)=k by omega];exact h
 |v+1,P,T,s,k,h,hk=>by
  have:=a5q hb v (P++[rdM s (rdK kind T (2^v))]) (bdK (rdM s (rdK kind T (2^v))) T) _ _ (hb (P++[rdM s (rdK kind T (2^v))]) _ _ (yP h (by omega) (rdK kind T (2^v))) (by omega)) (by omega)
  rw [show k+2+1+3*(v:Int)=k+3*((v+1:Nat):Int) by omega] at this
  exact this
theorem a1B: ∀(v:Nat) (P:List K) (T:List (List K)) (s:Source), ∀g∈(pvM kind bh v P T s).1,g.length=kind+2
 |0,P,T,s,g,hg=>by simp [pvM] at hg
 |v+1,P,T,s,g,hg=>by
  simp only [pvM,List.mem_cons] at hg
  rcases hg with rfl|hg
  ·exact BX _ _ _
  ·exact a1B v _ _ _ g hg
theorem Yv {T:List (List K)} (h:0<T.length):atL (kvv T) 0=some (kv (T.getD 0 [])):=vD (j:=0) h
theorem Zn: ∀v:Nat,v≤6→1≤2^v∧2^v≤64:=by decide
def u7 (T:List (List K)):List K:=T.map fun t=>t.getD 0 0
theorem a2p {T:List (List K)} {j:Nat} (hj:j<T.length):(u7 T).take (j+1)=(u7 T).take j++[(T.getD j []).getD 0 0]:=by
 rw [cr (by simpa [u7] using hj)];simp [u7,hj]
theorem Rp (T:List (List K)):(u7 T).length=T.length:=by simp [u7]
theorem a41 (T:List (List K)):u7 T=kj T 0:=rfl
theorem kv0 {l:List K} (h:0<l.length):atL (kv l) 0=some (l.getD 0 0).1:=dQ (j:=0) h
noncomputable instance b71:DecidableEq K:=fun a b=>Classical.propDecidable _
noncomputable def vfM (kind:Nat) (bv:Nat→Source→Source):List (List K)→Nat→K→Source→Int×List K×K×Source
 |[],i,c,s=>(0,[],c,s)
 |g::R,i,c,s=>if g.length=kind+2 then (if g.getD 0 0+g.getD 1 0=c then
   ((vfM kind bv R (i+1) (lnK g (rdM s g)) (bv i (nsM s g))).1,rdM s g::(vfM kind bv R (i+1) (lnK g (rdM s g)) (bv i (nsM s g))).2.1,(vfM kind bv R (i+1) (lnK g (rdM s g)) (bv i (nsM s g))).2.2) else (10,[],c,s)) else (18,[],c,s)
def b6S (bv:Nat→Source→Source):Prop:= ∀i s k,Few s k→k≤999990→Few (bv i s) (k+1)
variable {bv:Nat→Source→Source}
theorem U1 (hb:b6S bv): ∀(R:List (List K)) (i:Nat) (c:K) (s:Source) (k:Int),Few s k→k+3*R.length≤999990→Few (vfM kind bv R i c s).2.2.2 (k+3*R.length)
 |[],i,c,s,k,h,hk=>by rw [List.length_nil,show k+3*((0:Nat):Int)=k by omega];exact h
 |g::R,i,c,s,k,h,hk=>by
  rw [List.length_cons] at hk ⊢
  rw [vfM]
  by_cases h1:g.length=kind+2
  ·by_cases h2:g.getD 0 0+g.getD 1 0=c
   ·rw [if_pos h1,if_pos h2]
    have:=U1 hb R (i+1) (lnK g (rdM s g)) _ _ (hb i _ _ (yP h (by omega) g) (by omega)) (by omega)
    rw [show k+2+1+3*(R.length:Int)=k+3*((R.length+1:Nat):Int) by omega] at this
    exact this
   ·rw [if_pos h1,if_neg h2];exact h.mono (by omega)
  ·rw [if_neg h1];exact h.mono (by omega)
theorem Zw: ∀(R:List (List K)) (i:Nat) (c:K) (s:Source),(vfM kind bv R i c s).1=0→(vfM kind bv R i c s).2.1.length=R.length
 |[],i,c,s,h=>rfl
 |g::R,i,c,s,h=>by
  rw [vfM] at h ⊢
  by_cases h1:g.length=kind+2
  ·by_cases h2:g.getD 0 0+g.getD 1 0=c
   ·rw [if_pos h1,if_pos h2] at h ⊢
    simp only [List.length_cons];rw [Zw R _ _ _ h]
   ·rw [if_pos h1,if_neg h2] at h;exact absurd (show (10:Int)=0 from h) (by decide)
  ·rw [if_neg h1] at h;exact absurd (show (18:Int)=0 from h) (by decide)
theorem b2f: ∀(v:Nat) (P:List K) (T:List (List K)) (s:Source),OkT kind (2^v) T→(∀j,j<v→ ∀s',bv (P.length+j) s'=bh ((P++(pvM kind bh v P T s).2.1).take (P.length+j+1)) s')→
 vfM kind bv (pvM kind bh v P T s).1 P.length (pN kind T (2^v)) s=(0,(pvM kind bh v P T s).2.1,pN kind (pvM kind bh v P T s).2.2.1 1,(pvM kind bh v P T s).2.2.2)
 |0,P,T,s,h,hb=>rfl
 |v+1,P,T,s,h,hb=>by
  have h2:=h
  rw [ol] at h2
  have hT: ∀i,i<4→(T.getD i []).length=2*2^v∨T.getD i []=[]:=fun i _=>by
   by_cases c:i<T.length
   ·exact .inl (h2.tab i c)
   ·exact .inr (by simp [c])
  have hk:=h.kd
  have g0:(rdK kind T (2^v)).getD 0 0=pN kind (bdK 0 T) (2^v):=by rw [rdK,ot (by omega)];rfl
  have g1:(rdK kind T (2^v)).getD 1 0=pN kind (bdK 1 T) (2^v):=by rw [rdK,ot (by omega)];rfl
  have hs:(rdK kind T (2^v)).getD 0 0+(rdK kind T (2^v)).getD 1 0=pN kind T (2^(v+1)):=by rw [g0,g1,ol,a2q hT]
  simp only [pvM] at hb ⊢
  rw [vfM,if_pos (BX _ _ _),if_pos hs,a0e h2]
  have e0:=hb 0 (by omega) (nsM s (rdK kind T (2^v)))
  rw [Nat.add_zero,List.take_append,List.take_of_length_le (by omega),show P.length+1-P.length=1 by omega,List.take_succ_cons,List.take_zero] at e0
  rw [e0]
  have ih:=b2f v (P++[rdM s (rdK kind T (2^v))]) (bdK (rdM s (rdK kind T (2^v))) T) (bh (P++[rdM s (rdK kind T (2^v))]) (nsM s (rdK kind T (2^v)))) (h.up _) (fun j hj s'=>by
   have:=hb (j+1) (by omega) s'
   rw [List.length_append,List.length_singleton,List.append_assoc,List.singleton_append,show P.length+1+j=P.length+(j+1) by omega];exact this)
  rw [List.length_append,List.length_singleton] at ih
  rw [ih]
theorem b6w (a b:K):(a.1.A==b.1.A&&a.1.B==b.1.B)=decide (a=b):=by
 by_cases h:a=b
 ·subst h;simp
 ·rw [decide_eq_false h]
  refine Bool.eq_false_iff.2 fun e=>h ?_
  simp only [Bool.and_eq_true,beq_iff_eq] at e
  exact K.ext (BH e.1 e.2)
theorem Qq {α:Type} (a b:K) (x y:α):br (a.1.A==b.1.A) (br (a.1.B==b.1.B) x y) y=if a=b then x else y:=by
 have:=b6w a b
 cases h1:(a.1.A==b.1.A)<;>cases h2:(a.1.B==b.1.B)<;>rw [h1,h2] at this<;>simp at this<;>simp [this,br]
theorem atK {l:List K} {j:Nat} {i:Int} (hi:i=(j:Int)) (h:j<l.length):atL (kv l) i=some (l.getD j 0).1:=by subst hi;exact dQ h
end Go.AI.Fn
set_option linter.unusedVariables false
set_option linter.unusedSimpArgs false
namespace Go.AI.Fn
structure OkM (l:List tR) (R C:Int):Prop where
 len:l.length≤200
 ent: ∀x∈l,inE R C x
 srt: ∀k (hk:k<l.length), ∀y∈l.take k,ltE y l[k]
end Go.AI.Fn
set_option linter.unusedVariables false
set_option linter.unusedSimpArgs false
namespace Go.AI.Fn
def xL:List K→List K→K
 |a::xs,b::ys=>a*b+xL xs ys
 |_,_=>0
theorem XP: ∀(a b:List K) (c:K),((kv a).zip (kv b)).foldl (fun c p=>eA c (eM p.1 p.2)) c.1=(c+xL a b).1
 |[],b,c=>by
  show c.1=(c+0).1
  exact congrArg Subtype.val (by exact kg)
 |_::_,[],c=>by
  show c.1=(c+0).1
  exact congrArg Subtype.val (by exact kg)
 |x::a,y::b,c=>by
  have:=XP a b (c+x*y)
  show ((kv a).zip (kv b)).foldl _ (c+x*y).1=_
  rw [this]
  exact congrArg Subtype.val (by rw [xL];exact kg)
theorem b3n (a b:List K):a3i (kv a) (kv b)=(xL a b).1:=by
 have:=XP a b 0
 rw [a3i]
 rw [show e0=(0:K).1 from rfl,this]
 exact congrArg Subtype.val (by exact kg)
end Go.AI.Fn
set_option linter.unusedVariables false
set_option linter.unusedSimpArgs false
namespace Go.AI.Fn
def sC (out:List K) (p:K):List K:=out.map (fun a=>a*(1-p))++out.map (fun a=>a*p)
def eqK (P:List K):List K:=P.foldl sC [1]
theorem b4v (out:List K) (p:K):eqS (kv out) p.1=kv (sC out p):=by
 simp only [eqS,kv,sC,List.map_append,List.map_map];rfl
theorem a7p: ∀(P out:List K),(kv P).foldl eqS (kv out)=kv (P.foldl sC out)
 |[],out=>rfl
 |p::P,out=>by
  show (kv P).foldl eqS (eqS (kv out) p.1)=_
  rw [b4v,a7p P];rfl
theorem TN (P:List K):eqT (kv P)=kv (eqK P):=a7p P [1]
def gK (A out:List K):List K:=A.flatMap fun e=>out.map fun x=>x*e
theorem b1N (A out:List K) (p:K):sC (gK A out) p=gK (sC A p) out:=by
 have h: ∀(q:K) (A:List K),(gK A out).map (fun a=>a*q)=gK (A.map (fun a=>a*q)) out:=fun q A=>by
  induction A with
  |nil=>rfl
  |cons a A ih=>
   simp only [gK,List.flatMap_cons,List.map_cons,List.map_append,List.map_map] at ih ⊢
   rw [ih]
   congr 1
   refine List.map_congr_left fun x _=> ?_
   show x*a*q=x*(a*q)
   exact kg
 rw [sC,h,h,sC,gK,gK,gK,List.flatMap_append]
theorem a1D (out:List K): ∀(P A:List K),P.foldl sC (gK A out)=gK (P.foldl sC A) out
 |[],A=>rfl
 |p::P,A=>by
  show P.foldl sC (sC (gK A out) p)=_
  rw [b1N,a1D out P];rfl
theorem WG (r:K) (P:List K):eqK (r::P)=gK (eqK P) (sC [1] r):=by
 show P.foldl sC (sC [1] r)=_
 have:sC [1] r=gK [1] (sC [1] r):=by
  have h: ∀l:List K,gK [1] l=l:=fun l=>by
   show l.map (fun x=>x*1)++[]=l
   rw [List.append_nil]
   refine (List.map_congr_left fun x _=> ?_).trans (List.map_id l)
   show x*1=x
   exact kg
  rw [h]
 rw [this,a1D,h1 r];rfl
where
 h1 (r:K):gK [1] (sC [1] r)=sC [1] r:=by
  have h: ∀l:List K,gK [1] l=l:=fun l=>by
   show l.map (fun x=>x*1)++[]=l
   rw [List.append_nil]
   refine (List.map_congr_left fun x _=> ?_).trans (List.map_id l)
   show x*1=x
   exact kg
  rw [h]
theorem Ur (P:List K):(eqK P).length=2^P.length:=by
 have:=Lp (kv P)
 rw [TN,am,am] at this;exact this
theorem VY (r:K): ∀(E t:List K),t.length=2*E.length→xL t (gK E (sC [1] r))=xL (fdK r t) E
 |[],t,h=>by
  have:t=[]:=List.eq_nil_of_length_eq_zero (by simpa using h)
  subst this;rfl
 |e::E,[],h=>by simp at h
 |e::E,[a],h=>by simp at h;omega
 |e::E,a::b::t,h=>by
  have ih:=VY r E t (by simp only [List.length_cons] at h;omega)
  show a*(1*(1-r)*e)+(b*(1*r*e)+xL t (gK E (sC [1] r)))=(a+r*(b-a))*e+xL (fdK r t) E
  rw [ih];exact kg
def E9 (P t:List K):List K:=P.foldl (fun t r=>fdK r t) t
theorem T6: ∀(P t:List K),t.length=2^P.length→xL t (eqK P)=(E9 P t).getD 0 0
 |[],t,h=>by
  match t,h with
  |[a],_=>show a*1+0=a;exact kg
 |r::P,t,h=>by
  rw [List.length_cons,ol] at h
  rw [WG,VY r _ _ (by rw [Ur];exact h),T6 P _ (uy r t _ h)];rfl
theorem Vb {t P:List K} (hn:P.length≤6) (hl:t.length=2^P.length):sf (kv t) (kv P)=some (((E9 P t).getD 0 0).1,0):=by
 rw [UD (zf _) (zf _) (by rw [am];exact hn) (by rw [am,am];exact hl),TN,b3n,T6 P t hl]
variable {kind:Nat} {bh:List K→Source→Source}
theorem ZU (i:Nat): ∀(v:Nat) (P:List K) (T:List (List K)) (s:Source),(pvM kind bh v P T s).2.2.1.getD i []=E9 (pvM kind bh v P T s).2.1 (T.getD i [])
 |0,P,T,s=>rfl
 |v+1,P,T,s=>by
  simp only [pvM]
  rw [ZU i v,Li];rfl
theorem Vl (T:List (List K)) (i:Nat):(u7 T).getD i 0=(T.getD i []).getD 0 0:=AD T 0 i
theorem b1J {T:List (List K)}:pN kind T 1=cmK kind (u7 T):=by
 show 0+cmK kind (kj T 0)=_
 rw [a41];exact kg
end Go.AI.Fn
set_option linter.unusedVariables false
set_option linter.unusedSimpArgs false
namespace Go.AI.Fn
theorem a51 {α:Type} {g:Nat→Option α} {N:Nat} {r:α} (h: ∀n,g n=if N≤n then some r else none):lim g=some r:=by
 have hx: ∃n r,g n=some r:=⟨N,r,by rw [h,if_pos (Nat.le_refl _)]⟩
 unfold lim
 rw [dif_pos hx]
 obtain ⟨r',hr'⟩:=hx.choose_spec
 have:=h hx.choose
 rw [hr'] at this ⊢
 split at this
 ·exact this
 ·cases this
theorem Ch {l:List K} {j:Nat} (h:j<l.length):l.take (j+1)=l.take j++[l.getD j 0]:=by rw [cr h];simp [h]
theorem BS (l:List K) (x:K):kv (l++[x])=kv l++[x.1]:=by simp [kv]
theorem p7: ∀k:Nat,k≤9→1≤2^k∧2^k≤512:=by decide
theorem b1m {l:List K} {m:Nat} {w:Int} (h:l.length=2*m) (hm:m≤1000):Loop (ii (kv l) w) ([],[],0)=some (kv (evs l),kv (ods l),(l.length:Int),false):=by
 have h1:=fJ l m h
 have h2:=g9 l m h
 have key:=an (step:=ii (kv l) w) (fun j=>(kv ((evs l).take j),kv ((ods l).take j),((2*j:Nat):Int))) m (e:=(kv (evs l),kv (ods l),(l.length:Int),false)) (fun j hj=> ?_) ?_
 ·exact key
 ·simp only [ii]
  have e1:atL (kv l) ((2*j:Nat):Int)=some ((evs l).getD j 0).1:=by rw [dQ (by omega),iw]
  have e2:atL (kv l) ((2*j+1:Nat):Int)=some ((ods l).getD j 0).1:=by rw [dQ (by omega),jc]
  rw [brd (by rw [am];omega),e1,obs,al (by rw [List.length_append,am,List.length_take,List.length_singleton];omega),aa _ (by omega) (by omega),show (((2*j:Nat):Int))+1=((2*j+1:Nat):Int) by omega,e2,obs,
   al (by rw [List.length_append,am,List.length_take,List.length_singleton];omega),aa _ (by omega) (by omega),show (((2*j:Nat):Int))+2=((2*(j+1):Nat):Int) by omega,Ch (by omega),Ch (by omega),BS,BS]
 ·simp only [ii]
  rw [brn (by rw [am];omega),decide_eq_false (by rw [am];omega),List.take_of_length_le (by omega),List.take_of_length_le (by omega),h]
theorem a9u {l:List K} {m:Nat} {w:Int} (h:l.length=2*m) (hm:m≤1000):Loop (i5 (kv l) w (l.length:Int)) ([],[],0)=some (kv (evs l),kv (ods l),(l.length:Int),false):=by
 have h1:=fJ l m h
 have h2:=g9 l m h
 have key:=an (step:=i5 (kv l) w (l.length:Int)) (fun j=>(kv ((evs l).take j),kv ((ods l).take j),((2*j:Nat):Int))) m (e:=(kv (evs l),kv (ods l),(l.length:Int),false)) (fun j hj=> ?_) ?_
 ·exact key
 ·simp only [i5]
  have e1:atL (kv l) ((2*j:Nat):Int)=some ((evs l).getD j 0).1:=by rw [dQ (by omega),iw]
  have e2:atL (kv l) ((2*j+1:Nat):Int)=some ((ods l).getD j 0).1:=by rw [dQ (by omega),jc]
  rw [brd (by omega),e1,obs,al (by rw [List.length_append,am,List.length_take,List.length_singleton];omega),aa _ (by omega) (by omega),show (((2*j:Nat):Int))+1=((2*j+1:Nat):Int) by omega,e2,obs,
   al (by rw [List.length_append,am,List.length_take,List.length_singleton];omega),aa _ (by omega) (by omega),show (((2*j:Nat):Int))+2=((2*(j+1):Nat):Int) by omega,Ch (by omega),Ch (by omega),BS,BS]
 ·simp only [i5]
  rw [brn (by omega),decide_eq_false (by omega),List.take_of_length_le (by omega),List.take_of_length_le (by omega),h]
def pwI (w:Int):Nat→Int
 |0=>1
 |j+1=>mF (pwI w j) w
theorem HM (w:Int): ∀j,okF (pwI w j)
 |0=>a9j
 |j+1=>jg _ _
theorem Z6 (w:Int): ∀j,kF (pwI w j)=kF w^j
 |0=>rfl
 |j+1=>by rw [pwI,Ka,Z6 w j,pwS]
def Fm (h j:Nat) (lo hi:Nat→K):List Ext:=(List.range (2*h)).map fun i=>if i<h then (if i<j then (lo i).1 else e0) else if i-h<j then (hi (i-h)).1 else e0
theorem P0 (h j:Nat) (lo hi:Nat→K):(Fm h j lo hi).length=2*h:=by simp [Fm]
theorem R4 (h:Nat) (lo hi:Nat→K):Fm h 0 lo hi=List.replicate (2*h) e0:=by
 refine List.ext_getElem (by simp [Fm]) fun i h1 h2=> ?_
 simp [Fm]
theorem VE {h j:Nat} {lo hi:Nat→K} (hj:j<h):((Fm h j lo hi).set j (lo j).1).set (j+h) (hi j).1=Fm h (j+1) lo hi:=by
 refine List.ext_getElem (by simp [Fm]) fun i h1 h2=> ?_
 simp only [Fm,List.getElem_set,List.getElem_map,List.getElem_range]
 by_cases c1:j+h=i
 ·subst c1
  rw [if_pos rfl,if_neg (by omega),if_pos (by omega),show j+h-h=j by omega]
 ·rw [if_neg c1]
  by_cases c2:j=i
  ·subst c2
   rw [if_pos rfl,if_pos hj,if_pos (by omega)]
  ·rw [if_neg c2]
   by_cases c3:i<h
   ·rw [if_pos c3,if_pos c3]
    by_cases c4:i<j
    ·rw [if_pos c4,if_pos (by omega)]
    ·rw [if_neg c4,if_neg (by omega)]
   ·rw [if_neg c3,if_neg c3]
    by_cases c4:i-h<j
    ·rw [if_pos c4,if_pos (by omega)]
    ·rw [if_neg c4,if_neg (by omega)]
theorem R6 {h:Nat} {lo hi:Nat→K}:Fm h h lo hi=kv ((List.range h).map lo++(List.range h).map hi):=by
 refine List.ext_getElem (by simp [Fm,kv];omega) fun i h1 h2=> ?_
 rw [P0] at h1
 simp only [Fm,kv,List.getElem_map,List.getElem_range,List.getElem_append,List.length_map,List.length_range]
 by_cases c:i<h
 ·simp [c]
 ·simp [c,show i-h<h by omega]
theorem a5x:(Ext.mk 0 0)=e0:=rfl
theorem a4s {E O:List K} {w:Int} {h:Nat} (hE:E.length=h) (hO:O.length=h) (hw:okF w) (hh:h≤1000):
 Loop (iC (kv E) (kv O) w (h:Int) (h:Int)) (List.replicate (2*h) e0,1,0)=some (kv (RV E O (kF w) h++Up E O (kF w) h),pwI w h,(h:Int),false):=by
 have key:=an (step:=iC (kv E) (kv O) w (h:Int) (h:Int)) (fun j=>(Fm h j (fun j=>E.getD j 0+O.getD j 0*kF w^j) (fun j=>E.getD j 0-O.getD j 0*kF w^j),pwI w j,(j:Int))) h
  (e:=(kv (RV E O (kF w) h++Up E O (kF w) h),pwI w h,(h:Int),false)) (fun j hj=> ?_) ?_
 ·rw [R4] at key;exact key
 ·simp only [iC,Int.toNat_natCast]
  have hx:eC (O.getD j 0).1 (pwI w j)=(O.getD j 0*kF w^j).1:=by rw [a0u, ←Z6, ←wg (HM w j)];rfl
  have hl:=P0 h j (fun j=>E.getD j 0+O.getD j 0*kF w^j) (fun j=>E.getD j 0-O.getD j 0*kF w^j)
  rw [aa ((j:Int)+(h:Int)) (by omega) (by omega),show (j:Int)+(h:Int)=((j+h:Nat):Int) by omega]
  simp only [Int.toNat_natCast]
  rw [brd (by omega),brd (by omega),brd (by rw [am];omega),C4 (by omega),obs,uB (Subtype.property _) (HM w j),obs,hx,brd (by omega),brd (by rw [am];omega),C4 (by omega),obs,gL (Subtype.property _) (Subtype.property _),obs,
   brd (by omega),brd (by rw [am];omega),obs,ir (Subtype.property _) (Subtype.property _),obs,brd (by omega),brd (by omega),xi (by omega),obs,brd (by omega),brd (by omega),xi (by rw [List.length_set];omega),obs,
   iG (HM w j) hw,obs,aa _ (by omega) (by omega), ←VE hj]
  rfl
 ·simp only [iC]
  rw [brn (by omega),decide_eq_false (by omega),R6];rfl
theorem a7y {E O:List K} {w:Int} {h:Nat} (hE:E.length=h) (hO:O.length=h) (hw:okF w) (hh:h≤1000):
 Loop (is w ((2*h:Nat):Int) (kv E) (kv O)) (List.replicate (2*h) e0,1,0)=some (kv (RV E O (kF w) h++Up E O (kF w) h),pwI w h,(h:Int),false):=by
 have hhf:IntKind.wrap .i64 (((2*h:Nat):Int).tdiv 2)=(h:Int):=by rw [fN _ _ (by omega),aa _ (by omega) (by omega)];omega
 have key:=an (step:=is w ((2*h:Nat):Int) (kv E) (kv O)) (fun j=>(Fm h j (fun j=>E.getD j 0+O.getD j 0*kF w^j) (fun j=>E.getD j 0-O.getD j 0*kF w^j),pwI w j,(j:Int))) h
  (e:=(kv (RV E O (kF w) h++Up E O (kF w) h),pwI w h,(h:Int),false)) (fun j hj=> ?_) ?_
 ·rw [R4] at key;exact key
 ·simp only [is,Int.toNat_natCast,hhf]
  have hx:eM (O.getD j 0).1 (eN (pwI w j))=(O.getD j 0*kF w^j).1:=by rw [←Z6, ←wg (HM w j)];rfl
  have hl:=P0 h j (fun j=>E.getD j 0+O.getD j 0*kF w^j) (fun j=>E.getD j 0-O.getD j 0*kF w^j)
  rw [aa ((j:Int)+(h:Int)) (by omega) (by omega),show (j:Int)+(h:Int)=((j+h:Nat):Int) by omega]
  simp only [Int.toNat_natCast]
  rw [brd (by omega),dQ (by omega),obs,Cm,obs,dC (Subtype.property _) (a1I (HM w j)),obs,hx,dQ (by omega),obs,ke (Subtype.property _) (Subtype.property _),obs,
   brd (by omega),brd (by omega),xi (by omega),obs,obs,nN (Subtype.property _) (Subtype.property _),obs,brd (by omega),brd (by rw [hl];omega),xi (by rw [List.length_set];omega),obs,
   kX (HM w j) hw,obs,aa _ (by omega) (by omega), ←VE hj]
  rfl
 ·simp only [is,hhf]
  rw [brn (by omega),decide_eq_false (by omega),R6];rfl
theorem oJ: ∀(n k:Nat) (l:List K) (w:Int),k≤9→okF w→l.length=2^k→jC n (kv l) w=if k+1≤n then some (kv (V k l (kF w))) else none
 |0,k,l,w,_,_,_=>by rw [if_neg (by omega)];rfl
 |n+1,0,l,w,_,_,hl=>by
  rw [if_pos (by omega)]
  unfold jC bZ
  rw [am,hl,bre (by simp),al (by decide)];rfl
 |n+1,k+1,l,w,hk,hw,hl=>by
  have hp:=p7 (k+1) hk
  have hp1:=p7 k (by omega)
  have hs:l.length=2*2^k:=by rw [hl,Nat.pow_succ];omega
  have he:=Am hl
  have ho:=Au hl
  have hw2:=jg w w
  unfold jC
  rw [am,AL (by omega),b1m hs (by omega),obs,iG hw hw,obs]
  dsimp only
  by_cases c:k+1≤n
  ·have hE:=ta k (evs l) (kF (mF w w)) he
   have hO:=ta k (ods l) (kF (mF w w)) ho
   rw [oJ n k (evs l) _ (by omega) hw2 he,if_pos c,obs,obs,oJ n k (ods l) _ (by omega) hw2 ho,if_pos c,obs,if_pos (by omega),am,hE,aa _ (by omega) (by omega),a1o (by omega) (by omega) (by omega),show ((2:Int)*((2^k:Nat):Int)).toNat=2*2^k by omega,a5x,a4s hE hO hw (by omega),obs,Ka];rfl
  ·rw [oJ n k (evs l) _ (by omega) hw2 he,if_neg c,if_neg (by omega)];rfl
theorem Wf {k:Nat} {l:List K} {w:Int} (hk:k≤9) (hw:okF w) (hl:l.length=2^k):OQ (kv l) w=some (kv (V k l (kF w))):=a51 fun n=>oJ n k l w hk hw hl
theorem yR: ∀(n k:Nat) (l:List K) (w:Int),k≤9→okF w→l.length=2^k→jr n (kv l) w=if k+1≤n then some (kv (V k l (kF w))) else none
 |0,k,l,w,_,_,_=>by rw [if_neg (by omega)];rfl
 |n+1,0,l,w,_,_,hl=>by
  rw [if_pos (by omega)]
  unfold jr
  rw [List.nil_append,am,hl,bre (by simp),al (by decide)];rfl
 |n+1,k+1,l,w,hk,hw,hl=>by
  have hp:=p7 (k+1) hk
  have hp1:=p7 k (by omega)
  have hs:l.length=2*2^k:=by rw [hl,Nat.pow_succ];omega
  have he:=Am hl
  have ho:=Au hl
  have hw2:=jg w w
  unfold jr
  rw [am,AL (by omega),a9u hs (by omega),obs,kX hw hw,obs]
  dsimp only
  by_cases c:k+1≤n
  ·have hE:=ta k (evs l) (kF (mF w w)) he
   have hO:=ta k (ods l) (kF (mF w w)) ho
   rw [yR n k (evs l) _ (by omega) hw2 he,if_pos c,obs,obs,yR n k (ods l) _ (by omega) hw2 ho,if_pos c,obs,if_pos (by omega),a1o (by omega) (by omega) (by omega),hs,Int.toNat_natCast,a5x,a7y hE hO hw (by omega),obs,Ka];rfl
  ·rw [yR n k (evs l) _ (by omega) hw2 he,if_neg c,if_neg (by omega)];rfl
theorem a5H {k:Nat} {l:List K} {w:Int} (hk:k≤9) (hw:okF w) (hl:l.length=2^k):Ny (kv l) w=some (kv (V k l (kF w))):=a51 fun n=>yR n k l w hk hw hl
end Go.AI.Fn
set_option linter.unusedVariables false
set_option linter.unusedSimpArgs false
namespace Go.AI.Fn
abbrev Tx:=List UInt8
def MM (t:Tx):Tx:=0::t
def He (a b:Tx):Tx:=1::(a++b)
def hL (t:Tx):Tx:=H (MM t)
def hN (a b:Tx):Tx:=H (He a b)
theorem Dv {l:List Tx} {k:Nat} (h:k<l.length):atL l (k:Int)=some (l.getD k []):=by simp [atL,h]
theorem Dm {t:Tx} (h:t.length≤1000000):o6 t=some (MM t):=by
 unfold o6;rw [al (by simp only [List.length_cons,List.length_nil];omega)];rfl
theorem wh {a b:Tx} (ha:a.length≤1000000) (hb:b.length≤1000000):m0 a b=some (He a b):=by
 unfold m0
 rw [al (by simp only [List.length_cons,List.length_nil];omega),al (by simp only [List.length_append,List.length_cons,List.length_nil];omega)];rfl
theorem QZ {t:Tx} (h:t.length≤1000000):s8 t=some (hL t):=by
 unfold s8
 rw [al (by simp only [List.length_cons,List.length_nil];omega),mj (by simp only [List.length_append,List.length_cons,List.length_nil];omega),obs];rfl
theorem a3X {a b:Tx} (ha:a.length≤1000000) (hb:b.length≤1000000):xG a b=some (hN a b):=by
 unfold xG
 rw [al (by simp only [List.length_cons,List.length_nil];omega),al (by simp only [List.length_append,List.length_cons,List.length_nil];omega),mj (by simp only [List.length_append,List.length_cons,List.length_nil];omega),obs];rfl
def upL (row:List Tx):List Tx:=(List.range (row.length/2)).map fun k=>hN (row.getD (2*k) []) (row.getD (2*k+1) [])
theorem a90 (row:List Tx):(upL row).length=row.length/2:=by simp [upL]
def Hs (l:List Tx):Prop:= ∀x∈l,x.length=32
theorem b6G (row:List Tx):Hs (upL row):=fun x hx=>by
 obtain ⟨k,_,rfl⟩:=List.mem_map.1 hx;exact uQ _
theorem Hs.getD {l:List Tx} (h:Hs l) {k:Nat} (hk:k<l.length):(l.getD k []).length=32:=by simp [hk];exact h _ (List.getElem_mem hk)
theorem cO {α:Type} (f:Nat→α) (k:Nat):(List.range (k+1)).map f=(List.range k).map f++[f k]:=by rw [List.range_succ,List.map_append];rfl
theorem b1p {l3:List (List Tx)} {row:List Tx} {m:Nat} (hr:Hs row) (hm:row.length=2*m) (hb:m≤1000000):Loop (kf l3 row) ([],0)=some (upL row,((2*m:Nat):Int),false):=by
 have e:upL row=(List.range m).map fun k=>hN (row.getD (2*k) []) (row.getD (2*k+1) []):=by rw [upL,hm];simp
 rw [e]
 exact an (fun k=>((List.range k).map fun k=>hN (row.getD (2*k) []) (row.getD (2*k+1) []),((2*k:Nat):Int))) m (fun k hk=>by
  have h1:=hr.getD (k:=2*k) (by omega)
  have h2:=hr.getD (k:=2*k+1) (by omega)
  simp only [kf]
  rw [brd (by omega),Dv (by omega),obs,aa _ (by omega) (by omega),show (((2*k:Nat):Int))+1=((2*k+1:Nat):Int) by omega,Dv (by omega),obs,wh (by omega) (by omega),obs,
   uw (by simp only [He,List.length_cons,List.length_append];omega),obs,al (by simp only [List.length_append,List.length_map,List.length_range,List.length_singleton];omega),aa _ (by omega) (by omega),cO]
  rw [show (((2*k:Nat):Int))+2=((2*(k+1):Nat):Int) by omega];rfl) (by
  simp only [kf]
  rw [brn (by omega),decide_eq_false (by omega)])
theorem b0x {l3:List (List Tx)} {row:List Tx} {m:Nat} (hr:Hs row) (hm:row.length=2*m) (hb:m≤1000000):Loop (fV l3 row) ([],0)=some (upL row,((2*m:Nat):Int),false):=by
 have e:upL row=(List.range m).map fun k=>hN (row.getD (2*k) []) (row.getD (2*k+1) []):=by rw [upL,hm];simp
 rw [e]
 exact an (fun k=>((List.range k).map fun k=>hN (row.getD (2*k) []) (row.getD (2*k+1) []),((2*k:Nat):Int))) m (fun k hk=>by
  have h1:=hr.getD (k:=2*k) (by omega)
  have h2:=hr.getD (k:=2*k+1) (by omega)
  simp only [fV]
  rw [brd (by omega),Dv (by omega),obs,aa _ (by omega) (by omega),show (((2*k:Nat):Int))+1=((2*k+1:Nat):Int) by omega,Dv (by omega),obs,a3X (by omega) (by omega),obs,
   al (by simp only [List.length_append,List.length_map,List.length_range,List.length_singleton];omega),aa _ (by omega) (by omega),cO]
  rw [show (((2*k:Nat):Int))+2=((2*(k+1):Nat):Int) by omega]) (by
  simp only [fV]
  rw [brn (by omega),decide_eq_false (by omega)])
def rowAt (row:List Tx) (j:Nat):List Tx:=iU (fun _ r=>upL r) j row
theorem xT (row:List Tx) (j:Nat):rowAt row (j+1)=upL (rowAt row j):=rfl
theorem gT {row:List Tx} {k:Nat} (h:row.length=2^k): ∀j,j≤k→(rowAt row j).length=2^(k-j)
 |0,_=>by simpa [rowAt,iU] using h
 |j+1,hj=>by
  rw [xT,a90,gT h j (by omega),show k-j=(k-(j+1))+1 by omega,Nat.pow_succ];omega
theorem Lm {row:List Tx} (h:Hs row): ∀j,Hs (rowAt row j)
 |0=>h
 |j+1=>b6G _
def gB (row:List Tx) (k:Nat):List (List Tx):=(List.range (k+1)).map (rowAt row)
theorem Yo: ∀k:Nat,k≤9→1≤2^k∧2^k≤512:=by decide
theorem tp {k j:Nat} (hj:j<k):2^(k-j)=2*2^(k-(j+1)):=by
 rw [show k-j=(k-(j+1))+1 by omega,Nat.pow_succ];omega
theorem a3B {row:List Tx} {k:Nat} (hr:Hs row) (hl:row.length=2^k) (hk:k≤9):Loop i6 ([row],row)=some (gB row k,rowAt row k,false):=by
 have key:=an (step:=i6) (fun j=>(gB row j,rowAt row j)) k (e:=(gB row k,rowAt row k,false)) (fun j hj=>by
  have h1:=gT hl j (by omega)
  have h2:=tp hj
  have h3:=Yo (k-(j+1)) (by omega)
  simp only [i6]
  rw [brd (by omega),b1p (m:=2^(k-(j+1))) (Lm hr j) (by omega) (by omega),obs]
  dsimp only
  rw [al (by simp only [gB,List.length_append,List.length_map,List.length_range,List.length_singleton];omega)]
  rw [gB,gB,cO _ (j+1),xT]) (by
  have h1:=gT hl k (by omega)
  rw [Nat.sub_self,Nat.pow_zero] at h1
  simp only [i6]
  rw [brn (by omega),decide_eq_false (by omega)])
 exact key
theorem a2i {row:List Tx} {k:Nat} (hr:Hs row) (hl:row.length=2^k) (hk:k≤9):Loop ex ([row],row)=some (gB row k,rowAt row k,false):=by
 have key:=an (step:=ex) (fun j=>(gB row j,rowAt row j)) k (e:=(gB row k,rowAt row k,false)) (fun j hj=>by
  have h1:=gT hl j (by omega)
  have h2:=tp hj
  have h3:=Yo (k-(j+1)) (by omega)
  simp only [ex]
  rw [brd (by omega),b0x (m:=2^(k-(j+1))) (Lm hr j) (by omega) (by omega),obs]
  dsimp only
  rw [al (by simp only [gB,List.length_append,List.length_map,List.length_range,List.length_singleton];omega)]
  rw [gB,gB,cO _ (j+1),xT]) (by
  have h1:=gT hl k (by omega)
  rw [Nat.sub_self,Nat.pow_zero] at h1
  simp only [ex]
  rw [brn (by omega),decide_eq_false (by omega)])
 exact key
def a0v (l:List Tx):Prop:= ∀x∈l,x.length≤1000
theorem GI (l:List Tx):Hs (l.map hL):=fun x hx=>by obtain ⟨y,_,rfl⟩:=List.mem_map.1 hx;exact uQ _
theorem Wo {l:List Tx} {k:Nat} (hs:a0v l) (hl:l.length=2^k) (hk:k≤9):BA l=some (gB (l.map hL) k):=by
 have hb:=Yo k hk
 unfold BA
 have key:Loop (jU l ((l.length:Nat):Int)) ([],0)=some (l.map hL,(l.length:Int),false):=
  an (fun j=>((l.take j).map hL,(j:Int))) l.length (fun j hj=>by
   have hx:=hs _ (List.getElem_mem hj)
   simp only [jU]
   rw [brd (by omega),bS hj,obs,Dm (by omega),obs,uw (by simp only [MM,List.length_cons];omega),obs,al (by simp only [List.length_append,List.length_map,List.length_take,List.length_singleton];omega),aa _ (by omega) (by omega),cr hj,List.map_append]
   rfl) (by
   simp only [jU]
   rw [brn (by omega),decide_eq_false (by omega),List.take_length])
 rw [key,obs]
 dsimp only
 rw [a3B (GI l) (by rw [List.length_map,hl]) hk,obs]
theorem JC {l:List Tx} {k:Nat} (hs:a0v l) (hl:l.length=2^k) (hk:k≤9):mA l=some (gB (l.map hL) k):=by
 have hb:=Yo k hk
 unfold mA
 have key:Loop (fX l) ([],0)=some (l.map hL,(l.length:Int),false):=
  an (fun j=>((l.take j).map hL,(j:Int))) l.length (fun j hj=>by
   have hx:=hs _ (List.getElem_mem hj)
   simp only [fX]
   rw [brd (by omega),bS hj,obs,QZ (by omega),obs,al (by simp only [List.length_append,List.length_map,List.length_take,List.length_singleton];omega),aa _ (by omega) (by omega),cr hj,List.map_append]
   rfl) (by
   simp only [fX]
   rw [brn (by omega),decide_eq_false (by omega),List.take_length])
 rw [key,obs]
 dsimp only
 rw [a2i (GI l) (by rw [List.length_map,hl]) hk,obs]
def LJ (row:List Tx) (k:Nat):Tx:=(rowAt row k).getD 0 []
theorem nP (row:List Tx) (k:Nat):(gB row k).length=k+1:=by simp [gB]
theorem Iy {row:List Tx} {k j:Nat} (h:j≤k):atL (gB row k) (j:Int)=some (rowAt row j):=by
 rw [bS (by rw [nP];omega)];simp [gB]
theorem Xq {row:List Tx} {k:Nat} (hl:row.length=2^k) (hk:k≤9):tn (gB row k)=some (LJ row k):=by
 unfold tn
 have h1:=gT hl k (Nat.le_refl _)
 rw [Nat.sub_self,Nat.pow_zero] at h1
 rw [nP,aa _ (by omega) (by omega),show (((k+1:Nat):Int))-1=(k:Int) by omega,Iy (Nat.le_refl _),obs]
 have e:=Dv (l:=rowAt row k) (k:=0) (by omega)
 rw [show ((0:Nat):Int)=0 from rfl] at e
 rw [e];rfl
theorem SW {l:List Tx} {k:Nat} (hs:a0v l) (hl:l.length=2^k) (hk:k≤9):nU l=some (LJ (l.map hL) k):=by
 unfold nU
 have h1:=gT (row:=l.map hL) (k:=k) (by rw [List.length_map,hl]) k (Nat.le_refl _)
 rw [Nat.sub_self,Nat.pow_zero] at h1
 rw [JC hs hl hk,obs,nP,aa _ (by omega) (by omega),show (((k+1:Nat):Int))-1=(k:Int) by omega,Iy (Nat.le_refl _),obs]
 have e:=Dv (l:=rowAt (l.map hL) k) (k:=0) (by omega)
 rw [show ((0:Nat):Int)=0 from rfl] at e
 rw [e];rfl
def sib (i:Nat):Nat:=if i%2=0 then i+1 else i-1
theorem b5d: ∀i:Nat,i<512→ga .i64 (i:Int) 1=(sib i:Int):=by decide+kernel
def gP (row:List Tx) (k i:Nat):List Tx:=(List.range k).map fun j=>(rowAt row j).getD (sib (i/2^j)) []
theorem HB (row:List Tx) (k i:Nat):(gP row k i).length=k:=by simp [gP]
theorem Mh {i k j:Nat} (hi:i<2^k) (hj:j<k):i/2^j<2^(k-j):=by
 rw [Nat.div_lt_iff_lt_mul (Nat.pow_pos (by decide)), ←Nat.pow_add]
 rwa [show k-j+j=k by omega]
theorem a69 {i m:Nat} (h:i<2*m):sib i<2*m:=by unfold sib;split<;>omega
theorem GC (i j:Nat):i/2^j/2=i/2^(j+1):=by rw [Nat.div_div_eq_div_mul,Nat.pow_succ]
theorem R2 {row:List Tx} {k i j:Nat} (hl:row.length=2^k) (hk:k≤9) (hi:i<2^k) (hj:j<k):atL (rowAt row j) (ga .i64 ((i/2^j:Nat):Int) 1)=some ((rowAt row j).getD (sib (i/2^j)) []):=by
 have h1:=gT hl j (by omega)
 have h2:=Mh hi hj
 have h3:=Yo (k-j) (by omega)
 have h4:=tp hj
 rw [b5d _ (by omega),Dv (by rw [h1,h4];exact a69 (by omega))]
theorem HL (q:Nat) (h:q≤1000000):IntKind.wrap .i64 (((q:Nat):Int)/2)=((q/2:Nat):Int):=by
 rw [aa _ (by omega) (by omega)];omega
theorem Vo {row:List Tx} {k i:Nat} (hl:row.length=2^k) (hk:k≤9) (hi:i<2^k):Bz (gB row k) i=some (gP row k i):=by
 unfold Bz
 have h8:=Yo k hk
 rw [nP,aa _ (by omega) (by omega),oA (by omega) (by omega) (by rw [nP];omega),obs]
 have e:((gB row k).drop (Int.toNat 0)).take ((((k+1:Nat):Int)-1).toNat-Int.toNat 0)=(List.range k).map (rowAt row):=by
  rw [show (((k+1:Nat):Int)-1).toNat=k by omega]
  show ((gB row k).take k)=_
  rw [gB, ←List.map_take,List.take_range,Nat.min_eq_left (by omega)]
 rw [e]
 have el:((List.range k).map (rowAt row)).length=k:=by simp
 rw [el]
 have key:Loop (ix ((List.range k).map (rowAt row)) (k:Int)) ([],(i:Int),0)=some (gP row k i,((i/2^k:Nat):Int),(k:Int),false):=by
  have key:=an (step:=ix ((List.range k).map (rowAt row)) (k:Int)) (fun j=>(gP row j i,((i/2^j:Nat):Int),(j:Int))) k (e:=(gP row k i,((i/2^k:Nat):Int),(k:Int),false)) (fun j hj=>by
   have hq:i/2^j≤i:=Nat.div_le_self _ _
   simp only [ix]
   rw [brd (by omega),bS (by omega),obs,List.getElem_map,List.getElem_range,R2 hl hk hi hj,obs,al (by simp only [List.length_append,HB,List.length_singleton];omega),fN _ _ (by exact Int.natCast_nonneg _),HL _ (by exact Nat.le_trans hq (by omega)),aa _ (by omega) (by omega),gP,gP,cO, ←GC]
   rfl) (by
   simp only [ix]
   rw [brn (by omega),decide_eq_false (by omega)])
  simpa [gP] using key
 rw [key];rfl
theorem a3n {row:List Tx} {k i:Nat} (hl:row.length=2^k) (hk:k≤9) (hi:i<2^k):wA (gB row k) i=some (gP row k i):=by
 unfold wA
 have h8:=Yo k hk
 have key:Loop (gx (gB row k)) ([],(i:Int),0)=some (gP row k i,((i/2^k:Nat):Int),(k:Int),false):=by
  have key:=an (step:=gx (gB row k)) (fun j=>(gP row j i,((i/2^j:Nat):Int),(j:Int))) k (e:=(gP row k i,((i/2^k:Nat):Int),(k:Int),false)) (fun j hj=>by
   have hq:i/2^j≤i:=Nat.div_le_self _ _
   simp only [gx,nP]
   rw [aa ((j:Int)+1) (by omega) (by omega),brd (by omega),Iy (by omega),obs,R2 hl hk hi hj,obs,al (by simp only [List.length_append,HB,List.length_singleton];omega),fN _ _ (by exact Int.natCast_nonneg _),HL _ (by exact Nat.le_trans hq (by omega)),gP,gP,cO, ←GC]
   rfl) (by
   simp only [gx,nP]
   rw [aa ((k:Int)+1) (by omega) (by omega),brn (by omega),decide_eq_false (by omega)])
  simpa [gP] using key
 rw [key];rfl
end Go.AI.Fn
set_option linter.unusedVariables false
set_option linter.unusedSimpArgs false
namespace Go.AI.Fn
def hJ (i:Nat) (leaf:Tx) (path:List Tx):Nat→Tx
 |0=>MM leaf
 |j+1=>if i/2^j%2=1 then He (path.getD j []) (H (hJ i leaf path j)) else He (H (hJ i leaf path j)) (path.getD j [])
def wQ (i:Nat) (leaf:Tx) (path:List Tx) (j:Nat):List Tx:=(List.range (j+1)).map (hJ i leaf path)
theorem nr (i:Nat) (leaf:Tx) (path:List Tx) (j:Nat):(wQ i leaf path j).length=j+1:=by simp [wQ]
theorem Vc {i:Nat} {leaf:Tx} {path:List Tx} {j m:Nat} (h:m≤j):atL (wQ i leaf path j) (m:Int)=some (hJ i leaf path m):=by
 rw [bS (by rw [nr];omega)];simp [wQ]
theorem a40 (i j:Nat):IntKind.wrap .i64 (((i/2^j:Nat):Int).tdiv 2)=((i/2^(j+1):Nat):Int)∨1000000<i:=by
 by_cases h:i≤1000000
 ·left
  rw [fN _ _ (Int.natCast_nonneg _),HL _ (Nat.le_trans (Nat.div_le_self _ _) h),GC]
 ·right;omega
theorem a45 {l:List Tx} (h:Hs l):(l.any fun x=> !decide (x.length=32))=false:=by
 rw [List.any_eq_false];intro x hx;simp [h x hx]
theorem b4C {path:List Tx} (hl:path.length≤1000) (hh:Hs path):aX path=some false:=by
 unfold aX bF
 rw [yU (step:=bw path ((path.length:Nat):Int)) (p:=fun x=> !decide (x.length=32)) (f:=wJ) (by omega) (fun x _=>by unfold wJ;rw [AY];rfl) (fun t=>rfl),a45 hh]
theorem a0J {l:List Tx} {k i:Nat} (hl:l.length=2^k) (hi:i<2^k): ∀j,j≤k→H (hJ i (l.getD i []) (gP (l.map hL) k i) j)=(rowAt (l.map hL) j).getD (i/2^j) []
 |0,_=>by
  have h:i<l.length:=by omega
  simp [hJ,rowAt,iU,h,hL]
 |j+1,hj=>by
  have ih:=a0J hl hi j (by omega)
  have hr:(l.map hL).length=2^k:=by rw [List.length_map,hl]
  have h1:=gT hr j (by omega)
  have h2:=Mh hi (show j<k by omega)
  have h3:=tp (show j<k by omega)
  have hp:(gP (l.map hL) k i).getD j []=(rowAt (l.map hL) j).getD (sib (i/2^j)) []:=by
   have:j<k:=by omega
   simp [gP,this]
  have h5:i/2^(j+1)=i/2^j/2:=(GC i j).symm
  rw [hJ,ih,hp,xT,h5]
  generalize i/2^j=q at h2
  have hu:(upL (rowAt (l.map hL) j)).getD (q/2) []=hN ((rowAt (l.map hL) j).getD (2*(q/2)) []) ((rowAt (l.map hL) j).getD (2*(q/2)+1) []):=by
   have:q/2<(rowAt (l.map hL) j).length/2:=by omega
   simp [upL,this]
  rw [hu]
  unfold hN sib
  by_cases c:q%2=1
  ·rw [if_pos c,if_neg (by omega),show 2*(q/2)=q-1 by omega,show q-1+1=q by omega]
  ·rw [if_neg c,if_pos (by omega),show 2*(q/2)=q by omega]
theorem a7N {l:List Tx} {k i:Nat} (hl:l.length=2^k) (hi:i<2^k):H (hJ i (l.getD i []) (gP (l.map hL) k i) k)=LJ (l.map hL) k:=by
 rw [a0J hl hi k (Nat.le_refl _),Nat.div_eq_of_lt hi];rfl
theorem b2J {l:List Tx} {k i:Nat} (hl:l.length=2^k) (hi:i<2^k):Hs (gP (l.map hL) k i):=fun x hx=>by
 obtain ⟨j,hj,rfl⟩:=List.mem_map.1 hx
 have hj:=List.mem_range.1 hj
 have hr:(l.map hL).length=2^k:=by rw [List.length_map,hl]
 have h1:=gT hr j (by omega)
 have h3:=tp hj
 have h2:=Mh hi hj
 exact (Lm (GI l) j).getD (by rw [h1,h3];exact a69 (by omega))
end Go.AI.Fn
set_option linter.unusedVariables false
set_option linter.unusedSimpArgs false
namespace Go.AI.Fn
theorem b49: ∀k:Nat,k≤9→BR ((2^k:Nat):Int)=some (k:Int)
 |0,_=>rfl
 |1,_=>rfl
 |2,_=>rfl
 |3,_=>rfl
 |4,_=>rfl
 |5,_=>rfl
 |6,_=>rfl
 |7,_=>rfl
 |8,_=>rfl
 |9,_=>rfl
theorem b2m {k:Nat} (h:k≤9):se ((2^k:Nat):Int)=some (k:Int):=by
 unfold se
 have key:Loop (gc ((2^k:Nat):Int)) 0=some ((k:Int),false):=
  an (step:=gc ((2^k:Nat):Int)) (fun j=>(j:Int)) k (fun j hj=>by
   have hp:2^j<2^k:=Nat.pow_lt_pow_right (by omega) hj
   simp only [gc]
   rw [cX _ (by omega) (by omega),brd (by omega),a2s (by omega),brd (by omega),aa _ (by omega) (by omega)];rfl) (by
   simp only [gc]
   rw [cX _ (by omega) (by omega),brd (by omega),a2s (by omega),brn (by omega),decide_eq_false (by omega)])
 rw [key];rfl
theorem a7i (a:Int): ∀n:Nat,K.n (a^n)=K.n a^n
 |0=>by rw [Int.pow_zero,pw0];rfl
 |n+1=>by rw [Int.pow_succ,K.n_mul,a7i a n,pwS]
theorem b3W (a:Int):K.n (a%2130706433)=K.n a:=K.ext (by show eN (a%2130706433%2130706433)=eN (a%2130706433);rw [Int.emod_emod])
theorem QW (a:Int) (n:Nat):kF (pF a n)=kF a^n:=by rw [kF,pF,b3W,a7i];rfl
def sqI:Nat→Int→Int
 |0,x=>x
 |n+1,x=>sqI n (mF x x)
theorem Z3: ∀(n:Nat) (x:Int),kF (sqI n x)=kF x^2^n
 |0,x=>by rw [sqI,Nat.pow_zero,pw1]
 |n+1,x=>by rw [sqI,Z3 n,Ka,WU, ←NC,Nat.pow_succ,Nat.mul_comm]
def rtK (k:Nat):K:=kF (zx k)
theorem Lg (k:Nat):rtK k=kF 3^(127*2^(24-k)):=by rw [rtK,zx,QW]
theorem b7G:sqI 23 (pF 3 127)=2130706432:=by decide+kernel
theorem b7q:sqI 24 (pF 2 127)=1:=by decide+kernel
theorem b7y:kF 2130706432= -1:=K.ext (BH (by decide) rfl)
theorem b64:kF 3^(127*2^23)= -1:=by rw [BL, ←QW, ←Z3,b7G,b7y]
theorem b7r:kF 2^(127*2^24)=1:=by rw [BL, ←QW, ←Z3,b7q];rfl
theorem b2z {k:Nat} (h:k≤24):Rt k (rtK k):=by
 cases k with
 |zero=>trivial
 |succ j=>
  show rtK (j+1)^2^j= -1
  rw [Lg, ←BL,Nat.mul_assoc, ←Nat.pow_add,show 24-(j+1)+j=23 by omega,b64]
theorem b5t {k:Nat} (h:k+1≤24):rtK (k+1)*rtK (k+1)=rtK k:=by
 rw [Lg,Lg, ←NC]
 congr 1
 rw [show 24-k=(24-(k+1))+1 by omega,Nat.pow_succ];omega
theorem b0M {k:Nat} (h:k≤24):rtK k^2^k=1:=by
 cases k with
 |zero=>
  rw [Lg,Nat.pow_zero,pw1,show 127*2^(24-0)=2*(127*2^23) by decide,NC,b64];exact kg
 |succ j=>
  have:=b2z h
  rw [Nat.pow_succ,Nat.mul_comm,NC,show rtK (j+1)^2^j= -1 from this];exact kg
theorem b6X {k:Nat} (h:k≤24):2^k*(127*2^(24-k))=2130706432:=by
 rw [Nat.mul_left_comm, ←Nat.pow_add,show k+(24-k)=24 by omega]
theorem b25 {x:K} {k:Nat} (h:k≤24) (hx:x^2^k=1):x^2130706432=1:=by
 rw [←b6X h,BL,hx,RR]
theorem b2d {a:Int} (h:kF a^2130706432=1):kF (iF a)*kF a=1:=by
 rw [iF,QW, ←pwS];exact h
theorem b6U:kF 2^2130706432=1:=by
 have:=b7r
 rw [show 127*2^24=2130706432 by decide] at this;exact this
theorem a9w:kF (iF 2)*2=1:=b2d b6U
theorem a8j {k:Nat} (h:k≤24) (i:Nat):(rtK k^i)^2130706432=1:=b25 h (by rw [a8V,b0M h,RR])
def fpK (k i:Nat) (a b r:K):K:=(a+b)*kF (iF 2)+r*(a-b)*(kF (iF 2)*kF (iF (pF (zx k) i)))
theorem JX (a:Int):okF (iF a):=Na _ _
theorem b5S:okF 2:=⟨by decide,by decide⟩
theorem CY {k i:Nat} (a b r:K) (hk:k≤9) (hi:i≤1000):iB ((2^k:Nat):Int) i a.1 b.1 r.1=some (fpK k i a b r).1:=by
 unfold iB
 rw [yG b5S,obs,b49 k hk,obs,QA (by omega),obs,Nz (Gi k) (by omega) (by omega),obs,gL a.2 b.2,obs,uB (QN _ _) (JX 2),obs,ir a.2 b.2,obs,
  dP r.2 (qv _ _),obs,yG (Na _ _),obs,iG (JX 2) (JX _),obs,uB (pp _ _) (jg _ _),obs,gL (b2k _ _) (b2k _ _),obs,Int.toNat_natCast,a0u,a0u, ←wg (JX 2), ←wg (jg _ _),Ka];rfl
theorem b6D {k i:Nat} (hk:k≤9) (E O r:K):fpK k i (E+O*rtK k^i) (E-O*rtK k^i) r=E+r*O:=by
 have h1:=a9w
 have h2:kF (iF (pF (zx k) i))*rtK k^i=1:=by
  have:=b2d (a:=pF (zx k) i) (by rw [QW];exact a8j (by omega) i)
  rw [QW] at this;exact this
 unfold fpK
 generalize kF (iF 2)=t at*
 generalize kF (iF (pF (zx k) i))=y at*
 generalize rtK k^i=x at*
 exact kg
def fwK (k:Nat) (W:List K) (r:K):List K:=(List.range (2^k)).map fun i=>fpK (k+1) i (W.getD i 0) (W.getD (i+2^k) 0) r
theorem u2 (k:Nat) (W:List K) (r:K):(fwK k W r).length=2^k:=by simp [fwK]
theorem CK {k:Nat} {W:List K} (r:K) (hk:k+1≤9) (hW:W.length=2^(k+1)):tM (kv W) r.1=some (kv (fwK k W r)):=by
 have hp:=p7 (k+1) hk
 have hs:2^(k+1)=2*2^k:=by rw [Nat.pow_succ];omega
 unfold tM
 have hh:IntKind.wrap .i64 (((2^(k+1):Nat):Int).tdiv 2)=((2^k:Nat):Int):=by rw [fN _ _ (by omega),aa _ (by omega) (by omega)];omega
 rw [am,hW,hh]
 have key:=an (step:=fH (kv W) ((2^k:Nat):Int) ((2^k:Nat):Int) r.1.A r.1.B) (fun j=>(kv ((List.range j).map fun i=>fpK (k+1) i (W.getD i 0) (W.getD (i+2^k) 0) r),(j:Int))) (2^k)
  (e:=(kv (fwK k W r),((2^k:Nat):Int),false)) (fun j hj=> ?_) ?_
 ·have key':Loop (fH (kv W) ((2^k:Nat):Int) ((2^k:Nat):Int) r.1.A r.1.B) ([],0)=_:=key
  rw [key'];rfl
 ·simp only [fH]
  rw [brd (by omega),dQ (by omega),obs,aa ((j:Int)+_) (by omega) (by omega),show (j:Int)+((2^k:Nat):Int)=((j+2^k:Nat):Int) by omega,dQ (by omega),obs,am,hW,
   CY _ _ r hk (by omega),obs,al (by simp only [List.length_append,am,List.length_map,List.length_range,List.length_singleton];omega),aa _ (by omega) (by omega),List.range_succ,List.map_append,List.map_singleton,BS];rfl
 ·simp only [fH]
  rw [brn (by omega),decide_eq_false (by omega)];rfl
theorem b7E {k:Nat} {l:List K} (r:K) (hk:k+1≤9) (hl:l.length=2^(k+1)):fwK k (V (k+1) l (rtK (k+1))) r=V k (cb r (evs l) (ods l)) (rtK k):=by
 have he:=Am hl
 have ho:=Au hl
 rw [a6f k _ _ _ he ho]
 have hE:=ta k _ (rtK k) he
 have hO:=ta k _ (rtK k) ho
 refine fC (by rw [u2,j5 (by omega),hE]) fun j hj=> ?_
 rw [u2] at hj
 rw [fwK,ot hj,a4g hj,Nat.add_comm j,a4r hj,hI (by omega),b5t (by omega),b6D hk]
def yB (l:List K) (n:Nat):List K:=l++List.replicate (n-l.length) 0
theorem kS {l:List K} {n:Nat} (h:l.length≤n):(yB l n).length=n:=by simp [yB];omega
theorem to (l:List K) (n j:Nat):(yB l n).getD j 0=l.getD j 0:=by
 unfold yB
 by_cases h:j<l.length
 ·rw [b6u h]
 ·obtain ⟨i,rfl⟩: ∃i,j=l.length+i:=⟨j-l.length,by omega⟩
  rw [b6B,b0R];simp
theorem a8K {l:List K} {a b:Nat} (h:l.length=2*a) (hab:a≤b):evs (yB l (2*b))=yB (evs l) b:=by
 have h1:=fJ l a h
 refine fC (by rw [fJ _ b (kS (by omega)),kS (by omega)]) fun j _=> ?_
 rw [iw,to,to,iw]
theorem a8X {l:List K} {a b:Nat} (h:l.length=2*a) (hab:a≤b):ods (yB l (2*b))=yB (ods l) b:=by
 have h1:=g9 l a h
 refine fC (by rw [g9 _ b (kS (by omega)),kS (by omega)]) fun j _=> ?_
 rw [jc,to,to,jc]
theorem b4M {r:K} {a b:List K} {n:Nat} (h:a.length=b.length) (hn:a.length≤n):cb r (yB a n) (yB b n)=yB (cb r a b) n:=by
 have h1:=kS (l:=a) hn
 have h2:=kS (l:=b) (n:=n) (by omega)
 have h3:=j5 (r:=r) h
 have h4:=j5 (r:=r) (a:=yB a n) (b:=yB b n) (by omega)
 have h5:=kS (l:=cb r a b) (n:=n) (by omega)
 refine fC (by rw [h4,h1,h5]) fun j _=> ?_
 rw [hI (by omega),to,to,to,hI h]
def Enc (m t:Nat) (l:List K):List K:=V (m+t) (yB l (2^(m+t))) (rtK (m+t))
theorem tz (m t:Nat):2^m≤2^(m+t):=Nat.pow_le_pow_right (by omega) (by omega)
theorem GS {m t:Nat} {l:List K} (h:l.length=2^m):(yB l (2^(m+t))).length=2^(m+t):=kS (by rw [h];exact tz m t)
theorem b1Y {m t:Nat} {l:List K} (h:l.length=2^m):(Enc m t l).length=2^(m+t):=ta _ _ _ (GS h)
theorem a4V {m t:Nat} {l:List K} (r:K) (hk:m+t+1≤9) (h:l.length=2^(m+1)):fwK (m+t) (Enc (m+1) t l) r=Enc m t (cb r (evs l) (ods l)):=by
 have e:m+1+t=m+t+1:=by omega
 have hp:=tz m t
 have h2:l.length=2*2^m:=by rw [h,Nat.pow_succ];omega
 have he:=Am h
 have ho:=Au h
 unfold Enc
 rw [e,b7E r hk (kS (by rw [h, ←e];exact tz _ _)),Nat.pow_succ,Nat.mul_comm,a8K h2 hp,a8X h2 hp,b4M (by omega) (by omega)]
theorem a0G: ∀m:Nat,m≤9→ ∀t:Nat,t≤9→bX .i64 ((2^m:Nat):Int) (t:Int)=((2^(m+t):Nat):Int):=by decide+kernel
theorem b0F: ∀m:Nat,m≤9→ ∀t:Nat,t≤m→aM .i64 ((2^m:Nat):Int) (t:Int)=((2^(m-t):Nat):Int):=by decide+kernel
theorem b33 (n:Nat):kv (List.replicate n 0)=List.replicate n e0:=by rw [kv,List.map_replicate];rfl
theorem a5A (a b:List K):kv (a++b)=kv a++kv b:=by simp [kv]
theorem a6M (l:List K) (n:Nat):kv (yB l n)=kv l++List.replicate (n-l.length) e0:=by rw [yB,a5A,b33]
theorem FM {m t:Nat} {l:List K} (hk:m+t≤9) (h:l.length=2^m):sd (kv l) (t:Int)=some (kv (Enc m t l)):=by
 have hp:=p7 (m+t) hk
 have hq:=tz m t
 unfold sd
 have hc:OG (List.replicate (((2^(m+t):Nat):Int).toNat) (Ext.mk 0 0)) 0 (min (kv l).length (List.replicate (((2^(m+t):Nat):Int).toNat) (Ext.mk 0 0)).length) (kv l)=kv (yB l (2^(m+t))):=by
  rw [List.length_replicate,Int.toNat_natCast,am,h,Nat.min_eq_left hq,a6M,h,OG]
  simp [am,h,e0]
  exact List.take_of_length_le (by rw [am,h];omega)
 rw [brd (by omega),am,h,a0G m (by omega) t (by omega),a1o (by omega) (by omega) (by omega), ←h, ←am l,hc]
 unfold a0F
 rw [am,GS h,b49 _ hk,obs,QA (by omega),obs,Wf hk (Gi _) (GS h),obs,obs];rfl
theorem O4 {m t:Nat} {l:List K} (hk:m+t≤9) (h:l.length=2^m):pm (kv l) (t:Int)=some (kv (Enc m t l)):=by
 have hp:=p7 (m+t) hk
 have hq:=tz m t
 have hb:=p7 m (by omega)
 unfold pm
 rw [List.nil_append,cX _ (by omega) (by omega),brd (by omega),am,h,al (by omega),a0G m (by omega) t (by omega),aa _ (by omega) (by omega),zw (by rw [a1P (by omega) (by omega) (by omega),decide_eq_true (by omega)];rfl),
  show (((2^(m+t):Nat):Int)-((2^m:Nat):Int)).toNat=2^(m+t)-2^m by omega,a5x,al (by rw [List.length_append,am,List.length_replicate];omega),b2m hk,obs,RA (by omega),obs, ←h, ←a6M,a5H hk (Gi _) (GS h),obs];rfl
theorem vF {l:List Ext} (hl:l.length≤1000000):ma l l=some true:=by
 unfold ma
 have key:Loop (fG l l) 0=some (.inr ((l.length:Int),false)):=
  an (step:=fG l l) (fun j=>(j:Int)) l.length (fun j hj=>by
   simp only [fG]
   rw [brd (by omega),bS hj,obs,obs,bre rfl,bre rfl,aa _ (by omega) (by omega)];rfl) (by
   simp only [fG]
   rw [brn (by omega),decide_eq_false (by omega)])
 rw [fw rfl,key];rfl
end Go.AI.Fn
set_option linter.unusedVariables false
set_option linter.unusedSimpArgs false
namespace Go.AI.Fn
def stK (l:List K) (j:Nat):List K:=(List.range l.length).map fun m=>if m/2^j%2=1 then l.getD m 0-l.getD (m-2^j) 0 else l.getD m 0
theorem fL (l:List K) (j:Nat):(stK l j).length=l.length:=by simp [stK]
def stP (l:List K) (j i:Nat):List K:=(List.range l.length).map fun m=>if m<i∧m/2^j%2=1 then l.getD m 0-l.getD (m-2^j) 0 else l.getD m 0
theorem lC (l:List K) (j i:Nat):(stP l j i).length=l.length:=by simp [stP]
theorem Cl {l:List K} {j i m:Nat} (h:m<l.length):(stP l j i).getD m 0=if m<i∧m/2^j%2=1 then l.getD m 0-l.getD (m-2^j) 0 else l.getD m 0:=by rw [stP,ot h]
theorem b07 (l:List K):(List.range l.length).map (fun m=>l.getD m 0)=l:=fC (by simp) fun j hj=>by
 rw [List.length_map,List.length_range] at hj;rw [ot hj]
theorem Vp (l:List K) (j:Nat):stP l j 0=l:=by
 rw [stP];exact (List.map_congr_left fun m _=>by rw [if_neg (by omega)]).trans (b07 l)
theorem a1k (l:List K) (j:Nat):stP l j l.length=stK l j:=by
 rw [stP,stK]
 refine List.map_congr_left fun m hm=> ?_
 have:=List.mem_range.1 hm
 by_cases c:m/2^j%2=1
 ·rw [if_pos ⟨this,c⟩,if_pos c]
 ·rw [if_neg fun h=>c h.2,if_neg c]
theorem WR {l:List K} {j i:Nat} (h:i/2^j%2=0):stP l j (i+1)=stP l j i:=by
 rw [stP,stP]
 refine List.map_congr_left fun m hm=> ?_
 by_cases c:m/2^j%2=1
 ·have:m≠i:=fun e=>by subst e;omega
  by_cases c2:m<i
  ·rw [if_pos ⟨by omega,c⟩,if_pos ⟨c2,c⟩]
  ·rw [if_neg (by omega),if_neg (by omega)]
 ·rw [if_neg fun h=>c h.2,if_neg fun h=>c h.2]
theorem a0K {l:List K} {j i:Nat} (hi:i<l.length) (h:i/2^j%2=1):(stP l j i).set i (l.getD i 0-l.getD (i-2^j) 0)=stP l j (i+1):=by
 refine fC (by rw [List.length_set,lC,lC]) fun m hm=> ?_
 rw [List.length_set,lC] at hm
 rw [Cl hm]
 by_cases c:m=i
 ·subst c
  rw [if_pos ⟨by omega,h⟩]
  simp [lC,hm]
 ·have:((stP l j i).set i (l.getD i 0-l.getD (i-2^j) 0)).getD m 0=(stP l j i).getD m 0:=by
   simp [List.getElem?_set,show ¬i=m by omega]
  rw [this,Cl hm]
  by_cases c2:m/2^j%2=1
  ·by_cases c3:m<i
   ·rw [if_pos ⟨c3,c2⟩,if_pos ⟨by omega,c2⟩]
   ·rw [if_neg (by omega),if_neg (by omega)]
  ·rw [if_neg fun h=>c2 h.2,if_neg fun h=>c2 h.2]
theorem b5V: ∀i:Nat,i<64→ ∀j:Nat,j<6→(bm .i64 (i:Int) ((2^j:Nat):Int)==0)=decide (i/2^j%2=0):=by decide+kernel
theorem b5L: ∀i:Nat,i<64→ ∀j:Nat,j<6→i/2^j%2=1→ga .i64 (i:Int) ((2^j:Nat):Int)=((i-2^j:Nat):Int)∧2^j≤i∧(i-2^j)/2^j%2=0:=by decide+kernel
theorem a4f {l:List K} {j:Nat} (hl:l.length≤64) (hj:j<6):Loop (dV false ((2^j:Nat):Int)) (kv l,0)=some (kv (stK l j),(l.length:Int),false):=by
 have key:=an (step:=dV false ((2^j:Nat):Int)) (fun i=>(kv (stP l j i),(i:Int))) l.length (e:=(kv (stK l j),(l.length:Int),false)) (fun i hi=> ?_) ?_
 ·have key':Loop (dV false ((2^j:Nat):Int)) (kv (stP l j 0),0)=_:=key
  rw [Vp] at key';exact key'
 ·simp only [dV]
  have hb:=b5V i (by omega) j hj
  have hlen:(kv (stP l j i)).length=l.length:=by rw [am,lC]
  have hq:1≤2^j:=Nat.one_le_two_pow
  rw [brd (by omega),hb]
  by_cases c:i/2^j%2=0
  ·rw [decide_eq_true c,aR,aa _ (by omega) (by omega),WR c];rfl
  ·obtain ⟨h1,h2,h3⟩:=b5L i (by omega) j hj (by omega)
   rw [decide_eq_false c,ak,ak,h1]
   simp only [Int.toNat_natCast]
   rw [brd (by omega),brd (by omega),C4 (by rw [lC];omega),obs,brd (by omega),brd (by omega),C4 (by rw [lC];omega),obs,Cl hi,if_neg (by omega),Cl (by omega),if_neg (by omega),nN (Subtype.property _) (Subtype.property _),obs,brd (by omega),brd (by omega),obs,aa _ (by omega) (by omega), ←a0K hi (by omega)]
   rw [kv,kv,List.map_set];rfl
 ·simp only [dV]
  rw [brn (by rw [am,lC];omega),decide_eq_false (by rw [am,lC];omega),a1k]
def cfK:Nat→List K→List K
 |0,l=>l
 |j+1,l=>stK (cfK j l) j
theorem ja (l:List K): ∀j,(cfK j l).length=l.length
 |0=>rfl
 |j+1=>by rw [cfK,fL,ja l j]
theorem IF: ∀k:Nat,k≤6→1≤2^k∧2^k≤64:=by decide
theorem Zo {l:List K} {v:Nat} (h:l.length=2^v) (hv:v≤6):sE (kv l) false=some (kv (cfK v l)):=by
 have hp:=IF v hv
 unfold sE
 have key:=an (step:=fE false) (fun j=>(kv (cfK j l),((2^j:Nat):Int))) v (e:=(kv (cfK v l),((2^v:Nat):Int),false)) (fun j hj=> ?_) ?_
 ·have key':Loop (fE false) (kv l,1)=_:=key
  rw [List.nil_append,al (by rw [am];omega),key'];rfl
 ·have hlt:2^j<2^v:=Nat.pow_lt_pow_right (by omega) hj
  have hq:1≤2^j:=Nat.one_le_two_pow
  have hl:=ja l j
  simp only [fE]
  rw [brd (by rw [am];omega),a4f (by omega) (by omega),obs,aa _ (by omega) (by omega),Nat.pow_succ];simp [cfK]
 ·have hl:=ja l v
  simp only [fE]
  rw [brn (by rw [am];omega),decide_eq_false (by rw [am];omega)]
theorem Rw {l:List K} {v t:Nat} (h:l.length=2^v) (hv:v≤6) (ht:v+t≤9):sv (kv l) (t:Int)=some (kv (Enc v t (cfK v l))):=by
 unfold sv
 rw [Zo h hv,obs,O4 ht (by rw [ja];exact h)];rfl
theorem QS {k i:Nat} (a b r:K) (hk:k≤9) (hi:i≤1000):iY ((2^k:Nat):Int) i a.1 b.1 r.1=some (fpK k i a b r).1:=by
 unfold iY iA
 rw [b2m hk,obs,RA (by omega),obs,Mr (Gi k) (by omega) (by omega),obs,xZ b5S,obs,obs,ke a.2 b.2,obs,Cm,obs,dC (QN _ _) (a1I (JX 2)),obs,nN a.2 b.2,obs,
  xZ (Na _ _),obs,obs,kX (JX 2) (JX _),obs,Cm,obs,dC (qv _ _) (a1I (jg _ _)),obs,dC r.2 (pp _ _),obs,ke (pp _ _) (pp _ _),obs,Int.toNat_natCast, ←wg (JX 2), ←wg (jg _ _),Ka]
 have:(a+b)*kF (iF 2)+r*((a-b)*(kF (iF 2)*kF (iF (pF (zx k) i))))=fpK k i a b r:=by unfold fpK;exact kg
 rw [←this];rfl
theorem B3 (k:Nat) (hk:k+1≤9):IntKind.wrap .i64 (((2^(k+1):Nat):Int).tdiv 2)=((2^k:Nat):Int):=by
 have hp:=p7 (k+1) hk
 have hs:2^(k+1)=2*2^k:=by rw [Nat.pow_succ];omega
 rw [fN _ _ (by omega),aa _ (by omega) (by omega)];omega
theorem a05 {k:Nat} {W:List K} (r:K) (hk:k+1≤9) (hW:W.length=2^(k+1)):xq (kv W) r.1=some (kv (fwK k W r)):=by
 have hp:=p7 (k+1) hk
 have hs:2^(k+1)=2*2^k:=by rw [Nat.pow_succ];omega
 have hh:=B3 k hk
 unfold xq
 rw [am,hW]
 have key:=an (step:=gq (kv W) ((2^(k+1):Nat):Int) r.1.A r.1.B) (fun j=>(kv ((List.range j).map fun i=>fpK (k+1) i (W.getD i 0) (W.getD (i+2^k) 0) r),(j:Int))) (2^k)
  (e:=(kv (fwK k W r),((2^k:Nat):Int),false)) (fun j hj=> ?_) ?_
 ·have key':Loop (gq (kv W) ((2^(k+1):Nat):Int) r.1.A r.1.B) ([],0)=_:=key
  rw [key'];rfl
 ·simp only [gq,hh]
  rw [brd (by omega),dQ (by omega),obs,aa ((j:Int)+_) (by omega) (by omega),show (j:Int)+((2^k:Nat):Int)=((j+2^k:Nat):Int) by omega,dQ (by omega),obs,
   QS _ _ r hk (by omega),obs,al (by simp only [List.length_append,am,List.length_map,List.length_range,List.length_singleton];omega),aa _ (by omega) (by omega),List.range_succ,List.map_append,List.map_singleton,BS];rfl
 ·simp only [gq,hh]
  rw [brn (by omega),decide_eq_false (by omega)];rfl
def lfK (k:Nat) (W:List K) (i:Nat):List UInt8:=[(W.getD i 0).1,(W.getD (i+2^k) 0).1].flatMap e8
def lvK (k:Nat) (W:List K):List (List UInt8):=(List.range (2^k)).map (lfK k W)
theorem rN (k:Nat) (W:List K):(lvK k W).length=2^k:=by simp [lvK]
theorem b1I (k:Nat) (W:List K) (i:Nat):(lfK k W i).length=16:=by rw [lfK,Gh];rfl
theorem Ik (k:Nat) (W:List K):a0v (lvK k W):=fun x hx=>by
 obtain ⟨i,_,rfl⟩:=List.mem_map.1 hx;rw [b1I];omega
theorem AN {k:Nat} {W:List K} (hk:k+1≤9) (hW:W.length=2^(k+1)):jB (kv W)=some (lvK k W):=by
 have hp:=p7 (k+1) hk
 have hs:2^(k+1)=2*2^k:=by rw [Nat.pow_succ];omega
 have hh:=B3 k hk
 unfold jB
 rw [am,hW]
 have key:=an (step:=ez (kv W) ((2^(k+1):Nat):Int)) (fun j=>((List.range j).map (lfK k W),(j:Int))) (2^k) (e:=(lvK k W,((2^k:Nat):Int),false)) (fun j hj=> ?_) ?_
 ·have key':Loop (ez (kv W) ((2^(k+1):Nat):Int)) ([],0)=_:=key
  rw [key'];rfl
 ·simp only [ez,hh]
  rw [brd (by omega),dQ (by omega),obs,aa ((j:Int)+_) (by omega) (by omega),show (j:Int)+((2^k:Nat):Int)=((j+2^k:Nat):Int) by omega,dQ (by omega),obs,Ec (by simp),obs,
   al (by simp only [List.length_append,List.length_map,List.length_range,List.length_singleton];omega),aa _ (by omega) (by omega),List.range_succ,List.map_append,List.map_singleton];rfl
 ·simp only [ez,hh]
  rw [brn (by omega),decide_eq_false (by omega)];rfl
def wrK (k:Nat) (W:List K):List UInt8:=LJ ((lvK k W).map hL) k
theorem Ng (k:Nat) (W:List K) (hk:k≤9):nU (lvK k W)=some (wrK k W):=SW (Ik k W) (rN k W) hk
theorem b26 {row:List Tx} {k:Nat} (h:Hs row) (hl:row.length=2^k):(LJ row k).length=32:=(Lm h k).getD (by rw [gT hl k (Nat.le_refl k),Nat.sub_self];decide)
theorem ER (k:Nat) (W:List K):(wrK k W).length=32:=b26 (GI _) (by rw [List.length_map,rN])
theorem Jr {s:Source} {k:Int} (h:Few s k) (hk:k≤999890) {n:Nat} (hn:n≤100) {m:Int} (h1:1≤m):mf s (n:Int) m=some (drS s n,plM (drL s n) m):=by
 unfold mf
 rw [a34 h hk (by omega),obs]
 have:=WL (l:=drL s n) (m:=m) (c:=s.Script) (c2:=s.At) (c3:=s.State) (c4:=s.Count) (c5:=0) (c6:=[]) (c7:=0) (c8:=(drS s n).Script) (c9:=(drS s n).At) (c10:=(drS s n).State) (c11:=(drS s n).Count) (by rw [lu];omega) (M8 h hk (by omega)) (by omega)
 rw [lu] at this
 rw [this,obs]
end Go.AI.Fn
