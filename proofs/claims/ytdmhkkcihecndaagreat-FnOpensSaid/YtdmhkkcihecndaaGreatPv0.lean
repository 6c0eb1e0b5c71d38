/- Plain laws for printed functions: loops whose states are told in advance; numbers; places. -/
import Derived.Test.YtdmhkkcihecndaaGreatAiW
import Derived.Test.YtdmhkkcihecndaaGreatFx1
import Derived.KernelRfl
set_option linter.unusedVariables false
namespace Go.AI
theorem cj {S E:Type} {step:S→Option (S⊕E)} {s s':S} (h:step s=some (.inl s')):Loop step s=Loop step s':=by rw [PG,h];rfl
theorem cy {S E:Type} {step:S→Option (S⊕E)} {s:S} {e:E} (h:step s=some (.inr e)):Loop step s=some e:=by rw [PG,h];rfl
theorem am {S E:Type} {step:S→Option (S⊕E)} (F:Nat→S) (n:Nat) {e:E} (hs: ∀k,k<n→step (F k)=some (.inl (F (k+1)))) (he:step (F n)=some (.inr e)):Loop step (F 0)=some e:=by
 have key: ∀m k,k+m=n→Loop step (F k)=some e:=by
  intro m
  induction m with
  |zero=>intro k hk;have:k=n:=by omega
         subst this;exact cy he
  |succ m ih=>intro k hk;rw [cj (hs k (by omega))];exact ih (k+1) (by omega)
 exact key n 0 (by omega)
theorem G4 (P:Nat→Bool): ∀n,(∀k,k<n→P k=true)∨ ∃k,k<n∧P k=false∧ ∀j,j<k→P j=true
 |0=> .inl (by omega)
 |n+1=>by
  rcases G4 P n with h|⟨k,hk,h1,h2⟩
  ·cases hn:P n
   ·exact .inr ⟨n,by omega,hn,h⟩
   ·refine .inl fun k hk=> ?_
    by_cases e:k=n
    ·subst e;exact hn
    ·exact h k (by omega)
  ·exact .inr ⟨k,by omega,h1,h2⟩
theorem vr {S E:Type} {step:S→Option (S⊕E)} (F:Nat→S) (n:Nat) (P:Nat→Bool) (x:Nat→E) {e:E} (hs: ∀k,k<n→P k=true→step (F k)=some (.inl (F (k+1))))
 (hx: ∀k,k<n→P k=false→step (F k)=some (.inr (x k))) (he:step (F n)=some (.inr e)):
 ((∀k,k<n→P k=true)∧Loop step (F 0)=some e)∨ ∃k,k<n∧P k=false∧(∀j,j<k→P j=true)∧Loop step (F 0)=some (x k):=by
 rcases G4 P n with h|⟨k,hk,h1,h2⟩
 ·exact .inl ⟨h,am F n (fun k hk=>hs k hk (h k hk)) he⟩
 ·exact .inr ⟨k,hk,h1,h2,am F k (fun j hj=>hs j (by omega) (h2 j hj)) (hx k hk h1)⟩
theorem rH {S E:Type} {step:S→Option (S⊕E)} (Inv:S→Prop) (me:S→Nat) (Post:E→Prop)
 (hs: ∀s,Inv s→(∃s',step s=some (.inl s')∧Inv s'∧me s'<me s)∨(∃e,step s=some (.inr e)∧Post e)):
 ∀s,Inv s→ ∃e,Loop step s=some e∧Post e:=by
 intro s
 generalize hm:me s=m
 induction m using Nat.strongRecOn generalizing s with
 |_ m ih=>
  intro hi
  rw [PG]
  rcases hs s hi with ⟨s',h1,h2,h3⟩|⟨e,h1,h2⟩
  ·rw [h1];exact ih (me s') (by omega) s' rfl h2
  ·rw [h1];exact ⟨e,rfl,h2⟩
theorem y9 {α:Type} {c:Bool} {x y:α} (h:c=true):br c x y=x:=by subst h;rfl
theorem RL {α:Type} {c:Bool} {x y:α} (h:c=false):br c x y=y:=by subst h;rfl
theorem brd {α:Type} {p:Prop} [Decidable p] {x y:α} (h:p):br (decide p) x y=x:=y9 (decide_eq_true h)
theorem brn {α:Type} {p:Prop} [Decidable p] {x y:α} (h: ¬p):br (decide p) x y=y:=RL (decide_eq_false h)
theorem B2 {α:Type} {p q:Prop} [Decidable p] [Decidable q] {x y:α} (h:p) (g:q):br (decide p&&decide q) x y=x:=y9 (by simp [h,g])
theorem bre {α:Type} {a b:Int} {x y:α} (h:a=b):br (a==b) x y=x:=y9 (by simp [h])
theorem zh {α:Type} {a b:Int} {x y:α} (h:a≠b):br (a==b) x y=y:=RL (by simp [h])
theorem brb {α:Type} {a b:Int} {x y:α} (h:a≠b):br (a !=b) x y=x:=y9 (by simp [h])
theorem ff {α:Type} {a b:Int} {x y:α} (h:a=b):br (a !=b) x y=y:=RL (by simp [h])
theorem bp (a b:Int) (h:0≤a):a.tmod b=a%b:=Int.tmod_eq_emod_of_nonneg h
theorem fC (a b:Int) (h:0≤a):a.tdiv b=a/b:=Int.tdiv_eq_ediv_of_nonneg h
theorem od (x:UInt8):(x.toNat:Int)<256:=by have:=x.toNat_lt;omega
theorem EL {n b:Nat} (h:n*b≤1099511627776):aZ n b=true:=by simp [aZ,bB,h]
theorem ak {α:Type} {n b:Nat} {x y:α} (h:n*b≤1099511627776):br (aZ n b) x y=x:=y9 (EL h)
theorem Xl {l c:Int} {b:Nat} (h0:0≤l) (h1:l≤c) (h2:c*b≤1099511627776):J8 l c b=true:=by simp [J8,bB,h0,h1,h2]
theorem WD {α:Type} {l c:Int} {b:Nat} {x y:α} (h0:0≤l) (h1:l≤c) (h2:c*b≤1099511627776):br (J8 l c b) x y=x:=y9 (Xl h0 h1 h2)
theorem bQ {α:Type} {l:List α} {k:Nat} (h:k<l.length):atL l (k:Int)=some l[k]:=by simp [atL,h]
theorem ew {β:Type} {l:List Int} {i:Nat} {f:Int→Option β} (h:i<l.length):(l[i]?).bind f=f (l.getD i 0):=by simp [h]
theorem vd {α:Type} {l:List α} {i:Nat} (h:i<l.length):l[i]? =some l[i]:=List.getElem?_eq_getElem h
theorem Pe {α:Type} {l:List α} {i:Int} (h0:0≤i) (h1:i<l.length): ∃x,atL l i=some x∧l[i.toNat]? =some x∧x∈l:=by
 have h:i.toNat<l.length:=by omega
 exact ⟨l[i.toNat],by simp [atL,h0,h],by simp [h],List.getElem_mem h⟩
theorem Oz {α:Type} {l:List α} {i:Nat} (h:i<l.length): ∃x r,l.drop i=x::r∧l.drop (i+1)=r∧l[i]? =some x:=
 ⟨l[i],l.drop (i+1),List.drop_eq_getElem_cons h,rfl,by simp [h]⟩
theorem Sz {α:Type} {l r:List α} {x:α} {i:Int} (h0:0≤i) (h:l.drop i.toNat=x::r):atL l i=some x:=by
 have:l[i.toNat]? =some x:=by rw [←List.head?_drop,h];rfl
 simp [atL,h0,this]
theorem nV {α:Type} {l:List α} {a b:Int} (h0:0≤a) (h1:a≤b) (h2:b≤l.length):sK l a b=some ((l.drop a.toNat).take (b.toNat-a.toNat)):=by
 simp [sK,h0,h1,h2,List.drop_take]
theorem cp {α:Type} {l:List α} {k:Nat} (h:k<l.length):l.take (k+1)=l.take k++[l[k]]:=by rw [List.take_succ_eq_append_getElem h]
theorem lJ (k:Nat):((k+1:Nat):Int)=(k:Int)+1:=by omega
theorem ki (n:Nat):(nZ n).length=n:=by simp [nZ]
def iU {α:Type} (f:Nat→α→α):Nat→α→α
 |0,l=>l
 |k+1,l=>f k (iU f k l)
theorem oY {f:Nat→List Int→List Int} (hf: ∀k l,(f k l).length=l.length): ∀(k:Nat) (l:List Int),(iU f k l).length=l.length
 |0,l=>rfl
 |k+1,l=>by rw [iU,hf,oY hf k l]
end Go.AI
set_option linter.unusedVariables false
set_option linter.unusedSimpArgs false
namespace Go.AI.Fn
def okF (a:Int):Prop:=0≤a∧a≤2130706432
def okE (x:Ext):Prop:=okF x.A∧okF x.B
def Tz (a:Int):Bool:=decide (0≤a)&&decide (a≤2130706432)
def pG (x:Ext):Bool:=Tz x.A&&Tz x.B
theorem a1e {a:Int}:Tz a=true↔okF a:=by simp [Tz,okF]
theorem om {x:Ext}:pG x=true↔okE x:=by simp [pG,okE,a1e]
def aF (a b:Int):Int:=(a+b)%2130706433
def sF (a b:Int):Int:=(a-b)%2130706433
def mF (a b:Int):Int:=(a*b)%2130706433
def eA (x y:Ext):Ext:=⟨(x.A+y.A)%2130706433,(x.B+y.B)%2130706433⟩
def eS (x y:Ext):Ext:=⟨(x.A-y.A)%2130706433,(x.B-y.B)%2130706433⟩
def eM (x y:Ext):Ext:=⟨(x.A*y.A+3*(x.B*y.B))%2130706433,(x.A*y.B+x.B*y.A)%2130706433⟩
def eC (x:Ext) (n:Int):Ext:=⟨(x.A*n)%2130706433,(x.B*n)%2130706433⟩
def e0:Ext:=⟨0,0⟩
def e1:Ext:=⟨1,0⟩
def eN (n:Int):Ext:=⟨n,0⟩
theorem a1R:okF 3:=⟨by decide,by decide⟩
theorem a2i:okF 1:=⟨by decide,by decide⟩
theorem a7P:okF 0:=⟨by decide,by decide⟩
theorem ib (a:Int):okF (a%2130706433):=⟨by omega,by omega⟩
theorem a3Z (a b:Int):okF (sF a b):=ib _
theorem iZ (a b:Int):okF (mF a b):=ib _
theorem OU (x y:Ext):okE (eA x y):=⟨ib _,ib _⟩
theorem pd (x y:Ext):okE (eS x y):=⟨ib _,ib _⟩
theorem ox (x y:Ext):okE (eM x y):=⟨ib _,ib _⟩
theorem a48 (x:Ext) (n:Int):okE (eC x n):=⟨ib _,ib _⟩
theorem a4f:okE e0:=⟨⟨by decide,by decide⟩,⟨by decide,by decide⟩⟩
theorem SX:okE e1:=⟨⟨by decide,by decide⟩,⟨by decide,by decide⟩⟩
theorem X7 {n:Int} (h:okF n):okE (eN n):=⟨h,a7P⟩
theorem a5g {a b:Int} (ha:okF a) (hb:okF b):0≤a*b∧a*b≤4539909900063178624:=
 ⟨Int.mul_nonneg ha.1 hb.1,Int.le_trans (Int.mul_le_mul ha.2 hb.2 hb.1 (by decide)) (by decide)⟩
theorem zA {a:Int} (h:okF a):a%2130706433=a:=by obtain ⟨h1,h2⟩:=h;omega
theorem zy {x y:Ext} (h1:x.A=y.A) (h2:x.B=y.B):x=y:=by cases x;cases y;cases h1;cases h2;rfl
theorem mA1 (a b:Int):(a%2130706433+b)%2130706433=(a+b)%2130706433:=Int.emod_add_emod _ _ _
theorem mA2 (a b:Int):(a+b%2130706433)%2130706433=(a+b)%2130706433:=Int.add_emod_emod _ _ _
theorem mM1 (a b:Int):(a%2130706433*b)%2130706433=(a*b)%2130706433:=by rw [Int.mul_emod,Int.emod_emod, ←Int.mul_emod]
theorem mM2 (a b:Int):(a*(b%2130706433))%2130706433=(a*b)%2130706433:=by rw [Int.mul_emod,Int.emod_emod, ←Int.mul_emod]
theorem mX1 (a b c:Int):(a%2130706433*b+c)%2130706433=(a*b+c)%2130706433:=by rw [←mA1,mM1,mA1]
theorem mX4 (a b c:Int):(c+a*(b%2130706433))%2130706433=(c+a*b)%2130706433:=by rw [←mA2,mM2,mA2]
theorem a3X {a b:Int} (ha:okF a) (hb:okF b):(IntKind.wrap .i64 (a+b)).tmod 2130706433=aF a b:=by
 obtain ⟨h1,h2⟩:=ha;obtain ⟨h3,h4⟩:=hb
 unfold aF;rw [aa _ (by omega) (by omega),bp _ _ (by omega)]
theorem ET {a b:Int} (ha:okF a) (hb:okF b):I4 a b=some (aF a b):=by unfold I4;rw [a3X ha hb]
theorem KO {a b:Int} (ha:okF a) (hb:okF b):Lj a b=some (sF a b):=by
 obtain ⟨h1,h2⟩:=ha;obtain ⟨h3,h4⟩:=hb
 unfold Lj sF;rw [aa (a-b) (by omega) (by omega),aa _ (by omega) (by omega),bp _ _ (by omega)]
 congr 1;omega
theorem YX {a b:Int} (ha:okF a) (hb:okF b):(IntKind.wrap .i64 (a*b)).tmod 2130706433=mF a b:=by
 have h:=a5g ha hb
 unfold mF;rw [aa _ (by omega) (by omega),bp _ _ (by omega)]
theorem ix {a b:Int} (ha:okF a) (hb:okF b):mI a b=some (mF a b):=by unfold mI;rw [YX ha hb]
theorem gL {x y:Ext} (hx:okE x) (hy:okE y):dh x y=some (eA x y):=by
 unfold dh;rw [ET hx.1 hy.1,ET hx.2 hy.2];rfl
theorem ie {x y:Ext} (hx:okE x) (hy:okE y):cW x y=some (eS x y):=by
 unfold cW;rw [KO hx.1 hy.1,KO hx.2 hy.2];rfl
theorem Xg (x y:Ext):eM x y=⟨aF (mF x.A y.A) (mF 3 (mF x.B y.B)),aF (mF x.A y.B) (mF x.B y.A)⟩:=by
 unfold eM aF mF
 congr 1
 ·rw [mA1,mA2,mX4]
 ·rw [mA1,mA2]
theorem dK {x y:Ext} (hx:okE x) (hy:okE y):bV x y=some (eM x y):=by
 unfold bV
 rw [ix hx.1 hy.1,ix hx.2 hy.2]
 simp only [Option.bind_some]
 rw [ix a1R (iZ _ _)]
 simp only [Option.bind_some]
 rw [ET (iZ _ _) (iZ _ _),ix hx.1 hy.2,ix hx.2 hy.1]
 simp only [Option.bind_some]
 rw [ET (iZ _ _) (iZ _ _),Xg];rfl
theorem u5 {x:Ext} {n:Int} (hx:okE x) (hn:okF n):fS x n=some (eC x n):=by
 unfold fS;rw [ix hx.1 hn,ix hx.2 hn];rfl
theorem DV:GS=some e1:=rfl
theorem o4 (n a b:Int):we n a b=some (decide (a≤n)&&decide (n≤b)):=by
 unfold we;cases decide (a≤n)<;>rfl
theorem F1 (a:Int):qZ a=some (Tz a):=by
 unfold qZ;rw [o4];rfl
theorem rx (x:Ext):pM x=some (pG x):=by
 unfold pM pG;rw [F1,F1];cases Tz x.A<;>rfl
theorem EF {a b:Int} (ha:okF a) (hb:okF b):oy a b=some (aF a b):=by unfold oy;rw [a3X ha hb]
theorem Ki {a b:Int} (ha:okF a) (hb:okF b):rL a b=some (sF a b):=by
 obtain ⟨h1,h2⟩:=ha;obtain ⟨h3,h4⟩:=hb
 unfold rL sF;rw [aa (a+2130706433) (by omega) (by omega),aa _ (by omega) (by omega),bp _ _ (by omega)]
 congr 1;omega
theorem kC {a b:Int} (ha:okF a) (hb:okF b):eF a b=some (mF a b):=by unfold eF;rw [YX ha hb]
theorem jV {x y:Ext} (hx:okE x) (hy:okE y):gG x y=some (eA x y):=by
 unfold gG;rw [EF hx.1 hy.1,EF hx.2 hy.2];rfl
theorem nj {x y:Ext} (hx:okE x) (hy:okE y):jC x y=some (eS x y):=by
 unfold jC;rw [Ki hx.1 hy.1,Ki hx.2 hy.2];rfl
theorem du {x y:Ext} (hx:okE x) (hy:okE y):cU x y=some (eM x y):=by
 unfold cU
 have h3:(IntKind.wrap .i64 (3*mF x.B y.B)).tmod 2130706433=mF 3 (mF x.B y.B):=YX a1R (iZ x.B y.B)
 rw [kC hx.1 hy.1,kC hx.2 hy.2]
 simp only [Option.bind_some]
 rw [h3,EF (iZ _ _) (iZ _ _),kC hx.1 hy.2,kC hx.2 hy.1]
 simp only [Option.bind_some]
 rw [EF (iZ _ _) (iZ _ _),Xg];rfl
theorem AS (n:Int):nE n=some (eN n):=rfl
theorem Ka:vH=some e1:=rfl
theorem Gu {x:Ext} (hx:okE x):mX x=some (eS e1 x):=by
 unfold mX;rw [Ka,Option.bind_some,nj SX hx];rfl
theorem wS (n a b:Int):gx n a b=some (decide (a≤n)&&decide (n≤b)):=by
 unfold gx;cases decide (a≤n)<;>rfl
theorem EI (a:Int):qH a=some (Tz a):=by
 unfold qH;rw [wS];rfl
theorem D3 (x:Ext):tW x=some (pG x):=by
 unfold tW pG;rw [EI,EI];cases Tz x.A<;>rfl
theorem sub_self (x:Ext):eS x x=e0:=by
 apply zy<;>simp [eS,e0]
theorem Xa (x:Ext) (n:Int):eC x n=eM x (eN n):=by
 apply zy<;>(simp only [eC,eM,eN];congr 1;grind)
end Go.AI.Fn
set_option linter.unusedVariables false
set_option linter.unusedSimpArgs false
namespace Go.AI.Fn
def pF (a:Int) (n:Nat):Int:=(a^n)%2130706433
theorem Lr (a:Int) (n:Nat):okF (pF a n):=ib _
theorem a7V {n:Int} (h:0≤n) (h2:n<9223372036854775808):bk .i64 n 1=n%2:=by
 show IntKind.wrap .i64 ((BitVec.ofInt 64 n&&&BitVec.ofInt 64 1).toNat:Int)=n%2
 have e1:(BitVec.ofInt 64 n).toNat=n.toNat:=by rw [BitVec.toNat_ofInt];omega
 have e2:(BitVec.ofInt 64 1).toNat=1:=by decide
 rw [BitVec.toNat_and,e1,e2,Nat.and_one_is_mod,aa _ (by omega) (by omega)]
 omega
theorem a84 {n:Int} (h:0≤n):aL .i64 n 1=n/2:=by
 show n.fdiv (2^1)=n/2
 rw [Int.fdiv_eq_ediv_of_nonneg _ (by decide)];rfl
theorem a0A {a:Int} {n:Nat} (h:n%2=0):(a*a)^(n/2)=a^n:=by
 have e:n=2*(n/2):=by omega
 have e2:a^n=a^(2*(n/2)):=by rw [←e]
 rw [e2,Int.pow_mul,Int.pow_succ,Int.pow_succ,Int.pow_zero,Int.one_mul]
theorem a3t {a:Int} {n:Nat} (h:n%2=1):a*(a*a)^(n/2)=a^n:=by
 have e:n=2*(n/2)+1:=by omega
 have e2:a^n=a^(2*(n/2)+1):=by rw [←e]
 rw [e2,Int.pow_succ,Int.pow_mul,Int.pow_succ,Int.pow_succ,Int.pow_zero,Int.one_mul,Int.mul_comm]
theorem WH (a:Int) (n:Nat):((a%2130706433)^n)%2130706433=(a^n)%2130706433:=by
 induction n with
 |zero=>rw [Int.pow_zero,Int.pow_zero]
 |succ n ih=>rw [Int.pow_succ,Int.pow_succ,mM2, ←mM1,ih,mM1]
theorem TQ {a out:Int} {n:Nat} (hn:0<n):(n%2=1→(mF out a*(mF a a)^(n/2))%2130706433=(out*a^n)%2130706433)∧(n%2=0→(out*(mF a a)^(n/2))%2130706433=(out*a^n)%2130706433):=by
 constructor
 ·intro h
  unfold mF
  rw [mM1, ←mM2,WH,mM2, ←a3t h,Int.mul_assoc]
 ·intro h
  unfold mF
  rw [←mM2,WH,mM2,a0A h]
theorem Va {a out n:Int} (ha:okF a) (ho:okF out) (h0:0≤n) (hn:n<9223372036854775808): ∃e,Loop rd (a,n,out)=some e∧e.2.2.1=(out*a^n.toNat)%2130706433:=by
 refine rH (step:=rd) (fun s=>okF s.1∧okF s.2.2∧0≤s.2.1∧s.2.1<9223372036854775808∧(s.2.2*s.1^s.2.1.toNat)%2130706433=(out*a^n.toNat)%2130706433) (fun s=>s.2.1.toNat) _ ?_ (a,n,out) ⟨ha,ho,h0,hn,rfl⟩
 rintro ⟨b,k,o⟩ ⟨hb,ho',hk0,hk1,hinv⟩
 dsimp only at hb ho' hk0 hk1 hinv
 simp only [rd]
 by_cases hk:k>0
 ·left
  rw [brd hk,a7V hk0 hk1,a84 hk0,ix hb hb]
  have hs:=TQ (a:=b) (out:=o) (n:=k.toNat) (by omega)
  have e:(k/2).toNat=k.toNat/2:=by omega
  by_cases h2:k%2=1
  ·rw [bre h2,ix ho' hb]
   refine ⟨_,rfl,⟨iZ _ _,iZ _ _,by dsimp only;omega,by dsimp only;omega, ?_⟩,by dsimp only;omega⟩
   dsimp only
   rw [e,hs.1 (by omega),hinv]
  ·rw [zh h2]
   refine ⟨_,rfl,⟨iZ _ _,ho',by dsimp only;omega,by dsimp only;omega, ?_⟩,by dsimp only;omega⟩
   dsimp only
   rw [e,hs.2 (by omega),hinv]
 ·right
  rw [brn hk]
  refine ⟨_,rfl, ?_⟩
  have:k=0:=by omega
  subst this
  dsimp only
  rw [←hinv]
  simp [zA ho']
theorem Kr {a n:Int} (ha:okF a) (h0:0≤n) (hn:n<9223372036854775808):JF a n=some (pF a n.toNat):=by
 unfold JF
 obtain ⟨e,h1,h2⟩:=Va ha a2i h0 hn
 rw [h1,Option.bind_some,h2,Int.one_mul];rfl
theorem UJ {a out n:Int} (ha:okF a) (ho:okF out) (h0:0≤n) (hn:n<9223372036854775808): ∃e,Loop k9 (a,n,out)=some e∧e.2.2.1=(out*a^n.toNat)%2130706433:=by
 refine rH (step:=k9) (fun s=>okF s.1∧okF s.2.2∧0≤s.2.1∧s.2.1<9223372036854775808∧(s.2.2*s.1^s.2.1.toNat)%2130706433=(out*a^n.toNat)%2130706433) (fun s=>s.2.1.toNat) _ ?_ (a,n,out) ⟨ha,ho,h0,hn,rfl⟩
 rintro ⟨b,k,o⟩ ⟨hb,ho',hk0,hk1,hinv⟩
 dsimp only at hb ho' hk0 hk1 hinv
 simp only [k9]
 by_cases hk:k>0
 ·left
  rw [brd hk,bp _ _ hk0,fC _ _ hk0,aa _ (by omega) (by omega),kC hb hb]
  have hs:=TQ (a:=b) (out:=o) (n:=k.toNat) (by omega)
  have e:(k/2).toNat=k.toNat/2:=by omega
  by_cases h2:k%2=1
  ·rw [bre h2,kC ho' hb]
   refine ⟨_,rfl,⟨iZ _ _,iZ _ _,by dsimp only;omega,by dsimp only;omega, ?_⟩,by dsimp only;omega⟩
   dsimp only
   rw [e,hs.1 (by omega),hinv]
  ·rw [zh h2]
   refine ⟨_,rfl,⟨iZ _ _,ho',by dsimp only;omega,by dsimp only;omega, ?_⟩,by dsimp only;omega⟩
   dsimp only
   rw [e,hs.2 (by omega),hinv]
 ·right
  rw [brn hk]
  refine ⟨_,rfl, ?_⟩
  have:k=0:=by omega
  subst this
  dsimp only
  rw [←hinv]
  simp [zA ho']
theorem M5 {a n:Int} (ha:okF a) (h0:0≤n) (hn:n<9223372036854775808):o8 a n=some (pF a n.toNat):=by
 unfold o8
 obtain ⟨e,h1,h2⟩:=UJ ha a2i h0 hn
 rw [h1,Option.bind_some,h2,Int.one_mul];rfl
def iF (a:Int):Int:=pF a 2130706431
theorem wu {a:Int} (ha:okF a):mU a=some (iF a):=by
 unfold mU;rw [Kr ha (by decide) (by decide),Option.bind_some];rfl
theorem xz {a:Int} (ha:okF a):o8 a 2130706431=some (iF a):=by
 rw [M5 ha (by decide) (by decide)];rfl
def yi (k:Nat):Int:=pF 3 (127*2^(24-k))
theorem Dp (k:Nat):okF (yi k):=Lr _ _
theorem a1x: ∀j:Nat,j<25→(2:Int)^j≤16777216∧0<(2:Int)^j:=by decide
theorem Zs {j:Nat} (h:j≤24):bW .i64 127 (j:Int)=127*2^j:=by
 obtain ⟨h1,h0⟩:=a1x j (by omega)
 show IntKind.wrap .i64 (127*2^(min ((j:Int).toNat) 64))=_
 rw [Int.toNat_natCast,Nat.min_eq_left (by omega),aa _ (by omega) (by omega)]
theorem NZ {k:Nat} (h:k≤24):FF (k:Int)=some (yi k):=by
 unfold FF
 obtain ⟨hq,hp⟩:=a1x (24-k) (by omega)
 rw [aa _ (by omega) (by omega),brd (by omega),show (24:Int)-k=((24-k:Nat):Int) by omega,Zs (by omega),Kr a1R (by omega) (by omega),Option.bind_some,yi]
 congr 2
theorem ON {k:Nat} (h:k≤24):qA (k:Int)=some (yi k):=by
 unfold qA
 obtain ⟨hq,hp⟩:=a1x (24-k) (by omega)
 rw [aa _ (by omega) (by omega),cT _ (by omega) (by omega),brd (by omega),show (24:Int)-k=((24-k:Nat):Int) by omega,Zs (by omega),M5 a1R (by omega) (by omega),Option.bind_some,yi]
 congr 2
def isP (n:Nat):Bool:=n==1||n==2||n==4||n==8||n==16||n==32||n==64||n==128||n==256||n==512
def Yk (n most:Int):Bool:=decide (1≤n)&&decide (n≤most)&&isP n.toNat
theorem a3e: ∀n:Nat,n<513→1≤n→(bk .i64 (n:Int) ((n:Int)-1)==0)=isP n:=by decide+kernel
theorem Qa {n most:Int} (h:most≤512):vN n most=some (Yk n most):=by
 unfold vN Yk
 rw [o4,Option.bind_some]
 by_cases h1:1≤n
 ·by_cases h2:n≤most
  ·rw [decide_eq_true h1,decide_eq_true h2,Bool.and_true,aQ,Bool.true_and,aa _ (by omega) (by omega)]
   have:=a3e n.toNat (by omega) (by omega)
   rw [Int.toNat_of_nonneg (by omega)] at this
   rw [this]
  ·rw [decide_eq_false h2];simp [br]
 ·rw [decide_eq_false h1];simp [br]
end Go.AI.Fn
set_option linter.unusedVariables false
namespace Go.AI.Fn
structure Src (B:Int) (m:bI):Prop where
 at0:0≤m.at_
 at1:m.at_≤B
 sd0:0≤m.seed
 sd1:m.seed<2147483648
 len:m.code.length≤1048600
theorem Src.mono {B C:Int} {m:bI} (h:Src B m) (hc:B≤C):Src C m:=⟨h.at0,by have:=h.at1;omega,h.sd0,h.sd1,h.len⟩
abbrev Big:Int:=4611686018427387904
theorem FU {code:List UInt8} (h:code.length≤1048600): ∃m,lK code=some m∧Src 0 m:=by
 refine ⟨_,rfl, ?_⟩
 have:(((code.length:Nat):Int).tmod (1000:Int))=(code.length:Int)%1000:=bp _ _ (by omega)
 constructor<;>dsimp only<;>omega
theorem Jt {B:Int} {m:bI} (h:Src B m) (hB:B<Big): ∃x m',eQ m=some (x,m')∧0≤x∧x<256∧Src (B+1) m':=by
 obtain ⟨h1,h2,h3,h4,h5⟩:=h
 rcases m with ⟨code,at_,seed⟩
 dsimp only at h1 h2 h3 h4 h5
 unfold eQ
 dsimp only
 simp only [Big] at hB
 rw [aa (at_+1) (by omega) (by omega)]
 by_cases c:at_+1≤((code.length:Nat):Int)
 ·rw [brd c,aa (at_+1-1) (by omega) (by omega)]
  obtain ⟨x,hx,_,_⟩:=Pe (l:=code) (i:=at_+1-1) (by omega) (by omega)
  have:=od x
  rw [hx]
  simp only [Option.bind_some]
  rw [aa (x.toNat:Int) (by omega) (by omega),aa (seed*31) (by omega) (by omega),aa (seed*31+(x.toNat:Int)) (by omega) (by omega),aa _ (by omega) (by omega),bp _ _ (by omega)]
  refine ⟨_,_,rfl,by omega,by omega, ?_⟩
  constructor<;>dsimp only<;>omega
 ·rw [brn c]
  by_cases c2:at_+1>3000
  ·rw [brd c2]
   refine ⟨_,_,rfl,by omega,by omega, ?_⟩
   constructor<;>dsimp only<;>omega
  ·rw [brn c2,aa (seed*1103515245) (by omega) (by omega),aa (seed*1103515245+12345) (by omega) (by omega),bp (seed*1103515245+12345) _ (by omega),fC _ _ (by omega),aa _ (by omega) (by omega),bp _ _ (by omega)]
   refine ⟨_,_,rfl,by omega,by omega, ?_⟩
   constructor<;>dsimp only<;>omega
theorem kJ {B n:Int} {m:bI} (h:Src B m) (hB:B+3<Big): ∃x m',bC n m=some (x,m')∧0≤x∧(1<n→x<n)∧(n≤1→x=0)∧Src (B+3) m':=by
 unfold bC
 by_cases c:n≤1
 ·rw [brd c];exact ⟨_,_,rfl,by omega,by omega,fun _=>rfl,h.mono (by omega)⟩
 ·rw [brn c]
  by_cases c2:n≤256
  ·rw [brd c2]
   obtain ⟨x,m1,e1,x0,x1,s1⟩:=Jt h (by omega)
   rw [e1]
   simp only [Option.bind_some]
   rw [brd (by omega),bp _ _ x0]
   exact ⟨_,_,rfl,Int.emod_nonneg _ (by omega),fun _=>Int.emod_lt_of_pos _ (by omega),by omega,s1.mono (by omega)⟩
  ·rw [brn c2]
   obtain ⟨x,m1,e1,x0,x1,s1⟩:=Jt h (by omega)
   obtain ⟨y,m2,e2,y0,y1,s2⟩:=Jt s1 (by omega)
   obtain ⟨z,m3,e3,z0,z1,s3⟩:=Jt s2 (by omega)
   rw [e1]
   simp only [Option.bind_some]
   rw [e2]
   simp only [Option.bind_some]
   rw [e3]
   simp only [Option.bind_some]
   rw [brd (by omega),aa (x*65536) (by omega) (by omega),aa (y*256) (by omega) (by omega),aa (x*65536+y*256) (by omega) (by omega),aa _ (by omega) (by omega),bp _ _ (by omega)]
   exact ⟨_,_,rfl,Int.emod_nonneg _ (by omega),fun _=>Int.emod_lt_of_pos _ (by omega),by omega,s3.mono (by omega)⟩
theorem FW {B n:Int} {m:bI} (h:Src B m) (hB:B+3<Big): ∃x m',dz n m=some (x,m')∧Src (B+3) m':=by
 unfold dz
 obtain ⟨x,m1,e1,_,_,_,s1⟩:=kJ (n:=n) h hB
 rw [e1]
 exact ⟨_,_,rfl,s1⟩
theorem RB {B:Int} {m:bI} (h:Src B m) (hB:B+18<Big): ∃x m',fl m=some (x,m')∧okF x∧Src (B+18) m':=by
 unfold fl
 obtain ⟨x,m1,e1,x0,x1,_,s1⟩:=kJ (n:=5) h (by omega)
 have:=x1 (by omega)
 rw [e1]
 simp only [Option.bind_some]
 by_cases c:x=0
 ·rw [bre c]
  obtain ⟨y,m2,e2,y0,y1,_,s2⟩:=kJ (n:=4) s1 (by omega)
  have:=y1 (by omega)
  rw [e2]
  exact ⟨_,_,rfl,⟨by omega,by omega⟩,s2.mono (by omega)⟩
 ·rw [zh c]
  by_cases c2:x=1
  ·rw [bre c2]
   obtain ⟨y,m2,e2,y0,y1,_,s2⟩:=kJ (n:=3) s1 (by omega)
   have:=y1 (by omega)
   rw [e2]
   refine ⟨_,_,rfl,⟨?_, ?_⟩,s2.mono (by omega)⟩<;>rw [aa _ (by omega) (by omega)]<;>omega
  ·rw [zh c2]
   have key:=rH (step:=dJ)
    (fun s=>okF s.1∧0≤s.2.1∧s.2.1≤5∧Src (B+3+3*s.2.1) ⟨s.2.2.1,s.2.2.2.1,s.2.2.2.2⟩) (fun s=>(5-s.2.1).toNat)
    (fun e=>okF e.1∧Src (B+18) ⟨e.2.2.2.1,e.2.2.2.2.1,e.2.2.2.2.2⟩) ?_ ((0:Int),(0:Int),m1.code,m1.at_,m1.seed) ⟨⟨by first|omega| (dsimp only;omega),by first|omega| (dsimp only;omega)⟩,by first|omega| (dsimp only;omega),by first|omega| (dsimp only;omega),s1.mono (by first|omega| (dsimp only;omega))⟩
   ·obtain ⟨e,he,h1,h2⟩:=key
    rw [he]
    exact ⟨_,_,rfl,h1,h2⟩
   ·rintro ⟨n,i,c,c2,c3⟩ ⟨⟨n0,n1⟩,i0,i1,hs⟩
    dsimp only at n0 n1 i0 i1 hs
    by_cases hi:i<5
    ·left
     obtain ⟨y,m2,e2,y0,y1,_,s2⟩:=kJ (n:=256) hs (by omega)
     have:=y1 (by omega)
     simp only [dJ]
     rw [brd hi,e2]
     simp only [Option.bind_some]
     rw [aa (n*256) (by omega) (by omega),aa (n*256+y) (by omega) (by omega),aa (i+1) (by omega) (by omega),bp _ _ (by omega)]
     refine ⟨_,rfl,⟨⟨?_, ?_⟩, ?_, ?_,s2.mono ?_⟩, ?_⟩<;>dsimp only<;>omega
    ·right
     simp only [dJ]
     rw [brn hi]
     exact ⟨_,rfl,⟨n0,n1⟩,hs.mono (by first|omega| (dsimp only;omega))⟩
end Go.AI.Fn
set_option linter.unusedVariables false
namespace Go.AI.Fn
theorem a4r {B:Int} {m:bI} (h:Src B m) (hB:B+40<Big): ∃x m',mb m=some (x,m')∧okE x∧Src (B+40) m':=by
 unfold mb
 obtain ⟨x,m1,e1,s1⟩:=FW (n:=4) h (by omega)
 rw [e1]
 simp only [Option.bind_some]
 obtain ⟨y,m2,e2,y0,s2⟩:=RB s1 (by omega)
 obtain ⟨z,m3,e3,z0,s3⟩:=RB s2 (by omega)
 rw [e2]
 cases x
 ·simp only [aj,Option.bind_some]
  rw [e3]
  exact ⟨_,_,rfl,⟨y0,z0⟩,s3.mono (by omega)⟩
 ·exact ⟨_,_,rfl,⟨y0,⟨by first|omega| (dsimp only;omega),by first|omega| (dsimp only;omega)⟩⟩,s2.mono (by omega)⟩
theorem X4 {B n:Int} {m:bI} (h:Src B m) (hn0:0≤n) (hn1:n≤1048576) (hB:B+40*n<Big): ∃l m',iM n m=some (l,m')∧(l.length:Int)=n∧(∀x∈l,okE x)∧Src (B+40*n) m':=by
 unfold iM
 have key:=rH (step:=dY n)
  (fun s=>(s.1.length:Int)=s.2.1∧(∀x∈s.1,okE x)∧s.2.1≤n∧Src (B+40*s.2.1) ⟨s.2.2.1,s.2.2.2.1,s.2.2.2.2⟩) (fun s=>(n-s.2.1).toNat)
  (fun e=>(e.1.length:Int)=n∧(∀x∈e.1,okE x)∧Src (B+40*n) ⟨e.2.2.2.1,e.2.2.2.2.1,e.2.2.2.2.2⟩) ?_ (([]:List Ext),(0:Int),m.code,m.at_,m.seed) ⟨by simp,by simp,by dsimp only;omega,h.mono (by first|omega| (dsimp only;omega))⟩
 ·obtain ⟨e,he,h1,h2,h3⟩:=key
  rw [he]
  exact ⟨_,_,rfl,h1,h2,h3⟩
 ·rintro ⟨l,i,c,c2,c3⟩ ⟨hl,ha,i1,hs⟩
  dsimp only at hl ha i1 hs
  by_cases hi:i<n
  ·left
   obtain ⟨y,m2,e2,y0,s2⟩:=a4r hs (by omega)
   simp only [dY]
   rw [brd hi,e2]
   simp only [Option.bind_some]
   rw [y9 (EL (by simp only [List.length_append,List.length_cons,List.length_nil];omega)),aa (i+1) (by omega) (by omega)]
   refine ⟨_,rfl,⟨?_, ?_, ?_,s2.mono ?_⟩, ?_⟩
   ·simp only [List.length_append,List.length_cons,List.length_nil];omega
   ·intro x hx
    rcases List.mem_append.1 hx with hx|hx
    ·exact ha x hx
    ·rw [List.mem_singleton] at hx;subst hx;exact y0
   all_goals dsimp only;omega
  ·right
   simp only [dY]
   rw [brn hi]
   exact ⟨_,rfl,by dsimp only;omega,ha,hs.mono (by first|omega| (dsimp only;omega))⟩
theorem OX {code:List UInt8} {n:Int} (h:code.length≤1048600) (hn0:0≤n) (hn1:n≤1048576): ∃l,vO code n=some l∧(l.length:Int)=n∧ ∀x∈l,okE x:=by
 unfold vO
 obtain ⟨m,e1,s1⟩:=FU (show code.length≤1048600 by omega)
 rw [e1]
 simp only [Option.bind_some]
 obtain ⟨l,m2,e2,h1,h2,_⟩:=X4 (n:=n) s1 hn0 hn1 (by simp only [Big];omega)
 rw [e2]
 exact ⟨_,rfl,h1,h2⟩
end Go.AI.Fn
set_option linter.unusedVariables false
set_option linter.unusedSimpArgs false
namespace Go.AI.Fn
theorem Mi {α:Type} {p:α→Bool} {l:List α} {k:Nat} (hk:k<l.length) (h:p l[k]=true):l.any p=true:=List.any_eq_true.2 ⟨l[k],List.getElem_mem hk,h⟩
theorem Wh {α:Type} {p:α→Bool} {l:List α} (h: ∀k (hk:k<l.length),p l[k]=false):l.any p=false:=by
 rw [List.any_eq_false]
 intro x hx
 obtain ⟨k,hk,rfl⟩:=List.getElem_of_mem hx
 simp [h k hk]
theorem ws {α:Type} {p:α→Bool} {f:α→Option Bool} {l:List α} (hl:l.length≤1099511627776) (hf: ∀x∈l,f x=some (p x)) {step:Int→Option (Int⊕(Int⊕(Int×Bool)))}
 (hs: ∀t,step t=br (decide (t<((l.length:Nat):Int))) ((atL l t).bind fun x=>(f x).bind fun r=>br r (some (.inr (.inl t))) (some (.inl (IntKind.wrap .i64 (t+1))))) (some (.inr (.inr (t,decide (t<((l.length:Nat):Int))))))):
 ((Loop step 0).bind (alt (fun e=>some e) (fun _=>some (-1)))).bind (fun r=>some (decide (r≥0)))=some (l.any p):=by
 have key:=vr (step:=step) (fun k=>(k:Int)) l.length (fun k=> !((l[k]?.map p).getD false)) (fun k=> .inl (k:Int)) (e:= .inr ((l.length:Int),false)) (fun k hk hp=>by
  have hb:p l[k]=false:=by simpa [hk] using hp
  rw [hs,brd (by omega),bQ hk,Option.bind_some,hf _ (List.getElem_mem hk),Option.bind_some,hb,aj,aa _ (by omega) (by omega)];rfl)
  (fun k hk hp=>by
   have hb:p l[k]=true:=by simpa [hk] using hp
   rw [hs,brd (by omega),bQ hk,Option.bind_some,hf _ (List.getElem_mem hk),Option.bind_some,hb,aQ])
  (by rw [hs,brn (by omega),decide_eq_false (by omega)])
 rcases key with ⟨h1,h2⟩|⟨k,hk,h1,_,h2⟩
 ·have e:Loop step 0=some (.inr ((l.length:Int),false)):=h2
  rw [e,Wh (fun k hk=>by simpa [hk] using h1 k hk)];rfl
 ·have e:Loop step 0=some (.inl (k:Int)):=h2
  rw [e,Mi hk (by simpa [hk] using h1)]
  simp only [Option.bind_some,ld]
  rw [decide_eq_true (by omega)]
theorem a2s {α:Type} {p:α→Bool} {f:α→Option Bool} {l:List α} (hl:l.length≤1099511627776) (hf: ∀x∈l,f x=some (p x)) {step:Int→Option (Int⊕(Unit⊕(Int×Bool)))}
 (hs: ∀t,step t=br (decide (t<((l.length:Nat):Int))) ((atL l t).bind fun x=>(f x).bind fun r=>br (!r) (some (.inr (.inl ()))) (some (.inl (IntKind.wrap .i64 (t+1))))) (some (.inr (.inr (t,decide (t<((l.length:Nat):Int))))))):
 (Loop step 0).bind (alt (fun _=>some false) (fun _=>some true))=some (l.all p):=by
 have key:=vr (step:=step) (fun k=>(k:Int)) l.length (fun k=>((l[k]?.map p).getD false)) (fun k=> .inl ()) (e:= .inr ((l.length:Int),false)) (fun k hk hp=>by
  have hb:p l[k]=true:=by simpa [hk] using hp
  rw [hs,brd (by omega),bQ hk,Option.bind_some,hf _ (List.getElem_mem hk),Option.bind_some,hb,Bool.not_true,aj,aa _ (by omega) (by omega)];rfl)
  (fun k hk hp=>by
   have hb:p l[k]=false:=by simpa [hk] using hp
   rw [hs,brd (by omega),bQ hk,Option.bind_some,hf _ (List.getElem_mem hk),Option.bind_some,hb,Bool.not_false,aQ])
  (by rw [hs,brn (by omega),decide_eq_false (by omega)])
 rcases key with ⟨h1,h2⟩|⟨k,hk,h1,_,h2⟩
 ·have e:Loop step 0=some (.inr ((l.length:Int),false)):=h2
  have ha:l.all p=true:=List.all_eq_true.2 fun x hx=>by
   obtain ⟨k,hk,rfl⟩:=List.getElem_of_mem hx
   simpa [hk] using h1 k hk
  rw [e,ha];rfl
 ·have e:Loop step 0=some (.inl ()):=h2
  have ha:l.all p=false:=by
   rw [List.all_eq_false]
   exact ⟨l[k],List.getElem_mem hk,by simpa [hk] using h1⟩
  rw [e,ha];rfl
theorem sN {α:Type} (p:α→Bool) (l:List α):(!l.any fun x=> !p x)=l.all p:=by
 induction l with
 |nil=>rfl
 |cons x l ih=>simp only [List.any_cons,List.all_cons, ←ih];cases p x<;>simp
theorem qW {l:List Ext} (hl:l.length≤1099511627776):bU l=some (l.all pG):=by
 unfold bU aU bc
 rw [ws (step:=aR l ((l.length:Nat):Int)) (p:=fun x=> !pG x) (f:=eD) hl (fun x _=>by unfold eD;rw [rx];rfl) (fun t=>rfl),Option.bind_some,sN]
theorem jv {l:List Ext} (hl:l.length≤1099511627776):k8 l=some (l.all pG):=by
 unfold k8
 exact a2s (f:=tW) hl (fun x _=>D3 x) (fun t=>rfl)
def eg (l:List Ext):Prop:= ∀x∈l,okE x
def a6S (l:List Int):Prop:= ∀x∈l,okF x
theorem FL {l:List Ext}:l.all pG=true↔eg l:=by
 rw [List.all_eq_true];exact ⟨fun h x hx=>om.1 (h x hx),fun h x hx=>om.2 (h x hx)⟩
theorem eg.get {l:List Ext} (h:eg l) {k:Nat} (hk:k<l.length):okE l[k]:=h _ (List.getElem_mem hk)
theorem a6S.get {l:List Int} (h:a6S l) {k:Nat} (hk:k<l.length):okF l[k]:=h _ (List.getElem_mem hk)
theorem eg.app {l m:List Ext} (h:eg l) (h2:eg m):eg (l++m):=fun x hx=>(List.mem_append.1 hx).elim (h x) (h2 x)
theorem eg.nil:eg []:=fun x hx=>by cases hx
theorem eg.one {x:Ext} (h:okE x):eg [x]:=fun y hy=>by rw [List.mem_singleton.1 hy];exact h
theorem eg.map {α:Type} {f:α→Ext} (l:List α) (h: ∀x∈l,okE (f x)):eg (l.map f):=fun y hy=>by obtain ⟨x,hx,rfl⟩:=List.mem_map.1 hy;exact h x hx
theorem eg.take {l:List Ext} (h:eg l) (k:Nat):eg (l.take k):=fun x hx=>h x (List.mem_of_mem_take hx)
theorem eg.drop {l:List Ext} (h:eg l) (k:Nat):eg (l.drop k):=fun x hx=>h x (List.mem_of_mem_drop hx)
def Yv (a b:List Ext):Ext:=(a.zip b).foldl (fun c p=>eA c (eM p.1 p.2)) e0
theorem N7 {α β:Type} {a:List α} {b:List β} {k:Nat} (ha:k<a.length) (hb:k<b.length):(a.zip b).take (k+1)=(a.zip b).take k++[(a[k],b[k])]:=by
 rw [cp (by rw [List.length_zip];omega),List.getElem_zip]
theorem a5x (l:List (Ext×Ext)) {c:Ext} (h:okE c):okE (l.foldl (fun c p=>eA c (eM p.1 p.2)) c):=by
 induction l generalizing c with
 |nil=>exact h
 |cons p l ih=>exact ih (OU _ _)
theorem a1q {a b:List Ext} (ha:eg a) (hb:eg b) (hl:a.length≤b.length) (hn:a.length≤1099511627776):TU a b=some (Yv a b):=by
 unfold TU
 have key:Loop (qO b a ((a.length:Nat):Int) 0 0) ((0:Int),(0:Int),(0:Int))=some ((a.length:Int),false,(Yv a b).A,(Yv a b).B):=
  am (fun k=>((k:Int),(((a.zip b).take k).foldl (fun c p=>eA c (eM p.1 p.2)) e0).A,(((a.zip b).take k).foldl (fun c p=>eA c (eM p.1 p.2)) e0).B)) a.length (fun k hk=>by
   simp only [qO]
   have hc:=a5x ((a.zip b).take k) a4f
   rw [brd (by omega),bQ hk,Option.bind_some,bQ (by omega),Option.bind_some,dK (ha.get hk) (hb.get (by omega)),Option.bind_some,gL hc (ox _ _),Option.bind_some,aa _ (by omega) (by omega),N7 hk (by omega),List.foldl_append]
   rfl) (by
   simp only [qO]
   rw [brn (by omega),decide_eq_false (by omega),List.take_of_length_le (by rw [List.length_zip];omega)]
   rfl)
 rw [key];rfl
def eqS (out:List Ext) (p:Ext):List Ext:=out.map (fun a=>eM a (eS e1 p))++out.map (fun a=>eM a p)
def eqT (pt:List Ext):List Ext:=pt.foldl eqS [e1]
theorem Wz (out:List Ext) (p:Ext):(eqS out p).length=2*out.length:=by simp [eqS];omega
theorem a4S (out:List Ext) (p:Ext):eg (eqS out p):=eg.app (eg.map _ fun x _=>ox _ _) (eg.map _ fun x _=>ox _ _)
theorem Tk (l:List Ext) (p:Ext):eqT (l++[p])=eqS (eqT l) p:=by simp [eqT,List.foldl_append]
theorem a4x {l out:List Ext} (h:eg out):eg (l.foldl eqS out):=by
 induction l generalizing out with
 |nil=>exact h
 |cons p l ih=>exact ih (a4S _ _)
theorem UT (l:List Ext):eg (eqT l):=a4x (eg.one SX)
theorem a3I (l out:List Ext):(l.foldl eqS out).length=2^l.length*out.length:=by
 induction l generalizing out with
 |nil=>simp
 |cons p l ih=>rw [List.foldl_cons,ih,Wz,List.length_cons,Nat.pow_succ];rw [Nat.mul_assoc]
theorem Jc (l:List Ext):(eqT l).length=2^l.length:=by rw [eqT,a3I];simp
theorem Uq: ∀k:Nat,k≤6→2^k≤64:=by decide
theorem a6u {t:List Ext} {t2 t3:Int} {out:List Ext} {p:Ext} (ho:eg out) (hp:okE p) (hn:out.length≤1000000000):
 Loop (iC t t2 t3 out ((out.length:Nat):Int) p.A p.B) ([],[],0)=some (out.map (fun a=>eM a (eS e1 p)),out.map (fun a=>eM a p),(out.length:Int),false):=
 am (fun k=>((out.take k).map (fun a=>eM a (eS e1 p)),(out.take k).map (fun a=>eM a p),(k:Int))) out.length (fun k hk=>by
  have he:Ext.mk p.A p.B=p:=rfl
  simp only [iC,he]
  rw [brd (by omega),bQ hk,Option.bind_some,DV,Option.bind_some,ie SX hp,Option.bind_some,dK (ho.get hk) (pd _ _),Option.bind_some,
   ak (by simp only [List.length_append,List.length_map,List.length_take,List.length_singleton];omega),dK (ho.get hk) hp,Option.bind_some,
   ak (by simp only [List.length_append,List.length_map,List.length_take,List.length_singleton];omega),aa _ (by omega) (by omega),cp hk,List.map_append,List.map_append]
  rfl) (by
  simp only [iC]
  rw [brn (by omega),decide_eq_false (by omega),List.take_length])
theorem DA {l:List Ext} (h:eg l) (hn:l.length≤6):qw l=some (eqT l):=by
 unfold qw
 have key:Loop (iH l ((l.length:Nat):Int)) ([e1],0)=some (eqT l,(l.length:Int),false):=
  am (fun k=>(eqT (l.take k),(k:Int))) l.length (fun k hk=>by
   have hl:=Jc (l.take k)
   have hb:=Uq (l.take k).length (by rw [List.length_take];omega)
   simp only [iH]
   rw [brd (by omega),bQ hk,Option.bind_some,a6u (UT _) (h.get hk) (by omega),Option.bind_some]
   dsimp only
   rw [ak (by simp only [List.length_append,List.length_map];omega),aa _ (by omega) (by omega),cp hk,Tk]
   rfl) (by
   simp only [iH]
   rw [brn (by omega),decide_eq_false (by omega),List.take_length])
 rw [DV,Option.bind_some,key];rfl
def eqU (out:List Ext) (p:Ext) (k:Nat) (l:List Ext):List Ext:=(l.set k (eM (out.getD k e0) (eS e1 p))).set (k+out.length) (eM (out.getD k e0) p)
theorem Wq {f:Nat→List Ext→List Ext} (hf: ∀k l,(f k l).length=l.length): ∀(k:Nat) (l:List Ext),(iU f k l).length=l.length
 |0,l=>rfl
 |k+1,l=>by rw [iU,hf,Wq hf k l]
theorem Df (out:List Ext) (p:Ext) (k:Nat) (l:List Ext):(iU (eqU out p) k l).length=l.length:=Wq (fun _ _=>by simp [eqU]) k l
theorem Wg (out:List Ext) (p:Ext) (l:List Ext) (hl:l.length=2*out.length): ∀k,k≤out.length→ ∀j (hj:j<(iU (eqU out p) k l).length),(iU (eqU out p) k l)[j]=
 if j<k then eM (out.getD j e0) (eS e1 p) else if out.length≤j∧j<out.length+k then eM (out.getD (j-out.length) e0) p else l[j]'(by rw [Df] at hj;exact hj)
 |0,_,j,hj=>by
  rw [if_neg (by omega),if_neg (by omega)];rfl
 |k+1,hk,j,hj=>by
  have ih:=Wg out p l hl k (by omega) j (by rw [Df] at hj ⊢;exact hj)
  simp only [iU,eqU,List.getElem_set]
  by_cases h1:k+out.length=j
  ·rw [if_pos h1,if_neg (by omega),if_pos (by omega),show j-out.length=k by omega]
  ·rw [if_neg h1]
   by_cases h2:k=j
   ·rw [if_pos h2,if_pos (by omega),h2]
   ·rw [if_neg h2,ih]
    by_cases h3:j<k
    ·rw [if_pos h3,if_pos (by omega)]
    ·by_cases h4:out.length≤j∧j<out.length+k
     ·rw [if_neg h3,if_pos h4,if_neg (by omega),if_pos (by omega)]
     ·rw [if_neg h3,if_neg h4,if_neg (by omega),if_neg (by omega)]
theorem a3h (out:List Ext) (p:Ext) (l:List Ext) (hl:l.length=2*out.length):iU (eqU out p) out.length l=eqS out p:=by
 apply List.ext_getElem (by rw [Df,Wz,hl])
 intro j h1 h2
 rw [Wg out p l hl out.length (Nat.le_refl _) j h1]
 rw [Df,hl] at h1
 simp only [eqS]
 by_cases h3:j<out.length
 ·rw [if_pos h3,List.getElem_append_left (by simpa using h3),List.getElem_map];simp [h3]
 ·rw [if_neg h3,if_pos (by omega),List.getElem_append_right (by simp;omega),List.getElem_map]
  have:j-out.length<out.length:=by omega
  simp [this]
theorem WJ {l:List Ext} {k:Nat} (h:k<l.length):atL l (k:Int)=some (l.getD k e0):=by simp [atL,h]
theorem eg.getD {l:List Ext} (h:eg l) (k:Nat):okE (l.getD k e0):=by
 by_cases hk:k<l.length
 ·simp [hk];exact h.get hk
 ·simp [List.getElem?_eq_none (Nat.le_of_not_lt hk)];exact a4f
theorem a3Y {β:Type} {l:List Ext} {i:Nat} {f:Ext→Option β} (h:i<l.length):(l[i]?).bind f=f (l.getD i e0):=by simp [h]
theorem a7x {pt out l:List Ext} {i:Nat} (ho:eg out) (hp:eg pt) (hi:i<pt.length) (hl:l.length=2*out.length) (hn:out.length≤1000000000):
 Loop (lO pt out i) (l,0)=some (eqS out (pt.getD i e0),(out.length:Int),false):=by
 rw [←a3h out (pt.getD i e0) l hl]
 exact am (fun k=>(iU (eqU out (pt.getD i e0)) k l,(k:Int))) out.length (fun k hk=>by
  have h1:=Df out (pt.getD i e0) k l
  simp only [lO]
  rw [brd (by omega),WJ hk,Option.bind_some,WJ hi,Option.bind_some,Gu (hp.getD _),Option.bind_some,du (ho.getD _) (pd _ _),Option.bind_some,brd (by omega),brd (by omega),a3Y (by omega),
   Option.bind_some,Option.bind_some,du (ho.getD _) (hp.getD _),Option.bind_some,aa _ (by omega) (by omega),brd (by omega),brd (by omega),a3Y (by rw [List.length_set];omega),aa _ (by omega) (by omega)]
  rw [show ((k:Int)+(out.length:Int)).toNat=k+out.length by omega,Int.toNat_natCast]
  rfl) (by
  simp only [lO]
  rw [brn (by omega),decide_eq_false (by omega)])
theorem Pu {l:List Ext} (h:eg l) (hn:l.length≤6):Dn l=some (eqT l):=by
 unfold Dn
 have key:Loop (lF l) ([e1],0)=some (eqT l,(l.length:Int),false):=
  am (fun k=>(eqT (l.take k),(k:Int))) l.length (fun k hk=>by
   have hl:=Jc (l.take k)
   have hb:=Uq (l.take k).length (by rw [List.length_take];omega)
   simp only [lF]
   rw [brd (by omega),aa _ (by omega) (by omega),WD (by omega) (by omega) (by omega),a7x (UT _) h hk (by rw [List.length_replicate];omega) (by omega),Option.bind_some,aa _ (by omega) (by omega),cp hk,Tk]
   simp [hk]) (by
   simp only [lF]
   rw [brn (by omega),decide_eq_false (by omega),List.take_length])
 rw [Ka,Option.bind_some,key];rfl
end Go.AI.Fn
set_option linter.unusedVariables false
set_option linter.unusedSimpArgs false
namespace Go.AI.Fn
abbrev K:={x:Ext//okE x}
def K.n (i:Int):K:=⟨eN (i%2130706433),X7 (ib _)⟩
instance a7G:Add K:=⟨fun a b=>⟨eA a.1 b.1,OU _ _⟩⟩
instance a79:Mul K:=⟨fun a b=>⟨eM a.1 b.1,ox _ _⟩⟩
instance a6k:Sub K:=⟨fun a b=>⟨eS a.1 b.1,pd _ _⟩⟩
instance a7C:Neg K:=⟨fun a=>⟨eS e0 a.1,pd _ _⟩⟩
instance a2R:NatCast K:=⟨fun n=>K.n n⟩
instance a2Q:IntCast K:=⟨fun n=>K.n n⟩
instance a55 (n:Nat):OfNat K n:=⟨K.n n⟩
def K.pow (a:K):Nat→K
 |0=>K.n 1
 |n+1=>K.pow a n*a
instance a6f:HPow K Nat K:=⟨K.pow⟩
theorem K.ext {a b:K} (h:a.1=b.1):a=b:=Subtype.ext h
theorem K.mul_val (a b:K):(a*b).1=eM a.1 b.1:=rfl
theorem K.n_mul (i j:Int):K.n (i*j)=K.n i*K.n j:=K.ext (zy (by
 show (i*j)%2130706433=((i%2130706433)*(j%2130706433)+3*(0*0))%2130706433
 rw [show (3:Int)*(0*0)=0 from rfl,Int.add_zero, ←Int.mul_emod]) (by
 show (0:Int)=((i%2130706433)*0+0*(j%2130706433))%2130706433
 rw [Int.mul_zero,Int.zero_mul];rfl))
instance a3n:NeZero 2130706433:=⟨by decide⟩
abbrev FP:=Fin 2130706433
def K.a (x:K):FP:=⟨x.1.A.toNat,by have h:=x.2.1;unfold okF at h;omega⟩
def K.b (x:K):FP:=⟨x.1.B.toNat,by have h:=x.2.2;unfold okF at h;omega⟩
theorem K.A_nat (x:K): ∃n:Nat,x.1.A=(n:Int)∧n<2130706433∧(K.a x).val=n:=⟨x.1.A.toNat,by have h:=x.2.1;unfold okF at h;omega,(K.a x).isLt,rfl⟩
theorem K.B_nat (x:K): ∃n:Nat,x.1.B=(n:Int)∧n<2130706433∧(K.b x).val=n:=⟨x.1.B.toNat,by have h:=x.2.2;unfold okF at h;omega,(K.b x).isLt,rfl⟩
theorem K.eqv {x y:K}:x=y↔K.a x=K.a y∧K.b x=K.b y:=⟨fun h=>by rw [h];exact ⟨rfl,rfl⟩,fun h=>by
 obtain ⟨n,h1,_,h2⟩:=K.A_nat x
 obtain ⟨m,h3,_,h4⟩:=K.A_nat y
 obtain ⟨i,h5,_,h6⟩:=K.B_nat x
 obtain ⟨j,h7,_,h8⟩:=K.B_nat y
 have e1:=congrArg Fin.val h.1
 have e2:=congrArg Fin.val h.2
 exact K.ext (zy (by omega) (by omega))⟩
theorem K.ad_a (x y:K):K.a (x+y)=K.a x+K.a y:=Fin.ext (by
 obtain ⟨n,h1,_,h2⟩:=K.A_nat x
 obtain ⟨m,h3,_,h4⟩:=K.A_nat y
 rw [Fin.val_add,h2,h4]
 show ((x.1.A+y.1.A)%2130706433).toNat=_
 omega)
theorem K.ad_b (x y:K):K.b (x+y)=K.b x+K.b y:=Fin.ext (by
 obtain ⟨n,h1,_,h2⟩:=K.B_nat x
 obtain ⟨m,h3,_,h4⟩:=K.B_nat y
 rw [Fin.val_add,h2,h4]
 show ((x.1.B+y.1.B)%2130706433).toNat=_
 omega)
theorem K.su_a (x y:K):K.a (x-y)=K.a x-K.a y:=Fin.ext (by
 obtain ⟨n,h1,_,h2⟩:=K.A_nat x
 obtain ⟨m,h3,_,h4⟩:=K.A_nat y
 rw [Fin.sub_def]
 show ((x.1.A-y.1.A)%2130706433).toNat=(2130706433-(K.a y).val+(K.a x).val)%2130706433
 omega)
theorem K.su_b (x y:K):K.b (x-y)=K.b x-K.b y:=Fin.ext (by
 obtain ⟨n,h1,_,h2⟩:=K.B_nat x
 obtain ⟨m,h3,_,h4⟩:=K.B_nat y
 rw [Fin.sub_def]
 show ((x.1.B-y.1.B)%2130706433).toNat=(2130706433-(K.b y).val+(K.b x).val)%2130706433
 omega)
theorem K.n0_a:K.a 0=0:=rfl
theorem K.n0_b:K.b 0=0:=rfl
theorem K.n1_a:K.a 1=1:=rfl
theorem K.n1_b:K.b 1=0:=rfl
theorem K.n2_a:K.a 2=2:=rfl
theorem K.n2_b:K.b 2=0:=rfl
theorem K.n3_a:K.a 3=3:=rfl
theorem K.n3_b:K.b 3=0:=rfl
theorem K.ne_sub (x:K): -x=0-x:=rfl
theorem K.mu_a (x y:K):K.a (x*y)=K.a x*K.a y+3*(K.b x*K.b y):=Fin.ext (by
 obtain ⟨n,h1,_,h2⟩:=K.A_nat x
 obtain ⟨m,h3,_,h4⟩:=K.A_nat y
 obtain ⟨i,h5,_,h6⟩:=K.B_nat x
 obtain ⟨j,h7,_,h8⟩:=K.B_nat y
 rw [Fin.val_add,Fin.val_mul,Fin.val_mul,Fin.val_mul,h2,h4,h6,h8,show (3:FP).val=3 from rfl]
 show ((x.1.A*y.1.A+3*(x.1.B*y.1.B))%2130706433).toNat=_
 rw [h1,h3,h5,h7, ←Int.natCast_mul, ←Int.natCast_mul]
 generalize n*m=u
 generalize i*j=v
 omega)
theorem K.mu_b (x y:K):K.b (x*y)=K.a x*K.b y+K.b x*K.a y:=Fin.ext (by
 obtain ⟨n,h1,_,h2⟩:=K.A_nat x
 obtain ⟨m,h3,_,h4⟩:=K.A_nat y
 obtain ⟨i,h5,_,h6⟩:=K.B_nat x
 obtain ⟨j,h7,_,h8⟩:=K.B_nat y
 rw [Fin.val_add,Fin.val_mul,Fin.val_mul,h2,h4,h6,h8]
 show ((x.1.A*y.1.B+x.1.B*y.1.A)%2130706433).toNat=_
 rw [h1,h3,h5,h7, ←Int.natCast_mul, ←Int.natCast_mul]
 generalize n*j=u
 generalize i*m=v
 omega)
theorem kg {p:Prop} (h:p:=by (simp only [K.ne_sub,K.eqv,K.ad_a,K.ad_b,K.su_a,K.su_b,K.mu_a,K.mu_b,K.n0_a,K.n0_b,K.n1_a,K.n1_b,K.n2_a,K.n2_b,K.n3_a,K.n3_b] at* <;>first|grind only|grind)):p:=h
def kF (a:Int):K:=K.n a
theorem uR {a:Int} (h:okF a):(kF a).1=eN a:=by show eN (a%2130706433)=eN a;rw [zA h]
theorem GL (a b:Int):kF (mF a b)=kF a*kF b:=by
 rw [kF,kF,kF, ←K.n_mul]
 exact K.ext (by show eN ((a*b)%2130706433%2130706433)=eN ((a*b)%2130706433);rw [Int.emod_emod])
def kv (l:List K):List Ext:=l.map (·.1)
theorem al (l:List K):(kv l).length=l.length:=by simp [kv]
theorem yz (l:List K):eg (kv l):=eg.map l fun x _=>x.2
theorem Xf {L:List Ext} (h:eg L): ∃l,L=kv l:=by
 induction L with
 |nil=>exact ⟨[],rfl⟩
 |cons x L ih=>
  obtain ⟨l,rfl⟩:=ih fun y hy=>h y (by simp [hy])
  exact ⟨⟨x,h x (by simp)⟩::l,rfl⟩
theorem a0j {l:List K} {j:Nat} (h:j<l.length):(kv l)[j]'(by rw [al];exact h)=(l.getD j 0).1:=by simp [kv,h]
theorem dL {l:List K} {j:Nat} (h:j<l.length):atL (kv l) (j:Int)=some (l.getD j 0).1:=by rw [bQ (by rw [al];exact h),a0j h]
theorem Ao {l:List K} {j:Nat} (h:j<l.length):(kv l)[j]? =some (l.getD j 0).1:=by rw [vd (by rw [al];exact h),a0j h]
end Go.AI.Fn
set_option linter.unusedVariables false
set_option linter.unusedSimpArgs false
namespace Go.AI.Fn
theorem pw0 (x:K):x^0=1:=rfl
theorem pwS (x:K) (n:Nat):x^(n+1)=x^n*x:=rfl
theorem pw1 (x:K):x^1=x:=by rw [pwS,pw0];exact kg
theorem Ll (x:K) (m:Nat): ∀n,x^(m+n)=x^m*x^n
 |0=>by rw [Nat.add_zero,pw0];exact kg
 |n+1=>by rw [←Nat.add_assoc,pwS,pwS,Ll x m n];exact kg
theorem zn (x:K) (m:Nat): ∀n,x^(m*n)=(x^m)^n
 |0=>by rw [Nat.mul_zero,pw0,pw0]
 |n+1=>by rw [Nat.mul_succ,Ll,pwS,zn x m n]
theorem Qc: ∀n:Nat,(1:K)^n=1
 |0=>rfl
 |n+1=>by rw [pwS,Qc n];exact kg
theorem UX (x y:K): ∀n:Nat,(x*y)^n=x^n*y^n
 |0=>by rw [pw0,pw0,pw0];exact kg
 |n+1=>by rw [pwS,pwS,pwS,UX x y n];exact kg
theorem SQ (x:K) (n:Nat):(x*x)^n=x^n*x^n:=UX x x n
theorem Ln (x:K) (n:Nat):x^(2*n)=x^n*x^n:=by rw [Nat.two_mul,Ll]
theorem a2C (x:K) (m n:Nat):(x^m)^n=(x^n)^m:=by rw [←zn,Nat.mul_comm,zn]
def evs:List K→List K
 |a::_::l=>a::evs l
 |[a]=>[a]
 |[]=>[]
def ods:List K→List K
 |_::b::l=>b::ods l
 |_=>[]
theorem im: ∀(l:List K) (j:Nat),(evs l).getD j 0=l.getD (2*j) 0
 |[],j=>by simp [evs]
 |[a],0=>rfl
 |[a],j+1=>by simp [evs]
 |a::b::l,0=>rfl
 |a::b::l,j+1=>by rw [show 2*(j+1)=2*j+1+1 by omega];exact im l j
theorem j6: ∀(l:List K) (j:Nat),(ods l).getD j 0=l.getD (2*j+1) 0
 |[],j=>by simp [ods]
 |[a],j=>by simp [ods]
 |a::b::l,0=>rfl
 |a::b::l,j+1=>by rw [show 2*(j+1)+1=2*j+1+1+1 by omega];exact j6 l j
theorem fA: ∀(l:List K) (m:Nat),l.length=2*m→(evs l).length=m
 |[],m,h=>by simp at h;simp [evs];omega
 |[a],m,h=>by simp at h;omega
 |a::b::l,0,h=>by simp at h
 |a::b::l,m+1,h=>by simp only [evs,List.length_cons];rw [fA l m (by simp only [List.length_cons] at h;omega)]
theorem fP: ∀(l:List K) (m:Nat),l.length=2*m→(ods l).length=m
 |[],m,h=>by simp at h;simp [ods];omega
 |[a],m,h=>by simp at h;omega
 |a::b::l,0,h=>by simp at h
 |a::b::l,m+1,h=>by simp only [ods,List.length_cons];rw [fP l m (by simp only [List.length_cons] at h;omega)]
theorem fm {a b:List K} (hl:a.length=b.length) (h: ∀j,j<a.length→a.getD j 0=b.getD j 0):a=b:=by
 refine List.ext_getElem hl fun j h1 h2=> ?_
 have:=h j h1
 simpa [h1,h2] using this
theorem a6X {a b:List K} {j:Nat} (h:j<a.length):(a++b).getD j 0=a.getD j 0:=by simp [List.getElem?_append_left h]
theorem a76 {a b:List K} {j:Nat}:(a++b).getD (a.length+j) 0=b.getD j 0:=by simp [List.getElem?_append_right]
theorem a25 (n j:Nat):(List.replicate n (0:K)).getD j 0=0:=by
 by_cases h:j<n<;>simp [h]
theorem o0 {f:Nat→K} {h j:Nat} (hj:j<h):((List.range h).map f).getD j 0=f j:=by simp [hj]
def R7 (E O:List K) (w:K) (h:Nat):List K:=(List.range h).map fun j=>E.getD j 0+O.getD j 0*w^j
def P8 (E O:List K) (w:K) (h:Nat):List K:=(List.range h).map fun j=>E.getD j 0-O.getD j 0*w^j
theorem KV (E O:List K) (w:K) (h:Nat):(R7 E O w h).length=h:=by simp [R7]
theorem a03 (E O:List K) (w:K) (h:Nat):(P8 E O w h).length=h:=by simp [P8]
def V:Nat→List K→K→List K
 |0,l,_=>l
 |k+1,l,w=>R7 (V k (evs l) (w*w)) (V k (ods l) (w*w)) w (2^k)++P8 (V k (evs l) (w*w)) (V k (ods l) (w*w)) w (2^k)
theorem rp: ∀(k:Nat) (l:List K) (w:K),l.length=2^k→(V k l w).length=2^k
 |0,l,w,h=>h
 |k+1,l,w,h=>by rw [V,List.length_append,KV,a03,Nat.pow_succ];omega
theorem a1p {k:Nat} {l:List K} {w:K} {j:Nat} (hj:j<2^k):(V (k+1) l w).getD j 0=(V k (evs l) (w*w)).getD j 0+(V k (ods l) (w*w)).getD j 0*w^j:=by
 rw [V,a6X (by rw [KV];exact hj),R7,o0 hj]
theorem a1B {k:Nat} {l:List K} {w:K} {j:Nat} (hj:j<2^k):(V (k+1) l w).getD (2^k+j) 0=(V k (evs l) (w*w)).getD j 0-(V k (ods l) (w*w)).getD j 0*w^j:=by
 have e:=a76 (a:=R7 (V k (evs l) (w*w)) (V k (ods l) (w*w)) w (2^k)) (b:=P8 (V k (evs l) (w*w)) (V k (ods l) (w*w)) w (2^k)) (j:=j)
 rw [KV] at e
 rw [V,e,P8,o0 hj]
theorem yF {l:List K} {k:Nat} (h:l.length=2^(k+1)):(evs l).length=2^k:=fA l _ (by rw [h,Nat.pow_succ];omega)
theorem Ab {l:List K} {k:Nat} (h:l.length=2^(k+1)):(ods l).length=2^k:=fP l _ (by rw [h,Nat.pow_succ];omega)
def cb (r:K) (a b:List K):List K:=List.zipWith (fun x y=>x+r*y) a b
theorem iT {r:K} {a b:List K} (h:a.length=b.length):(cb r a b).length=a.length:=by simp [cb,h]
theorem gR {r:K}: ∀{a b:List K} (h:a.length=b.length) (j:Nat),(cb r a b).getD j 0=a.getD j 0+r*b.getD j 0
 |[],[],_,j=>by simp [cb];exact kg
 |x::a,y::b,h,0=>by simp [cb]
 |x::a,y::b,h,j+1=>by
  have:=gR (r:=r) (a:=a) (b:=b) (by simpa using h) j
  simpa [cb] using this
theorem a4y {r:K} {a b:List K} {n:Nat} (h:a.length=2*n) (g:b.length=2*n):evs (cb r a b)=cb r (evs a) (evs b):=by
 have h1:=fA a n h
 have h2:=fA b n g
 have h3:=fA (cb r a b) n (by rw [iT (by omega),h])
 refine fm (by rw [iT (by omega)];omega) fun j hj=> ?_
 rw [im,gR (by omega),gR (by omega),im,im]
theorem a5y {r:K} {a b:List K} {n:Nat} (h:a.length=2*n) (g:b.length=2*n):ods (cb r a b)=cb r (ods a) (ods b):=by
 have h1:=fP a n h
 have h2:=fP b n g
 have h3:=fP (cb r a b) n (by rw [iT (by omega),h])
 refine fm (by rw [iT (by omega)];omega) fun j hj=> ?_
 rw [j6,gR (by omega),gR (by omega),j6,j6]
theorem ZG {r:K}: ∀(k:Nat) (a b:List K) (w:K),a.length=2^k→b.length=2^k→V k (cb r a b) w=cb r (V k a w) (V k b w)
 |0,a,b,w,_,_=>rfl
 |k+1,a,b,w,ha,hb=>by
  have hc:(cb r a b).length=2^(k+1):=by rw [iT (by omega),ha]
  have h1:=rp (k+1) a w ha
  have h2:=rp (k+1) b w hb
  have ea:=rp k (evs a) (w*w) (yF ha)
  have eb:=rp k (evs b) (w*w) (yF hb)
  have oa:=rp k (ods a) (w*w) (Ab ha)
  have ob:=rp k (ods b) (w*w) (Ab hb)
  refine fm (by rw [iT (by omega),rp _ _ _ hc,h1]) fun j hj=> ?_
  rw [rp _ _ _ hc,Nat.pow_succ] at hj
  rw [gR (by omega)]
  have e1:evs (cb r a b)=cb r (evs a) (evs b):=a4y (n:=2^k) (by rw [ha,Nat.pow_succ];omega) (by rw [hb,Nat.pow_succ];omega)
  have e2:ods (cb r a b)=cb r (ods a) (ods b):=a5y (n:=2^k) (by rw [ha,Nat.pow_succ];omega) (by rw [hb,Nat.pow_succ];omega)
  by_cases c:j<2^k
  ·rw [a1p c,a1p c,a1p c,e1,e2,ZG k _ _ _ (yF ha) (yF hb),ZG k _ _ _ (Ab ha) (Ab hb),gR (by omega),gR (by omega)]
   exact kg
  ·obtain ⟨i,rfl⟩: ∃i,j=2^k+i:=⟨j-2^k,by omega⟩
   have hi:i<2^k:=by omega
   rw [a1B hi,a1B hi,a1B hi,e1,e2,ZG k _ _ _ (yF ha) (yF hb),ZG k _ _ _ (Ab ha) (Ab hb),gR (by omega),gR (by omega)]
   exact kg
def ev:List K→K→K
 |[],_=>0
 |a::l,x=>a+x*ev l x
theorem Lx: ∀(l:List K) (x:K),ev l x=ev (evs l) (x*x)+x*ev (ods l) (x*x)
 |[],x=>by simp only [ev,evs,ods];exact kg
 |[a],x=>by simp only [ev,evs,ods];exact kg
 |a::b::l,x=>by
  have:=Lx l x
  simp only [ev,evs,ods];exact kg
theorem YY: ∀(a b:List K) (x:K),ev (a++b) x=ev a x+x^a.length*ev b x
 |[],b,x=>by simp only [List.nil_append,ev,List.length_nil,pw0];exact kg
 |y::a,b,x=>by
  have:=YY a b x
  simp only [List.cons_append,ev,List.length_cons,pwS];exact kg
def Rt:Nat→K→Prop
 |0,_=>True
 |k+1,w=>w^2^k= -1
theorem Rt.sq {k:Nat} {w:K} (h:Rt (k+1) w):Rt k (w*w):=by
 cases k with
 |zero=>trivial
 |succ k=>
  show (w*w)^2^k= -1
  rw [SQ, ←Ll,show 2^k+2^k=2^(k+1) by rw [Nat.pow_succ];omega];exact h
theorem a6b: ∀(k:Nat) (l:List K) (w:K),l.length=2^k→Rt k w→ ∀j,j<2^k→(V k l w).getD j 0=ev l (w^j)
 |0,[a],w,_,_,0,_=>by
  show a=a+w^0*0
  exact kg
 |k+1,l,w,hl,hw,j,hj=>by
  have ih1:=a6b k (evs l) (w*w) (yF hl) hw.sq
  have ih2:=a6b k (ods l) (w*w) (Ab hl) hw.sq
  rw [Nat.pow_succ] at hj
  by_cases c:j<2^k
  ·rw [a1p c,ih1 j c,ih2 j c,Lx l,SQ];exact kg
  ·obtain ⟨i,rfl⟩: ∃i,j=2^k+i:=⟨j-2^k,by omega⟩
   have hi:i<2^k:=by omega
   have hq:w^(2^k+i)= -(w^i):=by rw [Ll,show w^2^k= -1 from hw];exact kg
   rw [a1B hi,ih1 i hi,ih2 i hi,Lx l,hq,SQ,show-w^i* -w^i=w^i*w^i by exact kg];exact kg
def sc (c:K) (l:List K):List K:=l.map fun a=>c*a
theorem a4T (c:K) (l:List K) (j:Nat):(sc c l).getD j 0=c*l.getD j 0:=by
 by_cases h:j<l.length
 ·simp [sc,h]
 ·simp [sc,h];exact kg
end Go.AI.Fn
set_option linter.unusedVariables false
set_option linter.unusedSimpArgs false
namespace Go.AI.Fn
def iR:Nat→(Nat→K)→K
 |0,_=>0
 |n+1,f=>iR n f+f n
theorem sw {f g:Nat→K}: ∀n,(∀k,k<n→f k=g k)→iR n f=iR n g
 |0,_=>rfl
 |n+1,h=>by rw [iR,iR,sw n fun k hk=>h k (by omega),h n (by omega)]
theorem S0 (f:Nat→K): ∀n,iR (2*n) f=iR n (fun k=>f (2*k))+iR n (fun k=>f (2*k+1))
 |0=>by show (0:K)=0+0;exact kg
 |n+1=>by
  have:=S0 f n
  rw [show 2*(n+1)=2*n+1+1 by omega,iR,iR,this,iR,iR];exact kg
def fdK (r:K):List K→List K
 |a::b::l=>(a+r*(b-a))::fdK r l
 |_=>[]
theorem tM (r:K): ∀(l:List K) (m:Nat),l.length=2*m→(fdK r l).length=m
 |[],m,h=>by simp at h;simp [fdK];omega
 |[a],m,h=>by simp at h;omega
 |a::b::l,0,h=>by simp at h
 |a::b::l,m+1,h=>by simp only [fdK,List.length_cons];rw [tM r l m (by simp only [List.length_cons] at h;omega)]
theorem wj (r:K): ∀(l:List K) (m j:Nat),l.length=2*m→(fdK r l).getD j 0=l.getD (2*j) 0+r*(l.getD (2*j+1) 0-l.getD (2*j) 0)
 |[],m,j,h=>by simp [fdK];exact kg
 |[a],m,j,h=>by simp at h;omega
 |a::b::l,0,j,h=>by simp at h
 |a::b::l,m+1,0,h=>rfl
 |a::b::l,m+1,j+1,h=>by
  rw [show 2*(j+1)=2*j+1+1 by omega]
  exact wj r l m j (by simp only [List.length_cons] at h;omega)
def cmK (kind:Nat) (v:List K):K:=if kind=1 then v.getD 0 0*v.getD 1 0 else v.getD 0 0*(v.getD 1 0*v.getD 2 0-v.getD 3 0)
def jY (T:List (List K)) (k:Nat):List K:=T.map fun t=>t.getD k 0
def oX (kind:Nat) (T:List (List K)) (n:Nat):K:=iR n fun k=>cmK kind (jY T k)
def bdK (r:K) (T:List (List K)):List (List K):=T.map (fdK r)
theorem Ae (T:List (List K)) (k i:Nat):(jY T k).getD i 0=(T.getD i []).getD k 0:=by
 by_cases h:i<T.length
 ·simp [jY,h]
 ·simp [jY,h]
theorem Ji (r:K) (T:List (List K)) (i:Nat):(bdK r T).getD i []=fdK r (T.getD i []):=by
 by_cases h:i<T.length
 ·simp [bdK,h]
 ·simp [bdK,h,fdK]
theorem a43 (a b c d:Nat→K): ∀n, ∃p q s:K, ∀x,iR n (fun k=>(a k+x*b k)*(c k+x*d k))=p+x*(q+x*s)
 |0=>⟨0,0,0,fun x=>by show (0:K)=_;exact kg⟩
 |n+1=>by
  obtain ⟨p,q,s,h⟩:=a43 a b c d n
  exact ⟨p+a n*c n,q+(a n*d n+b n*c n),s+b n*d n,fun x=>by rw [iR,h];clear h;exact kg⟩
theorem a3W (a b c d e f g h:Nat→K): ∀n, ∃p q s t:K, ∀x,iR n (fun k=>(a k+x*b k)*((c k+x*d k)*(e k+x*f k)-(g k+x*h k)))=p+x*(q+x*(s+x*t))
 |0=>⟨0,0,0,0,fun x=>by show (0:K)=_;exact kg⟩
 |n+1=>by
  obtain ⟨p,q,s,t,hh⟩:=a3W a b c d e f g h n
  exact ⟨p+a n*(c n*e n-g n),q+(a n*(c n*f n+d n*e n-h n)+b n*(c n*e n-g n)),s+(a n*(d n*f n)+b n*(c n*f n+d n*e n-h n)),t+b n*(d n*f n),fun x=>by rw [iR,hh];clear hh;exact kg⟩
theorem Vx {kind:Nat} {T:List (List K)} {n:Nat} (hk:kind=1∨kind=2) (hT: ∀i,i<4→(T.getD i []).length=2*n∨T.getD i []=[]):
 ∃p q s t:K,(kind=1→t=0)∧ ∀x,oX kind (bdK x T) n=p+x*(q+x*(s+x*t)):=by
 have hg: ∀x i k,i<4→(jY (bdK x T) k).getD i 0=(T.getD i []).getD (2*k) 0+x*((T.getD i []).getD (2*k+1) 0-(T.getD i []).getD (2*k) 0):=by
  intro x i k hi
  rw [Ae,Ji]
  rcases hT i hi with h|h
  ·exact wj x _ n k h
  ·rw [h];exact wj x [] 0 k rfl
 rcases hk with rfl|rfl
 ·obtain ⟨p,q,s,h⟩:=a43 (fun k=>(T.getD 0 []).getD (2*k) 0) (fun k=>(T.getD 0 []).getD (2*k+1) 0-(T.getD 0 []).getD (2*k) 0) (fun k=>(T.getD 1 []).getD (2*k) 0) (fun k=>(T.getD 1 []).getD (2*k+1) 0-(T.getD 1 []).getD (2*k) 0) n
  refine ⟨p,q,s,0,fun _=>rfl,fun x=> ?_⟩
  rw [oX,sw n (g:=fun k=>((T.getD 0 []).getD (2*k) 0+x*((T.getD 0 []).getD (2*k+1) 0-(T.getD 0 []).getD (2*k) 0))*((T.getD 1 []).getD (2*k) 0+x*((T.getD 1 []).getD (2*k+1) 0-(T.getD 1 []).getD (2*k) 0))) fun k _=>by rw [cmK,if_pos rfl,hg x 0 k (by omega),hg x 1 k (by omega)],h]
  clear h;exact kg
 ·obtain ⟨p,q,s,t,h⟩:=a3W (fun k=>(T.getD 0 []).getD (2*k) 0) (fun k=>(T.getD 0 []).getD (2*k+1) 0-(T.getD 0 []).getD (2*k) 0) (fun k=>(T.getD 1 []).getD (2*k) 0) (fun k=>(T.getD 1 []).getD (2*k+1) 0-(T.getD 1 []).getD (2*k) 0)
   (fun k=>(T.getD 2 []).getD (2*k) 0) (fun k=>(T.getD 2 []).getD (2*k+1) 0-(T.getD 2 []).getD (2*k) 0) (fun k=>(T.getD 3 []).getD (2*k) 0) (fun k=>(T.getD 3 []).getD (2*k+1) 0-(T.getD 3 []).getD (2*k) 0) n
  refine ⟨p,q,s,t,fun h=>absurd h (by decide),fun x=> ?_⟩
  rw [←h,oX]
  exact sw n fun k _=>by rw [cmK,if_neg (by decide),hg x 0 k (by omega),hg x 1 k (by omega),hg x 2 k (by omega),hg x 3 k (by omega)]
theorem XL {kind:Nat} {T:List (List K)} {n:Nat} (hT: ∀i,i<4→(T.getD i []).length=2*n∨T.getD i []=[]):oX kind T (2*n)=oX kind (bdK 0 T) n+oX kind (bdK 1 T) n:=by
 have hg: ∀x i k,i<4→(jY (bdK x T) k).getD i 0=(T.getD i []).getD (2*k) 0+x*((T.getD i []).getD (2*k+1) 0-(T.getD i []).getD (2*k) 0):=by
  intro x i k hi
  rw [Ae,Ji]
  rcases hT i hi with h|h
  ·exact wj x _ n k h
  ·rw [h];exact wj x [] 0 k rfl
 have h0: ∀i k,i<4→(jY (bdK 0 T) k).getD i 0=(jY T (2*k)).getD i 0:=fun i k hi=>by rw [hg 0 i k hi,Ae];exact kg
 have h1: ∀i k,i<4→(jY (bdK 1 T) k).getD i 0=(jY T (2*k+1)).getD i 0:=fun i k hi=>by rw [hg 1 i k hi,Ae];exact kg
 have c0: ∀k,cmK kind (jY (bdK 0 T) k)=cmK kind (jY T (2*k)):=fun k=>by simp only [cmK,h0 0 k (by omega),h0 1 k (by omega),h0 2 k (by omega),h0 3 k (by omega)]
 have c1: ∀k,cmK kind (jY (bdK 1 T) k)=cmK kind (jY T (2*k+1)):=fun k=>by simp only [cmK,h1 0 k (by omega),h1 1 k (by omega),h1 2 k (by omega),h1 3 k (by omega)]
 unfold oX
 rw [S0,sw n fun k _=>(c0 k).symm,sw n fun k _=>(c1 k).symm]
end Go.AI.Fn
set_option linter.unusedVariables false
set_option linter.unusedSimpArgs false
namespace Go.AI.Fn
end Go.AI.Fn
set_option linter.unusedVariables false
namespace Go.AI.Fn
def ltE (y x:BC):Prop:=y.Row<x.Row∨(y.Row=x.Row∧y.Col<x.Col)
def inE (R C:Int) (x:BC):Prop:=(0≤x.Row∧x.Row≤R-1)∧(0≤x.Col∧x.Col≤C-1)∧1≤x.Value∧x.Value≤2130706432
def a7S (l:List BC) (R C:Int) (t:Nat):Prop:= ∃x,l[t]? =some x∧(¬inE R C x∨(0<t∧ ∃y,l[t-1]? =some y∧ ¬ltE y x))
open Classical in
noncomputable def a5w (l:List BC) (R C:Int):Bool:=decide (l.length≤200∧ ∀t, ¬a7S l R C t)
theorem a6F (n a b:Int):we n a b=some (decide (a≤n∧n≤b)):=by
 unfold we
 by_cases h:a≤n
 ·rw [brd h];simp [h]
 ·rw [brn h];simp [h]
theorem a6Q (n a b:Int):gx n a b=some (decide (a≤n∧n≤b)):=by
 unfold gx
 by_cases h:a≤n
 ·rw [brd h];simp [h]
 ·rw [brn h];simp [h]
end Go.AI.Fn
set_option linter.unusedVariables false
namespace Go.AI.Fn
noncomputable def a8k (s:Vn):Bool:=
 decide (1≤s.Rows∧s.Rows≤5)&&(decide (2≤s.Cols∧s.Cols≤5)&&(decide (0≤s.Publics∧s.Publics≤bW .i64 1 (s.Cols-1)-1)&&
  (a5w s.A (bW .i64 1 s.Rows) (bW .i64 1 s.Cols)&&(a5w s.B (bW .i64 1 s.Rows) (bW .i64 1 s.Cols)&&a5w s.C (bW .i64 1 s.Rows) (bW .i64 1 s.Cols)))))
def setB (t:Setting):Bool:=decide (1≤t.Rate∧t.Rate≤3)&&(decide (1≤t.Queries∧t.Queries≤8)&&decide (0≤t.Grind∧t.Grind≤12))
theorem lY (t:Setting):gX t=some (setB t):=by
 unfold gX setB
 simp only [a6F,Option.bind_some]
 cases decide (1≤t.Rate∧t.Rate≤3)<;>cases decide (1≤t.Queries∧t.Queries≤8)<;>rfl
theorem ry (t:Setting):jq t=some (setB t):=by
 unfold jq setB
 simp only [a6Q,Option.bind_some]
 cases decide (1≤t.Rate∧t.Rate≤3)<;>cases decide (1≤t.Queries∧t.Queries≤8)<;>rfl
theorem mu {t:Setting} (h:setB t=true):(1≤t.Rate∧t.Rate≤3)∧(1≤t.Queries∧t.Queries≤8)∧0≤t.Grind∧t.Grind≤12:=by
 unfold setB at h
 simpa only [Bool.and_eq_true,decide_eq_true_eq] using h
end Go.AI.Fn
set_option linter.unusedVariables false
set_option linter.unusedSimpArgs false
namespace Go.AI.Fn
theorem XT {k:Nat} (h:k≤62):bW .i64 1 (k:Int)=((2^k:Nat):Int):=by
 have h2: ∀k:Nat,k<63→(2:Int)^k≤4611686018427387904∧0<(2:Int)^k:=by decide
 obtain ⟨h3,h4⟩:=h2 k (by omega)
 show IntKind.wrap .i64 (1*2^(min ((k:Int).toNat) 64))=_
 rw [Int.toNat_natCast,Nat.min_eq_left (by omega),Int.one_mul,aa _ (by omega) (by omega)]
 simp
end Go.AI.Fn
set_option linter.unusedVariables false
namespace Go.AI.Fn
theorem Qv {code:List UInt8} (h:code.length≤1048576): ∃t,oF code=some t∧(1≤t.Rate∧t.Rate≤2)∧(1≤t.Queries∧t.Queries≤3)∧0≤t.Grind∧t.Grind≤2:=by
 unfold oF ka
 obtain ⟨m,e1,s1⟩:=FU (show code.length≤1048600 by omega)
 rw [e1]
 simp only [Option.bind_some]
 obtain ⟨a,m1,f1,a0,a1,_,s2⟩:=kJ (n:=2) s1 (by decide)
 obtain ⟨b,m2,f2,b0,b1,_,s3⟩:=kJ (n:=3) s2 (by decide)
 obtain ⟨c,m3,f3,c0,c1,_,s4⟩:=kJ (n:=3) s3 (by decide)
 have:=a1 (by omega)
 have:=b1 (by omega)
 have:=c1 (by omega)
 rw [f1]
 simp only [Option.bind_some]
 rw [f2]
 simp only [Option.bind_some]
 rw [f3]
 simp only [Option.bind_some]
 rw [aa (1+a) (by omega) (by omega),aa (1+b) (by omega) (by omega)]
 exact ⟨_,rfl,by dsimp only;omega,by dsimp only;omega,by dsimp only;omega⟩
end Go.AI.Fn
set_option linter.unusedVariables false
set_option linter.unusedSimpArgs false
namespace Go.AI.Fn
theorem a2P: ∀k:Nat,k≤9→isP (2^k)=true:=by decide
theorem Uc {k:Nat} {most:Int} (h:k≤9) (hm:((2^k:Nat):Int)≤most):Yk ((2^k:Nat):Int) most=true:=by
 have:1≤2^k:=Nat.one_le_two_pow
 unfold Yk
 rw [decide_eq_true (by omega),decide_eq_true hm,Int.toNat_natCast,a2P k h];rfl
theorem Fw {l:List Ext} (hl:l.length≤1099511627776):lL l=some (Yk (l.length:Int) 64&&l.all pG):=by
 unfold lL
 rw [Qa (by decide),Option.bind_some,qW hl]
 cases Yk (l.length:Int) 64<;>rfl
theorem E4 {l:List Ext} (hl:l.length≤1099511627776):qz l=some (decide (l.length≤6)&&l.all pG):=by
 unfold qz
 rw [qW hl]
 by_cases h:l.length≤6
 ·rw [brd (by omega),decide_eq_true h];rfl
 ·rw [brn (by omega),decide_eq_false h];rfl
theorem Ry {t p:List Ext} (ht:eg t) (hp:eg p) (hn:p.length≤6) (hl:t.length=2^p.length):qP t p=some (Yv t (eqT p),0):=by
 have h6:=Uq p.length hn
 unfold qP
 rw [brn (by omega),brn (by omega),Fw (by omega),Option.bind_some,E4 (by omega),FL.2 ht,FL.2 hp,hl,Uc (by omega) (by omega),decide_eq_true hn]
 simp only [Bool.and_self,Bool.not_true,aj,Option.bind_some]
 rw [brd (by omega),XT (by omega),ff rfl,DA hp hn,Option.bind_some,a1q ht (UT _) (by rw [Jc];omega) (by omega),Option.bind_some]
end Go.AI.Fn
set_option linter.unusedVariables false
set_option linter.unusedSimpArgs false
namespace Go.AI.Fn
def kvv (T:List (List K)):List (List Ext):=T.map kv
theorem gu (T:List (List K)):(kvv T).length=T.length:=by simp [kvv]
theorem ut {T:List (List K)} {j:Nat} (h:j<T.length):atL (kvv T) (j:Int)=some (kv (T.getD j [])):=by rw [bQ (by rw [gu];exact h)];simp [kvv,h]
theorem RV (T:List (List K)) (t:List K):kvv (T++[t])=kvv T++[kv t]:=by simp [kvv]
theorem SK {r:K} {l:List K} {j:Nat} (m:Nat) (h:l.length=2*m) (hj:j<m):(fdK r l).take (j+1)=(fdK r l).take j++[l.getD (2*j) 0+r*(l.getD (2*j+1) 0-l.getD (2*j) 0)]:=by
 have hl:=tM r l m h
 rw [cp (by omega), ←wj r l m j h];simp [show j<(fdK r l).length by omega]
theorem kvS (l:List K) (x:K):kv (l++[x])=kv l++[x.1]:=by simp [kv]
theorem Kt {l:List K} {m:Nat} (r:K) (h:l.length=2*m) (hm:m≤1000):ot (kv l) r.1=some (kv (fdK r l)):=by
 have hl:=tM r l m h
 unfold ot
 have key:=am (step:=en (kv l) r.1.A r.1.B) (fun j=>(kv ((fdK r l).take j),((2*j:Nat):Int))) m (e:=(kv (fdK r l),(l.length:Int),false)) (fun j hj=> ?_) ?_
 ·have key':Loop (en (kv l) r.1.A r.1.B) ([],0)=_:=key
  rw [key'];rfl
 ·simp only [en]
  rw [brd (by rw [al];omega),dL (by omega),Option.bind_some,aa _ (by omega) (by omega),show (((2*j:Nat):Int))+1=((2*j+1:Nat):Int) by omega,dL (by omega),Option.bind_some]
  unfold AA
  rw [ie (Subtype.property _) (Subtype.property _),Option.bind_some,show Ext.mk r.1.A r.1.B=r.1 from rfl,dK r.2 (pd _ _),Option.bind_some,gL (Subtype.property _) (ox _ _),Option.bind_some,Option.bind_some,ak (by rw [List.length_append,al,List.length_take,List.length_singleton];omega),
   aa _ (by omega) (by omega),show (((2*j:Nat):Int))+2=((2*(j+1):Nat):Int) by omega,SK m h hj,kvS];rfl
 ·simp only [en]
  rw [brn (by rw [al];omega),decide_eq_false (by rw [al];omega),List.take_of_length_le (by omega),h]
theorem Y1 {l:List K} {m:Nat} (r:K) (h:l.length=2*m) (hm:m≤1000):vc (kv l) r.1=some (kv (fdK r l)):=by
 have hl:=tM r l m h
 unfold vc
 have key:=am (step:=fZ (kv l) r.1.A r.1.B) (fun j=>(kv ((fdK r l).take j),((2*j:Nat):Int))) m (e:=(kv (fdK r l),(l.length:Int),false)) (fun j hj=> ?_) ?_
 ·have key':Loop (fZ (kv l) r.1.A r.1.B) ([],0)=_:=key
  rw [key'];rfl
 ·simp only [fZ]
  rw [brd (by rw [al];omega),dL (by omega),Option.bind_some,aa _ (by omega) (by omega),show (((2*j:Nat):Int))+1=((2*j+1:Nat):Int) by omega,dL (by omega),Option.bind_some,Option.bind_some,
   nj (Subtype.property _) (Subtype.property _),Option.bind_some,show Ext.mk r.1.A r.1.B=r.1 from rfl,du r.2 (pd _ _),Option.bind_some,jV (Subtype.property _) (ox _ _),Option.bind_some,ak (by rw [List.length_append,al,List.length_take,List.length_singleton];omega),
   aa _ (by omega) (by omega),show (((2*j:Nat):Int))+2=((2*(j+1):Nat):Int) by omega,SK m h hj,kvS];rfl
 ·simp only [fZ]
  rw [brn (by rw [al];omega),decide_eq_false (by rw [al];omega),List.take_of_length_le (by omega),h]
structure OkT (kind n:Nat) (T:List (List K)):Prop where
 kd:kind=1∨kind=2
 len:T.length=2*kind
 tab: ∀i,i<T.length→(T.getD i []).length=n
theorem OkT.bd {kind n:Nat} {T:List (List K)} (h:OkT kind (2*n) T) (r:K):OkT kind n (bdK r T):=⟨h.kd,by simp [bdK,h.len],fun i hi=>by
 rw [Ji]
 exact tM r _ n (h.tab i (by simpa [bdK] using hi))⟩
theorem Wo {r:K} {T:List (List K)} {j:Nat} (hj:j<T.length):(bdK r T).take (j+1)=(bdK r T).take j++[fdK r (T.getD j [])]:=by
 rw [cp (by simpa [bdK] using hj)];simp [bdK,hj]
variable {kind n:Nat} {T:List (List K)}
theorem Cs (h:OkT kind (2*n) T) (hn:n≤1000) (r:K):AK (kvv T) r.1=some (kvv (bdK r T)):=by
 have hl:=h.len
 have hk:=h.kd
 have hb:(bdK r T).length=T.length:=by simp [bdK]
 unfold AK
 have key:=am (step:=jh (kvv T) (T.length:Int) r.1.A r.1.B) (fun j=>(kvv ((bdK r T).take j),(j:Int))) T.length (e:=(kvv (bdK r T),(T.length:Int),false)) (fun j hj=> ?_) ?_
 ·have key':Loop (jh (kvv T) (T.length:Int) r.1.A r.1.B) ([],0)=_:=key
  rw [gu,key'];rfl
 ·simp only [jh]
  rw [brd (by omega),ut hj,Option.bind_some,show Ext.mk r.1.A r.1.B=r.1 from rfl,Kt r (h.tab j hj) hn,Option.bind_some,ak (by rw [List.length_append,gu,List.length_take,List.length_singleton];omega),aa _ (by omega) (by omega),Wo hj,RV];rfl
 ·simp only [jh]
  rw [brn (by omega),decide_eq_false (by omega),List.take_of_length_le (by omega)]
theorem OT (h:OkT kind (2*n) T) (hn:n≤1000) (r:K):qN (kvv T) r.1=some (kvv (bdK r T)):=by
 have hl:=h.len
 have hk:=h.kd
 have hb:(bdK r T).length=T.length:=by simp [bdK]
 unfold qN
 have key:=am (step:=g8 (kvv T) r.1.A r.1.B) (fun j=>(kvv ((bdK r T).take j),(j:Int))) T.length (e:=(kvv (bdK r T),(T.length:Int),false)) (fun j hj=> ?_) ?_
 ·have key':Loop (g8 (kvv T) r.1.A r.1.B) ([],0)=_:=key
  rw [key'];rfl
 ·simp only [g8,gu]
  rw [brd (by omega),ut hj,Option.bind_some,show Ext.mk r.1.A r.1.B=r.1 from rfl,Y1 r (h.tab j hj) hn,Option.bind_some,ak (by rw [List.length_append,gu,List.length_take,List.length_singleton];omega),aa _ (by omega) (by omega),Wo hj,RV];rfl
 ·simp only [g8,gu]
  rw [brn (by omega),decide_eq_false (by omega),List.take_of_length_le (by omega)]
theorem Qk {v:List K} (hk:kind=1∨kind=2) (hv:v.length=2*kind):vm (kind:Int) (kv v)=some (cmK kind v).1:=by
 unfold vm cmK
 have k0:=dL (l:=v) (j:=0) (by omega)
 have k1:=dL (l:=v) (j:=1) (by omega)
 rw [show ((0:Nat):Int)=0 from rfl] at k0
 rw [show ((1:Nat):Int)=1 from rfl] at k1
 rcases hk with rfl|rfl
 ·rw [bre (by omega),k0,Option.bind_some,k1,Option.bind_some,dK (Subtype.property _) (Subtype.property _),if_pos rfl];rfl
 ·have k2:=dL (l:=v) (j:=2) (by omega)
  have k3:=dL (l:=v) (j:=3) (by omega)
  rw [show ((2:Nat):Int)=2 from rfl] at k2
  rw [show ((3:Nat):Int)=3 from rfl] at k3
  rw [zh (by omega),k0,Option.bind_some,k1,Option.bind_some,k2,Option.bind_some,dK (Subtype.property _) (Subtype.property _),Option.bind_some,k3,Option.bind_some,ie (ox _ _) (Subtype.property _),Option.bind_some,dK (Subtype.property _) (pd _ _),if_neg (by decide)];rfl
theorem QV {v:List K} (hk:kind=1∨kind=2) (hv:v.length=2*kind):md (kind:Int) (kv v)=some (cmK kind v).1:=by
 unfold md cmK
 have k0:=dL (l:=v) (j:=0) (by omega)
 have k1:=dL (l:=v) (j:=1) (by omega)
 rw [show ((0:Nat):Int)=0 from rfl] at k0
 rw [show ((1:Nat):Int)=1 from rfl] at k1
 rcases hk with rfl|rfl
 ·rw [bre (by omega),k0,Option.bind_some,k1,Option.bind_some,du (Subtype.property _) (Subtype.property _),if_pos rfl];rfl
 ·have k2:=dL (l:=v) (j:=2) (by omega)
  have k3:=dL (l:=v) (j:=3) (by omega)
  rw [show ((2:Nat):Int)=2 from rfl] at k2
  rw [show ((3:Nat):Int)=3 from rfl] at k3
  rw [zh (by omega),k0,Option.bind_some,k1,Option.bind_some,k2,Option.bind_some,du (Subtype.property _) (Subtype.property _),Option.bind_some,k3,Option.bind_some,nj (ox _ _) (Subtype.property _),Option.bind_some,du (Subtype.property _) (pd _ _),if_neg (by decide)];rfl
theorem T6 {k j:Nat} (hj:j<T.length):(jY T k).take (j+1)=(jY T k).take j++[(T.getD j []).getD k 0]:=by
 rw [cp (by simpa [jY] using hj)];simp [jY,hj]
theorem vX (T:List (List K)) (k:Nat):(jY T k).length=T.length:=by simp [jY]
theorem Vc (h:OkT kind n T) (hn:n≤1000):Eo (kind:Int) (kvv T)=some (oX kind T n).1:=by
 have hl:=h.len
 have hk:=h.kd
 have k0:=ut (T:=T) (j:=0) (by omega)
 rw [show ((0:Nat):Int)=0 from rfl] at k0
 unfold Eo
 rw [k0,Option.bind_some,al,h.tab 0 (by omega)]
 have key:=am (step:=jl (kind:Int) (kvv T) (n:Int) 0 0) (fun j=>((j:Int),(iR j fun k=>cmK kind (jY T k)).1.A,(iR j fun k=>cmK kind (jY T k)).1.B)) n (e:=((n:Int),false,(oX kind T n).1.A,(oX kind T n).1.B)) (fun j hj=> ?_) ?_
 ·have key':Loop (jl (kind:Int) (kvv T) (n:Int) 0 0) (0,0,0)=_:=key
  rw [key'];rfl
 ·simp only [jl]
  have inner: ∀c7 c8,Loop (jg (kind:Int) (kvv T) (j:Int) (n:Int) (j:Int) (kvv T) (((kvv T).length:Nat):Int) 0 0 c7 c8) ([],0)=some (kv (jY T j),(T.length:Int),false):=fun c7 c8=>by
   have key:=am (step:=jg (kind:Int) (kvv T) (j:Int) (n:Int) (j:Int) (kvv T) (((kvv T).length:Nat):Int) 0 0 c7 c8) (fun i=>(kv ((jY T j).take i),(i:Int))) T.length (e:=(kv (jY T j),(T.length:Int),false)) (fun i hi=> ?_) ?_
   ·exact key
   ·simp only [jg,gu]
    rw [brd (by omega),ut hi,Option.bind_some,dL (by rw [h.tab i hi];exact hj),Option.bind_some,ak (by rw [List.length_append,al,List.length_take,vX,List.length_singleton];omega),aa _ (by omega) (by omega),T6 hi,kvS];rfl
   ·simp only [jg,gu]
    rw [brn (by omega),decide_eq_false (by omega),List.take_of_length_le (by rw [vX];omega)]
  rw [brd (by omega),inner,Option.bind_some,Qk hk (by rw [vX,hl]),Option.bind_some,gL (Subtype.property (iR j fun k=>cmK kind (jY T k))) (Subtype.property _),Option.bind_some,aa _ (by omega) (by omega)];rfl
 ·simp only [jl]
  rw [brn (by omega),decide_eq_false (by omega)];rfl
theorem a2F (h:OkT kind n T) {j:Nat} (hj:j<n) (hn:n≤1000):Ep (kind:Int) (kvv T) (j:Int)=some (cmK kind (jY T j)).1:=by
 have hl:=h.len
 have hk:=h.kd
 unfold Ep
 have key:=am (step:=jz (kind:Int) (kvv T) (j:Int) 0 0) (fun i=>(kv ((jY T j).take i),(i:Int))) T.length (e:=(kv (jY T j),(T.length:Int),false)) (fun i hi=> ?_) ?_
 ·have key':Loop (jz (kind:Int) (kvv T) (j:Int) 0 0) ([],0)=_:=key
  rw [key',Option.bind_some]
  dsimp only
  rw [QV hk (by rw [vX,hl])];rfl
 ·simp only [jz,gu]
  rw [brd (by omega),ut hi,Option.bind_some,dL (by rw [h.tab i hi];exact hj),Option.bind_some,ak (by rw [List.length_append,al,List.length_take,vX,List.length_singleton];omega),aa _ (by omega) (by omega),T6 hi,kvS];rfl
 ·simp only [jz,gu]
  rw [brn (by omega),decide_eq_false (by omega),List.take_of_length_le (by rw [vX];omega)]
theorem Z5 (h:OkT kind n T) (hn:n≤1000):Aa (kind:Int) (kvv T)=some (oX kind T n).1:=by
 have hl:=h.len
 have hk:=h.kd
 have k0:=ut (T:=T) (j:=0) (by omega)
 rw [show ((0:Nat):Int)=0 from rfl] at k0
 unfold Aa
 have key:=am (step:=ig (kind:Int) (kvv T) 0 0) (fun j=>((j:Int),(iR j fun k=>cmK kind (jY T k)).1.A,(iR j fun k=>cmK kind (jY T k)).1.B)) n (e:=((n:Int),false,(oX kind T n).1.A,(oX kind T n).1.B)) (fun j hj=> ?_) ?_
 ·have key':Loop (ig (kind:Int) (kvv T) 0 0) (0,0,0)=_:=key
  rw [key'];rfl
 ·simp only [ig]
  rw [k0,Option.bind_some,al,h.tab 0 (by omega),brd (by omega),a2F h hj hn,Option.bind_some,jV (Subtype.property (iR j fun k=>cmK kind (jY T k))) (Subtype.property _),Option.bind_some,aa _ (by omega) (by omega)];rfl
 ·simp only [ig]
  rw [k0,Option.bind_some,al,h.tab 0 (by omega),brn (by omega),decide_eq_false (by omega)];rfl
def rdK (kind:Nat) (T:List (List K)) (n:Nat):List K:=(List.range (kind+2)).map fun (x:Nat)=>oX kind (bdK (kF (x:Int)) T) n
theorem AU (kind:Nat) (T:List (List K)) (n:Nat):(rdK kind T n).length=kind+2:=by simp [rdK]
theorem OH {x:Nat} (h:x≤10):Ext.mk (x:Int) 0=(kF (x:Int)).1:=(uR ⟨by omega,by omega⟩).symm
theorem GI (hk:kind=1∨kind=2):lg (kind:Int)=some ((kind+1:Nat):Int):=by
 unfold lg
 rw [o4,Option.bind_some,decide_eq_true (by omega),decide_eq_true (by omega),Bool.and_self,Bool.not_true,aj,aa _ (by omega) (by omega)];rfl
theorem Fl (h:OkT kind (2*n) T) (hn:n≤1000):na (kind:Int) (kvv T)=some (kv (rdK kind T n)):=by
 have hk:=h.kd
 unfold na
 rw [GI hk,Option.bind_some,aa _ (by omega) (by omega),show (((kind+1:Nat):Int))+1=((kind+2:Nat):Int) by omega]
 have key:=am (step:=gi (kind:Int) (kvv T) ((kind+2:Nat):Int)) (fun j=>(kv ((List.range j).map fun (x:Nat)=>oX kind (bdK (kF (x:Int)) T) n),(j:Int))) (kind+2) (e:=(kv (rdK kind T n),((kind+2:Nat):Int),false)) (fun j hj=> ?_) ?_
 ·have key':Loop (gi (kind:Int) (kvv T) ((kind+2:Nat):Int)) ([],0)=_:=key
  rw [key'];rfl
 ·simp only [gi]
  rw [brd (by omega),OH (by omega),Cs h hn,Option.bind_some,Vc (h.bd _) hn,Option.bind_some,ak (by rw [List.length_append,al,List.length_map,List.length_range,List.length_singleton];omega),aa _ (by omega) (by omega),List.range_succ,List.map_append,List.map_singleton,kvS];rfl
 ·simp only [gi]
  rw [brn (by omega),decide_eq_false (by omega)];rfl
theorem UV (h:OkT kind (2*n) T) (hn:n≤1000):ni (kind:Int) (kvv T)=some (kv (rdK kind T n)):=by
 have hk:=h.kd
 unfold ni
 have key:=am (step:=fy (kind:Int) (kvv T)) (fun j=>(kv ((List.range j).map fun (x:Nat)=>oX kind (bdK (kF (x:Int)) T) n),(j:Int))) (kind+2) (e:=(kv (rdK kind T n),((kind+2:Nat):Int),false)) (fun j hj=> ?_) ?_
 ·have key':Loop (fy (kind:Int) (kvv T)) ([],0)=_:=key
  rw [key'];rfl
 ·simp only [fy,oo]
  rw [Option.bind_some,aa ((kind:Int)+1) (by omega) (by omega),brd (by omega),AS,Option.bind_some,show eN (j:Int)=(kF (j:Int)).1 from OH (by omega),OT h hn,Option.bind_some,Z5 (h.bd _) hn,Option.bind_some,ak (by rw [List.length_append,al,List.length_map,List.length_range,List.length_singleton];omega),aa _ (by omega) (by omega),List.range_succ,List.map_append,List.map_singleton,kvS];rfl
 ·simp only [fy,oo]
  rw [Option.bind_some,aa ((kind:Int)+1) (by omega) (by omega),brn (by omega),decide_eq_false (by omega)];rfl
end Go.AI.Fn
set_option linter.unusedVariables false
set_option linter.unusedSimpArgs false
namespace Go.AI.Fn
theorem YV (a:Int): ∀n:Nat,K.n (a^n)=K.n a^n
 |0=>by rw [Int.pow_zero,pw0];rfl
 |n+1=>by rw [Int.pow_succ,K.n_mul,YV a n,pwS]
theorem a4J (a:Int):K.n (a%2130706433)=K.n a:=K.ext (by show eN (a%2130706433%2130706433)=eN (a%2130706433);rw [Int.emod_emod])
theorem a4a (a:Int) (n:Nat):kF (pF a n)=kF a^n:=by rw [kF,pF,a4J,YV];rfl
theorem TL (a:Int):kF (iF a)=kF a^2130706431:=by rw [iF,a4a]
theorem Yw (a b:Int):kF (iF (mF a b))=kF (iF a)*kF (iF b):=by rw [TL,TL,TL,GL,UX]
theorem Yn:kF (iF 1)=1:=by rw [TL,show kF 1=1 from rfl,Qc]
def lnI (i:Nat) (x v:K):Nat→K
 |0=>v
 |k+1=>if k=i then lnI i x v k else lnI i x v k*(x-kF (k:Int))*kF (iF (sF (i:Int) (k:Int)))
def lnP (i:Nat) (x v:K):Nat→K
 |0=>v
 |k+1=>if k=i then lnP i x v k else lnP i x v k*(x-kF (k:Int))
def lnD (i:Nat):Nat→Int
 |0=>1
 |k+1=>if k=i then lnD i k else mF (lnD i k) (sF (i:Int) (k:Int))
theorem UA (i:Nat): ∀k,okF (lnD i k)
 |0=>a2i
 |k+1=>by unfold lnD;split;exact UA i k;exact iZ _ _
theorem a44 (i:Nat) (x v:K): ∀k,lnI i x v k=lnP i x v k*kF (iF (lnD i k))
 |0=>by rw [lnI,lnP,lnD,Yn];exact kg
 |k+1=>by
  have ih:=a44 i x v k
  unfold lnI lnP lnD
  split
  ·exact ih
  ·rw [Yw,ih];exact kg
def lnK (vs:List K) (x:K):K:=iR vs.length fun i=>lnI i x (vs.getD i 0) vs.length
theorem a1m {x:Nat} (h:x≤10):Ext.mk (x:Int) 0=(kF (x:Int)).1:=(uR ⟨by omega,by omega⟩).symm
theorem SH {vs:List K} (x:K) (hl:vs.length≤8):zE (kv vs) x.1=some (lnK vs x).1:=by
 unfold zE
 have key:=am (step:=io (kv vs) (kv vs) (vs.length:Int) x.1.A x.1.B 0 0) (fun j=>((j:Int),(iR j fun i=>lnI i x (vs.getD i 0) vs.length).1.A,(iR j fun i=>lnI i x (vs.getD i 0) vs.length).1.B)) vs.length (e:=((vs.length:Int),false,(lnK vs x).1.A,(lnK vs x).1.B)) (fun j hj=> ?_) ?_
 ·have key':Loop (io (kv vs) (kv vs) (vs.length:Int) x.1.A x.1.B 0 0) (0,0,0)=_:=key
  rw [al,key'];rfl
 ·simp only [io]
  have inner: ∀c9 c10 c11 c12 c13 c14,Loop (ip (kv vs) (j:Int) (kv vs) (vs.length:Int) (j:Int) (((kv vs).length:Nat):Int) x.1.A x.1.B c9 c10 c11 c12 c13 c14) (0,(vs.getD j 0).1.A,(vs.getD j 0).1.B)=some ((vs.length:Int),false,(lnI j x (vs.getD j 0) vs.length).1.A,(lnI j x (vs.getD j 0) vs.length).1.B):=fun c9 c10 c11 c12 c13 c14=>by
   refine am (step:=ip (kv vs) (j:Int) (kv vs) (vs.length:Int) (j:Int) (((kv vs).length:Nat):Int) x.1.A x.1.B c9 c10 c11 c12 c13 c14) (fun k=>((k:Int),(lnI j x (vs.getD j 0) k).1.A,(lnI j x (vs.getD j 0) k).1.B)) vs.length (fun k hk=> ?_) ?_
   ·simp only [ip,al]
    rw [brd (by omega)]
    by_cases c:k=j
    ·rw [ff (by omega),aa _ (by omega) (by omega),lnI,if_pos c];rfl
    ·rw [brb (by omega),a1m (by omega),show Ext.mk x.1.A x.1.B=x.1 from rfl,ie x.2 (Subtype.property _),Option.bind_some,dK (Subtype.property (lnI j x (vs.getD j 0) k)) (pd _ _),Option.bind_some,KO ⟨by omega,by omega⟩ ⟨by omega,by omega⟩,Option.bind_some,wu (a3Z _ _),Option.bind_some,u5 (ox _ _) (show okF (iF (sF (j:Int) (k:Int))) from Lr _ _),Option.bind_some,aa _ (by omega) (by omega),lnI,if_neg c,Xa, ←uR (a:=iF (sF (j:Int) (k:Int))) (Lr _ _)];rfl
   ·simp only [ip,al]
    rw [brn (by omega),decide_eq_false (by omega)]
  rw [brd (by omega),dL hj,Option.bind_some,inner,Option.bind_some,gL (Subtype.property (iR j fun i=>lnI i x (vs.getD i 0) vs.length)) (Subtype.property (lnI j x (vs.getD j 0) vs.length)),Option.bind_some,aa _ (by omega) (by omega)];rfl
 ·simp only [io]
  rw [brn (by omega),decide_eq_false (by omega)];rfl
theorem XR {vs:List K} (x:K) (hl:vs.length≤8):vi (kv vs) x.1=some (lnK vs x).1:=by
 unfold vi
 have key:=am (step:=fY (kv vs) x.1.A x.1.B 0 0) (fun j=>((j:Int),(iR j fun i=>lnI i x (vs.getD i 0) vs.length).1.A,(iR j fun i=>lnI i x (vs.getD i 0) vs.length).1.B)) vs.length (e:=((vs.length:Int),false,(lnK vs x).1.A,(lnK vs x).1.B)) (fun j hj=> ?_) ?_
 ·have key':Loop (fY (kv vs) x.1.A x.1.B 0 0) (0,0,0)=_:=key
  rw [key'];rfl
 ·simp only [fY,al]
  have inner: ∀c9 c10 c11 c12,Loop (gp (kv vs) (j:Int) x.1.A x.1.B c9 c10 c11 c12) (1,0,(vs.getD j 0).1.A,(vs.getD j 0).1.B)=some (lnD j vs.length,(vs.length:Int),false,(lnP j x (vs.getD j 0) vs.length).1.A,(lnP j x (vs.getD j 0) vs.length).1.B):=fun c9 c10 c11 c12=>by
   refine am (step:=gp (kv vs) (j:Int) x.1.A x.1.B c9 c10 c11 c12) (fun k=>(lnD j k,(k:Int),(lnP j x (vs.getD j 0) k).1.A,(lnP j x (vs.getD j 0) k).1.B)) vs.length (fun k hk=> ?_) ?_
   ·simp only [gp,al]
    rw [brd (by omega)]
    by_cases c:k=j
    ·rw [ff (by omega),aa _ (by omega) (by omega),lnP,lnD,if_pos c,if_pos c];rfl
    ·rw [brb (by omega),AS,Option.bind_some,show eN (k:Int)=(kF (k:Int)).1 from a1m (by omega),show Ext.mk x.1.A x.1.B=x.1 from rfl,nj x.2 (Subtype.property _),Option.bind_some,du (Subtype.property (lnP j x (vs.getD j 0) k)) (pd _ _),Option.bind_some,Ki ⟨by omega,by omega⟩ ⟨by omega,by omega⟩,Option.bind_some,kC (UA j k) (a3Z _ _),Option.bind_some,aa _ (by omega) (by omega),lnP,lnD,if_neg c,if_neg c];rfl
   ·simp only [gp,al]
    rw [brn (by omega),decide_eq_false (by omega)]
  unfold i8
  rw [brd (by omega),dL hj,Option.bind_some,inner,Option.bind_some]
  dsimp only
  rw [xz (UA j _),Option.bind_some,Option.bind_some,AS,Option.bind_some, ←uR (a:=iF (lnD j vs.length)) (Lr _ _),du (Subtype.property (lnP j x (vs.getD j 0) vs.length)) (Subtype.property _),Option.bind_some,
   show eM (Ext.mk (lnP j x (vs.getD j 0) vs.length).1.A (lnP j x (vs.getD j 0) vs.length).1.B) (kF (iF (lnD j vs.length))).1=(lnI j x (vs.getD j 0) vs.length).1 from congrArg Subtype.val (a44 j x _ _).symm,
   jV (Subtype.property (iR j fun i=>lnI i x (vs.getD i 0) vs.length)) (Subtype.property (lnI j x (vs.getD j 0) vs.length)),Option.bind_some,aa _ (by omega) (by omega)];rfl
 ·simp only [fY,al]
  rw [brn (by omega),decide_eq_false (by omega)];rfl
def sqJ:Nat→Int→Int
 |0,x=>x
 |n+1,x=>sqJ n (mF x x)
theorem a1i: ∀(n:Nat) (x:Int),kF (sqJ n x)=kF x^2^n
 |0,x=>by rw [sqJ,Nat.pow_zero,pw1]
 |n+1,x=>by rw [sqJ,a1i n,GL,SQ, ←Ln,Nat.pow_succ,Nat.mul_comm]
theorem a4u {a:Int} (h:sqJ 24 (pF a 127)=1):kF (iF a)*kF a=1:=by
 rw [TL, ←pwS,show 2130706431+1=127*2^24 by decide,zn, ←a4a, ←a1i,h];rfl
theorem ivs: ∀i:Nat,i<4→ ∀k:Nat,k<4→k≠i→sqJ 24 (pF (sF (i:Int) (k:Int)) 127)=1:=by decide+kernel
theorem a7s (a b:Int):kF (sF a b)=kF a-kF b:=K.ext (zy (by show (a-b)%2130706433%2130706433=(a%2130706433-b%2130706433)%2130706433;omega) rfl)
theorem iv (i k:Nat) (hi:i<4) (hk:k<4) (h:k≠i):kF (iF (sF (i:Int) (k:Int)))*(kF (i:Int)-kF (k:Int))=1:=by
 have:=a4u (ivs i hi k hk h)
 rw [a7s] at this;exact this
theorem k0v:kF ((0:Nat):Int)=0:=rfl
theorem k1v:kF ((1:Nat):Int)=1:=rfl
theorem k2v:kF ((2:Nat):Int)=2:=rfl
theorem k3v:kF ((3:Nat):Int)=3:=rfl
theorem lr2 {p q s x w:K} (hw:w*2=1):(0+p*(x-1)*(-1)*(x-2)*(-w)+(p+1*(q+1*s))*x*1*(x-2)*(-1))+(p+2*(q+2*s))*x*w*(x-1)*1=p+x*(q+x*s):=by exact kg
theorem kmA (a b c:K):a*b*c=a*(b*c):=kg
theorem a8d {x w u:K} (hw:w*2=1) (hu:u*3=1):(x-1)*((-1)*((x-2)*((-w)*((x-3)*(-u)))))+x*(1*((x-2)*((-1)*((x-3)*(-w)))))+x*(w*((x-1)*(1*((x-3)*(-1)))))+x*(u*((x-1)*(w*((x-2)*1))))=1:=kg
theorem a88 {x w u:K} (hw:w*2=1) (hu:u*3=1):x*(1*((x-2)*((-1)*((x-3)*(-w)))))+2*(x*(w*((x-1)*(1*((x-3)*(-1))))))+3*(x*(u*((x-1)*(w*((x-2)*1)))))=x:=kg
theorem a8c {x w u:K} (hw:w*2=1) (hu:u*3=1):x*(1*((x-2)*((-1)*((x-3)*(-w)))))+2*(2*(x*(w*((x-1)*(1*((x-3)*(-1)))))))+3*(3*(x*(u*((x-1)*(w*((x-2)*1))))))=x*x:=kg
theorem a8f {x w u:K} (hw:w*2=1) (hu:u*3=1):x*(1*((x-2)*((-1)*((x-3)*(-w)))))+2*(2*(2*(x*(w*((x-1)*(1*((x-3)*(-1))))))))+3*(3*(3*(x*(u*((x-1)*(w*((x-2)*1)))))))=x*(x*x):=kg
theorem a7X {p q s t x c0 c1 c2 c3:K} (h0:c0+c1+c2+c3=1) (h1:c1+2*c2+3*c3=x) (h2:c1+2*(2*c2)+3*(3*c3)=x*x) (h3:c1+2*(2*(2*c2))+3*(3*(3*c3))=x*(x*x)):
 0+p*c0+(p+1*(q+1*(s+1*t)))*c1+(p+2*(q+2*(s+2*t)))*c2+(p+3*(q+3*(s+3*t)))*c3=p+x*(q+x*(s+x*t)):=by
 have e:0+p*c0+(p+1*(q+1*(s+1*t)))*c1+(p+2*(q+2*(s+2*t)))*c2+(p+3*(q+3*(s+3*t)))*c3=p*(c0+c1+c2+c3)+q*(c1+2*c2+3*c3)+s*(c1+2*(2*c2)+3*(3*c3))+t*(c1+2*(2*(2*c2))+3*(3*(3*c3))):=by clear h0 h1 h2 h3;exact kg
 rw [e,h0,h1,h2,h3];clear h0 h1 h2 h3 e;exact kg
theorem lr3 {p q s t x w u:K} (hw:w*2=1) (hu:u*3=1):((0+p*(x-1)*(-1)*(x-2)*(-w)*(x-3)*(-u)+(p+1*(q+1*(s+1*t)))*x*1*(x-2)*(-1)*(x-3)*(-w))+(p+2*(q+2*(s+2*t)))*x*w*(x-1)*1*(x-3)*(-1))+(p+3*(q+3*(s+3*t)))*x*u*(x-1)*w*(x-2)*1=p+x*(q+x*(s+x*t)):=by
 have:=a7X (p:=p) (q:=q) (s:=s) (t:=t) (a8d (x:=x) hw hu) (a88 hw hu) (a8c hw hu) (a8f hw hu)
 simp only [kmA] at this ⊢
 exact this
theorem Wn {a b i j:K} (h1:i*(a-b)=1) (h2:j*(b-a)=1):i= -j:=by
 have:i*(j*(b-a))= -j*(i*(a-b)):=by exact kg
 rw [h1,h2] at this;exact kg
theorem Vg {kind n:Nat} {T:List (List K)} (h:OkT kind (2*n) T) (x:K):lnK (rdK kind T n) x=oX kind (bdK x T) n:=by
 have hT: ∀i,i<4→(T.getD i []).length=2*n∨T.getD i []=[]:=fun i _=>by
  by_cases c:i<T.length
  ·exact .inl (h.tab i c)
  ·exact .inr (by simp [c])
 obtain ⟨p,q,s,t,h1,h2⟩:=Vx h.kd hT
 have hv: ∀i:Nat,i<kind+2→(rdK kind T n).getD i 0=p+kF (i:Int)*(q+kF (i:Int)*(s+kF (i:Int)*t)):=fun i hi=>by rw [rdK,o0 hi,h2]
 have a1:=iv 0 1 (by omega) (by omega) (by omega)
 have a2:=iv 0 2 (by omega) (by omega) (by omega)
 have a3:=iv 1 0 (by omega) (by omega) (by omega)
 have a4:=iv 1 2 (by omega) (by omega) (by omega)
 have a5:=iv 2 0 (by omega) (by omega) (by omega)
 have a6:=iv 2 1 (by omega) (by omega) (by omega)
 have a7:=iv 0 3 (by omega) (by omega) (by omega)
 have a8:=iv 1 3 (by omega) (by omega) (by omega)
 have a9:=iv 2 3 (by omega) (by omega) (by omega)
 have b1:=iv 3 0 (by omega) (by omega) (by omega)
 have b2:=iv 3 1 (by omega) (by omega) (by omega)
 have b3:=iv 3 2 (by omega) (by omega) (by omega)
 rw [k0v] at a1 a2 a3 a5 a7 b1
 rw [k1v] at a1 a3 a4 a6 a8 b2
 rw [k2v] at a2 a4 a5 a6 a9 b3
 rw [k3v] at a7 a8 a9 b1 b2 b3
 have hl:lnK (rdK kind T n) x=iR (kind+2) fun i=>lnI i x ((rdK kind T n).getD i 0) (kind+2):=by rw [lnK,AU]
 rw [hl,h2]
 have f0: ∀v,lnI 0 x v 3=v*(x-1)*kF (iF (sF ((0:Nat):Int) ((1:Nat):Int)))*(x-2)*kF (iF (sF ((0:Nat):Int) ((2:Nat):Int))):=fun v=>by
  simp only [lnI,k0v,k1v,k2v,reduceIte,show ¬(1:Nat)=0 by decide,show ¬(2:Nat)=0 by decide]
 have f1: ∀v,lnI 1 x v 3=v*(x-0)*kF (iF (sF ((1:Nat):Int) ((0:Nat):Int)))*(x-2)*kF (iF (sF ((1:Nat):Int) ((2:Nat):Int))):=fun v=>by
  simp only [lnI,k0v,k1v,k2v,reduceIte,show ¬(0:Nat)=1 by decide,show ¬(2:Nat)=1 by decide]
 have f2: ∀v,lnI 2 x v 3=v*(x-0)*kF (iF (sF ((2:Nat):Int) ((0:Nat):Int)))*(x-1)*kF (iF (sF ((2:Nat):Int) ((1:Nat):Int))):=fun v=>by
  simp only [lnI,k0v,k1v,k2v,reduceIte,show ¬(0:Nat)=2 by decide,show ¬(1:Nat)=2 by decide]
 have g3: ∀v,lnI 3 x v 4=v*(x-0)*kF (iF (sF ((3:Nat):Int) ((0:Nat):Int)))*(x-1)*kF (iF (sF ((3:Nat):Int) ((1:Nat):Int)))*(x-2)*kF (iF (sF ((3:Nat):Int) ((2:Nat):Int))):=fun v=>by
  simp only [lnI,k0v,k1v,k2v,reduceIte,show ¬(0:Nat)=3 by decide,show ¬(1:Nat)=3 by decide,show ¬(2:Nat)=3 by decide]
 have gs: ∀i v,i≠3→lnI i x v 4=lnI i x v 3*(x-3)*kF (iF (sF (i:Int) ((3:Nat):Int))):=fun i v hi=>by
  show (if 3=i then _ else _)=_
  rw [if_neg (fun e=>hi e.symm),k3v]
 have g0:=fun v=>gs 0 v (by decide)
 have g1:=fun v=>gs 1 v (by decide)
 have g2:=fun v=>gs 2 v (by decide)
 clear gs
 generalize kF (iF (sF ((0:Nat):Int) ((1:Nat):Int)))=i01 at*
 generalize kF (iF (sF ((0:Nat):Int) ((2:Nat):Int)))=i02 at*
 generalize kF (iF (sF ((1:Nat):Int) ((0:Nat):Int)))=i10 at*
 generalize kF (iF (sF ((1:Nat):Int) ((2:Nat):Int)))=i12 at*
 generalize kF (iF (sF ((2:Nat):Int) ((0:Nat):Int)))=w at*
 generalize kF (iF (sF ((2:Nat):Int) ((1:Nat):Int)))=i21 at*
 generalize kF (iF (sF ((0:Nat):Int) ((3:Nat):Int)))=i03 at*
 generalize kF (iF (sF ((1:Nat):Int) ((3:Nat):Int)))=i13 at*
 generalize kF (iF (sF ((2:Nat):Int) ((3:Nat):Int)))=i23 at*
 generalize kF (iF (sF ((3:Nat):Int) ((0:Nat):Int)))=u at*
 generalize kF (iF (sF ((3:Nat):Int) ((1:Nat):Int)))=i31 at*
 generalize kF (iF (sF ((3:Nat):Int) ((2:Nat):Int)))=i32 at*
 have e1:i01= -1:=by exact kg
 have e2:i02= -w:=Wn a2 a5
 have e3:i10=1:=by exact kg
 have e4:i12= -1:=by exact kg
 have e5:i21=1:=by exact kg
 have e6:w*2=1:=by exact kg
 have e7:i03= -u:=Wn a7 b1
 have e8:i13= -w:=by
  have:i13*(w*2)= -w*(i13*(1-3)):=by exact kg
  rw [a8,e6] at this;exact kg
 have e9:i23= -1:=by exact kg
 have e10:i31=w:=by
  have:i31*(w*2)=w*(i31*(3-1)):=by exact kg
  rw [b2,e6] at this;exact kg
 have e11:i32=1:=by exact kg
 have e12:u*3=1:=by exact kg
 clear a1 a2 a3 a4 a5 a6 a7 a8 a9 b1 b2 b3
 subst e1 e2 e3 e4 e5 e7 e8 e9 e10 e11
 have v0:=hv 0 (by omega)
 have v1:=hv 1 (by have:=h.kd;omega)
 have v2:=hv 2 (by have:=h.kd;omega)
 rw [k0v] at v0
 rw [k1v] at v1
 rw [k2v] at v2
 rcases h.kd with rfl|rfl
 ·have ht:=h1 rfl
  subst ht
  show ((0+lnI 0 x _ 3)+lnI 1 x _ 3)+lnI 2 x _ 3=_
  rw [v0,v1,v2,f0,f1,f2]
  clear hv hl h1 h2 hT g0 g1 g2 g3 f0 f1 f2 h e12
  have z1:x-0=x:=by clear e6;exact kg
  have z2: ∀u:K,p+0*u=p:=fun u=>by clear e6;exact kg
  have z3: ∀y u:K,u+y*0=u:=fun y u=>by clear e6;exact kg
  simp only [z1,z2,z3]
  exact lr2 (p:=p) (q:=q) (s:=s) (x:=x) e6
 ·have v3:=hv 3 (by omega)
  rw [k3v] at v3
  show (((0+lnI 0 x _ 4)+lnI 1 x _ 4)+lnI 2 x _ 4)+lnI 3 x _ 4=_
  rw [v0,v1,v2,v3,g0,g1,g2,f0,f1,f2,g3]
  clear hv hl h1 h2 hT g0 g1 g2 g3 f0 f1 f2 h
  have z1:x-0=x:=by clear e6 e12;exact kg
  have z2: ∀u:K,p+0*u=p:=fun u=>by clear e6 e12;exact kg
  rw [z1,z2]
  exact lr3 (p:=p) (q:=q) (s:=s) (t:=t) (x:=x) e6 e12
end Go.AI.Fn
set_option linter.unusedVariables false
set_option linter.unusedSimpArgs false
namespace Go.AI.Fn
abbrev xo (a b:Int):Int:=fT .u64 a b
def rot (x s:Int):Int:=if s=0 then x else uq .u64 (bW .u64 x s) (aL .u64 x (64-s))
def IS (x:Int):Prop:=0≤x∧x<18446744073709551616
theorem Pw (x:Int):IS (IntKind.wrap .u64 x):=by
 unfold IS;simp [IntKind.wrap,IntKind.bits,IntKind.signed];omega
theorem a5Z (a b:Int):IS (xo a b):=Pw _
theorem SB {x:Int} (h:IS x):((BitVec.ofInt 64 x).toNat:Int)=x:=by
 obtain ⟨h0,h1⟩:=h
 rw [BitVec.toNat_ofInt];omega
theorem Fk {a:Int} (h:IS a):xo 0 a=a:=by
 show IntKind.wrap .u64 _=a
 have:(BitVec.ofInt 64 0^^^BitVec.ofInt 64 a)=BitVec.ofInt 64 a:=by simp
 show IntKind.wrap .u64 ((BitVec.ofInt 64 0^^^BitVec.ofInt 64 a).toNat:Int)=a
 rw [this,SB h,cT a h.1 h.2]
theorem a39 {a:Int} (h:IS a):uq .u64 a 0=a:=by
 have:(BitVec.ofInt 64 a|||BitVec.ofInt 64 0)=BitVec.ofInt 64 a:=by simp
 show IntKind.wrap .u64 ((BitVec.ofInt 64 a|||BitVec.ofInt 64 0).toNat:Int)=a
 rw [this,SB h,cT a h.1 h.2]
theorem a3v (x y:Int):M9 .u64 x y=bk .u64 (bO .u64 y) x:=by
 show IntKind.wrap .u64 ((BitVec.ofInt 64 x&&& ~~~ BitVec.ofInt 64 y).toNat:Int)=IntKind.wrap .u64 ((BitVec.ofInt 64 (bO .u64 y)&&&BitVec.ofInt 64 x).toNat:Int)
 have h:BitVec.ofInt 64 (bO .u64 y)= ~~~ BitVec.ofInt 64 y:=by
  show BitVec.ofInt 64 (IntKind.wrap .u64 ((BitVec.ofInt 64 18446744073709551615^^^BitVec.ofInt 64 y).toNat:Int))=_
  have e:(BitVec.ofInt 64 18446744073709551615^^^BitVec.ofInt 64 y)= ~~~ BitVec.ofInt 64 y:=by
   rw [show BitVec.ofInt 64 18446744073709551615=BitVec.allOnes 64 by decide,BitVec.allOnes_xor]
  rw [e,cT _ (by omega) (by have:=(~~~ BitVec.ofInt 64 y).isLt;omega)]
  rw [BitVec.ofInt_natCast,BitVec.ofNat_toNat];simp
 rw [h,BitVec.and_comm]
theorem WT {x s:Int} (hs:0≤s∧s<64):rg x s=some (rot x s):=by
 unfold rg rot
 by_cases h:s=0
 ·rw [bre h,if_pos h]
 ·rw [zh h,if_neg h,brd hs.1,cT (64-s) (by omega) (by omega),brd (by omega)]
end Go.AI.Fn
set_option linter.unusedVariables false
set_option linter.unusedSimpArgs false
namespace Go.AI.Fn
theorem a6s: ∀k:Nat,k<64→bk .u64 (IntKind.wrap .u64 (k:Int)) 63=(k:Int):=by decide
theorem WU {x s:Int} (hs:0≤s∧s<64) (hx:s≠0∨IS x):cB x s=some (rot x s):=by
 have e:bk .u64 (IntKind.wrap .u64 s) 63=s:=by
  have:=a6s s.toNat (by omega)
  rwa [Int.toNat_of_nonneg hs.1] at this
 unfold cB rot
 rw [e,brd hs.1,cT (64-s) (by omega) (by omega),brd (by omega)]
 by_cases h:s=0
 ·subst h
  have hx:IS x:=hx.resolve_left (fun h=>h rfl)
  have e1:bW .u64 x 0=x:=by
   show IntKind.wrap .u64 (x*2^0)=x
   rw [Int.pow_zero,Int.mul_one,cT x hx.1 hx.2]
  have e2:aL .u64 x (64-0)=0:=by
   show x.fdiv (2^64)=0
   rw [Int.fdiv_eq_ediv_of_nonneg _ (by decide)]
   exact Int.ediv_eq_zero_of_lt hx.1 hx.2
  rw [e1,e2,a39 hx,if_pos rfl]
 ·rw [if_neg h]
abbrev g (l:List Int) (i:Int):Int:=l.getD i.toNat 0
def lZ:List Int:=[0,1,62,28,27,36,44,6,55,20,3,10,43,25,39,41,45,15,21,8,18,2,61,56,14]
theorem Z4: ∀k:Nat,k<25→0≤lZ.getD k 0∧lZ.getD k 0<64:=by decide
def p2 (m:List Int) (k:Nat) (l:List Int):List Int:=l.set ((k:Int)%5).toNat (xo (g l ((k:Int)%5)) (g m k))
def p3 (m c:List Int) (k:Nat) (l:List Int):List Int:=
 l.set ((k:Int)/5+5*((2*((k:Int)%5)+3*((k:Int)/5))%5)).toNat (rot (xo (g m k) (xo (g c (((k:Int)%5+4)%5)) (rot (g c (((k:Int)%5+1)%5)) 1))) (g lZ k))
def p4 (b:List Int) (k:Nat) (l:List Int):List Int:=
 l.set k (xo (g b k) (M9 .u64 (g b ((k:Int)-(k:Int)%5+((k:Int)%5+2)%5)) (g b ((k:Int)-(k:Int)%5+((k:Int)%5+1)%5))))
def q2 (m:List Int) (k:Nat) (l:List Int):List Int:=l.set k (xo (xo (xo (xo (g m k) (g m ((k:Int)+5))) (g m ((k:Int)+10))) (g m ((k:Int)+15))) (g m ((k:Int)+20)))
def q3 (c:List Int) (k:Nat) (l:List Int):List Int:=l.set k (xo (g l k) (xo (g c (((k:Int)+4)%5)) (rot (g c (((k:Int)+1)%5)) 1)))
def q5 (m:List Int) (x:Int) (y:Nat) (l:List Int):List Int:=l.set ((y:Int)+5*((2*x+3*(y:Int))%5)).toNat (rot (g m (x+5*(y:Int))) (g lZ (x+5*(y:Int))))
def q4 (m:List Int) (x:Nat) (l:List Int):List Int:=iU (q5 m x) 5 l
def q7 (b:List Int) (x:Int) (y:Nat) (l:List Int):List Int:=l.set (x+5*(y:Int)).toNat (xo (g b (x+5*(y:Int))) (bk .u64 (bO .u64 (g b ((x+1)%5+5*(y:Int)))) (g b ((x+2)%5+5*(y:Int)))))
def q6 (b:List Int) (x:Nat) (l:List Int):List Int:=iU (q7 b x) 5 l
theorem a1d (m:List Int) (k:Nat) (l:List Int):(iU (p2 m) k l).length=l.length:=oY (fun _ _=>List.length_set) k l
theorem QH (m c:List Int) (k:Nat) (l:List Int):(iU (p3 m c) k l).length=l.length:=oY (fun _ _=>List.length_set) k l
theorem Q7 (b:List Int) (k:Nat) (l:List Int):(iU (p4 b) k l).length=l.length:=oY (fun _ _=>List.length_set) k l
theorem V7 (m:List Int) (k:Nat) (l:List Int):(iU (q2 m) k l).length=l.length:=oY (fun _ _=>List.length_set) k l
theorem Kx (c:List Int) (k:Nat) (l:List Int):(iU (q3 c) k l).length=l.length:=oY (fun _ _=>List.length_set) k l
theorem a06 (m:List Int) (x:Int) (k:Nat) (l:List Int):(iU (q5 m x) k l).length=l.length:=oY (fun _ _=>List.length_set) k l
theorem Z1 (m:List Int) (x:Int) (k:Nat) (l:List Int):(iU (q7 m x) k l).length=l.length:=oY (fun _ _=>List.length_set) k l
theorem VE (m:List Int) (k:Nat) (l:List Int):(iU (q4 m) k l).length=l.length:=oY (fun x l=>a06 m x 5 l) k l
theorem a1A (m:List Int) (k:Nat) (l:List Int):(iU (q6 m) k l).length=l.length:=oY (fun x l=>Z1 m x 5 l) k l
theorem a27 {m5 m6 m7 m9 t4:List Int} {t3 t5:Int} (h:m5.length=25):Loop (dv m5 m6 m7 m9 t3 t4 t5) (nZ 5,0)=some (iU (p2 m5) 25 (nZ 5),25,false):=
 am (fun k=>(iU (p2 m5) k (nZ 5),(k:Int))) 25 (fun k hk=>by
  have hl:=a1d m5 k (nZ 5)
  rw [ki] at hl
  simp only [dv]
  simp (disch:=omega) only [brd,bp,B2,ew,aa]
  simp only [iU,p2,Int.toNat_natCast,lJ]
  rfl) (by
  simp (disch:=omega) only [dv,brn];rfl)
theorem a3Q {m5 m6 m7 m8:List Int} {t2:Int} (h:m5.length=25):Loop (f6 m5 m6 m7 m8 t2) (nZ 5,0)=some (iU (q2 m5) 5 (nZ 5),5,false):=
 am (fun k=>(iU (q2 m5) k (nZ 5),(k:Int))) 5 (fun k hk=>by
  have hl:=V7 m5 k (nZ 5)
  rw [ki] at hl
  simp only [f6]
  simp (disch:=omega) only [brd,bp,B2,ew,aa]
  simp only [iU,q2,Int.toNat_natCast,lJ]
  rfl) (by
  simp (disch:=omega) only [f6,brn];rfl)
theorem Tb (k:Nat) (hk:k<25):0≤lZ.getD k 0∧lZ.getD k 0<64:=Z4 k hk
theorem FA:lZ.length=25:=rfl
theorem a2U {m10 m12 c t8:List Int} {t7 t9:Int} (h:m10.length=25) (hc:c.length=5):Loop (dn m10 lZ m12 c t7 t8 t9) (nZ 25,0)=some (iU (p3 m10 c) 25 (nZ 25),25,false):=
 am (fun k=>(iU (p3 m10 c) k (nZ 25),(k:Int))) 25 (fun k hk=>by
  have hl:=QH m10 c k (nZ 25)
  rw [ki] at hl
  have hs:=Tb k hk
  have hs1:=FA
  simp only [dn]
  simp (disch:=omega) only [brd,bp,fC,B2,ew,aa]
  rw [WU ⟨by decide,by decide⟩ (.inl (by decide))]
  simp only [Option.bind_some]
  simp only [Int.toNat_natCast]
  rw [WU hs (.inr (a5Z _ _))]
  simp only [Option.bind_some]
  rfl) (by
  simp (disch:=omega) only [dn,brn];rfl)
theorem a3i {m16 m17 m18 b t12:List Int} {t11 t13:Int} {m:List Int} (h:m.length=25) (hb:b.length=25):Loop (dw m16 m17 m18 b t11 t12 t13 b) (m,0)=some (iU (p4 b) 25 m,25,false):=
 am (fun k=>(iU (p4 b) k m,(k:Int))) 25 (fun k hk=>by
  have hl:=Q7 b k m
  simp only [dw]
  simp (disch:=omega) only [brd,bp,fC,B2,ew,aa]
  rfl) (by
  simp (disch:=omega) only [dw,brn];rfl)
theorem a3A {m11 m12 m13 c m:List Int} {t4:Int} (h:m.length=25) (hc:c.length=5):Loop (fe m11 m12 m13 c t4) (m,0)=some (iU (q3 c) 25 m,25,false):=
 am (fun k=>(iU (q3 c) k m,(k:Int))) 25 (fun k hk=>by
  have hl:=Kx c k m
  simp only [fe]
  simp (disch:=omega) only [brd,bp,fC,B2,ew,aa]
  rw [WT ⟨by decide,by decide⟩]
  simp only [Option.bind_some]
  rfl) (by
  simp (disch:=omega) only [fe,brn];rfl)
theorem a2K {a m22 m23 m25 m:List Int} {t8:Int} {x:Nat} (hx:x<5) (h:m.length=25) (ha:a.length=25):Loop (fb a m22 m23 lZ m25 t8 x) (m,0)=some (iU (q5 a x) 5 m,5,false):=
 am (fun k=>(iU (q5 a x) k m,(k:Int))) 5 (fun k hk=>by
  have hl:=a06 a x k m
  have hs:=Tb ((x:Int)+5*(k:Int)).toNat (by omega)
  have hs1:=FA
  simp only [fb]
  simp (disch:=omega) only [brd,bp,fC,B2,ew,aa]
  rw [WT hs]
  simp only [Option.bind_some]
  rfl) (by
  simp (disch:=omega) only [fb,brn];rfl)
theorem a35 {a m16 m17 m19 m:List Int} {t6:Int} (h:m.length=25) (ha:a.length=25):Loop (f8 a m16 m17 lZ m19 t6) (m,0)=some (iU (q4 a) 5 m,5,false):=
 am (fun k=>(iU (q4 a) k m,(k:Int))) 5 (fun k hk=>by
  have hl:=VE a k m
  simp only [f8]
  rw [brd (by omega),a2K hk (by omega) ha,Option.bind_some,aa _ (by omega) (by omega)]
  rfl) (by
  simp (disch:=omega) only [f8,brn];rfl)
theorem a3M {m34 m35 m36 m37 b m:List Int} {t13:Int} {x:Nat} (hx:x<5) (h:m.length=25) (hb:b.length=25):Loop (eZ m34 m35 m36 m37 b t13 x) (m,0)=some (iU (q7 b x) 5 m,5,false):=
 am (fun k=>(iU (q7 b x) k m,(k:Int))) 5 (fun k hk=>by
  have hl:=Z1 b x k m
  simp only [eZ]
  simp (disch:=omega) only [brd,bp,fC,B2,ew,aa]
  rfl) (by
  simp (disch:=omega) only [eZ,brn];rfl)
theorem a3f {m28 m29 m30 m31 b m:List Int} {t11:Int} (h:m.length=25) (hb:b.length=25):Loop (f4 m28 m29 m30 m31 b t11) (m,0)=some (iU (q6 b) 5 m,5,false):=
 am (fun k=>(iU (q6 b) k m,(k:Int))) 5 (fun k hk=>by
  have hl:=a1A b k m
  simp only [f4]
  rw [brd (by omega),a3M hk (by omega) hb,Option.bind_some,aa _ (by omega) (by omega)]
  rfl) (by
  simp (disch:=omega) only [f4,brn];rfl)
def wK (m:List Int) (rc:Int):List Int:=
 let c:=iU (p2 m) 25 (nZ 5)
 let b:=iU (p3 m c) 25 (nZ 25)
 let r:=iU (p4 b) 25 m
 r.set 0 (xo (r.getD 0 0) rc)
def Vw (m:List Int) (rc:Int):List Int:=
 let c:=iU (q2 m) 5 (nZ 5)
 let a:=iU (q3 c) 25 m
 let b:=iU (q4 a) 5 (nZ 25)
 let r:=iU (q6 b) 5 a
 r.set 0 (xo (r.getD 0 0) rc)
end Go.AI.Fn
set_option linter.unusedVariables false
set_option linter.unusedSimpArgs false
namespace Go.AI.Fn
theorem bH {l:List Int} {n:Nat} (h:l.length=n+1): ∃a r,l=a::r∧r.length=n:=by
 cases l with
 |nil=>simp at h
 |cons a r=>exact ⟨a,r,rfl,by simpa using h⟩
theorem a2h {l:List Int} (h:l.length=0):l=[]:=List.eq_nil_of_length_eq_zero h
theorem Ua {l:List Int} (h:l.length=25): ∃a0 a1 a2 a3 a4 a5 a6 a7 a8 a9 a10 a11 a12 a13 a14 a15 a16 a17 a18 a19 a20 a21 a22 a23 a24,l=[a0,a1,a2,a3,a4,a5,a6,a7,a8,a9,a10,a11,a12,a13,a14,a15,a16,a17,a18,a19,a20,a21,a22,a23,a24]:=by
 obtain ⟨a0,r0,rfl,h0⟩:=bH h
 obtain ⟨a1,r1,rfl,h1⟩:=bH h0
 obtain ⟨a2,r2,rfl,h2⟩:=bH h1
 obtain ⟨a3,r3,rfl,h3⟩:=bH h2
 obtain ⟨a4,r4,rfl,h4⟩:=bH h3
 obtain ⟨a5,r5,rfl,h5⟩:=bH h4
 obtain ⟨a6,r6,rfl,h6⟩:=bH h5
 obtain ⟨a7,r7,rfl,h7⟩:=bH h6
 obtain ⟨a8,r8,rfl,h8⟩:=bH h7
 obtain ⟨a9,r9,rfl,h9⟩:=bH h8
 obtain ⟨a10,r10,rfl,h10⟩:=bH h9
 obtain ⟨a11,r11,rfl,h11⟩:=bH h10
 obtain ⟨a12,r12,rfl,h12⟩:=bH h11
 obtain ⟨a13,r13,rfl,h13⟩:=bH h12
 obtain ⟨a14,r14,rfl,h14⟩:=bH h13
 obtain ⟨a15,r15,rfl,h15⟩:=bH h14
 obtain ⟨a16,r16,rfl,h16⟩:=bH h15
 obtain ⟨a17,r17,rfl,h17⟩:=bH h16
 obtain ⟨a18,r18,rfl,h18⟩:=bH h17
 obtain ⟨a19,r19,rfl,h19⟩:=bH h18
 obtain ⟨a20,r20,rfl,h20⟩:=bH h19
 obtain ⟨a21,r21,rfl,h21⟩:=bH h20
 obtain ⟨a22,r22,rfl,h22⟩:=bH h21
 obtain ⟨a23,r23,rfl,h23⟩:=bH h22
 obtain ⟨a24,r24,rfl,h24⟩:=bH h23
 obtain rfl:=a2h h24
 exact ⟨_,_,_,_,_,_,_,_,_,_,_,_,_,_,_,_,_,_,_,_,_,_,_,_,_,rfl⟩
def it (m:List Int):Prop:=m.length=25∧ ∀x∈m,IS x
def cs (m:List Int):List Int:=iU (q2 m) 5 (nZ 5)
theorem a2W {m:List Int} (h:it m):iU (p2 m) 25 (nZ 5)=cs m:=by
 obtain ⟨hl,hb⟩:=h
 obtain ⟨a0,a1,a2,a3,a4,a5,a6,a7,a8,a9,a10,a11,a12,a13,a14,a15,a16,a17,a18,a19,a20,a21,a22,a23,a24,rfl⟩:=Ua hl
 have e0:=Fk (hb a0 (by simp))
 have e1:=Fk (hb a1 (by simp))
 have e2:=Fk (hb a2 (by simp))
 have e3:=Fk (hb a3 (by simp))
 have e4:=Fk (hb a4 (by simp))
 have k:iU (p2 [a0,a1,a2,a3,a4,a5,a6,a7,a8,a9,a10,a11,a12,a13,a14,a15,a16,a17,a18,a19,a20,a21,a22,a23,a24]) 25 (nZ 5)=[xo (xo (xo (xo (xo 0 a0) a5) a10) a15) a20,xo (xo (xo (xo (xo 0 a1) a6) a11) a16) a21,xo (xo (xo (xo (xo 0 a2) a7) a12) a17) a22,xo (xo (xo (xo (xo 0 a3) a8) a13) a18) a23,xo (xo (xo (xo (xo 0 a4) a9) a14) a19) a24]:=by kernel_rfl
 have k2:cs [a0,a1,a2,a3,a4,a5,a6,a7,a8,a9,a10,a11,a12,a13,a14,a15,a16,a17,a18,a19,a20,a21,a22,a23,a24]=
  [xo (xo (xo (xo a0 a5) a10) a15) a20,xo (xo (xo (xo a1 a6) a11) a16) a21,xo (xo (xo (xo a2 a7) a12) a17) a22,xo (xo (xo (xo a3 a8) a13) a18) a23,xo (xo (xo (xo a4 a9) a14) a19) a24]:=by kernel_rfl
 rw [k,k2,e0,e1,e2,e3,e4]
theorem a2T {c:List Int} (a0 a1 a2 a3 a4 a5 a6 a7 a8 a9 a10 a11 a12 a13 a14 a15 a16 a17 a18 a19 a20 a21 a22 a23 a24:Int):iU (p3 [a0,a1,a2,a3,a4,a5,a6,a7,a8,a9,a10,a11,a12,a13,a14,a15,a16,a17,a18,a19,a20,a21,a22,a23,a24] c) 25 (nZ 25)=[rot (xo a0 (xo (g c 4) (rot (g c 1) 1))) 0,rot (xo a6 (xo (g c 0) (rot (g c 2) 1))) 44,rot (xo a12 (xo (g c 1) (rot (g c 3) 1))) 43,rot (xo a18 (xo (g c 2) (rot (g c 4) 1))) 21,rot (xo a24 (xo (g c 3) (rot (g c 0) 1))) 14,rot (xo a3 (xo (g c 2) (rot (g c 4) 1))) 28,rot (xo a9 (xo (g c 3) (rot (g c 0) 1))) 20,rot (xo a10 (xo (g c 4) (rot (g c 1) 1))) 3,rot (xo a16 (xo (g c 0) (rot (g c 2) 1))) 45,rot (xo a22 (xo (g c 1) (rot (g c 3) 1))) 61,rot (xo a1 (xo (g c 0) (rot (g c 2) 1))) 1,rot (xo a7 (xo (g c 1) (rot (g c 3) 1))) 6,rot (xo a13 (xo (g c 2) (rot (g c 4) 1))) 25,rot (xo a19 (xo (g c 3) (rot (g c 0) 1))) 8,rot (xo a20 (xo (g c 4) (rot (g c 1) 1))) 18,rot (xo a4 (xo (g c 3) (rot (g c 0) 1))) 27,rot (xo a5 (xo (g c 4) (rot (g c 1) 1))) 36,rot (xo a11 (xo (g c 0) (rot (g c 2) 1))) 10,rot (xo a17 (xo (g c 1) (rot (g c 3) 1))) 15,rot (xo a23 (xo (g c 2) (rot (g c 4) 1))) 56,rot (xo a2 (xo (g c 1) (rot (g c 3) 1))) 62,rot (xo a8 (xo (g c 2) (rot (g c 4) 1))) 55,rot (xo a14 (xo (g c 3) (rot (g c 0) 1))) 39,rot (xo a15 (xo (g c 4) (rot (g c 1) 1))) 41,rot (xo a21 (xo (g c 0) (rot (g c 2) 1))) 2]:=by kernel_rfl
theorem a2t {c:List Int} (a0 a1 a2 a3 a4 a5 a6 a7 a8 a9 a10 a11 a12 a13 a14 a15 a16 a17 a18 a19 a20 a21 a22 a23 a24:Int):iU (q3 c) 25 [a0,a1,a2,a3,a4,a5,a6,a7,a8,a9,a10,a11,a12,a13,a14,a15,a16,a17,a18,a19,a20,a21,a22,a23,a24]=[xo a0 (xo (g c 4) (rot (g c 1) 1)),xo a1 (xo (g c 0) (rot (g c 2) 1)),xo a2 (xo (g c 1) (rot (g c 3) 1)),xo a3 (xo (g c 2) (rot (g c 4) 1)),xo a4 (xo (g c 3) (rot (g c 0) 1)),xo a5 (xo (g c 4) (rot (g c 1) 1)),xo a6 (xo (g c 0) (rot (g c 2) 1)),xo a7 (xo (g c 1) (rot (g c 3) 1)),xo a8 (xo (g c 2) (rot (g c 4) 1)),xo a9 (xo (g c 3) (rot (g c 0) 1)),xo a10 (xo (g c 4) (rot (g c 1) 1)),xo a11 (xo (g c 0) (rot (g c 2) 1)),xo a12 (xo (g c 1) (rot (g c 3) 1)),xo a13 (xo (g c 2) (rot (g c 4) 1)),xo a14 (xo (g c 3) (rot (g c 0) 1)),xo a15 (xo (g c 4) (rot (g c 1) 1)),xo a16 (xo (g c 0) (rot (g c 2) 1)),xo a17 (xo (g c 1) (rot (g c 3) 1)),xo a18 (xo (g c 2) (rot (g c 4) 1)),xo a19 (xo (g c 3) (rot (g c 0) 1)),xo a20 (xo (g c 4) (rot (g c 1) 1)),xo a21 (xo (g c 0) (rot (g c 2) 1)),xo a22 (xo (g c 1) (rot (g c 3) 1)),xo a23 (xo (g c 2) (rot (g c 4) 1)),xo a24 (xo (g c 3) (rot (g c 0) 1))]:=by kernel_rfl
theorem a2v (a0 a1 a2 a3 a4 a5 a6 a7 a8 a9 a10 a11 a12 a13 a14 a15 a16 a17 a18 a19 a20 a21 a22 a23 a24:Int):iU (q4 [a0,a1,a2,a3,a4,a5,a6,a7,a8,a9,a10,a11,a12,a13,a14,a15,a16,a17,a18,a19,a20,a21,a22,a23,a24]) 5 (nZ 25)=[rot a0 0,rot a6 44,rot a12 43,rot a18 21,rot a24 14,rot a3 28,rot a9 20,rot a10 3,rot a16 45,rot a22 61,rot a1 1,rot a7 6,rot a13 25,rot a19 8,rot a20 18,rot a4 27,rot a5 36,rot a11 10,rot a17 15,rot a23 56,rot a2 62,rot a8 55,rot a14 39,rot a15 41,rot a21 2]:=by kernel_rfl
theorem a0r {m c:List Int} (hm:m.length=25):iU (p3 m c) 25 (nZ 25)=iU (q4 (iU (q3 c) 25 m)) 5 (nZ 25):=by
 obtain ⟨a0,a1,a2,a3,a4,a5,a6,a7,a8,a9,a10,a11,a12,a13,a14,a15,a16,a17,a18,a19,a20,a21,a22,a23,a24,rfl⟩:=Ua hm
 rw [a2T,a2t,a2v]
def p4' (b:List Int) (k:Nat) (l:List Int):List Int:=l.set k (xo (g b k) (bk .u64 (bO .u64 (g b ((k:Int)-(k:Int)%5+((k:Int)%5+1)%5))) (g b ((k:Int)-(k:Int)%5+((k:Int)%5+2)%5))))
theorem a6l (b:List Int):p4 b=p4' b:=by funext k l;unfold p4 p4';rw [a3v]
theorem a1K (a0 a1 a2 a3 a4 a5 a6 a7 a8 a9 a10 a11 a12 a13 a14 a15 a16 a17 a18 a19 a20 a21 a22 a23 a24 b0 b1 b2 b3 b4 b5 b6 b7 b8 b9 b10 b11 b12 b13 b14 b15 b16 b17 b18 b19 b20 b21 b22 b23 b24:Int):iU (p4' [a0,a1,a2,a3,a4,a5,a6,a7,a8,a9,a10,a11,a12,a13,a14,a15,a16,a17,a18,a19,a20,a21,a22,a23,a24]) 25 [b0,b1,b2,b3,b4,b5,b6,b7,b8,b9,b10,b11,b12,b13,b14,b15,b16,b17,b18,b19,b20,b21,b22,b23,b24]=[xo a0 (bk .u64 (bO .u64 a1) a2),xo a1 (bk .u64 (bO .u64 a2) a3),xo a2 (bk .u64 (bO .u64 a3) a4),xo a3 (bk .u64 (bO .u64 a4) a0),xo a4 (bk .u64 (bO .u64 a0) a1),xo a5 (bk .u64 (bO .u64 a6) a7),xo a6 (bk .u64 (bO .u64 a7) a8),xo a7 (bk .u64 (bO .u64 a8) a9),xo a8 (bk .u64 (bO .u64 a9) a5),xo a9 (bk .u64 (bO .u64 a5) a6),xo a10 (bk .u64 (bO .u64 a11) a12),xo a11 (bk .u64 (bO .u64 a12) a13),xo a12 (bk .u64 (bO .u64 a13) a14),xo a13 (bk .u64 (bO .u64 a14) a10),xo a14 (bk .u64 (bO .u64 a10) a11),xo a15 (bk .u64 (bO .u64 a16) a17),xo a16 (bk .u64 (bO .u64 a17) a18),xo a17 (bk .u64 (bO .u64 a18) a19),xo a18 (bk .u64 (bO .u64 a19) a15),xo a19 (bk .u64 (bO .u64 a15) a16),xo a20 (bk .u64 (bO .u64 a21) a22),xo a21 (bk .u64 (bO .u64 a22) a23),xo a22 (bk .u64 (bO .u64 a23) a24),xo a23 (bk .u64 (bO .u64 a24) a20),xo a24 (bk .u64 (bO .u64 a20) a21)]:=by kernel_rfl
theorem a2o (a0 a1 a2 a3 a4 a5 a6 a7 a8 a9 a10 a11 a12 a13 a14 a15 a16 a17 a18 a19 a20 a21 a22 a23 a24 b0 b1 b2 b3 b4 b5 b6 b7 b8 b9 b10 b11 b12 b13 b14 b15 b16 b17 b18 b19 b20 b21 b22 b23 b24:Int):iU (q6 [a0,a1,a2,a3,a4,a5,a6,a7,a8,a9,a10,a11,a12,a13,a14,a15,a16,a17,a18,a19,a20,a21,a22,a23,a24]) 5 [b0,b1,b2,b3,b4,b5,b6,b7,b8,b9,b10,b11,b12,b13,b14,b15,b16,b17,b18,b19,b20,b21,b22,b23,b24]=[xo a0 (bk .u64 (bO .u64 a1) a2),xo a1 (bk .u64 (bO .u64 a2) a3),xo a2 (bk .u64 (bO .u64 a3) a4),xo a3 (bk .u64 (bO .u64 a4) a0),xo a4 (bk .u64 (bO .u64 a0) a1),xo a5 (bk .u64 (bO .u64 a6) a7),xo a6 (bk .u64 (bO .u64 a7) a8),xo a7 (bk .u64 (bO .u64 a8) a9),xo a8 (bk .u64 (bO .u64 a9) a5),xo a9 (bk .u64 (bO .u64 a5) a6),xo a10 (bk .u64 (bO .u64 a11) a12),xo a11 (bk .u64 (bO .u64 a12) a13),xo a12 (bk .u64 (bO .u64 a13) a14),xo a13 (bk .u64 (bO .u64 a14) a10),xo a14 (bk .u64 (bO .u64 a10) a11),xo a15 (bk .u64 (bO .u64 a16) a17),xo a16 (bk .u64 (bO .u64 a17) a18),xo a17 (bk .u64 (bO .u64 a18) a19),xo a18 (bk .u64 (bO .u64 a19) a15),xo a19 (bk .u64 (bO .u64 a15) a16),xo a20 (bk .u64 (bO .u64 a21) a22),xo a21 (bk .u64 (bO .u64 a22) a23),xo a22 (bk .u64 (bO .u64 a23) a24),xo a23 (bk .u64 (bO .u64 a24) a20),xo a24 (bk .u64 (bO .u64 a20) a21)]:=by kernel_rfl
theorem a3q {b m a:List Int} (hb:b.length=25) (hm:m.length=25) (ha:a.length=25):iU (p4 b) 25 m=iU (q6 b) 5 a:=by
 rw [a6l]
 obtain ⟨a0,a1,a2,a3,a4,a5,a6,a7,a8,a9,a10,a11,a12,a13,a14,a15,a16,a17,a18,a19,a20,a21,a22,a23,a24,rfl⟩:=Ua hb
 obtain ⟨b0,b1,b2,b3,b4,b5,b6,b7,b8,b9,b10,b11,b12,b13,b14,b15,b16,b17,b18,b19,b20,b21,b22,b23,b24,rfl⟩:=Ua hm
 obtain ⟨c0,c1,c2,c3,c4,c5,c6,c7,c8,c9,c10,c11,c12,c13,c14,c15,c16,c17,c18,c19,c20,c21,c22,c23,c24,rfl⟩:=Ua ha
 rw [a1K,a2o]
theorem a0v {m:List Int} {rc:Int} (h:it m):wK m rc=Vw m rc:=by
 unfold wK Vw
 dsimp only
 have h1:=a2W h
 unfold cs at h1
 rw [h1]
 have hc:(iU (q2 m) 5 (nZ 5)).length=5:=by rw [V7,ki]
 have ha:(iU (q3 (iU (q2 m) 5 (nZ 5))) 25 m).length=25:=by rw [Kx];exact h.1
 rw [a0r h.1]
 rw [a3q (a:=iU (q3 (iU (q2 m) 5 (nZ 5))) 25 m) (by rw [VE,ki]) h.1 ha]
theorem Zg {m:List Int} {rc:Int} (h:it m):it (wK m rc):=by
 have hl:(wK m rc).length=25:=by
  unfold wK;dsimp only;rw [List.length_set,Q7];exact h.1
 refine ⟨hl, ?_⟩
 unfold wK
 dsimp only
 have hb:(iU (p3 m (iU (p2 m) 25 (nZ 5))) 25 (nZ 25)).length=25:=by rw [QH,ki]
 generalize iU (p3 m (iU (p2 m) 25 (nZ 5))) 25 (nZ 25)=b at hb
 have key: ∀k,k≤25→ ∀i,i<k→ ∀hi:i<(iU (p4 b) k m).length,IS (iU (p4 b) k m)[i]:=by
  intro k
  induction k with
  |zero=>intro _ i hi;omega
  |succ k ih=>
   intro hk i hi hlen
   simp only [iU,p4]
   rw [List.getElem_set]
   split
   ·exact a5Z _ _
   ·exact ih (by omega) i (by omega) (by simpa [iU,p4] using hlen)
 intro x hx
 rcases List.mem_or_eq_of_mem_set hx with h1|h1
 ·obtain ⟨i,hi,rfl⟩:=List.getElem_of_mem h1
  exact key 25 (by omega) i (by rw [Q7] at hi;have:=h.1;omega) hi
 ·rw [h1];exact a5Z _ _
end Go.AI.Fn
set_option linter.unusedVariables false
set_option linter.unusedSimpArgs false
set_option maxRecDepth 10000
namespace Go.AI.Fn
def rcL:List Int:=[1,32898,9223372036854808714,9223372039002292224,32907,2147483649,9223372039002292353,9223372036854808585,138,136,2147516425,2147483658,2147516555,9223372036854775947,9223372036854808713,9223372036854808579,9223372036854808578,9223372036854775936,32778,9223372039002259466,9223372039002292353,9223372036854808704,2147483649,9223372039002292232]
theorem a5i:[1,32898,9223372036854808714,9223372039002292224,32907,2147483649,9223372039002292353,9223372036854808585,138,136,2147516425,2147483658,2147516555,9223372036854775947,9223372036854808713,9223372036854808579,9223372036854808578,9223372036854775936,32778,9223372039002259466,9223372039002292353,9223372036854808704,2147483649,9223372039002292232]=rcL:=rfl
theorem YF:[0,1,62,28,27,36,44,6,55,20,3,10,43,25,39,41,45,15,21,8,18,2,61,56,14]=lZ:=rfl
theorem P6:rcL.length=24:=rfl
def rdP (k:Nat) (m:List Int):List Int:=wK m (rcL.getD k 0)
def MF (m:List Int):List Int:=iU rdP 24 m
theorem QT (k:Nat) (m:List Int):iU rdP (k+1) m=wK (iU rdP k m) (rcL.getD k 0):=by rw [iU,rdP]
theorem Wa {m:List Int} (h:it m): ∀k,it (iU rdP k m)
 |0=>h
 |k+1=>by rw [QT];exact Zg (Wa h k)
theorem Rg {m:List Int} (h:it m):it (MF m):=Wa h 24
theorem Pm {m:List Int} (h:it m):iw m=some (MF m):=by
 unfold iw
 have key:Loop (dp lZ rcL rcL) (m,0)=some (MF m,24,false):=
  am (fun k=>(iU rdP k m,(k:Int))) 24 (fun k hk=>by
   have h1:=Wa h k
   have hl1:=h1.1
   have hr:=P6
   simp only [dp]
   simp (disch:=omega) only [brd,B2,ew,aa]
   rw [a27 h1.1,Option.bind_some,a2U h1.1 (by rw [a1d,ki]),Option.bind_some,brd (by rw [QH,ki]),a3i h1.1 (by rw [QH,ki]),Option.bind_some]
   have hl:=Q7 (iU (p3 (iU rdP k m) (iU (p2 (iU rdP k m)) 25 (nZ 5))) 25 (nZ 25)) 25 (iU rdP k m)
   simp (disch:=omega) only [ew,brd]
   rw [QT]
   unfold wK
   simp only [lJ,Int.toNat_natCast]) (by simp (disch:=omega) only [dp,brn];rfl)
 rw [a5i,YF,key,Option.bind_some]
theorem PQ {m:List Int} (h:it m):lV m=some (MF m):=by
 unfold lV
 have key:Loop (f9 (nZ 25) rcL lZ) (m,0)=some (MF m,24,false):=
  am (fun k=>(iU rdP k m,(k:Int))) 24 (fun k hk=>by
   have h1:=Wa h k
   have hl1:=h1.1
   have hr:=P6
   simp only [f9]
   rw [brd (by omega),a3Q h1.1,Option.bind_some,a3A h1.1 (by rw [V7,ki]),Option.bind_some,a35 (ki 25) (by rw [Kx];exact h1.1),Option.bind_some,
    a3f (by rw [Kx];exact h1.1) (by rw [VE,ki]),Option.bind_some]
   have hl:=a1A (iU (q4 (iU (q3 (iU (q2 (iU rdP k m)) 5 (nZ 5))) 25 (iU rdP k m))) 5 (nZ 25)) 5 (iU (q3 (iU (q2 (iU rdP k m)) 5 (nZ 5))) 25 (iU rdP k m))
   rw [Kx] at hl
   simp (disch:=omega) only [ew,brd,B2,aa]
   rw [QT,a0v h1]
   unfold Vw
   simp only [lJ,Int.toNat_natCast]) (by simp (disch:=omega) only [f9,brn];rfl)
 have hp:=(Rg h).1
 rw [brd h.1]
 show (some rcL).bind _=_
 rw [Option.bind_some,brd P6]
 show (some lZ).bind _=_
 rw [Option.bind_some,brd FA,key,Option.bind_some,brd hp,brd hp,brd hp]
theorem Qw {l:List UInt8} {k:Nat} (h:k<l.length):atL l (k:Int)=some (l.getD k 0):=by simp [atL,h]
def lnS (t:List UInt8) (k:Nat) (l:List Int):List Int:=l.set ((k:Int)/8).toNat (uq .u64 (g l ((k:Int)/8)) (bW .u64 (IntKind.wrap .u64 ((t.getD k 0).toNat:Int)) (8*((k:Int)%8))))
def ud (t:List UInt8):List Int:=iU (lnS t) t.length (nZ 25)
theorem PM (t:List UInt8) (k:Nat) (l:List Int):(iU (lnS t) k l).length=l.length:=oY (fun _ _=>List.length_set) k l
theorem yQ (t:List UInt8):it (ud t):=by
 refine ⟨by rw [ud,PM,ki], ?_⟩
 have key: ∀k, ∀x∈iU (lnS t) k (nZ 25),IS x:=by
  intro k
  induction k with
  |zero=>intro x hx;simp only [iU,nZ,List.mem_replicate] at hx;rw [hx.2];exact ⟨by decide,by decide⟩
  |succ k ih=>
   intro x hx
   rcases List.mem_or_eq_of_mem_set hx with h1|h1
   ·exact ih x h1
   ·rw [h1];exact Pw _
 exact key _
theorem Qr {t:List UInt8} (h:t.length≤200):w6 t=some (ud t):=by
 unfold w6
 have key:Loop (iG (nZ 25) t ((t.length:Nat):Int)) (nZ 25,0)=some (ud t,(t.length:Int),false):=
  am (fun k=>(iU (lnS t) k (nZ 25),(k:Int))) t.length (fun k hk=>by
   have hl:=PM t k (nZ 25)
   rw [ki] at hl
   simp only [iG]
   simp (disch:=omega) only [brd,bp,fC,B2,ew,aa,Qw,Option.bind_some]
   rfl) (by simp (disch:=omega) only [iG,brn];simp;rfl)
 have hl:=(yQ t).1
 rw [key,Option.bind_some,brd hl,brd hl,brd hl]
theorem VG {t:List UInt8} (h:t.length≤200):sg t=some (ud t):=by
 unfold sg
 have key:Loop (gC (nZ 25) t) (nZ 25,0)=some (ud t,(t.length:Int),false):=
  am (fun k=>(iU (lnS t) k (nZ 25),(k:Int))) t.length (fun k hk=>by
   have hl:=PM t k (nZ 25)
   rw [ki] at hl
   simp only [gC]
   simp (disch:=omega) only [brd,bp,fC,B2,ew,aa,cT,Qw,Option.bind_some]
   rfl) (by simp (disch:=omega) only [gC,brn];simp;rfl)
 have hl:=(yQ t).1
 rw [key,Option.bind_some,brd hl,brd hl,brd hl]
def txB (m:List Int) (i:Nat):UInt8:=UInt8.ofInt (aL .u64 (g m ((i:Int)/8)) (8*((i:Int)%8)))
def rz (m:List Int) (n:Nat):List UInt8:=(List.range n).map (txB m)
theorem Ay (m:List Int) (n:Nat):(rz m n).length=n:=by simp [rz]
theorem KF (m:List Int) (n:Nat):rz m (n+1)=rz m n++[txB m n]:=by simp [rz,List.range_succ]
theorem YA {m:List Int} (h:m.length=25):mG m=some (rz m 200,m):=by
 unfold mG
 have key:Loop (fa m) ([],0)=some (rz m 200,200,false):=
  am (fun k=>(rz m k,(k:Int))) 200 (fun k hk=>by
   have hl:=Ay m k
   simp only [fa]
   simp (disch:=omega) only [brd,bp,fC,B2,ew,aa]
   rw [ak (by simp only [List.length_append,List.length_cons,List.length_nil];omega),KF]
   rfl) (by simp (disch:=omega) only [fa,brn];rfl)
 rw [key];rfl
theorem Xx {m:List Int} (h:m.length=25) {n:Nat} (hn:n≤200):va m n=some (rz m n):=by
 unfold va
 have key:Loop (iO m n) ([],0)=some (rz m n,(n:Int),false):=
  am (fun k=>(rz m k,(k:Int))) n (fun k hk=>by
   have hl:=Ay m k
   simp only [iO]
   simp (disch:=omega) only [brd,bp,fC,B2,ew,aa,cT]
   rw [ak (by simp only [List.length_append,List.length_cons,List.length_nil];omega),KF]
   rfl) (by simp (disch:=omega) only [iO,brn];simp)
 rw [brd h,key];rfl
end Go.AI.Fn
set_option linter.unusedVariables false
set_option linter.unusedSimpArgs false
namespace Go.AI.Fn
def xoS (t:List Int) (k:Nat) (l:List Int):List Int:=l.set k (xo (g l k) (g t k))
def XO (t m:List Int):List Int:=iU (xoS t) 25 m
theorem Rs (t:List Int) (k:Nat) (l:List Int):(iU (xoS t) k l).length=l.length:=oY (fun _ _=>List.length_set) k l
theorem VV {t m:List Int} (h:it m):it (XO t m):=by
 refine ⟨by rw [XO,Rs];exact h.1, ?_⟩
 have key: ∀k, ∀x∈iU (xoS t) k m,IS x:=by
  intro k
  induction k with
  |zero=>exact h.2
  |succ k ih=>
   intro x hx
   rcases List.mem_or_eq_of_mem_set hx with h1|h1
   ·exact ih x h1
   ·rw [h1];exact Pw _
 exact key _
theorem a0s {l5 a:List UInt8} {t m:List Int} (ht:t.length=25) (h:m.length=25):Loop (jO l5 a t) (m,0)=some (XO t m,25,false):=
 am (fun k=>(iU (xoS t) k m,(k:Int))) 25 (fun k hk=>by
  have hl:=Rs t k m
  simp only [jO]
  simp (disch:=omega) only [brd,B2,ew,aa]
  rfl) (by simp (disch:=omega) only [jO,brn];rfl)
theorem Zn {l5 a:List UInt8} {p:Int} {t m:List Int} (ht:t.length=25) (h:m.length=25):Loop (iI l5 t a p) (m,0)=some (XO t m,25,false):=
 am (fun k=>(iU (xoS t) k m,(k:Int))) 25 (fun k hk=>by
  have hl:=Rs t k m
  simp only [iI]
  simp (disch:=omega) only [brd,B2,ew,aa]
  rfl) (by simp (disch:=omega) only [iI,brn];rfl)
def a6B (a:List UInt8) (k:Nat) (m:List Int):List Int:=MF (XO (ud ((a.drop (136*k)).take 136)) m)
def R8 (a:List UInt8) (n:Nat):List Int:=iU (a6B a) n (nZ 25)
theorem a6W:it (nZ 25):=⟨ki 25,fun x hx=>by simp only [nZ,List.mem_replicate] at hx;rw [hx.2];exact ⟨by decide,by decide⟩⟩
theorem K4 (a:List UInt8) (n:Nat):R8 a (n+1)=MF (XO (ud ((a.drop (136*n)).take 136)) (R8 a n)):=by
 unfold R8;rw [iU,a6B]
theorem L3 (a:List UInt8): ∀n,it (R8 a n)
 |0=>a6W
 |n+1=>by rw [K4];exact Rg (VV (L3 a n))
theorem Zx {l4 a:List UInt8} {n:Nat} (h:a.length=136*n) (hn:n≤1000000000):Loop (jL l4) (nZ 25,a)=some (R8 a n,[],false):=
 am (fun k=>(R8 a k,a.drop (136*k))) n (fun k hk=>by
  have h1:=L3 a k
  have hx:=VV (t:=ud ((a.drop (136*k)).take 136)) h1
  simp only [jL]
  rw [brd (by rw [List.length_drop];omega),nV (by omega) (by omega) (by rw [List.length_drop];omega),Option.bind_some,nV (by omega) (by rw [List.length_drop];omega) (by omega)]
  have e1:(List.drop (Int.toNat 0) (List.drop (136*k) a)).take (Int.toNat 136-Int.toNat 0)=(a.drop (136*k)).take 136:=rfl
  have e2:(List.drop (Int.toNat 136) (List.drop (136*k) a)).take ((((List.drop (136*k) a).length:Nat):Int).toNat-Int.toNat 136)=a.drop (136*(k+1)):=by
   rw [List.drop_drop,List.take_of_length_le (by rw [List.length_drop,List.length_drop];simp;omega)]
   congr 1
  rw [e1,e2,Qr (by rw [List.length_take];omega),Option.bind_some,a0s (yQ _).1 h1.1,Option.bind_some,Pm hx,Option.bind_some,Option.bind_some,K4]) (by
  simp only [jL]
  rw [brn (by rw [List.length_drop];omega),List.drop_eq_nil_of_le (by omega)]
  rfl)
theorem ZN {l3 a:List UInt8} {n:Nat} (h:a.length=136*n) (hn:n≤1000000000): ∃p,Loop (iN l3 a) (nZ 25,0)=some (R8 a n,p):=
 ⟨_,am (fun k=>(R8 a k,((136*k:Nat):Int))) n (fun k hk=>by
   have h1:=L3 a k
   have hx:=VV (t:=ud ((a.drop (136*k)).take 136)) h1
   simp only [iN]
   rw [brd (by omega),aa _ (by omega) (by omega),nV (by omega) (by omega) (by omega),Option.bind_some]
   have e1:(List.drop (((136*k:Nat):Int)).toNat a).take (((((136*k:Nat):Int))+136).toNat-(((136*k:Nat):Int)).toNat)=(a.drop (136*k)).take 136:=by
    congr 1
    omega
   rw [e1,VG (by rw [List.length_take];omega),Option.bind_some,brd (yQ _).1,Zn (yQ _).1 h1.1,Option.bind_some,brd hx.1,PQ hx,Option.bind_some,B2 (Rg hx).1 hx.1,K4]
   have e2:(((136*k:Nat):Int))+136=((136*(k+1):Nat):Int):=by omega
   rw [e2]) (by
   simp only [iN]
   rw [brn (by omega)])⟩
def DM (l:List UInt8):List UInt8:=l++List.replicate ((136-l.length%136)%136) 0
theorem Mw (l:List UInt8):(DM l).length=136*((l.length+135)/136):=by
 rw [DM,List.length_append,List.length_replicate];omega
theorem Tp {α:Type} (n:Nat) (x:α):List.replicate (n+1) x=List.replicate n x++[x]:=by
 rw [List.replicate_succ']
theorem Zy {c l:List UInt8} (h:l.length≤1000000000):Loop (hU c) l=some (DM l,false):=by
 have key:=am (step:=hU c) (e:=(DM l,false)) (fun k=>l++List.replicate k 0) ((136-l.length%136)%136) (fun k hk=>by
  simp only [hU]
  rw [bp _ _ (by omega),brb (by rw [List.length_append,List.length_replicate];omega),ak (by simp only [List.length_append,List.length_replicate,List.length_cons,List.length_nil];omega),Tp,List.append_assoc]) (by
  simp only [hU]
  have e:((((l++List.replicate ((136-l.length%136)%136) (0:UInt8)).length:Nat):Int).tmod 136)=0:=by
   rw [bp _ _ (by omega),List.length_append,List.length_replicate];omega
  rw [e,ff rfl];rfl)
 rwa [List.replicate_zero,List.append_nil] at key
theorem a1D {c l:List UInt8} (h:l.length≤1000000000):Loop (ge c) l=some (DM l,false):=by
 have key:=am (step:=ge c) (e:=(DM l,false)) (fun k=>l++List.replicate k 0) ((136-l.length%136)%136) (fun k hk=>by
  simp only [ge]
  rw [bp _ _ (by omega),brb (by rw [List.length_append,List.length_replicate];omega),ak (by simp only [List.length_append,List.length_replicate,List.length_cons,List.length_nil];omega),Tp,List.append_assoc]) (by
  simp only [ge]
  have e:((((l++List.replicate ((136-l.length%136)%136) (0:UInt8)).length:Nat):Int).tmod 136)=0:=by
   rw [bp _ _ (by omega),List.length_append,List.length_replicate];omega
  rw [e,ff rfl];rfl)
 rwa [List.replicate_zero,List.append_nil] at key
def Ly (b:List UInt8):List UInt8:=(DM (b++[1])).set ((DM (b++[1])).length-1) (UInt8.ofInt (uq .u8 (((DM (b++[1])).getD ((DM (b++[1])).length-1) 0).toNat:Int) 128))
def H (b:List UInt8):List UInt8:=rz (R8 (Ly b) ((b.length+136)/136)) 32
theorem uc (b:List UInt8):(H b).length=32:=Ay _ _
theorem SA (b:List UInt8):(Ly b).length=136*((b.length+136)/136):=by
 rw [Ly,List.length_set,Mw,List.length_append,List.length_singleton]
theorem Zo {β:Type} {l:List UInt8} {i:Nat} {f:UInt8→Option β} (h:i<l.length):(l[i]?).bind f=f (l.getD i 0):=by simp [h]
theorem VS (m:List Int):(rz m 200).take 32=rz m 32:=by
 rw [rz, ←List.map_take,List.take_range];rfl
theorem lG {b:List UInt8} (h:b.length≤100000000):fL b=some (H b):=by
 unfold fL
 have hl:=Mw (b++[1])
 rw [List.length_append,List.length_singleton] at hl
 have hpl:=SA b
 rw [ak (by omega),ak (by rw [List.length_append,List.length_singleton];omega),a1D (by rw [List.length_append,List.length_singleton];omega),Option.bind_some]
 dsimp only
 rw [aa _ (by omega) (by omega)]
 have ei:(((DM (b++[1])).length:Int)-1).toNat=(DM (b++[1])).length-1:=by omega
 rw [ei]
 simp (disch:=omega) only [brd,Zo]
 obtain ⟨p,hp⟩:=ZN (l3:=[1]) hpl (by omega)
 unfold Ly at hp
 rw [hp,Option.bind_some]
 dsimp only
 have ok:=L3 (Ly b) ((b.length+136)/136)
 unfold Ly at ok
 rw [brd ok.1]
 have ht:=Xx (n:=32) ok.1 (by omega)
 rw [show ((32:Nat):Int)=32 from rfl] at ht
 rw [ht,Option.bind_some,H,Ly]
theorem RU {l:List (List UInt8)} (h:l.flatten.length≤1000000000) (hn:l.length≤1000000):Loop (jM l ((l.length:Nat):Int)) ([],0)=some (l.flatten,(l.length:Int),false):=
 am (fun k=>((l.take k).flatten,(k:Int))) l.length (fun k hk=>by
  simp only [jM]
  have h1:((l.take k).flatten++l[k]).length≤l.flatten.length:=by
   have e:l.flatten=(l.take (k+1)).flatten++(l.drop (k+1)).flatten:=by rw [←List.flatten_append,List.take_append_drop]
   rw [cp hk,List.flatten_append,List.flatten_singleton] at e
   have e2:=congrArg List.length e
   simp only [List.length_append] at e2 ⊢
   omega
  rw [brd (by omega),bQ hk,Option.bind_some,ak (by omega),aa _ (by omega) (by omega),cp hk,List.flatten_append,List.flatten_singleton]
  rfl) (by
  simp only [jM]
  rw [brn (by omega),List.take_length];simp)
theorem oA {l:List (List UInt8)} (h:l.flatten.length≤100000000) (hn:l.length≤1000000):mf l=some (H l.flatten):=by
 unfold mf
 rw [RU (by omega) hn,Option.bind_some]
 dsimp only
 generalize l.flatten=b at h
 have hl:=Mw (b++[1])
 rw [List.length_append,List.length_singleton] at hl
 have hpl:=SA b
 rw [ak (by rw [List.length_append,List.length_singleton];omega),Zy (by rw [List.length_append,List.length_singleton];omega),Option.bind_some]
 dsimp only
 rw [aa _ (by omega) (by omega)]
 have ei:(((DM (b++[1])).length:Int)-1).toNat=(DM (b++[1])).length-1:=by omega
 rw [ei]
 simp (disch:=omega) only [brd,Zo]
 have hp:=Zx (l4:=[1]) hpl (by omega)
 unfold Ly at hp
 rw [hp,Option.bind_some]
 dsimp only
 have ok:=L3 (Ly b) ((b.length+136)/136)
 unfold Ly at ok
 rw [YA ok.1,Option.bind_some,nV (by omega) (by omega) (by rw [Ay];omega),Option.bind_some,H,Ly, ←VS]
 rfl
theorem tD {t:List UInt8} (h:t.length≤100000000):oD t=some (H t):=by
 unfold oD
 rw [ak (by omega),oA (by simpa using h) (by simp)]
 simp
end Go.AI.Fn
set_option linter.unusedVariables false
namespace Go.AI.Fn
theorem a6Y {a:List UInt8} {i n:Int} (hl:a.length≤1048576) (hi0:0≤i) (hi1:i≤1099511627776) (hn:1<n): ∃x,Zv a i n=some x∧0≤x∧x<n:=by
 unfold Zv
 rw [brn (by omega)]
 by_cases c:((a.length:Nat):Int)=0
 ·rw [bre c,brd (by omega),aa _ (by omega) (by omega),bp _ _ (by omega)]
  exact ⟨_,rfl,Int.emod_nonneg _ (by omega),Int.emod_lt_of_pos _ (by omega)⟩
 ·rw [zh c,brd c,bp _ _ hi0]
  have h1:=Int.emod_nonneg i c
  have h2:=Int.emod_lt_of_pos i (b:=(a.length:Int)) (by omega)
  obtain ⟨x,hx,_,_⟩:=Pe (l:=a) h1 h2
  have h3:=Int.emod_nonneg (i+1) c
  have h4:=Int.emod_lt_of_pos (i+1) (b:=(a.length:Int)) (by omega)
  obtain ⟨y,hy,_,_⟩:=Pe (l:=a) h3 h4
  have bx:=od x
  have bz:=od y
  have h5:0≤i/(a.length:Int):=Int.ediv_nonneg hi0 (by omega)
  have h6:i/(a.length:Int)≤i:=Int.ediv_le_self _ hi0
  rw [hx]
  simp only [Option.bind_some]
  rw [brd c,aa (i+1) (by omega) (by omega),bp _ _ (by omega),hy]
  simp only [Option.bind_some]
  rw [brd c,brd (by omega),fC _ _ hi0]
  generalize i/((a.length:Nat):Int)=q at h5 h6 ⊢
  rw [aa q (by omega) (by omega),aa (x.toNat:Int) (by omega) (by omega),aa (y.toNat:Int) (by omega) (by omega),aa ((x.toNat:Int)*31) (by omega) (by omega),aa ((x.toNat:Int)*31+(y.toNat:Int)) (by omega) (by omega),aa _ (by omega) (by omega),bp _ _ (by omega)]
  exact ⟨_,rfl,Int.emod_nonneg _ (by omega),Int.emod_lt_of_pos _ (by omega)⟩
def dS (n:Int):List UInt8:=[UInt8.ofInt (aL .i64 n 24),UInt8.ofInt (aL .i64 n 16),UInt8.ofInt (aL .i64 n 8),UInt8.ofInt n]
def e8 (x:Ext):List UInt8:=dS x.A++dS x.B
theorem ey (n:Int):(dS n).length=4:=rfl
theorem a4U (x:Ext):(e8 x).length=8:=rfl
theorem Mo {n:Int} {l:List UInt8} (h:l.length≤1099511627770):vg n l=some (l++dS n):=by
 unfold vg
 rw [y9 (EL (by simp only [List.length_append,List.length_cons,List.length_nil];omega))];rfl
theorem a7Z (n:Int):aL .i64 n 0=n:=by simp [aL]
theorem Aj (n:Int):dR n 4=some (dS n):=by
 unfold dR
 rw [show IntKind.wrap .i64 (4-1)=3 by decide,
  cj (s':=([UInt8.ofInt (aL .i64 n 24)],2)) (by kernel_rfl),
  cj (s':=([UInt8.ofInt (aL .i64 n 24),UInt8.ofInt (aL .i64 n 16)],1)) (by kernel_rfl),
  cj (s':=([UInt8.ofInt (aL .i64 n 24),UInt8.ofInt (aL .i64 n 16),UInt8.ofInt (aL .i64 n 8)],0)) (by kernel_rfl),
  cj (s':=([UInt8.ofInt (aL .i64 n 24),UInt8.ofInt (aL .i64 n 16),UInt8.ofInt (aL .i64 n 8),UInt8.ofInt (aL .i64 n 0)], -1)) (by kernel_rfl),
  cy (e:=([UInt8.ofInt (aL .i64 n 24),UInt8.ofInt (aL .i64 n 16),UInt8.ofInt (aL .i64 n 8),UInt8.ofInt (aL .i64 n 0)], -1,false)) (by kernel_rfl),a7Z]
 rfl
theorem uf {l:List Ext} (hl:l.length≤4194304):ls l=some (l.flatMap e8):=by
 unfold ls
 have key:=rH (step:=gH l ((l.length:Nat):Int))
  (fun s=>0≤s.2∧s.2≤l.length∧(s.1.length:Int)=8*s.2∧s.1++(l.drop s.2.toNat).flatMap e8=l.flatMap e8) (fun s=>(l.length-s.2).toNat)
  (fun e=>e.1=l.flatMap e8) ?_ ([],0) ⟨by first|omega| (dsimp only;omega),by first|omega| (dsimp only;omega),by simp,rfl⟩
 ·obtain ⟨e,he,h⟩:=key
  rw [he];simp only [Option.bind_some,h]
 ·rintro ⟨o,t⟩ ⟨h0,h1,h3,h2⟩
  dsimp only at h0 h1 h2 h3
  by_cases c:t<(l.length:Int)
  ·left
   obtain ⟨x,r,e1,e2,e3⟩:=Oz (l:=l) (i:=t.toNat) (by omega)
   simp only [gH]
   rw [brd c,Sz h0 e1]
   simp only [Option.bind_some]
   rw [Mo (by omega)]
   simp only [Option.bind_some]
   rw [Mo (by simp only [List.length_append,ey];omega),aa (t+1) (by omega) (by omega)]
   refine ⟨_,rfl,⟨by first|omega| (dsimp only;omega),by first|omega| (dsimp only;omega), ?_, ?_⟩,by first|omega| (dsimp only;omega)⟩
   ·simp only [List.length_append,ey];omega
   ·dsimp only
    rw [show (t+1).toNat=t.toNat+1 by omega,e2]
    rw [e1,List.flatMap_cons] at h2
    simpa [e8] using h2
  ·right
   simp only [gH]
   rw [brn c]
   refine ⟨_,rfl, ?_⟩
   rw [List.drop_eq_nil_of_le (by omega)] at h2
   simpa using h2
theorem CH {l:List Ext} (hl:l.length≤4194304):ll l=some (l.flatMap e8):=by
 unfold ll
 have key:=rH (step:=gI l)
  (fun s=>0≤s.2∧s.2≤l.length∧(s.1.length:Int)=8*s.2∧s.1++(l.drop s.2.toNat).flatMap e8=l.flatMap e8) (fun s=>(l.length-s.2).toNat)
  (fun e=>e.1=l.flatMap e8) ?_ ([],0) ⟨by first|omega| (dsimp only;omega),by first|omega| (dsimp only;omega),by simp,rfl⟩
 ·obtain ⟨e,he,h⟩:=key
  rw [he];simp only [Option.bind_some,h]
 ·rintro ⟨o,t⟩ ⟨h0,h1,h3,h2⟩
  dsimp only at h0 h1 h2 h3
  by_cases c:t<(l.length:Int)
  ·left
   obtain ⟨x,r,e1,e2,e3⟩:=Oz (l:=l) (i:=t.toNat) (by omega)
   simp only [gI]
   rw [brd c,Sz h0 e1]
   simp only [Option.bind_some,Aj]
   rw [y9 (EL (by simp only [List.length_append,ey];omega)),y9 (EL (by simp only [List.length_append,ey];omega)),aa (t+1) (by omega) (by omega)]
   refine ⟨_,rfl,⟨by first|omega| (dsimp only;omega),by first|omega| (dsimp only;omega), ?_, ?_⟩,by first|omega| (dsimp only;omega)⟩
   ·simp only [List.length_append,ey];omega
   ·dsimp only
    rw [show (t+1).toNat=t.toNat+1 by omega,e2]
    rw [e1,List.flatMap_cons] at h2
    simpa [e8] using h2
  ·right
   simp only [gI]
   rw [brn c]
   refine ⟨_,rfl, ?_⟩
   rw [List.drop_eq_nil_of_le (by omega)] at h2
   simpa using h2
end Go.AI.Fn
set_option linter.unusedVariables false
namespace Go.AI.Fn
def be (w x y z:UInt8):Int:=(((w.toNat:Int)*256+x.toNat)*256+y.toNat)*256+z.toNat
theorem a8m {l:List UInt8} (h:8≤l.length): ∃a b c d e f g k r,l=a::b::c::d::e::f::g::k::r:=by
 match l,h with
 |a::b::c::d::e::f::g::k::r,_=>exact ⟨a,b,c,d,e,f,g,k,r,rfl⟩
theorem a3B {n:Int} (x:UInt8) (h0:0≤n) (h1:n<16777216):uq .i64 (bW .i64 n 8) (IntKind.wrap .i64 (x.toNat:Int))=n*256+x.toNat:=by
 have hx:=od x
 have e1:bW .i64 n 8=n*256:=by
  have:n*2^(min (8:Int).toNat (IntKind.bits .i64))=n*256:=by
   have:(2:Int)^(min (8:Int).toNat (IntKind.bits .i64))=256:=by decide
   rw [this]
  unfold bW
  rw [this,aa _ (by omega) (by omega)]
 rw [e1,aa (x.toNat:Int) (by omega) (by omega)]
 unfold uq
 obtain ⟨m,rfl⟩:=Int.eq_ofNat_of_zero_le h0
 have e2:(BitVec.ofInt (IntKind.bits .i64) ((m:Int)*256)|||BitVec.ofInt (IntKind.bits .i64) (x.toNat:Int)).toNat=m*256+x.toNat:=by
  rw [BitVec.toNat_or,BitVec.toNat_ofInt,BitVec.toNat_ofInt]
  have b1:(((m:Int)*256)%((2^(IntKind.bits .i64):Nat):Int)).toNat=m<<<8:=by
   rw [show ((2^(IntKind.bits .i64):Nat):Int)=18446744073709551616 by decide,Nat.shiftLeft_eq];omega
  have b2:((x.toNat:Int)%((2^(IntKind.bits .i64):Nat):Int)).toNat=x.toNat:=by
   rw [show ((2^(IntKind.bits .i64):Nat):Int)=18446744073709551616 by decide];omega
  rw [b1,b2, ←Nat.shiftLeft_add_eq_or_of_lt (show x.toNat<2^8 by omega),Nat.shiftLeft_eq]
 rw [e2,aa _ (by omega) (by omega)]
 omega
theorem SN (w x y z:UInt8):zs [w,x,y,z]=some (be w x y z):=by
 have hw:=od w
 have hx:=od x
 have hy:=od y
 have hz:=od z
 unfold zs
 have st: ∀(n t:Int) (b:UInt8),0≤n→n<16777216→0≤t→t<4→[w,x,y,z][t.toNat]? =some b→jK [w,x,y,z] (([w,x,y,z].length:Nat):Int) (n,t)=some (.inl (n*256+b.toNat,t+1)):=by
  intro n t b h0 h1 h2 h3 h4
  simp only [jK]
  rw [brd (by simp only [List.length_cons,List.length_nil];omega),show atL [w,x,y,z] t=some b by simp [atL,h2,h4]]
  simp only [Option.bind_some]
  rw [a3B b h0 h1,aa (t+1) (by omega) (by omega)]
 rw [cj (st 0 0 w (by omega) (by omega) (by omega) (by omega) rfl),cj (st _ _ x (by omega) (by omega) (by omega) (by omega) rfl),cj (st _ _ y (by omega) (by omega) (by omega) (by omega) rfl),cj (st _ _ z (by omega) (by omega) (by omega) (by omega) rfl)]
 rw [cy (e:=(be w x y z,4,false)) ?_]
 ·rfl
 ·simp only [jK]
  rw [brn (by simp only [List.length_cons,List.length_nil];omega)]
  simp [be]
theorem a4s (n:Int) (k:Nat) (hk:k≤64) (h0:0≤n):aL .i64 n (k:Int)=n/2^k:=by
 unfold aL
 have:min ((k:Int).toNat) (IntKind.bits .i64)=k:=by simp [IntKind.bits];omega
 rw [this,Int.fdiv_eq_ediv_of_nonneg _ (by exact Int.pow_nonneg (by decide))]
end Go.AI.Fn
set_option linter.unusedVariables false
set_option linter.unusedSimpArgs false
namespace Go.AI.Fn
def Zt:List UInt8:=[97,98,115,111,114,98]
def Q2:List UInt8:=[100,114,97,119]
def Ja:List UInt8:=[103,114,105,110,100]
def a1S:List UInt8:=[115,111,117,114,99,101]
def YM (s:Source):Bool:=decide (s.Script.length≤64)&&(s.Script.all pG&&(decide (s.State.length=32)&&((decide (0≤s.At)&&decide (s.At≤1000000))&&(decide (0≤s.Count)&&decide (s.Count≤1000000)))))
structure tf (s:Source):Prop where
 len:s.Script.length≤64
 scr:eg s.Script
 st:s.State.length=32
 a0:0≤s.At
 a1:s.At≤1000000
 c0:0≤s.Count
 c1:s.Count≤1000000
theorem RG {s:Source}:YM s=true↔tf s:=by
 unfold YM
 simp only [Bool.and_eq_true,decide_eq_true_eq,FL]
 exact ⟨fun ⟨h1,h2,h3,⟨h4,h5⟩,h6,h7⟩=>⟨h1,h2,h3,h4,h5,h6,h7⟩,fun h=>⟨h.1,h.2,h.3,⟨h.4,h.5⟩,h.6,h.7⟩⟩
theorem zO (h:List UInt8):sa h=some (decide (h.length=32)):=by
 unfold sa
 congr 1
 by_cases c:h.length=32
 ·rw [decide_eq_true c,c];rfl
 ·rw [decide_eq_false c];simp;omega
theorem MO {s:Source} (hl:s.Script.length≤1099511627776):ln s=some (YM s):=by
 unfold ln YM
 rw [qW hl]
 by_cases h1:s.Script.length≤64
 ·rw [brd (by omega),decide_eq_true h1,Option.bind_some,zO,o4,o4]
  cases s.Script.all pG
  ·rfl
  ·simp only [aQ,Option.bind_some,Bool.true_and]
   cases decide (s.State.length=32)
   ·rfl
   ·simp only [aQ,Bool.true_and]
    cases (decide (0≤s.At)&&decide (s.At≤1000000))<;>rfl
 ·rw [brn (by omega),decide_eq_false h1];rfl
theorem N9 {s:Source} (hl:s.Script.length≤1099511627776):lu s=some (YM s):=by
 unfold lu YM
 rw [jv hl]
 have e:(((s.State.length:Nat):Int)==32)=decide (s.State.length=32):=by
  by_cases c:s.State.length=32
  ·rw [decide_eq_true c,c];rfl
  ·rw [decide_eq_false c];simp;omega
 by_cases h1:s.Script.length≤64
 ·rw [brd (by omega),decide_eq_true h1,Option.bind_some,wS,wS,e]
  cases s.Script.all pG
  ·rfl
  ·simp only [aQ,Option.bind_some,Bool.true_and]
   cases (decide (0≤s.At)&&decide (s.At≤1000000))
   ·simp [br]
   ·simp only [aQ,Bool.true_and]
    cases decide (s.State.length=32)<;>rfl
 ·rw [brn (by omega),decide_eq_false h1];rfl
theorem v6 (n:Int):xi n=some (dS n):=by
 unfold xi;rw [ak (by simp only [List.length_cons,List.length_nil];omega)];rfl
theorem a6q {l:List UInt8} (h:4≤l.length):l.take 4=[l.getD 0 0,l.getD 1 0,l.getD 2 0,l.getD 3 0]:=by
 match l,h with
 |a::b::c::d::r,_=>rfl
theorem TJ {n:Int} {k:Nat} (hk:k≤64) (h0:0≤n):(aL .i64 n (k:Int)==0)=decide (n<2^k):=by
 rw [a4s n k hk h0]
 have hp:(0:Int)<2^k:=Int.pow_pos (by decide)
 by_cases h:n<2^k
 ·rw [decide_eq_true h,Int.ediv_eq_zero_of_lt h0 h];rfl
 ·rw [decide_eq_false h]
  have:1≤n/2^k:=(Int.le_ediv_iff_mul_le hp).2 (by omega)
  simp;omega
def gM (st:List UInt8) (bits:Nat) (nonce:Int):Bool:=decide (((H (st++(Ja++dS nonce))).getD 0 0).toNat*256+((H (st++(Ja++dS nonce))).getD 1 0).toNat<2^(16-bits))
theorem a4l: ∀b:Nat,b≤12→(2:Int)^(32-b)=65536*((2^(16-b):Nat):Int)∧(2:Int)^(16-b)=((2^(16-b):Nat):Int):=by decide
theorem FN {s:Source} {bits:Nat} {nonce:Int} (hs:s.State.length=32) (hb:bits≤12):iA s bits nonce=some (gM s.State bits nonce):=by
 unfold iA
 have hf:[s.State,[103,114,105,110,100],dS nonce].flatten=s.State++(Ja++dS nonce):=by simp [Ja]
 have h4:(dS nonce).length=4:=ey nonce
 have h5:Ja.length=5:=rfl
 rw [ak (by omega),v6,Option.bind_some,oA (by rw [hf];simp only [List.length_append];omega) (by simp),Option.bind_some,hf]
 have hl:=uc (s.State++(Ja++dS nonce))
 unfold gM
 generalize H (s.State++(Ja++dS nonce))=h at hl
 rw [ak (by omega),nV (by omega) (by omega) (by omega),Option.bind_some]
 have e:(h.drop (Int.toNat 0)).take (Int.toNat 4-Int.toNat 0)=[h.getD 0 0,h.getD 1 0,h.getD 2 0,h.getD 3 0]:=by
  show h.take 4=_
  exact a6q (by omega)
 rw [e,SN,Option.bind_some,aa _ (by omega) (by omega),brd (by omega),show (32:Int)-(bits:Int)=((32-bits:Nat):Int) by omega]
 have b0:=od (h.getD 0 0)
 have b1:=od (h.getD 1 0)
 have b2:=od (h.getD 2 0)
 have b3:=od (h.getD 3 0)
 obtain ⟨g1,g2⟩:=a4l bits hb
 rw [TJ (by omega) (by unfold be;omega),g1]
 congr 1
 have hiff:be (h.getD 0 0) (h.getD 1 0) (h.getD 2 0) (h.getD 3 0)<65536*((2^(16-bits):Nat):Int)↔(h.getD 0 0).toNat*256+(h.getD 1 0).toNat<2^(16-bits):=by
  unfold be;omega
 exact decide_eq_decide.2 hiff
theorem G9 {s:Source} {bits:Nat} {nonce:Int} (hs:s.State.length=32) (hb:bits≤12):qM s bits nonce=some (gM s.State bits nonce):=by
 unfold qM
 have hf:s.State++[103,114,105,110,100]++dS nonce=s.State++(Ja++dS nonce):=by simp [Ja]
 have h4:(dS nonce).length=4:=ey nonce
 have h5:Ja.length=5:=rfl
 rw [ak (by simp only [List.length_cons,List.length_nil];omega),Aj,Option.bind_some,ak (by simp only [List.length_append,List.length_cons,List.length_nil];omega),hf,lG (by simp only [List.length_append];omega),Option.bind_some]
 have hl:=uc (s.State++(Ja++dS nonce))
 unfold gM
 generalize H (s.State++(Ja++dS nonce))=h at hl
 have e0:atL h 0=some (h.getD 0 0):=Qw (k:=0) (by omega)
 have e1:atL h 1=some (h.getD 1 0):=Qw (k:=1) (by omega)
 have b0:=od (h.getD 0 0)
 have b1:=od (h.getD 1 0)
 rw [e0,Option.bind_some,e1,Option.bind_some]
 simp (disch:=omega) only [aa,cT]
 rw [brd (by omega),show (16:Int)-(bits:Int)=((16-bits:Nat):Int) by omega,TJ (by omega) (by omega),(a4l bits hb).2]
 congr 1
 exact decide_eq_decide.2 (by omega)
theorem a1w (st:List UInt8) (bits:Nat):(∃n:Nat,n<65536∧gM st bits n=true∧ ∀j:Nat,j<n→gM st bits j=false)∨ ∀n:Nat,n<65536→gM st bits n=false:=by
 rcases G4 (fun k=> !gM st bits (k:Int)) 65536 with h|⟨k,hk,h1,h2⟩
 ·exact .inr fun n hn=>by simpa using h n hn
 ·exact .inl ⟨k,hk,by simpa using h1,fun j hj=>by simpa using h2 j hj⟩
open Classical in
noncomputable def ij (st:List UInt8) (bits:Nat):Option Nat:=if h: ∃n:Nat,n<65536∧gM st bits n=true∧ ∀j:Nat,j<n→gM st bits j=false then some h.choose else none
theorem CV {st:List UInt8} {bits n:Nat} (h:n<65536) (h1:gM st bits n=true) (h2: ∀j:Nat,j<n→gM st bits j=false):ij st bits=some n:=by
 have hex: ∃n:Nat,n<65536∧gM st bits n=true∧ ∀j:Nat,j<n→gM st bits j=false:=⟨n,h,h1,h2⟩
 unfold ij
 rw [dif_pos hex]
 obtain ⟨g1,g2,g3⟩:=hex.choose_spec
 congr 1
 rcases Nat.lt_trichotomy hex.choose n with hlt|heq|hgt
 ·have:=h2 _ hlt;rw [g2] at this;cases this
 ·exact heq
 ·have:=g3 _ hgt;rw [h1] at this;cases this
theorem CY {st:List UInt8} {bits:Nat} (h: ∀n:Nat,n<65536→gM st bits n=false):ij st bits=none:=by
 unfold ij
 rw [dif_neg]
 rintro ⟨n,hn,h1,_⟩
 rw [h n hn] at h1;cases h1
theorem KH {st:List UInt8} {bits n:Nat} (h:ij st bits=some n):n<65536∧gM st bits n=true∧ ∀j:Nat,j<n→gM st bits j=false:=by
 rcases a1w st bits with ⟨m,h1,h2,h3⟩|h1
 ·rw [CV h1 h2 h3] at h;cases h;exact ⟨h1,h2,h3⟩
 ·rw [CY h1] at h;cases h
theorem UD {s:Source} {bits:Nat} (hs:s.State.length=32) (hb:bits≤12):jn s bits=some (match ij s.State bits with|some n=>(n:Int)|none=> -1):=by
 unfold jn
 have key:=vr (step:=bY bits s.Script s.At s.State s.Count) (fun k=>(k:Int)) 65536 (fun k=> !gM s.State bits (k:Int)) (fun k=> .inl (k:Int)) (e:= .inr (65536,false)) (fun k hk hp=>by
  have hd:gM s.State bits (k:Int)=false:=by simpa using hp
  simp only [bY]
  rw [brd (by omega),FN (by exact hs) hb,Option.bind_some,hd,aj,aa _ (by omega) (by omega)];rfl)
  (fun k hk hp=>by
   have hd:gM s.State bits (k:Int)=true:=by simpa using hp
   simp only [bY]
   rw [brd (by omega),FN (by exact hs) hb,Option.bind_some,hd,aQ])
  (by simp only [bY];rw [brn (by decide)];rfl)
 rcases key with ⟨h1,h2⟩|⟨k,hk,h1,h3,h2⟩
 ·have e:Loop (bY bits s.Script s.At s.State s.Count) 0=some (.inr (65536,false)):=h2
  rw [e,CY fun n hn=>by simpa using h1 n hn];rfl
 ·have e:Loop (bY bits s.Script s.At s.State s.Count) 0=some (.inl (k:Int)):=h2
  rw [e,CV hk (by simpa using h1) fun j hj=>by simpa using h3 j hj];rfl
theorem UQ {s:Source} {bits:Nat} (hs:s.State.length=32) (hb:bits≤12):sr s bits=some (match ij s.State bits with|some n=>((n:Int),true)|none=>(0,false)):=by
 unfold sr
 have key:=vr (step:=dk bits s.Script s.At s.State s.Count) (fun k=>(k:Int)) 65536 (fun k=> !gM s.State bits (k:Int)) (fun k=> .inl (k:Int)) (e:= .inr (65536,false)) (fun k hk hp=>by
  have hd:gM s.State bits (k:Int)=false:=by simpa using hp
  simp only [dk]
  rw [brd (by omega),G9 (by exact hs) hb,Option.bind_some,hd,aj,aa _ (by omega) (by omega)];rfl)
  (fun k hk hp=>by
   have hd:gM s.State bits (k:Int)=true:=by simpa using hp
   simp only [dk]
   rw [brd (by omega),G9 (by exact hs) hb,Option.bind_some,hd,aQ])
  (by simp only [dk];rw [brn (by decide)];rfl)
 rcases key with ⟨h1,h2⟩|⟨k,hk,h1,h3,h2⟩
 ·have e:Loop (dk bits s.Script s.At s.State s.Count) 0=some (.inr (65536,false)):=h2
  rw [e,CY fun n hn=>by simpa using h1 n hn];rfl
 ·have e:Loop (dk bits s.Script s.At s.State s.Count) 0=some (.inl (k:Int)):=h2
  rw [e,CV hk (by simpa using h1) fun j hj=>by simpa using h3 j hj];rfl
end Go.AI.Fn
set_option linter.unusedVariables false
set_option linter.unusedSimpArgs false
namespace Go.AI.Fn
def tkM (s:Source) (t:List UInt8):Source:=⟨s.Script,s.At,H (s.State++(Zt++(dS t.length++t))),0⟩
theorem a4E {s:Source} (t:List UInt8) (h:tf s):tf (tkM s t):=⟨h.1,h.2,uc _,h.4,h.5,by simp [tkM],by simp [tkM]⟩
def beN (l:List UInt8):Int:=l.foldl (fun n c=>n*256+(c.toNat:Int)) 0
def Yq (l:List UInt8):Int:=beN l%2130706433
def mJ (s:Source):Source×Ext:=
 if s.Script.length=0 then (⟨s.Script,s.At,s.State,s.Count+1⟩,⟨Yq ((H (s.State++(Q2++dS s.Count))).take 8),Yq (((H (s.State++(Q2++dS s.Count))).drop 8).take 8)⟩)
 else (⟨s.Script,s.At+1,s.State,s.Count⟩,s.Script.getD (s.At%(s.Script.length:Int)).toNat e0)
theorem Xd (l:List UInt8):okF (Yq l):=ib _
theorem RF {s:Source} (h:tf s):okE (mJ s).2:=by
 unfold mJ
 split
 ·exact ⟨Xd _,Xd _⟩
 ·exact h.scr.getD _
theorem Yf {s:Source} (h:tf s) (ha:s.At<1000000) (hc:s.Count<1000000):tf (mJ s).1:=by
 unfold mJ
 split
 ·exact ⟨h.1,h.2,h.3,h.4,h.5,by have:=h.6;simp;omega,by simp;omega⟩
 ·exact ⟨h.1,h.2,h.3,by have:=h.4;simp;omega,by simp;omega,h.6,h.7⟩
theorem lD {s:Source} {t:List UInt8} (hs:s.State.length=32) (ht:t.length≤1000000):dP s t=some (tkM s t):=by
 unfold dP
 have h4:=ey ((t.length:Nat):Int)
 rw [ak (by simp only [List.length_cons,List.length_nil];omega),Aj,Option.bind_some,ak (by simp only [List.length_append,List.length_cons,List.length_nil];omega),
  ak (by simp only [List.length_append,List.length_cons,List.length_nil];omega),lG (by simp only [List.length_append,List.length_cons,List.length_nil];omega),Option.bind_some,tkM]
 simp [Zt]
theorem KL (l:List UInt8) (c:UInt8):beN (l++[c])=beN l*256+(c.toNat:Int):=by simp [beN,List.foldl_append]
theorem Mr {t:List UInt8} (h:t.length=8):nb t=some (Yq t):=by
 unfold nb
 have key:Loop (gN t) (0,0)=some (Yq t,8,false):=
  am (fun k=>(beN (t.take k)%2130706433,(k:Int))) 8 (fun k hk=>by
   have hk':k<t.length:=by omega
   have hb:=od t[k]
   have hm:0≤beN (t.take k)%2130706433∧beN (t.take k)%2130706433<2130706433:=by omega
   simp only [gN]
   rw [brd (by omega),bQ hk',Option.bind_some]
   simp (disch:=omega) only [aa,bp]
   rw [cp hk',KL,mX1];rfl) (by
   simp only [gN]
   rw [brn (by decide),List.take_of_length_le (by omega)];rfl)
 rw [key];rfl
theorem Gm {s:Source} (h:tf s):iK s=some (mJ s):=by
 have h1:=h.1
 have h3:=h.3
 have h4:=h.4
 have h5:=h.5
 have h6:=h.6
 have h7:=h.7
 unfold iK mJ
 by_cases hl:s.Script.length=0
 ·have hf:=ey s.Count
  rw [brn (by omega),if_pos hl,ak (by simp only [List.length_cons,List.length_nil];omega),Aj,Option.bind_some,ak (by simp only [List.length_append,List.length_cons,List.length_nil];omega),lG (by simp only [List.length_append,List.length_cons,List.length_nil];omega),Option.bind_some]
  have e:s.State++[100,114,97,119]++dS s.Count=s.State++(Q2++dS s.Count):=by simp [Q2]
  rw [e]
  have hh:=uc (s.State++(Q2++dS s.Count))
  rw [nV (by omega) (by omega) (by omega),Option.bind_some,Mr (by simp;omega),Option.bind_some,nV (by omega) (by omega) (by omega),Option.bind_some,Mr (by simp;omega),Option.bind_some,aa _ (by omega) (by omega)]
  rfl
 ·have hr:=Int.emod_nonneg s.At (b:=(s.Script.length:Int)) (by omega)
  have hr2:=Int.emod_lt_of_pos s.At (b:=(s.Script.length:Int)) (by omega)
  rw [brd (by omega),if_neg hl,brd (by omega),bp _ _ h4,aa _ (by omega) (by omega)]
  have e:atL s.Script (s.At%(s.Script.length:Int))=some (s.Script.getD (s.At%(s.Script.length:Int)).toNat e0):=by
   have:=WJ (l:=s.Script) (k:=(s.At%(s.Script.length:Int)).toNat) (by omega)
   rwa [Int.toNat_of_nonneg hr] at this
  rw [e];rfl
theorem EB {s:Source} (h:s.Script.length≤1000000):o9 s=some s:=by
 unfold o9;rw [ak (by simp;omega)];simp
theorem ZU {l:List UInt8} {scr:List Ext} (h:l.length≤1000000):yL l scr=some ⟨scr,0,H (a1S++l),0⟩:=by
 unfold yL
 rw [ak (by simp only [List.length_cons,List.length_nil];omega),lG (by simp only [List.length_append,List.length_cons,List.length_nil];omega),Option.bind_some];rfl
theorem Zm {l:List UInt8} {scr:List Ext} (h:scr.length≤64) (hs:eg scr):tf ⟨scr,0,H (a1S++l),0⟩:=⟨h,hs,uc _,by simp,by simp,by simp,by simp⟩
theorem Wf {l:List (List UInt8)} {m:bI} {B:Int} (h:Src B m) (hB:B+3<Big) (h0:1<l.length) (h1:l.length≤100): ∃x m',gk l m=some (x,m')∧x∈l∧Src (B+3) m':=by
 unfold gk
 obtain ⟨x,m1,e1,x0,x1,_,s1⟩:=kJ (n:=(l.length:Int)) h (by omega)
 rw [zh (by omega),e1,Option.bind_some]
 obtain ⟨y,hy,_,hm⟩:=Pe (l:=l) x0 (by have:=x1;omega)
 dsimp only
 rw [hy]
 exact ⟨_,_,rfl,hm,s1⟩
structure Few (s:Source) (k:Int):Prop where
 ok:tf s
 a:s.At≤k
 c:s.Count≤k
theorem Few.mono {s:Source} {j k:Int} (h:Few s j) (hk:j≤k):Few s k:=⟨h.1,by have:=h.2;omega,by have:=h.3;omega⟩
theorem Few.take {s:Source} {k:Int} (h:Few s k) (t:List UInt8):Few (tkM s t) (k+1):=⟨a4E t h.1,by have:=h.2;simp [tkM];omega,by have:=h.3;have:=h.1.c0;simp [tkM];omega⟩
theorem Few.draw {s:Source} {k:Int} (h:Few s k) (hk:k<1000000):Few (mJ s).1 (k+1):=by
 have h2:=h.2
 have h3:=h.3
 refine ⟨Yf h.1 (by omega) (by omega), ?_, ?_⟩<;>(unfold mJ;split<;>dsimp only<;>omega)
theorem WP {c4 c6:Int} {c5:List UInt8} {i B k:Int} {m:bI} {s:Source} (h:Src B m) (hs:Few s k) (hi0:0≤i) (hi:i≤4) (hk:k≤100) (hB:B+6*i<Big):
 ∃e,Loop (dm c4 c5 c6) (i,m.code,m.at_,m.seed,s.Script,s.At,s.State,s.Count)=some e∧Src (B+6*i) ⟨e.2.2.1,e.2.2.2.1,e.2.2.2.2.1⟩∧Few ⟨e.2.2.2.2.2.1,e.2.2.2.2.2.2.1,e.2.2.2.2.2.2.2.1,e.2.2.2.2.2.2.2.2⟩ (k+i):=by
 refine rH (step:=dm c4 c5 c6) (fun x=>0≤x.1∧x.1≤i∧Src (B+6*(i-x.1)) ⟨x.2.1,x.2.2.1,x.2.2.2.1⟩∧Few ⟨x.2.2.2.2.1,x.2.2.2.2.2.1,x.2.2.2.2.2.2.1,x.2.2.2.2.2.2.2⟩ (k+(i-x.1))) (fun x=>x.1.toNat) _ ?_ (i,m.code,m.at_,m.seed,s.Script,s.At,s.State,s.Count) ⟨hi0,by dsimp only;omega,h.mono (by dsimp only;omega),hs.mono (by dsimp only;omega)⟩
 rintro ⟨j,c,c2,c3,d,d2,d3,d4⟩ ⟨j0,j1,hsr,hfw⟩
 dsimp only at j0 j1 hsr hfw
 simp only [dm]
 by_cases hj:j>0
 ·left
  rw [brd hj]
  obtain ⟨b,m1,e1,s1⟩:=FW (n:=2) hsr (by omega)
  rw [e1,Option.bind_some]
  cases b
  ·dsimp only
   rw [aj,Gm hfw.1,Option.bind_some,aa _ (by omega) (by omega)]
   exact ⟨_,rfl,⟨by dsimp only;omega,by dsimp only;omega,s1.mono (by dsimp only;omega),(hfw.draw (by omega)).mono (by dsimp only;omega)⟩,by dsimp only;omega⟩
  ·dsimp only
   obtain ⟨y,m2,e2,_,s2⟩:=Wf (l:=[[],[116,101,120,116]]) s1 (by omega) (by decide) (by decide)
   have hy:y.length≤1000:=by
    have:y∈[[],[116,101,120,116]]:=by assumption
    simp only [List.mem_cons,List.mem_nil_iff,or_false] at this
    rcases this with rfl|rfl<;>simp
   rw [aQ,e2,Option.bind_some,lD (t:=y) hfw.1.3 (by omega),Option.bind_some,aa _ (by omega) (by omega)]
   exact ⟨_,rfl,⟨by dsimp only;omega,by dsimp only;omega,s2.mono (by dsimp only;omega),(hfw.take y).mono (by dsimp only;omega)⟩,by dsimp only;omega⟩
 ·right
  rw [brn hj]
  have:j=0:=by omega
  subst this
  exact ⟨_,rfl,hsr.mono (by omega),hfw.mono (by omega)⟩
theorem a26 {c4 c6:Int} {c5:List UInt8} {i B k:Int} {m:bI} {s:Source} (h:Src B m) (hs:Few s k) (hi0:0≤i) (hi:i≤4) (hk:k≤100) (hB:B+6*i<Big):
 ∃e,Loop (gz c4 c5 c6) (i,m.code,m.at_,m.seed,s.Script,s.At,s.State,s.Count)=some e∧Src (B+6*i) ⟨e.2.2.1,e.2.2.2.1,e.2.2.2.2.1⟩∧Few ⟨e.2.2.2.2.2.1,e.2.2.2.2.2.2.1,e.2.2.2.2.2.2.2.1,e.2.2.2.2.2.2.2.2⟩ (k+i):=
 WP (c4:=c4) (c5:=c5) (c6:=c6) h hs hi0 hi hk hB
theorem SZ {code:List UInt8} (h:code.length≤1048576): ∃s,so code=some s∧Few s 4:=by
 unfold so kR
 obtain ⟨m,e1,s1⟩:=FU (show code.length≤1048600 by omega)
 rw [e1,Option.bind_some]
 obtain ⟨y,m2,e2,hy,s2⟩:=Wf (l:=[[],[97],[108,97,98,101,108]]) s1 (by decide) (by decide) (by decide)
 have hyl:y.length≤1000:=by
  simp only [List.mem_cons,List.mem_nil_iff,or_false] at hy
  rcases hy with rfl|rfl|rfl<;>simp
 rw [e2,Option.bind_some,ZU (l:=y) (by omega),Option.bind_some]
 obtain ⟨b,m3,e3,s3⟩:=FW (n:=3) s2 (by decide)
 dsimp only
 rw [e3,Option.bind_some]
 cases b
 ·dsimp only
  obtain ⟨x,m4,e4,x0,x1,_,s4⟩:=kJ (n:=4) s3 (by decide)
  rw [aj,e4,Option.bind_some]
  obtain ⟨e,e5,s5,f5⟩:=a26 (c4:=0) (c5:=[]) (c6:=0) (i:=x) (k:=0) s4 (s:=⟨[],0,H (a1S++y),0⟩) ⟨Zm (by simp) eg.nil,by simp,by simp⟩ x0 (by have:=x1 (by decide);omega) (by decide) (by have:=x1 (by decide);simp only [Big];omega)
  dsimp only at e5 ⊢
  rw [e5,Option.bind_some,EB (by have:=f5.1.1;dsimp only at this ⊢;omega),Option.bind_some,Option.bind_some]
  exact ⟨_,rfl,f5.mono (by have:=x1 (by decide);omega)⟩
 ·dsimp only
  obtain ⟨n,m4,e4,n0,n1,_,s4⟩:=kJ (n:=5) s3 (by decide)
  have hn:=n1 (by decide)
  rw [aQ,e4,Option.bind_some,aa _ (by omega) (by omega)]
  obtain ⟨l,m5,e5,l0,l1,s5⟩:=X4 (n:=1+n) s4 (by omega) (by omega) (by simp only [Big];omega)
  dsimp only
  rw [e5,Option.bind_some]
  obtain ⟨x,m6,e6,x0,x1,_,s6⟩:=kJ (n:=4) s5 (by simp only [Big];omega)
  dsimp only
  rw [e6,Option.bind_some]
  obtain ⟨e,e7,s7,f7⟩:=WP (c4:=0) (c5:=[]) (c6:=0) (i:=x) (k:=0) s6 (s:=⟨l,0,H (a1S++y),0⟩) ⟨Zm (by omega) l1,by simp,by simp⟩ x0 (by have:=x1 (by decide);omega) (by decide) (by have:=x1 (by decide);simp only [Big];omega)
  dsimp only at e7 ⊢
  rw [e7,Option.bind_some,EB (by have:=f7.1.1;dsimp only at this ⊢;omega),Option.bind_some,Option.bind_some]
  exact ⟨_,rfl,f7.mono (by have:=x1 (by decide);omega)⟩
end Go.AI.Fn
set_option linter.unusedVariables false
set_option linter.unusedSimpArgs false
namespace Go.AI.Fn
theorem XF {n:Int} (x:UInt8) (h0:0≤n) (h1:n<72057594037927936):uq .u64 (bW .u64 n 8) (IntKind.wrap .u64 (x.toNat:Int))=n*256+x.toNat:=by
 have hx:=od x
 have e1:bW .u64 n 8=n*256:=by
  have:n*2^(min (8:Int).toNat (IntKind.bits .u64))=n*256:=by
   have:(2:Int)^(min (8:Int).toNat (IntKind.bits .u64))=256:=by decide
   rw [this]
  unfold bW
  rw [this,cT _ (by omega) (by omega)]
 rw [e1,cT (x.toNat:Int) (by omega) (by omega)]
 unfold uq
 obtain ⟨m,rfl⟩:=Int.eq_ofNat_of_zero_le h0
 have e2:(BitVec.ofInt (IntKind.bits .u64) ((m:Int)*256)|||BitVec.ofInt (IntKind.bits .u64) (x.toNat:Int)).toNat=m*256+x.toNat:=by
  rw [BitVec.toNat_or,BitVec.toNat_ofInt,BitVec.toNat_ofInt]
  have b1:(((m:Int)*256)%((2^(IntKind.bits .u64):Nat):Int)).toNat=m<<<8:=by
   rw [show ((2^(IntKind.bits .u64):Nat):Int)=18446744073709551616 by decide,Nat.shiftLeft_eq];omega
  have b2:((x.toNat:Int)%((2^(IntKind.bits .u64):Nat):Int)).toNat=x.toNat:=by
   rw [show ((2^(IntKind.bits .u64):Nat):Int)=18446744073709551616 by decide];omega
  rw [b1,b2, ←Nat.shiftLeft_add_eq_or_of_lt (show x.toNat<2^8 by omega),Nat.shiftLeft_eq]
 rw [e2,cT _ (by omega) (by omega)]
 omega
theorem V4: ∀(l:List UInt8) (k:Nat),k≤8→k≤l.length→0≤beN (l.take k)∧beN (l.take k)<256^k
 |l,0,_,_=>by simp [beN]
 |l,k+1,h,hl=>by
  have ⟨h0,h1⟩:=V4 l k (by omega) (by omega)
  have hb:=od l[k]
  rw [cp (by omega),KL]
  have:(256:Int)^(k+1)=256^k*256:=Int.pow_succ _ _
  rw [this]
  generalize (256:Int)^k=p at*
  omega
theorem a86: ∀k:Nat,k<8→(256:Int)^k≤72057594037927936:=by decide
theorem Hk {t:List UInt8} (h:t.length=8):w5 t=some (Yq t):=by
 unfold w5
 have key:Loop (ic t ((t.length:Nat):Int)) (0,0)=some (beN t,(t.length:Int),false):=by
  have key:=am (step:=ic t ((t.length:Nat):Int)) (fun k=>(beN (t.take k),(k:Int))) t.length (e:=(beN t,(t.length:Int),false)) (fun k hk=> ?_) ?_
  ·exact key
  ·have ⟨h0,h1⟩:=V4 t k (by omega) (by omega)
   have h2:=a86 k (by omega)
   simp only [ic]
   rw [brd (by omega),bQ hk,Option.bind_some,XF _ h0 (by omega),aa _ (by omega) (by omega),cp hk,KL];rfl
  ·simp only [ic]
   rw [brn (by omega),decide_eq_false (by omega),List.take_length]
 have ⟨h0,h1⟩:=V4 t 8 (by omega) (by omega)
 rw [List.take_of_length_le (by omega)] at h0 h1
 rw [key,Option.bind_some]
 dsimp only
 rw [bp _ _ h0,aa _ (by omega) (by omega)];rfl
theorem og {s:Source} {t:List UInt8} (hs:s.State.length=32) (ht:t.length≤1000000):cO t s=some (tkM s t):=by
 unfold cO
 have hf:[s.State,[97,98,115,111,114,98],dS ((t.length:Nat):Int),t].flatten=s.State++(Zt++(dS t.length++t)):=by simp [Zt]
 rw [ak (by omega),v6,Option.bind_some,oA (by rw [hf];simp only [List.length_append,ey,Zt,List.length_cons,List.length_nil];omega) (by simp),Option.bind_some,hf];rfl
theorem Ol {s:Source} (h:tf s):eP s=some ((mJ s).2,(mJ s).1):=by
 have h1:=h.1
 have h3:=h.3
 have h4:=h.4
 have h5:=h.5
 have h6:=h.6
 have h7:=h.7
 unfold eP mJ
 by_cases hl:s.Script.length=0
 ·have hf:=ey s.Count
  have hh:=uc (s.State++(Q2++dS s.Count))
  have e:[s.State,[100,114,97,119],dS s.Count].flatten=s.State++(Q2++dS s.Count):=by simp [Q2]
  rw [brn (by omega),if_pos hl,ak (by omega),v6,Option.bind_some,oA (by rw [e];simp only [List.length_append,ey,Q2,List.length_cons,List.length_nil];omega) (by simp),Option.bind_some,e,ak (by omega),
   nV (by omega) (by omega) (by omega),Option.bind_some,Hk (by simp;omega),Option.bind_some,nV (by omega) (by omega) (by omega),Option.bind_some,Hk (by simp;omega),Option.bind_some,aa _ (by omega) (by omega)]
  rfl
 ·have hr:=Int.emod_nonneg s.At (b:=(s.Script.length:Int)) (by omega)
  have hr2:=Int.emod_lt_of_pos s.At (b:=(s.Script.length:Int)) (by omega)
  rw [brd (by omega),if_neg hl,brd (by omega),aa (s.At+1) (by omega) (by omega),aa (s.At+1-1) (by omega) (by omega),show s.At+1-1=s.At by omega,bp _ _ h4]
  have e:atL s.Script (s.At%(s.Script.length:Int))=some (s.Script.getD (s.At%(s.Script.length:Int)).toNat e0):=by
   have:=WJ (l:=s.Script) (k:=(s.At%(s.Script.length:Int)).toNat) (by omega)
   rwa [Int.toNat_of_nonneg hr] at this
  rw [e];rfl
def drS (s:Source):Nat→Source
 |0=>s
 |j+1=>(mJ (drS s j)).1
def drL (s:Source) (n:Nat):List Ext:=(List.range n).map fun j=>(mJ (drS s j)).2
theorem kX (s:Source) (n:Nat):(drL s n).length=n:=by simp [drL]
theorem Js {s:Source} {k:Int} (h:Few s k) (hk:k≤999890): ∀j:Nat,j≤100→Few (drS s j) (k+j)
 |0,_=>h.mono (by omega)
 |j+1,hj=>((Js h hk j (by omega)).draw (by omega)).mono (by omega)
theorem Ks {s:Source} {k:Int} (h:Few s k) (hk:k≤999890) {n:Nat} (hn:n≤100):eg (drL s n):=fun x hx=>by
 obtain ⟨j,hj,rfl⟩:=List.mem_map.1 hx
 have hj:=List.mem_range.1 hj
 exact RF (Js h hk j (by omega)).1
theorem TO (s:Source) (n:Nat):drL s (n+1)=drL s n++[(mJ (drS s n)).2]:=by simp [drL,List.range_succ]
theorem M4 {s:Source} {k:Int} (h:Few s k) (hk:k≤999890) {n:Nat} (hn:n≤100):gE (n:Int) s=some (drL s n,drS s n):=by
 unfold gE
 have key:=am (step:=cP (n:Int)) (fun j=>(drL s j,(j:Int),(drS s j).Script,(drS s j).At,(drS s j).State,(drS s j).Count)) n (e:=(drL s n,(n:Int),false,(drS s n).Script,(drS s n).At,(drS s n).State,(drS s n).Count)) (fun j hj=> ?_) ?_
 ·have key':Loop (cP (n:Int)) ([],0,s.Script,s.At,s.State,s.Count)=_:=key
  rw [key'];rfl
 ·simp only [cP]
  rw [brd (by omega),Ol (Js h hk j (by omega)).1,Option.bind_some,ak (by simp only [List.length_append,kX,List.length_singleton];omega),aa _ (by omega) (by omega), ←TO];rfl
 ·simp only [cP]
  rw [brn (by omega),decide_eq_false (by omega)]
theorem Y6 {s:Source} {k:Int} (h:Few s k) (hk:k≤999890) {n:Nat} (hn:n≤100):vw s (n:Int)=some (drS s n,drL s n):=by
 unfold vw
 have key:=am (step:=g6 (n:Int) 0 [] 0) (fun j=>(drL s j,(j:Int),(drS s j).Script,(drS s j).At,(drS s j).State,(drS s j).Count)) n (e:=(drL s n,(n:Int),false,(drS s n).Script,(drS s n).At,(drS s n).State,(drS s n).Count)) (fun j hj=> ?_) ?_
 ·have key':Loop (g6 (n:Int) 0 [] 0) ([],0,s.Script,s.At,s.State,s.Count)=_:=key
  rw [key'];rfl
 ·simp only [g6]
  rw [brd (by omega),Gm (Js h hk j (by omega)).1,Option.bind_some,ak (by simp only [List.length_append,kX,List.length_singleton];omega),aa _ (by omega) (by omega), ←TO];rfl
 ·simp only [g6]
  rw [brn (by omega),decide_eq_false (by omega)]
theorem I2 {s:Source} (h:s.Script.length≤1000000):fO s=some s:=by
 unfold fO bX
 rw [ak (by omega)];rfl
theorem EN {s:Source} (h:tf s):ln s=some true:=by
 have:=h.1
 rw [MO (by omega),RG.2 h]
theorem Ff {s:Source} (h:tf s):lu s=some true:=by
 have:=h.1
 rw [N9 (by omega),RG.2 h]
variable {s:Source} {k:Int}
theorem a6D {a b c:Int} (h:a≤c) (g:b≤c):mx a b≤c:=by unfold mx;split<;>assumption
theorem AR (s:Source): ∀n,(drS s n).Script=s.Script
 |0=>rfl
 |n+1=>by
  rw [drS,mJ]
  split
  ·exact AR s n
  ·exact AR s n
theorem Tn (h:Few s k) (hk:k≤999890) {n:Nat} (hn:n≤100):ji s (n:Int)=some false:=by
 have h2:=h.2
 have h3:=h.3
 unfold ji
 rw [aa _ (by omega) (by omega),brn (by omega),decide_eq_false (by omega)]
def plM (l:List Ext) (m:Int):List Int:=l.map fun x=>x.A%m
theorem Il {l:List Ext} {m:Int} (hl:l.length≤1000) (ok:eg l) (hm:0<m):vM l m=some (plM l m):=by
 unfold vM
 have key:Loop (hG m l ((l.length:Nat):Int)) ([],0)=some (plM l m,(l.length:Int),false):=
  am (step:=hG m l ((l.length:Nat):Int)) (fun j=>(plM (l.take j) m,(j:Int))) l.length (fun j hj=>by
   simp only [hG]
   rw [brd (by omega),bQ hj,Option.bind_some,brd (by omega),ak (by simp only [List.length_append,plM,List.length_map,List.length_take,List.length_singleton];omega),aa _ (by omega) (by omega),bp _ _ (ok.get hj).1.1,cp hj]
   simp only [plM,List.map_append,List.map_cons,List.map_nil,lJ]) (by
   simp only [hG]
   rw [brn (by omega),decide_eq_false (by omega),List.take_length])
 rw [key];rfl
theorem TS {l:List Ext} {m:Int} {c c8:List Ext} {c2 c4 c5 c7 c9 c11:Int} {c3 c6 c10:List UInt8} (hl:l.length≤1000) (ok:eg l) (hm:0<m):Loop (eu (l.length:Int) m l c c2 c3 c4 c5 c6 c7 c8 c9 c10 c11) ([],0)=some (plM l m,(l.length:Int),false):=
 am (step:=eu (l.length:Int) m l c c2 c3 c4 c5 c6 c7 c8 c9 c10 c11) (fun j=>(plM (l.take j) m,(j:Int))) l.length (fun j hj=>by
  simp only [eu]
  rw [brd (by omega),bQ hj,Option.bind_some,brd (by omega),ak (by simp only [List.length_append,plM,List.length_map,List.length_take,List.length_singleton];omega),aa _ (by omega) (by omega),bp _ _ (ok.get hj).1.1,cp hj]
  simp only [plM,List.map_append,List.map_cons,List.map_nil,lJ]) (by
  simp only [eu]
  rw [brn (by omega),decide_eq_false (by omega),List.take_length])
end Go.AI.Fn
set_option linter.unusedVariables false
set_option linter.unusedSimpArgs false
namespace Go.AI.Fn
def toK (x:Ext):K:=⟨⟨x.A%2130706433,x.B%2130706433⟩,⟨ib _,ib _⟩⟩
theorem pR {x:Ext} (h:okE x):(toK x).1=x:=zy (zA h.1) (zA h.2)
theorem Dt (l:List Ext):(l.flatMap e8).length=8*l.length:=by
 induction l with
 |nil=>rfl
 |cons x l ih=>simp only [List.flatMap_cons,List.length_append,ih,a4U,List.length_cons];omega
def rsM (s:Source) (g:List K):Source:=tkM s ((kv g).flatMap e8)
def rdM (s:Source) (g:List K):K:=toK (mJ (rsM s g)).2
def nsM (s:Source) (g:List K):Source:=(mJ (rsM s g)).1
theorem xw {s:Source} {k:Int} (h:Few s k) (hk:k≤999990) (g:List K):Few (nsM s g) (k+2):=by
 have:=(h.take ((kv g).flatMap e8)).draw (by omega)
 rw [show k+1+1=k+2 by omega] at this;exact this
theorem a0d {s:Source} {k:Int} (h:Few s k) (g:List K):(rdM s g).1=(mJ (rsM s g)).2:=pR (RF (h.take _).1)
theorem KS {s:Source} (h:tf s) {g:List K} (hl:g.length≤1000):ci (kv g) s=some (rsM s g):=by
 have e:=Dt (kv g)
 rw [al] at e
 unfold ci
 rw [uf (by rw [al];omega),Option.bind_some,og h.3 (by omega)];rfl
theorem QB {s:Source} (h:tf s) {g:List K} (hl:g.length≤1000):lI s (kv g)=some (rsM s g):=by
 have e:=Dt (kv g)
 rw [al] at e
 unfold lI
 rw [CH (by rw [al];omega),Option.bind_some,lD h.3 (by omega)];rfl
theorem a1n {s:Source} {k:Int} (h:Few s k) (g:List K):eP (rsM s g)=some ((rdM s g).1,nsM s g):=by
 rw [Ol (s:=rsM s g) (h.take _).1,a0d h];rfl
theorem a4j {s:Source} {k:Int} (h:Few s k) (g:List K):iK (rsM s g)=some (nsM s g,(rdM s g).1):=by
 rw [Gm (s:=rsM s g) (h.take _).1,a0d h];rfl
def pvM (kind:Nat) (bh:List K→Source→Source):Nat→List K→List (List K)→Source→List (List K)×List K×List (List K)×Source
 |0,P,T,s=>([],[],T,s)
 |v+1,P,T,s=>(rdK kind T (2^v)::(pvM kind bh v (P++[rdM s (rdK kind T (2^v))]) (bdK (rdM s (rdK kind T (2^v))) T) (bh (P++[rdM s (rdK kind T (2^v))]) (nsM s (rdK kind T (2^v))))).1,
   rdM s (rdK kind T (2^v))::(pvM kind bh v (P++[rdM s (rdK kind T (2^v))]) (bdK (rdM s (rdK kind T (2^v))) T) (bh (P++[rdM s (rdK kind T (2^v))]) (nsM s (rdK kind T (2^v))))).2.1,
   (pvM kind bh v (P++[rdM s (rdK kind T (2^v))]) (bdK (rdM s (rdK kind T (2^v))) T) (bh (P++[rdM s (rdK kind T (2^v))]) (nsM s (rdK kind T (2^v))))).2.2)
def a1U (bh:List K→Source→Source):Prop:= ∀P s k,Few s k→k≤999990→Few (bh P s) (k+1)
variable {kind:Nat} {bh:List K→Source→Source}
theorem nT (v:Nat):2^(v+1)=2*2^v:=by rw [Nat.pow_succ,Nat.mul_comm]
theorem OkT.up {v:Nat} {T:List (List K)} (h:OkT kind (2^(v+1)) T) (r:K):OkT kind (2^v) (bdK r T):=by
 rw [nT] at h;exact h.bd r
theorem FZ: ∀(v:Nat) (P:List K) (T:List (List K)) (s:Source),(pvM kind bh v P T s).1.length=v∧(pvM kind bh v P T s).2.1.length=v
 |0,P,T,s=>⟨rfl,rfl⟩
 |v+1,P,T,s=>by simp only [pvM,List.length_cons];exact ⟨by rw [(FZ v _ _ _).1],by rw [(FZ v _ _ _).2]⟩
theorem Q0: ∀(v:Nat) (P:List K) (T:List (List K)) (s:Source),OkT kind (2^v) T→OkT kind 1 (pvM kind bh v P T s).2.2.1
 |0,P,T,s,h=>h
 |v+1,P,T,s,h=>Q0 v _ _ _ (h.up _)
theorem Zz (hb:a1U bh): ∀(v:Nat) (P:List K) (T:List (List K)) (s:Source) (k:Int),Few s k→k+3*v≤999990→Few (pvM kind bh v P T s).2.2.2 (k+3*v)
 |0,P,T,s,k,h,hk=>by rw [show k+3*((0:Nat):Int)=k by omega];exact h
 |v+1,P,T,s,k,h,hk=>by
  have:=Zz hb v (P++[rdM s (rdK kind T (2^v))]) (bdK (rdM s (rdK kind T (2^v))) T) _ _ (hb (P++[rdM s (rdK kind T (2^v))]) _ _ (xw h (by omega) (rdK kind T (2^v))) (by omega)) (by omega)
  rw [show k+2+1+3*(v:Int)=k+3*((v+1:Nat):Int) by omega] at this
  exact this
theorem Xo: ∀(v:Nat) (P:List K) (T:List (List K)) (s:Source), ∀g∈(pvM kind bh v P T s).1,g.length=kind+2
 |0,P,T,s,g,hg=>by simp [pvM] at hg
 |v+1,P,T,s,g,hg=>by
  simp only [pvM,List.mem_cons] at hg
  rcases hg with rfl|hg
  ·exact AU _ _ _
  ·exact Xo v _ _ _ g hg
theorem Vp {T:List (List K)} (h:0<T.length):atL (kvv T) 0=some (kv (T.getD 0 [])):=ut (j:=0) h
theorem Vq: ∀v:Nat,v≤6→1≤2^v∧2^v≤64:=by decide
def u6 (T:List (List K)):List K:=T.map fun t=>t.getD 0 0
theorem Yc {T:List (List K)} {j:Nat} (hj:j<T.length):(u6 T).take (j+1)=(u6 T).take j++[(T.getD j []).getD 0 0]:=by
 rw [cp (by simpa [u6] using hj)];simp [u6,hj]
theorem OW (T:List (List K)):(u6 T).length=T.length:=by simp [u6]
theorem Ys (T:List (List K)):u6 T=jY T 0:=rfl
theorem kv0 {l:List K} (h:0<l.length):atL (kv l) 0=some (l.getD 0 0).1:=dL (j:=0) h
noncomputable instance a7f:DecidableEq K:=fun a b=>Classical.propDecidable _
noncomputable def vfM (kind:Nat) (bv:Nat→Source→Source):List (List K)→Nat→K→Source→Int×List K×K×Source
 |[],i,c,s=>(0,[],c,s)
 |g::R,i,c,s=>if g.length=kind+2 then (if g.getD 0 0+g.getD 1 0=c then
   ((vfM kind bv R (i+1) (lnK g (rdM s g)) (bv i (nsM s g))).1,rdM s g::(vfM kind bv R (i+1) (lnK g (rdM s g)) (bv i (nsM s g))).2.1,(vfM kind bv R (i+1) (lnK g (rdM s g)) (bv i (nsM s g))).2.2) else (10,[],c,s)) else (18,[],c,s)
def a6t (bv:Nat→Source→Source):Prop:= ∀i s k,Few s k→k≤999990→Few (bv i s) (k+1)
variable {bv:Nat→Source→Source}
theorem P9 (hb:a6t bv): ∀(R:List (List K)) (i:Nat) (c:K) (s:Source) (k:Int),Few s k→k+3*R.length≤999990→Few (vfM kind bv R i c s).2.2.2 (k+3*R.length)
 |[],i,c,s,k,h,hk=>by rw [List.length_nil,show k+3*((0:Nat):Int)=k by omega];exact h
 |g::R,i,c,s,k,h,hk=>by
  rw [List.length_cons] at hk ⊢
  rw [vfM]
  by_cases h1:g.length=kind+2
  ·by_cases h2:g.getD 0 0+g.getD 1 0=c
   ·rw [if_pos h1,if_pos h2]
    have:=P9 hb R (i+1) (lnK g (rdM s g)) _ _ (hb i _ _ (xw h (by omega) g) (by omega)) (by omega)
    rw [show k+2+1+3*(R.length:Int)=k+3*((R.length+1:Nat):Int) by omega] at this
    exact this
   ·rw [if_pos h1,if_neg h2];exact h.mono (by omega)
  ·rw [if_neg h1];exact h.mono (by omega)
theorem W0: ∀(R:List (List K)) (i:Nat) (c:K) (s:Source),(vfM kind bv R i c s).1=0→(vfM kind bv R i c s).2.1.length=R.length
 |[],i,c,s,h=>rfl
 |g::R,i,c,s,h=>by
  rw [vfM] at h ⊢
  by_cases h1:g.length=kind+2
  ·by_cases h2:g.getD 0 0+g.getD 1 0=c
   ·rw [if_pos h1,if_pos h2] at h ⊢
    simp only [List.length_cons];rw [W0 R _ _ _ h]
   ·rw [if_pos h1,if_neg h2] at h;exact absurd (show (10:Int)=0 from h) (by decide)
  ·rw [if_neg h1] at h;exact absurd (show (18:Int)=0 from h) (by decide)
theorem a3U: ∀(v:Nat) (P:List K) (T:List (List K)) (s:Source),OkT kind (2^v) T→(∀j,j<v→ ∀s',bv (P.length+j) s'=bh ((P++(pvM kind bh v P T s).2.1).take (P.length+j+1)) s')→
 vfM kind bv (pvM kind bh v P T s).1 P.length (oX kind T (2^v)) s=(0,(pvM kind bh v P T s).2.1,oX kind (pvM kind bh v P T s).2.2.1 1,(pvM kind bh v P T s).2.2.2)
 |0,P,T,s,h,hb=>rfl
 |v+1,P,T,s,h,hb=>by
  have h2:=h
  rw [nT] at h2
  have hT: ∀i,i<4→(T.getD i []).length=2*2^v∨T.getD i []=[]:=fun i _=>by
   by_cases c:i<T.length
   ·exact .inl (h2.tab i c)
   ·exact .inr (by simp [c])
  have hk:=h.kd
  have g0:(rdK kind T (2^v)).getD 0 0=oX kind (bdK 0 T) (2^v):=by rw [rdK,o0 (by omega)];rfl
  have g1:(rdK kind T (2^v)).getD 1 0=oX kind (bdK 1 T) (2^v):=by rw [rdK,o0 (by omega)];rfl
  have hs:(rdK kind T (2^v)).getD 0 0+(rdK kind T (2^v)).getD 1 0=oX kind T (2^(v+1)):=by rw [g0,g1,nT,XL hT]
  simp only [pvM] at hb ⊢
  rw [vfM,if_pos (AU _ _ _),if_pos hs,Vg h2]
  have e0:=hb 0 (by omega) (nsM s (rdK kind T (2^v)))
  rw [Nat.add_zero,List.take_append,List.take_of_length_le (by omega),show P.length+1-P.length=1 by omega,List.take_succ_cons,List.take_zero] at e0
  rw [e0]
  have ih:=a3U v (P++[rdM s (rdK kind T (2^v))]) (bdK (rdM s (rdK kind T (2^v))) T) (bh (P++[rdM s (rdK kind T (2^v))]) (nsM s (rdK kind T (2^v)))) (h.up _) (fun j hj s'=>by
   have:=hb (j+1) (by omega) s'
   rw [List.length_append,List.length_singleton,List.append_assoc,List.singleton_append,show P.length+1+j=P.length+(j+1) by omega];exact this)
  rw [List.length_append,List.length_singleton] at ih
  rw [ih]
theorem a7z (a b:K):(a.1.A==b.1.A&&a.1.B==b.1.B)=decide (a=b):=by
 by_cases h:a=b
 ·subst h;simp
 ·rw [decide_eq_false h]
  refine Bool.eq_false_iff.2 fun e=>h ?_
  simp only [Bool.and_eq_true,beq_iff_eq] at e
  exact K.ext (zy e.1 e.2)
theorem MZ {α:Type} (a b:K) (x y:α):br (a.1.A==b.1.A) (br (a.1.B==b.1.B) x y) y=if a=b then x else y:=by
 have:=a7z a b
 cases h1:(a.1.A==b.1.A)<;>cases h2:(a.1.B==b.1.B)<;>rw [h1,h2] at this<;>simp at this<;>simp [this,br]
theorem atK {l:List K} {j:Nat} {i:Int} (hi:i=(j:Int)) (h:j<l.length):atL (kv l) i=some (l.getD j 0).1:=by subst hi;exact dL h
end Go.AI.Fn
set_option linter.unusedVariables false
set_option linter.unusedSimpArgs false
namespace Go.AI.Fn
structure OkM (l:List BC) (R C:Int):Prop where
 len:l.length≤200
 ent: ∀x∈l,inE R C x
 srt: ∀k (hk:k<l.length), ∀y∈l.take k,ltE y l[k]
end Go.AI.Fn
set_option linter.unusedVariables false
set_option linter.unusedSimpArgs false
namespace Go.AI.Fn
def xn:List K→List K→K
 |a::xs,b::ys=>a*b+xn xs ys
 |_,_=>0
theorem SD: ∀(a b:List K) (c:K),((kv a).zip (kv b)).foldl (fun c p=>eA c (eM p.1 p.2)) c.1=(c+xn a b).1
 |[],b,c=>by
  show c.1=(c+0).1
  exact congrArg Subtype.val (by exact kg)
 |_::_,[],c=>by
  show c.1=(c+0).1
  exact congrArg Subtype.val (by exact kg)
 |x::a,y::b,c=>by
  have:=SD a b (c+x*y)
  show ((kv a).zip (kv b)).foldl _ (c+x*y).1=_
  rw [this]
  exact congrArg Subtype.val (by rw [xn];exact kg)
theorem a5W (a b:List K):Yv (kv a) (kv b)=(xn a b).1:=by
 have:=SD a b 0
 rw [Yv]
 rw [show e0=(0:K).1 from rfl,this]
 exact congrArg Subtype.val (by exact kg)
end Go.AI.Fn
set_option linter.unusedVariables false
set_option linter.unusedSimpArgs false
namespace Go.AI.Fn
def rI (out:List K) (p:K):List K:=out.map (fun a=>a*(1-p))++out.map (fun a=>a*p)
def eqK (P:List K):List K:=P.foldl rI [1]
theorem a4W (out:List K) (p:K):eqS (kv out) p.1=kv (rI out p):=by
 simp only [eqS,kv,rI,List.map_append,List.map_map];rfl
theorem Z8: ∀(P out:List K),(kv P).foldl eqS (kv out)=kv (P.foldl rI out)
 |[],out=>rfl
 |p::P,out=>by
  show (kv P).foldl eqS (eqS (kv out) p.1)=_
  rw [a4W,Z8 P];rfl
theorem Rr (P:List K):eqT (kv P)=kv (eqK P):=Z8 P [1]
def gK (A out:List K):List K:=A.flatMap fun e=>out.map fun x=>x*e
theorem a3w (A out:List K) (p:K):rI (gK A out) p=gK (rI A p) out:=by
 have h: ∀(q:K) (A:List K),(gK A out).map (fun a=>a*q)=gK (A.map (fun a=>a*q)) out:=fun q A=>by
  induction A with
  |nil=>rfl
  |cons a A ih=>
   simp only [gK,List.flatMap_cons,List.map_cons,List.map_append,List.map_map] at ih ⊢
   rw [ih]
   congr 1
   refine List.map_congr_left fun x _=> ?_
   show x*a*q=x*(a*q)
   exact kg
 rw [rI,h,h,rI,gK,gK,gK,List.flatMap_append]
theorem Wk (out:List K): ∀(P A:List K),P.foldl rI (gK A out)=gK (P.foldl rI A) out
 |[],A=>rfl
 |p::P,A=>by
  show P.foldl rI (rI (gK A out) p)=_
  rw [a3w,Wk out P];rfl
theorem SM (r:K) (P:List K):eqK (r::P)=gK (eqK P) (rI [1] r):=by
 show P.foldl rI (rI [1] r)=_
 have:rI [1] r=gK [1] (rI [1] r):=by
  have h: ∀l:List K,gK [1] l=l:=fun l=>by
   show l.map (fun x=>x*1)++[]=l
   rw [List.append_nil]
   refine (List.map_congr_left fun x _=> ?_).trans (List.map_id l)
   show x*1=x
   exact kg
  rw [h]
 rw [this,Wk,h1 r];rfl
where
 h1 (r:K):gK [1] (rI [1] r)=rI [1] r:=by
  have h: ∀l:List K,gK [1] l=l:=fun l=>by
   show l.map (fun x=>x*1)++[]=l
   rw [List.append_nil]
   refine (List.map_congr_left fun x _=> ?_).trans (List.map_id l)
   show x*1=x
   exact kg
  rw [h]
theorem PU (P:List K):(eqK P).length=2^P.length:=by
 have:=Jc (kv P)
 rw [Rr,al,al] at this;exact this
theorem TN (r:K): ∀(E t:List K),t.length=2*E.length→xn t (gK E (rI [1] r))=xn (fdK r t) E
 |[],t,h=>by
  have:t=[]:=List.eq_nil_of_length_eq_zero (by simpa using h)
  subst this;rfl
 |e::E,[],h=>by simp at h
 |e::E,[a],h=>by simp at h;omega
 |e::E,a::b::t,h=>by
  have ih:=TN r E t (by simp only [List.length_cons] at h;omega)
  show a*(1*(1-r)*e)+(b*(1*r*e)+xn t (gK E (rI [1] r)))=(a+r*(b-a))*e+xn (fdK r t) E
  rw [ih];exact kg
def CZ (P t:List K):List K:=P.foldl (fun t r=>fdK r t) t
theorem Pa: ∀(P t:List K),t.length=2^P.length→xn t (eqK P)=(CZ P t).getD 0 0
 |[],t,h=>by
  match t,h with
  |[a],_=>show a*1+0=a;exact kg
 |r::P,t,h=>by
  rw [List.length_cons,nT] at h
  rw [SM,TN r _ _ (by rw [PU];exact h),Pa P _ (tM r t _ h)];rfl
theorem S8 {t P:List K} (hn:P.length≤6) (hl:t.length=2^P.length):qP (kv t) (kv P)=some (((CZ P t).getD 0 0).1,0):=by
 rw [Ry (yz _) (yz _) (by rw [al];exact hn) (by rw [al,al];exact hl),Rr,a5W,Pa P t hl]
variable {kind:Nat} {bh:List K→Source→Source}
theorem UK (i:Nat): ∀(v:Nat) (P:List K) (T:List (List K)) (s:Source),(pvM kind bh v P T s).2.2.1.getD i []=CZ (pvM kind bh v P T s).2.1 (T.getD i [])
 |0,P,T,s=>rfl
 |v+1,P,T,s=>by
  simp only [pvM]
  rw [UK i v,Ji];rfl
theorem RX (T:List (List K)) (i:Nat):(u6 T).getD i 0=(T.getD i []).getD 0 0:=Ae T 0 i
theorem a3p {T:List (List K)}:oX kind T 1=cmK kind (u6 T):=by
 show 0+cmK kind (jY T 0)=_
 rw [Ys];exact kg
end Go.AI.Fn
set_option linter.unusedVariables false
set_option linter.unusedSimpArgs false
namespace Go.AI.Fn
theorem a0q {α:Type} {g:Nat→Option α} {N:Nat} {r:α} (h: ∀n,g n=if N≤n then some r else none):lim g=some r:=by
 have hx: ∃n r,g n=some r:=⟨N,r,by rw [h,if_pos (Nat.le_refl _)]⟩
 unfold lim
 rw [dif_pos hx]
 obtain ⟨r',hr'⟩:=hx.choose_spec
 have:=h hx.choose
 rw [hr'] at this ⊢
 split at this
 ·exact this
 ·cases this
theorem Av {l:List K} {j:Nat} (h:j<l.length):l.take (j+1)=l.take j++[l.getD j 0]:=by rw [cp h];simp [h]
theorem Ap (l:List K) (x:K):kv (l++[x])=kv l++[x.1]:=by simp [kv]
theorem oe: ∀k:Nat,k≤9→1≤2^k∧2^k≤512:=by decide
theorem a2M {l:List K} {m:Nat} {w:Int} (h:l.length=2*m) (hm:m≤1000):Loop (hK (kv l) w) ([],[],0)=some (kv (evs l),kv (ods l),(l.length:Int),false):=by
 have h1:=fA l m h
 have h2:=fP l m h
 have key:=am (step:=hK (kv l) w) (fun j=>(kv ((evs l).take j),kv ((ods l).take j),((2*j:Nat):Int))) m (e:=(kv (evs l),kv (ods l),(l.length:Int),false)) (fun j hj=> ?_) ?_
 ·exact key
 ·simp only [hK]
  have e1:atL (kv l) ((2*j:Nat):Int)=some ((evs l).getD j 0).1:=by rw [dL (by omega),im]
  have e2:atL (kv l) ((2*j+1:Nat):Int)=some ((ods l).getD j 0).1:=by rw [dL (by omega),j6]
  rw [brd (by rw [al];omega),e1,Option.bind_some,ak (by rw [List.length_append,al,List.length_take,List.length_singleton];omega),aa _ (by omega) (by omega),show (((2*j:Nat):Int))+1=((2*j+1:Nat):Int) by omega,e2,Option.bind_some,
   ak (by rw [List.length_append,al,List.length_take,List.length_singleton];omega),aa _ (by omega) (by omega),show (((2*j:Nat):Int))+2=((2*(j+1):Nat):Int) by omega,Av (by omega),Av (by omega),Ap,Ap]
 ·simp only [hK]
  rw [brn (by rw [al];omega),decide_eq_false (by rw [al];omega),List.take_of_length_le (by omega),List.take_of_length_le (by omega),h]
theorem a3a {l:List K} {m:Nat} {w:Int} (h:l.length=2*m) (hm:m≤1000):Loop (ir (kv l) w (l.length:Int)) ([],[],0)=some (kv (evs l),kv (ods l),(l.length:Int),false):=by
 have h1:=fA l m h
 have h2:=fP l m h
 have key:=am (step:=ir (kv l) w (l.length:Int)) (fun j=>(kv ((evs l).take j),kv ((ods l).take j),((2*j:Nat):Int))) m (e:=(kv (evs l),kv (ods l),(l.length:Int),false)) (fun j hj=> ?_) ?_
 ·exact key
 ·simp only [ir]
  have e1:atL (kv l) ((2*j:Nat):Int)=some ((evs l).getD j 0).1:=by rw [dL (by omega),im]
  have e2:atL (kv l) ((2*j+1:Nat):Int)=some ((ods l).getD j 0).1:=by rw [dL (by omega),j6]
  rw [brd (by omega),e1,Option.bind_some,ak (by rw [List.length_append,al,List.length_take,List.length_singleton];omega),aa _ (by omega) (by omega),show (((2*j:Nat):Int))+1=((2*j+1:Nat):Int) by omega,e2,Option.bind_some,
   ak (by rw [List.length_append,al,List.length_take,List.length_singleton];omega),aa _ (by omega) (by omega),show (((2*j:Nat):Int))+2=((2*(j+1):Nat):Int) by omega,Av (by omega),Av (by omega),Ap,Ap]
 ·simp only [ir]
  rw [brn (by omega),decide_eq_false (by omega),List.take_of_length_le (by omega),List.take_of_length_le (by omega),h]
def pwI (w:Int):Nat→Int
 |0=>1
 |j+1=>mF (pwI w j) w
theorem FX (w:Int): ∀j,okF (pwI w j)
 |0=>a2i
 |j+1=>iZ _ _
theorem W2 (w:Int): ∀j,kF (pwI w j)=kF w^j
 |0=>rfl
 |j+1=>by rw [pwI,GL,W2 w j,pwS]
def D7 (h j:Nat) (lo hi:Nat→K):List Ext:=(List.range (2*h)).map fun i=>if i<h then (if i<j then (lo i).1 else e0) else if i-h<j then (hi (i-h)).1 else e0
theorem Md (h j:Nat) (lo hi:Nat→K):(D7 h j lo hi).length=2*h:=by simp [D7]
theorem OD (h:Nat) (lo hi:Nat→K):D7 h 0 lo hi=List.replicate (2*h) e0:=by
 refine List.ext_getElem (by simp [D7]) fun i h1 h2=> ?_
 simp [D7]
theorem SP {h j:Nat} {lo hi:Nat→K} (hj:j<h):((D7 h j lo hi).set j (lo j).1).set (j+h) (hi j).1=D7 h (j+1) lo hi:=by
 refine List.ext_getElem (by simp [D7]) fun i h1 h2=> ?_
 simp only [D7,List.getElem_set,List.getElem_map,List.getElem_range]
 by_cases c1:j+h=i
 ·subst c1
  rw [if_pos rfl,if_neg (by omega),if_pos (by omega),show j+h-h=j by omega]
 ·rw [if_neg c1]
  by_cases c2:j=i
  ·subst c2
   rw [if_pos rfl,if_pos hj,if_pos (by omega)]
  ·rw [if_neg c2]
   by_cases c3:i<h
   ·rw [if_pos c3,if_pos c3]
    by_cases c4:i<j
    ·rw [if_pos c4,if_pos (by omega)]
    ·rw [if_neg c4,if_neg (by omega)]
   ·rw [if_neg c3,if_neg c3]
    by_cases c4:i-h<j
    ·rw [if_pos c4,if_pos (by omega)]
    ·rw [if_neg c4,if_neg (by omega)]
theorem Ok {h:Nat} {lo hi:Nat→K}:D7 h h lo hi=kv ((List.range h).map lo++(List.range h).map hi):=by
 refine List.ext_getElem (by simp [D7,kv];omega) fun i h1 h2=> ?_
 rw [Md] at h1
 simp only [D7,kv,List.getElem_map,List.getElem_range,List.getElem_append,List.length_map,List.length_range]
 by_cases c:i<h
 ·simp [c]
 ·simp [c,show i-h<h by omega]
theorem ZI:(Ext.mk 0 0)=e0:=rfl
theorem ZY {E O:List K} {w:Int} {h:Nat} (hE:E.length=h) (hO:O.length=h) (hw:okF w) (hh:h≤1000):
 Loop (gY (kv E) (kv O) w (h:Int) (h:Int)) (List.replicate (2*h) e0,1,0)=some (kv (R7 E O (kF w) h++P8 E O (kF w) h),pwI w h,(h:Int),false):=by
 have key:=am (step:=gY (kv E) (kv O) w (h:Int) (h:Int)) (fun j=>(D7 h j (fun j=>E.getD j 0+O.getD j 0*kF w^j) (fun j=>E.getD j 0-O.getD j 0*kF w^j),pwI w j,(j:Int))) h
  (e:=(kv (R7 E O (kF w) h++P8 E O (kF w) h),pwI w h,(h:Int),false)) (fun j hj=> ?_) ?_
 ·rw [OD] at key;exact key
 ·simp only [gY,Int.toNat_natCast]
  have hx:eC (O.getD j 0).1 (pwI w j)=(O.getD j 0*kF w^j).1:=by rw [Xa, ←W2, ←uR (FX w j)];rfl
  have hl:=Md h j (fun j=>E.getD j 0+O.getD j 0*kF w^j) (fun j=>E.getD j 0-O.getD j 0*kF w^j)
  rw [aa ((j:Int)+(h:Int)) (by omega) (by omega),show (j:Int)+(h:Int)=((j+h:Nat):Int) by omega]
  simp only [Int.toNat_natCast]
  rw [brd (by omega),brd (by omega),brd (by rw [al];omega),Ao (by omega),Option.bind_some,u5 (Subtype.property _) (FX w j),Option.bind_some,hx,brd (by omega),brd (by rw [al];omega),Ao (by omega),Option.bind_some,gL (Subtype.property _) (Subtype.property _),Option.bind_some,
   brd (by omega),brd (by rw [al];omega),Option.bind_some,ie (Subtype.property _) (Subtype.property _),Option.bind_some,brd (by omega),brd (by omega),vd (by omega),Option.bind_some,brd (by omega),brd (by omega),vd (by rw [List.length_set];omega),Option.bind_some,
   ix (FX w j) hw,Option.bind_some,aa _ (by omega) (by omega), ←SP hj]
  rfl
 ·simp only [gY]
  rw [brn (by omega),decide_eq_false (by omega),Ok];rfl
theorem a0P {E O:List K} {w:Int} {h:Nat} (hE:E.length=h) (hO:O.length=h) (hw:okF w) (hh:h≤1000):
 Loop (il w ((2*h:Nat):Int) (kv E) (kv O)) (List.replicate (2*h) e0,1,0)=some (kv (R7 E O (kF w) h++P8 E O (kF w) h),pwI w h,(h:Int),false):=by
 have hhf:IntKind.wrap .i64 (((2*h:Nat):Int).tdiv 2)=(h:Int):=by rw [fC _ _ (by omega),aa _ (by omega) (by omega)];omega
 have key:=am (step:=il w ((2*h:Nat):Int) (kv E) (kv O)) (fun j=>(D7 h j (fun j=>E.getD j 0+O.getD j 0*kF w^j) (fun j=>E.getD j 0-O.getD j 0*kF w^j),pwI w j,(j:Int))) h
  (e:=(kv (R7 E O (kF w) h++P8 E O (kF w) h),pwI w h,(h:Int),false)) (fun j hj=> ?_) ?_
 ·rw [OD] at key;exact key
 ·simp only [il,Int.toNat_natCast,hhf]
  have hx:eM (O.getD j 0).1 (eN (pwI w j))=(O.getD j 0*kF w^j).1:=by rw [←W2, ←uR (FX w j)];rfl
  have hl:=Md h j (fun j=>E.getD j 0+O.getD j 0*kF w^j) (fun j=>E.getD j 0-O.getD j 0*kF w^j)
  rw [aa ((j:Int)+(h:Int)) (by omega) (by omega),show (j:Int)+(h:Int)=((j+h:Nat):Int) by omega]
  simp only [Int.toNat_natCast]
  rw [brd (by omega),dL (by omega),Option.bind_some,AS,Option.bind_some,du (Subtype.property _) (X7 (FX w j)),Option.bind_some,hx,dL (by omega),Option.bind_some,jV (Subtype.property _) (Subtype.property _),Option.bind_some,
   brd (by omega),brd (by omega),vd (by omega),Option.bind_some,Option.bind_some,nj (Subtype.property _) (Subtype.property _),Option.bind_some,brd (by omega),brd (by rw [hl];omega),vd (by rw [List.length_set];omega),Option.bind_some,
   kC (FX w j) hw,Option.bind_some,aa _ (by omega) (by omega), ←SP hj]
  rfl
 ·simp only [il,hhf]
  rw [brn (by omega),decide_eq_false (by omega),Ok];rfl
theorem nA: ∀(n k:Nat) (l:List K) (w:Int),k≤9→okF w→l.length=2^k→jj n (kv l) w=if k+1≤n then some (kv (V k l (kF w))) else none
 |0,k,l,w,_,_,_=>by rw [if_neg (by omega)];rfl
 |n+1,0,l,w,_,_,hl=>by
  rw [if_pos (by omega)]
  unfold jj bX
  rw [al,hl,bre (by simp),ak (by decide)];rfl
 |n+1,k+1,l,w,hk,hw,hl=>by
  have hp:=oe (k+1) hk
  have hp1:=oe k (by omega)
  have hs:l.length=2*2^k:=by rw [hl,Nat.pow_succ];omega
  have he:=yF hl
  have ho:=Ab hl
  have hw2:=iZ w w
  unfold jj
  rw [al,zh (by omega),a2M hs (by omega),Option.bind_some,ix hw hw,Option.bind_some]
  dsimp only
  by_cases c:k+1≤n
  ·have hE:=rp k (evs l) (kF (mF w w)) he
   have hO:=rp k (ods l) (kF (mF w w)) ho
   rw [nA n k (evs l) _ (by omega) hw2 he,if_pos c,Option.bind_some,Option.bind_some,nA n k (ods l) _ (by omega) hw2 ho,if_pos c,Option.bind_some,if_pos (by omega),al,hE,aa _ (by omega) (by omega),WD (by omega) (by omega) (by omega),show ((2:Int)*((2^k:Nat):Int)).toNat=2*2^k by omega,ZI,ZY hE hO hw (by omega),Option.bind_some,GL];rfl
  ·rw [nA n k (evs l) _ (by omega) hw2 he,if_neg c,if_neg (by omega)];rfl
theorem RE {k:Nat} {l:List K} {w:Int} (hk:k≤9) (hw:okF w) (hl:l.length=2^k):K9 (kv l) w=some (kv (V k l (kF w))):=a0q fun n=>nA n k l w hk hw hl
theorem wc: ∀(n k:Nat) (l:List K) (w:Int),k≤9→okF w→l.length=2^k→jw n (kv l) w=if k+1≤n then some (kv (V k l (kF w))) else none
 |0,k,l,w,_,_,_=>by rw [if_neg (by omega)];rfl
 |n+1,0,l,w,_,_,hl=>by
  rw [if_pos (by omega)]
  unfold jw
  rw [List.nil_append,al,hl,bre (by simp),ak (by decide)];rfl
 |n+1,k+1,l,w,hk,hw,hl=>by
  have hp:=oe (k+1) hk
  have hp1:=oe k (by omega)
  have hs:l.length=2*2^k:=by rw [hl,Nat.pow_succ];omega
  have he:=yF hl
  have ho:=Ab hl
  have hw2:=iZ w w
  unfold jw
  rw [al,zh (by omega),a3a hs (by omega),Option.bind_some,kC hw hw,Option.bind_some]
  dsimp only
  by_cases c:k+1≤n
  ·have hE:=rp k (evs l) (kF (mF w w)) he
   have hO:=rp k (ods l) (kF (mF w w)) ho
   rw [wc n k (evs l) _ (by omega) hw2 he,if_pos c,Option.bind_some,Option.bind_some,wc n k (ods l) _ (by omega) hw2 ho,if_pos c,Option.bind_some,if_pos (by omega),WD (by omega) (by omega) (by omega),hs,Int.toNat_natCast,ZI,a0P hE hO hw (by omega),Option.bind_some,GL];rfl
  ·rw [wc n k (evs l) _ (by omega) hw2 he,if_neg c,if_neg (by omega)];rfl
theorem a0e {k:Nat} {l:List K} {w:Int} (hk:k≤9) (hw:okF w) (hl:l.length=2^k):LM (kv l) w=some (kv (V k l (kF w))):=a0q fun n=>wc n k l w hk hw hl
end Go.AI.Fn
set_option linter.unusedVariables false
set_option linter.unusedSimpArgs false
namespace Go.AI.Fn
abbrev Tx:=List UInt8
def LP (t:Tx):Tx:=0::t
def Fi (a b:Tx):Tx:=1::(a++b)
def hL (t:Tx):Tx:=H (LP t)
def hN (a b:Tx):Tx:=H (Fi a b)
theorem Bm {l:List Tx} {k:Nat} (h:k<l.length):atL l (k:Int)=some (l.getD k []):=by simp [atL,h]
theorem By {t:Tx} (h:t.length≤1000000):ne t=some (LP t):=by
 unfold ne;rw [ak (by simp only [List.length_cons,List.length_nil];omega)];rfl
theorem uB {a b:Tx} (ha:a.length≤1000000) (hb:b.length≤1000000):lw a b=some (Fi a b):=by
 unfold lw
 rw [ak (by simp only [List.length_cons,List.length_nil];omega),ak (by simp only [List.length_append,List.length_cons,List.length_nil];omega)];rfl
theorem OI {t:Tx} (h:t.length≤1000000):qE t=some (hL t):=by
 unfold qE
 rw [ak (by simp only [List.length_cons,List.length_nil];omega),lG (by simp only [List.length_append,List.length_cons,List.length_nil];omega),Option.bind_some];rfl
theorem YL {a b:Tx} (ha:a.length≤1000000) (hb:b.length≤1000000):vI a b=some (hN a b):=by
 unfold vI
 rw [ak (by simp only [List.length_cons,List.length_nil];omega),ak (by simp only [List.length_append,List.length_cons,List.length_nil];omega),lG (by simp only [List.length_append,List.length_cons,List.length_nil];omega),Option.bind_some];rfl
def upL (row:List Tx):List Tx:=(List.range (row.length/2)).map fun k=>hN (row.getD (2*k) []) (row.getD (2*k+1) [])
theorem a3c (row:List Tx):(upL row).length=row.length/2:=by simp [upL]
def Hs (l:List Tx):Prop:= ∀x∈l,x.length=32
theorem a6P (row:List Tx):Hs (upL row):=fun x hx=>by
 obtain ⟨k,_,rfl⟩:=List.mem_map.1 hx;exact uc _
theorem Hs.getD {l:List Tx} (h:Hs l) {k:Nat} (hk:k<l.length):(l.getD k []).length=32:=by simp [hk];exact h _ (List.getElem_mem hk)
theorem cM {α:Type} (f:Nat→α) (k:Nat):(List.range (k+1)).map f=(List.range k).map f++[f k]:=by rw [List.range_succ,List.map_append];rfl
theorem a3C {l3:List (List Tx)} {row:List Tx} {m:Nat} (hr:Hs row) (hm:row.length=2*m) (hb:m≤1000000):Loop (jQ l3 row) ([],0)=some (upL row,((2*m:Nat):Int),false):=by
 have e:upL row=(List.range m).map fun k=>hN (row.getD (2*k) []) (row.getD (2*k+1) []):=by rw [upL,hm];simp
 rw [e]
 exact am (fun k=>((List.range k).map fun k=>hN (row.getD (2*k) []) (row.getD (2*k+1) []),((2*k:Nat):Int))) m (fun k hk=>by
  have h1:=hr.getD (k:=2*k) (by omega)
  have h2:=hr.getD (k:=2*k+1) (by omega)
  simp only [jQ]
  rw [brd (by omega),Bm (by omega),Option.bind_some,aa _ (by omega) (by omega),show (((2*k:Nat):Int))+1=((2*k+1:Nat):Int) by omega,Bm (by omega),Option.bind_some,uB (by omega) (by omega),Option.bind_some,
   tD (by simp only [Fi,List.length_cons,List.length_append];omega),Option.bind_some,ak (by simp only [List.length_append,List.length_map,List.length_range,List.length_singleton];omega),aa _ (by omega) (by omega),cM]
  rw [show (((2*k:Nat):Int))+2=((2*(k+1):Nat):Int) by omega];rfl) (by
  simp only [jQ]
  rw [brn (by omega),decide_eq_false (by omega)])
theorem a2x {l3:List (List Tx)} {row:List Tx} {m:Nat} (hr:Hs row) (hm:row.length=2*m) (hb:m≤1000000):Loop (fN l3 row) ([],0)=some (upL row,((2*m:Nat):Int),false):=by
 have e:upL row=(List.range m).map fun k=>hN (row.getD (2*k) []) (row.getD (2*k+1) []):=by rw [upL,hm];simp
 rw [e]
 exact am (fun k=>((List.range k).map fun k=>hN (row.getD (2*k) []) (row.getD (2*k+1) []),((2*k:Nat):Int))) m (fun k hk=>by
  have h1:=hr.getD (k:=2*k) (by omega)
  have h2:=hr.getD (k:=2*k+1) (by omega)
  simp only [fN]
  rw [brd (by omega),Bm (by omega),Option.bind_some,aa _ (by omega) (by omega),show (((2*k:Nat):Int))+1=((2*k+1:Nat):Int) by omega,Bm (by omega),Option.bind_some,YL (by omega) (by omega),Option.bind_some,
   ak (by simp only [List.length_append,List.length_map,List.length_range,List.length_singleton];omega),aa _ (by omega) (by omega),cM]
  rw [show (((2*k:Nat):Int))+2=((2*(k+1):Nat):Int) by omega]) (by
  simp only [fN]
  rw [brn (by omega),decide_eq_false (by omega)])
def rowAt (row:List Tx) (j:Nat):List Tx:=iU (fun _ r=>upL r) j row
theorem wi (row:List Tx) (j:Nat):rowAt row (j+1)=upL (rowAt row j):=rfl
theorem gF {row:List Tx} {k:Nat} (h:row.length=2^k): ∀j,j≤k→(rowAt row j).length=2^(k-j)
 |0,_=>by simpa [rowAt,iU] using h
 |j+1,hj=>by
  rw [wi,a3c,gF h j (by omega),show k-j=(k-(j+1))+1 by omega,Nat.pow_succ];omega
theorem Jq {row:List Tx} (h:Hs row): ∀j,Hs (rowAt row j)
 |0=>h
 |j+1=>a6P _
def gq (row:List Tx) (k:Nat):List (List Tx):=(List.range (k+1)).map (rowAt row)
theorem Vd: ∀k:Nat,k≤9→1≤2^k∧2^k≤512:=by decide
theorem rM {k j:Nat} (hj:j<k):2^(k-j)=2*2^(k-(j+1)):=by
 rw [show k-j=(k-(j+1))+1 by omega,Nat.pow_succ];omega
theorem YK {row:List Tx} {k:Nat} (hr:Hs row) (hl:row.length=2^k) (hk:k≤9):Loop i5 ([row],row)=some (gq row k,rowAt row k,false):=by
 have key:=am (step:=i5) (fun j=>(gq row j,rowAt row j)) k (e:=(gq row k,rowAt row k,false)) (fun j hj=>by
  have h1:=gF hl j (by omega)
  have h2:=rM hj
  have h3:=Vd (k-(j+1)) (by omega)
  simp only [i5]
  rw [brd (by omega),a3C (m:=2^(k-(j+1))) (Jq hr j) (by omega) (by omega),Option.bind_some]
  dsimp only
  rw [ak (by simp only [gq,List.length_append,List.length_map,List.length_range,List.length_singleton];omega)]
  rw [gq,gq,cM _ (j+1),wi]) (by
  have h1:=gF hl k (by omega)
  rw [Nat.sub_self,Nat.pow_zero] at h1
  simp only [i5]
  rw [brn (by omega),decide_eq_false (by omega)])
 exact key
theorem Yr {row:List Tx} {k:Nat} (hr:Hs row) (hl:row.length=2^k) (hk:k≤9):Loop ee ([row],row)=some (gq row k,rowAt row k,false):=by
 have key:=am (step:=ee) (fun j=>(gq row j,rowAt row j)) k (e:=(gq row k,rowAt row k,false)) (fun j hj=>by
  have h1:=gF hl j (by omega)
  have h2:=rM hj
  have h3:=Vd (k-(j+1)) (by omega)
  simp only [ee]
  rw [brd (by omega),a2x (m:=2^(k-(j+1))) (Jq hr j) (by omega) (by omega),Option.bind_some]
  dsimp only
  rw [ak (by simp only [gq,List.length_append,List.length_map,List.length_range,List.length_singleton];omega)]
  rw [gq,gq,cM _ (j+1),wi]) (by
  have h1:=gF hl k (by omega)
  rw [Nat.sub_self,Nat.pow_zero] at h1
  simp only [ee]
  rw [brn (by omega),decide_eq_false (by omega)])
 exact key
def WO (l:List Tx):Prop:= ∀x∈l,x.length≤1000
theorem ES (l:List Tx):Hs (l.map hL):=fun x hx=>by obtain ⟨y,_,rfl⟩:=List.mem_map.1 hx;exact uc _
theorem Tq {l:List Tx} {k:Nat} (hs:WO l) (hl:l.length=2^k) (hk:k≤9):zB l=some (gq (l.map hL) k):=by
 have hb:=Vd k hk
 unfold zB
 have key:Loop (jH l ((l.length:Nat):Int)) ([],0)=some (l.map hL,(l.length:Int),false):=
  am (fun j=>((l.take j).map hL,(j:Int))) l.length (fun j hj=>by
   have hx:=hs _ (List.getElem_mem hj)
   simp only [jH]
   rw [brd (by omega),bQ hj,Option.bind_some,By (by omega),Option.bind_some,tD (by simp only [LP,List.length_cons];omega),Option.bind_some,ak (by simp only [List.length_append,List.length_map,List.length_take,List.length_singleton];omega),aa _ (by omega) (by omega),cp hj,List.map_append]
   rfl) (by
   simp only [jH]
   rw [brn (by omega),decide_eq_false (by omega),List.take_length])
 rw [key,Option.bind_some]
 dsimp only
 rw [YK (ES l) (by rw [List.length_map,hl]) hk,Option.bind_some]
theorem Hh {l:List Tx} {k:Nat} (hs:WO l) (hl:l.length=2^k) (hk:k≤9):lB l=some (gq (l.map hL) k):=by
 have hb:=Vd k hk
 unfold lB
 have key:Loop (fK l) ([],0)=some (l.map hL,(l.length:Int),false):=
  am (fun j=>((l.take j).map hL,(j:Int))) l.length (fun j hj=>by
   have hx:=hs _ (List.getElem_mem hj)
   simp only [fK]
   rw [brd (by omega),bQ hj,Option.bind_some,OI (by omega),Option.bind_some,ak (by simp only [List.length_append,List.length_map,List.length_take,List.length_singleton];omega),aa _ (by omega) (by omega),cp hj,List.map_append]
   rfl) (by
   simp only [fK]
   rw [brn (by omega),decide_eq_false (by omega),List.take_length])
 rw [key,Option.bind_some]
 dsimp only
 rw [Yr (ES l) (by rw [List.length_map,hl]) hk,Option.bind_some]
def LK (row:List Tx) (k:Nat):Tx:=(rowAt row k).getD 0 []
theorem mZ (row:List Tx) (k:Nat):(gq row k).length=k+1:=by simp [gq]
theorem FC {row:List Tx} {k j:Nat} (h:j≤k):atL (gq row k) (j:Int)=some (rowAt row j):=by
 rw [bQ (by rw [mZ];omega)];simp [gq]
theorem Sw {row:List Tx} {k:Nat} (hl:row.length=2^k) (hk:k≤9):rX (gq row k)=some (LK row k):=by
 unfold rX
 have h1:=gF hl k (Nat.le_refl _)
 rw [Nat.sub_self,Nat.pow_zero] at h1
 rw [mZ,aa _ (by omega) (by omega),show (((k+1:Nat):Int))-1=(k:Int) by omega,FC (Nat.le_refl _),Option.bind_some]
 have e:=Bm (l:=rowAt row k) (k:=0) (by omega)
 rw [show ((0:Nat):Int)=0 from rfl] at e
 rw [e];rfl
theorem Ro {l:List Tx} {k:Nat} (hs:WO l) (hl:l.length=2^k) (hk:k≤9):mY l=some (LK (l.map hL) k):=by
 unfold mY
 have h1:=gF (row:=l.map hL) (k:=k) (by rw [List.length_map,hl]) k (Nat.le_refl _)
 rw [Nat.sub_self,Nat.pow_zero] at h1
 rw [Hh hs hl hk,Option.bind_some,mZ,aa _ (by omega) (by omega),show (((k+1:Nat):Int))-1=(k:Int) by omega,FC (Nat.le_refl _),Option.bind_some]
 have e:=Bm (l:=rowAt (l.map hL) k) (k:=0) (by omega)
 rw [show ((0:Nat):Int)=0 from rfl] at e
 rw [e];rfl
def sib (i:Nat):Nat:=if i%2=0 then i+1 else i-1
theorem a5s: ∀i:Nat,i<512→fT .i64 (i:Int) 1=(sib i:Int):=by decide+kernel
def gD (row:List Tx) (k i:Nat):List Tx:=(List.range k).map fun j=>(rowAt row j).getD (sib (i/2^j)) []
theorem FH (row:List Tx) (k i:Nat):(gD row k i).length=k:=by simp [gD]
theorem KW {i k j:Nat} (hi:i<2^k) (hj:j<k):i/2^j<2^(k-j):=by
 rw [Nat.div_lt_iff_lt_mul (Nat.pow_pos (by decide)), ←Nat.pow_add]
 rwa [show k-j+j=k by omega]
theorem a1G {i m:Nat} (h:i<2*m):sib i<2*m:=by unfold sib;split<;>omega
theorem EU (i j:Nat):i/2^j/2=i/2^(j+1):=by rw [Nat.div_div_eq_div_mul,Nat.pow_succ]
theorem O8 {row:List Tx} {k i j:Nat} (hl:row.length=2^k) (hk:k≤9) (hi:i<2^k) (hj:j<k):atL (rowAt row j) (fT .i64 ((i/2^j:Nat):Int) 1)=some ((rowAt row j).getD (sib (i/2^j)) []):=by
 have h1:=gF hl j (by omega)
 have h2:=KW hi hj
 have h3:=Vd (k-j) (by omega)
 have h4:=rM hj
 rw [a5s _ (by omega),Bm (by rw [h1,h4];exact a1G (by omega))]
theorem GE (q:Nat) (h:q≤1000000):IntKind.wrap .i64 (((q:Nat):Int)/2)=((q/2:Nat):Int):=by
 rw [aa _ (by omega) (by omega)];omega
theorem RJ {row:List Tx} {k i:Nat} (hl:row.length=2^k) (hk:k≤9) (hi:i<2^k):zS (gq row k) i=some (gD row k i):=by
 unfold zS
 have h8:=Vd k hk
 rw [mZ,aa _ (by omega) (by omega),nV (by omega) (by omega) (by rw [mZ];omega),Option.bind_some]
 have e:((gq row k).drop (Int.toNat 0)).take ((((k+1:Nat):Int)-1).toNat-Int.toNat 0)=(List.range k).map (rowAt row):=by
  rw [show (((k+1:Nat):Int)-1).toNat=k by omega]
  show ((gq row k).take k)=_
  rw [gq, ←List.map_take,List.take_range,Nat.min_eq_left (by omega)]
 rw [e]
 have el:((List.range k).map (rowAt row)).length=k:=by simp
 rw [el]
 have key:Loop (i9 ((List.range k).map (rowAt row)) (k:Int)) ([],(i:Int),0)=some (gD row k i,((i/2^k:Nat):Int),(k:Int),false):=by
  have key:=am (step:=i9 ((List.range k).map (rowAt row)) (k:Int)) (fun j=>(gD row j i,((i/2^j:Nat):Int),(j:Int))) k (e:=(gD row k i,((i/2^k:Nat):Int),(k:Int),false)) (fun j hj=>by
   have hq:i/2^j≤i:=Nat.div_le_self _ _
   simp only [i9]
   rw [brd (by omega),bQ (by omega),Option.bind_some,List.getElem_map,List.getElem_range,O8 hl hk hi hj,Option.bind_some,ak (by simp only [List.length_append,FH,List.length_singleton];omega),fC _ _ (by exact Int.natCast_nonneg _),GE _ (by exact Nat.le_trans hq (by omega)),aa _ (by omega) (by omega),gD,gD,cM, ←EU]
   rfl) (by
   simp only [i9]
   rw [brn (by omega),decide_eq_false (by omega)])
  simpa [gD] using key
 rw [key];rfl
theorem XG {row:List Tx} {k i:Nat} (hl:row.length=2^k) (hk:k≤9) (hi:i<2^k):vT (gq row k) i=some (gD row k i):=by
 unfold vT
 have h8:=Vd k hk
 have key:Loop (ga (gq row k)) ([],(i:Int),0)=some (gD row k i,((i/2^k:Nat):Int),(k:Int),false):=by
  have key:=am (step:=ga (gq row k)) (fun j=>(gD row j i,((i/2^j:Nat):Int),(j:Int))) k (e:=(gD row k i,((i/2^k:Nat):Int),(k:Int),false)) (fun j hj=>by
   have hq:i/2^j≤i:=Nat.div_le_self _ _
   simp only [ga,mZ]
   rw [aa ((j:Int)+1) (by omega) (by omega),brd (by omega),FC (by omega),Option.bind_some,O8 hl hk hi hj,Option.bind_some,ak (by simp only [List.length_append,FH,List.length_singleton];omega),fC _ _ (by exact Int.natCast_nonneg _),GE _ (by exact Nat.le_trans hq (by omega)),gD,gD,cM, ←EU]
   rfl) (by
   simp only [ga,mZ]
   rw [aa ((k:Int)+1) (by omega) (by omega),brn (by omega),decide_eq_false (by omega)])
  simpa [gD] using key
 rw [key];rfl
end Go.AI.Fn
set_option linter.unusedVariables false
set_option linter.unusedSimpArgs false
namespace Go.AI.Fn
def gV (i:Nat) (leaf:Tx) (path:List Tx):Nat→Tx
 |0=>LP leaf
 |j+1=>if i/2^j%2=1 then Fi (path.getD j []) (H (gV i leaf path j)) else Fi (H (gV i leaf path j)) (path.getD j [])
def w4 (i:Nat) (leaf:Tx) (path:List Tx) (j:Nat):List Tx:=(List.range (j+1)).map (gV i leaf path)
theorem lT (i:Nat) (leaf:Tx) (path:List Tx) (j:Nat):(w4 i leaf path j).length=j+1:=by simp [w4]
theorem TI {i:Nat} {leaf:Tx} {path:List Tx} {j m:Nat} (h:m≤j):atL (w4 i leaf path j) (m:Int)=some (gV i leaf path m):=by
 rw [bQ (by rw [lT];omega)];simp [w4]
theorem XV (i j:Nat):IntKind.wrap .i64 (((i/2^j:Nat):Int).tdiv 2)=((i/2^(j+1):Nat):Int)∨1000000<i:=by
 by_cases h:i≤1000000
 ·left
  rw [fC _ _ (Int.natCast_nonneg _),GE _ (Nat.le_trans (Nat.div_le_self _ _) h),EU]
 ·right;omega
theorem XP {l:List Tx} (h:Hs l):(l.any fun x=> !decide (x.length=32))=false:=by
 rw [List.any_eq_false];intro x hx;simp [h x hx]
theorem a4K {path:List Tx} (hl:path.length≤1000) (hh:Hs path):aW path=some false:=by
 unfold aW bE
 rw [ws (step:=bt path ((path.length:Nat):Int)) (p:=fun x=> !decide (x.length=32)) (f:=vx) (by omega) (fun x _=>by unfold vx;rw [zO];rfl) (fun t=>rfl),XP hh]
theorem Wb {l:List Tx} {k i:Nat} (hl:l.length=2^k) (hi:i<2^k): ∀j,j≤k→H (gV i (l.getD i []) (gD (l.map hL) k i) j)=(rowAt (l.map hL) j).getD (i/2^j) []
 |0,_=>by
  have h:i<l.length:=by omega
  simp [gV,rowAt,iU,h,hL]
 |j+1,hj=>by
  have ih:=Wb hl hi j (by omega)
  have hr:(l.map hL).length=2^k:=by rw [List.length_map,hl]
  have h1:=gF hr j (by omega)
  have h2:=KW hi (show j<k by omega)
  have h3:=rM (show j<k by omega)
  have hp:(gD (l.map hL) k i).getD j []=(rowAt (l.map hL) j).getD (sib (i/2^j)) []:=by
   have:j<k:=by omega
   simp [gD,this]
  have h5:i/2^(j+1)=i/2^j/2:=(EU i j).symm
  rw [gV,ih,hp,wi,h5]
  generalize i/2^j=q at h2
  have hu:(upL (rowAt (l.map hL) j)).getD (q/2) []=hN ((rowAt (l.map hL) j).getD (2*(q/2)) []) ((rowAt (l.map hL) j).getD (2*(q/2)+1) []):=by
   have:q/2<(rowAt (l.map hL) j).length/2:=by omega
   simp [upL,this]
  rw [hu]
  unfold hN sib
  by_cases c:q%2=1
  ·rw [if_pos c,if_neg (by omega),show 2*(q/2)=q-1 by omega,show q-1+1=q by omega]
  ·rw [if_neg c,if_pos (by omega),show 2*(q/2)=q by omega]
theorem ZB {l:List Tx} {k i:Nat} (hl:l.length=2^k) (hi:i<2^k):H (gV i (l.getD i []) (gD (l.map hL) k i) k)=LK (l.map hL) k:=by
 rw [Wb hl hi k (Nat.le_refl _),Nat.div_eq_of_lt hi];rfl
theorem a5M {l:List Tx} {k i:Nat} (hl:l.length=2^k) (hi:i<2^k):Hs (gD (l.map hL) k i):=fun x hx=>by
 obtain ⟨j,hj,rfl⟩:=List.mem_map.1 hx
 have hj:=List.mem_range.1 hj
 have hr:(l.map hL).length=2^k:=by rw [List.length_map,hl]
 have h1:=gF hr j (by omega)
 have h3:=rM hj
 have h2:=KW hi hj
 exact (Jq (ES l) j).getD (by rw [h1,h3];exact a1G (by omega))
end Go.AI.Fn
set_option linter.unusedVariables false
set_option linter.unusedSimpArgs false
namespace Go.AI.Fn
theorem a4Z: ∀k:Nat,k≤9→AD ((2^k:Nat):Int)=some (k:Int)
 |0,_=>rfl
 |1,_=>rfl
 |2,_=>rfl
 |3,_=>rfl
 |4,_=>rfl
 |5,_=>rfl
 |6,_=>rfl
 |7,_=>rfl
 |8,_=>rfl
 |9,_=>rfl
theorem a4b {k:Nat} (h:k≤9):qJ ((2^k:Nat):Int)=some (k:Int):=by
 unfold qJ
 have key:Loop (g7 ((2^k:Nat):Int)) 0=some ((k:Int),false):=
  am (step:=g7 ((2^k:Nat):Int)) (fun j=>(j:Int)) k (fun j hj=>by
   have hp:2^j<2^k:=Nat.pow_lt_pow_right (by omega) hj
   simp only [g7]
   rw [cT _ (by omega) (by omega),brd (by omega),XT (by omega),brd (by omega),aa _ (by omega) (by omega)];rfl) (by
   simp only [g7]
   rw [cT _ (by omega) (by omega),brd (by omega),XT (by omega),brn (by omega),decide_eq_false (by omega)])
 rw [key];rfl
theorem a0B (a:Int): ∀n:Nat,K.n (a^n)=K.n a^n
 |0=>by rw [Int.pow_zero,pw0];rfl
 |n+1=>by rw [Int.pow_succ,K.n_mul,a0B a n,pwS]
theorem a5F (a:Int):K.n (a%2130706433)=K.n a:=K.ext (by show eN (a%2130706433%2130706433)=eN (a%2130706433);rw [Int.emod_emod])
theorem O1 (a:Int) (n:Nat):kF (pF a n)=kF a^n:=by rw [kF,pF,a5F,a0B];rfl
def sqI:Nat→Int→Int
 |0,x=>x
 |n+1,x=>sqI n (mF x x)
theorem UM: ∀(n:Nat) (x:Int),kF (sqI n x)=kF x^2^n
 |0,x=>by rw [sqI,Nat.pow_zero,pw1]
 |n+1,x=>by rw [sqI,UM n,GL,SQ, ←Ln,Nat.pow_succ,Nat.mul_comm]
def rtK (k:Nat):K:=kF (yi k)
theorem Jk (k:Nat):rtK k=kF 3^(127*2^(24-k)):=by rw [rtK,yi,O1]
theorem a7T:sqI 23 (pF 3 127)=2130706432:=by decide+kernel
theorem a87:sqI 24 (pF 2 127)=1:=by decide+kernel
theorem a7U:kF 2130706432= -1:=K.ext (zy (by decide) rfl)
theorem a7k:kF 3^(127*2^23)= -1:=by rw [zn, ←O1, ←UM,a7T,a7U]
theorem a7Y:kF 2^(127*2^24)=1:=by rw [zn, ←O1, ←UM,a87];rfl
theorem a4i {k:Nat} (h:k≤24):Rt k (rtK k):=by
 cases k with
 |zero=>trivial
 |succ j=>
  show rtK (j+1)^2^j= -1
  rw [Jk, ←zn,Nat.mul_assoc, ←Nat.pow_add,show 24-(j+1)+j=23 by omega,a7k]
theorem a6L {k:Nat} (h:k+1≤24):rtK (k+1)*rtK (k+1)=rtK k:=by
 rw [Jk,Jk, ←Ln]
 congr 1
 rw [show 24-k=(24-(k+1))+1 by omega,Nat.pow_succ];omega
theorem a2B {k:Nat} (h:k≤24):rtK k^2^k=1:=by
 cases k with
 |zero=>
  rw [Jk,Nat.pow_zero,pw1,show 127*2^(24-0)=2*(127*2^23) by decide,Ln,a7k];exact kg
 |succ j=>
  have:=a4i h
  rw [Nat.pow_succ,Nat.mul_comm,Ln,show rtK (j+1)^2^j= -1 from this];exact kg
theorem a7l {k:Nat} (h:k≤24):2^k*(127*2^(24-k))=2130706432:=by
 rw [Nat.mul_left_comm, ←Nat.pow_add,show k+(24-k)=24 by omega]
theorem a1W {x:K} {k:Nat} (h:k≤24) (hx:x^2^k=1):x^2130706432=1:=by
 rw [←a7l h,zn,hx,Qc]
theorem a4o {a:Int} (h:kF a^2130706432=1):kF (iF a)*kF a=1:=by
 rw [iF,O1, ←pwS];exact h
theorem a7c:kF 2^2130706432=1:=by
 have:=a7Y
 rw [show 127*2^24=2130706432 by decide] at this;exact this
theorem a2d:kF (iF 2)*2=1:=a4o a7c
theorem ZS {k:Nat} (h:k≤24) (i:Nat):(rtK k^i)^2130706432=1:=a1W h (by rw [a2C,a2B h,Qc])
def fpK (k i:Nat) (a b r:K):K:=(a+b)*kF (iF 2)+r*(a-b)*(kF (iF 2)*kF (iF (pF (yi k) i)))
theorem HB (a:Int):okF (iF a):=Lr _ _
theorem a7H:okF 2:=⟨by decide,by decide⟩
theorem BS {k i:Nat} (a b r:K) (hk:k≤9) (hi:i≤1000):i4 ((2^k:Nat):Int) i a.1 b.1 r.1=some (fpK k i a b r).1:=by
 unfold i4
 rw [wu a7H,Option.bind_some,a4Z k hk,Option.bind_some,NZ (by omega),Option.bind_some,Kr (Dp k) (by omega) (by omega),Option.bind_some,gL a.2 b.2,Option.bind_some,u5 (OU _ _) (HB 2),Option.bind_some,ie a.2 b.2,Option.bind_some,
  dK r.2 (pd _ _),Option.bind_some,wu (Lr _ _),Option.bind_some,ix (HB 2) (HB _),Option.bind_some,u5 (ox _ _) (iZ _ _),Option.bind_some,gL (a48 _ _) (a48 _ _),Option.bind_some,Int.toNat_natCast,Xa,Xa, ←uR (HB 2), ←uR (iZ _ _),GL];rfl
theorem a6w {k i:Nat} (hk:k≤9) (E O r:K):fpK k i (E+O*rtK k^i) (E-O*rtK k^i) r=E+r*O:=by
 have h1:=a2d
 have h2:kF (iF (pF (yi k) i))*rtK k^i=1:=by
  have:=a4o (a:=pF (yi k) i) (by rw [O1];exact ZS (by omega) i)
  rw [O1] at this;exact this
 unfold fpK
 generalize kF (iF 2)=t at*
 generalize kF (iF (pF (yi k) i))=y at*
 generalize rtK k^i=x at*
 exact kg
def fwK (k:Nat) (W:List K) (r:K):List K:=(List.range (2^k)).map fun i=>fpK (k+1) i (W.getD i 0) (W.getD (i+2^k) 0) r
theorem sR (k:Nat) (W:List K) (r:K):(fwK k W r).length=2^k:=by simp [fwK]
theorem Br {k:Nat} {W:List K} (r:K) (hk:k+1≤9) (hW:W.length=2^(k+1)):rZ (kv W) r.1=some (kv (fwK k W r)):=by
 have hp:=oe (k+1) hk
 have hs:2^(k+1)=2*2^k:=by rw [Nat.pow_succ];omega
 unfold rZ
 have hh:IntKind.wrap .i64 (((2^(k+1):Nat):Int).tdiv 2)=((2^k:Nat):Int):=by rw [fC _ _ (by omega),aa _ (by omega) (by omega)];omega
 rw [al,hW,hh]
 have key:=am (step:=fh (kv W) ((2^k:Nat):Int) ((2^k:Nat):Int) r.1.A r.1.B) (fun j=>(kv ((List.range j).map fun i=>fpK (k+1) i (W.getD i 0) (W.getD (i+2^k) 0) r),(j:Int))) (2^k)
  (e:=(kv (fwK k W r),((2^k:Nat):Int),false)) (fun j hj=> ?_) ?_
 ·have key':Loop (fh (kv W) ((2^k:Nat):Int) ((2^k:Nat):Int) r.1.A r.1.B) ([],0)=_:=key
  rw [key'];rfl
 ·simp only [fh]
  rw [brd (by omega),dL (by omega),Option.bind_some,aa ((j:Int)+_) (by omega) (by omega),show (j:Int)+((2^k:Nat):Int)=((j+2^k:Nat):Int) by omega,dL (by omega),Option.bind_some,al,hW,
   BS _ _ r hk (by omega),Option.bind_some,ak (by simp only [List.length_append,al,List.length_map,List.length_range,List.length_singleton];omega),aa _ (by omega) (by omega),List.range_succ,List.map_append,List.map_singleton,Ap];rfl
 ·simp only [fh]
  rw [brn (by omega),decide_eq_false (by omega)];rfl
theorem a7R {k:Nat} {l:List K} (r:K) (hk:k+1≤9) (hl:l.length=2^(k+1)):fwK k (V (k+1) l (rtK (k+1))) r=V k (cb r (evs l) (ods l)) (rtK k):=by
 have he:=yF hl
 have ho:=Ab hl
 rw [ZG k _ _ _ he ho]
 have hE:=rp k _ (rtK k) he
 have hO:=rp k _ (rtK k) ho
 refine fm (by rw [sR,iT (by omega),hE]) fun j hj=> ?_
 rw [sR] at hj
 rw [fwK,o0 hj,a1p hj,Nat.add_comm j,a1B hj,gR (by omega),a6L (by omega),a6w hk]
def wE (l:List K) (n:Nat):List K:=l++List.replicate (n-l.length) 0
theorem kI {l:List K} {n:Nat} (h:l.length≤n):(wE l n).length=n:=by simp [wE];omega
theorem rF (l:List K) (n j:Nat):(wE l n).getD j 0=l.getD j 0:=by
 unfold wE
 by_cases h:j<l.length
 ·rw [a6X h]
 ·obtain ⟨i,rfl⟩: ∃i,j=l.length+i:=⟨j-l.length,by omega⟩
  rw [a76,a25];simp
theorem a3d {l:List K} {a b:Nat} (h:l.length=2*a) (hab:a≤b):evs (wE l (2*b))=wE (evs l) b:=by
 have h1:=fA l a h
 refine fm (by rw [fA _ b (kI (by omega)),kI (by omega)]) fun j _=> ?_
 rw [im,rF,rF,im]
theorem a2f {l:List K} {a b:Nat} (h:l.length=2*a) (hab:a≤b):ods (wE l (2*b))=wE (ods l) b:=by
 have h1:=fP l a h
 refine fm (by rw [fP _ b (kI (by omega)),kI (by omega)]) fun j _=> ?_
 rw [j6,rF,rF,j6]
theorem a5j {r:K} {a b:List K} {n:Nat} (h:a.length=b.length) (hn:a.length≤n):cb r (wE a n) (wE b n)=wE (cb r a b) n:=by
 have h1:=kI (l:=a) hn
 have h2:=kI (l:=b) (n:=n) (by omega)
 have h3:=iT (r:=r) h
 have h4:=iT (r:=r) (a:=wE a n) (b:=wE b n) (by omega)
 have h5:=kI (l:=cb r a b) (n:=n) (by omega)
 refine fm (by rw [h4,h1,h5]) fun j _=> ?_
 rw [gR (by omega),rF,rF,rF,gR h]
def Enc (m t:Nat) (l:List K):List K:=V (m+t) (wE l (2^(m+t))) (rtK (m+t))
theorem rJ (m t:Nat):2^m≤2^(m+t):=Nat.pow_le_pow_right (by omega) (by omega)
theorem DU {m t:Nat} {l:List K} (h:l.length=2^m):(wE l (2^(m+t))).length=2^(m+t):=kI (by rw [h];exact rJ m t)
theorem a3G {m t:Nat} {l:List K} (h:l.length=2^m):(Enc m t l).length=2^(m+t):=rp _ _ _ (DU h)
theorem a1c {m t:Nat} {l:List K} (r:K) (hk:m+t+1≤9) (h:l.length=2^(m+1)):fwK (m+t) (Enc (m+1) t l) r=Enc m t (cb r (evs l) (ods l)):=by
 have e:m+1+t=m+t+1:=by omega
 have hp:=rJ m t
 have h2:l.length=2*2^m:=by rw [h,Nat.pow_succ];omega
 have he:=yF h
 have ho:=Ab h
 unfold Enc
 rw [e,a7R r hk (kI (by rw [h, ←e];exact rJ _ _)),Nat.pow_succ,Nat.mul_comm,a3d h2 hp,a2f h2 hp,a5j (by omega) (by omega)]
theorem Xe: ∀m:Nat,m≤9→ ∀t:Nat,t≤9→bW .i64 ((2^m:Nat):Int) (t:Int)=((2^(m+t):Nat):Int):=by decide+kernel
theorem a1P: ∀m:Nat,m≤9→ ∀t:Nat,t≤m→aL .i64 ((2^m:Nat):Int) (t:Int)=((2^(m-t):Nat):Int):=by decide+kernel
theorem a4Y (n:Nat):kv (List.replicate n 0)=List.replicate n e0:=by rw [kv,List.map_replicate];rfl
theorem ZC (a b:List K):kv (a++b)=kv a++kv b:=by simp [kv]
theorem a0X (l:List K) (n:Nat):kv (wE l n)=kv l++List.replicate (n-l.length) e0:=by rw [wE,ZC,a4Y]
theorem EA {m t:Nat} {l:List K} (hk:m+t≤9) (h:l.length=2^m):qV (kv l) (t:Int)=some (kv (Enc m t l)):=by
 have hp:=oe (m+t) hk
 have hq:=rJ m t
 unfold qV
 have hc:Ko (List.replicate (((2^(m+t):Nat):Int).toNat) (Ext.mk 0 0)) 0 (min (kv l).length (List.replicate (((2^(m+t):Nat):Int).toNat) (Ext.mk 0 0)).length) (kv l)=kv (wE l (2^(m+t))):=by
  rw [List.length_replicate,Int.toNat_natCast,al,h,Nat.min_eq_left hq,a0X,h,Ko]
  simp [al,h,e0]
  exact List.take_of_length_le (by rw [al,h];omega)
 rw [brd (by omega),al,h,Xe m (by omega) t (by omega),WD (by omega) (by omega) (by omega), ←h, ←al l,hc]
 unfold WZ
 rw [al,DU h,a4Z _ hk,Option.bind_some,NZ (by omega),Option.bind_some,RE hk (Dp _) (DU h),Option.bind_some,Option.bind_some];rfl
theorem My {m t:Nat} {l:List K} (hk:m+t≤9) (h:l.length=2^m):oq (kv l) (t:Int)=some (kv (Enc m t l)):=by
 have hp:=oe (m+t) hk
 have hq:=rJ m t
 have hb:=oe m (by omega)
 unfold oq
 rw [List.nil_append,cT _ (by omega) (by omega),brd (by omega),al,h,ak (by omega),Xe m (by omega) t (by omega),aa _ (by omega) (by omega),y9 (by rw [Xl (by omega) (by omega) (by omega),decide_eq_true (by omega)];rfl),
  show (((2^(m+t):Nat):Int)-((2^m:Nat):Int)).toNat=2^(m+t)-2^m by omega,ZI,ak (by rw [List.length_append,al,List.length_replicate];omega),a4b hk,Option.bind_some,ON (by omega),Option.bind_some, ←h, ←a0X,a0e hk (Dp _) (DU h),Option.bind_some];rfl
theorem uk {l:List Ext} (hl:l.length≤1000000):lj l l=some true:=by
 unfold lj
 have key:Loop (fu l l) 0=some (.inr ((l.length:Int),false)):=
  am (step:=fu l l) (fun j=>(j:Int)) l.length (fun j hj=>by
   simp only [fu]
   rw [brd (by omega),bQ hj,Option.bind_some,Option.bind_some,bre rfl,bre rfl,aa _ (by omega) (by omega)];rfl) (by
   simp only [fu]
   rw [brn (by omega),decide_eq_false (by omega)])
 rw [ff rfl,key];rfl
end Go.AI.Fn
set_option linter.unusedVariables false
set_option linter.unusedSimpArgs false
namespace Go.AI.Fn
def stK (l:List K) (j:Nat):List K:=(List.range l.length).map fun m=>if m/2^j%2=1 then l.getD m 0-l.getD (m-2^j) 0 else l.getD m 0
theorem fE (l:List K) (j:Nat):(stK l j).length=l.length:=by simp [stK]
def stP (l:List K) (j i:Nat):List K:=(List.range l.length).map fun m=>if m<i∧m/2^j%2=1 then l.getD m 0-l.getD (m-2^j) 0 else l.getD m 0
theorem kN (l:List K) (j i:Nat):(stP l j i).length=l.length:=by simp [stP]
theorem Ai {l:List K} {j i m:Nat} (h:m<l.length):(stP l j i).getD m 0=if m<i∧m/2^j%2=1 then l.getD m 0-l.getD (m-2^j) 0 else l.getD m 0:=by rw [stP,o0 h]
theorem a3b (l:List K):(List.range l.length).map (fun m=>l.getD m 0)=l:=fm (by simp) fun j hj=>by
 rw [List.length_map,List.length_range] at hj;rw [o0 hj]
theorem TM (l:List K) (j:Nat):stP l j 0=l:=by
 rw [stP];exact (List.map_congr_left fun m _=>by rw [if_neg (by omega)]).trans (a3b l)
theorem Xh (l:List K) (j:Nat):stP l j l.length=stK l j:=by
 rw [stP,stK]
 refine List.map_congr_left fun m hm=> ?_
 have:=List.mem_range.1 hm
 by_cases c:m/2^j%2=1
 ·rw [if_pos ⟨this,c⟩,if_pos c]
 ·rw [if_neg fun h=>c h.2,if_neg c]
theorem T2 {l:List K} {j i:Nat} (h:i/2^j%2=0):stP l j (i+1)=stP l j i:=by
 rw [stP,stP]
 refine List.map_congr_left fun m hm=> ?_
 by_cases c:m/2^j%2=1
 ·have:m≠i:=fun e=>by subst e;omega
  by_cases c2:m<i
  ·rw [if_pos ⟨by omega,c⟩,if_pos ⟨c2,c⟩]
  ·rw [if_neg (by omega),if_neg (by omega)]
 ·rw [if_neg fun h=>c h.2,if_neg fun h=>c h.2]
theorem Wv {l:List K} {j i:Nat} (hi:i<l.length) (h:i/2^j%2=1):(stP l j i).set i (l.getD i 0-l.getD (i-2^j) 0)=stP l j (i+1):=by
 refine fm (by rw [List.length_set,kN,kN]) fun m hm=> ?_
 rw [List.length_set,kN] at hm
 rw [Ai hm]
 by_cases c:m=i
 ·subst c
  rw [if_pos ⟨by omega,h⟩]
  simp [kN,hm]
 ·have:((stP l j i).set i (l.getD i 0-l.getD (i-2^j) 0)).getD m 0=(stP l j i).getD m 0:=by
   simp [List.getElem?_set,show ¬i=m by omega]
  rw [this,Ai hm]
  by_cases c2:m/2^j%2=1
  ·by_cases c3:m<i
   ·rw [if_pos ⟨c3,c2⟩,if_pos ⟨by omega,c2⟩]
   ·rw [if_neg (by omega),if_neg (by omega)]
  ·rw [if_neg fun h=>c2 h.2,if_neg fun h=>c2 h.2]
theorem a6T: ∀i:Nat,i<64→ ∀j:Nat,j<6→(bk .i64 (i:Int) ((2^j:Nat):Int)==0)=decide (i/2^j%2=0):=by decide+kernel
theorem a7m: ∀i:Nat,i<64→ ∀j:Nat,j<6→i/2^j%2=1→fT .i64 (i:Int) ((2^j:Nat):Int)=((i-2^j:Nat):Int)∧2^j≤i∧(i-2^j)/2^j%2=0:=by decide+kernel
theorem Zf {l:List K} {j:Nat} (hl:l.length≤64) (hj:j<6):Loop (dV false ((2^j:Nat):Int)) (kv l,0)=some (kv (stK l j),(l.length:Int),false):=by
 have key:=am (step:=dV false ((2^j:Nat):Int)) (fun i=>(kv (stP l j i),(i:Int))) l.length (e:=(kv (stK l j),(l.length:Int),false)) (fun i hi=> ?_) ?_
 ·have key':Loop (dV false ((2^j:Nat):Int)) (kv (stP l j 0),0)=_:=key
  rw [TM] at key';exact key'
 ·simp only [dV]
  have hb:=a6T i (by omega) j hj
  have hlen:(kv (stP l j i)).length=l.length:=by rw [al,kN]
  have hq:1≤2^j:=Nat.one_le_two_pow
  rw [brd (by omega),hb]
  by_cases c:i/2^j%2=0
  ·rw [decide_eq_true c,aQ,aa _ (by omega) (by omega),T2 c];rfl
  ·obtain ⟨h1,h2,h3⟩:=a7m i (by omega) j hj (by omega)
   rw [decide_eq_false c,aj,aj,h1]
   simp only [Int.toNat_natCast]
   rw [brd (by omega),brd (by omega),Ao (by rw [kN];omega),Option.bind_some,brd (by omega),brd (by omega),Ao (by rw [kN];omega),Option.bind_some,Ai hi,if_neg (by omega),Ai (by omega),if_neg (by omega),nj (Subtype.property _) (Subtype.property _),Option.bind_some,brd (by omega),brd (by omega),Option.bind_some,aa _ (by omega) (by omega), ←Wv hi (by omega)]
   rw [kv,kv,List.map_set];rfl
 ·simp only [dV]
  rw [brn (by rw [al,kN];omega),decide_eq_false (by rw [al,kN];omega),Xh]
def cfK:Nat→List K→List K
 |0,l=>l
 |j+1,l=>stK (cfK j l) j
theorem j7 (l:List K): ∀j,(cfK j l).length=l.length
 |0=>rfl
 |j+1=>by rw [cfK,fE,j7 l j]
theorem Gz: ∀k:Nat,k≤6→1≤2^k∧2^k≤64:=by decide
theorem Vj {l:List K} {v:Nat} (h:l.length=2^v) (hv:v≤6):sG (kv l) false=some (kv (cfK v l)):=by
 have hp:=Gz v hv
 unfold sG
 have key:=am (step:=fi false) (fun j=>(kv (cfK j l),((2^j:Nat):Int))) v (e:=(kv (cfK v l),((2^v:Nat):Int),false)) (fun j hj=> ?_) ?_
 ·have key':Loop (fi false) (kv l,1)=_:=key
  rw [List.nil_append,ak (by rw [al];omega),key'];rfl
 ·have hlt:2^j<2^v:=Nat.pow_lt_pow_right (by omega) hj
  have hq:1≤2^j:=Nat.one_le_two_pow
  have hl:=j7 l j
  simp only [fi]
  rw [brd (by rw [al];omega),Zf (by omega) (by omega),Option.bind_some,aa _ (by omega) (by omega),Nat.pow_succ];simp [cfK]
 ·have hl:=j7 l v
  simp only [fi]
  rw [brn (by rw [al];omega),decide_eq_false (by rw [al];omega)]
theorem Ov {l:List K} {v t:Nat} (h:l.length=2^v) (hv:v≤6) (ht:v+t≤9):qR (kv l) (t:Int)=some (kv (Enc v t (cfK v l))):=by
 unfold qR
 rw [Vj h hv,Option.bind_some,My ht (by rw [j7];exact h)];rfl
theorem O5 {k i:Nat} (a b r:K) (hk:k≤9) (hi:i≤1000):iQ ((2^k:Nat):Int) i a.1 b.1 r.1=some (fpK k i a b r).1:=by
 unfold iQ i8
 rw [a4b hk,Option.bind_some,ON (by omega),Option.bind_some,M5 (Dp k) (by omega) (by omega),Option.bind_some,xz a7H,Option.bind_some,Option.bind_some,jV a.2 b.2,Option.bind_some,AS,Option.bind_some,du (OU _ _) (X7 (HB 2)),Option.bind_some,nj a.2 b.2,Option.bind_some,
  xz (Lr _ _),Option.bind_some,Option.bind_some,kC (HB 2) (HB _),Option.bind_some,AS,Option.bind_some,du (pd _ _) (X7 (iZ _ _)),Option.bind_some,du r.2 (ox _ _),Option.bind_some,jV (ox _ _) (ox _ _),Option.bind_some,Int.toNat_natCast, ←uR (HB 2), ←uR (iZ _ _),GL]
 have:(a+b)*kF (iF 2)+r*((a-b)*(kF (iF 2)*kF (iF (pF (yi k) i))))=fpK k i a b r:=by unfold fpK;exact kg
 rw [←this];rfl
theorem yI (k:Nat) (hk:k+1≤9):IntKind.wrap .i64 (((2^(k+1):Nat):Int).tdiv 2)=((2^k:Nat):Int):=by
 have hp:=oe (k+1) hk
 have hs:2^(k+1)=2*2^k:=by rw [Nat.pow_succ];omega
 rw [fC _ _ (by omega),aa _ (by omega) (by omega)];omega
theorem Vk {k:Nat} {W:List K} (r:K) (hk:k+1≤9) (hW:W.length=2^(k+1)):vv (kv W) r.1=some (kv (fwK k W r)):=by
 have hp:=oe (k+1) hk
 have hs:2^(k+1)=2*2^k:=by rw [Nat.pow_succ];omega
 have hh:=yI k hk
 unfold vv
 rw [al,hW]
 have key:=am (step:=fX (kv W) ((2^(k+1):Nat):Int) r.1.A r.1.B) (fun j=>(kv ((List.range j).map fun i=>fpK (k+1) i (W.getD i 0) (W.getD (i+2^k) 0) r),(j:Int))) (2^k)
  (e:=(kv (fwK k W r),((2^k:Nat):Int),false)) (fun j hj=> ?_) ?_
 ·have key':Loop (fX (kv W) ((2^(k+1):Nat):Int) r.1.A r.1.B) ([],0)=_:=key
  rw [key'];rfl
 ·simp only [fX,hh]
  rw [brd (by omega),dL (by omega),Option.bind_some,aa ((j:Int)+_) (by omega) (by omega),show (j:Int)+((2^k:Nat):Int)=((j+2^k:Nat):Int) by omega,dL (by omega),Option.bind_some,
   O5 _ _ r hk (by omega),Option.bind_some,ak (by simp only [List.length_append,al,List.length_map,List.length_range,List.length_singleton];omega),aa _ (by omega) (by omega),List.range_succ,List.map_append,List.map_singleton,Ap];rfl
 ·simp only [fX,hh]
  rw [brn (by omega),decide_eq_false (by omega)];rfl
def lfK (k:Nat) (W:List K) (i:Nat):List UInt8:=[(W.getD i 0).1,(W.getD (i+2^k) 0).1].flatMap e8
def lvK (k:Nat) (W:List K):List (List UInt8):=(List.range (2^k)).map (lfK k W)
theorem pI (k:Nat) (W:List K):(lvK k W).length=2^k:=by simp [lvK]
theorem a2n (k:Nat) (W:List K) (i:Nat):(lfK k W i).length=16:=by rw [lfK,Dt];rfl
theorem FM (k:Nat) (W:List K):WO (lvK k W):=fun x hx=>by
 obtain ⟨i,_,rfl⟩:=List.mem_map.1 hx;rw [a2n];omega
theorem yM {k:Nat} {W:List K} (hk:k+1≤9) (hW:W.length=2^(k+1)):ju (kv W)=some (lvK k W):=by
 have hp:=oe (k+1) hk
 have hs:2^(k+1)=2*2^k:=by rw [Nat.pow_succ];omega
 have hh:=yI k hk
 unfold ju
 rw [al,hW]
 have key:=am (step:=em (kv W) ((2^(k+1):Nat):Int)) (fun j=>((List.range j).map (lfK k W),(j:Int))) (2^k) (e:=(lvK k W,((2^k:Nat):Int),false)) (fun j hj=> ?_) ?_
 ·have key':Loop (em (kv W) ((2^(k+1):Nat):Int)) ([],0)=_:=key
  rw [key'];rfl
 ·simp only [em,hh]
  rw [brd (by omega),dL (by omega),Option.bind_some,aa ((j:Int)+_) (by omega) (by omega),show (j:Int)+((2^k:Nat):Int)=((j+2^k:Nat):Int) by omega,dL (by omega),Option.bind_some,CH (by simp),Option.bind_some,
   ak (by simp only [List.length_append,List.length_map,List.length_range,List.length_singleton];omega),aa _ (by omega) (by omega),List.range_succ,List.map_append,List.map_singleton];rfl
 ·simp only [em,hh]
  rw [brn (by omega),decide_eq_false (by omega)];rfl
def wrK (k:Nat) (W:List K):List UInt8:=LK ((lvK k W).map hL) k
theorem MA (k:Nat) (W:List K) (hk:k≤9):mY (lvK k W)=some (wrK k W):=Ro (FM k W) (pI k W) hk
theorem a2A {row:List Tx} {k:Nat} (h:Hs row) (hl:row.length=2^k):(LK row k).length=32:=(Jq h k).getD (by rw [gF hl k (Nat.le_refl k),Nat.sub_self];decide)
theorem Dv (k:Nat) (W:List K):(wrK k W).length=32:=a2A (ES _) (by rw [List.length_map,pI])
theorem HS {s:Source} {k:Int} (h:Few s k) (hk:k≤999890) {n:Nat} (hn:n≤100) {m:Int} (h1:1≤m):lN s (n:Int) m=some (drS s n,plM (drL s n) m):=by
 unfold lN
 rw [Y6 h hk (by omega),Option.bind_some]
 have:=TS (l:=drL s n) (m:=m) (c:=s.Script) (c2:=s.At) (c3:=s.State) (c4:=s.Count) (c5:=0) (c6:=[]) (c7:=0) (c8:=(drS s n).Script) (c9:=(drS s n).At) (c10:=(drS s n).State) (c11:=(drS s n).Count) (by rw [kX];omega) (Ks h hk (by omega)) (by omega)
 rw [kX] at this
 rw [this,Option.bind_some]
end Go.AI.Fn
