/- Part. -/
import Derived.Test.YtdnkignjanfikaaGreatFx3
import Derived.KernelRfl
set_option linter.unusedVariables false
namespace Go.AI
theorem cf {S E:Type} {step:S->Option (S⊕E)} {s s':S} (h:step s=some (.inl s')):Loop step s=Loop step s':=by rw [GY,h];rfl
theorem bX {S E:Type} {step:S->Option (S⊕E)} {s:S} {e:E} (h:step s=some (.inr e)):Loop step s=some e:=by rw [GY,h];rfl
theorem bu {S E:Type} {step:S->Option (S⊕E)} (F:Nat->S) (n:Nat) {e:E} (b: ∀k,k<n->step (F k)=some (.inl (F (k+1)))) (c:step (F n)=some (.inr e)):Loop step (F 0)=some e:=by
 a key: ∀m k,k+m=n->Loop step (F k)=some e:=by
   intro m
   induction m with
   |zero=>intro k d;a:k=n:=by omega
          subst this;exact bX c
   |succ m ih=>intro k d;rw [cf (b k om)];exact ih (k+1) om
 exact key n 0 om
theorem W6 (P:Nat->Bool): ∀n,(∀k,k<n->P k=true)\/ ∃k,k<n/\P k=false/\ ∀j,j<k->P j=true
 |0=> .inl om
 |n+1=>by
  rcases W6 P n with h|⟨k,b,c,d⟩
  ·cases a:P n
   ·exact .inr ⟨n,by omega,a,h⟩
   ·refine .inl fun k b=> ?_
    by_cases e:k=n
    ·subst e;exact a
    ·exact h k om
  ·exact .inr ⟨k,by omega,c,d⟩
theorem Cm {S E:Type} {step:S->Option (S⊕E)} (F:Nat->S) (n:Nat) (P:Nat->Bool) (x:Nat->E) {e:E} (b: ∀k,k<n->P k=true->step (F k)=some (.inl (F (k+1))))
 (f: ∀k,k<n->P k=false->step (F k)=some (.inr (x k))) (i:step (F n)=some (.inr e)):
 ((∀k,k<n->P k=true)/\Loop step (F 0)=some e)\/ ∃k,k<n/\P k=false/\(∀j,j<k->P j=true)/\Loop step (F 0)=some (x k):=by
 rcases W6 P n with h|⟨k,a,c,d⟩
 ·exact .inl ⟨h,bu F n (fun k a=>b k a (h k a)) i⟩
 ·exact .inr ⟨k,a,c,d,bu F k (fun j l=>b j om (d j l)) (f k a c)⟩
theorem py {S E:Type} {step:S->Option (S⊕E)} (Inv:S->Prop) (me:S->Nat) (Post:E->Prop)
 (c: ∀s,Inv s->(∃s',step s=some (.inl s')/\Inv s'/\me s'<me s)\/(∃e,step s=some (.inr e)/\Post e)):
 ∀s,Inv s-> ∃e,Loop step s=some e/\Post e:=by
 intro s
 generalize d:me s=m
 induction m using Nat.strongRecOn generalizing s with
 |_ m ih=>
  intro hi
  rw [GY]
  rcases c s hi with ⟨s',a,b,f⟩|⟨e,a,b⟩
  ·rw [a];exact ih (me s') om s' rfl b
  ·rw [a];exact ⟨e,rfl,b⟩
theorem F3 {α:Type} {c:Bool} {x y:α} (h:c=true):br c x y=x:=by subst h;rfl
theorem Rs {α:Type} {c:Bool} {x y:α} (h:c=false):br c x y=y:=by subst h;rfl
theorem brd {α:Type} {p:Prop} [Decidable p] {x y:α} (h:p):br (decide p) x y=x:=F3 (al h)
theorem brn {α:Type} {p:Prop} [Decidable p] {x y:α} (h: ¬p):br (decide p) x y=y:=Rs (ag h)
theorem G7 {α:Type} {p q:Prop} [Decidable p] [Decidable q] {x y:α} (h:p) (g:q):br (decide p&&decide q) x y=x:=F3 (by simp [h,g])
theorem bre {α:Type} {a b:Int} {x y:α} (h:a=b):br (a==b) x y=x:=F3 (by simp [h])
theorem kL {α:Type} {a b:Int} {x y:α} (h:a≠b):br (a==b) x y=y:=Rs (by simp [h])
theorem brb {α:Type} {a b:Int} {x y:α} (h:a≠b):br (a !=b) x y=x:=F3 (by simp [h])
theorem fj {α:Type} {a b:Int} {x y:α} (h:a=b):br (a !=b) x y=y:=Rs (by simp [h])
theorem WV {α:Type} {p:Prop} [Decidable p] {x y:α} (h:p):br (!decide p) x y=y:=Rs (by simp [h])
theorem Z3 {α:Type} {p:Prop} [Decidable p] {x y:α} (h: ¬p):br (!decide p) x y=x:=F3 (by simp [h])
theorem ej (a b:Int) (h:0<=a):a.tmod b=a%b:=Int.tmod_eq_emod_of_nonneg h
theorem pV (a b:Int) (h:0<=a):a.tdiv b=a/b:=Int.tdiv_eq_ediv_of_nonneg h
theorem Ai (x:UInt8):(x.toNat:Int)<256:=by a:=x.toNat_lt;omega
theorem Ps {n b:Nat} (h:n*b<=1099511627776):cP n b=true:=by simp [cP,cV,h]
theorem bt {α:Type} {n b:Nat} {x y:α} (h:n*b<=1099511627776):br (cP n b) x y=x:=F3 (Ps h)
theorem b9d {l c:Int} {b:Nat} (h0:0<=l) (a:l<=c) (d:c*b<=1099511627776):zg l c b=true:=by simp [zg,cV,h0,a,d]
theorem El {α:Type} {l c:Int} {b:Nat} {x y:α} (h0:0<=l) (a:l<=c) (d:c*b<=1099511627776):br (zg l c b) x y=x:=F3 (b9d h0 a d)
theorem H8 {α:Type} {l:List α} {i:Int} (h0:0<=i) {x:α} (h:l[i.toNat]? =some x):atL l i=some x:=by simp [atL,h0,h]
theorem ck {α:Type} {l:List α} {k:Nat} (h:k<l.length):atL l (k:Int)=some l[k]:=by simp [atL,h]
theorem hU {β:Type} {l:List Int} {i:Nat} {f:Int->Option β} (h:i<l.length):(l[i]?).bind f=f (l.getD i 0):=by simp [h]
theorem v8 {α:Type} {l:List α} {i:Nat} (h:i<l.length):l[i]? =some l[i]:=aq h
theorem c4m {α:Type} {l:List α} {i:Int} (h0:0<=i) (b:i<l.length): ∃x,atL l i=some x/\l[i.toNat]? =some x/\x∈l:=by
 a h:i.toNat<l.length:=by omega
 exact ⟨l[i.toNat],by simp [atL,h0,h],by simp [h],aZ h⟩
theorem oK {α:Type} {l:List α} {i:Nat} (h:i<l.length): ∃x r,l.drop i=x::r/\l.drop (i+1)=r/\l[i]? =some x:=
 ⟨l[i],l.drop (i+1),List.drop_eq_getElem_cons h,rfl,by simp [h]⟩
theorem a0Q {α:Type} {l r:List α} {x:α} {i:Int} (h0:0<=i) (h:l.drop i.toNat=x::r):atL l i=some x:=by
 a:l[i.toNat]? =some x:=by rw [<-List.head?_drop,h];rfl
 simp [atL,h0,this]
theorem m3 {α:Type} {l:List α} {a b:Int} (h0:0<=a) (c:a<=b) (d:b<=l.length):l6 l a b=some ((l.drop a.toNat).take (b.toNat-a.toNat)):=by
 simp [l6,h0,c,d,List.drop_take]
theorem db {α:Type} {l:List α} {k:Nat} (h:k<l.length):l.take (k+1)=l.take k++[l[k]]:=by rw [List.take_succ_eq_append_getElem h]
theorem lm (k:Nat):((k+1:Nat):Int)=(k:Int)+1:=by omega
theorem pq (n:Nat):(nZ n).length=n:=by simp [nZ]
def iU {α:Type} (f:Nat->α->α):Nat->α->α
 |0,l=>l
 |k+1,l=>f k (iU f k l)
theorem wh {f:Nat->List Int->List Int} (a: ∀k l,(f k l).length=l.length): ∀(k:Nat) (l:List Int),(iU f k l).length=l.length
 |0,l=>rfl
 |k+1,l=>by rw [iU,a,wh a k l]
end Go.AI
set_option linter.unusedSimpArgs false
namespace Go.AI.Fn
def okF (a:Int):Prop:=0<=a/\a<=2130706432
def okE (x:Ext):Prop:=okF x.A/\okF x.B
def Gg (a:Int):Bool:=decide (0<=a)&&decide (a<=2130706432)
def mY (x:Ext):Bool:=Gg x.A&&Gg x.B
theorem K6 {a:Int}:Gg a=true↔okF a:=by simp [Gg,okF]
theorem KM {x:Ext}:mY x=true↔okE x:=by simp [mY,okE,K6]
def aF (a b:Int):Int:=(a+b)%2130706433
def sF (a b:Int):Int:=(a-b)%2130706433
def mF (a b:Int):Int:=(a*b)%2130706433
def eA (x y:Ext):Ext:=⟨(x.A+y.A)%2130706433,(x.B+y.B)%2130706433⟩
def eS (x y:Ext):Ext:=⟨(x.A-y.A)%2130706433,(x.B-y.B)%2130706433⟩
def eM (x y:Ext):Ext:=⟨(x.A*y.A+3*(x.B*y.B))%2130706433,(x.A*y.B+x.B*y.A)%2130706433⟩
def eC (x:Ext) (n:Int):Ext:=⟨(x.A*n)%2130706433,(x.B*n)%2130706433⟩
def e0:Ext:=⟨0,0⟩
def e1:Ext:=⟨1,0⟩
def eN (n:Int):Ext:=⟨n,0⟩
theorem c0f:okF 3:=⟨by decide,by decide⟩
theorem b9p:okF 1:=⟨by decide,by decide⟩
theorem c5i:okF 0:=⟨by decide,by decide⟩
theorem kS (a:Int):okF (a%2130706433):=⟨by omega,by omega⟩
theorem c2f (a b:Int):okF (aF a b):=kS _
theorem c1K (a b:Int):okF (sF a b):=kS _
theorem pH (a b:Int):okF (mF a b):=kS _
theorem Vh (x y:Ext):okE (eA x y):=⟨kS _,kS _⟩
theorem yl (x y:Ext):okE (eS x y):=⟨kS _,kS _⟩
theorem rv (x y:Ext):okE (eM x y):=⟨kS _,kS _⟩
theorem b3r (x:Ext) (n:Int):okE (eC x n):=⟨kS _,kS _⟩
theorem a6y:okE e0:=⟨⟨by decide,by decide⟩,⟨by decide,by decide⟩⟩
theorem a2j:okE e1:=⟨⟨by decide,by decide⟩,⟨by decide,by decide⟩⟩
theorem a75 {n:Int} (h:okF n):okE (eN n):=⟨h,c5i⟩
theorem c4e {a b:Int} (d:okF a) (c:okF b):0<=a*b/\a*b<=4539909900063178624:=
 ⟨Int.mul_nonneg d.1 c.1,Int.le_trans (Int.mul_le_mul d.2 c.2 c.1 (by decide)) (by decide)⟩
theorem GH {a:Int} (h:okF a):a%2130706433=a:=by obtain ⟨b,c⟩:=h;omega
theorem MO {x y:Ext} (a:x.A=y.A) (b:x.B=y.B):x=y:=by cases x;cases y;cases a;cases b;rfl
theorem mA1 (a b:Int):(a%2130706433+b)%2130706433=(a+b)%2130706433:=Int.emod_add_emod _ _ _
theorem mA2 (a b:Int):(a+b%2130706433)%2130706433=(a+b)%2130706433:=Int.add_emod_emod _ _ _
theorem mM1 (a b:Int):(a%2130706433*b)%2130706433=(a*b)%2130706433:=by rw [ot,s9, <-ot]
theorem mM2 (a b:Int):(a*(b%2130706433))%2130706433=(a*b)%2130706433:=by rw [ot,s9, <-ot]
theorem mX1 (a b c:Int):(a%2130706433*b+c)%2130706433=(a*b+c)%2130706433:=by rw [<-mA1,mM1,mA1]
theorem mX4 (a b c:Int):(c+a*(b%2130706433))%2130706433=(c+a*b)%2130706433:=by rw [<-mA2,mM2,mA2]
theorem c2d {a b:Int} (c:okF a) (d:okF b):(IntKind.wrap .i64 (a+b)).tmod 2130706433=aF a b:=by
 obtain ⟨e,f⟩:=c;obtain ⟨h,i⟩:=d
 unfold aF;rw [ak _ om om,ej _ _ om]
theorem yV {a b:Int} (c:okF a) (d:okF b):Kc a b=some (aF a b):=by unfold Kc;rw [c2d c d]
theorem QS {a b:Int} (c:okF a) (d:okF b):Re a b=some (sF a b):=by
 obtain ⟨e,f⟩:=c;obtain ⟨h,i⟩:=d
 unfold Re sF;rw [ak (a-b) om om,ak _ om om,ej _ _ om]
 congr 1;omega
theorem b6H {a b:Int} (d:okF a) (e:okF b):(IntKind.wrap .i64 (a*b)).tmod 2130706433=mF a b:=by
 c h:=c4e d e
 unfold mF;rw [ak _ om om,ej _ _ om]
theorem pz {a b:Int} (c:okF a) (d:okF b):yk a b=some (mF a b):=by unfold yk;rw [b6H c d]
theorem kW {x y:Ext} (a:okE x) (b:okE y):fP x y=some (eA x y):=by
 unfold fP;rw [yV a.1 b.1,yV a.2 b.2];rfl
theorem qY {x y:Ext} (a:okE x) (b:okE y):iv x y=some (eS x y):=by
 unfold iv;rw [QS a.1 b.1,QS a.2 b.2];rfl
theorem a7g (x y:Ext):eM x y=⟨aF (mF x.A y.A) (mF 3 (mF x.B y.B)),aF (mF x.A y.B) (mF x.B y.A)⟩:=by
 unfold eM aF mF
 congr 1
 ·rw [mA1,mA2,mX4]
 ·rw [mA1,mA2]
theorem fQ {x y:Ext} (a:okE x) (b:okE y):dc x y=some (eM x y):=by
 unfold dc
 rw [pz a.1 b.1,pz a.2 b.2]
 simp only [obs]
 rw [pz c0f (pH _ _)]
 simp only [obs]
 rw [yV (pH _ _) (pH _ _),pz a.1 b.2,pz a.2 b.1]
 simp only [obs]
 rw [yV (pH _ _) (pH _ _),a7g];rfl
theorem zn {x:Ext} {n:Int} (a:okE x) (b:okF n):ik x n=some (eC x n):=by
 unfold ik;rw [pz a.1 b,pz a.2 b];rfl
theorem Ku:O8=some e1:=rfl
theorem H0 (n a b:Int):jx n a b=some (decide (a<=n)&&decide (n<=b)):=by
 unfold jx;cases decide (a<=n)<;>rfl
theorem xB (a:Int):rf a=some (Gg a):=by
 unfold rf;rw [H0];rfl
theorem tf (x:Ext):u6 x=some (mY x):=by
 unfold u6 mY;rw [xB,xB];cases Gg x.A<;>rfl
theorem Gk {a b:Int} (c:okF a) (d:okF b):rI a b=some (aF a b):=by unfold rI;rw [c2d c d]
theorem RG {a b:Int} (c:okF a) (d:okF b):yi a b=some (sF a b):=by
 obtain ⟨e,f⟩:=c;obtain ⟨h,i⟩:=d
 unfold yi sF;rw [ak (a+2130706433) om om,ak _ om om,ej _ _ om]
 congr 1;omega
theorem uX {a b:Int} (c:okF a) (d:okF b):lf a b=some (mF a b):=by unfold lf;rw [b6H c d]
theorem lz {x y:Ext} (a:okE x) (b:okE y):iX x y=some (eA x y):=by
 unfold iX;rw [Gk a.1 b.1,Gk a.2 b.2];rfl
theorem GS {x y:Ext} (a:okE x) (b:okE y):vE x y=some (eS x y):=by
 unfold vE;rw [RG a.1 b.1,RG a.2 b.2];rfl
theorem fC {x y:Ext} (a:okE x) (b:okE y):dz x y=some (eM x y):=by
 unfold dz
 c d:(IntKind.wrap .i64 (3*mF x.B y.B)).tmod 2130706433=mF 3 (mF x.B y.B):=b6H c0f (pH x.B y.B)
 rw [uX a.1 b.1,uX a.2 b.2]
 simp only [obs]
 rw [d,Gk (pH _ _) (pH _ _),uX a.1 b.2,uX a.2 b.1]
 simp only [obs]
 rw [Gk (pH _ _) (pH _ _),a7g];rfl
theorem Lr (n:Int):s6 n=some (eN n):=rfl
theorem Pw:Cd=some e1:=rfl
theorem GU {x:Ext} (a:okE x):oR x=some (eS e1 x):=by
 unfold oR;rw [Pw,obs,GS a2j a];rfl
theorem La (n a b:Int):ez n a b=some (decide (a<=n)&&decide (n<=b)):=by
 unfold ez;cases decide (a<=n)<;>rfl
theorem xc (a:Int):dy a=some (Gg a):=by
 unfold dy;rw [La];rfl
theorem QH (x:Ext):CG x=some (mY x):=by
 unfold CG mY;rw [xc,xc];cases Gg x.A<;>rfl
theorem sub_self (x:Ext):eS x x=e0:=by
 apply MO<;>simp [eS,e0]
theorem a6U (x:Ext) (n:Int):eC x n=eM x (eN n):=by
 apply MO<;>(simp only [eC,eM,eN];congr 1;grind)
end Go.AI.Fn
namespace Go.AI.Fn
def pF (a:Int) (n:Nat):Int:=(a^n)%2130706433
theorem QQ (a:Int) (n:Nat):okF (pF a n):=kS _
theorem c8u {n:Int} (h:0<=n) (b:n<9223372036854775808):cM .i64 n 1=n%2:=by
 show IntKind.wrap .i64 ((BitVec.ofInt 64 n&&&BitVec.ofInt 64 1).toNat:Int)=n%2
 a e1:(BitVec.ofInt 64 n).toNat=n.toNat:=by rw [gy];omega
 a e2:(BitVec.ofInt 64 1).toNat=1:=by decide
 rw [BitVec.toNat_and,e1,e2,Nat.and_one_is_mod,ak _ om om]
 omega
theorem c8l {n:Int} (h:0<=n):bW .i64 n 1=n/2:=by
 show n.fdiv (2^1)=n/2
 rw [kY _ (by decide)];rfl
theorem b1r {a:Int} {n:Nat} (h:n%2=0):(a*a)^(n/2)=a^n:=by
 b e:n=2*(n/2):=by omega
 b e2:a^n=a^(2*(n/2)):=by rw [<-e]
 rw [e2,Int.pow_mul,g9,g9,lj,pY]
theorem c1H {a:Int} {n:Nat} (h:n%2=1):a*(a*a)^(n/2)=a^n:=by
 b e:n=2*(n/2)+1:=by omega
 b e2:a^n=a^(2*(n/2)+1):=by rw [<-e]
 rw [e2,g9,Int.pow_mul,g9,g9,lj,pY,Int.mul_comm]
theorem a7m (a:Int) (n:Nat):((a%2130706433)^n)%2130706433=(a^n)%2130706433:=by
 induction n with
 |zero=>rw [lj,lj]
 |succ n ih=>rw [g9,g9,mM2, <-mM1,ih,mM1]
theorem a2p {a out:Int} {n:Nat} (b:0<n):(n%2=1->(mF out a*(mF a a)^(n/2))%2130706433=(out*a^n)%2130706433)/\(n%2=0->(out*(mF a a)^(n/2))%2130706433=(out*a^n)%2130706433):=by
 constructor
 ·intro h
  unfold mF
  rw [mM1, <-mM2,a7m,mM2, <-c1H h,Int.mul_assoc]
 ·intro h
  unfold mF
  rw [<-mM2,a7m,mM2,b1r h]
theorem a4G {a out n:Int} (q:okF a) (r:okF out) (h0:0<=n) (t:n<9223372036854775808): ∃e,Loop xI (a,n,out)=some e/\e.2.2.1=(out*a^n.toNat)%2130706433:=by
 refine py (step:=xI) (fun s=>okF s.1/\okF s.2.2/\0<=s.2.1/\s.2.1<9223372036854775808/\(s.2.2*s.1^s.2.1.toNat)%2130706433=(out*a^n.toNat)%2130706433) (fun s=>s.2.1.toNat) _ ?_ (a,n,out) ⟨q,r,h0,t,rfl⟩
 rintro ⟨b,k,o⟩ ⟨j,d,h,i,c⟩
 dsimp only at j d h i c
 simp only [xI]
 by_cases l:k>0
 ·left
  rw [brd l,c8u h i,c8l h,pz j j]
  f m:=a2p (a:=b) (out:=o) (n:=k.toNat) om
  f e:(k/2).toNat=k.toNat/2:=by omega
  by_cases p:k%2=1
  ·rw [bre p,pz d j]
   refine ⟨_,rfl,⟨pH _ _,pH _ _,by dsimp only;omega,by dsimp only;omega, ?_⟩,by dsimp only;omega⟩
   dsimp only
   rw [e,m.1 om,c]
  ·rw [kL p]
   refine ⟨_,rfl,⟨pH _ _,d,by dsimp only;omega,by dsimp only;omega, ?_⟩,by dsimp only;omega⟩
   dsimp only
   rw [e,m.2 om,c]
 ·right
  rw [brn l]
  refine ⟨_,rfl, ?_⟩
  f:k=0:=by omega
  subst this
  dsimp only
  rw [<-c]
  simp [GH d]
theorem Qa {a n:Int} (b:okF a) (h0:0<=n) (c:n<9223372036854775808):RV a n=some (pF a n.toNat):=by
 unfold RV
 obtain ⟨e,d,f⟩:=a4G b b9p h0 c
 rw [d,obs,f,pY];rfl
theorem a42 {a out n:Int} (q:okF a) (r:okF out) (h0:0<=n) (t:n<9223372036854775808): ∃e,Loop oq (a,n,out)=some e/\e.2.2.1=(out*a^n.toNat)%2130706433:=by
 refine py (step:=oq) (fun s=>okF s.1/\okF s.2.2/\0<=s.2.1/\s.2.1<9223372036854775808/\(s.2.2*s.1^s.2.1.toNat)%2130706433=(out*a^n.toNat)%2130706433) (fun s=>s.2.1.toNat) _ ?_ (a,n,out) ⟨q,r,h0,t,rfl⟩
 rintro ⟨b,k,o⟩ ⟨i,d,h,j,c⟩
 dsimp only at i d h j c
 simp only [oq]
 by_cases l:k>0
 ·left
  rw [brd l,ej _ _ h,pV _ _ h,ak _ om om,uX i i]
  f m:=a2p (a:=b) (out:=o) (n:=k.toNat) om
  f e:(k/2).toNat=k.toNat/2:=by omega
  by_cases p:k%2=1
  ·rw [bre p,uX d i]
   refine ⟨_,rfl,⟨pH _ _,pH _ _,by dsimp only;omega,by dsimp only;omega, ?_⟩,by dsimp only;omega⟩
   dsimp only
   rw [e,m.1 om,c]
  ·rw [kL p]
   refine ⟨_,rfl,⟨pH _ _,d,by dsimp only;omega,by dsimp only;omega, ?_⟩,by dsimp only;omega⟩
   dsimp only
   rw [e,m.2 om,c]
 ·right
  rw [brn l]
  refine ⟨_,rfl, ?_⟩
  f:k=0:=by omega
  subst this
  dsimp only
  rw [<-c]
  simp [GH d]
theorem R8 {a n:Int} (b:okF a) (h0:0<=n) (c:n<9223372036854775808):vg a n=some (pF a n.toNat):=by
 unfold vg
 obtain ⟨e,d,f⟩:=a42 b b9p h0 c
 rw [d,obs,f,pY];rfl
def iF (a:Int):Int:=pF a 2130706431
theorem CT {a:Int} (b:okF a):tF a=some (iF a):=by
 unfold tF;rw [Qa b (by decide) (by decide),obs];rfl
theorem DF {a:Int} (b:okF a):vg a 2130706431=some (iF a):=by
 rw [R8 b (by decide) (by decide)];rfl
def Qj (k:Nat):Int:=pF 3 (127*2^(24-k))
theorem a3d (k:Nat):okF (Qj k):=QQ _ _
theorem b38: ∀j:Nat,j<25->(2:Int)^j<=16777216/\0<(2:Int)^j:=by decide
theorem b5j {j:Nat} (h:j<=24):bC .i64 127 (j:Int)=127*2^j:=by
 obtain ⟨a,h0⟩:=b38 j om
 show IntKind.wrap .i64 (127*2^(min ((j:Int).toNat) 64))=_
 rw [aK,gL om,ak _ om om]
theorem a8a {k:Nat} (h:k<=24):Qi (k:Int)=some (Qj k):=by
 unfold Qi
 obtain ⟨a,b⟩:=b38 (24-k) om
 rw [ak _ om om,brd om,show (24:Int)-k=((24-k:Nat):Int) by omega,b5j om,Qa c0f om om,obs,Qj]
 congr 2
theorem b03 {k:Nat} (h:k<=24):BC (k:Int)=some (Qj k):=by
 unfold BC
 obtain ⟨a,b⟩:=b38 (24-k) om
 rw [ak _ om om,ee _ om om,brd om,show (24:Int)-k=((24-k:Nat):Int) by omega,b5j om,R8 c0f om om,obs,Qj]
 congr 2
end Go.AI.Fn
namespace Go.AI.Fn
structure Src (B:Int) (m:tk):Prop where
 at0:0<=m.at_
 at1:m.at_<=B
 sd0:0<=m.seed
 sd1:m.seed<2147483648
 len:m.code.length<=1048600
theorem Src.mono {B C:Int} {m:tk} (h:Src B m) (b:B<=C):Src C m:=⟨h.at0,by a:=h.at1;omega,h.sd0,h.sd1,h.len⟩
end Go.AI.Fn
namespace Go.AI.Fn
end Go.AI.Fn
namespace Go.AI.Fn
theorem QI {α:Type} {p:α->Bool} {l:List α} {k:Nat} (a:k<l.length) (h:p l[k]=true):l.any p=true:=iq.2 ⟨l[k],aZ a,h⟩
theorem a7D {α:Type} {p:α->Bool} {l:List α} (h: ∀k (a:k<l.length),p l[k]=false):l.any p=false:=by
 rw [sJ]
 intro x b
 obtain ⟨k,a,rfl⟩:=bp b
 simp [h k a]
theorem xa {α:Type} {p:α->Bool} {f:α->Option Bool} {l:List α} (n:l.length<=1099511627776) (m: ∀x∈l,f x=some (p x)) {step:Int->Option (Int⊕(Int⊕(Int×Bool)))}
 (c: ∀t,step t=br (decide (t<(l.length:Int))) ((atL l t).bind fun x=>(f x).bind fun r=>br r (some (.inr (.inl t))) (some (.inl (IntKind.wrap .i64 (t+1))))) (some (.inr (.inr (t,decide (t<(l.length:Int))))))):
 ((Loop step 0).bind (alt (fun e=>some e) (fun _=>some (-1)))).bind (fun r=>some (decide (r>=0)))=some (l.any p):=by
 a key:=Cm (step:=step) (fun k=>(k:Int)) l.length (fun k=> !((l[k]?.map p).getD false)) (fun k=> .inl (k:Int)) (e:= .inr ((l.length:Int),false)) (fun k b d=>by
  a h:p l[k]=false:=by simpa [b] using d
  rw [c,brd om,ck b,obs,m _ (aZ b),obs,h,ba,ak _ om om];rfl)
   (fun k b d=>by
    a h:p l[k]=true:=by simpa [b] using d
    rw [c,brd om,ck b,obs,m _ (aZ b),obs,h,cL])
   (by rw [c,brn om,ag om])
 rcases key with ⟨i,j⟩|⟨k,b,i,_,j⟩
 ·a e:Loop step 0=some (.inr ((l.length:Int),false)):=j
  rw [e,a7D (fun k b=>by simpa [b] using i k b)];rfl
 ·a e:Loop step 0=some (.inl (k:Int)):=j
  rw [e,QI b (by simpa [b] using i)]
  simp only [obs,kQ]
  rw [al om]
theorem a7r {α:Type} {p:α->Bool} {f:α->Option Bool} {l:List α} (q:l.length<=1099511627776) (n: ∀x∈l,f x=some (p x)) {step:Int->Option (Int⊕(Unit⊕(Int×Bool)))}
 (c: ∀t,step t=br (decide (t<(l.length:Int))) ((atL l t).bind fun x=>(f x).bind fun r=>br (!r) (some (.inr (.inl ()))) (some (.inl (IntKind.wrap .i64 (t+1))))) (some (.inr (.inr (t,decide (t<(l.length:Int))))))):
 (Loop step 0).bind (alt (fun _=>some false) (fun _=>some true))=some (l.all p):=by
 a key:=Cm (step:=step) (fun k=>(k:Int)) l.length (fun k=>((l[k]?.map p).getD false)) (fun k=> .inl ()) (e:= .inr ((l.length:Int),false)) (fun k b d=>by
  a h:p l[k]=true:=by simpa [b] using d
  rw [c,brd om,ck b,obs,n _ (aZ b),obs,h,aH,ba,ak _ om om];rfl)
   (fun k b d=>by
    a h:p l[k]=false:=by simpa [b] using d
    rw [c,brd om,ck b,obs,n _ (aZ b),obs,h,du,cL])
   (by rw [c,brn om,ag om])
 rcases key with ⟨i,j⟩|⟨k,b,i,_,j⟩
 ·a e:Loop step 0=some (.inr ((l.length:Int),false)):=j
  a m:l.all p=true:=aB.2 fun x o=>by
    obtain ⟨k,b,rfl⟩:=bp o
    simpa [b] using i k b
  rw [e,m];rfl
 ·a e:Loop step 0=some (.inl ()):=j
  a m:l.all p=false:=by
    rw [sL]
    exact ⟨l[k],aZ b,by simpa [b] using i⟩
  rw [e,m];rfl
theorem uU {α:Type} (p:α->Bool) (l:List α):(!l.any fun x=> !p x)=l.all p:=by
 induction l with
 |nil=>rfl
 |cons x l ih=>simp only [List.any_cons,cj, <-ih];cases p x<;>simp
theorem a8g {l:List Int} (a:l.length<=1099511627776):kj l=some (l.all Gg):=by
 unfold kj cJ cX
 rw [xa (step:=cH l (l.length:Int)) (p:=fun x=> !Gg x) (f:=iR) a (fun x _=>by unfold iR;rw [xB];rfl) (fun t=>rfl),obs,uU]
theorem Mw {l:List Ext} (a:l.length<=1099511627776):gu l=some (l.all mY):=by
 unfold gu cr cF
 rw [xa (step:=co l (l.length:Int)) (p:=fun x=> !mY x) (f:=iY) a (fun x _=>by unfold iY;rw [tf];rfl) (fun t=>rfl),obs,uU]
theorem nS {l:List Ext} (a:l.length<=1099511627776):lJ l=some (l.all mY):=by
 unfold lJ
 exact a7r (f:=CG) a (fun x _=>QH x) (fun t=>rfl)
theorem a1s {l:List Int} (a:l.length<=1099511627776):vv l=some (l.all Gg):=by
 unfold vv
 exact a7r (f:=dy) a (fun x _=>xc x) (fun t=>rfl)
def gX (l:List Ext):Prop:= ∀x∈l,okE x
def Kk (l:List Int):Prop:= ∀x∈l,okF x
theorem c0h {l:List Ext}:l.all mY=true↔gX l:=by
 rw [aB];exact ⟨fun h x a=>KM.1 (h x a),fun h x a=>KM.2 (h x a)⟩
theorem c8K {l:List Int}:l.all Gg=true↔Kk l:=by
 rw [aB];exact ⟨fun h x a=>K6.1 (h x a),fun h x a=>K6.2 (h x a)⟩
theorem gX.get {l:List Ext} (h:gX l) {k:Nat} (a:k<l.length):okE l[k]:=h _ (aZ a)
theorem Kk.get {l:List Int} (h:Kk l) {k:Nat} (a:k<l.length):okF l[k]:=h _ (aZ a)
theorem gX.app {l m:List Ext} (h:gX l) (a:gX m):gX (l++m):=fun x b=>(aX.1 b).elim (h x) (a x)
theorem gX.nil:gX []:=fun x a=>by cases a
theorem gX.one {x:Ext} (h:okE x):gX [x]:=fun y a=>by rw [dV.1 a];exact h
theorem gX.map {α:Type} {f:α->Ext} (l:List α) (h: ∀x∈l,okE (f x)):gX (l.map f):=fun y a=>by obtain ⟨x,b,rfl⟩:=bq.1 a;exact h x b
theorem gX.take {l:List Ext} (h:gX l) (k:Nat):gX (l.take k):=fun x a=>h x (cq a)
theorem gX.drop {l:List Ext} (h:gX l) (k:Nat):gX (l.drop k):=fun x a=>h x (ca a)
def V0 (a b:List Ext):Ext:=(a.zip b).foldl (fun c p=>eA c (eM p.1 p.2)) e0
theorem Ib {α β:Type} {a:List α} {b:List β} {k:Nat} (c:k<a.length) (d:k<b.length):(a.zip b).take (k+1)=(a.zip b).take k++[(a[k],b[k])]:=by
 rw [db (by rw [List.length_zip];omega),List.getElem_zip]
theorem a4D (l:List (Ext×Ext)) {c:Ext} (h:okE c):okE (l.foldl (fun c p=>eA c (eM p.1 p.2)) c):=by
 induction l generalizing c with
 |nil=>exact h
 |cons p l ih=>exact ih (Vh _ _)
theorem c1D (a b:List Ext):okE (V0 a b):=a4D _ a6y
theorem T3 {a b:List Ext} (f:gX a) (h:gX b) (j:a.length<=b.length) (l:a.length<=1099511627776):KP a b=some (V0 a b):=by
 unfold KP
 d key:Loop (xN b a (a.length:Int) 0 0) ((0:Int),(0:Int),(0:Int))=some ((a.length:Int),false,(V0 a b).A,(V0 a b).B):=
   bu (fun k=>((k:Int),(((a.zip b).take k).foldl (fun c p=>eA c (eM p.1 p.2)) e0).A,(((a.zip b).take k).foldl (fun c p=>eA c (eM p.1 p.2)) e0).B)) a.length (fun k e=>by
    simp only [xN]
    d i:=a4D ((a.zip b).take k) a6y
    rw [brd om,ck e,obs,ck om,obs,fQ (f.get e) (h.get om),obs,kW i (rv _ _),obs,ak _ om om,Ib e om,i5]
    rfl) (by
    simp only [xN]
    rw [brn om,ag om,bZ (by rw [List.length_zip];omega)]
    rfl)
 rw [key];rfl
def eqS (out:List Ext) (p:Ext):List Ext:=out.map (fun a=>eM a (eS e1 p))++out.map (fun a=>eM a p)
def eqT (pt:List Ext):List Ext:=pt.foldl eqS [e1]
theorem a7y (out:List Ext) (p:Ext):(eqS out p).length=2*out.length:=by simp [eqS];omega
theorem c4d (out:List Ext) (p:Ext):gX (eqS out p):=gX.app (gX.map _ fun x _=>rv _ _) (gX.map _ fun x _=>rv _ _)
theorem a1k (l:List Ext) (p:Ext):eqT (l++[p])=eqS (eqT l) p:=by simp [eqT,i5]
theorem c4y {l out:List Ext} (h:gX out):gX (l.foldl eqS out):=by
 induction l generalizing out with
 |nil=>exact h
 |cons p l ih=>exact ih (c4d _ _)
theorem XO (l:List Ext):gX (eqT l):=c4y (gX.one a2j)
theorem c0b (l out:List Ext):(l.foldl eqS out).length=2^l.length*out.length:=by
 induction l generalizing out with
 |nil=>simp
 |cons p l ih=>rw [pa,ih,a7y,ah,fT];rw [Nat.mul_assoc]
theorem CX (l:List Ext):(eqT l).length=2^l.length:=by rw [eqT,c0b];simp
theorem a3Y: ∀k:Nat,k<=6->2^k<=64:=by decide
theorem c7G {t:List Ext} {t2 t3:Int} {out:List Ext} {p:Ext} (c:gX out) (d:okE p) (h:out.length<=1000000000):
 Loop (mU t t2 t3 out (out.length:Int) p.A p.B) ([],[],0)=some (out.map (fun a=>eM a (eS e1 p)),out.map (fun a=>eM a p),(out.length:Int),false):=
 bu (fun k=>((out.take k).map (fun a=>eM a (eS e1 p)),(out.take k).map (fun a=>eM a p),(k:Int))) out.length (fun k b=>by
  e f:Ext.mk p.A p.B=p:=rfl
  simp only [mU,f]
  rw [brd om,ck b,obs,Ku,obs,qY a2j d,obs,fQ (c.get b) (yl _ _),obs,
   bt (by simp only [ab,aO,bc,am];omega),fQ (c.get b) d,obs,
   bt (by simp only [ab,aO,bc,am];omega),ak _ om om,db b,cI,cI]
  rfl) (by
  simp only [mU]
  rw [brn om,ag om,bk])
theorem CQ {l:List Ext} (h:gX l) (c:l.length<=6):sY l=some (eqT l):=by
 unfold sY
 a key:Loop (mV l (l.length:Int)) ([e1],0)=some (eqT l,(l.length:Int),false):=
   bu (fun k=>(eqT (l.take k),(k:Int))) l.length (fun k b=>by
    a d:=CX (l.take k)
    a e:=a3Y (l.take k).length (by rw [bc];omega)
    simp only [mV]
    rw [brd om,ck b,obs,c7G (XO _) (h.get b) om,obs]
    dsimp only
    rw [bt (by simp only [ab,aO];omega),ak _ om om,db b,a1k]
    rfl) (by
    simp only [mV]
    rw [brn om,ag om,bk])
 rw [Ku,obs,key];rfl
def eqU (out:List Ext) (p:Ext) (k:Nat) (l:List Ext):List Ext:=(l.set k (eM (out.getD k e0) (eS e1 p))).set (k+out.length) (eM (out.getD k e0) p)
theorem a6W {f:Nat->List Ext->List Ext} (a: ∀k l,(f k l).length=l.length): ∀(k:Nat) (l:List Ext),(iU f k l).length=l.length
 |0,l=>rfl
 |k+1,l=>by rw [iU,a,a6W a k l]
theorem Kd (out:List Ext) (p:Ext) (k:Nat) (l:List Ext):(iU (eqU out p) k l).length=l.length:=a6W (fun _ _=>by simp [eqU]) k l
theorem a7c (out:List Ext) (p:Ext) (l:List Ext) (h:l.length=2*out.length): ∀k,k<=out.length-> ∀j (a:j<(iU (eqU out p) k l).length),(iU (eqU out p) k l)[j]=
 if j<k then eM (out.getD j e0) (eS e1 p) else if out.length<=j/\j<out.length+k then eM (out.getD (j-out.length) e0) p else l[j]'(by rw [Kd] at a;exact a)
 |0,_,j,a=>by
  rw [aa om,aa om];rfl
 |k+1,i,j,a=>by
  d ih:=a7c out p l h k om j (by rw [Kd] at a ⊢;exact a)
  simp only [iU,eqU,List.getElem_set]
  by_cases e:k+out.length=j
  ·rw [ae e,aa om,ae om,show j-out.length=k by omega]
  ·rw [aa e]
   by_cases b:k=j
   ·rw [ae b,ae om,b]
   ·rw [aa b,ih]
    by_cases c:j<k
    ·rw [ae c,ae om]
    ·by_cases f:out.length<=j/\j<out.length+k
     ·rw [aa c,ae f,aa om,ae om]
     ·rw [aa c,aa f,aa om,aa om]
theorem b8f (out:List Ext) (p:Ext) (l:List Ext) (b:l.length=2*out.length):iU (eqU out p) out.length l=eqS out p:=by
 apply List.ext_getElem (by rw [Kd,a7y,b])
 intro j c e
 rw [a7c out p l b out.length (aw _) j c]
 rw [Kd,b] at c
 simp only [eqS]
 by_cases a:j<out.length
 ·rw [ae a,List.getElem_append_left (by simpa using a),List.getElem_map];simp [a]
 ·rw [aa a,ae om,List.getElem_append_right (by simp;omega),List.getElem_map]
  d:j-out.length<out.length:=by omega
  simp [this]
theorem a7I {l:List Ext} {k:Nat} (h:k<l.length):atL l (k:Int)=some (l.getD k e0):=by simp [atL,h]
theorem gX.getD {l:List Ext} (h:gX l) (k:Nat):okE (l.getD k e0):=by
 by_cases a:k<l.length
 ·simp [a];exact h.get a
 ·simp [bD (Nat.le_of_not_lt a)];exact a6y
theorem c2c {β:Type} {l:List Ext} {i:Nat} {f:Ext->Option β} (h:i<l.length):(l[i]?).bind f=f (l.getD i e0):=by simp [h]
theorem c6O {pt out l:List Ext} {i:Nat} (a:gX out) (b:gX pt) (hi:i<pt.length) (d:l.length=2*out.length) (f:out.length<=1000000000):
 Loop (ra pt out i) (l,0)=some (eqS out (pt.getD i e0),(out.length:Int),false):=by
 rw [<-b8f out (pt.getD i e0) l d]
 exact bu (fun k=>(iU (eqU out (pt.getD i e0)) k l,(k:Int))) out.length (fun k e=>by
  c h:=Kd out (pt.getD i e0) k l
  simp only [ra]
  rw [brd om,a7I e,obs,a7I hi,obs,GU (b.getD _),obs,fC (a.getD _) (yl _ _),obs,brd om,brd om,c2c om,
   obs,obs,fC (a.getD _) (b.getD _),obs,ak _ om om,brd om,brd om,c2c (by rw [bf];omega),ak _ om om]
  rw [show ((k:Int)+(out.length:Int)).toNat=k+out.length by omega,aK]
  rfl) (by
  simp only [ra]
  rw [brn om,ag om])
theorem L7 {l:List Ext} (h:gX l) (c:l.length<=6):GR l=some (eqT l):=by
 unfold GR
 a key:Loop (rA l) ([e1],0)=some (eqT l,(l.length:Int),false):=
   bu (fun k=>(eqT (l.take k),(k:Int))) l.length (fun k b=>by
    a d:=CX (l.take k)
    a e:=a3Y (l.take k).length (by rw [bc];omega)
    simp only [rA]
    rw [brd om,ak _ om om,El om om om,c6O (XO _) h b (by rw [aS];omega) om,obs,ak _ om om,db b,a1k]
    simp [b]) (by
    simp only [rA]
    rw [brn om,ag om,bk])
 rw [Pw,obs,key];rfl
theorem b0f {a b:List Ext} (f:gX a) (h:gX b) (j:a.length<=b.length) (l:a.length<=1000000000):Loop (rk a b 0 0) ((0:Int),(0:Int),(0:Int))=some ((a.length:Int),false,(V0 a b).A,(V0 a b).B):=
 bu (fun k=>((k:Int),(((a.zip b).take k).foldl (fun c p=>eA c (eM p.1 p.2)) e0).A,(((a.zip b).take k).foldl (fun c p=>eA c (eM p.1 p.2)) e0).B)) a.length (fun k d=>by
  simp only [rk]
  e i:=a4D ((a.zip b).take k) a6y
  rw [brd om,ck d,obs,ck om,obs,fC (f.get d) (h.get om),obs,lz i (rv _ _),obs,ak _ om om,Ib d om,i5]
  rfl) (by
  simp only [rk]
  rw [brn om,ag om,bZ (by rw [List.length_zip];omega)]
  rfl)
theorem a7w {a pt:List Ext} (d:gX a) (e:gX pt) (c:pt.length<=6) (h:a.length<=2^pt.length):D6 a pt=some (V0 a (eqT pt)):=by
 unfold D6
 b i:=a3Y pt.length c
 b f:=CX pt
 rw [L7 e c,obs,b0f d (XO _) om om];rfl
end Go.AI.Fn
namespace Go.AI.Fn
abbrev K:={x:Ext//okE x}
def K.n (i:Int):K:=⟨eN (i%2130706433),a75 (kS _)⟩
instance c6A:Add K:=⟨fun a b=>⟨eA a.1 b.1,Vh _ _⟩⟩
instance c7K:Mul K:=⟨fun a b=>⟨eM a.1 b.1,rv _ _⟩⟩
instance c7O:Sub K:=⟨fun a b=>⟨eS a.1 b.1,yl _ _⟩⟩
instance c7Y:Neg K:=⟨fun a=>⟨eS e0 a.1,yl _ _⟩⟩
instance c1n:NatCast K:=⟨fun n=>K.n n⟩
instance b8L:IntCast K:=⟨fun n=>K.n n⟩
instance c2W (n:Nat):OfNat K n:=⟨K.n n⟩
def K.pow (a:K):Nat->K
 |0=>K.n 1
 |n+1=>K.pow a n*a
instance c6s:HPow K Nat K:=⟨K.pow⟩
theorem K.ext {a b:K} (h:a.1=b.1):a=b:=Subtype.ext h
theorem K.mul_val (a b:K):(a*b).1=eM a.1 b.1:=rfl
theorem K.n_mul (i j:Int):K.n (i*j)=K.n i*K.n j:=K.ext (MO (by
 show (i*j)%2130706433=((i%2130706433)*(j%2130706433)+3*(0*0))%2130706433
 rw [show (3:Int)*(0*0)=0 from rfl,Int.add_zero, <-ot]) (by
 show (0:Int)=((i%2130706433)*0+0*(j%2130706433))%2130706433
 rw [Int.mul_zero,Int.zero_mul];rfl))
instance b9f:NeZero 2130706433:=⟨by decide⟩
abbrev FP:=Fin 2130706433
def K.a (x:K):FP:=⟨x.1.A.toNat,by have h:=x.2.1;unfold okF at h;omega⟩
def K.b (x:K):FP:=⟨x.1.B.toNat,by have h:=x.2.2;unfold okF at h;omega⟩
theorem K.A_nat (x:K): ∃n:Nat,x.1.A=(n:Int)/\n<2130706433/\(K.a x).val=n:=⟨x.1.A.toNat,by b h:=x.2.1;unfold okF at h;omega,(K.a x).isLt,rfl⟩
theorem K.B_nat (x:K): ∃n:Nat,x.1.B=(n:Int)/\n<2130706433/\(K.b x).val=n:=⟨x.1.B.toNat,by a h:=x.2.2;unfold okF at h;omega,(K.b x).isLt,rfl⟩
theorem K.eqv {x y:K}:x=y↔K.a x=K.a y/\K.b x=K.b y:=⟨fun h=>by rw [h];exact ⟨rfl,rfl⟩,fun h=>by
 obtain ⟨n,d,_,e⟩:=K.A_nat x
 obtain ⟨m,f,_,k⟩:=K.A_nat y
 obtain ⟨i,l,_,o⟩:=K.B_nat x
 obtain ⟨j,p,_,q⟩:=K.B_nat y
 c e1:=congrArg Fin.val h.1
 c e2:=congrArg Fin.val h.2
 exact K.ext (MO om om)⟩
theorem K.ad_a (x y:K):K.a (x+y)=K.a x+K.a y:=Fin.ext (by
 obtain ⟨n,d,_,b⟩:=K.A_nat x
 obtain ⟨m,e,_,c⟩:=K.A_nat y
 rw [Fin.val_add,b,c]
 show ((x.1.A+y.1.A)%2130706433).toNat=_
 omega)
theorem K.ad_b (x y:K):K.b (x+y)=K.b x+K.b y:=Fin.ext (by
 obtain ⟨n,d,_,a⟩:=K.B_nat x
 obtain ⟨m,e,_,c⟩:=K.B_nat y
 rw [Fin.val_add,a,c]
 show ((x.1.B+y.1.B)%2130706433).toNat=_
 omega)
theorem K.su_a (x y:K):K.a (x-y)=K.a x-K.a y:=Fin.ext (by
 obtain ⟨n,b,_,c⟩:=K.A_nat x
 obtain ⟨m,d,_,e⟩:=K.A_nat y
 rw [Fin.sub_def]
 show ((x.1.A-y.1.A)%2130706433).toNat=(2130706433-(K.a y).val+(K.a x).val)%2130706433
 omega)
theorem K.su_b (x y:K):K.b (x-y)=K.b x-K.b y:=Fin.ext (by
 obtain ⟨n,a,_,c⟩:=K.B_nat x
 obtain ⟨m,d,_,e⟩:=K.B_nat y
 rw [Fin.sub_def]
 show ((x.1.B-y.1.B)%2130706433).toNat=(2130706433-(K.b y).val+(K.b x).val)%2130706433
 omega)
theorem K.n0_a:K.a 0=0:=rfl
theorem K.n0_b:K.b 0=0:=rfl
theorem K.n1_a:K.a 1=1:=rfl
theorem K.n1_b:K.b 1=0:=rfl
theorem K.n2_a:K.a 2=2:=rfl
theorem K.n2_b:K.b 2=0:=rfl
theorem K.n3_a:K.a 3=3:=rfl
theorem K.n3_b:K.b 3=0:=rfl
theorem K.ne_sub (x:K): -x=0-x:=rfl
theorem K.mu_a (x y:K):K.a (x*y)=K.a x*K.a y+3*(K.b x*K.b y):=Fin.ext (by
 obtain ⟨n,c,_,d⟩:=K.A_nat x
 obtain ⟨m,e,_,f⟩:=K.A_nat y
 obtain ⟨i,h,_,k⟩:=K.B_nat x
 obtain ⟨j,l,_,o⟩:=K.B_nat y
 rw [Fin.val_add,Fin.val_mul,Fin.val_mul,Fin.val_mul,d,f,k,o,show (3:FP).val=3 from rfl]
 show ((x.1.A*y.1.A+3*(x.1.B*y.1.B))%2130706433).toNat=_
 rw [c,e,h,l, <-pg, <-pg]
 generalize n*m=u
 generalize i*j=v
 omega)
theorem K.mu_b (x y:K):K.b (x*y)=K.a x*K.b y+K.b x*K.a y:=Fin.ext (by
 obtain ⟨n,c,_,d⟩:=K.A_nat x
 obtain ⟨m,e,_,f⟩:=K.A_nat y
 obtain ⟨i,h,_,k⟩:=K.B_nat x
 obtain ⟨j,l,_,o⟩:=K.B_nat y
 rw [Fin.val_add,Fin.val_mul,Fin.val_mul,d,f,k,o]
 show ((x.1.A*y.1.B+x.1.B*y.1.A)%2130706433).toNat=_
 rw [c,e,h,l, <-pg, <-pg]
 generalize n*j=u
 generalize i*m=v
 omega)
theorem kg {p:Prop} (h:p:=by (simp only [K.ne_sub,K.eqv,K.ad_a,K.ad_b,K.su_a,K.su_b,K.mu_a,K.mu_b,K.n0_a,K.n0_b,K.n1_a,K.n1_b,K.n2_a,K.n2_b,K.n3_a,K.n3_b] at* <;>first|grind only|grind)):p:=h
def kF (a:Int):K:=K.n a
theorem DP {a:Int} (h:okF a):(kF a).1=eN a:=by show eN (a%2130706433)=eN a;rw [GH h]
theorem b6x (a b:Int):kF (mF a b)=kF a*kF b:=by
 rw [kF,kF,kF, <-K.n_mul]
 exact K.ext (by show eN ((a*b)%2130706433%2130706433)=eN ((a*b)%2130706433);rw [s9])
def kv (l:List K):List Ext:=l.map (·.1)
theorem cg (l:List K):(kv l).length=l.length:=by simp [kv]
theorem EX (l:List K):gX (kv l):=gX.map l fun x _=>x.2
theorem b8n {L:List Ext} (h:gX L): ∃l,L=kv l:=by
 induction L with
 |nil=>exact ⟨[],rfl⟩
 |cons x L ih=>
  obtain ⟨l,rfl⟩:=ih fun y a=>h y (by simp [a])
  exact ⟨⟨x,h x (by simp)⟩::l,rfl⟩
theorem b5o {l:List K} {j:Nat} (h:j<l.length):(kv l)[j]'(by rw [cg];exact h)=(l.getD j 0).1:=by simp [kv,h]
theorem wE {l:List K} {j:Nat} (h:j<l.length):atL (kv l) (j:Int)=some (l.getD j 0).1:=by rw [ck (by rw [cg];exact h),b5o h]
theorem a7t {l:List K} {j:Nat} (h:j<l.length):(kv l)[j]? =some (l.getD j 0).1:=by rw [v8 (by rw [cg];exact h),b5o h]
end Go.AI.Fn
namespace Go.AI.Fn
theorem pw0 (x:K):x^0=1:=rfl
theorem pwS (x:K) (n:Nat):x^(n+1)=x^n*x:=rfl
theorem b5R: ∀n:Nat,(1:K)^n=1
 |0=>rfl
 |n+1=>by rw [pwS,b5R n];exact kg
theorem b3g (x y:K): ∀n:Nat,(x*y)^n=x^n*y^n
 |0=>by rw [pw0,pw0,pw0];exact kg
 |n+1=>by rw [pwS,pwS,pwS,b3g x y n];exact kg
def evs:List K->List K
 |a::_::l=>a::evs l
 |[a]=>[a]
 |[]=>[]
def ods:List K->List K
 |_::b::l=>b::ods l
 |_=>[]
def c8t (E O:List K) (w:K) (h:Nat):List K:=(List.range h).map fun j=>E.getD j 0+O.getD j 0*w^j
def c8s (E O:List K) (w:K) (h:Nat):List K:=(List.range h).map fun j=>E.getD j 0-O.getD j 0*w^j
def V:Nat->List K->K->List K
 |0,l,_=>l
 |k+1,l,w=>c8t (V k (evs l) (w*w)) (V k (ods l) (w*w)) w (2^k)++c8s (V k (evs l) (w*w)) (V k (ods l) (w*w)) w (2^k)
def cb (r:K) (a b:List K):List K:=List.zipWith (fun x y=>x+r*y) a b
end Go.AI.Fn
namespace Go.AI.Fn
def a3b:Nat->(Nat->K)->K
 |0,_=>0
 |n+1,f=>a3b n f+f n
def fdK (r:K):List K->List K
 |a::b::l=>(a+r*(b-a))::fdK r l
 |_=>[]
theorem a6F (r:K): ∀(l:List K) (m:Nat),l.length=2*m->(fdK r l).length=m
 |[],m,h=>by simp at h;simp [fdK];omega
 |[a],m,h=>by simp at h;omega
 |a::b::l,0,h=>by simp at h
 |a::b::l,m+1,h=>by simp only [fdK,ah];rw [a6F r l m (by simp only [ah] at h;omega)]
def cmK (kind:Nat) (v:List K):K:=if kind=1 then v.getD 0 0*v.getD 1 0 else v.getD 0 0*(v.getD 1 0*v.getD 2 0-v.getD 3 0)
def bdK (r:K) (T:List (List K)):List (List K):=T.map (fdK r)
theorem b7T (r:K) (T:List (List K)) (i:Nat):(bdK r T).getD i []=fdK r (T.getD i []):=by
 by_cases h:i<T.length
 ·simp [bdK,h]
 ·simp [bdK,h,fdK]
end Go.AI.Fn
namespace Go.AI.Fn
theorem SY {α:Type} {a:List α} {n k:Nat} {z x:α} (d:k<n) (c:a.length=k):(a++List.replicate (n-k) z).set k x=(a++[x])++List.replicate (n-(k+1)) z:=by
 subst c
 b e:n-a.length=(n-(a.length+1))+1:=by omega
 rw [e,lO]
 simp
theorem Jf {α β:Type} {f:α->Option β} {g:α->β} {a:List α} {z:β} (m:a.length<=1099511627776) (j: ∀x∈a,f x=some (g x)) {step:List β×Int->Option ((List β×Int)⊕(List β×Int×Bool))}
 (d: ∀l i,step (l,i)=br (decide (i<(a.length:Int))) ((atL a i).bind fun x=>(f x).bind fun r=>br (decide (0<=i)) (br (decide (i.toNat<l.length)) ((l[i.toNat]?).bind fun _=>some (.inl (l.set i.toNat r,IntKind.wrap .i64 (i+1)))) none) none) (some (.inr (l,i,decide (i<(a.length:Int)))))) {n:Nat} (o:a.length<=n):
 Loop step (List.replicate n z,0)=some (a.map g++List.replicate (n-a.length) z,(a.length:Int),false):=by
 b key:=bu (step:=step) (fun k=>((a.take k).map g++List.replicate (n-k) z,(k:Int))) a.length (e:=(a.map g++List.replicate (n-a.length) z,(a.length:Int),false)) (fun k c=>by
   b h:((a.take k).map g++List.replicate (n-k) z).length=n:=by simp;omega
   rw [d,brd om,ck c,obs,j _ (aZ c),obs,brd om,brd om,aK,v8 om,obs,SY om (by simp;omega),ak _ om om,db c,cI]
   rfl) (by
   rw [d,brn om,ag om,bk])
 simpa using key
theorem MN {α:Type} {f:α->α->Option Bool} {a:List α} (h:a.length<=1099511627776) (e: ∀x∈a,f x x=some true) {step:Int->Option (Int⊕(Unit⊕(Int×Bool)))}
 (b: ∀t,step t=br (decide (t<(a.length:Int))) ((atL a t).bind fun x=>(atL a t).bind fun y=>(f x y).bind fun r=>br (!r) (some (.inr (.inl ()))) (some (.inl (IntKind.wrap .i64 (t+1))))) (some (.inr (.inr (t,decide (t<(a.length:Int))))))):
 (Loop step 0).bind (alt (fun _=>some false) (fun _=>some true))=some true:=by
 c key:Loop step 0=some (.inr ((a.length:Int),false)):=bu (step:=step) (fun k=>(k:Int)) a.length (fun k d=>by
  rw [b,brd om,ck d,obs,obs,e _ (aZ d),obs,aH,ba,ak _ om om];rfl)
   (by rw [b,brn om,ag om])
 rw [key];rfl
theorem ol (x:Ext):sa x x=some true:=by unfold sa;rw [fj rfl,fj rfl]
theorem Fi {a:List Ext} (h:a.length<=1048576):vZ a=some a:=by
 unfold vZ
 rw [El om om om,aK,Jf (step:=wG a) (f:=sd) (g:=fun x=>x) om (fun x _=>rfl) (fun l i=>rfl) (aw _)]
 simp
theorem a0f {a:List Int} (h:a.length<=1048576):yu a=some a:=by
 unfold yu
 rw [El om om om,aK,Jf (step:=xd a) (f:=fun x=>some x) (g:=fun x=>x) om (fun x _=>rfl) (fun l i=>rfl) (aw _)]
 simp
theorem Bb {a:List Ext} (h:a.length<=1048576):vC a a=some true:=by
 unfold vC
 rw [fj rfl]
 exact MN (f:=sa) om (fun x _=>ol x) (fun t=>rfl)
theorem Ty {a:List Int} (h:a.length<=1048576):G4 a a=some true:=by
 unfold G4
 rw [fj rfl]
 refine MN (a:=a) (f:=fun x y=>some (x==y)) om (fun x _=>by simp) (fun t=> ?_)
 simp only [xz]
 rfl
theorem FH {a:List Ext} {left:Int} (b:a.length<=9223372036854775807) (h0: -1<=left) (c:left<=1048576): ∃r,ve a left=some r/\ -1<=r/\r<=1048576/\(0<=r->a.length<=1048576):=by
 unfold ve
 rw [ak _ om om]
 by_cases h:left-(a.length:Int)<0
 ·rw [brd h];exact ⟨_,rfl,by omega,by omega,by omega⟩
 ·rw [brn h];exact ⟨_,rfl,by omega,by omega,by omega⟩
end Go.AI.Fn
namespace Go.AI.Fn
theorem ZC (x y:Int):dl x y=some (if x<y then-1 else if x>y then 1 else 0):=by
 unfold dl fI
 simp only [obs,bne_self_eq_false,ba]
 by_cases h:x<y
 ·rw [brd h,ae h]
 ·rw [brn h,aa h]
  by_cases a:x>y
  ·rw [brd a,ae a]
  ·rw [brn a,aa a]
theorem a2K (a b:Int):bN 0 [a,b] (([a,b].length:Nat):Int) 0=br (a !=0) (some (.inr (.inl a))) (some (.inl 1)):=by
 simp only [bN]
 rw [brd (by simp),show atL [a,b] 0=some a by simp [atL],show IntKind.wrap .i64 (0+1)=1 by decide];rfl
theorem a2o (a b:Int):bN 0 [a,b] (([a,b].length:Nat):Int) 1=br (b !=0) (some (.inr (.inl b))) (some (.inl 2)):=by
 simp only [bN]
 rw [brd (by simp),show atL [a,b] 1=some b by simp [atL],show IntKind.wrap .i64 (1+1)=2 by decide];rfl
theorem b46 (a b:Int):bN 0 [a,b] (([a,b].length:Nat):Int) 2=some (.inr (.inr (2,false))):=by
 simp only [bN]
 rw [brn (by simp)];simp
theorem b4Y (a b:Int):jz [a,b]=some (if a=0 then b else a):=by
 unfold jz
 by_cases c:a=0
 ·rw [cf (s':=1) (by rw [a2K,fj c]),ae c]
  by_cases d:b=0
  ·rw [cf (s':=2) (by rw [a2o,fj d]),bX (b46 a b),d];rfl
  ·rw [bX (e:= .inl b) (by rw [a2o,brb d])];rfl
 ·rw [bX (e:= .inl a) (by rw [a2K,brb c]),aa c];rfl
def ltE (y x:au):Prop:=y.Row<x.Row\/(y.Row=x.Row/\y.Col<x.Col)
theorem b5b (y x:au): ∃c,gp y x=some c/\(c>=0↔ ¬ltE y x):=by
 unfold gp
 rw [ZC,ZC]
 simp only [obs,b4Y]
 refine ⟨_,rfl, ?_⟩
 unfold ltE
 by_cases d:y.Row<x.Row
 ·simp [d]
 ·by_cases h:y.Row>x.Row
  ·simp [d,h];omega
  ·e a:y.Row=x.Row:=by omega
   by_cases b:y.Col<x.Col
   ·simp [a,b]
   ·by_cases f:y.Col>x.Col
    ·simp [a,b,f]
    ·simp [a,b,f]
def inE (R C:Int) (x:au):Prop:=(0<=x.Row/\x.Row<=R-1)/\(0<=x.Col/\x.Col<=C-1)/\1<=x.Value/\x.Value<=2130706432
def JC (l:List au) (R C:Int) (t:Nat):Prop:= ∃x,l[t]? =some x/\(¬inE R C x\/(0<t/\ ∃y,l[t-1]? =some y/\ ¬ltE y x))
open Classical in
noncomputable def vO (l:List au) (R C:Int):Bool:=decide (l.length<=200/\ ∀t, ¬JC l R C t)
open Classical in
theorem a5n {l:List au} {R C:Int} (h:l.length<=200) (g: ∀t, ¬JC l R C t):vO l R C=true:=by unfold vO;exact al ⟨h,g⟩
open Classical in
theorem Z2 {l:List au} {R C:Int} (h:l.length<=200-> ¬ ∀t, ¬JC l R C t):vO l R C=false:=by unfold vO;exact ag fun g=>h g.1 g.2
open Classical in
theorem RU {l:List au} {R C:Int} (h:vO l R C=true):l.length<=200:=by unfold vO at h;exact (jJ h).1
theorem a0s (n a b:Int):jx n a b=some (decide (a<=n/\n<=b)):=by
 unfold jx
 by_cases h:a<=n
 ·rw [brd h];simp [h]
 ·rw [brn h];simp [h]
theorem Wk (n a b:Int):ez n a b=some (decide (a<=n/\n<=b)):=by
 unfold ez
 by_cases h:a<=n
 ·rw [brd h];simp [h]
 ·rw [brn h];simp [h]
theorem G0 {l:List au} {R C:Int} (hl:l.length<=1099511627776) (hR:1<=R/\R<=4096) (hC:1<=C/\C<=4096):qO l R C=some (vO l R C):=by
 unfold qO
 a key:=py (step:=o7 l R C l (l.length:Int)) (fun t=>0<=t/\t<=l.length/\ ∀k:Nat,(k:Int)<t-> ¬JC l R C k) (fun t=>(l.length-t).toNat)
   (fun e=>(∃x,e= .inl x/\ ∃k,JC l R C k)\/(∃x,e= .inr x/\ ∀k, ¬JC l R C k)) ?_ 0 ⟨by omega,by omega,by omega⟩
 ·obtain ⟨e,s,⟨x,rfl,k,f⟩|⟨x,rfl,f⟩⟩:=key
  ·rw [s]
   simp only [obs,kQ]
   rw [Z2 fun _ h=>h k f]
  ·rw [s]
   simp only [obs,nu]
   by_cases h:l.length<=200
   ·rw [al om,a5n h f]
   ·rw [ag om,Z2 fun g=>absurd g h]
 ·intro t ⟨h0,h1,u⟩
  simp only [o7]
  by_cases c:t<(l.length:Int)
  ·obtain ⟨x,r,e1,e2,b⟩:=oK (l:=l) (i:=t.toNat) om
   a next: ¬JC l R C t.toNat->(fun t:Int=>0<=t/\t<=l.length/\ ∀k:Nat,(k:Int)<t-> ¬JC l R C k) (t+1):=by
     intro w
     refine ⟨by omega,by omega,fun k f=> ?_⟩
     by_cases e:k=t.toNat
     ·subst e;exact w
     ·exact u k om
   rw [brd c,H8 h0 b]
   simp only [obs,a0s]
   rw [ak (R-1) om om,ak (C-1) om om,ak (t+1) om om]
   by_cases m:0<=x.Row/\x.Row<=R-1
   ·rw [WV m]
    by_cases n:0<=x.Col/\x.Col<=C-1
    ·rw [WV n]
     by_cases o:1<=x.Value/\x.Value<=2130706432
     ·rw [WV o]
      by_cases c3:t>0
      ·rw [brd c3,ak (t-1) om om]
       obtain ⟨y,r2,f1,f2,q⟩:=oK (l:=l) (i:=(t-1).toNat) om
       rw [H8 om q]
       simp only [obs]
       obtain ⟨d,z,p⟩:=b5b y x
       rw [z]
       simp only [obs]
       rw [show (t-1).toNat=t.toNat-1 by omega] at q
       by_cases c4:d>=0
       ·rw [brd c4]
        exact .inr ⟨_,rfl,.inl ⟨_,rfl,t.toNat,x,b,.inr ⟨by omega,y,q,p.1 c4⟩⟩⟩
       ·rw [brn c4]
        refine .inl ⟨_,rfl,next ?_,by omega⟩
        rintro ⟨x',j,g|⟨_,y',v,g3⟩⟩
        ·rw [b] at j;cases j;exact g ⟨m,n,o⟩
        ·rw [b] at j;cases j;rw [q] at v;cases v;exact c4 (p.2 g3)
      ·rw [brn c3]
       refine .inl ⟨_,rfl,next ?_,by omega⟩
       rintro ⟨x',j,g|⟨g0,_⟩⟩
       ·rw [b] at j;cases j;exact g ⟨m,n,o⟩
       ·omega
     ·rw [Z3 o]
      exact .inr ⟨_,rfl,.inl ⟨_,rfl,t.toNat,x,b,.inl fun g=>o g.2.2⟩⟩
    ·rw [Z3 n]
     exact .inr ⟨_,rfl,.inl ⟨_,rfl,t.toNat,x,b,.inl fun g=>n g.2.1⟩⟩
   ·rw [Z3 m]
    exact .inr ⟨_,rfl,.inl ⟨_,rfl,t.toNat,x,b,.inl fun g=>m g.1⟩⟩
  ·rw [brn c]
   refine .inr ⟨_,rfl,.inr ⟨_,rfl,fun k f=> ?_⟩⟩
   a hkl:k<l.length:=by
     obtain ⟨x,hx,_⟩:=f
     obtain ⟨h,_⟩:=dg.1 hx
     exact h
   exact u k om f
theorem XF {l:List au} {r c:Int} (w:0<=r/\r<=5) (z:0<=c/\c<=5) {R C:Int} (hR:bC .i64 1 r=R) (hC:bC .i64 1 c=C) (hR':1<=R/\R<=4096) (hC':1<=C/\C<=4096):tN l r c=some (vO l R C):=by
 unfold tN
 by_cases q:(l.length:Int)>200
 ·rw [brd q]
  rw [Z2 om]
 rw [brn q]
 a key:=py (step:=pD l r c) (fun t=>0<=t/\t<=l.length/\ ∀k:Nat,(k:Int)<t-> ¬JC l R C k) (fun t=>(l.length-t).toNat)
   (fun e=>(∃x,e= .inl x/\ ∃k,JC l R C k)\/(∃x,e= .inr x/\ ∀k, ¬JC l R C k)) ?_ 0 ⟨by omega,by omega,by omega⟩
 ·obtain ⟨e,s,⟨x,rfl,k,d⟩|⟨x,rfl,d⟩⟩:=key
  ·rw [s]
   simp only [obs,kQ]
   rw [Z2 fun _ h=>h k d]
  ·rw [s]
   simp only [obs,nu]
   rw [a5n om d]
 ·intro t ⟨h0,h1,u⟩
  simp only [pD]
  rw [ee r om om,ee c om om,hR,hC]
  by_cases ct:t<(l.length:Int)
  ·obtain ⟨x,rest,e1,e2,b⟩:=oK (l:=l) (i:=t.toNat) om
   a next: ¬JC l R C t.toNat->(fun t:Int=>0<=t/\t<=l.length/\ ∀k:Nat,(k:Int)<t-> ¬JC l R C k) (t+1):=by
     intro hn
     refine ⟨by omega,by omega,fun k d=> ?_⟩
     by_cases e:k=t.toNat
     ·subst e;exact hn
     ·exact u k om
   rw [brd ct,H8 h0 b]
   simp only [obs,Wk]
   rw [brd w.1]
   rw [ak (R-1) om om,ak (C-1) om om,ak (t+1) om om]
   by_cases j:0<=x.Row/\x.Row<=R-1
   ·rw [WV j,brd z.1]
    by_cases m:0<=x.Col/\x.Col<=C-1
    ·rw [WV m]
     by_cases n:1<=x.Value/\x.Value<=2130706432
     ·rw [WV n]
      by_cases c3:t>0
      ·rw [brd c3,ak (t-1) om om]
       obtain ⟨y,r2,f1,f2,o⟩:=oK (l:=l) (i:=(t-1).toNat) om
       rw [H8 om o]
       simp only [obs]
       rw [show (t-1).toNat=t.toNat-1 by omega] at o
       a good:ltE y x-> ¬JC l R C t.toNat:=by
         rintro p ⟨x',f,g|⟨_,y',v,g3⟩⟩
         ·rw [b] at f;cases f;exact g ⟨j,m,n⟩
         ·rw [b] at f;cases f;rw [o] at v;cases v;exact g3 p
       a bad: ¬ltE y x->JC l R C t.toNat:=fun h=>⟨x,b,.inr ⟨by omega,y,o,h⟩⟩
       by_cases c4:y.Row>x.Row
       ·rw [brd c4]
        exact .inr ⟨_,rfl,.inl ⟨_,rfl,_,bad (by unfold ltE;omega)⟩⟩
       ·rw [brn c4]
        by_cases c5:y.Row=x.Row
        ·rw [bre c5]
         by_cases c6:y.Col>=x.Col
         ·rw [brd c6]
          exact .inr ⟨_,rfl,.inl ⟨_,rfl,_,bad (by unfold ltE;omega)⟩⟩
         ·rw [brn c6]
          exact .inl ⟨_,rfl,next (good (by unfold ltE;omega)),by omega⟩
        ·rw [kL c5]
         exact .inl ⟨_,rfl,next (good (by unfold ltE;omega)),by omega⟩
      ·rw [brn c3]
       refine .inl ⟨_,rfl,next ?_,by omega⟩
       rintro ⟨x',f,g|⟨g0,_⟩⟩
       ·rw [b] at f;cases f;exact g ⟨j,m,n⟩
       ·omega
     ·rw [Z3 n]
      exact .inr ⟨_,rfl,.inl ⟨_,rfl,t.toNat,x,b,.inl fun g=>n g.2.2⟩⟩
    ·rw [Z3 m]
     exact .inr ⟨_,rfl,.inl ⟨_,rfl,t.toNat,x,b,.inl fun g=>m g.2.1⟩⟩
   ·rw [Z3 j]
    exact .inr ⟨_,rfl,.inl ⟨_,rfl,t.toNat,x,b,.inl fun g=>j g.1⟩⟩
  ·rw [brn ct]
   refine .inr ⟨_,rfl,.inr ⟨_,rfl,fun k d=> ?_⟩⟩
   a hkl:k<l.length:=by
     obtain ⟨x,hx,_⟩:=d
     obtain ⟨h,_⟩:=dg.1 hx
     exact h
   exact u k om d
end Go.AI.Fn
namespace Go.AI.Fn
theorem Jy {k:Int} (h:0<=k/\k<=5):1<=bC .i64 1 k/\bC .i64 1 k<=4096:=by
 a:k=0\/k=1\/k=2\/k=3\/k=4\/k=5:=by omega
 rcases this with rfl|rfl|rfl|rfl|rfl|rfl<;>decide
noncomputable def sI (s:bj):Bool:=
 decide (1<=s.Rows/\s.Rows<=5)&&(decide (2<=s.Cols/\s.Cols<=5)&&(decide (0<=s.Publics/\s.Publics<=bC .i64 1 (s.Cols-1)-1)&&
  (vO s.A (bC .i64 1 s.Rows) (bC .i64 1 s.Cols)&&(vO s.B (bC .i64 1 s.Rows) (bC .i64 1 s.Cols)&&vO s.C (bC .i64 1 s.Rows) (bC .i64 1 s.Cols)))))
theorem Ij {s:bj} (h:s.A.length<=1099511627776) (i:s.B.length<=1099511627776) (j:s.C.length<=1099511627776):tz s=some (sI s):=by
 unfold tz sI
 simp only [a0s,obs]
 by_cases b:1<=s.Rows/\s.Rows<=5
 ·rw [WV b]
  by_cases c:2<=s.Cols/\s.Cols<=5
  ·rw [WV c]
   a e:=Jy (k:=s.Rows) om
   a f:=Jy (k:=s.Cols) om
   a l:=Jy (k:=s.Cols-1) om
   unfold eX fu
   rw [ak (s.Cols-1) om om,brd om]
   simp only [obs]
   rw [ak (bC .i64 1 (s.Cols-1)-1) om om]
   by_cases d:0<=s.Publics/\s.Publics<=bC .i64 1 (s.Cols-1)-1
   ·rw [WV d,brd om,brd om,G0 h e f]
    simp only [obs]
    rw [al b,al c,al d]
    cases vO s.A (bC .i64 1 s.Rows) (bC .i64 1 s.Cols)
    ·rfl
    ·simp only [aH,ba]
     rw [brd om,brd om,G0 i e f]
     simp only [obs]
     cases vO s.B (bC .i64 1 s.Rows) (bC .i64 1 s.Cols)
     ·rfl
     ·simp only [aH,ba]
      rw [brd om,brd om,G0 j e f]
      simp only [obs]
      cases vO s.C (bC .i64 1 s.Rows) (bC .i64 1 s.Cols)<;>rfl
   ·rw [Z3 d,al b,al c,ag d];rfl
  ·rw [Z3 c,al b,ag c];rfl
 ·rw [Z3 b,ag b];rfl
theorem IV (s:bj):sZ s=some (sI s):=by
 unfold sZ sI
 simp only [Wk,obs]
 by_cases b:1<=s.Rows/\s.Rows<=5
 ·rw [brd b]
  by_cases c:2<=s.Cols/\s.Cols<=5
  ·rw [brd c]
   a e:=Jy (k:=s.Rows) om
   a f:=Jy (k:=s.Cols) om
   a h:=Jy (k:=s.Cols-1) om
   rw [ak (s.Cols-1) om om,ee (s.Cols-1) om om,brd om,ak (bC .i64 1 (s.Cols-1)-1) om om]
   by_cases d:0<=s.Publics/\s.Publics<=bC .i64 1 (s.Cols-1)-1
   ·rw [brd d,XF om om rfl rfl e f,XF om om rfl rfl e f,XF om om rfl rfl e f]
    rw [al b,al c,al d]
    cases vO s.A (bC .i64 1 s.Rows) (bC .i64 1 s.Cols)<;>cases vO s.B (bC .i64 1 s.Rows) (bC .i64 1 s.Cols)<;>cases vO s.C (bC .i64 1 s.Rows) (bC .i64 1 s.Cols)<;>rfl
   ·rw [brn d,al b,al c,ag d];rfl
  ·rw [brn c,al b,ag c];rfl
 ·rw [brn b,ag b];rfl
theorem m0 {s:bj} (h:sI s=true):(1<=s.Rows/\s.Rows<=5)/\(2<=s.Cols/\s.Cols<=5)/\(0<=s.Publics/\s.Publics<=4096)/\s.A.length<=200/\s.B.length<=200/\s.C.length<=200:=by
 unfold sI at h
 simp only [aD,aC] at h
 obtain ⟨b,c,i,d,e,f⟩:=h
 a j:=Jy (k:=s.Cols-1) om
 exact ⟨b,c,by omega,RU d,RU e,RU f⟩
def setB (t:Setting):Bool:=decide (1<=t.Rate/\t.Rate<=3)&&(decide (1<=t.Queries/\t.Queries<=8)&&decide (0<=t.Grind/\t.Grind<=12))
theorem yt (t:Setting):nF t=some (setB t):=by
 unfold nF setB
 simp only [a0s,obs]
 cases decide (1<=t.Rate/\t.Rate<=3)<;>cases decide (1<=t.Queries/\t.Queries<=8)<;>rfl
theorem xY (t:Setting):nK t=some (setB t):=by
 unfold nK setB
 simp only [Wk,obs]
 cases decide (1<=t.Rate/\t.Rate<=3)<;>cases decide (1<=t.Queries/\t.Queries<=8)<;>rfl
theorem wV {t:Setting} (h:setB t=true):(1<=t.Rate/\t.Rate<=3)/\(1<=t.Queries/\t.Queries<=8)/\0<=t.Grind/\t.Grind<=12:=by
 unfold setB at h
 simpa only [aD,aC] using h
end Go.AI.Fn
namespace Go.AI.Fn
theorem D7 {k:Nat} (h:k<=62):bC .i64 1 (k:Int)=((2^k:Nat):Int):=by
 a b: ∀k:Nat,k<63->(2:Int)^k<=4611686018427387904/\0<(2:Int)^k:=by decide
 obtain ⟨c,d⟩:=b k om
 show IntKind.wrap .i64 (1*2^(min ((k:Int).toNat) 64))=_
 rw [aK,gL om,pY,ak _ om om]
 simp
def Cv (h n:Nat) (pub priv:List Int):List Int:=((1::pub)++List.replicate (h-1-pub.length) 0)++(priv++List.replicate (n-h-priv.length) 0)
theorem a05 {h n:Nat} {pub priv:List Int} (a:pub.length+1<=h) (b:priv.length<=n-h) (c:h<=n):(Cv h n pub priv).length=n:=by simp [Cv];omega
theorem a7B {l r:List Int} {s:Nat} (h:s+r.length<=l.length):Cj l s r.length r=l.take s++(r++l.drop (s+r.length)):=by
 rw [Cj,bk]
theorem b5O {h n:Nat} {pub priv:List Int} (d:pub.length+1<=h) (e:priv.length<=n-h) (f:h<=n):
 Cj (Cj ((List.replicate n (0:Int)).set 0 1) 1 pub.length pub) h priv.length priv=Cv h n pub priv:=by
 obtain ⟨m,rfl⟩: ∃m,n=m+1:=⟨n-1,by omega⟩
 a e1:(List.replicate (m+1) (0:Int)).set 0 1=1::List.replicate m 0:=by rw [lO];rfl
 a e2:Cj (1::List.replicate m (0:Int)) 1 pub.length pub=1::(pub++List.replicate (m-pub.length) 0):=by
   rw [a7B (by simp;omega),jh 1];simp
 rw [e1,e2,a7B (by simp;omega),Cv]
 a b:(1::(pub++List.replicate (m-pub.length) (0:Int))).take h=(1::pub)++List.replicate (h-1-pub.length) 0:=by
   obtain ⟨q,rfl⟩: ∃q,h=q+1:=⟨h-1,by omega⟩
   rw [ly,List.take_append,bZ om,List.take_replicate,gL om]
   simp
 a c:(1::(pub++List.replicate (m-pub.length) (0:Int))).drop (h+priv.length)=List.replicate (m+1-h-priv.length) 0:=by
   obtain ⟨q,rfl⟩: ∃q,h=q+1:=⟨h-1,by omega⟩
   rw [show q+1+priv.length=(q+priv.length)+1 by omega,List.drop_succ_cons,List.drop_append,gt om,bg,List.drop_replicate]
   congr 1;omega
 rw [b,c]
def i6 (s:bj):Nat:=2^(s.Cols.toNat-1)
theorem yy {s:bj} (h:sI s=true):2<=s.Cols.toNat/\s.Cols.toNat<=5/\s.Cols=(s.Cols.toNat:Int):=by
 obtain ⟨_,a,_⟩:=m0 h;omega
theorem LD {s:bj} (h:sI s=true):2^s.Cols.toNat=2*i6 s:=by
 obtain ⟨a,_⟩:=yy h
 rw [i6, <-Nat.pow_succ'];congr 1;omega
theorem wg: ∀k:Nat,k<=5->1<=2^k/\2^k<=32:=by decide
theorem W1 {s:bj} (h:sI s=true):eX s=some (i6 s:Int):=by
 obtain ⟨a,b,c⟩:=yy h
 unfold eX
 rw [ak _ om om,brd om,show s.Cols-1=((s.Cols.toNat-1:Nat):Int) by omega,D7 om];rfl
theorem a3G {s:bj} (h:sI s=true) {pub priv:List Int} (c:pub.length+1<=i6 s) (d:priv.length<=i6 s):mE s pub priv=some (Cv (i6 s) (2^s.Cols.toNat) pub priv):=by
 obtain ⟨c1,c2,c3⟩:=yy h
 a e:=LD h
 a f:=wg s.Cols.toNat c2
 unfold mE
 rw [brd om,c3,D7 om, <-c3]
 simp only [aK,aS]
 a b:0<(List.replicate (2^s.Cols.toNat) (0:Int)).length:=by rw [aS];omega
 rw [El om om om,brd om,hU b,brd om,brd om,W1 h,obs,G7 om om,brd om]
 simp only [aK]
 rw [gL om,gL om,b5O c om om]
theorem c3U {pub priv:List Int} {h c c2 c3:Int} {A B C:List au} {n:Nat} (f:pub.length+1<=n) (i:n<=1000000):
 Loop (iQ pub priv h c c2 c3 A B C) ((List.replicate n (0:Int)).set 0 1,0)=some ((1::pub)++List.replicate (n-1-pub.length) 0,(pub.length:Int),false):=by
 a key:=bu (step:=iQ pub priv h c c2 c3 A B C) (fun k=>((1::pub.take k)++List.replicate (n-(k+1)) 0,(k:Int))) pub.length (e:=((1::pub)++List.replicate (n-1-pub.length) 0,(pub.length:Int),false)) (fun k b=>by
   a d:((1::pub.take k)++List.replicate (n-(k+1)) (0:Int)).length=n:=by simp;omega
   simp only [iQ]
   rw [brd om,ck b,obs,ak (1+(k:Int)) om om,show (1:Int)+(k:Int)=((k+1:Nat):Int) by omega,brd om,brd om,v8 om,obs,aK,SY om (by simp;omega),
    ak _ om om,db b]
   simp) (by
   simp only [iQ]
   rw [brn om,ag om,bk,show n-(pub.length+1)=n-1-pub.length by omega])
 obtain ⟨m,rfl⟩: ∃m,n=m+1:=⟨n-1,by omega⟩
 a e:(List.replicate (m+1) (0:Int)).set 0 1=(1::pub.take 0)++List.replicate (m+1-(0+1)) 0:=by rw [lO];simp
 rw [e];exact key
theorem c5n {L priv:List Int} {h n:Nat} {c c2 c3:Int} {A B C:List au} (hL:L.length=h) (f:priv.length<=n-h) (i:h<=n) (j:n<=1000000):
 Loop (iO priv (h:Int) c c2 c3 A B C) (L++List.replicate (n-h) 0,0)=some (L++(priv++List.replicate (n-h-priv.length) 0),(priv.length:Int),false):=by
 a key:=bu (step:=iO priv (h:Int) c c2 c3 A B C) (fun k=>((L++priv.take k)++List.replicate (n-(h+k)) 0,(k:Int))) priv.length (e:=(L++(priv++List.replicate (n-h-priv.length) 0),(priv.length:Int),false)) (fun k b=>by
   a d:((L++priv.take k)++List.replicate (n-(h+k)) (0:Int)).length=n:=by simp;omega
   simp only [iO]
   rw [brd om,ck b,obs,ak ((h:Int)+(k:Int)) om om,show (h:Int)+(k:Int)=((h+k:Nat):Int) by omega,brd om,brd om,v8 om,obs,aK,SY om (by simp;omega),
    ak _ om om,db b]
   simp [fx]) (by
   simp only [iO]
   rw [brn om,ag om,bk,show n-(h+priv.length)=n-h-priv.length by omega,aV])
 simpa using key
theorem a3e {s:bj} (h:sI s=true) {pub priv:List Int} (d:pub.length+1<=i6 s) (f:priv.length<=i6 s):v6 s pub priv=some (Cv (i6 s) (2^s.Cols.toNat) pub priv):=by
 obtain ⟨c1,c2,c3⟩:=yy h
 a i:=LD h
 a j:=wg s.Cols.toNat c2
 unfold v6
 a e:IntKind.wrap .u64 (IntKind.wrap .i64 (s.Cols-1))=((s.Cols.toNat-1:Nat):Int):=by
   rw [ak _ om om,ee _ om om];omega
 rw [e,brd om,D7 om]
 a e2:IntKind.wrap .i64 (2*((2^(s.Cols.toNat-1):Nat):Int))=((2^s.Cols.toNat:Nat):Int):=by
   a:2^(s.Cols.toNat-1)=i6 s:=rfl
   rw [this,ak _ om om];omega
 rw [e2,El om om om,aK,brd (by rw [aS];omega),hU (by rw [aS];omega),c3U om om,obs]
 dsimp only
 a b:1::pub++List.replicate (2^s.Cols.toNat-1-pub.length) (0:Int)=(1::pub++List.replicate (i6 s-1-pub.length) 0)++List.replicate (2^s.Cols.toNat-i6 s) 0:=by
   rw [aV,List.replicate_append_replicate]
   congr 2;omega
 a c:2^(s.Cols.toNat-1)=i6 s:=rfl
 rw [b,c,c5n (by simp;omega) om om om,obs,Cv]
theorem b1h {l:List Int} (h:l.length<=1000000):Ri l=some (l.map eN):=by
 unfold Ri
 a key:Loop (tH l (l.length:Int)) ([],0)=some (l.map eN,(l.length:Int),false):=
   bu (fun k=>((l.take k).map eN,(k:Int))) l.length (fun k b=>by
    simp only [tH]
    rw [brd om,ck b,obs,bt (by simp only [ab,aO,bc,am];omega),ak _ om om,db b,cI]
    rfl) (by
    simp only [tH]
    rw [brn om,ag om,bk])
 rw [key];rfl
theorem a9e {l:List Int} {n:Nat} (h:l.length<=n) (a:n<=1000000):Bv l (n:Int)=some (l.map eN++List.replicate (n-l.length) e0):=by
 unfold Bv
 rw [El om om om,aK,Jf (step:=tX l) (f:=s6) (g:=eN) om (fun x _=>rfl) (fun l i=>rfl) h,obs];rfl
theorem a6M {h n:Nat} {pub priv:List Int} (b:Kk pub) (c:Kk priv):Kk (Cv h n pub priv):=by
 intro x a
 simp only [Cv,aX,b9,gr] at a
 rcases a with ((rfl|a)|⟨_,rfl⟩)|a|⟨_,rfl⟩
 ·exact b9p
 ·exact b x a
 ·exact c5i
 ·exact c x a
 ·exact c5i
theorem VS {l:List Int} (h:Kk l):gX (l.map eN):=gX.map l fun x a=>a75 (h x a)
def b75 (s:bj) (pub:List Int) (pt:List Ext):Ext:=V0 (((Cv (i6 s) (2^s.Cols.toNat) pub []).take (i6 s)).map eN) (eqT pt)
theorem UQ {s:bj} (h:sI s=true) {pub:List Int} {pt:List Ext} (d:pub.length+1<=i6 s) (f:Kk pub) (i:gX pt) (l:pt.length+1=s.Cols.toNat):yo s pub pt=some (b75 s pub pt):=by
 obtain ⟨c1,c2,c3⟩:=yy h
 a m:=LD h
 a n:=wg s.Cols.toNat c2
 a o:(Cv (i6 s) (2^s.Cols.toNat) pub []).length=2^s.Cols.toNat:=a05 d (by simp) om
 a j:Kk (Cv (i6 s) (2^s.Cols.toNat) pub []):=a6M f (fun x b=>by cases b)
 unfold yo
 rw [a3G h d (by simp),obs,W1 h,obs,m3 om om om,obs]
 a e:((Cv (i6 s) (2^s.Cols.toNat) pub []).drop (Int.toNat 0)).take (((i6 s:Nat):Int).toNat-Int.toNat 0)=(Cv (i6 s) (2^s.Cols.toNat) pub []).take (i6 s):=rfl
 a k:=CX pt
 a c:pt.length=s.Cols.toNat-1:=by omega
 a p:2^pt.length=i6 s:=by rw [c];rfl
 rw [e,b1h (by rw [bc];omega),obs,CQ i om,obs,
  T3 (VS fun x b=>j x (cq b)) (XO _) (by rw [aO,bc];omega) (by rw [aO,bc];omega)]
 rfl
theorem a1u {s:bj} (h:sI s=true) {pub:List Int} {pt:List Ext} (f:pub.length+1<=i6 s) (i:Kk pub) (j:gX pt) (l:pt.length+1=s.Cols.toNat):vy s pub pt=some (b75 s pub pt):=by
 obtain ⟨c1,c2,c3⟩:=yy h
 a m:=LD h
 a n:=wg s.Cols.toNat c2
 a o:(Cv (i6 s) (2^s.Cols.toNat) pub []).length=2^s.Cols.toNat:=a05 f (by simp) om
 a k:Kk (Cv (i6 s) (2^s.Cols.toNat) pub []):=a6M i (fun x b=>by cases b)
 unfold vy
 a e1:IntKind.wrap .u64 (IntKind.wrap .i64 (s.Cols-1))=((s.Cols.toNat-1:Nat):Int):=by
   rw [ak _ om om,ee _ om om];omega
 a e2:bC .i64 1 ((s.Cols.toNat-1:Nat):Int)=(i6 s:Int):=D7 om
 rw [a3e h f (by simp),obs,e1,brd om,e2,m3 om om om,obs,brd om]
 a e:((Cv (i6 s) (2^s.Cols.toNat) pub []).drop (Int.toNat 0)).take (((i6 s:Nat):Int).toNat-Int.toNat 0)=(Cv (i6 s) (2^s.Cols.toNat) pub []).take (i6 s):=rfl
 a c:pt.length=s.Cols.toNat-1:=by omega
 a p:2^pt.length=i6 s:=by rw [c];rfl
 a d:((Cv (i6 s) (2^s.Cols.toNat) pub []).take (i6 s)).length=i6 s:=by rw [bc];omega
 rw [e,a9e om om,obs,d,Nat.sub_self,ld,bV,
  a7w (VS fun x b=>k x (cq b)) j om (by rw [aO];omega)]
 rfl
theorem a7i {s:bj} (h:sI s=true):0<=s.Publics/\s.Publics.toNat+1<=i6 s:=by
 obtain ⟨c1,c2,c3⟩:=yy h
 a h0:=h
 unfold sI at h0
 simp only [aD,aC] at h0
 obtain ⟨_,_,b,_⟩:=h0
 a e:bC .i64 1 (s.Cols-1)=(i6 s:Int):=by
   rw [show s.Cols-1=((s.Cols.toNat-1:Nat):Int) by omega,D7 om];rfl
 rw [e] at b
 omega
end Go.AI.Fn
namespace Go.AI.Fn
end Go.AI.Fn
namespace Go.AI.Fn
end Go.AI.Fn
namespace Go.AI.Fn
def kvv (T:List (List K)):List (List Ext):=T.map kv
theorem Zp (T:List (List K)):(kvv T).length=T.length:=by simp [kvv]
theorem Xe {T:List (List K)} {j:Nat} (h:j<T.length):atL (kvv T) (j:Int)=some (kv (T.getD j [])):=by rw [ck (by rw [Zp];exact h)];simp [kvv,h]
structure OkT (kind n:Nat) (T:List (List K)):Prop where
 kd:kind=1\/kind=2
 len:T.length=2*kind
 tab: ∀i,i<T.length->(T.getD i []).length=n
theorem OkT.bd {kind n:Nat} {T:List (List K)} (h:OkT kind (2*n) T) (r:K):OkT kind n (bdK r T):=⟨h.kd,by simp [bdK,h.len],fun i hi=>by
 rw [b7T]
 exact a6F r _ n (h.tab i (by simpa [bdK] using hi))⟩
variable {kind n:Nat} {T:List (List K)}
theorem WW {v:List K} (f:kind=1\/kind=2) (h:v.length=2*kind):xK (kind:Int) (kv v)=some (cmK kind v).1:=by
 unfold xK cmK
 a b:=wE (l:=v) (j:=0) om
 a c:=wE (l:=v) (j:=1) om
 rw [show ((0:Nat):Int)=0 from rfl] at b
 rw [show ((1:Nat):Int)=1 from rfl] at c
 rcases f with rfl|rfl
 ·rw [bre om,b,obs,c,obs,fQ (aI _) (aI _),ae rfl];rfl
 ·a d:=wE (l:=v) (j:=2) om
  a e:=wE (l:=v) (j:=3) om
  rw [show ((2:Nat):Int)=2 from rfl] at d
  rw [show ((3:Nat):Int)=3 from rfl] at e
  rw [kL om,b,obs,c,obs,d,obs,fQ (aI _) (aI _),obs,e,obs,qY (rv _ _) (aI _),obs,fQ (aI _) (yl _ _),aa (by decide)];rfl
theorem YM {v:List K} (f:kind=1\/kind=2) (h:v.length=2*kind):oU (kind:Int) (kv v)=some (cmK kind v).1:=by
 unfold oU cmK
 a b:=wE (l:=v) (j:=0) om
 a c:=wE (l:=v) (j:=1) om
 rw [show ((0:Nat):Int)=0 from rfl] at b
 rw [show ((1:Nat):Int)=1 from rfl] at c
 rcases f with rfl|rfl
 ·rw [bre om,b,obs,c,obs,fC (aI _) (aI _),ae rfl];rfl
 ·a d:=wE (l:=v) (j:=2) om
  a e:=wE (l:=v) (j:=3) om
  rw [show ((2:Nat):Int)=2 from rfl] at d
  rw [show ((3:Nat):Int)=3 from rfl] at e
  rw [kL om,b,obs,c,obs,d,obs,fC (aI _) (aI _),obs,e,obs,GS (rv _ _) (aI _),obs,fC (aI _) (yl _ _),aa (by decide)];rfl
theorem Av (a:kind=1\/kind=2):qQ (kind:Int)=some ((kind+1:Nat):Int):=by
 unfold qQ
 rw [H0,obs,al om,al om,np,aH,ba,ak _ om om];rfl
end Go.AI.Fn
namespace Go.AI.Fn
theorem b2R (a:Int): ∀n:Nat,K.n (a^n)=K.n a^n
 |0=>by rw [lj,pw0];rfl
 |n+1=>by rw [g9,K.n_mul,b2R a n,pwS]
theorem c5l (a:Int):K.n (a%2130706433)=K.n a:=K.ext (by show eN (a%2130706433%2130706433)=eN (a%2130706433);rw [s9])
theorem c6w (a:Int) (n:Nat):kF (pF a n)=kF a^n:=by rw [kF,pF,c5l,b2R];rfl
theorem a6C (a:Int):kF (iF a)=kF a^2130706431:=by rw [iF,c6w]
theorem a9F (a b:Int):kF (iF (mF a b))=kF (iF a)*kF (iF b):=by rw [a6C,a6C,a6C,b6x,b3g]
theorem a9n:kF (iF 1)=1:=by rw [a6C,show kF 1=1 from rfl,b5R]
def lnI (i:Nat) (x v:K):Nat->K
 |0=>v
 |k+1=>if k=i then lnI i x v k else lnI i x v k*(x-kF (k:Int))*kF (iF (sF (i:Int) (k:Int)))
def lnP (i:Nat) (x v:K):Nat->K
 |0=>v
 |k+1=>if k=i then lnP i x v k else lnP i x v k*(x-kF (k:Int))
def lnD (i:Nat):Nat->Int
 |0=>1
 |k+1=>if k=i then lnD i k else mF (lnD i k) (sF (i:Int) (k:Int))
theorem a4Y (i:Nat): ∀k,okF (lnD i k)
 |0=>b9p
 |k+1=>by unfold lnD;split;exact a4Y i k;exact pH _ _
theorem c1U (i:Nat) (x v:K): ∀k,lnI i x v k=lnP i x v k*kF (iF (lnD i k))
 |0=>by rw [lnI,lnP,lnD,a9n];exact kg
 |k+1=>by
  a ih:=c1U i x v k
  unfold lnI lnP lnD
  split
  ·exact ih
  ·rw [a9F,ih];exact kg
def lnK (vs:List K) (x:K):K:=a3b vs.length fun i=>lnI i x (vs.getD i 0) vs.length
theorem b6K {x:Nat} (h:x<=10):Ext.mk (x:Int) 0=(kF (x:Int)).1:=(DP ⟨by omega,by omega⟩).symm
theorem Nr {vs:List K} (x:K) (f:vs.length<=8):Bm (kv vs) x.1=some (lnK vs x).1:=by
 unfold Bm
 b key:=bu (step:=m7 (kv vs) (kv vs) (vs.length:Int) x.1.A x.1.B 0 0) (fun j=>((j:Int),(a3b j fun i=>lnI i x (vs.getD i 0) vs.length).1.A,(a3b j fun i=>lnI i x (vs.getD i 0) vs.length).1.B)) vs.length (e:=((vs.length:Int),false,(lnK vs x).1.A,(lnK vs x).1.B)) (fun j d=> ?_) ?_
 ·b key':Loop (m7 (kv vs) (kv vs) (vs.length:Int) x.1.A x.1.B 0 0) (0,0,0)=_:=key
  rw [cg,key'];rfl
 ·simp only [m7]
  b inner: ∀c9 c10 c11 c12 c13 c14,Loop (mb (kv vs) (j:Int) (kv vs) (vs.length:Int) (j:Int) (((kv vs).length:Nat):Int) x.1.A x.1.B c9 c10 c11 c12 c13 c14) (0,(vs.getD j 0).1.A,(vs.getD j 0).1.B)=some ((vs.length:Int),false,(lnI j x (vs.getD j 0) vs.length).1.A,(lnI j x (vs.getD j 0) vs.length).1.B):=fun c9 c10 c11 c12 c13 c14=>by
    refine bu (step:=mb (kv vs) (j:Int) (kv vs) (vs.length:Int) (j:Int) (((kv vs).length:Nat):Int) x.1.A x.1.B c9 c10 c11 c12 c13 c14) (fun k=>((k:Int),(lnI j x (vs.getD j 0) k).1.A,(lnI j x (vs.getD j 0) k).1.B)) vs.length (fun k h=> ?_) ?_
    ·simp only [mb,cg]
     rw [brd om]
     by_cases c:k=j
     ·rw [fj om,ak _ om om,lnI,ae c];rfl
     ·rw [brb om,b6K om,show Ext.mk x.1.A x.1.B=x.1 from rfl,qY x.2 (aI _),obs,fQ (aI (lnI j x (vs.getD j 0) k)) (yl _ _),obs,QS ⟨by omega,by omega⟩ ⟨by omega,by omega⟩,obs,CT (c1K _ _),obs,zn (rv _ _) (show okF (iF (sF (j:Int) (k:Int))) from QQ _ _),obs,ak _ om om,lnI,aa c,a6U, <-DP (a:=iF (sF (j:Int) (k:Int))) (QQ _ _)];rfl
    ·simp only [mb,cg]
     rw [brn om,ag om]
  rw [brd om,wE d,obs,inner,obs,kW (aI (a3b j fun i=>lnI i x (vs.getD i 0) vs.length)) (aI (lnI j x (vs.getD j 0) vs.length)),obs,ak _ om om];rfl
 ·simp only [m7]
  rw [brn om,ag om];rfl
theorem VF {vs:List K} (x:K) (f:vs.length<=8):xM (kv vs) x.1=some (lnK vs x).1:=by
 unfold xM
 b key:=bu (step:=ky (kv vs) x.1.A x.1.B 0 0) (fun j=>((j:Int),(a3b j fun i=>lnI i x (vs.getD i 0) vs.length).1.A,(a3b j fun i=>lnI i x (vs.getD i 0) vs.length).1.B)) vs.length (e:=((vs.length:Int),false,(lnK vs x).1.A,(lnK vs x).1.B)) (fun j d=> ?_) ?_
 ·b key':Loop (ky (kv vs) x.1.A x.1.B 0 0) (0,0,0)=_:=key
  rw [key'];rfl
 ·simp only [ky,cg]
  b inner: ∀c9 c10 c11 c12,Loop (kE (kv vs) (j:Int) x.1.A x.1.B c9 c10 c11 c12) (1,0,(vs.getD j 0).1.A,(vs.getD j 0).1.B)=some (lnD j vs.length,(vs.length:Int),false,(lnP j x (vs.getD j 0) vs.length).1.A,(lnP j x (vs.getD j 0) vs.length).1.B):=fun c9 c10 c11 c12=>by
    refine bu (step:=kE (kv vs) (j:Int) x.1.A x.1.B c9 c10 c11 c12) (fun k=>(lnD j k,(k:Int),(lnP j x (vs.getD j 0) k).1.A,(lnP j x (vs.getD j 0) k).1.B)) vs.length (fun k h=> ?_) ?_
    ·simp only [kE,cg]
     rw [brd om]
     by_cases c:k=j
     ·rw [fj om,ak _ om om,lnP,lnD,ae c,ae c];rfl
     ·rw [brb om,Lr,obs,show eN (k:Int)=(kF (k:Int)).1 from b6K om,show Ext.mk x.1.A x.1.B=x.1 from rfl,GS x.2 (aI _),obs,fC (aI (lnP j x (vs.getD j 0) k)) (yl _ _),obs,RG ⟨by omega,by omega⟩ ⟨by omega,by omega⟩,obs,uX (a4Y j k) (c1K _ _),obs,ak _ om om,lnP,lnD,aa c,aa c];rfl
    ·simp only [kE,cg]
     rw [brn om,ag om]
  unfold ma
  rw [brd om,wE d,obs,inner,obs]
  dsimp only
  rw [DF (a4Y j _),obs,obs,Lr,obs, <-DP (a:=iF (lnD j vs.length)) (QQ _ _),fC (aI (lnP j x (vs.getD j 0) vs.length)) (aI _),obs,
   show eM (Ext.mk (lnP j x (vs.getD j 0) vs.length).1.A (lnP j x (vs.getD j 0) vs.length).1.B) (kF (iF (lnD j vs.length))).1=(lnI j x (vs.getD j 0) vs.length).1 from congrArg Subtype.val (c1U j x _ _).symm,
   lz (aI (a3b j fun i=>lnI i x (vs.getD i 0) vs.length)) (aI (lnI j x (vs.getD j 0) vs.length)),obs,ak _ om om];rfl
 ·simp only [ky,cg]
  rw [brn om,ag om];rfl
end Go.AI.Fn
namespace Go.AI.Fn
abbrev xo (a b:Int):Int:=nh .u64 a b
def rot (x s:Int):Int:=if s=0 then x else xi .u64 (bC .u64 x s) (bW .u64 x (64-s))
def Oz (x:Int):Prop:=0<=x/\x<18446744073709551616
theorem YZ (x:Int):Oz (IntKind.wrap .u64 x):=by
 unfold Oz;simp [IntKind.wrap,IntKind.bits,IntKind.signed];omega
theorem c62 (a b:Int):Oz (xo a b):=YZ _
theorem a2y {x:Int} (h:Oz x):((BitVec.ofInt 64 x).toNat:Int)=x:=by
 obtain ⟨h0,a⟩:=h
 rw [gy];omega
theorem Kn {a:Int} (h:Oz a):xo 0 a=a:=by
 show IntKind.wrap .u64 _=a
 b:(BitVec.ofInt 64 0^^^BitVec.ofInt 64 a)=BitVec.ofInt 64 a:=by simp
 show IntKind.wrap .u64 ((BitVec.ofInt 64 0^^^BitVec.ofInt 64 a).toNat:Int)=a
 rw [this,a2y h,ee a h.1 h.2]
theorem c08 {a:Int} (h:Oz a):xi .u64 a 0=a:=by
 b:(BitVec.ofInt 64 a|||BitVec.ofInt 64 0)=BitVec.ofInt 64 a:=by simp
 show IntKind.wrap .u64 ((BitVec.ofInt 64 a|||BitVec.ofInt 64 0).toNat:Int)=a
 rw [this,a2y h,ee a h.1 h.2]
theorem c0B (x y:Int):Qw .u64 x y=cM .u64 (dD .u64 y) x:=by
 show IntKind.wrap .u64 ((BitVec.ofInt 64 x&&& ~~~ BitVec.ofInt 64 y).toNat:Int)=IntKind.wrap .u64 ((BitVec.ofInt 64 (dD .u64 y)&&&BitVec.ofInt 64 x).toNat:Int)
 a h:BitVec.ofInt 64 (dD .u64 y)= ~~~ BitVec.ofInt 64 y:=by
   show BitVec.ofInt 64 (IntKind.wrap .u64 ((BitVec.ofInt 64 18446744073709551615^^^BitVec.ofInt 64 y).toNat:Int))=_
   a e:(BitVec.ofInt 64 18446744073709551615^^^BitVec.ofInt 64 y)= ~~~ BitVec.ofInt 64 y:=by
     rw [show BitVec.ofInt 64 18446744073709551615=BitVec.allOnes 64 by decide,BitVec.allOnes_xor]
   rw [e,ee _ om (by a:=(~~~ BitVec.ofInt 64 y).isLt;omega)]
   rw [BitVec.ofInt_natCast,BitVec.ofNat_toNat];simp
 rw [h,BitVec.and_comm]
theorem a6V {x s:Int} (a:0<=s/\s<64):xX x s=some (rot x s):=by
 unfold xX rot
 by_cases h:s=0
 ·rw [bre h,ae h]
 ·rw [kL h,aa h,brd a.1,ee (64-s) om om,brd om]
end Go.AI.Fn
namespace Go.AI.Fn
theorem c6C: ∀k:Nat,k<64->cM .u64 (IntKind.wrap .u64 (k:Int)) 63=(k:Int):=by decide
theorem a7e {x s:Int} (c:0<=s/\s<64) (b:s≠0\/Oz x):ff x s=some (rot x s):=by
 a e:cM .u64 (IntKind.wrap .u64 s) 63=s:=by
   a:=c6C s.toNat om
   rwa [eo c.1] at this
 unfold ff rot
 rw [e,brd c.1,ee (64-s) om om,brd om]
 by_cases h:s=0
 ·subst h
  a b:Oz x:=b.resolve_left (fun h=>h rfl)
  a e1:bC .u64 x 0=x:=by
    show IntKind.wrap .u64 (x*2^0)=x
    rw [lj,Int.mul_one,ee x b.1 b.2]
  a e2:bW .u64 x (64-0)=0:=by
    show x.fdiv (2^64)=0
    rw [kY _ (by decide)]
    exact Int.ediv_eq_zero_of_lt b.1 b.2
  rw [e1,e2,c08 b,ae rfl]
 ·rw [aa h]
abbrev g (l:List Int) (i:Int):Int:=l.getD i.toNat 0
def so:List Int:=[0,1,62,28,27,36,44,6,55,20,3,10,43,25,39,41,45,15,21,8,18,2,61,56,14]
theorem b4G: ∀k:Nat,k<25->0<=so.getD k 0/\so.getD k 0<64:=by decide
def p2 (m:List Int) (k:Nat) (l:List Int):List Int:=l.set ((k:Int)%5).toNat (xo (g l ((k:Int)%5)) (g m k))
def p3 (m c:List Int) (k:Nat) (l:List Int):List Int:=
 l.set ((k:Int)/5+5*((2*((k:Int)%5)+3*((k:Int)/5))%5)).toNat (rot (xo (g m k) (xo (g c (((k:Int)%5+4)%5)) (rot (g c (((k:Int)%5+1)%5)) 1))) (g so k))
def p4 (b:List Int) (k:Nat) (l:List Int):List Int:=
 l.set k (xo (g b k) (Qw .u64 (g b ((k:Int)-(k:Int)%5+((k:Int)%5+2)%5)) (g b ((k:Int)-(k:Int)%5+((k:Int)%5+1)%5))))
def q2 (m:List Int) (k:Nat) (l:List Int):List Int:=l.set k (xo (xo (xo (xo (g m k) (g m ((k:Int)+5))) (g m ((k:Int)+10))) (g m ((k:Int)+15))) (g m ((k:Int)+20)))
def q3 (c:List Int) (k:Nat) (l:List Int):List Int:=l.set k (xo (g l k) (xo (g c (((k:Int)+4)%5)) (rot (g c (((k:Int)+1)%5)) 1)))
def q5 (m:List Int) (x:Int) (y:Nat) (l:List Int):List Int:=l.set ((y:Int)+5*((2*x+3*(y:Int))%5)).toNat (rot (g m (x+5*(y:Int))) (g so (x+5*(y:Int))))
def q4 (m:List Int) (x:Nat) (l:List Int):List Int:=iU (q5 m x) 5 l
def q7 (b:List Int) (x:Int) (y:Nat) (l:List Int):List Int:=l.set (x+5*(y:Int)).toNat (xo (g b (x+5*(y:Int))) (cM .u64 (dD .u64 (g b ((x+1)%5+5*(y:Int)))) (g b ((x+2)%5+5*(y:Int)))))
def q6 (b:List Int) (x:Nat) (l:List Int):List Int:=iU (q7 b x) 5 l
theorem b1M (m:List Int) (k:Nat) (l:List Int):(iU (p2 m) k l).length=l.length:=wh (fun _ _=>bf) k l
theorem WD (m c:List Int) (k:Nat) (l:List Int):(iU (p3 m c) k l).length=l.length:=wh (fun _ _=>bf) k l
theorem Y4 (b:List Int) (k:Nat) (l:List Int):(iU (p4 b) k l).length=l.length:=wh (fun _ _=>bf) k l
theorem a4E (m:List Int) (k:Nat) (l:List Int):(iU (q2 m) k l).length=l.length:=wh (fun _ _=>bf) k l
theorem Q7 (c:List Int) (k:Nat) (l:List Int):(iU (q3 c) k l).length=l.length:=wh (fun _ _=>bf) k l
theorem b1S (m:List Int) (x:Int) (k:Nat) (l:List Int):(iU (q5 m x) k l).length=l.length:=wh (fun _ _=>bf) k l
theorem b3M (m:List Int) (x:Int) (k:Nat) (l:List Int):(iU (q7 m x) k l).length=l.length:=wh (fun _ _=>bf) k l
theorem a4y (m:List Int) (k:Nat) (l:List Int):(iU (q4 m) k l).length=l.length:=wh (fun x l=>b1S m x 5 l) k l
theorem b4L (m:List Int) (k:Nat) (l:List Int):(iU (q6 m) k l).length=l.length:=wh (fun x l=>b3M m x 5 l) k l
theorem b8Q {a c d e t4:List Int} {t3 f:Int} (h:a.length=25):Loop (gK a c d e t3 t4 f) (nZ 5,0)=some (iU (p2 a) 25 (nZ 5),25,false):=
 bu (fun k=>(iU (p2 a) k (nZ 5),(k:Int))) 25 (fun k j=>by
  b i:=b1M a k (nZ 5)
  rw [pq] at i
  simp only [gK]
  simp (disch:=omega) only [brd,ej,G7,hU,ak]
  simp only [iU,p2,aK,lm]
  rfl) (by
  simp (disch:=omega) only [gK,brn];rfl)
theorem b8u {a c d e:List Int} {t2:Int} (h:a.length=25):Loop (ji a c d e t2) (nZ 5,0)=some (iU (q2 a) 5 (nZ 5),5,false):=
 bu (fun k=>(iU (q2 a) k (nZ 5),(k:Int))) 5 (fun k i=>by
  b f:=a4E a k (nZ 5)
  rw [pq] at f
  simp only [ji]
  simp (disch:=omega) only [brd,ej,G7,hU,ak]
  simp only [iU,q2,aK,lm]
  rfl) (by
  simp (disch:=omega) only [ji,brn];rfl)
theorem a0J (k:Nat) (a:k<25):0<=so.getD k 0/\so.getD k 0<64:=b4G k a
theorem MY:so.length=25:=rfl
theorem c0a {m10 m12 c b:List Int} {d e:Int} (h:m10.length=25) (m:c.length=5):Loop (gH m10 so m12 c d b e) (nZ 25,0)=some (iU (p3 m10 c) 25 (nZ 25),25,false):=
 bu (fun k=>(iU (p3 m10 c) k (nZ 25),(k:Int))) 25 (fun k f=>by
  a i:=WD m10 c k (nZ 25)
  rw [pq] at i
  a j:=a0J k f
  a l:=MY
  simp only [gH]
  simp (disch:=omega) only [brd,ej,pV,G7,hU,ak]
  rw [a7e ⟨by decide,by decide⟩ (.inl (by decide))]
  simp only [obs]
  simp only [aK]
  rw [a7e j (.inr (c62 _ _))]
  simp only [obs]
  rfl) (by
  simp (disch:=omega) only [gH,brn];rfl)
theorem b7X {m16 m17 m18 b t12:List Int} {t11 t13:Int} {m:List Int} (h:m.length=25) (c:b.length=25):Loop (gJ m16 m17 m18 b t11 t12 t13 b) (m,0)=some (iU (p4 b) 25 m,25,false):=
 bu (fun k=>(iU (p4 b) k m,(k:Int))) 25 (fun k d=>by
  a e:=Y4 b k m
  simp only [gJ]
  simp (disch:=omega) only [brd,ej,pV,G7,hU,ak]
  rfl) (by
  simp (disch:=omega) only [gJ,brn];rfl)
theorem b9t {m11 m12 m13 c m:List Int} {t4:Int} (h:m.length=25) (b:c.length=5):Loop (jp m11 m12 m13 c t4) (m,0)=some (iU (q3 c) 25 m,25,false):=
 bu (fun k=>(iU (q3 c) k m,(k:Int))) 25 (fun k d=>by
  a e:=Q7 c k m
  simp only [jp]
  simp (disch:=omega) only [brd,ej,pV,G7,hU,ak]
  rw [a6V ⟨by decide,by decide⟩]
  simp only [obs]
  rfl) (by
  simp (disch:=omega) only [jp,brn];rfl)
theorem c0G {a m22 m23 m25 m:List Int} {c:Int} {x:Nat} (f:x<5) (h:m.length=25) (i:a.length=25):Loop (jq a m22 m23 so m25 c x) (m,0)=some (iU (q5 a x) 5 m,5,false):=
 bu (fun k=>(iU (q5 a x) k m,(k:Int))) 5 (fun k j=>by
  b l:=b1S a x k m
  b d:=a0J ((x:Int)+5*(k:Int)).toNat om
  b e:=MY
  simp only [jq]
  simp (disch:=omega) only [brd,ej,pV,G7,hU,ak]
  rw [a6V d]
  simp only [obs]
  rfl) (by
  simp (disch:=omega) only [jq,brn];rfl)
theorem c1w {a m16 m17 m19 m:List Int} {c:Int} (h:m.length=25) (d:a.length=25):Loop (jm a m16 m17 so m19 c) (m,0)=some (iU (q4 a) 5 m,5,false):=
 bu (fun k=>(iU (q4 a) k m,(k:Int))) 5 (fun k e=>by
  b f:=a4y a k m
  simp only [jm]
  rw [brd om,c0G e om d,obs,ak _ om om]
  rfl) (by
  simp (disch:=omega) only [jm,brn];rfl)
theorem b8F {m34 m35 m36 m37 b m:List Int} {t13:Int} {x:Nat} (c:x<5) (h:m.length=25) (d:b.length=25):Loop (jk m34 m35 m36 m37 b t13 x) (m,0)=some (iU (q7 b x) 5 m,5,false):=
 bu (fun k=>(iU (q7 b x) k m,(k:Int))) 5 (fun k e=>by
  a f:=b3M b x k m
  simp only [jk]
  simp (disch:=omega) only [brd,ej,pV,G7,hU,ak]
  rfl) (by
  simp (disch:=omega) only [jk,brn];rfl)
theorem b8h {m28 m29 m30 m31 b m:List Int} {t11:Int} (h:m.length=25) (c:b.length=25):Loop (jn m28 m29 m30 m31 b t11) (m,0)=some (iU (q6 b) 5 m,5,false):=
 bu (fun k=>(iU (q6 b) k m,(k:Int))) 5 (fun k d=>by
  a e:=b4L b k m
  simp only [jn]
  rw [brd om,b8F d om c,obs,ak _ om om]
  rfl) (by
  simp (disch:=omega) only [jn,brn];rfl)
def D9 (m:List Int) (rc:Int):List Int:=
 let c:=iU (p2 m) 25 (nZ 5)
 let b:=iU (p3 m c) 25 (nZ 25)
 let r:=iU (p4 b) 25 m
 r.set 0 (xo (r.getD 0 0) rc)
def a4l (m:List Int) (rc:Int):List Int:=
 let c:=iU (q2 m) 5 (nZ 5)
 let a:=iU (q3 c) 25 m
 let b:=iU (q4 a) 5 (nZ 25)
 let r:=iU (q6 b) 5 a
 r.set 0 (xo (r.getD 0 0) rc)
end Go.AI.Fn
namespace Go.AI.Fn
theorem dj {l:List Int} {n:Nat} (h:l.length=n+1): ∃a r,l=a::r/\r.length=n:=by
 cases l with
 |nil=>simp at h
 |cons a r=>exact ⟨a,r,rfl,by simpa using h⟩
theorem b7N {l:List Int} (h:l.length=0):l=[]:=bS h
theorem a1j {l:List Int} (h:l.length=25): ∃s t a2 a3 u v w x y z a10 a11 a12 a13 a14 a15 a16 a17 a18 a19 a20 a21 a22 a23 a24,l=[s,t,a2,a3,u,v,w,x,y,z,a10,a11,a12,a13,a14,a15,a16,a17,a18,a19,a20,a21,a22,a23,a24]:=by
 obtain ⟨s,r0,rfl,h0⟩:=dj h
 obtain ⟨t,r1,rfl,h1⟩:=dj h0
 obtain ⟨a2,r2,rfl,h2⟩:=dj h1
 obtain ⟨a3,r3,rfl,h3⟩:=dj h2
 obtain ⟨u,r4,rfl,h4⟩:=dj h3
 obtain ⟨v,r5,rfl,h5⟩:=dj h4
 obtain ⟨w,r6,rfl,h6⟩:=dj h5
 obtain ⟨x,r7,rfl,h7⟩:=dj h6
 obtain ⟨y,r8,rfl,h8⟩:=dj h7
 obtain ⟨z,r9,rfl,h9⟩:=dj h8
 obtain ⟨a10,r10,rfl,a⟩:=dj h9
 obtain ⟨a11,r11,rfl,b⟩:=dj a
 obtain ⟨a12,r12,rfl,c⟩:=dj b
 obtain ⟨a13,r13,rfl,d⟩:=dj c
 obtain ⟨a14,r14,rfl,e⟩:=dj d
 obtain ⟨a15,r15,rfl,f⟩:=dj e
 obtain ⟨a16,r16,rfl,i⟩:=dj f
 obtain ⟨a17,r17,rfl,j⟩:=dj i
 obtain ⟨a18,r18,rfl,k⟩:=dj j
 obtain ⟨a19,r19,rfl,m⟩:=dj k
 obtain ⟨a20,r20,rfl,n⟩:=dj m
 obtain ⟨a21,r21,rfl,o⟩:=dj n
 obtain ⟨a22,r22,rfl,p⟩:=dj o
 obtain ⟨a23,r23,rfl,q⟩:=dj p
 obtain ⟨a24,r24,rfl,r⟩:=dj q
 obtain rfl:=b7N r
 exact ⟨_,_,_,_,_,_,_,_,_,_,_,_,_,_,_,_,_,_,_,_,_,_,_,_,_,rfl⟩
def m5 (m:List Int):Prop:=m.length=25/\ ∀x∈m,Oz x
def cs (m:List Int):List Int:=iU (q2 m) 5 (nZ 5)
theorem b7B {m:List Int} (h:m5 m):iU (p2 m) 25 (nZ 5)=cs m:=by
 obtain ⟨o,b⟩:=h
 obtain ⟨c,d,a2,a3,e,f,i,j,l,n,a10,a11,a12,a13,a14,a15,a16,a17,a18,a19,a20,a21,a22,a23,a24,rfl⟩:=a1j o
 a e0:=Kn (b c (by simp))
 a e1:=Kn (b d (by simp))
 a e2:=Kn (b a2 (by simp))
 a p:=Kn (b a3 (by simp))
 a q:=Kn (b e (by simp))
 a k:iU (p2 [c,d,a2,a3,e,f,i,j,l,n,a10,a11,a12,a13,a14,a15,a16,a17,a18,a19,a20,a21,a22,a23,a24]) 25 (nZ 5)=[xo (xo (xo (xo (xo 0 c) f) a10) a15) a20,xo (xo (xo (xo (xo 0 d) i) a11) a16) a21,xo (xo (xo (xo (xo 0 a2) j) a12) a17) a22,xo (xo (xo (xo (xo 0 a3) l) a13) a18) a23,xo (xo (xo (xo (xo 0 e) n) a14) a19) a24]:=by kernel_rfl
 a r:cs [c,d,a2,a3,e,f,i,j,l,n,a10,a11,a12,a13,a14,a15,a16,a17,a18,a19,a20,a21,a22,a23,a24]=
   [xo (xo (xo (xo c f) a10) a15) a20,xo (xo (xo (xo d i) a11) a16) a21,xo (xo (xo (xo a2 j) a12) a17) a22,xo (xo (xo (xo a3 l) a13) a18) a23,xo (xo (xo (xo e n) a14) a19) a24]:=by kernel_rfl
 rw [k,r,e0,e1,e2,p,q]
theorem b97 {c:List Int} (a b a2 a3 d e f h i j a10 a11 a12 a13 a14 a15 a16 a17 a18 a19 a20 a21 a22 a23 a24:Int):iU (p3 [a,b,a2,a3,d,e,f,h,i,j,a10,a11,a12,a13,a14,a15,a16,a17,a18,a19,a20,a21,a22,a23,a24] c) 25 (nZ 25)=[rot (xo a (xo (g c 4) (rot (g c 1) 1))) 0,rot (xo f (xo (g c 0) (rot (g c 2) 1))) 44,rot (xo a12 (xo (g c 1) (rot (g c 3) 1))) 43,rot (xo a18 (xo (g c 2) (rot (g c 4) 1))) 21,rot (xo a24 (xo (g c 3) (rot (g c 0) 1))) 14,rot (xo a3 (xo (g c 2) (rot (g c 4) 1))) 28,rot (xo j (xo (g c 3) (rot (g c 0) 1))) 20,rot (xo a10 (xo (g c 4) (rot (g c 1) 1))) 3,rot (xo a16 (xo (g c 0) (rot (g c 2) 1))) 45,rot (xo a22 (xo (g c 1) (rot (g c 3) 1))) 61,rot (xo b (xo (g c 0) (rot (g c 2) 1))) 1,rot (xo h (xo (g c 1) (rot (g c 3) 1))) 6,rot (xo a13 (xo (g c 2) (rot (g c 4) 1))) 25,rot (xo a19 (xo (g c 3) (rot (g c 0) 1))) 8,rot (xo a20 (xo (g c 4) (rot (g c 1) 1))) 18,rot (xo d (xo (g c 3) (rot (g c 0) 1))) 27,rot (xo e (xo (g c 4) (rot (g c 1) 1))) 36,rot (xo a11 (xo (g c 0) (rot (g c 2) 1))) 10,rot (xo a17 (xo (g c 1) (rot (g c 3) 1))) 15,rot (xo a23 (xo (g c 2) (rot (g c 4) 1))) 56,rot (xo a2 (xo (g c 1) (rot (g c 3) 1))) 62,rot (xo i (xo (g c 2) (rot (g c 4) 1))) 55,rot (xo a14 (xo (g c 3) (rot (g c 0) 1))) 39,rot (xo a15 (xo (g c 4) (rot (g c 1) 1))) 41,rot (xo a21 (xo (g c 0) (rot (g c 2) 1))) 2]:=by kernel_rfl
theorem b9R {c:List Int} (a b a2 a3 d e f h i j a10 a11 a12 a13 a14 a15 a16 a17 a18 a19 a20 a21 a22 a23 a24:Int):iU (q3 c) 25 [a,b,a2,a3,d,e,f,h,i,j,a10,a11,a12,a13,a14,a15,a16,a17,a18,a19,a20,a21,a22,a23,a24]=[xo a (xo (g c 4) (rot (g c 1) 1)),xo b (xo (g c 0) (rot (g c 2) 1)),xo a2 (xo (g c 1) (rot (g c 3) 1)),xo a3 (xo (g c 2) (rot (g c 4) 1)),xo d (xo (g c 3) (rot (g c 0) 1)),xo e (xo (g c 4) (rot (g c 1) 1)),xo f (xo (g c 0) (rot (g c 2) 1)),xo h (xo (g c 1) (rot (g c 3) 1)),xo i (xo (g c 2) (rot (g c 4) 1)),xo j (xo (g c 3) (rot (g c 0) 1)),xo a10 (xo (g c 4) (rot (g c 1) 1)),xo a11 (xo (g c 0) (rot (g c 2) 1)),xo a12 (xo (g c 1) (rot (g c 3) 1)),xo a13 (xo (g c 2) (rot (g c 4) 1)),xo a14 (xo (g c 3) (rot (g c 0) 1)),xo a15 (xo (g c 4) (rot (g c 1) 1)),xo a16 (xo (g c 0) (rot (g c 2) 1)),xo a17 (xo (g c 1) (rot (g c 3) 1)),xo a18 (xo (g c 2) (rot (g c 4) 1)),xo a19 (xo (g c 3) (rot (g c 0) 1)),xo a20 (xo (g c 4) (rot (g c 1) 1)),xo a21 (xo (g c 0) (rot (g c 2) 1)),xo a22 (xo (g c 1) (rot (g c 3) 1)),xo a23 (xo (g c 2) (rot (g c 4) 1)),xo a24 (xo (g c 3) (rot (g c 0) 1))]:=by kernel_rfl
theorem c0N (a b a2 a3 c d e f h i a10 a11 a12 a13 a14 a15 a16 a17 a18 a19 a20 a21 a22 a23 a24:Int):iU (q4 [a,b,a2,a3,c,d,e,f,h,i,a10,a11,a12,a13,a14,a15,a16,a17,a18,a19,a20,a21,a22,a23,a24]) 5 (nZ 25)=[rot a 0,rot e 44,rot a12 43,rot a18 21,rot a24 14,rot a3 28,rot i 20,rot a10 3,rot a16 45,rot a22 61,rot b 1,rot f 6,rot a13 25,rot a19 8,rot a20 18,rot c 27,rot d 36,rot a11 10,rot a17 15,rot a23 56,rot a2 62,rot h 55,rot a14 39,rot a15 41,rot a21 2]:=by kernel_rfl
theorem b3s {m c:List Int} (a:m.length=25):iU (p3 m c) 25 (nZ 25)=iU (q4 (iU (q3 c) 25 m)) 5 (nZ 25):=by
 obtain ⟨b,d,a2,a3,e,f,h,i,j,k,a10,a11,a12,a13,a14,a15,a16,a17,a18,a19,a20,a21,a22,a23,a24,rfl⟩:=a1j a
 rw [b97,b9R,c0N]
def p4' (b:List Int) (k:Nat) (l:List Int):List Int:=l.set k (xo (g b k) (cM .u64 (dD .u64 (g b ((k:Int)-(k:Int)%5+((k:Int)%5+1)%5))) (g b ((k:Int)-(k:Int)%5+((k:Int)%5+2)%5))))
theorem c7b (b:List Int):p4 b=p4' b:=by funext k l;unfold p4 p4';rw [c0B]
theorem b7d (a b a2 a3 c d e f h i a10 a11 a12 a13 a14 a15 a16 a17 a18 a19 a20 a21 a22 a23 a24 j k l m n o p q r s b10 b11 b12 b13 b14 b15 b16 b17 b18 b19 b20 b21 b22 b23 b24:Int):iU (p4' [a,b,a2,a3,c,d,e,f,h,i,a10,a11,a12,a13,a14,a15,a16,a17,a18,a19,a20,a21,a22,a23,a24]) 25 [j,k,l,m,n,o,p,q,r,s,b10,b11,b12,b13,b14,b15,b16,b17,b18,b19,b20,b21,b22,b23,b24]=[xo a (cM .u64 (dD .u64 b) a2),xo b (cM .u64 (dD .u64 a2) a3),xo a2 (cM .u64 (dD .u64 a3) c),xo a3 (cM .u64 (dD .u64 c) a),xo c (cM .u64 (dD .u64 a) b),xo d (cM .u64 (dD .u64 e) f),xo e (cM .u64 (dD .u64 f) h),xo f (cM .u64 (dD .u64 h) i),xo h (cM .u64 (dD .u64 i) d),xo i (cM .u64 (dD .u64 d) e),xo a10 (cM .u64 (dD .u64 a11) a12),xo a11 (cM .u64 (dD .u64 a12) a13),xo a12 (cM .u64 (dD .u64 a13) a14),xo a13 (cM .u64 (dD .u64 a14) a10),xo a14 (cM .u64 (dD .u64 a10) a11),xo a15 (cM .u64 (dD .u64 a16) a17),xo a16 (cM .u64 (dD .u64 a17) a18),xo a17 (cM .u64 (dD .u64 a18) a19),xo a18 (cM .u64 (dD .u64 a19) a15),xo a19 (cM .u64 (dD .u64 a15) a16),xo a20 (cM .u64 (dD .u64 a21) a22),xo a21 (cM .u64 (dD .u64 a22) a23),xo a22 (cM .u64 (dD .u64 a23) a24),xo a23 (cM .u64 (dD .u64 a24) a20),xo a24 (cM .u64 (dD .u64 a20) a21)]:=by kernel_rfl
theorem b9F (a b a2 a3 c d e f h i a10 a11 a12 a13 a14 a15 a16 a17 a18 a19 a20 a21 a22 a23 a24 j k l m n o p q r s b10 b11 b12 b13 b14 b15 b16 b17 b18 b19 b20 b21 b22 b23 b24:Int):iU (q6 [a,b,a2,a3,c,d,e,f,h,i,a10,a11,a12,a13,a14,a15,a16,a17,a18,a19,a20,a21,a22,a23,a24]) 5 [j,k,l,m,n,o,p,q,r,s,b10,b11,b12,b13,b14,b15,b16,b17,b18,b19,b20,b21,b22,b23,b24]=[xo a (cM .u64 (dD .u64 b) a2),xo b (cM .u64 (dD .u64 a2) a3),xo a2 (cM .u64 (dD .u64 a3) c),xo a3 (cM .u64 (dD .u64 c) a),xo c (cM .u64 (dD .u64 a) b),xo d (cM .u64 (dD .u64 e) f),xo e (cM .u64 (dD .u64 f) h),xo f (cM .u64 (dD .u64 h) i),xo h (cM .u64 (dD .u64 i) d),xo i (cM .u64 (dD .u64 d) e),xo a10 (cM .u64 (dD .u64 a11) a12),xo a11 (cM .u64 (dD .u64 a12) a13),xo a12 (cM .u64 (dD .u64 a13) a14),xo a13 (cM .u64 (dD .u64 a14) a10),xo a14 (cM .u64 (dD .u64 a10) a11),xo a15 (cM .u64 (dD .u64 a16) a17),xo a16 (cM .u64 (dD .u64 a17) a18),xo a17 (cM .u64 (dD .u64 a18) a19),xo a18 (cM .u64 (dD .u64 a19) a15),xo a19 (cM .u64 (dD .u64 a15) a16),xo a20 (cM .u64 (dD .u64 a21) a22),xo a21 (cM .u64 (dD .u64 a22) a23),xo a22 (cM .u64 (dD .u64 a23) a24),xo a23 (cM .u64 (dD .u64 a24) a20),xo a24 (cM .u64 (dD .u64 a20) a21)]:=by kernel_rfl
theorem b78 {b m a:List Int} (c:b.length=25) (d:m.length=25) (e:a.length=25):iU (p4 b) 25 m=iU (q6 b) 5 a:=by
 rw [c7b]
 obtain ⟨f,h,a2,a3,i,j,k,l,n,o,a10,a11,a12,a13,a14,a15,a16,a17,a18,a19,a20,a21,a22,a23,a24,rfl⟩:=a1j c
 obtain ⟨p,q,r,s,t,u,v,w,x,y,b10,b11,b12,b13,b14,b15,b16,b17,b18,b19,b20,b21,b22,b23,b24,rfl⟩:=a1j d
 obtain ⟨z,c1,c2,c3,c4,c5,c6,c7,c8,c9,c10,c11,c12,c13,c14,c15,c16,c17,c18,c19,c20,c21,c22,c23,c24,rfl⟩:=a1j e
 rw [b7d,b9F]
theorem b5Z {m:List Int} {rc:Int} (h:m5 m):D9 m rc=a4l m rc:=by
 unfold D9 a4l
 dsimp only
 b c:=b7B h
 unfold cs at c
 rw [c]
 b e:(iU (q2 m) 5 (nZ 5)).length=5:=by rw [a4E,pq]
 b d:(iU (q3 (iU (q2 m) 5 (nZ 5))) 25 m).length=25:=by rw [Q7];exact h.1
 rw [b3s h.1]
 rw [b78 (a:=iU (q3 (iU (q2 m) 5 (nZ 5))) 25 m) (by rw [a4y,pq]) h.1 d]
theorem b29 {m:List Int} {rc:Int} (h:m5 m):m5 (D9 m rc):=by
 a e:(D9 m rc).length=25:=by
   unfold D9;dsimp only;rw [bf,Y4];exact h.1
 refine ⟨e, ?_⟩
 unfold D9
 dsimp only
 a f:(iU (p3 m (iU (p2 m) 25 (nZ 5))) 25 (nZ 25)).length=25:=by rw [WD,pq]
 generalize iU (p3 m (iU (p2 m) 25 (nZ 5))) 25 (nZ 25)=b at f
 a key: ∀k,k<=25-> ∀i,i<k-> ∀hi:i<(iU (p4 b) k m).length,Oz (iU (p4 b) k m)[i]:=by
   intro k
   induction k with
   |zero=>intro _ i hi;omega
   |succ k ih=>
    intro l i hi c
    simp only [iU,p4]
    rw [List.getElem_set]
    split
    ·exact c62 _ _
    ·exact ih om i om (by simpa [iU,p4] using c)
 intro x j
 rcases dS j with d|d
 ·obtain ⟨i,hi,rfl⟩:=bp d
  exact key 25 om i (by rw [Y4] at hi;a:=h.1;omega) hi
 ·rw [d];exact c62 _ _
end Go.AI.Fn
set_option maxRecDepth 10000
namespace Go.AI.Fn
def rcL:List Int:=[1,32898,9223372036854808714,9223372039002292224,32907,2147483649,9223372039002292353,9223372036854808585,138,136,2147516425,2147483658,2147516555,9223372036854775947,9223372036854808713,9223372036854808579,9223372036854808578,9223372036854775936,32778,9223372039002259466,9223372039002292353,9223372036854808704,2147483649,9223372039002292232]
theorem c4J:[1,32898,9223372036854808714,9223372039002292224,32907,2147483649,9223372039002292353,9223372036854808585,138,136,2147516425,2147483658,2147516555,9223372036854775947,9223372036854808713,9223372036854808579,9223372036854808578,9223372036854775936,32778,9223372039002259466,9223372039002292353,9223372036854808704,2147483649,9223372039002292232]=rcL:=rfl
theorem b0F:[0,1,62,28,27,36,44,6,55,20,3,10,43,25,39,41,45,15,21,8,18,2,61,56,14]=so:=rfl
theorem Y7:rcL.length=24:=rfl
def rdP (k:Nat) (m:List Int):List Int:=D9 m (rcL.getD k 0)
def RW (m:List Int):List Int:=iU rdP 24 m
theorem Zb (k:Nat) (m:List Int):iU rdP (k+1) m=D9 (iU rdP k m) (rcL.getD k 0):=by rw [iU,rdP]
theorem a6O {m:List Int} (h:m5 m): ∀k,m5 (iU rdP k m)
 |0=>h
 |k+1=>by rw [Zb];exact b29 (a6O h k)
theorem YY {m:List Int} (h:m5 m):m5 (RW m):=a6O h 24
theorem YS {m:List Int} (h:m5 m):mr m=some (RW m):=by
 unfold mr
 a key:Loop (gI so rcL rcL) (m,0)=some (RW m,24,false):=
   bu (fun k=>(iU rdP k m,(k:Int))) 24 (fun k d=>by
    a b:=a6O h k
    a c:=b.1
    a e:=Y7
    simp only [gI]
    simp (disch:=omega) only [brd,G7,hU,ak]
    rw [b8Q b.1,obs,c0a b.1 (by rw [b1M,pq]),obs,brd (by rw [WD,pq]),b7X b.1 (by rw [WD,pq]),obs]
    a f:=Y4 (iU (p3 (iU rdP k m) (iU (p2 (iU rdP k m)) 25 (nZ 5))) 25 (nZ 25)) 25 (iU rdP k m)
    simp (disch:=omega) only [hU,brd]
    rw [Zb]
    unfold D9
    simp only [lm,aK]) (by simp (disch:=omega) only [gI,brn];rfl)
 rw [c4J,b0F,key,obs]
theorem ZM {m:List Int} (h:m5 m):sh m=some (RW m):=by
 unfold sh
 a key:Loop (jl (nZ 25) rcL so) (m,0)=some (RW m,24,false):=
   bu (fun k=>(iU rdP k m,(k:Int))) 24 (fun k f=>by
    a b:=a6O h k
    a d:=b.1
    a i:=Y7
    simp only [jl]
    rw [brd om,b8u b.1,obs,b9t b.1 (by rw [a4E,pq]),obs,c1w (pq 25) (by rw [Q7];exact b.1),obs,
     b8h (by rw [Q7];exact b.1) (by rw [a4y,pq]),obs]
    a e:=b4L (iU (q4 (iU (q3 (iU (q2 (iU rdP k m)) 5 (nZ 5))) 25 (iU rdP k m))) 5 (nZ 25)) 5 (iU (q3 (iU (q2 (iU rdP k m)) 5 (nZ 5))) 25 (iU rdP k m))
    rw [Q7] at e
    simp (disch:=omega) only [hU,brd,G7,ak]
    rw [Zb,b5Z b]
    unfold a4l
    simp only [lm,aK]) (by simp (disch:=omega) only [jl,brn];rfl)
 a c:=(YY h).1
 rw [brd h.1]
 show (some rcL).bind _=_
 rw [obs,brd Y7]
 show (some so).bind _=_
 rw [obs,brd MY,key,obs,brd c,brd c,brd c]
theorem Yp {l:List UInt8} {k:Nat} (h:k<l.length):atL l (k:Int)=some (l.getD k 0):=by simp [atL,h]
def lnS (t:List UInt8) (k:Nat) (l:List Int):List Int:=l.set ((k:Int)/8).toNat (xi .u64 (g l ((k:Int)/8)) (bC .u64 (IntKind.wrap .u64 ((t.getD k 0).toNat:Int)) (8*((k:Int)%8))))
def AM (t:List UInt8):List Int:=iU (lnS t) t.length (nZ 25)
theorem Xn (t:List UInt8) (k:Nat) (l:List Int):(iU (lnS t) k l).length=l.length:=wh (fun _ _=>bf) k l
theorem G6 (t:List UInt8):m5 (AM t):=by
 refine ⟨by rw [AM,Xn,pq], ?_⟩
 c key: ∀k, ∀x∈iU (lnS t) k (nZ 25),Oz x:=by
   intro k
   induction k with
   |zero=>intro x a;simp only [iU,nZ,gr] at a;rw [a.2];exact ⟨by decide,by decide⟩
   |succ k ih=>
    intro x a
    rcases dS a with b|b
    ·exact ih x b
    ·rw [b];exact YZ _
 exact key _
theorem Xf {t:List UInt8} (h:t.length<=200):By t=some (AM t):=by
 unfold By
 a key:Loop (mW (nZ 25) t (t.length:Int)) (nZ 25,0)=some (AM t,(t.length:Int),false):=
   bu (fun k=>(iU (lnS t) k (nZ 25),(k:Int))) t.length (fun k c=>by
    a b:=Xn t k (nZ 25)
    rw [pq] at b
    simp only [mW]
    simp (disch:=omega) only [brd,ej,pV,G7,hU,ak,Yp,obs]
    rfl) (by simp (disch:=omega) only [mW,brn];simp;rfl)
 a b:=(G6 t).1
 rw [key,obs,brd b,brd b,brd b]
theorem a4d {t:List UInt8} (h:t.length<=200):yb t=some (AM t):=by
 unfold yb
 a key:Loop (lD (nZ 25) t) (nZ 25,0)=some (AM t,(t.length:Int),false):=
   bu (fun k=>(iU (lnS t) k (nZ 25),(k:Int))) t.length (fun k c=>by
    a b:=Xn t k (nZ 25)
    rw [pq] at b
    simp only [lD]
    simp (disch:=omega) only [brd,ej,pV,G7,hU,ak,ee,Yp,obs]
    rfl) (by simp (disch:=omega) only [lD,brn];simp;rfl)
 a b:=(G6 t).1
 rw [key,obs,brd b,brd b,brd b]
def txB (m:List Int) (i:Nat):UInt8:=UInt8.ofInt (bW .u64 (g m ((i:Int)/8)) (8*((i:Int)%8)))
def y3 (m:List Int) (n:Nat):List UInt8:=(List.range n).map (txB m)
theorem Hj (m:List Int) (n:Nat):(y3 m n).length=n:=by simp [y3]
theorem SX (m:List Int) (n:Nat):y3 m (n+1)=y3 m n++[txB m n]:=by simp [y3,gB]
theorem a9b {m:List Int} (h:m.length=25):rL m=some (y3 m 200,m):=by
 unfold rL
 a key:Loop (jt m) ([],0)=some (y3 m 200,200,false):=
   bu (fun k=>(y3 m k,(k:Int))) 200 (fun k b=>by
    a c:=Hj m k
    simp only [jt]
    simp (disch:=omega) only [brd,ej,pV,G7,hU,ak]
    rw [bt (by simp only [ab,ah,ai];omega),SX]
    rfl) (by simp (disch:=omega) only [jt,brn];rfl)
 rw [key];rfl
theorem a8p {m:List Int} (h:m.length=25) {n:Nat} (b:n<=200):Bg m n=some (y3 m n):=by
 unfold Bg
 a key:Loop (mS m n) ([],0)=some (y3 m n,(n:Int),false):=
   bu (fun k=>(y3 m k,(k:Int))) n (fun k c=>by
    a d:=Hj m k
    simp only [mS]
    simp (disch:=omega) only [brd,ej,pV,G7,hU,ak,ee]
    rw [bt (by simp only [ab,ah,ai];omega),SX]
    rfl) (by simp (disch:=omega) only [mS,brn];simp)
 rw [brd h,key];rfl
end Go.AI.Fn
namespace Go.AI.Fn
def xoS (t:List Int) (k:Nat) (l:List Int):List Int:=l.set k (xo (g l k) (g t k))
def b0G (t m:List Int):List Int:=iU (xoS t) 25 m
theorem YN (t:List Int) (k:Nat) (l:List Int):(iU (xoS t) k l).length=l.length:=wh (fun _ _=>bf) k l
theorem a5X {t m:List Int} (h:m5 m):m5 (b0G t m):=by
 refine ⟨by rw [b0G,YN];exact h.1, ?_⟩
 b key: ∀k, ∀x∈iU (xoS t) k m,Oz x:=by
   intro k
   induction k with
   |zero=>exact h.2
   |succ k ih=>
    intro x c
    rcases dS c with a|a
    ·exact ih x a
    ·rw [a];exact YZ _
 exact key _
theorem b4g {c a:List UInt8} {t m:List Int} (d:t.length=25) (h:m.length=25):Loop (oi c a t) (m,0)=some (b0G t m,25,false):=
 bu (fun k=>(iU (xoS t) k m,(k:Int))) 25 (fun k e=>by
  b f:=YN t k m
  simp only [oi]
  simp (disch:=omega) only [brd,G7,hU,ak]
  rfl) (by simp (disch:=omega) only [oi,brn];rfl)
theorem b4r {c a:List UInt8} {p:Int} {t m:List Int} (d:t.length=25) (h:m.length=25):Loop (mP c t a p) (m,0)=some (b0G t m,25,false):=
 bu (fun k=>(iU (xoS t) k m,(k:Int))) 25 (fun k e=>by
  b f:=YN t k m
  simp only [mP]
  simp (disch:=omega) only [brd,G7,hU,ak]
  rfl) (by simp (disch:=omega) only [mP,brn];rfl)
def c7S (a:List UInt8) (k:Nat) (m:List Int):List Int:=RW (b0G (AM ((a.drop (136*k)).take 136)) m)
def Yc (a:List UInt8) (n:Nat):List Int:=iU (c7S a) n (nZ 25)
theorem c73:m5 (nZ 25):=⟨pq 25,fun x a=>by simp only [nZ,gr] at a;rw [a.2];exact ⟨by decide,by decide⟩⟩
theorem PC (a:List UInt8) (n:Nat):Yc a (n+1)=RW (b0G (AM ((a.drop (136*n)).take 136)) (Yc a n)):=by
 unfold Yc;rw [iU,c7S]
theorem QX (a:List UInt8): ∀n,m5 (Yc a n)
 |0=>c73
 |n+1=>by rw [PC];exact YY (a5X (QX a n))
theorem b4d {l4 a:List UInt8} {n:Nat} (h:a.length=136*n) (e:n<=1000000000):Loop (oG l4) (nZ 25,a)=some (Yc a n,[],false):=
 bu (fun k=>(Yc a k,a.drop (136*k))) n (fun k f=>by
  b c:=QX a k
  b d:=a5X (t:=AM ((a.drop (136*k)).take 136)) c
  simp only [oG]
  rw [brd (by rw [dQ];omega),m3 om om (by rw [dQ];omega),obs,m3 om (by rw [dQ];omega) om]
  b e1:(List.drop (Int.toNat 0) (List.drop (136*k) a)).take (Int.toNat 136-Int.toNat 0)=(a.drop (136*k)).take 136:=rfl
  b e2:(List.drop (Int.toNat 136) (List.drop (136*k) a)).take ((((List.drop (136*k) a).length:Nat):Int).toNat-Int.toNat 136)=a.drop (136*(k+1)):=by
    rw [List.drop_drop,bZ (by rw [dQ,dQ];simp;omega)]
    congr 1
  rw [e1,e2,Xf (by rw [bc];omega),obs,b4g (G6 _).1 c.1,obs,YS d,obs,obs,PC]) (by
  simp only [oG]
  rw [brn (by rw [dQ];omega),gt om]
  rfl)
theorem b60 {l3 a:List UInt8} {n:Nat} (h:a.length=136*n) (e:n<=1000000000): ∃p,Loop (mQ l3 a) (nZ 25,0)=some (Yc a n,p):=
 ⟨_,bu (fun k=>(Yc a k,((136*k:Nat):Int))) n (fun k f=>by
   b d:=QX a k
   b c:=a5X (t:=AM ((a.drop (136*k)).take 136)) d
   simp only [mQ]
   rw [brd om,ak _ om om,m3 om om om,obs]
   b e1:(List.drop (((136*k:Nat):Int)).toNat a).take (((((136*k:Nat):Int))+136).toNat-(((136*k:Nat):Int)).toNat)=(a.drop (136*k)).take 136:=by
     congr 1
     omega
   rw [e1,a4d (by rw [bc];omega),obs,brd (G6 _).1,b4r (G6 _).1 d.1,obs,brd c.1,ZM c,obs,G7 (YY c).1 c.1,PC]
   b e2:(((136*k:Nat):Int))+136=((136*(k+1):Nat):Int):=by omega
   rw [e2]) (by
   simp only [mQ]
   rw [brn om])⟩
def KD (l:List UInt8):List UInt8:=l++List.replicate ((136-l.length%136)%136) 0
theorem RX (l:List UInt8):(KD l).length=136*((l.length+135)/136):=by
 rw [KD,ab,aS];omega
theorem a3n {α:Type} (n:Nat) (x:α):List.replicate (n+1) x=List.replicate n x++[x]:=by
 rw [List.replicate_succ']
theorem b2Z {c l:List UInt8} (h:l.length<=1000000000):Loop (ml c) l=some (KD l,false):=by
 a key:=bu (step:=ml c) (e:=(KD l,false)) (fun k=>l++List.replicate k 0) ((136-l.length%136)%136) (fun k b=>by
   simp only [ml]
   rw [ej _ _ om,brb (by rw [ab,aS];omega),bt (by simp only [ab,aS,ah,ai];omega),a3n,aV]) (by
   simp only [ml]
   a e:((((l++List.replicate ((136-l.length%136)%136) (0:UInt8)).length:Nat):Int).tmod 136)=0:=by
     rw [ej _ _ om,ab,aS];omega
   rw [e,fj rfl];rfl)
 rwa [ld,bV] at key
theorem b3K {c l:List UInt8} (h:l.length<=1000000000):Loop (kI c) l=some (KD l,false):=by
 a key:=bu (step:=kI c) (e:=(KD l,false)) (fun k=>l++List.replicate k 0) ((136-l.length%136)%136) (fun k b=>by
   simp only [kI]
   rw [ej _ _ om,brb (by rw [ab,aS];omega),bt (by simp only [ab,aS,ah,ai];omega),a3n,aV]) (by
   simp only [kI]
   a e:((((l++List.replicate ((136-l.length%136)%136) (0:UInt8)).length:Nat):Int).tmod 136)=0:=by
     rw [ej _ _ om,ab,aS];omega
   rw [e,fj rfl];rfl)
 rwa [ld,bV] at key
def Sn (b:List UInt8):List UInt8:=(KD (b++[1])).set ((KD (b++[1])).length-1) (UInt8.ofInt (xi .u8 (((KD (b++[1])).getD ((KD (b++[1])).length-1) 0).toNat:Int) 128))
def H (b:List UInt8):List UInt8:=y3 (Yc (Sn b) ((b.length+136)/136)) 32
theorem Ef (b:List UInt8):(H b).length=32:=Hj _ _
theorem a1z (b:List UInt8):(Sn b).length=136*((b.length+136)/136):=by
 rw [Sn,bf,RX,ab,am]
theorem b4s {β:Type} {l:List UInt8} {i:Nat} {f:UInt8->Option β} (h:i<l.length):(l[i]?).bind f=f (l.getD i 0):=by simp [h]
theorem a5o (m:List Int):(y3 m 200).take 32=y3 m 32:=by
 rw [y3, <-List.map_take,List.take_range];rfl
theorem tD {b:List UInt8} (h:b.length<=100000000):lh b=some (H b):=by
 unfold lh
 a f:=RX (b++[1])
 rw [ab,am] at f
 a c:=a1z b
 rw [bt om,bt (by rw [ab,am];omega),b3K (by rw [ab,am];omega),obs]
 dsimp only
 rw [ak _ om om]
 a ei:(((KD (b++[1])).length:Int)-1).toNat=(KD (b++[1])).length-1:=by omega
 rw [ei]
 simp (disch:=omega) only [brd,b4s]
 obtain ⟨p,d⟩:=b60 (l3:=[1]) c om
 unfold Sn at d
 rw [d,obs]
 dsimp only
 a ok:=QX (Sn b) ((b.length+136)/136)
 unfold Sn at ok
 rw [brd ok.1]
 a e:=a8p (n:=32) ok.1 om
 rw [show ((32:Nat):Int)=32 from rfl] at e
 rw [e,obs,H,Sn]
theorem a1f {l:List (List UInt8)} (h:l.flatten.length<=1000000000) (c:l.length<=1000000):Loop (oH l (l.length:Int)) ([],0)=some (l.flatten,(l.length:Int),false):=
 bu (fun k=>((l.take k).flatten,(k:Int))) l.length (fun k b=>by
  simp only [oH]
  a d:((l.take k).flatten++l[k]).length<=l.flatten.length:=by
    a e:l.flatten=(l.take (k+1)).flatten++(l.drop (k+1)).flatten:=by rw [<-rz,oV]
    rw [db b,rz,List.flatten_singleton] at e
    a e2:=congrArg List.length e
    simp only [ab] at e2 ⊢
    omega
  rw [brd om,ck b,obs,bt om,ak _ om om,db b,rz,List.flatten_singleton]
  rfl) (by
  simp only [oH]
  rw [brn om,bk];simp)
theorem vq {l:List (List UInt8)} (h:l.flatten.length<=100000000) (e:l.length<=1000000):sB l=some (H l.flatten):=by
 unfold sB
 rw [a1f om e,obs]
 dsimp only
 generalize l.flatten=b at h
 a f:=RX (b++[1])
 rw [ab,am] at f
 a c:=a1z b
 rw [bt (by rw [ab,am];omega),b2Z (by rw [ab,am];omega),obs]
 dsimp only
 rw [ak _ om om]
 a ei:(((KD (b++[1])).length:Int)-1).toNat=(KD (b++[1])).length-1:=by omega
 rw [ei]
 simp (disch:=omega) only [brd,b4s]
 a d:=b4d (l4:=[1]) c om
 unfold Sn at d
 rw [d,obs]
 dsimp only
 a ok:=QX (Sn b) ((b.length+136)/136)
 unfold Sn at ok
 rw [a9b ok.1,obs,m3 om om (by rw [Hj];omega),obs,H,Sn, <-a5o]
 rfl
theorem NW {t:List UInt8} (h:t.length<=100000000):Bj t=some (H t):=by
 unfold Bj
 rw [bt om,vq (by simpa using h) (by simp)]
 simp
end Go.AI.Fn
namespace Go.AI.Fn
def ic (n:Int):List UInt8:=[UInt8.ofInt (bW .i64 n 24),UInt8.ofInt (bW .i64 n 16),UInt8.ofInt (bW .i64 n 8),UInt8.ofInt n]
def e8 (x:Ext):List UInt8:=ic x.A++ic x.B
theorem dJ (n:Int):(ic n).length=4:=rfl
theorem c3W (x:Ext):(e8 x).length=8:=rfl
theorem qE {n:Int} {l:List UInt8} (h:l.length<=1099511627770):lL n l=some (l++ic n):=by
 unfold lL
 rw [F3 (Ps (by simp only [ab,ah,ai];omega))];rfl
theorem c8A (n:Int):bW .i64 n 0=n:=by simp [bW]
theorem zI (n:Int):fZ n 4=some (ic n):=by
 unfold fZ
 rw [show IntKind.wrap .i64 (4-1)=3 by decide,
  cf (s':=([UInt8.ofInt (bW .i64 n 24)],2)) (by kernel_rfl),
  cf (s':=([UInt8.ofInt (bW .i64 n 24),UInt8.ofInt (bW .i64 n 16)],1)) (by kernel_rfl),
  cf (s':=([UInt8.ofInt (bW .i64 n 24),UInt8.ofInt (bW .i64 n 16),UInt8.ofInt (bW .i64 n 8)],0)) (by kernel_rfl),
  cf (s':=([UInt8.ofInt (bW .i64 n 24),UInt8.ofInt (bW .i64 n 16),UInt8.ofInt (bW .i64 n 8),UInt8.ofInt (bW .i64 n 0)], -1)) (by kernel_rfl),
  bX (e:=([UInt8.ofInt (bW .i64 n 24),UInt8.ofInt (bW .i64 n 16),UInt8.ofInt (bW .i64 n 8),UInt8.ofInt (bW .i64 n 0)], -1,false)) (by kernel_rfl),c8A]
 rfl
theorem HS {l:List Ext} (k:l.length<=4194304):tl l=some (l.flatMap e8):=by
 unfold tl
 b key:=py (step:=lv l (l.length:Int))
   (fun s=>0<=s.2/\s.2<=l.length/\(s.1.length:Int)=8*s.2/\s.1++(l.drop s.2.toNat).flatMap e8=l.flatMap e8) (fun s=>(l.length-s.2).toNat)
   (fun e=>e.1=l.flatMap e8) ?_ ([],0) ⟨by first|omega| (dsimp only;omega),by first|omega| (dsimp only;omega),by simp,rfl⟩
 ·obtain ⟨e,d,h⟩:=key
  rw [d];simp only [obs,h]
 ·rintro ⟨o,t⟩ ⟨h0,f,j,a⟩
  dsimp only at h0 f a j
  by_cases c:t<(l.length:Int)
  ·left
   obtain ⟨x,r,e1,e2,m⟩:=oK (l:=l) (i:=t.toNat) om
   simp only [lv]
   rw [brd c,a0Q h0 e1]
   simp only [obs]
   rw [qE om]
   simp only [obs]
   rw [qE (by simp only [ab,dJ];omega),ak (t+1) om om]
   refine ⟨_,rfl,⟨by first|omega| (dsimp only;omega),by first|omega| (dsimp only;omega), ?_, ?_⟩,by first|omega| (dsimp only;omega)⟩
   ·simp only [ab,dJ];omega
   ·dsimp only
    rw [show (t+1).toNat=t.toNat+1 by omega,e2]
    rw [e1,cm] at a
    simpa [e8] using a
  ·right
   simp only [lv]
   rw [brn c]
   refine ⟨_,rfl, ?_⟩
   rw [gt om] at a
   simpa using a
theorem Sq {l:List Ext} (k:l.length<=4194304):tQ l=some (l.flatMap e8):=by
 unfold tQ
 b key:=py (step:=l5 l)
   (fun s=>0<=s.2/\s.2<=l.length/\(s.1.length:Int)=8*s.2/\s.1++(l.drop s.2.toNat).flatMap e8=l.flatMap e8) (fun s=>(l.length-s.2).toNat)
   (fun e=>e.1=l.flatMap e8) ?_ ([],0) ⟨by first|omega| (dsimp only;omega),by first|omega| (dsimp only;omega),by simp,rfl⟩
 ·obtain ⟨e,d,h⟩:=key
  rw [d];simp only [obs,h]
 ·rintro ⟨o,t⟩ ⟨h0,f,j,a⟩
  dsimp only at h0 f a j
  by_cases c:t<(l.length:Int)
  ·left
   obtain ⟨x,r,e1,e2,m⟩:=oK (l:=l) (i:=t.toNat) om
   simp only [l5]
   rw [brd c,a0Q h0 e1]
   simp only [obs,zI]
   rw [F3 (Ps (by simp only [ab,dJ];omega)),F3 (Ps (by simp only [ab,dJ];omega)),ak (t+1) om om]
   refine ⟨_,rfl,⟨by first|omega| (dsimp only;omega),by first|omega| (dsimp only;omega), ?_, ?_⟩,by first|omega| (dsimp only;omega)⟩
   ·simp only [ab,dJ];omega
   ·dsimp only
    rw [show (t+1).toNat=t.toNat+1 by omega,e2]
    rw [e1,cm] at a
    simpa [e8] using a
  ·right
   simp only [l5]
   rw [brn c]
   refine ⟨_,rfl, ?_⟩
   rw [gt om] at a
   simpa using a
end Go.AI.Fn
namespace Go.AI.Fn
def be (w x y z:UInt8):Int:=(((w.toNat:Int)*256+x.toNat)*256+y.toNat)*256+z.toNat
theorem c8P {l:List UInt8} (h:8<=l.length): ∃a b c d e f g k r,l=a::b::c::d::e::f::g::k::r:=by
 match l,h with
 |a::b::c::d::e::f::g::k::r,_=>exact ⟨a,b,c,d,e,f,g,k,r,rfl⟩
theorem c0x {n:Int} (x:UInt8) (h0:0<=n) (d:n<16777216):xi .i64 (bC .i64 n 8) (IntKind.wrap .i64 (x.toNat:Int))=n*256+x.toNat:=by
 a e:=Ai x
 a e1:bC .i64 n 8=n*256:=by
   a:n*2^(min (8:Int).toNat (IntKind.bits .i64))=n*256:=by
    a:(2:Int)^(min (8:Int).toNat (IntKind.bits .i64))=256:=by decide
    rw [this]
   unfold bC
   rw [this,ak _ om om]
 rw [e1,ak (x.toNat:Int) om om]
 unfold xi
 obtain ⟨m,rfl⟩:=nm h0
 a e2:(BitVec.ofInt (IntKind.bits .i64) ((m:Int)*256)|||BitVec.ofInt (IntKind.bits .i64) (x.toNat:Int)).toNat=m*256+x.toNat:=by
   rw [BitVec.toNat_or,gy,gy]
   a b:(((m:Int)*256)%((2^(IntKind.bits .i64):Nat):Int)).toNat=m<<<8:=by
     rw [show ((2^(IntKind.bits .i64):Nat):Int)=18446744073709551616 by decide,nI];omega
   a c:((x.toNat:Int)%((2^(IntKind.bits .i64):Nat):Int)).toNat=x.toNat:=by
     rw [show ((2^(IntKind.bits .i64):Nat):Int)=18446744073709551616 by decide];omega
   rw [b,c, <-Nat.shiftLeft_add_eq_or_of_lt (show x.toNat<2^8 by omega),nI]
 rw [e2,ak _ om om]
 omega
theorem a2G (w x y z:UInt8):Gl [w,x,y,z]=some (be w x y z):=by
 a h:=Ai w
 a i:=Ai x
 a j:=Ai y
 a k:=Ai z
 unfold Gl
 a st: ∀(n t:Int) (b:UInt8),0<=n->n<16777216->0<=t->t<4->[w,x,y,z][t.toNat]? =some b->oz [w,x,y,z] (([w,x,y,z].length:Nat):Int) (n,t)=some (.inl (n*256+b.toNat,t+1)):=by
   intro n t b h0 c d l f
   simp only [oz]
   rw [brd (by simp only [ah,ai];omega),show atL [w,x,y,z] t=some b by simp [atL,d,f]]
   simp only [obs]
   rw [c0x b h0 c,ak (t+1) om om]
 rw [cf (st 0 0 w om om om om rfl),cf (st _ _ x om om om om rfl),cf (st _ _ y om om om om rfl),cf (st _ _ z om om om om rfl)]
 rw [bX (e:=(be w x y z,4,false)) ?_]
 ·rfl
 ·simp only [oz]
  rw [brn (by simp only [ah,ai];omega)]
  simp [be]
theorem c3m (n:Int) (k:Nat) (b:k<=64) (h0:0<=n):bW .i64 n (k:Int)=n/2^k:=by
 unfold bW
 a:min ((k:Int).toNat) (IntKind.bits .i64)=k:=by simp [IntKind.bits];omega
 rw [this,kY _ (by exact Int.pow_nonneg (by decide))]
end Go.AI.Fn
namespace Go.AI.Fn
def b5V:List UInt8:=[97,98,115,111,114,98]
def XJ:List UInt8:=[100,114,97,119]
def P9:List UInt8:=[103,114,105,110,100]
def Zg (s:Source):Bool:=decide (s.Script.length<=64)&&(s.Script.all mY&&(decide (s.State.length=32)&&((decide (0<=s.At)&&decide (s.At<=1000000))&&(decide (0<=s.Count)&&decide (s.Count<=1000000)))))
structure G9 (s:Source):Prop where
 len:s.Script.length<=64
 scr:gX s.Script
 st:s.State.length=32
 a0:0<=s.At
 a1:s.At<=1000000
 c0:0<=s.Count
 c1:s.Count<=1000000
theorem S6 {s:Source}:Zg s=true↔G9 s:=by
 unfold Zg
 simp only [aD,aC,c0h]
 exact ⟨fun ⟨a,b,c,⟨d,e⟩,f,i⟩=>⟨a,b,c,d,e,f,i⟩,fun h=>⟨h.1,h.2,h.3,⟨h.4,h.5⟩,h.6,h.7⟩⟩
theorem zr (h:List UInt8):vV h=some (decide (h.length=32)):=by
 unfold vV
 congr 1
 by_cases c:h.length=32
 ·rw [al c,c];rfl
 ·rw [ag c];simp;omega
theorem UO {s:Source} (b:s.Script.length<=1099511627776):yS s=some (Zg s):=by
 unfold yS Zg
 rw [Mw b]
 by_cases a:s.Script.length<=64
 ·rw [brd om,al a,obs,zr,H0,H0]
  cases s.Script.all mY
  ·rfl
  ·simp only [cL,obs,aN]
   cases decide (s.State.length=32)
   ·rfl
   ·simp only [cL,aN]
    cases (decide (0<=s.At)&&decide (s.At<=1000000))<;>rfl
 ·rw [brn om,ag a];rfl
theorem Uq {s:Source} (d:s.Script.length<=1099511627776):yU s=some (Zg s):=by
 unfold yU Zg
 rw [nS d]
 a e:((s.State.length:Int)==32)=decide (s.State.length=32):=by
   by_cases c:s.State.length=32
   ·rw [al c,c];rfl
   ·rw [ag c];simp;omega
 by_cases b:s.Script.length<=64
 ·rw [brd om,al b,obs,La,La,e]
  cases s.Script.all mY
  ·rfl
  ·simp only [cL,obs,aN]
   cases (decide (0<=s.At)&&decide (s.At<=1000000))
   ·simp [br]
   ·simp only [cL,aN]
    cases decide (s.State.length=32)<;>rfl
 ·rw [brn om,ag b];rfl
theorem H4 (n:Int):Fg n=some (ic n):=by
 unfold Fg;rw [bt (by simp only [ah,ai];omega)];rfl
theorem c6W {l:List UInt8} (h:4<=l.length):l.take 4=[l.getD 0 0,l.getD 1 0,l.getD 2 0,l.getD 3 0]:=by
 match l,h with
 |a::b::c::d::r,_=>rfl
theorem a2s {n:Int} {k:Nat} (b:k<=64) (h0:0<=n):(bW .i64 n (k:Int)==0)=decide (n<2^k):=by
 rw [c3m n k b h0]
 a c:(0:Int)<2^k:=Int.pow_pos (by decide)
 by_cases h:n<2^k
 ·rw [al h,Int.ediv_eq_zero_of_lt h0 h];rfl
 ·rw [ag h]
  a:1<=n/2^k:=(Int.le_ediv_iff_mul_le c).2 om
  simp;omega
def Rq (st:List UInt8) (bits:Nat) (nonce:Int):Bool:=decide (((H (st++(P9++ic nonce))).getD 0 0).toNat*256+((H (st++(P9++ic nonce))).getD 1 0).toNat<2^(16-bits))
theorem c1X: ∀b:Nat,b<=12->(2:Int)^(32-b)=65536*((2^(16-b):Nat):Int)/\(2:Int)^(16-b)=((2^(16-b):Nat):Int):=by decide
theorem a8v {s:Source} {bits:Nat} {nonce:Int} (j:s.State.length=32) (d:bits<=12):px s bits nonce=some (Rq s.State bits nonce):=by
 unfold px
 a c:[s.State,[103,114,105,110,100],ic nonce].flatten=s.State++(P9++ic nonce):=by simp [P9]
 a k:(ic nonce).length=4:=dJ nonce
 a l:P9.length=5:=rfl
 rw [bt om,H4,obs,vq (by rw [c];simp only [ab];omega) (by simp),obs,c]
 a f:=Ef (s.State++(P9++ic nonce))
 unfold Rq
 generalize H (s.State++(P9++ic nonce))=h at f
 rw [bt om,m3 om om om,obs]
 a e:(h.drop (Int.toNat 0)).take (Int.toNat 4-Int.toNat 0)=[h.getD 0 0,h.getD 1 0,h.getD 2 0,h.getD 3 0]:=by
   show h.take 4=_
   exact c6W om
 rw [e,a2G,obs,ak _ om om,brd om,show (32:Int)-(bits:Int)=((32-bits:Nat):Int) by omega]
 a m:=Ai (h.getD 0 0)
 a n:=Ai (h.getD 1 0)
 a o:=Ai (h.getD 2 0)
 a p:=Ai (h.getD 3 0)
 obtain ⟨i,q⟩:=c1X bits d
 rw [a2s om (by unfold be;omega),i]
 congr 1
 a b:be (h.getD 0 0) (h.getD 1 0) (h.getD 2 0) (h.getD 3 0)<65536*((2^(16-bits):Nat):Int)↔(h.getD 0 0).toNat*256+(h.getD 1 0).toNat<2^(16-bits):=by
   unfold be;omega
 exact decide_eq_decide.2 b
theorem b0Y {s:Source} {bits:Nat} {nonce:Int} (e:s.State.length=32) (b:bits<=12):Cl s bits nonce=some (Rq s.State bits nonce):=by
 unfold Cl
 a c:s.State++[103,114,105,110,100]++ic nonce=s.State++(P9++ic nonce):=by simp [P9]
 a f:(ic nonce).length=4:=dJ nonce
 a i:P9.length=5:=rfl
 rw [bt (by simp only [ah,ai];omega),zI,obs,bt (by simp only [ab,ah,ai];omega),c,tD (by simp only [ab];omega),obs]
 a d:=Ef (s.State++(P9++ic nonce))
 unfold Rq
 generalize H (s.State++(P9++ic nonce))=h at d
 a e0:atL h 0=some (h.getD 0 0):=Yp (k:=0) om
 a e1:atL h 1=some (h.getD 1 0):=Yp (k:=1) om
 a j:=Ai (h.getD 0 0)
 a l:=Ai (h.getD 1 0)
 rw [e0,obs,e1,obs]
 simp (disch:=omega) only [ak,ee]
 rw [brd om,show (16:Int)-(bits:Int)=((16-bits:Nat):Int) by omega,a2s om om,(c1X bits b).2]
 congr 1
 exact decide_eq_decide.2 om
end Go.AI.Fn
namespace Go.AI.Fn
def tkM (s:Source) (t:List UInt8):Source:=⟨s.Script,s.At,H (s.State++(b5V++(ic t.length++t))),0⟩
theorem c3P {s:Source} (t:List UInt8) (h:G9 s):G9 (tkM s t):=⟨h.1,h.2,Ef _,h.4,h.5,by simp [tkM],by simp [tkM]⟩
def beN (l:List UInt8):Int:=l.foldl (fun n c=>n*256+(c.toNat:Int)) 0
def b0X (l:List UInt8):Int:=beN l%2130706433
def vT (s:Source):Source×Ext:=
 if s.Script.length=0 then (⟨s.Script,s.At,s.State,s.Count+1⟩,⟨b0X ((H (s.State++(XJ++ic s.Count))).take 8),b0X (((H (s.State++(XJ++ic s.Count))).drop 8).take 8)⟩)
 else (⟨s.Script,s.At+1,s.State,s.Count⟩,s.Script.getD (s.At%(s.Script.length:Int)).toNat e0)
theorem a6x (l:List UInt8):okF (b0X l):=kS _
theorem a02 {s:Source} (h:G9 s):okE (vT s).2:=by
 unfold vT
 split
 ·exact ⟨a6x _,a6x _⟩
 ·exact h.scr.getD _
theorem a9x {s:Source} (h:G9 s) (b:s.At<1000000) (c:s.Count<1000000):G9 (vT s).1:=by
 unfold vT
 split
 ·exact ⟨h.1,h.2,h.3,h.4,h.5,by a:=h.6;simp;omega,by simp;omega⟩
 ·exact ⟨h.1,h.2,h.3,by a:=h.4;simp;omega,by simp;omega,h.6,h.7⟩
theorem vx {s:Source} {t:List UInt8} (b:s.State.length=32) (c:t.length<=1000000):ke s t=some (tkM s t):=by
 unfold ke
 a d:=dJ (t.length:Int)
 rw [bt (by simp only [ah,ai];omega),zI,obs,bt (by simp only [ab,ah,ai];omega),
  bt (by simp only [ab,ah,ai];omega),tD (by simp only [ab,ah,ai];omega),obs,tkM]
 simp [b5V]
theorem Sg (l:List UInt8) (c:UInt8):beN (l++[c])=beN l*256+(c.toNat:Int):=by simp [beN,i5]
theorem Pu {t:List UInt8} (h:t.length=8):tB t=some (b0X t):=by
 unfold tB
 a key:Loop (lK t) (0,0)=some (b0X t,8,false):=
   bu (fun k=>(beN (t.take k)%2130706433,(k:Int))) 8 (fun k c=>by
    a b:k<t.length:=by omega
    a d:=Ai t[k]
    a e:0<=beN (t.take k)%2130706433/\beN (t.take k)%2130706433<2130706433:=by omega
    simp only [lK]
    rw [brd om,ck b,obs]
    simp (disch:=omega) only [ak,ej]
    rw [db b,Sg,mX1];rfl) (by
    simp only [lK]
    rw [brn (by decide),bZ om];rfl)
 rw [key];rfl
theorem Wo {s:Source} (h:G9 s):rB s=some (vT s):=by
 a j:=h.1
 a m:=h.3
 a d:=h.4
 a n:=h.5
 a o:=h.6
 a p:=h.7
 unfold rB vT
 by_cases c:s.Script.length=0
 ·a q:=dJ s.Count
  rw [brn om,ae c,bt (by simp only [ah,ai];omega),zI,obs,bt (by simp only [ab,ah,ai];omega),tD (by simp only [ab,ah,ai];omega),obs]
  a e:s.State++[100,114,97,119]++ic s.Count=s.State++(XJ++ic s.Count):=by simp [XJ]
  rw [e]
  a r:=Ef (s.State++(XJ++ic s.Count))
  rw [m3 om om om,obs,Pu (by simp;omega),obs,m3 om om om,obs,Pu (by simp;omega),obs,ak _ om om]
  rfl
 ·a f:=pi s.At (b:=(s.Script.length:Int)) om
  a i:=md s.At (b:=(s.Script.length:Int)) om
  rw [brd om,aa c,brd om,ej _ _ d,ak _ om om]
  a e:atL s.Script (s.At%(s.Script.length:Int))=some (s.Script.getD (s.At%(s.Script.length:Int)).toNat e0):=by
    a:=a7I (l:=s.Script) (k:=(s.At%(s.Script.length:Int)).toNat) om
    rwa [eo f] at this
  rw [e];rfl
structure Few (s:Source) (k:Int):Prop where
 ok:G9 s
 a:s.At<=k
 c:s.Count<=k
theorem Few.mono {s:Source} {j k:Int} (h:Few s j) (b:j<=k):Few s k:=⟨h.1,by a:=h.2;omega,by a:=h.3;omega⟩
theorem Few.take {s:Source} {k:Int} (h:Few s k) (t:List UInt8):Few (tkM s t) (k+1):=⟨c3P t h.1,by a:=h.2;simp [tkM];omega,by a:=h.3;a:=h.1.c0;simp [tkM];omega⟩
theorem Few.draw {s:Source} {k:Int} (h:Few s k) (b:k<1000000):Few (vT s).1 (k+1):=by
 a c:=h.2
 a d:=h.3
 refine ⟨a9x h.1 om om, ?_, ?_⟩<;>(unfold vT;split<;>dsimp only<;>omega)
end Go.AI.Fn
