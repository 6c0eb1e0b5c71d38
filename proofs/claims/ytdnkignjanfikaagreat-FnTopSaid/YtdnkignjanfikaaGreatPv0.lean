/- Part. -/
import Derived.Test.YtdnkignjanfikaaGreatFx3
import Derived.KernelRfl
set_option linter.unusedVariables false
namespace Go.AI
theorem dt {S E:Type} {step:S->Option (S⊕E)} {s s':S} (h:step s=some (.inl s')):Loop step s=Loop step s':=by rw [HC,h];rfl
theorem dx {S E:Type} {step:S->Option (S⊕E)} {s:S} {e:E} (h:step s=some (.inr e)):Loop step s=some e:=by rw [HC,h];rfl
theorem bq {S E:Type} {step:S->Option (S⊕E)} (F:Nat->S) (n:Nat) {e:E} (a: ∀k,k<n->step (F k)=some (.inl (F (k+1)))) (b:step (F n)=some (.inr e)):Loop step (F 0)=some e:=by
 have key: ∀m k,k+m=n->Loop step (F k)=some e:=by
  intro m
  induction m with
  |zero=>intro k c;have:k=n:=by omega
         subst this;exact dx b
  |succ m ih=>intro k c;rw [dt (a k om)];exact ih (k+1) om
 exact key n 0 om
theorem NH (P:Nat->Bool): ∀n,(∀k,k<n->P k=true)\/ ∃k,k<n/\P k=false/\ ∀j,j<k->P j=true
 |0=> .inl om
 |n+1=>by
  rcases NH P n with h|⟨k,hk,h1,h2⟩
  ·cases hn:P n
   ·exact .inr ⟨n,by omega,hn,h⟩
   ·refine .inl fun k hk=> ?_
    by_cases e:k=n
    ·subst e;exact hn
    ·exact h k om
  ·exact .inr ⟨k,by omega,h1,h2⟩
theorem Ay {S E:Type} {step:S->Option (S⊕E)} (F:Nat->S) (n:Nat) (P:Nat->Bool) (x:Nat->E) {e:E} (b: ∀k,k<n->P k=true->step (F k)=some (.inl (F (k+1))))
 (f: ∀k,k<n->P k=false->step (F k)=some (.inr (x k))) (i:step (F n)=some (.inr e)):
 ((∀k,k<n->P k=true)/\Loop step (F 0)=some e)\/ ∃k,k<n/\P k=false/\(∀j,j<k->P j=true)/\Loop step (F 0)=some (x k):=by
 rcases NH P n with h|⟨k,a,c,d⟩
 ·exact .inl ⟨h,bq F n (fun k a=>b k a (h k a)) i⟩
 ·exact .inr ⟨k,a,c,d,bq F k (fun j l=>b j om (d j l)) (f k a c)⟩
theorem rg {S E:Type} {step:S->Option (S⊕E)} (Inv:S->Prop) (me:S->Nat) (Post:E->Prop)
 (c: ∀s,Inv s->(∃s',step s=some (.inl s')/\Inv s'/\me s'<me s)\/(∃e,step s=some (.inr e)/\Post e)):
 ∀s,Inv s-> ∃e,Loop step s=some e/\Post e:=by
 intro s
 generalize d:me s=m
 induction m using Nat.strongRecOn generalizing s with
 |_ m ih=>
  intro hi
  rw [HC]
  rcases c s hi with ⟨s',a,b,f⟩|⟨e,a,b⟩
  ·rw [a];exact ih (me s') om s' rfl b
  ·rw [a];exact ⟨e,rfl,b⟩
theorem IX {α:Type} {c:Bool} {x y:α} (h:c=true):br c x y=x:=by subst h;rfl
theorem a5G {α:Type} {c:Bool} {x y:α} (h:c=false):br c x y=y:=by subst h;rfl
theorem brd {α:Type} {p:Prop} [Decidable p] {x y:α} (h:p):br (decide p) x y=x:=IX (aj h)
theorem brn {α:Type} {p:Prop} [Decidable p] {x y:α} (h: ¬p):br (decide p) x y=y:=a5G (ae h)
theorem G1 {α:Type} {p q:Prop} [Decidable p] [Decidable q] {x y:α} (h:p) (g:q):br (decide p&&decide q) x y=x:=IX (by simp [h,g])
theorem bre {α:Type} {a b:Int} {x y:α} (h:a=b):br (a==b) x y=x:=IX (by simp [h])
theorem cn {α:Type} {a b:Int} {x y:α} (h:a≠b):br (a==b) x y=y:=a5G (by simp [h])
theorem brb {α:Type} {a b:Int} {x y:α} (h:a≠b):br (a !=b) x y=x:=IX (by simp [h])
theorem m9 {α:Type} {a b:Int} {x y:α} (h:a=b):br (a !=b) x y=y:=a5G (by simp [h])
theorem a8u {α:Type} {p:Prop} [Decidable p] {x y:α} (h:p):br (!decide p) x y=y:=a5G (by simp [h])
theorem a7t {α:Type} {p:Prop} [Decidable p] {x y:α} (h: ¬p):br (!decide p) x y=x:=IX (by simp [h])
theorem dv (a b:Int) (h:0<=a):a.tmod b=a%b:=Int.tmod_eq_emod_of_nonneg h
theorem qr (a b:Int) (h:0<=a):a.tdiv b=a/b:=Int.tdiv_eq_ediv_of_nonneg h
theorem AR (x:UInt8):(x.toNat:Int)<256:=by have:=x.toNat_lt;omega
theorem PQ {n b:Nat} (h:n*b<=1099511627776):bj n b=true:=by simp [bj,dz,h]
theorem aS {α:Type} {n b:Nat} {x y:α} (h:n*b<=1099511627776):br (bj n b) x y=x:=IX (PQ h)
theorem b81 {l c:Int} {b:Nat} (h0:0<=l) (a:l<=c) (d:c*b<=1099511627776):TU l c b=true:=by simp [TU,dz,h0,a,d]
theorem a1m {α:Type} {l c:Int} {b:Nat} {x y:α} (h0:0<=l) (a:l<=c) (d:c*b<=1099511627776):br (TU l c b) x y=x:=IX (b81 h0 a d)
theorem a5W {α:Type} {l:List α} {i:Int} (h0:0<=i) {x:α} (h:l[i.toNat]? =some x):atL l i=some x:=by simp [atL,h0,h]
theorem cJ {α:Type} {l:List α} {k:Nat} (h:k<l.length):atL l (k:Int)=some l[k]:=by simp [atL,h]
theorem ju {β:Type} {l:List Int} {i:Nat} {f:Int->Option β} (h:i<l.length):(l[i]?).bind f=f (l.getD i 0):=by simp [h]
theorem AO {α:Type} {l:List α} {i:Nat} (h:i<l.length):l[i]? =some l[i]:=aq h
theorem XX {α:Type} {l:List α} {i:Int} (h0:0<=i) (a:i<l.length): ∃x,atL l i=some x/\l[i.toNat]? =some x/\x∈l:=by
 have h:i.toNat<l.length:=by omega
 exact ⟨l[i.toNat],by simp [atL,h0,h],by simp [h],b9 h⟩
theorem N9 {α:Type} {l:List α} {i:Nat} (h:i<l.length): ∃x r,l.drop i=x::r/\l.drop (i+1)=r/\l[i]? =some x:=
 ⟨l[i],l.drop (i+1),jr h,rfl,by simp [h]⟩
theorem b3G {α:Type} {l r:List α} {x:α} {i:Int} (h0:0<=i) (h:l.drop i.toNat=x::r):atL l i=some x:=by
 have:l[i.toNat]? =some x:=by rw [<-List.head?_drop,h];rfl
 simp [atL,h0,this]
theorem kx {α:Type} {l:List α} {a b:Int} (h0:0<=a) (c:a<=b) (d:b<=l.length):qA l a b=some ((l.drop a.toNat).take (b.toNat-a.toNat)):=by
 simp [qA,h0,c,d,List.drop_take]
theorem cA {α:Type} {l:List α} {k:Nat} (h:k<l.length):l.take (k+1)=l.take k++[l[k]]:=by rw [List.take_succ_eq_append_getElem h]
theorem zT (k:Nat):((k+1:Nat):Int)=(k:Int)+1:=by omega
theorem sS (n:Nat):(nZ n).length=n:=by simp [nZ]
def iU {α:Type} (f:Nat->α->α):Nat->α->α
 |0,l=>l
 |k+1,l=>f k (iU f k l)
theorem yG {f:Nat->List Int->List Int} (a: ∀k l,(f k l).length=l.length): ∀(k:Nat) (l:List Int),(iU f k l).length=l.length
 |0,l=>rfl
 |k+1,l=>by rw [iU,a,yG a k l]
end Go.AI
set_option linter.unusedSimpArgs false
namespace Go.AI.Fn
def okF (a:Int):Prop:=0<=a/\a<=2130706432
def okE (x:Ext):Prop:=okF x.A/\okF x.B
def El (a:Int):Bool:=decide (0<=a)&&decide (a<=2130706432)
def vX (x:Ext):Bool:=El x.A&&El x.B
theorem H9 {a:Int}:El a=true↔okF a:=by simp [El,okF]
theorem ve {x:Ext}:vX x=true↔okE x:=by simp [vX,okE,H9]
def aF (a b:Int):Int:=(a+b)%2130706433
def sF (a b:Int):Int:=(a-b)%2130706433
def mF (a b:Int):Int:=(a*b)%2130706433
def eA (x y:Ext):Ext:=⟨(x.A+y.A)%2130706433,(x.B+y.B)%2130706433⟩
def eS (x y:Ext):Ext:=⟨(x.A-y.A)%2130706433,(x.B-y.B)%2130706433⟩
def eM (x y:Ext):Ext:=⟨(x.A*y.A+3*(x.B*y.B))%2130706433,(x.A*y.B+x.B*y.A)%2130706433⟩
def eC (x:Ext) (n:Int):Ext:=⟨(x.A*n)%2130706433,(x.B*n)%2130706433⟩
def e0:Ext:=⟨0,0⟩
def e1:Ext:=⟨1,0⟩
def eN (n:Int):Ext:=⟨n,0⟩
theorem c6e:okF 3:=⟨by decide,by decide⟩
theorem c0I:okF 1:=⟨by decide,by decide⟩
theorem b77:okF 0:=⟨by decide,by decide⟩
theorem nu (a:Int):okF (a%2130706433):=⟨by omega,by omega⟩
theorem Z0 (a b:Int):okF (aF a b):=nu _
theorem b0K (a b:Int):okF (sF a b):=nu _
theorem wd (a b:Int):okF (mF a b):=nu _
theorem a6n (x y:Ext):okE (eA x y):=⟨nu _,nu _⟩
theorem II (x y:Ext):okE (eS x y):=⟨nu _,nu _⟩
theorem Fm (x y:Ext):okE (eM x y):=⟨nu _,nu _⟩
theorem b0g (x:Ext) (n:Int):okE (eC x n):=⟨nu _,nu _⟩
theorem b29:okE e0:=⟨⟨by decide,by decide⟩,⟨by decide,by decide⟩⟩
theorem a4Z:okE e1:=⟨⟨by decide,by decide⟩,⟨by decide,by decide⟩⟩
theorem b0W {n:Int} (h:okF n):okE (eN n):=⟨h,b77⟩
theorem c4i {a b:Int} (d:okF a) (c:okF b):0<=a*b/\a*b<=4539909900063178624:=
 ⟨Int.mul_nonneg d.1 c.1,Int.le_trans (Int.mul_le_mul d.2 c.2 c.1 dcd) dcd⟩
theorem CM {a:Int} (h:okF a):a%2130706433=a:=by obtain ⟨b,c⟩:=h;omega
theorem CD {x y:Ext} (a:x.A=y.A) (b:x.B=y.B):x=y:=by cases x;cases y;cases a;cases b;rfl
theorem mA1 (a b:Int):(a%2130706433+b)%2130706433=(a+b)%2130706433:=Int.emod_add_emod _ _ _
theorem mA2 (a b:Int):(a+b%2130706433)%2130706433=(a+b)%2130706433:=Int.add_emod_emod _ _ _
theorem mM1 (a b:Int):(a%2130706433*b)%2130706433=(a*b)%2130706433:=by rw [rQ,pR, <-rQ]
theorem mM2 (a b:Int):(a*(b%2130706433))%2130706433=(a*b)%2130706433:=by rw [rQ,pR, <-rQ]
theorem mX1 (a b c:Int):(a%2130706433*b+c)%2130706433=(a*b+c)%2130706433:=by rw [<-mA1,mM1,mA1]
theorem mX4 (a b c:Int):(c+a*(b%2130706433))%2130706433=(c+a*b)%2130706433:=by rw [<-mA2,mM2,mA2]
theorem c04 {a b:Int} (c:okF a) (d:okF b):(IntKind.wrap .i64 (a+b)).tmod 2130706433=aF a b:=by
 obtain ⟨e,f⟩:=c;obtain ⟨h,i⟩:=d
 unfold aF;rw [ai _ om om,dv _ _ om]
theorem uS {a b:Int} (c:okF a) (d:okF b):H6 a b=some (aF a b):=by unfold H6;rw [c04 c d]
theorem Lr {a b:Int} (c:okF a) (d:okF b):O3 a b=some (sF a b):=by
 obtain ⟨e,f⟩:=c;obtain ⟨h,i⟩:=d
 unfold O3 sF;rw [ai (a-b) om om,ai _ om om,dv _ _ om]
 congr 1;omega
theorem c0B {a b:Int} (c:okF a) (d:okF b):(IntKind.wrap .i64 (a*b)).tmod 2130706433=mF a b:=by
 have h:=c4i c d
 unfold mF;rw [ai _ om om,dv _ _ om]
theorem ml {a b:Int} (c:okF a) (d:okF b):uB a b=some (mF a b):=by unfold uB;rw [c0B c d]
theorem jx {x y:Ext} (a:okE x) (b:okE y):fK x y=some (eA x y):=by
 unfold fK;rw [uS a.1 b.1,uS a.2 b.2];rfl
theorem mX {x y:Ext} (a:okE x) (b:okE y):i5 x y=some (eS x y):=by
 unfold i5;rw [Lr a.1 b.1,Lr a.2 b.2];rfl
theorem b8Z (x y:Ext):eM x y=⟨aF (mF x.A y.A) (mF 3 (mF x.B y.B)),aF (mF x.A y.B) (mF x.B y.A)⟩:=by
 unfold eM aF mF
 congr 1
 ·rw [mA1,mA2,mX4]
 ·rw [mA1,mA2]
theorem gq {x y:Ext} (a:okE x) (b:okE y):du x y=some (eM x y):=by
 unfold du
 rw [ml a.1 b.1,ml a.2 b.2]
 simp only [obs]
 rw [ml c6e (wd _ _)]
 simp only [obs]
 rw [uS (wd _ _) (wd _ _),ml a.1 b.2,ml a.2 b.1]
 simp only [obs]
 rw [uS (wd _ _) (wd _ _),b8Z];rfl
theorem xK {x:Ext} {n:Int} (a:okE x) (hn:okF n):ip x n=some (eC x n):=by
 unfold ip;rw [ml a.1 hn,ml a.2 hn];rfl
theorem LN:OL=some e1:=rfl
theorem HQ (n a b:Int):jN n a b=some (decide (a<=n)&&decide (n<=b)):=by
 unfold jN;cases decide (a<=n)<;>rfl
theorem zo (a:Int):uJ a=some (El a):=by
 unfold uJ;rw [HQ];rfl
theorem wG (x:Ext):xd x=some (vX x):=by
 unfold xd vX;rw [zo,zo];cases El x.A<;>rfl
theorem b4s {a b:Int} (c:okF a) (d:okF b):GQ a b=some (aF a b):=by unfold GQ;rw [c04 c d]
theorem b3c {a b:Int} (c:okF a) (d:okF b):FW a b=some (sF a b):=by
 obtain ⟨e,f⟩:=c;obtain ⟨h,i⟩:=d
 unfold FW sF;rw [ai (a+2130706433) om om,ai _ om om,dv _ _ om]
 congr 1;omega
theorem b3H {a b:Int} (c:okF a) (d:okF b):Ga a b=some (mF a b):=by unfold Ga;rw [c0B c d]
theorem c5h (x:Ext):eS x x=e0:=by
 apply CD<;>simp [eS,e0]
theorem a1B (x:Ext) (n:Int):eC x n=eM x (eN n):=by
 apply CD<;>(simp only [eC,eM,eN];congr 1;grind)
end Go.AI.Fn
namespace Go.AI.Fn
def pF (a:Int) (n:Nat):Int:=(a^n)%2130706433
theorem a1w (a:Int) (n:Nat):okF (pF a n):=nu _
theorem c6N {n:Int} (h:0<=n) (a:n<9223372036854775808):de .i64 n 1=n%2:=by
 show IntKind.wrap .i64 ((BitVec.ofInt 64 n&&&BitVec.ofInt 64 1).toNat:Int)=n%2
 have e1:(BitVec.ofInt 64 n).toNat=n.toNat:=by rw [ix];omega
 have e2:(BitVec.ofInt 64 1).toNat=1:=by decide
 rw [BitVec.toNat_and,e1,e2,Nat.and_one_is_mod,ai _ om om]
 omega
theorem c6J {n:Int} (h:0<=n):cc .i64 n 1=n/2:=by
 show n.fdiv (2^1)=n/2
 rw [nF _ dcd];rfl
theorem b0d {a:Int} {n:Nat} (h:n%2=0):(a*a)^(n/2)=a^n:=by
 have e:n=2*(n/2):=by omega
 have e2:a^n=a^(2*(n/2)):=by rw [<-e]
 rw [e2,Int.pow_mul,fW,fW,lf,u3]
theorem b9m {a:Int} {n:Nat} (h:n%2=1):a*(a*a)^(n/2)=a^n:=by
 have e:n=2*(n/2)+1:=by omega
 have e2:a^n=a^(2*(n/2)+1):=by rw [<-e]
 rw [e2,fW,Int.pow_mul,fW,fW,lf,u3,Int.mul_comm]
theorem a5s (a:Int) (n:Nat):((a%2130706433)^n)%2130706433=(a^n)%2130706433:=by
 induction n with
 |zero=>rw [lf,lf]
 |succ n ih=>rw [fW,fW,mM2, <-mM1,ih,mM1]
theorem b4d {a out:Int} {n:Nat} (hn:0<n):(n%2=1->(mF out a*(mF a a)^(n/2))%2130706433=(out*a^n)%2130706433)/\(n%2=0->(out*(mF a a)^(n/2))%2130706433=(out*a^n)%2130706433):=by
 constructor
 ·intro h
  unfold mF
  rw [mM1, <-mM2,a5s,mM2, <-b9m h,Int.mul_assoc]
 ·intro h
  unfold mF
  rw [<-mM2,a5s,mM2,b0d h]
theorem a2r {a out n:Int} (p:okF a) (q:okF out) (h0:0<=n) (hn:n<9223372036854775808): ∃e,Loop A0 (a,n,out)=some e/\e.2.2.1=(out*a^n.toNat)%2130706433:=by
 refine rg (step:=A0) (fun s=>okF s.1/\okF s.2.2/\0<=s.2.1/\s.2.1<9223372036854775808/\(s.2.2*s.1^s.2.1.toNat)%2130706433=(out*a^n.toNat)%2130706433) (fun s=>s.2.1.toNat) _ ?_ (a,n,out) ⟨p,q,h0,hn,rfl⟩
 rintro ⟨b,k,o⟩ ⟨i,d,f,h,c⟩
 dsimp only at i d f h c
 simp only [A0]
 by_cases j:k>0
 ·left
  rw [brd j,c6N f h,c6J f,ml i i]
  have l:=b4d (a:=b) (out:=o) (n:=k.toNat) om
  have e:(k/2).toNat=k.toNat/2:=by omega
  by_cases m:k%2=1
  ·rw [bre m,ml d i]
   refine ⟨_,rfl,⟨wd _ _,wd _ _,by dsimp only;omega,by dsimp only;omega, ?_⟩,by dsimp only;omega⟩
   dsimp only
   rw [e,l.1 om,c]
  ·rw [cn m]
   refine ⟨_,rfl,⟨wd _ _,d,by dsimp only;omega,by dsimp only;omega, ?_⟩,by dsimp only;omega⟩
   dsimp only
   rw [e,l.2 om,c]
 ·right
  rw [brn j]
  refine ⟨_,rfl, ?_⟩
  have:k=0:=by omega
  subst this
  dsimp only
  rw [<-c]
  simp [CM d]
theorem Rw {a n:Int} (b:okF a) (h0:0<=n) (hn:n<9223372036854775808):Rb a n=some (pF a n.toNat):=by
 unfold Rb
 obtain ⟨e,c,d⟩:=a2r b c0I h0 hn
 rw [c,obs,d,u3];rfl
def iF (a:Int):Int:=pF a 2130706431
theorem EB {a:Int} (b:okF a):wC a=some (iF a):=by
 unfold wC;rw [Rw b dcd dcd,obs];rfl
def Kv (k:Nat):Int:=pF 3 (127*2^(24-k))
theorem a1y (k:Nat):okF (Kv k):=a1w _ _
theorem c00: ∀j:Nat,j<25->(2:Int)^j<=16777216/\0<(2:Int)^j:=by decide
theorem c3A {j:Nat} (h:j<=24):ct .i64 127 (j:Int)=127*2^j:=by
 obtain ⟨a,h0⟩:=c00 j om
 show IntKind.wrap .i64 (127*2^(min ((j:Int).toNat) 64))=_
 rw [aY,dp om,ai _ om om]
theorem Vk {k:Nat} (h:k<=24):N7 (k:Int)=some (Kv k):=by
 unfold N7
 obtain ⟨a,b⟩:=c00 (24-k) om
 rw [ai _ om om,brd om,show (24:Int)-k=((24-k:Nat):Int) by omega,c3A om,Rw c6e om om,obs,Kv]
 congr 2
end Go.AI.Fn
namespace Go.AI.Fn
structure Src (B:Int) (m:bV):Prop where
 at0:0<=m.at_
 at1:m.at_<=B
 sd0:0<=m.seed
 sd1:m.seed<2147483648
 len:m.code.length<=1048600
theorem Src.mono {B C:Int} {m:bV} (h:Src B m) (hc:B<=C):Src C m:=⟨h.at0,by have:=h.at1;omega,h.sd0,h.sd1,h.len⟩
abbrev Big:Int:=4611686018427387904
theorem Hr {code:List UInt8} (h:code.length<=1048600): ∃m,rj code=some m/\Src 0 m:=by
 refine ⟨_,rfl, ?_⟩
 have:((code.length:Int).tmod (1000:Int))=(code.length:Int)%1000:=dv _ _ om
 constructor<;>dsimp only<;>omega
theorem PT {B:Int} {m:bV} (h:Src B m) (a:B<Big): ∃x m',kG m=some (x,m')/\0<=x/\x<256/\Src (B+1) m':=by
 obtain ⟨b,d,e,f,j⟩:=h
 rcases m with ⟨code,at_,seed⟩
 dsimp only at b d e f j
 unfold kG
 dsimp only
 simp only [Big] at a
 rw [ai (at_+1) om om]
 by_cases c:at_+1<=(code.length:Int)
 ·rw [brd c,ai (at_+1-1) om om]
  obtain ⟨x,k,_,_⟩:=XX (l:=code) (i:=at_+1-1) om om
  have:=AR x
  rw [k]
  simp only [obs]
  rw [ai (x.toNat:Int) om om,ai (seed*31) om om,ai (seed*31+(x.toNat:Int)) om om,ai _ om om,dv _ _ om]
  refine ⟨_,_,rfl,by omega,by omega, ?_⟩
  constructor<;>dsimp only<;>omega
 ·rw [brn c]
  by_cases c2:at_+1>3000
  ·rw [brd c2]
   refine ⟨_,_,rfl,by omega,by omega, ?_⟩
   constructor<;>dsimp only<;>omega
  ·rw [brn c2,ai (seed*1103515245) om om,ai (seed*1103515245+12345) om om,dv (seed*1103515245+12345) _ om,qr _ _ om,ai _ om om,dv _ _ om]
   refine ⟨_,_,rfl,by omega,by omega, ?_⟩
   constructor<;>dsimp only<;>omega
theorem kh {B n:Int} {m:bV} (h:Src B m) (k:B+3<Big): ∃x m',au n m=some (x,m')/\0<=x/\(1<n->x<n)/\(n<=1->x=0)/\Src (B+3) m':=by
 unfold au
 by_cases c:n<=1
 ·rw [brd c];exact ⟨_,_,rfl,by omega,by omega,fun _=>rfl,h.mono om⟩
 ·rw [brn c]
  by_cases c2:n<=256
  ·rw [brd c2]
   obtain ⟨x,d,e1,b,e,a⟩:=PT h om
   rw [e1]
   simp only [obs]
   rw [brd om,dv _ _ b]
   exact ⟨_,_,rfl,dD _ om,fun _=>cW _ om,by omega,a.mono om⟩
  ·rw [brn c2]
   obtain ⟨x,d,e1,b,e,a⟩:=PT h om
   obtain ⟨y,l,e2,o,p,f⟩:=PT a om
   obtain ⟨z,q,i,z0,r,j⟩:=PT f om
   rw [e1]
   simp only [obs]
   rw [e2]
   simp only [obs]
   rw [i]
   simp only [obs]
   rw [brd om,ai (x*65536) om om,ai (y*256) om om,ai (x*65536+y*256) om om,ai _ om om,dv _ _ om]
   exact ⟨_,_,rfl,dD _ om,fun _=>cW _ om,by omega,j.mono om⟩
theorem zR {B n:Int} {m:bV} (h:Src B m) (a:B+3<Big): ∃x m',cq n m=some (x,m')/\Src (B+3) m':=by
 unfold cq
 obtain ⟨x,c,e1,_,_,_,b⟩:=kh (n:=n) h a
 rw [e1]
 exact ⟨_,_,rfl,b⟩
theorem Dl {B:Int} {m:bV} (h:Src B m) (z:B+18<Big): ∃x m',b5 m=some (x,m')/\okF x/\Src (B+18) m':=by
 unfold b5
 obtain ⟨x,d,e1,x0,q,_,f⟩:=kh (n:=5) h om
 have:=q om
 rw [e1]
 simp only [obs]
 by_cases c:x=0
 ·rw [bre c]
  obtain ⟨y,k,e2,l,a,_,b⟩:=kh (n:=4) f om
  have:=a om
  rw [e2]
  exact ⟨_,_,rfl,⟨by omega,by omega⟩,b.mono om⟩
 ·rw [cn c]
  by_cases c2:x=1
  ·rw [bre c2]
   obtain ⟨y,k,e2,l,a,_,b⟩:=kh (n:=3) f om
   have:=a om
   rw [e2]
   refine ⟨_,_,rfl,⟨?_, ?_⟩,b.mono om⟩<;>rw [ai _ om om]<;>omega
  ·rw [cn c2]
   have key:=rg (step:=je)
    (fun s=>okF s.1/\0<=s.2.1/\s.2.1<=5/\Src (B+3+3*s.2.1) ⟨s.2.2.1,s.2.2.2.1,s.2.2.2.2⟩) (fun s=>(5-s.2.1).toNat)
    (fun e=>okF e.1/\Src (B+18) ⟨e.2.2.2.1,e.2.2.2.2.1,e.2.2.2.2.2⟩) ?_ ((0:Int),(0:Int),d.code,d.at_,d.seed) ⟨⟨by first|omega| (dsimp only;omega),by first|omega| (dsimp only;omega)⟩,by first|omega| (dsimp only;omega),by first|omega| (dsimp only;omega),f.mono (by first|omega| (dsimp only;omega))⟩
   ·obtain ⟨e,r,t,u⟩:=key
    rw [r]
    exact ⟨_,_,rfl,t,u⟩
   ·rintro ⟨n,i,c,c2,c3⟩ ⟨⟨o,p⟩,v,w,j⟩
    dsimp only at o p v w j
    by_cases hi:i<5
    ·left
     obtain ⟨y,k,e2,l,a,_,b⟩:=kh (n:=256) j om
     have:=a om
     simp only [je]
     rw [brd hi,e2]
     simp only [obs]
     rw [ai (n*256) om om,ai (n*256+y) om om,ai (i+1) om om,dv _ _ om]
     refine ⟨_,rfl,⟨⟨?_, ?_⟩, ?_, ?_,b.mono ?_⟩, ?_⟩<;>dsimp only<;>omega
    ·right
     simp only [je]
     rw [brn hi]
     exact ⟨_,rfl,⟨o,p⟩,j.mono (by first|omega| (dsimp only;omega))⟩
end Go.AI.Fn
namespace Go.AI.Fn
theorem c3p {B:Int} {m:bV} (h:Src B m) (f:B+40<Big): ∃x m',vV m=some (x,m')/\okE x/\Src (B+40) m':=by
 unfold vV
 obtain ⟨x,i,e1,c⟩:=zR (n:=4) h om
 rw [e1]
 simp only [obs]
 obtain ⟨y,j,e2,a,b⟩:=Dl c om
 obtain ⟨z,k,d,z0,e⟩:=Dl b om
 rw [e2]
 cases x
 ·simp only [bu,obs]
  rw [d]
  exact ⟨_,_,rfl,⟨a,z0⟩,e.mono om⟩
 ·exact ⟨_,_,rfl,⟨a,⟨by first|omega| (dsimp only;omega),by first|omega| (dsimp only;omega)⟩⟩,b.mono om⟩
theorem a5k {B n:Int} {m:bV} (h:Src B m) (f:0<=n) (j:n<=1048576) (w:B+40*n<Big): ∃l m',px n m=some (l,m')/\(l.length:Int)=n/\(∀x∈l,okE x)/\Src (B+40*n) m':=by
 unfold px
 have key:=rg (step:=jB n)
  (fun s=>(s.1.length:Int)=s.2.1/\(∀x∈s.1,okE x)/\s.2.1<=n/\Src (B+40*s.2.1) ⟨s.2.2.1,s.2.2.2.1,s.2.2.2.2⟩) (fun s=>(n-s.2.1).toNat)
  (fun e=>(e.1.length:Int)=n/\(∀x∈e.1,okE x)/\Src (B+40*n) ⟨e.2.2.2.1,e.2.2.2.2.1,e.2.2.2.2.2⟩) ?_ (([]:List Ext),(0:Int),m.code,m.at_,m.seed) ⟨by simp,by simp,by dsimp only;omega,h.mono (by first|omega| (dsimp only;omega))⟩
 ·obtain ⟨e,k,o,p,q⟩:=key
  rw [k]
  exact ⟨_,_,rfl,o,p,q⟩
 ·rintro ⟨l,i,c,c2,c3⟩ ⟨r,b,t,d⟩
  dsimp only at r b t d
  by_cases hi:i<n
  ·left
   obtain ⟨y,z,e2,u,v⟩:=c3p d om
   simp only [jB]
   rw [brd hi,e2]
   simp only [obs]
   rw [IX (PQ (by simp only [a8,ab,ah];omega)),ai (i+1) om om]
   refine ⟨_,rfl,⟨?_, ?_, ?_,v.mono ?_⟩, ?_⟩
   ·simp only [a8,ab,ah];omega
   ·intro x a
    rcases aJ.1 a with a|a
    ·exact b x a
    ·rw [bI] at a;subst a;exact u
   all_goals dsimp only;omega
  ·right
   simp only [jB]
   rw [brn hi]
   exact ⟨_,rfl,by dsimp only;omega,b,d.mono (by first|omega| (dsimp only;omega))⟩
theorem a7Y {code:List UInt8} {n:Int} (h:code.length<=1048600) (a:0<=n) (b:n<=1048576): ∃l,FR code n=some l/\(l.length:Int)=n/\ ∀x∈l,okE x:=by
 unfold FR
 obtain ⟨m,e1,c⟩:=Hr (show code.length<=1048600 by omega)
 rw [e1]
 simp only [obs]
 obtain ⟨l,f,e2,d,e,_⟩:=a5k (n:=n) c a b (by simp only [Big];omega)
 rw [e2]
 exact ⟨_,rfl,d,e⟩
end Go.AI.Fn
namespace Go.AI.Fn
theorem Rp {α:Type} {p:α->Bool} {l:List α} {k:Nat} (a:k<l.length) (h:p l[k]=true):l.any p=true:=jm.2 ⟨l[k],b9 a,h⟩
theorem a6b {α:Type} {p:α->Bool} {l:List α} (h: ∀k (a:k<l.length),p l[k]=false):l.any p=false:=by
 rw [wg]
 intro x b
 obtain ⟨k,a,rfl⟩:=bp b
 simp [h k a]
theorem zh {α:Type} {p:α->Bool} {f:α->Option Bool} {l:List α} (m:l.length<=1099511627776) (j: ∀x∈l,f x=some (p x)) {step:Int->Option (Int⊕(Int⊕(Int×Bool)))}
 (b: ∀t,step t=br (decide (t<(l.length:Int))) ((atL l t).bind fun x=>(f x).bind fun r=>br r (some (.inr (.inl t))) (some (.inl (IntKind.wrap .i64 (t+1))))) (some (.inr (.inr (t,decide (t<(l.length:Int))))))):
 ((Loop step 0).bind (alt (fun e=>some e) (fun _=>some (-1)))).bind (fun r=>some (decide (r>=0)))=some (l.any p):=by
 have key:=Ay (step:=step) (fun k=>(k:Int)) l.length (fun k=> !((l[k]?.map p).getD false)) (fun k=> .inl (k:Int)) (e:= .inr ((l.length:Int),false)) (fun k a c=>by
  have d:p l[k]=false:=by simpa [a] using c
  rw [b,brd om,cJ a,obs,j _ (b9 a),obs,d,bu,ai _ om om];rfl)
  (fun k a c=>by
   have d:p l[k]=true:=by simpa [a] using c
   rw [b,brd om,cJ a,obs,j _ (b9 a),obs,d,dj])
  (by rw [b,brn om,ae om])
 rcases key with ⟨h,i⟩|⟨k,a,h,_,i⟩
 ·have e:Loop step 0=some (.inr ((l.length:Int),false)):=i
  rw [e,a6b (fun k a=>by simpa [a] using h k a)];rfl
 ·have e:Loop step 0=some (.inl (k:Int)):=i
  rw [e,Rp a (by simpa [a] using h)]
  simp only [obs,sr]
  rw [aj om]
theorem yv {α:Type} (p:α->Bool) (l:List α):(!l.any fun x=> !p x)=l.all p:=by
 induction l with
 |nil=>rfl
 |cons x l ih=>simp only [List.any_cons,cC, <-ih];cases p x<;>simp
theorem N3 {l:List Int} (a:l.length<=1099511627776):iz l=some (l.all El):=by
 unfold iz cX dn
 rw [zh (step:=cN l (l.length:Int)) (p:=fun x=> !El x) (f:=jX) a (fun x _=>by unfold jX;rw [zo];rfl) (fun t=>rfl),obs,yv]
theorem Df {l:List Ext} (a:l.length<=1099511627776):ft l=some (l.all vX):=by
 unfold ft cG cO
 rw [zh (step:=cy l (l.length:Int)) (p:=fun x=> !vX x) (f:=jT) a (fun x _=>by unfold jT;rw [wG];rfl) (fun t=>rfl),obs,yv]
def j7 (l:List Ext):Prop:= ∀x∈l,okE x
def gY (l:List Int):Prop:= ∀x∈l,okF x
theorem a0E {l:List Ext}:l.all vX=true↔j7 l:=by
 rw [an];exact ⟨fun h x a=>ve.1 (h x a),fun h x a=>ve.2 (h x a)⟩
theorem j7.get {l:List Ext} (h:j7 l) {k:Nat} (a:k<l.length):okE l[k]:=h _ (b9 a)
theorem gY.get {l:List Int} (h:gY l) {k:Nat} (a:k<l.length):okF l[k]:=h _ (b9 a)
theorem j7.app {l m:List Ext} (h:j7 l) (a:j7 m):j7 (l++m):=fun x b=>(aJ.1 b).elim (h x) (a x)
theorem j7.nil:j7 []:=fun x a=>by cases a
theorem j7.one {x:Ext} (h:okE x):j7 [x]:=fun y a=>by rw [bI.1 a];exact h
theorem j7.map {α:Type} {f:α->Ext} (l:List α) (h: ∀x∈l,okE (f x)):j7 (l.map f):=fun y a=>by obtain ⟨x,b,rfl⟩:=bf.1 a;exact h x b
theorem j7.take {l:List Ext} (h:j7 l) (k:Nat):j7 (l.take k):=fun x a=>h x (cm a)
theorem j7.drop {l:List Ext} (h:j7 l) (k:Nat):j7 (l.drop k):=fun x a=>h x (bZ a)
def a3Y (a b:List Ext):Ext:=(a.zip b).foldl (fun c p=>eA c (eM p.1 p.2)) e0
theorem Ug {α β:Type} {a:List α} {b:List β} {k:Nat} (c:k<a.length) (d:k<b.length):(a.zip b).take (k+1)=(a.zip b).take k++[(a[k],b[k])]:=by
 rw [cA (by rw [List.length_zip];omega),List.getElem_zip]
theorem a9H (l:List (Ext×Ext)) {c:Ext} (h:okE c):okE (l.foldl (fun c p=>eA c (eM p.1 p.2)) c):=by
 induction l generalizing c with
 |nil=>exact h
 |cons p l ih=>exact ih (a6n _ _)
theorem b9c (a b:List Ext):okE (a3Y a b):=a9H _ b29
theorem Ld {a b:List Ext} (e:j7 a) (f:j7 b) (h:a.length<=b.length) (hn:a.length<=1099511627776):GG a b=some (a3Y a b):=by
 unfold GG
 have key:Loop (zV b a (a.length:Int) 0 0) ((0:Int),(0:Int),(0:Int))=some ((a.length:Int),false,(a3Y a b).A,(a3Y a b).B):=
  bq (fun k=>((k:Int),(((a.zip b).take k).foldl (fun c p=>eA c (eM p.1 p.2)) e0).A,(((a.zip b).take k).foldl (fun c p=>eA c (eM p.1 p.2)) e0).B)) a.length (fun k d=>by
   simp only [zV]
   have hc:=a9H ((a.zip b).take k) b29
   rw [brd om,cJ d,obs,cJ om,obs,gq (e.get d) (f.get om),obs,jx hc (Fm _ _),obs,ai _ om om,Ug d om,gG]
   rfl) (by
   simp only [zV]
   rw [brn om,ae om,aX (by rw [List.length_zip];omega)]
   rfl)
 rw [key];rfl
def eqS (out:List Ext) (p:Ext):List Ext:=out.map (fun a=>eM a (eS e1 p))++out.map (fun a=>eM a p)
def eqT (pt:List Ext):List Ext:=pt.foldl eqS [e1]
theorem b5X (out:List Ext) (p:Ext):(eqS out p).length=2*out.length:=by simp [eqS];omega
theorem c3l (out:List Ext) (p:Ext):j7 (eqS out p):=j7.app (j7.map _ fun x _=>Fm _ _) (j7.map _ fun x _=>Fm _ _)
theorem b5k (l:List Ext) (p:Ext):eqT (l++[p])=eqS (eqT l) p:=by simp [eqT,gG]
theorem c0X {l out:List Ext} (h:j7 out):j7 (l.foldl eqS out):=by
 induction l generalizing out with
 |nil=>exact h
 |cons p l ih=>exact ih (c3l _ _)
theorem b32 (l:List Ext):j7 (eqT l):=c0X (j7.one a4Z)
theorem b9y (l out:List Ext):(l.foldl eqS out).length=2^l.length*out.length:=by
 induction l generalizing out with
 |nil=>simp
 |cons p l ih=>rw [bQ,ih,b5X,ab,aZ];rw [Nat.mul_assoc]
theorem PU (l:List Ext):(eqT l).length=2^l.length:=by rw [eqT,b9y];simp
theorem c2c: ∀k:Nat,k<=6->2^k<=64:=by decide
theorem c4M {t:List Ext} {t2 t3:Int} {out:List Ext} {p:Ext} (c:j7 out) (d:okE p) (hn:out.length<=1000000000):
 Loop (pu t t2 t3 out (out.length:Int) p.A p.B) ([],[],0)=some (out.map (fun a=>eM a (eS e1 p)),out.map (fun a=>eM a p),(out.length:Int),false):=
 bq (fun k=>((out.take k).map (fun a=>eM a (eS e1 p)),(out.take k).map (fun a=>eM a p),(k:Int))) out.length (fun k b=>by
  have e:Ext.mk p.A p.B=p:=rfl
  simp only [pu,e]
  rw [brd om,cJ b,obs,LN,obs,mX a4Z d,obs,gq (c.get b) (II _ _),obs,
   aS (by simp only [a8,aw,aD,ag];omega),gq (c.get b) d,obs,
   aS (by simp only [a8,aw,aD,ag];omega),ai _ om om,cA b,bW,bW]
  rfl) (by
  simp only [pu]
  rw [brn om,ae om,bw])
theorem s8 {l:List Ext} (h:j7 l) (hn:l.length<=6):mb l=some (eqT l):=by
 unfold mb
 have key:Loop (pw l (l.length:Int)) ([e1],0)=some (eqT l,(l.length:Int),false):=
  bq (fun k=>(eqT (l.take k),(k:Int))) l.length (fun k a=>by
   have b:=PU (l.take k)
   have c:=c2c (l.take k).length (by rw [aD];omega)
   simp only [pw]
   rw [brd om,cJ a,obs,c4M (b32 _) (h.get a) om,obs]
   dsimp only
   rw [aS (by simp only [a8,aw];omega),ai _ om om,cA a,b5k]
   rfl) (by
   simp only [pw]
   rw [brn om,ae om,bw])
 rw [LN,obs,key];rfl
theorem c0C {l:List Ext} {k:Nat} (h:k<l.length):atL l (k:Int)=some (l.getD k e0):=by simp [atL,h]
theorem j7.getD {l:List Ext} (h:j7 l) (k:Nat):okE (l.getD k e0):=by
 by_cases a:k<l.length
 ·simp [a];exact h.get a
 ·simp [cf (Nat.le_of_not_lt a)];exact b29
end Go.AI.Fn
namespace Go.AI.Fn
abbrev K:={x:Ext//okE x}
def K.n (i:Int):K:=⟨eN (i%2130706433),b0W (nu _)⟩
instance c5O:Add K:=⟨fun a b=>⟨eA a.1 b.1,a6n _ _⟩⟩
instance c5d:Mul K:=⟨fun a b=>⟨eM a.1 b.1,Fm _ _⟩⟩
instance c5s:Sub K:=⟨fun a b=>⟨eS a.1 b.1,II _ _⟩⟩
instance c4C:Neg K:=⟨fun a=>⟨eS e0 a.1,II _ _⟩⟩
instance b7a:NatCast K:=⟨fun n=>K.n n⟩
instance b9o:IntCast K:=⟨fun n=>K.n n⟩
instance c1O (n:Nat):OfNat K n:=⟨K.n n⟩
def K.pow (a:K):Nat->K
 |0=>K.n 1
 |n+1=>K.pow a n*a
instance c4o:HPow K Nat K:=⟨K.pow⟩
theorem K.ext {a b:K} (h:a.1=b.1):a=b:=Subtype.ext h
theorem K.mul_val (a b:K):(a*b).1=eM a.1 b.1:=rfl
theorem K.n_mul (i j:Int):K.n (i*j)=K.n i*K.n j:=K.ext (CD (by
 show (i*j)%2130706433=((i%2130706433)*(j%2130706433)+3*(0*0))%2130706433
 rw [show (3:Int)*(0*0)=0 from rfl,Int.add_zero, <-rQ]) (by
 show (0:Int)=((i%2130706433)*0+0*(j%2130706433))%2130706433
 rw [Int.mul_zero,Int.zero_mul];rfl))
instance b9w:NeZero 2130706433:=⟨by decide⟩
abbrev FP:=Fin 2130706433
def K.a (x:K):FP:=⟨x.1.A.toNat,by have h:=x.2.1;unfold okF at h;omega⟩
def K.b (x:K):FP:=⟨x.1.B.toNat,by have h:=x.2.2;unfold okF at h;omega⟩
theorem K.A_nat (x:K): ∃n:Nat,x.1.A=(n:Int)/\n<2130706433/\(K.a x).val=n:=⟨x.1.A.toNat,by have h:=x.2.1;unfold okF at h;omega,(K.a x).isLt,rfl⟩
theorem K.B_nat (x:K): ∃n:Nat,x.1.B=(n:Int)/\n<2130706433/\(K.b x).val=n:=⟨x.1.B.toNat,by have h:=x.2.2;unfold okF at h;omega,(K.b x).isLt,rfl⟩
theorem K.eqv {x y:K}:x=y↔K.a x=K.a y/\K.b x=K.b y:=⟨fun h=>by rw [h];exact ⟨rfl,rfl⟩,fun h=>by
 obtain ⟨n,c,_,d⟩:=K.A_nat x
 obtain ⟨m,e,_,f⟩:=K.A_nat y
 obtain ⟨i,k,_,l⟩:=K.B_nat x
 obtain ⟨j,o,_,p⟩:=K.B_nat y
 have e1:=congrArg Fin.val h.1
 have e2:=congrArg Fin.val h.2
 exact K.ext (CD om om)⟩
theorem K.ad_a (x y:K):K.a (x+y)=K.a x+K.a y:=Fin.ext (by
 obtain ⟨n,d,_,b⟩:=K.A_nat x
 obtain ⟨m,e,_,c⟩:=K.A_nat y
 rw [Fin.val_add,b,c]
 show ((x.1.A+y.1.A)%2130706433).toNat=_
 omega)
theorem K.ad_b (x y:K):K.b (x+y)=K.b x+K.b y:=Fin.ext (by
 obtain ⟨n,d,_,a⟩:=K.B_nat x
 obtain ⟨m,e,_,c⟩:=K.B_nat y
 rw [Fin.val_add,a,c]
 show ((x.1.B+y.1.B)%2130706433).toNat=_
 omega)
theorem K.su_a (x y:K):K.a (x-y)=K.a x-K.a y:=Fin.ext (by
 obtain ⟨n,b,_,c⟩:=K.A_nat x
 obtain ⟨m,d,_,e⟩:=K.A_nat y
 rw [Fin.sub_def]
 show ((x.1.A-y.1.A)%2130706433).toNat=(2130706433-(K.a y).val+(K.a x).val)%2130706433
 omega)
theorem K.su_b (x y:K):K.b (x-y)=K.b x-K.b y:=Fin.ext (by
 obtain ⟨n,a,_,c⟩:=K.B_nat x
 obtain ⟨m,d,_,e⟩:=K.B_nat y
 rw [Fin.sub_def]
 show ((x.1.B-y.1.B)%2130706433).toNat=(2130706433-(K.b y).val+(K.b x).val)%2130706433
 omega)
theorem K.n0_a:K.a 0=0:=rfl
theorem K.n0_b:K.b 0=0:=rfl
theorem K.n1_a:K.a 1=1:=rfl
theorem K.n1_b:K.b 1=0:=rfl
theorem K.n2_a:K.a 2=2:=rfl
theorem K.n2_b:K.b 2=0:=rfl
theorem K.n3_a:K.a 3=3:=rfl
theorem K.n3_b:K.b 3=0:=rfl
theorem K.ne_sub (x:K): -x=0-x:=rfl
theorem K.mu_a (x y:K):K.a (x*y)=K.a x*K.a y+3*(K.b x*K.b y):=Fin.ext (by
 obtain ⟨n,c,_,d⟩:=K.A_nat x
 obtain ⟨m,e,_,f⟩:=K.A_nat y
 obtain ⟨i,h,_,k⟩:=K.B_nat x
 obtain ⟨j,l,_,o⟩:=K.B_nat y
 rw [Fin.val_add,Fin.val_mul,Fin.val_mul,Fin.val_mul,d,f,k,o,show (3:FP).val=3 from rfl]
 show ((x.1.A*y.1.A+3*(x.1.B*y.1.B))%2130706433).toNat=_
 rw [c,e,h,l, <-np, <-np]
 generalize n*m=u
 generalize i*j=v
 omega)
theorem K.mu_b (x y:K):K.b (x*y)=K.a x*K.b y+K.b x*K.a y:=Fin.ext (by
 obtain ⟨n,c,_,d⟩:=K.A_nat x
 obtain ⟨m,e,_,f⟩:=K.A_nat y
 obtain ⟨i,h,_,k⟩:=K.B_nat x
 obtain ⟨j,l,_,o⟩:=K.B_nat y
 rw [Fin.val_add,Fin.val_mul,Fin.val_mul,d,f,k,o]
 show ((x.1.A*y.1.B+x.1.B*y.1.A)%2130706433).toNat=_
 rw [c,e,h,l, <-np, <-np]
 generalize n*j=u
 generalize i*m=v
 omega)
theorem kg {p:Prop} (h:p:=by (simp only [K.ne_sub,K.eqv,K.ad_a,K.ad_b,K.su_a,K.su_b,K.mu_a,K.mu_b,K.n0_a,K.n0_b,K.n1_a,K.n1_b,K.n2_a,K.n2_b,K.n3_a,K.n3_b] at* <;>first|grind only|grind)):p:=h
def kF (a:Int):K:=K.n a
theorem JY {a:Int} (h:okF a):(kF a).1=eN a:=by show eN (a%2130706433)=eN a;rw [CM h]
theorem QQ (a b:Int):kF (mF a b)=kF a*kF b:=by
 rw [kF,kF,kF, <-K.n_mul]
 exact K.ext (by show eN ((a*b)%2130706433%2130706433)=eN ((a*b)%2130706433);rw [pR])
def kv (l:List K):List Ext:=l.map (·.1)
theorem bB (l:List K):(kv l).length=l.length:=by simp [kv]
theorem Al (l:List K):j7 (kv l):=j7.map l fun x _=>x.2
theorem b6Y {L:List Ext} (h:j7 L): ∃l,L=kv l:=by
 induction L with
 |nil=>exact ⟨[],rfl⟩
 |cons x L ih=>
  obtain ⟨l,rfl⟩:=ih fun y a=>h y (by simp [a])
  exact ⟨⟨x,h x sm⟩::l,rfl⟩
theorem b4V {l:List K} {j:Nat} (h:j<l.length):(kv l)[j]'(by rw [bB];exact h)=(l.getD j 0).1:=by simp [kv,h]
theorem uv {l:List K} {j:Nat} (h:j<l.length):atL (kv l) (j:Int)=some (l.getD j 0).1:=by rw [cJ (by rw [bB];exact h),b4V h]
theorem KN {l:List K} {j:Nat} (h:j<l.length):(kv l)[j]? =some (l.getD j 0).1:=by rw [AO (by rw [bB];exact h),b4V h]
end Go.AI.Fn
namespace Go.AI.Fn
theorem pw0 (x:K):x^0=1:=rfl
theorem pwS (x:K) (n:Nat):x^(n+1)=x^n*x:=rfl
theorem pw1 (x:K):x^1=x:=by rw [pwS,pw0];exact kg
theorem QS (x:K) (m:Nat): ∀n,x^(m+n)=x^m*x^n
 |0=>by rw [cH,pw0];exact kg
 |n+1=>by rw [<-gt,pwS,pwS,QS x m n];exact kg
theorem Hh (x:K) (m:Nat): ∀n,x^(m*n)=(x^m)^n
 |0=>by rw [Nat.mul_zero,pw0,pw0]
 |n+1=>by rw [Nat.mul_succ,QS,pwS,Hh x m n]
theorem a4h: ∀n:Nat,(1:K)^n=1
 |0=>rfl
 |n+1=>by rw [pwS,a4h n];exact kg
theorem b1J (x y:K): ∀n:Nat,(x*y)^n=x^n*y^n
 |0=>by rw [pw0,pw0,pw0];exact kg
 |n+1=>by rw [pwS,pwS,pwS,b1J x y n];exact kg
theorem Zr (x:K) (n:Nat):(x*x)^n=x^n*x^n:=b1J x x n
theorem Tt (x:K) (n:Nat):x^(2*n)=x^n*x^n:=by rw [Nat.two_mul,QS]
theorem b6G (x:K) (m n:Nat):(x^m)^n=(x^n)^m:=by rw [<-Hh,eo,Hh]
def evs:List K->List K
 |a::_::l=>a::evs l
 |[a]=>[a]
 |[]=>[]
def ods:List K->List K
 |_::b::l=>b::ods l
 |_=>[]
theorem q9: ∀(l:List K) (j:Nat),(evs l).getD j 0=l.getD (2*j) 0
 |[],j=>by simp [evs]
 |[a],0=>rfl
 |[a],j+1=>by simp [evs]
 |a::b::l,0=>rfl
 |a::b::l,j+1=>by rw [show 2*(j+1)=2*j+1+1 by omega];exact q9 l j
theorem rW: ∀(l:List K) (j:Nat),(ods l).getD j 0=l.getD (2*j+1) 0
 |[],j=>by simp [ods]
 |[a],j=>by simp [ods]
 |a::b::l,0=>rfl
 |a::b::l,j+1=>by rw [show 2*(j+1)+1=2*j+1+1+1 by omega];exact rW l j
theorem mE: ∀(l:List K) (m:Nat),l.length=2*m->(evs l).length=m
 |[],m,h=>by simp at h;simp [evs];omega
 |[a],m,h=>by simp at h;omega
 |a::b::l,0,h=>by simp at h
 |a::b::l,m+1,h=>by simp only [evs,ab];rw [mE l m (by simp only [ab] at h;omega)]
theorem nl: ∀(l:List K) (m:Nat),l.length=2*m->(ods l).length=m
 |[],m,h=>by simp at h;simp [ods];omega
 |[a],m,h=>by simp at h;omega
 |a::b::l,0,h=>by simp at h
 |a::b::l,m+1,h=>by simp only [ods,ab];rw [nl l m (by simp only [ab] at h;omega)]
theorem lm {a b:List K} (d:a.length=b.length) (h: ∀j,j<a.length->a.getD j 0=b.getD j 0):a=b:=by
 refine jl d fun j c e=> ?_
 have:=h j c
 simpa [c,e] using this
theorem c5B {a b:List K} {j:Nat} (h:j<a.length):(a++b).getD j 0=a.getD j 0:=by simp [bc h]
theorem c4v {a b:List K} {j:Nat}:(a++b).getD (a.length+j) 0=b.getD j 0:=by simp [bt]
theorem b93 (n j:Nat):(List.replicate n (0:K)).getD j 0=0:=by
 by_cases h:j<n<;>simp [h]
theorem xj {f:Nat->K} {h j:Nat} (a:j<h):((List.range h).map f).getD j 0=f j:=by simp [a]
def a3Z (E O:List K) (w:K) (h:Nat):List K:=(List.range h).map fun j=>E.getD j 0+O.getD j 0*w^j
def a48 (E O:List K) (w:K) (h:Nat):List K:=(List.range h).map fun j=>E.getD j 0-O.getD j 0*w^j
theorem RB (E O:List K) (w:K) (h:Nat):(a3Z E O w h).length=h:=by simp [a3Z]
theorem b4c (E O:List K) (w:K) (h:Nat):(a48 E O w h).length=h:=by simp [a48]
def V:Nat->List K->K->List K
 |0,l,_=>l
 |k+1,l,w=>a3Z (V k (evs l) (w*w)) (V k (ods l) (w*w)) w (2^k)++a48 (V k (evs l) (w*w)) (V k (ods l) (w*w)) w (2^k)
theorem CO: ∀(k:Nat) (l:List K) (w:K),l.length=2^k->(V k l w).length=2^k
 |0,l,w,h=>h
 |k+1,l,w,h=>by rw [V,a8,RB,b4c,aZ];omega
theorem b5d {k:Nat} {l:List K} {w:K} {j:Nat} (a:j<2^k):(V (k+1) l w).getD j 0=(V k (evs l) (w*w)).getD j 0+(V k (ods l) (w*w)).getD j 0*w^j:=by
 rw [V,c5B (by rw [RB];exact a),a3Z,xj a]
theorem b1T {k:Nat} {l:List K} {w:K} {j:Nat} (c:j<2^k):(V (k+1) l w).getD (2^k+j) 0=(V k (evs l) (w*w)).getD j 0-(V k (ods l) (w*w)).getD j 0*w^j:=by
 have e:=c4v (a:=a3Z (V k (evs l) (w*w)) (V k (ods l) (w*w)) w (2^k)) (b:=a48 (V k (evs l) (w*w)) (V k (ods l) (w*w)) w (2^k)) (j:=j)
 rw [RB] at e
 rw [V,e,a48,xj c]
theorem IZ {l:List K} {k:Nat} (h:l.length=2^(k+1)):(evs l).length=2^k:=mE l _ (by rw [h,aZ];omega)
theorem J9 {l:List K} {k:Nat} (h:l.length=2^(k+1)):(ods l).length=2^k:=nl l _ (by rw [h,aZ];omega)
def cb (r:K) (a b:List K):List K:=List.zipWith (fun x y=>x+r*y) a b
theorem pz {r:K} {a b:List K} (h:a.length=b.length):(cb r a b).length=a.length:=by simp [cb,h]
theorem nM {r:K}: ∀{a b:List K} (h:a.length=b.length) (j:Nat),(cb r a b).getD j 0=a.getD j 0+r*b.getD j 0
 |[],[],_,j=>by simp [cb];exact kg
 |x::a,y::b,h,0=>by simp [cb]
 |x::a,y::b,h,j+1=>by
  have:=nM (r:=r) (a:=a) (b:=b) (by simpa using h) j
  simpa [cb] using this
theorem c3M {r:K} {a b:List K} {n:Nat} (h:a.length=2*n) (g:b.length=2*n):evs (cb r a b)=cb r (evs a) (evs b):=by
 have c:=mE a n h
 have d:=mE b n g
 have e:=mE (cb r a b) n (by rw [pz om,h])
 refine lm (by rw [pz om];omega) fun j f=> ?_
 rw [q9,nM om,nM om,q9,q9]
theorem c0T {r:K} {a b:List K} {n:Nat} (h:a.length=2*n) (g:b.length=2*n):ods (cb r a b)=cb r (ods a) (ods b):=by
 have c:=nl a n h
 have d:=nl b n g
 have e:=nl (cb r a b) n (by rw [pz om,h])
 refine lm (by rw [pz om];omega) fun j f=> ?_
 rw [rW,nM om,nM om,rW,rW]
theorem b2U {r:K}: ∀(k:Nat) (a b:List K) (w:K),a.length=2^k->b.length=2^k->V k (cb r a b) w=cb r (V k a w) (V k b w)
 |0,a,b,w,_,_=>rfl
 |k+1,a,b,w,d,e=>by
  have hc:(cb r a b).length=2^(k+1):=by rw [pz om,d]
  have f:=CO (k+1) a w d
  have l:=CO (k+1) b w e
  have ea:=CO k (evs a) (w*w) (IZ d)
  have eb:=CO k (evs b) (w*w) (IZ e)
  have oa:=CO k (ods a) (w*w) (J9 d)
  have ob:=CO k (ods b) (w*w) (J9 e)
  refine lm (by rw [pz om,CO _ _ _ hc,f]) fun j h=> ?_
  rw [CO _ _ _ hc,aZ] at h
  rw [nM om]
  have e1:evs (cb r a b)=cb r (evs a) (evs b):=c3M (n:=2^k) (by rw [d,aZ];omega) (by rw [e,aZ];omega)
  have e2:ods (cb r a b)=cb r (ods a) (ods b):=c0T (n:=2^k) (by rw [d,aZ];omega) (by rw [e,aZ];omega)
  by_cases c:j<2^k
  ·rw [b5d c,b5d c,b5d c,e1,e2,b2U k _ _ _ (IZ d) (IZ e),b2U k _ _ _ (J9 d) (J9 e),nM om,nM om]
   exact kg
  ·obtain ⟨i,rfl⟩: ∃i,j=2^k+i:=⟨j-2^k,by omega⟩
   have hi:i<2^k:=by omega
   rw [b1T hi,b1T hi,b1T hi,e1,e2,b2U k _ _ _ (IZ d) (IZ e),b2U k _ _ _ (J9 d) (J9 e),nM om,nM om]
   exact kg
def ev:List K->K->K
 |[],_=>0
 |a::l,x=>a+x*ev l x
theorem Ra: ∀(l:List K) (x:K),ev l x=ev (evs l) (x*x)+x*ev (ods l) (x*x)
 |[],x=>by simp only [ev,evs,ods];exact kg
 |[a],x=>by simp only [ev,evs,ods];exact kg
 |a::b::l,x=>by
  have:=Ra l x
  simp only [ev,evs,ods];exact kg
theorem b3e: ∀(a b:List K) (x:K),ev (a++b) x=ev a x+x^a.length*ev b x
 |[],b,x=>by simp only [bA,ev,ah,pw0];exact kg
 |y::a,b,x=>by
  have:=b3e a b x
  simp only [hO,ev,ab,pwS];exact kg
def Rt:Nat->K->Prop
 |0,_=>True
 |k+1,w=>w^2^k= -1
theorem Rt.sq {k:Nat} {w:K} (h:Rt (k+1) w):Rt k (w*w):=by
 cases k with
 |zero=>trivial
 |succ k=>
  show (w*w)^2^k= -1
  rw [Zr, <-QS,show 2^k+2^k=2^(k+1) by rw [aZ];omega];exact h
theorem c1C: ∀(k:Nat) (l:List K) (w:K),l.length=2^k->Rt k w-> ∀j,j<2^k->(V k l w).getD j 0=ev l (w^j)
 |0,[a],w,_,_,0,_=>by
  show a=a+w^0*0
  exact kg
 |k+1,l,w,d,b,j,e=>by
  have ih1:=c1C k (evs l) (w*w) (IZ d) b.sq
  have ih2:=c1C k (ods l) (w*w) (J9 d) b.sq
  rw [aZ] at e
  by_cases c:j<2^k
  ·rw [b5d c,ih1 j c,ih2 j c,Ra l,Zr];exact kg
  ·obtain ⟨i,rfl⟩: ∃i,j=2^k+i:=⟨j-2^k,by omega⟩
   have hi:i<2^k:=by omega
   have f:w^(2^k+i)= -(w^i):=by rw [QS,show w^2^k= -1 from b];exact kg
   rw [b1T hi,ih1 i hi,ih2 i hi,Ra l,f,Zr,show-w^i* -w^i=w^i*w^i by exact kg];exact kg
def sc (c:K) (l:List K):List K:=l.map fun a=>c*a
theorem c3Y (c:K) (l:List K) (j:Nat):(sc c l).getD j 0=c*l.getD j 0:=by
 by_cases h:j<l.length
 ·simp [sc,h]
 ·simp [sc,h];exact kg
end Go.AI.Fn
namespace Go.AI.Fn
def sR:Nat->(Nat->K)->K
 |0,_=>0
 |n+1,f=>sR n f+f n
theorem AS {f g:Nat->K}: ∀n,(∀k,k<n->f k=g k)->sR n f=sR n g
 |0,_=>rfl
 |n+1,h=>by rw [sR,sR,AS n fun k a=>h k om,h n om]
theorem a0u (f:Nat->K): ∀n,sR (2*n) f=sR n (fun k=>f (2*k))+sR n (fun k=>f (2*k+1))
 |0=>by show (0:K)=0+0;exact kg
 |n+1=>by
  have:=a0u f n
  rw [show 2*(n+1)=2*n+1+1 by omega,sR,sR,this,sR,sR];exact kg
def fdK (r:K):List K->List K
 |a::b::l=>(a+r*(b-a))::fdK r l
 |_=>[]
theorem DN (r:K): ∀(l:List K) (m:Nat),l.length=2*m->(fdK r l).length=m
 |[],m,h=>by simp at h;simp [fdK];omega
 |[a],m,h=>by simp at h;omega
 |a::b::l,0,h=>by simp at h
 |a::b::l,m+1,h=>by simp only [fdK,ab];rw [DN r l m (by simp only [ab] at h;omega)]
theorem DW (r:K): ∀(l:List K) (m j:Nat),l.length=2*m->(fdK r l).getD j 0=l.getD (2*j) 0+r*(l.getD (2*j+1) 0-l.getD (2*j) 0)
 |[],m,j,h=>by simp [fdK];exact kg
 |[a],m,j,h=>by simp at h;omega
 |a::b::l,0,j,h=>by simp at h
 |a::b::l,m+1,0,h=>rfl
 |a::b::l,m+1,j+1,h=>by
  rw [show 2*(j+1)=2*j+1+1 by omega]
  exact DW r l m j (by simp only [ab] at h;omega)
def cmK (kind:Nat) (v:List K):K:=if kind=1 then v.getD 0 0*v.getD 1 0 else v.getD 0 0*(v.getD 1 0*v.getD 2 0-v.getD 3 0)
def uX (T:List (List K)) (k:Nat):List K:=T.map fun t=>t.getD k 0
def wE (kind:Nat) (T:List (List K)) (n:Nat):K:=sR n fun k=>cmK kind (uX T k)
def bdK (r:K) (T:List (List K)):List (List K):=T.map (fdK r)
theorem vP (T:List (List K)) (k i:Nat):(uX T k).getD i 0=(T.getD i []).getD k 0:=by
 by_cases h:i<T.length
 ·simp [uX,h]
 ·simp [uX,h]
theorem PC (r:K) (T:List (List K)) (i:Nat):(bdK r T).getD i []=fdK r (T.getD i []):=by
 by_cases h:i<T.length
 ·simp [bdK,h]
 ·simp [bdK,h,fdK]
theorem c0d (a b c d:Nat->K): ∀n, ∃p q s:K, ∀x,sR n (fun k=>(a k+x*b k)*(c k+x*d k))=p+x*(q+x*s)
 |0=>⟨0,0,0,fun x=>by show (0:K)=_;exact kg⟩
 |n+1=>by
  obtain ⟨p,q,s,h⟩:=c0d a b c d n
  exact ⟨p+a n*c n,q+(a n*d n+b n*c n),s+b n*d n,fun x=>by rw [sR,h];clear h;exact kg⟩
theorem c0a (a b c d e f g h:Nat->K): ∀n, ∃p q s t:K, ∀x,sR n (fun k=>(a k+x*b k)*((c k+x*d k)*(e k+x*f k)-(g k+x*h k)))=p+x*(q+x*(s+x*t))
 |0=>⟨0,0,0,0,fun x=>by show (0:K)=_;exact kg⟩
 |n+1=>by
  obtain ⟨p,q,s,t,hh⟩:=c0a a b c d e f g h n
  exact ⟨p+a n*(c n*e n-g n),q+(a n*(c n*f n+d n*e n-h n)+b n*(c n*e n-g n)),s+(a n*(d n*f n)+b n*(c n*f n+d n*e n-h n)),t+b n*(d n*f n),fun x=>by rw [sR,hh];clear hh;exact kg⟩
theorem a2w {kind:Nat} {T:List (List K)} {n:Nat} (b:kind=1\/kind=2) (c: ∀i,i<4->(T.getD i []).length=2*n\/T.getD i []=[]):
 ∃p q s t:K,(kind=1->t=0)/\ ∀x,wE kind (bdK x T) n=p+x*(q+x*(s+x*t)):=by
 have a: ∀x i k,i<4->(uX (bdK x T) k).getD i 0=(T.getD i []).getD (2*k) 0+x*((T.getD i []).getD (2*k+1) 0-(T.getD i []).getD (2*k) 0):=by
  intro x i k hi
  rw [vP,PC]
  rcases c i hi with h|h
  ·exact DW x _ n k h
  ·rw [h];exact DW x [] 0 k rfl
 rcases b with rfl|rfl
 ·obtain ⟨p,q,s,h⟩:=c0d (fun k=>(T.getD 0 []).getD (2*k) 0) (fun k=>(T.getD 0 []).getD (2*k+1) 0-(T.getD 0 []).getD (2*k) 0) (fun k=>(T.getD 1 []).getD (2*k) 0) (fun k=>(T.getD 1 []).getD (2*k+1) 0-(T.getD 1 []).getD (2*k) 0) n
  refine ⟨p,q,s,0,fun _=>rfl,fun x=> ?_⟩
  rw [wE,AS n (g:=fun k=>((T.getD 0 []).getD (2*k) 0+x*((T.getD 0 []).getD (2*k+1) 0-(T.getD 0 []).getD (2*k) 0))*((T.getD 1 []).getD (2*k) 0+x*((T.getD 1 []).getD (2*k+1) 0-(T.getD 1 []).getD (2*k) 0))) fun k _=>by rw [cmK,aa rfl,a x 0 k om,a x 1 k om],h]
  clear h;exact kg
 ·obtain ⟨p,q,s,t,h⟩:=c0a (fun k=>(T.getD 0 []).getD (2*k) 0) (fun k=>(T.getD 0 []).getD (2*k+1) 0-(T.getD 0 []).getD (2*k) 0) (fun k=>(T.getD 1 []).getD (2*k) 0) (fun k=>(T.getD 1 []).getD (2*k+1) 0-(T.getD 1 []).getD (2*k) 0)
   (fun k=>(T.getD 2 []).getD (2*k) 0) (fun k=>(T.getD 2 []).getD (2*k+1) 0-(T.getD 2 []).getD (2*k) 0) (fun k=>(T.getD 3 []).getD (2*k) 0) (fun k=>(T.getD 3 []).getD (2*k+1) 0-(T.getD 3 []).getD (2*k) 0) n
  refine ⟨p,q,s,t,fun h=>absurd h dcd,fun x=> ?_⟩
  rw [<-h,wE]
  exact AS n fun k _=>by rw [cmK,a7 dcd,a x 0 k om,a x 1 k om,a x 2 k om,a x 3 k om]
theorem a7D {kind:Nat} {T:List (List K)} {n:Nat} (c: ∀i,i<4->(T.getD i []).length=2*n\/T.getD i []=[]):wE kind T (2*n)=wE kind (bdK 0 T) n+wE kind (bdK 1 T) n:=by
 have b: ∀x i k,i<4->(uX (bdK x T) k).getD i 0=(T.getD i []).getD (2*k) 0+x*((T.getD i []).getD (2*k+1) 0-(T.getD i []).getD (2*k) 0):=by
  intro x i k hi
  rw [vP,PC]
  rcases c i hi with h|h
  ·exact DW x _ n k h
  ·rw [h];exact DW x [] 0 k rfl
 have h0: ∀i k,i<4->(uX (bdK 0 T) k).getD i 0=(uX T (2*k)).getD i 0:=fun i k hi=>by rw [b 0 i k hi,vP];exact kg
 have a: ∀i k,i<4->(uX (bdK 1 T) k).getD i 0=(uX T (2*k+1)).getD i 0:=fun i k hi=>by rw [b 1 i k hi,vP];exact kg
 have d: ∀k,cmK kind (uX (bdK 0 T) k)=cmK kind (uX T (2*k)):=fun k=>by simp only [cmK,h0 0 k om,h0 1 k om,h0 2 k om,h0 3 k om]
 have c1: ∀k,cmK kind (uX (bdK 1 T) k)=cmK kind (uX T (2*k+1)):=fun k=>by simp only [cmK,a 0 k om,a 1 k om,a 2 k om,a 3 k om]
 unfold wE
 rw [a0u,AS n fun k _=>(d k).symm,AS n fun k _=>(c1 k).symm]
end Go.AI.Fn
namespace Go.AI.Fn
end Go.AI.Fn
namespace Go.AI.Fn
theorem W3 (x y:Int):dK x y=some (if x<y then-1 else if x>y then 1 else 0):=by
 unfold dK gH
 simp only [obs,bne_self_eq_false,bu]
 by_cases h:x<y
 ·rw [brd h,aa h]
 ·rw [brn h,a7 h]
  by_cases a:x>y
  ·rw [brd a,aa a]
  ·rw [brn a,a7 a]
theorem a0H (a b:Int):bY 0 [a,b] (([a,b].length:Nat):Int) 0=br (a !=0) (some (.inr (.inl a))) (some (.inl 1)):=by
 simp only [bY]
 rw [brd sm,show atL [a,b] 0=some a by simp [atL],show IntKind.wrap .i64 (0+1)=1 by decide];rfl
theorem Z9 (a b:Int):bY 0 [a,b] (([a,b].length:Nat):Int) 1=br (b !=0) (some (.inr (.inl b))) (some (.inl 2)):=by
 simp only [bY]
 rw [brd sm,show atL [a,b] 1=some b by simp [atL],show IntKind.wrap .i64 (1+1)=2 by decide];rfl
theorem b1e (a b:Int):bY 0 [a,b] (([a,b].length:Nat):Int) 2=some (.inr (.inr (2,false))):=by
 simp only [bY]
 rw [brn sm];simp
theorem b5u (a b:Int):li [a,b]=some (if a=0 then b else a):=by
 unfold li
 by_cases c:a=0
 ·rw [dt (s':=1) (by rw [a0H,m9 c]),aa c]
  by_cases d:b=0
  ·rw [dt (s':=2) (by rw [Z9,m9 d]),dx (b1e a b),d];rfl
  ·rw [dx (e:= .inl b) (by rw [Z9,brb d])];rfl
 ·rw [dx (e:= .inl a) (by rw [a0H,brb c]),a7 c];rfl
def ltE (y x:aN):Prop:=y.Row<x.Row\/(y.Row=x.Row/\y.Col<x.Col)
theorem b1s (y x:aN): ∃c,ik y x=some c/\(c>=0↔ ¬ltE y x):=by
 unfold ik
 rw [W3,W3]
 simp only [obs,b5u]
 refine ⟨_,rfl, ?_⟩
 unfold ltE
 by_cases d:y.Row<x.Row
 ·simp [d]
 ·by_cases f:y.Row>x.Row
  ·simp [d,f];omega
  ·have a:y.Row=x.Row:=by omega
   by_cases b:y.Col<x.Col
   ·simp [a,b]
   ·by_cases e:y.Col>x.Col
    ·simp [a,b,e]
    ·simp [a,b,e]
def inE (R C:Int) (x:aN):Prop:=(0<=x.Row/\x.Row<=R-1)/\(0<=x.Col/\x.Col<=C-1)/\1<=x.Value/\x.Value<=2130706432
def a0b (l:List aN) (R C:Int) (t:Nat):Prop:= ∃x,l[t]? =some x/\(¬inE R C x\/(0<t/\ ∃y,l[t-1]? =some y/\ ¬ltE y x))
open Classical in
noncomputable def B8 (l:List aN) (R C:Int):Bool:=decide (l.length<=200/\ ∀t, ¬a0b l R C t)
open Classical in
theorem b4n {l:List aN} {R C:Int} (h:l.length<=200) (g: ∀t, ¬a0b l R C t):B8 l R C=true:=by unfold B8;exact aj ⟨h,g⟩
open Classical in
theorem b4N {l:List aN} {R C:Int} (h:l.length<=200-> ¬ ∀t, ¬a0b l R C t):B8 l R C=false:=by unfold B8;exact ae fun g=>h g.1 g.2
open Classical in
theorem QV {l:List aN} {R C:Int} (h:B8 l R C=true):l.length<=200:=by unfold B8 at h;exact (gy h).1
theorem Kw (n a b:Int):jN n a b=some (decide (a<=n/\n<=b)):=by
 unfold jN
 by_cases h:a<=n
 ·rw [brd h];simp [h]
 ·rw [brn h];simp [h]
theorem c5u (n a b:Int):Ma n a b=some (decide (a<=n/\n<=b)):=by
 unfold Ma
 by_cases h:a<=n
 ·rw [brd h];simp [h]
 ·rw [brn h];simp [h]
theorem GX {l:List aN} {R C:Int} (hl:l.length<=1099511627776) (hR:1<=R/\R<=4096) (hC:1<=C/\C<=4096):ug l R C=some (B8 l R C):=by
 unfold ug
 have key:=rg (step:=qO l R C l (l.length:Int)) (fun t=>0<=t/\t<=l.length/\ ∀k:Nat,(k:Int)<t-> ¬a0b l R C k) (fun t=>(l.length-t).toNat)
  (fun e=>(∃x,e= .inl x/\ ∃k,a0b l R C k)\/(∃x,e= .inr x/\ ∀k, ¬a0b l R C k)) ?_ 0 ⟨by omega,by omega,by omega⟩
 ·obtain ⟨e,q,⟨x,rfl,k,b⟩|⟨x,rfl,b⟩⟩:=key
  ·rw [q]
   simp only [obs,sr]
   rw [b4N fun _ h=>h k b]
  ·rw [q]
   simp only [obs,uT]
   by_cases h:l.length<=200
   ·rw [aj om,b4n h b]
   ·rw [ae om,b4N fun g=>absurd g h]
 ·intro t ⟨h0,h1,s⟩
  simp only [qO]
  by_cases c:t<(l.length:Int)
  ·obtain ⟨x,r,e1,e2,a⟩:=N9 (l:=l) (i:=t.toNat) om
   have next: ¬a0b l R C t.toNat->(fun t:Int=>0<=t/\t<=l.length/\ ∀k:Nat,(k:Int)<t-> ¬a0b l R C k) (t+1):=by
    intro hn
    refine ⟨by omega,by omega,fun k b=> ?_⟩
    by_cases e:k=t.toNat
    ·subst e;exact hn
    ·exact s k om
   rw [brd c,a5W h0 a]
   simp only [obs,Kw]
   rw [ai (R-1) om om,ai (C-1) om om,ai (t+1) om om]
   by_cases j:0<=x.Row/\x.Row<=R-1
   ·rw [a8u j]
    by_cases m:0<=x.Col/\x.Col<=C-1
    ·rw [a8u m]
     by_cases n:1<=x.Value/\x.Value<=2130706432
     ·rw [a8u n]
      by_cases c3:t>0
      ·rw [brd c3,ai (t-1) om om]
       obtain ⟨y,r2,f1,f2,p⟩:=N9 (l:=l) (i:=(t-1).toNat) om
       rw [a5W om p]
       simp only [obs]
       obtain ⟨d,v,o⟩:=b1s y x
       rw [v]
       simp only [obs]
       rw [show (t-1).toNat=t.toNat-1 by omega] at p
       by_cases c4:d>=0
       ·rw [brd c4]
        exact .inr ⟨_,rfl,.inl ⟨_,rfl,t.toNat,x,a,.inr ⟨by omega,y,p,o.1 c4⟩⟩⟩
       ·rw [brn c4]
        refine .inl ⟨_,rfl,next ?_,by omega⟩
        rintro ⟨x',f,g|⟨_,y',u,w⟩⟩
        ·rw [a] at f;cases f;exact g ⟨j,m,n⟩
        ·rw [a] at f;cases f;rw [p] at u;cases u;exact c4 (o.2 w)
      ·rw [brn c3]
       refine .inl ⟨_,rfl,next ?_,by omega⟩
       rintro ⟨x',f,g|⟨g0,_⟩⟩
       ·rw [a] at f;cases f;exact g ⟨j,m,n⟩
       ·omega
     ·rw [a7t n]
      exact .inr ⟨_,rfl,.inl ⟨_,rfl,t.toNat,x,a,.inl fun g=>n g.2.2⟩⟩
    ·rw [a7t m]
     exact .inr ⟨_,rfl,.inl ⟨_,rfl,t.toNat,x,a,.inl fun g=>m g.2.1⟩⟩
   ·rw [a7t j]
    exact .inr ⟨_,rfl,.inl ⟨_,rfl,t.toNat,x,a,.inl fun g=>j g.1⟩⟩
  ·rw [brn c]
   refine .inr ⟨_,rfl,.inr ⟨_,rfl,fun k b=> ?_⟩⟩
   have z:k<l.length:=by
    obtain ⟨x,hx,_⟩:=b
    obtain ⟨h,_⟩:=eJ.1 hx
    exact h
   exact s k om b
end Go.AI.Fn
namespace Go.AI.Fn
theorem Yt {k:Int} (h:0<=k/\k<=5):1<=ct .i64 1 k/\ct .i64 1 k<=4096:=by
 have:k=0\/k=1\/k=2\/k=3\/k=4\/k=5:=by omega
 rcases this with rfl|rfl|rfl|rfl|rfl|rfl<;>decide
noncomputable def m8 (s:bD):Bool:=
 decide (1<=s.Rows/\s.Rows<=5)&&(decide (2<=s.Cols/\s.Cols<=5)&&(decide (0<=s.Publics/\s.Publics<=ct .i64 1 (s.Cols-1)-1)&&
  (B8 s.A (ct .i64 1 s.Rows) (ct .i64 1 s.Cols)&&(B8 s.B (ct .i64 1 s.Rows) (ct .i64 1 s.Cols)&&B8 s.C (ct .i64 1 s.Rows) (ct .i64 1 s.Cols)))))
theorem Cx {s:bD} (f:s.A.length<=1099511627776) (h:s.B.length<=1099511627776) (i:s.C.length<=1099511627776):uj s=some (m8 s):=by
 unfold uj m8
 simp only [Kw,obs]
 by_cases a:1<=s.Rows/\s.Rows<=5
 ·rw [a8u a]
  by_cases b:2<=s.Cols/\s.Cols<=5
  ·rw [a8u b]
   have d:=Yt (k:=s.Rows) om
   have e:=Yt (k:=s.Cols) om
   have j:=Yt (k:=s.Cols-1) om
   unfold fg eG
   rw [ai (s.Cols-1) om om,brd om]
   simp only [obs]
   rw [ai (ct .i64 1 (s.Cols-1)-1) om om]
   by_cases c:0<=s.Publics/\s.Publics<=ct .i64 1 (s.Cols-1)-1
   ·rw [a8u c,brd om,brd om,GX f d e]
    simp only [obs]
    rw [aj a,aj b,aj c]
    cases B8 s.A (ct .i64 1 s.Rows) (ct .i64 1 s.Cols)
    ·rfl
    ·simp only [aQ,bu]
     rw [brd om,brd om,GX h d e]
     simp only [obs]
     cases B8 s.B (ct .i64 1 s.Rows) (ct .i64 1 s.Cols)
     ·rfl
     ·simp only [aQ,bu]
      rw [brd om,brd om,GX i d e]
      simp only [obs]
      cases B8 s.C (ct .i64 1 s.Rows) (ct .i64 1 s.Cols)<;>rfl
   ·rw [a7t c,aj a,aj b,ae c];rfl
  ·rw [a7t b,aj a,ae b];rfl
 ·rw [a7t a,ae a];rfl
theorem fF {s:bD} (h:m8 s=true):(1<=s.Rows/\s.Rows<=5)/\(2<=s.Cols/\s.Cols<=5)/\(0<=s.Publics/\s.Publics<=4096)/\s.A.length<=200/\s.B.length<=200/\s.C.length<=200:=by
 unfold m8 at h
 simp only [aB,aA] at h
 obtain ⟨a,b,f,c,d,e⟩:=h
 have i:=Yt (k:=s.Cols-1) om
 exact ⟨a,b,by omega,QV c,QV d,QV e⟩
def setB (t:Setting):Bool:=decide (1<=t.Rate/\t.Rate<=3)&&(decide (1<=t.Queries/\t.Queries<=8)&&decide (0<=t.Grind/\t.Grind<=12))
theorem nV (t:Setting):kB t=some (setB t):=by
 unfold kB setB
 simp only [Kw,obs]
 cases decide (1<=t.Rate/\t.Rate<=3)<;>cases decide (1<=t.Queries/\t.Queries<=8)<;>rfl
theorem lQ {t:Setting} (h:setB t=true):(1<=t.Rate/\t.Rate<=3)/\(1<=t.Queries/\t.Queries<=8)/\0<=t.Grind/\t.Grind<=12:=by
 unfold setB at h
 simpa only [aB,aA] using h
end Go.AI.Fn
namespace Go.AI.Fn
theorem M3 {k:Nat} (h:k<=62):ct .i64 1 (k:Int)=((2^k:Nat):Int):=by
 have a: ∀k:Nat,k<63->(2:Int)^k<=4611686018427387904/\0<(2:Int)^k:=by decide
 obtain ⟨b,c⟩:=a k om
 show IntKind.wrap .i64 (1*2^(min ((k:Int).toNat) 64))=_
 rw [aY,dp om,u3,ai _ om om]
 simp
def yJ (h n:Nat) (pub priv:List Int):List Int:=((1::pub)++List.replicate (h-1-pub.length) 0)++(priv++List.replicate (n-h-priv.length) 0)
theorem FV {h n:Nat} {pub priv:List Int} (a:pub.length+1<=h) (b:priv.length<=n-h) (c:h<=n):(yJ h n pub priv).length=n:=by simp [yJ];omega
theorem a4B {l r:List Int} {s:Nat} (h:s+r.length<=l.length):yN l s r.length r=l.take s++(r++l.drop (s+r.length)):=by
 rw [yN,bw]
theorem b5A {h n:Nat} {pub priv:List Int} (c:pub.length+1<=h) (d:priv.length<=n-h) (e:h<=n):
 yN (yN ((List.replicate n (0:Int)).set 0 1) 1 pub.length pub) h priv.length priv=yJ h n pub priv:=by
 obtain ⟨m,rfl⟩: ∃m,n=m+1:=⟨n-1,by omega⟩
 have e1:(List.replicate (m+1) (0:Int)).set 0 1=1::List.replicate m 0:=by rw [nR];rfl
 have e2:yN (1::List.replicate m (0:Int)) 1 pub.length pub=1::(pub++List.replicate (m-pub.length) 0):=by
  rw [a4B (by simp;omega),jd 1];simp
 rw [e1,e2,a4B (by simp;omega),yJ]
 have a:(1::(pub++List.replicate (m-pub.length) (0:Int))).take h=(1::pub)++List.replicate (h-1-pub.length) 0:=by
  obtain ⟨q,rfl⟩: ∃q,h=q+1:=⟨h-1,by omega⟩
  rw [jE,List.take_append,aX om,List.take_replicate,dp om]
  simp
 have b:(1::(pub++List.replicate (m-pub.length) (0:Int))).drop (h+priv.length)=List.replicate (m+1-h-priv.length) 0:=by
  obtain ⟨q,rfl⟩: ∃q,h=q+1:=⟨h-1,by omega⟩
  rw [show q+1+priv.length=(q+priv.length)+1 by omega,List.drop_succ_cons,List.drop_append,iu om,bA,List.drop_replicate]
  congr 1;omega
 rw [a,b]
def gw (s:bD):Nat:=2^(s.Cols.toNat-1)
theorem AQ {s:bD} (h:m8 s=true):2<=s.Cols.toNat/\s.Cols.toNat<=5/\s.Cols=(s.Cols.toNat:Int):=by
 obtain ⟨_,a,_⟩:=fF h;omega
theorem yd {s:bD} (h:m8 s=true):2^s.Cols.toNat=2*gw s:=by
 obtain ⟨a,_⟩:=AQ h
 rw [gw, <-Nat.pow_succ'];congr 1;omega
theorem Cq: ∀k:Nat,k<=5->1<=2^k/\2^k<=32:=by decide
theorem MW {s:bD} (h:m8 s=true):fg s=some (gw s:Int):=by
 obtain ⟨a,b,c⟩:=AQ h
 unfold fg
 rw [ai _ om om,brd om,show s.Cols-1=((s.Cols.toNat-1:Nat):Int) by omega,M3 om];rfl
theorem OY {s:bD} (h:m8 s=true) {pub priv:List Int} (b:pub.length+1<=gw s) (c:priv.length<=gw s):jP s pub priv=some (yJ (gw s) (2^s.Cols.toNat) pub priv):=by
 obtain ⟨c1,c2,c3⟩:=AQ h
 have d:=yd h
 have e:=Cq s.Cols.toNat c2
 unfold jP
 rw [brd om,c3,M3 om, <-c3]
 simp only [aY,aL]
 have a:0<(List.replicate (2^s.Cols.toNat) (0:Int)).length:=by rw [aL];omega
 rw [a1m om om om,brd om,ju a,brd om,brd om,MW h,obs,G1 om om,brd om]
 simp only [aY]
 rw [dp om,dp om,b5A b om om]
theorem HO {l:List Int} (h:l.length<=1000000):As l=some (l.map eN):=by
 unfold As
 have key:Loop (wt l (l.length:Int)) ([],0)=some (l.map eN,(l.length:Int),false):=
  bq (fun k=>((l.take k).map eN,(k:Int))) l.length (fun k a=>by
   simp only [wt]
   rw [brd om,cJ a,obs,aS (by simp only [a8,aw,aD,ag];omega),ai _ om om,cA a,bW]
   rfl) (by
   simp only [wt]
   rw [brn om,ae om,bw])
 rw [key];rfl
theorem Yw {h n:Nat} {pub priv:List Int} (b:gY pub) (c:gY priv):gY (yJ h n pub priv):=by
 intro x a
 simp only [yJ,aJ,aW,io] at a
 rcases a with ((rfl|a)|⟨_,rfl⟩)|a|⟨_,rfl⟩
 ·exact c0I
 ·exact b x a
 ·exact b77
 ·exact c x a
 ·exact b77
theorem a8F {l:List Int} (h:gY l):j7 (l.map eN):=j7.map l fun x a=>b0W (h x a)
def b7y (s:bD) (pub:List Int) (pt:List Ext):Ext:=a3Y (((yJ (gw s) (2^s.Cols.toNat) pub []).take (gw s)).map eN) (eqT pt)
theorem Uy {s:bD} (h:m8 s=true) {pub:List Int} {pt:List Ext} (c:pub.length+1<=gw s) (d:gY pub) (f:j7 pt) (k:pt.length+1=s.Cols.toNat):Aj s pub pt=some (b7y s pub pt):=by
 obtain ⟨c1,c2,c3⟩:=AQ h
 have l:=yd h
 have m:=Cq s.Cols.toNat c2
 have n:(yJ (gw s) (2^s.Cols.toNat) pub []).length=2^s.Cols.toNat:=FV c sm om
 have i:gY (yJ (gw s) (2^s.Cols.toNat) pub []):=Yw d (fun x a=>by cases a)
 unfold Aj
 rw [OY h c sm,obs,MW h,obs,kx om om om,obs]
 have e:((yJ (gw s) (2^s.Cols.toNat) pub []).drop (Int.toNat 0)).take (((gw s:Nat):Int).toNat-Int.toNat 0)=(yJ (gw s) (2^s.Cols.toNat) pub []).take (gw s):=rfl
 have j:=PU pt
 have b:pt.length=s.Cols.toNat-1:=by omega
 have o:2^pt.length=gw s:=by rw [b];rfl
 rw [e,HO (by rw [aD];omega),obs,s8 f om,obs,
  Ld (a8F fun x a=>i x (cm a)) (b32 _) (by rw [aw,aD];omega) (by rw [aw,aD];omega)]
 rfl
theorem PL {s:bD} (h:m8 s=true):0<=s.Publics/\s.Publics.toNat+1<=gw s:=by
 obtain ⟨c1,c2,c3⟩:=AQ h
 have h0:=h
 unfold m8 at h0
 simp only [aB,aA] at h0
 obtain ⟨_,_,a,_⟩:=h0
 have e:ct .i64 1 (s.Cols-1)=(gw s:Int):=by
  rw [show s.Cols-1=((s.Cols.toNat-1:Nat):Int) by omega,M3 om];rfl
 rw [e] at a
 omega
end Go.AI.Fn
namespace Go.AI.Fn
end Go.AI.Fn
namespace Go.AI.Fn
end Go.AI.Fn
namespace Go.AI.Fn
def kvv (T:List (List K)):List (List Ext):=T.map kv
theorem tG (T:List (List K)):(kvv T).length=T.length:=by simp [kvv]
theorem FF {T:List (List K)} {j:Nat} (h:j<T.length):atL (kvv T) (j:Int)=some (kv (T.getD j [])):=by rw [cJ (by rw [tG];exact h)];simp [kvv,h]
theorem b08 (T:List (List K)) (t:List K):kvv (T++[t])=kvv T++[kv t]:=by simp [kvv]
theorem b2x {r:K} {l:List K} {j:Nat} (m:Nat) (h:l.length=2*m) (a:j<m):(fdK r l).take (j+1)=(fdK r l).take j++[l.getD (2*j) 0+r*(l.getD (2*j+1) 0-l.getD (2*j) 0)]:=by
 have b:=DN r l m h
 rw [cA om, <-DW r l m j h];simp [show j<(fdK r l).length by omega]
theorem kvS (l:List K) (x:K):kv (l++[x])=kv l++[x.1]:=by simp [kv]
theorem Tf {l:List K} {m:Nat} (r:K) (h:l.length=2*m) (b:m<=1000):xN (kv l) r.1=some (kv (fdK r l)):=by
 have c:=DN r l m h
 unfold xN
 have key:=bq (step:=jO (kv l) r.1.A r.1.B) (fun j=>(kv ((fdK r l).take j),((2*j:Nat):Int))) m (e:=(kv (fdK r l),(l.length:Int),false)) (fun j a=> ?_) ?_
 ·have key':Loop (jO (kv l) r.1.A r.1.B) ([],0)=_:=key
  rw [key'];rfl
 ·simp only [jO]
  rw [brd (by rw [bB];omega),uv om,obs,ai _ om om,show (((2*j:Nat):Int))+1=((2*j+1:Nat):Int) by omega,uv om,obs]
  unfold wL
  rw [mX (aI _) (aI _),obs,show Ext.mk r.1.A r.1.B=r.1 from rfl,gq r.2 (II _ _),obs,jx (aI _) (Fm _ _),obs,obs,aS (by rw [a8,bB,aD,ag];omega),
   ai _ om om,show (((2*j:Nat):Int))+2=((2*(j+1):Nat):Int) by omega,b2x m h a,kvS];rfl
 ·simp only [jO]
  rw [brn (by rw [bB];omega),ae (by rw [bB];omega),aX om,h]
structure OkT (kind n:Nat) (T:List (List K)):Prop where
 kd:kind=1\/kind=2
 len:T.length=2*kind
 tab: ∀i,i<T.length->(T.getD i []).length=n
theorem OkT.bd {kind n:Nat} {T:List (List K)} (h:OkT kind (2*n) T) (r:K):OkT kind n (bdK r T):=⟨h.kd,by simp [bdK,h.len],fun i hi=>by
 rw [PC]
 exact DN r _ n (h.tab i (by simpa [bdK] using hi))⟩
theorem b6D {r:K} {T:List (List K)} {j:Nat} (a:j<T.length):(bdK r T).take (j+1)=(bdK r T).take j++[fdK r (T.getD j [])]:=by
 rw [cA (by simpa [bdK] using a)];simp [bdK,a]
variable {kind n:Nat} {T:List (List K)}
theorem DJ (h:OkT kind (2*n) T) (hn:n<=1000) (r:K):Eb (kvv T) r.1=some (kvv (bdK r T)):=by
 have b:=h.len
 have c:=h.kd
 have d:(bdK r T).length=T.length:=by simp [bdK]
 unfold Eb
 have key:=bq (step:=rE (kvv T) (T.length:Int) r.1.A r.1.B) (fun j=>(kvv ((bdK r T).take j),(j:Int))) T.length (e:=(kvv (bdK r T),(T.length:Int),false)) (fun j a=> ?_) ?_
 ·have key':Loop (rE (kvv T) (T.length:Int) r.1.A r.1.B) ([],0)=_:=key
  rw [tG,key'];rfl
 ·simp only [rE]
  rw [brd om,FF a,obs,show Ext.mk r.1.A r.1.B=r.1 from rfl,Tf r (h.tab j a) hn,obs,aS (by rw [a8,tG,aD,ag];omega),ai _ om om,b6D a,b08];rfl
 ·simp only [rE]
  rw [brn om,ae om,aX om]
theorem Li {v:List K} (e:kind=1\/kind=2) (f:v.length=2*kind):wJ (kind:Int) (kv v)=some (cmK kind v).1:=by
 unfold wJ cmK
 have a:=uv (l:=v) (j:=0) om
 have b:=uv (l:=v) (j:=1) om
 rw [show ((0:Nat):Int)=0 from rfl] at a
 rw [show ((1:Nat):Int)=1 from rfl] at b
 rcases e with rfl|rfl
 ·rw [bre om,a,obs,b,obs,gq (aI _) (aI _),aa rfl];rfl
 ·have c:=uv (l:=v) (j:=2) om
  have d:=uv (l:=v) (j:=3) om
  rw [show ((2:Nat):Int)=2 from rfl] at c
  rw [show ((3:Nat):Int)=3 from rfl] at d
  rw [cn om,a,obs,b,obs,c,obs,gq (aI _) (aI _),obs,d,obs,mX (Fm _ _) (aI _),obs,gq (aI _) (II _ _),a7 dcd];rfl
theorem b3S {k j:Nat} (a:j<T.length):(uX T k).take (j+1)=(uX T k).take j++[(T.getD j []).getD k 0]:=by
 rw [cA (by simpa [uX] using a)];simp [uX,a]
theorem Rk (T:List (List K)) (k:Nat):(uX T k).length=T.length:=by simp [uX]
theorem a3N (h:OkT kind n T) (hn:n<=1000):Ln (kind:Int) (kvv T)=some (wE kind T n).1:=by
 have b:=h.len
 have c:=h.kd
 have a:=FF (T:=T) (j:=0) om
 rw [show ((0:Nat):Int)=0 from rfl] at a
 unfold Ln
 rw [a,obs,bB,h.tab 0 om]
 have key:=bq (step:=qE (kind:Int) (kvv T) (n:Int) 0 0) (fun j=>((j:Int),(sR j fun k=>cmK kind (uX T k)).1.A,(sR j fun k=>cmK kind (uX T k)).1.B)) n (e:=((n:Int),false,(wE kind T n).1.A,(wE kind T n).1.B)) (fun j d=> ?_) ?_
 ·have key':Loop (qE (kind:Int) (kvv T) (n:Int) 0 0) (0,0,0)=_:=key
  rw [key'];rfl
 ·simp only [qE]
  have inner: ∀c7 c8,Loop (rz (kind:Int) (kvv T) (j:Int) (n:Int) (j:Int) (kvv T) (((kvv T).length:Nat):Int) 0 0 c7 c8) ([],0)=some (kv (uX T j),(T.length:Int),false):=fun c7 c8=>by
   have key:=bq (step:=rz (kind:Int) (kvv T) (j:Int) (n:Int) (j:Int) (kvv T) (((kvv T).length:Nat):Int) 0 0 c7 c8) (fun i=>(kv ((uX T j).take i),(i:Int))) T.length (e:=(kv (uX T j),(T.length:Int),false)) (fun i hi=> ?_) ?_
   ·exact key
   ·simp only [rz,tG]
    rw [brd om,FF hi,obs,uv (by rw [h.tab i hi];exact d),obs,aS (by rw [a8,bB,aD,Rk,ag];omega),ai _ om om,b3S hi,kvS];rfl
   ·simp only [rz,tG]
    rw [brn om,ae om,aX (by rw [Rk];omega)]
  rw [brd om,inner,obs,Li c (by rw [Rk,b]),obs,jx (aI (sR j fun k=>cmK kind (uX T k))) (aI _),obs,ai _ om om];rfl
 ·simp only [qE]
  rw [brn om,ae om];rfl
def rdK (kind:Nat) (T:List (List K)) (n:Nat):List K:=(List.range (kind+2)).map fun (x:Nat)=>wE kind (bdK (kF (x:Int)) T) n
theorem Hp (kind:Nat) (T:List (List K)) (n:Nat):(rdK kind T n).length=kind+2:=by simp [rdK]
theorem a7q {x:Nat} (h:x<=10):Ext.mk (x:Int) 0=(kF (x:Int)).1:=(JY ⟨by omega,by omega⟩).symm
theorem y9 (a:kind=1\/kind=2):rA (kind:Int)=some ((kind+1:Nat):Int):=by
 unfold rA
 rw [HQ,obs,aj om,aj om,Bool.and_self,aQ,bu,ai _ om om];rfl
theorem DP (h:OkT kind (2*n) T) (hn:n<=1000):ur (kind:Int) (kvv T)=some (kv (rdK kind T n)):=by
 have a:=h.kd
 unfold ur
 rw [y9 a,obs,ai _ om om,show (((kind+1:Nat):Int))+1=((kind+2:Nat):Int) by omega]
 have key:=bq (step:=mS (kind:Int) (kvv T) ((kind+2:Nat):Int)) (fun j=>(kv ((List.range j).map fun (x:Nat)=>wE kind (bdK (kF (x:Int)) T) n),(j:Int))) (kind+2) (e:=(kv (rdK kind T n),((kind+2:Nat):Int),false)) (fun j b=> ?_) ?_
 ·have key':Loop (mS (kind:Int) (kvv T) ((kind+2:Nat):Int)) ([],0)=_:=key
  rw [key'];rfl
 ·simp only [mS]
  rw [brd om,a7q om,DJ h hn,obs,a3N (h.bd _) hn,obs,aS (by rw [a8,bB,aw,dV,ag];omega),ai _ om om,dY,bW,oG,kvS];rfl
 ·simp only [mS]
  rw [brn om,ae om];rfl
end Go.AI.Fn
namespace Go.AI.Fn
theorem a9E (a:Int): ∀n:Nat,K.n (a^n)=K.n a^n
 |0=>by rw [lf,pw0];rfl
 |n+1=>by rw [fW,K.n_mul,a9E a n,pwS]
theorem c2T (a:Int):K.n (a%2130706433)=K.n a:=K.ext (by show eN (a%2130706433%2130706433)=eN (a%2130706433);rw [pR])
theorem c0A (a:Int) (n:Nat):kF (pF a n)=kF a^n:=by rw [kF,pF,c2T,a9E];rfl
theorem c5R (a:Int):kF (iF a)=kF a^2130706431:=by rw [iF,c0A]
def lnI (i:Nat) (x v:K):Nat->K
 |0=>v
 |k+1=>if k=i then lnI i x v k else lnI i x v k*(x-kF (k:Int))*kF (iF (sF (i:Int) (k:Int)))
def lnK (vs:List K) (x:K):K:=sR vs.length fun i=>lnI i x (vs.getD i 0) vs.length
theorem c3r {x:Nat} (h:x<=10):Ext.mk (x:Int) 0=(kF (x:Int)).1:=(JY ⟨by omega,by omega⟩).symm
theorem O6 {vs:List K} (x:K) (d:vs.length<=8):D6 (kv vs) x.1=some (lnK vs x).1:=by
 unfold D6
 have key:=bq (step:=oS (kv vs) (kv vs) (vs.length:Int) x.1.A x.1.B 0 0) (fun j=>((j:Int),(sR j fun i=>lnI i x (vs.getD i 0) vs.length).1.A,(sR j fun i=>lnI i x (vs.getD i 0) vs.length).1.B)) vs.length (e:=((vs.length:Int),false,(lnK vs x).1.A,(lnK vs x).1.B)) (fun j b=> ?_) ?_
 ·have key':Loop (oS (kv vs) (kv vs) (vs.length:Int) x.1.A x.1.B 0 0) (0,0,0)=_:=key
  rw [bB,key'];rfl
 ·simp only [oS]
  have inner: ∀c9 c10 c11 c12 c13 c14,Loop (oL (kv vs) (j:Int) (kv vs) (vs.length:Int) (j:Int) (((kv vs).length:Nat):Int) x.1.A x.1.B c9 c10 c11 c12 c13 c14) (0,(vs.getD j 0).1.A,(vs.getD j 0).1.B)=some ((vs.length:Int),false,(lnI j x (vs.getD j 0) vs.length).1.A,(lnI j x (vs.getD j 0) vs.length).1.B):=fun c9 c10 c11 c12 c13 c14=>by
   refine bq (step:=oL (kv vs) (j:Int) (kv vs) (vs.length:Int) (j:Int) (((kv vs).length:Nat):Int) x.1.A x.1.B c9 c10 c11 c12 c13 c14) (fun k=>((k:Int),(lnI j x (vs.getD j 0) k).1.A,(lnI j x (vs.getD j 0) k).1.B)) vs.length (fun k f=> ?_) ?_
   ·simp only [oL,bB]
    rw [brd om]
    by_cases c:k=j
    ·rw [m9 om,ai _ om om,lnI,aa c];rfl
    ·rw [brb om,c3r om,show Ext.mk x.1.A x.1.B=x.1 from rfl,mX x.2 (aI _),obs,gq (aI (lnI j x (vs.getD j 0) k)) (II _ _),obs,Lr ⟨by omega,by omega⟩ ⟨by omega,by omega⟩,obs,EB (b0K _ _),obs,xK (Fm _ _) (show okF (iF (sF (j:Int) (k:Int))) from a1w _ _),obs,ai _ om om,lnI,a7 c,a1B, <-JY (a:=iF (sF (j:Int) (k:Int))) (a1w _ _)];rfl
   ·simp only [oL,bB]
    rw [brn om,ae om]
  rw [brd om,uv b,obs,inner,obs,jx (aI (sR j fun i=>lnI i x (vs.getD i 0) vs.length)) (aI (lnI j x (vs.getD j 0) vs.length)),obs,ai _ om om];rfl
 ·simp only [oS]
  rw [brn om,ae om];rfl
def sqJ:Nat->Int->Int
 |0,x=>x
 |n+1,x=>sqJ n (mF x x)
theorem b0N: ∀(n:Nat) (x:Int),kF (sqJ n x)=kF x^2^n
 |0,x=>by rw [sqJ,kN,pw1]
 |n+1,x=>by rw [sqJ,b0N n,QQ,Zr, <-Tt,aZ,eo]
theorem c1t {a:Int} (h:sqJ 24 (pF a 127)=1):kF (iF a)*kF a=1:=by
 rw [c5R, <-pwS,show 2130706431+1=127*2^24 by decide,Hh, <-c0A, <-b0N,h];rfl
theorem ivs: ∀i:Nat,i<4-> ∀k:Nat,k<4->k≠i->sqJ 24 (pF (sF (i:Int) (k:Int)) 127)=1:=by decide+kernel
theorem c69 (a b:Int):kF (sF a b)=kF a-kF b:=K.ext (CD (by show (a-b)%2130706433%2130706433=(a%2130706433-b%2130706433)%2130706433;omega) rfl)
theorem iv (i k:Nat) (hi:i<4) (a:k<4) (h:k≠i):kF (iF (sF (i:Int) (k:Int)))*(kF (i:Int)-kF (k:Int))=1:=by
 have:=c1t (ivs i hi k a h)
 rw [c69] at this;exact this
theorem k0v:kF ((0:Nat):Int)=0:=rfl
theorem k1v:kF ((1:Nat):Int)=1:=rfl
theorem k2v:kF ((2:Nat):Int)=2:=rfl
theorem k3v:kF ((3:Nat):Int)=3:=rfl
theorem lr2 {p q s x w:K} (a:w*2=1):(0+p*(x-1)*(-1)*(x-2)*(-w)+(p+1*(q+1*s))*x*1*(x-2)*(-1))+(p+2*(q+2*s))*x*w*(x-1)*1=p+x*(q+x*s):=by exact kg
theorem kmA (a b c:K):a*b*c=a*(b*c):=kg
theorem c6M {x w u:K} (a:w*2=1) (b:u*3=1):(x-1)*((-1)*((x-2)*((-w)*((x-3)*(-u)))))+x*(1*((x-2)*((-1)*((x-3)*(-w)))))+x*(w*((x-1)*(1*((x-3)*(-1)))))+x*(u*((x-1)*(w*((x-2)*1))))=1:=kg
theorem c72 {x w u:K} (a:w*2=1) (b:u*3=1):x*(1*((x-2)*((-1)*((x-3)*(-w)))))+2*(x*(w*((x-1)*(1*((x-3)*(-1))))))+3*(x*(u*((x-1)*(w*((x-2)*1)))))=x:=kg
theorem c71 {x w u:K} (a:w*2=1) (b:u*3=1):x*(1*((x-2)*((-1)*((x-3)*(-w)))))+2*(2*(x*(w*((x-1)*(1*((x-3)*(-1)))))))+3*(3*(x*(u*((x-1)*(w*((x-2)*1))))))=x*x:=kg
theorem c6O {x w u:K} (a:w*2=1) (b:u*3=1):x*(1*((x-2)*((-1)*((x-3)*(-w)))))+2*(2*(2*(x*(w*((x-1)*(1*((x-3)*(-1))))))))+3*(3*(3*(x*(u*((x-1)*(w*((x-2)*1)))))))=x*(x*x):=kg
theorem c7a {p q s t x a c1 c2 c3:K} (h0:a+c1+c2+c3=1) (b:c1+2*c2+3*c3=x) (c:c1+2*(2*c2)+3*(3*c3)=x*x) (d:c1+2*(2*(2*c2))+3*(3*(3*c3))=x*(x*x)):
 0+p*a+(p+1*(q+1*(s+1*t)))*c1+(p+2*(q+2*(s+2*t)))*c2+(p+3*(q+3*(s+3*t)))*c3=p+x*(q+x*(s+x*t)):=by
 have e:0+p*a+(p+1*(q+1*(s+1*t)))*c1+(p+2*(q+2*(s+2*t)))*c2+(p+3*(q+3*(s+3*t)))*c3=p*(a+c1+c2+c3)+q*(c1+2*c2+3*c3)+s*(c1+2*(2*c2)+3*(3*c3))+t*(c1+2*(2*(2*c2))+3*(3*(3*c3))):=by clear h0 b c d;exact kg
 rw [e,h0,b,c,d];clear h0 b c d e;exact kg
theorem lr3 {p q s t x w u:K} (a:w*2=1) (b:u*3=1):((0+p*(x-1)*(-1)*(x-2)*(-w)*(x-3)*(-u)+(p+1*(q+1*(s+1*t)))*x*1*(x-2)*(-1)*(x-3)*(-w))+(p+2*(q+2*(s+2*t)))*x*w*(x-1)*1*(x-3)*(-1))+(p+3*(q+3*(s+3*t)))*x*u*(x-1)*w*(x-2)*1=p+x*(q+x*(s+x*t)):=by
 have:=c7a (p:=p) (q:=q) (s:=s) (t:=t) (c6M (x:=x) a b) (c72 a b) (c71 a b) (c6O a b)
 simp only [kmA] at this ⊢
 exact this
theorem a5g {a b i j:K} (c:i*(a-b)=1) (d:j*(b-a)=1):i= -j:=by
 have:i*(j*(b-a))= -j*(i*(a-b)):=by exact kg
 rw [c,d] at this;exact kg
theorem a3w {kind n:Nat} {T:List (List K)} (h:OkT kind (2*n) T) (x:K):lnK (rdK kind T n) x=wE kind (bdK x T) n:=by
 have hT: ∀i,i<4->(T.getD i []).length=2*n\/T.getD i []=[]:=fun i _=>by
  by_cases c:i<T.length
  ·exact .inl (h.tab i c)
  ·exact .inr (by simp [c])
 obtain ⟨p,q,s,t,h1,d⟩:=a2w h.kd hT
 have b: ∀i:Nat,i<kind+2->(rdK kind T n).getD i 0=p+kF (i:Int)*(q+kF (i:Int)*(s+kF (i:Int)*t)):=fun i hi=>by rw [rdK,xj hi,d]
 have a1:=iv 0 1 om om om
 have a2:=iv 0 2 om om om
 have a3:=iv 1 0 om om om
 have a4:=iv 1 2 om om om
 have f:=iv 2 0 om om om
 have a6:=iv 2 1 om om om
 have j:=iv 0 3 om om om
 have k:=iv 1 3 om om om
 have a9:=iv 2 3 om om om
 have l:=iv 3 0 om om om
 have m:=iv 3 1 om om om
 have b3:=iv 3 2 om om om
 rw [k0v] at a1 a2 a3 f j l
 rw [k1v] at a1 a3 a4 a6 k m
 rw [k2v] at a2 a4 f a6 a9 b3
 rw [k3v] at j k a9 l m b3
 have hl:lnK (rdK kind T n) x=sR (kind+2) fun i=>lnI i x ((rdK kind T n).getD i 0) (kind+2):=by rw [lnK,Hp]
 rw [hl,d]
 have o: ∀v,lnI 0 x v 3=v*(x-1)*kF (iF (sF ((0:Nat):Int) ((1:Nat):Int)))*(x-2)*kF (iF (sF ((0:Nat):Int) ((2:Nat):Int))):=fun v=>by
  simp only [lnI,k0v,k1v,k2v,reduceIte,show ¬(1:Nat)=0 by decide,show ¬(2:Nat)=0 by decide]
 have r: ∀v,lnI 1 x v 3=v*(x-0)*kF (iF (sF ((1:Nat):Int) ((0:Nat):Int)))*(x-2)*kF (iF (sF ((1:Nat):Int) ((2:Nat):Int))):=fun v=>by
  simp only [lnI,k0v,k1v,k2v,reduceIte,show ¬(0:Nat)=1 by decide,show ¬(2:Nat)=1 by decide]
 have z: ∀v,lnI 2 x v 3=v*(x-0)*kF (iF (sF ((2:Nat):Int) ((0:Nat):Int)))*(x-1)*kF (iF (sF ((2:Nat):Int) ((1:Nat):Int))):=fun v=>by
  simp only [lnI,k0v,k1v,k2v,reduceIte,show ¬(0:Nat)=2 by decide,show ¬(1:Nat)=2 by decide]
 have g3: ∀v,lnI 3 x v 4=v*(x-0)*kF (iF (sF ((3:Nat):Int) ((0:Nat):Int)))*(x-1)*kF (iF (sF ((3:Nat):Int) ((1:Nat):Int)))*(x-2)*kF (iF (sF ((3:Nat):Int) ((2:Nat):Int))):=fun v=>by
  simp only [lnI,k0v,k1v,k2v,reduceIte,show ¬(0:Nat)=3 by decide,show ¬(1:Nat)=3 by decide,show ¬(2:Nat)=3 by decide]
 have gs: ∀i v,i≠3->lnI i x v 4=lnI i x v 3*(x-3)*kF (iF (sF (i:Int) ((3:Nat):Int))):=fun i v hi=>by
  show (if 3=i then _ else _)=_
  rw [a7 (fun e=>hi e.symm),k3v]
 have g0:=fun v=>gs 0 v dcd
 have g1:=fun v=>gs 1 v dcd
 have g2:=fun v=>gs 2 v dcd
 clear gs
 generalize kF (iF (sF ((0:Nat):Int) ((1:Nat):Int)))=i01 at*
 generalize kF (iF (sF ((0:Nat):Int) ((2:Nat):Int)))=i02 at*
 generalize kF (iF (sF ((1:Nat):Int) ((0:Nat):Int)))=i10 at*
 generalize kF (iF (sF ((1:Nat):Int) ((2:Nat):Int)))=i12 at*
 generalize kF (iF (sF ((2:Nat):Int) ((0:Nat):Int)))=w at*
 generalize kF (iF (sF ((2:Nat):Int) ((1:Nat):Int)))=i21 at*
 generalize kF (iF (sF ((0:Nat):Int) ((3:Nat):Int)))=i03 at*
 generalize kF (iF (sF ((1:Nat):Int) ((3:Nat):Int)))=i13 at*
 generalize kF (iF (sF ((2:Nat):Int) ((3:Nat):Int)))=i23 at*
 generalize kF (iF (sF ((3:Nat):Int) ((0:Nat):Int)))=u at*
 generalize kF (iF (sF ((3:Nat):Int) ((1:Nat):Int)))=i31 at*
 generalize kF (iF (sF ((3:Nat):Int) ((2:Nat):Int)))=i32 at*
 have e1:i01= -1:=by exact kg
 have e2:i02= -w:=a5g a2 f
 have e3:i10=1:=by exact kg
 have e4:i12= -1:=by exact kg
 have e5:i21=1:=by exact kg
 have a:w*2=1:=by exact kg
 have e7:i03= -u:=a5g j l
 have e8:i13= -w:=by
  have:i13*(w*2)= -w*(i13*(1-3)):=by exact kg
  rw [k,a] at this;exact kg
 have e9:i23= -1:=by exact kg
 have e10:i31=w:=by
  have:i31*(w*2)=w*(i31*(3-1)):=by exact kg
  rw [m,a] at this;exact kg
 have e11:i32=1:=by exact kg
 have e12:u*3=1:=by exact kg
 clear a1 a2 a3 a4 f a6 j k a9 l m b3
 subst e1 e2 e3 e4 e5 e7 e8 e9 e10 e11
 have v0:=b 0 om
 have v1:=b 1 (by have:=h.kd;omega)
 have v2:=b 2 (by have:=h.kd;omega)
 rw [k0v] at v0
 rw [k1v] at v1
 rw [k2v] at v2
 rcases h.kd with rfl|rfl
 ·have ht:=h1 rfl
  subst ht
  show ((0+lnI 0 x _ 3)+lnI 1 x _ 3)+lnI 2 x _ 3=_
  rw [v0,v1,v2,o,r,z]
  clear b hl h1 d hT g0 g1 g2 g3 o r z h e12
  have z1:x-0=x:=by clear a;exact kg
  have z2: ∀u:K,p+0*u=p:=fun u=>by clear a;exact kg
  have z3: ∀y u:K,u+y*0=u:=fun y u=>by clear a;exact kg
  simp only [z1,z2,z3]
  exact lr2 (p:=p) (q:=q) (s:=s) (x:=x) a
 ·have v3:=b 3 om
  rw [k3v] at v3
  show (((0+lnI 0 x _ 4)+lnI 1 x _ 4)+lnI 2 x _ 4)+lnI 3 x _ 4=_
  rw [v0,v1,v2,v3,g0,g1,g2,o,r,z,g3]
  clear b hl h1 d hT g0 g1 g2 g3 o r z h
  have z1:x-0=x:=by clear a e12;exact kg
  have z2: ∀u:K,p+0*u=p:=fun u=>by clear a e12;exact kg
  rw [z1,z2]
  exact lr3 (p:=p) (q:=q) (s:=s) (t:=t) (x:=x) a e12
end Go.AI.Fn
namespace Go.AI.Fn
abbrev xo (a b:Int):Int:=sA .u64 a b
def rot (x s:Int):Int:=if s=0 then x else Cp .u64 (ct .u64 x s) (cc .u64 x (64-s))
def Pw (x:Int):Prop:=0<=x/\x<18446744073709551616
theorem X7 (x:Int):Pw (IntKind.wrap .u64 x):=by
 unfold Pw;simp [IntKind.wrap,IntKind.bits,IntKind.signed];omega
theorem c1M (a b:Int):Pw (xo a b):=X7 _
theorem a0l {x:Int} (h:Pw x):((BitVec.ofInt 64 x).toNat:Int)=x:=by
 obtain ⟨h0,a⟩:=h
 rw [ix];omega
theorem Mr {a:Int} (h:Pw a):xo 0 a=a:=by
 show IntKind.wrap .u64 _=a
 have:(BitVec.ofInt 64 0^^^BitVec.ofInt 64 a)=BitVec.ofInt 64 a:=by simp
 show IntKind.wrap .u64 ((BitVec.ofInt 64 0^^^BitVec.ofInt 64 a).toNat:Int)=a
 rw [this,a0l h,rD a h.1 h.2]
theorem b8W {a:Int} (h:Pw a):Cp .u64 a 0=a:=by
 have:(BitVec.ofInt 64 a|||BitVec.ofInt 64 0)=BitVec.ofInt 64 a:=by simp
 show IntKind.wrap .u64 ((BitVec.ofInt 64 a|||BitVec.ofInt 64 0).toNat:Int)=a
 rw [this,a0l h,rD a h.1 h.2]
theorem b6u (x y:Int):Q6 .u64 x y=de .u64 (dT .u64 y) x:=by
 show IntKind.wrap .u64 ((BitVec.ofInt 64 x&&& ~~~ BitVec.ofInt 64 y).toNat:Int)=IntKind.wrap .u64 ((BitVec.ofInt 64 (dT .u64 y)&&&BitVec.ofInt 64 x).toNat:Int)
 have h:BitVec.ofInt 64 (dT .u64 y)= ~~~ BitVec.ofInt 64 y:=by
  show BitVec.ofInt 64 (IntKind.wrap .u64 ((BitVec.ofInt 64 18446744073709551615^^^BitVec.ofInt 64 y).toNat:Int))=_
  have e:(BitVec.ofInt 64 18446744073709551615^^^BitVec.ofInt 64 y)= ~~~ BitVec.ofInt 64 y:=by
   rw [show BitVec.ofInt 64 18446744073709551615=BitVec.allOnes 64 by decide,BitVec.allOnes_xor]
  rw [e,rD _ om (by have:=(~~~ BitVec.ofInt 64 y).isLt;omega)]
  rw [BitVec.ofInt_natCast,BitVec.ofNat_toNat];simp
 rw [h,BitVec.and_comm]
theorem a4v {x s:Int} (a:0<=s/\s<64):zO x s=some (rot x s):=by
 unfold zO rot
 by_cases h:s=0
 ·rw [bre h,aa h]
 ·rw [cn h,a7 h,brd a.1,rD (64-s) om om,brd om]
end Go.AI.Fn
namespace Go.AI.Fn
theorem c63: ∀k:Nat,k<64->de .u64 (IntKind.wrap .u64 (k:Int)) 63=(k:Int):=by decide
theorem a5m {x s:Int} (b:0<=s/\s<64) (a:s≠0\/Pw x):fX x s=some (rot x s):=by
 have e:de .u64 (IntKind.wrap .u64 s) 63=s:=by
  have:=c63 s.toNat om
  rwa [fy b.1] at this
 unfold fX rot
 rw [e,brd b.1,rD (64-s) om om,brd om]
 by_cases h:s=0
 ·subst h
  have a:Pw x:=a.resolve_left (fun h=>h rfl)
  have e1:ct .u64 x 0=x:=by
   show IntKind.wrap .u64 (x*2^0)=x
   rw [lf,Int.mul_one,rD x a.1 a.2]
  have e2:cc .u64 x (64-0)=0:=by
   show x.fdiv (2^64)=0
   rw [nF _ dcd]
   exact Int.ediv_eq_zero_of_lt a.1 a.2
  rw [e1,e2,b8W a,aa rfl]
 ·rw [a7 h]
abbrev g (l:List Int) (i:Int):Int:=l.getD i.toNat 0
def vT:List Int:=[0,1,62,28,27,36,44,6,55,20,3,10,43,25,39,41,45,15,21,8,18,2,61,56,14]
theorem b3O: ∀k:Nat,k<25->0<=vT.getD k 0/\vT.getD k 0<64:=by decide
def p2 (m:List Int) (k:Nat) (l:List Int):List Int:=l.set ((k:Int)%5).toNat (xo (g l ((k:Int)%5)) (g m k))
def p3 (m c:List Int) (k:Nat) (l:List Int):List Int:=
 l.set ((k:Int)/5+5*((2*((k:Int)%5)+3*((k:Int)/5))%5)).toNat (rot (xo (g m k) (xo (g c (((k:Int)%5+4)%5)) (rot (g c (((k:Int)%5+1)%5)) 1))) (g vT k))
def p4 (b:List Int) (k:Nat) (l:List Int):List Int:=
 l.set k (xo (g b k) (Q6 .u64 (g b ((k:Int)-(k:Int)%5+((k:Int)%5+2)%5)) (g b ((k:Int)-(k:Int)%5+((k:Int)%5+1)%5))))
def q2 (m:List Int) (k:Nat) (l:List Int):List Int:=l.set k (xo (xo (xo (xo (g m k) (g m ((k:Int)+5))) (g m ((k:Int)+10))) (g m ((k:Int)+15))) (g m ((k:Int)+20)))
def q3 (c:List Int) (k:Nat) (l:List Int):List Int:=l.set k (xo (g l k) (xo (g c (((k:Int)+4)%5)) (rot (g c (((k:Int)+1)%5)) 1)))
def q5 (m:List Int) (x:Int) (y:Nat) (l:List Int):List Int:=l.set ((y:Int)+5*((2*x+3*(y:Int))%5)).toNat (rot (g m (x+5*(y:Int))) (g vT (x+5*(y:Int))))
def q4 (m:List Int) (x:Nat) (l:List Int):List Int:=iU (q5 m x) 5 l
def q7 (b:List Int) (x:Int) (y:Nat) (l:List Int):List Int:=l.set (x+5*(y:Int)).toNat (xo (g b (x+5*(y:Int))) (de .u64 (dT .u64 (g b ((x+1)%5+5*(y:Int)))) (g b ((x+2)%5+5*(y:Int)))))
def q6 (b:List Int) (x:Nat) (l:List Int):List Int:=iU (q7 b x) 5 l
theorem b4H (m:List Int) (k:Nat) (l:List Int):(iU (p2 m) k l).length=l.length:=yG (fun _ _=>aO) k l
theorem Yb (m c:List Int) (k:Nat) (l:List Int):(iU (p3 m c) k l).length=l.length:=yG (fun _ _=>aO) k l
theorem Y1 (b:List Int) (k:Nat) (l:List Int):(iU (p4 b) k l).length=l.length:=yG (fun _ _=>aO) k l
theorem a1Q (m:List Int) (k:Nat) (l:List Int):(iU (q2 m) k l).length=l.length:=yG (fun _ _=>aO) k l
theorem Td (c:List Int) (k:Nat) (l:List Int):(iU (q3 c) k l).length=l.length:=yG (fun _ _=>aO) k l
theorem b2b (m:List Int) (x:Int) (k:Nat) (l:List Int):(iU (q5 m x) k l).length=l.length:=yG (fun _ _=>aO) k l
theorem b3D (m:List Int) (x:Int) (k:Nat) (l:List Int):(iU (q7 m x) k l).length=l.length:=yG (fun _ _=>aO) k l
theorem a4p (m:List Int) (k:Nat) (l:List Int):(iU (q4 m) k l).length=l.length:=yG (fun x l=>b2b m x 5 l) k l
theorem b40 (m:List Int) (k:Nat) (l:List Int):(iU (q6 m) k l).length=l.length:=yG (fun x l=>b3D m x 5 l) k l
theorem b7H {a b c d t4:List Int} {t3 t5:Int} (h:a.length=25):Loop (iM a b c d t3 t4 t5) (nZ 5,0)=some (iU (p2 a) 25 (nZ 5),25,false):=
 bq (fun k=>(iU (p2 a) k (nZ 5),(k:Int))) 25 (fun k f=>by
  have e:=b4H a k (nZ 5)
  rw [sS] at e
  simp only [iM]
  simp (disch:=omega) only [brd,dv,G1,ju,ai]
  simp only [iU,p2,aY,zT]
  rfl) (by
  simp (disch:=omega) only [iM,brn];rfl)
theorem b74 {a b c d:List Int} {t2:Int} (h:a.length=25):Loop (kY a b c d t2) (nZ 5,0)=some (iU (q2 a) 5 (nZ 5),5,false):=
 bq (fun k=>(iU (q2 a) k (nZ 5),(k:Int))) 5 (fun k f=>by
  have e:=a1Q a k (nZ 5)
  rw [sS] at e
  simp only [kY]
  simp (disch:=omega) only [brd,dv,G1,ju,ai]
  simp only [iU,q2,aY,zT]
  rfl) (by
  simp (disch:=omega) only [kY,brn];rfl)
theorem a0S (k:Nat) (a:k<25):0<=vT.getD k 0/\vT.getD k 0<64:=b3O k a
theorem NX:vT.length=25:=rfl
theorem b5F {m10 m12 c a:List Int} {t7 b:Int} (h:m10.length=25) (hc:c.length=5):Loop (iN m10 vT m12 c t7 a b) (nZ 25,0)=some (iU (p3 m10 c) 25 (nZ 25),25,false):=
 bq (fun k=>(iU (p3 m10 c) k (nZ 25),(k:Int))) 25 (fun k d=>by
  have e:=Yb m10 c k (nZ 25)
  rw [sS] at e
  have f:=a0S k d
  have i:=NX
  simp only [iN]
  simp (disch:=omega) only [brd,dv,qr,G1,ju,ai]
  rw [a5m ⟨by decide,by decide⟩ (.inl dcd)]
  simp only [obs]
  simp only [aY]
  rw [a5m f (.inr (c1M _ _))]
  simp only [obs]
  rfl) (by
  simp (disch:=omega) only [iN,brn];rfl)
theorem b6w {m16 m17 m18 b t12:List Int} {t11 t13:Int} {m:List Int} (h:m.length=25) (a:b.length=25):Loop (iL m16 m17 m18 b t11 t12 t13 b) (m,0)=some (iU (p4 b) 25 m,25,false):=
 bq (fun k=>(iU (p4 b) k m,(k:Int))) 25 (fun k c=>by
  have d:=Y1 b k m
  simp only [iL]
  simp (disch:=omega) only [brd,dv,qr,G1,ju,ai]
  rfl) (by
  simp (disch:=omega) only [iL,brn];rfl)
theorem b7D {m11 m12 m13 c m:List Int} {t4:Int} (h:m.length=25) (hc:c.length=5):Loop (kK m11 m12 m13 c t4) (m,0)=some (iU (q3 c) 25 m,25,false):=
 bq (fun k=>(iU (q3 c) k m,(k:Int))) 25 (fun k a=>by
  have b:=Td c k m
  simp only [kK]
  simp (disch:=omega) only [brd,dv,qr,G1,ju,ai]
  rw [a4v ⟨by decide,by decide⟩]
  simp only [obs]
  rfl) (by
  simp (disch:=omega) only [kK,brn];rfl)
theorem b9N {a m22 m23 m25 m:List Int} {b:Int} {x:Nat} (e:x<5) (h:m.length=25) (f:a.length=25):Loop (kL a m22 m23 vT m25 b x) (m,0)=some (iU (q5 a x) 5 m,5,false):=
 bq (fun k=>(iU (q5 a x) k m,(k:Int))) 5 (fun k i=>by
  have j:=b2b a x k m
  have c:=a0S ((x:Int)+5*(k:Int)).toNat om
  have d:=NX
  simp only [kL]
  simp (disch:=omega) only [brd,dv,qr,G1,ju,ai]
  rw [a4v c]
  simp only [obs]
  rfl) (by
  simp (disch:=omega) only [kL,brn];rfl)
theorem b6r {a m16 m17 m19 m:List Int} {t6:Int} (h:m.length=25) (b:a.length=25):Loop (kV a m16 m17 vT m19 t6) (m,0)=some (iU (q4 a) 5 m,5,false):=
 bq (fun k=>(iU (q4 a) k m,(k:Int))) 5 (fun k c=>by
  have d:=a4p a k m
  simp only [kV]
  rw [brd om,b9N c om b,obs,ai _ om om]
  rfl) (by
  simp (disch:=omega) only [kV,brn];rfl)
theorem b6d {m34 m35 m36 m37 b m:List Int} {t13:Int} {x:Nat} (a:x<5) (h:m.length=25) (c:b.length=25):Loop (kX m34 m35 m36 m37 b t13 x) (m,0)=some (iU (q7 b x) 5 m,5,false):=
 bq (fun k=>(iU (q7 b x) k m,(k:Int))) 5 (fun k d=>by
  have e:=b3D b x k m
  simp only [kX]
  simp (disch:=omega) only [brd,dv,qr,G1,ju,ai]
  rfl) (by
  simp (disch:=omega) only [kX,brn];rfl)
theorem b80 {m28 m29 m30 m31 b m:List Int} {t11:Int} (h:m.length=25) (a:b.length=25):Loop (kP m28 m29 m30 m31 b t11) (m,0)=some (iU (q6 b) 5 m,5,false):=
 bq (fun k=>(iU (q6 b) k m,(k:Int))) 5 (fun k c=>by
  have d:=b40 b k m
  simp only [kP]
  rw [brd om,b6d c om a,obs,ai _ om om]
  rfl) (by
  simp (disch:=omega) only [kP,brn];rfl)
def DK (m:List Int) (rc:Int):List Int:=
 let c:=iU (p2 m) 25 (nZ 5)
 let b:=iU (p3 m c) 25 (nZ 25)
 let r:=iU (p4 b) 25 m
 r.set 0 (xo (r.getD 0 0) rc)
def a3u (m:List Int) (rc:Int):List Int:=
 let c:=iU (q2 m) 5 (nZ 5)
 let a:=iU (q3 c) 25 m
 let b:=iU (q4 a) 5 (nZ 25)
 let r:=iU (q6 b) 5 a
 r.set 0 (xo (r.getD 0 0) rc)
end Go.AI.Fn
namespace Go.AI.Fn
theorem dH {l:List Int} {n:Nat} (h:l.length=n+1): ∃a r,l=a::r/\r.length=n:=by
 cases l with
 |nil=>simp at h
 |cons a r=>exact ⟨a,r,rfl,by simpa using h⟩
theorem b63 {l:List Int} (h:l.length=0):l=[]:=bN h
theorem ZS {l:List Int} (h:l.length=25): ∃s t a2 a3 u v w x y z a10 a11 a12 a13 a14 a15 a16 a17 a18 a19 a20 a21 a22 a23 a24,l=[s,t,a2,a3,u,v,w,x,y,z,a10,a11,a12,a13,a14,a15,a16,a17,a18,a19,a20,a21,a22,a23,a24]:=by
 obtain ⟨s,r0,rfl,h0⟩:=dH h
 obtain ⟨t,r1,rfl,h1⟩:=dH h0
 obtain ⟨a2,r2,rfl,h2⟩:=dH h1
 obtain ⟨a3,r3,rfl,h3⟩:=dH h2
 obtain ⟨u,r4,rfl,h4⟩:=dH h3
 obtain ⟨v,r5,rfl,h5⟩:=dH h4
 obtain ⟨w,r6,rfl,h6⟩:=dH h5
 obtain ⟨x,r7,rfl,h7⟩:=dH h6
 obtain ⟨y,r8,rfl,h8⟩:=dH h7
 obtain ⟨z,r9,rfl,h9⟩:=dH h8
 obtain ⟨a10,r10,rfl,a⟩:=dH h9
 obtain ⟨a11,r11,rfl,b⟩:=dH a
 obtain ⟨a12,r12,rfl,c⟩:=dH b
 obtain ⟨a13,r13,rfl,d⟩:=dH c
 obtain ⟨a14,r14,rfl,e⟩:=dH d
 obtain ⟨a15,r15,rfl,f⟩:=dH e
 obtain ⟨a16,r16,rfl,i⟩:=dH f
 obtain ⟨a17,r17,rfl,j⟩:=dH i
 obtain ⟨a18,r18,rfl,k⟩:=dH j
 obtain ⟨a19,r19,rfl,m⟩:=dH k
 obtain ⟨a20,r20,rfl,n⟩:=dH m
 obtain ⟨a21,r21,rfl,o⟩:=dH n
 obtain ⟨a22,r22,rfl,p⟩:=dH o
 obtain ⟨a23,r23,rfl,q⟩:=dH p
 obtain ⟨a24,r24,rfl,r⟩:=dH q
 obtain rfl:=b63 r
 exact ⟨_,_,_,_,_,_,_,_,_,_,_,_,_,_,_,_,_,_,_,_,_,_,_,_,_,rfl⟩
def oO (m:List Int):Prop:=m.length=25/\ ∀x∈m,Pw x
def cs (m:List Int):List Int:=iU (q2 m) 5 (nZ 5)
theorem b6C {m:List Int} (h:oO m):iU (p2 m) 25 (nZ 5)=cs m:=by
 obtain ⟨n,a⟩:=h
 obtain ⟨b,c,a2,a3,d,e,f,i,j,l,a10,a11,a12,a13,a14,a15,a16,a17,a18,a19,a20,a21,a22,a23,a24,rfl⟩:=ZS n
 have e0:=Mr (a b sm)
 have e1:=Mr (a c sm)
 have e2:=Mr (a a2 sm)
 have o:=Mr (a a3 sm)
 have p:=Mr (a d sm)
 have k:iU (p2 [b,c,a2,a3,d,e,f,i,j,l,a10,a11,a12,a13,a14,a15,a16,a17,a18,a19,a20,a21,a22,a23,a24]) 25 (nZ 5)=[xo (xo (xo (xo (xo 0 b) e) a10) a15) a20,xo (xo (xo (xo (xo 0 c) f) a11) a16) a21,xo (xo (xo (xo (xo 0 a2) i) a12) a17) a22,xo (xo (xo (xo (xo 0 a3) j) a13) a18) a23,xo (xo (xo (xo (xo 0 d) l) a14) a19) a24]:=by kernel_rfl
 have q:cs [b,c,a2,a3,d,e,f,i,j,l,a10,a11,a12,a13,a14,a15,a16,a17,a18,a19,a20,a21,a22,a23,a24]=
  [xo (xo (xo (xo b e) a10) a15) a20,xo (xo (xo (xo c f) a11) a16) a21,xo (xo (xo (xo a2 i) a12) a17) a22,xo (xo (xo (xo a3 j) a13) a18) a23,xo (xo (xo (xo d l) a14) a19) a24]:=by kernel_rfl
 rw [k,q,e0,e1,e2,o,p]
theorem b70 {c:List Int} (a b a2 a3 d e f h i j a10 a11 a12 a13 a14 a15 a16 a17 a18 a19 a20 a21 a22 a23 a24:Int):iU (p3 [a,b,a2,a3,d,e,f,h,i,j,a10,a11,a12,a13,a14,a15,a16,a17,a18,a19,a20,a21,a22,a23,a24] c) 25 (nZ 25)=[rot (xo a (xo (g c 4) (rot (g c 1) 1))) 0,rot (xo f (xo (g c 0) (rot (g c 2) 1))) 44,rot (xo a12 (xo (g c 1) (rot (g c 3) 1))) 43,rot (xo a18 (xo (g c 2) (rot (g c 4) 1))) 21,rot (xo a24 (xo (g c 3) (rot (g c 0) 1))) 14,rot (xo a3 (xo (g c 2) (rot (g c 4) 1))) 28,rot (xo j (xo (g c 3) (rot (g c 0) 1))) 20,rot (xo a10 (xo (g c 4) (rot (g c 1) 1))) 3,rot (xo a16 (xo (g c 0) (rot (g c 2) 1))) 45,rot (xo a22 (xo (g c 1) (rot (g c 3) 1))) 61,rot (xo b (xo (g c 0) (rot (g c 2) 1))) 1,rot (xo h (xo (g c 1) (rot (g c 3) 1))) 6,rot (xo a13 (xo (g c 2) (rot (g c 4) 1))) 25,rot (xo a19 (xo (g c 3) (rot (g c 0) 1))) 8,rot (xo a20 (xo (g c 4) (rot (g c 1) 1))) 18,rot (xo d (xo (g c 3) (rot (g c 0) 1))) 27,rot (xo e (xo (g c 4) (rot (g c 1) 1))) 36,rot (xo a11 (xo (g c 0) (rot (g c 2) 1))) 10,rot (xo a17 (xo (g c 1) (rot (g c 3) 1))) 15,rot (xo a23 (xo (g c 2) (rot (g c 4) 1))) 56,rot (xo a2 (xo (g c 1) (rot (g c 3) 1))) 62,rot (xo i (xo (g c 2) (rot (g c 4) 1))) 55,rot (xo a14 (xo (g c 3) (rot (g c 0) 1))) 39,rot (xo a15 (xo (g c 4) (rot (g c 1) 1))) 41,rot (xo a21 (xo (g c 0) (rot (g c 2) 1))) 2]:=by kernel_rfl
theorem b7X {c:List Int} (a b a2 a3 d e f h i j a10 a11 a12 a13 a14 a15 a16 a17 a18 a19 a20 a21 a22 a23 a24:Int):iU (q3 c) 25 [a,b,a2,a3,d,e,f,h,i,j,a10,a11,a12,a13,a14,a15,a16,a17,a18,a19,a20,a21,a22,a23,a24]=[xo a (xo (g c 4) (rot (g c 1) 1)),xo b (xo (g c 0) (rot (g c 2) 1)),xo a2 (xo (g c 1) (rot (g c 3) 1)),xo a3 (xo (g c 2) (rot (g c 4) 1)),xo d (xo (g c 3) (rot (g c 0) 1)),xo e (xo (g c 4) (rot (g c 1) 1)),xo f (xo (g c 0) (rot (g c 2) 1)),xo h (xo (g c 1) (rot (g c 3) 1)),xo i (xo (g c 2) (rot (g c 4) 1)),xo j (xo (g c 3) (rot (g c 0) 1)),xo a10 (xo (g c 4) (rot (g c 1) 1)),xo a11 (xo (g c 0) (rot (g c 2) 1)),xo a12 (xo (g c 1) (rot (g c 3) 1)),xo a13 (xo (g c 2) (rot (g c 4) 1)),xo a14 (xo (g c 3) (rot (g c 0) 1)),xo a15 (xo (g c 4) (rot (g c 1) 1)),xo a16 (xo (g c 0) (rot (g c 2) 1)),xo a17 (xo (g c 1) (rot (g c 3) 1)),xo a18 (xo (g c 2) (rot (g c 4) 1)),xo a19 (xo (g c 3) (rot (g c 0) 1)),xo a20 (xo (g c 4) (rot (g c 1) 1)),xo a21 (xo (g c 0) (rot (g c 2) 1)),xo a22 (xo (g c 1) (rot (g c 3) 1)),xo a23 (xo (g c 2) (rot (g c 4) 1)),xo a24 (xo (g c 3) (rot (g c 0) 1))]:=by kernel_rfl
theorem b9U (a b a2 a3 c d e f h i a10 a11 a12 a13 a14 a15 a16 a17 a18 a19 a20 a21 a22 a23 a24:Int):iU (q4 [a,b,a2,a3,c,d,e,f,h,i,a10,a11,a12,a13,a14,a15,a16,a17,a18,a19,a20,a21,a22,a23,a24]) 5 (nZ 25)=[rot a 0,rot e 44,rot a12 43,rot a18 21,rot a24 14,rot a3 28,rot i 20,rot a10 3,rot a16 45,rot a22 61,rot b 1,rot f 6,rot a13 25,rot a19 8,rot a20 18,rot c 27,rot d 36,rot a11 10,rot a17 15,rot a23 56,rot a2 62,rot h 55,rot a14 39,rot a15 41,rot a21 2]:=by kernel_rfl
theorem a9Z {m c:List Int} (a:m.length=25):iU (p3 m c) 25 (nZ 25)=iU (q4 (iU (q3 c) 25 m)) 5 (nZ 25):=by
 obtain ⟨b,d,a2,a3,e,f,h,i,j,k,a10,a11,a12,a13,a14,a15,a16,a17,a18,a19,a20,a21,a22,a23,a24,rfl⟩:=ZS a
 rw [b70,b7X,b9U]
def p4' (b:List Int) (k:Nat) (l:List Int):List Int:=l.set k (xo (g b k) (de .u64 (dT .u64 (g b ((k:Int)-(k:Int)%5+((k:Int)%5+1)%5))) (g b ((k:Int)-(k:Int)%5+((k:Int)%5+2)%5))))
theorem c5Z (b:List Int):p4 b=p4' b:=by funext k l;unfold p4 p4';rw [b6u]
theorem b99 (a b a2 a3 c d e f h i a10 a11 a12 a13 a14 a15 a16 a17 a18 a19 a20 a21 a22 a23 a24 j k l m n o p q r s b10 b11 b12 b13 b14 b15 b16 b17 b18 b19 b20 b21 b22 b23 b24:Int):iU (p4' [a,b,a2,a3,c,d,e,f,h,i,a10,a11,a12,a13,a14,a15,a16,a17,a18,a19,a20,a21,a22,a23,a24]) 25 [j,k,l,m,n,o,p,q,r,s,b10,b11,b12,b13,b14,b15,b16,b17,b18,b19,b20,b21,b22,b23,b24]=[xo a (de .u64 (dT .u64 b) a2),xo b (de .u64 (dT .u64 a2) a3),xo a2 (de .u64 (dT .u64 a3) c),xo a3 (de .u64 (dT .u64 c) a),xo c (de .u64 (dT .u64 a) b),xo d (de .u64 (dT .u64 e) f),xo e (de .u64 (dT .u64 f) h),xo f (de .u64 (dT .u64 h) i),xo h (de .u64 (dT .u64 i) d),xo i (de .u64 (dT .u64 d) e),xo a10 (de .u64 (dT .u64 a11) a12),xo a11 (de .u64 (dT .u64 a12) a13),xo a12 (de .u64 (dT .u64 a13) a14),xo a13 (de .u64 (dT .u64 a14) a10),xo a14 (de .u64 (dT .u64 a10) a11),xo a15 (de .u64 (dT .u64 a16) a17),xo a16 (de .u64 (dT .u64 a17) a18),xo a17 (de .u64 (dT .u64 a18) a19),xo a18 (de .u64 (dT .u64 a19) a15),xo a19 (de .u64 (dT .u64 a15) a16),xo a20 (de .u64 (dT .u64 a21) a22),xo a21 (de .u64 (dT .u64 a22) a23),xo a22 (de .u64 (dT .u64 a23) a24),xo a23 (de .u64 (dT .u64 a24) a20),xo a24 (de .u64 (dT .u64 a20) a21)]:=by kernel_rfl
theorem b92 (a b a2 a3 c d e f h i a10 a11 a12 a13 a14 a15 a16 a17 a18 a19 a20 a21 a22 a23 a24 j k l m n o p q r s b10 b11 b12 b13 b14 b15 b16 b17 b18 b19 b20 b21 b22 b23 b24:Int):iU (q6 [a,b,a2,a3,c,d,e,f,h,i,a10,a11,a12,a13,a14,a15,a16,a17,a18,a19,a20,a21,a22,a23,a24]) 5 [j,k,l,m,n,o,p,q,r,s,b10,b11,b12,b13,b14,b15,b16,b17,b18,b19,b20,b21,b22,b23,b24]=[xo a (de .u64 (dT .u64 b) a2),xo b (de .u64 (dT .u64 a2) a3),xo a2 (de .u64 (dT .u64 a3) c),xo a3 (de .u64 (dT .u64 c) a),xo c (de .u64 (dT .u64 a) b),xo d (de .u64 (dT .u64 e) f),xo e (de .u64 (dT .u64 f) h),xo f (de .u64 (dT .u64 h) i),xo h (de .u64 (dT .u64 i) d),xo i (de .u64 (dT .u64 d) e),xo a10 (de .u64 (dT .u64 a11) a12),xo a11 (de .u64 (dT .u64 a12) a13),xo a12 (de .u64 (dT .u64 a13) a14),xo a13 (de .u64 (dT .u64 a14) a10),xo a14 (de .u64 (dT .u64 a10) a11),xo a15 (de .u64 (dT .u64 a16) a17),xo a16 (de .u64 (dT .u64 a17) a18),xo a17 (de .u64 (dT .u64 a18) a19),xo a18 (de .u64 (dT .u64 a19) a15),xo a19 (de .u64 (dT .u64 a15) a16),xo a20 (de .u64 (dT .u64 a21) a22),xo a21 (de .u64 (dT .u64 a22) a23),xo a22 (de .u64 (dT .u64 a23) a24),xo a23 (de .u64 (dT .u64 a24) a20),xo a24 (de .u64 (dT .u64 a20) a21)]:=by kernel_rfl
theorem b9j {b m a:List Int} (c:b.length=25) (d:m.length=25) (e:a.length=25):iU (p4 b) 25 m=iU (q6 b) 5 a:=by
 rw [c5Z]
 obtain ⟨f,h,a2,a3,i,j,k,l,n,o,a10,a11,a12,a13,a14,a15,a16,a17,a18,a19,a20,a21,a22,a23,a24,rfl⟩:=ZS c
 obtain ⟨p,q,r,s,t,u,v,w,x,y,b10,b11,b12,b13,b14,b15,b16,b17,b18,b19,b20,b21,b22,b23,b24,rfl⟩:=ZS d
 obtain ⟨z,c1,c2,c3,c4,c5,c6,c7,c8,c9,c10,c11,c12,c13,c14,c15,c16,c17,c18,c19,c20,c21,c22,c23,c24,rfl⟩:=ZS e
 rw [b99,b92]
theorem b1h {m:List Int} {rc:Int} (h:oO m):DK m rc=a3u m rc:=by
 unfold DK a3u
 dsimp only
 have b:=b6C h
 unfold cs at b
 rw [b]
 have hc:(iU (q2 m) 5 (nZ 5)).length=5:=by rw [a1Q,sS]
 have c:(iU (q3 (iU (q2 m) 5 (nZ 5))) 25 m).length=25:=by rw [Td];exact h.1
 rw [a9Z h.1]
 rw [b9j (a:=iU (q3 (iU (q2 m) 5 (nZ 5))) 25 m) (by rw [a4p,sS]) h.1 c]
theorem b25 {m:List Int} {rc:Int} (h:oO m):oO (DK m rc):=by
 have d:(DK m rc).length=25:=by
  unfold DK;dsimp only;rw [aO,Y1];exact h.1
 refine ⟨d, ?_⟩
 unfold DK
 dsimp only
 have e:(iU (p3 m (iU (p2 m) 25 (nZ 5))) 25 (nZ 25)).length=25:=by rw [Yb,sS]
 generalize iU (p3 m (iU (p2 m) 25 (nZ 5))) 25 (nZ 25)=b at e
 have key: ∀k,k<=25-> ∀i,i<k-> ∀hi:i<(iU (p4 b) k m).length,Pw (iU (p4 b) k m)[i]:=by
  intro k
  induction k with
  |zero=>intro _ i hi;omega
  |succ k ih=>
   intro j i hi a
   simp only [iU,p4]
   rw [List.getElem_set]
   split
   ·exact c1M _ _
   ·exact ih om i om (by simpa [iU,p4] using a)
 intro x f
 rcases dC f with c|c
 ·obtain ⟨i,hi,rfl⟩:=bp c
  exact key 25 om i (by rw [Y1] at hi;have:=h.1;omega) hi
 ·rw [c];exact c1M _ _
end Go.AI.Fn
set_option maxRecDepth 10000
namespace Go.AI.Fn
def rcL:List Int:=[1,32898,9223372036854808714,9223372039002292224,32907,2147483649,9223372039002292353,9223372036854808585,138,136,2147516425,2147483658,2147516555,9223372036854775947,9223372036854808713,9223372036854808579,9223372036854808578,9223372036854775936,32778,9223372039002259466,9223372039002292353,9223372036854808704,2147483649,9223372039002292232]
theorem c2A:[1,32898,9223372036854808714,9223372039002292224,32907,2147483649,9223372039002292353,9223372036854808585,138,136,2147516425,2147483658,2147516555,9223372036854775947,9223372036854808713,9223372036854808579,9223372036854808578,9223372036854775936,32778,9223372039002259466,9223372039002292353,9223372036854808704,2147483649,9223372039002292232]=rcL:=rfl
theorem a7g:[0,1,62,28,27,36,44,6,55,20,3,10,43,25,39,41,45,15,21,8,18,2,61,56,14]=vT:=rfl
theorem Xf:rcL.length=24:=rfl
def rdP (k:Nat) (m:List Int):List Int:=DK m (rcL.getD k 0)
def Qp (m:List Int):List Int:=iU rdP 24 m
theorem Wf (k:Nat) (m:List Int):iU rdP (k+1) m=DK (iU rdP k m) (rcL.getD k 0):=by rw [iU,rdP]
theorem a5w {m:List Int} (h:oO m): ∀k,oO (iU rdP k m)
 |0=>h
 |k+1=>by rw [Wf];exact b25 (a5w h k)
theorem WO {m:List Int} (h:oO m):oO (Qp m):=a5w h 24
theorem VU {m:List Int} (h:oO m):ph m=some (Qp m):=by
 unfold ph
 have key:Loop (iO vT rcL rcL) (m,0)=some (Qp m,24,false):=
  bq (fun k=>(iU rdP k m,(k:Int))) 24 (fun k c=>by
   have a:=a5w h k
   have b:=a.1
   have d:=Xf
   simp only [iO]
   simp (disch:=omega) only [brd,G1,ju,ai]
   rw [b7H a.1,obs,b5F a.1 (by rw [b4H,sS]),obs,brd (by rw [Yb,sS]),b6w a.1 (by rw [Yb,sS]),obs]
   have e:=Y1 (iU (p3 (iU rdP k m) (iU (p2 (iU rdP k m)) 25 (nZ 5))) 25 (nZ 25)) 25 (iU rdP k m)
   simp (disch:=omega) only [ju,brd]
   rw [Wf]
   unfold DK
   simp only [zT,aY]) (by simp (disch:=omega) only [iO,brn];rfl)
 rw [c2A,a7g,key,obs]
theorem Yh {m:List Int} (h:oO m):vH m=some (Qp m):=by
 unfold vH
 have key:Loop (kS (nZ 25) rcL vT) (m,0)=some (Qp m,24,false):=
  bq (fun k=>(iU rdP k m,(k:Int))) 24 (fun k e=>by
   have a:=a5w h k
   have c:=a.1
   have f:=Xf
   simp only [kS]
   rw [brd om,b74 a.1,obs,b7D a.1 (by rw [a1Q,sS]),obs,b6r (sS 25) (by rw [Td];exact a.1),obs,
    b80 (by rw [Td];exact a.1) (by rw [a4p,sS]),obs]
   have d:=b40 (iU (q4 (iU (q3 (iU (q2 (iU rdP k m)) 5 (nZ 5))) 25 (iU rdP k m))) 5 (nZ 25)) 5 (iU (q3 (iU (q2 (iU rdP k m)) 5 (nZ 5))) 25 (iU rdP k m))
   rw [Td] at d
   simp (disch:=omega) only [ju,brd,G1,ai]
   rw [Wf,b1h a]
   unfold a3u
   simp only [zT,aY]) (by simp (disch:=omega) only [kS,brn];rfl)
 have b:=(WO h).1
 rw [brd h.1]
 show (some rcL).bind _=_
 rw [obs,brd Xf]
 show (some vT).bind _=_
 rw [obs,brd NX,key,obs,brd b,brd b,brd b]
theorem b1G {l:List UInt8} {k:Nat} (h:k<l.length):atL l (k:Int)=some (l.getD k 0):=by simp [atL,h]
def lnS (t:List UInt8) (k:Nat) (l:List Int):List Int:=l.set ((k:Int)/8).toNat (Cp .u64 (g l ((k:Int)/8)) (ct .u64 (IntKind.wrap .u64 ((t.getD k 0).toNat:Int)) (8*((k:Int)%8))))
def CA (t:List UInt8):List Int:=iU (lnS t) t.length (nZ 25)
theorem Wy (t:List UInt8) (k:Nat) (l:List Int):(iU (lnS t) k l).length=l.length:=yG (fun _ _=>aO) k l
theorem G2 (t:List UInt8):oO (CA t):=by
 refine ⟨by rw [CA,Wy,sS], ?_⟩
 have key: ∀k, ∀x∈iU (lnS t) k (nZ 25),Pw x:=by
  intro k
  induction k with
  |zero=>intro x a;simp only [iU,nZ,io] at a;rw [a.2];exact ⟨by decide,by decide⟩
  |succ k ih=>
   intro x a
   rcases dC a with b|b
   ·exact ih x b
   ·rw [b];exact X7 _
 exact key _
theorem XI {t:List UInt8} (h:t.length<=200):D2 t=some (CA t):=by
 unfold D2
 have key:Loop (pq (nZ 25) t (t.length:Int)) (nZ 25,0)=some (CA t,(t.length:Int),false):=
  bq (fun k=>(iU (lnS t) k (nZ 25),(k:Int))) t.length (fun k b=>by
   have a:=Wy t k (nZ 25)
   rw [sS] at a
   simp only [pq]
   simp (disch:=omega) only [brd,dv,qr,G1,ju,ai,b1G,obs]
   rfl) (by simp (disch:=omega) only [pq,brn];simp;rfl)
 have a:=(G2 t).1
 rw [key,obs,brd a,brd a,brd a]
theorem a2q {t:List UInt8} (h:t.length<=200):AB t=some (CA t):=by
 unfold AB
 have key:Loop (nI (nZ 25) t) (nZ 25,0)=some (CA t,(t.length:Int),false):=
  bq (fun k=>(iU (lnS t) k (nZ 25),(k:Int))) t.length (fun k b=>by
   have a:=Wy t k (nZ 25)
   rw [sS] at a
   simp only [nI]
   simp (disch:=omega) only [brd,dv,qr,G1,ju,ai,rD,b1G,obs]
   rfl) (by simp (disch:=omega) only [nI,brn];simp;rfl)
 have a:=(G2 t).1
 rw [key,obs,brd a,brd a,brd a]
def txB (m:List Int) (i:Nat):UInt8:=UInt8.ofInt (cc .u64 (g m ((i:Int)/8)) (8*((i:Int)%8)))
def A9 (m:List Int) (n:Nat):List UInt8:=(List.range n).map (txB m)
theorem HN (m:List Int) (n:Nat):(A9 m n).length=n:=by simp [A9]
theorem T8 (m:List Int) (n:Nat):A9 m (n+1)=A9 m n++[txB m n]:=by simp [A9,dY]
theorem a7O {m:List Int} (h:m.length=25):vg m=some (A9 m 200,m):=by
 unfold vg
 have key:Loop (kO m) ([],0)=some (A9 m 200,200,false):=
  bq (fun k=>(A9 m k,(k:Int))) 200 (fun k a=>by
   have b:=HN m k
   simp only [kO]
   simp (disch:=omega) only [brd,dv,qr,G1,ju,ai]
   rw [aS (by simp only [a8,ab,ah];omega),T8]
   rfl) (by simp (disch:=omega) only [kO,brn];rfl)
 rw [key];rfl
theorem a88 {m:List Int} (h:m.length=25) {n:Nat} (hn:n<=200):Dk m n=some (A9 m n):=by
 unfold Dk
 have key:Loop (pj m n) ([],0)=some (A9 m n,(n:Int),false):=
  bq (fun k=>(A9 m k,(k:Int))) n (fun k a=>by
   have b:=HN m k
   simp only [pj]
   simp (disch:=omega) only [brd,dv,qr,G1,ju,ai,rD]
   rw [aS (by simp only [a8,ab,ah];omega),T8]
   rfl) (by simp (disch:=omega) only [pj,brn];simp)
 rw [brd h,key];rfl
end Go.AI.Fn
namespace Go.AI.Fn
def xoS (t:List Int) (k:Nat) (l:List Int):List Int:=l.set k (xo (g l k) (g t k))
def a7b (t m:List Int):List Int:=iU (xoS t) 25 m
theorem W2 (t:List Int) (k:Nat) (l:List Int):(iU (xoS t) k l).length=l.length:=yG (fun _ _=>aO) k l
theorem a2i {t m:List Int} (h:oO m):oO (a7b t m):=by
 refine ⟨by rw [a7b,W2];exact h.1, ?_⟩
 have key: ∀k, ∀x∈iU (xoS t) k m,Pw x:=by
  intro k
  induction k with
  |zero=>exact h.2
  |succ k ih=>
   intro x b
   rcases dC b with a|a
   ·exact ih x a
   ·rw [a];exact X7 _
 exact key _
theorem b5s {l5 a:List UInt8} {t m:List Int} (b:t.length=25) (h:m.length=25):Loop (rN l5 a t) (m,0)=some (a7b t m,25,false):=
 bq (fun k=>(iU (xoS t) k m,(k:Int))) 25 (fun k c=>by
  have d:=W2 t k m
  simp only [rN]
  simp (disch:=omega) only [brd,G1,ju,ai]
  rfl) (by simp (disch:=omega) only [rN,brn];rfl)
theorem b39 {l5 a:List UInt8} {p:Int} {t m:List Int} (b:t.length=25) (h:m.length=25):Loop (pv l5 t a p) (m,0)=some (a7b t m,25,false):=
 bq (fun k=>(iU (xoS t) k m,(k:Int))) 25 (fun k c=>by
  have d:=W2 t k m
  simp only [pv]
  simp (disch:=omega) only [brd,G1,ju,ai]
  rfl) (by simp (disch:=omega) only [pv,brn];rfl)
def c4F (a:List UInt8) (k:Nat) (m:List Int):List Int:=Qp (a7b (CA ((a.drop (136*k)).take 136)) m)
def Yd (a:List UInt8) (n:Nat):List Int:=iU (c4F a) n (nZ 25)
theorem c5J:oO (nZ 25):=⟨sS 25,fun x a=>by simp only [nZ,io] at a;rw [a.2];exact ⟨by decide,by decide⟩⟩
theorem Rs (a:List UInt8) (n:Nat):Yd a (n+1)=Qp (a7b (CA ((a.drop (136*n)).take 136)) (Yd a n)):=by
 unfold Yd;rw [iU,c4F]
theorem T6 (a:List UInt8): ∀n,oO (Yd a n)
 |0=>c5J
 |n+1=>by rw [Rs];exact WO (a2i (T6 a n))
theorem a9J {l4 a:List UInt8} {n:Nat} (h:a.length=136*n) (hn:n<=1000000000):Loop (s9 l4) (nZ 25,a)=some (Yd a n,[],false):=
 bq (fun k=>(Yd a k,a.drop (136*k))) n (fun k d=>by
  have b:=T6 a k
  have c:=a2i (t:=CA ((a.drop (136*k)).take 136)) b
  simp only [s9]
  rw [brd (by rw [bP];omega),kx om om (by rw [bP];omega),obs,kx om (by rw [bP];omega) om]
  have e1:(List.drop (Int.toNat 0) (List.drop (136*k) a)).take (Int.toNat 136-Int.toNat 0)=(a.drop (136*k)).take 136:=rfl
  have e2:(List.drop (Int.toNat 136) (List.drop (136*k) a)).take ((((List.drop (136*k) a).length:Nat):Int).toNat-Int.toNat 136)=a.drop (136*(k+1)):=by
   rw [lh,aX (by rw [bP,bP];simp;omega)]
   congr 1
  rw [e1,e2,XI (by rw [aD];omega),obs,b5s (G2 _).1 b.1,obs,VU c,obs,obs,Rs]) (by
  simp only [s9]
  rw [brn (by rw [bP];omega),iu om]
  rfl)
theorem b00 {l3 a:List UInt8} {n:Nat} (h:a.length=136*n) (hn:n<=1000000000): ∃p,Loop (pk l3 a) (nZ 25,0)=some (Yd a n,p):=
 ⟨_,bq (fun k=>(Yd a k,((136*k:Nat):Int))) n (fun k d=>by
   have c:=T6 a k
   have b:=a2i (t:=CA ((a.drop (136*k)).take 136)) c
   simp only [pk]
   rw [brd om,ai _ om om,kx om om om,obs]
   have e1:(List.drop (((136*k:Nat):Int)).toNat a).take (((((136*k:Nat):Int))+136).toNat-(((136*k:Nat):Int)).toNat)=(a.drop (136*k)).take 136:=by
    congr 1
    omega
   rw [e1,a2q (by rw [aD];omega),obs,brd (G2 _).1,b39 (G2 _).1 c.1,obs,brd b.1,Yh b,obs,G1 (WO b).1 b.1,Rs]
   have e2:(((136*k:Nat):Int))+136=((136*(k+1):Nat):Int):=by omega
   rw [e2]) (by
   simp only [pk]
   rw [brn om])⟩
def L5 (l:List UInt8):List UInt8:=l++List.replicate ((136-l.length%136)%136) 0
theorem Th (l:List UInt8):(L5 l).length=136*((l.length+135)/136):=by
 rw [L5,a8,aL];omega
theorem a0G {α:Type} (n:Nat) (x:α):List.replicate (n+1) x=List.replicate n x++[x]:=by
 rw [List.replicate_succ']
theorem b0D {c l:List UInt8} (h:l.length<=1000000000):Loop (oR c) l=some (L5 l,false):=by
 have key:=bq (step:=oR c) (e:=(L5 l,false)) (fun k=>l++List.replicate k 0) ((136-l.length%136)%136) (fun k a=>by
  simp only [oR]
  rw [dv _ _ om,brb (by rw [a8,aL];omega),aS (by simp only [a8,aL,ab,ah];omega),a0G,aP]) (by
  simp only [oR]
  have e:((((l++List.replicate ((136-l.length%136)%136) (0:UInt8)).length:Nat):Int).tmod 136)=0:=by
   rw [dv _ _ om,a8,aL];omega
  rw [e,m9 rfl];rfl)
 rwa [ut,bM] at key
theorem b1B {c l:List UInt8} (h:l.length<=1000000000):Loop (mY c) l=some (L5 l,false):=by
 have key:=bq (step:=mY c) (e:=(L5 l,false)) (fun k=>l++List.replicate k 0) ((136-l.length%136)%136) (fun k a=>by
  simp only [mY]
  rw [dv _ _ om,brb (by rw [a8,aL];omega),aS (by simp only [a8,aL,ab,ah];omega),a0G,aP]) (by
  simp only [mY]
  have e:((((l++List.replicate ((136-l.length%136)%136) (0:UInt8)).length:Nat):Int).tmod 136)=0:=by
   rw [dv _ _ om,a8,aL];omega
  rw [e,m9 rfl];rfl)
 rwa [ut,bM] at key
def QX (b:List UInt8):List UInt8:=(L5 (b++[1])).set ((L5 (b++[1])).length-1) (UInt8.ofInt (Cp .u8 (((L5 (b++[1])).getD ((L5 (b++[1])).length-1) 0).toNat:Int) 128))
def H (b:List UInt8):List UInt8:=A9 (Yd (QX b) ((b.length+136)/136)) 32
theorem Fk (b:List UInt8):(H b).length=32:=HN _ _
theorem a0K (b:List UInt8):(QX b).length=136*((b.length+136)/136):=by
 rw [QX,aO,Th,a8,ag]
theorem b4u {β:Type} {l:List UInt8} {i:Nat} {f:UInt8->Option β} (h:i<l.length):(l[i]?).bind f=f (l.getD i 0):=by simp [h]
theorem a2Z (m:List Int):(A9 m 200).take 32=A9 m 32:=by
 rw [A9, <-List.map_take,List.take_range];rfl
theorem NR {b:List UInt8} (h:b.length<=100000000):wq b=some (H b):=by
 unfold wq
 have e:=Th (b++[1])
 rw [a8,ag] at e
 have a:=a0K b
 rw [aS om,aS (by rw [a8,ag];omega),b1B (by rw [a8,ag];omega),obs]
 dsimp only
 rw [ai _ om om]
 have ei:(((L5 (b++[1])).length:Int)-1).toNat=(L5 (b++[1])).length-1:=by omega
 rw [ei]
 simp (disch:=omega) only [brd,b4u]
 obtain ⟨p,c⟩:=b00 (l3:=[1]) a om
 unfold QX at c
 rw [c,obs]
 dsimp only
 have ok:=T6 (QX b) ((b.length+136)/136)
 unfold QX at ok
 rw [brd ok.1]
 have d:=a88 (n:=32) ok.1 om
 rw [show ((32:Nat):Int)=32 from rfl] at d
 rw [d,obs,H,QX]
theorem a1r {l:List (List UInt8)} (h:l.flatten.length<=1000000000) (hn:l.length<=1000000):Loop (su l (l.length:Int)) ([],0)=some (l.flatten,(l.length:Int),false):=
 bq (fun k=>((l.take k).flatten,(k:Int))) l.length (fun k a=>by
  simp only [su]
  have b:((l.take k).flatten++l[k]).length<=l.flatten.length:=by
   have e:l.flatten=(l.take (k+1)).flatten++(l.drop (k+1)).flatten:=by rw [<-uI,j0]
   rw [cA a,uI,List.flatten_singleton] at e
   have e2:=congrArg List.length e
   simp only [a8] at e2 ⊢
   omega
  rw [brd om,cJ a,obs,aS om,ai _ om om,cA a,uI,List.flatten_singleton]
  rfl) (by
  simp only [su]
  rw [brn om,bw];simp)
theorem xM {l:List (List UInt8)} (h:l.flatten.length<=100000000) (hn:l.length<=1000000):uQ l=some (H l.flatten):=by
 unfold uQ
 rw [a1r om hn,obs]
 dsimp only
 generalize l.flatten=b at h
 have d:=Th (b++[1])
 rw [a8,ag] at d
 have a:=a0K b
 rw [aS (by rw [a8,ag];omega),b0D (by rw [a8,ag];omega),obs]
 dsimp only
 rw [ai _ om om]
 have ei:(((L5 (b++[1])).length:Int)-1).toNat=(L5 (b++[1])).length-1:=by omega
 rw [ei]
 simp (disch:=omega) only [brd,b4u]
 have c:=a9J (l4:=[1]) a om
 unfold QX at c
 rw [c,obs]
 dsimp only
 have ok:=T6 (QX b) ((b.length+136)/136)
 unfold QX at ok
 rw [a7O ok.1,obs,kx om om (by rw [HN];omega),obs,H,QX, <-a2Z]
 rfl
theorem xL {t:List UInt8} (h:t.length<=100000000):v6 t=some (H t):=by
 unfold v6
 rw [aS om,xM (by simpa using h) sm]
 simp
end Go.AI.Fn
namespace Go.AI.Fn
theorem a4D {a:List UInt8} {i n:Int} (s:a.length<=1048576) (d:0<=i) (e:i<=1099511627776) (hn:1<n): ∃x,Ue a i n=some x/\0<=x/\x<n:=by
 unfold Ue
 rw [brn om]
 by_cases c:(a.length:Int)=0
 ·rw [bre c,brd om,ai _ om om,dv _ _ om]
  exact ⟨_,rfl,dD _ om,cW _ om⟩
 ·rw [cn c,brd c,dv _ _ d]
  have f:=dD i c
  have h:=cW i (b:=(a.length:Int)) om
  obtain ⟨x,j,_,_⟩:=XX (l:=a) f h
  have k:=dD (i+1) c
  have m:=cW (i+1) (b:=(a.length:Int)) om
  obtain ⟨y,o,_,_⟩:=XX (l:=a) k m
  have bx:=AR x
  have bz:=AR y
  have p:0<=i/(a.length:Int):=Int.ediv_nonneg d om
  have r:i/(a.length:Int)<=i:=Int.ediv_le_self _ d
  rw [j]
  simp only [obs]
  rw [brd c,ai (i+1) om om,dv _ _ om,o]
  simp only [obs]
  rw [brd c,brd om,qr _ _ d]
  generalize i/(a.length:Int)=q at p r ⊢
  rw [ai q om om,ai (x.toNat:Int) om om,ai (y.toNat:Int) om om,ai ((x.toNat:Int)*31) om om,ai ((x.toNat:Int)*31+(y.toNat:Int)) om om,ai _ om om,dv _ _ om]
  exact ⟨_,rfl,dD _ om,cW _ om⟩
def lG (n:Int):List UInt8:=[UInt8.ofInt (cc .i64 n 24),UInt8.ofInt (cc .i64 n 16),UInt8.ofInt (cc .i64 n 8),UInt8.ofInt n]
def e8 (x:Ext):List UInt8:=lG x.A++lG x.B
theorem gc (n:Int):(lG n).length=4:=rfl
theorem c39 (x:Ext):(e8 x).length=8:=rfl
theorem qV {n:Int} {l:List UInt8} (h:l.length<=1099511627770):mr n l=some (l++lG n):=by
 unfold mr
 rw [IX (PQ (by simp only [a8,ab,ah];omega))];rfl
theorem c6W (n:Int):cc .i64 n 0=n:=by simp [cc]
theorem a69 (n:Int):ux n 4=some (lG n):=by
 unfold ux
 rw [show IntKind.wrap .i64 (4-1)=3 by decide,
  dt (s':=([UInt8.ofInt (cc .i64 n 24)],2)) (by kernel_rfl),
  dt (s':=([UInt8.ofInt (cc .i64 n 24),UInt8.ofInt (cc .i64 n 16)],1)) (by kernel_rfl),
  dt (s':=([UInt8.ofInt (cc .i64 n 24),UInt8.ofInt (cc .i64 n 16),UInt8.ofInt (cc .i64 n 8)],0)) (by kernel_rfl),
  dt (s':=([UInt8.ofInt (cc .i64 n 24),UInt8.ofInt (cc .i64 n 16),UInt8.ofInt (cc .i64 n 8),UInt8.ofInt (cc .i64 n 0)], -1)) (by kernel_rfl),
  dx (e:=([UInt8.ofInt (cc .i64 n 24),UInt8.ofInt (cc .i64 n 16),UInt8.ofInt (cc .i64 n 8),UInt8.ofInt (cc .i64 n 0)], -1,false)) (by kernel_rfl),c6W]
 rfl
theorem ij {l:List Ext} (j:l.length<=4194304):iw l=some (l.flatMap e8):=by
 unfold iw
 have key:=rg (step:=nH l (l.length:Int))
  (fun s=>0<=s.2/\s.2<=l.length/\(s.1.length:Int)=8*s.2/\s.1++(l.drop s.2.toNat).flatMap e8=l.flatMap e8) (fun s=>(l.length-s.2).toNat)
  (fun e=>e.1=l.flatMap e8) ?_ ([],0) ⟨by first|omega| (dsimp only;omega),by first|omega| (dsimp only;omega),by simp,rfl⟩
 ·obtain ⟨e,b,h⟩:=key
  rw [b];simp only [obs,h]
 ·rintro ⟨o,t⟩ ⟨h0,d,f,a⟩
  dsimp only at h0 d a f
  by_cases c:t<(l.length:Int)
  ·left
   obtain ⟨x,r,e1,e2,k⟩:=N9 (l:=l) (i:=t.toNat) om
   simp only [nH]
   rw [brd c,b3G h0 e1]
   simp only [obs]
   rw [qV om]
   simp only [obs]
   rw [qV (by simp only [a8,gc];omega),ai (t+1) om om]
   refine ⟨_,rfl,⟨by first|omega| (dsimp only;omega),by first|omega| (dsimp only;omega), ?_, ?_⟩,by first|omega| (dsimp only;omega)⟩
   ·simp only [a8,gc];omega
   ·dsimp only
    rw [show (t+1).toNat=t.toNat+1 by omega,e2]
    rw [e1,dA] at a
    simpa [e8] using a
  ·right
   simp only [nH]
   rw [brn c]
   refine ⟨_,rfl, ?_⟩
   rw [iu om] at a
   simpa using a
end Go.AI.Fn
namespace Go.AI.Fn
def be (w x y z:UInt8):Int:=(((w.toNat:Int)*256+x.toNat)*256+y.toNat)*256+z.toNat
def dec:List UInt8->List Ext
 |a::b::c::d::e::f::g::h::r=>⟨be a b c d,be e f g h⟩::dec r
 |_=>[]
theorem Vi {l:List UInt8} (h:l.length<8):dec l=[]:=by
 match l,h with
 |[],_=>rfl
 |[_],_=>rfl
 |[_,_],_=>rfl
 |[_,_,_],_=>rfl
 |[_,_,_,_],_=>rfl
 |[_,_,_,_,_],_=>rfl
 |[_,_,_,_,_,_],_=>rfl
 |[_,_,_,_,_,_,_],_=>rfl
 |_::_::_::_::_::_::_::_::r,h=>simp at h;omega
theorem c5o {l:List UInt8} (h:8<=l.length): ∃a b c d e f g k r,l=a::b::c::d::e::f::g::k::r:=by
 match l,h with
 |a::b::c::d::e::f::g::k::r,_=>exact ⟨a,b,c,d,e,f,g,k,r,rfl⟩
theorem b6F (l:List UInt8):(dec l).length=l.length/8:=by
 generalize hn:l.length=n
 induction n using Nat.strongRecOn generalizing l with
 |_ n ih=>
  by_cases h:l.length<8
  ·rw [Vi h,ah];omega
  ·obtain ⟨a,b,c,d,e,f,g,k,r,rfl⟩:=c5o (l:=l) om
   simp only [ab] at hn
   simp only [dec,ab,ih r.length om r rfl];omega
theorem b9A {n:Int} (x:UInt8) (h0:0<=n) (c:n<16777216):Cp .i64 (ct .i64 n 8) (IntKind.wrap .i64 (x.toNat:Int))=n*256+x.toNat:=by
 have d:=AR x
 have e1:ct .i64 n 8=n*256:=by
  have:n*2^(min (8:Int).toNat (IntKind.bits .i64))=n*256:=by
   have:(2:Int)^(min (8:Int).toNat (IntKind.bits .i64))=256:=by decide
   rw [this]
  unfold ct
  rw [this,ai _ om om]
 rw [e1,ai (x.toNat:Int) om om]
 unfold Cp
 obtain ⟨m,rfl⟩:=pQ h0
 have e2:(BitVec.ofInt (IntKind.bits .i64) ((m:Int)*256)|||BitVec.ofInt (IntKind.bits .i64) (x.toNat:Int)).toNat=m*256+x.toNat:=by
  rw [BitVec.toNat_or,ix,ix]
  have a:(((m:Int)*256)%((2^(IntKind.bits .i64):Nat):Int)).toNat=m<<<8:=by
   rw [show ((2^(IntKind.bits .i64):Nat):Int)=18446744073709551616 by decide,ru];omega
  have b:((x.toNat:Int)%((2^(IntKind.bits .i64):Nat):Int)).toNat=x.toNat:=by
   rw [show ((2^(IntKind.bits .i64):Nat):Int)=18446744073709551616 by decide];omega
  rw [a,b, <-Nat.shiftLeft_add_eq_or_of_lt (show x.toNat<2^8 by omega),ru]
 rw [e2,ai _ om om]
 omega
theorem G5 (w x y z:UInt8):v8 [w,x,y,z]=some (be w x y z):=by
 have f:=AR w
 have h:=AR x
 have i:=AR y
 have j:=AR z
 unfold v8
 have st: ∀(n t:Int) (b:UInt8),0<=n->n<16777216->0<=t->t<4->[w,x,y,z][t.toNat]? =some b->rO [w,x,y,z] (([w,x,y,z].length:Nat):Int) (n,t)=some (.inl (n*256+b.toNat,t+1)):=by
  intro n t b h0 a c k d
  simp only [rO]
  rw [brd (by simp only [ab,ah];omega),show atL [w,x,y,z] t=some b by simp [atL,c,d]]
  simp only [obs]
  rw [b9A b h0 a,ai (t+1) om om]
 rw [dt (st 0 0 w om om om om rfl),dt (st _ _ x om om om om rfl),dt (st _ _ y om om om om rfl),dt (st _ _ z om om om om rfl)]
 rw [dx (e:=(be w x y z,4,false)) ?_]
 ·rfl
 ·simp only [rO]
  rw [brn (by simp only [ab,ah];omega)]
  simp [be]
theorem Ui {b:List UInt8} (n:b.length<=8388608):B3 b=some (dec b,decide (b.length%8=0)&&(dec b).all vX):=by
 unfold B3
 have key:=rg (step:=re b)
  (fun s=>0<=s.2/\s.2<=b.length/\(s.1.length:Int)*8=s.2/\s.1++dec (b.drop s.2.toNat)=dec b) (fun s=>(b.length-s.2).toNat)
  (fun e=>e.1=dec b) ?_ ([],0) ⟨by first|omega| (dsimp only;omega),by first|omega| (dsimp only;omega),by simp,rfl⟩
 ·obtain ⟨e,f,h⟩:=key
  rw [f]
  simp only [obs,h]
  rw [dv _ _ om]
  by_cases c:b.length%8=0
  ·rw [bre om,Df (by rw [b6F];omega)]
   simp [c]
  ·rw [cn om]
   simp [c]
 ·rintro ⟨l,i⟩ ⟨h0,j,k,a⟩
  dsimp only at h0 j a k
  simp only [re]
  rw [ai (i+8) om om]
  by_cases c:i+8<=(b.length:Int)
  ·left
   obtain ⟨p,q,r,s,t,u,v,w,z,d⟩:=c5o (l:=b.drop i.toNat) (by rw [bP];omega)
   rw [brd c,ai (i+4) om om,kx h0 om om,kx om om om]
   have e1:(b.drop i.toNat).take ((i+4).toNat-i.toNat)=[p,q,r,s]:=by rw [d,show (i+4).toNat-i.toNat=4 by omega];rfl
   have e2:(b.drop (i+4).toNat).take ((i+8).toNat-(i+4).toNat)=[t,u,v,w]:=by
    rw [show (i+4).toNat=i.toNat+4 by omega, <-lh,d,show (i+8).toNat-(i.toNat+4)=4 by omega];rfl
   have m:b.drop (i+8).toNat=z:=by rw [show (i+8).toNat=i.toNat+8 by omega, <-lh,d];rfl
   rw [e1,e2]
   simp only [obs,G5]
   rw [IX (PQ (by simp only [a8,ab,ah];omega))]
   refine ⟨_,rfl,⟨by first|omega| (dsimp only;omega),by first|omega| (dsimp only;omega), ?_, ?_⟩,by first|omega| (dsimp only;omega)⟩
   ·simp only [a8,ab,ah];omega
   ·dsimp only
    rw [m, <-a,d]
    simp [dec]
  ·right
   rw [brn c]
   refine ⟨_,rfl, ?_⟩
   rw [Vi (by rw [bP];omega)] at a
   simpa using a
theorem XY (n:Int) (k:Nat) (a:k<=64) (h0:0<=n):cc .i64 n (k:Int)=n/2^k:=by
 unfold cc
 have:min ((k:Int).toNat) (IntKind.bits .i64)=k:=by simp [IntKind.bits];omega
 rw [this,nF _ (by exact Int.pow_nonneg dcd)]
theorem C9 (n:Int):((UInt8.ofInt n).toNat:Int)=n%256:=by
 rw [tk];simp [IntKind.wrap,IntKind.bits,IntKind.signed]
theorem X9 {n:Int} (h:okF n):be (UInt8.ofInt (cc .i64 n 24)) (UInt8.ofInt (cc .i64 n 16)) (UInt8.ofInt (cc .i64 n 8)) (UInt8.ofInt n)=n:=by
 obtain ⟨h0,b⟩:=h
 have e1:cc .i64 n 24=n/16777216:=XY n 24 om h0
 have e2:cc .i64 n 16=n/65536:=XY n 16 om h0
 have a:cc .i64 n 8=n/256:=XY n 8 om h0
 rw [e1,e2,a]
 unfold be
 rw [C9,C9,C9,C9]
 omega
theorem c1L {l:List Ext} (h: ∀x∈l,okE x):dec (l.flatMap e8)=l:=by
 induction l with
 |nil=>rfl
 |cons x l ih=>
  have a:=h x (List.mem_cons_self ..)
  rw [dA,e8]
  show (⟨be _ _ _ _,be _ _ _ _⟩:Ext)::dec (l.flatMap e8)=x::l
  rw [X9 a.1,X9 a.2,ih fun y b=>h y (List.mem_cons_of_mem _ b)]
end Go.AI.Fn
namespace Go.AI.Fn
def b5e:List UInt8:=[97,98,115,111,114,98]
def Yi:List UInt8:=[100,114,97,119]
def a2D:List UInt8:=[103,114,105,110,100]
def b6a:List UInt8:=[115,111,117,114,99,101]
def a8e (s:Source):Bool:=decide (s.Script.length<=64)&&(s.Script.all vX&&(decide (s.State.length=32)&&((decide (0<=s.At)&&decide (s.At<=1000000))&&(decide (0<=s.Count)&&decide (s.Count<=1000000)))))
structure F3 (s:Source):Prop where
 len:s.Script.length<=64
 scr:j7 s.Script
 st:s.State.length=32
 a0:0<=s.At
 a1:s.At<=1000000
 c0:0<=s.Count
 c1:s.Count<=1000000
theorem Tj {s:Source}:a8e s=true↔F3 s:=by
 unfold a8e
 simp only [aB,aA,a0E]
 exact ⟨fun ⟨a,b,c,⟨d,e⟩,f,i⟩=>⟨a,b,c,d,e,f,i⟩,fun h=>⟨h.1,h.2,h.3,⟨h.4,h.5⟩,h.6,h.7⟩⟩
theorem BB (h:List UInt8):yt h=some (decide (h.length=32)):=by
 unfold yt
 congr 1
 by_cases c:h.length=32
 ·rw [aj c,c];rfl
 ·rw [ae c];simp;omega
theorem Ir {s:Source} (b:s.Script.length<=1099511627776):uc s=some (a8e s):=by
 unfold uc a8e
 rw [Df b]
 by_cases a:s.Script.length<=64
 ·rw [brd om,aj a,obs,BB,HQ,HQ]
  cases s.Script.all vX
  ·rfl
  ·simp only [dj,obs,bm]
   cases decide (s.State.length=32)
   ·rfl
   ·simp only [dj,bm]
    cases (decide (0<=s.At)&&decide (s.At<=1000000))<;>rfl
 ·rw [brn om,ae a];rfl
theorem De (n:Int):Ea n=some (lG n):=by
 unfold Ea;rw [aS (by simp only [ab,ah];omega)];rfl
theorem c5G {l:List UInt8} (h:4<=l.length):l.take 4=[l.getD 0 0,l.getD 1 0,l.getD 2 0,l.getD 3 0]:=by
 match l,h with
 |a::b::c::d::r,_=>rfl
theorem a9F {n:Int} {k:Nat} (a:k<=64) (h0:0<=n):(cc .i64 n (k:Int)==0)=decide (n<2^k):=by
 rw [XY n k a h0]
 have b:(0:Int)<2^k:=Int.pow_pos dcd
 by_cases h:n<2^k
 ·rw [aj h,Int.ediv_eq_zero_of_lt h0 h];rfl
 ·rw [ae h]
  have:1<=n/2^k:=(Int.le_ediv_iff_mul_le b).2 om
  simp;omega
def tA (st:List UInt8) (bits:Nat) (nonce:Int):Bool:=decide (((H (st++(a2D++lG nonce))).getD 0 0).toNat*256+((H (st++(a2D++lG nonce))).getD 1 0).toNat<2^(16-bits))
theorem c6u: ∀b:Nat,b<=12->(2:Int)^(32-b)=65536*((2^(16-b):Nat):Int)/\(2:Int)^(16-b)=((2^(16-b):Nat):Int):=by decide
theorem MS {s:Source} {bits:Nat} {nonce:Int} (i:s.State.length=32) (c:bits<=12):pp s bits nonce=some (tA s.State bits nonce):=by
 unfold pp
 have b:[s.State,[103,114,105,110,100],lG nonce].flatten=s.State++(a2D++lG nonce):=by simp [a2D]
 have j:(lG nonce).length=4:=gc nonce
 have k:a2D.length=5:=rfl
 rw [aS om,De,obs,xM (by rw [b];simp only [a8];omega) sm,obs,b]
 have d:=Fk (s.State++(a2D++lG nonce))
 unfold tA
 generalize H (s.State++(a2D++lG nonce))=h at d
 rw [aS om,kx om om om,obs]
 have e:(h.drop (Int.toNat 0)).take (Int.toNat 4-Int.toNat 0)=[h.getD 0 0,h.getD 1 0,h.getD 2 0,h.getD 3 0]:=by
  show h.take 4=_
  exact c5G om
 rw [e,G5,obs,ai _ om om,brd om,show (32:Int)-(bits:Int)=((32-bits:Nat):Int) by omega]
 have l:=AR (h.getD 0 0)
 have m:=AR (h.getD 1 0)
 have n:=AR (h.getD 2 0)
 have o:=AR (h.getD 3 0)
 obtain ⟨f,p⟩:=c6u bits c
 rw [a9F om (by unfold be;omega),f]
 congr 1
 have a:be (h.getD 0 0) (h.getD 1 0) (h.getD 2 0) (h.getD 3 0)<65536*((2^(16-bits):Nat):Int)↔(h.getD 0 0).toNat*256+(h.getD 1 0).toNat<2^(16-bits):=by
  unfold be;omega
 exact decide_eq_decide.2 a
theorem b5x (st:List UInt8) (bits:Nat):(∃n:Nat,n<65536/\tA st bits n=true/\ ∀j:Nat,j<n->tA st bits j=false)\/ ∀n:Nat,n<65536->tA st bits n=false:=by
 rcases NH (fun k=> !tA st bits (k:Int)) 65536 with h|⟨k,a,b,c⟩
 ·exact .inr fun n hn=>by simpa using h n hn
 ·exact .inl ⟨k,a,by simpa using b,fun j d=>by simpa using c j d⟩
open Classical in
noncomputable def vA (st:List UInt8) (bits:Nat):Option Nat:=if h: ∃n:Nat,n<65536/\tA st bits n=true/\ ∀j:Nat,j<n->tA st bits j=false then some h.choose else none
theorem Rx {st:List UInt8} {bits n:Nat} (h:n<65536) (e:tA st bits n=true) (f: ∀j:Nat,j<n->tA st bits j=false):vA st bits=some n:=by
 have a: ∃n:Nat,n<65536/\tA st bits n=true/\ ∀j:Nat,j<n->tA st bits j=false:=⟨n,h,e,f⟩
 unfold vA
 rw [dif_pos a]
 obtain ⟨l,i,k⟩:=a.choose_spec
 congr 1
 rcases Nat.lt_trichotomy a.choose n with b|c|d
 ·have:=f _ b;rw [i] at this;cases this
 ·exact c
 ·have:=k _ d;rw [e] at this;cases this
theorem Qr {st:List UInt8} {bits:Nat} (h: ∀n:Nat,n<65536->tA st bits n=false):vA st bits=none:=by
 unfold vA
 rw [dif_neg]
 rintro ⟨n,hn,a,_⟩
 rw [h n hn] at a;cases a
theorem Ro {st:List UInt8} {bits n:Nat} (h:vA st bits=some n):n<65536/\tA st bits n=true/\ ∀j:Nat,j<n->tA st bits j=false:=by
 rcases b5x st bits with ⟨m,a,b,c⟩|a
 ·rw [Rx a b c] at h;cases h;exact ⟨a,b,c⟩
 ·rw [Qr a] at h;cases h
theorem a4a {s:Source} {bits:Nat} (h:s.State.length=32) (i:bits<=12):qN s bits=some (match vA s.State bits with|some n=>(n:Int)|none=> -1):=by
 unfold qN
 have key:=Ay (step:=eQ bits s.Script s.At s.State s.Count) (fun k=>(k:Int)) 65536 (fun k=> !tA s.State bits (k:Int)) (fun k=> .inl (k:Int)) (e:= .inr (65536,false)) (fun k a b=>by
  have c:tA s.State bits (k:Int)=false:=by simpa using b
  simp only [eQ]
  rw [brd om,MS (by exact h) i,obs,c,bu,ai _ om om];rfl)
  (fun k a b=>by
   have c:tA s.State bits (k:Int)=true:=by simpa using b
   simp only [eQ]
   rw [brd om,MS (by exact h) i,obs,c,dj])
  (by simp only [eQ];rw [brn dcd];rfl)
 rcases key with ⟨d,f⟩|⟨k,a,d,l,f⟩
 ·have e:Loop (eQ bits s.Script s.At s.State s.Count) 0=some (.inr (65536,false)):=f
  rw [e,Qr fun n hn=>by simpa using d n hn];rfl
 ·have e:Loop (eQ bits s.Script s.At s.State s.Count) 0=some (.inl (k:Int)):=f
  rw [e,Rx a (by simpa using d) fun j m=>by simpa using l j m];rfl
end Go.AI.Fn
