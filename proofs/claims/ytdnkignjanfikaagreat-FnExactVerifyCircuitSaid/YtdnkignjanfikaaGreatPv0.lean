/- Part. -/
import Derived.Test.YtdnkignjanfikaaGreatFx3
import Derived.KernelRfl
set_option linter.unusedVariables false
namespace Go.AI
theorem cf {S E:Type} {step:S->Option (S⊕E)} {s s':S} (h:step s=some (.inl s')):Loop step s=Loop step s':=by rw [Hj,h];rfl
theorem bX {S E:Type} {step:S->Option (S⊕E)} {s:S} {e:E} (h:step s=some (.inr e)):Loop step s=some e:=by rw [Hj,h];rfl
theorem bu {S E:Type} {step:S->Option (S⊕E)} (F:Nat->S) (n:Nat) {e:E} (a: ∀k,k<n->step (F k)=some (.inl (F (k+1)))) (b:step (F n)=some (.inr e)):Loop step (F 0)=some e:=by
 have key: ∀m k,k+m=n->Loop step (F k)=some e:=by
  intro m
  induction m with
  |zero=>intro k c;have:k=n:=by omega
         subst this;exact bX b
  |succ m ih=>intro k c;rw [cf (a k om)];exact ih (k+1) om
 exact key n 0 om
theorem VF (P:Nat->Bool): ∀n,(∀k,k<n->P k=true)\/ ∃k,k<n/\P k=false/\ ∀j,j<k->P j=true
 |0=> .inl om
 |n+1=>by
  rcases VF P n with h|⟨k,hk,h1,h2⟩
  ·cases hn:P n
   ·exact .inr ⟨n,by omega,hn,h⟩
   ·refine .inl fun k hk=> ?_
    by_cases e:k=n
    ·subst e;exact hn
    ·exact h k om
  ·exact .inr ⟨k,by omega,h1,h2⟩
theorem Bx {S E:Type} {step:S->Option (S⊕E)} (F:Nat->S) (n:Nat) (P:Nat->Bool) (x:Nat->E) {e:E} (b: ∀k,k<n->P k=true->step (F k)=some (.inl (F (k+1))))
 (f: ∀k,k<n->P k=false->step (F k)=some (.inr (x k))) (i:step (F n)=some (.inr e)):
 ((∀k,k<n->P k=true)/\Loop step (F 0)=some e)\/ ∃k,k<n/\P k=false/\(∀j,j<k->P j=true)/\Loop step (F 0)=some (x k):=by
 rcases VF P n with h|⟨k,a,c,d⟩
 ·exact .inl ⟨h,bu F n (fun k a=>b k a (h k a)) i⟩
 ·exact .inr ⟨k,a,c,d,bu F k (fun j l=>b j om (d j l)) (f k a c)⟩
theorem pz {S E:Type} {step:S->Option (S⊕E)} (Inv:S->Prop) (me:S->Nat) (Post:E->Prop)
 (c: ∀s,Inv s->(∃s',step s=some (.inl s')/\Inv s'/\me s'<me s)\/(∃e,step s=some (.inr e)/\Post e)):
 ∀s,Inv s-> ∃e,Loop step s=some e/\Post e:=by
 intro s
 generalize d:me s=m
 induction m using Nat.strongRecOn generalizing s with
 |_ m ih=>
  intro hi
  rw [Hj]
  rcases c s hi with ⟨s',a,b,f⟩|⟨e,a,b⟩
  ·rw [a];exact ih (me s') om s' rfl b
  ·rw [a];exact ⟨e,rfl,b⟩
theorem G7 {α:Type} {c:Bool} {x y:α} (h:c=true):br c x y=x:=by subst h;rfl
theorem QX {α:Type} {c:Bool} {x y:α} (h:c=false):br c x y=y:=by subst h;rfl
theorem brd {α:Type} {p:Prop} [Decidable p] {x y:α} (h:p):br (decide p) x y=x:=G7 (al h)
theorem brn {α:Type} {p:Prop} [Decidable p] {x y:α} (h: ¬p):br (decide p) x y=y:=QX (ag h)
theorem FU {α:Type} {p q:Prop} [Decidable p] [Decidable q] {x y:α} (h:p) (g:q):br (decide p&&decide q) x y=x:=G7 (by simp [h,g])
theorem bre {α:Type} {a b:Int} {x y:α} (h:a=b):br (a==b) x y=x:=G7 (by simp [h])
theorem kO {α:Type} {a b:Int} {x y:α} (h:a≠b):br (a==b) x y=y:=QX (by simp [h])
theorem brb {α:Type} {a b:Int} {x y:α} (h:a≠b):br (a !=b) x y=x:=G7 (by simp [h])
theorem fk {α:Type} {a b:Int} {x y:α} (h:a=b):br (a !=b) x y=y:=QX (by simp [h])
theorem Z0 {α:Type} {p:Prop} [Decidable p] {x y:α} (h:p):br (!decide p) x y=y:=QX (by simp [h])
theorem WV {α:Type} {p:Prop} [Decidable p] {x y:α} (h: ¬p):br (!decide p) x y=x:=G7 (by simp [h])
theorem ej (a b:Int) (h:0<=a):a.tmod b=a%b:=Int.tmod_eq_emod_of_nonneg h
theorem qf (a b:Int) (h:0<=a):a.tdiv b=a/b:=Int.tdiv_eq_ediv_of_nonneg h
theorem zV (x:UInt8):(x.toNat:Int)<256:=by have:=x.toNat_lt;omega
theorem Pb {n b:Nat} (h:n*b<=1099511627776):cP n b=true:=by simp [cP,cX,h]
theorem bt {α:Type} {n b:Nat} {x y:α} (h:n*b<=1099511627776):br (cP n b) x y=x:=G7 (Pb h)
theorem c0l {l c:Int} {b:Nat} (h0:0<=l) (a:l<=c) (d:c*b<=1099511627776):zf l c b=true:=by simp [zf,cX,h0,a,d]
theorem EI {α:Type} {l c:Int} {b:Nat} {x y:α} (h0:0<=l) (a:l<=c) (d:c*b<=1099511627776):br (zf l c b) x y=x:=G7 (c0l h0 a d)
theorem GP {α:Type} {l:List α} {i:Int} (h0:0<=i) {x:α} (h:l[i.toNat]? =some x):atL l i=some x:=by simp [atL,h0,h]
theorem ck {α:Type} {l:List α} {k:Nat} (h:k<l.length):atL l (k:Int)=some l[k]:=by simp [atL,h]
theorem i5 {β:Type} {l:List Int} {i:Nat} {f:Int->Option β} (h:i<l.length):(l[i]?).bind f=f (l.getD i 0):=by simp [h]
theorem vD {α:Type} {l:List α} {i:Nat} (h:i<l.length):l[i]? =some l[i]:=aq h
theorem c6d {α:Type} {l:List α} {i:Int} (h0:0<=i) (a:i<l.length): ∃x,atL l i=some x/\l[i.toNat]? =some x/\x∈l:=by
 have h:i.toNat<l.length:=by omega
 exact ⟨l[i.toNat],by simp [atL,h0,h],by simp [h],aZ h⟩
theorem ou {α:Type} {l:List α} {i:Nat} (h:i<l.length): ∃x r,l.drop i=x::r/\l.drop (i+1)=r/\l[i]? =some x:=
 ⟨l[i],l.drop (i+1),List.drop_eq_getElem_cons h,rfl,by simp [h]⟩
theorem a0a {α:Type} {l r:List α} {x:α} {i:Int} (h0:0<=i) (h:l.drop i.toNat=x::r):atL l i=some x:=by
 have:l[i.toNat]? =some x:=by rw [<-List.head?_drop,h];rfl
 simp [atL,h0,this]
theorem ma {α:Type} {l:List α} {a b:Int} (h0:0<=a) (c:a<=b) (d:b<=l.length):lr l a b=some ((l.drop a.toNat).take (b.toNat-a.toNat)):=by
 simp [lr,h0,c,d,List.drop_take]
theorem db {α:Type} {l:List α} {k:Nat} (h:k<l.length):l.take (k+1)=l.take k++[l[k]]:=by rw [List.take_succ_eq_append_getElem h]
theorem l5 (k:Nat):((k+1:Nat):Int)=(k:Int)+1:=by omega
theorem pk (n:Nat):(nZ n).length=n:=by simp [nZ]
def iU {α:Type} (f:Nat->α->α):Nat->α->α
 |0,l=>l
 |k+1,l=>f k (iU f k l)
theorem wg {f:Nat->List Int->List Int} (a: ∀k l,(f k l).length=l.length): ∀(k:Nat) (l:List Int),(iU f k l).length=l.length
 |0,l=>rfl
 |k+1,l=>by rw [iU,a,wg a k l]
end Go.AI
set_option linter.unusedSimpArgs false
namespace Go.AI.Fn
def okF (a:Int):Prop:=0<=a/\a<=2130706432
def okE (x:Ext):Prop:=okF x.A/\okF x.B
def Gw (a:Int):Bool:=decide (0<=a)&&decide (a<=2130706432)
def n0 (x:Ext):Bool:=Gw x.A&&Gw x.B
theorem Kr {a:Int}:Gw a=true↔okF a:=by simp [Gw,okF]
theorem Ka {x:Ext}:n0 x=true↔okE x:=by simp [n0,okE,Kr]
def aF (a b:Int):Int:=(a+b)%2130706433
def sF (a b:Int):Int:=(a-b)%2130706433
def mF (a b:Int):Int:=(a*b)%2130706433
def eA (x y:Ext):Ext:=⟨(x.A+y.A)%2130706433,(x.B+y.B)%2130706433⟩
def eS (x y:Ext):Ext:=⟨(x.A-y.A)%2130706433,(x.B-y.B)%2130706433⟩
def eM (x y:Ext):Ext:=⟨(x.A*y.A+3*(x.B*y.B))%2130706433,(x.A*y.B+x.B*y.A)%2130706433⟩
def eC (x:Ext) (n:Int):Ext:=⟨(x.A*n)%2130706433,(x.B*n)%2130706433⟩
def e0:Ext:=⟨0,0⟩
def e1:Ext:=⟨1,0⟩
def eN (n:Int):Ext:=⟨n,0⟩
theorem c1I:okF 3:=⟨by decide,by decide⟩
theorem c0U:okF 1:=⟨by decide,by decide⟩
theorem c4E:okF 0:=⟨by decide,by decide⟩
theorem kV (a:Int):okF (a%2130706433):=⟨by omega,by omega⟩
theorem c2h (a b:Int):okF (aF a b):=kV _
theorem c2g (a b:Int):okF (sF a b):=kV _
theorem py (a b:Int):okF (mF a b):=kV _
theorem VE (x y:Ext):okE (eA x y):=⟨kV _,kV _⟩
theorem zd (x y:Ext):okE (eS x y):=⟨kV _,kV _⟩
theorem rm (x y:Ext):okE (eM x y):=⟨kV _,kV _⟩
theorem b5G (x:Ext) (n:Int):okE (eC x n):=⟨kV _,kV _⟩
theorem a7i:okE e0:=⟨⟨by decide,by decide⟩,⟨by decide,by decide⟩⟩
theorem a3d:okE e1:=⟨⟨by decide,by decide⟩,⟨by decide,by decide⟩⟩
theorem a7k {n:Int} (h:okF n):okE (eN n):=⟨h,c4E⟩
theorem c4M {a b:Int} (d:okF a) (c:okF b):0<=a*b/\a*b<=4539909900063178624:=
 ⟨Int.mul_nonneg d.1 c.1,Int.le_trans (Int.mul_le_mul d.2 c.2 c.1 (by decide)) (by decide)⟩
theorem Fi {a:Int} (h:okF a):a%2130706433=a:=by obtain ⟨b,c⟩:=h;omega
theorem My {x y:Ext} (a:x.A=y.A) (b:x.B=y.B):x=y:=by cases x;cases y;cases a;cases b;rfl
theorem mA1 (a b:Int):(a%2130706433+b)%2130706433=(a+b)%2130706433:=Int.emod_add_emod _ _ _
theorem mA2 (a b:Int):(a+b%2130706433)%2130706433=(a+b)%2130706433:=Int.add_emod_emod _ _ _
theorem mM1 (a b:Int):(a%2130706433*b)%2130706433=(a*b)%2130706433:=by rw [ot,sC, <-ot]
theorem mM2 (a b:Int):(a*(b%2130706433))%2130706433=(a*b)%2130706433:=by rw [ot,sC, <-ot]
theorem mX1 (a b c:Int):(a%2130706433*b+c)%2130706433=(a*b+c)%2130706433:=by rw [<-mA1,mM1,mA1]
theorem mX4 (a b c:Int):(c+a*(b%2130706433))%2130706433=(c+a*b)%2130706433:=by rw [<-mA2,mM2,mA2]
theorem c1T {a b:Int} (c:okF a) (d:okF b):(IntKind.wrap .i64 (a+b)).tmod 2130706433=aF a b:=by
 obtain ⟨e,f⟩:=c;obtain ⟨h,i⟩:=d
 unfold aF;rw [ak _ om om,ej _ _ om]
theorem yC {a b:Int} (c:okF a) (d:okF b):Lq a b=some (aF a b):=by unfold Lq;rw [c1T c d]
theorem RC {a b:Int} (c:okF a) (d:okF b):QY a b=some (sF a b):=by
 obtain ⟨e,f⟩:=c;obtain ⟨h,i⟩:=d
 unfold QY sF;rw [ak (a-b) om om,ak _ om om,ej _ _ om]
 congr 1;omega
theorem b5F {a b:Int} (c:okF a) (d:okF b):(IntKind.wrap .i64 (a*b)).tmod 2130706433=mF a b:=by
 have h:=c4M c d
 unfold mF;rw [ak _ om om,ej _ _ om]
theorem pH {a b:Int} (c:okF a) (d:okF b):yE a b=some (mF a b):=by unfold yE;rw [b5F c d]
theorem lN {x y:Ext} (a:okE x) (b:okE y):fR x y=some (eA x y):=by
 unfold fR;rw [yC a.1 b.1,yC a.2 b.2];rfl
theorem qW {x y:Ext} (a:okE x) (b:okE y):ir x y=some (eS x y):=by
 unfold ir;rw [RC a.1 b.1,RC a.2 b.2];rfl
theorem a7c (x y:Ext):eM x y=⟨aF (mF x.A y.A) (mF 3 (mF x.B y.B)),aF (mF x.A y.B) (mF x.B y.A)⟩:=by
 unfold eM aF mF
 congr 1
 ·rw [mA1,mA2,mX4]
 ·rw [mA1,mA2]
theorem fQ {x y:Ext} (a:okE x) (b:okE y):dc x y=some (eM x y):=by
 unfold dc
 rw [pH a.1 b.1,pH a.2 b.2]
 simp only [obs]
 rw [pH c1I (py _ _)]
 simp only [obs]
 rw [yC (py _ _) (py _ _),pH a.1 b.2,pH a.2 b.1]
 simp only [obs]
 rw [yC (py _ _) (py _ _),a7c];rfl
theorem Ab {x:Ext} {n:Int} (a:okE x) (hn:okF n):ik x n=some (eC x n):=by
 unfold ik;rw [pH a.1 hn,pH a.2 hn];rfl
theorem Ll:No=some e1:=rfl
theorem GS (n a b:Int):jB n a b=some (decide (a<=n)&&decide (n<=b)):=by
 unfold jB;cases decide (a<=n)<;>rfl
theorem xD (a:Int):re a=some (Gw a):=by
 unfold re;rw [GS];rfl
theorem tQ (x:Ext):uI x=some (n0 x):=by
 unfold uI n0;rw [xD,xD];cases Gw x.A<;>rfl
theorem F7 {a b:Int} (c:okF a) (d:okF b):sx a b=some (aF a b):=by unfold sx;rw [c1T c d]
theorem Qm {a b:Int} (c:okF a) (d:okF b):yr a b=some (sF a b):=by
 obtain ⟨e,f⟩:=c;obtain ⟨h,i⟩:=d
 unfold yr sF;rw [ak (a+2130706433) om om,ak _ om om,ej _ _ om]
 congr 1;omega
theorem vA {a b:Int} (c:okF a) (d:okF b):li a b=some (mF a b):=by unfold li;rw [b5F c d]
theorem lO {x y:Ext} (a:okE x) (b:okE y):iS x y=some (eA x y):=by
 unfold iS;rw [F7 a.1 b.1,F7 a.2 b.2];rfl
theorem Hb {x y:Ext} (a:okE x) (b:okE y):uV x y=some (eS x y):=by
 unfold uV;rw [Qm a.1 b.1,Qm a.2 b.2];rfl
theorem fB {x y:Ext} (a:okE x) (b:okE y):dD x y=some (eM x y):=by
 unfold dD
 have c:(IntKind.wrap .i64 (3*mF x.B y.B)).tmod 2130706433=mF 3 (mF x.B y.B):=b5F c1I (py x.B y.B)
 rw [vA a.1 b.1,vA a.2 b.2]
 simp only [obs]
 rw [c,F7 (py _ _) (py _ _),vA a.1 b.2,vA a.2 b.1]
 simp only [obs]
 rw [F7 (py _ _) (py _ _),a7c];rfl
theorem KJ (n:Int):s8 n=some (eN n):=rfl
theorem QA:Bw=some e1:=rfl
theorem Hf {x:Ext} (a:okE x):oL x=some (eS e1 x):=by
 unfold oL;rw [QA,obs,Hb a3d a];rfl
theorem KP (n a b:Int):ez n a b=some (decide (a<=n)&&decide (n<=b)):=by
 unfold ez;cases decide (a<=n)<;>rfl
theorem wM (a:Int):dy a=some (Gw a):=by
 unfold dy;rw [KP];rfl
theorem Rr (x:Ext):Dv x=some (n0 x):=by
 unfold Dv n0;rw [wM,wM];cases Gw x.A<;>rfl
theorem sub_self (x:Ext):eS x x=e0:=by
 apply My<;>simp [eS,e0]
theorem a6x (x:Ext) (n:Int):eC x n=eM x (eN n):=by
 apply My<;>(simp only [eC,eM,eN];congr 1;grind)
end Go.AI.Fn
namespace Go.AI.Fn
def pF (a:Int) (n:Nat):Int:=(a^n)%2130706433
theorem Pz (a:Int) (n:Nat):okF (pF a n):=kV _
theorem c8v {n:Int} (h:0<=n) (a:n<9223372036854775808):cM .i64 n 1=n%2:=by
 show IntKind.wrap .i64 ((BitVec.ofInt 64 n&&&BitVec.ofInt 64 1).toNat:Int)=n%2
 have e1:(BitVec.ofInt 64 n).toNat=n.toNat:=by rw [gr];omega
 have e2:(BitVec.ofInt 64 1).toNat=1:=by decide
 rw [BitVec.toNat_and,e1,e2,Nat.and_one_is_mod,ak _ om om]
 omega
theorem c8G {n:Int} (h:0<=n):bW .i64 n 1=n/2:=by
 show n.fdiv (2^1)=n/2
 rw [lh _ (by decide)];rfl
theorem b2t {a:Int} {n:Nat} (h:n%2=0):(a*a)^(n/2)=a^n:=by
 have e:n=2*(n/2):=by omega
 have e2:a^n=a^(2*(n/2)):=by rw [<-e]
 rw [e2,Int.pow_mul,g8,g8,ly,pW]
theorem b99 {a:Int} {n:Nat} (h:n%2=1):a*(a*a)^(n/2)=a^n:=by
 have e:n=2*(n/2)+1:=by omega
 have e2:a^n=a^(2*(n/2)+1):=by rw [<-e]
 rw [e2,g8,Int.pow_mul,g8,g8,ly,pW,Int.mul_comm]
theorem a7r (a:Int) (n:Nat):((a%2130706433)^n)%2130706433=(a^n)%2130706433:=by
 induction n with
 |zero=>rw [ly,ly]
 |succ n ih=>rw [g8,g8,mM2, <-mM1,ih,mM1]
theorem a0h {a out:Int} {n:Nat} (hn:0<n):(n%2=1->(mF out a*(mF a a)^(n/2))%2130706433=(out*a^n)%2130706433)/\(n%2=0->(out*(mF a a)^(n/2))%2130706433=(out*a^n)%2130706433):=by
 constructor
 ·intro h
  unfold mF
  rw [mM1, <-mM2,a7r,mM2, <-b99 h,Int.mul_assoc]
 ·intro h
  unfold mF
  rw [<-mM2,a7r,mM2,b2t h]
theorem a4L {a out n:Int} (p:okF a) (q:okF out) (h0:0<=n) (hn:n<9223372036854775808): ∃e,Loop xP (a,n,out)=some e/\e.2.2.1=(out*a^n.toNat)%2130706433:=by
 refine pz (step:=xP) (fun s=>okF s.1/\okF s.2.2/\0<=s.2.1/\s.2.1<9223372036854775808/\(s.2.2*s.1^s.2.1.toNat)%2130706433=(out*a^n.toNat)%2130706433) (fun s=>s.2.1.toNat) _ ?_ (a,n,out) ⟨p,q,h0,hn,rfl⟩
 rintro ⟨b,k,o⟩ ⟨i,d,f,h,c⟩
 dsimp only at i d f h c
 simp only [xP]
 by_cases j:k>0
 ·left
  rw [brd j,c8v f h,c8G f,pH i i]
  have l:=a0h (a:=b) (out:=o) (n:=k.toNat) om
  have e:(k/2).toNat=k.toNat/2:=by omega
  by_cases m:k%2=1
  ·rw [bre m,pH d i]
   refine ⟨_,rfl,⟨py _ _,py _ _,by dsimp only;omega,by dsimp only;omega, ?_⟩,by dsimp only;omega⟩
   dsimp only
   rw [e,l.1 om,c]
  ·rw [kO m]
   refine ⟨_,rfl,⟨py _ _,d,by dsimp only;omega,by dsimp only;omega, ?_⟩,by dsimp only;omega⟩
   dsimp only
   rw [e,l.2 om,c]
 ·right
  rw [brn j]
  refine ⟨_,rfl, ?_⟩
  have:k=0:=by omega
  subst this
  dsimp only
  rw [<-c]
  simp [Fi d]
theorem Pu {a n:Int} (b:okF a) (h0:0<=n) (hn:n<9223372036854775808):Ss a n=some (pF a n.toNat):=by
 unfold Ss
 obtain ⟨e,c,d⟩:=a4L b c0U h0 hn
 rw [c,obs,d,pW];rfl
theorem a5b {a out n:Int} (p:okF a) (q:okF out) (h0:0<=n) (hn:n<9223372036854775808): ∃e,Loop oT (a,n,out)=some e/\e.2.2.1=(out*a^n.toNat)%2130706433:=by
 refine pz (step:=oT) (fun s=>okF s.1/\okF s.2.2/\0<=s.2.1/\s.2.1<9223372036854775808/\(s.2.2*s.1^s.2.1.toNat)%2130706433=(out*a^n.toNat)%2130706433) (fun s=>s.2.1.toNat) _ ?_ (a,n,out) ⟨p,q,h0,hn,rfl⟩
 rintro ⟨b,k,o⟩ ⟨h,d,f,i,c⟩
 dsimp only at h d f i c
 simp only [oT]
 by_cases j:k>0
 ·left
  rw [brd j,ej _ _ f,qf _ _ f,ak _ om om,vA h h]
  have l:=a0h (a:=b) (out:=o) (n:=k.toNat) om
  have e:(k/2).toNat=k.toNat/2:=by omega
  by_cases m:k%2=1
  ·rw [bre m,vA d h]
   refine ⟨_,rfl,⟨py _ _,py _ _,by dsimp only;omega,by dsimp only;omega, ?_⟩,by dsimp only;omega⟩
   dsimp only
   rw [e,l.1 om,c]
  ·rw [kO m]
   refine ⟨_,rfl,⟨py _ _,d,by dsimp only;omega,by dsimp only;omega, ?_⟩,by dsimp only;omega⟩
   dsimp only
   rw [e,l.2 om,c]
 ·right
  rw [brn j]
  refine ⟨_,rfl, ?_⟩
  have:k=0:=by omega
  subst this
  dsimp only
  rw [<-c]
  simp [Fi d]
theorem RD {a n:Int} (b:okF a) (h0:0<=n) (hn:n<9223372036854775808):vZ a n=some (pF a n.toNat):=by
 unfold vZ
 obtain ⟨e,c,d⟩:=a5b b c0U h0 hn
 rw [c,obs,d,pW];rfl
def iF (a:Int):Int:=pF a 2130706431
theorem Dd {a:Int} (b:okF a):tD a=some (iF a):=by
 unfold tD;rw [Pu b (by decide) (by decide),obs];rfl
theorem DR {a:Int} (b:okF a):vZ a 2130706431=some (iF a):=by
 rw [RD b (by decide) (by decide)];rfl
def QZ (k:Nat):Int:=pF 3 (127*2^(24-k))
theorem a03 (k:Nat):okF (QZ k):=Pz _ _
theorem b2z: ∀j:Nat,j<25->(2:Int)^j<=16777216/\0<(2:Int)^j:=by decide
theorem b2T {j:Nat} (h:j<=24):bC .i64 127 (j:Int)=127*2^j:=by
 obtain ⟨a,h0⟩:=b2z j om
 show IntKind.wrap .i64 (127*2^(min ((j:Int).toNat) 64))=_
 rw [aK,gB om,ak _ om om]
theorem a80 {k:Nat} (h:k<=24):PE (k:Int)=some (QZ k):=by
 unfold PE
 obtain ⟨a,b⟩:=b2z (24-k) om
 rw [ak _ om om,brd om,show (24:Int)-k=((24-k:Nat):Int) by omega,b2T om,Pu c1I om om,obs,QZ]
 congr 2
theorem b0t {k:Nat} (h:k<=24):Cg (k:Int)=some (QZ k):=by
 unfold Cg
 obtain ⟨a,b⟩:=b2z (24-k) om
 rw [ak _ om om,en _ om om,brd om,show (24:Int)-k=((24-k:Nat):Int) by omega,b2T om,RD c1I om om,obs,QZ]
 congr 2
end Go.AI.Fn
namespace Go.AI.Fn
structure Src (B:Int) (m:tf):Prop where
 at0:0<=m.at_
 at1:m.at_<=B
 sd0:0<=m.seed
 sd1:m.seed<2147483648
 len:m.code.length<=1048600
theorem Src.mono {B C:Int} {m:tf} (h:Src B m) (hc:B<=C):Src C m:=⟨h.at0,by have:=h.at1;omega,h.sd0,h.sd1,h.len⟩
end Go.AI.Fn
namespace Go.AI.Fn
end Go.AI.Fn
namespace Go.AI.Fn
theorem RB {α:Type} {p:α->Bool} {l:List α} {k:Nat} (a:k<l.length) (h:p l[k]=true):l.any p=true:=iv.2 ⟨l[k],aZ a,h⟩
theorem a75 {α:Type} {p:α->Bool} {l:List α} (h: ∀k (a:k<l.length),p l[k]=false):l.any p=false:=by
 rw [sO]
 intro x b
 obtain ⟨k,a,rfl⟩:=bp b
 simp [h k a]
theorem xp {α:Type} {p:α->Bool} {f:α->Option Bool} {l:List α} (m:l.length<=1099511627776) (j: ∀x∈l,f x=some (p x)) {step:Int->Option (Int⊕(Int⊕(Int×Bool)))}
 (b: ∀t,step t=br (decide (t<(l.length:Int))) ((atL l t).bind fun x=>(f x).bind fun r=>br r (some (.inr (.inl t))) (some (.inl (IntKind.wrap .i64 (t+1))))) (some (.inr (.inr (t,decide (t<(l.length:Int))))))):
 ((Loop step 0).bind (alt (fun e=>some e) (fun _=>some (-1)))).bind (fun r=>some (decide (r>=0)))=some (l.any p):=by
 have key:=Bx (step:=step) (fun k=>(k:Int)) l.length (fun k=> !((l[k]?.map p).getD false)) (fun k=> .inl (k:Int)) (e:= .inr ((l.length:Int),false)) (fun k a c=>by
  have d:p l[k]=false:=by simpa [a] using c
  rw [b,brd om,ck a,obs,j _ (aZ a),obs,d,ba,ak _ om om];rfl)
  (fun k a c=>by
   have d:p l[k]=true:=by simpa [a] using c
   rw [b,brd om,ck a,obs,j _ (aZ a),obs,d,cK])
  (by rw [b,brn om,ag om])
 rcases key with ⟨h,i⟩|⟨k,a,h,_,i⟩
 ·have e:Loop step 0=some (.inr ((l.length:Int),false)):=i
  rw [e,a75 (fun k a=>by simpa [a] using h k a)];rfl
 ·have e:Loop step 0=some (.inl (k:Int)):=i
  rw [e,RB a (by simpa [a] using h)]
  simp only [obs,kW]
  rw [al om]
theorem a7y {α:Type} {p:α->Bool} {f:α->Option Bool} {l:List α} (o:l.length<=1099511627776) (m: ∀x∈l,f x=some (p x)) {step:Int->Option (Int⊕(Unit⊕(Int×Bool)))}
 (b: ∀t,step t=br (decide (t<(l.length:Int))) ((atL l t).bind fun x=>(f x).bind fun r=>br (!r) (some (.inr (.inl ()))) (some (.inl (IntKind.wrap .i64 (t+1))))) (some (.inr (.inr (t,decide (t<(l.length:Int))))))):
 (Loop step 0).bind (alt (fun _=>some false) (fun _=>some true))=some (l.all p):=by
 have key:=Bx (step:=step) (fun k=>(k:Int)) l.length (fun k=>((l[k]?.map p).getD false)) (fun k=> .inl ()) (e:= .inr ((l.length:Int),false)) (fun k a c=>by
  have d:p l[k]=true:=by simpa [a] using c
  rw [b,brd om,ck a,obs,m _ (aZ a),obs,d,aH,ba,ak _ om om];rfl)
  (fun k a c=>by
   have d:p l[k]=false:=by simpa [a] using c
   rw [b,brd om,ck a,obs,m _ (aZ a),obs,d,du,cK])
  (by rw [b,brn om,ag om])
 rcases key with ⟨h,i⟩|⟨k,a,h,_,i⟩
 ·have e:Loop step 0=some (.inr ((l.length:Int),false)):=i
  have j:l.all p=true:=aB.2 fun x n=>by
   obtain ⟨k,a,rfl⟩:=bp n
   simpa [a] using h k a
  rw [e,j];rfl
 ·have e:Loop step 0=some (.inl ()):=i
  have j:l.all p=false:=by
   rw [sN]
   exact ⟨l[k],aZ a,by simpa [a] using h⟩
  rw [e,j];rfl
theorem vv {α:Type} (p:α->Bool) (l:List α):(!l.any fun x=> !p x)=l.all p:=by
 induction l with
 |nil=>rfl
 |cons x l ih=>simp only [List.any_cons,cj, <-ih];cases p x<;>simp
theorem b05 {l:List Int} (a:l.length<=1099511627776):ka l=some (l.all Gw):=by
 unfold ka cL cV
 rw [xp (step:=cH l (l.length:Int)) (p:=fun x=> !Gw x) (f:=iV) a (fun x _=>by unfold iV;rw [xD];rfl) (fun t=>rfl),obs,vv]
theorem M3 {l:List Ext} (a:l.length<=1099511627776):gx l=some (l.all n0):=by
 unfold gx cr cF
 rw [xp (step:=cp l (l.length:Int)) (p:=fun x=> !n0 x) (f:=iW) a (fun x _=>by unfold iW;rw [tQ];rfl) (fun t=>rfl),obs,vv]
theorem oc {l:List Ext} (a:l.length<=1099511627776):lF l=some (l.all n0):=by
 unfold lF
 exact a7y (f:=Dv) a (fun x _=>Rr x) (fun t=>rfl)
theorem a1j {l:List Int} (a:l.length<=1099511627776):vq l=some (l.all Gw):=by
 unfold vq
 exact a7y (f:=dy) a (fun x _=>wM x) (fun t=>rfl)
def hG (l:List Ext):Prop:= ∀x∈l,okE x
def Lz (l:List Int):Prop:= ∀x∈l,okF x
theorem b9s {l:List Ext}:l.all n0=true↔hG l:=by
 rw [aB];exact ⟨fun h x a=>Ka.1 (h x a),fun h x a=>Ka.2 (h x a)⟩
theorem c8w {l:List Int}:l.all Gw=true↔Lz l:=by
 rw [aB];exact ⟨fun h x a=>Kr.1 (h x a),fun h x a=>Kr.2 (h x a)⟩
theorem hG.get {l:List Ext} (h:hG l) {k:Nat} (a:k<l.length):okE l[k]:=h _ (aZ a)
theorem Lz.get {l:List Int} (h:Lz l) {k:Nat} (a:k<l.length):okF l[k]:=h _ (aZ a)
theorem hG.app {l m:List Ext} (h:hG l) (a:hG m):hG (l++m):=fun x b=>(aX.1 b).elim (h x) (a x)
theorem hG.nil:hG []:=fun x a=>by cases a
theorem hG.one {x:Ext} (h:okE x):hG [x]:=fun y a=>by rw [dV.1 a];exact h
theorem hG.map {α:Type} {f:α->Ext} (l:List α) (h: ∀x∈l,okE (f x)):hG (l.map f):=fun y a=>by obtain ⟨x,b,rfl⟩:=bq.1 a;exact h x b
theorem hG.take {l:List Ext} (h:hG l) (k:Nat):hG (l.take k):=fun x a=>h x (cq a)
theorem hG.drop {l:List Ext} (h:hG l) (k:Nat):hG (l.drop k):=fun x a=>h x (bZ a)
def TL (a b:List Ext):Ext:=(a.zip b).foldl (fun c p=>eA c (eM p.1 p.2)) e0
theorem Iz {α β:Type} {a:List α} {b:List β} {k:Nat} (c:k<a.length) (d:k<b.length):(a.zip b).take (k+1)=(a.zip b).take k++[(a[k],b[k])]:=by
 rw [db (by rw [List.length_zip];omega),List.getElem_zip]
theorem a4T (l:List (Ext×Ext)) {c:Ext} (h:okE c):okE (l.foldl (fun c p=>eA c (eM p.1 p.2)) c):=by
 induction l generalizing c with
 |nil=>exact h
 |cons p l ih=>exact ih (VE _ _)
theorem b7u (a b:List Ext):okE (TL a b):=a4T _ a7i
theorem PD {a b:List Ext} (e:hG a) (f:hG b) (h:a.length<=b.length) (hn:a.length<=1099511627776):Lt a b=some (TL a b):=by
 unfold Lt
 have key:Loop (xK b a (a.length:Int) 0 0) ((0:Int),(0:Int),(0:Int))=some ((a.length:Int),false,(TL a b).A,(TL a b).B):=
  bu (fun k=>((k:Int),(((a.zip b).take k).foldl (fun c p=>eA c (eM p.1 p.2)) e0).A,(((a.zip b).take k).foldl (fun c p=>eA c (eM p.1 p.2)) e0).B)) a.length (fun k d=>by
   simp only [xK]
   have hc:=a4T ((a.zip b).take k) a7i
   rw [brd om,ck d,obs,ck om,obs,fQ (e.get d) (f.get om),obs,lN hc (rm _ _),obs,ak _ om om,Iz d om,i0]
   rfl) (by
   simp only [xK]
   rw [brn om,ag om,ca (by rw [List.length_zip];omega)]
   rfl)
 rw [key];rfl
def eqS (out:List Ext) (p:Ext):List Ext:=out.map (fun a=>eM a (eS e1 p))++out.map (fun a=>eM a p)
def eqT (pt:List Ext):List Ext:=pt.foldl eqS [e1]
theorem a7I (out:List Ext) (p:Ext):(eqS out p).length=2*out.length:=by simp [eqS];omega
theorem c4B (out:List Ext) (p:Ext):hG (eqS out p):=hG.app (hG.map _ fun x _=>rm _ _) (hG.map _ fun x _=>rm _ _)
theorem a0c (l:List Ext) (p:Ext):eqT (l++[p])=eqS (eqT l) p:=by simp [eqT,i0]
theorem c49 {l out:List Ext} (h:hG out):hG (l.foldl eqS out):=by
 induction l generalizing out with
 |nil=>exact h
 |cons p l ih=>exact ih (c4B _ _)
theorem Wq (l:List Ext):hG (eqT l):=c49 (hG.one a3d)
theorem b9W (l out:List Ext):(l.foldl eqS out).length=2^l.length*out.length:=by
 induction l generalizing out with
 |nil=>simp
 |cons p l ih=>rw [p8,ih,a7I,ah,fT];rw [Nat.mul_assoc]
theorem Dw (l:List Ext):(eqT l).length=2^l.length:=by rw [eqT,b9W];simp
theorem a6t: ∀k:Nat,k<=6->2^k<=64:=by decide
theorem c7W {t:List Ext} {t2 t3:Int} {out:List Ext} {p:Ext} (c:hG out) (d:okE p) (hn:out.length<=1000000000):
 Loop (mW t t2 t3 out (out.length:Int) p.A p.B) ([],[],0)=some (out.map (fun a=>eM a (eS e1 p)),out.map (fun a=>eM a p),(out.length:Int),false):=
 bu (fun k=>((out.take k).map (fun a=>eM a (eS e1 p)),(out.take k).map (fun a=>eM a p),(k:Int))) out.length (fun k b=>by
  have e:Ext.mk p.A p.B=p:=rfl
  simp only [mW,e]
  rw [brd om,ck b,obs,Ll,obs,qW a3d d,obs,fQ (c.get b) (zd _ _),obs,
   bt (by simp only [ab,aO,bc,am];omega),fQ (c.get b) d,obs,
   bt (by simp only [ab,aO,bc,am];omega),ak _ om om,db b,cI,cI]
  rfl) (by
  simp only [mW]
  rw [brn om,ag om,bk])
theorem CH {l:List Ext} (h:hG l) (hn:l.length<=6):tj l=some (eqT l):=by
 unfold tj
 have key:Loop (mV l (l.length:Int)) ([e1],0)=some (eqT l,(l.length:Int),false):=
  bu (fun k=>(eqT (l.take k),(k:Int))) l.length (fun k a=>by
   have b:=Dw (l.take k)
   have c:=a6t (l.take k).length (by rw [bc];omega)
   simp only [mV]
   rw [brd om,ck a,obs,c7W (Wq _) (h.get a) om,obs]
   dsimp only
   rw [bt (by simp only [ab,aO];omega),ak _ om om,db a,a0c]
   rfl) (by
   simp only [mV]
   rw [brn om,ag om,bk])
 rw [Ll,obs,key];rfl
def eqU (out:List Ext) (p:Ext) (k:Nat) (l:List Ext):List Ext:=(l.set k (eM (out.getD k e0) (eS e1 p))).set (k+out.length) (eM (out.getD k e0) p)
theorem a6Z {f:Nat->List Ext->List Ext} (a: ∀k l,(f k l).length=l.length): ∀(k:Nat) (l:List Ext),(iU f k l).length=l.length
 |0,l=>rfl
 |k+1,l=>by rw [iU,a,a6Z a k l]
theorem Li (out:List Ext) (p:Ext) (k:Nat) (l:List Ext):(iU (eqU out p) k l).length=l.length:=a6Z (fun _ _=>by simp [eqU]) k l
theorem a7L (out:List Ext) (p:Ext) (l:List Ext) (hl:l.length=2*out.length): ∀k,k<=out.length-> ∀j (hj:j<(iU (eqU out p) k l).length),(iU (eqU out p) k l)[j]=
 if j<k then eM (out.getD j e0) (eS e1 p) else if out.length<=j/\j<out.length+k then eM (out.getD (j-out.length) e0) p else l[j]'(by rw [Li] at hj;exact hj)
 |0,_,j,hj=>by
  rw [aa om,aa om];rfl
 |k+1,hk,j,hj=>by
  have ih:=a7L out p l hl k om j (by rw [Li] at hj ⊢;exact hj)
  simp only [iU,eqU,List.getElem_set]
  by_cases h1:k+out.length=j
  ·rw [ae h1,aa om,ae om,show j-out.length=k by omega]
  ·rw [aa h1]
   by_cases h2:k=j
   ·rw [ae h2,ae om,h2]
   ·rw [aa h2,ih]
    by_cases h3:j<k
    ·rw [ae h3,ae om]
    ·by_cases h4:out.length<=j/\j<out.length+k
     ·rw [aa h3,ae h4,aa om,ae om]
     ·rw [aa h3,aa h4,aa om,aa om]
theorem b7T (out:List Ext) (p:Ext) (l:List Ext) (b:l.length=2*out.length):iU (eqU out p) out.length l=eqS out p:=by
 apply List.ext_getElem (by rw [Li,a7I,b])
 intro j c d
 rw [a7L out p l b out.length (aw _) j c]
 rw [Li,b] at c
 simp only [eqS]
 by_cases a:j<out.length
 ·rw [ae a,List.getElem_append_left (by simpa using a),List.getElem_map];simp [a]
 ·rw [aa a,ae om,List.getElem_append_right (by simp;omega),List.getElem_map]
  have:j-out.length<out.length:=by omega
  simp [this]
theorem a7j {l:List Ext} {k:Nat} (h:k<l.length):atL l (k:Int)=some (l.getD k e0):=by simp [atL,h]
theorem hG.getD {l:List Ext} (h:hG l) (k:Nat):okE (l.getD k e0):=by
 by_cases a:k<l.length
 ·simp [a];exact h.get a
 ·simp [bD (Nat.le_of_not_lt a)];exact a7i
theorem c2c {β:Type} {l:List Ext} {i:Nat} {f:Ext->Option β} (h:i<l.length):(l[i]?).bind f=f (l.getD i e0):=by simp [h]
theorem c6H {pt out l:List Ext} {i:Nat} (a:hG out) (b:hG pt) (hi:i<pt.length) (c:l.length=2*out.length) (hn:out.length<=1000000000):
 Loop (rz pt out i) (l,0)=some (eqS out (pt.getD i e0),(out.length:Int),false):=by
 rw [<-b7T out (pt.getD i e0) l c]
 exact bu (fun k=>(iU (eqU out (pt.getD i e0)) k l,(k:Int))) out.length (fun k d=>by
  have e:=Li out (pt.getD i e0) k l
  simp only [rz]
  rw [brd om,a7j d,obs,a7j hi,obs,Hf (b.getD _),obs,fB (a.getD _) (zd _ _),obs,brd om,brd om,c2c om,
   obs,obs,fB (a.getD _) (b.getD _),obs,ak _ om om,brd om,brd om,c2c (by rw [bf];omega),ak _ om om]
  rw [show ((k:Int)+(out.length:Int)).toNat=k+out.length by omega,aK]
  rfl) (by
  simp only [rz]
  rw [brn om,ag om])
theorem KC {l:List Ext} (h:hG l) (hn:l.length<=6):Hd l=some (eqT l):=by
 unfold Hd
 have key:Loop (rd l) ([e1],0)=some (eqT l,(l.length:Int),false):=
  bu (fun k=>(eqT (l.take k),(k:Int))) l.length (fun k a=>by
   have b:=Dw (l.take k)
   have c:=a6t (l.take k).length (by rw [bc];omega)
   simp only [rd]
   rw [brd om,ak _ om om,EI om om om,c6H (Wq _) h a (by rw [aS];omega) om,obs,ak _ om om,db a,a0c]
   simp [a]) (by
   simp only [rd]
   rw [brn om,ag om,bk])
 rw [QA,obs,key];rfl
theorem b0y {a b:List Ext} (e:hG a) (f:hG b) (h:a.length<=b.length) (hn:a.length<=1000000000):Loop (rp a b 0 0) ((0:Int),(0:Int),(0:Int))=some ((a.length:Int),false,(TL a b).A,(TL a b).B):=
 bu (fun k=>((k:Int),(((a.zip b).take k).foldl (fun c p=>eA c (eM p.1 p.2)) e0).A,(((a.zip b).take k).foldl (fun c p=>eA c (eM p.1 p.2)) e0).B)) a.length (fun k d=>by
  simp only [rp]
  have hc:=a4T ((a.zip b).take k) a7i
  rw [brd om,ck d,obs,ck om,obs,fB (e.get d) (f.get om),obs,lO hc (rm _ _),obs,ak _ om om,Iz d om,i0]
  rfl) (by
  simp only [rp]
  rw [brn om,ag om,ca (by rw [List.length_zip];omega)]
  rfl)
theorem a6S {a pt:List Ext} (b:hG a) (c:hG pt) (hn:pt.length<=6) (e:a.length<=2^pt.length):Ds a pt=some (TL a (eqT pt)):=by
 unfold Ds
 have f:=a6t pt.length hn
 have d:=Dw pt
 rw [KC c hn,obs,b0y b (Wq _) om om];rfl
end Go.AI.Fn
namespace Go.AI.Fn
abbrev K:={x:Ext//okE x}
def K.n (i:Int):K:=⟨eN (i%2130706433),a7k (kV _)⟩
instance c6N:Add K:=⟨fun a b=>⟨eA a.1 b.1,VE _ _⟩⟩
instance c84:Mul K:=⟨fun a b=>⟨eM a.1 b.1,rm _ _⟩⟩
instance c6v:Sub K:=⟨fun a b=>⟨eS a.1 b.1,zd _ _⟩⟩
instance c7X:Neg K:=⟨fun a=>⟨eS e0 a.1,zd _ _⟩⟩
instance c0t:NatCast K:=⟨fun n=>K.n n⟩
instance b79:IntCast K:=⟨fun n=>K.n n⟩
instance c3f (n:Nat):OfNat K n:=⟨K.n n⟩
def K.pow (a:K):Nat->K
 |0=>K.n 1
 |n+1=>K.pow a n*a
instance c6s:HPow K Nat K:=⟨K.pow⟩
theorem K.ext {a b:K} (h:a.1=b.1):a=b:=Subtype.ext h
theorem K.mul_val (a b:K):(a*b).1=eM a.1 b.1:=rfl
theorem K.n_mul (i j:Int):K.n (i*j)=K.n i*K.n j:=K.ext (My (by
 show (i*j)%2130706433=((i%2130706433)*(j%2130706433)+3*(0*0))%2130706433
 rw [show (3:Int)*(0*0)=0 from rfl,Int.add_zero, <-ot]) (by
 show (0:Int)=((i%2130706433)*0+0*(j%2130706433))%2130706433
 rw [Int.mul_zero,Int.zero_mul];rfl))
instance b81:NeZero 2130706433:=⟨by decide⟩
abbrev FP:=Fin 2130706433
def K.a (x:K):FP:=⟨x.1.A.toNat,by have h:=x.2.1;unfold okF at h;omega⟩
def K.b (x:K):FP:=⟨x.1.B.toNat,by have h:=x.2.2;unfold okF at h;omega⟩
theorem K.A_nat (x:K): ∃n:Nat,x.1.A=(n:Int)/\n<2130706433/\(K.a x).val=n:=⟨x.1.A.toNat,by have h:=x.2.1;unfold okF at h;omega,(K.a x).isLt,rfl⟩
theorem K.B_nat (x:K): ∃n:Nat,x.1.B=(n:Int)/\n<2130706433/\(K.b x).val=n:=⟨x.1.B.toNat,by have h:=x.2.2;unfold okF at h;omega,(K.b x).isLt,rfl⟩
theorem K.eqv {x y:K}:x=y↔K.a x=K.a y/\K.b x=K.b y:=⟨fun h=>by rw [h];exact ⟨rfl,rfl⟩,fun h=>by
 obtain ⟨n,c,_,d⟩:=K.A_nat x
 obtain ⟨m,e,_,f⟩:=K.A_nat y
 obtain ⟨i,k,_,l⟩:=K.B_nat x
 obtain ⟨j,o,_,p⟩:=K.B_nat y
 have e1:=congrArg Fin.val h.1
 have e2:=congrArg Fin.val h.2
 exact K.ext (My om om)⟩
theorem K.ad_a (x y:K):K.a (x+y)=K.a x+K.a y:=Fin.ext (by
 obtain ⟨n,d,_,b⟩:=K.A_nat x
 obtain ⟨m,e,_,c⟩:=K.A_nat y
 rw [Fin.val_add,b,c]
 show ((x.1.A+y.1.A)%2130706433).toNat=_
 omega)
theorem K.ad_b (x y:K):K.b (x+y)=K.b x+K.b y:=Fin.ext (by
 obtain ⟨n,d,_,a⟩:=K.B_nat x
 obtain ⟨m,e,_,c⟩:=K.B_nat y
 rw [Fin.val_add,a,c]
 show ((x.1.B+y.1.B)%2130706433).toNat=_
 omega)
theorem K.su_a (x y:K):K.a (x-y)=K.a x-K.a y:=Fin.ext (by
 obtain ⟨n,b,_,c⟩:=K.A_nat x
 obtain ⟨m,d,_,e⟩:=K.A_nat y
 rw [Fin.sub_def]
 show ((x.1.A-y.1.A)%2130706433).toNat=(2130706433-(K.a y).val+(K.a x).val)%2130706433
 omega)
theorem K.su_b (x y:K):K.b (x-y)=K.b x-K.b y:=Fin.ext (by
 obtain ⟨n,a,_,c⟩:=K.B_nat x
 obtain ⟨m,d,_,e⟩:=K.B_nat y
 rw [Fin.sub_def]
 show ((x.1.B-y.1.B)%2130706433).toNat=(2130706433-(K.b y).val+(K.b x).val)%2130706433
 omega)
theorem K.n0_a:K.a 0=0:=rfl
theorem K.n0_b:K.b 0=0:=rfl
theorem K.n1_a:K.a 1=1:=rfl
theorem K.n1_b:K.b 1=0:=rfl
theorem K.n2_a:K.a 2=2:=rfl
theorem K.n2_b:K.b 2=0:=rfl
theorem K.n3_a:K.a 3=3:=rfl
theorem K.n3_b:K.b 3=0:=rfl
theorem K.ne_sub (x:K): -x=0-x:=rfl
theorem K.mu_a (x y:K):K.a (x*y)=K.a x*K.a y+3*(K.b x*K.b y):=Fin.ext (by
 obtain ⟨n,c,_,d⟩:=K.A_nat x
 obtain ⟨m,e,_,f⟩:=K.A_nat y
 obtain ⟨i,h,_,k⟩:=K.B_nat x
 obtain ⟨j,l,_,o⟩:=K.B_nat y
 rw [Fin.val_add,Fin.val_mul,Fin.val_mul,Fin.val_mul,d,f,k,o,show (3:FP).val=3 from rfl]
 show ((x.1.A*y.1.A+3*(x.1.B*y.1.B))%2130706433).toNat=_
 rw [c,e,h,l, <-p7, <-p7]
 generalize n*m=u
 generalize i*j=v
 omega)
theorem K.mu_b (x y:K):K.b (x*y)=K.a x*K.b y+K.b x*K.a y:=Fin.ext (by
 obtain ⟨n,c,_,d⟩:=K.A_nat x
 obtain ⟨m,e,_,f⟩:=K.A_nat y
 obtain ⟨i,h,_,k⟩:=K.B_nat x
 obtain ⟨j,l,_,o⟩:=K.B_nat y
 rw [Fin.val_add,Fin.val_mul,Fin.val_mul,d,f,k,o]
 show ((x.1.A*y.1.B+x.1.B*y.1.A)%2130706433).toNat=_
 rw [c,e,h,l, <-p7, <-p7]
 generalize n*j=u
 generalize i*m=v
 omega)
theorem kg {p:Prop} (h:p:=by (simp only [K.ne_sub,K.eqv,K.ad_a,K.ad_b,K.su_a,K.su_b,K.mu_a,K.mu_b,K.n0_a,K.n0_b,K.n1_a,K.n1_b,K.n2_a,K.n2_b,K.n3_a,K.n3_b] at* <;>first|grind only|grind)):p:=h
def kF (a:Int):K:=K.n a
theorem DF {a:Int} (h:okF a):(kF a).1=eN a:=by show eN (a%2130706433)=eN a;rw [Fi h]
theorem b3d (a b:Int):kF (mF a b)=kF a*kF b:=by
 rw [kF,kF,kF, <-K.n_mul]
 exact K.ext (by show eN ((a*b)%2130706433%2130706433)=eN ((a*b)%2130706433);rw [sC])
def kv (l:List K):List Ext:=l.map (·.1)
theorem cg (l:List K):(kv l).length=l.length:=by simp [kv]
theorem FE (l:List K):hG (kv l):=hG.map l fun x _=>x.2
theorem b93 {L:List Ext} (h:hG L): ∃l,L=kv l:=by
 induction L with
 |nil=>exact ⟨[],rfl⟩
 |cons x L ih=>
  obtain ⟨l,rfl⟩:=ih fun y a=>h y (by simp [a])
  exact ⟨⟨x,h x (by simp)⟩::l,rfl⟩
theorem b2h {l:List K} {j:Nat} (h:j<l.length):(kv l)[j]'(by rw [cg];exact h)=(l.getD j 0).1:=by simp [kv,h]
theorem wE {l:List K} {j:Nat} (h:j<l.length):atL (kv l) (j:Int)=some (l.getD j 0).1:=by rw [ck (by rw [cg];exact h),b2h h]
theorem a79 {l:List K} {j:Nat} (h:j<l.length):(kv l)[j]? =some (l.getD j 0).1:=by rw [vD (by rw [cg];exact h),b2h h]
end Go.AI.Fn
namespace Go.AI.Fn
theorem pw0 (x:K):x^0=1:=rfl
theorem pwS (x:K) (n:Nat):x^(n+1)=x^n*x:=rfl
theorem b2n: ∀n:Nat,(1:K)^n=1
 |0=>rfl
 |n+1=>by rw [pwS,b2n n];exact kg
theorem b1r (x y:K): ∀n:Nat,(x*y)^n=x^n*y^n
 |0=>by rw [pw0,pw0,pw0];exact kg
 |n+1=>by rw [pwS,pwS,pwS,b1r x y n];exact kg
def evs:List K->List K
 |a::_::l=>a::evs l
 |[a]=>[a]
 |[]=>[]
def ods:List K->List K
 |_::b::l=>b::ods l
 |_=>[]
def c8y (E O:List K) (w:K) (h:Nat):List K:=(List.range h).map fun j=>E.getD j 0+O.getD j 0*w^j
def c8z (E O:List K) (w:K) (h:Nat):List K:=(List.range h).map fun j=>E.getD j 0-O.getD j 0*w^j
def V:Nat->List K->K->List K
 |0,l,_=>l
 |k+1,l,w=>c8y (V k (evs l) (w*w)) (V k (ods l) (w*w)) w (2^k)++c8z (V k (evs l) (w*w)) (V k (ods l) (w*w)) w (2^k)
def cb (r:K) (a b:List K):List K:=List.zipWith (fun x y=>x+r*y) a b
end Go.AI.Fn
namespace Go.AI.Fn
def a3f:Nat->(Nat->K)->K
 |0,_=>0
 |n+1,f=>a3f n f+f n
def fdK (r:K):List K->List K
 |a::b::l=>(a+r*(b-a))::fdK r l
 |_=>[]
theorem a6N (r:K): ∀(l:List K) (m:Nat),l.length=2*m->(fdK r l).length=m
 |[],m,h=>by simp at h;simp [fdK];omega
 |[a],m,h=>by simp at h;omega
 |a::b::l,0,h=>by simp at h
 |a::b::l,m+1,h=>by simp only [fdK,ah];rw [a6N r l m (by simp only [ah] at h;omega)]
def cmK (kind:Nat) (v:List K):K:=if kind=1 then v.getD 0 0*v.getD 1 0 else v.getD 0 0*(v.getD 1 0*v.getD 2 0-v.getD 3 0)
def bdK (r:K) (T:List (List K)):List (List K):=T.map (fdK r)
theorem b7Y (r:K) (T:List (List K)) (i:Nat):(bdK r T).getD i []=fdK r (T.getD i []):=by
 by_cases h:i<T.length
 ·simp [bdK,h]
 ·simp [bdK,h,fdK]
end Go.AI.Fn
namespace Go.AI.Fn
theorem Rj {α:Type} {a:List α} {n k:Nat} {z x:α} (c:k<n) (b:a.length=k):(a++List.replicate (n-k) z).set k x=(a++[x])++List.replicate (n-(k+1)) z:=by
 subst b
 have e:n-a.length=(n-(a.length+1))+1:=by omega
 rw [e,lD]
 simp
theorem Ju {α β:Type} {f:α->Option β} {g:α->β} {a:List α} {z:β} (j:a.length<=1099511627776) (h: ∀x∈a,f x=some (g x)) {step:List β×Int->Option ((List β×Int)⊕(List β×Int×Bool))}
 (c: ∀l i,step (l,i)=br (decide (i<(a.length:Int))) ((atL a i).bind fun x=>(f x).bind fun r=>br (decide (0<=i)) (br (decide (i.toNat<l.length)) ((l[i.toNat]?).bind fun _=>some (.inl (l.set i.toNat r,IntKind.wrap .i64 (i+1)))) none) none) (some (.inr (l,i,decide (i<(a.length:Int)))))) {n:Nat} (hn:a.length<=n):
 Loop step (List.replicate n z,0)=some (a.map g++List.replicate (n-a.length) z,(a.length:Int),false):=by
 have key:=bu (step:=step) (fun k=>((a.take k).map g++List.replicate (n-k) z,(k:Int))) a.length (e:=(a.map g++List.replicate (n-a.length) z,(a.length:Int),false)) (fun k b=>by
  have d:((a.take k).map g++List.replicate (n-k) z).length=n:=by simp;omega
  rw [c,brd om,ck b,obs,h _ (aZ b),obs,brd om,brd om,aK,vD om,obs,Rj om (by simp;omega),ak _ om om,db b,cI]
  rfl) (by
  rw [c,brn om,ag om,bk])
 simpa using key
theorem MG {α:Type} {f:α->α->Option Bool} {a:List α} (e:a.length<=1099511627776) (d: ∀x∈a,f x x=some true) {step:Int->Option (Int⊕(Unit⊕(Int×Bool)))}
 (b: ∀t,step t=br (decide (t<(a.length:Int))) ((atL a t).bind fun x=>(atL a t).bind fun y=>(f x y).bind fun r=>br (!r) (some (.inr (.inl ()))) (some (.inl (IntKind.wrap .i64 (t+1))))) (some (.inr (.inr (t,decide (t<(a.length:Int))))))):
 (Loop step 0).bind (alt (fun _=>some false) (fun _=>some true))=some true:=by
 have key:Loop step 0=some (.inr ((a.length:Int),false)):=bu (step:=step) (fun k=>(k:Int)) a.length (fun k c=>by
  rw [b,brd om,ck c,obs,obs,d _ (aZ c),obs,aH,ba,ak _ om om];rfl)
  (by rw [b,brn om,ag om])
 rw [key];rfl
theorem oB (x:Ext):rG x x=some true:=by unfold rG;rw [fk rfl,fk rfl]
theorem Fb {a:List Ext} (h:a.length<=1048576):vj a=some a:=by
 unfold vj
 rw [EI om om om,aK,Ju (step:=xH a) (f:=sG) (g:=fun x=>x) om (fun x _=>rfl) (fun l i=>rfl) (aw _)]
 simp
theorem a1X {a:List Int} (h:a.length<=1048576):yX a=some a:=by
 unfold yX
 rw [EI om om om,aK,Ju (step:=xt a) (f:=fun x=>some x) (g:=fun x=>x) om (fun x _=>rfl) (fun l i=>rfl) (aw _)]
 simp
theorem Bd {a:List Ext} (h:a.length<=1048576):vh a a=some true:=by
 unfold vh
 rw [fk rfl]
 exact MG (f:=rG) om (fun x _=>oB x) (fun t=>rfl)
theorem Uc {a:List Int} (h:a.length<=1048576):GM a a=some true:=by
 unfold GM
 rw [fk rfl]
 refine MG (a:=a) (f:=fun x y=>some (x==y)) om (fun x _=>by simp) (fun t=> ?_)
 simp only [xm]
 rfl
theorem Fw {a:List Ext} {left:Int} (b:a.length<=9223372036854775807) (h0: -1<=left) (c:left<=1048576): ∃r,vP a left=some r/\ -1<=r/\r<=1048576/\(0<=r->a.length<=1048576):=by
 unfold vP
 rw [ak _ om om]
 by_cases h:left-(a.length:Int)<0
 ·rw [brd h];exact ⟨_,rfl,by omega,by omega,by omega⟩
 ·rw [brn h];exact ⟨_,rfl,by omega,by omega,by omega⟩
end Go.AI.Fn
namespace Go.AI.Fn
theorem Wx (x y:Int):dl x y=some (if x<y then-1 else if x>y then 1 else 0):=by
 unfold dl fH
 simp only [obs,bne_self_eq_false,ba]
 by_cases h:x<y
 ·rw [brd h,ae h]
 ·rw [brn h,aa h]
  by_cases a:x>y
  ·rw [brd a,ae a]
  ·rw [brn a,aa a]
theorem a1z (a b:Int):bN 0 [a,b] (([a,b].length:Nat):Int) 0=br (a !=0) (some (.inr (.inl a))) (some (.inl 1)):=by
 simp only [bN]
 rw [brd (by simp),show atL [a,b] 0=some a by simp [atL],show IntKind.wrap .i64 (0+1)=1 by decide];rfl
theorem a3o (a b:Int):bN 0 [a,b] (([a,b].length:Nat):Int) 1=br (b !=0) (some (.inr (.inl b))) (some (.inl 2)):=by
 simp only [bN]
 rw [brd (by simp),show atL [a,b] 1=some b by simp [atL],show IntKind.wrap .i64 (1+1)=2 by decide];rfl
theorem b6s (a b:Int):bN 0 [a,b] (([a,b].length:Nat):Int) 2=some (.inr (.inr (2,false))):=by
 simp only [bN]
 rw [brn (by simp)];simp
theorem b4b (a b:Int):jv [a,b]=some (if a=0 then b else a):=by
 unfold jv
 by_cases c:a=0
 ·rw [cf (s':=1) (by rw [a1z,fk c]),ae c]
  by_cases d:b=0
  ·rw [cf (s':=2) (by rw [a3o,fk d]),bX (b6s a b),d];rfl
  ·rw [bX (e:= .inl b) (by rw [a3o,brb d])];rfl
 ·rw [bX (e:= .inl a) (by rw [a1z,brb c]),aa c];rfl
def ltE (y x:au):Prop:=y.Row<x.Row\/(y.Row=x.Row/\y.Col<x.Col)
theorem b2V (y x:au): ∃c,gp y x=some c/\(c>=0↔ ¬ltE y x):=by
 unfold gp
 rw [Wx,Wx]
 simp only [obs,b4b]
 refine ⟨_,rfl, ?_⟩
 unfold ltE
 by_cases d:y.Row<x.Row
 ·simp [d]
 ·by_cases f:y.Row>x.Row
  ·simp [d,f];omega
  ·have a:y.Row=x.Row:=by omega
   by_cases b:y.Col<x.Col
   ·simp [a,b]
   ·by_cases e:y.Col>x.Col
    ·simp [a,b,e]
    ·simp [a,b,e]
def inE (R C:Int) (x:au):Prop:=(0<=x.Row/\x.Row<=R-1)/\(0<=x.Col/\x.Col<=C-1)/\1<=x.Value/\x.Value<=2130706432
def Jg (l:List au) (R C:Int) (t:Nat):Prop:= ∃x,l[t]? =some x/\(¬inE R C x\/(0<t/\ ∃y,l[t-1]? =some y/\ ¬ltE y x))
open Classical in
noncomputable def uU (l:List au) (R C:Int):Bool:=decide (l.length<=200/\ ∀t, ¬Jg l R C t)
open Classical in
theorem a4F {l:List au} {R C:Int} (h:l.length<=200) (g: ∀t, ¬Jg l R C t):uU l R C=true:=by unfold uU;exact al ⟨h,g⟩
open Classical in
theorem Zl {l:List au} {R C:Int} (h:l.length<=200-> ¬ ∀t, ¬Jg l R C t):uU l R C=false:=by unfold uU;exact ag fun g=>h g.1 g.2
open Classical in
theorem QE {l:List au} {R C:Int} (h:uU l R C=true):l.length<=200:=by unfold uU at h;exact (jN h).1
theorem a31 (n a b:Int):jB n a b=some (decide (a<=n/\n<=b)):=by
 unfold jB
 by_cases h:a<=n
 ·rw [brd h];simp [h]
 ·rw [brn h];simp [h]
theorem Wh (n a b:Int):ez n a b=some (decide (a<=n/\n<=b)):=by
 unfold ez
 by_cases h:a<=n
 ·rw [brd h];simp [h]
 ·rw [brn h];simp [h]
theorem Gi {l:List au} {R C:Int} (hl:l.length<=1099511627776) (hR:1<=R/\R<=4096) (hC:1<=C/\C<=4096):qO l R C=some (uU l R C):=by
 unfold qO
 have key:=pz (step:=nQ l R C l (l.length:Int)) (fun t=>0<=t/\t<=l.length/\ ∀k:Nat,(k:Int)<t-> ¬Jg l R C k) (fun t=>(l.length-t).toNat)
  (fun e=>(∃x,e= .inl x/\ ∃k,Jg l R C k)\/(∃x,e= .inr x/\ ∀k, ¬Jg l R C k)) ?_ 0 ⟨by omega,by omega,by omega⟩
 ·obtain ⟨e,q,⟨x,rfl,k,b⟩|⟨x,rfl,b⟩⟩:=key
  ·rw [q]
   simp only [obs,kW]
   rw [Zl fun _ h=>h k b]
  ·rw [q]
   simp only [obs,ny]
   by_cases h:l.length<=200
   ·rw [al om,a4F h b]
   ·rw [ag om,Zl fun g=>absurd g h]
 ·intro t ⟨h0,h1,s⟩
  simp only [nQ]
  by_cases c:t<(l.length:Int)
  ·obtain ⟨x,r,e1,e2,a⟩:=ou (l:=l) (i:=t.toNat) om
   have next: ¬Jg l R C t.toNat->(fun t:Int=>0<=t/\t<=l.length/\ ∀k:Nat,(k:Int)<t-> ¬Jg l R C k) (t+1):=by
    intro hn
    refine ⟨by omega,by omega,fun k b=> ?_⟩
    by_cases e:k=t.toNat
    ·subst e;exact hn
    ·exact s k om
   rw [brd c,GP h0 a]
   simp only [obs,a31]
   rw [ak (R-1) om om,ak (C-1) om om,ak (t+1) om om]
   by_cases j:0<=x.Row/\x.Row<=R-1
   ·rw [Z0 j]
    by_cases m:0<=x.Col/\x.Col<=C-1
    ·rw [Z0 m]
     by_cases n:1<=x.Value/\x.Value<=2130706432
     ·rw [Z0 n]
      by_cases c3:t>0
      ·rw [brd c3,ak (t-1) om om]
       obtain ⟨y,r2,f1,f2,p⟩:=ou (l:=l) (i:=(t-1).toNat) om
       rw [GP om p]
       simp only [obs]
       obtain ⟨d,v,o⟩:=b2V y x
       rw [v]
       simp only [obs]
       rw [show (t-1).toNat=t.toNat-1 by omega] at p
       by_cases c4:d>=0
       ·rw [brd c4]
        exact .inr ⟨_,rfl,.inl ⟨_,rfl,t.toNat,x,a,.inr ⟨by omega,y,p,o.1 c4⟩⟩⟩
       ·rw [brn c4]
        refine .inl ⟨_,rfl,next ?_,by omega⟩
        rintro ⟨x',f,g|⟨_,y',u,w⟩⟩
        ·rw [a] at f;cases f;exact g ⟨j,m,n⟩
        ·rw [a] at f;cases f;rw [p] at u;cases u;exact c4 (o.2 w)
      ·rw [brn c3]
       refine .inl ⟨_,rfl,next ?_,by omega⟩
       rintro ⟨x',f,g|⟨g0,_⟩⟩
       ·rw [a] at f;cases f;exact g ⟨j,m,n⟩
       ·omega
     ·rw [WV n]
      exact .inr ⟨_,rfl,.inl ⟨_,rfl,t.toNat,x,a,.inl fun g=>n g.2.2⟩⟩
    ·rw [WV m]
     exact .inr ⟨_,rfl,.inl ⟨_,rfl,t.toNat,x,a,.inl fun g=>m g.2.1⟩⟩
   ·rw [WV j]
    exact .inr ⟨_,rfl,.inl ⟨_,rfl,t.toNat,x,a,.inl fun g=>j g.1⟩⟩
  ·rw [brn c]
   refine .inr ⟨_,rfl,.inr ⟨_,rfl,fun k b=> ?_⟩⟩
   have z:k<l.length:=by
    obtain ⟨x,hx,_⟩:=b
    obtain ⟨h,_⟩:=dg.1 hx
    exact h
   exact s k om b
theorem YK {l:List au} {r c:Int} (v:0<=r/\r<=5) (hc:0<=c/\c<=5) {R C:Int} (w:bC .i64 1 r=R) (z:bC .i64 1 c=C) (hR':1<=R/\R<=4096) (hC':1<=C/\C<=4096):tv l r c=some (uU l R C):=by
 unfold tv
 by_cases p:(l.length:Int)>200
 ·rw [brd p]
  rw [Zl om]
 rw [brn p]
 have key:=pz (step:=pA l r c) (fun t=>0<=t/\t<=l.length/\ ∀k:Nat,(k:Int)<t-> ¬Jg l R C k) (fun t=>(l.length-t).toNat)
  (fun e=>(∃x,e= .inl x/\ ∃k,Jg l R C k)\/(∃x,e= .inr x/\ ∀k, ¬Jg l R C k)) ?_ 0 ⟨by omega,by omega,by omega⟩
 ·obtain ⟨e,q,⟨x,rfl,k,b⟩|⟨x,rfl,b⟩⟩:=key
  ·rw [q]
   simp only [obs,kW]
   rw [Zl fun _ h=>h k b]
  ·rw [q]
   simp only [obs,ny]
   rw [a4F om b]
 ·intro t ⟨h0,h1,s⟩
  simp only [pA]
  rw [en r om om,en c om om,w,z]
  by_cases ct:t<(l.length:Int)
  ·obtain ⟨x,rest,e1,e2,a⟩:=ou (l:=l) (i:=t.toNat) om
   have next: ¬Jg l R C t.toNat->(fun t:Int=>0<=t/\t<=l.length/\ ∀k:Nat,(k:Int)<t-> ¬Jg l R C k) (t+1):=by
    intro hn
    refine ⟨by omega,by omega,fun k b=> ?_⟩
    by_cases e:k=t.toNat
    ·subst e;exact hn
    ·exact s k om
   rw [brd ct,GP h0 a]
   simp only [obs,Wh]
   rw [brd v.1]
   rw [ak (R-1) om om,ak (C-1) om om,ak (t+1) om om]
   by_cases f:0<=x.Row/\x.Row<=R-1
   ·rw [Z0 f,brd hc.1]
    by_cases j:0<=x.Col/\x.Col<=C-1
    ·rw [Z0 j]
     by_cases m:1<=x.Value/\x.Value<=2130706432
     ·rw [Z0 m]
      by_cases c3:t>0
      ·rw [brd c3,ak (t-1) om om]
       obtain ⟨y,r2,f1,f2,n⟩:=ou (l:=l) (i:=(t-1).toNat) om
       rw [GP om n]
       simp only [obs]
       rw [show (t-1).toNat=t.toNat-1 by omega] at n
       have good:ltE y x-> ¬Jg l R C t.toNat:=by
        rintro o ⟨x',d,g|⟨_,y',u,g3⟩⟩
        ·rw [a] at d;cases d;exact g ⟨f,j,m⟩
        ·rw [a] at d;cases d;rw [n] at u;cases u;exact g3 o
       have bad: ¬ltE y x->Jg l R C t.toNat:=fun h=>⟨x,a,.inr ⟨by omega,y,n,h⟩⟩
       by_cases c4:y.Row>x.Row
       ·rw [brd c4]
        exact .inr ⟨_,rfl,.inl ⟨_,rfl,_,bad (by unfold ltE;omega)⟩⟩
       ·rw [brn c4]
        by_cases c5:y.Row=x.Row
        ·rw [bre c5]
         by_cases c6:y.Col>=x.Col
         ·rw [brd c6]
          exact .inr ⟨_,rfl,.inl ⟨_,rfl,_,bad (by unfold ltE;omega)⟩⟩
         ·rw [brn c6]
          exact .inl ⟨_,rfl,next (good (by unfold ltE;omega)),by omega⟩
        ·rw [kO c5]
         exact .inl ⟨_,rfl,next (good (by unfold ltE;omega)),by omega⟩
      ·rw [brn c3]
       refine .inl ⟨_,rfl,next ?_,by omega⟩
       rintro ⟨x',d,g|⟨g0,_⟩⟩
       ·rw [a] at d;cases d;exact g ⟨f,j,m⟩
       ·omega
     ·rw [WV m]
      exact .inr ⟨_,rfl,.inl ⟨_,rfl,t.toNat,x,a,.inl fun g=>m g.2.2⟩⟩
    ·rw [WV j]
     exact .inr ⟨_,rfl,.inl ⟨_,rfl,t.toNat,x,a,.inl fun g=>j g.2.1⟩⟩
   ·rw [WV f]
    exact .inr ⟨_,rfl,.inl ⟨_,rfl,t.toNat,x,a,.inl fun g=>f g.1⟩⟩
  ·rw [brn ct]
   refine .inr ⟨_,rfl,.inr ⟨_,rfl,fun k b=> ?_⟩⟩
   have hkl:k<l.length:=by
    obtain ⟨x,hx,_⟩:=b
    obtain ⟨h,_⟩:=dg.1 hx
    exact h
   exact s k om b
end Go.AI.Fn
namespace Go.AI.Fn
theorem Jx {k:Int} (h:0<=k/\k<=5):1<=bC .i64 1 k/\bC .i64 1 k<=4096:=by
 have:k=0\/k=1\/k=2\/k=3\/k=4\/k=5:=by omega
 rcases this with rfl|rfl|rfl|rfl|rfl|rfl<;>decide
noncomputable def sJ (s:bi):Bool:=
 decide (1<=s.Rows/\s.Rows<=5)&&(decide (2<=s.Cols/\s.Cols<=5)&&(decide (0<=s.Publics/\s.Publics<=bC .i64 1 (s.Cols-1)-1)&&
  (uU s.A (bC .i64 1 s.Rows) (bC .i64 1 s.Cols)&&(uU s.B (bC .i64 1 s.Rows) (bC .i64 1 s.Cols)&&uU s.C (bC .i64 1 s.Rows) (bC .i64 1 s.Cols)))))
theorem HW {s:bi} (f:s.A.length<=1099511627776) (h:s.B.length<=1099511627776) (i:s.C.length<=1099511627776):sW s=some (sJ s):=by
 unfold sW sJ
 simp only [a31,obs]
 by_cases a:1<=s.Rows/\s.Rows<=5
 ·rw [Z0 a]
  by_cases b:2<=s.Cols/\s.Cols<=5
  ·rw [Z0 b]
   have d:=Jx (k:=s.Rows) om
   have e:=Jx (k:=s.Cols) om
   have j:=Jx (k:=s.Cols-1) om
   unfold eX ft
   rw [ak (s.Cols-1) om om,brd om]
   simp only [obs]
   rw [ak (bC .i64 1 (s.Cols-1)-1) om om]
   by_cases c:0<=s.Publics/\s.Publics<=bC .i64 1 (s.Cols-1)-1
   ·rw [Z0 c,brd om,brd om,Gi f d e]
    simp only [obs]
    rw [al a,al b,al c]
    cases uU s.A (bC .i64 1 s.Rows) (bC .i64 1 s.Cols)
    ·rfl
    ·simp only [aH,ba]
     rw [brd om,brd om,Gi h d e]
     simp only [obs]
     cases uU s.B (bC .i64 1 s.Rows) (bC .i64 1 s.Cols)
     ·rfl
     ·simp only [aH,ba]
      rw [brd om,brd om,Gi i d e]
      simp only [obs]
      cases uU s.C (bC .i64 1 s.Rows) (bC .i64 1 s.Cols)<;>rfl
   ·rw [WV c,al a,al b,ag c];rfl
  ·rw [WV b,al a,ag b];rfl
 ·rw [WV a,ag a];rfl
theorem HY (s:bi):tq s=some (sJ s):=by
 unfold tq sJ
 simp only [Wh,obs]
 by_cases a:1<=s.Rows/\s.Rows<=5
 ·rw [brd a]
  by_cases b:2<=s.Cols/\s.Cols<=5
  ·rw [brd b]
   have d:=Jx (k:=s.Rows) om
   have e:=Jx (k:=s.Cols) om
   have f:=Jx (k:=s.Cols-1) om
   rw [ak (s.Cols-1) om om,en (s.Cols-1) om om,brd om,ak (bC .i64 1 (s.Cols-1)-1) om om]
   by_cases c:0<=s.Publics/\s.Publics<=bC .i64 1 (s.Cols-1)-1
   ·rw [brd c,YK om om rfl rfl d e,YK om om rfl rfl d e,YK om om rfl rfl d e]
    rw [al a,al b,al c]
    cases uU s.A (bC .i64 1 s.Rows) (bC .i64 1 s.Cols)<;>cases uU s.B (bC .i64 1 s.Rows) (bC .i64 1 s.Cols)<;>cases uU s.C (bC .i64 1 s.Rows) (bC .i64 1 s.Cols)<;>rfl
   ·rw [brn c,al a,al b,ag c];rfl
  ·rw [brn b,al a,ag b];rfl
 ·rw [brn a,ag a];rfl
theorem m6 {s:bi} (h:sJ s=true):(1<=s.Rows/\s.Rows<=5)/\(2<=s.Cols/\s.Cols<=5)/\(0<=s.Publics/\s.Publics<=4096)/\s.A.length<=200/\s.B.length<=200/\s.C.length<=200:=by
 unfold sJ at h
 simp only [aD,aC] at h
 obtain ⟨a,b,f,c,d,e⟩:=h
 have i:=Jx (k:=s.Cols-1) om
 exact ⟨a,b,by omega,QE c,QE d,QE e⟩
def setB (t:Setting):Bool:=decide (1<=t.Rate/\t.Rate<=3)&&(decide (1<=t.Queries/\t.Queries<=8)&&decide (0<=t.Grind/\t.Grind<=12))
theorem yI (t:Setting):nW t=some (setB t):=by
 unfold nW setB
 simp only [a31,obs]
 cases decide (1<=t.Rate/\t.Rate<=3)<;>cases decide (1<=t.Queries/\t.Queries<=8)<;>rfl
theorem y6 (t:Setting):nJ t=some (setB t):=by
 unfold nJ setB
 simp only [Wh,obs]
 cases decide (1<=t.Rate/\t.Rate<=3)<;>cases decide (1<=t.Queries/\t.Queries<=8)<;>rfl
theorem xn {t:Setting} (h:setB t=true):(1<=t.Rate/\t.Rate<=3)/\(1<=t.Queries/\t.Queries<=8)/\0<=t.Grind/\t.Grind<=12:=by
 unfold setB at h
 simpa only [aD,aC] using h
end Go.AI.Fn
namespace Go.AI.Fn
theorem Cu {k:Nat} (h:k<=62):bC .i64 1 (k:Int)=((2^k:Nat):Int):=by
 have a: ∀k:Nat,k<63->(2:Int)^k<=4611686018427387904/\0<(2:Int)^k:=by decide
 obtain ⟨b,c⟩:=a k om
 show IntKind.wrap .i64 (1*2^(min ((k:Int).toNat) 64))=_
 rw [aK,gB om,pW,ak _ om om]
 simp
def CV (h n:Nat) (pub priv:List Int):List Int:=((1::pub)++List.replicate (h-1-pub.length) 0)++(priv++List.replicate (n-h-priv.length) 0)
theorem a0H {h n:Nat} {pub priv:List Int} (a:pub.length+1<=h) (b:priv.length<=n-h) (c:h<=n):(CV h n pub priv).length=n:=by simp [CV];omega
theorem a7D {l r:List Int} {s:Nat} (h:s+r.length<=l.length):BL l s r.length r=l.take s++(r++l.drop (s+r.length)):=by
 rw [BL,bk]
theorem b2Q {h n:Nat} {pub priv:List Int} (c:pub.length+1<=h) (d:priv.length<=n-h) (e:h<=n):
 BL (BL ((List.replicate n (0:Int)).set 0 1) 1 pub.length pub) h priv.length priv=CV h n pub priv:=by
 obtain ⟨m,rfl⟩: ∃m,n=m+1:=⟨n-1,by omega⟩
 have e1:(List.replicate (m+1) (0:Int)).set 0 1=1::List.replicate m 0:=by rw [lD];rfl
 have e2:BL (1::List.replicate m (0:Int)) 1 pub.length pub=1::(pub++List.replicate (m-pub.length) 0):=by
  rw [a7D (by simp;omega),jk 1];simp
 rw [e1,e2,a7D (by simp;omega),CV]
 have a:(1::(pub++List.replicate (m-pub.length) (0:Int))).take h=(1::pub)++List.replicate (h-1-pub.length) 0:=by
  obtain ⟨q,rfl⟩: ∃q,h=q+1:=⟨h-1,by omega⟩
  rw [lL,List.take_append,ca om,List.take_replicate,gB om]
  simp
 have b:(1::(pub++List.replicate (m-pub.length) (0:Int))).drop (h+priv.length)=List.replicate (m+1-h-priv.length) 0:=by
  obtain ⟨q,rfl⟩: ∃q,h=q+1:=⟨h-1,by omega⟩
  rw [show q+1+priv.length=(q+priv.length)+1 by omega,List.drop_succ_cons,List.drop_append,gy om,bg,List.drop_replicate]
  congr 1;omega
 rw [a,b]
def hU (s:bi):Nat:=2^(s.Cols.toNat-1)
theorem yD {s:bi} (h:sJ s=true):2<=s.Cols.toNat/\s.Cols.toNat<=5/\s.Cols=(s.Cols.toNat:Int):=by
 obtain ⟨_,a,_⟩:=m6 h;omega
theorem Lc {s:bi} (h:sJ s=true):2^s.Cols.toNat=2*hU s:=by
 obtain ⟨a,_⟩:=yD h
 rw [hU, <-Nat.pow_succ'];congr 1;omega
theorem wm: ∀k:Nat,k<=5->1<=2^k/\2^k<=32:=by decide
theorem VY {s:bi} (h:sJ s=true):eX s=some (hU s:Int):=by
 obtain ⟨a,b,c⟩:=yD h
 unfold eX
 rw [ak _ om om,brd om,show s.Cols-1=((s.Cols.toNat-1:Nat):Int) by omega,Cu om];rfl
theorem a2u {s:bi} (h:sJ s=true) {pub priv:List Int} (b:pub.length+1<=hU s) (c:priv.length<=hU s):mD s pub priv=some (CV (hU s) (2^s.Cols.toNat) pub priv):=by
 obtain ⟨c1,c2,c3⟩:=yD h
 have d:=Lc h
 have e:=wm s.Cols.toNat c2
 unfold mD
 rw [brd om,c3,Cu om, <-c3]
 simp only [aK,aS]
 have a:0<(List.replicate (2^s.Cols.toNat) (0:Int)).length:=by rw [aS];omega
 rw [EI om om om,brd om,i5 a,brd om,brd om,VY h,obs,FU om om,brd om]
 simp only [aK]
 rw [gB om,gB om,b2Q b om om]
theorem c3A {pub priv:List Int} {h c c2 c3:Int} {A B C:List au} {n:Nat} (hn:pub.length+1<=n) (d:n<=1000000):
 Loop (iK pub priv h c c2 c3 A B C) ((List.replicate n (0:Int)).set 0 1,0)=some ((1::pub)++List.replicate (n-1-pub.length) 0,(pub.length:Int),false):=by
 have key:=bu (step:=iK pub priv h c c2 c3 A B C) (fun k=>((1::pub.take k)++List.replicate (n-(k+1)) 0,(k:Int))) pub.length (e:=((1::pub)++List.replicate (n-1-pub.length) 0,(pub.length:Int),false)) (fun k a=>by
  have b:((1::pub.take k)++List.replicate (n-(k+1)) (0:Int)).length=n:=by simp;omega
  simp only [iK]
  rw [brd om,ck a,obs,ak (1+(k:Int)) om om,show (1:Int)+(k:Int)=((k+1:Nat):Int) by omega,brd om,brd om,vD om,obs,aK,Rj om (by simp;omega),
   ak _ om om,db a]
  simp) (by
  simp only [iK]
  rw [brn om,ag om,bk,show n-(pub.length+1)=n-1-pub.length by omega])
 obtain ⟨m,rfl⟩: ∃m,n=m+1:=⟨n-1,by omega⟩
 have e:(List.replicate (m+1) (0:Int)).set 0 1=(1::pub.take 0)++List.replicate (m+1-(0+1)) 0:=by rw [lD];simp
 rw [e];exact key
theorem c6a {L priv:List Int} {h n:Nat} {c c2 c3:Int} {A B C:List au} (hL:L.length=h) (d:priv.length<=n-h) (f:h<=n) (i:n<=1000000):
 Loop (iM priv (h:Int) c c2 c3 A B C) (L++List.replicate (n-h) 0,0)=some (L++(priv++List.replicate (n-h-priv.length) 0),(priv.length:Int),false):=by
 have key:=bu (step:=iM priv (h:Int) c c2 c3 A B C) (fun k=>((L++priv.take k)++List.replicate (n-(h+k)) 0,(k:Int))) priv.length (e:=(L++(priv++List.replicate (n-h-priv.length) 0),(priv.length:Int),false)) (fun k a=>by
  have b:((L++priv.take k)++List.replicate (n-(h+k)) (0:Int)).length=n:=by simp;omega
  simp only [iM]
  rw [brd om,ck a,obs,ak ((h:Int)+(k:Int)) om om,show (h:Int)+(k:Int)=((h+k:Nat):Int) by omega,brd om,brd om,vD om,obs,aK,Rj om (by simp;omega),
   ak _ om om,db a]
  simp [fu]) (by
  simp only [iM]
  rw [brn om,ag om,bk,show n-(h+priv.length)=n-h-priv.length by omega,aV])
 simpa using key
theorem a2T {s:bi} (h:sJ s=true) {pub priv:List Int} (c:pub.length+1<=hU s) (d:priv.length<=hU s):vI s pub priv=some (CV (hU s) (2^s.Cols.toNat) pub priv):=by
 obtain ⟨c1,c2,c3⟩:=yD h
 have f:=Lc h
 have i:=wm s.Cols.toNat c2
 unfold vI
 have e:IntKind.wrap .u64 (IntKind.wrap .i64 (s.Cols-1))=((s.Cols.toNat-1:Nat):Int):=by
  rw [ak _ om om,en _ om om];omega
 rw [e,brd om,Cu om]
 have e2:IntKind.wrap .i64 (2*((2^(s.Cols.toNat-1):Nat):Int))=((2^s.Cols.toNat:Nat):Int):=by
  have:2^(s.Cols.toNat-1)=hU s:=rfl
  rw [this,ak _ om om];omega
 rw [e2,EI om om om,aK,brd (by rw [aS];omega),i5 (by rw [aS];omega),c3A om om,obs]
 dsimp only
 have a:1::pub++List.replicate (2^s.Cols.toNat-1-pub.length) (0:Int)=(1::pub++List.replicate (hU s-1-pub.length) 0)++List.replicate (2^s.Cols.toNat-hU s) 0:=by
  rw [aV,List.replicate_append_replicate]
  congr 2;omega
 have b:2^(s.Cols.toNat-1)=hU s:=rfl
 rw [a,b,c6a (by simp;omega) om om om,obs,CV]
theorem a8V {l:List Int} (h:l.length<=1000000):SK l=some (l.map eN):=by
 unfold SK
 have key:Loop (sX l (l.length:Int)) ([],0)=some (l.map eN,(l.length:Int),false):=
  bu (fun k=>((l.take k).map eN,(k:Int))) l.length (fun k a=>by
   simp only [sX]
   rw [brd om,ck a,obs,bt (by simp only [ab,aO,bc,am];omega),ak _ om om,db a,cI]
   rfl) (by
   simp only [sX]
   rw [brn om,ag om,bk])
 rw [key];rfl
theorem b0w {l:List Int} {n:Nat} (h:l.length<=n) (hn:n<=1000000):BV l (n:Int)=some (l.map eN++List.replicate (n-l.length) e0):=by
 unfold BV
 rw [EI om om om,aK,Ju (step:=uc l) (f:=s8) (g:=eN) om (fun x _=>rfl) (fun l i=>rfl) h,obs];rfl
theorem a6U {h n:Nat} {pub priv:List Int} (b:Lz pub) (c:Lz priv):Lz (CV h n pub priv):=by
 intro x a
 simp only [CV,aX,b9,gu] at a
 rcases a with ((rfl|a)|⟨_,rfl⟩)|a|⟨_,rfl⟩
 ·exact c0U
 ·exact b x a
 ·exact c4E
 ·exact c x a
 ·exact c4E
theorem Wc {l:List Int} (h:Lz l):hG (l.map eN):=hG.map l fun x a=>a7k (h x a)
def b9z (s:bi) (pub:List Int) (pt:List Ext):Ext:=TL (((CV (hU s) (2^s.Cols.toNat) pub []).take (hU s)).map eN) (eqT pt)
theorem TN {s:bi} (h:sJ s=true) {pub:List Int} {pt:List Ext} (c:pub.length+1<=hU s) (d:Lz pub) (f:hG pt) (k:pt.length+1=s.Cols.toNat):yW s pub pt=some (b9z s pub pt):=by
 obtain ⟨c1,c2,c3⟩:=yD h
 have l:=Lc h
 have m:=wm s.Cols.toNat c2
 have n:(CV (hU s) (2^s.Cols.toNat) pub []).length=2^s.Cols.toNat:=a0H c (by simp) om
 have i:Lz (CV (hU s) (2^s.Cols.toNat) pub []):=a6U d (fun x a=>by cases a)
 unfold yW
 rw [a2u h c (by simp),obs,VY h,obs,ma om om om,obs]
 have e:((CV (hU s) (2^s.Cols.toNat) pub []).drop (Int.toNat 0)).take (((hU s:Nat):Int).toNat-Int.toNat 0)=(CV (hU s) (2^s.Cols.toNat) pub []).take (hU s):=rfl
 have j:=Dw pt
 have b:pt.length=s.Cols.toNat-1:=by omega
 have o:2^pt.length=hU s:=by rw [b];rfl
 rw [e,a8V (by rw [bc];omega),obs,CH f om,obs,
  PD (Wc fun x a=>i x (cq a)) (Wq _) (by rw [aO,bc];omega) (by rw [aO,bc];omega)]
 rfl
theorem a0y {s:bi} (h:sJ s=true) {pub:List Int} {pt:List Ext} (d:pub.length+1<=hU s) (f:Lz pub) (i:hG pt) (k:pt.length+1=s.Cols.toNat):vk s pub pt=some (b9z s pub pt):=by
 obtain ⟨c1,c2,c3⟩:=yD h
 have l:=Lc h
 have m:=wm s.Cols.toNat c2
 have n:(CV (hU s) (2^s.Cols.toNat) pub []).length=2^s.Cols.toNat:=a0H d (by simp) om
 have j:Lz (CV (hU s) (2^s.Cols.toNat) pub []):=a6U f (fun x a=>by cases a)
 unfold vk
 have e1:IntKind.wrap .u64 (IntKind.wrap .i64 (s.Cols-1))=((s.Cols.toNat-1:Nat):Int):=by
  rw [ak _ om om,en _ om om];omega
 have e2:bC .i64 1 ((s.Cols.toNat-1:Nat):Int)=(hU s:Int):=Cu om
 rw [a2T h d (by simp),obs,e1,brd om,e2,ma om om om,obs,brd om]
 have e:((CV (hU s) (2^s.Cols.toNat) pub []).drop (Int.toNat 0)).take (((hU s:Nat):Int).toNat-Int.toNat 0)=(CV (hU s) (2^s.Cols.toNat) pub []).take (hU s):=rfl
 have b:pt.length=s.Cols.toNat-1:=by omega
 have o:2^pt.length=hU s:=by rw [b];rfl
 have c:((CV (hU s) (2^s.Cols.toNat) pub []).take (hU s)).length=hU s:=by rw [bc];omega
 rw [e,b0w om om,obs,c,Nat.sub_self,lf,bU,
  a6S (Wc fun x a=>j x (cq a)) i om (by rw [aO];omega)]
 rfl
theorem a7M {s:bi} (h:sJ s=true):0<=s.Publics/\s.Publics.toNat+1<=hU s:=by
 obtain ⟨c1,c2,c3⟩:=yD h
 have h0:=h
 unfold sJ at h0
 simp only [aD,aC] at h0
 obtain ⟨_,_,a,_⟩:=h0
 have e:bC .i64 1 (s.Cols-1)=(hU s:Int):=by
  rw [show s.Cols-1=((s.Cols.toNat-1:Nat):Int) by omega,Cu om];rfl
 rw [e] at a
 omega
end Go.AI.Fn
namespace Go.AI.Fn
end Go.AI.Fn
namespace Go.AI.Fn
end Go.AI.Fn
namespace Go.AI.Fn
def kvv (T:List (List K)):List (List Ext):=T.map kv
theorem Ws (T:List (List K)):(kvv T).length=T.length:=by simp [kvv]
theorem WA {T:List (List K)} {j:Nat} (h:j<T.length):atL (kvv T) (j:Int)=some (kv (T.getD j [])):=by rw [ck (by rw [Ws];exact h)];simp [kvv,h]
structure OkT (kind n:Nat) (T:List (List K)):Prop where
 kd:kind=1\/kind=2
 len:T.length=2*kind
 tab: ∀i,i<T.length->(T.getD i []).length=n
theorem OkT.bd {kind n:Nat} {T:List (List K)} (h:OkT kind (2*n) T) (r:K):OkT kind n (bdK r T):=⟨h.kd,by simp [bdK,h.len],fun i hi=>by
 rw [b7Y]
 exact a6N r _ n (h.tab i (by simpa [bdK] using hi))⟩
variable {kind n:Nat} {T:List (List K)}
theorem Yj {v:List K} (e:kind=1\/kind=2) (f:v.length=2*kind):xO (kind:Int) (kv v)=some (cmK kind v).1:=by
 unfold xO cmK
 have a:=wE (l:=v) (j:=0) om
 have b:=wE (l:=v) (j:=1) om
 rw [show ((0:Nat):Int)=0 from rfl] at a
 rw [show ((1:Nat):Int)=1 from rfl] at b
 rcases e with rfl|rfl
 ·rw [bre om,a,obs,b,obs,fQ (aI _) (aI _),ae rfl];rfl
 ·have c:=wE (l:=v) (j:=2) om
  have d:=wE (l:=v) (j:=3) om
  rw [show ((2:Nat):Int)=2 from rfl] at c
  rw [show ((3:Nat):Int)=3 from rfl] at d
  rw [kO om,a,obs,b,obs,c,obs,fQ (aI _) (aI _),obs,d,obs,qW (rm _ _) (aI _),obs,fQ (aI _) (zd _ _),aa (by decide)];rfl
theorem XT {v:List K} (e:kind=1\/kind=2) (f:v.length=2*kind):oK (kind:Int) (kv v)=some (cmK kind v).1:=by
 unfold oK cmK
 have a:=wE (l:=v) (j:=0) om
 have b:=wE (l:=v) (j:=1) om
 rw [show ((0:Nat):Int)=0 from rfl] at a
 rw [show ((1:Nat):Int)=1 from rfl] at b
 rcases e with rfl|rfl
 ·rw [bre om,a,obs,b,obs,fB (aI _) (aI _),ae rfl];rfl
 ·have c:=wE (l:=v) (j:=2) om
  have d:=wE (l:=v) (j:=3) om
  rw [show ((2:Nat):Int)=2 from rfl] at c
  rw [show ((3:Nat):Int)=3 from rfl] at d
  rw [kO om,a,obs,b,obs,c,obs,fB (aI _) (aI _),obs,d,obs,Hb (rm _ _) (aI _),obs,fB (aI _) (zd _ _),aa (by decide)];rfl
theorem Al (a:kind=1\/kind=2):qY (kind:Int)=some ((kind+1:Nat):Int):=by
 unfold qY
 rw [GS,obs,al om,al om,nm,aH,ba,ak _ om om];rfl
end Go.AI.Fn
namespace Go.AI.Fn
theorem b3B (a:Int): ∀n:Nat,K.n (a^n)=K.n a^n
 |0=>by rw [ly,pw0];rfl
 |n+1=>by rw [g8,K.n_mul,b3B a n,pwS]
theorem c5Y (a:Int):K.n (a%2130706433)=K.n a:=K.ext (by show eN (a%2130706433%2130706433)=eN (a%2130706433);rw [sC])
theorem c8a (a:Int) (n:Nat):kF (pF a n)=kF a^n:=by rw [kF,pF,c5Y,b3B];rfl
theorem a6O (a:Int):kF (iF a)=kF a^2130706431:=by rw [iF,c8a]
theorem a9W (a b:Int):kF (iF (mF a b))=kF (iF a)*kF (iF b):=by rw [a6O,a6O,a6O,b3d,b1r]
theorem a8j:kF (iF 1)=1:=by rw [a6O,show kF 1=1 from rfl,b2n]
def lnI (i:Nat) (x v:K):Nat->K
 |0=>v
 |k+1=>if k=i then lnI i x v k else lnI i x v k*(x-kF (k:Int))*kF (iF (sF (i:Int) (k:Int)))
def lnP (i:Nat) (x v:K):Nat->K
 |0=>v
 |k+1=>if k=i then lnP i x v k else lnP i x v k*(x-kF (k:Int))
def lnD (i:Nat):Nat->Int
 |0=>1
 |k+1=>if k=i then lnD i k else mF (lnD i k) (sF (i:Int) (k:Int))
theorem a51 (i:Nat): ∀k,okF (lnD i k)
 |0=>c0U
 |k+1=>by unfold lnD;split;exact a51 i k;exact py _ _
theorem c1S (i:Nat) (x v:K): ∀k,lnI i x v k=lnP i x v k*kF (iF (lnD i k))
 |0=>by rw [lnI,lnP,lnD,a8j];exact kg
 |k+1=>by
  have ih:=c1S i x v k
  unfold lnI lnP lnD
  split
  ·exact ih
  ·rw [a9W,ih];exact kg
def lnK (vs:List K) (x:K):K:=a3f vs.length fun i=>lnI i x (vs.getD i 0) vs.length
theorem b51 {x:Nat} (h:x<=10):Ext.mk (x:Int) 0=(kF (x:Int)).1:=(DF ⟨by omega,by omega⟩).symm
theorem NM {vs:List K} (x:K) (d:vs.length<=8):Cj (kv vs) x.1=some (lnK vs x).1:=by
 unfold Cj
 have key:=bu (step:=mh (kv vs) (kv vs) (vs.length:Int) x.1.A x.1.B 0 0) (fun j=>((j:Int),(a3f j fun i=>lnI i x (vs.getD i 0) vs.length).1.A,(a3f j fun i=>lnI i x (vs.getD i 0) vs.length).1.B)) vs.length (e:=((vs.length:Int),false,(lnK vs x).1.A,(lnK vs x).1.B)) (fun j b=> ?_) ?_
 ·have key':Loop (mh (kv vs) (kv vs) (vs.length:Int) x.1.A x.1.B 0 0) (0,0,0)=_:=key
  rw [cg,key'];rfl
 ·simp only [mh]
  have inner: ∀c9 c10 c11 c12 c13 c14,Loop (mj (kv vs) (j:Int) (kv vs) (vs.length:Int) (j:Int) (((kv vs).length:Nat):Int) x.1.A x.1.B c9 c10 c11 c12 c13 c14) (0,(vs.getD j 0).1.A,(vs.getD j 0).1.B)=some ((vs.length:Int),false,(lnI j x (vs.getD j 0) vs.length).1.A,(lnI j x (vs.getD j 0) vs.length).1.B):=fun c9 c10 c11 c12 c13 c14=>by
   refine bu (step:=mj (kv vs) (j:Int) (kv vs) (vs.length:Int) (j:Int) (((kv vs).length:Nat):Int) x.1.A x.1.B c9 c10 c11 c12 c13 c14) (fun k=>((k:Int),(lnI j x (vs.getD j 0) k).1.A,(lnI j x (vs.getD j 0) k).1.B)) vs.length (fun k f=> ?_) ?_
   ·simp only [mj,cg]
    rw [brd om]
    by_cases c:k=j
    ·rw [fk om,ak _ om om,lnI,ae c];rfl
    ·rw [brb om,b51 om,show Ext.mk x.1.A x.1.B=x.1 from rfl,qW x.2 (aI _),obs,fQ (aI (lnI j x (vs.getD j 0) k)) (zd _ _),obs,RC ⟨by omega,by omega⟩ ⟨by omega,by omega⟩,obs,Dd (c2g _ _),obs,Ab (rm _ _) (show okF (iF (sF (j:Int) (k:Int))) from Pz _ _),obs,ak _ om om,lnI,aa c,a6x, <-DF (a:=iF (sF (j:Int) (k:Int))) (Pz _ _)];rfl
   ·simp only [mj,cg]
    rw [brn om,ag om]
  rw [brd om,wE b,obs,inner,obs,lN (aI (a3f j fun i=>lnI i x (vs.getD i 0) vs.length)) (aI (lnI j x (vs.getD j 0) vs.length)),obs,ak _ om om];rfl
 ·simp only [mh]
  rw [brn om,ag om];rfl
theorem Wb {vs:List K} (x:K) (d:vs.length<=8):xT (kv vs) x.1=some (lnK vs x).1:=by
 unfold xT
 have key:=bu (step:=kJ (kv vs) x.1.A x.1.B 0 0) (fun j=>((j:Int),(a3f j fun i=>lnI i x (vs.getD i 0) vs.length).1.A,(a3f j fun i=>lnI i x (vs.getD i 0) vs.length).1.B)) vs.length (e:=((vs.length:Int),false,(lnK vs x).1.A,(lnK vs x).1.B)) (fun j b=> ?_) ?_
 ·have key':Loop (kJ (kv vs) x.1.A x.1.B 0 0) (0,0,0)=_:=key
  rw [key'];rfl
 ·simp only [kJ,cg]
  have inner: ∀c9 c10 c11 c12,Loop (kG (kv vs) (j:Int) x.1.A x.1.B c9 c10 c11 c12) (1,0,(vs.getD j 0).1.A,(vs.getD j 0).1.B)=some (lnD j vs.length,(vs.length:Int),false,(lnP j x (vs.getD j 0) vs.length).1.A,(lnP j x (vs.getD j 0) vs.length).1.B):=fun c9 c10 c11 c12=>by
   refine bu (step:=kG (kv vs) (j:Int) x.1.A x.1.B c9 c10 c11 c12) (fun k=>(lnD j k,(k:Int),(lnP j x (vs.getD j 0) k).1.A,(lnP j x (vs.getD j 0) k).1.B)) vs.length (fun k f=> ?_) ?_
   ·simp only [kG,cg]
    rw [brd om]
    by_cases c:k=j
    ·rw [fk om,ak _ om om,lnP,lnD,ae c,ae c];rfl
    ·rw [brb om,KJ,obs,show eN (k:Int)=(kF (k:Int)).1 from b51 om,show Ext.mk x.1.A x.1.B=x.1 from rfl,Hb x.2 (aI _),obs,fB (aI (lnP j x (vs.getD j 0) k)) (zd _ _),obs,Qm ⟨by omega,by omega⟩ ⟨by omega,by omega⟩,obs,vA (a51 j k) (c2g _ _),obs,ak _ om om,lnP,lnD,aa c,aa c];rfl
   ·simp only [kG,cg]
    rw [brn om,ag om]
  unfold m7
  rw [brd om,wE b,obs,inner,obs]
  dsimp only
  rw [DR (a51 j _),obs,obs,KJ,obs, <-DF (a:=iF (lnD j vs.length)) (Pz _ _),fB (aI (lnP j x (vs.getD j 0) vs.length)) (aI _),obs,
   show eM (Ext.mk (lnP j x (vs.getD j 0) vs.length).1.A (lnP j x (vs.getD j 0) vs.length).1.B) (kF (iF (lnD j vs.length))).1=(lnI j x (vs.getD j 0) vs.length).1 from congrArg Subtype.val (c1S j x _ _).symm,
   lO (aI (a3f j fun i=>lnI i x (vs.getD i 0) vs.length)) (aI (lnI j x (vs.getD j 0) vs.length)),obs,ak _ om om];rfl
 ·simp only [kJ,cg]
  rw [brn om,ag om];rfl
end Go.AI.Fn
namespace Go.AI.Fn
abbrev xo (a b:Int):Int:=nk .u64 a b
def rot (x s:Int):Int:=if s=0 then x else xz .u64 (bC .u64 x s) (bW .u64 x (64-s))
def P0 (x:Int):Prop:=0<=x/\x<18446744073709551616
theorem Xb (x:Int):P0 (IntKind.wrap .u64 x):=by
 unfold P0;simp [IntKind.wrap,IntKind.bits,IntKind.signed];omega
theorem c4h (a b:Int):P0 (xo a b):=Xb _
theorem a3c {x:Int} (h:P0 x):((BitVec.ofInt 64 x).toNat:Int)=x:=by
 obtain ⟨h0,a⟩:=h
 rw [gr];omega
theorem KW {a:Int} (h:P0 a):xo 0 a=a:=by
 show IntKind.wrap .u64 _=a
 have:(BitVec.ofInt 64 0^^^BitVec.ofInt 64 a)=BitVec.ofInt 64 a:=by simp
 show IntKind.wrap .u64 ((BitVec.ofInt 64 0^^^BitVec.ofInt 64 a).toNat:Int)=a
 rw [this,a3c h,en a h.1 h.2]
theorem c0J {a:Int} (h:P0 a):xz .u64 a 0=a:=by
 have:(BitVec.ofInt 64 a|||BitVec.ofInt 64 0)=BitVec.ofInt 64 a:=by simp
 show IntKind.wrap .u64 ((BitVec.ofInt 64 a|||BitVec.ofInt 64 0).toNat:Int)=a
 rw [this,a3c h,en a h.1 h.2]
theorem c1k (x y:Int):PQ .u64 x y=cM .u64 (dz .u64 y) x:=by
 show IntKind.wrap .u64 ((BitVec.ofInt 64 x&&& ~~~ BitVec.ofInt 64 y).toNat:Int)=IntKind.wrap .u64 ((BitVec.ofInt 64 (dz .u64 y)&&&BitVec.ofInt 64 x).toNat:Int)
 have h:BitVec.ofInt 64 (dz .u64 y)= ~~~ BitVec.ofInt 64 y:=by
  show BitVec.ofInt 64 (IntKind.wrap .u64 ((BitVec.ofInt 64 18446744073709551615^^^BitVec.ofInt 64 y).toNat:Int))=_
  have e:(BitVec.ofInt 64 18446744073709551615^^^BitVec.ofInt 64 y)= ~~~ BitVec.ofInt 64 y:=by
   rw [show BitVec.ofInt 64 18446744073709551615=BitVec.allOnes 64 by decide,BitVec.allOnes_xor]
  rw [e,en _ om (by have:=(~~~ BitVec.ofInt 64 y).isLt;omega)]
  rw [BitVec.ofInt_natCast,BitVec.ofNat_toNat];simp
 rw [h,BitVec.and_comm]
theorem a7w {x s:Int} (a:0<=s/\s<64):xV x s=some (rot x s):=by
 unfold xV rot
 by_cases h:s=0
 ·rw [bre h,ae h]
 ·rw [kO h,aa h,brd a.1,en (64-s) om om,brd om]
end Go.AI.Fn
namespace Go.AI.Fn
theorem c8c: ∀k:Nat,k<64->cM .u64 (IntKind.wrap .u64 (k:Int)) 63=(k:Int):=by decide
theorem a74 {x s:Int} (b:0<=s/\s<64) (a:s≠0\/P0 x):eZ x s=some (rot x s):=by
 have e:cM .u64 (IntKind.wrap .u64 s) 63=s:=by
  have:=c8c s.toNat om
  rwa [ew b.1] at this
 unfold eZ rot
 rw [e,brd b.1,en (64-s) om om,brd om]
 by_cases h:s=0
 ·subst h
  have a:P0 x:=a.resolve_left (fun h=>h rfl)
  have e1:bC .u64 x 0=x:=by
   show IntKind.wrap .u64 (x*2^0)=x
   rw [ly,Int.mul_one,en x a.1 a.2]
  have e2:bW .u64 x (64-0)=0:=by
   show x.fdiv (2^64)=0
   rw [lh _ (by decide)]
   exact Int.ediv_eq_zero_of_lt a.1 a.2
  rw [e1,e2,c0J a,ae rfl]
 ·rw [aa h]
abbrev g (l:List Int) (i:Int):Int:=l.getD i.toNat 0
def s6:List Int:=[0,1,62,28,27,36,44,6,55,20,3,10,43,25,39,41,45,15,21,8,18,2,61,56,14]
theorem b3M: ∀k:Nat,k<25->0<=s6.getD k 0/\s6.getD k 0<64:=by decide
def p2 (m:List Int) (k:Nat) (l:List Int):List Int:=l.set ((k:Int)%5).toNat (xo (g l ((k:Int)%5)) (g m k))
def p3 (m c:List Int) (k:Nat) (l:List Int):List Int:=
 l.set ((k:Int)/5+5*((2*((k:Int)%5)+3*((k:Int)/5))%5)).toNat (rot (xo (g m k) (xo (g c (((k:Int)%5+4)%5)) (rot (g c (((k:Int)%5+1)%5)) 1))) (g s6 k))
def p4 (b:List Int) (k:Nat) (l:List Int):List Int:=
 l.set k (xo (g b k) (PQ .u64 (g b ((k:Int)-(k:Int)%5+((k:Int)%5+2)%5)) (g b ((k:Int)-(k:Int)%5+((k:Int)%5+1)%5))))
def q2 (m:List Int) (k:Nat) (l:List Int):List Int:=l.set k (xo (xo (xo (xo (g m k) (g m ((k:Int)+5))) (g m ((k:Int)+10))) (g m ((k:Int)+15))) (g m ((k:Int)+20)))
def q3 (c:List Int) (k:Nat) (l:List Int):List Int:=l.set k (xo (g l k) (xo (g c (((k:Int)+4)%5)) (rot (g c (((k:Int)+1)%5)) 1)))
def q5 (m:List Int) (x:Int) (y:Nat) (l:List Int):List Int:=l.set ((y:Int)+5*((2*x+3*(y:Int))%5)).toNat (rot (g m (x+5*(y:Int))) (g s6 (x+5*(y:Int))))
def q4 (m:List Int) (x:Nat) (l:List Int):List Int:=iU (q5 m x) 5 l
def q7 (b:List Int) (x:Int) (y:Nat) (l:List Int):List Int:=l.set (x+5*(y:Int)).toNat (xo (g b (x+5*(y:Int))) (cM .u64 (dz .u64 (g b ((x+1)%5+5*(y:Int)))) (g b ((x+2)%5+5*(y:Int)))))
def q6 (b:List Int) (x:Nat) (l:List Int):List Int:=iU (q7 b x) 5 l
theorem b4t (m:List Int) (k:Nat) (l:List Int):(iU (p2 m) k l).length=l.length:=wg (fun _ _=>bf) k l
theorem Y1 (m c:List Int) (k:Nat) (l:List Int):(iU (p3 m c) k l).length=l.length:=wg (fun _ _=>bf) k l
theorem Wr (b:List Int) (k:Nat) (l:List Int):(iU (p4 b) k l).length=l.length:=wg (fun _ _=>bf) k l
theorem a3R (m:List Int) (k:Nat) (l:List Int):(iU (q2 m) k l).length=l.length:=wg (fun _ _=>bf) k l
theorem Sx (c:List Int) (k:Nat) (l:List Int):(iU (q3 c) k l).length=l.length:=wg (fun _ _=>bf) k l
theorem b4M (m:List Int) (x:Int) (k:Nat) (l:List Int):(iU (q5 m x) k l).length=l.length:=wg (fun _ _=>bf) k l
theorem b2O (m:List Int) (x:Int) (k:Nat) (l:List Int):(iU (q7 m x) k l).length=l.length:=wg (fun _ _=>bf) k l
theorem a5C (m:List Int) (k:Nat) (l:List Int):(iU (q4 m) k l).length=l.length:=wg (fun x l=>b4M m x 5 l) k l
theorem b3Y (m:List Int) (k:Nat) (l:List Int):(iU (q6 m) k l).length=l.length:=wg (fun x l=>b2O m x 5 l) k l
theorem c0c {a b c d t4:List Int} {t3 e:Int} (h:a.length=25):Loop (gK a b c d t3 t4 e) (nZ 5,0)=some (iU (p2 a) 25 (nZ 5),25,false):=
 bu (fun k=>(iU (p2 a) k (nZ 5),(k:Int))) 25 (fun k i=>by
  have f:=b4t a k (nZ 5)
  rw [pk] at f
  simp only [gK]
  simp (disch:=omega) only [brd,ej,FU,i5,ak]
  simp only [iU,p2,aK,l5]
  rfl) (by
  simp (disch:=omega) only [gK,brn];rfl)
theorem c0n {a b c d:List Int} {t2:Int} (h:a.length=25):Loop (ju a b c d t2) (nZ 5,0)=some (iU (q2 a) 5 (nZ 5),5,false):=
 bu (fun k=>(iU (q2 a) k (nZ 5),(k:Int))) 5 (fun k f=>by
  have e:=a3R a k (nZ 5)
  rw [pk] at e
  simp only [ju]
  simp (disch:=omega) only [brd,ej,FU,i5,ak]
  simp only [iU,q2,aK,l5]
  rfl) (by
  simp (disch:=omega) only [ju,brn];rfl)
theorem a2G (k:Nat) (a:k<25):0<=s6.getD k 0/\s6.getD k 0<64:=b3M k a
theorem MU:s6.length=25:=rfl
theorem b7d {m10 m12 c a:List Int} {b d:Int} (h:m10.length=25) (hc:c.length=5):Loop (gH m10 s6 m12 c b a d) (nZ 25,0)=some (iU (p3 m10 c) 25 (nZ 25),25,false):=
 bu (fun k=>(iU (p3 m10 c) k (nZ 25),(k:Int))) 25 (fun k e=>by
  have f:=Y1 m10 c k (nZ 25)
  rw [pk] at f
  have i:=a2G k e
  have j:=MU
  simp only [gH]
  simp (disch:=omega) only [brd,ej,qf,FU,i5,ak]
  rw [a74 ⟨by decide,by decide⟩ (.inl (by decide))]
  simp only [obs]
  simp only [aK]
  rw [a74 i (.inr (c4h _ _))]
  simp only [obs]
  rfl) (by
  simp (disch:=omega) only [gH,brn];rfl)
theorem b9T {m16 m17 m18 b t12:List Int} {t11 t13:Int} {m:List Int} (h:m.length=25) (a:b.length=25):Loop (gG m16 m17 m18 b t11 t12 t13 b) (m,0)=some (iU (p4 b) 25 m,25,false):=
 bu (fun k=>(iU (p4 b) k m,(k:Int))) 25 (fun k c=>by
  have d:=Wr b k m
  simp only [gG]
  simp (disch:=omega) only [brd,ej,qf,FU,i5,ak]
  rfl) (by
  simp (disch:=omega) only [gG,brn];rfl)
theorem c0K {m11 m12 m13 c m:List Int} {t4:Int} (h:m.length=25) (hc:c.length=5):Loop (jo m11 m12 m13 c t4) (m,0)=some (iU (q3 c) 25 m,25,false):=
 bu (fun k=>(iU (q3 c) k m,(k:Int))) 25 (fun k a=>by
  have b:=Sx c k m
  simp only [jo]
  simp (disch:=omega) only [brd,ej,qf,FU,i5,ak]
  rw [a7w ⟨by decide,by decide⟩]
  simp only [obs]
  rfl) (by
  simp (disch:=omega) only [jo,brn];rfl)
theorem b7Z {a m22 m23 m25 m:List Int} {b:Int} {x:Nat} (e:x<5) (h:m.length=25) (f:a.length=25):Loop (jt a m22 m23 s6 m25 b x) (m,0)=some (iU (q5 a x) 5 m,5,false):=
 bu (fun k=>(iU (q5 a x) k m,(k:Int))) 5 (fun k i=>by
  have j:=b4M a x k m
  have c:=a2G ((x:Int)+5*(k:Int)).toNat om
  have d:=MU
  simp only [jt]
  simp (disch:=omega) only [brd,ej,qf,FU,i5,ak]
  rw [a7w c]
  simp only [obs]
  rfl) (by
  simp (disch:=omega) only [jt,brn];rfl)
theorem b7S {a m16 m17 m19 m:List Int} {b:Int} (h:m.length=25) (c:a.length=25):Loop (ji a m16 m17 s6 m19 b) (m,0)=some (iU (q4 a) 5 m,5,false):=
 bu (fun k=>(iU (q4 a) k m,(k:Int))) 5 (fun k d=>by
  have e:=a5C a k m
  simp only [ji]
  rw [brd om,b7Z d om c,obs,ak _ om om]
  rfl) (by
  simp (disch:=omega) only [ji,brn];rfl)
theorem b7z {m34 m35 m36 m37 b m:List Int} {t13:Int} {x:Nat} (a:x<5) (h:m.length=25) (c:b.length=25):Loop (jr m34 m35 m36 m37 b t13 x) (m,0)=some (iU (q7 b x) 5 m,5,false):=
 bu (fun k=>(iU (q7 b x) k m,(k:Int))) 5 (fun k d=>by
  have e:=b2O b x k m
  simp only [jr]
  simp (disch:=omega) only [brd,ej,qf,FU,i5,ak]
  rfl) (by
  simp (disch:=omega) only [jr,brn];rfl)
theorem b83 {m28 m29 m30 m31 b m:List Int} {t11:Int} (h:m.length=25) (a:b.length=25):Loop (jn m28 m29 m30 m31 b t11) (m,0)=some (iU (q6 b) 5 m,5,false):=
 bu (fun k=>(iU (q6 b) k m,(k:Int))) 5 (fun k c=>by
  have d:=b3Y b k m
  simp only [jn]
  rw [brd om,b7z c om a,obs,ak _ om om]
  rfl) (by
  simp (disch:=omega) only [jn,brn];rfl)
def CE (m:List Int) (rc:Int):List Int:=
 let c:=iU (p2 m) 25 (nZ 5)
 let b:=iU (p3 m c) 25 (nZ 25)
 let r:=iU (p4 b) 25 m
 r.set 0 (xo (r.getD 0 0) rc)
def a4y (m:List Int) (rc:Int):List Int:=
 let c:=iU (q2 m) 5 (nZ 5)
 let a:=iU (q3 c) 25 m
 let b:=iU (q4 a) 5 (nZ 25)
 let r:=iU (q6 b) 5 a
 r.set 0 (xo (r.getD 0 0) rc)
end Go.AI.Fn
namespace Go.AI.Fn
theorem dm {l:List Int} {n:Nat} (h:l.length=n+1): ∃a r,l=a::r/\r.length=n:=by
 cases l with
 |nil=>simp at h
 |cons a r=>exact ⟨a,r,rfl,by simpa using h⟩
theorem b7N {l:List Int} (h:l.length=0):l=[]:=bS h
theorem a0K {l:List Int} (h:l.length=25): ∃s t a2 a3 u v w x y z a10 a11 a12 a13 a14 a15 a16 a17 a18 a19 a20 a21 a22 a23 a24,l=[s,t,a2,a3,u,v,w,x,y,z,a10,a11,a12,a13,a14,a15,a16,a17,a18,a19,a20,a21,a22,a23,a24]:=by
 obtain ⟨s,r0,rfl,h0⟩:=dm h
 obtain ⟨t,r1,rfl,h1⟩:=dm h0
 obtain ⟨a2,r2,rfl,h2⟩:=dm h1
 obtain ⟨a3,r3,rfl,h3⟩:=dm h2
 obtain ⟨u,r4,rfl,h4⟩:=dm h3
 obtain ⟨v,r5,rfl,h5⟩:=dm h4
 obtain ⟨w,r6,rfl,h6⟩:=dm h5
 obtain ⟨x,r7,rfl,h7⟩:=dm h6
 obtain ⟨y,r8,rfl,h8⟩:=dm h7
 obtain ⟨z,r9,rfl,h9⟩:=dm h8
 obtain ⟨a10,r10,rfl,a⟩:=dm h9
 obtain ⟨a11,r11,rfl,b⟩:=dm a
 obtain ⟨a12,r12,rfl,c⟩:=dm b
 obtain ⟨a13,r13,rfl,d⟩:=dm c
 obtain ⟨a14,r14,rfl,e⟩:=dm d
 obtain ⟨a15,r15,rfl,f⟩:=dm e
 obtain ⟨a16,r16,rfl,i⟩:=dm f
 obtain ⟨a17,r17,rfl,j⟩:=dm i
 obtain ⟨a18,r18,rfl,k⟩:=dm j
 obtain ⟨a19,r19,rfl,m⟩:=dm k
 obtain ⟨a20,r20,rfl,n⟩:=dm m
 obtain ⟨a21,r21,rfl,o⟩:=dm n
 obtain ⟨a22,r22,rfl,p⟩:=dm o
 obtain ⟨a23,r23,rfl,q⟩:=dm p
 obtain ⟨a24,r24,rfl,r⟩:=dm q
 obtain rfl:=b7N r
 exact ⟨_,_,_,_,_,_,_,_,_,_,_,_,_,_,_,_,_,_,_,_,_,_,_,_,_,rfl⟩
def m5 (m:List Int):Prop:=m.length=25/\ ∀x∈m,P0 x
def cs (m:List Int):List Int:=iU (q2 m) 5 (nZ 5)
theorem b7r {m:List Int} (h:m5 m):iU (p2 m) 25 (nZ 5)=cs m:=by
 obtain ⟨n,a⟩:=h
 obtain ⟨b,c,a2,a3,d,e,f,i,j,l,a10,a11,a12,a13,a14,a15,a16,a17,a18,a19,a20,a21,a22,a23,a24,rfl⟩:=a0K n
 have e0:=KW (a b (by simp))
 have e1:=KW (a c (by simp))
 have e2:=KW (a a2 (by simp))
 have o:=KW (a a3 (by simp))
 have p:=KW (a d (by simp))
 have k:iU (p2 [b,c,a2,a3,d,e,f,i,j,l,a10,a11,a12,a13,a14,a15,a16,a17,a18,a19,a20,a21,a22,a23,a24]) 25 (nZ 5)=[xo (xo (xo (xo (xo 0 b) e) a10) a15) a20,xo (xo (xo (xo (xo 0 c) f) a11) a16) a21,xo (xo (xo (xo (xo 0 a2) i) a12) a17) a22,xo (xo (xo (xo (xo 0 a3) j) a13) a18) a23,xo (xo (xo (xo (xo 0 d) l) a14) a19) a24]:=by kernel_rfl
 have q:cs [b,c,a2,a3,d,e,f,i,j,l,a10,a11,a12,a13,a14,a15,a16,a17,a18,a19,a20,a21,a22,a23,a24]=
  [xo (xo (xo (xo b e) a10) a15) a20,xo (xo (xo (xo c f) a11) a16) a21,xo (xo (xo (xo a2 i) a12) a17) a22,xo (xo (xo (xo a3 j) a13) a18) a23,xo (xo (xo (xo d l) a14) a19) a24]:=by kernel_rfl
 rw [k,q,e0,e1,e2,o,p]
theorem b8B {c:List Int} (a b a2 a3 d e f h i j a10 a11 a12 a13 a14 a15 a16 a17 a18 a19 a20 a21 a22 a23 a24:Int):iU (p3 [a,b,a2,a3,d,e,f,h,i,j,a10,a11,a12,a13,a14,a15,a16,a17,a18,a19,a20,a21,a22,a23,a24] c) 25 (nZ 25)=[rot (xo a (xo (g c 4) (rot (g c 1) 1))) 0,rot (xo f (xo (g c 0) (rot (g c 2) 1))) 44,rot (xo a12 (xo (g c 1) (rot (g c 3) 1))) 43,rot (xo a18 (xo (g c 2) (rot (g c 4) 1))) 21,rot (xo a24 (xo (g c 3) (rot (g c 0) 1))) 14,rot (xo a3 (xo (g c 2) (rot (g c 4) 1))) 28,rot (xo j (xo (g c 3) (rot (g c 0) 1))) 20,rot (xo a10 (xo (g c 4) (rot (g c 1) 1))) 3,rot (xo a16 (xo (g c 0) (rot (g c 2) 1))) 45,rot (xo a22 (xo (g c 1) (rot (g c 3) 1))) 61,rot (xo b (xo (g c 0) (rot (g c 2) 1))) 1,rot (xo h (xo (g c 1) (rot (g c 3) 1))) 6,rot (xo a13 (xo (g c 2) (rot (g c 4) 1))) 25,rot (xo a19 (xo (g c 3) (rot (g c 0) 1))) 8,rot (xo a20 (xo (g c 4) (rot (g c 1) 1))) 18,rot (xo d (xo (g c 3) (rot (g c 0) 1))) 27,rot (xo e (xo (g c 4) (rot (g c 1) 1))) 36,rot (xo a11 (xo (g c 0) (rot (g c 2) 1))) 10,rot (xo a17 (xo (g c 1) (rot (g c 3) 1))) 15,rot (xo a23 (xo (g c 2) (rot (g c 4) 1))) 56,rot (xo a2 (xo (g c 1) (rot (g c 3) 1))) 62,rot (xo i (xo (g c 2) (rot (g c 4) 1))) 55,rot (xo a14 (xo (g c 3) (rot (g c 0) 1))) 39,rot (xo a15 (xo (g c 4) (rot (g c 1) 1))) 41,rot (xo a21 (xo (g c 0) (rot (g c 2) 1))) 2]:=by kernel_rfl
theorem b9f {c:List Int} (a b a2 a3 d e f h i j a10 a11 a12 a13 a14 a15 a16 a17 a18 a19 a20 a21 a22 a23 a24:Int):iU (q3 c) 25 [a,b,a2,a3,d,e,f,h,i,j,a10,a11,a12,a13,a14,a15,a16,a17,a18,a19,a20,a21,a22,a23,a24]=[xo a (xo (g c 4) (rot (g c 1) 1)),xo b (xo (g c 0) (rot (g c 2) 1)),xo a2 (xo (g c 1) (rot (g c 3) 1)),xo a3 (xo (g c 2) (rot (g c 4) 1)),xo d (xo (g c 3) (rot (g c 0) 1)),xo e (xo (g c 4) (rot (g c 1) 1)),xo f (xo (g c 0) (rot (g c 2) 1)),xo h (xo (g c 1) (rot (g c 3) 1)),xo i (xo (g c 2) (rot (g c 4) 1)),xo j (xo (g c 3) (rot (g c 0) 1)),xo a10 (xo (g c 4) (rot (g c 1) 1)),xo a11 (xo (g c 0) (rot (g c 2) 1)),xo a12 (xo (g c 1) (rot (g c 3) 1)),xo a13 (xo (g c 2) (rot (g c 4) 1)),xo a14 (xo (g c 3) (rot (g c 0) 1)),xo a15 (xo (g c 4) (rot (g c 1) 1)),xo a16 (xo (g c 0) (rot (g c 2) 1)),xo a17 (xo (g c 1) (rot (g c 3) 1)),xo a18 (xo (g c 2) (rot (g c 4) 1)),xo a19 (xo (g c 3) (rot (g c 0) 1)),xo a20 (xo (g c 4) (rot (g c 1) 1)),xo a21 (xo (g c 0) (rot (g c 2) 1)),xo a22 (xo (g c 1) (rot (g c 3) 1)),xo a23 (xo (g c 2) (rot (g c 4) 1)),xo a24 (xo (g c 3) (rot (g c 0) 1))]:=by kernel_rfl
theorem b8V (a b a2 a3 c d e f h i a10 a11 a12 a13 a14 a15 a16 a17 a18 a19 a20 a21 a22 a23 a24:Int):iU (q4 [a,b,a2,a3,c,d,e,f,h,i,a10,a11,a12,a13,a14,a15,a16,a17,a18,a19,a20,a21,a22,a23,a24]) 5 (nZ 25)=[rot a 0,rot e 44,rot a12 43,rot a18 21,rot a24 14,rot a3 28,rot i 20,rot a10 3,rot a16 45,rot a22 61,rot b 1,rot f 6,rot a13 25,rot a19 8,rot a20 18,rot c 27,rot d 36,rot a11 10,rot a17 15,rot a23 56,rot a2 62,rot h 55,rot a14 39,rot a15 41,rot a21 2]:=by kernel_rfl
theorem b63 {m c:List Int} (a:m.length=25):iU (p3 m c) 25 (nZ 25)=iU (q4 (iU (q3 c) 25 m)) 5 (nZ 25):=by
 obtain ⟨b,d,a2,a3,e,f,h,i,j,k,a10,a11,a12,a13,a14,a15,a16,a17,a18,a19,a20,a21,a22,a23,a24,rfl⟩:=a0K a
 rw [b8B,b9f,b8V]
def p4' (b:List Int) (k:Nat) (l:List Int):List Int:=l.set k (xo (g b k) (cM .u64 (dz .u64 (g b ((k:Int)-(k:Int)%5+((k:Int)%5+1)%5))) (g b ((k:Int)-(k:Int)%5+((k:Int)%5+2)%5))))
theorem c6w (b:List Int):p4 b=p4' b:=by funext k l;unfold p4 p4';rw [c1k]
theorem b9u (a b a2 a3 c d e f h i a10 a11 a12 a13 a14 a15 a16 a17 a18 a19 a20 a21 a22 a23 a24 j k l m n o p q r s b10 b11 b12 b13 b14 b15 b16 b17 b18 b19 b20 b21 b22 b23 b24:Int):iU (p4' [a,b,a2,a3,c,d,e,f,h,i,a10,a11,a12,a13,a14,a15,a16,a17,a18,a19,a20,a21,a22,a23,a24]) 25 [j,k,l,m,n,o,p,q,r,s,b10,b11,b12,b13,b14,b15,b16,b17,b18,b19,b20,b21,b22,b23,b24]=[xo a (cM .u64 (dz .u64 b) a2),xo b (cM .u64 (dz .u64 a2) a3),xo a2 (cM .u64 (dz .u64 a3) c),xo a3 (cM .u64 (dz .u64 c) a),xo c (cM .u64 (dz .u64 a) b),xo d (cM .u64 (dz .u64 e) f),xo e (cM .u64 (dz .u64 f) h),xo f (cM .u64 (dz .u64 h) i),xo h (cM .u64 (dz .u64 i) d),xo i (cM .u64 (dz .u64 d) e),xo a10 (cM .u64 (dz .u64 a11) a12),xo a11 (cM .u64 (dz .u64 a12) a13),xo a12 (cM .u64 (dz .u64 a13) a14),xo a13 (cM .u64 (dz .u64 a14) a10),xo a14 (cM .u64 (dz .u64 a10) a11),xo a15 (cM .u64 (dz .u64 a16) a17),xo a16 (cM .u64 (dz .u64 a17) a18),xo a17 (cM .u64 (dz .u64 a18) a19),xo a18 (cM .u64 (dz .u64 a19) a15),xo a19 (cM .u64 (dz .u64 a15) a16),xo a20 (cM .u64 (dz .u64 a21) a22),xo a21 (cM .u64 (dz .u64 a22) a23),xo a22 (cM .u64 (dz .u64 a23) a24),xo a23 (cM .u64 (dz .u64 a24) a20),xo a24 (cM .u64 (dz .u64 a20) a21)]:=by kernel_rfl
theorem c0Z (a b a2 a3 c d e f h i a10 a11 a12 a13 a14 a15 a16 a17 a18 a19 a20 a21 a22 a23 a24 j k l m n o p q r s b10 b11 b12 b13 b14 b15 b16 b17 b18 b19 b20 b21 b22 b23 b24:Int):iU (q6 [a,b,a2,a3,c,d,e,f,h,i,a10,a11,a12,a13,a14,a15,a16,a17,a18,a19,a20,a21,a22,a23,a24]) 5 [j,k,l,m,n,o,p,q,r,s,b10,b11,b12,b13,b14,b15,b16,b17,b18,b19,b20,b21,b22,b23,b24]=[xo a (cM .u64 (dz .u64 b) a2),xo b (cM .u64 (dz .u64 a2) a3),xo a2 (cM .u64 (dz .u64 a3) c),xo a3 (cM .u64 (dz .u64 c) a),xo c (cM .u64 (dz .u64 a) b),xo d (cM .u64 (dz .u64 e) f),xo e (cM .u64 (dz .u64 f) h),xo f (cM .u64 (dz .u64 h) i),xo h (cM .u64 (dz .u64 i) d),xo i (cM .u64 (dz .u64 d) e),xo a10 (cM .u64 (dz .u64 a11) a12),xo a11 (cM .u64 (dz .u64 a12) a13),xo a12 (cM .u64 (dz .u64 a13) a14),xo a13 (cM .u64 (dz .u64 a14) a10),xo a14 (cM .u64 (dz .u64 a10) a11),xo a15 (cM .u64 (dz .u64 a16) a17),xo a16 (cM .u64 (dz .u64 a17) a18),xo a17 (cM .u64 (dz .u64 a18) a19),xo a18 (cM .u64 (dz .u64 a19) a15),xo a19 (cM .u64 (dz .u64 a15) a16),xo a20 (cM .u64 (dz .u64 a21) a22),xo a21 (cM .u64 (dz .u64 a22) a23),xo a22 (cM .u64 (dz .u64 a23) a24),xo a23 (cM .u64 (dz .u64 a24) a20),xo a24 (cM .u64 (dz .u64 a20) a21)]:=by kernel_rfl
theorem c0y {b m a:List Int} (c:b.length=25) (d:m.length=25) (e:a.length=25):iU (p4 b) 25 m=iU (q6 b) 5 a:=by
 rw [c6w]
 obtain ⟨f,h,a2,a3,i,j,k,l,n,o,a10,a11,a12,a13,a14,a15,a16,a17,a18,a19,a20,a21,a22,a23,a24,rfl⟩:=a0K c
 obtain ⟨p,q,r,s,t,u,v,w,x,y,b10,b11,b12,b13,b14,b15,b16,b17,b18,b19,b20,b21,b22,b23,b24,rfl⟩:=a0K d
 obtain ⟨z,c1,c2,c3,c4,c5,c6,c7,c8,c9,c10,c11,c12,c13,c14,c15,c16,c17,c18,c19,c20,c21,c22,c23,c24,rfl⟩:=a0K e
 rw [b9u,c0Z]
theorem b67 {m:List Int} {rc:Int} (h:m5 m):CE m rc=a4y m rc:=by
 unfold CE a4y
 dsimp only
 have b:=b7r h
 unfold cs at b
 rw [b]
 have hc:(iU (q2 m) 5 (nZ 5)).length=5:=by rw [a3R,pk]
 have c:(iU (q3 (iU (q2 m) 5 (nZ 5))) 25 m).length=25:=by rw [Sx];exact h.1
 rw [b63 h.1]
 rw [c0y (a:=iU (q3 (iU (q2 m) 5 (nZ 5))) 25 m) (by rw [a5C,pk]) h.1 c]
theorem b5W {m:List Int} {rc:Int} (h:m5 m):m5 (CE m rc):=by
 have d:(CE m rc).length=25:=by
  unfold CE;dsimp only;rw [bf,Wr];exact h.1
 refine ⟨d, ?_⟩
 unfold CE
 dsimp only
 have e:(iU (p3 m (iU (p2 m) 25 (nZ 5))) 25 (nZ 25)).length=25:=by rw [Y1,pk]
 generalize iU (p3 m (iU (p2 m) 25 (nZ 5))) 25 (nZ 25)=b at e
 have key: ∀k,k<=25-> ∀i,i<k-> ∀hi:i<(iU (p4 b) k m).length,P0 (iU (p4 b) k m)[i]:=by
  intro k
  induction k with
  |zero=>intro _ i hi;omega
  |succ k ih=>
   intro j i hi a
   simp only [iU,p4]
   rw [List.getElem_set]
   split
   ·exact c4h _ _
   ·exact ih om i om (by simpa [iU,p4] using a)
 intro x f
 rcases dS f with c|c
 ·obtain ⟨i,hi,rfl⟩:=bp c
  exact key 25 om i (by rw [Wr] at hi;have:=h.1;omega) hi
 ·rw [c];exact c4h _ _
end Go.AI.Fn
set_option maxRecDepth 10000
namespace Go.AI.Fn
def rcL:List Int:=[1,32898,9223372036854808714,9223372039002292224,32907,2147483649,9223372039002292353,9223372036854808585,138,136,2147516425,2147483658,2147516555,9223372036854775947,9223372036854808713,9223372036854808579,9223372036854808578,9223372036854775936,32778,9223372039002259466,9223372039002292353,9223372036854808704,2147483649,9223372039002292232]
theorem c2y:[1,32898,9223372036854808714,9223372039002292224,32907,2147483649,9223372039002292353,9223372036854808585,138,136,2147516425,2147483658,2147516555,9223372036854775947,9223372036854808713,9223372036854808579,9223372036854808578,9223372036854775936,32778,9223372039002259466,9223372039002292353,9223372036854808704,2147483649,9223372039002292232]=rcL:=rfl
theorem a9x:[0,1,62,28,27,36,44,6,55,20,3,10,43,25,39,41,45,15,21,8,18,2,61,56,14]=s6:=rfl
theorem Yu:rcL.length=24:=rfl
def rdP (k:Nat) (m:List Int):List Int:=CE m (rcL.getD k 0)
def T8 (m:List Int):List Int:=iU rdP 24 m
theorem Yx (k:Nat) (m:List Int):iU rdP (k+1) m=CE (iU rdP k m) (rcL.getD k 0):=by rw [iU,rdP]
theorem a7s {m:List Int} (h:m5 m): ∀k,m5 (iU rdP k m)
 |0=>h
 |k+1=>by rw [Yx];exact b5W (a7s h k)
theorem Ze {m:List Int} (h:m5 m):m5 (T8 m):=a7s h 24
theorem ZP {m:List Int} (h:m5 m):mJ m=some (T8 m):=by
 unfold mJ
 have key:Loop (gI s6 rcL rcL) (m,0)=some (T8 m,24,false):=
  bu (fun k=>(iU rdP k m,(k:Int))) 24 (fun k c=>by
   have a:=a7s h k
   have b:=a.1
   have d:=Yu
   simp only [gI]
   simp (disch:=omega) only [brd,FU,i5,ak]
   rw [c0c a.1,obs,b7d a.1 (by rw [b4t,pk]),obs,brd (by rw [Y1,pk]),b9T a.1 (by rw [Y1,pk]),obs]
   have e:=Wr (iU (p3 (iU rdP k m) (iU (p2 (iU rdP k m)) 25 (nZ 5))) 25 (nZ 25)) 25 (iU rdP k m)
   simp (disch:=omega) only [i5,brd]
   rw [Yx]
   unfold CE
   simp only [l5,aK]) (by simp (disch:=omega) only [gI,brn];rfl)
 rw [c2y,a9x,key,obs]
theorem ZU {m:List Int} (h:m5 m):sw m=some (T8 m):=by
 unfold sw
 have key:Loop (js (nZ 25) rcL s6) (m,0)=some (T8 m,24,false):=
  bu (fun k=>(iU rdP k m,(k:Int))) 24 (fun k e=>by
   have a:=a7s h k
   have c:=a.1
   have f:=Yu
   simp only [js]
   rw [brd om,c0n a.1,obs,c0K a.1 (by rw [a3R,pk]),obs,b7S (pk 25) (by rw [Sx];exact a.1),obs,
    b83 (by rw [Sx];exact a.1) (by rw [a5C,pk]),obs]
   have d:=b3Y (iU (q4 (iU (q3 (iU (q2 (iU rdP k m)) 5 (nZ 5))) 25 (iU rdP k m))) 5 (nZ 25)) 5 (iU (q3 (iU (q2 (iU rdP k m)) 5 (nZ 5))) 25 (iU rdP k m))
   rw [Sx] at d
   simp (disch:=omega) only [i5,brd,FU,ak]
   rw [Yx,b67 a]
   unfold a4y
   simp only [l5,aK]) (by simp (disch:=omega) only [js,brn];rfl)
 have b:=(Ze h).1
 rw [brd h.1]
 show (some rcL).bind _=_
 rw [obs,brd Yu]
 show (some s6).bind _=_
 rw [obs,brd MU,key,obs,brd b,brd b,brd b]
theorem Xf {l:List UInt8} {k:Nat} (h:k<l.length):atL l (k:Int)=some (l.getD k 0):=by simp [atL,h]
def lnS (t:List UInt8) (k:Nat) (l:List Int):List Int:=l.set ((k:Int)/8).toNat (xz .u64 (g l ((k:Int)/8)) (bC .u64 (IntKind.wrap .u64 ((t.getD k 0).toNat:Int)) (8*((k:Int)%8))))
def AN (t:List UInt8):List Int:=iU (lnS t) t.length (nZ 25)
theorem ZQ (t:List UInt8) (k:Nat) (l:List Int):(iU (lnS t) k l).length=l.length:=wg (fun _ _=>bf) k l
theorem G2 (t:List UInt8):m5 (AN t):=by
 refine ⟨by rw [AN,ZQ,pk], ?_⟩
 have key: ∀k, ∀x∈iU (lnS t) k (nZ 25),P0 x:=by
  intro k
  induction k with
  |zero=>intro x a;simp only [iU,nZ,gu] at a;rw [a.2];exact ⟨by decide,by decide⟩
  |succ k ih=>
   intro x a
   rcases dS a with b|b
   ·exact ih x b
   ·rw [b];exact Xb _
 exact key _
theorem Zm {t:List UInt8} (h:t.length<=200):BI t=some (AN t):=by
 unfold BI
 have key:Loop (mR (nZ 25) t (t.length:Int)) (nZ 25,0)=some (AN t,(t.length:Int),false):=
  bu (fun k=>(iU (lnS t) k (nZ 25),(k:Int))) t.length (fun k b=>by
   have a:=ZQ t k (nZ 25)
   rw [pk] at a
   simp only [mR]
   simp (disch:=omega) only [brd,ej,qf,FU,i5,ak,Xf,obs]
   rfl) (by simp (disch:=omega) only [mR,brn];simp;rfl)
 have a:=(G2 t).1
 rw [key,obs,brd a,brd a,brd a]
theorem a4o {t:List UInt8} (h:t.length<=200):z7 t=some (AN t):=by
 unfold z7
 have key:Loop (lj (nZ 25) t) (nZ 25,0)=some (AN t,(t.length:Int),false):=
  bu (fun k=>(iU (lnS t) k (nZ 25),(k:Int))) t.length (fun k b=>by
   have a:=ZQ t k (nZ 25)
   rw [pk] at a
   simp only [lj]
   simp (disch:=omega) only [brd,ej,qf,FU,i5,ak,en,Xf,obs]
   rfl) (by simp (disch:=omega) only [lj,brn];simp;rfl)
 have a:=(G2 t).1
 rw [key,obs,brd a,brd a,brd a]
def txB (m:List Int) (i:Nat):UInt8:=UInt8.ofInt (bW .u64 (g m ((i:Int)/8)) (8*((i:Int)%8)))
def yZ (m:List Int) (n:Nat):List UInt8:=(List.range n).map (txB m)
theorem Ha (m:List Int) (n:Nat):(yZ m n).length=n:=by simp [yZ]
theorem SI (m:List Int) (n:Nat):yZ m (n+1)=yZ m n++[txB m n]:=by simp [yZ,gJ]
theorem a8F {m:List Int} (h:m.length=25):sh m=some (yZ m 200,m):=by
 unfold sh
 have key:Loop (jp m) ([],0)=some (yZ m 200,200,false):=
  bu (fun k=>(yZ m k,(k:Int))) 200 (fun k a=>by
   have b:=Ha m k
   simp only [jp]
   simp (disch:=omega) only [brd,ej,qf,FU,i5,ak]
   rw [bt (by simp only [ab,ah,ai];omega),SI]
   rfl) (by simp (disch:=omega) only [jp,brn];rfl)
 rw [key];rfl
theorem b1c {m:List Int} (h:m.length=25) {n:Nat} (hn:n<=200):BR m n=some (yZ m n):=by
 unfold BR
 have key:Loop (mY m n) ([],0)=some (yZ m n,(n:Int),false):=
  bu (fun k=>(yZ m k,(k:Int))) n (fun k a=>by
   have b:=Ha m k
   simp only [mY]
   simp (disch:=omega) only [brd,ej,qf,FU,i5,ak,en]
   rw [bt (by simp only [ab,ah,ai];omega),SI]
   rfl) (by simp (disch:=omega) only [mY,brn];simp)
 rw [brd h,key];rfl
end Go.AI.Fn
namespace Go.AI.Fn
def xoS (t:List Int) (k:Nat) (l:List Int):List Int:=l.set k (xo (g l k) (g t k))
def b0o (t m:List Int):List Int:=iU (xoS t) 25 m
theorem Yo (t:List Int) (k:Nat) (l:List Int):(iU (xoS t) k l).length=l.length:=wg (fun _ _=>bf) k l
theorem a5q {t m:List Int} (h:m5 m):m5 (b0o t m):=by
 refine ⟨by rw [b0o,Yo];exact h.1, ?_⟩
 have key: ∀k, ∀x∈iU (xoS t) k m,P0 x:=by
  intro k
  induction k with
  |zero=>exact h.2
  |succ k ih=>
   intro x b
   rcases dS b with a|a
   ·exact ih x a
   ·rw [a];exact Xb _
 exact key _
theorem b5z {b a:List UInt8} {t m:List Int} (c:t.length=25) (h:m.length=25):Loop (ol b a t) (m,0)=some (b0o t m,25,false):=
 bu (fun k=>(iU (xoS t) k m,(k:Int))) 25 (fun k d=>by
  have e:=Yo t k m
  simp only [ol]
  simp (disch:=omega) only [brd,FU,i5,ak]
  rfl) (by simp (disch:=omega) only [ol,brn];rfl)
theorem b2e {b a:List UInt8} {p:Int} {t m:List Int} (c:t.length=25) (h:m.length=25):Loop (mX b t a p) (m,0)=some (b0o t m,25,false):=
 bu (fun k=>(iU (xoS t) k m,(k:Int))) 25 (fun k d=>by
  have e:=Yo t k m
  simp only [mX]
  simp (disch:=omega) only [brd,FU,i5,ak]
  rfl) (by simp (disch:=omega) only [mX,brn];rfl)
def c81 (a:List UInt8) (k:Nat) (m:List Int):List Int:=T8 (b0o (AN ((a.drop (136*k)).take 136)) m)
def WE (a:List UInt8) (n:Nat):List Int:=iU (c81 a) n (nZ 25)
theorem c6Y:m5 (nZ 25):=⟨pk 25,fun x a=>by simp only [nZ,gu] at a;rw [a.2];exact ⟨by decide,by decide⟩⟩
theorem Sd (a:List UInt8) (n:Nat):WE a (n+1)=T8 (b0o (AN ((a.drop (136*n)).take 136)) (WE a n)):=by
 unfold WE;rw [iU,c81]
theorem PS (a:List UInt8): ∀n,m5 (WE a n)
 |0=>c6Y
 |n+1=>by rw [Sd];exact Ze (a5q (PS a n))
theorem b2Y {l4 a:List UInt8} {n:Nat} (h:a.length=136*n) (hn:n<=1000000000):Loop (ox l4) (nZ 25,a)=some (WE a n,[],false):=
 bu (fun k=>(WE a k,a.drop (136*k))) n (fun k d=>by
  have b:=PS a k
  have c:=a5q (t:=AN ((a.drop (136*k)).take 136)) b
  simp only [ox]
  rw [brd (by rw [dR];omega),ma om om (by rw [dR];omega),obs,ma om (by rw [dR];omega) om]
  have e1:(List.drop (Int.toNat 0) (List.drop (136*k) a)).take (Int.toNat 136-Int.toNat 0)=(a.drop (136*k)).take 136:=rfl
  have e2:(List.drop (Int.toNat 136) (List.drop (136*k) a)).take ((((List.drop (136*k) a).length:Nat):Int).toNat-Int.toNat 136)=a.drop (136*(k+1)):=by
   rw [List.drop_drop,ca (by rw [dR,dR];simp;omega)]
   congr 1
  rw [e1,e2,Zm (by rw [bc];omega),obs,b5z (G2 _).1 b.1,obs,ZP c,obs,obs,Sd]) (by
  simp only [ox]
  rw [brn (by rw [dR];omega),gy om]
  rfl)
theorem b6k {l3 a:List UInt8} {n:Nat} (h:a.length=136*n) (hn:n<=1000000000): ∃p,Loop (mT l3 a) (nZ 25,0)=some (WE a n,p):=
 ⟨_,bu (fun k=>(WE a k,((136*k:Nat):Int))) n (fun k d=>by
   have c:=PS a k
   have b:=a5q (t:=AN ((a.drop (136*k)).take 136)) c
   simp only [mT]
   rw [brd om,ak _ om om,ma om om om,obs]
   have e1:(List.drop (((136*k:Nat):Int)).toNat a).take (((((136*k:Nat):Int))+136).toNat-(((136*k:Nat):Int)).toNat)=(a.drop (136*k)).take 136:=by
    congr 1
    omega
   rw [e1,a4o (by rw [bc];omega),obs,brd (G2 _).1,b2e (G2 _).1 c.1,obs,brd b.1,ZU b,obs,FU (Ze b).1 b.1,Sd]
   have e2:(((136*k:Nat):Int))+136=((136*(k+1):Nat):Int):=by omega
   rw [e2]) (by
   simp only [mT]
   rw [brn om])⟩
def LR (l:List UInt8):List UInt8:=l++List.replicate ((136-l.length%136)%136) 0
theorem QB (l:List UInt8):(LR l).length=136*((l.length+135)/136):=by
 rw [LR,ab,aS];omega
theorem a0U {α:Type} (n:Nat) (x:α):List.replicate (n+1) x=List.replicate n x++[x]:=by
 rw [List.replicate_succ']
theorem b68 {c l:List UInt8} (h:l.length<=1000000000):Loop (m4 c) l=some (LR l,false):=by
 have key:=bu (step:=m4 c) (e:=(LR l,false)) (fun k=>l++List.replicate k 0) ((136-l.length%136)%136) (fun k a=>by
  simp only [m4]
  rw [ej _ _ om,brb (by rw [ab,aS];omega),bt (by simp only [ab,aS,ah,ai];omega),a0U,aV]) (by
  simp only [m4]
  have e:((((l++List.replicate ((136-l.length%136)%136) (0:UInt8)).length:Nat):Int).tmod 136)=0:=by
   rw [ej _ _ om,ab,aS];omega
  rw [e,fk rfl];rfl)
 rwa [lf,bU] at key
theorem b2a {c l:List UInt8} (h:l.length<=1000000000):Loop (kH c) l=some (LR l,false):=by
 have key:=bu (step:=kH c) (e:=(LR l,false)) (fun k=>l++List.replicate k 0) ((136-l.length%136)%136) (fun k a=>by
  simp only [kH]
  rw [ej _ _ om,brb (by rw [ab,aS];omega),bt (by simp only [ab,aS,ah,ai];omega),a0U,aV]) (by
  simp only [kH]
  have e:((((l++List.replicate ((136-l.length%136)%136) (0:UInt8)).length:Nat):Int).tmod 136)=0:=by
   rw [ej _ _ om,ab,aS];omega
  rw [e,fk rfl];rfl)
 rwa [lf,bU] at key
def Px (b:List UInt8):List UInt8:=(LR (b++[1])).set ((LR (b++[1])).length-1) (UInt8.ofInt (xz .u8 (((LR (b++[1])).getD ((LR (b++[1])).length-1) 0).toNat:Int) 128))
def H (b:List UInt8):List UInt8:=yZ (WE (Px b) ((b.length+136)/136)) 32
theorem E7 (b:List UInt8):(H b).length=32:=Ha _ _
theorem a0R (b:List UInt8):(Px b).length=136*((b.length+136)/136):=by
 rw [Px,bf,QB,ab,am]
theorem b38 {β:Type} {l:List UInt8} {i:Nat} {f:UInt8->Option β} (h:i<l.length):(l[i]?).bind f=f (l.getD i 0):=by simp [h]
theorem a4P (m:List Int):(yZ m 200).take 32=yZ m 32:=by
 rw [yZ, <-List.map_take,List.take_range];rfl
theorem tp {b:List UInt8} (h:b.length<=100000000):l8 b=some (H b):=by
 unfold l8
 have e:=QB (b++[1])
 rw [ab,am] at e
 have a:=a0R b
 rw [bt om,bt (by rw [ab,am];omega),b2a (by rw [ab,am];omega),obs]
 dsimp only
 rw [ak _ om om]
 have ei:(((LR (b++[1])).length:Int)-1).toNat=(LR (b++[1])).length-1:=by omega
 rw [ei]
 simp (disch:=omega) only [brd,b38]
 obtain ⟨p,c⟩:=b6k (l3:=[1]) a om
 unfold Px at c
 rw [c,obs]
 dsimp only
 have ok:=PS (Px b) ((b.length+136)/136)
 unfold Px at ok
 rw [brd ok.1]
 have d:=b1c (n:=32) ok.1 om
 rw [show ((32:Nat):Int)=32 from rfl] at d
 rw [d,obs,H,Px]
theorem a3t {l:List (List UInt8)} (h:l.flatten.length<=1000000000) (hn:l.length<=1000000):Loop (oN l (l.length:Int)) ([],0)=some (l.flatten,(l.length:Int),false):=
 bu (fun k=>((l.take k).flatten,(k:Int))) l.length (fun k a=>by
  simp only [oN]
  have b:((l.take k).flatten++l[k]).length<=l.flatten.length:=by
   have e:l.flatten=(l.take (k+1)).flatten++(l.drop (k+1)).flatten:=by rw [<-rD,oX]
   rw [db a,rD,List.flatten_singleton] at e
   have e2:=congrArg List.length e
   simp only [ab] at e2 ⊢
   omega
  rw [brd om,ck a,obs,bt om,ak _ om om,db a,rD,List.flatten_singleton]
  rfl) (by
  simp only [oN]
  rw [brn om,bk];simp)
theorem v8 {l:List (List UInt8)} (h:l.flatten.length<=100000000) (hn:l.length<=1000000):s3 l=some (H l.flatten):=by
 unfold s3
 rw [a3t om hn,obs]
 dsimp only
 generalize l.flatten=b at h
 have d:=QB (b++[1])
 rw [ab,am] at d
 have a:=a0R b
 rw [bt (by rw [ab,am];omega),b68 (by rw [ab,am];omega),obs]
 dsimp only
 rw [ak _ om om]
 have ei:(((LR (b++[1])).length:Int)-1).toNat=(LR (b++[1])).length-1:=by omega
 rw [ei]
 simp (disch:=omega) only [brd,b38]
 have c:=b2Y (l4:=[1]) a om
 unfold Px at c
 rw [c,obs]
 dsimp only
 have ok:=PS (Px b) ((b.length+136)/136)
 unfold Px at ok
 rw [a8F ok.1,obs,ma om om (by rw [Ha];omega),obs,H,Px, <-a4P]
 rfl
theorem NE {t:List UInt8} (h:t.length<=100000000):Ck t=some (H t):=by
 unfold Ck
 rw [bt om,v8 (by simpa using h) (by simp)]
 simp
end Go.AI.Fn
namespace Go.AI.Fn
def ig (n:Int):List UInt8:=[UInt8.ofInt (bW .i64 n 24),UInt8.ofInt (bW .i64 n 16),UInt8.ofInt (bW .i64 n 8),UInt8.ofInt n]
def e8 (x:Ext):List UInt8:=ig x.A++ig x.B
theorem dG (n:Int):(ig n).length=4:=rfl
theorem c5M (x:Ext):(e8 x).length=8:=rfl
theorem qQ {n:Int} {l:List UInt8} (h:l.length<=1099511627770):l7 n l=some (l++ig n):=by
 unfold l7
 rw [G7 (Pb (by simp only [ab,ah,ai];omega))];rfl
theorem c8o (n:Int):bW .i64 n 0=n:=by simp [bW]
theorem A4 (n:Int):fZ n 4=some (ig n):=by
 unfold fZ
 rw [show IntKind.wrap .i64 (4-1)=3 by decide,
  cf (s':=([UInt8.ofInt (bW .i64 n 24)],2)) (by kernel_rfl),
  cf (s':=([UInt8.ofInt (bW .i64 n 24),UInt8.ofInt (bW .i64 n 16)],1)) (by kernel_rfl),
  cf (s':=([UInt8.ofInt (bW .i64 n 24),UInt8.ofInt (bW .i64 n 16),UInt8.ofInt (bW .i64 n 8)],0)) (by kernel_rfl),
  cf (s':=([UInt8.ofInt (bW .i64 n 24),UInt8.ofInt (bW .i64 n 16),UInt8.ofInt (bW .i64 n 8),UInt8.ofInt (bW .i64 n 0)], -1)) (by kernel_rfl),
  bX (e:=([UInt8.ofInt (bW .i64 n 24),UInt8.ofInt (bW .i64 n 16),UInt8.ofInt (bW .i64 n 8),UInt8.ofInt (bW .i64 n 0)], -1,false)) (by kernel_rfl),c8o]
 rfl
theorem IA {l:List Ext} (j:l.length<=4194304):tk l=some (l.flatMap e8):=by
 unfold tk
 have key:=pz (step:=kY l (l.length:Int))
  (fun s=>0<=s.2/\s.2<=l.length/\(s.1.length:Int)=8*s.2/\s.1++(l.drop s.2.toNat).flatMap e8=l.flatMap e8) (fun s=>(l.length-s.2).toNat)
  (fun e=>e.1=l.flatMap e8) ?_ ([],0) ⟨by first|omega| (dsimp only;omega),by first|omega| (dsimp only;omega),by simp,rfl⟩
 ·obtain ⟨e,b,h⟩:=key
  rw [b];simp only [obs,h]
 ·rintro ⟨o,t⟩ ⟨h0,d,f,a⟩
  dsimp only at h0 d a f
  by_cases c:t<(l.length:Int)
  ·left
   obtain ⟨x,r,e1,e2,k⟩:=ou (l:=l) (i:=t.toNat) om
   simp only [kY]
   rw [brd c,a0a h0 e1]
   simp only [obs]
   rw [qQ om]
   simp only [obs]
   rw [qQ (by simp only [ab,dG];omega),ak (t+1) om om]
   refine ⟨_,rfl,⟨by first|omega| (dsimp only;omega),by first|omega| (dsimp only;omega), ?_, ?_⟩,by first|omega| (dsimp only;omega)⟩
   ·simp only [ab,dG];omega
   ·dsimp only
    rw [show (t+1).toNat=t.toNat+1 by omega,e2]
    rw [e1,cm] at a
    simpa [e8] using a
  ·right
   simp only [kY]
   rw [brn c]
   refine ⟨_,rfl, ?_⟩
   rw [gy om] at a
   simpa using a
theorem Ri {l:List Ext} (j:l.length<=4194304):tB l=some (l.flatMap e8):=by
 unfold tB
 have key:=pz (step:=kZ l)
  (fun s=>0<=s.2/\s.2<=l.length/\(s.1.length:Int)=8*s.2/\s.1++(l.drop s.2.toNat).flatMap e8=l.flatMap e8) (fun s=>(l.length-s.2).toNat)
  (fun e=>e.1=l.flatMap e8) ?_ ([],0) ⟨by first|omega| (dsimp only;omega),by first|omega| (dsimp only;omega),by simp,rfl⟩
 ·obtain ⟨e,b,h⟩:=key
  rw [b];simp only [obs,h]
 ·rintro ⟨o,t⟩ ⟨h0,d,f,a⟩
  dsimp only at h0 d a f
  by_cases c:t<(l.length:Int)
  ·left
   obtain ⟨x,r,e1,e2,k⟩:=ou (l:=l) (i:=t.toNat) om
   simp only [kZ]
   rw [brd c,a0a h0 e1]
   simp only [obs,A4]
   rw [G7 (Pb (by simp only [ab,dG];omega)),G7 (Pb (by simp only [ab,dG];omega)),ak (t+1) om om]
   refine ⟨_,rfl,⟨by first|omega| (dsimp only;omega),by first|omega| (dsimp only;omega), ?_, ?_⟩,by first|omega| (dsimp only;omega)⟩
   ·simp only [ab,dG];omega
   ·dsimp only
    rw [show (t+1).toNat=t.toNat+1 by omega,e2]
    rw [e1,cm] at a
    simpa [e8] using a
  ·right
   simp only [kZ]
   rw [brn c]
   refine ⟨_,rfl, ?_⟩
   rw [gy om] at a
   simpa using a
end Go.AI.Fn
namespace Go.AI.Fn
def be (w x y z:UInt8):Int:=(((w.toNat:Int)*256+x.toNat)*256+y.toNat)*256+z.toNat
theorem c8Q {l:List UInt8} (h:8<=l.length): ∃a b c d e f g k r,l=a::b::c::d::e::f::g::k::r:=by
 match l,h with
 |a::b::c::d::e::f::g::k::r,_=>exact ⟨a,b,c,d,e,f,g,k,r,rfl⟩
theorem b7Q {n:Int} (x:UInt8) (h0:0<=n) (c:n<16777216):xz .i64 (bC .i64 n 8) (IntKind.wrap .i64 (x.toNat:Int))=n*256+x.toNat:=by
 have d:=zV x
 have e1:bC .i64 n 8=n*256:=by
  have:n*2^(min (8:Int).toNat (IntKind.bits .i64))=n*256:=by
   have:(2:Int)^(min (8:Int).toNat (IntKind.bits .i64))=256:=by decide
   rw [this]
  unfold bC
  rw [this,ak _ om om]
 rw [e1,ak (x.toNat:Int) om om]
 unfold xz
 obtain ⟨m,rfl⟩:=nw h0
 have e2:(BitVec.ofInt (IntKind.bits .i64) ((m:Int)*256)|||BitVec.ofInt (IntKind.bits .i64) (x.toNat:Int)).toNat=m*256+x.toNat:=by
  rw [BitVec.toNat_or,gr,gr]
  have a:(((m:Int)*256)%((2^(IntKind.bits .i64):Nat):Int)).toNat=m<<<8:=by
   rw [show ((2^(IntKind.bits .i64):Nat):Int)=18446744073709551616 by decide,nX];omega
  have b:((x.toNat:Int)%((2^(IntKind.bits .i64):Nat):Int)).toNat=x.toNat:=by
   rw [show ((2^(IntKind.bits .i64):Nat):Int)=18446744073709551616 by decide];omega
  rw [a,b, <-Nat.shiftLeft_add_eq_or_of_lt (show x.toNat<2^8 by omega),nX]
 rw [e2,ak _ om om]
 omega
theorem a34 (w x y z:UInt8):F8 [w,x,y,z]=some (be w x y z):=by
 have f:=zV w
 have h:=zV x
 have i:=zV y
 have j:=zV z
 unfold F8
 have st: ∀(n t:Int) (b:UInt8),0<=n->n<16777216->0<=t->t<4->[w,x,y,z][t.toNat]? =some b->oR [w,x,y,z] (([w,x,y,z].length:Nat):Int) (n,t)=some (.inl (n*256+b.toNat,t+1)):=by
  intro n t b h0 a c k d
  simp only [oR]
  rw [brd (by simp only [ah,ai];omega),show atL [w,x,y,z] t=some b by simp [atL,c,d]]
  simp only [obs]
  rw [b7Q b h0 a,ak (t+1) om om]
 rw [cf (st 0 0 w om om om om rfl),cf (st _ _ x om om om om rfl),cf (st _ _ y om om om om rfl),cf (st _ _ z om om om om rfl)]
 rw [bX (e:=(be w x y z,4,false)) ?_]
 ·rfl
 ·simp only [oR]
  rw [brn (by simp only [ah,ai];omega)]
  simp [be]
theorem c3Q (n:Int) (k:Nat) (a:k<=64) (h0:0<=n):bW .i64 n (k:Int)=n/2^k:=by
 unfold bW
 have:min ((k:Int).toNat) (IntKind.bits .i64)=k:=by simp [IntKind.bits];omega
 rw [this,lh _ (by exact Int.pow_nonneg (by decide))]
end Go.AI.Fn
namespace Go.AI.Fn
def b4q:List UInt8:=[97,98,115,111,114,98]
def Zx:List UInt8:=[100,114,97,119]
def OB:List UInt8:=[103,114,105,110,100]
def XU (s:Source):Bool:=decide (s.Script.length<=64)&&(s.Script.all n0&&(decide (s.State.length=32)&&((decide (0<=s.At)&&decide (s.At<=1000000))&&(decide (0<=s.Count)&&decide (s.Count<=1000000)))))
structure FT (s:Source):Prop where
 len:s.Script.length<=64
 scr:hG s.Script
 st:s.State.length=32
 a0:0<=s.At
 a1:s.At<=1000000
 c0:0<=s.Count
 c1:s.Count<=1000000
theorem QP {s:Source}:XU s=true↔FT s:=by
 unfold XU
 simp only [aD,aC,b9s]
 exact ⟨fun ⟨a,b,c,⟨d,e⟩,f,i⟩=>⟨a,b,c,d,e,f,i⟩,fun h=>⟨h.1,h.2,h.3,⟨h.4,h.5⟩,h.6,h.7⟩⟩
theorem A1 (h:List UInt8):uY h=some (decide (h.length=32)):=by
 unfold uY
 congr 1
 by_cases c:h.length=32
 ·rw [al c,c];rfl
 ·rw [ag c];simp;omega
theorem TZ {s:Source} (b:s.Script.length<=1099511627776):yz s=some (XU s):=by
 unfold yz XU
 rw [M3 b]
 by_cases a:s.Script.length<=64
 ·rw [brd om,al a,obs,A1,GS,GS]
  cases s.Script.all n0
  ·rfl
  ·simp only [cK,obs,aN]
   cases decide (s.State.length=32)
   ·rfl
   ·simp only [cK,aN]
    cases (decide (0<=s.At)&&decide (s.At<=1000000))<;>rfl
 ·rw [brn om,ag a];rfl
theorem Uk {s:Source} (b:s.Script.length<=1099511627776):yh s=some (XU s):=by
 unfold yh XU
 rw [oc b]
 have e:((s.State.length:Int)==32)=decide (s.State.length=32):=by
  by_cases c:s.State.length=32
  ·rw [al c,c];rfl
  ·rw [ag c];simp;omega
 by_cases a:s.Script.length<=64
 ·rw [brd om,al a,obs,KP,KP,e]
  cases s.Script.all n0
  ·rfl
  ·simp only [cK,obs,aN]
   cases (decide (0<=s.At)&&decide (s.At<=1000000))
   ·simp [br]
   ·simp only [cK,aN]
    cases decide (s.State.length=32)<;>rfl
 ·rw [brn om,ag a];rfl
theorem H7 (n:Int):Gc n=some (ig n):=by
 unfold Gc;rw [bt (by simp only [ah,ai];omega)];rfl
theorem c7L {l:List UInt8} (h:4<=l.length):l.take 4=[l.getD 0 0,l.getD 1 0,l.getD 2 0,l.getD 3 0]:=by
 match l,h with
 |a::b::c::d::r,_=>rfl
theorem a1F {n:Int} {k:Nat} (a:k<=64) (h0:0<=n):(bW .i64 n (k:Int)==0)=decide (n<2^k):=by
 rw [c3Q n k a h0]
 have b:(0:Int)<2^k:=Int.pow_pos (by decide)
 by_cases h:n<2^k
 ·rw [al h,Int.ediv_eq_zero_of_lt h0 h];rfl
 ·rw [ag h]
  have:1<=n/2^k:=(Int.le_ediv_iff_mul_le b).2 om
  simp;omega
def S8 (st:List UInt8) (bits:Nat) (nonce:Int):Bool:=decide (((H (st++(OB++ig nonce))).getD 0 0).toNat*256+((H (st++(OB++ig nonce))).getD 1 0).toNat<2^(16-bits))
theorem c2k: ∀b:Nat,b<=12->(2:Int)^(32-b)=65536*((2^(16-b):Nat):Int)/\(2:Int)^(16-b)=((2^(16-b):Nat):Int):=by decide
theorem b0q {s:Source} {bits:Nat} {nonce:Int} (i:s.State.length=32) (c:bits<=12):pN s bits nonce=some (S8 s.State bits nonce):=by
 unfold pN
 have b:[s.State,[103,114,105,110,100],ig nonce].flatten=s.State++(OB++ig nonce):=by simp [OB]
 have j:(ig nonce).length=4:=dG nonce
 have k:OB.length=5:=rfl
 rw [bt om,H7,obs,v8 (by rw [b];simp only [ab];omega) (by simp),obs,b]
 have d:=E7 (s.State++(OB++ig nonce))
 unfold S8
 generalize H (s.State++(OB++ig nonce))=h at d
 rw [bt om,ma om om om,obs]
 have e:(h.drop (Int.toNat 0)).take (Int.toNat 4-Int.toNat 0)=[h.getD 0 0,h.getD 1 0,h.getD 2 0,h.getD 3 0]:=by
  show h.take 4=_
  exact c7L om
 rw [e,a34,obs,ak _ om om,brd om,show (32:Int)-(bits:Int)=((32-bits:Nat):Int) by omega]
 have l:=zV (h.getD 0 0)
 have m:=zV (h.getD 1 0)
 have n:=zV (h.getD 2 0)
 have o:=zV (h.getD 3 0)
 obtain ⟨f,p⟩:=c2k bits c
 rw [a1F om (by unfold be;omega),f]
 congr 1
 have a:be (h.getD 0 0) (h.getD 1 0) (h.getD 2 0) (h.getD 3 0)<65536*((2^(16-bits):Nat):Int)↔(h.getD 0 0).toNat*256+(h.getD 1 0).toNat<2^(16-bits):=by
  unfold be;omega
 exact decide_eq_decide.2 a
theorem b0m {s:Source} {bits:Nat} {nonce:Int} (d:s.State.length=32) (a:bits<=12):Bp s bits nonce=some (S8 s.State bits nonce):=by
 unfold Bp
 have b:s.State++[103,114,105,110,100]++ig nonce=s.State++(OB++ig nonce):=by simp [OB]
 have e:(ig nonce).length=4:=dG nonce
 have f:OB.length=5:=rfl
 rw [bt (by simp only [ah,ai];omega),A4,obs,bt (by simp only [ab,ah,ai];omega),b,tp (by simp only [ab];omega),obs]
 have c:=E7 (s.State++(OB++ig nonce))
 unfold S8
 generalize H (s.State++(OB++ig nonce))=h at c
 have e0:atL h 0=some (h.getD 0 0):=Xf (k:=0) om
 have e1:atL h 1=some (h.getD 1 0):=Xf (k:=1) om
 have i:=zV (h.getD 0 0)
 have j:=zV (h.getD 1 0)
 rw [e0,obs,e1,obs]
 simp (disch:=omega) only [ak,en]
 rw [brd om,show (16:Int)-(bits:Int)=((16-bits:Nat):Int) by omega,a1F om om,(c2k bits a).2]
 congr 1
 exact decide_eq_decide.2 om
end Go.AI.Fn
namespace Go.AI.Fn
def tkM (s:Source) (t:List UInt8):Source:=⟨s.Script,s.At,H (s.State++(b4q++(ig t.length++t))),0⟩
theorem c5P {s:Source} (t:List UInt8) (h:FT s):FT (tkM s t):=⟨h.1,h.2,E7 _,h.4,h.5,by simp [tkM],by simp [tkM]⟩
def beN (l:List UInt8):Int:=l.foldl (fun n c=>n*256+(c.toNat:Int)) 0
def a9T (l:List UInt8):Int:=beN l%2130706433
def vJ (s:Source):Source×Ext:=
 if s.Script.length=0 then (⟨s.Script,s.At,s.State,s.Count+1⟩,⟨a9T ((H (s.State++(Zx++ig s.Count))).take 8),a9T (((H (s.State++(Zx++ig s.Count))).drop 8).take 8)⟩)
 else (⟨s.Script,s.At+1,s.State,s.Count⟩,s.Script.getD (s.At%(s.Script.length:Int)).toNat e0)
theorem a7R (l:List UInt8):okF (a9T l):=kV _
theorem a06 {s:Source} (h:FT s):okE (vJ s).2:=by
 unfold vJ
 split
 ·exact ⟨a7R _,a7R _⟩
 ·exact h.scr.getD _
theorem a8k {s:Source} (h:FT s) (a:s.At<1000000) (hc:s.Count<1000000):FT (vJ s).1:=by
 unfold vJ
 split
 ·exact ⟨h.1,h.2,h.3,h.4,h.5,by have:=h.6;simp;omega,by simp;omega⟩
 ·exact ⟨h.1,h.2,h.3,by have:=h.4;simp;omega,by simp;omega,h.6,h.7⟩
theorem vx {s:Source} {t:List UInt8} (a:s.State.length=32) (b:t.length<=1000000):kn s t=some (tkM s t):=by
 unfold kn
 have c:=dG (t.length:Int)
 rw [bt (by simp only [ah,ai];omega),A4,obs,bt (by simp only [ab,ah,ai];omega),
  bt (by simp only [ab,ah,ai];omega),tp (by simp only [ab,ah,ai];omega),obs,tkM]
 simp [b4q]
theorem Qa (l:List UInt8) (c:UInt8):beN (l++[c])=beN l*256+(c.toNat:Int):=by simp [beN,i0]
theorem T3 {t:List UInt8} (h:t.length=8):tm t=some (a9T t):=by
 unfold tm
 have key:Loop (ln t) (0,0)=some (a9T t,8,false):=
  bu (fun k=>(beN (t.take k)%2130706433,(k:Int))) 8 (fun k b=>by
   have a:k<t.length:=by omega
   have c:=zV t[k]
   have d:0<=beN (t.take k)%2130706433/\beN (t.take k)%2130706433<2130706433:=by omega
   simp only [ln]
   rw [brd om,ck a,obs]
   simp (disch:=omega) only [ak,ej]
   rw [db a,Qa,mX1];rfl) (by
   simp only [ln]
   rw [brn (by decide),ca om];rfl)
 rw [key];rfl
theorem Vq {s:Source} (h:FT s):rf s=some (vJ s):=by
 have i:=h.1
 have j:=h.3
 have c:=h.4
 have m:=h.5
 have n:=h.6
 have o:=h.7
 unfold rf vJ
 by_cases a:s.Script.length=0
 ·have p:=dG s.Count
  rw [brn om,ae a,bt (by simp only [ah,ai];omega),A4,obs,bt (by simp only [ab,ah,ai];omega),tp (by simp only [ab,ah,ai];omega),obs]
  have e:s.State++[100,114,97,119]++ig s.Count=s.State++(Zx++ig s.Count):=by simp [Zx]
  rw [e]
  have q:=E7 (s.State++(Zx++ig s.Count))
  rw [ma om om om,obs,T3 (by simp;omega),obs,ma om om om,obs,T3 (by simp;omega),obs,ak _ om om]
  rfl
 ·have d:=p6 s.At (b:=(s.Script.length:Int)) om
  have f:=m3 s.At (b:=(s.Script.length:Int)) om
  rw [brd om,aa a,brd om,ej _ _ c,ak _ om om]
  have e:atL s.Script (s.At%(s.Script.length:Int))=some (s.Script.getD (s.At%(s.Script.length:Int)).toNat e0):=by
   have:=a7j (l:=s.Script) (k:=(s.At%(s.Script.length:Int)).toNat) om
   rwa [ew d] at this
  rw [e];rfl
structure Few (s:Source) (k:Int):Prop where
 ok:FT s
 a:s.At<=k
 c:s.Count<=k
theorem Few.mono {s:Source} {j k:Int} (h:Few s j) (a:j<=k):Few s k:=⟨h.1,by have:=h.2;omega,by have:=h.3;omega⟩
theorem Few.take {s:Source} {k:Int} (h:Few s k) (t:List UInt8):Few (tkM s t) (k+1):=⟨c5P t h.1,by have:=h.2;simp [tkM];omega,by have:=h.3;have:=h.1.c0;simp [tkM];omega⟩
theorem Few.draw {s:Source} {k:Int} (h:Few s k) (a:k<1000000):Few (vJ s).1 (k+1):=by
 have b:=h.2
 have c:=h.3
 refine ⟨a8k h.1 om om, ?_, ?_⟩<;>(unfold vJ;split<;>dsimp only<;>omega)
end Go.AI.Fn
