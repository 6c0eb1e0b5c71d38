/- Part. -/
import Derived.Test.YtdnkignjanfikaaGreatFx3
import Derived.KernelRfl
set_option linter.unusedVariables false
namespace Go.AI
theorem du {S E:Type} {step:S->Option (S⊕E)} {s s':S} (h:step s=some (.inl s')):Loop step s=Loop step s':=by rw [Hy,h];rfl
theorem dx {S E:Type} {step:S->Option (S⊕E)} {s:S} {e:E} (h:step s=some (.inr e)):Loop step s=some e:=by rw [Hy,h];rfl
theorem bq {S E:Type} {step:S->Option (S⊕E)} (F:Nat->S) (n:Nat) {e:E} (a: ∀k,k<n->step (F k)=some (.inl (F (k+1)))) (b:step (F n)=some (.inr e)):Loop step (F 0)=some e:=by
 have key: ∀m k,k+m=n->Loop step (F k)=some e:=by
  intro m
  induction m with
  |zero=>intro k c;have:k=n:=by omega
         subst this;exact dx b
  |succ m ih=>intro k c;rw [du (a k om)];exact ih (k+1) om
 exact key n 0 om
theorem N3 (P:Nat->Bool): ∀n,(∀k,k<n->P k=true)\/ ∃k,k<n/\P k=false/\ ∀j,j<k->P j=true
 |0=> .inl om
 |n+1=>by
  rcases N3 P n with h|⟨k,hk,h1,h2⟩
  ·cases hn:P n
   ·exact .inr ⟨n,by omega,hn,h⟩
   ·refine .inl fun k hk=> ?_
    by_cases e:k=n
    ·subst e;exact hn
    ·exact h k om
  ·exact .inr ⟨k,by omega,h1,h2⟩
theorem AN {S E:Type} {step:S->Option (S⊕E)} (F:Nat->S) (n:Nat) (P:Nat->Bool) (x:Nat->E) {e:E} (b: ∀k,k<n->P k=true->step (F k)=some (.inl (F (k+1))))
 (f: ∀k,k<n->P k=false->step (F k)=some (.inr (x k))) (i:step (F n)=some (.inr e)):
 ((∀k,k<n->P k=true)/\Loop step (F 0)=some e)\/ ∃k,k<n/\P k=false/\(∀j,j<k->P j=true)/\Loop step (F 0)=some (x k):=by
 rcases N3 P n with h|⟨k,a,c,d⟩
 ·exact .inl ⟨h,bq F n (fun k a=>b k a (h k a)) i⟩
 ·exact .inr ⟨k,a,c,d,bq F k (fun j l=>b j om (d j l)) (f k a c)⟩
theorem rg {S E:Type} {step:S->Option (S⊕E)} (Inv:S->Prop) (me:S->Nat) (Post:E->Prop)
 (c: ∀s,Inv s->(∃s',step s=some (.inl s')/\Inv s'/\me s'<me s)\/(∃e,step s=some (.inr e)/\Post e)):
 ∀s,Inv s-> ∃e,Loop step s=some e/\Post e:=by
 intro s
 generalize d:me s=m
 induction m using Nat.strongRecOn generalizing s with
 |_ m ih=>
  intro hi
  rw [Hy]
  rcases c s hi with ⟨s',a,b,f⟩|⟨e,a,b⟩
  ·rw [a];exact ih (me s') om s' rfl b
  ·rw [a];exact ⟨e,rfl,b⟩
theorem IA {α:Type} {c:Bool} {x y:α} (h:c=true):br c x y=x:=by subst h;rfl
theorem a4I {α:Type} {c:Bool} {x y:α} (h:c=false):br c x y=y:=by subst h;rfl
theorem brd {α:Type} {p:Prop} [Decidable p] {x y:α} (h:p):br (decide p) x y=x:=IA (aj h)
theorem brn {α:Type} {p:Prop} [Decidable p] {x y:α} (h: ¬p):br (decide p) x y=y:=a4I (ae h)
theorem GL {α:Type} {p q:Prop} [Decidable p] [Decidable q] {x y:α} (h:p) (g:q):br (decide p&&decide q) x y=x:=IA (by simp [h,g])
theorem bre {α:Type} {a b:Int} {x y:α} (h:a=b):br (a==b) x y=x:=IA (by simp [h])
theorem cm {α:Type} {a b:Int} {x y:α} (h:a≠b):br (a==b) x y=y:=a4I (by simp [h])
theorem brb {α:Type} {a b:Int} {x y:α} (h:a≠b):br (a !=b) x y=x:=IA (by simp [h])
theorem m9 {α:Type} {a b:Int} {x y:α} (h:a=b):br (a !=b) x y=y:=a4I (by simp [h])
theorem a7G {α:Type} {p:Prop} [Decidable p] {x y:α} (h:p):br (!decide p) x y=y:=a4I (by simp [h])
theorem a7t {α:Type} {p:Prop} [Decidable p] {x y:α} (h: ¬p):br (!decide p) x y=x:=IA (by simp [h])
theorem dw (a b:Int) (h:0<=a):a.tmod b=a%b:=Int.tmod_eq_emod_of_nonneg h
theorem pR (a b:Int) (h:0<=a):a.tdiv b=a/b:=Int.tdiv_eq_ediv_of_nonneg h
theorem AX (x:UInt8):(x.toNat:Int)<256:=by have:=x.toNat_lt;omega
theorem PN {n b:Nat} (h:n*b<=1099511627776):bj n b=true:=by simp [bj,dz,h]
theorem aS {α:Type} {n b:Nat} {x y:α} (h:n*b<=1099511627776):br (bj n b) x y=x:=IA (PN h)
theorem b8f {l c:Int} {b:Nat} (h0:0<=l) (a:l<=c) (d:c*b<=1099511627776):TL l c b=true:=by simp [TL,dz,h0,a,d]
theorem a0O {α:Type} {l c:Int} {b:Nat} {x y:α} (h0:0<=l) (a:l<=c) (d:c*b<=1099511627776):br (TL l c b) x y=x:=IA (b8f h0 a d)
theorem a61 {α:Type} {l:List α} {i:Int} (h0:0<=i) {x:α} (h:l[i.toNat]? =some x):atL l i=some x:=by simp [atL,h0,h]
theorem cJ {α:Type} {l:List α} {k:Nat} (h:k<l.length):atL l (k:Int)=some l[k]:=by simp [atL,h]
theorem jq {β:Type} {l:List Int} {i:Nat} {f:Int->Option β} (h:i<l.length):(l[i]?).bind f=f (l.getD i 0):=by simp [h]
theorem Ad {α:Type} {l:List α} {i:Nat} (h:i<l.length):l[i]? =some l[i]:=aq h
theorem W2 {α:Type} {l:List α} {i:Int} (h0:0<=i) (a:i<l.length): ∃x,atL l i=some x/\l[i.toNat]? =some x/\x∈l:=by
 have h:i.toNat<l.length:=by omega
 exact ⟨l[i.toNat],by simp [atL,h0,h],by simp [h],b9 h⟩
theorem Nd {α:Type} {l:List α} {i:Nat} (h:i<l.length): ∃x r,l.drop i=x::r/\l.drop (i+1)=r/\l[i]? =some x:=
 ⟨l[i],l.drop (i+1),jr h,rfl,by simp [h]⟩
theorem b1v {α:Type} {l r:List α} {x:α} {i:Int} (h0:0<=i) (h:l.drop i.toNat=x::r):atL l i=some x:=by
 have:l[i.toNat]? =some x:=by rw [<-List.head?_drop,h];rfl
 simp [atL,h0,this]
theorem ke {α:Type} {l:List α} {a b:Int} (h0:0<=a) (c:a<=b) (d:b<=l.length):rF l a b=some ((l.drop a.toNat).take (b.toNat-a.toNat)):=by
 simp [rF,h0,c,d,List.drop_take]
theorem cB {α:Type} {l:List α} {k:Nat} (h:k<l.length):l.take (k+1)=l.take k++[l[k]]:=by rw [List.take_succ_eq_append_getElem h]
theorem zQ (k:Nat):((k+1:Nat):Int)=(k:Int)+1:=by omega
theorem sM (n:Nat):(nZ n).length=n:=by simp [nZ]
def iU {α:Type} (f:Nat->α->α):Nat->α->α
 |0,l=>l
 |k+1,l=>f k (iU f k l)
theorem yF {f:Nat->List Int->List Int} (a: ∀k l,(f k l).length=l.length): ∀(k:Nat) (l:List Int),(iU f k l).length=l.length
 |0,l=>rfl
 |k+1,l=>by rw [iU,a,yF a k l]
end Go.AI
set_option linter.unusedSimpArgs false
namespace Go.AI.Fn
def okF (a:Int):Prop:=0<=a/\a<=2130706432
def okE (x:Ext):Prop:=okF x.A/\okF x.B
def Ey (a:Int):Bool:=decide (0<=a)&&decide (a<=2130706432)
def vY (x:Ext):Bool:=Ey x.A&&Ey x.B
theorem H4 {a:Int}:Ey a=true↔okF a:=by simp [Ey,okF]
theorem uP {x:Ext}:vY x=true↔okE x:=by simp [vY,okE,H4]
def aF (a b:Int):Int:=(a+b)%2130706433
def sF (a b:Int):Int:=(a-b)%2130706433
def mF (a b:Int):Int:=(a*b)%2130706433
def eA (x y:Ext):Ext:=⟨(x.A+y.A)%2130706433,(x.B+y.B)%2130706433⟩
def eS (x y:Ext):Ext:=⟨(x.A-y.A)%2130706433,(x.B-y.B)%2130706433⟩
def eM (x y:Ext):Ext:=⟨(x.A*y.A+3*(x.B*y.B))%2130706433,(x.A*y.B+x.B*y.A)%2130706433⟩
def eC (x:Ext) (n:Int):Ext:=⟨(x.A*n)%2130706433,(x.B*n)%2130706433⟩
def e0:Ext:=⟨0,0⟩
def e1:Ext:=⟨1,0⟩
def eN (n:Int):Ext:=⟨n,0⟩
theorem c4D:okF 3:=⟨by decide,by decide⟩
theorem c1f:okF 1:=⟨by decide,by decide⟩
theorem b81:okF 0:=⟨by decide,by decide⟩
theorem nm (a:Int):okF (a%2130706433):=⟨by omega,by omega⟩
theorem a0K (a b:Int):okF (aF a b):=nm _
theorem b4M (a b:Int):okF (sF a b):=nm _
theorem w7 (a b:Int):okF (mF a b):=nm _
theorem a56 (x y:Ext):okE (eA x y):=⟨nm _,nm _⟩
theorem IG (x y:Ext):okE (eS x y):=⟨nm _,nm _⟩
theorem Fh (x y:Ext):okE (eM x y):=⟨nm _,nm _⟩
theorem a9N (x:Ext) (n:Int):okE (eC x n):=⟨nm _,nm _⟩
theorem b1D:okE e0:=⟨⟨by decide,by decide⟩,⟨by decide,by decide⟩⟩
theorem a5d:okE e1:=⟨⟨by decide,by decide⟩,⟨by decide,by decide⟩⟩
theorem b5p {n:Int} (h:okF n):okE (eN n):=⟨h,b81⟩
theorem c2N {a b:Int} (d:okF a) (c:okF b):0<=a*b/\a*b<=4539909900063178624:=
 ⟨Int.mul_nonneg d.1 c.1,Int.le_trans (Int.mul_le_mul d.2 c.2 c.1 dcd) dcd⟩
theorem CX {a:Int} (h:okF a):a%2130706433=a:=by obtain ⟨b,c⟩:=h;omega
theorem CF {x y:Ext} (a:x.A=y.A) (b:x.B=y.B):x=y:=by cases x;cases y;cases a;cases b;rfl
theorem mA1 (a b:Int):(a%2130706433+b)%2130706433=(a+b)%2130706433:=Int.emod_add_emod _ _ _
theorem mA2 (a b:Int):(a+b%2130706433)%2130706433=(a+b)%2130706433:=Int.add_emod_emod _ _ _
theorem mM1 (a b:Int):(a%2130706433*b)%2130706433=(a*b)%2130706433:=by rw [rO,qj, <-rO]
theorem mM2 (a b:Int):(a*(b%2130706433))%2130706433=(a*b)%2130706433:=by rw [rO,qj, <-rO]
theorem mX1 (a b c:Int):(a%2130706433*b+c)%2130706433=(a*b+c)%2130706433:=by rw [<-mA1,mM1,mA1]
theorem mX4 (a b c:Int):(c+a*(b%2130706433))%2130706433=(c+a*b)%2130706433:=by rw [<-mA2,mM2,mA2]
theorem c0q {a b:Int} (c:okF a) (d:okF b):(IntKind.wrap .i64 (a+b)).tmod 2130706433=aF a b:=by
 obtain ⟨e,f⟩:=c;obtain ⟨h,i⟩:=d
 unfold aF;rw [ai _ om om,dw _ _ om]
theorem v8 {a b:Int} (c:okF a) (d:okF b):G9 a b=some (aF a b):=by unfold G9;rw [c0q c d]
theorem Kv {a b:Int} (c:okF a) (d:okF b):OB a b=some (sF a b):=by
 obtain ⟨e,f⟩:=c;obtain ⟨h,i⟩:=d
 unfold OB sF;rw [ai (a-b) om om,ai _ om om,dw _ _ om]
 congr 1;omega
theorem c0A {a b:Int} (c:okF a) (d:okF b):(IntKind.wrap .i64 (a*b)).tmod 2130706433=mF a b:=by
 have h:=c2N c d
 unfold mF;rw [ai _ om om,dw _ _ om]
theorem ml {a b:Int} (c:okF a) (d:okF b):ut a b=some (mF a b):=by unfold ut;rw [c0A c d]
theorem jI {x y:Ext} (a:okE x) (b:okE y):fJ x y=some (eA x y):=by
 unfold fJ;rw [v8 a.1 b.1,v8 a.2 b.2];rfl
theorem mQ {x y:Ext} (a:okE x) (b:okE y):hS x y=some (eS x y):=by
 unfold hS;rw [Kv a.1 b.1,Kv a.2 b.2];rfl
theorem b69 (x y:Ext):eM x y=⟨aF (mF x.A y.A) (mF 3 (mF x.B y.B)),aF (mF x.A y.B) (mF x.B y.A)⟩:=by
 unfold eM aF mF
 congr 1
 ·rw [mA1,mA2,mX4]
 ·rw [mA1,mA2]
theorem gq {x y:Ext} (a:okE x) (b:okE y):dt x y=some (eM x y):=by
 unfold dt
 rw [ml a.1 b.1,ml a.2 b.2]
 simp only [obs]
 rw [ml c4D (w7 _ _)]
 simp only [obs]
 rw [v8 (w7 _ _) (w7 _ _),ml a.1 b.2,ml a.2 b.1]
 simp only [obs]
 rw [v8 (w7 _ _) (w7 _ _),b69];rfl
theorem yr {x:Ext} {n:Int} (a:okE x) (hn:okF n):iy x n=some (eC x n):=by
 unfold iy;rw [ml a.1 hn,ml a.2 hn];rfl
theorem Ma:Oe=some e1:=rfl
theorem Hx (n a b:Int):jQ n a b=some (decide (a<=n)&&decide (n<=b)):=by
 unfold jQ;cases decide (a<=n)<;>rfl
theorem zn (a:Int):uz a=some (Ey a):=by
 unfold uz;rw [Hx];rfl
theorem wq (x:Ext):xe x=some (vY x):=by
 unfold xe vY;rw [zn,zn];cases Ey x.A<;>rfl
theorem b0I {a b:Int} (c:okF a) (d:okF b):Gf a b=some (aF a b):=by unfold Gf;rw [c0q c d]
theorem a9R {a b:Int} (c:okF a) (d:okF b):GX a b=some (sF a b):=by
 obtain ⟨e,f⟩:=c;obtain ⟨h,i⟩:=d
 unfold GX sF;rw [ai (a+2130706433) om om,ai _ om om,dw _ _ om]
 congr 1;omega
theorem b4t {a b:Int} (c:okF a) (d:okF b):GK a b=some (mF a b):=by unfold GK;rw [c0A c d]
theorem c4I (x:Ext):eS x x=e0:=by
 apply CF<;>simp [eS,e0]
theorem Zo (x:Ext) (n:Int):eC x n=eM x (eN n):=by
 apply CF<;>(simp only [eC,eM,eN];congr 1;grind)
end Go.AI.Fn
namespace Go.AI.Fn
def pF (a:Int) (n:Nat):Int:=(a^n)%2130706433
theorem Zl (a:Int) (n:Nat):okF (pF a n):=nm _
theorem c6P {n:Int} (h:0<=n) (a:n<9223372036854775808):dc .i64 n 1=n%2:=by
 show IntKind.wrap .i64 ((BitVec.ofInt 64 n&&&BitVec.ofInt 64 1).toNat:Int)=n%2
 have e1:(BitVec.ofInt 64 n).toNat=n.toNat:=by rw [ix];omega
 have e2:(BitVec.ofInt 64 1).toNat=1:=by decide
 rw [BitVec.toNat_and,e1,e2,Nat.and_one_is_mod,ai _ om om]
 omega
theorem c6Q {n:Int} (h:0<=n):cc .i64 n 1=n/2:=by
 show n.fdiv (2^1)=n/2
 rw [nG _ dcd];rfl
theorem b4C {a:Int} {n:Nat} (h:n%2=0):(a*a)^(n/2)=a^n:=by
 have e:n=2*(n/2):=by omega
 have e2:a^n=a^(2*(n/2)):=by rw [<-e]
 rw [e2,Int.pow_mul,fX,fX,kX,tJ]
theorem b9j {a:Int} {n:Nat} (h:n%2=1):a*(a*a)^(n/2)=a^n:=by
 have e:n=2*(n/2)+1:=by omega
 have e2:a^n=a^(2*(n/2)+1):=by rw [<-e]
 rw [e2,fX,Int.pow_mul,fX,fX,kX,tJ,Int.mul_comm]
theorem a6k (a:Int) (n:Nat):((a%2130706433)^n)%2130706433=(a^n)%2130706433:=by
 induction n with
 |zero=>rw [kX,kX]
 |succ n ih=>rw [fX,fX,mM2, <-mM1,ih,mM1]
theorem b1h {a out:Int} {n:Nat} (hn:0<n):(n%2=1->(mF out a*(mF a a)^(n/2))%2130706433=(out*a^n)%2130706433)/\(n%2=0->(out*(mF a a)^(n/2))%2130706433=(out*a^n)%2130706433):=by
 constructor
 ·intro h
  unfold mF
  rw [mM1, <-mM2,a6k,mM2, <-b9j h,Int.mul_assoc]
 ·intro h
  unfold mF
  rw [<-mM2,a6k,mM2,b4C h]
theorem a2x {a out n:Int} (p:okF a) (q:okF out) (h0:0<=n) (hn:n<9223372036854775808): ∃e,Loop zW (a,n,out)=some e/\e.2.2.1=(out*a^n.toNat)%2130706433:=by
 refine rg (step:=zW) (fun s=>okF s.1/\okF s.2.2/\0<=s.2.1/\s.2.1<9223372036854775808/\(s.2.2*s.1^s.2.1.toNat)%2130706433=(out*a^n.toNat)%2130706433) (fun s=>s.2.1.toNat) _ ?_ (a,n,out) ⟨p,q,h0,hn,rfl⟩
 rintro ⟨b,k,o⟩ ⟨i,d,f,h,c⟩
 dsimp only at i d f h c
 simp only [zW]
 by_cases j:k>0
 ·left
  rw [brd j,c6P f h,c6Q f,ml i i]
  have l:=b1h (a:=b) (out:=o) (n:=k.toNat) om
  have e:(k/2).toNat=k.toNat/2:=by omega
  by_cases m:k%2=1
  ·rw [bre m,ml d i]
   refine ⟨_,rfl,⟨w7 _ _,w7 _ _,by dsimp only;omega,by dsimp only;omega, ?_⟩,by dsimp only;omega⟩
   dsimp only
   rw [e,l.1 om,c]
  ·rw [cm m]
   refine ⟨_,rfl,⟨w7 _ _,d,by dsimp only;omega,by dsimp only;omega, ?_⟩,by dsimp only;omega⟩
   dsimp only
   rw [e,l.2 om,c]
 ·right
  rw [brn j]
  refine ⟨_,rfl, ?_⟩
  have:k=0:=by omega
  subst this
  dsimp only
  rw [<-c]
  simp [CX d]
theorem Rq {a n:Int} (b:okF a) (h0:0<=n) (hn:n<9223372036854775808):QZ a n=some (pF a n.toNat):=by
 unfold QZ
 obtain ⟨e,c,d⟩:=a2x b c1f h0 hn
 rw [c,obs,d,tJ];rfl
def iF (a:Int):Int:=pF a 2130706431
theorem E6 {a:Int} (b:okF a):wD a=some (iF a):=by
 unfold wD;rw [Rq b dcd dcd,obs];rfl
def LW (k:Nat):Int:=pF 3 (127*2^(24-k))
theorem ZC (k:Nat):okF (LW k):=Zl _ _
theorem c04: ∀j:Nat,j<25->(2:Int)^j<=16777216/\0<(2:Int)^j:=by decide
theorem c3Z {j:Nat} (h:j<=24):ct .i64 127 (j:Int)=127*2^j:=by
 obtain ⟨a,h0⟩:=c04 j om
 show IntKind.wrap .i64 (127*2^(min ((j:Int).toNat) 64))=_
 rw [aY,dp om,ai _ om om]
theorem UR {k:Nat} (h:k<=24):NL (k:Int)=some (LW k):=by
 unfold NL
 obtain ⟨a,b⟩:=c04 (24-k) om
 rw [ai _ om om,brd om,show (24:Int)-k=((24-k:Nat):Int) by omega,c3Z om,Rq c4D om om,obs,LW]
 congr 2
end Go.AI.Fn
namespace Go.AI.Fn
structure Src (B:Int) (m:bV):Prop where
 at0:0<=m.at_
 at1:m.at_<=B
 sd0:0<=m.seed
 sd1:m.seed<2147483648
 len:m.code.length<=1048600
theorem Src.mono {B C:Int} {m:bV} (h:Src B m) (hc:B<=C):Src C m:=⟨h.at0,by have:=h.at1;omega,h.sd0,h.sd1,h.len⟩
abbrev Big:Int:=4611686018427387904
theorem Hm {code:List UInt8} (h:code.length<=1048600): ∃m,re code=some m/\Src 0 m:=by
 refine ⟨_,rfl, ?_⟩
 have:((code.length:Int).tmod (1000:Int))=(code.length:Int)%1000:=dw _ _ om
 constructor<;>dsimp only<;>omega
theorem PF {B:Int} {m:bV} (h:Src B m) (a:B<Big): ∃x m',kE m=some (x,m')/\0<=x/\x<256/\Src (B+1) m':=by
 obtain ⟨b,d,e,f,j⟩:=h
 rcases m with ⟨code,at_,seed⟩
 dsimp only at b d e f j
 unfold kE
 dsimp only
 simp only [Big] at a
 rw [ai (at_+1) om om]
 by_cases c:at_+1<=(code.length:Int)
 ·rw [brd c,ai (at_+1-1) om om]
  obtain ⟨x,k,_,_⟩:=W2 (l:=code) (i:=at_+1-1) om om
  have:=AX x
  rw [k]
  simp only [obs]
  rw [ai (x.toNat:Int) om om,ai (seed*31) om om,ai (seed*31+(x.toNat:Int)) om om,ai _ om om,dw _ _ om]
  refine ⟨_,_,rfl,by omega,by omega, ?_⟩
  constructor<;>dsimp only<;>omega
 ·rw [brn c]
  by_cases c2:at_+1>3000
  ·rw [brd c2]
   refine ⟨_,_,rfl,by omega,by omega, ?_⟩
   constructor<;>dsimp only<;>omega
  ·rw [brn c2,ai (seed*1103515245) om om,ai (seed*1103515245+12345) om om,dw (seed*1103515245+12345) _ om,pR _ _ om,ai _ om om,dw _ _ om]
   refine ⟨_,_,rfl,by omega,by omega, ?_⟩
   constructor<;>dsimp only<;>omega
theorem ku {B n:Int} {m:bV} (h:Src B m) (k:B+3<Big): ∃x m',au n m=some (x,m')/\0<=x/\(1<n->x<n)/\(n<=1->x=0)/\Src (B+3) m':=by
 unfold au
 by_cases c:n<=1
 ·rw [brd c];exact ⟨_,_,rfl,by omega,by omega,fun _=>rfl,h.mono om⟩
 ·rw [brn c]
  by_cases c2:n<=256
  ·rw [brd c2]
   obtain ⟨x,d,e1,b,e,a⟩:=PF h om
   rw [e1]
   simp only [obs]
   rw [brd om,dw _ _ b]
   exact ⟨_,_,rfl,dD _ om,fun _=>cV _ om,by omega,a.mono om⟩
  ·rw [brn c2]
   obtain ⟨x,d,e1,b,e,a⟩:=PF h om
   obtain ⟨y,l,e2,o,p,f⟩:=PF a om
   obtain ⟨z,q,i,z0,r,j⟩:=PF f om
   rw [e1]
   simp only [obs]
   rw [e2]
   simp only [obs]
   rw [i]
   simp only [obs]
   rw [brd om,ai (x*65536) om om,ai (y*256) om om,ai (x*65536+y*256) om om,ai _ om om,dw _ _ om]
   exact ⟨_,_,rfl,dD _ om,fun _=>cV _ om,by omega,j.mono om⟩
theorem zZ {B n:Int} {m:bV} (h:Src B m) (a:B+3<Big): ∃x m',cp n m=some (x,m')/\Src (B+3) m':=by
 unfold cp
 obtain ⟨x,c,e1,_,_,_,b⟩:=ku (n:=n) h a
 rw [e1]
 exact ⟨_,_,rfl,b⟩
theorem CZ {B:Int} {m:bV} (h:Src B m) (z:B+18<Big): ∃x m',b5 m=some (x,m')/\okF x/\Src (B+18) m':=by
 unfold b5
 obtain ⟨x,d,e1,x0,q,_,f⟩:=ku (n:=5) h om
 have:=q om
 rw [e1]
 simp only [obs]
 by_cases c:x=0
 ·rw [bre c]
  obtain ⟨y,k,e2,l,a,_,b⟩:=ku (n:=4) f om
  have:=a om
  rw [e2]
  exact ⟨_,_,rfl,⟨by omega,by omega⟩,b.mono om⟩
 ·rw [cm c]
  by_cases c2:x=1
  ·rw [bre c2]
   obtain ⟨y,k,e2,l,a,_,b⟩:=ku (n:=3) f om
   have:=a om
   rw [e2]
   refine ⟨_,_,rfl,⟨?_, ?_⟩,b.mono om⟩<;>rw [ai _ om om]<;>omega
  ·rw [cm c2]
   have key:=rg (step:=jb)
    (fun s=>okF s.1/\0<=s.2.1/\s.2.1<=5/\Src (B+3+3*s.2.1) ⟨s.2.2.1,s.2.2.2.1,s.2.2.2.2⟩) (fun s=>(5-s.2.1).toNat)
    (fun e=>okF e.1/\Src (B+18) ⟨e.2.2.2.1,e.2.2.2.2.1,e.2.2.2.2.2⟩) ?_ ((0:Int),(0:Int),d.code,d.at_,d.seed) ⟨⟨by first|omega| (dsimp only;omega),by first|omega| (dsimp only;omega)⟩,by first|omega| (dsimp only;omega),by first|omega| (dsimp only;omega),f.mono (by first|omega| (dsimp only;omega))⟩
   ·obtain ⟨e,r,t,u⟩:=key
    rw [r]
    exact ⟨_,_,rfl,t,u⟩
   ·rintro ⟨n,i,c,c2,c3⟩ ⟨⟨o,p⟩,v,w,j⟩
    dsimp only at o p v w j
    by_cases hi:i<5
    ·left
     obtain ⟨y,k,e2,l,a,_,b⟩:=ku (n:=256) j om
     have:=a om
     simp only [jb]
     rw [brd hi,e2]
     simp only [obs]
     rw [ai (n*256) om om,ai (n*256+y) om om,ai (i+1) om om,dw _ _ om]
     refine ⟨_,rfl,⟨⟨?_, ?_⟩, ?_, ?_,b.mono ?_⟩, ?_⟩<;>dsimp only<;>omega
    ·right
     simp only [jb]
     rw [brn hi]
     exact ⟨_,rfl,⟨o,p⟩,j.mono (by first|omega| (dsimp only;omega))⟩
end Go.AI.Fn
namespace Go.AI.Fn
theorem c0F {B:Int} {m:bV} (h:Src B m) (f:B+40<Big): ∃x m',vo m=some (x,m')/\okE x/\Src (B+40) m':=by
 unfold vo
 obtain ⟨x,i,e1,c⟩:=zZ (n:=4) h om
 rw [e1]
 simp only [obs]
 obtain ⟨y,j,e2,a,b⟩:=CZ c om
 obtain ⟨z,k,d,z0,e⟩:=CZ b om
 rw [e2]
 cases x
 ·simp only [bu,obs]
  rw [d]
  exact ⟨_,_,rfl,⟨a,z0⟩,e.mono om⟩
 ·exact ⟨_,_,rfl,⟨a,⟨by first|omega| (dsimp only;omega),by first|omega| (dsimp only;omega)⟩⟩,b.mono om⟩
theorem a4Q {B n:Int} {m:bV} (h:Src B m) (f:0<=n) (j:n<=1048576) (w:B+40*n<Big): ∃l m',px n m=some (l,m')/\(l.length:Int)=n/\(∀x∈l,okE x)/\Src (B+40*n) m':=by
 unfold px
 have key:=rg (step:=jL n)
  (fun s=>(s.1.length:Int)=s.2.1/\(∀x∈s.1,okE x)/\s.2.1<=n/\Src (B+40*s.2.1) ⟨s.2.2.1,s.2.2.2.1,s.2.2.2.2⟩) (fun s=>(n-s.2.1).toNat)
  (fun e=>(e.1.length:Int)=n/\(∀x∈e.1,okE x)/\Src (B+40*n) ⟨e.2.2.2.1,e.2.2.2.2.1,e.2.2.2.2.2⟩) ?_ (([]:List Ext),(0:Int),m.code,m.at_,m.seed) ⟨by simp,by simp,by dsimp only;omega,h.mono (by first|omega| (dsimp only;omega))⟩
 ·obtain ⟨e,k,o,p,q⟩:=key
  rw [k]
  exact ⟨_,_,rfl,o,p,q⟩
 ·rintro ⟨l,i,c,c2,c3⟩ ⟨r,b,t,d⟩
  dsimp only at r b t d
  by_cases hi:i<n
  ·left
   obtain ⟨y,z,e2,u,v⟩:=c0F d om
   simp only [jL]
   rw [brd hi,e2]
   simp only [obs]
   rw [IA (PN (by simp only [a8,ab,ah];omega)),ai (i+1) om om]
   refine ⟨_,rfl,⟨?_, ?_, ?_,v.mono ?_⟩, ?_⟩
   ·simp only [a8,ab,ah];omega
   ·intro x a
    rcases aJ.1 a with a|a
    ·exact b x a
    ·rw [bI] at a;subst a;exact u
   all_goals dsimp only;omega
  ·right
   simp only [jL]
   rw [brn hi]
   exact ⟨_,rfl,by dsimp only;omega,b,d.mono (by first|omega| (dsimp only;omega))⟩
theorem a7P {code:List UInt8} {n:Int} (h:code.length<=1048600) (a:0<=n) (b:n<=1048576): ∃l,Gb code n=some l/\(l.length:Int)=n/\ ∀x∈l,okE x:=by
 unfold Gb
 obtain ⟨m,e1,c⟩:=Hm (show code.length<=1048600 by omega)
 rw [e1]
 simp only [obs]
 obtain ⟨l,f,e2,d,e,_⟩:=a4Q (n:=n) c a b (by simp only [Big];omega)
 rw [e2]
 exact ⟨_,rfl,d,e⟩
end Go.AI.Fn
namespace Go.AI.Fn
theorem Q7 {α:Type} {p:α->Bool} {l:List α} {k:Nat} (a:k<l.length) (h:p l[k]=true):l.any p=true:=jl.2 ⟨l[k],b9 a,h⟩
theorem a58 {α:Type} {p:α->Bool} {l:List α} (h: ∀k (a:k<l.length),p l[k]=false):l.any p=false:=by
 rw [vZ]
 intro x b
 obtain ⟨k,a,rfl⟩:=bp b
 simp [h k a]
theorem zi {α:Type} {p:α->Bool} {f:α->Option Bool} {l:List α} (m:l.length<=1099511627776) (j: ∀x∈l,f x=some (p x)) {step:Int->Option (Int⊕(Int⊕(Int×Bool)))}
 (b: ∀t,step t=br (decide (t<(l.length:Int))) ((atL l t).bind fun x=>(f x).bind fun r=>br r (some (.inr (.inl t))) (some (.inl (IntKind.wrap .i64 (t+1))))) (some (.inr (.inr (t,decide (t<(l.length:Int))))))):
 ((Loop step 0).bind (alt (fun e=>some e) (fun _=>some (-1)))).bind (fun r=>some (decide (r>=0)))=some (l.any p):=by
 have key:=AN (step:=step) (fun k=>(k:Int)) l.length (fun k=> !((l[k]?.map p).getD false)) (fun k=> .inl (k:Int)) (e:= .inr ((l.length:Int),false)) (fun k a c=>by
  have d:p l[k]=false:=by simpa [a] using c
  rw [b,brd om,cJ a,obs,j _ (b9 a),obs,d,bu,ai _ om om];rfl)
  (fun k a c=>by
   have d:p l[k]=true:=by simpa [a] using c
   rw [b,brd om,cJ a,obs,j _ (b9 a),obs,d,dj])
  (by rw [b,brn om,ae om])
 rcases key with ⟨h,i⟩|⟨k,a,h,_,i⟩
 ·have e:Loop step 0=some (.inr ((l.length:Int),false)):=i
  rw [e,a58 (fun k a=>by simpa [a] using h k a)];rfl
 ·have e:Loop step 0=some (.inl (k:Int)):=i
  rw [e,Q7 a (by simpa [a] using h)]
  simp only [obs,rX]
  rw [aj om]
theorem xU {α:Type} (p:α->Bool) (l:List α):(!l.any fun x=> !p x)=l.all p:=by
 induction l with
 |nil=>rfl
 |cons x l ih=>simp only [List.any_cons,cC, <-ih];cases p x<;>simp
theorem MM {l:List Int} (a:l.length<=1099511627776):im l=some (l.all Ey):=by
 unfold im cW dn
 rw [zi (step:=cP l (l.length:Int)) (p:=fun x=> !Ey x) (f:=jV) a (fun x _=>by unfold jV;rw [zn];rfl) (fun t=>rfl),obs,xU]
theorem Dr {l:List Ext} (a:l.length<=1099511627776):fq l=some (l.all vY):=by
 unfold fq cE cO
 rw [zi (step:=cA l (l.length:Int)) (p:=fun x=> !vY x) (f:=k8) a (fun x _=>by unfold k8;rw [wq];rfl) (fun t=>rfl),obs,xU]
def j6 (l:List Ext):Prop:= ∀x∈l,okE x
def hK (l:List Int):Prop:= ∀x∈l,okF x
theorem ZI {l:List Ext}:l.all vY=true↔j6 l:=by
 rw [an];exact ⟨fun h x a=>uP.1 (h x a),fun h x a=>uP.2 (h x a)⟩
theorem j6.get {l:List Ext} (h:j6 l) {k:Nat} (a:k<l.length):okE l[k]:=h _ (b9 a)
theorem hK.get {l:List Int} (h:hK l) {k:Nat} (a:k<l.length):okF l[k]:=h _ (b9 a)
theorem j6.app {l m:List Ext} (h:j6 l) (a:j6 m):j6 (l++m):=fun x b=>(aJ.1 b).elim (h x) (a x)
theorem j6.nil:j6 []:=fun x a=>by cases a
theorem j6.one {x:Ext} (h:okE x):j6 [x]:=fun y a=>by rw [bI.1 a];exact h
theorem j6.map {α:Type} {f:α->Ext} (l:List α) (h: ∀x∈l,okE (f x)):j6 (l.map f):=fun y a=>by obtain ⟨x,b,rfl⟩:=bf.1 a;exact h x b
theorem j6.take {l:List Ext} (h:j6 l) (k:Nat):j6 (l.take k):=fun x a=>h x (cn a)
theorem j6.drop {l:List Ext} (h:j6 l) (k:Nat):j6 (l.drop k):=fun x a=>h x (bZ a)
def a2o (a b:List Ext):Ext:=(a.zip b).foldl (fun c p=>eA c (eM p.1 p.2)) e0
theorem Ty {α β:Type} {a:List α} {b:List β} {k:Nat} (c:k<a.length) (d:k<b.length):(a.zip b).take (k+1)=(a.zip b).take k++[(a[k],b[k])]:=by
 rw [cB (by rw [List.length_zip];omega),List.getElem_zip]
theorem b4W (l:List (Ext×Ext)) {c:Ext} (h:okE c):okE (l.foldl (fun c p=>eA c (eM p.1 p.2)) c):=by
 induction l generalizing c with
 |nil=>exact h
 |cons p l ih=>exact ih (a56 _ _)
theorem b9O (a b:List Ext):okE (a2o a b):=b4W _ b1D
theorem KM {a b:List Ext} (e:j6 a) (f:j6 b) (h:a.length<=b.length) (hn:a.length<=1099511627776):GF a b=some (a2o a b):=by
 unfold GF
 have key:Loop (zV b a (a.length:Int) 0 0) ((0:Int),(0:Int),(0:Int))=some ((a.length:Int),false,(a2o a b).A,(a2o a b).B):=
  bq (fun k=>((k:Int),(((a.zip b).take k).foldl (fun c p=>eA c (eM p.1 p.2)) e0).A,(((a.zip b).take k).foldl (fun c p=>eA c (eM p.1 p.2)) e0).B)) a.length (fun k d=>by
   simp only [zV]
   have hc:=b4W ((a.zip b).take k) b1D
   rw [brd om,cJ d,obs,cJ om,obs,gq (e.get d) (f.get om),obs,jI hc (Fh _ _),obs,ai _ om om,Ty d om,gG]
   rfl) (by
   simp only [zV]
   rw [brn om,ae om,aX (by rw [List.length_zip];omega)]
   rfl)
 rw [key];rfl
def eqS (out:List Ext) (p:Ext):List Ext:=out.map (fun a=>eM a (eS e1 p))++out.map (fun a=>eM a p)
def eqT (pt:List Ext):List Ext:=pt.foldl eqS [e1]
theorem b75 (out:List Ext) (p:Ext):(eqS out p).length=2*out.length:=by simp [eqS];omega
theorem c46 (out:List Ext) (p:Ext):j6 (eqS out p):=j6.app (j6.map _ fun x _=>Fh _ _) (j6.map _ fun x _=>Fh _ _)
theorem b40 (l:List Ext) (p:Ext):eqT (l++[p])=eqS (eqT l) p:=by simp [eqT,gG]
theorem c3g {l out:List Ext} (h:j6 out):j6 (l.foldl eqS out):=by
 induction l generalizing out with
 |nil=>exact h
 |cons p l ih=>exact ih (c46 _ _)
theorem b3t (l:List Ext):j6 (eqT l):=c3g (j6.one a5d)
theorem b6I (l out:List Ext):(l.foldl eqS out).length=2^l.length*out.length:=by
 induction l generalizing out with
 |nil=>simp
 |cons p l ih=>rw [bP,ih,b75,ab,aZ];rw [Nat.mul_assoc]
theorem PW (l:List Ext):(eqT l).length=2^l.length:=by rw [eqT,b6I];simp
theorem c1G: ∀k:Nat,k<=6->2^k<=64:=by decide
theorem c5b {t:List Ext} {t2 t3:Int} {out:List Ext} {p:Ext} (c:j6 out) (d:okE p) (hn:out.length<=1000000000):
 Loop (pu t t2 t3 out (out.length:Int) p.A p.B) ([],[],0)=some (out.map (fun a=>eM a (eS e1 p)),out.map (fun a=>eM a p),(out.length:Int),false):=
 bq (fun k=>((out.take k).map (fun a=>eM a (eS e1 p)),(out.take k).map (fun a=>eM a p),(k:Int))) out.length (fun k b=>by
  have e:Ext.mk p.A p.B=p:=rfl
  simp only [pu,e]
  rw [brd om,cJ b,obs,Ma,obs,mQ a5d d,obs,gq (c.get b) (IG _ _),obs,
   aS (by simp only [a8,aw,aD,ag];omega),gq (c.get b) d,obs,
   aS (by simp only [a8,aw,aD,ag];omega),ai _ om om,cB b,bW,bW]
  rfl) (by
  simp only [pu]
  rw [brn om,ae om,bw])
theorem sr {l:List Ext} (h:j6 l) (hn:l.length<=6):mg l=some (eqT l):=by
 unfold mg
 have key:Loop (pw l (l.length:Int)) ([e1],0)=some (eqT l,(l.length:Int),false):=
  bq (fun k=>(eqT (l.take k),(k:Int))) l.length (fun k a=>by
   have b:=PW (l.take k)
   have c:=c1G (l.take k).length (by rw [aD];omega)
   simp only [pw]
   rw [brd om,cJ a,obs,c5b (b3t _) (h.get a) om,obs]
   dsimp only
   rw [aS (by simp only [a8,aw];omega),ai _ om om,cB a,b40]
   rfl) (by
   simp only [pw]
   rw [brn om,ae om,bw])
 rw [Ma,obs,key];rfl
theorem c0w {l:List Ext} {k:Nat} (h:k<l.length):atL l (k:Int)=some (l.getD k e0):=by simp [atL,h]
theorem j6.getD {l:List Ext} (h:j6 l) (k:Nat):okE (l.getD k e0):=by
 by_cases a:k<l.length
 ·simp [a];exact h.get a
 ·simp [cf (Nat.le_of_not_lt a)];exact b1D
end Go.AI.Fn
namespace Go.AI.Fn
abbrev K:={x:Ext//okE x}
def K.n (i:Int):K:=⟨eN (i%2130706433),b5p (nm _)⟩
instance c4z:Add K:=⟨fun a b=>⟨eA a.1 b.1,a56 _ _⟩⟩
instance c4p:Mul K:=⟨fun a b=>⟨eM a.1 b.1,Fh _ _⟩⟩
instance c4R:Sub K:=⟨fun a b=>⟨eS a.1 b.1,IG _ _⟩⟩
instance c51:Neg K:=⟨fun a=>⟨eS e0 a.1,IG _ _⟩⟩
instance b7s:NatCast K:=⟨fun n=>K.n n⟩
instance b9U:IntCast K:=⟨fun n=>K.n n⟩
instance c45 (n:Nat):OfNat K n:=⟨K.n n⟩
def K.pow (a:K):Nat->K
 |0=>K.n 1
 |n+1=>K.pow a n*a
instance c4o:HPow K Nat K:=⟨K.pow⟩
theorem K.ext {a b:K} (h:a.1=b.1):a=b:=Subtype.ext h
theorem K.mul_val (a b:K):(a*b).1=eM a.1 b.1:=rfl
theorem K.n_mul (i j:Int):K.n (i*j)=K.n i*K.n j:=K.ext (CF (by
 show (i*j)%2130706433=((i%2130706433)*(j%2130706433)+3*(0*0))%2130706433
 rw [show (3:Int)*(0*0)=0 from rfl,Int.add_zero, <-rO]) (by
 show (0:Int)=((i%2130706433)*0+0*(j%2130706433))%2130706433
 rw [Int.mul_zero,Int.zero_mul];rfl))
instance b8w:NeZero 2130706433:=⟨by decide⟩
abbrev FP:=Fin 2130706433
def K.a (x:K):FP:=⟨x.1.A.toNat,by have h:=x.2.1;unfold okF at h;omega⟩
def K.b (x:K):FP:=⟨x.1.B.toNat,by have h:=x.2.2;unfold okF at h;omega⟩
theorem K.A_nat (x:K): ∃n:Nat,x.1.A=(n:Int)/\n<2130706433/\(K.a x).val=n:=⟨x.1.A.toNat,by have h:=x.2.1;unfold okF at h;omega,(K.a x).isLt,rfl⟩
theorem K.B_nat (x:K): ∃n:Nat,x.1.B=(n:Int)/\n<2130706433/\(K.b x).val=n:=⟨x.1.B.toNat,by have h:=x.2.2;unfold okF at h;omega,(K.b x).isLt,rfl⟩
theorem K.eqv {x y:K}:x=y↔K.a x=K.a y/\K.b x=K.b y:=⟨fun h=>by rw [h];exact ⟨rfl,rfl⟩,fun h=>by
 obtain ⟨n,c,_,d⟩:=K.A_nat x
 obtain ⟨m,e,_,f⟩:=K.A_nat y
 obtain ⟨i,k,_,l⟩:=K.B_nat x
 obtain ⟨j,o,_,p⟩:=K.B_nat y
 have e1:=congrArg Fin.val h.1
 have e2:=congrArg Fin.val h.2
 exact K.ext (CF om om)⟩
theorem K.ad_a (x y:K):K.a (x+y)=K.a x+K.a y:=Fin.ext (by
 obtain ⟨n,d,_,b⟩:=K.A_nat x
 obtain ⟨m,e,_,c⟩:=K.A_nat y
 rw [Fin.val_add,b,c]
 show ((x.1.A+y.1.A)%2130706433).toNat=_
 omega)
theorem K.ad_b (x y:K):K.b (x+y)=K.b x+K.b y:=Fin.ext (by
 obtain ⟨n,d,_,a⟩:=K.B_nat x
 obtain ⟨m,e,_,c⟩:=K.B_nat y
 rw [Fin.val_add,a,c]
 show ((x.1.B+y.1.B)%2130706433).toNat=_
 omega)
theorem K.su_a (x y:K):K.a (x-y)=K.a x-K.a y:=Fin.ext (by
 obtain ⟨n,b,_,c⟩:=K.A_nat x
 obtain ⟨m,d,_,e⟩:=K.A_nat y
 rw [Fin.sub_def]
 show ((x.1.A-y.1.A)%2130706433).toNat=(2130706433-(K.a y).val+(K.a x).val)%2130706433
 omega)
theorem K.su_b (x y:K):K.b (x-y)=K.b x-K.b y:=Fin.ext (by
 obtain ⟨n,a,_,c⟩:=K.B_nat x
 obtain ⟨m,d,_,e⟩:=K.B_nat y
 rw [Fin.sub_def]
 show ((x.1.B-y.1.B)%2130706433).toNat=(2130706433-(K.b y).val+(K.b x).val)%2130706433
 omega)
theorem K.n0_a:K.a 0=0:=rfl
theorem K.n0_b:K.b 0=0:=rfl
theorem K.n1_a:K.a 1=1:=rfl
theorem K.n1_b:K.b 1=0:=rfl
theorem K.n2_a:K.a 2=2:=rfl
theorem K.n2_b:K.b 2=0:=rfl
theorem K.n3_a:K.a 3=3:=rfl
theorem K.n3_b:K.b 3=0:=rfl
theorem K.ne_sub (x:K): -x=0-x:=rfl
theorem K.mu_a (x y:K):K.a (x*y)=K.a x*K.a y+3*(K.b x*K.b y):=Fin.ext (by
 obtain ⟨n,c,_,d⟩:=K.A_nat x
 obtain ⟨m,e,_,f⟩:=K.A_nat y
 obtain ⟨i,h,_,k⟩:=K.B_nat x
 obtain ⟨j,l,_,o⟩:=K.B_nat y
 rw [Fin.val_add,Fin.val_mul,Fin.val_mul,Fin.val_mul,d,f,k,o,show (3:FP).val=3 from rfl]
 show ((x.1.A*y.1.A+3*(x.1.B*y.1.B))%2130706433).toNat=_
 rw [c,e,h,l, <-nu, <-nu]
 generalize n*m=u
 generalize i*j=v
 omega)
theorem K.mu_b (x y:K):K.b (x*y)=K.a x*K.b y+K.b x*K.a y:=Fin.ext (by
 obtain ⟨n,c,_,d⟩:=K.A_nat x
 obtain ⟨m,e,_,f⟩:=K.A_nat y
 obtain ⟨i,h,_,k⟩:=K.B_nat x
 obtain ⟨j,l,_,o⟩:=K.B_nat y
 rw [Fin.val_add,Fin.val_mul,Fin.val_mul,d,f,k,o]
 show ((x.1.A*y.1.B+x.1.B*y.1.A)%2130706433).toNat=_
 rw [c,e,h,l, <-nu, <-nu]
 generalize n*j=u
 generalize i*m=v
 omega)
theorem kg {p:Prop} (h:p:=by (simp only [K.ne_sub,K.eqv,K.ad_a,K.ad_b,K.su_a,K.su_b,K.mu_a,K.mu_b,K.n0_a,K.n0_b,K.n1_a,K.n1_b,K.n2_a,K.n2_b,K.n3_a,K.n3_b] at* <;>first|grind only|grind)):p:=h
def kF (a:Int):K:=K.n a
theorem Kb {a:Int} (h:okF a):(kF a).1=eN a:=by show eN (a%2130706433)=eN a;rw [CX h]
theorem QH (a b:Int):kF (mF a b)=kF a*kF b:=by
 rw [kF,kF,kF, <-K.n_mul]
 exact K.ext (by show eN ((a*b)%2130706433%2130706433)=eN ((a*b)%2130706433);rw [qj])
def kv (l:List K):List Ext:=l.map (·.1)
theorem bB (l:List K):(kv l).length=l.length:=by simp [kv]
theorem An (l:List K):j6 (kv l):=j6.map l fun x _=>x.2
theorem b5K {L:List Ext} (h:j6 L): ∃l,L=kv l:=by
 induction L with
 |nil=>exact ⟨[],rfl⟩
 |cons x L ih=>
  obtain ⟨l,rfl⟩:=ih fun y a=>h y (by simp [a])
  exact ⟨⟨x,h x sm⟩::l,rfl⟩
theorem a9K {l:List K} {j:Nat} (h:j<l.length):(kv l)[j]'(by rw [bB];exact h)=(l.getD j 0).1:=by simp [kv,h]
theorem uF {l:List K} {j:Nat} (h:j<l.length):atL (kv l) (j:Int)=some (l.getD j 0).1:=by rw [cJ (by rw [bB];exact h),a9K h]
theorem MB {l:List K} {j:Nat} (h:j<l.length):(kv l)[j]? =some (l.getD j 0).1:=by rw [Ad (by rw [bB];exact h),a9K h]
end Go.AI.Fn
namespace Go.AI.Fn
theorem pw0 (x:K):x^0=1:=rfl
theorem pwS (x:K) (n:Nat):x^(n+1)=x^n*x:=rfl
theorem pw1 (x:K):x^1=x:=by rw [pwS,pw0];exact kg
theorem Rf (x:K) (m:Nat): ∀n,x^(m+n)=x^m*x^n
 |0=>by rw [cH,pw0];exact kg
 |n+1=>by rw [<-gw,pwS,pwS,Rf x m n];exact kg
theorem Hk (x:K) (m:Nat): ∀n,x^(m*n)=(x^m)^n
 |0=>by rw [Nat.mul_zero,pw0,pw0]
 |n+1=>by rw [Nat.mul_succ,Rf,pwS,Hk x m n]
theorem a4a: ∀n:Nat,(1:K)^n=1
 |0=>rfl
 |n+1=>by rw [pwS,a4a n];exact kg
theorem b3M (x y:K): ∀n:Nat,(x*y)^n=x^n*y^n
 |0=>by rw [pw0,pw0,pw0];exact kg
 |n+1=>by rw [pwS,pwS,pwS,b3M x y n];exact kg
theorem a1a (x:K) (n:Nat):(x*x)^n=x^n*x^n:=b3M x x n
theorem SG (x:K) (n:Nat):x^(2*n)=x^n*x^n:=by rw [Nat.two_mul,Rf]
theorem b8G (x:K) (m n:Nat):(x^m)^n=(x^n)^m:=by rw [<-Hk,ep,Hk]
def evs:List K->List K
 |a::_::l=>a::evs l
 |[a]=>[a]
 |[]=>[]
def ods:List K->List K
 |_::b::l=>b::ods l
 |_=>[]
theorem pQ: ∀(l:List K) (j:Nat),(evs l).getD j 0=l.getD (2*j) 0
 |[],j=>by simp [evs]
 |[a],0=>rfl
 |[a],j+1=>by simp [evs]
 |a::b::l,0=>rfl
 |a::b::l,j+1=>by rw [show 2*(j+1)=2*j+1+1 by omega];exact pQ l j
theorem sw: ∀(l:List K) (j:Nat),(ods l).getD j 0=l.getD (2*j+1) 0
 |[],j=>by simp [ods]
 |[a],j=>by simp [ods]
 |a::b::l,0=>rfl
 |a::b::l,j+1=>by rw [show 2*(j+1)+1=2*j+1+1+1 by omega];exact sw l j
theorem mI: ∀(l:List K) (m:Nat),l.length=2*m->(evs l).length=m
 |[],m,h=>by simp at h;simp [evs];omega
 |[a],m,h=>by simp at h;omega
 |a::b::l,0,h=>by simp at h
 |a::b::l,m+1,h=>by simp only [evs,ab];rw [mI l m (by simp only [ab] at h;omega)]
theorem nr: ∀(l:List K) (m:Nat),l.length=2*m->(ods l).length=m
 |[],m,h=>by simp at h;simp [ods];omega
 |[a],m,h=>by simp at h;omega
 |a::b::l,0,h=>by simp at h
 |a::b::l,m+1,h=>by simp only [ods,ab];rw [nr l m (by simp only [ab] at h;omega)]
theorem lr {a b:List K} (d:a.length=b.length) (h: ∀j,j<a.length->a.getD j 0=b.getD j 0):a=b:=by
 refine jp d fun j c e=> ?_
 have:=h j c
 simpa [c,e] using this
theorem c6z {a b:List K} {j:Nat} (h:j<a.length):(a++b).getD j 0=a.getD j 0:=by simp [bc h]
theorem c4A {a b:List K} {j:Nat}:(a++b).getD (a.length+j) 0=b.getD j 0:=by simp [bt]
theorem b6a (n j:Nat):(List.replicate n (0:K)).getD j 0=0:=by
 by_cases h:j<n<;>simp [h]
theorem xc {f:Nat->K} {h j:Nat} (a:j<h):((List.range h).map f).getD j 0=f j:=by simp [a]
def a2P (E O:List K) (w:K) (h:Nat):List K:=(List.range h).map fun j=>E.getD j 0+O.getD j 0*w^j
def a2p (E O:List K) (w:K) (h:Nat):List K:=(List.range h).map fun j=>E.getD j 0-O.getD j 0*w^j
theorem Sx (E O:List K) (w:K) (h:Nat):(a2P E O w h).length=h:=by simp [a2P]
theorem b38 (E O:List K) (w:K) (h:Nat):(a2p E O w h).length=h:=by simp [a2p]
def V:Nat->List K->K->List K
 |0,l,_=>l
 |k+1,l,w=>a2P (V k (evs l) (w*w)) (V k (ods l) (w*w)) w (2^k)++a2p (V k (evs l) (w*w)) (V k (ods l) (w*w)) w (2^k)
theorem Dg: ∀(k:Nat) (l:List K) (w:K),l.length=2^k->(V k l w).length=2^k
 |0,l,w,h=>h
 |k+1,l,w,h=>by rw [V,a8,Sx,b38,aZ];omega
theorem b2V {k:Nat} {l:List K} {w:K} {j:Nat} (a:j<2^k):(V (k+1) l w).getD j 0=(V k (evs l) (w*w)).getD j 0+(V k (ods l) (w*w)).getD j 0*w^j:=by
 rw [V,c6z (by rw [Sx];exact a),a2P,xc a]
theorem b3K {k:Nat} {l:List K} {w:K} {j:Nat} (c:j<2^k):(V (k+1) l w).getD (2^k+j) 0=(V k (evs l) (w*w)).getD j 0-(V k (ods l) (w*w)).getD j 0*w^j:=by
 have e:=c4A (a:=a2P (V k (evs l) (w*w)) (V k (ods l) (w*w)) w (2^k)) (b:=a2p (V k (evs l) (w*w)) (V k (ods l) (w*w)) w (2^k)) (j:=j)
 rw [Sx] at e
 rw [V,e,a2p,xc c]
theorem ID {l:List K} {k:Nat} (h:l.length=2^(k+1)):(evs l).length=2^k:=mI l _ (by rw [h,aZ];omega)
theorem J3 {l:List K} {k:Nat} (h:l.length=2^(k+1)):(ods l).length=2^k:=nr l _ (by rw [h,aZ];omega)
def cb (r:K) (a b:List K):List K:=List.zipWith (fun x y=>x+r*y) a b
theorem pJ {r:K} {a b:List K} (h:a.length=b.length):(cb r a b).length=a.length:=by simp [cb,h]
theorem nW {r:K}: ∀{a b:List K} (h:a.length=b.length) (j:Nat),(cb r a b).getD j 0=a.getD j 0+r*b.getD j 0
 |[],[],_,j=>by simp [cb];exact kg
 |x::a,y::b,h,0=>by simp [cb]
 |x::a,y::b,h,j+1=>by
  have:=nW (r:=r) (a:=a) (b:=b) (by simpa using h) j
  simpa [cb] using this
theorem c2X {r:K} {a b:List K} {n:Nat} (h:a.length=2*n) (g:b.length=2*n):evs (cb r a b)=cb r (evs a) (evs b):=by
 have c:=mI a n h
 have d:=mI b n g
 have e:=mI (cb r a b) n (by rw [pJ om,h])
 refine lr (by rw [pJ om];omega) fun j f=> ?_
 rw [pQ,nW om,nW om,pQ,pQ]
theorem c2C {r:K} {a b:List K} {n:Nat} (h:a.length=2*n) (g:b.length=2*n):ods (cb r a b)=cb r (ods a) (ods b):=by
 have c:=nr a n h
 have d:=nr b n g
 have e:=nr (cb r a b) n (by rw [pJ om,h])
 refine lr (by rw [pJ om];omega) fun j f=> ?_
 rw [sw,nW om,nW om,sw,sw]
theorem b1P {r:K}: ∀(k:Nat) (a b:List K) (w:K),a.length=2^k->b.length=2^k->V k (cb r a b) w=cb r (V k a w) (V k b w)
 |0,a,b,w,_,_=>rfl
 |k+1,a,b,w,d,e=>by
  have hc:(cb r a b).length=2^(k+1):=by rw [pJ om,d]
  have f:=Dg (k+1) a w d
  have l:=Dg (k+1) b w e
  have ea:=Dg k (evs a) (w*w) (ID d)
  have eb:=Dg k (evs b) (w*w) (ID e)
  have oa:=Dg k (ods a) (w*w) (J3 d)
  have ob:=Dg k (ods b) (w*w) (J3 e)
  refine lr (by rw [pJ om,Dg _ _ _ hc,f]) fun j h=> ?_
  rw [Dg _ _ _ hc,aZ] at h
  rw [nW om]
  have e1:evs (cb r a b)=cb r (evs a) (evs b):=c2X (n:=2^k) (by rw [d,aZ];omega) (by rw [e,aZ];omega)
  have e2:ods (cb r a b)=cb r (ods a) (ods b):=c2C (n:=2^k) (by rw [d,aZ];omega) (by rw [e,aZ];omega)
  by_cases c:j<2^k
  ·rw [b2V c,b2V c,b2V c,e1,e2,b1P k _ _ _ (ID d) (ID e),b1P k _ _ _ (J3 d) (J3 e),nW om,nW om]
   exact kg
  ·obtain ⟨i,rfl⟩: ∃i,j=2^k+i:=⟨j-2^k,by omega⟩
   have hi:i<2^k:=by omega
   rw [b3K hi,b3K hi,b3K hi,e1,e2,b1P k _ _ _ (ID d) (ID e),b1P k _ _ _ (J3 d) (J3 e),nW om,nW om]
   exact kg
def ev:List K->K->K
 |[],_=>0
 |a::l,x=>a+x*ev l x
theorem QJ: ∀(l:List K) (x:K),ev l x=ev (evs l) (x*x)+x*ev (ods l) (x*x)
 |[],x=>by simp only [ev,evs,ods];exact kg
 |[a],x=>by simp only [ev,evs,ods];exact kg
 |a::b::l,x=>by
  have:=QJ l x
  simp only [ev,evs,ods];exact kg
theorem b1t: ∀(a b:List K) (x:K),ev (a++b) x=ev a x+x^a.length*ev b x
 |[],b,x=>by simp only [bA,ev,ah,pw0];exact kg
 |y::a,b,x=>by
  have:=b1t a b x
  simp only [i5,ev,ab,pwS];exact kg
def Rt:Nat->K->Prop
 |0,_=>True
 |k+1,w=>w^2^k= -1
theorem Rt.sq {k:Nat} {w:K} (h:Rt (k+1) w):Rt k (w*w):=by
 cases k with
 |zero=>trivial
 |succ k=>
  show (w*w)^2^k= -1
  rw [a1a, <-Rf,show 2^k+2^k=2^(k+1) by rw [aZ];omega];exact h
theorem c1Q: ∀(k:Nat) (l:List K) (w:K),l.length=2^k->Rt k w-> ∀j,j<2^k->(V k l w).getD j 0=ev l (w^j)
 |0,[a],w,_,_,0,_=>by
  show a=a+w^0*0
  exact kg
 |k+1,l,w,d,b,j,e=>by
  have ih1:=c1Q k (evs l) (w*w) (ID d) b.sq
  have ih2:=c1Q k (ods l) (w*w) (J3 d) b.sq
  rw [aZ] at e
  by_cases c:j<2^k
  ·rw [b2V c,ih1 j c,ih2 j c,QJ l,a1a];exact kg
  ·obtain ⟨i,rfl⟩: ∃i,j=2^k+i:=⟨j-2^k,by omega⟩
   have hi:i<2^k:=by omega
   have f:w^(2^k+i)= -(w^i):=by rw [Rf,show w^2^k= -1 from b];exact kg
   rw [b3K hi,ih1 i hi,ih2 i hi,QJ l,f,a1a,show-w^i* -w^i=w^i*w^i by exact kg];exact kg
def sc (c:K) (l:List K):List K:=l.map fun a=>c*a
theorem c0O (c:K) (l:List K) (j:Nat):(sc c l).getD j 0=c*l.getD j 0:=by
 by_cases h:j<l.length
 ·simp [sc,h]
 ·simp [sc,h];exact kg
end Go.AI.Fn
namespace Go.AI.Fn
def sO:Nat->(Nat->K)->K
 |0,_=>0
 |n+1,f=>sO n f+f n
theorem AH {f g:Nat->K}: ∀n,(∀k,k<n->f k=g k)->sO n f=sO n g
 |0,_=>rfl
 |n+1,h=>by rw [sO,sO,AH n fun k a=>h k om,h n om]
theorem a1q (f:Nat->K): ∀n,sO (2*n) f=sO n (fun k=>f (2*k))+sO n (fun k=>f (2*k+1))
 |0=>by show (0:K)=0+0;exact kg
 |n+1=>by
  have:=a1q f n
  rw [show 2*(n+1)=2*n+1+1 by omega,sO,sO,this,sO,sO];exact kg
def fdK (r:K):List K->List K
 |a::b::l=>(a+r*(b-a))::fdK r l
 |_=>[]
theorem E8 (r:K): ∀(l:List K) (m:Nat),l.length=2*m->(fdK r l).length=m
 |[],m,h=>by simp at h;simp [fdK];omega
 |[a],m,h=>by simp at h;omega
 |a::b::l,0,h=>by simp at h
 |a::b::l,m+1,h=>by simp only [fdK,ab];rw [E8 r l m (by simp only [ab] at h;omega)]
theorem Ez (r:K): ∀(l:List K) (m j:Nat),l.length=2*m->(fdK r l).getD j 0=l.getD (2*j) 0+r*(l.getD (2*j+1) 0-l.getD (2*j) 0)
 |[],m,j,h=>by simp [fdK];exact kg
 |[a],m,j,h=>by simp at h;omega
 |a::b::l,0,j,h=>by simp at h
 |a::b::l,m+1,0,h=>rfl
 |a::b::l,m+1,j+1,h=>by
  rw [show 2*(j+1)=2*j+1+1 by omega]
  exact Ez r l m j (by simp only [ab] at h;omega)
def cmK (kind:Nat) (v:List K):K:=if kind=1 then v.getD 0 0*v.getD 1 0 else v.getD 0 0*(v.getD 1 0*v.getD 2 0-v.getD 3 0)
def vp (T:List (List K)) (k:Nat):List K:=T.map fun t=>t.getD k 0
def wU (kind:Nat) (T:List (List K)) (n:Nat):K:=sO n fun k=>cmK kind (vp T k)
def bdK (r:K) (T:List (List K)):List (List K):=T.map (fdK r)
theorem uQ (T:List (List K)) (k i:Nat):(vp T k).getD i 0=(T.getD i []).getD k 0:=by
 by_cases h:i<T.length
 ·simp [vp,h]
 ·simp [vp,h]
theorem PU (r:K) (T:List (List K)) (i:Nat):(bdK r T).getD i []=fdK r (T.getD i []):=by
 by_cases h:i<T.length
 ·simp [bdK,h]
 ·simp [bdK,h,fdK]
theorem c07 (a b c d:Nat->K): ∀n, ∃p q s:K, ∀x,sO n (fun k=>(a k+x*b k)*(c k+x*d k))=p+x*(q+x*s)
 |0=>⟨0,0,0,fun x=>by show (0:K)=_;exact kg⟩
 |n+1=>by
  obtain ⟨p,q,s,h⟩:=c07 a b c d n
  exact ⟨p+a n*c n,q+(a n*d n+b n*c n),s+b n*d n,fun x=>by rw [sO,h];clear h;exact kg⟩
theorem c0u (a b c d e f g h:Nat->K): ∀n, ∃p q s t:K, ∀x,sO n (fun k=>(a k+x*b k)*((c k+x*d k)*(e k+x*f k)-(g k+x*h k)))=p+x*(q+x*(s+x*t))
 |0=>⟨0,0,0,0,fun x=>by show (0:K)=_;exact kg⟩
 |n+1=>by
  obtain ⟨p,q,s,t,hh⟩:=c0u a b c d e f g h n
  exact ⟨p+a n*(c n*e n-g n),q+(a n*(c n*f n+d n*e n-h n)+b n*(c n*e n-g n)),s+(a n*(d n*f n)+b n*(c n*f n+d n*e n-h n)),t+b n*(d n*f n),fun x=>by rw [sO,hh];clear hh;exact kg⟩
theorem a3C {kind:Nat} {T:List (List K)} {n:Nat} (b:kind=1\/kind=2) (c: ∀i,i<4->(T.getD i []).length=2*n\/T.getD i []=[]):
 ∃p q s t:K,(kind=1->t=0)/\ ∀x,wU kind (bdK x T) n=p+x*(q+x*(s+x*t)):=by
 have a: ∀x i k,i<4->(vp (bdK x T) k).getD i 0=(T.getD i []).getD (2*k) 0+x*((T.getD i []).getD (2*k+1) 0-(T.getD i []).getD (2*k) 0):=by
  intro x i k hi
  rw [uQ,PU]
  rcases c i hi with h|h
  ·exact Ez x _ n k h
  ·rw [h];exact Ez x [] 0 k rfl
 rcases b with rfl|rfl
 ·obtain ⟨p,q,s,h⟩:=c07 (fun k=>(T.getD 0 []).getD (2*k) 0) (fun k=>(T.getD 0 []).getD (2*k+1) 0-(T.getD 0 []).getD (2*k) 0) (fun k=>(T.getD 1 []).getD (2*k) 0) (fun k=>(T.getD 1 []).getD (2*k+1) 0-(T.getD 1 []).getD (2*k) 0) n
  refine ⟨p,q,s,0,fun _=>rfl,fun x=> ?_⟩
  rw [wU,AH n (g:=fun k=>((T.getD 0 []).getD (2*k) 0+x*((T.getD 0 []).getD (2*k+1) 0-(T.getD 0 []).getD (2*k) 0))*((T.getD 1 []).getD (2*k) 0+x*((T.getD 1 []).getD (2*k+1) 0-(T.getD 1 []).getD (2*k) 0))) fun k _=>by rw [cmK,aa rfl,a x 0 k om,a x 1 k om],h]
  clear h;exact kg
 ·obtain ⟨p,q,s,t,h⟩:=c0u (fun k=>(T.getD 0 []).getD (2*k) 0) (fun k=>(T.getD 0 []).getD (2*k+1) 0-(T.getD 0 []).getD (2*k) 0) (fun k=>(T.getD 1 []).getD (2*k) 0) (fun k=>(T.getD 1 []).getD (2*k+1) 0-(T.getD 1 []).getD (2*k) 0)
   (fun k=>(T.getD 2 []).getD (2*k) 0) (fun k=>(T.getD 2 []).getD (2*k+1) 0-(T.getD 2 []).getD (2*k) 0) (fun k=>(T.getD 3 []).getD (2*k) 0) (fun k=>(T.getD 3 []).getD (2*k+1) 0-(T.getD 3 []).getD (2*k) 0) n
  refine ⟨p,q,s,t,fun h=>absurd h dcd,fun x=> ?_⟩
  rw [<-h,wU]
  exact AH n fun k _=>by rw [cmK,a7 dcd,a x 0 k om,a x 1 k om,a x 2 k om,a x 3 k om]
theorem a81 {kind:Nat} {T:List (List K)} {n:Nat} (c: ∀i,i<4->(T.getD i []).length=2*n\/T.getD i []=[]):wU kind T (2*n)=wU kind (bdK 0 T) n+wU kind (bdK 1 T) n:=by
 have b: ∀x i k,i<4->(vp (bdK x T) k).getD i 0=(T.getD i []).getD (2*k) 0+x*((T.getD i []).getD (2*k+1) 0-(T.getD i []).getD (2*k) 0):=by
  intro x i k hi
  rw [uQ,PU]
  rcases c i hi with h|h
  ·exact Ez x _ n k h
  ·rw [h];exact Ez x [] 0 k rfl
 have h0: ∀i k,i<4->(vp (bdK 0 T) k).getD i 0=(vp T (2*k)).getD i 0:=fun i k hi=>by rw [b 0 i k hi,uQ];exact kg
 have a: ∀i k,i<4->(vp (bdK 1 T) k).getD i 0=(vp T (2*k+1)).getD i 0:=fun i k hi=>by rw [b 1 i k hi,uQ];exact kg
 have d: ∀k,cmK kind (vp (bdK 0 T) k)=cmK kind (vp T (2*k)):=fun k=>by simp only [cmK,h0 0 k om,h0 1 k om,h0 2 k om,h0 3 k om]
 have c1: ∀k,cmK kind (vp (bdK 1 T) k)=cmK kind (vp T (2*k+1)):=fun k=>by simp only [cmK,a 0 k om,a 1 k om,a 2 k om,a 3 k om]
 unfold wU
 rw [a1q,AH n fun k _=>(d k).symm,AH n fun k _=>(c1 k).symm]
end Go.AI.Fn
namespace Go.AI.Fn
end Go.AI.Fn
namespace Go.AI.Fn
theorem XP (x y:Int):dJ x y=some (if x<y then-1 else if x>y then 1 else 0):=by
 unfold dJ gJ
 simp only [obs,bne_self_eq_false,bu]
 by_cases h:x<y
 ·rw [brd h,aa h]
 ·rw [brn h,a7 h]
  by_cases a:x>y
  ·rw [brd a,aa a]
  ·rw [brn a,a7 a]
theorem a0y (a b:Int):bX 0 [a,b] (([a,b].length:Nat):Int) 0=br (a !=0) (some (.inr (.inl a))) (some (.inl 1)):=by
 simp only [bX]
 rw [brd sm,show atL [a,b] 0=some a by simp [atL],show IntKind.wrap .i64 (0+1)=1 by decide];rfl
theorem a01 (a b:Int):bX 0 [a,b] (([a,b].length:Nat):Int) 1=br (b !=0) (some (.inr (.inl b))) (some (.inl 2)):=by
 simp only [bX]
 rw [brd sm,show atL [a,b] 1=some b by simp [atL],show IntKind.wrap .i64 (1+1)=2 by decide];rfl
theorem b5A (a b:Int):bX 0 [a,b] (([a,b].length:Nat):Int) 2=some (.inr (.inr (2,false))):=by
 simp only [bX]
 rw [brn sm];simp
theorem b1Q (a b:Int):li [a,b]=some (if a=0 then b else a):=by
 unfold li
 by_cases c:a=0
 ·rw [du (s':=1) (by rw [a0y,m9 c]),aa c]
  by_cases d:b=0
  ·rw [du (s':=2) (by rw [a01,m9 d]),dx (b5A a b),d];rfl
  ·rw [dx (e:= .inl b) (by rw [a01,brb d])];rfl
 ·rw [dx (e:= .inl a) (by rw [a0y,brb c]),a7 c];rfl
def ltE (y x:aN):Prop:=y.Row<x.Row\/(y.Row=x.Row/\y.Col<x.Col)
theorem b0u (y x:aN): ∃c,ik y x=some c/\(c>=0↔ ¬ltE y x):=by
 unfold ik
 rw [XP,XP]
 simp only [obs,b1Q]
 refine ⟨_,rfl, ?_⟩
 unfold ltE
 by_cases d:y.Row<x.Row
 ·simp [d]
 ·by_cases f:y.Row>x.Row
  ·simp [d,f];omega
  ·have a:y.Row=x.Row:=by omega
   by_cases b:y.Col<x.Col
   ·simp [a,b]
   ·by_cases e:y.Col>x.Col
    ·simp [a,b,e]
    ·simp [a,b,e]
def inE (R C:Int) (x:aN):Prop:=(0<=x.Row/\x.Row<=R-1)/\(0<=x.Col/\x.Col<=C-1)/\1<=x.Value/\x.Value<=2130706432
def Z6 (l:List aN) (R C:Int) (t:Nat):Prop:= ∃x,l[t]? =some x/\(¬inE R C x\/(0<t/\ ∃y,l[t-1]? =some y/\ ¬ltE y x))
open Classical in
noncomputable def B5 (l:List aN) (R C:Int):Bool:=decide (l.length<=200/\ ∀t, ¬Z6 l R C t)
open Classical in
theorem b4u {l:List aN} {R C:Int} (h:l.length<=200) (g: ∀t, ¬Z6 l R C t):B5 l R C=true:=by unfold B5;exact aj ⟨h,g⟩
open Classical in
theorem b5j {l:List aN} {R C:Int} (h:l.length<=200-> ¬ ∀t, ¬Z6 l R C t):B5 l R C=false:=by unfold B5;exact ae fun g=>h g.1 g.2
open Classical in
theorem Sc {l:List aN} {R C:Int} (h:B5 l R C=true):l.length<=200:=by unfold B5 at h;exact (gz h).1
theorem LJ (n a b:Int):jQ n a b=some (decide (a<=n/\n<=b)):=by
 unfold jQ
 by_cases h:a<=n
 ·rw [brd h];simp [h]
 ·rw [brn h];simp [h]
theorem c6m (n a b:Int):M4 n a b=some (decide (a<=n/\n<=b)):=by
 unfold M4
 by_cases h:a<=n
 ·rw [brd h];simp [h]
 ·rw [brn h];simp [h]
theorem GQ {l:List aN} {R C:Int} (hl:l.length<=1099511627776) (hR:1<=R/\R<=4096) (hC:1<=C/\C<=4096):ud l R C=some (B5 l R C):=by
 unfold ud
 have key:=rg (step:=qQ l R C l (l.length:Int)) (fun t=>0<=t/\t<=l.length/\ ∀k:Nat,(k:Int)<t-> ¬Z6 l R C k) (fun t=>(l.length-t).toNat)
  (fun e=>(∃x,e= .inl x/\ ∃k,Z6 l R C k)\/(∃x,e= .inr x/\ ∀k, ¬Z6 l R C k)) ?_ 0 ⟨by omega,by omega,by omega⟩
 ·obtain ⟨e,q,⟨x,rfl,k,b⟩|⟨x,rfl,b⟩⟩:=key
  ·rw [q]
   simp only [obs,rX]
   rw [b5j fun _ h=>h k b]
  ·rw [q]
   simp only [obs,vK]
   by_cases h:l.length<=200
   ·rw [aj om,b4u h b]
   ·rw [ae om,b5j fun g=>absurd g h]
 ·intro t ⟨h0,h1,s⟩
  simp only [qQ]
  by_cases c:t<(l.length:Int)
  ·obtain ⟨x,r,e1,e2,a⟩:=Nd (l:=l) (i:=t.toNat) om
   have next: ¬Z6 l R C t.toNat->(fun t:Int=>0<=t/\t<=l.length/\ ∀k:Nat,(k:Int)<t-> ¬Z6 l R C k) (t+1):=by
    intro hn
    refine ⟨by omega,by omega,fun k b=> ?_⟩
    by_cases e:k=t.toNat
    ·subst e;exact hn
    ·exact s k om
   rw [brd c,a61 h0 a]
   simp only [obs,LJ]
   rw [ai (R-1) om om,ai (C-1) om om,ai (t+1) om om]
   by_cases j:0<=x.Row/\x.Row<=R-1
   ·rw [a7G j]
    by_cases m:0<=x.Col/\x.Col<=C-1
    ·rw [a7G m]
     by_cases n:1<=x.Value/\x.Value<=2130706432
     ·rw [a7G n]
      by_cases c3:t>0
      ·rw [brd c3,ai (t-1) om om]
       obtain ⟨y,r2,f1,f2,p⟩:=Nd (l:=l) (i:=(t-1).toNat) om
       rw [a61 om p]
       simp only [obs]
       obtain ⟨d,v,o⟩:=b0u y x
       rw [v]
       simp only [obs]
       rw [show (t-1).toNat=t.toNat-1 by omega] at p
       by_cases c4:d>=0
       ·rw [brd c4]
        exact .inr ⟨_,rfl,.inl ⟨_,rfl,t.toNat,x,a,.inr ⟨by omega,y,p,o.1 c4⟩⟩⟩
       ·rw [brn c4]
        refine .inl ⟨_,rfl,next ?_,by omega⟩
        rintro ⟨x',f,g|⟨_,y',u,w⟩⟩
        ·rw [a] at f;cases f;exact g ⟨j,m,n⟩
        ·rw [a] at f;cases f;rw [p] at u;cases u;exact c4 (o.2 w)
      ·rw [brn c3]
       refine .inl ⟨_,rfl,next ?_,by omega⟩
       rintro ⟨x',f,g|⟨g0,_⟩⟩
       ·rw [a] at f;cases f;exact g ⟨j,m,n⟩
       ·omega
     ·rw [a7t n]
      exact .inr ⟨_,rfl,.inl ⟨_,rfl,t.toNat,x,a,.inl fun g=>n g.2.2⟩⟩
    ·rw [a7t m]
     exact .inr ⟨_,rfl,.inl ⟨_,rfl,t.toNat,x,a,.inl fun g=>m g.2.1⟩⟩
   ·rw [a7t j]
    exact .inr ⟨_,rfl,.inl ⟨_,rfl,t.toNat,x,a,.inl fun g=>j g.1⟩⟩
  ·rw [brn c]
   refine .inr ⟨_,rfl,.inr ⟨_,rfl,fun k b=> ?_⟩⟩
   have z:k<l.length:=by
    obtain ⟨x,hx,_⟩:=b
    obtain ⟨h,_⟩:=eJ.1 hx
    exact h
   exact s k om b
end Go.AI.Fn
namespace Go.AI.Fn
theorem Xr {k:Int} (h:0<=k/\k<=5):1<=ct .i64 1 k/\ct .i64 1 k<=4096:=by
 have:k=0\/k=1\/k=2\/k=3\/k=4\/k=5:=by omega
 rcases this with rfl|rfl|rfl|rfl|rfl|rfl<;>decide
noncomputable def lX (s:bD):Bool:=
 decide (1<=s.Rows/\s.Rows<=5)&&(decide (2<=s.Cols/\s.Cols<=5)&&(decide (0<=s.Publics/\s.Publics<=ct .i64 1 (s.Cols-1)-1)&&
  (B5 s.A (ct .i64 1 s.Rows) (ct .i64 1 s.Cols)&&(B5 s.B (ct .i64 1 s.Rows) (ct .i64 1 s.Cols)&&B5 s.C (ct .i64 1 s.Rows) (ct .i64 1 s.Cols)))))
theorem Cj {s:bD} (f:s.A.length<=1099511627776) (h:s.B.length<=1099511627776) (i:s.C.length<=1099511627776):uj s=some (lX s):=by
 unfold uj lX
 simp only [LJ,obs]
 by_cases a:1<=s.Rows/\s.Rows<=5
 ·rw [a7G a]
  by_cases b:2<=s.Cols/\s.Cols<=5
  ·rw [a7G b]
   have d:=Xr (k:=s.Rows) om
   have e:=Xr (k:=s.Cols) om
   have j:=Xr (k:=s.Cols-1) om
   unfold fh ez
   rw [ai (s.Cols-1) om om,brd om]
   simp only [obs]
   rw [ai (ct .i64 1 (s.Cols-1)-1) om om]
   by_cases c:0<=s.Publics/\s.Publics<=ct .i64 1 (s.Cols-1)-1
   ·rw [a7G c,brd om,brd om,GQ f d e]
    simp only [obs]
    rw [aj a,aj b,aj c]
    cases B5 s.A (ct .i64 1 s.Rows) (ct .i64 1 s.Cols)
    ·rfl
    ·simp only [aQ,bu]
     rw [brd om,brd om,GQ h d e]
     simp only [obs]
     cases B5 s.B (ct .i64 1 s.Rows) (ct .i64 1 s.Cols)
     ·rfl
     ·simp only [aQ,bu]
      rw [brd om,brd om,GQ i d e]
      simp only [obs]
      cases B5 s.C (ct .i64 1 s.Rows) (ct .i64 1 s.Cols)<;>rfl
   ·rw [a7t c,aj a,aj b,ae c];rfl
  ·rw [a7t b,aj a,ae b];rfl
 ·rw [a7t a,ae a];rfl
theorem fE {s:bD} (h:lX s=true):(1<=s.Rows/\s.Rows<=5)/\(2<=s.Cols/\s.Cols<=5)/\(0<=s.Publics/\s.Publics<=4096)/\s.A.length<=200/\s.B.length<=200/\s.C.length<=200:=by
 unfold lX at h
 simp only [aB,aA] at h
 obtain ⟨a,b,f,c,d,e⟩:=h
 have i:=Xr (k:=s.Cols-1) om
 exact ⟨a,b,by omega,Sc c,Sc d,Sc e⟩
def setB (t:Setting):Bool:=decide (1<=t.Rate/\t.Rate<=3)&&(decide (1<=t.Queries/\t.Queries<=8)&&decide (0<=t.Grind/\t.Grind<=12))
theorem nN (t:Setting):kH t=some (setB t):=by
 unfold kH setB
 simp only [LJ,obs]
 cases decide (1<=t.Rate/\t.Rate<=3)<;>cases decide (1<=t.Queries/\t.Queries<=8)<;>rfl
theorem lM {t:Setting} (h:setB t=true):(1<=t.Rate/\t.Rate<=3)/\(1<=t.Queries/\t.Queries<=8)/\0<=t.Grind/\t.Grind<=12:=by
 unfold setB at h
 simpa only [aB,aA] using h
end Go.AI.Fn
namespace Go.AI.Fn
theorem MD {k:Nat} (h:k<=62):ct .i64 1 (k:Int)=((2^k:Nat):Int):=by
 have a: ∀k:Nat,k<63->(2:Int)^k<=4611686018427387904/\0<(2:Int)^k:=by decide
 obtain ⟨b,c⟩:=a k om
 show IntKind.wrap .i64 (1*2^(min ((k:Int).toNat) 64))=_
 rw [aY,dp om,tJ,ai _ om om]
 simp
def yI (h n:Nat) (pub priv:List Int):List Int:=((1::pub)++List.replicate (h-1-pub.length) 0)++(priv++List.replicate (n-h-priv.length) 0)
theorem H7 {h n:Nat} {pub priv:List Int} (a:pub.length+1<=h) (b:priv.length<=n-h) (c:h<=n):(yI h n pub priv).length=n:=by simp [yI];omega
theorem a5l {l r:List Int} {s:Nat} (h:s+r.length<=l.length):yX l s r.length r=l.take s++(r++l.drop (s+r.length)):=by
 rw [yX,bw]
theorem b2r {h n:Nat} {pub priv:List Int} (c:pub.length+1<=h) (d:priv.length<=n-h) (e:h<=n):
 yX (yX ((List.replicate n (0:Int)).set 0 1) 1 pub.length pub) h priv.length priv=yI h n pub priv:=by
 obtain ⟨m,rfl⟩: ∃m,n=m+1:=⟨n-1,by omega⟩
 have e1:(List.replicate (m+1) (0:Int)).set 0 1=1::List.replicate m 0:=by rw [nY];rfl
 have e2:yX (1::List.replicate m (0:Int)) 1 pub.length pub=1::(pub++List.replicate (m-pub.length) 0):=by
  rw [a5l (by simp;omega),jf 1];simp
 rw [e1,e2,a5l (by simp;omega),yI]
 have a:(1::(pub++List.replicate (m-pub.length) (0:Int))).take h=(1::pub)++List.replicate (h-1-pub.length) 0:=by
  obtain ⟨q,rfl⟩: ∃q,h=q+1:=⟨h-1,by omega⟩
  rw [jJ,List.take_append,aX om,List.take_replicate,dp om]
  simp
 have b:(1::(pub++List.replicate (m-pub.length) (0:Int))).drop (h+priv.length)=List.replicate (m+1-h-priv.length) 0:=by
  obtain ⟨q,rfl⟩: ∃q,h=q+1:=⟨h-1,by omega⟩
  rw [show q+1+priv.length=(q+priv.length)+1 by omega,List.drop_succ_cons,List.drop_append,iD om,bA,List.drop_replicate]
  congr 1;omega
 rw [a,b]
def gt (s:bD):Nat:=2^(s.Cols.toNat-1)
theorem AR {s:bD} (h:lX s=true):2<=s.Cols.toNat/\s.Cols.toNat<=5/\s.Cols=(s.Cols.toNat:Int):=by
 obtain ⟨_,a,_⟩:=fE h;omega
theorem xH {s:bD} (h:lX s=true):2^s.Cols.toNat=2*gt s:=by
 obtain ⟨a,_⟩:=AR h
 rw [gt, <-Nat.pow_succ'];congr 1;omega
theorem Cp: ∀k:Nat,k<=5->1<=2^k/\2^k<=32:=by decide
theorem Nv {s:bD} (h:lX s=true):fh s=some (gt s:Int):=by
 obtain ⟨a,b,c⟩:=AR h
 unfold fh
 rw [ai _ om om,brd om,show s.Cols-1=((s.Cols.toNat-1:Nat):Int) by omega,MD om];rfl
theorem OE {s:bD} (h:lX s=true) {pub priv:List Int} (b:pub.length+1<=gt s) (c:priv.length<=gt s):jP s pub priv=some (yI (gt s) (2^s.Cols.toNat) pub priv):=by
 obtain ⟨c1,c2,c3⟩:=AR h
 have d:=xH h
 have e:=Cp s.Cols.toNat c2
 unfold jP
 rw [brd om,c3,MD om, <-c3]
 simp only [aY,aL]
 have a:0<(List.replicate (2^s.Cols.toNat) (0:Int)).length:=by rw [aL];omega
 rw [a0O om om om,brd om,jq a,brd om,brd om,Nv h,obs,GL om om,brd om]
 simp only [aY]
 rw [dp om,dp om,b2r b om om]
theorem HE {l:List Int} (h:l.length<=1000000):AU l=some (l.map eN):=by
 unfold AU
 have key:Loop (wP l (l.length:Int)) ([],0)=some (l.map eN,(l.length:Int),false):=
  bq (fun k=>((l.take k).map eN,(k:Int))) l.length (fun k a=>by
   simp only [wP]
   rw [brd om,cJ a,obs,aS (by simp only [a8,aw,aD,ag];omega),ai _ om om,cB a,bW]
   rfl) (by
   simp only [wP]
   rw [brn om,ae om,bw])
 rw [key];rfl
theorem Wf {h n:Nat} {pub priv:List Int} (b:hK pub) (c:hK priv):hK (yI h n pub priv):=by
 intro x a
 simp only [yI,aJ,aW,ir] at a
 rcases a with ((rfl|a)|⟨_,rfl⟩)|a|⟨_,rfl⟩
 ·exact c1f
 ·exact b x a
 ·exact b81
 ·exact c x a
 ·exact b81
theorem a86 {l:List Int} (h:hK l):j6 (l.map eN):=j6.map l fun x a=>b5p (h x a)
def b9d (s:bD) (pub:List Int) (pt:List Ext):Ext:=a2o (((yI (gt s) (2^s.Cols.toNat) pub []).take (gt s)).map eN) (eqT pt)
theorem Ut {s:bD} (h:lX s=true) {pub:List Int} {pt:List Ext} (c:pub.length+1<=gt s) (d:hK pub) (f:j6 pt) (k:pt.length+1=s.Cols.toNat):A2 s pub pt=some (b9d s pub pt):=by
 obtain ⟨c1,c2,c3⟩:=AR h
 have l:=xH h
 have m:=Cp s.Cols.toNat c2
 have n:(yI (gt s) (2^s.Cols.toNat) pub []).length=2^s.Cols.toNat:=H7 c sm om
 have i:hK (yI (gt s) (2^s.Cols.toNat) pub []):=Wf d (fun x a=>by cases a)
 unfold A2
 rw [OE h c sm,obs,Nv h,obs,ke om om om,obs]
 have e:((yI (gt s) (2^s.Cols.toNat) pub []).drop (Int.toNat 0)).take (((gt s:Nat):Int).toNat-Int.toNat 0)=(yI (gt s) (2^s.Cols.toNat) pub []).take (gt s):=rfl
 have j:=PW pt
 have b:pt.length=s.Cols.toNat-1:=by omega
 have o:2^pt.length=gt s:=by rw [b];rfl
 rw [e,HE (by rw [aD];omega),obs,sr f om,obs,
  KM (a86 fun x a=>i x (cn a)) (b3t _) (by rw [aw,aD];omega) (by rw [aw,aD];omega)]
 rfl
theorem PV {s:bD} (h:lX s=true):0<=s.Publics/\s.Publics.toNat+1<=gt s:=by
 obtain ⟨c1,c2,c3⟩:=AR h
 have h0:=h
 unfold lX at h0
 simp only [aB,aA] at h0
 obtain ⟨_,_,a,_⟩:=h0
 have e:ct .i64 1 (s.Cols-1)=(gt s:Int):=by
  rw [show s.Cols-1=((s.Cols.toNat-1:Nat):Int) by omega,MD om];rfl
 rw [e] at a
 omega
end Go.AI.Fn
namespace Go.AI.Fn
end Go.AI.Fn
namespace Go.AI.Fn
end Go.AI.Fn
namespace Go.AI.Fn
def kvv (T:List (List K)):List (List Ext):=T.map kv
theorem tW (T:List (List K)):(kvv T).length=T.length:=by simp [kvv]
theorem Ha {T:List (List K)} {j:Nat} (h:j<T.length):atL (kvv T) (j:Int)=some (kv (T.getD j [])):=by rw [cJ (by rw [tW];exact h)];simp [kvv,h]
theorem b3c (T:List (List K)) (t:List K):kvv (T++[t])=kvv T++[kv t]:=by simp [kvv]
theorem b5x {r:K} {l:List K} {j:Nat} (m:Nat) (h:l.length=2*m) (a:j<m):(fdK r l).take (j+1)=(fdK r l).take j++[l.getD (2*j) 0+r*(l.getD (2*j+1) 0-l.getD (2*j) 0)]:=by
 have b:=E8 r l m h
 rw [cB om, <-Ez r l m j h];simp [show j<(fdK r l).length by omega]
theorem kvS (l:List K) (x:K):kv (l++[x])=kv l++[x.1]:=by simp [kv]
theorem SN {l:List K} {m:Nat} (r:K) (h:l.length=2*m) (b:m<=1000):xR (kv l) r.1=some (kv (fdK r l)):=by
 have c:=E8 r l m h
 unfold xR
 have key:=bq (step:=jR (kv l) r.1.A r.1.B) (fun j=>(kv ((fdK r l).take j),((2*j:Nat):Int))) m (e:=(kv (fdK r l),(l.length:Int),false)) (fun j a=> ?_) ?_
 ·have key':Loop (jR (kv l) r.1.A r.1.B) ([],0)=_:=key
  rw [key'];rfl
 ·simp only [jR]
  rw [brd (by rw [bB];omega),uF om,obs,ai _ om om,show (((2*j:Nat):Int))+1=((2*j+1:Nat):Int) by omega,uF om,obs]
  unfold ww
  rw [mQ (aI _) (aI _),obs,show Ext.mk r.1.A r.1.B=r.1 from rfl,gq r.2 (IG _ _),obs,jI (aI _) (Fh _ _),obs,obs,aS (by rw [a8,bB,aD,ag];omega),
   ai _ om om,show (((2*j:Nat):Int))+2=((2*(j+1):Nat):Int) by omega,b5x m h a,kvS];rfl
 ·simp only [jR]
  rw [brn (by rw [bB];omega),ae (by rw [bB];omega),aX om,h]
structure OkT (kind n:Nat) (T:List (List K)):Prop where
 kd:kind=1\/kind=2
 len:T.length=2*kind
 tab: ∀i,i<T.length->(T.getD i []).length=n
theorem OkT.bd {kind n:Nat} {T:List (List K)} (h:OkT kind (2*n) T) (r:K):OkT kind n (bdK r T):=⟨h.kd,by simp [bdK,h.len],fun i hi=>by
 rw [PU]
 exact E8 r _ n (h.tab i (by simpa [bdK] using hi))⟩
theorem b9y {r:K} {T:List (List K)} {j:Nat} (a:j<T.length):(bdK r T).take (j+1)=(bdK r T).take j++[fdK r (T.getD j [])]:=by
 rw [cB (by simpa [bdK] using a)];simp [bdK,a]
variable {kind n:Nat} {T:List (List K)}
theorem EC (h:OkT kind (2*n) T) (hn:n<=1000) (r:K):DU (kvv T) r.1=some (kvv (bdK r T)):=by
 have b:=h.len
 have c:=h.kd
 have d:(bdK r T).length=T.length:=by simp [bdK]
 unfold DU
 have key:=bq (step:=qU (kvv T) (T.length:Int) r.1.A r.1.B) (fun j=>(kvv ((bdK r T).take j),(j:Int))) T.length (e:=(kvv (bdK r T),(T.length:Int),false)) (fun j a=> ?_) ?_
 ·have key':Loop (qU (kvv T) (T.length:Int) r.1.A r.1.B) ([],0)=_:=key
  rw [tW,key'];rfl
 ·simp only [qU]
  rw [brd om,Ha a,obs,show Ext.mk r.1.A r.1.B=r.1 from rfl,SN r (h.tab j a) hn,obs,aS (by rw [a8,tW,aD,ag];omega),ai _ om om,b9y a,b3c];rfl
 ·simp only [qU]
  rw [brn om,ae om,aX om]
theorem Lw {v:List K} (e:kind=1\/kind=2) (f:v.length=2*kind):wA (kind:Int) (kv v)=some (cmK kind v).1:=by
 unfold wA cmK
 have a:=uF (l:=v) (j:=0) om
 have b:=uF (l:=v) (j:=1) om
 rw [show ((0:Nat):Int)=0 from rfl] at a
 rw [show ((1:Nat):Int)=1 from rfl] at b
 rcases e with rfl|rfl
 ·rw [bre om,a,obs,b,obs,gq (aI _) (aI _),aa rfl];rfl
 ·have c:=uF (l:=v) (j:=2) om
  have d:=uF (l:=v) (j:=3) om
  rw [show ((2:Nat):Int)=2 from rfl] at c
  rw [show ((3:Nat):Int)=3 from rfl] at d
  rw [cm om,a,obs,b,obs,c,obs,gq (aI _) (aI _),obs,d,obs,mQ (Fh _ _) (aI _),obs,gq (aI _) (IG _ _),a7 dcd];rfl
theorem b5t {k j:Nat} (a:j<T.length):(vp T k).take (j+1)=(vp T k).take j++[(T.getD j []).getD k 0]:=by
 rw [cB (by simpa [vp] using a)];simp [vp,a]
theorem RO (T:List (List K)) (k:Nat):(vp T k).length=T.length:=by simp [vp]
theorem a3v (h:OkT kind n T) (hn:n<=1000):Md (kind:Int) (kvv T)=some (wU kind T n).1:=by
 have b:=h.len
 have c:=h.kd
 have a:=Ha (T:=T) (j:=0) om
 rw [show ((0:Nat):Int)=0 from rfl] at a
 unfold Md
 rw [a,obs,bB,h.tab 0 om]
 have key:=bq (step:=rz (kind:Int) (kvv T) (n:Int) 0 0) (fun j=>((j:Int),(sO j fun k=>cmK kind (vp T k)).1.A,(sO j fun k=>cmK kind (vp T k)).1.B)) n (e:=((n:Int),false,(wU kind T n).1.A,(wU kind T n).1.B)) (fun j d=> ?_) ?_
 ·have key':Loop (rz (kind:Int) (kvv T) (n:Int) 0 0) (0,0,0)=_:=key
  rw [key'];rfl
 ·simp only [rz]
  have inner: ∀c7 c8,Loop (qM (kind:Int) (kvv T) (j:Int) (n:Int) (j:Int) (kvv T) (((kvv T).length:Nat):Int) 0 0 c7 c8) ([],0)=some (kv (vp T j),(T.length:Int),false):=fun c7 c8=>by
   have key:=bq (step:=qM (kind:Int) (kvv T) (j:Int) (n:Int) (j:Int) (kvv T) (((kvv T).length:Nat):Int) 0 0 c7 c8) (fun i=>(kv ((vp T j).take i),(i:Int))) T.length (e:=(kv (vp T j),(T.length:Int),false)) (fun i hi=> ?_) ?_
   ·exact key
   ·simp only [qM,tW]
    rw [brd om,Ha hi,obs,uF (by rw [h.tab i hi];exact d),obs,aS (by rw [a8,bB,aD,RO,ag];omega),ai _ om om,b5t hi,kvS];rfl
   ·simp only [qM,tW]
    rw [brn om,ae om,aX (by rw [RO];omega)]
  rw [brd om,inner,obs,Lw c (by rw [RO,b]),obs,jI (aI (sO j fun k=>cmK kind (vp T k))) (aI _),obs,ai _ om om];rfl
 ·simp only [rz]
  rw [brn om,ae om];rfl
def rdK (kind:Nat) (T:List (List K)) (n:Nat):List K:=(List.range (kind+2)).map fun (x:Nat)=>wU kind (bdK (kF (x:Int)) T) n
theorem HJ (kind:Nat) (T:List (List K)) (n:Nat):(rdK kind T n).length=kind+2:=by simp [rdK]
theorem a8a {x:Nat} (h:x<=10):Ext.mk (x:Int) 0=(kF (x:Int)).1:=(Kb ⟨by omega,by omega⟩).symm
theorem xY (a:kind=1\/kind=2):qE (kind:Int)=some ((kind+1:Nat):Int):=by
 unfold qE
 rw [Hx,obs,aj om,aj om,Bool.and_self,aQ,bu,ai _ om om];rfl
theorem Ex (h:OkT kind (2*n) T) (hn:n<=1000):uD (kind:Int) (kvv T)=some (kv (rdK kind T n)):=by
 have a:=h.kd
 unfold uD
 rw [xY a,obs,ai _ om om,show (((kind+1:Nat):Int))+1=((kind+2:Nat):Int) by omega]
 have key:=bq (step:=mT (kind:Int) (kvv T) ((kind+2:Nat):Int)) (fun j=>(kv ((List.range j).map fun (x:Nat)=>wU kind (bdK (kF (x:Int)) T) n),(j:Int))) (kind+2) (e:=(kv (rdK kind T n),((kind+2:Nat):Int),false)) (fun j b=> ?_) ?_
 ·have key':Loop (mT (kind:Int) (kvv T) ((kind+2:Nat):Int)) ([],0)=_:=key
  rw [key'];rfl
 ·simp only [mT]
  rw [brd om,a8a om,EC h hn,obs,a3v (h.bd _) hn,obs,aS (by rw [a8,bB,aw,dX,ag];omega),ai _ om om,ed,bW,ov,kvS];rfl
 ·simp only [mT]
  rw [brn om,ae om];rfl
end Go.AI.Fn
namespace Go.AI.Fn
theorem b3o (a:Int): ∀n:Nat,K.n (a^n)=K.n a^n
 |0=>by rw [kX,pw0];rfl
 |n+1=>by rw [fX,K.n_mul,b3o a n,pwS]
theorem c1W (a:Int):K.n (a%2130706433)=K.n a:=K.ext (by show eN (a%2130706433%2130706433)=eN (a%2130706433);rw [qj])
theorem c0x (a:Int) (n:Nat):kF (pF a n)=kF a^n:=by rw [kF,pF,c1W,b3o];rfl
theorem c6b (a:Int):kF (iF a)=kF a^2130706431:=by rw [iF,c0x]
def lnI (i:Nat) (x v:K):Nat->K
 |0=>v
 |k+1=>if k=i then lnI i x v k else lnI i x v k*(x-kF (k:Int))*kF (iF (sF (i:Int) (k:Int)))
def lnK (vs:List K) (x:K):K:=sO vs.length fun i=>lnI i x (vs.getD i 0) vs.length
theorem c3V {x:Nat} (h:x<=10):Ext.mk (x:Int) 0=(kF (x:Int)).1:=(Kb ⟨by omega,by omega⟩).symm
theorem Ok {vs:List K} (x:K) (d:vs.length<=8):Dd (kv vs) x.1=some (lnK vs x).1:=by
 unfold Dd
 have key:=bq (step:=oD (kv vs) (kv vs) (vs.length:Int) x.1.A x.1.B 0 0) (fun j=>((j:Int),(sO j fun i=>lnI i x (vs.getD i 0) vs.length).1.A,(sO j fun i=>lnI i x (vs.getD i 0) vs.length).1.B)) vs.length (e:=((vs.length:Int),false,(lnK vs x).1.A,(lnK vs x).1.B)) (fun j b=> ?_) ?_
 ·have key':Loop (oD (kv vs) (kv vs) (vs.length:Int) x.1.A x.1.B 0 0) (0,0,0)=_:=key
  rw [bB,key'];rfl
 ·simp only [oD]
  have inner: ∀c9 c10 c11 c12 c13 c14,Loop (ol (kv vs) (j:Int) (kv vs) (vs.length:Int) (j:Int) (((kv vs).length:Nat):Int) x.1.A x.1.B c9 c10 c11 c12 c13 c14) (0,(vs.getD j 0).1.A,(vs.getD j 0).1.B)=some ((vs.length:Int),false,(lnI j x (vs.getD j 0) vs.length).1.A,(lnI j x (vs.getD j 0) vs.length).1.B):=fun c9 c10 c11 c12 c13 c14=>by
   refine bq (step:=ol (kv vs) (j:Int) (kv vs) (vs.length:Int) (j:Int) (((kv vs).length:Nat):Int) x.1.A x.1.B c9 c10 c11 c12 c13 c14) (fun k=>((k:Int),(lnI j x (vs.getD j 0) k).1.A,(lnI j x (vs.getD j 0) k).1.B)) vs.length (fun k f=> ?_) ?_
   ·simp only [ol,bB]
    rw [brd om]
    by_cases c:k=j
    ·rw [m9 om,ai _ om om,lnI,aa c];rfl
    ·rw [brb om,c3V om,show Ext.mk x.1.A x.1.B=x.1 from rfl,mQ x.2 (aI _),obs,gq (aI (lnI j x (vs.getD j 0) k)) (IG _ _),obs,Kv ⟨by omega,by omega⟩ ⟨by omega,by omega⟩,obs,E6 (b4M _ _),obs,yr (Fh _ _) (show okF (iF (sF (j:Int) (k:Int))) from Zl _ _),obs,ai _ om om,lnI,a7 c,Zo, <-Kb (a:=iF (sF (j:Int) (k:Int))) (Zl _ _)];rfl
   ·simp only [ol,bB]
    rw [brn om,ae om]
  rw [brd om,uF b,obs,inner,obs,jI (aI (sO j fun i=>lnI i x (vs.getD i 0) vs.length)) (aI (lnI j x (vs.getD j 0) vs.length)),obs,ai _ om om];rfl
 ·simp only [oD]
  rw [brn om,ae om];rfl
def sqJ:Nat->Int->Int
 |0,x=>x
 |n+1,x=>sqJ n (mF x x)
theorem b4L: ∀(n:Nat) (x:Int),kF (sqJ n x)=kF x^2^n
 |0,x=>by rw [sqJ,kP,pw1]
 |n+1,x=>by rw [sqJ,b4L n,QH,a1a, <-SG,aZ,ep]
theorem c1o {a:Int} (h:sqJ 24 (pF a 127)=1):kF (iF a)*kF a=1:=by
 rw [c6b, <-pwS,show 2130706431+1=127*2^24 by decide,Hk, <-c0x, <-b4L,h];rfl
theorem ivs: ∀i:Nat,i<4-> ∀k:Nat,k<4->k≠i->sqJ 24 (pF (sF (i:Int) (k:Int)) 127)=1:=by decide+kernel
theorem c5M (a b:Int):kF (sF a b)=kF a-kF b:=K.ext (CF (by show (a-b)%2130706433%2130706433=(a%2130706433-b%2130706433)%2130706433;omega) rfl)
theorem iv (i k:Nat) (hi:i<4) (a:k<4) (h:k≠i):kF (iF (sF (i:Int) (k:Int)))*(kF (i:Int)-kF (k:Int))=1:=by
 have:=c1o (ivs i hi k a h)
 rw [c5M] at this;exact this
theorem k0v:kF ((0:Nat):Int)=0:=rfl
theorem k1v:kF ((1:Nat):Int)=1:=rfl
theorem k2v:kF ((2:Nat):Int)=2:=rfl
theorem k3v:kF ((3:Nat):Int)=3:=rfl
theorem lr2 {p q s x w:K} (a:w*2=1):(0+p*(x-1)*(-1)*(x-2)*(-w)+(p+1*(q+1*s))*x*1*(x-2)*(-1))+(p+2*(q+2*s))*x*w*(x-1)*1=p+x*(q+x*s):=by exact kg
theorem kmA (a b c:K):a*b*c=a*(b*c):=kg
theorem c6Y {x w u:K} (a:w*2=1) (b:u*3=1):(x-1)*((-1)*((x-2)*((-w)*((x-3)*(-u)))))+x*(1*((x-2)*((-1)*((x-3)*(-w)))))+x*(w*((x-1)*(1*((x-3)*(-1)))))+x*(u*((x-1)*(w*((x-2)*1))))=1:=kg
theorem c6M {x w u:K} (a:w*2=1) (b:u*3=1):x*(1*((x-2)*((-1)*((x-3)*(-w)))))+2*(x*(w*((x-1)*(1*((x-3)*(-1))))))+3*(x*(u*((x-1)*(w*((x-2)*1)))))=x:=kg
theorem c6S {x w u:K} (a:w*2=1) (b:u*3=1):x*(1*((x-2)*((-1)*((x-3)*(-w)))))+2*(2*(x*(w*((x-1)*(1*((x-3)*(-1)))))))+3*(3*(x*(u*((x-1)*(w*((x-2)*1))))))=x*x:=kg
theorem c7f {x w u:K} (a:w*2=1) (b:u*3=1):x*(1*((x-2)*((-1)*((x-3)*(-w)))))+2*(2*(2*(x*(w*((x-1)*(1*((x-3)*(-1))))))))+3*(3*(3*(x*(u*((x-1)*(w*((x-2)*1)))))))=x*(x*x):=kg
theorem c6L {p q s t x a c1 c2 c3:K} (h0:a+c1+c2+c3=1) (b:c1+2*c2+3*c3=x) (c:c1+2*(2*c2)+3*(3*c3)=x*x) (d:c1+2*(2*(2*c2))+3*(3*(3*c3))=x*(x*x)):
 0+p*a+(p+1*(q+1*(s+1*t)))*c1+(p+2*(q+2*(s+2*t)))*c2+(p+3*(q+3*(s+3*t)))*c3=p+x*(q+x*(s+x*t)):=by
 have e:0+p*a+(p+1*(q+1*(s+1*t)))*c1+(p+2*(q+2*(s+2*t)))*c2+(p+3*(q+3*(s+3*t)))*c3=p*(a+c1+c2+c3)+q*(c1+2*c2+3*c3)+s*(c1+2*(2*c2)+3*(3*c3))+t*(c1+2*(2*(2*c2))+3*(3*(3*c3))):=by clear h0 b c d;exact kg
 rw [e,h0,b,c,d];clear h0 b c d e;exact kg
theorem lr3 {p q s t x w u:K} (a:w*2=1) (b:u*3=1):((0+p*(x-1)*(-1)*(x-2)*(-w)*(x-3)*(-u)+(p+1*(q+1*(s+1*t)))*x*1*(x-2)*(-1)*(x-3)*(-w))+(p+2*(q+2*(s+2*t)))*x*w*(x-1)*1*(x-3)*(-1))+(p+3*(q+3*(s+3*t)))*x*u*(x-1)*w*(x-2)*1=p+x*(q+x*(s+x*t)):=by
 have:=c6L (p:=p) (q:=q) (s:=s) (t:=t) (c6Y (x:=x) a b) (c6M a b) (c6S a b) (c7f a b)
 simp only [kmA] at this ⊢
 exact this
theorem a4N {a b i j:K} (c:i*(a-b)=1) (d:j*(b-a)=1):i= -j:=by
 have:i*(j*(b-a))= -j*(i*(a-b)):=by exact kg
 rw [c,d] at this;exact kg
theorem a2y {kind n:Nat} {T:List (List K)} (h:OkT kind (2*n) T) (x:K):lnK (rdK kind T n) x=wU kind (bdK x T) n:=by
 have hT: ∀i,i<4->(T.getD i []).length=2*n\/T.getD i []=[]:=fun i _=>by
  by_cases c:i<T.length
  ·exact .inl (h.tab i c)
  ·exact .inr (by simp [c])
 obtain ⟨p,q,s,t,h1,d⟩:=a3C h.kd hT
 have b: ∀i:Nat,i<kind+2->(rdK kind T n).getD i 0=p+kF (i:Int)*(q+kF (i:Int)*(s+kF (i:Int)*t)):=fun i hi=>by rw [rdK,xc hi,d]
 have a1:=iv 0 1 om om om
 have a2:=iv 0 2 om om om
 have a3:=iv 1 0 om om om
 have a4:=iv 1 2 om om om
 have f:=iv 2 0 om om om
 have a6:=iv 2 1 om om om
 have j:=iv 0 3 om om om
 have k:=iv 1 3 om om om
 have a9:=iv 2 3 om om om
 have l:=iv 3 0 om om om
 have m:=iv 3 1 om om om
 have b3:=iv 3 2 om om om
 rw [k0v] at a1 a2 a3 f j l
 rw [k1v] at a1 a3 a4 a6 k m
 rw [k2v] at a2 a4 f a6 a9 b3
 rw [k3v] at j k a9 l m b3
 have hl:lnK (rdK kind T n) x=sO (kind+2) fun i=>lnI i x ((rdK kind T n).getD i 0) (kind+2):=by rw [lnK,HJ]
 rw [hl,d]
 have o: ∀v,lnI 0 x v 3=v*(x-1)*kF (iF (sF ((0:Nat):Int) ((1:Nat):Int)))*(x-2)*kF (iF (sF ((0:Nat):Int) ((2:Nat):Int))):=fun v=>by
  simp only [lnI,k0v,k1v,k2v,reduceIte,show ¬(1:Nat)=0 by decide,show ¬(2:Nat)=0 by decide]
 have r: ∀v,lnI 1 x v 3=v*(x-0)*kF (iF (sF ((1:Nat):Int) ((0:Nat):Int)))*(x-2)*kF (iF (sF ((1:Nat):Int) ((2:Nat):Int))):=fun v=>by
  simp only [lnI,k0v,k1v,k2v,reduceIte,show ¬(0:Nat)=1 by decide,show ¬(2:Nat)=1 by decide]
 have z: ∀v,lnI 2 x v 3=v*(x-0)*kF (iF (sF ((2:Nat):Int) ((0:Nat):Int)))*(x-1)*kF (iF (sF ((2:Nat):Int) ((1:Nat):Int))):=fun v=>by
  simp only [lnI,k0v,k1v,k2v,reduceIte,show ¬(0:Nat)=2 by decide,show ¬(1:Nat)=2 by decide]
 have g3: ∀v,lnI 3 x v 4=v*(x-0)*kF (iF (sF ((3:Nat):Int) ((0:Nat):Int)))*(x-1)*kF (iF (sF ((3:Nat):Int) ((1:Nat):Int)))*(x-2)*kF (iF (sF ((3:Nat):Int) ((2:Nat):Int))):=fun v=>by
  simp only [lnI,k0v,k1v,k2v,reduceIte,show ¬(0:Nat)=3 by decide,show ¬(1:Nat)=3 by decide,show ¬(2:Nat)=3 by decide]
 have gs: ∀i v,i≠3->lnI i x v 4=lnI i x v 3*(x-3)*kF (iF (sF (i:Int) ((3:Nat):Int))):=fun i v hi=>by
  show (if 3=i then _ else _)=_
  rw [a7 (fun e=>hi e.symm),k3v]
 have g0:=fun v=>gs 0 v dcd
 have g1:=fun v=>gs 1 v dcd
 have g2:=fun v=>gs 2 v dcd
 clear gs
 generalize kF (iF (sF ((0:Nat):Int) ((1:Nat):Int)))=i01 at*
 generalize kF (iF (sF ((0:Nat):Int) ((2:Nat):Int)))=i02 at*
 generalize kF (iF (sF ((1:Nat):Int) ((0:Nat):Int)))=i10 at*
 generalize kF (iF (sF ((1:Nat):Int) ((2:Nat):Int)))=i12 at*
 generalize kF (iF (sF ((2:Nat):Int) ((0:Nat):Int)))=w at*
 generalize kF (iF (sF ((2:Nat):Int) ((1:Nat):Int)))=i21 at*
 generalize kF (iF (sF ((0:Nat):Int) ((3:Nat):Int)))=i03 at*
 generalize kF (iF (sF ((1:Nat):Int) ((3:Nat):Int)))=i13 at*
 generalize kF (iF (sF ((2:Nat):Int) ((3:Nat):Int)))=i23 at*
 generalize kF (iF (sF ((3:Nat):Int) ((0:Nat):Int)))=u at*
 generalize kF (iF (sF ((3:Nat):Int) ((1:Nat):Int)))=i31 at*
 generalize kF (iF (sF ((3:Nat):Int) ((2:Nat):Int)))=i32 at*
 have e1:i01= -1:=by exact kg
 have e2:i02= -w:=a4N a2 f
 have e3:i10=1:=by exact kg
 have e4:i12= -1:=by exact kg
 have e5:i21=1:=by exact kg
 have a:w*2=1:=by exact kg
 have e7:i03= -u:=a4N j l
 have e8:i13= -w:=by
  have:i13*(w*2)= -w*(i13*(1-3)):=by exact kg
  rw [k,a] at this;exact kg
 have e9:i23= -1:=by exact kg
 have e10:i31=w:=by
  have:i31*(w*2)=w*(i31*(3-1)):=by exact kg
  rw [m,a] at this;exact kg
 have e11:i32=1:=by exact kg
 have e12:u*3=1:=by exact kg
 clear a1 a2 a3 a4 f a6 j k a9 l m b3
 subst e1 e2 e3 e4 e5 e7 e8 e9 e10 e11
 have v0:=b 0 om
 have v1:=b 1 (by have:=h.kd;omega)
 have v2:=b 2 (by have:=h.kd;omega)
 rw [k0v] at v0
 rw [k1v] at v1
 rw [k2v] at v2
 rcases h.kd with rfl|rfl
 ·have ht:=h1 rfl
  subst ht
  show ((0+lnI 0 x _ 3)+lnI 1 x _ 3)+lnI 2 x _ 3=_
  rw [v0,v1,v2,o,r,z]
  clear b hl h1 d hT g0 g1 g2 g3 o r z h e12
  have z1:x-0=x:=by clear a;exact kg
  have z2: ∀u:K,p+0*u=p:=fun u=>by clear a;exact kg
  have z3: ∀y u:K,u+y*0=u:=fun y u=>by clear a;exact kg
  simp only [z1,z2,z3]
  exact lr2 (p:=p) (q:=q) (s:=s) (x:=x) a
 ·have v3:=b 3 om
  rw [k3v] at v3
  show (((0+lnI 0 x _ 4)+lnI 1 x _ 4)+lnI 2 x _ 4)+lnI 3 x _ 4=_
  rw [v0,v1,v2,v3,g0,g1,g2,o,r,z,g3]
  clear b hl h1 d hT g0 g1 g2 g3 o r z h
  have z1:x-0=x:=by clear a e12;exact kg
  have z2: ∀u:K,p+0*u=p:=fun u=>by clear a e12;exact kg
  rw [z1,z2]
  exact lr3 (p:=p) (q:=q) (s:=s) (t:=t) (x:=x) a e12
end Go.AI.Fn
namespace Go.AI.Fn
abbrev xo (a b:Int):Int:=sx .u64 a b
def rot (x s:Int):Int:=if s=0 then x else Cy .u64 (ct .u64 x s) (cc .u64 x (64-s))
def Ps (x:Int):Prop:=0<=x/\x<18446744073709551616
theorem W1 (x:Int):Ps (IntKind.wrap .u64 x):=by
 unfold Ps;simp [IntKind.wrap,IntKind.bits,IntKind.signed];omega
theorem c1L (a b:Int):Ps (xo a b):=W1 _
theorem a0Y {x:Int} (h:Ps x):((BitVec.ofInt 64 x).toNat:Int)=x:=by
 obtain ⟨h0,a⟩:=h
 rw [ix];omega
theorem Lc {a:Int} (h:Ps a):xo 0 a=a:=by
 show IntKind.wrap .u64 _=a
 have:(BitVec.ofInt 64 0^^^BitVec.ofInt 64 a)=BitVec.ofInt 64 a:=by simp
 show IntKind.wrap .u64 ((BitVec.ofInt 64 0^^^BitVec.ofInt 64 a).toNat:Int)=a
 rw [this,a0Y h,ra a h.1 h.2]
theorem b8k {a:Int} (h:Ps a):Cy .u64 a 0=a:=by
 have:(BitVec.ofInt 64 a|||BitVec.ofInt 64 0)=BitVec.ofInt 64 a:=by simp
 show IntKind.wrap .u64 ((BitVec.ofInt 64 a|||BitVec.ofInt 64 0).toNat:Int)=a
 rw [this,a0Y h,ra a h.1 h.2]
theorem b6E (x y:Int):RZ .u64 x y=dc .u64 (dU .u64 y) x:=by
 show IntKind.wrap .u64 ((BitVec.ofInt 64 x&&& ~~~ BitVec.ofInt 64 y).toNat:Int)=IntKind.wrap .u64 ((BitVec.ofInt 64 (dU .u64 y)&&&BitVec.ofInt 64 x).toNat:Int)
 have h:BitVec.ofInt 64 (dU .u64 y)= ~~~ BitVec.ofInt 64 y:=by
  show BitVec.ofInt 64 (IntKind.wrap .u64 ((BitVec.ofInt 64 18446744073709551615^^^BitVec.ofInt 64 y).toNat:Int))=_
  have e:(BitVec.ofInt 64 18446744073709551615^^^BitVec.ofInt 64 y)= ~~~ BitVec.ofInt 64 y:=by
   rw [show BitVec.ofInt 64 18446744073709551615=BitVec.allOnes 64 by decide,BitVec.allOnes_xor]
  rw [e,ra _ om (by have:=(~~~ BitVec.ofInt 64 y).isLt;omega)]
  rw [BitVec.ofInt_natCast,BitVec.ofNat_toNat];simp
 rw [h,BitVec.and_comm]
theorem a5G {x s:Int} (a:0<=s/\s<64):zR x s=some (rot x s):=by
 unfold zR rot
 by_cases h:s=0
 ·rw [bre h,aa h]
 ·rw [cm h,a7 h,brd a.1,ra (64-s) om om,brd om]
end Go.AI.Fn
namespace Go.AI.Fn
theorem c5Z: ∀k:Nat,k<64->dc .u64 (IntKind.wrap .u64 (k:Int)) 63=(k:Int):=by decide
theorem a5O {x s:Int} (b:0<=s/\s<64) (a:s≠0\/Ps x):fV x s=some (rot x s):=by
 have e:dc .u64 (IntKind.wrap .u64 s) 63=s:=by
  have:=c5Z s.toNat om
  rwa [fD b.1] at this
 unfold fV rot
 rw [e,brd b.1,ra (64-s) om om,brd om]
 by_cases h:s=0
 ·subst h
  have a:Ps x:=a.resolve_left (fun h=>h rfl)
  have e1:ct .u64 x 0=x:=by
   show IntKind.wrap .u64 (x*2^0)=x
   rw [kX,Int.mul_one,ra x a.1 a.2]
  have e2:cc .u64 x (64-0)=0:=by
   show x.fdiv (2^64)=0
   rw [nG _ dcd]
   exact Int.ediv_eq_zero_of_lt a.1 a.2
  rw [e1,e2,b8k a,aa rfl]
 ·rw [a7 h]
abbrev g (l:List Int) (i:Int):Int:=l.getD i.toNat 0
def vS:List Int:=[0,1,62,28,27,36,44,6,55,20,3,10,43,25,39,41,45,15,21,8,18,2,61,56,14]
theorem b0O: ∀k:Nat,k<25->0<=vS.getD k 0/\vS.getD k 0<64:=by decide
def p2 (m:List Int) (k:Nat) (l:List Int):List Int:=l.set ((k:Int)%5).toNat (xo (g l ((k:Int)%5)) (g m k))
def p3 (m c:List Int) (k:Nat) (l:List Int):List Int:=
 l.set ((k:Int)/5+5*((2*((k:Int)%5)+3*((k:Int)/5))%5)).toNat (rot (xo (g m k) (xo (g c (((k:Int)%5+4)%5)) (rot (g c (((k:Int)%5+1)%5)) 1))) (g vS k))
def p4 (b:List Int) (k:Nat) (l:List Int):List Int:=
 l.set k (xo (g b k) (RZ .u64 (g b ((k:Int)-(k:Int)%5+((k:Int)%5+2)%5)) (g b ((k:Int)-(k:Int)%5+((k:Int)%5+1)%5))))
def q2 (m:List Int) (k:Nat) (l:List Int):List Int:=l.set k (xo (xo (xo (xo (g m k) (g m ((k:Int)+5))) (g m ((k:Int)+10))) (g m ((k:Int)+15))) (g m ((k:Int)+20)))
def q3 (c:List Int) (k:Nat) (l:List Int):List Int:=l.set k (xo (g l k) (xo (g c (((k:Int)+4)%5)) (rot (g c (((k:Int)+1)%5)) 1)))
def q5 (m:List Int) (x:Int) (y:Nat) (l:List Int):List Int:=l.set ((y:Int)+5*((2*x+3*(y:Int))%5)).toNat (rot (g m (x+5*(y:Int))) (g vS (x+5*(y:Int))))
def q4 (m:List Int) (x:Nat) (l:List Int):List Int:=iU (q5 m x) 5 l
def q7 (b:List Int) (x:Int) (y:Nat) (l:List Int):List Int:=l.set (x+5*(y:Int)).toNat (xo (g b (x+5*(y:Int))) (dc .u64 (dU .u64 (g b ((x+1)%5+5*(y:Int)))) (g b ((x+2)%5+5*(y:Int)))))
def q6 (b:List Int) (x:Nat) (l:List Int):List Int:=iU (q7 b x) 5 l
theorem b4w (m:List Int) (k:Nat) (l:List Int):(iU (p2 m) k l).length=l.length:=yF (fun _ _=>aO) k l
theorem Wi (m c:List Int) (k:Nat) (l:List Int):(iU (p3 m c) k l).length=l.length:=yF (fun _ _=>aO) k l
theorem Yi (b:List Int) (k:Nat) (l:List Int):(iU (p4 b) k l).length=l.length:=yF (fun _ _=>aO) k l
theorem a3Y (m:List Int) (k:Nat) (l:List Int):(iU (q2 m) k l).length=l.length:=yF (fun _ _=>aO) k l
theorem QF (c:List Int) (k:Nat) (l:List Int):(iU (q3 c) k l).length=l.length:=yF (fun _ _=>aO) k l
theorem b52 (m:List Int) (x:Int) (k:Nat) (l:List Int):(iU (q5 m x) k l).length=l.length:=yF (fun _ _=>aO) k l
theorem b1T (m:List Int) (x:Int) (k:Nat) (l:List Int):(iU (q7 m x) k l).length=l.length:=yF (fun _ _=>aO) k l
theorem a2K (m:List Int) (k:Nat) (l:List Int):(iU (q4 m) k l).length=l.length:=yF (fun x l=>b52 m x 5 l) k l
theorem b1l (m:List Int) (k:Nat) (l:List Int):(iU (q6 m) k l).length=l.length:=yF (fun x l=>b1T m x 5 l) k l
theorem b7A {a b c d t4:List Int} {t3 t5:Int} (h:a.length=25):Loop (iK a b c d t3 t4 t5) (nZ 5,0)=some (iU (p2 a) 25 (nZ 5),25,false):=
 bq (fun k=>(iU (p2 a) k (nZ 5),(k:Int))) 25 (fun k f=>by
  have e:=b4w a k (nZ 5)
  rw [sM] at e
  simp only [iK]
  simp (disch:=omega) only [brd,dw,GL,jq,ai]
  simp only [iU,p2,aY,zQ]
  rfl) (by
  simp (disch:=omega) only [iK,brn];rfl)
theorem b6P {a b c d:List Int} {t2:Int} (h:a.length=25):Loop (kO a b c d t2) (nZ 5,0)=some (iU (q2 a) 5 (nZ 5),5,false):=
 bq (fun k=>(iU (q2 a) k (nZ 5),(k:Int))) 5 (fun k f=>by
  have e:=a3Y a k (nZ 5)
  rw [sM] at e
  simp only [kO]
  simp (disch:=omega) only [brd,dw,GL,jq,ai]
  simp only [iU,q2,aY,zQ]
  rfl) (by
  simp (disch:=omega) only [kO,brn];rfl)
theorem a1v (k:Nat) (a:k<25):0<=vS.getD k 0/\vS.getD k 0<64:=b0O k a
theorem NV:vS.length=25:=rfl
theorem b9E {m10 m12 c a:List Int} {t7 b:Int} (h:m10.length=25) (hc:c.length=5):Loop (iJ m10 vS m12 c t7 a b) (nZ 25,0)=some (iU (p3 m10 c) 25 (nZ 25),25,false):=
 bq (fun k=>(iU (p3 m10 c) k (nZ 25),(k:Int))) 25 (fun k d=>by
  have e:=Wi m10 c k (nZ 25)
  rw [sM] at e
  have f:=a1v k d
  have i:=NV
  simp only [iJ]
  simp (disch:=omega) only [brd,dw,pR,GL,jq,ai]
  rw [a5O ⟨by decide,by decide⟩ (.inl dcd)]
  simp only [obs]
  simp only [aY]
  rw [a5O f (.inr (c1L _ _))]
  simp only [obs]
  rfl) (by
  simp (disch:=omega) only [iJ,brn];rfl)
theorem b8g {m16 m17 m18 b t12:List Int} {t11 t13:Int} {m:List Int} (h:m.length=25) (a:b.length=25):Loop (iL m16 m17 m18 b t11 t12 t13 b) (m,0)=some (iU (p4 b) 25 m,25,false):=
 bq (fun k=>(iU (p4 b) k m,(k:Int))) 25 (fun k c=>by
  have d:=Yi b k m
  simp only [iL]
  simp (disch:=omega) only [brd,dw,pR,GL,jq,ai]
  rfl) (by
  simp (disch:=omega) only [iL,brn];rfl)
theorem b8Q {m11 m12 m13 c m:List Int} {t4:Int} (h:m.length=25) (hc:c.length=5):Loop (kN m11 m12 m13 c t4) (m,0)=some (iU (q3 c) 25 m,25,false):=
 bq (fun k=>(iU (q3 c) k m,(k:Int))) 25 (fun k a=>by
  have b:=QF c k m
  simp only [kN]
  simp (disch:=omega) only [brd,dw,pR,GL,jq,ai]
  rw [a5G ⟨by decide,by decide⟩]
  simp only [obs]
  rfl) (by
  simp (disch:=omega) only [kN,brn];rfl)
theorem b9D {a m22 m23 m25 m:List Int} {b:Int} {x:Nat} (e:x<5) (h:m.length=25) (f:a.length=25):Loop (kK a m22 m23 vS m25 b x) (m,0)=some (iU (q5 a x) 5 m,5,false):=
 bq (fun k=>(iU (q5 a x) k m,(k:Int))) 5 (fun k i=>by
  have j:=b52 a x k m
  have c:=a1v ((x:Int)+5*(k:Int)).toNat om
  have d:=NV
  simp only [kK]
  simp (disch:=omega) only [brd,dw,pR,GL,jq,ai]
  rw [a5G c]
  simp only [obs]
  rfl) (by
  simp (disch:=omega) only [kK,brn];rfl)
theorem b87 {a m16 m17 m19 m:List Int} {t6:Int} (h:m.length=25) (b:a.length=25):Loop (kZ a m16 m17 vS m19 t6) (m,0)=some (iU (q4 a) 5 m,5,false):=
 bq (fun k=>(iU (q4 a) k m,(k:Int))) 5 (fun k c=>by
  have d:=a2K a k m
  simp only [kZ]
  rw [brd om,b9D c om b,obs,ai _ om om]
  rfl) (by
  simp (disch:=omega) only [kZ,brn];rfl)
theorem b9e {m34 m35 m36 m37 b m:List Int} {t13:Int} {x:Nat} (a:x<5) (h:m.length=25) (c:b.length=25):Loop (kL m34 m35 m36 m37 b t13 x) (m,0)=some (iU (q7 b x) 5 m,5,false):=
 bq (fun k=>(iU (q7 b x) k m,(k:Int))) 5 (fun k d=>by
  have e:=b1T b x k m
  simp only [kL]
  simp (disch:=omega) only [brd,dw,pR,GL,jq,ai]
  rfl) (by
  simp (disch:=omega) only [kL,brn];rfl)
theorem b9P {m28 m29 m30 m31 b m:List Int} {t11:Int} (h:m.length=25) (a:b.length=25):Loop (kS m28 m29 m30 m31 b t11) (m,0)=some (iU (q6 b) 5 m,5,false):=
 bq (fun k=>(iU (q6 b) k m,(k:Int))) 5 (fun k c=>by
  have d:=b1l b k m
  simp only [kS]
  rw [brd om,b9e c om a,obs,ai _ om om]
  rfl) (by
  simp (disch:=omega) only [kS,brn];rfl)
def Ev (m:List Int) (rc:Int):List Int:=
 let c:=iU (p2 m) 25 (nZ 5)
 let b:=iU (p3 m c) 25 (nZ 25)
 let r:=iU (p4 b) 25 m
 r.set 0 (xo (r.getD 0 0) rc)
def a2e (m:List Int) (rc:Int):List Int:=
 let c:=iU (q2 m) 5 (nZ 5)
 let a:=iU (q3 c) 25 m
 let b:=iU (q4 a) 5 (nZ 25)
 let r:=iU (q6 b) 5 a
 r.set 0 (xo (r.getD 0 0) rc)
end Go.AI.Fn
namespace Go.AI.Fn
theorem dK {l:List Int} {n:Nat} (h:l.length=n+1): ∃a r,l=a::r/\r.length=n:=by
 cases l with
 |nil=>simp at h
 |cons a r=>exact ⟨a,r,rfl,by simpa using h⟩
theorem b9L {l:List Int} (h:l.length=0):l=[]:=bN h
theorem Zi {l:List Int} (h:l.length=25): ∃s t a2 a3 u v w x y z a10 a11 a12 a13 a14 a15 a16 a17 a18 a19 a20 a21 a22 a23 a24,l=[s,t,a2,a3,u,v,w,x,y,z,a10,a11,a12,a13,a14,a15,a16,a17,a18,a19,a20,a21,a22,a23,a24]:=by
 obtain ⟨s,r0,rfl,h0⟩:=dK h
 obtain ⟨t,r1,rfl,h1⟩:=dK h0
 obtain ⟨a2,r2,rfl,h2⟩:=dK h1
 obtain ⟨a3,r3,rfl,h3⟩:=dK h2
 obtain ⟨u,r4,rfl,h4⟩:=dK h3
 obtain ⟨v,r5,rfl,h5⟩:=dK h4
 obtain ⟨w,r6,rfl,h6⟩:=dK h5
 obtain ⟨x,r7,rfl,h7⟩:=dK h6
 obtain ⟨y,r8,rfl,h8⟩:=dK h7
 obtain ⟨z,r9,rfl,h9⟩:=dK h8
 obtain ⟨a10,r10,rfl,a⟩:=dK h9
 obtain ⟨a11,r11,rfl,b⟩:=dK a
 obtain ⟨a12,r12,rfl,c⟩:=dK b
 obtain ⟨a13,r13,rfl,d⟩:=dK c
 obtain ⟨a14,r14,rfl,e⟩:=dK d
 obtain ⟨a15,r15,rfl,f⟩:=dK e
 obtain ⟨a16,r16,rfl,i⟩:=dK f
 obtain ⟨a17,r17,rfl,j⟩:=dK i
 obtain ⟨a18,r18,rfl,k⟩:=dK j
 obtain ⟨a19,r19,rfl,m⟩:=dK k
 obtain ⟨a20,r20,rfl,n⟩:=dK m
 obtain ⟨a21,r21,rfl,o⟩:=dK n
 obtain ⟨a22,r22,rfl,p⟩:=dK o
 obtain ⟨a23,r23,rfl,q⟩:=dK p
 obtain ⟨a24,r24,rfl,r⟩:=dK q
 obtain rfl:=b9L r
 exact ⟨_,_,_,_,_,_,_,_,_,_,_,_,_,_,_,_,_,_,_,_,_,_,_,_,_,rfl⟩
def oh (m:List Int):Prop:=m.length=25/\ ∀x∈m,Ps x
def cs (m:List Int):List Int:=iU (q2 m) 5 (nZ 5)
theorem b6z {m:List Int} (h:oh m):iU (p2 m) 25 (nZ 5)=cs m:=by
 obtain ⟨n,a⟩:=h
 obtain ⟨b,c,a2,a3,d,e,f,i,j,l,a10,a11,a12,a13,a14,a15,a16,a17,a18,a19,a20,a21,a22,a23,a24,rfl⟩:=Zi n
 have e0:=Lc (a b sm)
 have e1:=Lc (a c sm)
 have e2:=Lc (a a2 sm)
 have o:=Lc (a a3 sm)
 have p:=Lc (a d sm)
 have k:iU (p2 [b,c,a2,a3,d,e,f,i,j,l,a10,a11,a12,a13,a14,a15,a16,a17,a18,a19,a20,a21,a22,a23,a24]) 25 (nZ 5)=[xo (xo (xo (xo (xo 0 b) e) a10) a15) a20,xo (xo (xo (xo (xo 0 c) f) a11) a16) a21,xo (xo (xo (xo (xo 0 a2) i) a12) a17) a22,xo (xo (xo (xo (xo 0 a3) j) a13) a18) a23,xo (xo (xo (xo (xo 0 d) l) a14) a19) a24]:=by kernel_rfl
 have q:cs [b,c,a2,a3,d,e,f,i,j,l,a10,a11,a12,a13,a14,a15,a16,a17,a18,a19,a20,a21,a22,a23,a24]=
  [xo (xo (xo (xo b e) a10) a15) a20,xo (xo (xo (xo c f) a11) a16) a21,xo (xo (xo (xo a2 i) a12) a17) a22,xo (xo (xo (xo a3 j) a13) a18) a23,xo (xo (xo (xo d l) a14) a19) a24]:=by kernel_rfl
 rw [k,q,e0,e1,e2,o,p]
theorem b9v {c:List Int} (a b a2 a3 d e f h i j a10 a11 a12 a13 a14 a15 a16 a17 a18 a19 a20 a21 a22 a23 a24:Int):iU (p3 [a,b,a2,a3,d,e,f,h,i,j,a10,a11,a12,a13,a14,a15,a16,a17,a18,a19,a20,a21,a22,a23,a24] c) 25 (nZ 25)=[rot (xo a (xo (g c 4) (rot (g c 1) 1))) 0,rot (xo f (xo (g c 0) (rot (g c 2) 1))) 44,rot (xo a12 (xo (g c 1) (rot (g c 3) 1))) 43,rot (xo a18 (xo (g c 2) (rot (g c 4) 1))) 21,rot (xo a24 (xo (g c 3) (rot (g c 0) 1))) 14,rot (xo a3 (xo (g c 2) (rot (g c 4) 1))) 28,rot (xo j (xo (g c 3) (rot (g c 0) 1))) 20,rot (xo a10 (xo (g c 4) (rot (g c 1) 1))) 3,rot (xo a16 (xo (g c 0) (rot (g c 2) 1))) 45,rot (xo a22 (xo (g c 1) (rot (g c 3) 1))) 61,rot (xo b (xo (g c 0) (rot (g c 2) 1))) 1,rot (xo h (xo (g c 1) (rot (g c 3) 1))) 6,rot (xo a13 (xo (g c 2) (rot (g c 4) 1))) 25,rot (xo a19 (xo (g c 3) (rot (g c 0) 1))) 8,rot (xo a20 (xo (g c 4) (rot (g c 1) 1))) 18,rot (xo d (xo (g c 3) (rot (g c 0) 1))) 27,rot (xo e (xo (g c 4) (rot (g c 1) 1))) 36,rot (xo a11 (xo (g c 0) (rot (g c 2) 1))) 10,rot (xo a17 (xo (g c 1) (rot (g c 3) 1))) 15,rot (xo a23 (xo (g c 2) (rot (g c 4) 1))) 56,rot (xo a2 (xo (g c 1) (rot (g c 3) 1))) 62,rot (xo i (xo (g c 2) (rot (g c 4) 1))) 55,rot (xo a14 (xo (g c 3) (rot (g c 0) 1))) 39,rot (xo a15 (xo (g c 4) (rot (g c 1) 1))) 41,rot (xo a21 (xo (g c 0) (rot (g c 2) 1))) 2]:=by kernel_rfl
theorem b7w {c:List Int} (a b a2 a3 d e f h i j a10 a11 a12 a13 a14 a15 a16 a17 a18 a19 a20 a21 a22 a23 a24:Int):iU (q3 c) 25 [a,b,a2,a3,d,e,f,h,i,j,a10,a11,a12,a13,a14,a15,a16,a17,a18,a19,a20,a21,a22,a23,a24]=[xo a (xo (g c 4) (rot (g c 1) 1)),xo b (xo (g c 0) (rot (g c 2) 1)),xo a2 (xo (g c 1) (rot (g c 3) 1)),xo a3 (xo (g c 2) (rot (g c 4) 1)),xo d (xo (g c 3) (rot (g c 0) 1)),xo e (xo (g c 4) (rot (g c 1) 1)),xo f (xo (g c 0) (rot (g c 2) 1)),xo h (xo (g c 1) (rot (g c 3) 1)),xo i (xo (g c 2) (rot (g c 4) 1)),xo j (xo (g c 3) (rot (g c 0) 1)),xo a10 (xo (g c 4) (rot (g c 1) 1)),xo a11 (xo (g c 0) (rot (g c 2) 1)),xo a12 (xo (g c 1) (rot (g c 3) 1)),xo a13 (xo (g c 2) (rot (g c 4) 1)),xo a14 (xo (g c 3) (rot (g c 0) 1)),xo a15 (xo (g c 4) (rot (g c 1) 1)),xo a16 (xo (g c 0) (rot (g c 2) 1)),xo a17 (xo (g c 1) (rot (g c 3) 1)),xo a18 (xo (g c 2) (rot (g c 4) 1)),xo a19 (xo (g c 3) (rot (g c 0) 1)),xo a20 (xo (g c 4) (rot (g c 1) 1)),xo a21 (xo (g c 0) (rot (g c 2) 1)),xo a22 (xo (g c 1) (rot (g c 3) 1)),xo a23 (xo (g c 2) (rot (g c 4) 1)),xo a24 (xo (g c 3) (rot (g c 0) 1))]:=by kernel_rfl
theorem b6l (a b a2 a3 c d e f h i a10 a11 a12 a13 a14 a15 a16 a17 a18 a19 a20 a21 a22 a23 a24:Int):iU (q4 [a,b,a2,a3,c,d,e,f,h,i,a10,a11,a12,a13,a14,a15,a16,a17,a18,a19,a20,a21,a22,a23,a24]) 5 (nZ 25)=[rot a 0,rot e 44,rot a12 43,rot a18 21,rot a24 14,rot a3 28,rot i 20,rot a10 3,rot a16 45,rot a22 61,rot b 1,rot f 6,rot a13 25,rot a19 8,rot a20 18,rot c 27,rot d 36,rot a11 10,rot a17 15,rot a23 56,rot a2 62,rot h 55,rot a14 39,rot a15 41,rot a21 2]:=by kernel_rfl
theorem b2u {m c:List Int} (a:m.length=25):iU (p3 m c) 25 (nZ 25)=iU (q4 (iU (q3 c) 25 m)) 5 (nZ 25):=by
 obtain ⟨b,d,a2,a3,e,f,h,i,j,k,a10,a11,a12,a13,a14,a15,a16,a17,a18,a19,a20,a21,a22,a23,a24,rfl⟩:=Zi a
 rw [b9v,b7w,b6l]
def p4' (b:List Int) (k:Nat) (l:List Int):List Int:=l.set k (xo (g b k) (dc .u64 (dU .u64 (g b ((k:Int)-(k:Int)%5+((k:Int)%5+1)%5))) (g b ((k:Int)-(k:Int)%5+((k:Int)%5+2)%5))))
theorem c5e (b:List Int):p4 b=p4' b:=by funext k l;unfold p4 p4';rw [b6E]
theorem b7v (a b a2 a3 c d e f h i a10 a11 a12 a13 a14 a15 a16 a17 a18 a19 a20 a21 a22 a23 a24 j k l m n o p q r s b10 b11 b12 b13 b14 b15 b16 b17 b18 b19 b20 b21 b22 b23 b24:Int):iU (p4' [a,b,a2,a3,c,d,e,f,h,i,a10,a11,a12,a13,a14,a15,a16,a17,a18,a19,a20,a21,a22,a23,a24]) 25 [j,k,l,m,n,o,p,q,r,s,b10,b11,b12,b13,b14,b15,b16,b17,b18,b19,b20,b21,b22,b23,b24]=[xo a (dc .u64 (dU .u64 b) a2),xo b (dc .u64 (dU .u64 a2) a3),xo a2 (dc .u64 (dU .u64 a3) c),xo a3 (dc .u64 (dU .u64 c) a),xo c (dc .u64 (dU .u64 a) b),xo d (dc .u64 (dU .u64 e) f),xo e (dc .u64 (dU .u64 f) h),xo f (dc .u64 (dU .u64 h) i),xo h (dc .u64 (dU .u64 i) d),xo i (dc .u64 (dU .u64 d) e),xo a10 (dc .u64 (dU .u64 a11) a12),xo a11 (dc .u64 (dU .u64 a12) a13),xo a12 (dc .u64 (dU .u64 a13) a14),xo a13 (dc .u64 (dU .u64 a14) a10),xo a14 (dc .u64 (dU .u64 a10) a11),xo a15 (dc .u64 (dU .u64 a16) a17),xo a16 (dc .u64 (dU .u64 a17) a18),xo a17 (dc .u64 (dU .u64 a18) a19),xo a18 (dc .u64 (dU .u64 a19) a15),xo a19 (dc .u64 (dU .u64 a15) a16),xo a20 (dc .u64 (dU .u64 a21) a22),xo a21 (dc .u64 (dU .u64 a22) a23),xo a22 (dc .u64 (dU .u64 a23) a24),xo a23 (dc .u64 (dU .u64 a24) a20),xo a24 (dc .u64 (dU .u64 a20) a21)]:=by kernel_rfl
theorem b96 (a b a2 a3 c d e f h i a10 a11 a12 a13 a14 a15 a16 a17 a18 a19 a20 a21 a22 a23 a24 j k l m n o p q r s b10 b11 b12 b13 b14 b15 b16 b17 b18 b19 b20 b21 b22 b23 b24:Int):iU (q6 [a,b,a2,a3,c,d,e,f,h,i,a10,a11,a12,a13,a14,a15,a16,a17,a18,a19,a20,a21,a22,a23,a24]) 5 [j,k,l,m,n,o,p,q,r,s,b10,b11,b12,b13,b14,b15,b16,b17,b18,b19,b20,b21,b22,b23,b24]=[xo a (dc .u64 (dU .u64 b) a2),xo b (dc .u64 (dU .u64 a2) a3),xo a2 (dc .u64 (dU .u64 a3) c),xo a3 (dc .u64 (dU .u64 c) a),xo c (dc .u64 (dU .u64 a) b),xo d (dc .u64 (dU .u64 e) f),xo e (dc .u64 (dU .u64 f) h),xo f (dc .u64 (dU .u64 h) i),xo h (dc .u64 (dU .u64 i) d),xo i (dc .u64 (dU .u64 d) e),xo a10 (dc .u64 (dU .u64 a11) a12),xo a11 (dc .u64 (dU .u64 a12) a13),xo a12 (dc .u64 (dU .u64 a13) a14),xo a13 (dc .u64 (dU .u64 a14) a10),xo a14 (dc .u64 (dU .u64 a10) a11),xo a15 (dc .u64 (dU .u64 a16) a17),xo a16 (dc .u64 (dU .u64 a17) a18),xo a17 (dc .u64 (dU .u64 a18) a19),xo a18 (dc .u64 (dU .u64 a19) a15),xo a19 (dc .u64 (dU .u64 a15) a16),xo a20 (dc .u64 (dU .u64 a21) a22),xo a21 (dc .u64 (dU .u64 a22) a23),xo a22 (dc .u64 (dU .u64 a23) a24),xo a23 (dc .u64 (dU .u64 a24) a20),xo a24 (dc .u64 (dU .u64 a20) a21)]:=by kernel_rfl
theorem b8o {b m a:List Int} (c:b.length=25) (d:m.length=25) (e:a.length=25):iU (p4 b) 25 m=iU (q6 b) 5 a:=by
 rw [c5e]
 obtain ⟨f,h,a2,a3,i,j,k,l,n,o,a10,a11,a12,a13,a14,a15,a16,a17,a18,a19,a20,a21,a22,a23,a24,rfl⟩:=Zi c
 obtain ⟨p,q,r,s,t,u,v,w,x,y,b10,b11,b12,b13,b14,b15,b16,b17,b18,b19,b20,b21,b22,b23,b24,rfl⟩:=Zi d
 obtain ⟨z,c1,c2,c3,c4,c5,c6,c7,c8,c9,c10,c11,c12,c13,c14,c15,c16,c17,c18,c19,c20,c21,c22,c23,c24,rfl⟩:=Zi e
 rw [b7v,b96]
theorem b4H {m:List Int} {rc:Int} (h:oh m):Ev m rc=a2e m rc:=by
 unfold Ev a2e
 dsimp only
 have b:=b6z h
 unfold cs at b
 rw [b]
 have hc:(iU (q2 m) 5 (nZ 5)).length=5:=by rw [a3Y,sM]
 have c:(iU (q3 (iU (q2 m) 5 (nZ 5))) 25 m).length=25:=by rw [QF];exact h.1
 rw [b2u h.1]
 rw [b8o (a:=iU (q3 (iU (q2 m) 5 (nZ 5))) 25 m) (by rw [a2K,sM]) h.1 c]
theorem b4h {m:List Int} {rc:Int} (h:oh m):oh (Ev m rc):=by
 have d:(Ev m rc).length=25:=by
  unfold Ev;dsimp only;rw [aO,Yi];exact h.1
 refine ⟨d, ?_⟩
 unfold Ev
 dsimp only
 have e:(iU (p3 m (iU (p2 m) 25 (nZ 5))) 25 (nZ 25)).length=25:=by rw [Wi,sM]
 generalize iU (p3 m (iU (p2 m) 25 (nZ 5))) 25 (nZ 25)=b at e
 have key: ∀k,k<=25-> ∀i,i<k-> ∀hi:i<(iU (p4 b) k m).length,Ps (iU (p4 b) k m)[i]:=by
  intro k
  induction k with
  |zero=>intro _ i hi;omega
  |succ k ih=>
   intro j i hi a
   simp only [iU,p4]
   rw [List.getElem_set]
   split
   ·exact c1L _ _
   ·exact ih om i om (by simpa [iU,p4] using a)
 intro x f
 rcases dB f with c|c
 ·obtain ⟨i,hi,rfl⟩:=bp c
  exact key 25 om i (by rw [Yi] at hi;have:=h.1;omega) hi
 ·rw [c];exact c1L _ _
end Go.AI.Fn
set_option maxRecDepth 10000
namespace Go.AI.Fn
def rcL:List Int:=[1,32898,9223372036854808714,9223372039002292224,32907,2147483649,9223372039002292353,9223372036854808585,138,136,2147516425,2147483658,2147516555,9223372036854775947,9223372036854808713,9223372036854808579,9223372036854808578,9223372036854775936,32778,9223372039002259466,9223372039002292353,9223372036854808704,2147483649,9223372039002292232]
theorem c1h:[1,32898,9223372036854808714,9223372039002292224,32907,2147483649,9223372039002292353,9223372036854808585,138,136,2147516425,2147483658,2147516555,9223372036854775947,9223372036854808713,9223372036854808579,9223372036854808578,9223372036854775936,32778,9223372039002259466,9223372039002292353,9223372036854808704,2147483649,9223372039002292232]=rcL:=rfl
theorem a72:[0,1,62,28,27,36,44,6,55,20,3,10,43,25,39,41,45,15,21,8,18,2,61,56,14]=vS:=rfl
theorem Xp:rcL.length=24:=rfl
def rdP (k:Nat) (m:List Int):List Int:=Ev m (rcL.getD k 0)
def Qk (m:List Int):List Int:=iU rdP 24 m
theorem XA (k:Nat) (m:List Int):iU rdP (k+1) m=Ev (iU rdP k m) (rcL.getD k 0):=by rw [iU,rdP]
theorem a4E {m:List Int} (h:oh m): ∀k,oh (iU rdP k m)
 |0=>h
 |k+1=>by rw [XA];exact b4h (a4E h k)
theorem W5 {m:List Int} (h:oh m):oh (Qk m):=a4E h 24
theorem Xa {m:List Int} (h:oh m):pb m=some (Qk m):=by
 unfold pb
 have key:Loop (iR vS rcL rcL) (m,0)=some (Qk m,24,false):=
  bq (fun k=>(iU rdP k m,(k:Int))) 24 (fun k c=>by
   have a:=a4E h k
   have b:=a.1
   have d:=Xp
   simp only [iR]
   simp (disch:=omega) only [brd,GL,jq,ai]
   rw [b7A a.1,obs,b9E a.1 (by rw [b4w,sM]),obs,brd (by rw [Wi,sM]),b8g a.1 (by rw [Wi,sM]),obs]
   have e:=Yi (iU (p3 (iU rdP k m) (iU (p2 (iU rdP k m)) 25 (nZ 5))) 25 (nZ 25)) 25 (iU rdP k m)
   simp (disch:=omega) only [jq,brd]
   rw [XA]
   unfold Ev
   simp only [zQ,aY]) (by simp (disch:=omega) only [iR,brn];rfl)
 rw [c1h,a72,key,obs]
theorem XN {m:List Int} (h:oh m):vB m=some (Qk m):=by
 unfold vB
 have key:Loop (l0 (nZ 25) rcL vS) (m,0)=some (Qk m,24,false):=
  bq (fun k=>(iU rdP k m,(k:Int))) 24 (fun k e=>by
   have a:=a4E h k
   have c:=a.1
   have f:=Xp
   simp only [l0]
   rw [brd om,b6P a.1,obs,b8Q a.1 (by rw [a3Y,sM]),obs,b87 (sM 25) (by rw [QF];exact a.1),obs,
    b9P (by rw [QF];exact a.1) (by rw [a2K,sM]),obs]
   have d:=b1l (iU (q4 (iU (q3 (iU (q2 (iU rdP k m)) 5 (nZ 5))) 25 (iU rdP k m))) 5 (nZ 25)) 5 (iU (q3 (iU (q2 (iU rdP k m)) 5 (nZ 5))) 25 (iU rdP k m))
   rw [QF] at d
   simp (disch:=omega) only [jq,brd,GL,ai]
   rw [XA,b4H a]
   unfold a2e
   simp only [zQ,aY]) (by simp (disch:=omega) only [l0,brn];rfl)
 have b:=(W5 h).1
 rw [brd h.1]
 show (some rcL).bind _=_
 rw [obs,brd Xp]
 show (some vS).bind _=_
 rw [obs,brd NV,key,obs,brd b,brd b,brd b]
theorem b2e {l:List UInt8} {k:Nat} (h:k<l.length):atL l (k:Int)=some (l.getD k 0):=by simp [atL,h]
def lnS (t:List UInt8) (k:Nat) (l:List Int):List Int:=l.set ((k:Int)/8).toNat (Cy .u64 (g l ((k:Int)/8)) (ct .u64 (IntKind.wrap .u64 ((t.getD k 0).toNat:Int)) (8*((k:Int)%8))))
def Cw (t:List UInt8):List Int:=iU (lnS t) t.length (nZ 25)
theorem VX (t:List UInt8) (k:Nat) (l:List Int):(iU (lnS t) k l).length=l.length:=yF (fun _ _=>aO) k l
theorem GO (t:List UInt8):oh (Cw t):=by
 refine ⟨by rw [Cw,VX,sM], ?_⟩
 have key: ∀k, ∀x∈iU (lnS t) k (nZ 25),Ps x:=by
  intro k
  induction k with
  |zero=>intro x a;simp only [iU,nZ,ir] at a;rw [a.2];exact ⟨by decide,by decide⟩
  |succ k ih=>
   intro x a
   rcases dB a with b|b
   ·exact ih x b
   ·rw [b];exact W1 _
 exact key _
theorem XL {t:List UInt8} (h:t.length<=200):D5 t=some (Cw t):=by
 unfold D5
 have key:Loop (pk (nZ 25) t (t.length:Int)) (nZ 25,0)=some (Cw t,(t.length:Int),false):=
  bq (fun k=>(iU (lnS t) k (nZ 25),(k:Int))) t.length (fun k b=>by
   have a:=VX t k (nZ 25)
   rw [sM] at a
   simp only [pk]
   simp (disch:=omega) only [brd,dw,pR,GL,jq,ai,b2e,obs]
   rfl) (by simp (disch:=omega) only [pk,brn];simp;rfl)
 have a:=(GO t).1
 rw [key,obs,brd a,brd a,brd a]
theorem a2m {t:List UInt8} (h:t.length<=200):AC t=some (Cw t):=by
 unfold AC
 have key:Loop (nL (nZ 25) t) (nZ 25,0)=some (Cw t,(t.length:Int),false):=
  bq (fun k=>(iU (lnS t) k (nZ 25),(k:Int))) t.length (fun k b=>by
   have a:=VX t k (nZ 25)
   rw [sM] at a
   simp only [nL]
   simp (disch:=omega) only [brd,dw,pR,GL,jq,ai,ra,b2e,obs]
   rfl) (by simp (disch:=omega) only [nL,brn];simp;rfl)
 have a:=(GO t).1
 rw [key,obs,brd a,brd a,brd a]
def txB (m:List Int) (i:Nat):UInt8:=UInt8.ofInt (cc .u64 (g m ((i:Int)/8)) (8*((i:Int)%8)))
def AM (m:List Int) (n:Nat):List UInt8:=(List.range n).map (txB m)
theorem HM (m:List Int) (n:Nat):(AM m n).length=n:=by simp [AM]
theorem Ti (m:List Int) (n:Nat):AM m (n+1)=AM m n++[txB m n]:=by simp [AM,ed]
theorem a8t {m:List Int} (h:m.length=25):vj m=some (AM m 200,m):=by
 unfold vj
 have key:Loop (kJ m) ([],0)=some (AM m 200,200,false):=
  bq (fun k=>(AM m k,(k:Int))) 200 (fun k a=>by
   have b:=HM m k
   simp only [kJ]
   simp (disch:=omega) only [brd,dw,pR,GL,jq,ai]
   rw [aS (by simp only [a8,ab,ah];omega),Ti]
   rfl) (by simp (disch:=omega) only [kJ,brn];rfl)
 rw [key];rfl
theorem a7Z {m:List Int} (h:m.length=25) {n:Nat} (hn:n<=200):CL m n=some (AM m n):=by
 unfold CL
 have key:Loop (pn m n) ([],0)=some (AM m n,(n:Int),false):=
  bq (fun k=>(AM m k,(k:Int))) n (fun k a=>by
   have b:=HM m k
   simp only [pn]
   simp (disch:=omega) only [brd,dw,pR,GL,jq,ai,ra]
   rw [aS (by simp only [a8,ab,ah];omega),Ti]
   rfl) (by simp (disch:=omega) only [pn,brn];simp)
 rw [brd h,key];rfl
end Go.AI.Fn
namespace Go.AI.Fn
def xoS (t:List Int) (k:Nat) (l:List Int):List Int:=l.set k (xo (g l k) (g t k))
def a7S (t m:List Int):List Int:=iU (xoS t) 25 m
theorem Xz (t:List Int) (k:Nat) (l:List Int):(iU (xoS t) k l).length=l.length:=yF (fun _ _=>aO) k l
theorem a4c {t m:List Int} (h:oh m):oh (a7S t m):=by
 refine ⟨by rw [a7S,Xz];exact h.1, ?_⟩
 have key: ∀k, ∀x∈iU (xoS t) k m,Ps x:=by
  intro k
  induction k with
  |zero=>exact h.2
  |succ k ih=>
   intro x b
   rcases dB b with a|a
   ·exact ih x a
   ·rw [a];exact W1 _
 exact key _
theorem b1K {l5 a:List UInt8} {t m:List Int} (b:t.length=25) (h:m.length=25):Loop (s7 l5 a t) (m,0)=some (a7S t m,25,false):=
 bq (fun k=>(iU (xoS t) k m,(k:Int))) 25 (fun k c=>by
  have d:=Xz t k m
  simp only [s7]
  simp (disch:=omega) only [brd,GL,jq,ai]
  rfl) (by simp (disch:=omega) only [s7,brn];rfl)
theorem b3i {l5 a:List UInt8} {p:Int} {t m:List Int} (b:t.length=25) (h:m.length=25):Loop (pj l5 t a p) (m,0)=some (a7S t m,25,false):=
 bq (fun k=>(iU (xoS t) k m,(k:Int))) 25 (fun k c=>by
  have d:=Xz t k m
  simp only [pj]
  simp (disch:=omega) only [brd,GL,jq,ai]
  rfl) (by simp (disch:=omega) only [pj,brn];rfl)
def c4v (a:List UInt8) (k:Nat) (m:List Int):List Int:=Qk (a7S (Cw ((a.drop (136*k)).take 136)) m)
def Yz (a:List UInt8) (n:Nat):List Int:=iU (c4v a) n (nZ 25)
theorem c5j:oh (nZ 25):=⟨sM 25,fun x a=>by simp only [nZ,ir] at a;rw [a.2];exact ⟨by decide,by decide⟩⟩
theorem SY (a:List UInt8) (n:Nat):Yz a (n+1)=Qk (a7S (Cw ((a.drop (136*n)).take 136)) (Yz a n)):=by
 unfold Yz;rw [iU,c4v]
theorem T3 (a:List UInt8): ∀n,oh (Yz a n)
 |0=>c5j
 |n+1=>by rw [SY];exact W5 (a4c (T3 a n))
theorem b0A {l4 a:List UInt8} {n:Nat} (h:a.length=136*n) (hn:n<=1000000000):Loop (sk l4) (nZ 25,a)=some (Yz a n,[],false):=
 bq (fun k=>(Yz a k,a.drop (136*k))) n (fun k d=>by
  have b:=T3 a k
  have c:=a4c (t:=Cw ((a.drop (136*k)).take 136)) b
  simp only [sk]
  rw [brd (by rw [bQ];omega),ke om om (by rw [bQ];omega),obs,ke om (by rw [bQ];omega) om]
  have e1:(List.drop (Int.toNat 0) (List.drop (136*k) a)).take (Int.toNat 136-Int.toNat 0)=(a.drop (136*k)).take 136:=rfl
  have e2:(List.drop (Int.toNat 136) (List.drop (136*k) a)).take ((((List.drop (136*k) a).length:Nat):Int).toNat-Int.toNat 136)=a.drop (136*(k+1)):=by
   rw [lk,aX (by rw [bQ,bQ];simp;omega)]
   congr 1
  rw [e1,e2,XL (by rw [aD];omega),obs,b1K (GO _).1 b.1,obs,Xa c,obs,obs,SY]) (by
  simp only [sk]
  rw [brn (by rw [bQ];omega),iD om]
  rfl)
theorem b25 {l3 a:List UInt8} {n:Nat} (h:a.length=136*n) (hn:n<=1000000000): ∃p,Loop (pv l3 a) (nZ 25,0)=some (Yz a n,p):=
 ⟨_,bq (fun k=>(Yz a k,((136*k:Nat):Int))) n (fun k d=>by
   have c:=T3 a k
   have b:=a4c (t:=Cw ((a.drop (136*k)).take 136)) c
   simp only [pv]
   rw [brd om,ai _ om om,ke om om om,obs]
   have e1:(List.drop (((136*k:Nat):Int)).toNat a).take (((((136*k:Nat):Int))+136).toNat-(((136*k:Nat):Int)).toNat)=(a.drop (136*k)).take 136:=by
    congr 1
    omega
   rw [e1,a2m (by rw [aD];omega),obs,brd (GO _).1,b3i (GO _).1 c.1,obs,brd b.1,XN b,obs,GL (W5 b).1 b.1,SY]
   have e2:(((136*k:Nat):Int))+136=((136*(k+1):Nat):Int):=by omega
   rw [e2]) (by
   simp only [pv]
   rw [brn om])⟩
def MC (l:List UInt8):List UInt8:=l++List.replicate ((136-l.length%136)%136) 0
theorem SR (l:List UInt8):(MC l).length=136*((l.length+135)/136):=by
 rw [MC,a8,aL];omega
theorem Zj {α:Type} (n:Nat) (x:α):List.replicate (n+1) x=List.replicate n x++[x]:=by
 rw [List.replicate_succ']
theorem b4D {c l:List UInt8} (h:l.length<=1000000000):Loop (oR c) l=some (MC l,false):=by
 have key:=bq (step:=oR c) (e:=(MC l,false)) (fun k=>l++List.replicate k 0) ((136-l.length%136)%136) (fun k a=>by
  simp only [oR]
  rw [dw _ _ om,brb (by rw [a8,aL];omega),aS (by simp only [a8,aL,ab,ah];omega),Zj,aP]) (by
  simp only [oR]
  have e:((((l++List.replicate ((136-l.length%136)%136) (0:UInt8)).length:Nat):Int).tmod 136)=0:=by
   rw [dw _ _ om,a8,aL];omega
  rw [e,m9 rfl];rfl)
 rwa [uu,bL] at key
theorem b3J {c l:List UInt8} (h:l.length<=1000000000):Loop (mZ c) l=some (MC l,false):=by
 have key:=bq (step:=mZ c) (e:=(MC l,false)) (fun k=>l++List.replicate k 0) ((136-l.length%136)%136) (fun k a=>by
  simp only [mZ]
  rw [dw _ _ om,brb (by rw [a8,aL];omega),aS (by simp only [a8,aL,ab,ah];omega),Zj,aP]) (by
  simp only [mZ]
  have e:((((l++List.replicate ((136-l.length%136)%136) (0:UInt8)).length:Nat):Int).tmod 136)=0:=by
   rw [dw _ _ om,a8,aL];omega
  rw [e,m9 rfl];rfl)
 rwa [uu,bL] at key
def Td (b:List UInt8):List UInt8:=(MC (b++[1])).set ((MC (b++[1])).length-1) (UInt8.ofInt (Cy .u8 (((MC (b++[1])).getD ((MC (b++[1])).length-1) 0).toNat:Int) 128))
def H (b:List UInt8):List UInt8:=AM (Yz (Td b) ((b.length+136)/136)) 32
theorem EU (b:List UInt8):(H b).length=32:=HM _ _
theorem Zv (b:List UInt8):(Td b).length=136*((b.length+136)/136):=by
 rw [Td,aO,SR,a8,ag]
theorem b0M {β:Type} {l:List UInt8} {i:Nat} {f:UInt8->Option β} (h:i<l.length):(l[i]?).bind f=f (l.getD i 0):=by simp [h]
theorem a3b (m:List Int):(AM m 200).take 32=AM m 32:=by
 rw [AM, <-List.map_take,List.take_range];rfl
theorem N5 {b:List UInt8} (h:b.length<=100000000):wo b=some (H b):=by
 unfold wo
 have e:=SR (b++[1])
 rw [a8,ag] at e
 have a:=Zv b
 rw [aS om,aS (by rw [a8,ag];omega),b3J (by rw [a8,ag];omega),obs]
 dsimp only
 rw [ai _ om om]
 have ei:(((MC (b++[1])).length:Int)-1).toNat=(MC (b++[1])).length-1:=by omega
 rw [ei]
 simp (disch:=omega) only [brd,b0M]
 obtain ⟨p,c⟩:=b25 (l3:=[1]) a om
 unfold Td at c
 rw [c,obs]
 dsimp only
 have ok:=T3 (Td b) ((b.length+136)/136)
 unfold Td at ok
 rw [brd ok.1]
 have d:=a7Z (n:=32) ok.1 om
 rw [show ((32:Nat):Int)=32 from rfl] at d
 rw [d,obs,H,Td]
theorem YG {l:List (List UInt8)} (h:l.flatten.length<=1000000000) (hn:l.length<=1000000):Loop (rI l (l.length:Int)) ([],0)=some (l.flatten,(l.length:Int),false):=
 bq (fun k=>((l.take k).flatten,(k:Int))) l.length (fun k a=>by
  simp only [rI]
  have b:((l.take k).flatten++l[k]).length<=l.flatten.length:=by
   have e:l.flatten=(l.take (k+1)).flatten++(l.drop (k+1)).flatten:=by rw [<-ux,iX]
   rw [cB a,ux,List.flatten_singleton] at e
   have e2:=congrArg List.length e
   simp only [a8] at e2 ⊢
   omega
  rw [brd om,cJ a,obs,aS om,ai _ om om,cB a,ux,List.flatten_singleton]
  rfl) (by
  simp only [rI]
  rw [brn om,bw];simp)
theorem yh {l:List (List UInt8)} (h:l.flatten.length<=100000000) (hn:l.length<=1000000):uR l=some (H l.flatten):=by
 unfold uR
 rw [YG om hn,obs]
 dsimp only
 generalize l.flatten=b at h
 have d:=SR (b++[1])
 rw [a8,ag] at d
 have a:=Zv b
 rw [aS (by rw [a8,ag];omega),b4D (by rw [a8,ag];omega),obs]
 dsimp only
 rw [ai _ om om]
 have ei:(((MC (b++[1])).length:Int)-1).toNat=(MC (b++[1])).length-1:=by omega
 rw [ei]
 simp (disch:=omega) only [brd,b0M]
 have c:=b0A (l4:=[1]) a om
 unfold Td at c
 rw [c,obs]
 dsimp only
 have ok:=T3 (Td b) ((b.length+136)/136)
 unfold Td at ok
 rw [a8t ok.1,obs,ke om om (by rw [HM];omega),obs,H,Td, <-a3b]
 rfl
theorem xO {t:List UInt8} (h:t.length<=100000000):uT t=some (H t):=by
 unfold uT
 rw [aS om,yh (by simpa using h) sm]
 simp
end Go.AI.Fn
namespace Go.AI.Fn
theorem a4F {a:List UInt8} {i n:Int} (s:a.length<=1048576) (d:0<=i) (e:i<=1099511627776) (hn:1<n): ∃x,TJ a i n=some x/\0<=x/\x<n:=by
 unfold TJ
 rw [brn om]
 by_cases c:(a.length:Int)=0
 ·rw [bre c,brd om,ai _ om om,dw _ _ om]
  exact ⟨_,rfl,dD _ om,cV _ om⟩
 ·rw [cm c,brd c,dw _ _ d]
  have f:=dD i c
  have h:=cV i (b:=(a.length:Int)) om
  obtain ⟨x,j,_,_⟩:=W2 (l:=a) f h
  have k:=dD (i+1) c
  have m:=cV (i+1) (b:=(a.length:Int)) om
  obtain ⟨y,o,_,_⟩:=W2 (l:=a) k m
  have bx:=AX x
  have bz:=AX y
  have p:0<=i/(a.length:Int):=Int.ediv_nonneg d om
  have r:i/(a.length:Int)<=i:=Int.ediv_le_self _ d
  rw [j]
  simp only [obs]
  rw [brd c,ai (i+1) om om,dw _ _ om,o]
  simp only [obs]
  rw [brd c,brd om,pR _ _ d]
  generalize i/(a.length:Int)=q at p r ⊢
  rw [ai q om om,ai (x.toNat:Int) om om,ai (y.toNat:Int) om om,ai ((x.toNat:Int)*31) om om,ai ((x.toNat:Int)*31+(y.toNat:Int)) om om,ai _ om om,dw _ _ om]
  exact ⟨_,rfl,dD _ om,cV _ om⟩
def lD (n:Int):List UInt8:=[UInt8.ofInt (cc .i64 n 24),UInt8.ofInt (cc .i64 n 16),UInt8.ofInt (cc .i64 n 8),UInt8.ofInt n]
def e8 (x:Ext):List UInt8:=lD x.A++lD x.B
theorem gg (n:Int):(lD n).length=4:=rfl
theorem c3Y (x:Ext):(e8 x).length=8:=rfl
theorem qN {n:Int} {l:List UInt8} (h:l.length<=1099511627770):mH n l=some (l++lD n):=by
 unfold mH
 rw [IA (PN (by simp only [a8,ab,ah];omega))];rfl
theorem c6H (n:Int):cc .i64 n 0=n:=by simp [cc]
theorem a51 (n:Int):uA n 4=some (lD n):=by
 unfold uA
 rw [show IntKind.wrap .i64 (4-1)=3 by decide,
  du (s':=([UInt8.ofInt (cc .i64 n 24)],2)) (by kernel_rfl),
  du (s':=([UInt8.ofInt (cc .i64 n 24),UInt8.ofInt (cc .i64 n 16)],1)) (by kernel_rfl),
  du (s':=([UInt8.ofInt (cc .i64 n 24),UInt8.ofInt (cc .i64 n 16),UInt8.ofInt (cc .i64 n 8)],0)) (by kernel_rfl),
  du (s':=([UInt8.ofInt (cc .i64 n 24),UInt8.ofInt (cc .i64 n 16),UInt8.ofInt (cc .i64 n 8),UInt8.ofInt (cc .i64 n 0)], -1)) (by kernel_rfl),
  dx (e:=([UInt8.ofInt (cc .i64 n 24),UInt8.ofInt (cc .i64 n 16),UInt8.ofInt (cc .i64 n 8),UInt8.ofInt (cc .i64 n 0)], -1,false)) (by kernel_rfl),c6H]
 rfl
theorem ij {l:List Ext} (j:l.length<=4194304):iz l=some (l.flatMap e8):=by
 unfold iz
 have key:=rg (step:=nR l (l.length:Int))
  (fun s=>0<=s.2/\s.2<=l.length/\(s.1.length:Int)=8*s.2/\s.1++(l.drop s.2.toNat).flatMap e8=l.flatMap e8) (fun s=>(l.length-s.2).toNat)
  (fun e=>e.1=l.flatMap e8) ?_ ([],0) ⟨by first|omega| (dsimp only;omega),by first|omega| (dsimp only;omega),by simp,rfl⟩
 ·obtain ⟨e,b,h⟩:=key
  rw [b];simp only [obs,h]
 ·rintro ⟨o,t⟩ ⟨h0,d,f,a⟩
  dsimp only at h0 d a f
  by_cases c:t<(l.length:Int)
  ·left
   obtain ⟨x,r,e1,e2,k⟩:=Nd (l:=l) (i:=t.toNat) om
   simp only [nR]
   rw [brd c,b1v h0 e1]
   simp only [obs]
   rw [qN om]
   simp only [obs]
   rw [qN (by simp only [a8,gg];omega),ai (t+1) om om]
   refine ⟨_,rfl,⟨by first|omega| (dsimp only;omega),by first|omega| (dsimp only;omega), ?_, ?_⟩,by first|omega| (dsimp only;omega)⟩
   ·simp only [a8,gg];omega
   ·dsimp only
    rw [show (t+1).toNat=t.toNat+1 by omega,e2]
    rw [e1,dA] at a
    simpa [e8] using a
  ·right
   simp only [nR]
   rw [brn c]
   refine ⟨_,rfl, ?_⟩
   rw [iD om] at a
   simpa using a
end Go.AI.Fn
namespace Go.AI.Fn
def be (w x y z:UInt8):Int:=(((w.toNat:Int)*256+x.toNat)*256+y.toNat)*256+z.toNat
def dec:List UInt8->List Ext
 |a::b::c::d::e::f::g::h::r=>⟨be a b c d,be e f g h⟩::dec r
 |_=>[]
theorem Vu {l:List UInt8} (h:l.length<8):dec l=[]:=by
 match l,h with
 |[],_=>rfl
 |[_],_=>rfl
 |[_,_],_=>rfl
 |[_,_,_],_=>rfl
 |[_,_,_,_],_=>rfl
 |[_,_,_,_,_],_=>rfl
 |[_,_,_,_,_,_],_=>rfl
 |[_,_,_,_,_,_,_],_=>rfl
 |_::_::_::_::_::_::_::_::r,h=>simp at h;omega
theorem c5t {l:List UInt8} (h:8<=l.length): ∃a b c d e f g k r,l=a::b::c::d::e::f::g::k::r:=by
 match l,h with
 |a::b::c::d::e::f::g::k::r,_=>exact ⟨a,b,c,d,e,f,g,k,r,rfl⟩
theorem b8E (l:List UInt8):(dec l).length=l.length/8:=by
 generalize hn:l.length=n
 induction n using Nat.strongRecOn generalizing l with
 |_ n ih=>
  by_cases h:l.length<8
  ·rw [Vu h,ah];omega
  ·obtain ⟨a,b,c,d,e,f,g,k,r,rfl⟩:=c5t (l:=l) om
   simp only [ab] at hn
   simp only [dec,ab,ih r.length om r rfl];omega
theorem b6G {n:Int} (x:UInt8) (h0:0<=n) (c:n<16777216):Cy .i64 (ct .i64 n 8) (IntKind.wrap .i64 (x.toNat:Int))=n*256+x.toNat:=by
 have d:=AX x
 have e1:ct .i64 n 8=n*256:=by
  have:n*2^(min (8:Int).toNat (IntKind.bits .i64))=n*256:=by
   have:(2:Int)^(min (8:Int).toNat (IntKind.bits .i64))=256:=by decide
   rw [this]
  unfold ct
  rw [this,ai _ om om]
 rw [e1,ai (x.toNat:Int) om om]
 unfold Cy
 obtain ⟨m,rfl⟩:=qf h0
 have e2:(BitVec.ofInt (IntKind.bits .i64) ((m:Int)*256)|||BitVec.ofInt (IntKind.bits .i64) (x.toNat:Int)).toNat=m*256+x.toNat:=by
  rw [BitVec.toNat_or,ix,ix]
  have a:(((m:Int)*256)%((2^(IntKind.bits .i64):Nat):Int)).toNat=m<<<8:=by
   rw [show ((2^(IntKind.bits .i64):Nat):Int)=18446744073709551616 by decide,rC];omega
  have b:((x.toNat:Int)%((2^(IntKind.bits .i64):Nat):Int)).toNat=x.toNat:=by
   rw [show ((2^(IntKind.bits .i64):Nat):Int)=18446744073709551616 by decide];omega
  rw [a,b, <-Nat.shiftLeft_add_eq_or_of_lt (show x.toNat<2^8 by omega),rC]
 rw [e2,ai _ om om]
 omega
theorem FJ (w x y z:UInt8):vy [w,x,y,z]=some (be w x y z):=by
 have f:=AX w
 have h:=AX x
 have i:=AX y
 have j:=AX z
 unfold vy
 have st: ∀(n t:Int) (b:UInt8),0<=n->n<16777216->0<=t->t<4->[w,x,y,z][t.toNat]? =some b->sv [w,x,y,z] (([w,x,y,z].length:Nat):Int) (n,t)=some (.inl (n*256+b.toNat,t+1)):=by
  intro n t b h0 a c k d
  simp only [sv]
  rw [brd (by simp only [ab,ah];omega),show atL [w,x,y,z] t=some b by simp [atL,c,d]]
  simp only [obs]
  rw [b6G b h0 a,ai (t+1) om om]
 rw [du (st 0 0 w om om om om rfl),du (st _ _ x om om om om rfl),du (st _ _ y om om om om rfl),du (st _ _ z om om om om rfl)]
 rw [dx (e:=(be w x y z,4,false)) ?_]
 ·rfl
 ·simp only [sv]
  rw [brn (by simp only [ab,ah];omega)]
  simp [be]
theorem Uo {b:List UInt8} (n:b.length<=8388608):AD b=some (dec b,decide (b.length%8=0)&&(dec b).all vY):=by
 unfold AD
 have key:=rg (step:=qO b)
  (fun s=>0<=s.2/\s.2<=b.length/\(s.1.length:Int)*8=s.2/\s.1++dec (b.drop s.2.toNat)=dec b) (fun s=>(b.length-s.2).toNat)
  (fun e=>e.1=dec b) ?_ ([],0) ⟨by first|omega| (dsimp only;omega),by first|omega| (dsimp only;omega),by simp,rfl⟩
 ·obtain ⟨e,f,h⟩:=key
  rw [f]
  simp only [obs,h]
  rw [dw _ _ om]
  by_cases c:b.length%8=0
  ·rw [bre om,Dr (by rw [b8E];omega)]
   simp [c]
  ·rw [cm om]
   simp [c]
 ·rintro ⟨l,i⟩ ⟨h0,j,k,a⟩
  dsimp only at h0 j a k
  simp only [qO]
  rw [ai (i+8) om om]
  by_cases c:i+8<=(b.length:Int)
  ·left
   obtain ⟨p,q,r,s,t,u,v,w,z,d⟩:=c5t (l:=b.drop i.toNat) (by rw [bQ];omega)
   rw [brd c,ai (i+4) om om,ke h0 om om,ke om om om]
   have e1:(b.drop i.toNat).take ((i+4).toNat-i.toNat)=[p,q,r,s]:=by rw [d,show (i+4).toNat-i.toNat=4 by omega];rfl
   have e2:(b.drop (i+4).toNat).take ((i+8).toNat-(i+4).toNat)=[t,u,v,w]:=by
    rw [show (i+4).toNat=i.toNat+4 by omega, <-lk,d,show (i+8).toNat-(i.toNat+4)=4 by omega];rfl
   have m:b.drop (i+8).toNat=z:=by rw [show (i+8).toNat=i.toNat+8 by omega, <-lk,d];rfl
   rw [e1,e2]
   simp only [obs,FJ]
   rw [IA (PN (by simp only [a8,ab,ah];omega))]
   refine ⟨_,rfl,⟨by first|omega| (dsimp only;omega),by first|omega| (dsimp only;omega), ?_, ?_⟩,by first|omega| (dsimp only;omega)⟩
   ·simp only [a8,ab,ah];omega
   ·dsimp only
    rw [m, <-a,d]
    simp [dec]
  ·right
   rw [brn c]
   refine ⟨_,rfl, ?_⟩
   rw [Vu (by rw [bQ];omega)] at a
   simpa using a
theorem Wv (n:Int) (k:Nat) (a:k<=64) (h0:0<=n):cc .i64 n (k:Int)=n/2^k:=by
 unfold cc
 have:min ((k:Int).toNat) (IntKind.bits .i64)=k:=by simp [IntKind.bits];omega
 rw [this,nG _ (by exact Int.pow_nonneg dcd)]
theorem Br (n:Int):((UInt8.ofInt n).toNat:Int)=n%256:=by
 rw [tu];simp [IntKind.wrap,IntKind.bits,IntKind.signed]
theorem Wh {n:Int} (h:okF n):be (UInt8.ofInt (cc .i64 n 24)) (UInt8.ofInt (cc .i64 n 16)) (UInt8.ofInt (cc .i64 n 8)) (UInt8.ofInt n)=n:=by
 obtain ⟨h0,b⟩:=h
 have e1:cc .i64 n 24=n/16777216:=Wv n 24 om h0
 have e2:cc .i64 n 16=n/65536:=Wv n 16 om h0
 have a:cc .i64 n 8=n/256:=Wv n 8 om h0
 rw [e1,e2,a]
 unfold be
 rw [Br,Br,Br,Br]
 omega
theorem c2y {l:List Ext} (h: ∀x∈l,okE x):dec (l.flatMap e8)=l:=by
 induction l with
 |nil=>rfl
 |cons x l ih=>
  have a:=h x (List.mem_cons_self ..)
  rw [dA,e8]
  show (⟨be _ _ _ _,be _ _ _ _⟩:Ext)::dec (l.flatMap e8)=x::l
  rw [Wh a.1,Wh a.2,ih fun y b=>h y (List.mem_cons_of_mem _ b)]
end Go.AI.Fn
namespace Go.AI.Fn
def b1s:List UInt8:=[97,98,115,111,114,98]
def Wr:List UInt8:=[100,114,97,119]
def a2I:List UInt8:=[103,114,105,110,100]
def b8h:List UInt8:=[115,111,117,114,99,101]
def a6Y (s:Source):Bool:=decide (s.Script.length<=64)&&(s.Script.all vY&&(decide (s.State.length=32)&&((decide (0<=s.At)&&decide (s.At<=1000000))&&(decide (0<=s.Count)&&decide (s.Count<=1000000)))))
structure Fo (s:Source):Prop where
 len:s.Script.length<=64
 scr:j6 s.Script
 st:s.State.length=32
 a0:0<=s.At
 a1:s.At<=1000000
 c0:0<=s.Count
 c1:s.Count<=1000000
theorem Qa {s:Source}:a6Y s=true↔Fo s:=by
 unfold a6Y
 simp only [aB,aA,ZI]
 exact ⟨fun ⟨a,b,c,⟨d,e⟩,f,i⟩=>⟨a,b,c,d,e,f,i⟩,fun h=>⟨h.1,h.2,h.3,⟨h.4,h.5⟩,h.6,h.7⟩⟩
theorem BB (h:List UInt8):xI h=some (decide (h.length=32)):=by
 unfold xI
 congr 1
 by_cases c:h.length=32
 ·rw [aj c,c];rfl
 ·rw [ae c];simp;omega
theorem IV {s:Source} (b:s.Script.length<=1099511627776):ui s=some (a6Y s):=by
 unfold ui a6Y
 rw [Dr b]
 by_cases a:s.Script.length<=64
 ·rw [brd om,aj a,obs,BB,Hx,Hx]
  cases s.Script.all vY
  ·rfl
  ·simp only [dj,obs,bk]
   cases decide (s.State.length=32)
   ·rfl
   ·simp only [dj,bk]
    cases (decide (0<=s.At)&&decide (s.At<=1000000))<;>rfl
 ·rw [brn om,ae a];rfl
theorem CH (n:Int):DP n=some (lD n):=by
 unfold DP;rw [aS (by simp only [ab,ah];omega)];rfl
theorem c6a {l:List UInt8} (h:4<=l.length):l.take 4=[l.getD 0 0,l.getD 1 0,l.getD 2 0,l.getD 3 0]:=by
 match l,h with
 |a::b::c::d::r,_=>rfl
theorem b37 {n:Int} {k:Nat} (a:k<=64) (h0:0<=n):(cc .i64 n (k:Int)==0)=decide (n<2^k):=by
 rw [Wv n k a h0]
 have b:(0:Int)<2^k:=Int.pow_pos dcd
 by_cases h:n<2^k
 ·rw [aj h,Int.ediv_eq_zero_of_lt h0 h];rfl
 ·rw [ae h]
  have:1<=n/2^k:=(Int.le_ediv_iff_mul_le b).2 om
  simp;omega
def tx (st:List UInt8) (bits:Nat) (nonce:Int):Bool:=decide (((H (st++(a2I++lD nonce))).getD 0 0).toNat*256+((H (st++(a2I++lD nonce))).getD 1 0).toNat<2^(16-bits))
theorem c4M: ∀b:Nat,b<=12->(2:Int)^(32-b)=65536*((2^(16-b):Nat):Int)/\(2:Int)^(16-b)=((2^(16-b):Nat):Int):=by decide
theorem NS {s:Source} {bits:Nat} {nonce:Int} (i:s.State.length=32) (c:bits<=12):pq s bits nonce=some (tx s.State bits nonce):=by
 unfold pq
 have b:[s.State,[103,114,105,110,100],lD nonce].flatten=s.State++(a2I++lD nonce):=by simp [a2I]
 have j:(lD nonce).length=4:=gg nonce
 have k:a2I.length=5:=rfl
 rw [aS om,CH,obs,yh (by rw [b];simp only [a8];omega) sm,obs,b]
 have d:=EU (s.State++(a2I++lD nonce))
 unfold tx
 generalize H (s.State++(a2I++lD nonce))=h at d
 rw [aS om,ke om om om,obs]
 have e:(h.drop (Int.toNat 0)).take (Int.toNat 4-Int.toNat 0)=[h.getD 0 0,h.getD 1 0,h.getD 2 0,h.getD 3 0]:=by
  show h.take 4=_
  exact c6a om
 rw [e,FJ,obs,ai _ om om,brd om,show (32:Int)-(bits:Int)=((32-bits:Nat):Int) by omega]
 have l:=AX (h.getD 0 0)
 have m:=AX (h.getD 1 0)
 have n:=AX (h.getD 2 0)
 have o:=AX (h.getD 3 0)
 obtain ⟨f,p⟩:=c4M bits c
 rw [b37 om (by unfold be;omega),f]
 congr 1
 have a:be (h.getD 0 0) (h.getD 1 0) (h.getD 2 0) (h.getD 3 0)<65536*((2^(16-bits):Nat):Int)↔(h.getD 0 0).toNat*256+(h.getD 1 0).toNat<2^(16-bits):=by
  unfold be;omega
 exact decide_eq_decide.2 a
theorem a9I (st:List UInt8) (bits:Nat):(∃n:Nat,n<65536/\tx st bits n=true/\ ∀j:Nat,j<n->tx st bits j=false)\/ ∀n:Nat,n<65536->tx st bits n=false:=by
 rcases N3 (fun k=> !tx st bits (k:Int)) 65536 with h|⟨k,a,b,c⟩
 ·exact .inr fun n hn=>by simpa using h n hn
 ·exact .inl ⟨k,a,by simpa using b,fun j d=>by simpa using c j d⟩
open Classical in
noncomputable def vi (st:List UInt8) (bits:Nat):Option Nat:=if h: ∃n:Nat,n<65536/\tx st bits n=true/\ ∀j:Nat,j<n->tx st bits j=false then some h.choose else none
theorem QD {st:List UInt8} {bits n:Nat} (h:n<65536) (e:tx st bits n=true) (f: ∀j:Nat,j<n->tx st bits j=false):vi st bits=some n:=by
 have a: ∃n:Nat,n<65536/\tx st bits n=true/\ ∀j:Nat,j<n->tx st bits j=false:=⟨n,h,e,f⟩
 unfold vi
 rw [dif_pos a]
 obtain ⟨l,i,k⟩:=a.choose_spec
 congr 1
 rcases Nat.lt_trichotomy a.choose n with b|c|d
 ·have:=f _ b;rw [i] at this;cases this
 ·exact c
 ·have:=k _ d;rw [e] at this;cases this
theorem SK {st:List UInt8} {bits:Nat} (h: ∀n:Nat,n<65536->tx st bits n=false):vi st bits=none:=by
 unfold vi
 rw [dif_neg]
 rintro ⟨n,hn,a,_⟩
 rw [h n hn] at a;cases a
theorem Qy {st:List UInt8} {bits n:Nat} (h:vi st bits=some n):n<65536/\tx st bits n=true/\ ∀j:Nat,j<n->tx st bits j=false:=by
 rcases a9I st bits with ⟨m,a,b,c⟩|a
 ·rw [QD a b c] at h;cases h;exact ⟨a,b,c⟩
 ·rw [SK a] at h;cases h
theorem a2C {s:Source} {bits:Nat} (h:s.State.length=32) (i:bits<=12):rj s bits=some (match vi s.State bits with|some n=>(n:Int)|none=> -1):=by
 unfold rj
 have key:=AN (step:=eQ bits s.Script s.At s.State s.Count) (fun k=>(k:Int)) 65536 (fun k=> !tx s.State bits (k:Int)) (fun k=> .inl (k:Int)) (e:= .inr (65536,false)) (fun k a b=>by
  have c:tx s.State bits (k:Int)=false:=by simpa using b
  simp only [eQ]
  rw [brd om,NS (by exact h) i,obs,c,bu,ai _ om om];rfl)
  (fun k a b=>by
   have c:tx s.State bits (k:Int)=true:=by simpa using b
   simp only [eQ]
   rw [brd om,NS (by exact h) i,obs,c,dj])
  (by simp only [eQ];rw [brn dcd];rfl)
 rcases key with ⟨d,f⟩|⟨k,a,d,l,f⟩
 ·have e:Loop (eQ bits s.Script s.At s.State s.Count) 0=some (.inr (65536,false)):=f
  rw [e,SK fun n hn=>by simpa using d n hn];rfl
 ·have e:Loop (eQ bits s.Script s.At s.State s.Count) 0=some (.inl (k:Int)):=f
  rw [e,QD a (by simpa using d) fun j m=>by simpa using l j m];rfl
end Go.AI.Fn
