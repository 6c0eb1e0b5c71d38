/- Plain laws for printed functions: loops whose states are told in advance; numbers; places. -/
import Derived.Test.YtdnkignjanfikaaGreatAiW
import Derived.Test.YtdnkignjanfikaaGreatFx3
import Derived.KernelRfl
set_option linter.unusedVariables false
namespace Go.AI
theorem cf {S E:Type} {step:S->Option (S⊕E)} {s s':S} (h:step s=some (.inl s')):Loop step s=Loop step s':=by rw [HF,h];rfl
theorem bZ {S E:Type} {step:S->Option (S⊕E)} {s:S} {e:E} (h:step s=some (.inr e)):Loop step s=some e:=by rw [HF,h];rfl
theorem bx {S E:Type} {step:S->Option (S⊕E)} (F:Nat->S) (n:Nat) {e:E} (hs: ∀k,k<n->step (F k)=some (.inl (F (k+1)))) (he:step (F n)=some (.inr e)):Loop step (F 0)=some e:=by
 have key: ∀m k,k+m=n->Loop step (F k)=some e:=by
  intro m
  induction m with
  |zero=>intro k hk;have:k=n:=by omega
         subst this;exact bZ he
  |succ m ih=>intro k hk;rw [cf (hs k om)];exact ih (k+1) om
 exact key n 0 om
theorem WW (P:Nat->Bool): ∀n,(∀k,k<n->P k=true)\/ ∃k,k<n/\P k=false/\ ∀j,j<k->P j=true
 |0=> .inl om
 |n+1=>by
  rcases WW P n with h|⟨k,hk,h1,h2⟩
  ·cases hn:P n
   ·exact .inr ⟨n,by omega,hn,h⟩
   ·refine .inl fun k hk=> ?_
    by_cases e:k=n
    ·subst e;exact hn
    ·exact h k om
  ·exact .inr ⟨k,by omega,h1,h2⟩
theorem Cw {S E:Type} {step:S->Option (S⊕E)} (F:Nat->S) (n:Nat) (P:Nat->Bool) (x:Nat->E) {e:E} (hs: ∀k,k<n->P k=true->step (F k)=some (.inl (F (k+1))))
 (hx: ∀k,k<n->P k=false->step (F k)=some (.inr (x k))) (he:step (F n)=some (.inr e)):
 ((∀k,k<n->P k=true)/\Loop step (F 0)=some e)\/ ∃k,k<n/\P k=false/\(∀j,j<k->P j=true)/\Loop step (F 0)=some (x k):=by
 rcases WW P n with h|⟨k,hk,h1,h2⟩
 ·exact .inl ⟨h,bx F n (fun k hk=>hs k hk (h k hk)) he⟩
 ·exact .inr ⟨k,hk,h1,h2,bx F k (fun j hj=>hs j om (h2 j hj)) (hx k hk h1)⟩
theorem q9 {S E:Type} {step:S->Option (S⊕E)} (Inv:S->Prop) (me:S->Nat) (Post:E->Prop)
 (hs: ∀s,Inv s->(∃s',step s=some (.inl s')/\Inv s'/\me s'<me s)\/(∃e,step s=some (.inr e)/\Post e)):
 ∀s,Inv s-> ∃e,Loop step s=some e/\Post e:=by
 intro s
 generalize hm:me s=m
 induction m using Nat.strongRecOn generalizing s with
 |_ m ih=>
  intro hi
  rw [HF]
  rcases hs s hi with ⟨s',h1,h2,h3⟩|⟨e,h1,h2⟩
  ·rw [h1];exact ih (me s') om s' rfl h2
  ·rw [h1];exact ⟨e,rfl,h2⟩
theorem Ga {α:Type} {c:Bool} {x y:α} (h:c=true):br c x y=x:=by subst h;rfl
theorem Tr {α:Type} {c:Bool} {x y:α} (h:c=false):br c x y=y:=by subst h;rfl
theorem brd {α:Type} {p:Prop} [Decidable p] {x y:α} (h:p):br (decide p) x y=x:=Ga (al h)
theorem brn {α:Type} {p:Prop} [Decidable p] {x y:α} (h: ¬p):br (decide p) x y=y:=Tr (ag h)
theorem Gf {α:Type} {p q:Prop} [Decidable p] [Decidable q] {x y:α} (h:p) (g:q):br (decide p&&decide q) x y=x:=Ga (by simp [h,g])
theorem bre {α:Type} {a b:Int} {x y:α} (h:a=b):br (a==b) x y=x:=Ga (by simp [h])
theorem kX {α:Type} {a b:Int} {x y:α} (h:a≠b):br (a==b) x y=y:=Tr (by simp [h])
theorem brb {α:Type} {a b:Int} {x y:α} (h:a≠b):br (a !=b) x y=x:=Ga (by simp [h])
theorem fq {α:Type} {a b:Int} {x y:α} (h:a=b):br (a !=b) x y=y:=Tr (by simp [h])
theorem a0C {α:Type} {p:Prop} [Decidable p] {x y:α} (h:p):br (!decide p) x y=y:=Tr (by simp [h])
theorem a0M {α:Type} {p:Prop} [Decidable p] {x y:α} (h: ¬p):br (!decide p) x y=x:=Ga (by simp [h])
theorem ep (a b:Int) (h:0<=a):a.tmod b=a%b:=Int.tmod_eq_emod_of_nonneg h
theorem qQ (a b:Int) (h:0<=a):a.tdiv b=a/b:=Int.tdiv_eq_ediv_of_nonneg h
theorem AS (x:UInt8):(x.toNat:Int)<256:=by have:=x.toNat_lt;omega
theorem PY {n b:Nat} (h:n*b<=1099511627776):cP n b=true:=by simp [cP,cU,h]
theorem bw {α:Type} {n b:Nat} {x y:α} (h:n*b<=1099511627776):br (cP n b) x y=x:=Ga (PY h)
theorem b9W {l c:Int} {b:Nat} (h0:0<=l) (h1:l<=c) (h2:c*b<=1099511627776):zJ l c b=true:=by simp [zJ,cU,h0,h1,h2]
theorem F3 {α:Type} {l c:Int} {b:Nat} {x y:α} (h0:0<=l) (h1:l<=c) (h2:c*b<=1099511627776):br (zJ l c b) x y=x:=Ga (b9W h0 h1 h2)
theorem HN {α:Type} {l:List α} {i:Int} (h0:0<=i) {x:α} (h:l[i.toNat]? =some x):atL l i=some x:=by simp [atL,h0,h]
theorem cj {α:Type} {l:List α} {k:Nat} (h:k<l.length):atL l (k:Int)=some l[k]:=by simp [atL,h]
theorem i9 {β:Type} {l:List Int} {i:Nat} {f:Int->Option β} (h:i<l.length):(l[i]?).bind f=f (l.getD i 0):=by simp [h]
theorem wj {α:Type} {l:List α} {i:Nat} (h:i<l.length):l[i]? =some l[i]:=aq h
theorem c1Z {α:Type} {l:List α} {i:Int} (h0:0<=i) (h1:i<l.length): ∃x,atL l i=some x/\l[i.toNat]? =some x/\x∈l:=by
 have h:i.toNat<l.length:=by omega
 exact ⟨l[i.toNat],by simp [atL,h0,h],by simp [h],aY h⟩
theorem p9 {α:Type} {l:List α} {i:Nat} (h:i<l.length): ∃x r,l.drop i=x::r/\l.drop (i+1)=r/\l[i]? =some x:=
 ⟨l[i],l.drop (i+1),List.drop_eq_getElem_cons h,rfl,by simp [h]⟩
theorem a2c {α:Type} {l r:List α} {x:α} {i:Int} (h0:0<=i) (h:l.drop i.toNat=x::r):atL l i=some x:=by
 have:l[i.toNat]? =some x:=by rw [<-List.head?_drop,h];rfl
 simp [atL,h0,this]
theorem mK {α:Type} {l:List α} {a b:Int} (h0:0<=a) (h1:a<=b) (h2:b<=l.length):lh l a b=some ((l.drop a.toNat).take (b.toNat-a.toNat)):=by
 simp [lh,h0,h1,h2,List.drop_take]
theorem db {α:Type} {l:List α} {k:Nat} (h:k<l.length):l.take (k+1)=l.take k++[l[k]]:=by rw [List.take_succ_eq_append_getElem h]
theorem lm (k:Nat):((k+1:Nat):Int)=(k:Int)+1:=by omega
theorem pH (n:Nat):(nZ n).length=n:=by simp [nZ]
def iU {α:Type} (f:Nat->α->α):Nat->α->α
 |0,l=>l
 |k+1,l=>f k (iU f k l)
theorem wN {f:Nat->List Int->List Int} (hf: ∀k l,(f k l).length=l.length): ∀(k:Nat) (l:List Int),(iU f k l).length=l.length
 |0,l=>rfl
 |k+1,l=>by rw [iU,hf,wN hf k l]
end Go.AI
set_option linter.unusedSimpArgs false
namespace Go.AI.Fn
def okF (a:Int):Prop:=0<=a/\a<=2130706432
def okE (x:Ext):Prop:=okF x.A/\okF x.B
def Gr (a:Int):Bool:=decide (0<=a)&&decide (a<=2130706432)
def nF (x:Ext):Bool:=Gr x.A&&Gr x.B
theorem KU {a:Int}:Gr a=true↔okF a:=by simp [Gr,okF]
theorem LO {x:Ext}:nF x=true↔okE x:=by simp [nF,okE,KU]
def aF (a b:Int):Int:=(a+b)%2130706433
def sF (a b:Int):Int:=(a-b)%2130706433
def mF (a b:Int):Int:=(a*b)%2130706433
def eA (x y:Ext):Ext:=⟨(x.A+y.A)%2130706433,(x.B+y.B)%2130706433⟩
def eS (x y:Ext):Ext:=⟨(x.A-y.A)%2130706433,(x.B-y.B)%2130706433⟩
def eM (x y:Ext):Ext:=⟨(x.A*y.A+3*(x.B*y.B))%2130706433,(x.A*y.B+x.B*y.A)%2130706433⟩
def eC (x:Ext) (n:Int):Ext:=⟨(x.A*n)%2130706433,(x.B*n)%2130706433⟩
def e0:Ext:=⟨0,0⟩
def e1:Ext:=⟨1,0⟩
def eN (n:Int):Ext:=⟨n,0⟩
theorem b9u:okF 3:=⟨by decide,by decide⟩
theorem b6G:okF 1:=⟨by decide,by decide⟩
theorem c3z:okF 0:=⟨by decide,by decide⟩
theorem l9 (a:Int):okF (a%2130706433):=⟨by omega,by omega⟩
theorem c0n (a b:Int):okF (aF a b):=l9 _
theorem c0q (a b:Int):okF (sF a b):=l9 _
theorem pX (a b:Int):okF (mF a b):=l9 _
theorem Xh (x y:Ext):okE (eA x y):=⟨l9 _,l9 _⟩
theorem yF (x y:Ext):okE (eS x y):=⟨l9 _,l9 _⟩
theorem rY (x y:Ext):okE (eM x y):=⟨l9 _,l9 _⟩
theorem b5s (x:Ext) (n:Int):okE (eC x n):=⟨l9 _,l9 _⟩
theorem a8d:okE e0:=⟨⟨by decide,by decide⟩,⟨by decide,by decide⟩⟩
theorem a1Y:okE e1:=⟨⟨by decide,by decide⟩,⟨by decide,by decide⟩⟩
theorem a8f {n:Int} (h:okF n):okE (eN n):=⟨h,c3z⟩
theorem c1M {a b:Int} (ha:okF a) (hb:okF b):0<=a*b/\a*b<=4539909900063178624:=
 ⟨Int.mul_nonneg ha.1 hb.1,Int.le_trans (Int.mul_le_mul ha.2 hb.2 hb.1 (by decide)) (by decide)⟩
theorem He {a:Int} (h:okF a):a%2130706433=a:=by obtain ⟨h1,h2⟩:=h;omega
theorem Nt {x y:Ext} (h1:x.A=y.A) (h2:x.B=y.B):x=y:=by cases x;cases y;cases h1;cases h2;rfl
theorem mA1 (a b:Int):(a%2130706433+b)%2130706433=(a+b)%2130706433:=Int.emod_add_emod _ _ _
theorem mA2 (a b:Int):(a+b%2130706433)%2130706433=(a+b)%2130706433:=Int.add_emod_emod _ _ _
theorem mM1 (a b:Int):(a%2130706433*b)%2130706433=(a*b)%2130706433:=by rw [oQ,so, <-oQ]
theorem mM2 (a b:Int):(a*(b%2130706433))%2130706433=(a*b)%2130706433:=by rw [oQ,so, <-oQ]
theorem mX1 (a b c:Int):(a%2130706433*b+c)%2130706433=(a*b+c)%2130706433:=by rw [<-mA1,mM1,mA1]
theorem mX4 (a b c:Int):(c+a*(b%2130706433))%2130706433=(c+a*b)%2130706433:=by rw [<-mA2,mM2,mA2]
theorem c0l {a b:Int} (ha:okF a) (hb:okF b):(IntKind.wrap .i64 (a+b)).tmod 2130706433=aF a b:=by
 obtain ⟨h1,h2⟩:=ha;obtain ⟨h3,h4⟩:=hb
 unfold aF;rw [ak _ om om,ep _ _ om]
theorem yx {a b:Int} (ha:okF a) (hb:okF b):KT a b=some (aF a b):=by unfold KT;rw [c0l ha hb]
theorem Sj {a b:Int} (ha:okF a) (hb:okF b):RT a b=some (sF a b):=by
 obtain ⟨h1,h2⟩:=ha;obtain ⟨h3,h4⟩:=hb
 unfold RT sF;rw [ak (a-b) om om,ak _ om om,ep _ _ om]
 congr 1;omega
theorem b3F {a b:Int} (ha:okF a) (hb:okF b):(IntKind.wrap .i64 (a*b)).tmod 2130706433=mF a b:=by
 have h:=c1M ha hb
 unfold mF;rw [ak _ om om,ep _ _ om]
theorem pY {a b:Int} (ha:okF a) (hb:okF b):zi a b=some (mF a b):=by unfold zi;rw [b3F ha hb]
theorem lZ {x y:Ext} (hx:okE x) (hy:okE y):fT x y=some (eA x y):=by
 unfold fT;rw [yx hx.1 hy.1,yx hx.2 hy.2];rfl
theorem rE {x y:Ext} (hx:okE x) (hy:okE y):iw x y=some (eS x y):=by
 unfold iw;rw [Sj hx.1 hy.1,Sj hx.2 hy.2];rfl
theorem a8D (x y:Ext):eM x y=⟨aF (mF x.A y.A) (mF 3 (mF x.B y.B)),aF (mF x.A y.B) (mF x.B y.A)⟩:=by
 unfold eM aF mF
 congr 1
 ·rw [mA1,mA2,mX4]
 ·rw [mA1,mA2]
theorem fR {x y:Ext} (hx:okE x) (hy:okE y):dd x y=some (eM x y):=by
 unfold dd
 rw [pY hx.1 hy.1,pY hx.2 hy.2]
 simp only [obs]
 rw [pY b9u (pX _ _)]
 simp only [obs]
 rw [yx (pX _ _) (pX _ _),pY hx.1 hy.2,pY hx.2 hy.1]
 simp only [obs]
 rw [yx (pX _ _) (pX _ _),a8D];rfl
theorem AU {x:Ext} {n:Int} (hx:okE x) (hn:okF n):is x n=some (eC x n):=by
 unfold is;rw [pY hx.1 hn,pY hx.2 hn];rfl
theorem LK:NK=some e1:=rfl
theorem HG (n a b:Int):jJ n a b=some (decide (a<=n)&&decide (n<=b)):=by
 unfold jJ;cases decide (a<=n)<;>rfl
theorem xA (a:Int):rJ a=some (Gr a):=by
 unfold rJ;rw [HG];rfl
theorem ub (x:Ext):uk x=some (nF x):=by
 unfold uk nF;rw [xA,xA];cases Gr x.A<;>rfl
theorem G3 {a b:Int} (ha:okF a) (hb:okF b):sk a b=some (aF a b):=by unfold sk;rw [c0l ha hb]
theorem TS {a b:Int} (ha:okF a) (hb:okF b):zn a b=some (sF a b):=by
 obtain ⟨h1,h2⟩:=ha;obtain ⟨h3,h4⟩:=hb
 unfold zn sF;rw [ak (a+2130706433) om om,ak _ om om,ep _ _ om]
 congr 1;omega
theorem w6 {a b:Int} (ha:okF a) (hb:okF b):lL a b=some (mF a b):=by unfold lL;rw [b3F ha hb]
theorem lS {x y:Ext} (hx:okE x) (hy:okE y):j1 x y=some (eA x y):=by
 unfold j1;rw [G3 hx.1 hy.1,G3 hx.2 hy.2];rfl
theorem Hw {x y:Ext} (hx:okE x) (hy:okE y):vB x y=some (eS x y):=by
 unfold vB;rw [TS hx.1 hy.1,TS hx.2 hy.2];rfl
theorem fE {x y:Ext} (hx:okE x) (hy:okE y):dD x y=some (eM x y):=by
 unfold dD
 have h3:(IntKind.wrap .i64 (3*mF x.B y.B)).tmod 2130706433=mF 3 (mF x.B y.B):=b3F b9u (pX x.B y.B)
 rw [w6 hx.1 hy.1,w6 hx.2 hy.2]
 simp only [obs]
 rw [h3,G3 (pX _ _) (pX _ _),w6 hx.1 hy.2,w6 hx.2 hy.1]
 simp only [obs]
 rw [G3 (pX _ _) (pX _ _),a8D];rfl
theorem LA (n:Int):sv n=some (eN n):=rfl
theorem TF:BU=some e1:=rfl
theorem HQ {x:Ext} (hx:okE x):p6 x=some (eS e1 x):=by
 unfold p6;rw [TF,obs,Hw a1Y hx];rfl
theorem Ma (n a b:Int):eH n a b=some (decide (a<=n)&&decide (n<=b)):=by
 unfold eH;cases decide (a<=n)<;>rfl
theorem xt (a:Int):dy a=some (Gr a):=by
 unfold dy;rw [Ma];rfl
theorem T7 (x:Ext):CR x=some (nF x):=by
 unfold CR nF;rw [xt,xt];cases Gr x.A<;>rfl
theorem sub_self (x:Ext):eS x x=e0:=by
 apply Nt<;>simp [eS,e0]
theorem a8c (x:Ext) (n:Int):eC x n=eM x (eN n):=by
 apply Nt<;>(simp only [eC,eM,eN];congr 1;grind)
end Go.AI.Fn
namespace Go.AI.Fn
def pF (a:Int) (n:Nat):Int:=(a^n)%2130706433
theorem Sp (a:Int) (n:Nat):okF (pF a n):=l9 _
theorem c5O {n:Int} (h:0<=n) (h2:n<9223372036854775808):dc .i64 n 1=n%2:=by
 show IntKind.wrap .i64 ((BitVec.ofInt 64 n&&&BitVec.ofInt 64 1).toNat:Int)=n%2
 have e1:(BitVec.ofInt 64 n).toNat=n.toNat:=by rw [gH];omega
 have e2:(BitVec.ofInt 64 1).toNat=1:=by decide
 rw [BitVec.toNat_and,e1,e2,Nat.and_one_is_mod,ak _ om om]
 omega
theorem c60 {n:Int} (h:0<=n):bY .i64 n 1=n/2:=by
 show n.fdiv (2^1)=n/2
 rw [lY _ (by decide)];rfl
theorem b6z {a:Int} {n:Nat} (h:n%2=0):(a*a)^(n/2)=a^n:=by
 have e:n=2*(n/2):=by omega
 have e2:a^n=a^(2*(n/2)):=by rw [<-e]
 rw [e2,Int.pow_mul,gc,gc,lK,qP]
theorem b9G {a:Int} {n:Nat} (h:n%2=1):a*(a*a)^(n/2)=a^n:=by
 have e:n=2*(n/2)+1:=by omega
 have e2:a^n=a^(2*(n/2)+1):=by rw [<-e]
 rw [e2,gc,Int.pow_mul,gc,gc,lK,qP,Int.mul_comm]
theorem a8s (a:Int) (n:Nat):((a%2130706433)^n)%2130706433=(a^n)%2130706433:=by
 induction n with
 |zero=>rw [lK,lK]
 |succ n ih=>rw [gc,gc,mM2, <-mM1,ih,mM1]
theorem a4y {a out:Int} {n:Nat} (hn:0<n):(n%2=1->(mF out a*(mF a a)^(n/2))%2130706433=(out*a^n)%2130706433)/\(n%2=0->(out*(mF a a)^(n/2))%2130706433=(out*a^n)%2130706433):=by
 constructor
 ·intro h
  unfold mF
  rw [mM1, <-mM2,a8s,mM2, <-b9G h,Int.mul_assoc]
 ·intro h
  unfold mF
  rw [<-mM2,a8s,mM2,b6z h]
theorem a5H {a out n:Int} (ha:okF a) (ho:okF out) (h0:0<=n) (hn:n<9223372036854775808): ∃e,Loop yi (a,n,out)=some e/\e.2.2.1=(out*a^n.toNat)%2130706433:=by
 refine q9 (step:=yi) (fun s=>okF s.1/\okF s.2.2/\0<=s.2.1/\s.2.1<9223372036854775808/\(s.2.2*s.1^s.2.1.toNat)%2130706433=(out*a^n.toNat)%2130706433) (fun s=>s.2.1.toNat) _ ?_ (a,n,out) ⟨ha,ho,h0,hn,rfl⟩
 rintro ⟨b,k,o⟩ ⟨hb,ho',hk0,hk1,hinv⟩
 dsimp only at hb ho' hk0 hk1 hinv
 simp only [yi]
 by_cases hk:k>0
 ·left
  rw [brd hk,c5O hk0 hk1,c60 hk0,pY hb hb]
  have hs:=a4y (a:=b) (out:=o) (n:=k.toNat) om
  have e:(k/2).toNat=k.toNat/2:=by omega
  by_cases h2:k%2=1
  ·rw [bre h2,pY ho' hb]
   refine ⟨_,rfl,⟨pX _ _,pX _ _,by dsimp only;omega,by dsimp only;omega, ?_⟩,by dsimp only;omega⟩
   dsimp only
   rw [e,hs.1 om,hinv]
  ·rw [kX h2]
   refine ⟨_,rfl,⟨pX _ _,ho',by dsimp only;omega,by dsimp only;omega, ?_⟩,by dsimp only;omega⟩
   dsimp only
   rw [e,hs.2 om,hinv]
 ·right
  rw [brn hk]
  refine ⟨_,rfl, ?_⟩
  have:k=0:=by omega
  subst this
  dsimp only
  rw [<-hinv]
  simp [He ho']
theorem S8 {a n:Int} (ha:okF a) (h0:0<=n) (hn:n<9223372036854775808):QU a n=some (pF a n.toNat):=by
 unfold QU
 obtain ⟨e,h1,h2⟩:=a5H ha b6G h0 hn
 rw [h1,obs,h2,qP];rfl
theorem a5D {a out n:Int} (ha:okF a) (ho:okF out) (h0:0<=n) (hn:n<9223372036854775808): ∃e,Loop pi (a,n,out)=some e/\e.2.2.1=(out*a^n.toNat)%2130706433:=by
 refine q9 (step:=pi) (fun s=>okF s.1/\okF s.2.2/\0<=s.2.1/\s.2.1<9223372036854775808/\(s.2.2*s.1^s.2.1.toNat)%2130706433=(out*a^n.toNat)%2130706433) (fun s=>s.2.1.toNat) _ ?_ (a,n,out) ⟨ha,ho,h0,hn,rfl⟩
 rintro ⟨b,k,o⟩ ⟨hb,ho',hk0,hk1,hinv⟩
 dsimp only at hb ho' hk0 hk1 hinv
 simp only [pi]
 by_cases hk:k>0
 ·left
  rw [brd hk,ep _ _ hk0,qQ _ _ hk0,ak _ om om,w6 hb hb]
  have hs:=a4y (a:=b) (out:=o) (n:=k.toNat) om
  have e:(k/2).toNat=k.toNat/2:=by omega
  by_cases h2:k%2=1
  ·rw [bre h2,w6 ho' hb]
   refine ⟨_,rfl,⟨pX _ _,pX _ _,by dsimp only;omega,by dsimp only;omega, ?_⟩,by dsimp only;omega⟩
   dsimp only
   rw [e,hs.1 om,hinv]
  ·rw [kX h2]
   refine ⟨_,rfl,⟨pX _ _,ho',by dsimp only;omega,by dsimp only;omega, ?_⟩,by dsimp only;omega⟩
   dsimp only
   rw [e,hs.2 om,hinv]
 ·right
  rw [brn hk]
  refine ⟨_,rfl, ?_⟩
  have:k=0:=by omega
  subst this
  dsimp only
  rw [<-hinv]
  simp [He ho']
theorem QO {a n:Int} (ha:okF a) (h0:0<=n) (hn:n<9223372036854775808):vJ a n=some (pF a n.toNat):=by
 unfold vJ
 obtain ⟨e,h1,h2⟩:=a5D ha b6G h0 hn
 rw [h1,obs,h2,qP];rfl
def iF (a:Int):Int:=pF a 2130706431
theorem Dh {a:Int} (ha:okF a):u3 a=some (iF a):=by
 unfold u3;rw [S8 ha (by decide) (by decide),obs];rfl
theorem DI {a:Int} (ha:okF a):vJ a 2130706431=some (iF a):=by
 rw [QO ha (by decide) (by decide)];rfl
def Ue (k:Nat):Int:=pF 3 (127*2^(24-k))
theorem a4x (k:Nat):okF (Ue k):=Sp _ _
theorem b2N: ∀j:Nat,j<25->(2:Int)^j<=16777216/\0<(2:Int)^j:=by decide
theorem b4m {j:Nat} (h:j<=24):bG .i64 127 (j:Int)=127*2^j:=by
 obtain ⟨h1,h0⟩:=b2N j om
 show IntKind.wrap .i64 (127*2^(min ((j:Int).toNat) 64))=_
 rw [aK,gK om,ak _ om om]
theorem a9V {k:Nat} (h:k<=24):Um (k:Int)=some (Ue k):=by
 unfold Um
 obtain ⟨hq,hp⟩:=b2N (24-k) om
 rw [ak _ om om,brd om,show (24:Int)-k=((24-k:Nat):Int) by omega,b4m om,S8 b9u om om,obs,Ue]
 congr 2
theorem b1e {k:Nat} (h:k<=24):Cu (k:Int)=some (Ue k):=by
 unfold Cu
 obtain ⟨hq,hp⟩:=b2N (24-k) om
 rw [ak _ om om,eU _ om om,brd om,show (24:Int)-k=((24-k:Nat):Int) by omega,b4m om,QO b9u om om,obs,Ue]
 congr 2
end Go.AI.Fn
namespace Go.AI.Fn
structure Src (B:Int) (m:tN):Prop where
 at0:0<=m.at_
 at1:m.at_<=B
 sd0:0<=m.seed
 sd1:m.seed<2147483648
 len:m.code.length<=1048600
theorem Src.mono {B C:Int} {m:tN} (h:Src B m) (hc:B<=C):Src C m:=⟨h.at0,by have:=h.at1;omega,h.sd0,h.sd1,h.len⟩
end Go.AI.Fn
namespace Go.AI.Fn
end Go.AI.Fn
namespace Go.AI.Fn
theorem Ru {α:Type} {p:α->Bool} {l:List α} {k:Nat} (hk:k<l.length) (h:p l[k]=true):l.any p=true:=ix.2 ⟨l[k],aY hk,h⟩
theorem a8g {α:Type} {p:α->Bool} {l:List α} (h: ∀k (hk:k<l.length),p l[k]=false):l.any p=false:=by
 rw [tn]
 intro x hx
 obtain ⟨k,hk,rfl⟩:=bq hx
 simp [h k hk]
theorem xT {α:Type} {p:α->Bool} {f:α->Option Bool} {l:List α} (hl:l.length<=1099511627776) (hf: ∀x∈l,f x=some (p x)) {step:Int->Option (Int⊕(Int⊕(Int×Bool)))}
 (hs: ∀t,step t=br (decide (t<((l.length:Nat):Int))) ((atL l t).bind fun x=>(f x).bind fun r=>br r (some (.inr (.inl t))) (some (.inl (IntKind.wrap .i64 (t+1))))) (some (.inr (.inr (t,decide (t<((l.length:Nat):Int))))))):
 ((Loop step 0).bind (alt (fun e=>some e) (fun _=>some (-1)))).bind (fun r=>some (decide (r>=0)))=some (l.any p):=by
 have key:=Cw (step:=step) (fun k=>(k:Int)) l.length (fun k=> !((l[k]?.map p).getD false)) (fun k=> .inl (k:Int)) (e:= .inr ((l.length:Int),false)) (fun k hk hp=>by
  have hb:p l[k]=false:=by simpa [hk] using hp
  rw [hs,brd om,cj hk,obs,hf _ (aY hk),obs,hb,bf,ak _ om om];rfl)
  (fun k hk hp=>by
   have hb:p l[k]=true:=by simpa [hk] using hp
   rw [hs,brd om,cj hk,obs,hf _ (aY hk),obs,hb,cO])
  (by rw [hs,brn om,ag om])
 rcases key with ⟨h1,h2⟩|⟨k,hk,h1,_,h2⟩
 ·have e:Loop step 0=some (.inr ((l.length:Int),false)):=h2
  rw [e,a8g (fun k hk=>by simpa [hk] using h1 k hk)];rfl
 ·have e:Loop step 0=some (.inl (k:Int)):=h2
  rw [e,Ru hk (by simpa [hk] using h1)]
  simp only [obs,l6]
  rw [al om]
theorem a81 {α:Type} {p:α->Bool} {f:α->Option Bool} {l:List α} (hl:l.length<=1099511627776) (hf: ∀x∈l,f x=some (p x)) {step:Int->Option (Int⊕(Unit⊕(Int×Bool)))}
 (hs: ∀t,step t=br (decide (t<((l.length:Nat):Int))) ((atL l t).bind fun x=>(f x).bind fun r=>br (!r) (some (.inr (.inl ()))) (some (.inl (IntKind.wrap .i64 (t+1))))) (some (.inr (.inr (t,decide (t<((l.length:Nat):Int))))))):
 (Loop step 0).bind (alt (fun _=>some false) (fun _=>some true))=some (l.all p):=by
 have key:=Cw (step:=step) (fun k=>(k:Int)) l.length (fun k=>((l[k]?.map p).getD false)) (fun k=> .inl ()) (e:= .inr ((l.length:Int),false)) (fun k hk hp=>by
  have hb:p l[k]=true:=by simpa [hk] using hp
  rw [hs,brd om,cj hk,obs,hf _ (aY hk),obs,hb,aH,bf,ak _ om om];rfl)
  (fun k hk hp=>by
   have hb:p l[k]=false:=by simpa [hk] using hp
   rw [hs,brd om,cj hk,obs,hf _ (aY hk),obs,hb,dv,cO])
  (by rw [hs,brn om,ag om])
 rcases key with ⟨h1,h2⟩|⟨k,hk,h1,_,h2⟩
 ·have e:Loop step 0=some (.inr ((l.length:Int),false)):=h2
  have ha:l.all p=true:=aB.2 fun x hx=>by
   obtain ⟨k,hk,rfl⟩:=bq hx
   simpa [hk] using h1 k hk
  rw [e,ha];rfl
 ·have e:Loop step 0=some (.inl ()):=h2
  have ha:l.all p=false:=by
   rw [tj]
   exact ⟨l[k],aY hk,by simpa [hk] using h1⟩
  rw [e,ha];rfl
theorem wo {α:Type} (p:α->Bool) (l:List α):(!l.any fun x=> !p x)=l.all p:=by
 induction l with
 |nil=>rfl
 |cons x l ih=>simp only [List.any_cons,cr, <-ih];cases p x<;>simp
theorem b0p {l:List Int} (hl:l.length<=1099511627776):ky l=some (l.all Gr):=by
 unfold ky cK cX
 rw [xT (step:=cG l ((l.length:Nat):Int)) (p:=fun x=> !Gr x) (f:=j5) hl (fun x _=>by unfold j5;rw [xA];rfl) (fun t=>rfl),obs,wo]
theorem MY {l:List Ext} (hl:l.length<=1099511627776):gr l=some (l.all nF):=by
 unfold gr cu cF
 rw [xT (step:=cn l ((l.length:Nat):Int)) (p:=fun x=> !nF x) (f:=j2) hl (fun x _=>by unfold j2;rw [ub];rfl) (fun t=>rfl),obs,wo]
theorem o8 {l:List Ext} (hl:l.length<=1099511627776):lX l=some (l.all nF):=by
 unfold lX
 exact a81 (f:=CR) hl (fun x _=>T7 x) (fun t=>rfl)
theorem a3i {l:List Int} (hl:l.length<=1099511627776):wB l=some (l.all Gr):=by
 unfold wB
 exact a81 (f:=dy) hl (fun x _=>xt x) (fun t=>rfl)
def hG (l:List Ext):Prop:= ∀x∈l,okE x
def KW (l:List Int):Prop:= ∀x∈l,okF x
theorem b8U {l:List Ext}:l.all nF=true↔hG l:=by
 rw [aB];exact ⟨fun h x hx=>LO.1 (h x hx),fun h x hx=>LO.2 (h x hx)⟩
theorem c5T {l:List Int}:l.all Gr=true↔KW l:=by
 rw [aB];exact ⟨fun h x hx=>KU.1 (h x hx),fun h x hx=>KU.2 (h x hx)⟩
theorem hG.get {l:List Ext} (h:hG l) {k:Nat} (hk:k<l.length):okE l[k]:=h _ (aY hk)
theorem KW.get {l:List Int} (h:KW l) {k:Nat} (hk:k<l.length):okF l[k]:=h _ (aY hk)
theorem hG.app {l m:List Ext} (h:hG l) (h2:hG m):hG (l++m):=fun x hx=>(aW.1 hx).elim (h x) (h2 x)
theorem hG.nil:hG []:=fun x hx=>by cases hx
theorem hG.one {x:Ext} (h:okE x):hG [x]:=fun y hy=>by rw [dT.1 hy];exact h
theorem hG.map {α:Type} {f:α->Ext} (l:List α) (h: ∀x∈l,okE (f x)):hG (l.map f):=fun y hy=>by obtain ⟨x,hx,rfl⟩:=bu.1 hy;exact h x hx
theorem hG.take {l:List Ext} (h:hG l) (k:Nat):hG (l.take k):=fun x hx=>h x (cp hx)
theorem hG.drop {l:List Ext} (h:hG l) (k:Nat):hG (l.drop k):=fun x hx=>h x (cc hx)
def Vz (a b:List Ext):Ext:=(a.zip b).foldl (fun c p=>eA c (eM p.1 p.2)) e0
theorem Ig {α β:Type} {a:List α} {b:List β} {k:Nat} (ha:k<a.length) (hb:k<b.length):(a.zip b).take (k+1)=(a.zip b).take k++[(a[k],b[k])]:=by
 rw [db (by rw [List.length_zip];omega),List.getElem_zip]
theorem a5r (l:List (Ext×Ext)) {c:Ext} (h:okE c):okE (l.foldl (fun c p=>eA c (eM p.1 p.2)) c):=by
 induction l generalizing c with
 |nil=>exact h
 |cons p l ih=>exact ih (Xh _ _)
theorem b86 (a b:List Ext):okE (Vz a b):=a5r _ a8d
theorem SU {a b:List Ext} (ha:hG a) (hb:hG b) (hl:a.length<=b.length) (hn:a.length<=1099511627776):KS a b=some (Vz a b):=by
 unfold KS
 have key:Loop (yl b a ((a.length:Nat):Int) 0 0) ((0:Int),(0:Int),(0:Int))=some ((a.length:Int),false,(Vz a b).A,(Vz a b).B):=
  bx (fun k=>((k:Int),(((a.zip b).take k).foldl (fun c p=>eA c (eM p.1 p.2)) e0).A,(((a.zip b).take k).foldl (fun c p=>eA c (eM p.1 p.2)) e0).B)) a.length (fun k hk=>by
   simp only [yl]
   have hc:=a5r ((a.zip b).take k) a8d
   rw [brd om,cj hk,obs,cj om,obs,fR (ha.get hk) (hb.get om),obs,lZ hc (rY _ _),obs,ak _ om om,Ig hk om,i7]
   rfl) (by
   simp only [yl]
   rw [brn om,ag om,cq (by rw [List.length_zip];omega)]
   rfl)
 rw [key];rfl
def eqS (out:List Ext) (p:Ext):List Ext:=out.map (fun a=>eM a (eS e1 p))++out.map (fun a=>eM a p)
def eqT (pt:List Ext):List Ext:=pt.foldl eqS [e1]
theorem a8B (out:List Ext) (p:Ext):(eqS out p).length=2*out.length:=by simp [eqS];omega
theorem c1A (out:List Ext) (p:Ext):hG (eqS out p):=hG.app (hG.map _ fun x _=>rY _ _) (hG.map _ fun x _=>rY _ _)
theorem a3V (l:List Ext) (p:Ext):eqT (l++[p])=eqS (eqT l) p:=by simp [eqT,i7]
theorem c3j {l out:List Ext} (h:hG out):hG (l.foldl eqS out):=by
 induction l generalizing out with
 |nil=>exact h
 |cons p l ih=>exact ih (c1A _ _)
theorem a0s (l:List Ext):hG (eqT l):=c3j (hG.one a1Y)
theorem b84 (l out:List Ext):(l.foldl eqS out).length=2^l.length*out.length:=by
 induction l generalizing out with
 |nil=>simp
 |cons p l ih=>rw [py,ih,a8B,ah,g8];rw [Nat.mul_assoc]
theorem Ej (l:List Ext):(eqT l).length=2^l.length:=by rw [eqT,b84];simp
theorem a69: ∀k:Nat,k<=6->2^k<=64:=by decide
theorem c5q {t:List Ext} {t2 t3:Int} {out:List Ext} {p:Ext} (ho:hG out) (hp:okE p) (hn:out.length<=1000000000):
 Loop (nl t t2 t3 out ((out.length:Nat):Int) p.A p.B) ([],[],0)=some (out.map (fun a=>eM a (eS e1 p)),out.map (fun a=>eM a p),(out.length:Int),false):=
 bx (fun k=>((out.take k).map (fun a=>eM a (eS e1 p)),(out.take k).map (fun a=>eM a p),(k:Int))) out.length (fun k hk=>by
  have he:Ext.mk p.A p.B=p:=rfl
  simp only [nl,he]
  rw [brd om,cj hk,obs,LK,obs,rE a1Y hp,obs,fR (ho.get hk) (yF _ _),obs,
   bw (by simp only [ab,aM,bi,am];omega),fR (ho.get hk) hp,obs,
   bw (by simp only [ab,aM,bi,am];omega),ak _ om om,db hk,cJ,cJ]
  rfl) (by
  simp only [nl]
  rw [brn om,ag om,bm])
theorem DN {l:List Ext} (h:hG l) (hn:l.length<=6):u9 l=some (eqT l):=by
 unfold u9
 have key:Loop (nj l ((l.length:Nat):Int)) ([e1],0)=some (eqT l,(l.length:Int),false):=
  bx (fun k=>(eqT (l.take k),(k:Int))) l.length (fun k hk=>by
   have hl:=Ej (l.take k)
   have hb:=a69 (l.take k).length (by rw [bi];omega)
   simp only [nj]
   rw [brd om,cj hk,obs,c5q (a0s _) (h.get hk) om,obs]
   dsimp only
   rw [bw (by simp only [ab,aM];omega),ak _ om om,db hk,a3V]
   rfl) (by
   simp only [nj]
   rw [brn om,ag om,bm])
 rw [LK,obs,key];rfl
def eqU (out:List Ext) (p:Ext) (k:Nat) (l:List Ext):List Ext:=(l.set k (eM (out.getD k e0) (eS e1 p))).set (k+out.length) (eM (out.getD k e0) p)
theorem a8N {f:Nat->List Ext->List Ext} (hf: ∀k l,(f k l).length=l.length): ∀(k:Nat) (l:List Ext),(iU f k l).length=l.length
 |0,l=>rfl
 |k+1,l=>by rw [iU,hf,a8N hf k l]
theorem Mp (out:List Ext) (p:Ext) (k:Nat) (l:List Ext):(iU (eqU out p) k l).length=l.length:=a8N (fun _ _=>by simp [eqU]) k l
theorem a8m (out:List Ext) (p:Ext) (l:List Ext) (hl:l.length=2*out.length): ∀k,k<=out.length-> ∀j (hj:j<(iU (eqU out p) k l).length),(iU (eqU out p) k l)[j]=
 if j<k then eM (out.getD j e0) (eS e1 p) else if out.length<=j/\j<out.length+k then eM (out.getD (j-out.length) e0) p else l[j]'(by rw [Mp] at hj;exact hj)
 |0,_,j,hj=>by
  rw [aa om,aa om];rfl
 |k+1,hk,j,hj=>by
  have ih:=a8m out p l hl k om j (by rw [Mp] at hj ⊢;exact hj)
  simp only [iU,eqU,List.getElem_set]
  by_cases h1:k+out.length=j
  ·rw [ae h1,aa om,ae om,show j-out.length=k by omega]
  ·rw [aa h1]
   by_cases h2:k=j
   ·rw [ae h2,ae om,h2]
   ·rw [aa h2,ih]
    by_cases h3:j<k
    ·rw [ae h3,ae om]
    ·by_cases h4:out.length<=j/\j<out.length+k
     ·rw [aa h3,ae h4,aa om,ae om]
     ·rw [aa h3,aa h4,aa om,aa om]
theorem b9X (out:List Ext) (p:Ext) (l:List Ext) (hl:l.length=2*out.length):iU (eqU out p) out.length l=eqS out p:=by
 apply List.ext_getElem (by rw [Mp,a8B,hl])
 intro j h1 h2
 rw [a8m out p l hl out.length (aw _) j h1]
 rw [Mp,hl] at h1
 simp only [eqS]
 by_cases h3:j<out.length
 ·rw [ae h3,List.getElem_append_left (by simpa using h3),List.getElem_map];simp [h3]
 ·rw [aa h3,ae om,List.getElem_append_right (by simp;omega),List.getElem_map]
  have:j-out.length<out.length:=by omega
  simp [this]
theorem a82 {l:List Ext} {k:Nat} (h:k<l.length):atL l (k:Int)=some (l.getD k e0):=by simp [atL,h]
theorem hG.getD {l:List Ext} (h:hG l) (k:Nat):okE (l.getD k e0):=by
 by_cases hk:k<l.length
 ·simp [hk];exact h.get hk
 ·simp [bF (Nat.le_of_not_lt hk)];exact a8d
theorem c0b {β:Type} {l:List Ext} {i:Nat} {f:Ext->Option β} (h:i<l.length):(l[i]?).bind f=f (l.getD i e0):=by simp [h]
theorem c57 {pt out l:List Ext} {i:Nat} (ho:hG out) (hp:hG pt) (hi:i<pt.length) (hl:l.length=2*out.length) (hn:out.length<=1000000000):
 Loop (rG pt out i) (l,0)=some (eqS out (pt.getD i e0),(out.length:Int),false):=by
 rw [<-b9X out (pt.getD i e0) l hl]
 exact bx (fun k=>(iU (eqU out (pt.getD i e0)) k l,(k:Int))) out.length (fun k hk=>by
  have h1:=Mp out (pt.getD i e0) k l
  simp only [rG]
  rw [brd om,a82 hk,obs,a82 hi,obs,HQ (hp.getD _),obs,fE (ho.getD _) (yF _ _),obs,brd om,brd om,c0b om,
   obs,obs,fE (ho.getD _) (hp.getD _),obs,ak _ om om,brd om,brd om,c0b (by rw [bg];omega),ak _ om om]
  rw [show ((k:Int)+(out.length:Int)).toNat=k+out.length by omega,aK]
  rfl) (by
  simp only [rG]
  rw [brn om,ag om])
theorem KM {l:List Ext} (h:hG l) (hn:l.length<=6):Hm l=some (eqT l):=by
 unfold Hm
 have key:Loop (rO l) ([e1],0)=some (eqT l,(l.length:Int),false):=
  bx (fun k=>(eqT (l.take k),(k:Int))) l.length (fun k hk=>by
   have hl:=Ej (l.take k)
   have hb:=a69 (l.take k).length (by rw [bi];omega)
   simp only [rO]
   rw [brd om,ak _ om om,F3 om om om,c57 (a0s _) h hk (by rw [aQ];omega) om,obs,ak _ om om,db hk,a3V]
   simp [hk]) (by
   simp only [rO]
   rw [brn om,ag om,bm])
 rw [TF,obs,key];rfl
theorem a9S {a b:List Ext} (ha:hG a) (hb:hG b) (hl:a.length<=b.length) (hn:a.length<=1000000000):Loop (rR a b 0 0) ((0:Int),(0:Int),(0:Int))=some ((a.length:Int),false,(Vz a b).A,(Vz a b).B):=
 bx (fun k=>((k:Int),(((a.zip b).take k).foldl (fun c p=>eA c (eM p.1 p.2)) e0).A,(((a.zip b).take k).foldl (fun c p=>eA c (eM p.1 p.2)) e0).B)) a.length (fun k hk=>by
  simp only [rR]
  have hc:=a5r ((a.zip b).take k) a8d
  rw [brd om,cj hk,obs,cj om,obs,fE (ha.get hk) (hb.get om),obs,lS hc (rY _ _),obs,ak _ om om,Ig hk om,i7]
  rfl) (by
  simp only [rR]
  rw [brn om,ag om,cq (by rw [List.length_zip];omega)]
  rfl)
theorem a8l {a pt:List Ext} (ha:hG a) (hp:hG pt) (hn:pt.length<=6) (hl:a.length<=2^pt.length):DW a pt=some (Vz a (eqT pt)):=by
 unfold DW
 have h6:=a69 pt.length hn
 have hel:=Ej pt
 rw [KM hp hn,obs,a9S ha (a0s _) om om];rfl
end Go.AI.Fn
namespace Go.AI.Fn
abbrev K:={x:Ext//okE x}
def K.n (i:Int):K:=⟨eN (i%2130706433),a8f (l9 _)⟩
instance c5r:Add K:=⟨fun a b=>⟨eA a.1 b.1,Xh _ _⟩⟩
instance c43:Mul K:=⟨fun a b=>⟨eM a.1 b.1,rY _ _⟩⟩
instance c4c:Sub K:=⟨fun a b=>⟨eS a.1 b.1,yF _ _⟩⟩
instance c4N:Neg K:=⟨fun a=>⟨eS e0 a.1,yF _ _⟩⟩
instance b7H:NatCast K:=⟨fun n=>K.n n⟩
instance b8M:IntCast K:=⟨fun n=>K.n n⟩
instance c1t (n:Nat):OfNat K n:=⟨K.n n⟩
def K.pow (a:K):Nat->K
 |0=>K.n 1
 |n+1=>K.pow a n*a
instance c3U:HPow K Nat K:=⟨K.pow⟩
theorem K.ext {a b:K} (h:a.1=b.1):a=b:=Subtype.ext h
theorem K.mul_val (a b:K):(a*b).1=eM a.1 b.1:=rfl
theorem K.n_mul (i j:Int):K.n (i*j)=K.n i*K.n j:=K.ext (Nt (by
 show (i*j)%2130706433=((i%2130706433)*(j%2130706433)+3*(0*0))%2130706433
 rw [show (3:Int)*(0*0)=0 from rfl,Int.add_zero, <-oQ]) (by
 show (0:Int)=((i%2130706433)*0+0*(j%2130706433))%2130706433
 rw [Int.mul_zero,Int.zero_mul];rfl))
instance b9y:NeZero 2130706433:=⟨by decide⟩
abbrev FP:=Fin 2130706433
def K.a (x:K):FP:=⟨x.1.A.toNat,by have h:=x.2.1;unfold okF at h;omega⟩
def K.b (x:K):FP:=⟨x.1.B.toNat,by have h:=x.2.2;unfold okF at h;omega⟩
theorem K.A_nat (x:K): ∃n:Nat,x.1.A=(n:Int)/\n<2130706433/\(K.a x).val=n:=⟨x.1.A.toNat,by have h:=x.2.1;unfold okF at h;omega,(K.a x).isLt,rfl⟩
theorem K.B_nat (x:K): ∃n:Nat,x.1.B=(n:Int)/\n<2130706433/\(K.b x).val=n:=⟨x.1.B.toNat,by have h:=x.2.2;unfold okF at h;omega,(K.b x).isLt,rfl⟩
theorem K.eqv {x y:K}:x=y↔K.a x=K.a y/\K.b x=K.b y:=⟨fun h=>by rw [h];exact ⟨rfl,rfl⟩,fun h=>by
 obtain ⟨n,h1,_,h2⟩:=K.A_nat x
 obtain ⟨m,h3,_,h4⟩:=K.A_nat y
 obtain ⟨i,h5,_,h6⟩:=K.B_nat x
 obtain ⟨j,h7,_,h8⟩:=K.B_nat y
 have e1:=congrArg Fin.val h.1
 have e2:=congrArg Fin.val h.2
 exact K.ext (Nt om om)⟩
theorem K.ad_a (x y:K):K.a (x+y)=K.a x+K.a y:=Fin.ext (by
 obtain ⟨n,h1,_,h2⟩:=K.A_nat x
 obtain ⟨m,h3,_,h4⟩:=K.A_nat y
 rw [Fin.val_add,h2,h4]
 show ((x.1.A+y.1.A)%2130706433).toNat=_
 omega)
theorem K.ad_b (x y:K):K.b (x+y)=K.b x+K.b y:=Fin.ext (by
 obtain ⟨n,h1,_,h2⟩:=K.B_nat x
 obtain ⟨m,h3,_,h4⟩:=K.B_nat y
 rw [Fin.val_add,h2,h4]
 show ((x.1.B+y.1.B)%2130706433).toNat=_
 omega)
theorem K.su_a (x y:K):K.a (x-y)=K.a x-K.a y:=Fin.ext (by
 obtain ⟨n,h1,_,h2⟩:=K.A_nat x
 obtain ⟨m,h3,_,h4⟩:=K.A_nat y
 rw [Fin.sub_def]
 show ((x.1.A-y.1.A)%2130706433).toNat=(2130706433-(K.a y).val+(K.a x).val)%2130706433
 omega)
theorem K.su_b (x y:K):K.b (x-y)=K.b x-K.b y:=Fin.ext (by
 obtain ⟨n,h1,_,h2⟩:=K.B_nat x
 obtain ⟨m,h3,_,h4⟩:=K.B_nat y
 rw [Fin.sub_def]
 show ((x.1.B-y.1.B)%2130706433).toNat=(2130706433-(K.b y).val+(K.b x).val)%2130706433
 omega)
theorem K.n0_a:K.a 0=0:=rfl
theorem K.n0_b:K.b 0=0:=rfl
theorem K.n1_a:K.a 1=1:=rfl
theorem K.n1_b:K.b 1=0:=rfl
theorem K.n2_a:K.a 2=2:=rfl
theorem K.n2_b:K.b 2=0:=rfl
theorem K.n3_a:K.a 3=3:=rfl
theorem K.n3_b:K.b 3=0:=rfl
theorem K.ne_sub (x:K): -x=0-x:=rfl
theorem K.mu_a (x y:K):K.a (x*y)=K.a x*K.a y+3*(K.b x*K.b y):=Fin.ext (by
 obtain ⟨n,h1,_,h2⟩:=K.A_nat x
 obtain ⟨m,h3,_,h4⟩:=K.A_nat y
 obtain ⟨i,h5,_,h6⟩:=K.B_nat x
 obtain ⟨j,h7,_,h8⟩:=K.B_nat y
 rw [Fin.val_add,Fin.val_mul,Fin.val_mul,Fin.val_mul,h2,h4,h6,h8,show (3:FP).val=3 from rfl]
 show ((x.1.A*y.1.A+3*(x.1.B*y.1.B))%2130706433).toNat=_
 rw [h1,h3,h5,h7, <-pD, <-pD]
 generalize n*m=u
 generalize i*j=v
 omega)
theorem K.mu_b (x y:K):K.b (x*y)=K.a x*K.b y+K.b x*K.a y:=Fin.ext (by
 obtain ⟨n,h1,_,h2⟩:=K.A_nat x
 obtain ⟨m,h3,_,h4⟩:=K.A_nat y
 obtain ⟨i,h5,_,h6⟩:=K.B_nat x
 obtain ⟨j,h7,_,h8⟩:=K.B_nat y
 rw [Fin.val_add,Fin.val_mul,Fin.val_mul,h2,h4,h6,h8]
 show ((x.1.A*y.1.B+x.1.B*y.1.A)%2130706433).toNat=_
 rw [h1,h3,h5,h7, <-pD, <-pD]
 generalize n*j=u
 generalize i*m=v
 omega)
theorem kg {p:Prop} (h:p:=by (simp only [K.ne_sub,K.eqv,K.ad_a,K.ad_b,K.su_a,K.su_b,K.mu_a,K.mu_b,K.n0_a,K.n0_b,K.n1_a,K.n1_b,K.n2_a,K.n2_b,K.n3_a,K.n3_b] at* <;>first|grind only|grind)):p:=h
def kF (a:Int):K:=K.n a
theorem Ec {a:Int} (h:okF a):(kF a).1=eN a:=by show eN (a%2130706433)=eN a;rw [He h]
theorem b4Q (a b:Int):kF (mF a b)=kF a*kF b:=by
 rw [kF,kF,kF, <-K.n_mul]
 exact K.ext (by show eN ((a*b)%2130706433%2130706433)=eN ((a*b)%2130706433);rw [so])
def kv (l:List K):List Ext:=l.map (·.1)
theorem ci (l:List K):(kv l).length=l.length:=by simp [kv]
theorem GH (l:List K):hG (kv l):=hG.map l fun x _=>x.2
theorem b9E {L:List Ext} (h:hG L): ∃l,L=kv l:=by
 induction L with
 |nil=>exact ⟨[],rfl⟩
 |cons x L ih=>
  obtain ⟨l,rfl⟩:=ih fun y hy=>h y (by simp [hy])
  exact ⟨⟨x,h x (by simp)⟩::l,rfl⟩
theorem b2C {l:List K} {j:Nat} (h:j<l.length):(kv l)[j]'(by rw [ci];exact h)=(l.getD j 0).1:=by simp [kv,h]
theorem wZ {l:List K} {j:Nat} (h:j<l.length):atL (kv l) (j:Int)=some (l.getD j 0).1:=by rw [cj (by rw [ci];exact h),b2C h]
theorem a7N {l:List K} {j:Nat} (h:j<l.length):(kv l)[j]? =some (l.getD j 0).1:=by rw [wj (by rw [ci];exact h),b2C h]
end Go.AI.Fn
namespace Go.AI.Fn
theorem pw0 (x:K):x^0=1:=rfl
theorem pwS (x:K) (n:Nat):x^(n+1)=x^n*x:=rfl
theorem b2B: ∀n:Nat,(1:K)^n=1
 |0=>rfl
 |n+1=>by rw [pwS,b2B n];exact kg
theorem b4S (x y:K): ∀n:Nat,(x*y)^n=x^n*y^n
 |0=>by rw [pw0,pw0,pw0];exact kg
 |n+1=>by rw [pwS,pwS,pwS,b4S x y n];exact kg
def evs:List K->List K
 |a::_::l=>a::evs l
 |[a]=>[a]
 |[]=>[]
def ods:List K->List K
 |_::b::l=>b::ods l
 |_=>[]
def c5Y (E O:List K) (w:K) (h:Nat):List K:=(List.range h).map fun j=>E.getD j 0+O.getD j 0*w^j
def c5V (E O:List K) (w:K) (h:Nat):List K:=(List.range h).map fun j=>E.getD j 0-O.getD j 0*w^j
def V:Nat->List K->K->List K
 |0,l,_=>l
 |k+1,l,w=>c5Y (V k (evs l) (w*w)) (V k (ods l) (w*w)) w (2^k)++c5V (V k (evs l) (w*w)) (V k (ods l) (w*w)) w (2^k)
def cb (r:K) (a b:List K):List K:=List.zipWith (fun x y=>x+r*y) a b
end Go.AI.Fn
namespace Go.AI.Fn
def a52:Nat->(Nat->K)->K
 |0,_=>0
 |n+1,f=>a52 n f+f n
def fdK (r:K):List K->List K
 |a::b::l=>(a+r*(b-a))::fdK r l
 |_=>[]
theorem a8K (r:K): ∀(l:List K) (m:Nat),l.length=2*m->(fdK r l).length=m
 |[],m,h=>by simp at h;simp [fdK];omega
 |[a],m,h=>by simp at h;omega
 |a::b::l,0,h=>by simp at h
 |a::b::l,m+1,h=>by simp only [fdK,ah];rw [a8K r l m (by simp only [ah] at h;omega)]
def cmK (kind:Nat) (v:List K):K:=if kind=1 then v.getD 0 0*v.getD 1 0 else v.getD 0 0*(v.getD 1 0*v.getD 2 0-v.getD 3 0)
def bdK (r:K) (T:List (List K)):List (List K):=T.map (fdK r)
theorem b8g (r:K) (T:List (List K)) (i:Nat):(bdK r T).getD i []=fdK r (T.getD i []):=by
 by_cases h:i<T.length
 ·simp [bdK,h]
 ·simp [bdK,h,fdK]
end Go.AI.Fn
namespace Go.AI.Fn
theorem Qg {α:Type} {a:List α} {n k:Nat} {z x:α} (hk:k<n) (ha:a.length=k):(a++List.replicate (n-k) z).set k x=(a++[x])++List.replicate (n-(k+1)) z:=by
 subst ha
 have e:n-a.length=(n-(a.length+1))+1:=by omega
 rw [e,lw]
 simp
theorem K4 {α β:Type} {f:α->Option β} {g:α->β} {a:List α} {z:β} (hl:a.length<=1099511627776) (hf: ∀x∈a,f x=some (g x)) {step:List β×Int->Option ((List β×Int)⊕(List β×Int×Bool))}
 (hs: ∀l i,step (l,i)=br (decide (i<((a.length:Nat):Int))) ((atL a i).bind fun x=>(f x).bind fun r=>br (decide (0<=i)) (br (decide (i.toNat<l.length)) ((l[i.toNat]?).bind fun _=>some (.inl (l.set i.toNat r,IntKind.wrap .i64 (i+1)))) none) none) (some (.inr (l,i,decide (i<((a.length:Nat):Int)))))) {n:Nat} (hn:a.length<=n):
 Loop step (List.replicate n z,0)=some (a.map g++List.replicate (n-a.length) z,(a.length:Int),false):=by
 have key:=bx (step:=step) (fun k=>((a.take k).map g++List.replicate (n-k) z,(k:Int))) a.length (e:=(a.map g++List.replicate (n-a.length) z,(a.length:Int),false)) (fun k hk=>by
  have hlen:((a.take k).map g++List.replicate (n-k) z).length=n:=by simp;omega
  rw [hs,brd om,cj hk,obs,hf _ (aY hk),obs,brd om,brd om,aK,wj om,obs,Qg om (by simp;omega),ak _ om om,db hk,cJ]
  rfl) (by
  rw [hs,brn om,ag om,bm])
 simpa using key
theorem NE {α:Type} {f:α->α->Option Bool} {a:List α} (hl:a.length<=1099511627776) (hf: ∀x∈a,f x x=some true) {step:Int->Option (Int⊕(Unit⊕(Int×Bool)))}
 (hs: ∀t,step t=br (decide (t<((a.length:Nat):Int))) ((atL a t).bind fun x=>(atL a t).bind fun y=>(f x y).bind fun r=>br (!r) (some (.inr (.inl ()))) (some (.inl (IntKind.wrap .i64 (t+1))))) (some (.inr (.inr (t,decide (t<((a.length:Nat):Int))))))):
 (Loop step 0).bind (alt (fun _=>some false) (fun _=>some true))=some true:=by
 have key:Loop step 0=some (.inr ((a.length:Int),false)):=bx (step:=step) (fun k=>(k:Int)) a.length (fun k hk=>by
  rw [hs,brd om,cj hk,obs,obs,hf _ (aY hk),obs,aH,bf,ak _ om om];rfl)
  (by rw [hs,brn om,ag om])
 rw [key];rfl
theorem oL (x:Ext):sJ x x=some true:=by unfold sJ;rw [fq rfl,fq rfl]
theorem H9 {a:List Ext} (h:a.length<=1048576):w7 a=some a:=by
 unfold w7
 rw [F3 om om om,aK,K4 (step:=xM a) (f:=sD) (g:=fun x=>x) om (fun x _=>rfl) (fun l i=>rfl) (aw _)]
 simp
theorem a42 {a:List Int} (h:a.length<=1048576):yH a=some a:=by
 unfold yH
 rw [F3 om om om,aK,K4 (step:=xy a) (f:=fun x=>some x) (g:=fun x=>x) om (fun x _=>rfl) (fun l i=>rfl) (aw _)]
 simp
theorem BC {a:List Ext} (h:a.length<=1048576):vI a a=some true:=by
 unfold vI
 rw [fq rfl]
 exact NE (f:=sJ) om (fun x _=>oL x) (fun t=>rfl)
theorem Vj {a:List Int} (h:a.length<=1048576):FD a a=some true:=by
 unfold FD
 rw [fq rfl]
 refine NE (a:=a) (f:=fun x y=>some (x==y)) om (fun x _=>by simp) (fun t=> ?_)
 simp only [xU]
 rfl
theorem FM {a:List Ext} {left:Int} (ha:a.length<=9223372036854775807) (h0: -1<=left) (h1:left<=1048576): ∃r,vL a left=some r/\ -1<=r/\r<=1048576/\(0<=r->a.length<=1048576):=by
 unfold vL
 rw [ak _ om om]
 by_cases h:left-(a.length:Int)<0
 ·rw [brd h];exact ⟨_,rfl,by omega,by omega,by omega⟩
 ·rw [brn h];exact ⟨_,rfl,by omega,by omega,by omega⟩
end Go.AI.Fn
namespace Go.AI.Fn
theorem Yw (x y:Int):dm x y=some (if x<y then-1 else if x>y then 1 else 0):=by
 unfold dm fH
 simp only [obs,bne_self_eq_false,bf]
 by_cases h:x<y
 ·rw [brd h,ae h]
 ·rw [brn h,aa h]
  by_cases h2:x>y
  ·rw [brd h2,ae h2]
  ·rw [brn h2,aa h2]
theorem a41 (a b:Int):bO 0 [a,b] (([a,b].length:Nat):Int) 0=br (a !=0) (some (.inr (.inl a))) (some (.inl 1)):=by
 simp only [bO]
 rw [brd (by simp),show atL [a,b] 0=some a by simp [atL],show IntKind.wrap .i64 (0+1)=1 by decide];rfl
theorem a4R (a b:Int):bO 0 [a,b] (([a,b].length:Nat):Int) 1=br (b !=0) (some (.inr (.inl b))) (some (.inl 2)):=by
 simp only [bO]
 rw [brd (by simp),show atL [a,b] 1=some b by simp [atL],show IntKind.wrap .i64 (1+1)=2 by decide];rfl
theorem b3s (a b:Int):bO 0 [a,b] (([a,b].length:Nat):Int) 2=some (.inr (.inr (2,false))):=by
 simp only [bO]
 rw [brn (by simp)];simp
theorem b2F (a b:Int):jD [a,b]=some (if a=0 then b else a):=by
 unfold jD
 by_cases ha:a=0
 ·rw [cf (s':=1) (by rw [a41,fq ha]),ae ha]
  by_cases hb:b=0
  ·rw [cf (s':=2) (by rw [a4R,fq hb]),bZ (b3s a b),hb];rfl
  ·rw [bZ (e:= .inl b) (by rw [a4R,brb hb])];rfl
 ·rw [bZ (e:= .inl a) (by rw [a41,brb ha]),aa ha];rfl
def ltE (y x:au):Prop:=y.Row<x.Row\/(y.Row=x.Row/\y.Col<x.Col)
theorem b4i (y x:au): ∃c,gq y x=some c/\(c>=0↔ ¬ltE y x):=by
 unfold gq
 rw [Yw,Yw]
 simp only [obs,b2F]
 refine ⟨_,rfl, ?_⟩
 unfold ltE
 by_cases h1:y.Row<x.Row
 ·simp [h1]
 ·by_cases h2:y.Row>x.Row
  ·simp [h1,h2];omega
  ·have h3:y.Row=x.Row:=by omega
   by_cases h4:y.Col<x.Col
   ·simp [h3,h4]
   ·by_cases h5:y.Col>x.Col
    ·simp [h3,h4,h5]
    ·simp [h3,h4,h5]
def inE (R C:Int) (x:au):Prop:=(0<=x.Row/\x.Row<=R-1)/\(0<=x.Col/\x.Col<=C-1)/\1<=x.Value/\x.Value<=2130706432
def Kj (l:List au) (R C:Int) (t:Nat):Prop:= ∃x,l[t]? =some x/\(¬inE R C x\/(0<t/\ ∃y,l[t-1]? =some y/\ ¬ltE y x))
open Classical in
noncomputable def vT (l:List au) (R C:Int):Bool:=decide (l.length<=200/\ ∀t, ¬Kj l R C t)
open Classical in
theorem a6U {l:List au} {R C:Int} (h:l.length<=200) (g: ∀t, ¬Kj l R C t):vT l R C=true:=by unfold vT;exact al ⟨h,g⟩
open Classical in
theorem a1p {l:List au} {R C:Int} (h:l.length<=200-> ¬ ∀t, ¬Kj l R C t):vT l R C=false:=by unfold vT;exact ag fun g=>h g.1 g.2
open Classical in
theorem TN {l:List au} {R C:Int} (h:vT l R C=true):l.length<=200:=by unfold vT at h;exact (jX h).1
theorem a2b (n a b:Int):jJ n a b=some (decide (a<=n/\n<=b)):=by
 unfold jJ
 by_cases h:a<=n
 ·rw [brd h];simp [h]
 ·rw [brn h];simp [h]
theorem XM (n a b:Int):eH n a b=some (decide (a<=n/\n<=b)):=by
 unfold eH
 by_cases h:a<=n
 ·rw [brd h];simp [h]
 ·rw [brn h];simp [h]
theorem GN {l:List au} {R C:Int} (hl:l.length<=1099511627776) (hR:1<=R/\R<=4096) (hC:1<=C/\C<=4096):rj l R C=some (vT l R C):=by
 unfold rj
 have key:=q9 (step:=og l R C l ((l.length:Nat):Int)) (fun t=>0<=t/\t<=l.length/\ ∀k:Nat,(k:Int)<t-> ¬Kj l R C k) (fun t=>(l.length-t).toNat)
  (fun e=>(∃x,e= .inl x/\ ∃k,Kj l R C k)\/(∃x,e= .inr x/\ ∀k, ¬Kj l R C k)) ?_ 0 ⟨by omega,by omega,by omega⟩
 ·obtain ⟨e,he,⟨x,rfl,k,hk⟩|⟨x,rfl,hk⟩⟩:=key
  ·rw [he]
   simp only [obs,l6]
   rw [a1p fun _ h=>h k hk]
  ·rw [he]
   simp only [obs,nT]
   by_cases h:l.length<=200
   ·rw [al om,a6U h hk]
   ·rw [ag om,a1p fun g=>absurd g h]
 ·intro t ⟨h0,h1,h2⟩
  simp only [og]
  by_cases c:t<(l.length:Int)
  ·obtain ⟨x,r,e1,e2,e3⟩:=p9 (l:=l) (i:=t.toNat) om
   have next: ¬Kj l R C t.toNat->(fun t:Int=>0<=t/\t<=l.length/\ ∀k:Nat,(k:Int)<t-> ¬Kj l R C k) (t+1):=by
    intro hn
    refine ⟨by omega,by omega,fun k hk=> ?_⟩
    by_cases e:k=t.toNat
    ·subst e;exact hn
    ·exact h2 k om
   rw [brd c,HN h0 e3]
   simp only [obs,a2b]
   rw [ak (R-1) om om,ak (C-1) om om,ak (t+1) om om]
   by_cases i1:0<=x.Row/\x.Row<=R-1
   ·rw [a0C i1]
    by_cases i2:0<=x.Col/\x.Col<=C-1
    ·rw [a0C i2]
     by_cases i3:1<=x.Value/\x.Value<=2130706432
     ·rw [a0C i3]
      by_cases c3:t>0
      ·rw [brd c3,ak (t-1) om om]
       obtain ⟨y,r2,f1,f2,f3⟩:=p9 (l:=l) (i:=(t-1).toNat) om
       rw [HN om f3]
       simp only [obs]
       obtain ⟨d,hd,hd2⟩:=b4i y x
       rw [hd]
       simp only [obs]
       rw [show (t-1).toNat=t.toNat-1 by omega] at f3
       by_cases c4:d>=0
       ·rw [brd c4]
        exact .inr ⟨_,rfl,.inl ⟨_,rfl,t.toNat,x,e3,.inr ⟨by omega,y,f3,hd2.1 c4⟩⟩⟩
       ·rw [brn c4]
        refine .inl ⟨_,rfl,next ?_,by omega⟩
        rintro ⟨x',g1,g|⟨_,y',g2,g3⟩⟩
        ·rw [e3] at g1;cases g1;exact g ⟨i1,i2,i3⟩
        ·rw [e3] at g1;cases g1;rw [f3] at g2;cases g2;exact c4 (hd2.2 g3)
      ·rw [brn c3]
       refine .inl ⟨_,rfl,next ?_,by omega⟩
       rintro ⟨x',g1,g|⟨g0,_⟩⟩
       ·rw [e3] at g1;cases g1;exact g ⟨i1,i2,i3⟩
       ·omega
     ·rw [a0M i3]
      exact .inr ⟨_,rfl,.inl ⟨_,rfl,t.toNat,x,e3,.inl fun g=>i3 g.2.2⟩⟩
    ·rw [a0M i2]
     exact .inr ⟨_,rfl,.inl ⟨_,rfl,t.toNat,x,e3,.inl fun g=>i2 g.2.1⟩⟩
   ·rw [a0M i1]
    exact .inr ⟨_,rfl,.inl ⟨_,rfl,t.toNat,x,e3,.inl fun g=>i1 g.1⟩⟩
  ·rw [brn c]
   refine .inr ⟨_,rfl,.inr ⟨_,rfl,fun k hk=> ?_⟩⟩
   have hkl:k<l.length:=by
    obtain ⟨x,hx,_⟩:=hk
    obtain ⟨h,_⟩:=dh.1 hx
    exact h
   exact h2 k om hk
theorem a1r {l:List au} {r c:Int} (hr:0<=r/\r<=5) (hc:0<=c/\c<=5) {R C:Int} (hR:bG .i64 1 r=R) (hC:bG .i64 1 c=C) (hR':1<=R/\R<=4096) (hC':1<=C/\C<=4096):ui l r c=some (vT l R C):=by
 unfold ui
 by_cases hl:(l.length:Int)>200
 ·rw [brd hl]
  rw [a1p om]
 rw [brn hl]
 have key:=q9 (step:=qd l r c) (fun t=>0<=t/\t<=l.length/\ ∀k:Nat,(k:Int)<t-> ¬Kj l R C k) (fun t=>(l.length-t).toNat)
  (fun e=>(∃x,e= .inl x/\ ∃k,Kj l R C k)\/(∃x,e= .inr x/\ ∀k, ¬Kj l R C k)) ?_ 0 ⟨by omega,by omega,by omega⟩
 ·obtain ⟨e,he,⟨x,rfl,k,hk⟩|⟨x,rfl,hk⟩⟩:=key
  ·rw [he]
   simp only [obs,l6]
   rw [a1p fun _ h=>h k hk]
  ·rw [he]
   simp only [obs,nT]
   rw [a6U om hk]
 ·intro t ⟨h0,h1,h2⟩
  simp only [qd]
  rw [eU r om om,eU c om om,hR,hC]
  by_cases ct:t<(l.length:Int)
  ·obtain ⟨x,rest,e1,e2,e3⟩:=p9 (l:=l) (i:=t.toNat) om
   have next: ¬Kj l R C t.toNat->(fun t:Int=>0<=t/\t<=l.length/\ ∀k:Nat,(k:Int)<t-> ¬Kj l R C k) (t+1):=by
    intro hn
    refine ⟨by omega,by omega,fun k hk=> ?_⟩
    by_cases e:k=t.toNat
    ·subst e;exact hn
    ·exact h2 k om
   rw [brd ct,HN h0 e3]
   simp only [obs,XM]
   rw [brd hr.1]
   rw [ak (R-1) om om,ak (C-1) om om,ak (t+1) om om]
   by_cases i1:0<=x.Row/\x.Row<=R-1
   ·rw [a0C i1,brd hc.1]
    by_cases i2:0<=x.Col/\x.Col<=C-1
    ·rw [a0C i2]
     by_cases i3:1<=x.Value/\x.Value<=2130706432
     ·rw [a0C i3]
      by_cases c3:t>0
      ·rw [brd c3,ak (t-1) om om]
       obtain ⟨y,r2,f1,f2,f3⟩:=p9 (l:=l) (i:=(t-1).toNat) om
       rw [HN om f3]
       simp only [obs]
       rw [show (t-1).toNat=t.toNat-1 by omega] at f3
       have good:ltE y x-> ¬Kj l R C t.toNat:=by
        rintro hlt ⟨x',g1,g|⟨_,y',g2,g3⟩⟩
        ·rw [e3] at g1;cases g1;exact g ⟨i1,i2,i3⟩
        ·rw [e3] at g1;cases g1;rw [f3] at g2;cases g2;exact g3 hlt
       have bad: ¬ltE y x->Kj l R C t.toNat:=fun h=>⟨x,e3,.inr ⟨by omega,y,f3,h⟩⟩
       by_cases c4:y.Row>x.Row
       ·rw [brd c4]
        exact .inr ⟨_,rfl,.inl ⟨_,rfl,_,bad (by unfold ltE;omega)⟩⟩
       ·rw [brn c4]
        by_cases c5:y.Row=x.Row
        ·rw [bre c5]
         by_cases c6:y.Col>=x.Col
         ·rw [brd c6]
          exact .inr ⟨_,rfl,.inl ⟨_,rfl,_,bad (by unfold ltE;omega)⟩⟩
         ·rw [brn c6]
          exact .inl ⟨_,rfl,next (good (by unfold ltE;omega)),by omega⟩
        ·rw [kX c5]
         exact .inl ⟨_,rfl,next (good (by unfold ltE;omega)),by omega⟩
      ·rw [brn c3]
       refine .inl ⟨_,rfl,next ?_,by omega⟩
       rintro ⟨x',g1,g|⟨g0,_⟩⟩
       ·rw [e3] at g1;cases g1;exact g ⟨i1,i2,i3⟩
       ·omega
     ·rw [a0M i3]
      exact .inr ⟨_,rfl,.inl ⟨_,rfl,t.toNat,x,e3,.inl fun g=>i3 g.2.2⟩⟩
    ·rw [a0M i2]
     exact .inr ⟨_,rfl,.inl ⟨_,rfl,t.toNat,x,e3,.inl fun g=>i2 g.2.1⟩⟩
   ·rw [a0M i1]
    exact .inr ⟨_,rfl,.inl ⟨_,rfl,t.toNat,x,e3,.inl fun g=>i1 g.1⟩⟩
  ·rw [brn ct]
   refine .inr ⟨_,rfl,.inr ⟨_,rfl,fun k hk=> ?_⟩⟩
   have hkl:k<l.length:=by
    obtain ⟨x,hx,_⟩:=hk
    obtain ⟨h,_⟩:=dh.1 hx
    exact h
   exact h2 k om hk
end Go.AI.Fn
namespace Go.AI.Fn
theorem Kt {k:Int} (h:0<=k/\k<=5):1<=bG .i64 1 k/\bG .i64 1 k<=4096:=by
 have:k=0\/k=1\/k=2\/k=3\/k=4\/k=5:=by omega
 rcases this with rfl|rfl|rfl|rfl|rfl|rfl<;>decide
noncomputable def tf (s:bk):Bool:=
 decide (1<=s.Rows/\s.Rows<=5)&&(decide (2<=s.Cols/\s.Cols<=5)&&(decide (0<=s.Publics/\s.Publics<=bG .i64 1 (s.Cols-1)-1)&&
  (vT s.A (bG .i64 1 s.Rows) (bG .i64 1 s.Cols)&&(vT s.B (bG .i64 1 s.Rows) (bG .i64 1 s.Cols)&&vT s.C (bG .i64 1 s.Rows) (bG .i64 1 s.Cols)))))
theorem IU {s:bk} (hA:s.A.length<=1099511627776) (hB:s.B.length<=1099511627776) (hC:s.C.length<=1099511627776):tV s=some (tf s):=by
 unfold tV tf
 simp only [a2b,obs]
 by_cases h1:1<=s.Rows/\s.Rows<=5
 ·rw [a0C h1]
  by_cases h2:2<=s.Cols/\s.Cols<=5
  ·rw [a0C h2]
   have k1:=Kt (k:=s.Rows) om
   have k2:=Kt (k:=s.Cols) om
   have k3:=Kt (k:=s.Cols-1) om
   unfold fe fB
   rw [ak (s.Cols-1) om om,brd om]
   simp only [obs]
   rw [ak (bG .i64 1 (s.Cols-1)-1) om om]
   by_cases h3:0<=s.Publics/\s.Publics<=bG .i64 1 (s.Cols-1)-1
   ·rw [a0C h3,brd om,brd om,GN hA k1 k2]
    simp only [obs]
    rw [al h1,al h2,al h3]
    cases vT s.A (bG .i64 1 s.Rows) (bG .i64 1 s.Cols)
    ·rfl
    ·simp only [aH,bf]
     rw [brd om,brd om,GN hB k1 k2]
     simp only [obs]
     cases vT s.B (bG .i64 1 s.Rows) (bG .i64 1 s.Cols)
     ·rfl
     ·simp only [aH,bf]
      rw [brd om,brd om,GN hC k1 k2]
      simp only [obs]
      cases vT s.C (bG .i64 1 s.Rows) (bG .i64 1 s.Cols)<;>rfl
   ·rw [a0M h3,al h1,al h2,ag h3];rfl
  ·rw [a0M h2,al h1,ag h2];rfl
 ·rw [a0M h1,ag h1];rfl
theorem Jm (s:bk):ua s=some (tf s):=by
 unfold ua tf
 simp only [XM,obs]
 by_cases h1:1<=s.Rows/\s.Rows<=5
 ·rw [brd h1]
  by_cases h2:2<=s.Cols/\s.Cols<=5
  ·rw [brd h2]
   have k1:=Kt (k:=s.Rows) om
   have k2:=Kt (k:=s.Cols) om
   have k3:=Kt (k:=s.Cols-1) om
   rw [ak (s.Cols-1) om om,eU (s.Cols-1) om om,brd om,ak (bG .i64 1 (s.Cols-1)-1) om om]
   by_cases h3:0<=s.Publics/\s.Publics<=bG .i64 1 (s.Cols-1)-1
   ·rw [brd h3,a1r om om rfl rfl k1 k2,a1r om om rfl rfl k1 k2,a1r om om rfl rfl k1 k2]
    rw [al h1,al h2,al h3]
    cases vT s.A (bG .i64 1 s.Rows) (bG .i64 1 s.Cols)<;>cases vT s.B (bG .i64 1 s.Rows) (bG .i64 1 s.Cols)<;>cases vT s.C (bG .i64 1 s.Rows) (bG .i64 1 s.Cols)<;>rfl
   ·rw [brn h3,al h1,al h2,ag h3];rfl
  ·rw [brn h2,al h1,ag h2];rfl
 ·rw [brn h1,ag h1];rfl
theorem mH {s:bk} (h:tf s=true):(1<=s.Rows/\s.Rows<=5)/\(2<=s.Cols/\s.Cols<=5)/\(0<=s.Publics/\s.Publics<=4096)/\s.A.length<=200/\s.B.length<=200/\s.C.length<=200:=by
 unfold tf at h
 simp only [aC,aG] at h
 obtain ⟨h1,h2,h3,h4,h5,h6⟩:=h
 have k3:=Kt (k:=s.Cols-1) om
 exact ⟨h1,h2,by omega,TN h4,TN h5,TN h6⟩
def setB (t:Setting):Bool:=decide (1<=t.Rate/\t.Rate<=3)&&(decide (1<=t.Queries/\t.Queries<=8)&&decide (0<=t.Grind/\t.Grind<=12))
theorem zj (t:Setting):oe t=some (setB t):=by
 unfold oe setB
 simp only [a2b,obs]
 cases decide (1<=t.Rate/\t.Rate<=3)<;>cases decide (1<=t.Queries/\t.Queries<=8)<;>rfl
theorem zu (t:Setting):ov t=some (setB t):=by
 unfold ov setB
 simp only [XM,obs]
 cases decide (1<=t.Rate/\t.Rate<=3)<;>cases decide (1<=t.Queries/\t.Queries<=8)<;>rfl
theorem xn {t:Setting} (h:setB t=true):(1<=t.Rate/\t.Rate<=3)/\(1<=t.Queries/\t.Queries<=8)/\0<=t.Grind/\t.Grind<=12:=by
 unfold setB at h
 simpa only [aC,aG] using h
end Go.AI.Fn
namespace Go.AI.Fn
theorem De {k:Nat} (h:k<=62):bG .i64 1 (k:Int)=((2^k:Nat):Int):=by
 have h2: ∀k:Nat,k<63->(2:Int)^k<=4611686018427387904/\0<(2:Int)^k:=by decide
 obtain ⟨h3,h4⟩:=h2 k om
 show IntKind.wrap .i64 (1*2^(min ((k:Int).toNat) 64))=_
 rw [aK,gK om,qP,ak _ om om]
 simp
def Dg (h n:Nat) (pub priv:List Int):List Int:=((1::pub)++List.replicate (h-1-pub.length) 0)++(priv++List.replicate (n-h-priv.length) 0)
theorem a2R {h n:Nat} {pub priv:List Int} (h1:pub.length+1<=h) (h2:priv.length<=n-h) (h3:h<=n):(Dg h n pub priv).length=n:=by simp [Dg];omega
theorem a8J {l r:List Int} {s:Nat} (h:s+r.length<=l.length):Gy l s r.length r=l.take s++(r++l.drop (s+r.length)):=by
 rw [Gy,bm]
theorem b6p {h n:Nat} {pub priv:List Int} (h1:pub.length+1<=h) (h2:priv.length<=n-h) (h3:h<=n):
 Gy (Gy ((List.replicate n (0:Int)).set 0 1) 1 pub.length pub) h priv.length priv=Dg h n pub priv:=by
 obtain ⟨m,rfl⟩: ∃m,n=m+1:=⟨n-1,by omega⟩
 have e1:(List.replicate (m+1) (0:Int)).set 0 1=1::List.replicate m 0:=by rw [lw];rfl
 have e2:Gy (1::List.replicate m (0:Int)) 1 pub.length pub=1::(pub++List.replicate (m-pub.length) 0):=by
  rw [a8J (by simp;omega),jp 1];simp
 rw [e1,e2,a8J (by simp;omega),Dg]
 have e3:(1::(pub++List.replicate (m-pub.length) (0:Int))).take h=(1::pub)++List.replicate (h-1-pub.length) 0:=by
  obtain ⟨q,rfl⟩: ∃q,h=q+1:=⟨h-1,by omega⟩
  rw [lv,List.take_append,cq om,List.take_replicate,gK om]
  simp
 have e4:(1::(pub++List.replicate (m-pub.length) (0:Int))).drop (h+priv.length)=List.replicate (m+1-h-priv.length) 0:=by
  obtain ⟨q,rfl⟩: ∃q,h=q+1:=⟨h-1,by omega⟩
  rw [show q+1+priv.length=(q+priv.length)+1 by omega,List.drop_succ_cons,List.drop_append,gB om,bj,List.drop_replicate]
  congr 1;omega
 rw [e3,e4]
def ib (s:bk):Nat:=2^(s.Cols.toNat-1)
theorem yy {s:bk} (h:tf s=true):2<=s.Cols.toNat/\s.Cols.toNat<=5/\s.Cols=(s.Cols.toNat:Int):=by
 obtain ⟨_,h2,_⟩:=mH h;omega
theorem Mv {s:bk} (h:tf s=true):2^s.Cols.toNat=2*ib s:=by
 obtain ⟨h1,_⟩:=yy h
 rw [ib, <-Nat.pow_succ'];congr 1;omega
theorem wX: ∀k:Nat,k<=5->1<=2^k/\2^k<=32:=by decide
theorem XR {s:bk} (h:tf s=true):fe s=some (ib s:Int):=by
 obtain ⟨h1,h2,h3⟩:=yy h
 unfold fe
 rw [ak _ om om,brd om,show s.Cols-1=((s.Cols.toNat-1:Nat):Int) by omega,De om];rfl
theorem a4n {s:bk} (h:tf s=true) {pub priv:List Int} (h1:pub.length+1<=ib s) (h2:priv.length<=ib s):mR s pub priv=some (Dg (ib s) (2^s.Cols.toNat) pub priv):=by
 obtain ⟨c1,c2,c3⟩:=yy h
 have hh:=Mv h
 have hb:=wX s.Cols.toNat c2
 unfold mR
 rw [brd om,c3,De om, <-c3]
 simp only [aK,aQ]
 have hn0:0<(List.replicate (2^s.Cols.toNat) (0:Int)).length:=by rw [aQ];omega
 rw [F3 om om om,brd om,i9 hn0,brd om,brd om,XR h,obs,Gf om om,brd om]
 simp only [aK]
 rw [gK om,gK om,b6p h1 om om]
theorem c1R {pub priv:List Int} {h c c2 c3:Int} {A B C:List au} {n:Nat} (hn:pub.length+1<=n) (hb:n<=1000000):
 Loop (iR pub priv h c c2 c3 A B C) ((List.replicate n (0:Int)).set 0 1,0)=some ((1::pub)++List.replicate (n-1-pub.length) 0,(pub.length:Int),false):=by
 have key:=bx (step:=iR pub priv h c c2 c3 A B C) (fun k=>((1::pub.take k)++List.replicate (n-(k+1)) 0,(k:Int))) pub.length (e:=((1::pub)++List.replicate (n-1-pub.length) 0,(pub.length:Int),false)) (fun k hk=>by
  have hlen:((1::pub.take k)++List.replicate (n-(k+1)) (0:Int)).length=n:=by simp;omega
  simp only [iR]
  rw [brd om,cj hk,obs,ak (1+(k:Int)) om om,show (1:Int)+(k:Int)=((k+1:Nat):Int) by omega,brd om,brd om,wj om,obs,aK,Qg om (by simp;omega),
   ak _ om om,db hk]
  simp) (by
  simp only [iR]
  rw [brn om,ag om,bm,show n-(pub.length+1)=n-1-pub.length by omega])
 obtain ⟨m,rfl⟩: ∃m,n=m+1:=⟨n-1,by omega⟩
 have e:(List.replicate (m+1) (0:Int)).set 0 1=(1::pub.take 0)++List.replicate (m+1-(0+1)) 0:=by rw [lw];simp
 rw [e];exact key
theorem c3x {L priv:List Int} {h n:Nat} {c c2 c3:Int} {A B C:List au} (hL:L.length=h) (hp:priv.length<=n-h) (hh:h<=n) (hb:n<=1000000):
 Loop (iQ priv (h:Int) c c2 c3 A B C) (L++List.replicate (n-h) 0,0)=some (L++(priv++List.replicate (n-h-priv.length) 0),(priv.length:Int),false):=by
 have key:=bx (step:=iQ priv (h:Int) c c2 c3 A B C) (fun k=>((L++priv.take k)++List.replicate (n-(h+k)) 0,(k:Int))) priv.length (e:=(L++(priv++List.replicate (n-h-priv.length) 0),(priv.length:Int),false)) (fun k hk=>by
  have hlen:((L++priv.take k)++List.replicate (n-(h+k)) (0:Int)).length=n:=by simp;omega
  simp only [iQ]
  rw [brd om,cj hk,obs,ak ((h:Int)+(k:Int)) om om,show (h:Int)+(k:Int)=((h+k:Nat):Int) by omega,brd om,brd om,wj om,obs,aK,Qg om (by simp;omega),
   ak _ om om,db hk]
  simp [fA]) (by
  simp only [iQ]
  rw [brn om,ag om,bm,show n-(h+priv.length)=n-h-priv.length by omega,ba])
 simpa using key
theorem a2A {s:bk} (h:tf s=true) {pub priv:List Int} (h1:pub.length+1<=ib s) (h2:priv.length<=ib s):wu s pub priv=some (Dg (ib s) (2^s.Cols.toNat) pub priv):=by
 obtain ⟨c1,c2,c3⟩:=yy h
 have hh:=Mv h
 have hb:=wX s.Cols.toNat c2
 unfold wu
 have e:IntKind.wrap .u64 (IntKind.wrap .i64 (s.Cols-1))=((s.Cols.toNat-1:Nat):Int):=by
  rw [ak _ om om,eU _ om om];omega
 rw [e,brd om,De om]
 have e2:IntKind.wrap .i64 (2*((2^(s.Cols.toNat-1):Nat):Int))=((2^s.Cols.toNat:Nat):Int):=by
  have:2^(s.Cols.toNat-1)=ib s:=rfl
  rw [this,ak _ om om];omega
 rw [e2,F3 om om om,aK,brd (by rw [aQ];omega),i9 (by rw [aQ];omega),c1R om om,obs]
 dsimp only
 have e3:1::pub++List.replicate (2^s.Cols.toNat-1-pub.length) (0:Int)=(1::pub++List.replicate (ib s-1-pub.length) 0)++List.replicate (2^s.Cols.toNat-ib s) 0:=by
  rw [ba,List.replicate_append_replicate]
  congr 2;omega
 have e4:2^(s.Cols.toNat-1)=ib s:=rfl
 rw [e3,e4,c3x (by simp;omega) om om om,obs,Dg]
theorem b00 {l:List Int} (h:l.length<=1000000):SV l=some (l.map eN):=by
 unfold SV
 have key:Loop (u4 l ((l.length:Nat):Int)) ([],0)=some (l.map eN,(l.length:Int),false):=
  bx (fun k=>((l.take k).map eN,(k:Int))) l.length (fun k hk=>by
   simp only [u4]
   rw [brd om,cj hk,obs,bw (by simp only [ab,aM,bi,am];omega),ak _ om om,db hk,cJ]
   rfl) (by
   simp only [u4]
   rw [brn om,ag om,bm])
 rw [key];rfl
theorem a9i {l:List Int} {n:Nat} (h:l.length<=n) (hn:n<=1000000):BK l (n:Int)=some (l.map eN++List.replicate (n-l.length) e0):=by
 unfold BK
 rw [F3 om om om,aK,K4 (step:=vh l) (f:=sv) (g:=eN) om (fun x _=>rfl) (fun l i=>rfl) h,obs];rfl
theorem a8y {h n:Nat} {pub priv:List Int} (h1:KW pub) (h2:KW priv):KW (Dg h n pub priv):=by
 intro x hx
 simp only [Dg,aW,bc,gy] at hx
 rcases hx with ((rfl|hx)|⟨_,rfl⟩)|hx|⟨_,rfl⟩
 ·exact b6G
 ·exact h1 x hx
 ·exact c3z
 ·exact h2 x hx
 ·exact c3z
theorem X7 {l:List Int} (h:KW l):hG (l.map eN):=hG.map l fun x hx=>a8f (h x hx)
def b6Q (s:bk) (pub:List Int) (pt:List Ext):Ext:=Vz (((Dg (ib s) (2^s.Cols.toNat) pub []).take (ib s)).map eN) (eqT pt)
theorem VS {s:bk} (h:tf s=true) {pub:List Int} {pt:List Ext} (h1:pub.length+1<=ib s) (hf:KW pub) (hp:hG pt) (hl:pt.length+1=s.Cols.toNat):yB s pub pt=some (b6Q s pub pt):=by
 obtain ⟨c1,c2,c3⟩:=yy h
 have hh:=Mv h
 have hb:=wX s.Cols.toNat c2
 have hv:(Dg (ib s) (2^s.Cols.toNat) pub []).length=2^s.Cols.toNat:=a2R h1 (by simp) om
 have hz:KW (Dg (ib s) (2^s.Cols.toNat) pub []):=a8y hf (fun x hx=>by cases hx)
 unfold yB
 rw [a4n h h1 (by simp),obs,XR h,obs,mK om om om,obs]
 have e:((Dg (ib s) (2^s.Cols.toNat) pub []).drop (Int.toNat 0)).take (((ib s:Nat):Int).toNat-Int.toNat 0)=(Dg (ib s) (2^s.Cols.toNat) pub []).take (ib s):=rfl
 have hel:=Ej pt
 have hpl:pt.length=s.Cols.toNat-1:=by omega
 have hq:2^pt.length=ib s:=by rw [hpl];rfl
 rw [e,b00 (by rw [bi];omega),obs,DN hp om,obs,
  SU (X7 fun x hx=>hz x (cp hx)) (a0s _) (by rw [aM,bi];omega) (by rw [aM,bi];omega)]
 rfl
theorem a3d {s:bk} (h:tf s=true) {pub:List Int} {pt:List Ext} (h1:pub.length+1<=ib s) (hf:KW pub) (hp:hG pt) (hl:pt.length+1=s.Cols.toNat):wv s pub pt=some (b6Q s pub pt):=by
 obtain ⟨c1,c2,c3⟩:=yy h
 have hh:=Mv h
 have hb:=wX s.Cols.toNat c2
 have hv:(Dg (ib s) (2^s.Cols.toNat) pub []).length=2^s.Cols.toNat:=a2R h1 (by simp) om
 have hz:KW (Dg (ib s) (2^s.Cols.toNat) pub []):=a8y hf (fun x hx=>by cases hx)
 unfold wv
 have e1:IntKind.wrap .u64 (IntKind.wrap .i64 (s.Cols-1))=((s.Cols.toNat-1:Nat):Int):=by
  rw [ak _ om om,eU _ om om];omega
 have e2:bG .i64 1 ((s.Cols.toNat-1:Nat):Int)=(ib s:Int):=De om
 rw [a2A h h1 (by simp),obs,e1,brd om,e2,mK om om om,obs,brd om]
 have e:((Dg (ib s) (2^s.Cols.toNat) pub []).drop (Int.toNat 0)).take (((ib s:Nat):Int).toNat-Int.toNat 0)=(Dg (ib s) (2^s.Cols.toNat) pub []).take (ib s):=rfl
 have hpl:pt.length=s.Cols.toNat-1:=by omega
 have hq:2^pt.length=ib s:=by rw [hpl];rfl
 have hlt:((Dg (ib s) (2^s.Cols.toNat) pub []).take (ib s)).length=ib s:=by rw [bi];omega
 rw [e,a9i om om,obs,hlt,Nat.sub_self,lk,bW,
  a8l (X7 fun x hx=>hz x (cp hx)) hp om (by rw [aM];omega)]
 rfl
theorem a8n {s:bk} (h:tf s=true):0<=s.Publics/\s.Publics.toNat+1<=ib s:=by
 obtain ⟨c1,c2,c3⟩:=yy h
 have h0:=h
 unfold tf at h0
 simp only [aC,aG] at h0
 obtain ⟨_,_,h3,_⟩:=h0
 have e:bG .i64 1 (s.Cols-1)=(ib s:Int):=by
  rw [show s.Cols-1=((s.Cols.toNat-1:Nat):Int) by omega,De om];rfl
 rw [e] at h3
 omega
end Go.AI.Fn
namespace Go.AI.Fn
end Go.AI.Fn
namespace Go.AI.Fn
end Go.AI.Fn
namespace Go.AI.Fn
def kvv (T:List (List K)):List (List Ext):=T.map kv
theorem a0d (T:List (List K)):(kvv T).length=T.length:=by simp [kvv]
theorem a1l {T:List (List K)} {j:Nat} (h:j<T.length):atL (kvv T) (j:Int)=some (kv (T.getD j [])):=by rw [cj (by rw [a0d];exact h)];simp [kvv,h]
structure OkT (kind n:Nat) (T:List (List K)):Prop where
 kd:kind=1\/kind=2
 len:T.length=2*kind
 tab: ∀i,i<T.length->(T.getD i []).length=n
theorem OkT.bd {kind n:Nat} {T:List (List K)} (h:OkT kind (2*n) T) (r:K):OkT kind n (bdK r T):=⟨h.kd,by simp [bdK,h.len],fun i hi=>by
 rw [b8g]
 exact a8K r _ n (h.tab i (by simpa [bdK] using hi))⟩
variable {kind n:Nat} {T:List (List K)}
theorem YD {v:List K} (hk:kind=1\/kind=2) (hv:v.length=2*kind):ye (kind:Int) (kv v)=some (cmK kind v).1:=by
 unfold ye cmK
 have k0:=wZ (l:=v) (j:=0) om
 have k1:=wZ (l:=v) (j:=1) om
 rw [show ((0:Nat):Int)=0 from rfl] at k0
 rw [show ((1:Nat):Int)=1 from rfl] at k1
 rcases hk with rfl|rfl
 ·rw [bre om,k0,obs,k1,obs,fR (aI _) (aI _),ae rfl];rfl
 ·have k2:=wZ (l:=v) (j:=2) om
  have k3:=wZ (l:=v) (j:=3) om
  rw [show ((2:Nat):Int)=2 from rfl] at k2
  rw [show ((3:Nat):Int)=3 from rfl] at k3
  rw [kX om,k0,obs,k1,obs,k2,obs,fR (aI _) (aI _),obs,k3,obs,rE (rY _ _) (aI _),obs,fR (aI _) (yF _ _),aa (by decide)];rfl
theorem a04 {v:List K} (hk:kind=1\/kind=2) (hv:v.length=2*kind):oT (kind:Int) (kv v)=some (cmK kind v).1:=by
 unfold oT cmK
 have k0:=wZ (l:=v) (j:=0) om
 have k1:=wZ (l:=v) (j:=1) om
 rw [show ((0:Nat):Int)=0 from rfl] at k0
 rw [show ((1:Nat):Int)=1 from rfl] at k1
 rcases hk with rfl|rfl
 ·rw [bre om,k0,obs,k1,obs,fE (aI _) (aI _),ae rfl];rfl
 ·have k2:=wZ (l:=v) (j:=2) om
  have k3:=wZ (l:=v) (j:=3) om
  rw [show ((2:Nat):Int)=2 from rfl] at k2
  rw [show ((3:Nat):Int)=3 from rfl] at k3
  rw [kX om,k0,obs,k1,obs,k2,obs,fE (aI _) (aI _),obs,k3,obs,Hw (rY _ _) (aI _),obs,fE (aI _) (yF _ _),aa (by decide)];rfl
theorem AE (hk:kind=1\/kind=2):rm (kind:Int)=some ((kind+1:Nat):Int):=by
 unfold rm
 rw [HG,obs,al om,al om,nN,aH,bf,ak _ om om];rfl
end Go.AI.Fn
namespace Go.AI.Fn
theorem b2W (a:Int): ∀n:Nat,K.n (a^n)=K.n a^n
 |0=>by rw [lK,pw0];rfl
 |n+1=>by rw [gc,K.n_mul,b2W a n,pwS]
theorem c0E (a:Int):K.n (a%2130706433)=K.n a:=K.ext (by show eN (a%2130706433%2130706433)=eN (a%2130706433);rw [so])
theorem c4e (a:Int) (n:Nat):kF (pF a n)=kF a^n:=by rw [kF,pF,c0E,b2W];rfl
theorem a8e (a:Int):kF (iF a)=kF a^2130706431:=by rw [iF,c4e]
theorem a9e (a b:Int):kF (iF (mF a b))=kF (iF a)*kF (iF b):=by rw [a8e,a8e,a8e,b4Q,b4S]
theorem a95:kF (iF 1)=1:=by rw [a8e,show kF 1=1 from rfl,b2B]
def lnI (i:Nat) (x v:K):Nat->K
 |0=>v
 |k+1=>if k=i then lnI i x v k else lnI i x v k*(x-kF (k:Int))*kF (iF (sF (i:Int) (k:Int)))
def lnP (i:Nat) (x v:K):Nat->K
 |0=>v
 |k+1=>if k=i then lnP i x v k else lnP i x v k*(x-kF (k:Int))
def lnD (i:Nat):Nat->Int
 |0=>1
 |k+1=>if k=i then lnD i k else mF (lnD i k) (sF (i:Int) (k:Int))
theorem a5J (i:Nat): ∀k,okF (lnD i k)
 |0=>b6G
 |k+1=>by unfold lnD;split;exact a5J i k;exact pX _ _
theorem c0a (i:Nat) (x v:K): ∀k,lnI i x v k=lnP i x v k*kF (iF (lnD i k))
 |0=>by rw [lnI,lnP,lnD,a95];exact kg
 |k+1=>by
  have ih:=c0a i x v k
  unfold lnI lnP lnD
  split
  ·exact ih
  ·rw [a9e,ih];exact kg
def lnK (vs:List K) (x:K):K:=a52 vs.length fun i=>lnI i x (vs.getD i 0) vs.length
theorem b3N {x:Nat} (h:x<=10):Ext.mk (x:Int) 0=(kF (x:Int)).1:=(Ec ⟨by omega,by omega⟩).symm
theorem NN {vs:List K} (x:K) (hl:vs.length<=8):BR (kv vs) x.1=some (lnK vs x).1:=by
 unfold BR
 have key:=bx (step:=mo (kv vs) (kv vs) (vs.length:Int) x.1.A x.1.B 0 0) (fun j=>((j:Int),(a52 j fun i=>lnI i x (vs.getD i 0) vs.length).1.A,(a52 j fun i=>lnI i x (vs.getD i 0) vs.length).1.B)) vs.length (e:=((vs.length:Int),false,(lnK vs x).1.A,(lnK vs x).1.B)) (fun j hj=> ?_) ?_
 ·have key':Loop (mo (kv vs) (kv vs) (vs.length:Int) x.1.A x.1.B 0 0) (0,0,0)=_:=key
  rw [ci,key'];rfl
 ·simp only [mo]
  have inner: ∀c9 c10 c11 c12 c13 c14,Loop (mi (kv vs) (j:Int) (kv vs) (vs.length:Int) (j:Int) (((kv vs).length:Nat):Int) x.1.A x.1.B c9 c10 c11 c12 c13 c14) (0,(vs.getD j 0).1.A,(vs.getD j 0).1.B)=some ((vs.length:Int),false,(lnI j x (vs.getD j 0) vs.length).1.A,(lnI j x (vs.getD j 0) vs.length).1.B):=fun c9 c10 c11 c12 c13 c14=>by
   refine bx (step:=mi (kv vs) (j:Int) (kv vs) (vs.length:Int) (j:Int) (((kv vs).length:Nat):Int) x.1.A x.1.B c9 c10 c11 c12 c13 c14) (fun k=>((k:Int),(lnI j x (vs.getD j 0) k).1.A,(lnI j x (vs.getD j 0) k).1.B)) vs.length (fun k hk=> ?_) ?_
   ·simp only [mi,ci]
    rw [brd om]
    by_cases c:k=j
    ·rw [fq om,ak _ om om,lnI,ae c];rfl
    ·rw [brb om,b3N om,show Ext.mk x.1.A x.1.B=x.1 from rfl,rE x.2 (aI _),obs,fR (aI (lnI j x (vs.getD j 0) k)) (yF _ _),obs,Sj ⟨by omega,by omega⟩ ⟨by omega,by omega⟩,obs,Dh (c0q _ _),obs,AU (rY _ _) (show okF (iF (sF (j:Int) (k:Int))) from Sp _ _),obs,ak _ om om,lnI,aa c,a8c, <-Ec (a:=iF (sF (j:Int) (k:Int))) (Sp _ _)];rfl
   ·simp only [mi,ci]
    rw [brn om,ag om]
  rw [brd om,wZ hj,obs,inner,obs,lZ (aI (a52 j fun i=>lnI i x (vs.getD i 0) vs.length)) (aI (lnI j x (vs.getD j 0) vs.length)),obs,ak _ om om];rfl
 ·simp only [mo]
  rw [brn om,ag om];rfl
theorem Xk {vs:List K} (x:K) (hl:vs.length<=8):ym (kv vs) x.1=some (lnK vs x).1:=by
 unfold ym
 have key:=bx (step:=kQ (kv vs) x.1.A x.1.B 0 0) (fun j=>((j:Int),(a52 j fun i=>lnI i x (vs.getD i 0) vs.length).1.A,(a52 j fun i=>lnI i x (vs.getD i 0) vs.length).1.B)) vs.length (e:=((vs.length:Int),false,(lnK vs x).1.A,(lnK vs x).1.B)) (fun j hj=> ?_) ?_
 ·have key':Loop (kQ (kv vs) x.1.A x.1.B 0 0) (0,0,0)=_:=key
  rw [key'];rfl
 ·simp only [kQ,ci]
  have inner: ∀c9 c10 c11 c12,Loop (kS (kv vs) (j:Int) x.1.A x.1.B c9 c10 c11 c12) (1,0,(vs.getD j 0).1.A,(vs.getD j 0).1.B)=some (lnD j vs.length,(vs.length:Int),false,(lnP j x (vs.getD j 0) vs.length).1.A,(lnP j x (vs.getD j 0) vs.length).1.B):=fun c9 c10 c11 c12=>by
   refine bx (step:=kS (kv vs) (j:Int) x.1.A x.1.B c9 c10 c11 c12) (fun k=>(lnD j k,(k:Int),(lnP j x (vs.getD j 0) k).1.A,(lnP j x (vs.getD j 0) k).1.B)) vs.length (fun k hk=> ?_) ?_
   ·simp only [kS,ci]
    rw [brd om]
    by_cases c:k=j
    ·rw [fq om,ak _ om om,lnP,lnD,ae c,ae c];rfl
    ·rw [brb om,LA,obs,show eN (k:Int)=(kF (k:Int)).1 from b3N om,show Ext.mk x.1.A x.1.B=x.1 from rfl,Hw x.2 (aI _),obs,fE (aI (lnP j x (vs.getD j 0) k)) (yF _ _),obs,TS ⟨by omega,by omega⟩ ⟨by omega,by omega⟩,obs,w6 (a5J j k) (c0q _ _),obs,ak _ om om,lnP,lnD,aa c,aa c];rfl
   ·simp only [kS,ci]
    rw [brn om,ag om]
  unfold mz
  rw [brd om,wZ hj,obs,inner,obs]
  dsimp only
  rw [DI (a5J j _),obs,obs,LA,obs, <-Ec (a:=iF (lnD j vs.length)) (Sp _ _),fE (aI (lnP j x (vs.getD j 0) vs.length)) (aI _),obs,
   show eM (Ext.mk (lnP j x (vs.getD j 0) vs.length).1.A (lnP j x (vs.getD j 0) vs.length).1.B) (kF (iF (lnD j vs.length))).1=(lnI j x (vs.getD j 0) vs.length).1 from congrArg Subtype.val (c0a j x _ _).symm,
   lS (aI (a52 j fun i=>lnI i x (vs.getD i 0) vs.length)) (aI (lnI j x (vs.getD j 0) vs.length)),obs,ak _ om om];rfl
 ·simp only [kQ,ci]
  rw [brn om,ag om];rfl
end Go.AI.Fn
namespace Go.AI.Fn
abbrev xo (a b:Int):Int:=tm .u64 a b
def rot (x s:Int):Int:=if s=0 then x else B7 .u64 (bG .u64 x s) (bY .u64 x (64-s))
def OX (x:Int):Prop:=0<=x/\x<18446744073709551616
theorem a05 (x:Int):OX (IntKind.wrap .u64 x):=by
 unfold OX;simp [IntKind.wrap,IntKind.bits,IntKind.signed];omega
theorem c3H (a b:Int):OX (xo a b):=a05 _
theorem a4M {x:Int} (h:OX x):((BitVec.ofInt 64 x).toNat:Int)=x:=by
 obtain ⟨h0,h1⟩:=h
 rw [gH];omega
theorem KI {a:Int} (h:OX a):xo 0 a=a:=by
 show IntKind.wrap .u64 _=a
 have:(BitVec.ofInt 64 0^^^BitVec.ofInt 64 a)=BitVec.ofInt 64 a:=by simp
 show IntKind.wrap .u64 ((BitVec.ofInt 64 0^^^BitVec.ofInt 64 a).toNat:Int)=a
 rw [this,a4M h,eU a h.1 h.2]
theorem b8K {a:Int} (h:OX a):B7 .u64 a 0=a:=by
 have:(BitVec.ofInt 64 a|||BitVec.ofInt 64 0)=BitVec.ofInt 64 a:=by simp
 show IntKind.wrap .u64 ((BitVec.ofInt 64 a|||BitVec.ofInt 64 0).toNat:Int)=a
 rw [this,a4M h,eU a h.1 h.2]
theorem b8p (x y:Int):Ra .u64 x y=dc .u64 (dz .u64 y) x:=by
 show IntKind.wrap .u64 ((BitVec.ofInt 64 x&&& ~~~ BitVec.ofInt 64 y).toNat:Int)=IntKind.wrap .u64 ((BitVec.ofInt 64 (dz .u64 y)&&&BitVec.ofInt 64 x).toNat:Int)
 have h:BitVec.ofInt 64 (dz .u64 y)= ~~~ BitVec.ofInt 64 y:=by
  show BitVec.ofInt 64 (IntKind.wrap .u64 ((BitVec.ofInt 64 18446744073709551615^^^BitVec.ofInt 64 y).toNat:Int))=_
  have e:(BitVec.ofInt 64 18446744073709551615^^^BitVec.ofInt 64 y)= ~~~ BitVec.ofInt 64 y:=by
   rw [show BitVec.ofInt 64 18446744073709551615=BitVec.allOnes 64 by decide,BitVec.allOnes_xor]
  rw [e,eU _ om (by have:=(~~~ BitVec.ofInt 64 y).isLt;omega)]
  rw [BitVec.ofInt_natCast,BitVec.ofNat_toNat];simp
 rw [h,BitVec.and_comm]
theorem a8C {x s:Int} (hs:0<=s/\s<64):yg x s=some (rot x s):=by
 unfold yg rot
 by_cases h:s=0
 ·rw [bre h,ae h]
 ·rw [kX h,aa h,brd hs.1,eU (64-s) om om,brd om]
end Go.AI.Fn
namespace Go.AI.Fn
theorem c59: ∀k:Nat,k<64->dc .u64 (IntKind.wrap .u64 (k:Int)) 63=(k:Int):=by decide
theorem a8A {x s:Int} (hs:0<=s/\s<64) (hx:s≠0\/OX x):fk x s=some (rot x s):=by
 have e:dc .u64 (IntKind.wrap .u64 s) 63=s:=by
  have:=c59 s.toNat om
  rwa [ez hs.1] at this
 unfold fk rot
 rw [e,brd hs.1,eU (64-s) om om,brd om]
 by_cases h:s=0
 ·subst h
  have hx:OX x:=hx.resolve_left (fun h=>h rfl)
  have e1:bG .u64 x 0=x:=by
   show IntKind.wrap .u64 (x*2^0)=x
   rw [lK,Int.mul_one,eU x hx.1 hx.2]
  have e2:bY .u64 x (64-0)=0:=by
   show x.fdiv (2^64)=0
   rw [lY _ (by decide)]
   exact Int.ediv_eq_zero_of_lt hx.1 hx.2
  rw [e1,e2,b8K hx,ae rfl]
 ·rw [aa h]
abbrev g (l:List Int) (i:Int):Int:=l.getD i.toNat 0
def sW:List Int:=[0,1,62,28,27,36,44,6,55,20,3,10,43,25,39,41,45,15,21,8,18,2,61,56,14]
theorem b4I: ∀k:Nat,k<25->0<=sW.getD k 0/\sW.getD k 0<64:=by decide
def p2 (m:List Int) (k:Nat) (l:List Int):List Int:=l.set ((k:Int)%5).toNat (xo (g l ((k:Int)%5)) (g m k))
def p3 (m c:List Int) (k:Nat) (l:List Int):List Int:=
 l.set ((k:Int)/5+5*((2*((k:Int)%5)+3*((k:Int)/5))%5)).toNat (rot (xo (g m k) (xo (g c (((k:Int)%5+4)%5)) (rot (g c (((k:Int)%5+1)%5)) 1))) (g sW k))
def p4 (b:List Int) (k:Nat) (l:List Int):List Int:=
 l.set k (xo (g b k) (Ra .u64 (g b ((k:Int)-(k:Int)%5+((k:Int)%5+2)%5)) (g b ((k:Int)-(k:Int)%5+((k:Int)%5+1)%5))))
def q2 (m:List Int) (k:Nat) (l:List Int):List Int:=l.set k (xo (xo (xo (xo (g m k) (g m ((k:Int)+5))) (g m ((k:Int)+10))) (g m ((k:Int)+15))) (g m ((k:Int)+20)))
def q3 (c:List Int) (k:Nat) (l:List Int):List Int:=l.set k (xo (g l k) (xo (g c (((k:Int)+4)%5)) (rot (g c (((k:Int)+1)%5)) 1)))
def q5 (m:List Int) (x:Int) (y:Nat) (l:List Int):List Int:=l.set ((y:Int)+5*((2*x+3*(y:Int))%5)).toNat (rot (g m (x+5*(y:Int))) (g sW (x+5*(y:Int))))
def q4 (m:List Int) (x:Nat) (l:List Int):List Int:=iU (q5 m x) 5 l
def q7 (b:List Int) (x:Int) (y:Nat) (l:List Int):List Int:=l.set (x+5*(y:Int)).toNat (xo (g b (x+5*(y:Int))) (dc .u64 (dz .u64 (g b ((x+1)%5+5*(y:Int)))) (g b ((x+2)%5+5*(y:Int)))))
def q6 (b:List Int) (x:Nat) (l:List Int):List Int:=iU (q7 b x) 5 l
theorem b3M (m:List Int) (k:Nat) (l:List Int):(iU (p2 m) k l).length=l.length:=wN (fun _ _=>bg) k l
theorem a0Z (m c:List Int) (k:Nat) (l:List Int):(iU (p3 m c) k l).length=l.length:=wN (fun _ _=>bg) k l
theorem Yi (b:List Int) (k:Nat) (l:List Int):(iU (p4 b) k l).length=l.length:=wN (fun _ _=>bg) k l
theorem a6m (m:List Int) (k:Nat) (l:List Int):(iU (q2 m) k l).length=l.length:=wN (fun _ _=>bg) k l
theorem RO (c:List Int) (k:Nat) (l:List Int):(iU (q3 c) k l).length=l.length:=wN (fun _ _=>bg) k l
theorem b2P (m:List Int) (x:Int) (k:Nat) (l:List Int):(iU (q5 m x) k l).length=l.length:=wN (fun _ _=>bg) k l
theorem b4j (m:List Int) (x:Int) (k:Nat) (l:List Int):(iU (q7 m x) k l).length=l.length:=wN (fun _ _=>bg) k l
theorem a6V (m:List Int) (k:Nat) (l:List Int):(iU (q4 m) k l).length=l.length:=wN (fun x l=>b2P m x 5 l) k l
theorem b45 (m:List Int) (k:Nat) (l:List Int):(iU (q6 m) k l).length=l.length:=wN (fun x l=>b4j m x 5 l) k l
theorem b9m {m5 m6 m7 m9 t4:List Int} {t3 t5:Int} (h:m5.length=25):Loop (gI m5 m6 m7 m9 t3 t4 t5) (nZ 5,0)=some (iU (p2 m5) 25 (nZ 5),25,false):=
 bx (fun k=>(iU (p2 m5) k (nZ 5),(k:Int))) 25 (fun k hk=>by
  have hl:=b3M m5 k (nZ 5)
  rw [pH] at hl
  simp only [gI]
  simp (disch:=omega) only [brd,ep,Gf,i9,ak]
  simp only [iU,p2,aK,lm]
  rfl) (by
  simp (disch:=omega) only [gI,brn];rfl)
theorem b7w {m5 m6 m7 m8:List Int} {t2:Int} (h:m5.length=25):Loop (jq m5 m6 m7 m8 t2) (nZ 5,0)=some (iU (q2 m5) 5 (nZ 5),5,false):=
 bx (fun k=>(iU (q2 m5) k (nZ 5),(k:Int))) 5 (fun k hk=>by
  have hl:=a6m m5 k (nZ 5)
  rw [pH] at hl
  simp only [jq]
  simp (disch:=omega) only [brd,ep,Gf,i9,ak]
  simp only [iU,q2,aK,lm]
  rfl) (by
  simp (disch:=omega) only [jq,brn];rfl)
theorem a5m (k:Nat) (hk:k<25):0<=sW.getD k 0/\sW.getD k 0<64:=b4I k hk
theorem Nm:sW.length=25:=rfl
theorem b6O {m10 m12 c t8:List Int} {t7 t9:Int} (h:m10.length=25) (hc:c.length=5):Loop (gJ m10 sW m12 c t7 t8 t9) (nZ 25,0)=some (iU (p3 m10 c) 25 (nZ 25),25,false):=
 bx (fun k=>(iU (p3 m10 c) k (nZ 25),(k:Int))) 25 (fun k hk=>by
  have hl:=a0Z m10 c k (nZ 25)
  rw [pH] at hl
  have hs:=a5m k hk
  have hs1:=Nm
  simp only [gJ]
  simp (disch:=omega) only [brd,ep,qQ,Gf,i9,ak]
  rw [a8A ⟨by decide,by decide⟩ (.inl (by decide))]
  simp only [obs]
  simp only [aK]
  rw [a8A hs (.inr (c3H _ _))]
  simp only [obs]
  rfl) (by
  simp (disch:=omega) only [gJ,brn];rfl)
theorem b91 {m16 m17 m18 b t12:List Int} {t11 t13:Int} {m:List Int} (h:m.length=25) (hb:b.length=25):Loop (gL m16 m17 m18 b t11 t12 t13 b) (m,0)=some (iU (p4 b) 25 m,25,false):=
 bx (fun k=>(iU (p4 b) k m,(k:Int))) 25 (fun k hk=>by
  have hl:=Yi b k m
  simp only [gL]
  simp (disch:=omega) only [brd,ep,qQ,Gf,i9,ak]
  rfl) (by
  simp (disch:=omega) only [gL,brn];rfl)
theorem b80 {m11 m12 m13 c m:List Int} {t4:Int} (h:m.length=25) (hc:c.length=5):Loop (jz m11 m12 m13 c t4) (m,0)=some (iU (q3 c) 25 m,25,false):=
 bx (fun k=>(iU (q3 c) k m,(k:Int))) 25 (fun k hk=>by
  have hl:=RO c k m
  simp only [jz]
  simp (disch:=omega) only [brd,ep,qQ,Gf,i9,ak]
  rw [a8C ⟨by decide,by decide⟩]
  simp only [obs]
  rfl) (by
  simp (disch:=omega) only [jz,brn];rfl)
theorem b7c {a m22 m23 m25 m:List Int} {t8:Int} {x:Nat} (hx:x<5) (h:m.length=25) (ha:a.length=25):Loop (js a m22 m23 sW m25 t8 x) (m,0)=some (iU (q5 a x) 5 m,5,false):=
 bx (fun k=>(iU (q5 a x) k m,(k:Int))) 5 (fun k hk=>by
  have hl:=b2P a x k m
  have hs:=a5m ((x:Int)+5*(k:Int)).toNat om
  have hs1:=Nm
  simp only [js]
  simp (disch:=omega) only [brd,ep,qQ,Gf,i9,ak]
  rw [a8C hs]
  simp only [obs]
  rfl) (by
  simp (disch:=omega) only [js,brn];rfl)
theorem b9R {a m16 m17 m19 m:List Int} {t6:Int} (h:m.length=25) (ha:a.length=25):Loop (jx a m16 m17 sW m19 t6) (m,0)=some (iU (q4 a) 5 m,5,false):=
 bx (fun k=>(iU (q4 a) k m,(k:Int))) 5 (fun k hk=>by
  have hl:=a6V a k m
  simp only [jx]
  rw [brd om,b7c hk om ha,obs,ak _ om om]
  rfl) (by
  simp (disch:=omega) only [jx,brn];rfl)
theorem b8H {m34 m35 m36 m37 b m:List Int} {t13:Int} {x:Nat} (hx:x<5) (h:m.length=25) (hb:b.length=25):Loop (jv m34 m35 m36 m37 b t13 x) (m,0)=some (iU (q7 b x) 5 m,5,false):=
 bx (fun k=>(iU (q7 b x) k m,(k:Int))) 5 (fun k hk=>by
  have hl:=b4j b x k m
  simp only [jv]
  simp (disch:=omega) only [brd,ep,qQ,Gf,i9,ak]
  rfl) (by
  simp (disch:=omega) only [jv,brn];rfl)
theorem b7f {m28 m29 m30 m31 b m:List Int} {t11:Int} (h:m.length=25) (hb:b.length=25):Loop (jw m28 m29 m30 m31 b t11) (m,0)=some (iU (q6 b) 5 m,5,false):=
 bx (fun k=>(iU (q6 b) k m,(k:Int))) 5 (fun k hk=>by
  have hl:=b45 b k m
  simp only [jw]
  rw [brd om,b8H hk om hb,obs,ak _ om om]
  rfl) (by
  simp (disch:=omega) only [jw,brn];rfl)
def Dt (m:List Int) (rc:Int):List Int:=
 let c:=iU (p2 m) 25 (nZ 5)
 let b:=iU (p3 m c) 25 (nZ 25)
 let r:=iU (p4 b) 25 m
 r.set 0 (xo (r.getD 0 0) rc)
def a6g (m:List Int) (rc:Int):List Int:=
 let c:=iU (q2 m) 5 (nZ 5)
 let a:=iU (q3 c) 25 m
 let b:=iU (q4 a) 5 (nZ 25)
 let r:=iU (q6 b) 5 a
 r.set 0 (xo (r.getD 0 0) rc)
end Go.AI.Fn
namespace Go.AI.Fn
theorem dp {l:List Int} {n:Nat} (h:l.length=n+1): ∃a r,l=a::r/\r.length=n:=by
 cases l with
 |nil=>simp at h
 |cons a r=>exact ⟨a,r,rfl,by simpa using h⟩
theorem b7l {l:List Int} (h:l.length=0):l=[]:=bU h
theorem a4T {l:List Int} (h:l.length=25): ∃a0 a1 a2 a3 a4 a5 a6 a7 a8 a9 a10 a11 a12 a13 a14 a15 a16 a17 a18 a19 a20 a21 a22 a23 a24,l=[a0,a1,a2,a3,a4,a5,a6,a7,a8,a9,a10,a11,a12,a13,a14,a15,a16,a17,a18,a19,a20,a21,a22,a23,a24]:=by
 obtain ⟨a0,r0,rfl,h0⟩:=dp h
 obtain ⟨a1,r1,rfl,h1⟩:=dp h0
 obtain ⟨a2,r2,rfl,h2⟩:=dp h1
 obtain ⟨a3,r3,rfl,h3⟩:=dp h2
 obtain ⟨a4,r4,rfl,h4⟩:=dp h3
 obtain ⟨a5,r5,rfl,h5⟩:=dp h4
 obtain ⟨a6,r6,rfl,h6⟩:=dp h5
 obtain ⟨a7,r7,rfl,h7⟩:=dp h6
 obtain ⟨a8,r8,rfl,h8⟩:=dp h7
 obtain ⟨a9,r9,rfl,h9⟩:=dp h8
 obtain ⟨a10,r10,rfl,h10⟩:=dp h9
 obtain ⟨a11,r11,rfl,h11⟩:=dp h10
 obtain ⟨a12,r12,rfl,h12⟩:=dp h11
 obtain ⟨a13,r13,rfl,h13⟩:=dp h12
 obtain ⟨a14,r14,rfl,h14⟩:=dp h13
 obtain ⟨a15,r15,rfl,h15⟩:=dp h14
 obtain ⟨a16,r16,rfl,h16⟩:=dp h15
 obtain ⟨a17,r17,rfl,h17⟩:=dp h16
 obtain ⟨a18,r18,rfl,h18⟩:=dp h17
 obtain ⟨a19,r19,rfl,h19⟩:=dp h18
 obtain ⟨a20,r20,rfl,h20⟩:=dp h19
 obtain ⟨a21,r21,rfl,h21⟩:=dp h20
 obtain ⟨a22,r22,rfl,h22⟩:=dp h21
 obtain ⟨a23,r23,rfl,h23⟩:=dp h22
 obtain ⟨a24,r24,rfl,h24⟩:=dp h23
 obtain rfl:=b7l h24
 exact ⟨_,_,_,_,_,_,_,_,_,_,_,_,_,_,_,_,_,_,_,_,_,_,_,_,_,rfl⟩
def mJ (m:List Int):Prop:=m.length=25/\ ∀x∈m,OX x
def cs (m:List Int):List Int:=iU (q2 m) 5 (nZ 5)
theorem b8q {m:List Int} (h:mJ m):iU (p2 m) 25 (nZ 5)=cs m:=by
 obtain ⟨hl,hb⟩:=h
 obtain ⟨a0,a1,a2,a3,a4,a5,a6,a7,a8,a9,a10,a11,a12,a13,a14,a15,a16,a17,a18,a19,a20,a21,a22,a23,a24,rfl⟩:=a4T hl
 have e0:=KI (hb a0 (by simp))
 have e1:=KI (hb a1 (by simp))
 have e2:=KI (hb a2 (by simp))
 have e3:=KI (hb a3 (by simp))
 have e4:=KI (hb a4 (by simp))
 have k:iU (p2 [a0,a1,a2,a3,a4,a5,a6,a7,a8,a9,a10,a11,a12,a13,a14,a15,a16,a17,a18,a19,a20,a21,a22,a23,a24]) 25 (nZ 5)=[xo (xo (xo (xo (xo 0 a0) a5) a10) a15) a20,xo (xo (xo (xo (xo 0 a1) a6) a11) a16) a21,xo (xo (xo (xo (xo 0 a2) a7) a12) a17) a22,xo (xo (xo (xo (xo 0 a3) a8) a13) a18) a23,xo (xo (xo (xo (xo 0 a4) a9) a14) a19) a24]:=by kernel_rfl
 have k2:cs [a0,a1,a2,a3,a4,a5,a6,a7,a8,a9,a10,a11,a12,a13,a14,a15,a16,a17,a18,a19,a20,a21,a22,a23,a24]=
  [xo (xo (xo (xo a0 a5) a10) a15) a20,xo (xo (xo (xo a1 a6) a11) a16) a21,xo (xo (xo (xo a2 a7) a12) a17) a22,xo (xo (xo (xo a3 a8) a13) a18) a23,xo (xo (xo (xo a4 a9) a14) a19) a24]:=by kernel_rfl
 rw [k,k2,e0,e1,e2,e3,e4]
theorem b8Z {c:List Int} (a0 a1 a2 a3 a4 a5 a6 a7 a8 a9 a10 a11 a12 a13 a14 a15 a16 a17 a18 a19 a20 a21 a22 a23 a24:Int):iU (p3 [a0,a1,a2,a3,a4,a5,a6,a7,a8,a9,a10,a11,a12,a13,a14,a15,a16,a17,a18,a19,a20,a21,a22,a23,a24] c) 25 (nZ 25)=[rot (xo a0 (xo (g c 4) (rot (g c 1) 1))) 0,rot (xo a6 (xo (g c 0) (rot (g c 2) 1))) 44,rot (xo a12 (xo (g c 1) (rot (g c 3) 1))) 43,rot (xo a18 (xo (g c 2) (rot (g c 4) 1))) 21,rot (xo a24 (xo (g c 3) (rot (g c 0) 1))) 14,rot (xo a3 (xo (g c 2) (rot (g c 4) 1))) 28,rot (xo a9 (xo (g c 3) (rot (g c 0) 1))) 20,rot (xo a10 (xo (g c 4) (rot (g c 1) 1))) 3,rot (xo a16 (xo (g c 0) (rot (g c 2) 1))) 45,rot (xo a22 (xo (g c 1) (rot (g c 3) 1))) 61,rot (xo a1 (xo (g c 0) (rot (g c 2) 1))) 1,rot (xo a7 (xo (g c 1) (rot (g c 3) 1))) 6,rot (xo a13 (xo (g c 2) (rot (g c 4) 1))) 25,rot (xo a19 (xo (g c 3) (rot (g c 0) 1))) 8,rot (xo a20 (xo (g c 4) (rot (g c 1) 1))) 18,rot (xo a4 (xo (g c 3) (rot (g c 0) 1))) 27,rot (xo a5 (xo (g c 4) (rot (g c 1) 1))) 36,rot (xo a11 (xo (g c 0) (rot (g c 2) 1))) 10,rot (xo a17 (xo (g c 1) (rot (g c 3) 1))) 15,rot (xo a23 (xo (g c 2) (rot (g c 4) 1))) 56,rot (xo a2 (xo (g c 1) (rot (g c 3) 1))) 62,rot (xo a8 (xo (g c 2) (rot (g c 4) 1))) 55,rot (xo a14 (xo (g c 3) (rot (g c 0) 1))) 39,rot (xo a15 (xo (g c 4) (rot (g c 1) 1))) 41,rot (xo a21 (xo (g c 0) (rot (g c 2) 1))) 2]:=by kernel_rfl
theorem b8L {c:List Int} (a0 a1 a2 a3 a4 a5 a6 a7 a8 a9 a10 a11 a12 a13 a14 a15 a16 a17 a18 a19 a20 a21 a22 a23 a24:Int):iU (q3 c) 25 [a0,a1,a2,a3,a4,a5,a6,a7,a8,a9,a10,a11,a12,a13,a14,a15,a16,a17,a18,a19,a20,a21,a22,a23,a24]=[xo a0 (xo (g c 4) (rot (g c 1) 1)),xo a1 (xo (g c 0) (rot (g c 2) 1)),xo a2 (xo (g c 1) (rot (g c 3) 1)),xo a3 (xo (g c 2) (rot (g c 4) 1)),xo a4 (xo (g c 3) (rot (g c 0) 1)),xo a5 (xo (g c 4) (rot (g c 1) 1)),xo a6 (xo (g c 0) (rot (g c 2) 1)),xo a7 (xo (g c 1) (rot (g c 3) 1)),xo a8 (xo (g c 2) (rot (g c 4) 1)),xo a9 (xo (g c 3) (rot (g c 0) 1)),xo a10 (xo (g c 4) (rot (g c 1) 1)),xo a11 (xo (g c 0) (rot (g c 2) 1)),xo a12 (xo (g c 1) (rot (g c 3) 1)),xo a13 (xo (g c 2) (rot (g c 4) 1)),xo a14 (xo (g c 3) (rot (g c 0) 1)),xo a15 (xo (g c 4) (rot (g c 1) 1)),xo a16 (xo (g c 0) (rot (g c 2) 1)),xo a17 (xo (g c 1) (rot (g c 3) 1)),xo a18 (xo (g c 2) (rot (g c 4) 1)),xo a19 (xo (g c 3) (rot (g c 0) 1)),xo a20 (xo (g c 4) (rot (g c 1) 1)),xo a21 (xo (g c 0) (rot (g c 2) 1)),xo a22 (xo (g c 1) (rot (g c 3) 1)),xo a23 (xo (g c 2) (rot (g c 4) 1)),xo a24 (xo (g c 3) (rot (g c 0) 1))]:=by kernel_rfl
theorem b8u (a0 a1 a2 a3 a4 a5 a6 a7 a8 a9 a10 a11 a12 a13 a14 a15 a16 a17 a18 a19 a20 a21 a22 a23 a24:Int):iU (q4 [a0,a1,a2,a3,a4,a5,a6,a7,a8,a9,a10,a11,a12,a13,a14,a15,a16,a17,a18,a19,a20,a21,a22,a23,a24]) 5 (nZ 25)=[rot a0 0,rot a6 44,rot a12 43,rot a18 21,rot a24 14,rot a3 28,rot a9 20,rot a10 3,rot a16 45,rot a22 61,rot a1 1,rot a7 6,rot a13 25,rot a19 8,rot a20 18,rot a4 27,rot a5 36,rot a11 10,rot a17 15,rot a23 56,rot a2 62,rot a8 55,rot a14 39,rot a15 41,rot a21 2]:=by kernel_rfl
theorem b4q {m c:List Int} (hm:m.length=25):iU (p3 m c) 25 (nZ 25)=iU (q4 (iU (q3 c) 25 m)) 5 (nZ 25):=by
 obtain ⟨a0,a1,a2,a3,a4,a5,a6,a7,a8,a9,a10,a11,a12,a13,a14,a15,a16,a17,a18,a19,a20,a21,a22,a23,a24,rfl⟩:=a4T hm
 rw [b8Z,b8L,b8u]
def p4' (b:List Int) (k:Nat) (l:List Int):List Int:=l.set k (xo (g b k) (dc .u64 (dz .u64 (g b ((k:Int)-(k:Int)%5+((k:Int)%5+1)%5))) (g b ((k:Int)-(k:Int)%5+((k:Int)%5+2)%5))))
theorem c4I (b:List Int):p4 b=p4' b:=by funext k l;unfold p4 p4';rw [b8p]
theorem b70 (a0 a1 a2 a3 a4 a5 a6 a7 a8 a9 a10 a11 a12 a13 a14 a15 a16 a17 a18 a19 a20 a21 a22 a23 a24 b0 b1 b2 b3 b4 b5 b6 b7 b8 b9 b10 b11 b12 b13 b14 b15 b16 b17 b18 b19 b20 b21 b22 b23 b24:Int):iU (p4' [a0,a1,a2,a3,a4,a5,a6,a7,a8,a9,a10,a11,a12,a13,a14,a15,a16,a17,a18,a19,a20,a21,a22,a23,a24]) 25 [b0,b1,b2,b3,b4,b5,b6,b7,b8,b9,b10,b11,b12,b13,b14,b15,b16,b17,b18,b19,b20,b21,b22,b23,b24]=[xo a0 (dc .u64 (dz .u64 a1) a2),xo a1 (dc .u64 (dz .u64 a2) a3),xo a2 (dc .u64 (dz .u64 a3) a4),xo a3 (dc .u64 (dz .u64 a4) a0),xo a4 (dc .u64 (dz .u64 a0) a1),xo a5 (dc .u64 (dz .u64 a6) a7),xo a6 (dc .u64 (dz .u64 a7) a8),xo a7 (dc .u64 (dz .u64 a8) a9),xo a8 (dc .u64 (dz .u64 a9) a5),xo a9 (dc .u64 (dz .u64 a5) a6),xo a10 (dc .u64 (dz .u64 a11) a12),xo a11 (dc .u64 (dz .u64 a12) a13),xo a12 (dc .u64 (dz .u64 a13) a14),xo a13 (dc .u64 (dz .u64 a14) a10),xo a14 (dc .u64 (dz .u64 a10) a11),xo a15 (dc .u64 (dz .u64 a16) a17),xo a16 (dc .u64 (dz .u64 a17) a18),xo a17 (dc .u64 (dz .u64 a18) a19),xo a18 (dc .u64 (dz .u64 a19) a15),xo a19 (dc .u64 (dz .u64 a15) a16),xo a20 (dc .u64 (dz .u64 a21) a22),xo a21 (dc .u64 (dz .u64 a22) a23),xo a22 (dc .u64 (dz .u64 a23) a24),xo a23 (dc .u64 (dz .u64 a24) a20),xo a24 (dc .u64 (dz .u64 a20) a21)]:=by kernel_rfl
theorem b7E (a0 a1 a2 a3 a4 a5 a6 a7 a8 a9 a10 a11 a12 a13 a14 a15 a16 a17 a18 a19 a20 a21 a22 a23 a24 b0 b1 b2 b3 b4 b5 b6 b7 b8 b9 b10 b11 b12 b13 b14 b15 b16 b17 b18 b19 b20 b21 b22 b23 b24:Int):iU (q6 [a0,a1,a2,a3,a4,a5,a6,a7,a8,a9,a10,a11,a12,a13,a14,a15,a16,a17,a18,a19,a20,a21,a22,a23,a24]) 5 [b0,b1,b2,b3,b4,b5,b6,b7,b8,b9,b10,b11,b12,b13,b14,b15,b16,b17,b18,b19,b20,b21,b22,b23,b24]=[xo a0 (dc .u64 (dz .u64 a1) a2),xo a1 (dc .u64 (dz .u64 a2) a3),xo a2 (dc .u64 (dz .u64 a3) a4),xo a3 (dc .u64 (dz .u64 a4) a0),xo a4 (dc .u64 (dz .u64 a0) a1),xo a5 (dc .u64 (dz .u64 a6) a7),xo a6 (dc .u64 (dz .u64 a7) a8),xo a7 (dc .u64 (dz .u64 a8) a9),xo a8 (dc .u64 (dz .u64 a9) a5),xo a9 (dc .u64 (dz .u64 a5) a6),xo a10 (dc .u64 (dz .u64 a11) a12),xo a11 (dc .u64 (dz .u64 a12) a13),xo a12 (dc .u64 (dz .u64 a13) a14),xo a13 (dc .u64 (dz .u64 a14) a10),xo a14 (dc .u64 (dz .u64 a10) a11),xo a15 (dc .u64 (dz .u64 a16) a17),xo a16 (dc .u64 (dz .u64 a17) a18),xo a17 (dc .u64 (dz .u64 a18) a19),xo a18 (dc .u64 (dz .u64 a19) a15),xo a19 (dc .u64 (dz .u64 a15) a16),xo a20 (dc .u64 (dz .u64 a21) a22),xo a21 (dc .u64 (dz .u64 a22) a23),xo a22 (dc .u64 (dz .u64 a23) a24),xo a23 (dc .u64 (dz .u64 a24) a20),xo a24 (dc .u64 (dz .u64 a20) a21)]:=by kernel_rfl
theorem b97 {b m a:List Int} (hb:b.length=25) (hm:m.length=25) (ha:a.length=25):iU (p4 b) 25 m=iU (q6 b) 5 a:=by
 rw [c4I]
 obtain ⟨a0,a1,a2,a3,a4,a5,a6,a7,a8,a9,a10,a11,a12,a13,a14,a15,a16,a17,a18,a19,a20,a21,a22,a23,a24,rfl⟩:=a4T hb
 obtain ⟨b0,b1,b2,b3,b4,b5,b6,b7,b8,b9,b10,b11,b12,b13,b14,b15,b16,b17,b18,b19,b20,b21,b22,b23,b24,rfl⟩:=a4T hm
 obtain ⟨c0,c1,c2,c3,c4,c5,c6,c7,c8,c9,c10,c11,c12,c13,c14,c15,c16,c17,c18,c19,c20,c21,c22,c23,c24,rfl⟩:=a4T ha
 rw [b70,b7E]
theorem b4H {m:List Int} {rc:Int} (h:mJ m):Dt m rc=a6g m rc:=by
 unfold Dt a6g
 dsimp only
 have h1:=b8q h
 unfold cs at h1
 rw [h1]
 have hc:(iU (q2 m) 5 (nZ 5)).length=5:=by rw [a6m,pH]
 have ha:(iU (q3 (iU (q2 m) 5 (nZ 5))) 25 m).length=25:=by rw [RO];exact h.1
 rw [b4q h.1]
 rw [b97 (a:=iU (q3 (iU (q2 m) 5 (nZ 5))) 25 m) (by rw [a6V,pH]) h.1 ha]
theorem b6g {m:List Int} {rc:Int} (h:mJ m):mJ (Dt m rc):=by
 have hl:(Dt m rc).length=25:=by
  unfold Dt;dsimp only;rw [bg,Yi];exact h.1
 refine ⟨hl, ?_⟩
 unfold Dt
 dsimp only
 have hb:(iU (p3 m (iU (p2 m) 25 (nZ 5))) 25 (nZ 25)).length=25:=by rw [a0Z,pH]
 generalize iU (p3 m (iU (p2 m) 25 (nZ 5))) 25 (nZ 25)=b at hb
 have key: ∀k,k<=25-> ∀i,i<k-> ∀hi:i<(iU (p4 b) k m).length,OX (iU (p4 b) k m)[i]:=by
  intro k
  induction k with
  |zero=>intro _ i hi;omega
  |succ k ih=>
   intro hk i hi hlen
   simp only [iU,p4]
   rw [List.getElem_set]
   split
   ·exact c3H _ _
   ·exact ih om i om (by simpa [iU,p4] using hlen)
 intro x hx
 rcases dQ hx with h1|h1
 ·obtain ⟨i,hi,rfl⟩:=bq h1
  exact key 25 om i (by rw [Yi] at hi;have:=h.1;omega) hi
 ·rw [h1];exact c3H _ _
end Go.AI.Fn
set_option maxRecDepth 10000
namespace Go.AI.Fn
def rcL:List Int:=[1,32898,9223372036854808714,9223372039002292224,32907,2147483649,9223372039002292353,9223372036854808585,138,136,2147516425,2147483658,2147516555,9223372036854775947,9223372036854808713,9223372036854808579,9223372036854808578,9223372036854775936,32778,9223372039002259466,9223372039002292353,9223372036854808704,2147483649,9223372039002292232]
theorem c3M:[1,32898,9223372036854808714,9223372039002292224,32907,2147483649,9223372039002292353,9223372036854808585,138,136,2147516425,2147483658,2147516555,9223372036854775947,9223372036854808713,9223372036854808579,9223372036854808578,9223372036854775936,32778,9223372039002259466,9223372039002292353,9223372036854808704,2147483649,9223372039002292232]=rcL:=rfl
theorem a92:[0,1,62,28,27,36,44,6,55,20,3,10,43,25,39,41,45,15,21,8,18,2,61,56,14]=sW:=rfl
theorem a0D:rcL.length=24:=rfl
def rdP (k:Nat) (m:List Int):List Int:=Dt m (rcL.getD k 0)
def SP (m:List Int):List Int:=iU rdP 24 m
theorem a0P (k:Nat) (m:List Int):iU rdP (k+1) m=Dt (iU rdP k m) (rcL.getD k 0):=by rw [iU,rdP]
theorem a8H {m:List Int} (h:mJ m): ∀k,mJ (iU rdP k m)
 |0=>h
 |k+1=>by rw [a0P];exact b6g (a8H h k)
theorem a1v {m:List Int} (h:mJ m):mJ (SP m):=a8H h 24
theorem ZU {m:List Int} (h:mJ m):mQ m=some (SP m):=by
 unfold mQ
 have key:Loop (gM sW rcL rcL) (m,0)=some (SP m,24,false):=
  bx (fun k=>(iU rdP k m,(k:Int))) 24 (fun k hk=>by
   have h1:=a8H h k
   have hl1:=h1.1
   have hr:=a0D
   simp only [gM]
   simp (disch:=omega) only [brd,Gf,i9,ak]
   rw [b9m h1.1,obs,b6O h1.1 (by rw [b3M,pH]),obs,brd (by rw [a0Z,pH]),b91 h1.1 (by rw [a0Z,pH]),obs]
   have hl:=Yi (iU (p3 (iU rdP k m) (iU (p2 (iU rdP k m)) 25 (nZ 5))) 25 (nZ 25)) 25 (iU rdP k m)
   simp (disch:=omega) only [i9,brd]
   rw [a0P]
   unfold Dt
   simp only [lm,aK]) (by simp (disch:=omega) only [gM,brn];rfl)
 rw [c3M,a92,key,obs]
theorem a0X {m:List Int} (h:mJ m):sT m=some (SP m):=by
 unfold sT
 have key:Loop (jt (nZ 25) rcL sW) (m,0)=some (SP m,24,false):=
  bx (fun k=>(iU rdP k m,(k:Int))) 24 (fun k hk=>by
   have h1:=a8H h k
   have hl1:=h1.1
   have hr:=a0D
   simp only [jt]
   rw [brd om,b7w h1.1,obs,b80 h1.1 (by rw [a6m,pH]),obs,b9R (pH 25) (by rw [RO];exact h1.1),obs,
    b7f (by rw [RO];exact h1.1) (by rw [a6V,pH]),obs]
   have hl:=b45 (iU (q4 (iU (q3 (iU (q2 (iU rdP k m)) 5 (nZ 5))) 25 (iU rdP k m))) 5 (nZ 25)) 5 (iU (q3 (iU (q2 (iU rdP k m)) 5 (nZ 5))) 25 (iU rdP k m))
   rw [RO] at hl
   simp (disch:=omega) only [i9,brd,Gf,ak]
   rw [a0P,b4H h1]
   unfold a6g
   simp only [lm,aK]) (by simp (disch:=omega) only [jt,brn];rfl)
 have hp:=(a1v h).1
 rw [brd h.1]
 show (some rcL).bind _=_
 rw [obs,brd a0D]
 show (some sW).bind _=_
 rw [obs,brd Nm,key,obs,brd hp,brd hp,brd hp]
theorem Ys {l:List UInt8} {k:Nat} (h:k<l.length):atL l (k:Int)=some (l.getD k 0):=by simp [atL,h]
def lnS (t:List UInt8) (k:Nat) (l:List Int):List Int:=l.set ((k:Int)/8).toNat (B7 .u64 (g l ((k:Int)/8)) (bG .u64 (IntKind.wrap .u64 ((t.getD k 0).toNat:Int)) (8*((k:Int)%8))))
def Bf (t:List UInt8):List Int:=iU (lnS t) t.length (nZ 25)
theorem Z7 (t:List UInt8) (k:Nat) (l:List Int):(iU (lnS t) k l).length=l.length:=wN (fun _ _=>bg) k l
theorem FJ (t:List UInt8):mJ (Bf t):=by
 refine ⟨by rw [Bf,Z7,pH], ?_⟩
 have key: ∀k, ∀x∈iU (lnS t) k (nZ 25),OX x:=by
  intro k
  induction k with
  |zero=>intro x hx;simp only [iU,nZ,gy] at hx;rw [hx.2];exact ⟨by decide,by decide⟩
  |succ k ih=>
   intro x hx
   rcases dQ hx with h1|h1
   ·exact ih x h1
   ·rw [h1];exact a05 _
 exact key _
theorem ZE {t:List UInt8} (h:t.length<=200):Cg t=some (Bf t):=by
 unfold Cg
 have key:Loop (ni (nZ 25) t ((t.length:Nat):Int)) (nZ 25,0)=some (Bf t,(t.length:Int),false):=
  bx (fun k=>(iU (lnS t) k (nZ 25),(k:Int))) t.length (fun k hk=>by
   have hl:=Z7 t k (nZ 25)
   rw [pH] at hl
   simp only [ni]
   simp (disch:=omega) only [brd,ep,qQ,Gf,i9,ak,Ys,obs]
   rfl) (by simp (disch:=omega) only [ni,brn];simp;rfl)
 have hl:=(FJ t).1
 rw [key,obs,brd hl,brd hl,brd hl]
theorem a5L {t:List UInt8} (h:t.length<=200):yR t=some (Bf t):=by
 unfold yR
 have key:Loop (ll (nZ 25) t) (nZ 25,0)=some (Bf t,(t.length:Int),false):=
  bx (fun k=>(iU (lnS t) k (nZ 25),(k:Int))) t.length (fun k hk=>by
   have hl:=Z7 t k (nZ 25)
   rw [pH] at hl
   simp only [ll]
   simp (disch:=omega) only [brd,ep,qQ,Gf,i9,ak,eU,Ys,obs]
   rfl) (by simp (disch:=omega) only [ll,brn];simp;rfl)
 have hl:=(FJ t).1
 rw [key,obs,brd hl,brd hl,brd hl]
def txB (m:List Int) (i:Nat):UInt8:=UInt8.ofInt (bY .u64 (g m ((i:Int)/8)) (8*((i:Int)%8)))
def yQ (m:List Int) (n:Nat):List UInt8:=(List.range n).map (txB m)
theorem Hy (m:List Int) (n:Nat):(yQ m n).length=n:=by simp [yQ]
theorem Uv (m:List Int) (n:Nat):yQ m (n+1)=yQ m n++[txB m n]:=by simp [yQ,gN]
theorem b1o {m:List Int} (h:m.length=25):sN m=some (yQ m 200,m):=by
 unfold sN
 have key:Loop (jy m) ([],0)=some (yQ m 200,200,false):=
  bx (fun k=>(yQ m k,(k:Int))) 200 (fun k hk=>by
   have hl:=Hy m k
   simp only [jy]
   simp (disch:=omega) only [brd,ep,qQ,Gf,i9,ak]
   rw [bw (by simp only [ab,ah,ai];omega),Uv]
   rfl) (by simp (disch:=omega) only [jy,brn];rfl)
 rw [key];rfl
theorem b0u {m:List Int} (h:m.length=25) {n:Nat} (hn:n<=200):Cf m n=some (yQ m n):=by
 unfold Cf
 have key:Loop (nh m n) ([],0)=some (yQ m n,(n:Int),false):=
  bx (fun k=>(yQ m k,(k:Int))) n (fun k hk=>by
   have hl:=Hy m k
   simp only [nh]
   simp (disch:=omega) only [brd,ep,qQ,Gf,i9,ak,eU]
   rw [bw (by simp only [ab,ah,ai];omega),Uv]
   rfl) (by simp (disch:=omega) only [nh,brn];simp)
 rw [brd h,key];rfl
end Go.AI.Fn
namespace Go.AI.Fn
def xoS (t:List Int) (k:Nat) (l:List Int):List Int:=l.set k (xo (g l k) (g t k))
def b0M (t m:List Int):List Int:=iU (xoS t) 25 m
theorem a0j (t:List Int) (k:Nat) (l:List Int):(iU (xoS t) k l).length=l.length:=wN (fun _ _=>bg) k l
theorem a5U {t m:List Int} (h:mJ m):mJ (b0M t m):=by
 refine ⟨by rw [b0M,a0j];exact h.1, ?_⟩
 have key: ∀k, ∀x∈iU (xoS t) k m,OX x:=by
  intro k
  induction k with
  |zero=>exact h.2
  |succ k ih=>
   intro x hx
   rcases dQ hx with h1|h1
   ·exact ih x h1
   ·rw [h1];exact a05 _
 exact key _
theorem b2p {l5 a:List UInt8} {t m:List Int} (ht:t.length=25) (h:m.length=25):Loop (oU l5 a t) (m,0)=some (b0M t m,25,false):=
 bx (fun k=>(iU (xoS t) k m,(k:Int))) 25 (fun k hk=>by
  have hl:=a0j t k m
  simp only [oU]
  simp (disch:=omega) only [brd,Gf,i9,ak]
  rfl) (by simp (disch:=omega) only [oU,brn];rfl)
theorem b3Y {l5 a:List UInt8} {p:Int} {t m:List Int} (ht:t.length=25) (h:m.length=25):Loop (np l5 t a p) (m,0)=some (b0M t m,25,false):=
 bx (fun k=>(iU (xoS t) k m,(k:Int))) 25 (fun k hk=>by
  have hl:=a0j t k m
  simp only [np]
  simp (disch:=omega) only [brd,Gf,i9,ak]
  rfl) (by simp (disch:=omega) only [np,brn];rfl)
def c4R (a:List UInt8) (k:Nat) (m:List Int):List Int:=SP (b0M (Bf ((a.drop (136*k)).take 136)) m)
def XU (a:List UInt8) (n:Nat):List Int:=iU (c4R a) n (nZ 25)
theorem c42:mJ (nZ 25):=⟨pH 25,fun x hx=>by simp only [nZ,gy] at hx;rw [hx.2];exact ⟨by decide,by decide⟩⟩
theorem U4 (a:List UInt8) (n:Nat):XU a (n+1)=SP (b0M (Bf ((a.drop (136*n)).take 136)) (XU a n)):=by
 unfold XU;rw [iU,c4R]
theorem Rk (a:List UInt8): ∀n,mJ (XU a n)
 |0=>c42
 |n+1=>by rw [U4];exact a1v (a5U (Rk a n))
theorem b66 {l4 a:List UInt8} {n:Nat} (h:a.length=136*n) (hn:n<=1000000000):Loop (oN l4) (nZ 25,a)=some (XU a n,[],false):=
 bx (fun k=>(XU a k,a.drop (136*k))) n (fun k hk=>by
  have h1:=Rk a k
  have hx:=a5U (t:=Bf ((a.drop (136*k)).take 136)) h1
  simp only [oN]
  rw [brd (by rw [eQ];omega),mK om om (by rw [eQ];omega),obs,mK om (by rw [eQ];omega) om]
  have e1:(List.drop (Int.toNat 0) (List.drop (136*k) a)).take (Int.toNat 136-Int.toNat 0)=(a.drop (136*k)).take 136:=rfl
  have e2:(List.drop (Int.toNat 136) (List.drop (136*k) a)).take ((((List.drop (136*k) a).length:Nat):Int).toNat-Int.toNat 136)=a.drop (136*(k+1)):=by
   rw [List.drop_drop,cq (by rw [eQ,eQ];simp;omega)]
   congr 1
  rw [e1,e2,ZE (by rw [bi];omega),obs,b2p (FJ _).1 h1.1,obs,ZU hx,obs,obs,U4]) (by
  simp only [oN]
  rw [brn (by rw [eQ];omega),gB om]
  rfl)
theorem b4y {l3 a:List UInt8} {n:Nat} (h:a.length=136*n) (hn:n<=1000000000): ∃p,Loop (nr l3 a) (nZ 25,0)=some (XU a n,p):=
 ⟨_,bx (fun k=>(XU a k,((136*k:Nat):Int))) n (fun k hk=>by
   have h1:=Rk a k
   have hx:=a5U (t:=Bf ((a.drop (136*k)).take 136)) h1
   simp only [nr]
   rw [brd om,ak _ om om,mK om om om,obs]
   have e1:(List.drop (((136*k:Nat):Int)).toNat a).take (((((136*k:Nat):Int))+136).toNat-(((136*k:Nat):Int)).toNat)=(a.drop (136*k)).take 136:=by
    congr 1
    omega
   rw [e1,a5L (by rw [bi];omega),obs,brd (FJ _).1,b3Y (FJ _).1 h1.1,obs,brd hx.1,a0X hx,obs,Gf (a1v hx).1 hx.1,U4]
   have e2:(((136*k:Nat):Int))+136=((136*(k+1):Nat):Int):=by omega
   rw [e2]) (by
   simp only [nr]
   rw [brn om])⟩
def Lu (l:List UInt8):List UInt8:=l++List.replicate ((136-l.length%136)%136) 0
theorem Sq (l:List UInt8):(Lu l).length=136*((l.length+135)/136):=by
 rw [Lu,ab,aQ];omega
theorem a2E {α:Type} (n:Nat) (x:α):List.replicate (n+1) x=List.replicate n x++[x]:=by
 rw [List.replicate_succ']
theorem b4C {c l:List UInt8} (h:l.length<=1000000000):Loop (mI c) l=some (Lu l,false):=by
 have key:=bx (step:=mI c) (e:=(Lu l,false)) (fun k=>l++List.replicate k 0) ((136-l.length%136)%136) (fun k hk=>by
  simp only [mI]
  rw [ep _ _ om,brb (by rw [ab,aQ];omega),bw (by simp only [ab,aQ,ah,ai];omega),a2E,ba]) (by
  simp only [mI]
  have e:((((l++List.replicate ((136-l.length%136)%136) (0:UInt8)).length:Nat):Int).tmod 136)=0:=by
   rw [ep _ _ om,ab,aQ];omega
  rw [e,fq rfl];rfl)
 rwa [lk,bW] at key
theorem b4F {c l:List UInt8} (h:l.length<=1000000000):Loop (kO c) l=some (Lu l,false):=by
 have key:=bx (step:=kO c) (e:=(Lu l,false)) (fun k=>l++List.replicate k 0) ((136-l.length%136)%136) (fun k hk=>by
  simp only [kO]
  rw [ep _ _ om,brb (by rw [ab,aQ];omega),bw (by simp only [ab,aQ,ah,ai];omega),a2E,ba]) (by
  simp only [kO]
  have e:((((l++List.replicate ((136-l.length%136)%136) (0:UInt8)).length:Nat):Int).tmod 136)=0:=by
   rw [ep _ _ om,ab,aQ];omega
  rw [e,fq rfl];rfl)
 rwa [lk,bW] at key
def QJ (b:List UInt8):List UInt8:=(Lu (b++[1])).set ((Lu (b++[1])).length-1) (UInt8.ofInt (B7 .u8 (((Lu (b++[1])).getD ((Lu (b++[1])).length-1) 0).toNat:Int) 128))
def H (b:List UInt8):List UInt8:=yQ (XU (QJ b) ((b.length+136)/136)) 32
theorem EE (b:List UInt8):(H b).length=32:=Hy _ _
theorem a5a (b:List UInt8):(QJ b).length=136*((b.length+136)/136):=by
 rw [QJ,bg,Sq,ab,am]
theorem b3A {β:Type} {l:List UInt8} {i:Nat} {f:UInt8->Option β} (h:i<l.length):(l[i]?).bind f=f (l.getD i 0):=by simp [h]
theorem a6M (m:List Int):(yQ m 200).take 32=yQ m 32:=by
 rw [yQ, <-List.map_take,List.take_range];rfl
theorem tG {b:List UInt8} (h:b.length<=100000000):lx b=some (H b):=by
 unfold lx
 have hl:=Sq (b++[1])
 rw [ab,am] at hl
 have hpl:=a5a b
 rw [bw om,bw (by rw [ab,am];omega),b4F (by rw [ab,am];omega),obs]
 dsimp only
 rw [ak _ om om]
 have ei:(((Lu (b++[1])).length:Int)-1).toNat=(Lu (b++[1])).length-1:=by omega
 rw [ei]
 simp (disch:=omega) only [brd,b3A]
 obtain ⟨p,hp⟩:=b4y (l3:=[1]) hpl om
 unfold QJ at hp
 rw [hp,obs]
 dsimp only
 have ok:=Rk (QJ b) ((b.length+136)/136)
 unfold QJ at ok
 rw [brd ok.1]
 have ht:=b0u (n:=32) ok.1 om
 rw [show ((32:Nat):Int)=32 from rfl] at ht
 rw [ht,obs,H,QJ]
theorem a27 {l:List (List UInt8)} (h:l.flatten.length<=1000000000) (hn:l.length<=1000000):Loop (oK l ((l.length:Nat):Int)) ([],0)=some (l.flatten,(l.length:Int),false):=
 bx (fun k=>((l.take k).flatten,(k:Int))) l.length (fun k hk=>by
  simp only [oK]
  have h1:((l.take k).flatten++l[k]).length<=l.flatten.length:=by
   have e:l.flatten=(l.take (k+1)).flatten++(l.drop (k+1)).flatten:=by rw [<-rW,pq]
   rw [db hk,rW,List.flatten_singleton] at e
   have e2:=congrArg List.length e
   simp only [ab] at e2 ⊢
   omega
  rw [brd om,cj hk,obs,bw om,ak _ om om,db hk,rW,List.flatten_singleton]
  rfl) (by
  simp only [oK]
  rw [brn om,bm];simp)
theorem vx {l:List (List UInt8)} (h:l.flatten.length<=100000000) (hn:l.length<=1000000):sX l=some (H l.flatten):=by
 unfold sX
 rw [a27 om hn,obs]
 dsimp only
 generalize l.flatten=b at h
 have hl:=Sq (b++[1])
 rw [ab,am] at hl
 have hpl:=a5a b
 rw [bw (by rw [ab,am];omega),b4C (by rw [ab,am];omega),obs]
 dsimp only
 rw [ak _ om om]
 have ei:(((Lu (b++[1])).length:Int)-1).toNat=(Lu (b++[1])).length-1:=by omega
 rw [ei]
 simp (disch:=omega) only [brd,b3A]
 have hp:=b66 (l4:=[1]) hpl om
 unfold QJ at hp
 rw [hp,obs]
 dsimp only
 have ok:=Rk (QJ b) ((b.length+136)/136)
 unfold QJ at ok
 rw [b1o ok.1,obs,mK om om (by rw [Hy];omega),obs,H,QJ, <-a6M]
 rfl
theorem OQ {t:List UInt8} (h:t.length<=100000000):BW t=some (H t):=by
 unfold BW
 rw [bw om,vx (by simpa using h) (by simp)]
 simp
end Go.AI.Fn
namespace Go.AI.Fn
def iv (n:Int):List UInt8:=[UInt8.ofInt (bY .i64 n 24),UInt8.ofInt (bY .i64 n 16),UInt8.ofInt (bY .i64 n 8),UInt8.ofInt n]
def e8 (x:Ext):List UInt8:=iv x.A++iv x.B
theorem dG (n:Int):(iv n).length=4:=rfl
theorem c1h (x:Ext):(e8 x).length=8:=rfl
theorem rp {n:Int} {l:List UInt8} (h:l.length<=1099511627770):lf n l=some (l++iv n):=by
 unfold lf
 rw [Ga (PY (by simp only [ab,ah,ai];omega))];rfl
theorem c5x (n:Int):bY .i64 n 0=n:=by simp [bY]
theorem zQ (n:Int):g9 n 4=some (iv n):=by
 unfold g9
 rw [show IntKind.wrap .i64 (4-1)=3 by decide,
  cf (s':=([UInt8.ofInt (bY .i64 n 24)],2)) (by kernel_rfl),
  cf (s':=([UInt8.ofInt (bY .i64 n 24),UInt8.ofInt (bY .i64 n 16)],1)) (by kernel_rfl),
  cf (s':=([UInt8.ofInt (bY .i64 n 24),UInt8.ofInt (bY .i64 n 16),UInt8.ofInt (bY .i64 n 8)],0)) (by kernel_rfl),
  cf (s':=([UInt8.ofInt (bY .i64 n 24),UInt8.ofInt (bY .i64 n 16),UInt8.ofInt (bY .i64 n 8),UInt8.ofInt (bY .i64 n 0)], -1)) (by kernel_rfl),
  bZ (e:=([UInt8.ofInt (bY .i64 n 24),UInt8.ofInt (bY .i64 n 16),UInt8.ofInt (bY .i64 n 8),UInt8.ofInt (bY .i64 n 0)], -1,false)) (by kernel_rfl),c5x]
 rfl
theorem Jy {l:List Ext} (hl:l.length<=4194304):tH l=some (l.flatMap e8):=by
 unfold tH
 have key:=q9 (step:=lO l ((l.length:Nat):Int))
  (fun s=>0<=s.2/\s.2<=l.length/\(s.1.length:Int)=8*s.2/\s.1++(l.drop s.2.toNat).flatMap e8=l.flatMap e8) (fun s=>(l.length-s.2).toNat)
  (fun e=>e.1=l.flatMap e8) ?_ ([],0) ⟨by first|omega| (dsimp only;omega),by first|omega| (dsimp only;omega),by simp,rfl⟩
 ·obtain ⟨e,he,h⟩:=key
  rw [he];simp only [obs,h]
 ·rintro ⟨o,t⟩ ⟨h0,h1,h3,h2⟩
  dsimp only at h0 h1 h2 h3
  by_cases c:t<(l.length:Int)
  ·left
   obtain ⟨x,r,e1,e2,e3⟩:=p9 (l:=l) (i:=t.toNat) om
   simp only [lO]
   rw [brd c,a2c h0 e1]
   simp only [obs]
   rw [rp om]
   simp only [obs]
   rw [rp (by simp only [ab,dG];omega),ak (t+1) om om]
   refine ⟨_,rfl,⟨by first|omega| (dsimp only;omega),by first|omega| (dsimp only;omega), ?_, ?_⟩,by first|omega| (dsimp only;omega)⟩
   ·simp only [ab,dG];omega
   ·dsimp only
    rw [show (t+1).toNat=t.toNat+1 by omega,e2]
    rw [e1,cD] at h2
    simpa [e8] using h2
  ·right
   simp only [lO]
   rw [brn c]
   refine ⟨_,rfl, ?_⟩
   rw [gB om] at h2
   simpa using h2
theorem Ta {l:List Ext} (hl:l.length<=4194304):u5 l=some (l.flatMap e8):=by
 unfold u5
 have key:=q9 (step:=li l)
  (fun s=>0<=s.2/\s.2<=l.length/\(s.1.length:Int)=8*s.2/\s.1++(l.drop s.2.toNat).flatMap e8=l.flatMap e8) (fun s=>(l.length-s.2).toNat)
  (fun e=>e.1=l.flatMap e8) ?_ ([],0) ⟨by first|omega| (dsimp only;omega),by first|omega| (dsimp only;omega),by simp,rfl⟩
 ·obtain ⟨e,he,h⟩:=key
  rw [he];simp only [obs,h]
 ·rintro ⟨o,t⟩ ⟨h0,h1,h3,h2⟩
  dsimp only at h0 h1 h2 h3
  by_cases c:t<(l.length:Int)
  ·left
   obtain ⟨x,r,e1,e2,e3⟩:=p9 (l:=l) (i:=t.toNat) om
   simp only [li]
   rw [brd c,a2c h0 e1]
   simp only [obs,zQ]
   rw [Ga (PY (by simp only [ab,dG];omega)),Ga (PY (by simp only [ab,dG];omega)),ak (t+1) om om]
   refine ⟨_,rfl,⟨by first|omega| (dsimp only;omega),by first|omega| (dsimp only;omega), ?_, ?_⟩,by first|omega| (dsimp only;omega)⟩
   ·simp only [ab,dG];omega
   ·dsimp only
    rw [show (t+1).toNat=t.toNat+1 by omega,e2]
    rw [e1,cD] at h2
    simpa [e8] using h2
  ·right
   simp only [li]
   rw [brn c]
   refine ⟨_,rfl, ?_⟩
   rw [gB om] at h2
   simpa using h2
end Go.AI.Fn
namespace Go.AI.Fn
def be (w x y z:UInt8):Int:=(((w.toNat:Int)*256+x.toNat)*256+y.toNat)*256+z.toNat
theorem c65 {l:List UInt8} (h:8<=l.length): ∃a b c d e f g k r,l=a::b::c::d::e::f::g::k::r:=by
 match l,h with
 |a::b::c::d::e::f::g::k::r,_=>exact ⟨a,b,c,d,e,f,g,k,r,rfl⟩
theorem b7M {n:Int} (x:UInt8) (h0:0<=n) (h1:n<16777216):B7 .i64 (bG .i64 n 8) (IntKind.wrap .i64 (x.toNat:Int))=n*256+x.toNat:=by
 have hx:=AS x
 have e1:bG .i64 n 8=n*256:=by
  have:n*2^(min (8:Int).toNat (IntKind.bits .i64))=n*256:=by
   have:(2:Int)^(min (8:Int).toNat (IntKind.bits .i64))=256:=by decide
   rw [this]
  unfold bG
  rw [this,ak _ om om]
 rw [e1,ak (x.toNat:Int) om om]
 unfold B7
 obtain ⟨m,rfl⟩:=nI h0
 have e2:(BitVec.ofInt (IntKind.bits .i64) ((m:Int)*256)|||BitVec.ofInt (IntKind.bits .i64) (x.toNat:Int)).toNat=m*256+x.toNat:=by
  rw [BitVec.toNat_or,gH,gH]
  have b1:(((m:Int)*256)%((2^(IntKind.bits .i64):Nat):Int)).toNat=m<<<8:=by
   rw [show ((2^(IntKind.bits .i64):Nat):Int)=18446744073709551616 by decide,nY];omega
  have b2:((x.toNat:Int)%((2^(IntKind.bits .i64):Nat):Int)).toNat=x.toNat:=by
   rw [show ((2^(IntKind.bits .i64):Nat):Int)=18446744073709551616 by decide];omega
  rw [b1,b2, <-Nat.shiftLeft_add_eq_or_of_lt (show x.toNat<2^8 by omega),nY]
 rw [e2,ak _ om om]
 omega
theorem a1O (w x y z:UInt8):Fs [w,x,y,z]=some (be w x y z):=by
 have hw:=AS w
 have hx:=AS x
 have hy:=AS y
 have hz:=AS z
 unfold Fs
 have st: ∀(n t:Int) (b:UInt8),0<=n->n<16777216->0<=t->t<4->[w,x,y,z][t.toNat]? =some b->p8 [w,x,y,z] (([w,x,y,z].length:Nat):Int) (n,t)=some (.inl (n*256+b.toNat,t+1)):=by
  intro n t b h0 h1 h2 h3 h4
  simp only [p8]
  rw [brd (by simp only [ah,ai];omega),show atL [w,x,y,z] t=some b by simp [atL,h2,h4]]
  simp only [obs]
  rw [b7M b h0 h1,ak (t+1) om om]
 rw [cf (st 0 0 w om om om om rfl),cf (st _ _ x om om om om rfl),cf (st _ _ y om om om om rfl),cf (st _ _ z om om om om rfl)]
 rw [bZ (e:=(be w x y z,4,false)) ?_]
 ·rfl
 ·simp only [p8]
  rw [brn (by simp only [ah,ai];omega)]
  simp [be]
theorem c2L (n:Int) (k:Nat) (hk:k<=64) (h0:0<=n):bY .i64 n (k:Int)=n/2^k:=by
 unfold bY
 have:min ((k:Int).toNat) (IntKind.bits .i64)=k:=by simp [IntKind.bits];omega
 rw [this,lY _ (by exact Int.pow_nonneg (by decide))]
end Go.AI.Fn
namespace Go.AI.Fn
def b5r:List UInt8:=[97,98,115,111,114,98]
def a0K:List UInt8:=[100,114,97,119]
def PU:List UInt8:=[103,114,105,110,100]
def a1D (s:Source):Bool:=decide (s.Script.length<=64)&&(s.Script.all nF&&(decide (s.State.length=32)&&((decide (0<=s.At)&&decide (s.At<=1000000))&&(decide (0<=s.Count)&&decide (s.Count<=1000000)))))
structure GG (s:Source):Prop where
 len:s.Script.length<=64
 scr:hG s.Script
 st:s.State.length=32
 a0:0<=s.At
 a1:s.At<=1000000
 c0:0<=s.Count
 c1:s.Count<=1000000
theorem Sb {s:Source}:a1D s=true↔GG s:=by
 unfold a1D
 simp only [aC,aG,b8U]
 exact ⟨fun ⟨h1,h2,h3,⟨h4,h5⟩,h6,h7⟩=>⟨h1,h2,h3,h4,h5,h6,h7⟩,fun h=>⟨h.1,h.2,h.3,⟨h.4,h.5⟩,h.6,h.7⟩⟩
theorem A8 (h:List UInt8):we h=some (decide (h.length=32)):=by
 unfold we
 congr 1
 by_cases c:h.length=32
 ·rw [al c,c];rfl
 ·rw [ag c];simp;omega
theorem Wp {s:Source} (hl:s.Script.length<=1099511627776):yV s=some (a1D s):=by
 unfold yV a1D
 rw [MY hl]
 by_cases h1:s.Script.length<=64
 ·rw [brd om,al h1,obs,A8,HG,HG]
  cases s.Script.all nF
  ·rfl
  ·simp only [cO,obs,aO]
   cases decide (s.State.length=32)
   ·rfl
   ·simp only [cO,aO]
    cases (decide (0<=s.At)&&decide (s.At<=1000000))<;>rfl
 ·rw [brn om,ag h1];rfl
theorem Vd {s:Source} (hl:s.Script.length<=1099511627776):yv s=some (a1D s):=by
 unfold yv a1D
 rw [o8 hl]
 have e:(((s.State.length:Nat):Int)==32)=decide (s.State.length=32):=by
  by_cases c:s.State.length=32
  ·rw [al c,c];rfl
  ·rw [ag c];simp;omega
 by_cases h1:s.Script.length<=64
 ·rw [brd om,al h1,obs,Ma,Ma,e]
  cases s.Script.all nF
  ·rfl
  ·simp only [cO,obs,aO]
   cases (decide (0<=s.At)&&decide (s.At<=1000000))
   ·simp [br]
   ·simp only [cO,aO]
    cases decide (s.State.length=32)<;>rfl
 ·rw [brn om,ag h1];rfl
theorem Ho (n:Int):G2 n=some (iv n):=by
 unfold G2;rw [bw (by simp only [ah,ai];omega)];rfl
theorem c5k {l:List UInt8} (h:4<=l.length):l.take 4=[l.getD 0 0,l.getD 1 0,l.getD 2 0,l.getD 3 0]:=by
 match l,h with
 |a::b::c::d::r,_=>rfl
theorem a5p {n:Int} {k:Nat} (hk:k<=64) (h0:0<=n):(bY .i64 n (k:Int)==0)=decide (n<2^k):=by
 rw [c2L n k hk h0]
 have hp:(0:Int)<2^k:=Int.pow_pos (by decide)
 by_cases h:n<2^k
 ·rw [al h,Int.ediv_eq_zero_of_lt h0 h];rfl
 ·rw [ag h]
  have:1<=n/2^k:=(Int.le_ediv_iff_mul_le hp).2 om
  simp;omega
def SZ (st:List UInt8) (bits:Nat) (nonce:Int):Bool:=decide (((H (st++(PU++iv nonce))).getD 0 0).toNat*256+((H (st++(PU++iv nonce))).getD 1 0).toNat<2^(16-bits))
theorem c0m: ∀b:Nat,b<=12->(2:Int)^(32-b)=65536*((2^(16-b):Nat):Int)/\(2:Int)^(16-b)=((2^(16-b):Nat):Int):=by decide
theorem b08 {s:Source} {bits:Nat} {nonce:Int} (hs:s.State.length=32) (hb:bits<=12):pU s bits nonce=some (SZ s.State bits nonce):=by
 unfold pU
 have hf:[s.State,[103,114,105,110,100],iv nonce].flatten=s.State++(PU++iv nonce):=by simp [PU]
 have h4:(iv nonce).length=4:=dG nonce
 have h5:PU.length=5:=rfl
 rw [bw om,Ho,obs,vx (by rw [hf];simp only [ab];omega) (by simp),obs,hf]
 have hl:=EE (s.State++(PU++iv nonce))
 unfold SZ
 generalize H (s.State++(PU++iv nonce))=h at hl
 rw [bw om,mK om om om,obs]
 have e:(h.drop (Int.toNat 0)).take (Int.toNat 4-Int.toNat 0)=[h.getD 0 0,h.getD 1 0,h.getD 2 0,h.getD 3 0]:=by
  show h.take 4=_
  exact c5k om
 rw [e,a1O,obs,ak _ om om,brd om,show (32:Int)-(bits:Int)=((32-bits:Nat):Int) by omega]
 have b0:=AS (h.getD 0 0)
 have b1:=AS (h.getD 1 0)
 have b2:=AS (h.getD 2 0)
 have b3:=AS (h.getD 3 0)
 obtain ⟨g1,g2⟩:=c0m bits hb
 rw [a5p om (by unfold be;omega),g1]
 congr 1
 have hiff:be (h.getD 0 0) (h.getD 1 0) (h.getD 2 0) (h.getD 3 0)<65536*((2^(16-bits):Nat):Int)↔(h.getD 0 0).toNat*256+(h.getD 1 0).toNat<2^(16-bits):=by
  unfold be;omega
 exact decide_eq_decide.2 hiff
theorem b1l {s:Source} {bits:Nat} {nonce:Int} (hs:s.State.length=32) (hb:bits<=12):Ca s bits nonce=some (SZ s.State bits nonce):=by
 unfold Ca
 have hf:s.State++[103,114,105,110,100]++iv nonce=s.State++(PU++iv nonce):=by simp [PU]
 have h4:(iv nonce).length=4:=dG nonce
 have h5:PU.length=5:=rfl
 rw [bw (by simp only [ah,ai];omega),zQ,obs,bw (by simp only [ab,ah,ai];omega),hf,tG (by simp only [ab];omega),obs]
 have hl:=EE (s.State++(PU++iv nonce))
 unfold SZ
 generalize H (s.State++(PU++iv nonce))=h at hl
 have e0:atL h 0=some (h.getD 0 0):=Ys (k:=0) om
 have e1:atL h 1=some (h.getD 1 0):=Ys (k:=1) om
 have b0:=AS (h.getD 0 0)
 have b1:=AS (h.getD 1 0)
 rw [e0,obs,e1,obs]
 simp (disch:=omega) only [ak,eU]
 rw [brd om,show (16:Int)-(bits:Int)=((16-bits:Nat):Int) by omega,a5p om om,(c0m bits hb).2]
 congr 1
 exact decide_eq_decide.2 om
end Go.AI.Fn
namespace Go.AI.Fn
def tkM (s:Source) (t:List UInt8):Source:=⟨s.Script,s.At,H (s.State++(b5r++(iv t.length++t))),0⟩
theorem c2K {s:Source} (t:List UInt8) (h:GG s):GG (tkM s t):=⟨h.1,h.2,EE _,h.4,h.5,by simp [tkM],by simp [tkM]⟩
def beN (l:List UInt8):Int:=l.foldl (fun n c=>n*256+(c.toNat:Int)) 0
def a9s (l:List UInt8):Int:=beN l%2130706433
def wa (s:Source):Source×Ext:=
 if s.Script.length=0 then (⟨s.Script,s.At,s.State,s.Count+1⟩,⟨a9s ((H (s.State++(a0K++iv s.Count))).take 8),a9s (((H (s.State++(a0K++iv s.Count))).drop 8).take 8)⟩)
 else (⟨s.Script,s.At+1,s.State,s.Count⟩,s.Script.getD (s.At%(s.Script.length:Int)).toNat e0)
theorem a8Z (l:List UInt8):okF (a9s l):=l9 _
theorem a4t {s:Source} (h:GG s):okE (wa s).2:=by
 unfold wa
 split
 ·exact ⟨a8Z _,a8Z _⟩
 ·exact h.scr.getD _
theorem a9L {s:Source} (h:GG s) (ha:s.At<1000000) (hc:s.Count<1000000):GG (wa s).1:=by
 unfold wa
 split
 ·exact ⟨h.1,h.2,h.3,h.4,h.5,by have:=h.6;simp;omega,by simp;omega⟩
 ·exact ⟨h.1,h.2,h.3,by have:=h.4;simp;omega,by simp;omega,h.6,h.7⟩
theorem vN {s:Source} {t:List UInt8} (hs:s.State.length=32) (ht:t.length<=1000000):kz s t=some (tkM s t):=by
 unfold kz
 have h4:=dG ((t.length:Nat):Int)
 rw [bw (by simp only [ah,ai];omega),zQ,obs,bw (by simp only [ab,ah,ai];omega),
  bw (by simp only [ab,ah,ai];omega),tG (by simp only [ab,ah,ai];omega),obs,tkM]
 simp [b5r]
theorem Ry (l:List UInt8) (c:UInt8):beN (l++[c])=beN l*256+(c.toNat:Int):=by simp [beN,i7]
theorem Ty {t:List UInt8} (h:t.length=8):tS t=some (a9s t):=by
 unfold tS
 have key:Loop (lM t) (0,0)=some (a9s t,8,false):=
  bx (fun k=>(beN (t.take k)%2130706433,(k:Int))) 8 (fun k hk=>by
   have hk':k<t.length:=by omega
   have hb:=AS t[k]
   have hm:0<=beN (t.take k)%2130706433/\beN (t.take k)%2130706433<2130706433:=by omega
   simp only [lM]
   rw [brd om,cj hk',obs]
   simp (disch:=omega) only [ak,ep]
   rw [db hk',Ry,mX1];rfl) (by
   simp only [lM]
   rw [brn (by decide),cq om];rfl)
 rw [key];rfl
theorem XC {s:Source} (h:GG s):rM s=some (wa s):=by
 have h1:=h.1
 have h3:=h.3
 have h4:=h.4
 have h5:=h.5
 have h6:=h.6
 have h7:=h.7
 unfold rM wa
 by_cases hl:s.Script.length=0
 ·have hf:=dG s.Count
  rw [brn om,ae hl,bw (by simp only [ah,ai];omega),zQ,obs,bw (by simp only [ab,ah,ai];omega),tG (by simp only [ab,ah,ai];omega),obs]
  have e:s.State++[100,114,97,119]++iv s.Count=s.State++(a0K++iv s.Count):=by simp [a0K]
  rw [e]
  have hh:=EE (s.State++(a0K++iv s.Count))
  rw [mK om om om,obs,Ty (by simp;omega),obs,mK om om om,obs,Ty (by simp;omega),obs,ak _ om om]
  rfl
 ·have hr:=pO s.At (b:=(s.Script.length:Int)) om
  have hr2:=mL s.At (b:=(s.Script.length:Int)) om
  rw [brd om,aa hl,brd om,ep _ _ h4,ak _ om om]
  have e:atL s.Script (s.At%(s.Script.length:Int))=some (s.Script.getD (s.At%(s.Script.length:Int)).toNat e0):=by
   have:=a82 (l:=s.Script) (k:=(s.At%(s.Script.length:Int)).toNat) om
   rwa [ez hr] at this
  rw [e];rfl
structure Few (s:Source) (k:Int):Prop where
 ok:GG s
 a:s.At<=k
 c:s.Count<=k
theorem Few.mono {s:Source} {j k:Int} (h:Few s j) (hk:j<=k):Few s k:=⟨h.1,by have:=h.2;omega,by have:=h.3;omega⟩
theorem Few.take {s:Source} {k:Int} (h:Few s k) (t:List UInt8):Few (tkM s t) (k+1):=⟨c2K t h.1,by have:=h.2;simp [tkM];omega,by have:=h.3;have:=h.1.c0;simp [tkM];omega⟩
theorem Few.draw {s:Source} {k:Int} (h:Few s k) (hk:k<1000000):Few (wa s).1 (k+1):=by
 have h2:=h.2
 have h3:=h.3
 refine ⟨a9L h.1 om om, ?_, ?_⟩<;>(unfold wa;split<;>dsimp only<;>omega)
end Go.AI.Fn
