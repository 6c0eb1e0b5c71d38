/- Plain laws for printed functions: loops whose states are told in advance; numbers; places. -/
import Derived.Test.YtgjlndaebhaciaaAiW
import Derived.Test.YtgjlndaebhaciaaFx1
import Derived.KernelRfl
set_option linter.unusedVariables false
namespace Go.AI
theorem dc {S E:Type} {step:S→Option (S⊕E)} {s s':S} (h:step s=some (.inl s')):Loop step s=Loop step s':=by rw [tc,h];rfl
theorem dn {S E:Type} {step:S→Option (S⊕E)} {s:S} {e:E} (h:step s=some (.inr e)):Loop step s=some e:=by rw [tc,h];rfl
theorem cq {S E:Type} {step:S→Option (S⊕E)} (F:Nat→S) (n:Nat) {e:E} (hs: ∀k,k<n→step (F k)=some (.inl (F (k+1)))) (he:step (F n)=some (.inr e)):Loop step (F 0)=some e:=by
 have key: ∀m k,k+m=n→Loop step (F k)=some e:=by
  intro m
  induction m with
  |zero=>intro k hk;have:k=n:=by omega
         subst this;exact dn he
  |succ m ih=>intro k hk;rw [dc (hs k om)];exact ih (k+1) om
 exact key n 0 om
theorem BO (P:Nat→Bool): ∀n,(∀k,k<n→P k=true)∨ ∃k,k<n∧P k=false∧ ∀j,j<k→P j=true
 |0=> .inl om
 |n+1=>by
  rcases BO P n with h|⟨k,hk,h1,h2⟩
  ·cases hn:P n
   ·exact .inr ⟨n,by omega,hn,h⟩
   ·refine .inl fun k hk=> ?_
    by_cases e:k=n
    ·subst e;exact hn
    ·exact h k om
  ·exact .inr ⟨k,by omega,h1,h2⟩
theorem rP {S E:Type} {step:S→Option (S⊕E)} (F:Nat→S) (n:Nat) (P:Nat→Bool) (x:Nat→E) {e:E} (hs: ∀k,k<n→P k=true→step (F k)=some (.inl (F (k+1))))
 (hx: ∀k,k<n→P k=false→step (F k)=some (.inr (x k))) (he:step (F n)=some (.inr e)):
 ((∀k,k<n→P k=true)∧Loop step (F 0)=some e)∨ ∃k,k<n∧P k=false∧(∀j,j<k→P j=true)∧Loop step (F 0)=some (x k):=by
 rcases BO P n with h|⟨k,hk,h1,h2⟩
 ·exact .inl ⟨h,cq F n (fun k hk=>hs k hk (h k hk)) he⟩
 ·exact .inr ⟨k,hk,h1,h2,cq F k (fun j hj=>hs j om (h2 j hj)) (hx k hk h1)⟩
theorem lv {S E:Type} {step:S→Option (S⊕E)} (Inv:S→Prop) (me:S→Nat) (Post:E→Prop)
 (hs: ∀s,Inv s→(∃s',step s=some (.inl s')∧Inv s'∧me s'<me s)∨(∃e,step s=some (.inr e)∧Post e)):
 ∀s,Inv s→ ∃e,Loop step s=some e∧Post e:=by
 intro s
 generalize hm:me s=m
 induction m using Nat.strongRecOn generalizing s with
 |_ m ih=>
  intro hi
  rw [tc]
  rcases hs s hi with ⟨s',h1,h2,h3⟩|⟨e,h1,h2⟩
  ·rw [h1];exact ih (me s') om s' rfl h2
  ·rw [h1];exact ⟨e,rfl,h2⟩
theorem xC {α:Type} {c:Bool} {x y:α} (h:c=true):br c x y=x:=by subst h;rfl
theorem JD {α:Type} {c:Bool} {x y:α} (h:c=false):br c x y=y:=by subst h;rfl
theorem brd {α:Type} {p:Prop} [Decidable p] {x y:α} (h:p):br (decide p) x y=x:=xC (decide_eq_true h)
theorem brn {α:Type} {p:Prop} [Decidable p] {x y:α} (h: ¬p):br (decide p) x y=y:=JD (decide_eq_false h)
theorem AR {α:Type} {p q:Prop} [Decidable p] [Decidable q] {x y:α} (h:p) (g:q):br (decide p&&decide q) x y=x:=xC (by simp [h,g])
theorem bre {α:Type} {a b:Int} {x y:α} (h:a=b):br (a==b) x y=x:=xC (by simp [h])
theorem aP {α:Type} {a b:Int} {x y:α} (h:a≠b):br (a==b) x y=y:=JD (by simp [h])
theorem brb {α:Type} {a b:Int} {x y:α} (h:a≠b):br (a !=b) x y=x:=xC (by simp [h])
theorem rr {α:Type} {a b:Int} {x y:α} (h:a=b):br (a !=b) x y=y:=JD (by simp [h])
theorem KZ {α:Type} {p:Prop} [Decidable p] {x y:α} (h:p):br (!decide p) x y=y:=JD (by simp [h])
theorem Lo {α:Type} {p:Prop} [Decidable p] {x y:α} (h: ¬p):br (!decide p) x y=x:=xC (by simp [h])
theorem ct (a b:Int) (h:0≤a):a.tmod b=a%b:=Int.tmod_eq_emod_of_nonneg h
theorem pT (a b:Int) (h:0≤a):a.tdiv b=a/b:=Int.tdiv_eq_ediv_of_nonneg h
theorem JL (x:UInt8):(x.toNat:Int)<256:=by have:=x.toNat_lt;omega
theorem Ju {n b:Nat} (h:n*b≤1099511627776):aK n b=true:=by simp [aK,bf,h]
theorem bh {α:Type} {n b:Nat} {x y:α} (h:n*b≤1099511627776):br (aK n b) x y=x:=xC (Ju h)
theorem Vf {l c:Int} {b:Nat} (h0:0≤l) (h1:l≤c) (h2:c*b≤1099511627776):DC l c b=true:=by simp [DC,bf,h0,h1,h2]
theorem Wb {α:Type} {l c:Int} {b:Nat} {x y:α} (h0:0≤l) (h1:l≤c) (h2:c*b≤1099511627776):br (DC l c b) x y=x:=xC (Vf h0 h1 h2)
theorem IS {α:Type} {l:List α} {i:Int} (h0:0≤i) {x:α} (h:l[i.toNat]? =some x):atL l i=some x:=by simp [atL,h0,h]
theorem eJ {α:Type} {l:List α} {k:Nat} (h:k<l.length):atL l (k:Int)=some l[k]:=by simp [atL,h]
theorem jw {β:Type} {l:List Int} {i:Nat} {f:Int→Option β} (h:i<l.length):(l[i]?).bind f=f (l.getD i 0):=by simp [h]
theorem zl {α:Type} {l:List α} {i:Nat} (h:i<l.length):l[i]? =some l[i]:=List.getElem?_eq_getElem h
theorem DG {α:Type} {l:List α} {i:Int} (h0:0≤i) (h1:i<l.length): ∃x,atL l i=some x∧l[i.toNat]? =some x∧x∈l:=by
 have h:i.toNat<l.length:=by omega
 exact ⟨l[i.toNat],by simp [atL,h0,h],by simp [h],List.getElem_mem h⟩
theorem Bw {α:Type} {l:List α} {i:Nat} (h:i<l.length): ∃x r,l.drop i=x::r∧l.drop (i+1)=r∧l[i]? =some x:=
 ⟨l[i],l.drop (i+1),List.drop_eq_getElem_cons h,rfl,by simp [h]⟩
theorem yf {α:Type} {l:List α} {a b:Int} (h0:0≤a) (h1:a≤b) (h2:b≤l.length):oZ l a b=some ((l.drop a.toNat).take (b.toNat-a.toNat)):=by
 simp [oZ,h0,h1,h2,List.drop_take]
theorem co {α:Type} {l:List α} {k:Nat} (h:k<l.length):l.take (k+1)=l.take k++[l[k]]:=by rw [List.take_succ_eq_append_getElem h]
theorem Bq (k:Nat):((k+1:Nat):Int)=(k:Int)+1:=by omega
theorem oC (n:Nat):(nZ n).length=n:=by simp [nZ]
def iU {α:Type} (f:Nat→α→α):Nat→α→α
 |0,l=>l
 |k+1,l=>f k (iU f k l)
theorem nh {f:Nat→List Int→List Int} (hf: ∀k l,(f k l).length=l.length): ∀(k:Nat) (l:List Int),(iU f k l).length=l.length
 |0,l=>rfl
 |k+1,l=>by rw [iU,hf,nh hf k l]
end Go.AI
set_option linter.unusedVariables false
set_option linter.unusedSimpArgs false
namespace Go.AI.Fn
def okF (a:Int):Prop:=0≤a∧a≤2130706432
def okE (x:Ext):Prop:=okF x.A∧okF x.B
def wh (a:Int):Bool:=decide (0≤a)&&decide (a≤2130706432)
theorem pj {a:Int}:wh a=true↔okF a:=by simp [wh,okF]
def aF (a b:Int):Int:=(a+b)%2130706433
def sF (a b:Int):Int:=(a-b)%2130706433
def mF (a b:Int):Int:=(a*b)%2130706433
def eA (x y:Ext):Ext:=⟨(x.A+y.A)%2130706433,(x.B+y.B)%2130706433⟩
def eS (x y:Ext):Ext:=⟨(x.A-y.A)%2130706433,(x.B-y.B)%2130706433⟩
def eM (x y:Ext):Ext:=⟨(x.A*y.A+3*(x.B*y.B))%2130706433,(x.A*y.B+x.B*y.A)%2130706433⟩
def e0:Ext:=⟨0,0⟩
def e1:Ext:=⟨1,0⟩
def eN (n:Int):Ext:=⟨n,0⟩
theorem a2p:okF 1:=⟨by decide,by decide⟩
theorem W0:okF 0:=⟨by decide,by decide⟩
theorem mJ (a:Int):okF (a%2130706433):=⟨by omega,by omega⟩
theorem Bm (a b:Int):okF (aF a b):=mJ _
theorem W6 (a b:Int):okF (sF a b):=mJ _
theorem BN (a b:Int):okF (mF a b):=mJ _
theorem a2s (x y:Ext):okE (eA x y):=⟨mJ _,mJ _⟩
theorem a2r (x y:Ext):okE (eS x y):=⟨mJ _,mJ _⟩
theorem a2q (x y:Ext):okE (eM x y):=⟨mJ _,mJ _⟩
theorem a0Q:okE e0:=⟨⟨by decide,by decide⟩,⟨by decide,by decide⟩⟩
theorem a2t {n:Int} (h:okF n):okE (eN n):=⟨h,W0⟩
theorem Xw {a b:Int} (ha:okF a) (hb:okF b):0≤a*b∧a*b≤4539909900063178624:=
 ⟨Int.mul_nonneg ha.1 hb.1,Int.le_trans (Int.mul_le_mul ha.2 hb.2 hb.1 (by decide)) (by decide)⟩
theorem Fj {a:Int} (h:okF a):a%2130706433=a:=by obtain ⟨h1,h2⟩:=h;omega
theorem Z8 {x y:Ext} (h1:x.A=y.A) (h2:x.B=y.B):x=y:=by cases x;cases y;cases h1;cases h2;rfl
theorem mA1 (a b:Int):(a%2130706433+b)%2130706433=(a+b)%2130706433:=Int.emod_add_emod _ _ _
theorem mA2 (a b:Int):(a+b%2130706433)%2130706433=(a+b)%2130706433:=Int.add_emod_emod _ _ _
theorem mM1 (a b:Int):(a%2130706433*b)%2130706433=(a*b)%2130706433:=by rw [Int.mul_emod,Int.emod_emod, ←Int.mul_emod]
theorem mX1 (a b c:Int):(a%2130706433*b+c)%2130706433=(a*b+c)%2130706433:=by rw [←mA1,mM1,mA1]
theorem W7 {a b:Int} (ha:okF a) (hb:okF b):(IntKind.wrap .i64 (a+b)).tmod 2130706433=aF a b:=by
 obtain ⟨h1,h2⟩:=ha;obtain ⟨h3,h4⟩:=hb
 unfold aF;rw [ae _ om om,ct _ _ om]
theorem pc {a b:Int} (ha:okF a) (hb:okF b):xz a b=some (aF a b):=by unfold xz;rw [W7 ha hb]
theorem PE {a b:Int} (ha:okF a) (hb:okF b):Gk a b=some (sF a b):=by
 obtain ⟨h1,h2⟩:=ha;obtain ⟨h3,h4⟩:=hb
 unfold Gk sF;rw [ae (a-b) om om,ae _ om om,ct _ _ om]
 congr 1;omega
theorem Wa {a b:Int} (ha:okF a) (hb:okF b):(IntKind.wrap .i64 (a*b)).tmod 2130706433=mF a b:=by
 have h:=Xw ha hb
 unfold mF;rw [ae _ om om,ct _ _ om]
theorem Ak {a b:Int} (ha:okF a) (hb:okF b):zN a b=some (mF a b):=by unfold zN;rw [Wa ha hb]
theorem SW (n a b:Int):fy n a b=some (decide (a≤n)&&decide (n≤b)):=by
 unfold fy;cases decide (a≤n)<;>rfl
theorem mi (a:Int):iZ a=some (wh a):=by
 unfold iZ;rw [SW];rfl
theorem O9 {a b:Int} (ha:okF a) (hb:okF b):sE a b=some (aF a b):=by unfold sE;rw [W7 ha hb]
theorem Ra {a b:Int} (ha:okF a) (hb:okF b):s7 a b=some (sF a b):=by
 obtain ⟨h1,h2⟩:=ha;obtain ⟨h3,h4⟩:=hb
 unfold s7 sF;rw [ae (a+2130706433) om om,ae _ om om,ct _ _ om]
 congr 1;omega
theorem Qi {a b:Int} (ha:okF a) (hb:okF b):rK a b=some (mF a b):=by unfold rK;rw [Wa ha hb]
theorem sub_self (x:Ext):eS x x=e0:=by
 apply Z8<;>simp [eS,e0]
end Go.AI.Fn
set_option linter.unusedVariables false
namespace Go.AI.Fn
theorem Cj (x y:Int):bm x y=some (if x<y then-1 else if x>y then 1 else 0):=by
 unfold bm cp
 simp only [obs,bne_self_eq_false,aO]
 by_cases h:x<y
 ·rw [brd h,if_pos h]
 ·rw [brn h,if_neg h]
  by_cases h2:x>y
  ·rw [brd h2,if_pos h2]
  ·rw [brn h2,if_neg h2]
theorem FL (a b:Int):aI 0 [a,b] (([a,b].length:Nat):Int) 0=br (a !=0) (some (.inr (.inl a))) (some (.inl 1)):=by
 simp only [aI]
 rw [brd (by simp),show atL [a,b] 0=some a by simp [atL],show IntKind.wrap .i64 (0+1)=1 by decide];rfl
theorem G0 (a b:Int):aI 0 [a,b] (([a,b].length:Nat):Int) 1=br (b !=0) (some (.inr (.inl b))) (some (.inl 2)):=by
 simp only [aI]
 rw [brd (by simp),show atL [a,b] 1=some b by simp [atL],show IntKind.wrap .i64 (1+1)=2 by decide];rfl
theorem Rl (a b:Int):aI 0 [a,b] (([a,b].length:Nat):Int) 2=some (.inr (.inr (2,false))):=by
 simp only [aI]
 rw [brn (by simp)];simp
theorem P4 (a b:Int):dN [a,b]=some (if a=0 then b else a):=by
 unfold dN
 by_cases ha:a=0
 ·rw [dc (s':=1) (by rw [FL,rr ha]),if_pos ha]
  by_cases hb:b=0
  ·rw [dc (s':=2) (by rw [G0,rr hb]),dn (Rl a b),hb];rfl
  ·rw [dn (e:= .inl b) (by rw [G0,brb hb])];rfl
 ·rw [dn (e:= .inl a) (by rw [FL,brb ha]),if_neg ha];rfl
def ltE (y x:ah):Prop:=y.Row<x.Row∨(y.Row=x.Row∧y.Col<x.Col)
theorem NO (y x:ah): ∃c,cJ y x=some c∧(c≥0↔ ¬ltE y x):=by
 unfold cJ
 rw [Cj,Cj]
 simp only [obs,P4]
 refine ⟨_,rfl, ?_⟩
 unfold ltE
 by_cases h1:y.Row<x.Row
 ·simp [h1]
 ·by_cases h2:y.Row>x.Row
  ·simp [h1,h2];omega
  ·have h3:y.Row=x.Row:=by omega
   by_cases h4:y.Col<x.Col
   ·simp [h3,h4]
   ·by_cases h5:y.Col>x.Col
    ·simp [h3,h4,h5]
    ·simp [h3,h4,h5]
def inE (R C:Int) (x:ah):Prop:=(0≤x.Row∧x.Row≤R-1)∧(0≤x.Col∧x.Col≤C-1)∧1≤x.Value∧x.Value≤2130706432
def Fy (l:List ah) (R C:Int) (t:Nat):Prop:= ∃x,l[t]? =some x∧(¬inE R C x∨(0<t∧ ∃y,l[t-1]? =some y∧ ¬ltE y x))
open Classical in
noncomputable def qr (l:List ah) (R C:Int):Bool:=decide (l.length≤200∧ ∀t, ¬Fy l R C t)
open Classical in
theorem Nl {l:List ah} {R C:Int} (h:l.length≤200) (g: ∀t, ¬Fy l R C t):qr l R C=true:=by unfold qr;exact decide_eq_true ⟨h,g⟩
open Classical in
theorem Pv {l:List ah} {R C:Int} (h:l.length≤200→ ¬ ∀t, ¬Fy l R C t):qr l R C=false:=by unfold qr;exact decide_eq_false fun g=>h g.1 g.2
open Classical in
theorem yu {l:List ah} {R C:Int} (h:qr l R C=true):l.length≤200:=by unfold qr at h;exact (of_decide_eq_true h).1
theorem Jk (n a b:Int):fy n a b=some (decide (a≤n∧n≤b)):=by
 unfold fy
 by_cases h:a≤n
 ·rw [brd h];simp [h]
 ·rw [brn h];simp [h]
theorem ZX (n a b:Int):vy n a b=some (decide (a≤n∧n≤b)):=by
 unfold vy
 by_cases h:a≤n
 ·rw [brd h];simp [h]
 ·rw [brn h];simp [h]
theorem rQ {l:List ah} {R C:Int} (hl:l.length≤1099511627776) (hR:1≤R∧R≤4096) (hC:1≤C∧C≤4096):iO l R C=some (qr l R C):=by
 unfold iO
 have key:=lv (step:=gI l R C l ((l.length:Nat):Int)) (fun t=>0≤t∧t≤l.length∧ ∀k:Nat,(k:Int)<t→ ¬Fy l R C k) (fun t=>(l.length-t).toNat)
  (fun e=>(∃x,e= .inl x∧ ∃k,Fy l R C k)∨(∃x,e= .inr x∧ ∀k, ¬Fy l R C k)) ?_ 0 ⟨by omega,by omega,by omega⟩
 ·obtain ⟨e,he,⟨x,rfl,k,hk⟩|⟨x,rfl,hk⟩⟩:=key
  ·rw [he]
   simp only [obs,nW]
   rw [Pv fun _ h=>h k hk]
  ·rw [he]
   simp only [obs,qt]
   by_cases h:l.length≤200
   ·rw [decide_eq_true om,Nl h hk]
   ·rw [decide_eq_false om,Pv fun g=>absurd g h]
 ·intro t ⟨h0,h1,h2⟩
  simp only [gI]
  by_cases c:t<(l.length:Int)
  ·obtain ⟨x,r,e1,e2,e3⟩:=Bw (l:=l) (i:=t.toNat) om
   have next: ¬Fy l R C t.toNat→(fun t:Int=>0≤t∧t≤l.length∧ ∀k:Nat,(k:Int)<t→ ¬Fy l R C k) (t+1):=by
    intro hn
    refine ⟨by omega,by omega,fun k hk=> ?_⟩
    by_cases e:k=t.toNat
    ·subst e;exact hn
    ·exact h2 k om
   rw [brd c,IS h0 e3]
   simp only [obs,Jk]
   rw [ae (R-1) om om,ae (C-1) om om,ae (t+1) om om]
   by_cases i1:0≤x.Row∧x.Row≤R-1
   ·rw [KZ i1]
    by_cases i2:0≤x.Col∧x.Col≤C-1
    ·rw [KZ i2]
     by_cases i3:1≤x.Value∧x.Value≤2130706432
     ·rw [KZ i3]
      by_cases c3:t>0
      ·rw [brd c3,ae (t-1) om om]
       obtain ⟨y,r2,f1,f2,f3⟩:=Bw (l:=l) (i:=(t-1).toNat) om
       rw [IS om f3]
       simp only [obs]
       obtain ⟨d,hd,hd2⟩:=NO y x
       rw [hd]
       simp only [obs]
       rw [show (t-1).toNat=t.toNat-1 by omega] at f3
       by_cases c4:d≥0
       ·rw [brd c4]
        exact .inr ⟨_,rfl,.inl ⟨_,rfl,t.toNat,x,e3,.inr ⟨by omega,y,f3,hd2.1 c4⟩⟩⟩
       ·rw [brn c4]
        refine .inl ⟨_,rfl,next ?_,by omega⟩
        rintro ⟨x',g1,g|⟨_,y',g2,g3⟩⟩
        ·rw [e3] at g1;cases g1;exact g ⟨i1,i2,i3⟩
        ·rw [e3] at g1;cases g1;rw [f3] at g2;cases g2;exact c4 (hd2.2 g3)
      ·rw [brn c3]
       refine .inl ⟨_,rfl,next ?_,by omega⟩
       rintro ⟨x',g1,g|⟨g0,_⟩⟩
       ·rw [e3] at g1;cases g1;exact g ⟨i1,i2,i3⟩
       ·omega
     ·rw [Lo i3]
      exact .inr ⟨_,rfl,.inl ⟨_,rfl,t.toNat,x,e3,.inl fun g=>i3 g.2.2⟩⟩
    ·rw [Lo i2]
     exact .inr ⟨_,rfl,.inl ⟨_,rfl,t.toNat,x,e3,.inl fun g=>i2 g.2.1⟩⟩
   ·rw [Lo i1]
    exact .inr ⟨_,rfl,.inl ⟨_,rfl,t.toNat,x,e3,.inl fun g=>i1 g.1⟩⟩
  ·rw [brn c]
   refine .inr ⟨_,rfl,.inr ⟨_,rfl,fun k hk=> ?_⟩⟩
   have hkl:k<l.length:=by
    obtain ⟨x,hx,_⟩:=hk
    obtain ⟨h,_⟩:=List.getElem?_eq_some_iff.1 hx
    exact h
   exact h2 k om hk
end Go.AI.Fn
set_option linter.unusedVariables false
namespace Go.AI.Fn
theorem Dv {k:Int} (h:0≤k∧k≤5):1≤bo .i64 1 k∧bo .i64 1 k≤4096:=by
 have:k=0∨k=1∨k=2∨k=3∨k=4∨k=5:=by omega
 rcases this with rfl|rfl|rfl|rfl|rfl|rfl<;>decide
noncomputable def vZ (s:aX):Bool:=
 decide (1≤s.Rows∧s.Rows≤5)&&(decide (2≤s.Cols∧s.Cols≤5)&&(decide (0≤s.Publics∧s.Publics≤bo .i64 1 (s.Cols-1)-1)&&
  (qr s.A (bo .i64 1 s.Rows) (bo .i64 1 s.Cols)&&(qr s.B (bo .i64 1 s.Rows) (bo .i64 1 s.Cols)&&qr s.C (bo .i64 1 s.Rows) (bo .i64 1 s.Cols)))))
theorem u9 {s:aX} (hA:s.A.length≤1099511627776) (hB:s.B.length≤1099511627776) (hC:s.C.length≤1099511627776):jY s=some (vZ s):=by
 unfold jY vZ
 simp only [Jk,obs]
 by_cases h1:1≤s.Rows∧s.Rows≤5
 ·rw [KZ h1]
  by_cases h2:2≤s.Cols∧s.Cols≤5
  ·rw [KZ h2]
   have k1:=Dv (k:=s.Rows) om
   have k2:=Dv (k:=s.Cols) om
   have k3:=Dv (k:=s.Cols-1) om
   unfold bW gn
   rw [ae (s.Cols-1) om om,brd om]
   simp only [obs]
   rw [ae (bo .i64 1 (s.Cols-1)-1) om om]
   by_cases h3:0≤s.Publics∧s.Publics≤bo .i64 1 (s.Cols-1)-1
   ·rw [KZ h3,brd om,brd om,rQ hA k1 k2]
    simp only [obs]
    rw [decide_eq_true h1,decide_eq_true h2,decide_eq_true h3]
    cases qr s.A (bo .i64 1 s.Rows) (bo .i64 1 s.Cols)
    ·rfl
    ·simp only [Bool.not_true,aO]
     rw [brd om,brd om,rQ hB k1 k2]
     simp only [obs]
     cases qr s.B (bo .i64 1 s.Rows) (bo .i64 1 s.Cols)
     ·rfl
     ·simp only [Bool.not_true,aO]
      rw [brd om,brd om,rQ hC k1 k2]
      simp only [obs]
      cases qr s.C (bo .i64 1 s.Rows) (bo .i64 1 s.Cols)<;>rfl
   ·rw [Lo h3,decide_eq_true h1,decide_eq_true h2,decide_eq_false h3];rfl
  ·rw [Lo h2,decide_eq_true h1,decide_eq_false h2];rfl
 ·rw [Lo h1,decide_eq_false h1];rfl
theorem wj {s:aX} (h:vZ s=true):(1≤s.Rows∧s.Rows≤5)∧(2≤s.Cols∧s.Cols≤5)∧(0≤s.Publics∧s.Publics≤4096)∧s.A.length≤200∧s.B.length≤200∧s.C.length≤200:=by
 unfold vZ at h
 simp only [Bool.and_eq_true,decide_eq_true_eq] at h
 obtain ⟨h1,h2,h3,h4,h5,h6⟩:=h
 have k3:=Dv (k:=s.Cols-1) om
 exact ⟨h1,h2,by omega,yu h4,yu h5,yu h6⟩
def setB (t:Setting):Bool:=decide (1≤t.Rate∧t.Rate≤3)&&(decide (1≤t.Queries∧t.Queries≤8)&&decide (0≤t.Grind∧t.Grind≤12))
end Go.AI.Fn
set_option linter.unusedVariables false
namespace Go.AI.Fn
structure Src (B:Int) (m:aA):Prop where
 at0:0≤m.at_
 at1:m.at_≤B
 sd0:0≤m.seed
 sd1:m.seed<2147483648
 len:m.code.length≤1048600
theorem Src.mono {B C:Int} {m:aA} (h:Src B m) (hc:B≤C):Src C m:=⟨h.at0,by have:=h.at1;omega,h.sd0,h.sd1,h.len⟩
abbrev Big:Int:=4611686018427387904
theorem KA {code:List UInt8} (h:code.length≤1048600): ∃m,o5 code=some m∧Src 0 m:=by
 refine ⟨_,rfl, ?_⟩
 have:(((code.length:Nat):Int).tmod (1000:Int))=(code.length:Int)%1000:=ct _ _ om
 constructor<;>dsimp only<;>omega
theorem yk {B:Int} {m:aA} (h:Src B m) (hB:B<Big): ∃x m',dz m=some (x,m')∧0≤x∧x<256∧Src (B+1) m':=by
 obtain ⟨h1,h2,h3,h4,h5⟩:=h
 rcases m with ⟨code,at_,seed⟩
 dsimp only at h1 h2 h3 h4 h5
 unfold dz
 dsimp only
 simp only [Big] at hB
 rw [ae (at_+1) om om]
 by_cases c:at_+1≤((code.length:Nat):Int)
 ·rw [brd c,ae (at_+1-1) om om]
  obtain ⟨x,hx,_,_⟩:=DG (l:=code) (i:=at_+1-1) om om
  have:=JL x
  rw [hx]
  simp only [obs]
  rw [ae (x.toNat:Int) om om,ae (seed*31) om om,ae (seed*31+(x.toNat:Int)) om om,ae _ om om,ct _ _ om]
  refine ⟨_,_,rfl,by omega,by omega, ?_⟩
  constructor<;>dsimp only<;>omega
 ·rw [brn c]
  by_cases c2:at_+1>3000
  ·rw [brd c2]
   refine ⟨_,_,rfl,by omega,by omega, ?_⟩
   constructor<;>dsimp only<;>omega
  ·rw [brn c2,ae (seed*1103515245) om om,ae (seed*1103515245+12345) om om,ct (seed*1103515245+12345) _ om,pT _ _ om,ae _ om om,ct _ _ om]
   refine ⟨_,_,rfl,by omega,by omega, ?_⟩
   constructor<;>dsimp only<;>omega
theorem dt {B n:Int} {m:aA} (h:Src B m) (hB:B+3<Big): ∃x m',aa n m=some (x,m')∧0≤x∧(1<n→x<n)∧(n≤1→x=0)∧Src (B+3) m':=by
 unfold aa
 by_cases c:n≤1
 ·rw [brd c];exact ⟨_,_,rfl,by omega,by omega,fun _=>rfl,h.mono om⟩
 ·rw [brn c]
  by_cases c2:n≤256
  ·rw [brd c2]
   obtain ⟨x,m1,e1,x0,x1,s1⟩:=yk h om
   rw [e1]
   simp only [obs]
   rw [brd om,ct _ _ x0]
   exact ⟨_,_,rfl,Int.emod_nonneg _ om,fun _=>Int.emod_lt_of_pos _ om,by omega,s1.mono om⟩
  ·rw [brn c2]
   obtain ⟨x,m1,e1,x0,x1,s1⟩:=yk h om
   obtain ⟨y,m2,e2,y0,y1,s2⟩:=yk s1 om
   obtain ⟨z,m3,e3,z0,z1,s3⟩:=yk s2 om
   rw [e1]
   simp only [obs]
   rw [e2]
   simp only [obs]
   rw [e3]
   simp only [obs]
   rw [brd om,ae (x*65536) om om,ae (y*256) om om,ae (x*65536+y*256) om om,ae _ om om,ct _ _ om]
   exact ⟨_,_,rfl,Int.emod_nonneg _ om,fun _=>Int.emod_lt_of_pos _ om,by omega,s3.mono om⟩
theorem mN {B n:Int} {m:aA} (h:Src B m) (hB:B+3<Big): ∃x m',aL n m=some (x,m')∧Src (B+3) m':=by
 unfold aL
 obtain ⟨x,m1,e1,_,_,_,s1⟩:=dt (n:=n) h hB
 rw [e1]
 exact ⟨_,_,rfl,s1⟩
theorem pJ {B:Int} {m:aA} (h:Src B m) (hB:B+18<Big): ∃x m',ai m=some (x,m')∧okF x∧Src (B+18) m':=by
 unfold ai
 obtain ⟨x,m1,e1,x0,x1,_,s1⟩:=dt (n:=5) h om
 have:=x1 om
 rw [e1]
 simp only [obs]
 by_cases c:x=0
 ·rw [bre c]
  obtain ⟨y,m2,e2,y0,y1,_,s2⟩:=dt (n:=4) s1 om
  have:=y1 om
  rw [e2]
  exact ⟨_,_,rfl,⟨by omega,by omega⟩,s2.mono om⟩
 ·rw [aP c]
  by_cases c2:x=1
  ·rw [bre c2]
   obtain ⟨y,m2,e2,y0,y1,_,s2⟩:=dt (n:=3) s1 om
   have:=y1 om
   rw [e2]
   refine ⟨_,_,rfl,⟨?_, ?_⟩,s2.mono om⟩<;>rw [ae _ om om]<;>omega
  ·rw [aP c2]
   have key:=lv (step:=cY)
    (fun s=>okF s.1∧0≤s.2.1∧s.2.1≤5∧Src (B+3+3*s.2.1) ⟨s.2.2.1,s.2.2.2.1,s.2.2.2.2⟩) (fun s=>(5-s.2.1).toNat)
    (fun e=>okF e.1∧Src (B+18) ⟨e.2.2.2.1,e.2.2.2.2.1,e.2.2.2.2.2⟩) ?_ ((0:Int),(0:Int),m1.code,m1.at_,m1.seed) ⟨⟨by first|omega| (dsimp only;omega),by first|omega| (dsimp only;omega)⟩,by first|omega| (dsimp only;omega),by first|omega| (dsimp only;omega),s1.mono (by first|omega| (dsimp only;omega))⟩
   ·obtain ⟨e,he,h1,h2⟩:=key
    rw [he]
    exact ⟨_,_,rfl,h1,h2⟩
   ·rintro ⟨n,i,c,c2,c3⟩ ⟨⟨n0,n1⟩,i0,i1,hs⟩
    dsimp only at n0 n1 i0 i1 hs
    by_cases hi:i<5
    ·left
     obtain ⟨y,m2,e2,y0,y1,_,s2⟩:=dt (n:=256) hs om
     have:=y1 om
     simp only [cY]
     rw [brd hi,e2]
     simp only [obs]
     rw [ae (n*256) om om,ae (n*256+y) om om,ae (i+1) om om,ct _ _ om]
     refine ⟨_,rfl,⟨⟨?_, ?_⟩, ?_, ?_,s2.mono ?_⟩, ?_⟩<;>dsimp only<;>omega
    ·right
     simp only [cY]
     rw [brn hi]
     exact ⟨_,rfl,⟨n0,n1⟩,hs.mono (by first|omega| (dsimp only;omega))⟩
end Go.AI.Fn
set_option linter.unusedVariables false
namespace Go.AI.Fn
theorem Xb {B:Int} {m:aA} (h:Src B m) (hB:B+40<Big): ∃x m',jq m=some (x,m')∧okE x∧Src (B+40) m':=by
 unfold jq
 obtain ⟨x,m1,e1,s1⟩:=mN (n:=4) h om
 rw [e1]
 simp only [obs]
 obtain ⟨y,m2,e2,y0,s2⟩:=pJ s1 om
 obtain ⟨z,m3,e3,z0,s3⟩:=pJ s2 om
 rw [e2]
 cases x
 ·simp only [aO,obs]
  rw [e3]
  exact ⟨_,_,rfl,⟨y0,z0⟩,s3.mono om⟩
 ·exact ⟨_,_,rfl,⟨y0,⟨by first|omega| (dsimp only;omega),by first|omega| (dsimp only;omega)⟩⟩,s2.mono om⟩
theorem Ss {B n:Int} {m:aA} (h:Src B m) (hn0:0≤n) (hn1:n≤1048576) (hB:B+40*n<Big): ∃l m',iw n m=some (l,m')∧(l.length:Int)=n∧(∀x∈l,okE x)∧Src (B+40*n) m':=by
 unfold iw
 have key:=lv (step:=dj n)
  (fun s=>(s.1.length:Int)=s.2.1∧(∀x∈s.1,okE x)∧s.2.1≤n∧Src (B+40*s.2.1) ⟨s.2.2.1,s.2.2.2.1,s.2.2.2.2⟩) (fun s=>(n-s.2.1).toNat)
  (fun e=>(e.1.length:Int)=n∧(∀x∈e.1,okE x)∧Src (B+40*n) ⟨e.2.2.2.1,e.2.2.2.2.1,e.2.2.2.2.2⟩) ?_ (([]:List Ext),(0:Int),m.code,m.at_,m.seed) ⟨by simp,by simp,by dsimp only;omega,h.mono (by first|omega| (dsimp only;omega))⟩
 ·obtain ⟨e,he,h1,h2,h3⟩:=key
  rw [he]
  exact ⟨_,_,rfl,h1,h2,h3⟩
 ·rintro ⟨l,i,c,c2,c3⟩ ⟨hl,ha,i1,hs⟩
  dsimp only at hl ha i1 hs
  by_cases hi:i<n
  ·left
   obtain ⟨y,m2,e2,y0,s2⟩:=Xb hs om
   simp only [dj]
   rw [brd hi,e2]
   simp only [obs]
   rw [xC (Ju (by simp only [List.length_append,List.length_cons,List.length_nil];omega)),ae (i+1) om om]
   refine ⟨_,rfl,⟨?_, ?_, ?_,s2.mono ?_⟩, ?_⟩
   ·simp only [List.length_append,List.length_cons,List.length_nil];omega
   ·intro x hx
    rcases List.mem_append.1 hx with hx|hx
    ·exact ha x hx
    ·rw [List.mem_singleton] at hx;subst hx;exact y0
   all_goals dsimp only;omega
  ·right
   simp only [dj]
   rw [brn hi]
   exact ⟨_,rfl,by dsimp only;omega,ha,hs.mono (by first|omega| (dsimp only;omega))⟩
end Go.AI.Fn
set_option linter.unusedVariables false
namespace Go.AI.Fn
theorem Wc {a:List UInt8} {i n:Int} (hl:a.length≤1048576) (hi0:0≤i) (hi1:i≤1099511627776) (hn:1<n): ∃x,FY a i n=some x∧0≤x∧x<n:=by
 unfold FY
 rw [brn om]
 by_cases c:((a.length:Nat):Int)=0
 ·rw [bre c,brd om,ae _ om om,ct _ _ om]
  exact ⟨_,rfl,Int.emod_nonneg _ om,Int.emod_lt_of_pos _ om⟩
 ·rw [aP c,brd c,ct _ _ hi0]
  have h1:=Int.emod_nonneg i c
  have h2:=Int.emod_lt_of_pos i (b:=(a.length:Int)) om
  obtain ⟨x,hx,_,_⟩:=DG (l:=a) h1 h2
  have h3:=Int.emod_nonneg (i+1) c
  have h4:=Int.emod_lt_of_pos (i+1) (b:=(a.length:Int)) om
  obtain ⟨y,hy,_,_⟩:=DG (l:=a) h3 h4
  have bx:=JL x
  have bz:=JL y
  have h5:0≤i/(a.length:Int):=Int.ediv_nonneg hi0 om
  have h6:i/(a.length:Int)≤i:=Int.ediv_le_self _ hi0
  rw [hx]
  simp only [obs]
  rw [brd c,ae (i+1) om om,ct _ _ om,hy]
  simp only [obs]
  rw [brd c,brd om,pT _ _ hi0]
  generalize i/((a.length:Nat):Int)=q at h5 h6 ⊢
  rw [ae q om om,ae (x.toNat:Int) om om,ae (y.toNat:Int) om om,ae ((x.toNat:Int)*31) om om,ae ((x.toNat:Int)*31+(y.toNat:Int)) om om,ae _ om om,ct _ _ om]
  exact ⟨_,rfl,Int.emod_nonneg _ om,Int.emod_lt_of_pos _ om⟩
def B3 (n:Int):List UInt8:=[UInt8.ofInt (eG .i64 n 24),UInt8.ofInt (eG .i64 n 16),UInt8.ofInt (eG .i64 n 8),UInt8.ofInt n]
def e8 (x:Ext):List UInt8:=B3 x.A++B3 x.B
theorem Gn (n:Int):(B3 n).length=4:=rfl
theorem a2g (n:Int):eG .i64 n 0=n:=by simp [eG]
theorem Jp (n:Int):iY n 4=some (B3 n):=by
 unfold iY
 rw [show IntKind.wrap .i64 (4-1)=3 by decide,
  dc (s':=([UInt8.ofInt (eG .i64 n 24)],2)) (by kernel_rfl),
  dc (s':=([UInt8.ofInt (eG .i64 n 24),UInt8.ofInt (eG .i64 n 16)],1)) (by kernel_rfl),
  dc (s':=([UInt8.ofInt (eG .i64 n 24),UInt8.ofInt (eG .i64 n 16),UInt8.ofInt (eG .i64 n 8)],0)) (by kernel_rfl),
  dc (s':=([UInt8.ofInt (eG .i64 n 24),UInt8.ofInt (eG .i64 n 16),UInt8.ofInt (eG .i64 n 8),UInt8.ofInt (eG .i64 n 0)], -1)) (by kernel_rfl),
  dn (e:=([UInt8.ofInt (eG .i64 n 24),UInt8.ofInt (eG .i64 n 16),UInt8.ofInt (eG .i64 n 8),UInt8.ofInt (eG .i64 n 0)], -1,false)) (by kernel_rfl),a2g]
 rfl
end Go.AI.Fn
set_option linter.unusedVariables false
set_option linter.unusedSimpArgs false
namespace Go.AI.Fn
end Go.AI.Fn
set_option linter.unusedVariables false
set_option linter.unusedSimpArgs false
namespace Go.AI.Fn
theorem Hv {α:Type} {p:α→Bool} {l:List α} {k:Nat} (hk:k<l.length) (h:p l[k]=true):l.any p=true:=List.any_eq_true.2 ⟨l[k],List.getElem_mem hk,h⟩
theorem UC {α:Type} {p:α→Bool} {l:List α} (h: ∀k (hk:k<l.length),p l[k]=false):l.any p=false:=by
 rw [List.any_eq_false]
 intro x hx
 obtain ⟨k,hk,rfl⟩:=List.getElem_of_mem hx
 simp [h k hk]
theorem CZ {α:Type} {p:α→Bool} {f:α→Option Bool} {l:List α} (hl:l.length≤1099511627776) (hf: ∀x∈l,f x=some (p x)) {step:Int→Option (Int⊕(Int⊕(Int×Bool)))}
 (hs: ∀t,step t=br (decide (t<((l.length:Nat):Int))) ((atL l t).bind fun x=>(f x).bind fun r=>br r (some (.inr (.inl t))) (some (.inl (IntKind.wrap .i64 (t+1))))) (some (.inr (.inr (t,decide (t<((l.length:Nat):Int))))))):
 ((Loop step 0).bind (alt (fun e=>some e) (fun _=>some (-1)))).bind (fun r=>some (decide (r≥0)))=some (l.any p):=by
 have key:=rP (step:=step) (fun k=>(k:Int)) l.length (fun k=> !((l[k]?.map p).getD false)) (fun k=> .inl (k:Int)) (e:= .inr ((l.length:Int),false)) (fun k hk hp=>by
  have hb:p l[k]=false:=by simpa [hk] using hp
  rw [hs,brd om,eJ hk,obs,hf _ (List.getElem_mem hk),obs,hb,aO,ae _ om om];rfl)
  (fun k hk hp=>by
   have hb:p l[k]=true:=by simpa [hk] using hp
   rw [hs,brd om,eJ hk,obs,hf _ (List.getElem_mem hk),obs,hb,bR])
  (by rw [hs,brn om,decide_eq_false om])
 rcases key with ⟨h1,h2⟩|⟨k,hk,h1,_,h2⟩
 ·have e:Loop step 0=some (.inr ((l.length:Int),false)):=h2
  rw [e,UC (fun k hk=>by simpa [hk] using h1 k hk)];rfl
 ·have e:Loop step 0=some (.inl (k:Int)):=h2
  rw [e,Hv hk (by simpa [hk] using h1)]
  simp only [obs,nW]
  rw [decide_eq_true om]
theorem FA {α:Type} (p:α→Bool) (l:List α):(!l.any fun x=> !p x)=l.all p:=by
 induction l with
 |nil=>rfl
 |cons x l ih=>simp only [List.any_cons,List.all_cons, ←ih];cases p x<;>simp
theorem p9 {l:List Int} (hl:l.length≤1099511627776):bJ l=some (l.all wh):=by
 unfold bJ aW ba
 rw [CZ (step:=aV l ((l.length:Nat):Int)) (p:=fun x=> !wh x) (f:=dp) hl (fun x _=>by unfold dp;rw [mi];rfl) (fun t=>rfl),obs,FA]
def nO (l:List Ext):Prop:= ∀x∈l,okE x
def de (l:List Int):Prop:= ∀x∈l,okF x
theorem nO.get {l:List Ext} (h:nO l) {k:Nat} (hk:k<l.length):okE l[k]:=h _ (List.getElem_mem hk)
theorem de.get {l:List Int} (h:de l) {k:Nat} (hk:k<l.length):okF l[k]:=h _ (List.getElem_mem hk)
theorem nO.app {l m:List Ext} (h:nO l) (h2:nO m):nO (l++m):=fun x hx=>(List.mem_append.1 hx).elim (h x) (h2 x)
theorem nO.nil:nO []:=fun x hx=>by cases hx
theorem nO.one {x:Ext} (h:okE x):nO [x]:=fun y hy=>by rw [List.mem_singleton.1 hy];exact h
theorem nO.map {α:Type} {f:α→Ext} (l:List α) (h: ∀x∈l,okE (f x)):nO (l.map f):=fun y hy=>by obtain ⟨x,hx,rfl⟩:=List.mem_map.1 hy;exact h x hx
theorem nO.take {l:List Ext} (h:nO l) (k:Nat):nO (l.take k):=fun x hx=>h x (List.mem_of_mem_take hx)
theorem nO.drop {l:List Ext} (h:nO l) (k:Nat):nO (l.drop k):=fun x hx=>h x (List.mem_of_mem_drop hx)
theorem a0H {l:List Ext} {k:Nat} (h:k<l.length):atL l (k:Int)=some (l.getD k e0):=by simp [atL,h]
theorem nO.getD {l:List Ext} (h:nO l) (k:Nat):okE (l.getD k e0):=by
 by_cases hk:k<l.length
 ·simp [hk];exact h.get hk
 ·simp [List.getElem?_eq_none (Nat.le_of_not_lt hk)];exact a0Q
end Go.AI.Fn
set_option linter.unusedVariables false
set_option linter.unusedSimpArgs false
namespace Go.AI.Fn
def pb (op:Int):Int:=if 4≤op∧op≤7 then 2 else if op=8 then 1 else 0
theorem Br (op:Int):cW op=some (pb op):=by
 unfold cW pb
 rw [ZX,obs]
 by_cases h1:4≤op∧op≤7
 ·rw [decide_eq_true h1,if_pos h1];rfl
 ·rw [decide_eq_false h1,if_neg h1,aO]
  by_cases h2:op=8
  ·rw [bre h2,if_pos h2]
  ·rw [aP h2,if_neg h2]
def aD (l:List ab) (op:Int):Nat:=l.countP fun g=>g.Op==op
theorem bO (l:List ab) (x:ab) (op:Int):aD (l++[x]) op=aD l op+(if (x.Op==op)=true then 1 else 0):=by
 simp only [aD,List.countP_append,List.countP_singleton]
theorem cM (l:List ab) (op:Int):aD l op≤l.length:=List.countP_le_length
theorem QH (b:Bool):va b=some (if b=true then 1 else 0):=by cases b<;>rfl
theorem uX {c:Circuit} {op:Int} (h:c.Gates.length≤1048576):eC c op=some (aD c.Gates op:Int):=by
 unfold eC
 have key:=cq (step:=eZ op c.Gates) (fun j=>((aD (c.Gates.take j) op:Int),(j:Int))) c.Gates.length (e:=((aD c.Gates op:Int),(c.Gates.length:Int),false)) (fun j hj=> ?_) ?_
 ·rw [show ((0:Int),(0:Int))=((aD (c.Gates.take 0) op:Int),((0:Nat):Int)) from rfl,key];rfl
 ·have hle:=cM (c.Gates.take j) op
  rw [List.length_take] at hle
  simp only [eZ]
  rw [brd om,eJ hj,obs,QH,obs,co hj,bO]
  cases hb:(c.Gates[j].Op==op)
  ·rw [if_neg (by simp),if_neg (by simp),ae _ om om,ae _ om om];simp
  ·rw [if_pos rfl,if_pos rfl,ae _ om om,ae _ om om];simp
 ·simp only [eZ]
  rw [brn om,decide_eq_false om,List.take_length]
def i6 (g:ab) (k:Int):Bool:=
 decide (1≤g.Op∧g.Op≤8)&&(br (decide (pb g.Op>0)) (decide (0≤g.A∧g.A≤k-1)) (g.A==0)&&(br (decide (pb g.Op>1)) (decide (0≤g.B∧g.B≤k-1)) (g.B==0)&&br (g.Op==3) (wh g.K) (g.K==0)))
def sL (l:List ab):Bool:=decide (1≤l.length∧l.length≤15)&&((List.range l.length).all (fun k=>((l[k]?.map fun g=>i6 g (k:Int)).getD false))&&decide ((aD l 2:Int)≤7))
structure OkC (l:List ab):Prop where
 n1:1≤l.length
 n2:l.length≤15
 g: ∀(k:Nat) (h:k<l.length),i6 l[k] (k:Int)=true
 p:aD l 2≤7
theorem EB {l:List ab} (h:sL l=true):OkC l:=by
 simp only [sL,Bool.and_eq_true,decide_eq_true_eq,List.all_eq_true,List.mem_range] at h
 obtain ⟨⟨h1,h2⟩,h3,h4⟩:=h
 exact ⟨h1,h2,fun k hk=>by simpa [hk] using h3 k hk,by omega⟩
def gvM (P I out:List Int) (p i:Nat) (g:ab):Int:=
 if g.Op=1 then I.getD i 0 else if g.Op=2 then P.getD p 0 else if g.Op=3 then g.K else if g.Op=4 then aF (out.getD g.A.toNat 0) (out.getD g.B.toNat 0)
 else if g.Op=5 then sF (out.getD g.A.toNat 0) (out.getD g.B.toNat 0) else if g.Op=6 then mF (out.getD g.A.toNat 0) (out.getD g.B.toNat 0) else out.getD g.A.toNat 0
def rnM (P I:List Int) (l:List ab):Nat→List Int
 |0=>[]
 |j+1=>rnM P I l j++[gvM P I (rnM P I l j) (aD (l.take j) 2) (aD (l.take j) 1) (l.getD j ⟨0,0,0,0⟩)]
theorem iH (P I:List Int) (l:List ab): ∀j,(rnM P I l j).length=j
 |0=>rfl
 |j+1=>by rw [rnM,List.length_append,iH P I l j];rfl
theorem kH {g:ab} {k:Int} (h:i6 g k=true):(1≤g.Op∧g.Op≤8)∧(4≤g.Op→0≤g.A∧g.A≤k-1)∧(4≤g.Op→g.Op≤7→0≤g.B∧g.B≤k-1)∧(g.Op=3→okF g.K):=by
 simp only [i6,Bool.and_eq_true,decide_eq_true_eq] at h
 obtain ⟨h1,h2,h3,h4⟩:=h
 refine ⟨h1,fun h=> ?_,fun h g7=> ?_,fun h=> ?_⟩
 ·rw [brd (by
   unfold pb
   split
   ·omega
   ·split<;>omega)] at h2
  exact of_decide_eq_true h2
 ·rw [brd (by unfold pb;rw [if_pos ⟨h,g7⟩];omega)] at h3
  exact of_decide_eq_true h3
 ·rw [bre h] at h4
  exact pj.1 h4
theorem dV {l:List ab} {j:Nat} {op:Int} (hj:j<l.length) (h:l[j].Op=op):aD (l.take j) op<aD l op:=by
 have h1:aD (l.take (j+1)) op≤aD l op:=List.Sublist.countP_le (List.take_sublist _ _)
 rw [co hj,bO,if_pos (by simp [h])] at h1
 omega
theorem jv {l:List Int} {k:Nat} (h:k<l.length):atL l (k:Int)=some (l.getD k 0):=by rw [eJ h];simp [h]
theorem dw {l:List Int} {k:Nat} (h:k<l.length):l[k]? =some (l.getD k 0):=by simp [h]
theorem cS {l:List Int} (h:de l) {k:Nat} (hk:k<l.length):okF (l.getD k 0):=by
 have:l.getD k 0=l[k]:=by simp [hk]
 rw [this];exact h _ (List.getElem_mem hk)
theorem X6 {P I o:List Int} {p i:Nat} {g:ab} (hP:de P) (hI:de I) (ho:de o) (hg:i6 g (o.length:Int)=true) (hp:g.Op=2→p<P.length) (hi:g.Op=1→i<I.length):okF (gvM P I o p i g):=by
 obtain ⟨h1,h2,h3,h4⟩:=kH hg
 unfold gvM
 split
 ·rename_i h;exact cS hI (hi h)
 split
 ·rename_i h;exact cS hP (hp h)
 split
 ·rename_i h;exact h4 h
 have a:=h2 om
 split
 ·have b:=h3 om om;exact Bm _ _
 split
 ·have b:=h3 om om;exact W6 _ _
 split
 ·exact BN _ _
 ·exact cS ho om
theorem xa {P I:List Int} {l:List ab} (ok:OkC l) (hP:de P) (hI:de I) (lP:P.length=aD l 2) (lI:I.length=aD l 1): ∀j,j≤l.length→de (rnM P I l j)
 |0,_=>fun x hx=>by cases hx
 |j+1,h=>by
  have ih:=xa ok hP hI lP lI j om
  have hj:j<l.length:=by omega
  have hd:l.getD j ⟨0,0,0,0⟩=l[j]:=by simp [hj]
  intro x hx
  rw [rnM,hd,List.mem_append,List.mem_singleton] at hx
  rcases hx with hx|rfl
  ·exact ih x hx
  ·exact X6 hP hI ih (by rw [iH];exact ok.g j hj) (fun h=>by rw [lP];exact dV hj h) (fun h=>by rw [lI];exact dV hj h)
theorem G8 {c:Circuit} {P I:List Int} (ok:OkC c.Gates) (hP:de P) (hI:de I) (lP:P.length=aD c.Gates 2) (lI:I.length=aD c.Gates 1):sK c P I=some (rnM P I c.Gates c.Gates.length):=by
 have hn:=ok.n2
 unfold sK
 have key:=cq (step:=hZ P I c.Gates) (fun j=>(rnM P I c.Gates j,(aD (c.Gates.take j) 2:Int),(aD (c.Gates.take j) 1:Int),(j:Int))) c.Gates.length (e:=(rnM P I c.Gates c.Gates.length,(aD c.Gates 2:Int),(aD c.Gates 1:Int),(c.Gates.length:Int),false)) (fun j hj=> ?_) ?_
 ·have:((rnM P I c.Gates 0,(aD (c.Gates.take 0) 2:Int),(aD (c.Gates.take 0) 1:Int),((0:Nat):Int)):List Int×Int×Int×Int)=([],0,0,0):=rfl
  rw [←this,key];rfl
 ·have hd:c.Gates.getD j ⟨0,0,0,0⟩=c.Gates[j]:=by simp [hj]
  obtain ⟨g1,g2,g3,g4⟩:=kH (ok.g j hj)
  have l2:=cM (c.Gates.take j) 2
  have l1:=cM (c.Gates.take j) 1
  rw [List.length_take] at l1 l2
  have hro:=xa ok hP hI lP lI j om
  have hrl:=iH P I c.Gates j
  have t2:=dV (op:=2) hj
  have t1:=dV (op:=1) hj
  simp only [hZ]
  rw [brd om,eJ hj,obs,co hj,bO,bO,rnM,hd]
  generalize c.Gates[j]=g at*
  generalize rnM P I c.Gates j=o at*
  have hfit: ∀v:Int,(o++[v]).length*8≤1099511627776:=fun v=>by rw [List.length_append,hrl];simp;omega
  have hop:g.Op=1∨g.Op=2∨g.Op=3∨g.Op=4∨g.Op=5∨g.Op=6∨7≤g.Op:=by omega
  rcases hop with h|h|h|h|h|h|h
  ·rw [bre h,jv (by have:=t1 h;omega),obs,bh (hfit _),ae _ om om,ae _ om om]
   simp [gvM,h]
  ·rw [aP om,bre h,jv (by have:=t2 h;omega),obs,bh (hfit _),ae _ om om,ae _ om om]
   simp [gvM,h]
  ·rw [aP om,aP om,bre h,bh (hfit _),ae _ om om]
   simp [gvM,h]
  ·have a:=g2 om
   have b:=g3 om om
   rw [aP om,aP om,aP om,bre h,brd a.1,brd om,dw om,obs,brd b.1,brd om,dw om,obs,O9 (cS hro om) (cS hro om),obs,bh (hfit _),ae _ om om]
   simp [gvM,h]
  ·have a:=g2 om
   have b:=g3 om om
   rw [aP om,aP om,aP om,aP om,bre h,brd a.1,brd om,dw om,obs,brd b.1,brd om,dw om,obs,Ra (cS hro om) (cS hro om),obs,bh (hfit _),ae _ om om]
   simp [gvM,h]
  ·have a:=g2 om
   have b:=g3 om om
   rw [aP om,aP om,aP om,aP om,aP om,bre h,brd a.1,brd om,dw om,obs,brd b.1,brd om,dw om,obs,Qi (cS hro om) (cS hro om),obs,bh (hfit _),ae _ om om]
   simp [gvM,h]
  ·have a:=g2 om
   rw [aP om,aP om,aP om,aP om,aP om,aP om,brd a.1,brd om,dw om,obs,bh (hfit _),ae _ om om]
   have e1:(g.Op==1)=false:=by simp;omega
   have e2:(g.Op==2)=false:=by simp;omega
   rw [e1,e2,gvM,if_neg om,if_neg om,if_neg om,if_neg om,if_neg om,if_neg om]
   simp
 ·simp only [hZ]
  rw [brn om,decide_eq_false om,List.take_length]
def en (v:List Int) (g:ab):Bool:=br (g.Op==7) (v.getD g.A.toNat 0==v.getD g.B.toNat 0) true&&br (g.Op==8) (decide (v.getD g.A.toNat 0≤1)) true
theorem DK {l:List Int} {i:Int} (h0:0≤i) (h1:i.toNat<l.length):atL l i=some (l.getD i.toNat 0):=by
 have:i=((i.toNat:Nat):Int):=by omega
 conv=>lhs;rw [this]
 exact jv h1
theorem CV {c:Circuit} {v:List Int} (ok:OkC c.Gates) (hv:v.length=c.Gates.length):pd c v=some (c.Gates.all (en v)):=by
 have hn:=ok.n2
 unfold pd
 have stp: ∀k (hk:k<c.Gates.length),da v c.Gates (k:Int)=if en v c.Gates[k]=true then some (.inl ((k+1:Nat):Int)) else some (.inr (.inl (c.Gates[k].Op,c.Gates[k].A,c.Gates[k].B,c.Gates[k].K))):=fun k hk=>by
  obtain ⟨g1,g2,g3,g4⟩:=kH (ok.g k hk)
  simp only [da]
  rw [brd om,eJ hk,obs]
  generalize c.Gates[k]=g at*
  have e:IntKind.wrap .i64 ((k:Int)+1)=((k+1:Nat):Int):=by rw [ae _ om om];omega
  by_cases h7:g.Op=7
  ·have a:=g2 om
   have b:=g3 om om
   rw [bre h7,DK a.1 om,obs,DK b.1 om,obs,aP (by omega:g.Op≠8),en,bre h7,aP (by omega:g.Op≠8),Bool.and_true,e]
   by_cases h:v.getD g.A.toNat 0=v.getD g.B.toNat 0
   ·rw [rr h,if_pos (by simpa using h)]
   ·rw [brb h,if_neg (by simpa using h)]
  ·rw [aP h7,en,aP h7,Bool.true_and]
   by_cases h8:g.Op=8
   ·have a:=g2 om
    rw [bre h8,bre h8,DK a.1 om,obs,e]
    by_cases h:v.getD g.A.toNat 0>1
    ·rw [brd h,decide_eq_false om,if_neg (by simp)]
    ·rw [brn h,decide_eq_true om,if_pos rfl]
   ·rw [aP h8,aP h8,if_pos rfl,e]
 have key:=rP (step:=da v c.Gates) (fun k=>(k:Int)) c.Gates.length (fun k=>((c.Gates[k]?.map (en v)).getD false)) (fun k=> .inl ((c.Gates.getD k ⟨0,0,0,0⟩).Op,(c.Gates.getD k ⟨0,0,0,0⟩).A,(c.Gates.getD k ⟨0,0,0,0⟩).B,(c.Gates.getD k ⟨0,0,0,0⟩).K)) (e:= .inr ((c.Gates.length:Int),false)) (fun k hk hp=>by
  have hb:en v c.Gates[k]=true:=by simpa [hk] using hp
  rw [stp k hk,if_pos hb])
  (fun k hk hp=>by
   have hb:en v c.Gates[k]=false:=by simpa [hk] using hp
   have hd:c.Gates.getD k ⟨0,0,0,0⟩=c.Gates[k]:=by simp [hk]
   rw [stp k hk,if_neg (by rw [hb];simp),hd])
  (by simp only [da];rw [brn om,decide_eq_false om])
 rcases key with ⟨h2,h3⟩|⟨k,hk,h2,_,h3⟩
 ·have e:Loop (da v c.Gates) 0=some (.inr ((c.Gates.length:Int),false)):=h3
  have ha:c.Gates.all (en v)=true:=List.all_eq_true.2 fun x hx=>by
   obtain ⟨k,hk,rfl⟩:=List.getElem_of_mem hx
   simpa [hk] using h2 k hk
  rw [e,ha,obs,qt]
 ·have ha:c.Gates.all (en v)=false:=List.all_eq_false.2 ⟨c.Gates[k],List.getElem_mem hk,by simpa [hk] using h2⟩
  have h4:Loop (da v c.Gates) 0=_:=h3
  rw [h4,ha,obs,nW]
def prM (v:List Int) (l:List ab):Nat→List Int
 |0=>[]
 |j+1=>prM v l j++(if (l.getD j ⟨0,0,0,0⟩).Op=2 then [] else [v.getD j 0])
theorem sX (v:List Int) (l:List ab): ∀j,j≤l.length→(prM v l j).length+aD (l.take j) 2=j
 |0,_=>rfl
 |j+1,h=>by
  have hj:j<l.length:=by omega
  have ih:=sX v l j om
  have hd:l.getD j ⟨0,0,0,0⟩=l[j]:=by simp [hj]
  rw [prM,co hj,bO,List.length_append,hd]
  by_cases h2:l[j].Op=2
  ·rw [if_pos h2,if_pos (by simp [h2])];simp;omega
  ·rw [if_neg h2,if_neg (by simp [h2])];simp;omega
theorem Hd {v:List Int} {l:List ab} (hv:de v) (hl:v.length=l.length): ∀j,j≤l.length→de (prM v l j)
 |0,_=>fun x hx=>by cases hx
 |j+1,h=>by
  have ih:=Hd hv hl j om
  intro x hx
  rw [prM,List.mem_append] at hx
  rcases hx with hx|hx
  ·exact ih x hx
  ·split at hx
   ·cases hx
   ·rw [List.mem_singleton] at hx;subst hx;exact cS hv om
end Go.AI.Fn
set_option linter.unusedVariables false
set_option linter.unusedSimpArgs false
namespace Go.AI.Fn
end Go.AI.Fn
set_option linter.unusedVariables false
set_option linter.unusedSimpArgs false
namespace Go.AI.Fn
theorem yY {k:Nat} (h:k≤62):bo .i64 1 (k:Int)=((2^k:Nat):Int):=by
 have h2: ∀k:Nat,k<63→(2:Int)^k≤4611686018427387904∧0<(2:Int)^k:=by decide
 obtain ⟨h3,h4⟩:=h2 k om
 show IntKind.wrap .i64 (1*2^(min ((k:Int).toNat) 64))=_
 rw [Int.toNat_natCast,Nat.min_eq_left om,Int.one_mul,ae _ om om]
 simp
def wG (h n:Nat) (pub priv:List Int):List Int:=((1::pub)++List.replicate (h-1-pub.length) 0)++(priv++List.replicate (n-h-priv.length) 0)
theorem Q5 {h n:Nat} {pub priv:List Int} (h1:pub.length+1≤h) (h2:priv.length≤n-h) (h3:h≤n):(wG h n pub priv).length=n:=by simp [wG];omega
theorem Jt {l r:List Int} {s:Nat} (h:s+r.length≤l.length):pl l s r.length r=l.take s++(r++l.drop (s+r.length)):=by
 rw [pl,List.take_length]
theorem MM {h n:Nat} {pub priv:List Int} (h1:pub.length+1≤h) (h2:priv.length≤n-h) (h3:h≤n):
 pl (pl ((List.replicate n (0:Int)).set 0 1) 1 pub.length pub) h priv.length priv=wG h n pub priv:=by
 obtain ⟨m,rfl⟩: ∃m,n=m+1:=⟨n-1,by omega⟩
 have e1:(List.replicate (m+1) (0:Int)).set 0 1=1::List.replicate m 0:=by rw [List.replicate_succ];rfl
 have e2:pl (1::List.replicate m (0:Int)) 1 pub.length pub=1::(pub++List.replicate (m-pub.length) 0):=by
  rw [Jt (by simp;omega),Nat.add_comm 1];simp
 rw [e1,e2,Jt (by simp;omega),wG]
 have e3:(1::(pub++List.replicate (m-pub.length) (0:Int))).take h=(1::pub)++List.replicate (h-1-pub.length) 0:=by
  obtain ⟨q,rfl⟩: ∃q,h=q+1:=⟨h-1,by omega⟩
  rw [List.take_succ_cons,List.take_append,List.take_of_length_le om,List.take_replicate,Nat.min_eq_left om]
  simp
 have e4:(1::(pub++List.replicate (m-pub.length) (0:Int))).drop (h+priv.length)=List.replicate (m+1-h-priv.length) 0:=by
  obtain ⟨q,rfl⟩: ∃q,h=q+1:=⟨h-1,by omega⟩
  rw [show q+1+priv.length=(q+priv.length)+1 by omega,List.drop_succ_cons,List.drop_append,List.drop_eq_nil_of_le om,List.nil_append,List.drop_replicate]
  congr 1;omega
 rw [e3,e4]
def Av (s:aX):Nat:=2^(s.Cols.toNat-1)
theorem z8 {s:aX} (h:vZ s=true):2≤s.Cols.toNat∧s.Cols.toNat≤5∧s.Cols=(s.Cols.toNat:Int):=by
 obtain ⟨_,h2,_⟩:=wj h;omega
theorem PW {s:aX} (h:vZ s=true):2^s.Cols.toNat=2*Av s:=by
 obtain ⟨h1,_⟩:=z8 h
 rw [Av, ←Nat.pow_succ'];congr 1;omega
theorem wx: ∀k:Nat,k≤5→1≤2^k∧2^k≤32:=by decide
theorem Bg {s:aX} (h:vZ s=true):bW s=some (Av s:Int):=by
 obtain ⟨h1,h2,h3⟩:=z8 h
 unfold bW
 rw [ae _ om om,brd om,show s.Cols-1=((s.Cols.toNat-1:Nat):Int) by omega,yY om];rfl
theorem Ed {s:aX} (h:vZ s=true) {pub priv:List Int} (h1:pub.length+1≤Av s) (h2:priv.length≤Av s):fQ s pub priv=some (wG (Av s) (2^s.Cols.toNat) pub priv):=by
 obtain ⟨c1,c2,c3⟩:=z8 h
 have hh:=PW h
 have hb:=wx s.Cols.toNat c2
 unfold fQ
 rw [brd om,c3,yY om, ←c3]
 simp only [Int.toNat_natCast,List.length_replicate]
 have hn0:0<(List.replicate (2^s.Cols.toNat) (0:Int)).length:=by rw [List.length_replicate];omega
 rw [Wb om om om,brd om,jw hn0,brd om,brd om,Bg h,obs,AR om om,brd om]
 simp only [Int.toNat_natCast]
 rw [Nat.min_eq_left om,Nat.min_eq_left om,MM h1 om om]
theorem Ug {h n:Nat} {pub priv:List Int} (h1:de pub) (h2:de priv):de (wG h n pub priv):=by
 intro x hx
 simp only [wG,List.mem_append,List.mem_cons,List.mem_replicate] at hx
 rcases hx with ((rfl|hx)|⟨_,rfl⟩)|hx|⟨_,rfl⟩
 ·exact a2p
 ·exact h1 x hx
 ·exact W0
 ·exact h2 x hx
 ·exact W0
end Go.AI.Fn
set_option linter.unusedVariables false
set_option linter.unusedSimpArgs false
namespace Go.AI.Fn
def lgM (m:Int):Nat:=if m≤2 then 2 else if m≤4 then 3 else if m≤8 then 4 else 5
def lgC (l:List ab):Nat:=lgM (mx ((aD l 2:Int)+1) ((l.length:Int)-(aD l 2:Int)))
theorem YP (m:Int):2≤lgM m∧lgM m≤5:=by
 unfold lgM
 split
 ·omega
 ·split
  ·omega
  ·split<;>omega
theorem U9 {m:Int} (h:m≤15):m≤((2^(lgM m-1):Nat):Int):=by
 unfold lgM
 split
 ·simpa
 ·split
  ·simpa
  ·split
   ·simpa
   ·simp;omega
def oS (l:List ab) (j:Nat):Int:=if (l.getD j ⟨0,0,0,0⟩).Op=2 then (aD (l.take j) 2:Int)+1 else ((2^(lgC l-1):Nat):Int)+((j:Int)-(aD (l.take j) 2:Int))
def dq (l:List ab) (n:Nat):List Int:=(List.range n).map (oS l)
theorem Bc (l:List ab) (n:Nat):(dq l n).length=n:=by simp [dq]
theorem ID (l:List ab) (n:Nat):dq l (n+1)=dq l n++[oS l n]:=by simp [dq,List.range_succ]
end Go.AI.Fn
set_option linter.unusedVariables false
set_option linter.unusedSimpArgs false
namespace Go.AI.Fn
def enP (row col:Int) (e:ah):Bool:=decide (e.Row=row)&&decide (e.Col>col)
def enR (row col v:Int):List ah→List ah
 |[]=>[⟨row,col,v⟩]
 |e::R=>if enP row col e=true then e::enR row col v R
  else if e.Row=row∧e.Col=col then (if aF e.Value v=0 then R else ⟨row,col,aF e.Value v⟩::R)
  else ⟨row,col,v⟩::e::R
def enM (L:List ah) (row col v:Int):List ah:=(enR row col v L.reverse).reverse
theorem Js {row col v:Int} {R:List ah}: ∀{T:List ah},(∀e∈T,enP row col e=true)→enR row col v (T++R)=T++enR row col v R
 |[],_=>rfl
 |e::T,h=>by
  rw [List.cons_append,enR,if_pos (h e (by simp)),Js fun x hx=>h x (by simp [hx])];rfl
theorem Od (row col:Int) (L:List ah): ∃A T,L=A++T∧(∀e∈T,enP row col e=true)∧(A=[]∨ ∃B e,A=B++[e]∧enP row col e=false):=by
 refine ⟨(L.reverse.dropWhile (enP row col)).reverse,(L.reverse.takeWhile (enP row col)).reverse, ?_, ?_, ?_⟩
 ·rw [←List.reverse_append,List.takeWhile_append_dropWhile,List.reverse_reverse]
 ·intro e he
  rw [List.mem_reverse] at he
  have: ∀(l:List ah), ∀e∈l.takeWhile (enP row col),enP row col e=true:=by
   intro l
   induction l with
   |nil=>intro e he;cases he
   |cons x l ih=>
    intro e he
    rw [List.takeWhile_cons] at he
    split at he
    ·rename_i hx
     rcases List.mem_cons.1 he with rfl|he
     ·exact hx
     ·exact ih e he
    ·cases he
  exact this _ e he
 ·have: ∀(l:List ah),l.dropWhile (enP row col)=[]∨ ∃x r,l.dropWhile (enP row col)=x::r∧enP row col x=false:=by
   intro l
   induction l with
   |nil=>exact .inl rfl
   |cons x l ih=>
    rw [List.dropWhile_cons]
    split
    ·exact ih
    ·rename_i hx;exact .inr ⟨x,l,rfl,by simpa using hx⟩
  rcases this L.reverse with h|⟨x,r,h,hx⟩
  ·exact .inl (by rw [h];rfl)
  ·exact .inr ⟨r.reverse,x,by rw [h,List.reverse_cons],hx⟩
theorem Bs {row col v:Int} {A T:List ah} (h: ∀e∈T,enP row col e=true):enM (A++T) row col v=enM A row col v++T:=by
 unfold enM
 rw [List.reverse_append,Js (fun e he=>h e (by simpa using he)),List.reverse_append,List.reverse_reverse]
end Go.AI.Fn
set_option linter.unusedVariables false
set_option linter.unusedSimpArgs false
namespace Go.AI.Fn
abbrev xo (a b:Int):Int:=jD .u64 a b
def rot (x s:Int):Int:=if s=0 then x else vp .u64 (bo .u64 x s) (eG .u64 x (64-s))
def Da (x:Int):Prop:=0≤x∧x<18446744073709551616
theorem BW (x:Int):Da (IntKind.wrap .u64 x):=by
 unfold Da;simp [IntKind.wrap,IntKind.bits,IntKind.signed];omega
theorem a0U (a b:Int):Da (xo a b):=BW _
theorem NQ {x:Int} (h:Da x):((BitVec.ofInt 64 x).toNat:Int)=x:=by
 obtain ⟨h0,h1⟩:=h
 rw [BitVec.toNat_ofInt];omega
theorem vL {a:Int} (h:Da a):xo 0 a=a:=by
 show IntKind.wrap .u64 _=a
 have:(BitVec.ofInt 64 0^^^BitVec.ofInt 64 a)=BitVec.ofInt 64 a:=by simp
 show IntKind.wrap .u64 ((BitVec.ofInt 64 0^^^BitVec.ofInt 64 a).toNat:Int)=a
 rw [this,NQ h,pF a h.1 h.2]
theorem VA (x y:Int):Cu .u64 x y=bi .u64 (bu .u64 y) x:=by
 show IntKind.wrap .u64 ((BitVec.ofInt 64 x&&& ~~~ BitVec.ofInt 64 y).toNat:Int)=IntKind.wrap .u64 ((BitVec.ofInt 64 (bu .u64 y)&&&BitVec.ofInt 64 x).toNat:Int)
 have h:BitVec.ofInt 64 (bu .u64 y)= ~~~ BitVec.ofInt 64 y:=by
  show BitVec.ofInt 64 (IntKind.wrap .u64 ((BitVec.ofInt 64 18446744073709551615^^^BitVec.ofInt 64 y).toNat:Int))=_
  have e:(BitVec.ofInt 64 18446744073709551615^^^BitVec.ofInt 64 y)= ~~~ BitVec.ofInt 64 y:=by
   rw [show BitVec.ofInt 64 18446744073709551615=BitVec.allOnes 64 by decide,BitVec.allOnes_xor]
  rw [e,pF _ om (by have:=(~~~ BitVec.ofInt 64 y).isLt;omega)]
  rw [BitVec.ofInt_natCast,BitVec.ofNat_toNat];simp
 rw [h,BitVec.and_comm]
theorem JJ {x s:Int} (hs:0≤s∧s<64):mM x s=some (rot x s):=by
 unfold mM rot
 by_cases h:s=0
 ·rw [bre h,if_pos h]
 ·rw [aP h,if_neg h,brd hs.1,pF (64-s) om om,brd om]
end Go.AI.Fn
set_option linter.unusedVariables false
set_option linter.unusedSimpArgs false
namespace Go.AI.Fn
abbrev g (l:List Int) (i:Int):Int:=l.getD i.toNat 0
def n7:List Int:=[0,1,62,28,27,36,44,6,55,20,3,10,43,25,39,41,45,15,21,8,18,2,61,56,14]
theorem NF: ∀k:Nat,k<25→0≤n7.getD k 0∧n7.getD k 0<64:=by decide
def p2 (m:List Int) (k:Nat) (l:List Int):List Int:=l.set ((k:Int)%5).toNat (xo (g l ((k:Int)%5)) (g m k))
def p3 (m c:List Int) (k:Nat) (l:List Int):List Int:=
 l.set ((k:Int)/5+5*((2*((k:Int)%5)+3*((k:Int)/5))%5)).toNat (rot (xo (g m k) (xo (g c (((k:Int)%5+4)%5)) (rot (g c (((k:Int)%5+1)%5)) 1))) (g n7 k))
def p4 (b:List Int) (k:Nat) (l:List Int):List Int:=
 l.set k (xo (g b k) (Cu .u64 (g b ((k:Int)-(k:Int)%5+((k:Int)%5+2)%5)) (g b ((k:Int)-(k:Int)%5+((k:Int)%5+1)%5))))
def q2 (m:List Int) (k:Nat) (l:List Int):List Int:=l.set k (xo (xo (xo (xo (g m k) (g m ((k:Int)+5))) (g m ((k:Int)+10))) (g m ((k:Int)+15))) (g m ((k:Int)+20)))
def q3 (c:List Int) (k:Nat) (l:List Int):List Int:=l.set k (xo (g l k) (xo (g c (((k:Int)+4)%5)) (rot (g c (((k:Int)+1)%5)) 1)))
def q5 (m:List Int) (x:Int) (y:Nat) (l:List Int):List Int:=l.set ((y:Int)+5*((2*x+3*(y:Int))%5)).toNat (rot (g m (x+5*(y:Int))) (g n7 (x+5*(y:Int))))
def q4 (m:List Int) (x:Nat) (l:List Int):List Int:=iU (q5 m x) 5 l
def q7 (b:List Int) (x:Int) (y:Nat) (l:List Int):List Int:=l.set (x+5*(y:Int)).toNat (xo (g b (x+5*(y:Int))) (bi .u64 (bu .u64 (g b ((x+1)%5+5*(y:Int)))) (g b ((x+2)%5+5*(y:Int)))))
def q6 (b:List Int) (x:Nat) (l:List Int):List Int:=iU (q7 b x) 5 l
theorem Wy (m c:List Int) (k:Nat) (l:List Int):(iU (p3 m c) k l).length=l.length:=nh (fun _ _=>List.length_set) k l
theorem Pj (b:List Int) (k:Nat) (l:List Int):(iU (p4 b) k l).length=l.length:=nh (fun _ _=>List.length_set) k l
theorem H4 (m:List Int) (k:Nat) (l:List Int):(iU (q2 m) k l).length=l.length:=nh (fun _ _=>List.length_set) k l
theorem zO (c:List Int) (k:Nat) (l:List Int):(iU (q3 c) k l).length=l.length:=nh (fun _ _=>List.length_set) k l
theorem Ro (m:List Int) (x:Int) (k:Nat) (l:List Int):(iU (q5 m x) k l).length=l.length:=nh (fun _ _=>List.length_set) k l
theorem QA (m:List Int) (x:Int) (k:Nat) (l:List Int):(iU (q7 m x) k l).length=l.length:=nh (fun _ _=>List.length_set) k l
theorem GH (m:List Int) (k:Nat) (l:List Int):(iU (q4 m) k l).length=l.length:=nh (fun x l=>Ro m x 5 l) k l
theorem Pz (m:List Int) (k:Nat) (l:List Int):(iU (q6 m) k l).length=l.length:=nh (fun x l=>QA m x 5 l) k l
theorem U4 {m5 m6 m7 m8:List Int} {t2:Int} (h:m5.length=25):Loop (dI m5 m6 m7 m8 t2) (nZ 5,0)=some (iU (q2 m5) 5 (nZ 5),5,false):=
 cq (fun k=>(iU (q2 m5) k (nZ 5),(k:Int))) 5 (fun k hk=>by
  have hl:=H4 m5 k (nZ 5)
  rw [oC] at hl
  simp only [dI]
  simp (disch:=omega) only [brd,ct,AR,jw,ae]
  simp only [iU,q2,Int.toNat_natCast,Bq]
  rfl) (by
  simp (disch:=omega) only [dI,brn];rfl)
theorem N5 (k:Nat) (hk:k<25):0≤n7.getD k 0∧n7.getD k 0<64:=NF k hk
theorem Bp:n7.length=25:=rfl
theorem Vt {m11 m12 m13 c m:List Int} {t4:Int} (h:m.length=25) (hc:c.length=5):Loop (dB m11 m12 m13 c t4) (m,0)=some (iU (q3 c) 25 m,25,false):=
 cq (fun k=>(iU (q3 c) k m,(k:Int))) 25 (fun k hk=>by
  have hl:=zO c k m
  simp only [dB]
  simp (disch:=omega) only [brd,ct,pT,AR,jw,ae]
  rw [JJ ⟨by decide,by decide⟩]
  simp only [obs]
  rfl) (by
  simp (disch:=omega) only [dB,brn];rfl)
theorem Vu {a m22 m23 m25 m:List Int} {t8:Int} {x:Nat} (hx:x<5) (h:m.length=25) (ha:a.length=25):Loop (dE a m22 m23 n7 m25 t8 x) (m,0)=some (iU (q5 a x) 5 m,5,false):=
 cq (fun k=>(iU (q5 a x) k m,(k:Int))) 5 (fun k hk=>by
  have hl:=Ro a x k m
  have hs:=N5 ((x:Int)+5*(k:Int)).toNat om
  have hs1:=Bp
  simp only [dE]
  simp (disch:=omega) only [brd,ct,pT,AR,jw,ae]
  rw [JJ hs]
  simp only [obs]
  rfl) (by
  simp (disch:=omega) only [dE,brn];rfl)
theorem Vn {a m16 m17 m19 m:List Int} {t6:Int} (h:m.length=25) (ha:a.length=25):Loop (dD a m16 m17 n7 m19 t6) (m,0)=some (iU (q4 a) 5 m,5,false):=
 cq (fun k=>(iU (q4 a) k m,(k:Int))) 5 (fun k hk=>by
  have hl:=GH a k m
  simp only [dD]
  rw [brd om,Vu hk om ha,obs,ae _ om om]
  rfl) (by
  simp (disch:=omega) only [dD,brn];rfl)
theorem TC {m34 m35 m36 m37 b m:List Int} {t13:Int} {x:Nat} (hx:x<5) (h:m.length=25) (hb:b.length=25):Loop (dA m34 m35 m36 m37 b t13 x) (m,0)=some (iU (q7 b x) 5 m,5,false):=
 cq (fun k=>(iU (q7 b x) k m,(k:Int))) 5 (fun k hk=>by
  have hl:=QA b x k m
  simp only [dA]
  simp (disch:=omega) only [brd,ct,pT,AR,jw,ae]
  rfl) (by
  simp (disch:=omega) only [dA,brn];rfl)
theorem Vm {m28 m29 m30 m31 b m:List Int} {t11:Int} (h:m.length=25) (hb:b.length=25):Loop (dG m28 m29 m30 m31 b t11) (m,0)=some (iU (q6 b) 5 m,5,false):=
 cq (fun k=>(iU (q6 b) k m,(k:Int))) 5 (fun k hk=>by
  have hl:=Pz b k m
  simp only [dG]
  rw [brd om,TC hk om hb,obs,ae _ om om]
  rfl) (by
  simp (disch:=omega) only [dG,brn];rfl)
def sw (m:List Int) (rc:Int):List Int:=
 let c:=iU (p2 m) 25 (nZ 5)
 let b:=iU (p3 m c) 25 (nZ 25)
 let r:=iU (p4 b) 25 m
 r.set 0 (xo (r.getD 0 0) rc)
def Is (m:List Int) (rc:Int):List Int:=
 let c:=iU (q2 m) 5 (nZ 5)
 let a:=iU (q3 c) 25 m
 let b:=iU (q4 a) 5 (nZ 25)
 let r:=iU (q6 b) 5 a
 r.set 0 (xo (r.getD 0 0) rc)
end Go.AI.Fn
set_option linter.unusedVariables false
set_option linter.unusedSimpArgs false
namespace Go.AI.Fn
theorem bn {l:List Int} {n:Nat} (h:l.length=n+1): ∃a r,l=a::r∧r.length=n:=by
 cases l with
 |nil=>simp at h
 |cons a r=>exact ⟨a,r,rfl,by simpa using h⟩
theorem VK {l:List Int} (h:l.length=0):l=[]:=List.eq_nil_of_length_eq_zero h
theorem Ff {l:List Int} (h:l.length=25): ∃a0 a1 a2 a3 a4 a5 a6 a7 a8 a9 a10 a11 a12 a13 a14 a15 a16 a17 a18 a19 a20 a21 a22 a23 a24,l=[a0,a1,a2,a3,a4,a5,a6,a7,a8,a9,a10,a11,a12,a13,a14,a15,a16,a17,a18,a19,a20,a21,a22,a23,a24]:=by
 obtain ⟨a0,r0,rfl,h0⟩:=bn h
 obtain ⟨a1,r1,rfl,h1⟩:=bn h0
 obtain ⟨a2,r2,rfl,h2⟩:=bn h1
 obtain ⟨a3,r3,rfl,h3⟩:=bn h2
 obtain ⟨a4,r4,rfl,h4⟩:=bn h3
 obtain ⟨a5,r5,rfl,h5⟩:=bn h4
 obtain ⟨a6,r6,rfl,h6⟩:=bn h5
 obtain ⟨a7,r7,rfl,h7⟩:=bn h6
 obtain ⟨a8,r8,rfl,h8⟩:=bn h7
 obtain ⟨a9,r9,rfl,h9⟩:=bn h8
 obtain ⟨a10,r10,rfl,h10⟩:=bn h9
 obtain ⟨a11,r11,rfl,h11⟩:=bn h10
 obtain ⟨a12,r12,rfl,h12⟩:=bn h11
 obtain ⟨a13,r13,rfl,h13⟩:=bn h12
 obtain ⟨a14,r14,rfl,h14⟩:=bn h13
 obtain ⟨a15,r15,rfl,h15⟩:=bn h14
 obtain ⟨a16,r16,rfl,h16⟩:=bn h15
 obtain ⟨a17,r17,rfl,h17⟩:=bn h16
 obtain ⟨a18,r18,rfl,h18⟩:=bn h17
 obtain ⟨a19,r19,rfl,h19⟩:=bn h18
 obtain ⟨a20,r20,rfl,h20⟩:=bn h19
 obtain ⟨a21,r21,rfl,h21⟩:=bn h20
 obtain ⟨a22,r22,rfl,h22⟩:=bn h21
 obtain ⟨a23,r23,rfl,h23⟩:=bn h22
 obtain ⟨a24,r24,rfl,h24⟩:=bn h23
 obtain rfl:=VK h24
 exact ⟨_,_,_,_,_,_,_,_,_,_,_,_,_,_,_,_,_,_,_,_,_,_,_,_,_,rfl⟩
def gq (m:List Int):Prop:=m.length=25∧ ∀x∈m,Da x
def cs (m:List Int):List Int:=iU (q2 m) 5 (nZ 5)
theorem U6 {m:List Int} (h:gq m):iU (p2 m) 25 (nZ 5)=cs m:=by
 obtain ⟨hl,hb⟩:=h
 obtain ⟨a0,a1,a2,a3,a4,a5,a6,a7,a8,a9,a10,a11,a12,a13,a14,a15,a16,a17,a18,a19,a20,a21,a22,a23,a24,rfl⟩:=Ff hl
 have e0:=vL (hb a0 (by simp))
 have e1:=vL (hb a1 (by simp))
 have e2:=vL (hb a2 (by simp))
 have e3:=vL (hb a3 (by simp))
 have e4:=vL (hb a4 (by simp))
 have k:iU (p2 [a0,a1,a2,a3,a4,a5,a6,a7,a8,a9,a10,a11,a12,a13,a14,a15,a16,a17,a18,a19,a20,a21,a22,a23,a24]) 25 (nZ 5)=[xo (xo (xo (xo (xo 0 a0) a5) a10) a15) a20,xo (xo (xo (xo (xo 0 a1) a6) a11) a16) a21,xo (xo (xo (xo (xo 0 a2) a7) a12) a17) a22,xo (xo (xo (xo (xo 0 a3) a8) a13) a18) a23,xo (xo (xo (xo (xo 0 a4) a9) a14) a19) a24]:=by kernel_rfl
 have k2:cs [a0,a1,a2,a3,a4,a5,a6,a7,a8,a9,a10,a11,a12,a13,a14,a15,a16,a17,a18,a19,a20,a21,a22,a23,a24]=
  [xo (xo (xo (xo a0 a5) a10) a15) a20,xo (xo (xo (xo a1 a6) a11) a16) a21,xo (xo (xo (xo a2 a7) a12) a17) a22,xo (xo (xo (xo a3 a8) a13) a18) a23,xo (xo (xo (xo a4 a9) a14) a19) a24]:=by kernel_rfl
 rw [k,k2,e0,e1,e2,e3,e4]
theorem Us {c:List Int} (a0 a1 a2 a3 a4 a5 a6 a7 a8 a9 a10 a11 a12 a13 a14 a15 a16 a17 a18 a19 a20 a21 a22 a23 a24:Int):iU (p3 [a0,a1,a2,a3,a4,a5,a6,a7,a8,a9,a10,a11,a12,a13,a14,a15,a16,a17,a18,a19,a20,a21,a22,a23,a24] c) 25 (nZ 25)=[rot (xo a0 (xo (g c 4) (rot (g c 1) 1))) 0,rot (xo a6 (xo (g c 0) (rot (g c 2) 1))) 44,rot (xo a12 (xo (g c 1) (rot (g c 3) 1))) 43,rot (xo a18 (xo (g c 2) (rot (g c 4) 1))) 21,rot (xo a24 (xo (g c 3) (rot (g c 0) 1))) 14,rot (xo a3 (xo (g c 2) (rot (g c 4) 1))) 28,rot (xo a9 (xo (g c 3) (rot (g c 0) 1))) 20,rot (xo a10 (xo (g c 4) (rot (g c 1) 1))) 3,rot (xo a16 (xo (g c 0) (rot (g c 2) 1))) 45,rot (xo a22 (xo (g c 1) (rot (g c 3) 1))) 61,rot (xo a1 (xo (g c 0) (rot (g c 2) 1))) 1,rot (xo a7 (xo (g c 1) (rot (g c 3) 1))) 6,rot (xo a13 (xo (g c 2) (rot (g c 4) 1))) 25,rot (xo a19 (xo (g c 3) (rot (g c 0) 1))) 8,rot (xo a20 (xo (g c 4) (rot (g c 1) 1))) 18,rot (xo a4 (xo (g c 3) (rot (g c 0) 1))) 27,rot (xo a5 (xo (g c 4) (rot (g c 1) 1))) 36,rot (xo a11 (xo (g c 0) (rot (g c 2) 1))) 10,rot (xo a17 (xo (g c 1) (rot (g c 3) 1))) 15,rot (xo a23 (xo (g c 2) (rot (g c 4) 1))) 56,rot (xo a2 (xo (g c 1) (rot (g c 3) 1))) 62,rot (xo a8 (xo (g c 2) (rot (g c 4) 1))) 55,rot (xo a14 (xo (g c 3) (rot (g c 0) 1))) 39,rot (xo a15 (xo (g c 4) (rot (g c 1) 1))) 41,rot (xo a21 (xo (g c 0) (rot (g c 2) 1))) 2]:=by kernel_rfl
theorem VM {c:List Int} (a0 a1 a2 a3 a4 a5 a6 a7 a8 a9 a10 a11 a12 a13 a14 a15 a16 a17 a18 a19 a20 a21 a22 a23 a24:Int):iU (q3 c) 25 [a0,a1,a2,a3,a4,a5,a6,a7,a8,a9,a10,a11,a12,a13,a14,a15,a16,a17,a18,a19,a20,a21,a22,a23,a24]=[xo a0 (xo (g c 4) (rot (g c 1) 1)),xo a1 (xo (g c 0) (rot (g c 2) 1)),xo a2 (xo (g c 1) (rot (g c 3) 1)),xo a3 (xo (g c 2) (rot (g c 4) 1)),xo a4 (xo (g c 3) (rot (g c 0) 1)),xo a5 (xo (g c 4) (rot (g c 1) 1)),xo a6 (xo (g c 0) (rot (g c 2) 1)),xo a7 (xo (g c 1) (rot (g c 3) 1)),xo a8 (xo (g c 2) (rot (g c 4) 1)),xo a9 (xo (g c 3) (rot (g c 0) 1)),xo a10 (xo (g c 4) (rot (g c 1) 1)),xo a11 (xo (g c 0) (rot (g c 2) 1)),xo a12 (xo (g c 1) (rot (g c 3) 1)),xo a13 (xo (g c 2) (rot (g c 4) 1)),xo a14 (xo (g c 3) (rot (g c 0) 1)),xo a15 (xo (g c 4) (rot (g c 1) 1)),xo a16 (xo (g c 0) (rot (g c 2) 1)),xo a17 (xo (g c 1) (rot (g c 3) 1)),xo a18 (xo (g c 2) (rot (g c 4) 1)),xo a19 (xo (g c 3) (rot (g c 0) 1)),xo a20 (xo (g c 4) (rot (g c 1) 1)),xo a21 (xo (g c 0) (rot (g c 2) 1)),xo a22 (xo (g c 1) (rot (g c 3) 1)),xo a23 (xo (g c 2) (rot (g c 4) 1)),xo a24 (xo (g c 3) (rot (g c 0) 1))]:=by kernel_rfl
theorem TU (a0 a1 a2 a3 a4 a5 a6 a7 a8 a9 a10 a11 a12 a13 a14 a15 a16 a17 a18 a19 a20 a21 a22 a23 a24:Int):iU (q4 [a0,a1,a2,a3,a4,a5,a6,a7,a8,a9,a10,a11,a12,a13,a14,a15,a16,a17,a18,a19,a20,a21,a22,a23,a24]) 5 (nZ 25)=[rot a0 0,rot a6 44,rot a12 43,rot a18 21,rot a24 14,rot a3 28,rot a9 20,rot a10 3,rot a16 45,rot a22 61,rot a1 1,rot a7 6,rot a13 25,rot a19 8,rot a20 18,rot a4 27,rot a5 36,rot a11 10,rot a17 15,rot a23 56,rot a2 62,rot a8 55,rot a14 39,rot a15 41,rot a21 2]:=by kernel_rfl
theorem OC {m c:List Int} (hm:m.length=25):iU (p3 m c) 25 (nZ 25)=iU (q4 (iU (q3 c) 25 m)) 5 (nZ 25):=by
 obtain ⟨a0,a1,a2,a3,a4,a5,a6,a7,a8,a9,a10,a11,a12,a13,a14,a15,a16,a17,a18,a19,a20,a21,a22,a23,a24,rfl⟩:=Ff hm
 rw [Us,VM,TU]
def p4' (b:List Int) (k:Nat) (l:List Int):List Int:=l.set k (xo (g b k) (bi .u64 (bu .u64 (g b ((k:Int)-(k:Int)%5+((k:Int)%5+1)%5))) (g b ((k:Int)-(k:Int)%5+((k:Int)%5+2)%5))))
theorem a0C (b:List Int):p4 b=p4' b:=by funext k l;unfold p4 p4';rw [VA]
theorem UB (a0 a1 a2 a3 a4 a5 a6 a7 a8 a9 a10 a11 a12 a13 a14 a15 a16 a17 a18 a19 a20 a21 a22 a23 a24 b0 b1 b2 b3 b4 b5 b6 b7 b8 b9 b10 b11 b12 b13 b14 b15 b16 b17 b18 b19 b20 b21 b22 b23 b24:Int):iU (p4' [a0,a1,a2,a3,a4,a5,a6,a7,a8,a9,a10,a11,a12,a13,a14,a15,a16,a17,a18,a19,a20,a21,a22,a23,a24]) 25 [b0,b1,b2,b3,b4,b5,b6,b7,b8,b9,b10,b11,b12,b13,b14,b15,b16,b17,b18,b19,b20,b21,b22,b23,b24]=[xo a0 (bi .u64 (bu .u64 a1) a2),xo a1 (bi .u64 (bu .u64 a2) a3),xo a2 (bi .u64 (bu .u64 a3) a4),xo a3 (bi .u64 (bu .u64 a4) a0),xo a4 (bi .u64 (bu .u64 a0) a1),xo a5 (bi .u64 (bu .u64 a6) a7),xo a6 (bi .u64 (bu .u64 a7) a8),xo a7 (bi .u64 (bu .u64 a8) a9),xo a8 (bi .u64 (bu .u64 a9) a5),xo a9 (bi .u64 (bu .u64 a5) a6),xo a10 (bi .u64 (bu .u64 a11) a12),xo a11 (bi .u64 (bu .u64 a12) a13),xo a12 (bi .u64 (bu .u64 a13) a14),xo a13 (bi .u64 (bu .u64 a14) a10),xo a14 (bi .u64 (bu .u64 a10) a11),xo a15 (bi .u64 (bu .u64 a16) a17),xo a16 (bi .u64 (bu .u64 a17) a18),xo a17 (bi .u64 (bu .u64 a18) a19),xo a18 (bi .u64 (bu .u64 a19) a15),xo a19 (bi .u64 (bu .u64 a15) a16),xo a20 (bi .u64 (bu .u64 a21) a22),xo a21 (bi .u64 (bu .u64 a22) a23),xo a22 (bi .u64 (bu .u64 a23) a24),xo a23 (bi .u64 (bu .u64 a24) a20),xo a24 (bi .u64 (bu .u64 a20) a21)]:=by kernel_rfl
theorem Vg (a0 a1 a2 a3 a4 a5 a6 a7 a8 a9 a10 a11 a12 a13 a14 a15 a16 a17 a18 a19 a20 a21 a22 a23 a24 b0 b1 b2 b3 b4 b5 b6 b7 b8 b9 b10 b11 b12 b13 b14 b15 b16 b17 b18 b19 b20 b21 b22 b23 b24:Int):iU (q6 [a0,a1,a2,a3,a4,a5,a6,a7,a8,a9,a10,a11,a12,a13,a14,a15,a16,a17,a18,a19,a20,a21,a22,a23,a24]) 5 [b0,b1,b2,b3,b4,b5,b6,b7,b8,b9,b10,b11,b12,b13,b14,b15,b16,b17,b18,b19,b20,b21,b22,b23,b24]=[xo a0 (bi .u64 (bu .u64 a1) a2),xo a1 (bi .u64 (bu .u64 a2) a3),xo a2 (bi .u64 (bu .u64 a3) a4),xo a3 (bi .u64 (bu .u64 a4) a0),xo a4 (bi .u64 (bu .u64 a0) a1),xo a5 (bi .u64 (bu .u64 a6) a7),xo a6 (bi .u64 (bu .u64 a7) a8),xo a7 (bi .u64 (bu .u64 a8) a9),xo a8 (bi .u64 (bu .u64 a9) a5),xo a9 (bi .u64 (bu .u64 a5) a6),xo a10 (bi .u64 (bu .u64 a11) a12),xo a11 (bi .u64 (bu .u64 a12) a13),xo a12 (bi .u64 (bu .u64 a13) a14),xo a13 (bi .u64 (bu .u64 a14) a10),xo a14 (bi .u64 (bu .u64 a10) a11),xo a15 (bi .u64 (bu .u64 a16) a17),xo a16 (bi .u64 (bu .u64 a17) a18),xo a17 (bi .u64 (bu .u64 a18) a19),xo a18 (bi .u64 (bu .u64 a19) a15),xo a19 (bi .u64 (bu .u64 a15) a16),xo a20 (bi .u64 (bu .u64 a21) a22),xo a21 (bi .u64 (bu .u64 a22) a23),xo a22 (bi .u64 (bu .u64 a23) a24),xo a23 (bi .u64 (bu .u64 a24) a20),xo a24 (bi .u64 (bu .u64 a20) a21)]:=by kernel_rfl
theorem Vi {b m a:List Int} (hb:b.length=25) (hm:m.length=25) (ha:a.length=25):iU (p4 b) 25 m=iU (q6 b) 5 a:=by
 rw [a0C]
 obtain ⟨a0,a1,a2,a3,a4,a5,a6,a7,a8,a9,a10,a11,a12,a13,a14,a15,a16,a17,a18,a19,a20,a21,a22,a23,a24,rfl⟩:=Ff hb
 obtain ⟨b0,b1,b2,b3,b4,b5,b6,b7,b8,b9,b10,b11,b12,b13,b14,b15,b16,b17,b18,b19,b20,b21,b22,b23,b24,rfl⟩:=Ff hm
 obtain ⟨c0,c1,c2,c3,c4,c5,c6,c7,c8,c9,c10,c11,c12,c13,c14,c15,c16,c17,c18,c19,c20,c21,c22,c23,c24,rfl⟩:=Ff ha
 rw [UB,Vg]
theorem MZ {m:List Int} {rc:Int} (h:gq m):sw m rc=Is m rc:=by
 unfold sw Is
 dsimp only
 have h1:=U6 h
 unfold cs at h1
 rw [h1]
 have hc:(iU (q2 m) 5 (nZ 5)).length=5:=by rw [H4,oC]
 have ha:(iU (q3 (iU (q2 m) 5 (nZ 5))) 25 m).length=25:=by rw [zO];exact h.1
 rw [OC h.1]
 rw [Vi (a:=iU (q3 (iU (q2 m) 5 (nZ 5))) 25 m) (by rw [GH,oC]) h.1 ha]
theorem Qo {m:List Int} {rc:Int} (h:gq m):gq (sw m rc):=by
 have hl:(sw m rc).length=25:=by
  unfold sw;dsimp only;rw [List.length_set,Pj];exact h.1
 refine ⟨hl, ?_⟩
 unfold sw
 dsimp only
 have hb:(iU (p3 m (iU (p2 m) 25 (nZ 5))) 25 (nZ 25)).length=25:=by rw [Wy,oC]
 generalize iU (p3 m (iU (p2 m) 25 (nZ 5))) 25 (nZ 25)=b at hb
 have key: ∀k,k≤25→ ∀i,i<k→ ∀hi:i<(iU (p4 b) k m).length,Da (iU (p4 b) k m)[i]:=by
  intro k
  induction k with
  |zero=>intro _ i hi;omega
  |succ k ih=>
   intro hk i hi hlen
   simp only [iU,p4]
   rw [List.getElem_set]
   split
   ·exact a0U _ _
   ·exact ih om i om (by simpa [iU,p4] using hlen)
 intro x hx
 rcases List.mem_or_eq_of_mem_set hx with h1|h1
 ·obtain ⟨i,hi,rfl⟩:=List.getElem_of_mem h1
  exact key 25 om i (by rw [Pj] at hi;have:=h.1;omega) hi
 ·rw [h1];exact a0U _ _
end Go.AI.Fn
set_option linter.unusedVariables false
set_option linter.unusedSimpArgs false
set_option maxRecDepth 10000
namespace Go.AI.Fn
def rcL:List Int:=[1,32898,9223372036854808714,9223372039002292224,32907,2147483649,9223372039002292353,9223372036854808585,138,136,2147516425,2147483658,2147516555,9223372036854775947,9223372036854808713,9223372036854808579,9223372036854808578,9223372036854775936,32778,9223372039002259466,9223372039002292353,9223372036854808704,2147483649,9223372039002292232]
theorem Jb:rcL.length=24:=rfl
def rdP (k:Nat) (m:List Int):List Int:=sw m (rcL.getD k 0)
def EL (m:List Int):List Int:=iU rdP 24 m
theorem IZ (k:Nat) (m:List Int):iU rdP (k+1) m=sw (iU rdP k m) (rcL.getD k 0):=by rw [iU,rdP]
theorem Rc {m:List Int} (h:gq m): ∀k,gq (iU rdP k m)
 |0=>h
 |k+1=>by rw [IZ];exact Qo (Rc h k)
theorem Cd {m:List Int} (h:gq m):gq (EL m):=Rc h 24
theorem Cz {m:List Int} (h:gq m):jz m=some (EL m):=by
 unfold jz
 have key:Loop (dC (nZ 25) rcL n7) (m,0)=some (EL m,24,false):=
  cq (fun k=>(iU rdP k m,(k:Int))) 24 (fun k hk=>by
   have h1:=Rc h k
   have hl1:=h1.1
   have hr:=Jb
   simp only [dC]
   rw [brd om,U4 h1.1,obs,Vt h1.1 (by rw [H4,oC]),obs,Vn (oC 25) (by rw [zO];exact h1.1),obs,
    Vm (by rw [zO];exact h1.1) (by rw [GH,oC]),obs]
   have hl:=Pz (iU (q4 (iU (q3 (iU (q2 (iU rdP k m)) 5 (nZ 5))) 25 (iU rdP k m))) 5 (nZ 25)) 5 (iU (q3 (iU (q2 (iU rdP k m)) 5 (nZ 5))) 25 (iU rdP k m))
   rw [zO] at hl
   simp (disch:=omega) only [jw,brd,AR,ae]
   rw [IZ,MZ h1]
   unfold Is
   simp only [Bq,Int.toNat_natCast]) (by simp (disch:=omega) only [dC,brn];rfl)
 have hp:=(Cd h).1
 rw [brd h.1]
 show (some rcL).bind _=_
 rw [obs,brd Jb]
 show (some n7).bind _=_
 rw [obs,brd Bp,key,obs,brd hp,brd hp,brd hp]
theorem XY {l:List UInt8} {k:Nat} (h:k<l.length):atL l (k:Int)=some (l.getD k 0):=by simp [atL,h]
def lnS (t:List UInt8) (k:Nat) (l:List Int):List Int:=l.set ((k:Int)/8).toNat (vp .u64 (g l ((k:Int)/8)) (bo .u64 (IntKind.wrap .u64 ((t.getD k 0).toNat:Int)) (8*((k:Int)%8))))
def uN (t:List UInt8):List Int:=iU (lnS t) t.length (nZ 25)
theorem Jv (t:List UInt8) (k:Nat) (l:List Int):(iU (lnS t) k l).length=l.length:=nh (fun _ _=>List.length_set) k l
theorem zM (t:List UInt8):gq (uN t):=by
 refine ⟨by rw [uN,Jv,oC], ?_⟩
 have key: ∀k, ∀x∈iU (lnS t) k (nZ 25),Da x:=by
  intro k
  induction k with
  |zero=>intro x hx;simp only [iU,nZ,List.mem_replicate] at hx;rw [hx.2];exact ⟨by decide,by decide⟩
  |succ k ih=>
   intro x hx
   rcases List.mem_or_eq_of_mem_set hx with h1|h1
   ·exact ih x h1
   ·rw [h1];exact BW _
 exact key _
theorem Iv {t:List UInt8} (h:t.length≤200):ng t=some (uN t):=by
 unfold ng
 have key:Loop (eW (nZ 25) t) (nZ 25,0)=some (uN t,(t.length:Int),false):=
  cq (fun k=>(iU (lnS t) k (nZ 25),(k:Int))) t.length (fun k hk=>by
   have hl:=Jv t k (nZ 25)
   rw [oC] at hl
   simp only [eW]
   simp (disch:=omega) only [brd,ct,pT,AR,jw,ae,pF,XY,obs]
   rfl) (by simp (disch:=omega) only [eW,brn];simp;rfl)
 have hl:=(zM t).1
 rw [key,obs,brd hl,brd hl,brd hl]
def txB (m:List Int) (i:Nat):UInt8:=UInt8.ofInt (eG .u64 (g m ((i:Int)/8)) (8*((i:Int)%8)))
def vd (m:List Int) (n:Nat):List UInt8:=(List.range n).map (txB m)
theorem BJ (m:List Int) (n:Nat):(vd m n).length=n:=by simp [vd]
theorem GW (m:List Int) (n:Nat):vd m (n+1)=vd m n++[txB m n]:=by simp [vd,List.range_succ]
theorem K4 {m:List Int} (h:m.length=25) {n:Nat} (hn:n≤200):pt m n=some (vd m n):=by
 unfold pt
 have key:Loop (fW m n) ([],0)=some (vd m n,(n:Int),false):=
  cq (fun k=>(vd m k,(k:Int))) n (fun k hk=>by
   have hl:=BJ m k
   simp only [fW]
   simp (disch:=omega) only [brd,ct,pT,AR,jw,ae,pF]
   rw [bh (by simp only [List.length_append,List.length_cons,List.length_nil];omega),GW]
   rfl) (by simp (disch:=omega) only [fW,brn];simp)
 rw [brd h,key];rfl
end Go.AI.Fn
set_option linter.unusedVariables false
set_option linter.unusedSimpArgs false
namespace Go.AI.Fn
def xoS (t:List Int) (k:Nat) (l:List Int):List Int:=l.set k (xo (g l k) (g t k))
def Pa (t m:List Int):List Int:=iU (xoS t) 25 m
theorem JH (t:List Int) (k:Nat) (l:List Int):(iU (xoS t) k l).length=l.length:=nh (fun _ _=>List.length_set) k l
theorem Pb {t m:List Int} (h:gq m):gq (Pa t m):=by
 refine ⟨by rw [Pa,JH];exact h.1, ?_⟩
 have key: ∀k, ∀x∈iU (xoS t) k m,Da x:=by
  intro k
  induction k with
  |zero=>exact h.2
  |succ k ih=>
   intro x hx
   rcases List.mem_or_eq_of_mem_set hx with h1|h1
   ·exact ih x h1
   ·rw [h1];exact BW _
 exact key _
theorem N3 {l5 a:List UInt8} {p:Int} {t m:List Int} (ht:t.length=25) (h:m.length=25):Loop (g8 l5 t a p) (m,0)=some (Pa t m,25,false):=
 cq (fun k=>(iU (xoS t) k m,(k:Int))) 25 (fun k hk=>by
  have hl:=JH t k m
  simp only [g8]
  simp (disch:=omega) only [brd,AR,jw,ae]
  rfl) (by simp (disch:=omega) only [g8,brn];rfl)
def a0E (a:List UInt8) (k:Nat) (m:List Int):List Int:=EL (Pa (uN ((a.drop (136*k)).take 136)) m)
def HV (a:List UInt8) (n:Nat):List Int:=iU (a0E a) n (nZ 25)
theorem a0n:gq (nZ 25):=⟨oC 25,fun x hx=>by simp only [nZ,List.mem_replicate] at hx;rw [hx.2];exact ⟨by decide,by decide⟩⟩
theorem FJ (a:List UInt8) (n:Nat):HV a (n+1)=EL (Pa (uN ((a.drop (136*n)).take 136)) (HV a n)):=by
 unfold HV;rw [iU,a0E]
theorem HC (a:List UInt8): ∀n,gq (HV a n)
 |0=>a0n
 |n+1=>by rw [FJ];exact Cd (Pb (HC a n))
theorem PD {l3 a:List UInt8} {n:Nat} (h:a.length=136*n) (hn:n≤1000000000): ∃p,Loop (fX l3 a) (nZ 25,0)=some (HV a n,p):=
 ⟨_,cq (fun k=>(HV a k,((136*k:Nat):Int))) n (fun k hk=>by
   have h1:=HC a k
   have hx:=Pb (t:=uN ((a.drop (136*k)).take 136)) h1
   simp only [fX]
   rw [brd om,ae _ om om,yf om om om,obs]
   have e1:(List.drop (((136*k:Nat):Int)).toNat a).take (((((136*k:Nat):Int))+136).toNat-(((136*k:Nat):Int)).toNat)=(a.drop (136*k)).take 136:=by
    congr 1
    omega
   rw [e1,Iv (by rw [List.length_take];omega),obs,brd (zM _).1,N3 (zM _).1 h1.1,obs,brd hx.1,Cz hx,obs,AR (Cd hx).1 hx.1,FJ]
   have e2:(((136*k:Nat):Int))+136=((136*(k+1):Nat):Int):=by omega
   rw [e2]) (by
   simp only [fX]
   rw [brn om])⟩
def AC (l:List UInt8):List UInt8:=l++List.replicate ((136-l.length%136)%136) 0
theorem EV (l:List UInt8):(AC l).length=136*((l.length+135)/136):=by
 rw [AC,List.length_append,List.length_replicate];omega
theorem NX {α:Type} (n:Nat) (x:α):List.replicate (n+1) x=List.replicate n x++[x]:=by
 rw [List.replicate_succ']
theorem PG {c l:List UInt8} (h:l.length≤1000000000):Loop (ew c) l=some (AC l,false):=by
 have key:=cq (step:=ew c) (e:=(AC l,false)) (fun k=>l++List.replicate k 0) ((136-l.length%136)%136) (fun k hk=>by
  simp only [ew]
  rw [ct _ _ om,brb (by rw [List.length_append,List.length_replicate];omega),bh (by simp only [List.length_append,List.length_replicate,List.length_cons,List.length_nil];omega),NX,List.append_assoc]) (by
  simp only [ew]
  have e:((((l++List.replicate ((136-l.length%136)%136) (0:UInt8)).length:Nat):Int).tmod 136)=0:=by
   rw [ct _ _ om,List.length_append,List.length_replicate];omega
  rw [e,rr rfl];rfl)
 rwa [List.replicate_zero,List.append_nil] at key
def HB (b:List UInt8):List UInt8:=(AC (b++[1])).set ((AC (b++[1])).length-1) (UInt8.ofInt (vp .u8 (((AC (b++[1])).getD ((AC (b++[1])).length-1) 0).toNat:Int) 128))
def H (b:List UInt8):List UInt8:=vd (HV (HB b) ((b.length+136)/136)) 32
theorem OE (b:List UInt8):(H b).length=32:=BJ _ _
theorem PA (b:List UInt8):(HB b).length=136*((b.length+136)/136):=by
 rw [HB,List.length_set,EV,List.length_append,List.length_singleton]
theorem XK {β:Type} {l:List UInt8} {i:Nat} {f:UInt8→Option β} (h:i<l.length):(l[i]?).bind f=f (l.getD i 0):=by simp [h]
theorem wy {b:List UInt8} (h:b.length≤100000000):jW b=some (H b):=by
 unfold jW
 have hl:=EV (b++[1])
 rw [List.length_append,List.length_singleton] at hl
 have hpl:=PA b
 rw [bh om,bh (by rw [List.length_append,List.length_singleton];omega),PG (by rw [List.length_append,List.length_singleton];omega),obs]
 dsimp only
 rw [ae _ om om]
 have ei:(((AC (b++[1])).length:Int)-1).toNat=(AC (b++[1])).length-1:=by omega
 rw [ei]
 simp (disch:=omega) only [brd,XK]
 obtain ⟨p,hp⟩:=PD (l3:=[1]) hpl om
 unfold HB at hp
 rw [hp,obs]
 dsimp only
 have ok:=HC (HB b) ((b.length+136)/136)
 unfold HB at ok
 rw [brd ok.1]
 have ht:=K4 (n:=32) ok.1 om
 rw [show ((32:Nat):Int)=32 from rfl] at ht
 rw [ht,obs,H,HB]
end Go.AI.Fn
set_option linter.unusedVariables false
namespace Go.AI.Fn
def be (w x y z:UInt8):Int:=(((w.toNat:Int)*256+x.toNat)*256+y.toNat)*256+z.toNat
theorem a2u {l:List UInt8} (h:8≤l.length): ∃a b c d e f g k r,l=a::b::c::d::e::f::g::k::r:=by
 match l,h with
 |a::b::c::d::e::f::g::k::r,_=>exact ⟨a,b,c,d,e,f,g,k,r,rfl⟩
end Go.AI.Fn
set_option linter.unusedVariables false
set_option linter.unusedSimpArgs false
namespace Go.AI.Fn
def a07:List UInt8:=[97,98,115,111,114,98]
def Ni:List UInt8:=[100,114,97,119]
def Vh:List UInt8:=[115,111,117,114,99,101]
structure zV (s:Source):Prop where
 len:s.Script.length≤64
 scr:nO s.Script
 st:s.State.length=32
 a0:0≤s.At
 a1:s.At≤1000000
 c0:0≤s.Count
 c1:s.Count≤1000000
end Go.AI.Fn
set_option linter.unusedVariables false
namespace Go.AI.Fn
end Go.AI.Fn
set_option linter.unusedVariables false
set_option linter.unusedSimpArgs false
namespace Go.AI.Fn
end Go.AI.Fn
set_option linter.unusedVariables false
set_option linter.unusedSimpArgs false
namespace Go.AI.Fn
structure OkM (l:List ah) (R C:Int):Prop where
 len:l.length≤200
 ent: ∀x∈l,inE R C x
 srt: ∀k (hk:k<l.length), ∀y∈l.take k,ltE y l[k]
theorem By {x y z:ah} (h:ltE x y) (g:ltE y z):ltE x z:=by unfold ltE at*;omega
open Classical in
theorem C6 {l:List ah} {R C:Int} (h:qr l R C=true):OkM l R C:=by
 unfold qr at h
 obtain ⟨hl,hb⟩:=of_decide_eq_true h
 refine ⟨hl,fun x hx=> ?_,fun k=> ?_⟩
 ·obtain ⟨k,hk,rfl⟩:=List.getElem_of_mem hx
  by_cases c:inE R C l[k]
  ·exact c
  ·exact absurd ⟨_,zl hk,.inl c⟩ (hb k)
 ·induction k with
  |zero=>intro hk y hy;simp at hy
  |succ k ih=>
   intro hk y hy
   rw [co om] at hy
   have hlt:ltE l[k] l[k+1]:=by
    by_cases c:ltE l[k] l[k+1]
    ·exact c
    ·exact absurd ⟨_,zl hk,.inr ⟨by omega,_,zl om,c⟩⟩ (hb (k+1))
   rcases List.mem_append.1 hy with hy|hy
   ·exact By (ih om y hy) hlt
   ·rw [List.mem_singleton.1 hy];exact hlt
end Go.AI.Fn
set_option linter.unusedVariables false
set_option linter.unusedSimpArgs false
namespace Go.AI.Fn
def muS (z T:List Int) (e:ah):List Int:=T.set e.Row.toNat (aF (T.getD e.Row.toNat 0) (mF e.Value (z.getD e.Col.toNat 0)))
theorem DI (z:List Int): ∀(l:List ah) (T:List Int),(l.foldl (muS z) T).length=T.length
 |[],_=>rfl
 |e::l,T=>by rw [List.foldl_cons,DI z l,muS,List.length_set]
theorem XT {z T:List Int} {e:ah} (h:de T):de (muS z T e):=by
 intro x hx
 unfold muS at hx
 rcases List.mem_or_eq_of_mem_set hx with hx|rfl
 ·exact h x hx
 ·exact Bm _ _
theorem Hp (z:List Int): ∀(l:List ah) (T:List Int),de T→de (l.foldl (muS z) T)
 |[],_,h=>h
 |e::l,T,h=>by rw [List.foldl_cons];exact Hp z l _ (XT h)
def muM (l:List ah) (n:Nat) (z:List Int):List Int:=l.foldl (muS z) (List.replicate (2^n) 0)
theorem yt (l:List ah) (n:Nat) (z:List Int):(muM l n z).length=2^n:=by rw [muM,DI,List.length_replicate]
theorem P2 (l:List ah) (n:Nat) (z:List Int):de (muM l n z):=Hp z l _ (by
 intro x hx
 rw [List.eq_of_mem_replicate hx]
 exact ⟨by omega,by omega⟩)
end Go.AI.Fn
set_option linter.unusedVariables false
set_option linter.unusedSimpArgs false
namespace Go.AI.Fn
structure MkR (l:List ah) (row C:Int):Prop where
 ent: ∀x∈l,0≤x.Row∧x.Row≤row∧0≤x.Col∧x.Col≤C-1∧1≤x.Value∧x.Value≤2130706432
 srt:l.Pairwise ltE
theorem MkR.nil (row C:Int):MkR [] row C:=⟨fun x hx=>(by cases hx),List.Pairwise.nil⟩
theorem MkR.up {l:List ah} {row C r:Int} (h:MkR l row C) (hr:row≤r):MkR l r C:=
 ⟨fun x hx=>by obtain ⟨a,b,c⟩:=h.ent x hx;exact ⟨a,by omega,c⟩,h.srt⟩
theorem MkR.okF {l:List ah} {row C:Int} (h:MkR l row C): ∀e∈l,Fn.okF e.Value:=fun e he=>by
 obtain ⟨_,_,_,_,a,b⟩:=h.ent e he
 exact ⟨by omega,by omega⟩
theorem C9 {A T:List ah} {n:ah} {row C:Int} (h:MkR (A++T) row C) (hn:n.Row=row) (h0:0≤row) (hc:0≤n.Col∧n.Col≤C-1) (hv:1≤n.Value∧n.Value≤2130706432) (hA: ∀a∈A,ltE a n) (hT: ∀b∈T,ltE n b):MkR (A++[n]++T) row C:=by
 obtain ⟨p1,p2,p3⟩:=List.pairwise_append.1 h.srt
 refine ⟨fun x hx=> ?_, ?_⟩
 ·simp only [List.mem_append,List.mem_singleton] at hx
  rcases hx with (hx|rfl)|hx
  ·exact h.ent x (by simp [hx])
  ·exact ⟨by omega,by omega,hc.1,hc.2,hv.1,hv.2⟩
  ·exact h.ent x (by simp [hx])
 ·rw [List.append_assoc,List.pairwise_append]
  refine ⟨p1, ?_,fun a ha b hb=> ?_⟩
  ·rw [List.singleton_append,List.pairwise_cons];exact ⟨hT,p2⟩
  ·rw [List.singleton_append,List.mem_cons] at hb
   rcases hb with rfl|hb
   ·exact hA a ha
   ·exact p3 a ha b hb
theorem MkR.sub {l l':List ah} {row C:Int} (h:MkR l row C) (hs:List.Sublist l' l):MkR l' row C:=
 ⟨fun x hx=>h.ent x (hs.subset hx),h.srt.sublist hs⟩
theorem gJ {l:List ah} {row col v C:Int} (h:MkR l row C) (h0:0≤row) (hc:0≤col∧col≤C-1) (hv:1≤v∧v≤2130706432):MkR (enM l row col v) row C∧(enM l row col v).length≤l.length+1:=by
 obtain ⟨A,T,rfl,hT,hA⟩:=Od row col l
 have hT': ∀b∈T,b.Row=row∧b.Col>col:=fun b hb=>by simpa [enP] using hT b hb
 rw [Bs hT]
 rcases hA with rfl|⟨B,x,rfl,hx⟩
 ·refine ⟨C9 (A:=[]) (n:=⟨row,col,v⟩) h rfl h0 hc hv (fun a ha=>by cases ha) (fun b hb=> ?_),by simp [enM,enR]⟩
  have:=hT' b hb
  unfold ltE;dsimp only;omega
 ·have hm:enM (B++[x]) row col v=if x.Row=row∧x.Col=col then (if aF x.Value v=0 then B else B++[⟨row,col,aF x.Value v⟩]) else B++[x]++[⟨row,col,v⟩]:=by
   unfold enM
   rw [List.reverse_append,List.reverse_singleton,List.singleton_append,enR,if_neg (by rw [hx];simp)]
   split
   ·split<;>simp
   ·simp
  have hxe:=h.ent x (by simp)
  obtain ⟨p1,p2,p3⟩:=List.pairwise_append.1 h.srt
  obtain ⟨q1,q2,q3⟩:=List.pairwise_append.1 p1
  have hBx: ∀a∈B,ltE a x:=fun a ha=>q3 a ha x (by simp)
  rw [hm]
  split
  ·rename_i he
   have hs:MkR (B++T) row C:=h.sub (by simp)
   split
   ·exact ⟨hs,by simp;omega⟩
   ·rename_i hz
    have hk:=Bm x.Value v
    refine ⟨C9 hs rfl h0 hc ⟨(by have:=hk.1;show 1≤aF x.Value v;omega),hk.2⟩ (fun a ha=> ?_) (fun b hb=> ?_),by simp⟩
    ·have:=hBx a ha
     unfold ltE at*;dsimp only;omega
    ·have:=hT' b hb
     unfold ltE;dsimp only;omega
  ·rename_i he
   have hxn:ltE x ⟨row,col,v⟩:=by
    simp only [enP,Bool.and_eq_false_iff,decide_eq_false_iff_not] at hx
    unfold ltE;dsimp only;omega
   refine ⟨C9 h rfl h0 hc hv (fun a ha=> ?_) (fun b hb=> ?_),by simp;omega⟩
   ·rcases List.mem_append.1 ha with ha|ha
    ·exact By (hBx a ha) hxn
    ·rw [List.mem_singleton] at ha;subst ha;exact hxn
   ·have:=hT' b hb
    unfold ltE;dsimp only;omega
end Go.AI.Fn
set_option linter.unusedVariables false
set_option linter.unusedSimpArgs false
namespace Go.AI.Fn
def syM (a b c:Int) (g:ab) (r:Int) (A B C:List ah):Int×List ah×List ah×List ah:=
 if g.Op=1∨g.Op=2 then (r,A,B,C)
 else if g.Op=6 then (r+1,enM A r a 1,enM B r b 1,enM C r c 1)
 else if g.Op=4 then (r+1,enM (enM A r a 1) r b 1,enM B r 0 1,enM C r c 1)
 else if g.Op=5 then (r+1,enM (enM A r a 1) r b 2130706432,enM B r 0 1,enM C r c 1)
 else if g.Op=3 then (r+1,if g.K>0 then enM A r 0 g.K else A,enM B r 0 1,enM C r c 1)
 else if g.Op=7 then (r+1+1,enM (enM A r b 1) (r+1) a 1,enM (enM B r 0 1) (r+1) 0 1,enM (enM C r c 1) (r+1) c 1)
 else (r+1+1,enM (enM A r a 1) (r+1) a 1,enM (enM B r a 1) (r+1) 0 1,enM (enM C r c 1) (r+1) c 1)
end Go.AI.Fn
set_option linter.unusedVariables false
set_option linter.unusedSimpArgs false
namespace Go.AI.Fn
structure Mk3 (r:Int) (A B C:List ah) (CC:Int) (n:Nat):Prop where
 a:MkR A (r-1) CC
 b:MkR B (r-1) CC
 c:MkR C (r-1) CC
 la:A.length≤n
 lb:B.length≤n
 lc:C.length≤n
theorem Mk3.of {r' r:Int} {A B C:List ah} {CC:Int} {n m:Nat} (e:r'-1=r) (a:MkR A r CC) (b:MkR B r CC) (c:MkR C r CC) (la:A.length≤n) (lb:B.length≤n) (lc:C.length≤n) (h:n≤m):Mk3 r' A B C CC m:=by
 subst e;exact ⟨a,b,c,by omega,by omega,by omega⟩
theorem a1w {a b c r CC:Int} {g:ab} {A B C:List ah} {n:Nat} (hr:0≤r) (hC:1≤CC) (ha:4≤g.Op→0≤a∧a≤CC-1) (hb:4≤g.Op→g.Op≤7→0≤b∧b≤CC-1) (hc:0≤c∧c≤CC-1) (hk:g.Op=3→okF g.K)
 (hop:1≤g.Op∧g.Op≤8) (m:Mk3 r A B C CC n):
 Mk3 (syM a b c g r A B C).1 (syM a b c g r A B C).2.1 (syM a b c g r A B C).2.2.1 (syM a b c g r A B C).2.2.2 CC (n+2)∧r≤(syM a b c g r A B C).1∧(syM a b c g r A B C).1≤r+2:=by
 have one:(1:Int)≤1∧(1:Int)≤2130706432:=⟨by omega,by omega⟩
 have big:(1:Int)≤2130706432∧(2130706432:Int)≤2130706432:=⟨by omega,by omega⟩
 have c0:(0:Int)≤0∧(0:Int)≤CC-1:=⟨by omega,by omega⟩
 have mA:=m.a.up (r:=r) om
 have mB:=m.b.up (r:=r) om
 have mC:=m.c.up (r:=r) om
 have la:=m.la
 have lb:=m.lb
 have lc:=m.lc
 have nB:=gJ mB hr c0 one
 have nC:=gJ mC hr hc one
 have nB2:=gJ (nB.1.up (r:=r+1) om) om c0 one
 have nC2:=gJ (nC.1.up (r:=r+1) om) om hc one
 unfold syM
 by_cases h1:g.Op=1∨g.Op=2
 ·rw [if_pos h1];exact ⟨⟨m.a,m.b,m.c,by dsimp only;omega,by dsimp only;omega,by dsimp only;omega⟩,by dsimp only;omega,by dsimp only;omega⟩
 rw [if_neg h1]
 by_cases h6:g.Op=6
 ·have nA:=gJ mA hr (ha om) one
  have nb:=gJ mB hr (hb om om) one
  rw [if_pos h6];exact ⟨Mk3.of (n:=n+1) (by dsimp only;omega) nA.1 nb.1 nC.1 (by dsimp only;omega) (by dsimp only;omega) (by dsimp only;omega) om,by dsimp only;omega,by dsimp only;omega⟩
 rw [if_neg h6]
 by_cases h4:g.Op=4
 ·have nA:=gJ mA hr (ha om) one
  have nA2:=gJ nA.1 hr (hb om om) one
  rw [if_pos h4];exact ⟨Mk3.of (n:=n+2) (by dsimp only;omega) nA2.1 nB.1 nC.1 (by dsimp only;omega) (by dsimp only;omega) (by dsimp only;omega) om,by dsimp only;omega,by dsimp only;omega⟩
 rw [if_neg h4]
 by_cases h5:g.Op=5
 ·have nA:=gJ mA hr (ha om) one
  have nA2:=gJ nA.1 hr (hb om om) big
  rw [if_pos h5];exact ⟨Mk3.of (n:=n+2) (by dsimp only;omega) nA2.1 nB.1 nC.1 (by dsimp only;omega) (by dsimp only;omega) (by dsimp only;omega) om,by dsimp only;omega,by dsimp only;omega⟩
 rw [if_neg h5]
 by_cases h3:g.Op=3
 ·rw [if_pos h3]
  by_cases hK:g.K>0
  ·have nA:=gJ mA hr c0 (v:=g.K) ⟨by omega,(hk h3).2⟩
   rw [if_pos hK];exact ⟨Mk3.of (n:=n+1) (by dsimp only;omega) nA.1 nB.1 nC.1 (by dsimp only;omega) (by dsimp only;omega) (by dsimp only;omega) om,by dsimp only;omega,by dsimp only;omega⟩
  ·rw [if_neg hK];exact ⟨Mk3.of (n:=n+1) (by dsimp only;omega) mA nB.1 nC.1 (by dsimp only;omega) (by dsimp only;omega) (by dsimp only;omega) om,by dsimp only;omega,by dsimp only;omega⟩
 rw [if_neg h3]
 by_cases h7:g.Op=7
 ·have nA:=gJ mA hr (hb om om) one
  have nA2:=gJ (nA.1.up (r:=r+1) om) om (ha om) one
  rw [if_pos h7];exact ⟨Mk3.of (n:=n+2) (by dsimp only;omega) nA2.1 nB2.1 nC2.1 (by dsimp only;omega) (by dsimp only;omega) (by dsimp only;omega) om,by dsimp only;omega,by dsimp only;omega⟩
 ·have nA:=gJ mA hr (ha om) one
  have nA2:=gJ (nA.1.up (r:=r+1) om) om (ha om) one
  have nb:=gJ mB hr (ha om) one
  have nb2:=gJ (nb.1.up (r:=r+1) om) om c0 one
  rw [if_neg h7];exact ⟨Mk3.of (n:=n+2) (by dsimp only;omega) nA2.1 nb2.1 nC2.1 (by dsimp only;omega) (by dsimp only;omega) (by dsimp only;omega) om,by dsimp only;omega,by dsimp only;omega⟩
end Go.AI.Fn
set_option linter.unusedVariables false
set_option linter.unusedSimpArgs false
namespace Go.AI.Fn
theorem mK (l:List ab) (k:Nat) (op:Int):aD l op≤aD (l.take k) op+(l.length-k):=by
 have h:aD l op=aD (l.take k) op+(l.drop k).countP (fun g=>g.Op==op):=by
  conv=>lhs;rw [←List.take_append_drop k l]
  simp only [aD,List.countP_append]
 have:=List.countP_le_length (p:=fun g:ab=>g.Op==op) (l:=l.drop k)
 rw [List.length_drop] at this
 omega
theorem xe (l:List ab):2≤lgC l∧lgC l≤5:=YP _
theorem zw {n:Nat} (h:1≤n):((2^n:Nat):Int)=((2^(n-1):Nat):Int)+((2^(n-1):Nat):Int):=by
 obtain ⟨m,rfl⟩: ∃m,n=m+1:=⟨n-1,by omega⟩
 rw [Nat.add_sub_cancel,Nat.pow_succ];omega
theorem Yg {a b c:Int} (h:mx a b≤c):a≤c∧b≤c:=by
 unfold mx at h
 split at h<;>constructor<;>omega
theorem GN {l:List ab} (ok:OkC l):(aD l 2:Int)+1≤((2^(lgC l-1):Nat):Int)∧(l.length:Int)-(aD l 2:Int)≤((2^(lgC l-1):Nat):Int):=by
 have h1:=ok.n2
 have h2:=ok.p
 have h3:=cM l 2
 have h4:mx ((aD l 2:Int)+1) ((l.length:Int)-(aD l 2:Int))≤15:=by unfold mx;split<;>omega
 exact Yg (U9 h4)
theorem IQ {l:List ab} (ok:OkC l) {j:Nat} (hj:j<l.length):0≤oS l j∧oS l j≤((2^lgC l:Nat):Int)-1:=by
 have hf:=GN ok
 have hg:=xe l
 have hp:=zw (n:=lgC l) om
 have h1:aD (l.take j) 2≤j:=by have:=cM (l.take j) 2;rw [List.length_take] at this;omega
 unfold oS
 rw [show l.getD j ⟨0,0,0,0⟩=l[j] by simp [hj]]
 split
 ·rename_i h
  have:=dV hj h
  omega
 ·rename_i h
  have h2:=mK l (j+1) 2
  rw [co hj,bO,if_neg (by simpa using h)] at h2
  omega
theorem p7 {l:List ab} {n i:Nat} (hi:i<n):(dq l n).getD i 0=oS l i:=by
 simp [dq,hi]
def fdM (l:List ab):Nat→Int×List ah×List ah×List ah
 |0=>(0,[],[],[])
 |j+1=>syM ((dq l l.length).getD (l.getD j ⟨0,0,0,0⟩).A.toNat 0) ((dq l l.length).getD (l.getD j ⟨0,0,0,0⟩).B.toNat 0) ((dq l l.length).getD j 0) (l.getD j ⟨0,0,0,0⟩) (fdM l j).1 (fdM l j).2.1 (fdM l j).2.2.1 (fdM l j).2.2.2
theorem wS {l:List ab} (ok:OkC l): ∀j,j≤l.length→Mk3 (fdM l j).1 (fdM l j).2.1 (fdM l j).2.2.1 (fdM l j).2.2.2 ((2^lgC l:Nat):Int) (2*j)∧0≤(fdM l j).1∧(fdM l j).1≤2*j
 |0,_=>⟨⟨MkR.nil _ _,MkR.nil _ _,MkR.nil _ _,Nat.le_refl _,Nat.le_refl _,Nat.le_refl _⟩,Int.le_refl _,by simp [fdM]⟩
 |j+1,h=>by
  obtain ⟨m,h0,h1⟩:=wS ok j om
  have hj:j<l.length:=by omega
  have hd:l.getD j ⟨0,0,0,0⟩=l[j]:=by simp [hj]
  obtain ⟨g1,g2,g3,g4⟩:=kH (ok.g j hj)
  have hp:=wx (lgC l) (by have:=xe l;omega)
  have hc: ∀a:Int,0≤a∧a≤(j:Int)-1→0≤(dq l l.length).getD a.toNat 0∧(dq l l.length).getD a.toNat 0≤((2^lgC l:Nat):Int)-1:=fun a ha=>by
   rw [p7 om];exact IQ ok om
  have hcj:0≤(dq l l.length).getD j 0∧(dq l l.length).getD j 0≤((2^lgC l:Nat):Int)-1:=by
   rw [p7 hj];exact IQ ok hj
  have:=a1w (a:=(dq l l.length).getD l[j].A.toNat 0) (b:=(dq l l.length).getD l[j].B.toNat 0) (c:=(dq l l.length).getD j 0) (g:=l[j]) h0 om (fun h=>hc _ (g2 h)) (fun h h7=>hc _ (g3 h h7)) hcj g4 g1 m
  rw [fdM,hd]
  refine ⟨?_,by omega,by omega⟩
  have e:2*(j+1)=2*j+2:=by omega
  rw [e];exact this.1
def rlM (r:Int):Nat:=if r≤2 then 1 else if r≤4 then 2 else if r≤8 then 3 else if r≤16 then 4 else 5
theorem Zh (r:Int):1≤rlM r∧rlM r≤5:=by
 unfold rlM;repeat' split
 all_goals omega
theorem Jq {r:Int} (h:r≤32):r≤((2^rlM r:Nat):Int):=by
 unfold rlM;repeat' split
 all_goals simp<;>omega
def iq (l:List ab):aX:=⟨(rlM (fdM l l.length).1:Int),(lgC l:Int),(aD l 2:Int),(fdM l l.length).2.1,(fdM l l.length).2.2.1,(fdM l l.length).2.2.2⟩
theorem P3 {r:Int} {step:Int→Option (Int⊕(Bool×Int))} (hr:r≤32) (hs: ∀k:Nat,1≤k→k≤5→step (k:Int)=if ((2^k:Nat):Int)<r then some (.inl ((k+1:Nat):Int)) else some (.inr (false,(k:Int)))):
 Loop step 1=some (false,(rlM r:Int)):=by
 have s1:=hs 1 om om
 have s2:=hs 2 om om
 have s3:=hs 3 om om
 have s4:=hs 4 om om
 have s5:=hs 5 om om
 simp only [Nat.reducePow,Nat.reduceAdd] at s1 s2 s3 s4 s5
 unfold rlM
 by_cases h1:r≤2
 ·rw [if_pos h1];rw [if_neg om] at s1;exact dn s1
 rw [if_neg h1];rw [if_pos om] at s1
 refine (dc s1).trans ?_
 by_cases h2:r≤4
 ·rw [if_pos h2];rw [if_neg om] at s2;exact dn s2
 rw [if_neg h2];rw [if_pos om] at s2
 refine (dc s2).trans ?_
 by_cases h3:r≤8
 ·rw [if_pos h3];rw [if_neg om] at s3;exact dn s3
 rw [if_neg h3];rw [if_pos om] at s3
 refine (dc s3).trans ?_
 by_cases h4:r≤16
 ·rw [if_pos h4];rw [if_neg om] at s4;exact dn s4
 rw [if_neg h4];rw [if_pos om] at s4
 refine (dc s4).trans ?_
 rw [if_neg om] at s5;exact dn s5
end Go.AI.Fn
set_option linter.unusedVariables false
set_option linter.unusedSimpArgs false
namespace Go.AI.Fn
def eT (e:ah):Tri:=(e.Row,e.Col,e.Value)
structure Rm (r:Int) (m:List Tri) (L:List ah):Prop where
 kd:ft m=true
 lt: ∀t∈m,t.1<r
 eq:L.map eT=bU (m.filter nzT)
theorem Rm.nil (r:Int):Rm r [] []:=⟨rfl,(fun t h=>by cases h),(List.length_eq_zero_iff.1 (fD []).length_eq).symm⟩
theorem Rm.up {r r':Int} {m:List Tri} {L:List ah} (h:Rm r m L) (hr:r≤r'):Rm r' m L:=⟨h.kd,fun t ht=>by have:=h.lt t ht;omega,h.eq⟩
theorem Rm.row {r:Int} {m:List Tri} {L:List ah} (h:Rm r m L): ∀e∈L,e.Row<r:=fun e he=>by
 have:eT e∈bU (m.filter nzT):=by rw [←h.eq];exact List.mem_map.2 ⟨e,he,rfl⟩
 have:=(fD _).mem_iff.1 this
 exact h.lt _ (List.mem_filter.1 this).1
theorem LO {x y:Tri} (h:x.1≠y.1):rz x y=false:=by
 simp only [rz,decide_eq_false_iff_not];omega
theorem Rm.app {r:Int} {m N:List Tri} {L E:List ah} (h:Rm r m L) (hN: ∀t∈N,t.1=r) (hk:ft N=true) (hE:(E.map eT).Perm (N.filter nzT)) (hs:(E.map eT).Pairwise (fun x y=>nm y x=false)):Rm (r+1) (m++N) (L++E):=by
 have hkd:ft (m++N)=true:=by
  refine kj (List.pairwise_append.2 ⟨iM h.kd,iM hk,fun a ha b hb=>LO ?_⟩)
  have:=h.lt a ha;have:=hN b hb;omega
 refine ⟨hkd,fun t ht=> ?_, ?_⟩
 ·rcases List.mem_append.1 ht with ht|ht
  ·have:=h.lt t ht;omega
  ·have:=hN t ht;omega
 ·refine qv (kj ((iM hkd).filter _)) ?_ ?_
  ·rw [List.map_append,List.filter_append,h.eq]
   exact (fD _).append hE
  ·rw [List.map_append]
   refine List.pairwise_append.2 ⟨by rw [h.eq];exact qd _,hs,fun a ha b hb=> ?_⟩
   obtain ⟨e,he,rfl⟩:=List.mem_map.1 ha
   have h1:=h.row e he
   have h2:=hN b (List.mem_filter.1 (hE.mem_iff.1 hb)).1
   rw [o0]
   simp only [eT]
   omega
theorem rC {r c:Int}: ∀{m:List Tri},(∀t∈m,t.1<r)→cV r c m=0
 |[],_=>rfl
 | (x,y,v)::m,h=>by
   have h0:=h (x,y,v) (by simp)
   simp only at h0
   rw [cV,if_neg om];exact rC (fun t ht=>h t (by simp [ht]))
theorem rR {r c v:Int}: ∀{m:List Tri},(∀t∈m,t.1<r)→cZ r c v m=m++[(r,c,v)]
 |[],_=>rfl
 | (x,y,u)::m,h=>by
   have h0:=h (x,y,u) (by simp)
   simp only at h0
   rw [cZ,if_neg om,rR (fun t ht=>h t (by simp [ht]))];rfl
theorem zQ {r c:Int} {N:List Tri}: ∀{m:List Tri},(∀t∈m,t.1<r)→cV r c (m++N)=cV r c N
 |[],_=>rfl
 | (x,y,v)::m,h=>by
   have h0:=h (x,y,v) (by simp)
   simp only at h0
   rw [List.cons_append,cV,if_neg om];exact zQ (fun t ht=>h t (by simp [ht]))
theorem FS {r c v:Int} {N:List Tri}: ∀{m:List Tri},(∀t∈m,t.1<r)→cZ r c v (m++N)=m++cZ r c v N
 |[],_=>rfl
 | (x,y,u)::m,h=>by
   have h0:=h (x,y,u) (by simp)
   simp only at h0
   rw [List.cons_append,cZ,if_neg om,FS (fun t ht=>h t (by simp [ht]))];rfl
theorem ES {v:Int} (h:okF v):aF 0 v=v:=by
 unfold aF okF at*;omega
theorem vv {r c v:Int} {L:List ah} (h: ∀e∈L,e.Row<r):enM L r c v=L++[⟨r,c,v⟩]:=by
 unfold enM
 have: ∀R:List ah,(∀e∈R,e.Row<r)→enR r c v R=⟨r,c,v⟩::R:=by
  intro R hR
  cases R with
  |nil=>rfl
  |cons e R=>
   have:=hR e (by simp)
   have h1:enP r c e=false:=by
    simp only [enP,Bool.and_eq_false_iff,decide_eq_false_iff_not];omega
   rw [enR,if_neg (by rw [h1];simp),if_neg om]
 rw [this _ (fun e he=>h e (by simpa using he))]
 simp
theorem IV {r c1 c2 v1 v2:Int} {L:List ah} (h: ∀e∈L,e.Row<r):enM (L++[⟨r,c1,v1⟩]) r c2 v2=
 if c1>c2 then L++[⟨r,c2,v2⟩,⟨r,c1,v1⟩] else if c1=c2 then (if aF v1 v2=0 then L else L++[⟨r,c2,aF v1 v2⟩]) else L++[⟨r,c1,v1⟩,⟨r,c2,v2⟩]:=by
 by_cases h1:c1>c2
 ·rw [if_pos h1,Bs (fun e he=>by simp at he;subst he;simp [enP];omega),vv h]
  simp
 ·rw [if_neg h1]
  unfold enM
  rw [List.reverse_append,List.reverse_singleton,List.singleton_append,enR,if_neg (by simp [enP];omega)]
  by_cases h2:c1=c2
  ·rw [if_pos ⟨rfl,h2⟩,if_pos h2]
   split<;>simp
  ·rw [if_neg (fun h=>h2 h.2),if_neg h2]
   simp
theorem a03 {r c v:Int} (h:v≠0):nzT (r,c,v)=true:=by simp [nzT,h]
theorem N0 {r c v:Int} (h:v≠0):([(r,c,v)]:List Tri).filter nzT=[(r,c,v)]:=by rw [List.filter_cons,if_pos (a03 h)];rfl
theorem Wd {r c:Int}:([(r,c,0)]:List Tri).filter nzT=[]:=rfl
theorem Rm.one {r c v:Int} {m:List Tri} {L:List ah} (h:Rm r m L) (hv:v≠0):Rm (r+1) (cZ r c v m) (enM L r c v):=by
 rw [rR h.lt,vv h.row]
 refine h.app (fun t ht=>by simp at ht;subst ht;rfl) rfl ?_ ?_
 ·rw [N0 hv];exact List.Perm.refl _
 ·simp
theorem Rm.add1 {r c v:Int} {m:List Tri} {L:List ah} (h:Rm r m L) (hv:1≤v∧v≤2130706432):Rm (r+1) (cZ r c (aF (cV r c m) v) m) (enM L r c v):=by
 rw [rC h.lt,ES ⟨by omega,hv.2⟩];exact h.one om
theorem Rm.add0 {r c:Int} {m:List Tri} {L:List ah} (h:Rm r m L):Rm (r+1) (cZ r c (aF (cV r c m) 0) m) L:=by
 rw [rC h.lt,ES ⟨by omega,by omega⟩,rR h.lt]
 have:=h.app (N:=[(r,c,0)]) (E:=[]) (fun t ht=>by simp at ht;subst ht;rfl) rfl (by rw [Wd];exact List.Perm.refl _) (by simp)
 simpa using this
theorem Rm.add2 {r c1 c2 v1 v2:Int} {m:List Tri} {L:List ah} (h:Rm r m L) (h1:1≤v1∧v1≤2130706432) (h2:1≤v2∧v2≤2130706432):
 Rm (r+1) (cZ r c2 (aF (cV r c2 (cZ r c1 (aF (cV r c1 m) v1) m)) v2) (cZ r c1 (aF (cV r c1 m) v1) m)) (enM (enM L r c1 v1) r c2 v2):=by
 rw [rC h.lt,ES (v:=v1) ⟨by omega,h1.2⟩,rR h.lt,zQ h.lt,FS h.lt,vv h.row,IV h.row]
 by_cases hc:c1=c2
 ·subst hc
  rw [if_neg om,if_pos rfl]
  have e1:cV r c1 [(r,c1,v1)]=v1:=by simp [cV]
  have e2: ∀u,cZ r c1 u [(r,c1,v1)]=[(r,c1,u)]:=fun u=>by simp [cZ]
  rw [e1,e2]
  by_cases hz:aF v1 v2=0
  ·rw [if_pos hz,hz]
   have:=h.app (N:=[(r,c1,0)]) (E:=[]) (fun t ht=>by simp at ht;subst ht;rfl) rfl (by rw [Wd];exact List.Perm.refl _) (by simp)
   simpa using this
  ·rw [if_neg hz]
   refine h.app (fun t ht=>by simp at ht;subst ht;rfl) rfl ?_ ?_
   ·rw [N0 hz];exact List.Perm.refl _
   ·simp
 ·have e1:cV r c2 [(r,c1,v1)]=0:=by simp [cV];omega
  have e2: ∀u,cZ r c2 u [(r,c1,v1)]=[(r,c1,v1),(r,c2,u)]:=fun u=>by
   rw [cZ,if_neg om];rfl
  rw [e1,e2,ES ⟨by omega,h2.2⟩]
  have hN: ∀t∈([(r,c1,v1),(r,c2,v2)]:List Tri),t.1=r:=fun t ht=>by simp at ht;rcases ht with rfl|rfl<;>rfl
  have hk:ft [(r,c1,v1),(r,c2,v2)]=true:=by simp [ft,rz];omega
  have hf:([(r,c1,v1),(r,c2,v2)]:List Tri).filter nzT=[(r,c1,v1),(r,c2,v2)]:=by
   rw [List.filter_cons,if_pos (a03 om),N0 om]
  by_cases hgt:c1>c2
  ·rw [if_pos hgt]
   refine h.app hN hk ?_ ?_
   ·rw [hf];exact List.Perm.swap _ _ _
   ·simp only [List.map_cons,List.map_nil,eT,List.pairwise_cons,List.mem_singleton,forall_eq,o0]
    refine ⟨by omega,by simp⟩
  ·rw [if_neg hgt,if_neg hc]
   refine h.app hN hk ?_ ?_
   ·rw [hf];exact List.Perm.refl _
   ·simp only [List.map_cons,List.map_nil,eT,List.pairwise_cons,List.mem_singleton,forall_eq,o0]
    refine ⟨by omega,by simp⟩
theorem gV (r c v:Int): ∀m:List Tri,(cZ r c v m).length≤m.length+1
 |[]=>by simp [cZ]
 | (x,y,u)::m=>by
   rw [cZ];split
   ·simp
   ·have:=gV r c v m;simp;omega
theorem Dg {r c:Int} {m:List Tri} (h: ∀t∈m,t.1<r):okF (cV r c m):=by rw [rC h];exact ⟨by omega,by omega⟩
theorem Rm.ent {r:Int} {m:List Tri} {L:List ah} (h:Rm r m L) (hl:m.length<1073741824):jQ m=some (L,m):=by
 unfold jQ
 rw [h.kd,Bool.true_and,brd hl, ←h.eq]
 have:(L.map eT).map oc=L:=by
  rw [List.map_map]
  have: ∀e∈L,(oc∘eT) e=e:=fun e _=>rfl
  rw [List.map_congr_left this];simp
 rw [this]
end Go.AI.Fn
set_option linter.unusedVariables false
set_option linter.unusedSimpArgs false
namespace Go.AI.Fn
theorem xE {g:ab} {k:Int} (h0:0≤k) (h1:k≤1048576):rH g k=some (i6 g k):=by
 unfold rH i6
 simp only [Jk,mi,obs]
 rw [ae (k-1) om om]
 obtain ⟨op,a,b,c⟩:=g
 dsimp only
 generalize decide (0≤a∧a≤k-1)=x
 generalize decide (0≤b∧b≤k-1)=y
 generalize wh c=z
 generalize (a==0)=za
 generalize (b==0)=zb
 generalize (c==0)=zc
 have hop:op=3∨op=4∨op=5∨op=6∨op=7∨op=8∨(op≠3∧op≠4∧op≠5∧op≠6∧op≠7∧op≠8):=by omega
 rcases hop with rfl|rfl|rfl|rfl|rfl|rfl|⟨h3,h4,h5,h6,h7,h8⟩
 ·cases x<;>cases y<;>cases z<;>cases za<;>cases zb<;>cases zc<;>rfl
 ·cases x<;>cases y<;>cases z<;>cases za<;>cases zb<;>cases zc<;>rfl
 ·cases x<;>cases y<;>cases z<;>cases za<;>cases zb<;>cases zc<;>rfl
 ·cases x<;>cases y<;>cases z<;>cases za<;>cases zb<;>cases zc<;>rfl
 ·cases x<;>cases y<;>cases z<;>cases za<;>cases zb<;>cases zc<;>rfl
 ·cases x<;>cases y<;>cases z<;>cases za<;>cases zb<;>cases zc<;>rfl
 ·have hu:pb op=0:=by unfold pb;rw [if_neg om,if_neg h8]
  have e3:(op==3)=false:=by simpa using h3
  have e4:(op==4)=false:=by simpa using h4
  have e5:(op==5)=false:=by simpa using h5
  have e6:(op==6)=false:=by simpa using h6
  have e7:(op==7)=false:=by simpa using h7
  have e8:(op==8)=false:=by simpa using h8
  rw [hu,e3,e4,e5,e6,e7,e8]
  generalize decide (1≤op∧op≤8)=o
  cases o<;>cases za<;>cases zb<;>cases zc<;>rfl
theorem q9 {c:Circuit} {op:Int} (h:c.Gates.length≤1048576):cj c op=some (aD c.Gates op:Int):=by
 unfold cj
 have key:=cq (step:=cm op c.Gates (c.Gates.length:Int) c.Gates) (fun j=>((aD (c.Gates.take j) op:Int),(j:Int))) c.Gates.length (e:=((aD c.Gates op:Int),(c.Gates.length:Int),false)) (fun j hj=> ?_) ?_
 ·rw [show ((0:Int),(0:Int))=((aD (c.Gates.take 0) op:Int),((0:Nat):Int)) from rfl,key];rfl
 ·have hle:=cM (c.Gates.take j) op
  rw [List.length_take] at hle
  simp only [cm]
  rw [brd om,eJ hj,obs,co hj,bO]
  cases hb:(c.Gates[j].Op==op)
  ·rw [aO,if_neg (by simp),ae _ om om];simp
  ·rw [bR,if_pos rfl,ae _ om om,ae _ om om];simp
 ·simp only [cm]
  rw [brn om,decide_eq_false om,List.take_length]
theorem rA {c:Circuit} (h:c.Gates.length≤1048576):iR c=some (sL c.Gates):=by
 unfold iR sL
 rw [Jk,obs]
 by_cases h1:1≤c.Gates.length∧c.Gates.length≤15
 ·rw [decide_eq_true om,decide_eq_true h1,Bool.not_true,aO,Bool.true_and]
  have key:=rP (step:=cu c.Gates (c.Gates.length:Int) c.Gates) (fun k=>(k:Int)) c.Gates.length (fun k=>((c.Gates[k]?.map fun g=>i6 g (k:Int)).getD false)) (fun k=> .inl ((c.Gates.getD k ⟨0,0,0,0⟩).Op,(c.Gates.getD k ⟨0,0,0,0⟩).A,(c.Gates.getD k ⟨0,0,0,0⟩).B,(c.Gates.getD k ⟨0,0,0,0⟩).K)) (e:= .inr ((c.Gates.length:Int),false)) (fun k hk hp=>by
   have hb:i6 c.Gates[k] (k:Int)=true:=by simpa [hk] using hp
   simp only [cu]
   rw [brd om,eJ hk,obs,xE om om,obs,hb,Bool.not_true,aO,ae _ om om];rfl)
   (fun k hk hp=>by
    have hb:i6 c.Gates[k] (k:Int)=false:=by simpa [hk] using hp
    have hd:c.Gates.getD k ⟨0,0,0,0⟩=c.Gates[k]:=by simp [hk]
    simp only [cu]
    rw [brd om,eJ hk,obs,xE om om,obs,hb,Bool.not_false,bR,hd])
   (by simp only [cu];rw [brn om,decide_eq_false om])
  rcases key with ⟨h2,h3⟩|⟨k,hk,h2,_,h3⟩
  ·have e:Loop (cu c.Gates (c.Gates.length:Int) c.Gates) 0=some (.inr ((c.Gates.length:Int),false)):=h3
   have ha:(List.range c.Gates.length).all (fun k=>((c.Gates[k]?.map fun g=>i6 g (k:Int)).getD false))=true:=List.all_eq_true.2 fun k hk=>h2 k (List.mem_range.1 hk)
   rw [e,ha,obs,qt,q9 h,obs,Bool.true_and]
  ·have e:Loop (cu c.Gates (c.Gates.length:Int) c.Gates) 0=some (.inl _):=h3
   have ha:(List.range c.Gates.length).all (fun k=>((c.Gates[k]?.map fun g=>i6 g (k:Int)).getD false))=false:=List.all_eq_false.2 ⟨k,List.mem_range.2 hk,by rw [h2];simp⟩
   rw [e,ha,obs,nW,Bool.false_and]
 ·rw [decide_eq_false om,decide_eq_false h1,Bool.not_false,bR,Bool.false_and]
theorem J9 {c v a2 a3 r:Int} {mA mB mC:List Tri} (h0:0≤r) (h1:r≤1000) (hm:okF (cV r c mA)) (hv:okF v):
 bF [(c,v)] a2 a3 r mA mB mC=some (r+1,cZ r c (aF (cV r c mA) v) mA,cZ r a2 1 mB,cZ r a3 1 mC):=by
 unfold bF
 have s1:bk mB mC a2 a3 [(c,v)] (([(c,v)]:List (Int×Int)).length:Int) r (mA,0)=some (.inl (cZ r c (aF (cV r c mA) v) mA,1)):=by
  simp only [bk]
  rw [brd (by simp)]
  show (Option.bind (some (c,v)) _)=_
  rw [obs,pc hm hv,obs,ae _ om om];rfl
 have s2:bk mB mC a2 a3 [(c,v)] (([(c,v)]:List (Int×Int)).length:Int) r (cZ r c (aF (cV r c mA) v) mA,1)=some (.inr (cZ r c (aF (cV r c mA) v) mA,1,false)):=by
  simp only [bk]
  rw [brn (by simp),decide_eq_false (by simp)]
 rw [dc s1,dn s2,obs,ae _ om om]
theorem Tc {c1 v1 c2 v2 a2 a3 r:Int} {mA mB mC:List Tri} (h0:0≤r) (h1:r≤1000) (hm:okF (cV r c1 mA)) (hv1:okF v1) (hm2:okF (cV r c2 (cZ r c1 (aF (cV r c1 mA) v1) mA))) (hv2:okF v2):
 bF [(c1,v1),(c2,v2)] a2 a3 r mA mB mC=some (r+1,cZ r c2 (aF (cV r c2 (cZ r c1 (aF (cV r c1 mA) v1) mA)) v2) (cZ r c1 (aF (cV r c1 mA) v1) mA),cZ r a2 1 mB,cZ r a3 1 mC):=by
 unfold bF
 have s1:bk mB mC a2 a3 [(c1,v1),(c2,v2)] (([(c1,v1),(c2,v2)]:List (Int×Int)).length:Int) r (mA,0)=some (.inl (cZ r c1 (aF (cV r c1 mA) v1) mA,1)):=by
  simp only [bk]
  rw [brd (by simp)]
  show (Option.bind (some (c1,v1)) _)=_
  rw [obs,pc hm hv1,obs,ae _ om om];rfl
 generalize cZ r c1 (aF (cV r c1 mA) v1) mA=m1 at*
 have s2:bk mB mC a2 a3 [(c1,v1),(c2,v2)] (([(c1,v1),(c2,v2)]:List (Int×Int)).length:Int) r (m1,1)=some (.inl (cZ r c2 (aF (cV r c2 m1) v2) m1,2)):=by
  simp only [bk]
  rw [brd (by simp)]
  show (Option.bind (some (c2,v2)) _)=_
  rw [obs,pc hm2 hv2,obs,ae _ om om];rfl
 have s3:bk mB mC a2 a3 [(c1,v1),(c2,v2)] (([(c1,v1),(c2,v2)]:List (Int×Int)).length:Int) r (cZ r c2 (aF (cV r c2 m1) v2) m1,2)=some (.inr (cZ r c2 (aF (cV r c2 m1) v2) m1,2,false)):=by
  simp only [bk]
  rw [brn (by simp),decide_eq_false (by simp)]
 rw [dc s1,dc s2,dn s3,obs,ae _ om om]
theorem G3 {r c1 c2 u:Int} {m:List Tri} (h: ∀t∈m,t.1<r) (hu:okF u):okF (cV r c2 (cZ r c1 u m)):=by
 rw [rR h,zQ h]
 by_cases hc:c1=c2
 ·have:cV r c2 [(r,c1,u)]=u:=by simp [cV,hc]
  rw [this];exact hu
 ·have:cV r c2 [(r,c1,u)]=0:=by simp [cV];exact fun e=>absurd e.symm hc
  rw [this];exact ⟨by omega,by omega⟩
structure R3 (r:Int) (mA mB mC:List Tri) (A B C:List ah) (n:Nat):Prop where
 a:Rm r mA A
 b:Rm r mB B
 c:Rm r mC C
 la:mA.length≤n
 lb:mB.length≤n
 lc:mC.length≤n
theorem sZ {c v a2 a3 r:Int} {mA mB mC:List Tri} {A B C:List ah} {n:Nat} (h0:0≤r) (h1:r≤1000) (hv:1≤v∧v≤2130706432) (h:R3 r mA mB mC A B C n):
 ∃mA' mB' mC',bF [(c,v)] a2 a3 r mA mB mC=some (r+1,mA',mB',mC')∧R3 (r+1) mA' mB' mC' (enM A r c v) (enM B r a2 1) (enM C r a3 1) (n+1):=
 ⟨_,_,_,J9 h0 h1 (Dg h.a.lt) ⟨by omega,hv.2⟩,h.a.add1 hv,h.b.one om,h.c.one om,by have:=gV r c (aF (cV r c mA) v) mA;have:=h.la;omega,by have:=gV r a2 1 mB;have:=h.lb;omega,by have:=gV r a3 1 mC;have:=h.lc;omega⟩
theorem UL {c a2 a3 r:Int} {mA mB mC:List Tri} {A B C:List ah} {n:Nat} (h0:0≤r) (h1:r≤1000) (h:R3 r mA mB mC A B C n):
 ∃mA' mB' mC',bF [(c,0)] a2 a3 r mA mB mC=some (r+1,mA',mB',mC')∧R3 (r+1) mA' mB' mC' A (enM B r a2 1) (enM C r a3 1) (n+1):=
 ⟨_,_,_,J9 h0 h1 (Dg h.a.lt) ⟨by omega,by omega⟩,h.a.add0,h.b.one om,h.c.one om,by have:=gV r c (aF (cV r c mA) 0) mA;have:=h.la;omega,by have:=gV r a2 1 mB;have:=h.lb;omega,by have:=gV r a3 1 mC;have:=h.lc;omega⟩
theorem Jn {c1 v1 c2 v2 a2 a3 r:Int} {mA mB mC:List Tri} {A B C:List ah} {n:Nat} (h0:0≤r) (h1:r≤1000) (hv1:1≤v1∧v1≤2130706432) (hv2:1≤v2∧v2≤2130706432) (h:R3 r mA mB mC A B C n):
 ∃mA' mB' mC',bF [(c1,v1),(c2,v2)] a2 a3 r mA mB mC=some (r+1,mA',mB',mC')∧R3 (r+1) mA' mB' mC' (enM (enM A r c1 v1) r c2 v2) (enM B r a2 1) (enM C r a3 1) (n+2):=
 ⟨_,_,_,Tc h0 h1 (Dg h.a.lt) ⟨by omega,hv1.2⟩ (G3 h.a.lt (Bm _ _)) ⟨by omega,hv2.2⟩,h.a.add2 hv1 hv2,h.b.one om,h.c.one om,by
   have:=gV r c1 (aF (cV r c1 mA) v1) mA
   have:=gV r c2 (aF (cV r c2 (cZ r c1 (aF (cV r c1 mA) v1) mA)) v2) (cZ r c1 (aF (cV r c1 mA) v1) mA)
   have:=h.la;omega,by have:=gV r a2 1 mB;have:=h.lb;omega,by have:=gV r a3 1 mC;have:=h.lc;omega⟩
theorem R3.up {r:Int} {mA mB mC:List Tri} {A B C:List ah} {n m:Nat} (h:R3 r mA mB mC A B C n) (hn:n≤m):R3 r mA mB mC A B C m:=⟨h.a,h.b,h.c,by have:=h.la;omega,by have:=h.lb;omega,by have:=h.lc;omega⟩
theorem lw {t:List Int} {p v:Int} (h:0≤p∧p<t.length):bA p v t=some [(t.getD p.toNat 0,v)]:=by
 unfold bA
 obtain ⟨k,rfl⟩: ∃k:Nat,p=k:=⟨p.toNat,by omega⟩
 rw [jv om,obs,Int.toNat_natCast]
theorem Wi {t:List Int} {p:Int} (h:0≤p∧p<t.length):atL t p=some (t.getD p.toNat 0):=by
 obtain ⟨k,rfl⟩: ∃k:Nat,p=k:=⟨p.toNat,by omega⟩
 rw [jv om,Int.toNat_natCast]
theorem Kf {t:List Int} {g:ab} {k c r:Int} {mA mB mC:List Tri} {A B C:List ah} {n:Nat} (hg:i6 g k=true) (hk:k<t.length) (h0:0≤r) (h1:r≤100) (h:R3 r mA mB mC A B C n):
 ∃mA' mB' mC',ji g c t r mA mB mC=some ((syM (t.getD g.A.toNat 0) (t.getD g.B.toNat 0) c g r A B C).1,mA',mB',mC')∧
  R3 (syM (t.getD g.A.toNat 0) (t.getD g.B.toNat 0) c g r A B C).1 mA' mB' mC' (syM (t.getD g.A.toNat 0) (t.getD g.B.toNat 0) c g r A B C).2.1 (syM (t.getD g.A.toNat 0) (t.getD g.B.toNat 0) c g r A B C).2.2.1 (syM (t.getD g.A.toNat 0) (t.getD g.B.toNat 0) c g r A B C).2.2.2 (n+2):=by
 obtain ⟨g1,g2,g3,g4⟩:=kH hg
 have one:(1:Int)≤1∧(1:Int)≤2130706432:=⟨by omega,by omega⟩
 have big:(1:Int)≤2130706432∧(2130706432:Int)≤2130706432:=⟨by omega,by omega⟩
 unfold ji
 have hop:g.Op=1∨g.Op=2∨g.Op=3∨g.Op=4∨g.Op=5∨g.Op=6∨g.Op=7∨g.Op=8:=by omega
 rcases hop with e|e|e|e|e|e|e|e
 ·rw [aP om,aP om,aP om,aP om,aP om,aP om]
  simp only [syM,e]
  exact ⟨_,_,_,rfl,h.up om⟩
 ·rw [aP om,aP om,aP om,aP om,aP om,aP om]
  simp only [syM,e]
  exact ⟨_,_,_,rfl,h.up om⟩
 ·have hk3:=g4 e
  rw [bre e]
  by_cases hp:g.K>0
  ·obtain ⟨x,y,z,e1,e2⟩:=sZ (c:=0) (v:=g.K) (a2:=0) (a3:=c) h0 om ⟨by omega,hk3.2⟩ h
   rw [e1,obs]
   simp only [syM,e,if_pos hp]
   exact ⟨_,_,_,rfl,e2.up om⟩
  ·have hz:g.K=0:=by have:=hk3.1;omega
   obtain ⟨x,y,z,e1,e2⟩:=UL (c:=0) (a2:=0) (a3:=c) h0 om h
   rw [hz,e1,obs]
   simp only [syM,e,if_neg hp]
   exact ⟨_,_,_,rfl,e2.up om⟩
 ·have a:=g2 om
  have b:=g3 om om
  rw [aP om,bre e,lw om,obs,lw om,obs,bh (by simp)]
  obtain ⟨x,y,z,e1,e2⟩:=Jn (c1:=t.getD g.A.toNat 0) (v1:=1) (c2:=t.getD g.B.toNat 0) (v2:=1) (a2:=0) (a3:=c) h0 om one one h
  rw [List.singleton_append,e1,obs]
  simp only [syM,e]
  exact ⟨_,_,_,rfl,e2⟩
 ·have a:=g2 om
  have b:=g3 om om
  rw [aP om,aP om,bre e,lw om,obs,lw om,obs,bh (by simp)]
  obtain ⟨x,y,z,e1,e2⟩:=Jn (c1:=t.getD g.A.toNat 0) (v1:=1) (c2:=t.getD g.B.toNat 0) (v2:=2130706432) (a2:=0) (a3:=c) h0 om one big h
  rw [List.singleton_append,e1,obs]
  simp only [syM,e]
  exact ⟨_,_,_,rfl,e2⟩
 ·have a:=g2 om
  have b:=g3 om om
  rw [aP om,aP om,aP om,bre e,lw om,obs,Wi om,obs]
  obtain ⟨x,y,z,e1,e2⟩:=sZ (c:=t.getD g.A.toNat 0) (v:=1) (a2:=t.getD g.B.toNat 0) (a3:=c) h0 om one h
  rw [e1,obs]
  simp only [syM,e]
  exact ⟨_,_,_,rfl,e2.up om⟩
 ·have a:=g2 om
  have b:=g3 om om
  rw [aP om,aP om,aP om,aP om,bre e,lw om,obs]
  obtain ⟨x,y,z,e1,e2⟩:=sZ (c:=t.getD g.B.toNat 0) (v:=1) (a2:=0) (a3:=c) h0 om one h
  obtain ⟨x',y',z',e3,e4⟩:=sZ (c:=t.getD g.A.toNat 0) (v:=1) (a2:=0) (a3:=c) om om one e2
  rw [e1,obs,lw om,obs,e3,obs]
  simp only [syM,e]
  exact ⟨_,_,_,rfl,e4⟩
 ·have a:=g2 om
  rw [aP om,aP om,aP om,aP om,aP om,bre e,lw om,obs,Wi om,obs]
  obtain ⟨x,y,z,e1,e2⟩:=sZ (c:=t.getD g.A.toNat 0) (v:=1) (a2:=t.getD g.A.toNat 0) (a3:=c) h0 om one h
  obtain ⟨x',y',z',e3,e4⟩:=sZ (c:=t.getD g.A.toNat 0) (v:=1) (a2:=0) (a3:=c) om om one e2
  rw [e1,obs,obs,e3,obs]
  simp only [syM,e]
  exact ⟨_,_,_,rfl,e4⟩
end Go.AI.Fn
set_option linter.unusedVariables false
set_option linter.unusedSimpArgs false
namespace Go.AI.Fn
theorem G7 {s:aX} {k:Nat} (h:s.Cols=((k+1:Nat):Int)) (hk:k≤50):bW s=some ((2^k:Nat):Int):=by
 have e:IntKind.wrap .i64 (((k+1:Nat):Int)-1)=(k:Int):=by rw [ae _ om om];omega
 unfold bW
 rw [h,e,brd om,yY om]
theorem ve {p w c2 c3 c4 c5:Int} {l:List ab} {k:Nat} (hk:k≤50) (hp:0≤p) (hp1:p≤100):
 bT w l c2 c3 c4 c5 p ((k+1:Nat):Int)=if ((2^k:Nat):Int)<mx (p+1) w then some (.inl ((k+2:Nat):Int)) else some (.inr (false,((k+1:Nat):Int))):=by
 have e2:IntKind.wrap .i64 (((k+1:Nat):Int)+1)=((k+2:Nat):Int):=by rw [ae _ om om];omega
 simp only [bT]
 rw [G7 (k:=k) rfl hk,obs,e2,ae (p+1) om om]
 by_cases h:((2^k:Nat):Int)<mx (p+1) w
 ·rw [brd h,if_pos h]
 ·rw [brn h,if_neg h,decide_eq_false h]
theorem P1 {p w c2 c3 c4 c5:Int} {l:List ab} (hp:0≤p) (hp1:p≤7) (hw:w≤15):Loop (bT w l c2 c3 c4 c5 p) 2=some (false,(lgM (mx (p+1) w):Int)):=by
 have hm:mx (p+1) w≤15:=by unfold mx;split<;>omega
 have s1:=ve (p:=p) (w:=w) (l:=l) (c2:=c2) (c3:=c3) (c4:=c4) (c5:=c5) (k:=1) om hp om
 have s2:=ve (p:=p) (w:=w) (l:=l) (c2:=c2) (c3:=c3) (c4:=c4) (c5:=c5) (k:=2) om hp om
 have s3:=ve (p:=p) (w:=w) (l:=l) (c2:=c2) (c3:=c3) (c4:=c4) (c5:=c5) (k:=3) om hp om
 have s4:=ve (p:=p) (w:=w) (l:=l) (c2:=c2) (c3:=c3) (c4:=c4) (c5:=c5) (k:=4) om hp om
 simp only [Nat.reducePow,Nat.reduceAdd] at s1 s2 s3 s4
 unfold lgM
 generalize mx (p+1) w=m at*
 by_cases h1:m≤2
 ·rw [if_pos h1];rw [if_neg om] at s1;exact dn s1
 rw [if_neg h1];rw [if_pos om] at s1
 refine (dc s1).trans ?_
 by_cases h2:m≤4
 ·rw [if_pos h2];rw [if_neg om] at s2;exact dn s2
 rw [if_neg h2];rw [if_pos om] at s2
 refine (dc s2).trans ?_
 by_cases h3:m≤8
 ·rw [if_pos h3];rw [if_neg om] at s3;exact dn s3
 rw [if_neg h3];rw [if_pos om] at s3
 refine (dc s3).trans ?_
 rw [if_neg om] at s4;exact dn s4
theorem Gw {l:List ab} {c9 c10 c11 c12 c13 c14:Int} (ok:OkC l):Loop (bV l (l.length:Int) l c9 c10 c11 c12 c13 c14) ([],1,((2^(lgC l-1):Nat):Int),0)=
 some (dq l l.length,(aD l 2:Int)+1,((2^(lgC l-1):Nat):Int)+((l.length:Int)-(aD l 2:Int)),(l.length:Int),false):=by
 have h1:=ok.n2
 have h2':=xe l
 have hpw:=wx (lgC l-1) om
 have key:=cq (step:=bV l (l.length:Int) l c9 c10 c11 c12 c13 c14) (fun j=>(dq l j,(aD (l.take j) 2:Int)+1,((2^(lgC l-1):Nat):Int)+((j:Int)-(aD (l.take j) 2:Int)),(j:Int))) l.length (e:=(dq l l.length,(aD l 2:Int)+1,((2^(lgC l-1):Nat):Int)+((l.length:Int)-(aD l 2:Int)),(l.length:Int),false)) (fun j hj=> ?_) ?_
 ·have:((dq l 0,(aD (l.take 0) 2:Int)+1,((2^(lgC l-1):Nat):Int)+(((0:Nat):Int)-(aD (l.take 0) 2:Int)),((0:Nat):Int)):List Int×Int×Int×Int)=([],1,((2^(lgC l-1):Nat):Int),0):=by simp [dq,aD]
  rw [←this,key]
 ·have hd:l.getD j ⟨0,0,0,0⟩=l[j]:=by simp [hj]
  have l2:=cM (l.take j) 2
  rw [List.length_take] at l2
  have hcl:=Bc l j
  have hfit: ∀v:Int,(dq l j++[v]).length*8≤1099511627776:=fun v=>by rw [List.length_append,hcl];simp;omega
  simp only [bV]
  rw [brd om,eJ hj,obs,co hj,bO,ID,oS,hd]
  by_cases h:l[j].Op=2
  ·rw [bre h,bh (hfit _),ae _ om om,ae _ om om,if_pos h,if_pos (by simp [h])]
   simp;omega
  ·rw [aP h,bh (hfit _),ae _ om om,ae _ om om,if_neg h,if_neg (by simp [h])]
   simp;omega
 ·simp only [bV]
  rw [brn om,decide_eq_false om,List.take_length]
theorem EQ {l:List ab} {c16 c17 c18 c19 c20 c21:Int} (ok:OkC l): ∃mA mB mC,Loop (cB (dq l l.length) l (l.length:Int) l c16 c17 c18 c19 c20 c21) ([],[],[],0,0)=
 some (mA,mB,mC,(l.length:Int),false,(fdM l l.length).1)∧R3 (fdM l l.length).1 mA mB mC (fdM l l.length).2.1 (fdM l l.length).2.2.1 (fdM l l.length).2.2.2 (2*l.length):=by
 have hn:=ok.n2
 obtain ⟨⟨mA,mB,mC,i,b,r⟩,h1,h2,h3,h4,h5⟩:=lv (step:=cB (dq l l.length) l (l.length:Int) l c16 c17 c18 c19 c20 c21)
  (fun s=> ∃j:Nat,j≤l.length∧s.2.2.2.1=(j:Int)∧s.2.2.2.2=(fdM l j).1∧R3 (fdM l j).1 s.1 s.2.1 s.2.2.1 (fdM l j).2.1 (fdM l j).2.2.1 (fdM l j).2.2.2 (2*j)) (fun s=>l.length-s.2.2.2.1.toNat)
  (fun e=>e.2.2.2.1=(l.length:Int)∧e.2.2.2.2.1=false∧e.2.2.2.2.2=(fdM l l.length).1∧R3 (fdM l l.length).1 e.1 e.2.1 e.2.2.1 (fdM l l.length).2.1 (fdM l l.length).2.2.1 (fdM l l.length).2.2.2 (2*l.length))
  (fun s=>by
   obtain ⟨mA,mB,mC,i,r⟩:=s
   rintro ⟨j,hj,e1,e2,h⟩
   dsimp only at e1 e2 h
   subst e1
   simp only [cB]
   by_cases hlt:j<l.length
   ·left
    have hd:l.getD j ⟨0,0,0,0⟩=l[j]:=by simp [hlt]
    have hl:=Bc l l.length
    obtain ⟨_,r0,r1⟩:=wS ok j hj
    obtain ⟨x,y,z,g1,g2⟩:=Kf (t:=dq l l.length) (c:=(dq l l.length).getD j 0) (ok.g j hlt) om r0 om h
    rw [brd om,eJ hlt,obs,brd om,brd (by rw [Int.toNat_natCast];omega),Int.toNat_natCast,dw om,obs,e2,g1,obs,ae _ om om]
    refine ⟨_,rfl,⟨j+1,by omega,by dsimp only;omega,by rw [fdM,hd], ?_⟩,by dsimp only;omega⟩
    rw [fdM,hd]
    exact g2
   ·right
    have:j=l.length:=by omega
    subst this
    rw [brn om,decide_eq_false om]
    exact ⟨_,rfl,rfl,rfl,e2,h⟩)
  ([],[],[],0,0) ⟨0,by omega,rfl,rfl,⟨Rm.nil _,Rm.nil _,Rm.nil _,by simp,by simp,by simp⟩⟩
 dsimp only at h2 h3 h4 h5
 subst h2 h3 h4
 exact ⟨mA,mB,mC,h1,h5⟩
theorem FR {c:Circuit} (ok:OkC c.Gates):eX c=some (iq c.Gates):=by
 have hn:=ok.n2
 have h2:=ok.p
 have h3:=cM c.Gates 2
 have h5:=xe c.Gates
 unfold eX
 have hl:Loop (bT ((c.Gates.length:Int)-(aD c.Gates 2:Int)) c.Gates 0 0 0 1 (aD c.Gates 2:Int)) 2=some (false,(lgC c.Gates:Int)):=P1 om om om
 rw [q9 om,obs,ae _ om om,hl,obs]
 dsimp only
 rw [G7 (k:=lgC c.Gates-1) (by dsimp only;omega) om,obs,Gw ok,obs]
 dsimp only
 obtain ⟨mA,mB,mC,g1,g2⟩:=EQ (c16:=0) (c17:=0) (c18:=0) (c19:=1) (c20:=(lgC c.Gates:Int)) (c21:=(aD c.Gates 2:Int)) ok
 obtain ⟨_,r0,r1⟩:=wS ok c.Gates.length (Nat.le_refl _)
 rw [g1,obs]
 dsimp only
 rw [P3 (r:=(fdM c.Gates c.Gates.length).1) om (fun k k1 k5=> ?_),obs,g2.a.ent (by have:=g2.la;omega),obs,g2.b.ent (by have:=g2.lb;omega),obs,g2.c.ent (by have:=g2.lc;omega),obs]
 ·rfl
 ·simp only [dZ]
  have e2:IntKind.wrap .i64 ((k:Int)+1)=((k+1:Nat):Int):=by rw [ae _ om om];omega
  rw [brd om,yY om,e2]
  by_cases h:((2^k:Nat):Int)<(fdM c.Gates c.Gates.length).1
  ·rw [brd h,if_pos h]
  ·rw [brn h,if_neg h,decide_eq_false h]
theorem AE {c:Circuit} (h:c.Gates.length≤1048576):nD c=some (if sL c.Gates=true then (iq c.Gates,0) else (⟨0,0,0,[],[],[]⟩,19)):=by
 unfold nD
 rw [rA h,obs]
 by_cases hc:sL c.Gates=true
 ·rw [hc,FR (EB hc)];rfl
 ·have:sL c.Gates=false:=by simpa using hc
  rw [this];rfl
end Go.AI.Fn
set_option linter.unusedVariables false
set_option linter.unusedSimpArgs false
namespace Go.AI.Fn
theorem vr (P I:List Int) (l:List ab) {i:Nat}: ∀{j n:Nat},i<j→j≤n→(rnM P I l n).getD i 0=(rnM P I l j).getD i 0
 |j,n,hi,hn=>by
  induction n with
  |zero=>omega
  |succ n ih=>
   by_cases h:j=n+1
   ·rw [h]
   ·rw [←ih om,rnM,List.getD_eq_getElem?_getD,List.getElem?_append_left (by rw [iH];omega), ←List.getD_eq_getElem?_getD]
theorem JM {P I:List Int} {l:List ab} {j n:Nat} {g:ab} (hg:i6 g (j:Int)=true) (hn:j≤n):en (rnM P I l n) g=en (rnM P I l j) g:=by
 obtain ⟨g1,g2,g3,g4⟩:=kH hg
 unfold en
 by_cases h7:g.Op=7
 ·have a:=g2 om
  have b:=g3 om om
  rw [vr P I l (j:=j) om hn,vr P I l (i:=g.B.toNat) (j:=j) om hn]
 ·by_cases h8:g.Op=8
  ·have a:=g2 om
   rw [aP h7,aP h7,vr P I l (j:=j) om hn]
  ·rw [aP h7,aP h7,aP h8,aP h8]
theorem Jj {l:List Int} {p:Nat} (h:p<l.length):atL (l.drop p) 0=some (l.getD p 0):=by
 have:(l.drop p)[0]? =some (l.getD p 0):=by rw [List.getElem?_drop];simp [h]
 simp only [atL]
 rw [if_pos om]
 exact this
theorem Wf {l:List Int} {p:Nat} (h:p<l.length) (hl:l.length≤1099511627776):oZ (l.drop p) 1 ((l.drop p).length:Int)=some (l.drop (p+1)):=by
 rw [yf om (by rw [List.length_drop];omega) om]
 simp only [List.drop_drop,List.length_drop,Option.some.injEq]
 refine List.take_of_length_le ?_
 rw [List.length_drop];omega
theorem zp {P I:List Int} {l c':List ab} {j:Nat} (ok:OkC l) (hP:de P) (hI:de I) (lP:P.length=aD l 2) (lI:I.length=aD l 1) (hj:j<l.length):
 cL l (l.length:Int) c' (rnM P I l j,P.drop (aD (l.take j) 2),I.drop (aD (l.take j) 1),(j:Int))=
  if en (rnM P I l j) l[j]=true then some (.inl (rnM P I l (j+1),P.drop (aD (l.take (j+1)) 2),I.drop (aD (l.take (j+1)) 1),((j+1:Nat):Int))) else some (.inr (.inl (rnM P I l j,l[j].Op,l[j].A,l[j].B,l[j].K))):=by
 have hn:=ok.n2
 have hd:l.getD j ⟨0,0,0,0⟩=l[j]:=by simp [hj]
 obtain ⟨g1,g2,g3,g4⟩:=kH (ok.g j hj)
 have l2:=cM (l.take j) 2
 have l1:=cM (l.take j) 1
 rw [List.length_take] at l1 l2
 have c2:=cM l 2
 have c1:=cM l 1
 have hro:=xa ok hP hI lP lI j om
 have hrl:=iH P I l j
 have t2:=dV (op:=2) hj
 have t1:=dV (op:=1) hj
 have ej:IntKind.wrap .i64 ((j:Int)+1)=((j+1:Nat):Int):=by rw [ae _ om om];omega
 simp only [cL]
 rw [brd om,eJ hj,obs,co hj,bO,bO,rnM,hd,ej]
 generalize l[j]=g at*
 generalize rnM P I l j=o at*
 have hfit: ∀v:Int,(o++[v]).length*8≤1099511627776:=fun v=>by rw [List.length_append,hrl];simp;omega
 have hop:g.Op=1∨g.Op=2∨g.Op=4∨g.Op=5∨g.Op=6∨g.Op=7∨g.Op=8∨g.Op=3:=by omega
 rcases hop with h|h|h|h|h|h|h|h
 ·have hf:en o g=true:=by unfold en;rw [aP om,aP om];rfl
  rw [if_pos hf,bre h,Jj (by have:=t1 h;omega),obs,Wf (by have:=t1 h;omega) om,obs,bh (hfit _)]
  simp [gvM,h]
 ·have hf:en o g=true:=by unfold en;rw [aP om,aP om];rfl
  rw [if_pos hf,aP om,bre h,Jj (by have:=t2 h;omega),obs,Wf (by have:=t2 h;omega) om,obs,bh (hfit _)]
  simp [gvM,h]
 ·have hf:en o g=true:=by unfold en;rw [aP om,aP om];rfl
  have a:=g2 om
  have b:=g3 om om
  rw [if_pos hf,aP om,aP om,bre h,brd a.1,brd om,dw om,obs,brd b.1,brd om,dw om,obs,pc (cS hro om) (cS hro om),obs,bh (hfit _)]
  simp [gvM,h]
 ·have hf:en o g=true:=by unfold en;rw [aP om,aP om];rfl
  have a:=g2 om
  have b:=g3 om om
  rw [if_pos hf,aP om,aP om,aP om,bre h,brd a.1,brd om,dw om,obs,brd b.1,brd om,dw om,obs,PE (cS hro om) (cS hro om),obs,bh (hfit _)]
  simp [gvM,h]
 ·have hf:en o g=true:=by unfold en;rw [aP om,aP om];rfl
  have a:=g2 om
  have b:=g3 om om
  rw [if_pos hf,aP om,aP om,aP om,aP om,bre h,brd a.1,brd om,dw om,obs,brd b.1,brd om,dw om,obs,Ak (cS hro om) (cS hro om),obs,bh (hfit _)]
  simp [gvM,h]
 ·have a:=g2 om
  have b:=g3 om om
  have hf:en o g=(o.getD g.A.toNat 0==o.getD g.B.toNat 0):=by unfold en;rw [bre h,aP om,Bool.and_true]
  rw [aP om,aP om,aP om,aP om,aP om,bre h,bre h,brd a.1,brd om,dw om,obs,bre h,brd b.1,brd om,dw om,obs]
  by_cases e:o.getD g.A.toNat 0=o.getD g.B.toNat 0
  ·rw [if_pos (by rw [hf];simpa using e),rr e,aP om,bh (hfit _)]
   simp [gvM,h]
  ·rw [if_neg (by rw [hf];simpa using e),brb e]
 ·have a:=g2 om
  have hf:en o g=decide (o.getD g.A.toNat 0≤1):=by unfold en;rw [aP om,bre h,Bool.true_and]
  rw [aP om,aP om,aP om,aP om,aP om,aP om,bre h,brd a.1,brd om,dw om,obs,aP om,bre h]
  by_cases e:o.getD g.A.toNat 0>1
  ·rw [if_neg (by rw [hf,decide_eq_false om];simp),brd e]
  ·rw [if_pos (by rw [hf,decide_eq_true om]),brn e,bh (hfit _)]
   simp [gvM,h]
 ·have hf:en o g=true:=by unfold en;rw [aP om,aP om];rfl
  rw [if_pos hf,aP om,aP om,aP om,aP om,aP om,aP om,aP om,bh (hfit _)]
  simp [gvM,h]
theorem QB {c:Circuit} {P I:List Int} (ok:OkC c.Gates) (hP:de P) (hI:de I) (lP:P.length=aD c.Gates 2) (lI:I.length=aD c.Gates 1):
 is c P I=some (if c.Gates.all (en (rnM P I c.Gates c.Gates.length))=true then (rnM P I c.Gates c.Gates.length,true) else ([],false)):=by
 have hn:=ok.n2
 unfold is
 have key:=rP (step:=cL c.Gates (c.Gates.length:Int) c.Gates) (fun k=>(rnM P I c.Gates k,P.drop (aD (c.Gates.take k) 2),I.drop (aD (c.Gates.take k) 1),(k:Int))) c.Gates.length
  (fun k=>((c.Gates[k]?.map (en (rnM P I c.Gates k))).getD false)) (fun k=> .inl (rnM P I c.Gates k,(c.Gates.getD k ⟨0,0,0,0⟩).Op,(c.Gates.getD k ⟨0,0,0,0⟩).A,(c.Gates.getD k ⟨0,0,0,0⟩).B,(c.Gates.getD k ⟨0,0,0,0⟩).K))
  (e:= .inr (rnM P I c.Gates c.Gates.length,P.drop (aD (c.Gates.take c.Gates.length) 2),I.drop (aD (c.Gates.take c.Gates.length) 1),(c.Gates.length:Int),false))
  (fun k hk hp=>by
   have hb:en (rnM P I c.Gates k) c.Gates[k]=true:=by simpa [hk] using hp
   rw [zp ok hP hI lP lI hk,if_pos hb])
  (fun k hk hp=>by
   have hb:en (rnM P I c.Gates k) c.Gates[k]=false:=by simpa [hk] using hp
   have hd:c.Gates.getD k ⟨0,0,0,0⟩=c.Gates[k]:=by simp [hk]
   rw [zp ok hP hI lP lI hk,if_neg (by rw [hb];simp),hd])
  (by simp only [cL];rw [brn om,decide_eq_false om])
 have h0:((rnM P I c.Gates 0,P.drop (aD (c.Gates.take 0) 2),I.drop (aD (c.Gates.take 0) 1),((0:Nat):Int)):List Int×List Int×List Int×Int)=([],P,I,0):=rfl
 rw [h0] at key
 rcases key with ⟨h2,h3⟩|⟨k,hk,h2,_,h3⟩
 ·have ha:c.Gates.all (en (rnM P I c.Gates c.Gates.length))=true:=List.all_eq_true.2 fun x hx=>by
   obtain ⟨k,hk,rfl⟩:=List.getElem_of_mem hx
   rw [JM (ok.g k hk) om]
   simpa [hk] using h2 k hk
  rw [h3,if_pos ha,obs,qt]
 ·have ha: ¬c.Gates.all (en (rnM P I c.Gates c.Gates.length))=true:=by
   rw [Bool.not_eq_true]
   refine List.all_eq_false.2 ⟨c.Gates[k],List.getElem_mem hk, ?_⟩
   rw [JM (ok.g k hk) om]
   simpa [hk] using h2
  rw [h3,if_neg ha,obs,nW]
def rcC (c:Circuit) (P I:List Int):Int:=
 if P.length>4096 then 2 else if I.length>4096 then 2 else if sL c.Gates=false then 19 else if P.all wh=false then 1 else if I.all wh=false then 1
 else if P.length≠aD c.Gates 2 then 8 else if I.length≠aD c.Gates 1 then 8 else 0
structure VU (c:Circuit) (P I:List Int):Prop where
 ok:OkC c.Gates
 hP:de P
 hI:de I
 lP:P.length=aD c.Gates 2
 lI:I.length=aD c.Gates 1
theorem JG {l:List Int} (h:l.all wh=true):de l:=fun x hx=>pj.1 (List.all_eq_true.1 h x hx)
theorem vn {l:List Int} (h:de l):l.all wh=true:=List.all_eq_true.2 fun x hx=>pj.2 (h x hx)
theorem QU {c:Circuit} {P I:List Int} (h:rcC c P I=0):VU c P I:=by
 unfold rcC at h
 split at h
 ·omega
 split at h
 ·omega
 split at h
 ·omega
 rename_i h3
 split at h
 ·omega
 rename_i h4
 split at h
 ·omega
 rename_i h5
 split at h
 ·omega
 rename_i h6
 split at h
 ·omega
 rename_i h7
 exact ⟨EB (by simpa using h3),JG (by simpa using h4),JG (by simpa using h5),by omega,by omega⟩
theorem Fp {l:List ab} (h:OkC l):sL l=true:=by
 unfold sL
 rw [decide_eq_true ⟨h.n1,h.n2⟩,decide_eq_true (by have:=h.p;omega),Bool.true_and,Bool.and_true]
 refine List.all_eq_true.2 fun k hk=> ?_
 have hk:=List.mem_range.1 hk
 simpa [hk] using h.g k hk
theorem WN {c:Circuit} {P I:List Int} (h:VU c P I):rcC c P I=0:=by
 have h2:=cM c.Gates 2
 have h1:=cM c.Gates 1
 have hn:=h.ok.n2
 have:=h.lP
 have:=h.lI
 unfold rcC
 rw [if_neg om,if_neg om,Fp h.ok,if_neg (by simp),vn h.hP,if_neg (by simp),vn h.hI,if_neg (by simp),if_neg om,if_neg om]
theorem CE {c:Circuit} {P I:List Int} (hc:c.Gates.length≤1048576):pI c P I=some (rcC c P I):=by
 unfold pI rcC
 by_cases h1:P.length>4096
 ·rw [brd om,if_pos h1]
 rw [brn om,if_neg h1]
 by_cases h2:I.length>4096
 ·rw [brd om,if_pos h2]
 rw [brn om,if_neg h2,rA hc,obs]
 cases sL c.Gates
 ·rfl
 rw [if_neg (by simp),Bool.not_true,aO,p9 om,obs]
 cases P.all wh
 ·rfl
 rw [if_neg (by simp),Bool.not_true,aO,p9 om,obs]
 cases I.all wh
 ·rfl
 rw [if_neg (by simp),Bool.not_true,aO,q9 hc,obs]
 by_cases h3:P.length=aD c.Gates 2
 ·rw [rr om,if_neg om,q9 hc,obs]
  by_cases h4:I.length=aD c.Gates 1
  ·rw [rr om,if_neg om]
  ·rw [brb om,if_pos h4]
 ·rw [brb om,if_pos h3]
def Ae (c:Circuit) (P I:List Int):List Int×Int:=
 if rcC c P I=0 then (if c.Gates.all (en (rnM P I c.Gates c.Gates.length))=true then (rnM P I c.Gates c.Gates.length,0) else ([],15)) else ([],rcC c P I)
theorem xN {c:Circuit} {P I:List Int} (hc:c.Gates.length≤1048576):jk c P I=some (Ae c P I):=by
 unfold jk Ae
 rw [CE hc,obs]
 by_cases h0:rcC c P I=0
 ·have ok:=QU h0
  rw [rr h0,if_pos h0,QB ok.ok ok.hP ok.hI ok.lP ok.lI,obs]
  by_cases hf:c.Gates.all (en (rnM P I c.Gates c.Gates.length))=true
  ·rw [if_pos hf,if_pos hf];rfl
  ·rw [if_neg hf,if_neg hf];rfl
 ·rw [brb h0,if_neg h0]
end Go.AI.Fn
