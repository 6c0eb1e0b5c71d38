/- Plain laws for printed functions: loops whose states are told in advance; numbers; places. -/
import Derived.Test.YtgjlndaebhaciaaAiW
import Derived.Test.YtgjlndaebhaciaaFx1
import Derived.KernelRfl
set_option linter.unusedVariables false
namespace Go.AI
theorem dg {S E:Type} {step:S→Option (S⊕E)} {s s':S} (h:step s=some (.inl s')):Loop step s=Loop step s':=by rw [rf,h];rfl
theorem cD {S E:Type} {step:S→Option (S⊕E)} {s:S} {e:E} (h:step s=some (.inr e)):Loop step s=some e:=by rw [rf,h];rfl
theorem eC {S E:Type} {step:S→Option (S⊕E)} (F:Nat→S) (n:Nat) {e:E} (hs: ∀k,k<n→step (F k)=some (.inl (F (k+1)))) (he:step (F n)=some (.inr e)):Loop step (F 0)=some e:=by
 have key: ∀m k,k+m=n→Loop step (F k)=some e:=by
  intro m
  induction m with
  |zero=>intro k hk;have:k=n:=by omega
         subst this;exact cD he
  |succ m ih=>intro k hk;rw [dg (hs k om)];exact ih (k+1) om
 exact key n 0 om
theorem A3 (P:Nat→Bool): ∀n,(∀k,k<n→P k=true)∨ ∃k,k<n∧P k=false∧ ∀j,j<k→P j=true
 |0=> .inl om
 |n+1=>by
  rcases A3 P n with h|⟨k,hk,h1,h2⟩
  ·cases hn:P n
   ·exact .inr ⟨n,by omega,hn,h⟩
   ·refine .inl fun k hk=> ?_
    by_cases e:k=n
    ·subst e;exact hn
    ·exact h k om
  ·exact .inr ⟨k,by omega,h1,h2⟩
theorem mb {S E:Type} {step:S→Option (S⊕E)} (F:Nat→S) (n:Nat) (P:Nat→Bool) (x:Nat→E) {e:E} (hs: ∀k,k<n→P k=true→step (F k)=some (.inl (F (k+1))))
 (hx: ∀k,k<n→P k=false→step (F k)=some (.inr (x k))) (he:step (F n)=some (.inr e)):
 ((∀k,k<n→P k=true)∧Loop step (F 0)=some e)∨ ∃k,k<n∧P k=false∧(∀j,j<k→P j=true)∧Loop step (F 0)=some (x k):=by
 rcases A3 P n with h|⟨k,hk,h1,h2⟩
 ·exact .inl ⟨h,eC F n (fun k hk=>hs k hk (h k hk)) he⟩
 ·exact .inr ⟨k,hk,h1,h2,eC F k (fun j hj=>hs j om (h2 j hj)) (hx k hk h1)⟩
theorem qF {S E:Type} {step:S→Option (S⊕E)} (Inv:S→Prop) (me:S→Nat) (Post:E→Prop)
 (hs: ∀s,Inv s→(∃s',step s=some (.inl s')∧Inv s'∧me s'<me s)∨(∃e,step s=some (.inr e)∧Post e)):
 ∀s,Inv s→ ∃e,Loop step s=some e∧Post e:=by
 intro s
 generalize hm:me s=m
 induction m using Nat.strongRecOn generalizing s with
 |_ m ih=>
  intro hi
  rw [rf]
  rcases hs s hi with ⟨s',h1,h2,h3⟩|⟨e,h1,h2⟩
  ·rw [h1];exact ih (me s') om s' rfl h2
  ·rw [h1];exact ⟨e,rfl,h2⟩
theorem wP {α:Type} {c:Bool} {x y:α} (h:c=true):br c x y=x:=by subst h;rfl
theorem Ha {α:Type} {c:Bool} {x y:α} (h:c=false):br c x y=y:=by subst h;rfl
theorem brd {α:Type} {p:Prop} [Decidable p] {x y:α} (h:p):br (decide p) x y=x:=wP (decide_eq_true h)
theorem brn {α:Type} {p:Prop} [Decidable p] {x y:α} (h: ¬p):br (decide p) x y=y:=Ha (decide_eq_false h)
theorem YY {α:Type} {p q:Prop} [Decidable p] [Decidable q] {x y:α} (h:p) (g:q):br (decide p&&decide q) x y=x:=wP (by simp [h,g])
theorem bre {α:Type} {a b:Int} {x y:α} (h:a=b):br (a==b) x y=x:=wP (by simp [h])
theorem aP {α:Type} {a b:Int} {x y:α} (h:a≠b):br (a==b) x y=y:=Ha (by simp [h])
theorem brb {α:Type} {a b:Int} {x y:α} (h:a≠b):br (a !=b) x y=x:=wP (by simp [h])
theorem hQ {α:Type} {a b:Int} {x y:α} (h:a=b):br (a !=b) x y=y:=Ha (by simp [h])
theorem JS {α:Type} {p:Prop} [Decidable p] {x y:α} (h:p):br (!decide p) x y=y:=Ha (by simp [h])
theorem Jo {α:Type} {p:Prop} [Decidable p] {x y:α} (h: ¬p):br (!decide p) x y=x:=wP (by simp [h])
theorem iF (a b:Int) (h:0≤a):a.tmod b=a%b:=Int.tmod_eq_emod_of_nonneg h
theorem PS (a b:Int) (h:0≤a):a.tdiv b=a/b:=Int.tdiv_eq_ediv_of_nonneg h
theorem XH (x:UInt8):(x.toNat:Int)<256:=by have:=x.toNat_lt;omega
theorem Qk {n b:Nat} (h:n*b≤1099511627776):aK n b=true:=by simp [aK,b9,h]
theorem bn {α:Type} {n b:Nat} {x y:α} (h:n*b≤1099511627776):br (aK n b) x y=x:=wP (Qk h)
theorem Sr {l c:Int} {b:Nat} (h0:0≤l) (h1:l≤c) (h2:c*b≤1099511627776):BG l c b=true:=by simp [BG,b9,h0,h1,h2]
theorem Tl {α:Type} {l c:Int} {b:Nat} {x y:α} (h0:0≤l) (h1:l≤c) (h2:c*b≤1099511627776):br (BG l c b) x y=x:=wP (Sr h0 h1 h2)
theorem Hq {α:Type} {l:List α} {i:Int} (h0:0≤i) {x:α} (h:l[i.toNat]? =some x):atL l i=some x:=by simp [atL,h0,h]
theorem ci {α:Type} {l:List α} {k:Nat} (h:k<l.length):atL l (k:Int)=some l[k]:=by simp [atL,h]
theorem MP {β:Type} {l:List Int} {i:Nat} {f:Int→Option β} (h:i<l.length):(l[i]?).bind f=f (l.getD i 0):=by simp [h]
theorem xg {α:Type} {l:List α} {i:Nat} (h:i<l.length):l[i]? =some l[i]:=List.getElem?_eq_getElem h
theorem V6 {α:Type} {l:List α} {i:Int} (h0:0≤i) (h1:i<l.length): ∃x,atL l i=some x∧l[i.toNat]? =some x∧x∈l:=by
 have h:i.toNat<l.length:=by omega
 exact ⟨l[i.toNat],by simp [atL,h0,h],by simp [h],List.getElem_mem h⟩
theorem zB {α:Type} {l:List α} {i:Nat} (h:i<l.length): ∃x r,l.drop i=x::r∧l.drop (i+1)=r∧l[i]? =some x:=
 ⟨l[i],l.drop (i+1),List.drop_eq_getElem_cons h,rfl,by simp [h]⟩
theorem AZ {α:Type} {l:List α} {a b:Int} (h0:0≤a) (h1:a≤b) (h2:b≤l.length):ik l a b=some ((l.drop a.toNat).take (b.toNat-a.toNat)):=by
 simp [ik,h0,h1,h2,List.drop_take]
theorem dp {α:Type} {l:List α} {k:Nat} (h:k<l.length):l.take (k+1)=l.take k++[l[k]]:=by rw [List.take_succ_eq_append_getElem h]
def iU {α:Type} (f:Nat→α→α):Nat→α→α
 |0,l=>l
 |k+1,l=>f k (iU f k l)
end Go.AI
set_option linter.unusedVariables false
set_option linter.unusedSimpArgs false
namespace Go.AI.Fn
def okF (a:Int):Prop:=0≤a∧a≤2130706432
def okE (x:Ext):Prop:=okF x.A∧okF x.B
def pG (a:Int):Bool:=decide (0≤a)&&decide (a≤2130706432)
theorem tT {a:Int}:pG a=true↔okF a:=by simp [pG,okF]
def aF (a b:Int):Int:=(a+b)%2130706433
def sF (a b:Int):Int:=(a-b)%2130706433
def mF (a b:Int):Int:=(a*b)%2130706433
def eA (x y:Ext):Ext:=⟨(x.A+y.A)%2130706433,(x.B+y.B)%2130706433⟩
def eS (x y:Ext):Ext:=⟨(x.A-y.A)%2130706433,(x.B-y.B)%2130706433⟩
def eM (x y:Ext):Ext:=⟨(x.A*y.A+3*(x.B*y.B))%2130706433,(x.A*y.B+x.B*y.A)%2130706433⟩
def e0:Ext:=⟨0,0⟩
def e1:Ext:=⟨1,0⟩
def eN (n:Int):Ext:=⟨n,0⟩
theorem Z0:okF 1:=⟨by decide,by decide⟩
theorem R2:okF 0:=⟨by decide,by decide⟩
theorem lk (a:Int):okF (a%2130706433):=⟨by omega,by omega⟩
theorem Ew (a b:Int):okF (aF a b):=lk _
theorem Tg (a b:Int):okF (sF a b):=lk _
theorem zI (a b:Int):okF (mF a b):=lk _
theorem Zf (x y:Ext):okE (eA x y):=⟨lk _,lk _⟩
theorem Zh (x y:Ext):okE (eS x y):=⟨lk _,lk _⟩
theorem Ze (x y:Ext):okE (eM x y):=⟨lk _,lk _⟩
theorem Y1:okE e0:=⟨⟨by decide,by decide⟩,⟨by decide,by decide⟩⟩
theorem Zi {n:Int} (h:okF n):okE (eN n):=⟨h,R2⟩
theorem UA {a b:Int} (ha:okF a) (hb:okF b):0≤a*b∧a*b≤4539909900063178624:=
 ⟨Int.mul_nonneg ha.1 hb.1,Int.le_trans (Int.mul_le_mul ha.2 hb.2 hb.1 (by decide)) (by decide)⟩
theorem Dy {a:Int} (h:okF a):a%2130706433=a:=by obtain ⟨h1,h2⟩:=h;omega
theorem VL {x y:Ext} (h1:x.A=y.A) (h2:x.B=y.B):x=y:=by cases x;cases y;cases h1;cases h2;rfl
theorem mA1 (a b:Int):(a%2130706433+b)%2130706433=(a+b)%2130706433:=Int.emod_add_emod _ _ _
theorem mA2 (a b:Int):(a+b%2130706433)%2130706433=(a+b)%2130706433:=Int.add_emod_emod _ _ _
theorem mM1 (a b:Int):(a%2130706433*b)%2130706433=(a*b)%2130706433:=by rw [Int.mul_emod,Int.emod_emod, ←Int.mul_emod]
theorem Th {a b:Int} (ha:okF a) (hb:okF b):(IntKind.wrap .i64 (a+b)).tmod 2130706433=aF a b:=by
 obtain ⟨h1,h2⟩:=ha;obtain ⟨h3,h4⟩:=hb
 unfold aF;rw [ai _ om om,iF _ _ om]
theorem qw {a b:Int} (ha:okF a) (hb:okF b):yC a b=some (aF a b):=by unfold yC;rw [Th ha hb]
theorem Lc {a b:Int} (ha:okF a) (hb:okF b):DE a b=some (sF a b):=by
 obtain ⟨h1,h2⟩:=ha;obtain ⟨h3,h4⟩:=hb
 unfold DE sF;rw [ai (a-b) om om,ai _ om om,iF _ _ om]
 congr 1;omega
theorem Tp {a b:Int} (ha:okF a) (hb:okF b):(IntKind.wrap .i64 (a*b)).tmod 2130706433=mF a b:=by
 have h:=UA ha hb
 unfold mF;rw [ai _ om om,iF _ _ om]
theorem wX {a b:Int} (ha:okF a) (hb:okF b):xS a b=some (mF a b):=by unfold xS;rw [Tp ha hb]
theorem R9 (n a b:Int):eU n a b=some (decide (a≤n)&&decide (n≤b)):=by
 unfold eU;cases decide (a≤n)<;>rfl
theorem ul (a:Int):lF a=some (pG a):=by
 unfold lF;rw [R9];rfl
theorem E1 {a b:Int} (ha:okF a) (hb:okF b):oa a b=some (aF a b):=by unfold oa;rw [Th ha hb]
theorem M3 {a b:Int} (ha:okF a) (hb:okF b):q7 a b=some (sF a b):=by
 obtain ⟨h1,h2⟩:=ha;obtain ⟨h3,h4⟩:=hb
 unfold q7 sF;rw [ai (a+2130706433) om om,ai _ om om,iF _ _ om]
 congr 1;omega
theorem NA {a b:Int} (ha:okF a) (hb:okF b):pV a b=some (mF a b):=by unfold pV;rw [Tp ha hb]
theorem T3 (n a b:Int):fa n a b=some (decide (a≤n)&&decide (n≤b)):=by
 unfold fa;cases decide (a≤n)<;>rfl
theorem tP (a:Int):bw a=some (pG a):=by
 unfold bw;rw [T3];rfl
theorem sub_self (x:Ext):eS x x=e0:=by
 apply VL<;>simp [eS,e0]
end Go.AI.Fn
set_option linter.unusedVariables false
namespace Go.AI.Fn
theorem Bd (x y:Int):bh x y=some (if x<y then-1 else if x>y then 1 else 0):=by
 unfold bh ca
 simp only [obs,bne_self_eq_false,aC]
 by_cases h:x<y
 ·rw [brd h,if_pos h]
 ·rw [brn h,if_neg h]
  by_cases h2:x>y
  ·rw [brd h2,if_pos h2]
  ·rw [brn h2,if_neg h2]
theorem CM (a b:Int):aD 0 [a,b] (([a,b].length:Nat):Int) 0=br (a !=0) (some (.inr (.inl a))) (some (.inl 1)):=by
 simp only [aD]
 rw [brd (by simp),show atL [a,b] 0=some a by simp [atL],show IntKind.wrap .i64 (0+1)=1 by decide];rfl
theorem DP (a b:Int):aD 0 [a,b] (([a,b].length:Nat):Int) 1=br (b !=0) (some (.inr (.inl b))) (some (.inl 2)):=by
 simp only [aD]
 rw [brd (by simp),show atL [a,b] 1=some b by simp [atL],show IntKind.wrap .i64 (1+1)=2 by decide];rfl
theorem Lw (a b:Int):aD 0 [a,b] (([a,b].length:Nat):Int) 2=some (.inr (.inr (2,false))):=by
 simp only [aD]
 rw [brn (by simp)];simp
theorem KL (a b:Int):du [a,b]=some (if a=0 then b else a):=by
 unfold du
 by_cases ha:a=0
 ·rw [dg (s':=1) (by rw [CM,hQ ha]),if_pos ha]
  by_cases hb:b=0
  ·rw [dg (s':=2) (by rw [DP,hQ hb]),cD (Lw a b),hb];rfl
  ·rw [cD (e:= .inl b) (by rw [DP,brb hb])];rfl
 ·rw [cD (e:= .inl a) (by rw [CM,brb ha]),if_neg ha];rfl
def ltE (y x:ag):Prop:=y.Row<x.Row∨(y.Row=x.Row∧y.Col<x.Col)
theorem My (y x:ag): ∃c,cB y x=some c∧(c≥0↔ ¬ltE y x):=by
 unfold cB
 rw [Bd,Bd]
 simp only [obs,KL]
 refine ⟨_,rfl, ?_⟩
 unfold ltE
 by_cases h1:y.Row<x.Row
 ·simp [h1]
 ·by_cases h2:y.Row>x.Row
  ·simp [h1,h2];omega
  ·have h3:y.Row=x.Row:=by omega
   by_cases h4:y.Col<x.Col
   ·simp [h3,h4]
   ·by_cases h5:y.Col>x.Col
    ·simp [h3,h4,h5]
    ·simp [h3,h4,h5]
def inE (R C:Int) (x:ag):Prop:=(0≤x.Row∧x.Row≤R-1)∧(0≤x.Col∧x.Col≤C-1)∧1≤x.Value∧x.Value≤2130706432
def D6 (l:List ag) (R C:Int) (t:Nat):Prop:= ∃x,l[t]? =some x∧(¬inE R C x∨(0<t∧ ∃y,l[t-1]? =some y∧ ¬ltE y x))
open Classical in
noncomputable def ou (l:List ag) (R C:Int):Bool:=decide (l.length≤200∧ ∀t, ¬D6 l R C t)
open Classical in
theorem MY {l:List ag} {R C:Int} (h:l.length≤200) (g: ∀t, ¬D6 l R C t):ou l R C=true:=by unfold ou;exact decide_eq_true ⟨h,g⟩
open Classical in
theorem Nl {l:List ag} {R C:Int} (h:l.length≤200→ ¬ ∀t, ¬D6 l R C t):ou l R C=false:=by unfold ou;exact decide_eq_false fun g=>h g.1 g.2
open Classical in
theorem yK {l:List ag} {R C:Int} (h:ou l R C=true):l.length≤200:=by unfold ou at h;exact (of_decide_eq_true h).1
theorem DC (n a b:Int):eU n a b=some (decide (a≤n∧n≤b)):=by
 unfold eU
 by_cases h:a≤n
 ·rw [brd h];simp [h]
 ·rw [brn h];simp [h]
theorem Lq (n a b:Int):fa n a b=some (decide (a≤n∧n≤b)):=by
 unfold fa
 by_cases h:a≤n
 ·rw [brd h];simp [h]
 ·rw [brn h];simp [h]
theorem pU {l:List ag} {R C:Int} (hl:l.length≤1099511627776) (hR:1≤R∧R≤4096) (hC:1≤C∧C≤4096):im l R C=some (ou l R C):=by
 unfold im
 have key:=qF (step:=gj l R C l ((l.length:Nat):Int)) (fun t=>0≤t∧t≤l.length∧ ∀k:Nat,(k:Int)<t→ ¬D6 l R C k) (fun t=>(l.length-t).toNat)
  (fun e=>(∃x,e= .inl x∧ ∃k,D6 l R C k)∨(∃x,e= .inr x∧ ∀k, ¬D6 l R C k)) ?_ 0 ⟨by omega,by omega,by omega⟩
 ·obtain ⟨e,he,⟨x,rfl,k,hk⟩|⟨x,rfl,hk⟩⟩:=key
  ·rw [he]
   simp only [obs,kZ]
   rw [Nl fun _ h=>h k hk]
  ·rw [he]
   simp only [obs,mX]
   by_cases h:l.length≤200
   ·rw [decide_eq_true om,MY h hk]
   ·rw [decide_eq_false om,Nl fun g=>absurd g h]
 ·intro t ⟨h0,h1,h2⟩
  simp only [gj]
  by_cases c:t<(l.length:Int)
  ·obtain ⟨x,r,e1,e2,e3⟩:=zB (l:=l) (i:=t.toNat) om
   have next: ¬D6 l R C t.toNat→(fun t:Int=>0≤t∧t≤l.length∧ ∀k:Nat,(k:Int)<t→ ¬D6 l R C k) (t+1):=by
    intro hn
    refine ⟨by omega,by omega,fun k hk=> ?_⟩
    by_cases e:k=t.toNat
    ·subst e;exact hn
    ·exact h2 k om
   rw [brd c,Hq h0 e3]
   simp only [obs,DC]
   rw [ai (R-1) om om,ai (C-1) om om,ai (t+1) om om]
   by_cases i1:0≤x.Row∧x.Row≤R-1
   ·rw [JS i1]
    by_cases i2:0≤x.Col∧x.Col≤C-1
    ·rw [JS i2]
     by_cases i3:1≤x.Value∧x.Value≤2130706432
     ·rw [JS i3]
      by_cases c3:t>0
      ·rw [brd c3,ai (t-1) om om]
       obtain ⟨y,r2,f1,f2,f3⟩:=zB (l:=l) (i:=(t-1).toNat) om
       rw [Hq om f3]
       simp only [obs]
       obtain ⟨d,hd,hd2⟩:=My y x
       rw [hd]
       simp only [obs]
       rw [show (t-1).toNat=t.toNat-1 by omega] at f3
       by_cases c4:d≥0
       ·rw [brd c4]
        exact .inr ⟨_,rfl,.inl ⟨_,rfl,t.toNat,x,e3,.inr ⟨by omega,y,f3,hd2.1 c4⟩⟩⟩
       ·rw [brn c4]
        refine .inl ⟨_,rfl,next ?_,by omega⟩
        rintro ⟨x',g1,g|⟨_,y',g2,g3⟩⟩
        ·rw [e3] at g1;cases g1;exact g ⟨i1,i2,i3⟩
        ·rw [e3] at g1;cases g1;rw [f3] at g2;cases g2;exact c4 (hd2.2 g3)
      ·rw [brn c3]
       refine .inl ⟨_,rfl,next ?_,by omega⟩
       rintro ⟨x',g1,g|⟨g0,_⟩⟩
       ·rw [e3] at g1;cases g1;exact g ⟨i1,i2,i3⟩
       ·omega
     ·rw [Jo i3]
      exact .inr ⟨_,rfl,.inl ⟨_,rfl,t.toNat,x,e3,.inl fun g=>i3 g.2.2⟩⟩
    ·rw [Jo i2]
     exact .inr ⟨_,rfl,.inl ⟨_,rfl,t.toNat,x,e3,.inl fun g=>i2 g.2.1⟩⟩
   ·rw [Jo i1]
    exact .inr ⟨_,rfl,.inl ⟨_,rfl,t.toNat,x,e3,.inl fun g=>i1 g.1⟩⟩
  ·rw [brn c]
   refine .inr ⟨_,rfl,.inr ⟨_,rfl,fun k hk=> ?_⟩⟩
   have hkl:k<l.length:=by
    obtain ⟨x,hx,_⟩:=hk
    obtain ⟨h,_⟩:=List.getElem?_eq_some_iff.1 hx
    exact h
   exact h2 k om hk
end Go.AI.Fn
set_option linter.unusedVariables false
namespace Go.AI.Fn
theorem Bb {k:Int} (h:0≤k∧k≤5):1≤bc .i64 1 k∧bc .i64 1 k≤4096:=by
 have:k=0∨k=1∨k=2∨k=3∨k=4∨k=5:=by omega
 rcases this with rfl|rfl|rfl|rfl|rfl|rfl<;>decide
noncomputable def tm (s:aS):Bool:=
 decide (1≤s.Rows∧s.Rows≤5)&&(decide (2≤s.Cols∧s.Cols≤5)&&(decide (0≤s.Publics∧s.Publics≤bc .i64 1 (s.Cols-1)-1)&&
  (ou s.A (bc .i64 1 s.Rows) (bc .i64 1 s.Cols)&&(ou s.B (bc .i64 1 s.Rows) (bc .i64 1 s.Cols)&&ou s.C (bc .i64 1 s.Rows) (bc .i64 1 s.Cols)))))
theorem nu {s:aS} (hA:s.A.length≤1099511627776) (hB:s.B.length≤1099511627776) (hC:s.C.length≤1099511627776):ic s=some (tm s):=by
 unfold ic tm
 simp only [DC,obs]
 by_cases h1:1≤s.Rows∧s.Rows≤5
 ·rw [JS h1]
  by_cases h2:2≤s.Cols∧s.Cols≤5
  ·rw [JS h2]
   have k1:=Bb (k:=s.Rows) om
   have k2:=Bb (k:=s.Cols) om
   have k3:=Bb (k:=s.Cols-1) om
   unfold bO fN
   rw [ai (s.Cols-1) om om,brd om]
   simp only [obs]
   rw [ai (bc .i64 1 (s.Cols-1)-1) om om]
   by_cases h3:0≤s.Publics∧s.Publics≤bc .i64 1 (s.Cols-1)-1
   ·rw [JS h3,brd om,brd om,pU hA k1 k2]
    simp only [obs]
    rw [decide_eq_true h1,decide_eq_true h2,decide_eq_true h3]
    cases ou s.A (bc .i64 1 s.Rows) (bc .i64 1 s.Cols)
    ·rfl
    ·simp only [Bool.not_true,aC]
     rw [brd om,brd om,pU hB k1 k2]
     simp only [obs]
     cases ou s.B (bc .i64 1 s.Rows) (bc .i64 1 s.Cols)
     ·rfl
     ·simp only [Bool.not_true,aC]
      rw [brd om,brd om,pU hC k1 k2]
      simp only [obs]
      cases ou s.C (bc .i64 1 s.Rows) (bc .i64 1 s.Cols)<;>rfl
   ·rw [Jo h3,decide_eq_true h1,decide_eq_true h2,decide_eq_false h3];rfl
  ·rw [Jo h2,decide_eq_true h1,decide_eq_false h2];rfl
 ·rw [Jo h1,decide_eq_false h1];rfl
theorem rv {s:aS} (h:tm s=true):(1≤s.Rows∧s.Rows≤5)∧(2≤s.Cols∧s.Cols≤5)∧(0≤s.Publics∧s.Publics≤4096)∧s.A.length≤200∧s.B.length≤200∧s.C.length≤200:=by
 unfold tm at h
 simp only [Bool.and_eq_true,decide_eq_true_eq] at h
 obtain ⟨h1,h2,h3,h4,h5,h6⟩:=h
 have k3:=Bb (k:=s.Cols-1) om
 exact ⟨h1,h2,by omega,yK h4,yK h5,yK h6⟩
def setB (t:Setting):Bool:=decide (1≤t.Rate∧t.Rate≤3)&&(decide (1≤t.Queries∧t.Queries≤8)&&decide (0≤t.Grind∧t.Grind≤12))
end Go.AI.Fn
set_option linter.unusedVariables false
namespace Go.AI.Fn
structure Src (B:Int) (m:aV):Prop where
 at0:0≤m.at_
 at1:m.at_≤B
 sd0:0≤m.seed
 sd1:m.seed<2147483648
 len:m.code.length≤1048600
theorem Src.mono {B C:Int} {m:aV} (h:Src B m) (hc:B≤C):Src C m:=⟨h.at0,by have:=h.at1;omega,h.sd0,h.sd1,h.len⟩
abbrev Big:Int:=4611686018427387904
theorem A2 {code:List UInt8} (h:code.length≤1048600): ∃m,k9 code=some m∧Src 0 m:=by
 refine ⟨_,rfl, ?_⟩
 have:(((code.length:Nat):Int).tmod (1000:Int))=(code.length:Int)%1000:=iF _ _ om
 constructor<;>dsimp only<;>omega
theorem wg {B:Int} {m:aV} (h:Src B m) (hB:B<Big): ∃x m',dn m=some (x,m')∧0≤x∧x<256∧Src (B+1) m':=by
 obtain ⟨h1,h2,h3,h4,h5⟩:=h
 rcases m with ⟨code,at_,seed⟩
 dsimp only at h1 h2 h3 h4 h5
 unfold dn
 dsimp only
 simp only [Big] at hB
 rw [ai (at_+1) om om]
 by_cases c:at_+1≤((code.length:Nat):Int)
 ·rw [brd c,ai (at_+1-1) om om]
  obtain ⟨x,hx,_,_⟩:=V6 (l:=code) (i:=at_+1-1) om om
  have:=XH x
  rw [hx]
  simp only [obs]
  rw [ai (x.toNat:Int) om om,ai (seed*31) om om,ai (seed*31+(x.toNat:Int)) om om,ai _ om om,iF _ _ om]
  refine ⟨_,_,rfl,by omega,by omega, ?_⟩
  constructor<;>dsimp only<;>omega
 ·rw [brn c]
  by_cases c2:at_+1>3000
  ·rw [brd c2]
   refine ⟨_,_,rfl,by omega,by omega, ?_⟩
   constructor<;>dsimp only<;>omega
  ·rw [brn c2,ai (seed*1103515245) om om,ai (seed*1103515245+12345) om om,iF (seed*1103515245+12345) _ om,PS _ _ om,ai _ om om,iF _ _ om]
   refine ⟨_,_,rfl,by omega,by omega, ?_⟩
   constructor<;>dsimp only<;>omega
theorem i8 {B n:Int} {m:aV} (h:Src B m) (hB:B+3<Big): ∃x m',ab n m=some (x,m')∧0≤x∧(1<n→x<n)∧(n≤1→x=0)∧Src (B+3) m':=by
 unfold ab
 by_cases c:n≤1
 ·rw [brd c];exact ⟨_,_,rfl,by omega,by omega,fun _=>rfl,h.mono om⟩
 ·rw [brn c]
  by_cases c2:n≤256
  ·rw [brd c2]
   obtain ⟨x,m1,e1,x0,x1,s1⟩:=wg h om
   rw [e1]
   simp only [obs]
   rw [brd om,iF _ _ x0]
   exact ⟨_,_,rfl,Int.emod_nonneg _ om,fun _=>Int.emod_lt_of_pos _ om,by omega,s1.mono om⟩
  ·rw [brn c2]
   obtain ⟨x,m1,e1,x0,x1,s1⟩:=wg h om
   obtain ⟨y,m2,e2,y0,y1,s2⟩:=wg s1 om
   obtain ⟨z,m3,e3,z0,z1,s3⟩:=wg s2 om
   rw [e1]
   simp only [obs]
   rw [e2]
   simp only [obs]
   rw [e3]
   simp only [obs]
   rw [brd om,ai (x*65536) om om,ai (y*256) om om,ai (x*65536+y*256) om om,ai _ om om,iF _ _ om]
   exact ⟨_,_,rfl,Int.emod_nonneg _ om,fun _=>Int.emod_lt_of_pos _ om,by omega,s3.mono om⟩
theorem uX {B n:Int} {m:aV} (h:Src B m) (hB:B+3<Big): ∃x m',aZ n m=some (x,m')∧Src (B+3) m':=by
 unfold aZ
 obtain ⟨x,m1,e1,_,_,_,s1⟩:=i8 (n:=n) h hB
 rw [e1]
 exact ⟨_,_,rfl,s1⟩
theorem Ds {B:Int} {m:aV} (h:Src B m) (hB:B+18<Big): ∃x m',am m=some (x,m')∧okF x∧Src (B+18) m':=by
 unfold am
 obtain ⟨x,m1,e1,x0,x1,_,s1⟩:=i8 (n:=5) h om
 have:=x1 om
 rw [e1]
 simp only [obs]
 by_cases c:x=0
 ·rw [bre c]
  obtain ⟨y,m2,e2,y0,y1,_,s2⟩:=i8 (n:=4) s1 om
  have:=y1 om
  rw [e2]
  exact ⟨_,_,rfl,⟨by omega,by omega⟩,s2.mono om⟩
 ·rw [aP c]
  by_cases c2:x=1
  ·rw [bre c2]
   obtain ⟨y,m2,e2,y0,y1,_,s2⟩:=i8 (n:=3) s1 om
   have:=y1 om
   rw [e2]
   refine ⟨_,_,rfl,⟨?_, ?_⟩,s2.mono om⟩<;>rw [ai _ om om]<;>omega
  ·rw [aP c2]
   have key:=qF (step:=cN)
    (fun s=>okF s.1∧0≤s.2.1∧s.2.1≤5∧Src (B+3+3*s.2.1) ⟨s.2.2.1,s.2.2.2.1,s.2.2.2.2⟩) (fun s=>(5-s.2.1).toNat)
    (fun e=>okF e.1∧Src (B+18) ⟨e.2.2.2.1,e.2.2.2.2.1,e.2.2.2.2.2⟩) ?_ ((0:Int),(0:Int),m1.code,m1.at_,m1.seed) ⟨⟨by first|omega| (dsimp only;omega),by first|omega| (dsimp only;omega)⟩,by first|omega| (dsimp only;omega),by first|omega| (dsimp only;omega),s1.mono (by first|omega| (dsimp only;omega))⟩
   ·obtain ⟨e,he,h1,h2⟩:=key
    rw [he]
    exact ⟨_,_,rfl,h1,h2⟩
   ·rintro ⟨n,i,c,c2,c3⟩ ⟨⟨n0,n1⟩,i0,i1,hs⟩
    dsimp only at n0 n1 i0 i1 hs
    by_cases hi:i<5
    ·left
     obtain ⟨y,m2,e2,y0,y1,_,s2⟩:=i8 (n:=256) hs om
     have:=y1 om
     simp only [cN]
     rw [brd hi,e2]
     simp only [obs]
     rw [ai (n*256) om om,ai (n*256+y) om om,ai (i+1) om om,iF _ _ om]
     refine ⟨_,rfl,⟨⟨?_, ?_⟩, ?_, ?_,s2.mono ?_⟩, ?_⟩<;>dsimp only<;>omega
    ·right
     simp only [cN]
     rw [brn hi]
     exact ⟨_,rfl,⟨n0,n1⟩,hs.mono (by first|omega| (dsimp only;omega))⟩
end Go.AI.Fn
set_option linter.unusedVariables false
namespace Go.AI.Fn
end Go.AI.Fn
set_option linter.unusedVariables false
namespace Go.AI.Fn
def Yg (n:Int):List UInt8:=[UInt8.ofInt (wI .i64 n 24),UInt8.ofInt (wI .i64 n 16),UInt8.ofInt (wI .i64 n 8),UInt8.ofInt n]
def e8 (x:Ext):List UInt8:=Yg x.A++Yg x.B
end Go.AI.Fn
set_option linter.unusedVariables false
set_option linter.unusedSimpArgs false
namespace Go.AI.Fn
end Go.AI.Fn
set_option linter.unusedVariables false
set_option linter.unusedSimpArgs false
namespace Go.AI.Fn
theorem FQ {α:Type} {p:α→Bool} {l:List α} {k:Nat} (hk:k<l.length) (h:p l[k]=true):l.any p=true:=List.any_eq_true.2 ⟨l[k],List.getElem_mem hk,h⟩
theorem Sm {α:Type} {p:α→Bool} {l:List α} (h: ∀k (hk:k<l.length),p l[k]=false):l.any p=false:=by
 rw [List.any_eq_false]
 intro x hx
 obtain ⟨k,hk,rfl⟩:=List.getElem_of_mem hx
 simp [h k hk]
theorem Bw {α:Type} {p:α→Bool} {f:α→Option Bool} {l:List α} (hl:l.length≤1099511627776) (hf: ∀x∈l,f x=some (p x)) {step:Int→Option (Int⊕(Int⊕(Int×Bool)))}
 (hs: ∀t,step t=br (decide (t<((l.length:Nat):Int))) ((atL l t).bind fun x=>(f x).bind fun r=>br r (some (.inr (.inl t))) (some (.inl (IntKind.wrap .i64 (t+1))))) (some (.inr (.inr (t,decide (t<((l.length:Nat):Int))))))):
 ((Loop step 0).bind (alt (fun e=>some e) (fun _=>some (-1)))).bind (fun r=>some (decide (r≥0)))=some (l.any p):=by
 have key:=mb (step:=step) (fun k=>(k:Int)) l.length (fun k=> !((l[k]?.map p).getD false)) (fun k=> .inl (k:Int)) (e:= .inr ((l.length:Int),false)) (fun k hk hp=>by
  have hb:p l[k]=false:=by simpa [hk] using hp
  rw [hs,brd om,ci hk,obs,hf _ (List.getElem_mem hk),obs,hb,aC,ai _ om om];rfl)
  (fun k hk hp=>by
   have hb:p l[k]=true:=by simpa [hk] using hp
   rw [hs,brd om,ci hk,obs,hf _ (List.getElem_mem hk),obs,hb,bC])
  (by rw [hs,brn om,decide_eq_false om])
 rcases key with ⟨h1,h2⟩|⟨k,hk,h1,_,h2⟩
 ·have e:Loop step 0=some (.inr ((l.length:Int),false)):=h2
  rw [e,Sm (fun k hk=>by simpa [hk] using h1 k hk)];rfl
 ·have e:Loop step 0=some (.inl (k:Int)):=h2
  rw [e,FQ hk (by simpa [hk] using h1)]
  simp only [obs,kZ]
  rw [decide_eq_true om]
theorem Sp {α:Type} {p:α→Bool} {f:α→Option Bool} {l:List α} (hl:l.length≤1099511627776) (hf: ∀x∈l,f x=some (p x)) {step:Int→Option (Int⊕(Unit⊕(Int×Bool)))}
 (hs: ∀t,step t=br (decide (t<((l.length:Nat):Int))) ((atL l t).bind fun x=>(f x).bind fun r=>br (!r) (some (.inr (.inl ()))) (some (.inl (IntKind.wrap .i64 (t+1))))) (some (.inr (.inr (t,decide (t<((l.length:Nat):Int))))))):
 (Loop step 0).bind (alt (fun _=>some false) (fun _=>some true))=some (l.all p):=by
 have key:=mb (step:=step) (fun k=>(k:Int)) l.length (fun k=>((l[k]?.map p).getD false)) (fun k=> .inl ()) (e:= .inr ((l.length:Int),false)) (fun k hk hp=>by
  have hb:p l[k]=true:=by simpa [hk] using hp
  rw [hs,brd om,ci hk,obs,hf _ (List.getElem_mem hk),obs,hb,Bool.not_true,aC,ai _ om om];rfl)
  (fun k hk hp=>by
   have hb:p l[k]=false:=by simpa [hk] using hp
   rw [hs,brd om,ci hk,obs,hf _ (List.getElem_mem hk),obs,hb,Bool.not_false,bC])
  (by rw [hs,brn om,decide_eq_false om])
 rcases key with ⟨h1,h2⟩|⟨k,hk,h1,_,h2⟩
 ·have e:Loop step 0=some (.inr ((l.length:Int),false)):=h2
  have ha:l.all p=true:=List.all_eq_true.2 fun x hx=>by
   obtain ⟨k,hk,rfl⟩:=List.getElem_of_mem hx
   simpa [hk] using h1 k hk
  rw [e,ha];rfl
 ·have e:Loop step 0=some (.inl ()):=h2
  have ha:l.all p=false:=by
   rw [List.all_eq_false]
   exact ⟨l[k],List.getElem_mem hk,by simpa [hk] using h1⟩
  rw [e,ha];rfl
theorem Ct {α:Type} (p:α→Bool) (l:List α):(!l.any fun x=> !p x)=l.all p:=by
 induction l with
 |nil=>rfl
 |cons x l ih=>simp only [List.any_cons,List.all_cons, ←ih];cases p x<;>simp
theorem nO {l:List Int} (hl:l.length≤1099511627776):bD l=some (l.all pG):=by
 unfold bD aY b7
 rw [Bw (step:=aX l ((l.length:Nat):Int)) (p:=fun x=> !pG x) (f:=dc) hl (fun x _=>by unfold dc;rw [ul];rfl) (fun t=>rfl),obs,Ct]
theorem vz {l:List Int} (hl:l.length≤1099511627776):iu l=some (l.all pG):=by
 unfold iu
 exact Sp (f:=bw) hl (fun x _=>tP x) (fun t=>rfl)
def ny (l:List Ext):Prop:= ∀x∈l,okE x
def cX (l:List Int):Prop:= ∀x∈l,okF x
theorem ny.get {l:List Ext} (h:ny l) {k:Nat} (hk:k<l.length):okE l[k]:=h _ (List.getElem_mem hk)
theorem cX.get {l:List Int} (h:cX l) {k:Nat} (hk:k<l.length):okF l[k]:=h _ (List.getElem_mem hk)
theorem ny.app {l m:List Ext} (h:ny l) (h2:ny m):ny (l++m):=fun x hx=>(List.mem_append.1 hx).elim (h x) (h2 x)
theorem ny.nil:ny []:=fun x hx=>by cases hx
theorem ny.one {x:Ext} (h:okE x):ny [x]:=fun y hy=>by rw [List.mem_singleton.1 hy];exact h
theorem ny.map {α:Type} {f:α→Ext} (l:List α) (h: ∀x∈l,okE (f x)):ny (l.map f):=fun y hy=>by obtain ⟨x,hx,rfl⟩:=List.mem_map.1 hy;exact h x hx
theorem ny.take {l:List Ext} (h:ny l) (k:Nat):ny (l.take k):=fun x hx=>h x (List.mem_of_mem_take hx)
theorem ny.drop {l:List Ext} (h:ny l) (k:Nat):ny (l.drop k):=fun x hx=>h x (List.mem_of_mem_drop hx)
theorem ny.getD {l:List Ext} (h:ny l) (k:Nat):okE (l.getD k e0):=by
 by_cases hk:k<l.length
 ·simp [hk];exact h.get hk
 ·simp [List.getElem?_eq_none (Nat.le_of_not_lt hk)];exact Y1
end Go.AI.Fn
set_option linter.unusedVariables false
set_option linter.unusedSimpArgs false
namespace Go.AI.Fn
def jb (op:Int):Int:=if 4≤op∧op≤7 then 2 else if op=8 then 1 else 0
theorem uD (op:Int):cG op=some (jb op):=by
 unfold cG jb
 rw [Lq,obs]
 by_cases h1:4≤op∧op≤7
 ·rw [decide_eq_true h1,if_pos h1];rfl
 ·rw [decide_eq_false h1,if_neg h1,aC]
  by_cases h2:op=8
  ·rw [bre h2,if_pos h2]
  ·rw [aP h2,if_neg h2]
def aI (l:List aa) (op:Int):Nat:=l.countP fun g=>g.Op==op
theorem cF (l:List aa) (x:aa) (op:Int):aI (l++[x]) op=aI l op+(if (x.Op==op)=true then 1 else 0):=by
 simp only [aI,List.countP_append,List.countP_singleton]
theorem cU (l:List aa) (op:Int):aI l op≤l.length:=List.countP_le_length
theorem O5 (b:Bool):to b=some (if b=true then 1 else 0):=by cases b<;>rfl
theorem fV {c:Circuit} {op:Int} (h:c.Gates.length≤1048576):ck c op=some (aI c.Gates op:Int):=by
 unfold ck
 have key:=eC (step:=ey op c.Gates) (fun j=>((aI (c.Gates.take j) op:Int),(j:Int))) c.Gates.length (e:=((aI c.Gates op:Int),(c.Gates.length:Int),false)) (fun j hj=> ?_) ?_
 ·rw [show ((0:Int),(0:Int))=((aI (c.Gates.take 0) op:Int),((0:Nat):Int)) from rfl,key];rfl
 ·have hle:=cU (c.Gates.take j) op
  rw [List.length_take] at hle
  simp only [ey]
  rw [brd om,ci hj,obs,O5,obs,dp hj,cF]
  cases hb:(c.Gates[j].Op==op)
  ·rw [if_neg (by simp),if_neg (by simp),ai _ om om,ai _ om om];simp
  ·rw [if_pos rfl,if_pos rfl,ai _ om om,ai _ om om];simp
 ·simp only [ey]
  rw [brn om,decide_eq_false om,List.take_length]
def dL (g:aa) (k:Int):Bool:=
 decide (1≤g.Op∧g.Op≤8)&&(br (decide (jb g.Op>0)) (decide (0≤g.A∧g.A≤k-1)) (g.A==0)&&(br (decide (jb g.Op>1)) (decide (0≤g.B∧g.B≤k-1)) (g.B==0)&&br (g.Op==3) (pG g.K) (g.K==0)))
theorem zX {g:aa} {k:Int} (h0:0≤k) (h1:k≤1048576):o8 g k=some (dL g k):=by
 have hu:jb g.Op=0∨jb g.Op=1∨jb g.Op=2:=by
  unfold jb
  split
  ·simp
  ·split<;>simp
 unfold o8 dL
 simp only [Lq,tP,uD,obs,bne]
 rw [ai (k-1) om om]
 generalize jb g.Op=u at hu ⊢
 generalize decide (0≤g.A∧g.A≤k-1)=a
 generalize decide (0≤g.B∧g.B≤k-1)=b
 generalize decide (1≤g.Op∧g.Op≤8)=o
 generalize (g.A==0)=za
 generalize (g.B==0)=zb
 generalize (g.Op==3)=o3
 generalize (g.K==0)=zk
 rcases hu with rfl|rfl|rfl<;>cases o<;>cases a<;>cases b<;>cases za<;>cases zb<;>cases o3<;>rfl
def j4 (l:List aa):Bool:=decide (1≤l.length∧l.length≤15)&&((List.range l.length).all (fun k=>((l[k]?.map fun g=>dL g (k:Int)).getD false))&&decide ((aI l 2:Int)≤7))
structure OkC (l:List aa):Prop where
 n1:1≤l.length
 n2:l.length≤15
 g: ∀(k:Nat) (h:k<l.length),dL l[k] (k:Int)=true
 p:aI l 2≤7
theorem yH {l:List aa} (h:j4 l=true):OkC l:=by
 simp only [j4,Bool.and_eq_true,decide_eq_true_eq,List.all_eq_true,List.mem_range] at h
 obtain ⟨⟨h1,h2⟩,h3,h4⟩:=h
 exact ⟨h1,h2,fun k hk=>by simpa [hk] using h3 k hk,by omega⟩
theorem qy {c:Circuit} (h:c.Gates.length≤1048576):iB c=some (j4 c.Gates):=by
 unfold iB j4
 rw [Lq,obs]
 by_cases h1:1≤c.Gates.length∧c.Gates.length≤15
 ·rw [decide_eq_true om,decide_eq_true h1,Bool.not_true,aC,Bool.true_and]
  have key:=mb (step:=ce c.Gates) (fun k=>(k:Int)) c.Gates.length (fun k=>((c.Gates[k]?.map fun g=>dL g (k:Int)).getD false)) (fun k=> .inl ()) (e:= .inr ((c.Gates.length:Int),false)) (fun k hk hp=>by
   have hb:dL c.Gates[k] (k:Int)=true:=by simpa [hk] using hp
   simp only [ce]
   rw [brd om,ci hk,obs,zX om om,obs,hb,Bool.not_true,aC,ai _ om om];rfl)
   (fun k hk hp=>by
    have hb:dL c.Gates[k] (k:Int)=false:=by simpa [hk] using hp
    simp only [ce]
    rw [brd om,ci hk,obs,zX om om,obs,hb,Bool.not_false,bC])
   (by simp only [ce];rw [brn om,decide_eq_false om])
  rcases key with ⟨h2,h3⟩|⟨k,hk,h2,_,h3⟩
  ·have e:Loop (ce c.Gates) 0=some (.inr ((c.Gates.length:Int),false)):=h3
   have ha:(List.range c.Gates.length).all (fun k=>((c.Gates[k]?.map fun g=>dL g (k:Int)).getD false))=true:=List.all_eq_true.2 fun k hk=>h2 k (List.mem_range.1 hk)
   rw [e,ha,obs,mX,fV h,obs,Bool.true_and]
  ·have e:Loop (ce c.Gates) 0=some (.inl ()):=h3
   have ha:(List.range c.Gates.length).all (fun k=>((c.Gates[k]?.map fun g=>dL g (k:Int)).getD false))=false:=List.all_eq_false.2 ⟨k,List.mem_range.2 hk,by rw [h2];simp⟩
   rw [e,ha,obs,kZ,Bool.false_and]
 ·rw [decide_eq_false om,decide_eq_false h1,Bool.not_false,bC,Bool.false_and]
def gvM (P I out:List Int) (p i:Nat) (g:aa):Int:=
 if g.Op=1 then I.getD i 0 else if g.Op=2 then P.getD p 0 else if g.Op=3 then g.K else if g.Op=4 then aF (out.getD g.A.toNat 0) (out.getD g.B.toNat 0)
 else if g.Op=5 then sF (out.getD g.A.toNat 0) (out.getD g.B.toNat 0) else if g.Op=6 then mF (out.getD g.A.toNat 0) (out.getD g.B.toNat 0) else out.getD g.A.toNat 0
def rnM (P I:List Int) (l:List aa):Nat→List Int
 |0=>[]
 |j+1=>rnM P I l j++[gvM P I (rnM P I l j) (aI (l.take j) 2) (aI (l.take j) 1) (l.getD j ⟨0,0,0,0⟩)]
theorem fL (P I:List Int) (l:List aa): ∀j,(rnM P I l j).length=j
 |0=>rfl
 |j+1=>by rw [rnM,List.length_append,fL P I l j];rfl
theorem iN {g:aa} {k:Int} (h:dL g k=true):(1≤g.Op∧g.Op≤8)∧(4≤g.Op→0≤g.A∧g.A≤k-1)∧(4≤g.Op→g.Op≤7→0≤g.B∧g.B≤k-1)∧(g.Op=3→okF g.K):=by
 simp only [dL,Bool.and_eq_true,decide_eq_true_eq] at h
 obtain ⟨h1,h2,h3,h4⟩:=h
 refine ⟨h1,fun h=> ?_,fun h g7=> ?_,fun h=> ?_⟩
 ·rw [brd (by
   unfold jb
   split
   ·omega
   ·split<;>omega)] at h2
  exact of_decide_eq_true h2
 ·rw [brd (by unfold jb;rw [if_pos ⟨h,g7⟩];omega)] at h3
  exact of_decide_eq_true h3
 ·rw [bre h] at h4
  exact tT.1 h4
theorem dQ {l:List aa} {j:Nat} {op:Int} (hj:j<l.length) (h:l[j].Op=op):aI (l.take j) op<aI l op:=by
 have h1:aI (l.take (j+1)) op≤aI l op:=List.Sublist.countP_le (List.take_sublist _ _)
 rw [dp hj,cF,if_pos (by simp [h])] at h1
 omega
theorem hG {l:List Int} {k:Nat} (h:k<l.length):atL l (k:Int)=some (l.getD k 0):=by rw [ci h];simp [h]
theorem dE {l:List Int} {k:Nat} (h:k<l.length):l[k]? =some (l.getD k 0):=by simp [h]
theorem cP {l:List Int} (h:cX l) {k:Nat} (hk:k<l.length):okF (l.getD k 0):=by
 have:l.getD k 0=l[k]:=by simp [hk]
 rw [this];exact h _ (List.getElem_mem hk)
theorem TJ {P I o:List Int} {p i:Nat} {g:aa} (hP:cX P) (hI:cX I) (ho:cX o) (hg:dL g (o.length:Int)=true) (hp:g.Op=2→p<P.length) (hi:g.Op=1→i<I.length):okF (gvM P I o p i g):=by
 obtain ⟨h1,h2,h3,h4⟩:=iN hg
 unfold gvM
 split
 ·rename_i h;exact cP hI (hi h)
 split
 ·rename_i h;exact cP hP (hp h)
 split
 ·rename_i h;exact h4 h
 have a:=h2 om
 split
 ·have b:=h3 om om;exact Ew _ _
 split
 ·have b:=h3 om om;exact Tg _ _
 split
 ·exact zI _ _
 ·exact cP ho om
theorem uL {P I:List Int} {l:List aa} (ok:OkC l) (hP:cX P) (hI:cX I) (lP:P.length=aI l 2) (lI:I.length=aI l 1): ∀j,j≤l.length→cX (rnM P I l j)
 |0,_=>fun x hx=>by cases hx
 |j+1,h=>by
  have ih:=uL ok hP hI lP lI j om
  have hj:j<l.length:=by omega
  have hd:l.getD j ⟨0,0,0,0⟩=l[j]:=by simp [hj]
  intro x hx
  rw [rnM,hd,List.mem_append,List.mem_singleton] at hx
  rcases hx with hx|rfl
  ·exact ih x hx
  ·exact TJ hP hI ih (by rw [fL];exact ok.g j hj) (fun h=>by rw [lP];exact dQ hj h) (fun h=>by rw [lI];exact dQ hj h)
theorem D8 {c:Circuit} {P I:List Int} (ok:OkC c.Gates) (hP:cX P) (hI:cX I) (lP:P.length=aI c.Gates 2) (lI:I.length=aI c.Gates 1):qP c P I=some (rnM P I c.Gates c.Gates.length):=by
 have hn:=ok.n2
 unfold qP
 have key:=eC (step:=gt P I c.Gates) (fun j=>(rnM P I c.Gates j,(aI (c.Gates.take j) 2:Int),(aI (c.Gates.take j) 1:Int),(j:Int))) c.Gates.length (e:=(rnM P I c.Gates c.Gates.length,(aI c.Gates 2:Int),(aI c.Gates 1:Int),(c.Gates.length:Int),false)) (fun j hj=> ?_) ?_
 ·have:((rnM P I c.Gates 0,(aI (c.Gates.take 0) 2:Int),(aI (c.Gates.take 0) 1:Int),((0:Nat):Int)):List Int×Int×Int×Int)=([],0,0,0):=rfl
  rw [←this,key];rfl
 ·have hd:c.Gates.getD j ⟨0,0,0,0⟩=c.Gates[j]:=by simp [hj]
  obtain ⟨g1,g2,g3,g4⟩:=iN (ok.g j hj)
  have l2:=cU (c.Gates.take j) 2
  have l1:=cU (c.Gates.take j) 1
  rw [List.length_take] at l1 l2
  have hro:=uL ok hP hI lP lI j om
  have hrl:=fL P I c.Gates j
  have t2:=dQ (op:=2) hj
  have t1:=dQ (op:=1) hj
  simp only [gt]
  rw [brd om,ci hj,obs,dp hj,cF,cF,rnM,hd]
  generalize c.Gates[j]=g at*
  generalize rnM P I c.Gates j=o at*
  have hfit: ∀v:Int,(o++[v]).length*8≤1099511627776:=fun v=>by rw [List.length_append,hrl];simp;omega
  have hop:g.Op=1∨g.Op=2∨g.Op=3∨g.Op=4∨g.Op=5∨g.Op=6∨7≤g.Op:=by omega
  rcases hop with h|h|h|h|h|h|h
  ·rw [bre h,hG (by have:=t1 h;omega),obs,bn (hfit _),ai _ om om,ai _ om om]
   simp [gvM,h]
  ·rw [aP om,bre h,hG (by have:=t2 h;omega),obs,bn (hfit _),ai _ om om,ai _ om om]
   simp [gvM,h]
  ·rw [aP om,aP om,bre h,bn (hfit _),ai _ om om]
   simp [gvM,h]
  ·have a:=g2 om
   have b:=g3 om om
   rw [aP om,aP om,aP om,bre h,brd a.1,brd om,dE om,obs,brd b.1,brd om,dE om,obs,E1 (cP hro om) (cP hro om),obs,bn (hfit _),ai _ om om]
   simp [gvM,h]
  ·have a:=g2 om
   have b:=g3 om om
   rw [aP om,aP om,aP om,aP om,bre h,brd a.1,brd om,dE om,obs,brd b.1,brd om,dE om,obs,M3 (cP hro om) (cP hro om),obs,bn (hfit _),ai _ om om]
   simp [gvM,h]
  ·have a:=g2 om
   have b:=g3 om om
   rw [aP om,aP om,aP om,aP om,aP om,bre h,brd a.1,brd om,dE om,obs,brd b.1,brd om,dE om,obs,NA (cP hro om) (cP hro om),obs,bn (hfit _),ai _ om om]
   simp [gvM,h]
  ·have a:=g2 om
   rw [aP om,aP om,aP om,aP om,aP om,aP om,brd a.1,brd om,dE om,obs,bn (hfit _),ai _ om om]
   have e1:(g.Op==1)=false:=by simp;omega
   have e2:(g.Op==2)=false:=by simp;omega
   rw [e1,e2,gvM,if_neg om,if_neg om,if_neg om,if_neg om,if_neg om,if_neg om]
   simp
 ·simp only [gt]
  rw [brn om,decide_eq_false om,List.take_length]
def dW (v:List Int) (g:aa):Bool:=br (g.Op==7) (v.getD g.A.toNat 0==v.getD g.B.toNat 0) true&&br (g.Op==8) (decide (v.getD g.A.toNat 0≤1)) true
theorem ux {l:List Int} {i:Int} (h0:0≤i) (h1:i.toNat<l.length):atL l i=some (l.getD i.toNat 0):=by
 have:i=((i.toNat:Nat):Int):=by omega
 conv=>lhs;rw [this]
 exact hG h1
theorem AU {c:Circuit} {v:List Int} (ok:OkC c.Gates) (hv:v.length=c.Gates.length):nM c v=some (c.Gates.all (dW v)):=by
 have hn:=ok.n2
 unfold nM
 have stp: ∀k (hk:k<c.Gates.length),cQ v c.Gates (k:Int)=if dW v c.Gates[k]=true then some (.inl ((k+1:Nat):Int)) else some (.inr (.inl (c.Gates[k].Op,c.Gates[k].A,c.Gates[k].B,c.Gates[k].K))):=fun k hk=>by
  obtain ⟨g1,g2,g3,g4⟩:=iN (ok.g k hk)
  simp only [cQ]
  rw [brd om,ci hk,obs]
  generalize c.Gates[k]=g at*
  have e:IntKind.wrap .i64 ((k:Int)+1)=((k+1:Nat):Int):=by rw [ai _ om om];omega
  by_cases h7:g.Op=7
  ·have a:=g2 om
   have b:=g3 om om
   rw [bre h7,ux a.1 om,obs,ux b.1 om,obs,aP (by omega:g.Op≠8),dW,bre h7,aP (by omega:g.Op≠8),Bool.and_true,e]
   by_cases h:v.getD g.A.toNat 0=v.getD g.B.toNat 0
   ·rw [hQ h,if_pos (by simpa using h)]
   ·rw [brb h,if_neg (by simpa using h)]
  ·rw [aP h7,dW,aP h7,Bool.true_and]
   by_cases h8:g.Op=8
   ·have a:=g2 om
    rw [bre h8,bre h8,ux a.1 om,obs,e]
    by_cases h:v.getD g.A.toNat 0>1
    ·rw [brd h,decide_eq_false om,if_neg (by simp)]
    ·rw [brn h,decide_eq_true om,if_pos rfl]
   ·rw [aP h8,aP h8,if_pos rfl,e]
 have key:=mb (step:=cQ v c.Gates) (fun k=>(k:Int)) c.Gates.length (fun k=>((c.Gates[k]?.map (dW v)).getD false)) (fun k=> .inl ((c.Gates.getD k ⟨0,0,0,0⟩).Op,(c.Gates.getD k ⟨0,0,0,0⟩).A,(c.Gates.getD k ⟨0,0,0,0⟩).B,(c.Gates.getD k ⟨0,0,0,0⟩).K)) (e:= .inr ((c.Gates.length:Int),false)) (fun k hk hp=>by
  have hb:dW v c.Gates[k]=true:=by simpa [hk] using hp
  rw [stp k hk,if_pos hb])
  (fun k hk hp=>by
   have hb:dW v c.Gates[k]=false:=by simpa [hk] using hp
   have hd:c.Gates.getD k ⟨0,0,0,0⟩=c.Gates[k]:=by simp [hk]
   rw [stp k hk,if_neg (by rw [hb];simp),hd])
  (by simp only [cQ];rw [brn om,decide_eq_false om])
 rcases key with ⟨h2,h3⟩|⟨k,hk,h2,_,h3⟩
 ·have e:Loop (cQ v c.Gates) 0=some (.inr ((c.Gates.length:Int),false)):=h3
  have ha:c.Gates.all (dW v)=true:=List.all_eq_true.2 fun x hx=>by
   obtain ⟨k,hk,rfl⟩:=List.getElem_of_mem hx
   simpa [hk] using h2 k hk
  rw [e,ha,obs,mX]
 ·have ha:c.Gates.all (dW v)=false:=List.all_eq_false.2 ⟨c.Gates[k],List.getElem_mem hk,by simpa [hk] using h2⟩
  have h4:Loop (cQ v c.Gates) 0=_:=h3
  rw [h4,ha,obs,kZ]
def prM (v:List Int) (l:List aa):Nat→List Int
 |0=>[]
 |j+1=>prM v l j++(if (l.getD j ⟨0,0,0,0⟩).Op=2 then [] else [v.getD j 0])
theorem rj (v:List Int) (l:List aa): ∀j,j≤l.length→(prM v l j).length+aI (l.take j) 2=j
 |0,_=>rfl
 |j+1,h=>by
  have hj:j<l.length:=by omega
  have ih:=rj v l j om
  have hd:l.getD j ⟨0,0,0,0⟩=l[j]:=by simp [hj]
  rw [prM,dp hj,cF,List.length_append,hd]
  by_cases h2:l[j].Op=2
  ·rw [if_pos h2,if_pos (by simp [h2])];simp;omega
  ·rw [if_neg h2,if_neg (by simp [h2])];simp;omega
theorem FT {v:List Int} {l:List aa} (hv:cX v) (hl:v.length=l.length): ∀j,j≤l.length→cX (prM v l j)
 |0,_=>fun x hx=>by cases hx
 |j+1,h=>by
  have ih:=FT hv hl j om
  intro x hx
  rw [prM,List.mem_append] at hx
  rcases hx with hx|hx
  ·exact ih x hx
  ·split at hx
   ·cases hx
   ·rw [List.mem_singleton] at hx;subst hx;exact cP hv om
end Go.AI.Fn
set_option linter.unusedVariables false
set_option linter.unusedSimpArgs false
set_option maxRecDepth 10000
namespace Go.AI.Fn
abbrev DrS:Type:=(List aa)×Int×(List UInt8)×Int×Int
abbrev DrE:Type:=(List aa)×Int×Bool×(List UInt8)×Int×Int
noncomputable def vk (l:List aa) (t2:Int) (g:aa) (m:aV):Option (DrS⊕DrE):=
 br (aK (l++[g]).length 32) (some (.inl (l++[g],IntKind.wrap .i64 (t2+1),m.code,m.at_,m.seed))) none
noncomputable def F8 (l:List aa) (t2 op a b:Int) (m:aV):Option (DrS⊕DrE):=
 br (op==3) ((am m).bind fun r_13=>(ab 3 r_13.2).bind fun r_14=>
  br (decide (0≤r_14.1)) (br (decide (r_14.1.toNat<([0,1,r_13.1]:List Int).length)) ((([0,1,r_13.1]:List Int)[r_14.1.toNat]?).bind fun x=>
   vk l t2 ⟨op,a,b,x⟩ r_14.2) none) none) (vk l t2 ⟨op,a,b,0⟩ m)
noncomputable def GA (l:List aa) (t2 op:Int) (m:aV):Option (DrS⊕DrE):=
 (cG op).bind fun r_9=>br (r_9==2)
  ((ab t2 m).bind fun a=>(ab t2 a.2).bind fun b=>
    br (op==7) ((aZ 5 b.2).bind fun c=>br (!c.1) (F8 l t2 op a.1 a.1 c.2) (F8 l t2 op a.1 b.1 c.2)) (F8 l t2 op a.1 b.1 b.2))
  (br (r_9==1) ((ab t2 m).bind fun a=>F8 l t2 op a.1 0 a.2) (F8 l t2 op 0 0 m))
noncomputable def EQ (l:List aa) (t2:Int) (m:aV):Option (DrS⊕DrE):=
 (cG 1).bind fun r_9=>br (r_9==2)
  ((ab t2 m).bind fun a=>(ab t2 a.2).bind fun b=>vk l t2 ⟨1,a.1,b.1,0⟩ b.2)
  (br (r_9==1) ((ab t2 m).bind fun a=>vk l t2 ⟨1,a.1,0,0⟩ a.2) (vk l t2 ⟨1,0,0,0⟩ m))
noncomputable def opM (l:List aa) (t2 op:Int) (m:aV):Option (DrS⊕DrE):=
 br (op==2) ((ck ⟨l⟩ 2).bind fun r_4=>br (r_4==3) (EQ l t2 m) (GA l t2 op m)) (GA l t2 op m)
theorem Iz (t t2:Int) (l:List aa) (c:List UInt8) (c2 c3:Int):cW t (l,t2,c,c2,c3)=
 br (decide (t2<t)) ((ab 8 ⟨c,c2,c3⟩).bind fun r_2=>
  br (t2==0) ((ab 3 r_2.2).bind fun r_3=>opM l t2 (IntKind.wrap .i64 (1+r_3.1)) r_3.2)
   ((aZ 3 r_2.2).bind fun r_3=>br r_3.1 ((ab 3 r_3.2).bind fun r_4=>opM l t2 (IntKind.wrap .i64 (1+r_4.1)) r_4.2) (opM l t2 (IntKind.wrap .i64 (1+r_2.1)) r_3.2)))
  (some (.inr (l,t2,decide (t2<t),c,c2,c3))):=rfl
def Psh (l:List aa) (k:Nat) (op B:Int) (o:Option (DrS⊕DrE)):Prop:=
 ∃g m,o=some (.inl (l++[g],((k+1:Nat):Int),m.code,m.at_,m.seed))∧dL g (k:Int)=true∧g.Op=op∧Src B m
theorem Bt {l:List aa} {k:Nat} {g:aa} {m:aV} {B:Int} (hl:l.length≤100) (hk:k≤100) (hg:dL g (k:Int)=true) (h:Src B m):Psh l k g.Op B (vk l (k:Int) g m):=by
 unfold vk
 rw [bn (by simp;omega),ai _ om om]
 exact ⟨g,m,by rw [show (k:Int)+1=((k+1:Nat):Int) by omega],hg,rfl,h⟩
theorem Aw {g:aa} {k:Int} (h1:1≤g.Op∧g.Op≤8) (hA:if 4≤g.Op then 0≤g.A∧g.A≤k-1 else g.A=0) (hB:if 4≤g.Op∧g.Op≤7 then 0≤g.B∧g.B≤k-1 else g.B=0) (hK:if g.Op=3 then okF g.K else g.K=0):dL g k=true:=by
 unfold dL
 rw [decide_eq_true h1,Bool.true_and]
 have u1:decide (jb g.Op>0)=decide (4≤g.Op):=by
  unfold jb
  split
  ·rw [decide_eq_true om,decide_eq_true om]
  ·split
   ·rw [decide_eq_true om,decide_eq_true om]
   ·rw [decide_eq_false om,decide_eq_false om]
 have u2:decide (jb g.Op>1)=decide (4≤g.Op∧g.Op≤7):=by
  unfold jb
  split
  ·rename_i h;rw [decide_eq_true om,decide_eq_true h]
  ·rename_i h
   split
   ·rw [decide_eq_false om,decide_eq_false h]
   ·rw [decide_eq_false om,decide_eq_false h]
 rw [u1,u2]
 have a:br (decide (4≤g.Op)) (decide (0≤g.A∧g.A≤k-1)) (g.A==0)=true:=by
  by_cases h:4≤g.Op
  ·rw [if_pos h] at hA;rw [brd h,decide_eq_true hA]
  ·rw [if_neg h] at hA;rw [brn h,hA];rfl
 have b:br (decide (4≤g.Op∧g.Op≤7)) (decide (0≤g.B∧g.B≤k-1)) (g.B==0)=true:=by
  by_cases h:4≤g.Op∧g.Op≤7
  ·rw [if_pos h] at hB;rw [brd h,decide_eq_true hB]
  ·rw [if_neg h] at hB;rw [brn h,hB];rfl
 have c:br (g.Op==3) (pG g.K) (g.K==0)=true:=by
  by_cases h:g.Op=3
  ·rw [if_pos h] at hK;rw [bre h,tT.2 hK]
  ·rw [if_neg h] at hK;rw [aP h,hK];rfl
 rw [a,b,c];rfl
theorem wY {l:List aa} {k:Nat} {op a b:Int} {m:aV} {B:Int} (hl:l.length≤100) (hk:k≤100) (h1:1≤op∧op≤8) (hA:if 4≤op then 0≤a∧a≤(k:Int)-1 else a=0) (hB:if 4≤op∧op≤7 then 0≤b∧b≤(k:Int)-1 else b=0)
 (h:Src B m) (hb:B+21<Big):Psh l k op (B+21) (F8 l (k:Int) op a b m):=by
 unfold F8
 by_cases h3:op=3
 ·rw [bre h3]
  obtain ⟨x,m1,e1,ox,s1⟩:=Ds h om
  obtain ⟨y,m2,e2,y0,y1,_,s2⟩:=i8 (n:=3) s1 om
  have y3:=y1 om
  rw [e1,obs,e2,obs]
  dsimp only
  rw [brd y0,brd (by simp;omega)]
  have hx: ∃z,([0,1,x]:List Int)[y.toNat]? =some z∧okF z:=by
   have:y=0∨y=1∨y=2:=by omega
   rcases this with rfl|rfl|rfl
   ·exact ⟨0,rfl,by omega,by omega⟩
   ·exact ⟨1,rfl,by omega,by omega⟩
   ·exact ⟨x,rfl,ox⟩
  obtain ⟨z,e3,oz⟩:=hx
  rw [e3,obs]
  exact Bt hl hk (Aw h1 hA hB (by rw [if_pos h3];exact oz)) (s2.mono om)
 ·rw [aP h3]
  exact Bt hl hk (Aw h1 hA hB (by rw [if_neg h3])) (h.mono om)
theorem GR {l:List aa} {k:Nat} {op:Int} {m:aV} {B:Int} (hl:l.length≤100) (hk:k≤100) (h1:1≤op∧op≤8) (h4:4≤op→1≤k) (h:Src B m) (hb:B+30<Big):Psh l k op (B+30) (GA l (k:Int) op m):=by
 unfold GA
 rw [uD,obs]
 have up: ∀{C:Int} {o:Option (DrS⊕DrE)},C≤B+30→Psh l k op C o→Psh l k op (B+30) o:=fun hc ⟨g,m,e,hg,ho,hs⟩=>⟨g,m,e,hg,ho,hs.mono hc⟩
 have nx: ∀{C:Int} {m:aV},1≤k→Src C m→C+3<Big→ ∃x m',ab (k:Int) m=some (x,m')∧(0≤x∧x≤(k:Int)-1)∧Src (C+3) m':=fun hk1 hs hc=>by
  obtain ⟨x,m',e,x0,x1,x2,s⟩:=i8 (n:=(k:Int)) hs hc
  refine ⟨x,m',e,⟨x0, ?_⟩,s⟩
  by_cases h2:1<(k:Int)
  ·have:=x1 h2;omega
  ·have:=x2 om;omega
 unfold jb
 by_cases c1:4≤op∧op≤7
 ·rw [if_pos c1,bre rfl]
  obtain ⟨a,m1,e1,ha,s1⟩:=nx (h4 om) h om
  obtain ⟨b,m2,e2,hb',s2⟩:=nx (h4 om) s1 om
  rw [e1,obs,e2,obs]
  dsimp only
  by_cases c7:op=7
  ·rw [bre c7]
   obtain ⟨x,m3,e3,s3⟩:=uX (n:=5) s2 om
   rw [e3,obs]
   dsimp only
   cases x
   ·exact up om (wY hl hk h1 (by rw [if_pos om];exact ha) (by rw [if_pos c1];exact ha) s3 om)
   ·exact up om (wY hl hk h1 (by rw [if_pos om];exact ha) (by rw [if_pos c1];exact hb') s3 om)
  ·rw [aP c7]
   exact up om (wY hl hk h1 (by rw [if_pos om];exact ha) (by rw [if_pos c1];exact hb') s2 om)
 ·rw [if_neg c1]
  by_cases c8:op=8
  ·rw [if_pos c8,aP om,bre rfl]
   obtain ⟨a,m1,e1,ha,s1⟩:=nx (h4 om) h om
   rw [e1,obs]
   exact up om (wY hl hk h1 (by rw [if_pos om];exact ha) (by rw [if_neg c1]) s1 om)
  ·rw [if_neg c8,aP om,aP om]
   exact up om (wY hl hk h1 (by rw [if_neg om]) (by rw [if_neg c1]) h om)
theorem MH {l:List aa} {k:Nat} {m:aV} {B:Int} (hl:l.length≤100) (hk:k≤100) (h:Src B m):Psh l k 1 B (EQ l (k:Int) m):=by
 unfold EQ
 rw [uD,obs]
 show Psh l k 1 B (vk l (k:Int) ⟨1,0,0,0⟩ m)
 exact Bt hl hk (Aw (g:=⟨1,0,0,0⟩) (by simp) (by simp) (by simp) (by simp)) h
theorem XQ {l:List aa} {k:Nat} {op:Int} {m:aV} {B:Int} (hl:l.length≤100) (hk:k≤100) (h1:1≤op∧op≤8) (h4:4≤op→1≤k) (hp:aI l 2≤3) (h:Src B m) (hb:B+30<Big):
 ∃g m',opM l (k:Int) op m=some (.inl (l++[g],((k+1:Nat):Int),m'.code,m'.at_,m'.seed))∧dL g (k:Int)=true∧aI (l++[g]) 2≤3∧Src (B+30) m':=by
 unfold opM
 by_cases c2:op=2
 ·rw [bre c2,fV (by show l.length≤_;omega),obs]
  by_cases c3:(aI l 2:Int)=3
  ·rw [bre c3]
   obtain ⟨g,m',e,hg,ho,hs⟩:=MH hl hk h
   refine ⟨g,m',e,hg, ?_,hs.mono om⟩
   rw [cF,if_neg (by rw [ho];decide)];omega
  ·rw [aP c3]
   obtain ⟨g,m',e,hg,ho,hs⟩:=GR hl hk h1 h4 h hb
   refine ⟨g,m',e,hg, ?_,hs⟩
   rw [cF];split<;>omega
 ·rw [aP c2]
  obtain ⟨g,m',e,hg,ho,hs⟩:=GR hl hk h1 h4 h hb
  refine ⟨g,m',e,hg, ?_,hs⟩
  rw [cF,if_neg (by rw [ho];simpa using c2)];omega
theorem EP {m:aV} {B:Int} (h:Src B m) (hb:B+1000<Big): ∃l m',eu m=some (⟨l⟩,m')∧OkC l∧l.length≤9∧aI l 2≤3∧Src (B+500) m':=by
 unfold eu
 obtain ⟨n,m1,e1,n0,n1,_,s1⟩:=i8 (n:=9) h om
 have n9:=n1 om
 rw [e1,obs]
 dsimp only
 rw [ai _ om om]
 obtain ⟨⟨l,i,b,c,a,s⟩,g1,g2⟩:=qF (step:=cW (1+n))
  (fun s=> ∃k:Nat,s.1.length=k∧s.2.1=(k:Int)∧(k:Int)≤1+n∧(∀(j:Nat) (hj:j<s.1.length),dL s.1[j] (j:Int)=true)∧aI s.1 2≤3∧Src (B+3+40*k) ⟨s.2.2.1,s.2.2.2.1,s.2.2.2.2⟩) (fun s=>(1+n-s.2.1).toNat)
  (fun e=>(e.1.length:Int)=1+n∧(∀(j:Nat) (hj:j<e.1.length),dL e.1[j] (j:Int)=true)∧aI e.1 2≤3∧Src (B+500) ⟨e.2.2.2.1,e.2.2.2.2.1,e.2.2.2.2.2⟩)
  (fun s=>by
   obtain ⟨l,i,c,a,sd⟩:=s
   rintro ⟨k,hl,hi,hk,hg,hp,hs⟩
   dsimp only at hl hi hg hp hs
   subst hi
   rw [Iz]
   by_cases c1:(k:Int)<1+n
   ·left
    rw [brd c1]
    have fin: ∀{op:Int} {m:aV} {C:Int},(1≤op∧op≤8)→(4≤op→1≤k)→Src C m→C≤B+3+40*k+10→
     ∃s',opM l (k:Int) (IntKind.wrap .i64 op) m=some (.inl s')∧(∃k:Nat,s'.1.length=k∧s'.2.1=(k:Int)∧(k:Int)≤1+n∧(∀(j:Nat) (hj:j<s'.1.length),dL s'.1[j] (j:Int)=true)∧aI s'.1 2≤3∧Src (B+3+40*k) ⟨s'.2.2.1,s'.2.2.2.1,s'.2.2.2.2⟩)∧(1+n-s'.2.1).toNat<(1+n-(k:Int)).toNat:=by
     intro op m C h1 h4 hs hC
     rw [ai op om om]
     obtain ⟨g,m',e,g0,g1,g2⟩:=XQ (l:=l) (k:=k) om om h1 h4 hp hs om
     refine ⟨_,e,⟨k+1,by simp [hl],rfl,by omega,fun j hj=> ?_,g1,g2.mono om⟩,by dsimp only;omega⟩
     dsimp only at hj ⊢
     rw [List.getElem_append]
     split
     ·rename_i hj2;exact hg j hj2
     ·rename_i hj2
      have:j=k:=by simp at hj;omega
      subst this
      simpa using g0
    obtain ⟨x,m2,e2,x0,x1,_,s2⟩:=i8 (n:=8) hs om
    have x8:=x1 om
    rw [e2,obs]
    dsimp only
    by_cases c0:(k:Int)=0
    ·rw [bre c0]
     obtain ⟨y,m3,e3,y0,y1,_,s3⟩:=i8 (n:=3) s2 om
     have y3:=y1 om
     rw [e3,obs]
     exact fin ⟨by dsimp only;omega,by dsimp only;omega⟩ (fun h=>by dsimp only at h;omega) s3 om
    ·rw [aP c0]
     obtain ⟨y,m3,e3,s3⟩:=uX (n:=3) s2 om
     rw [e3,obs]
     dsimp only
     cases y
     ·exact fin ⟨by omega,by omega⟩ (fun _=>by omega) s3 om
     ·obtain ⟨z,m4,e4,z0,z1,_,s4⟩:=i8 (n:=3) s3 om
      have z3:=z1 om
      rw [bC,e4,obs]
      exact fin ⟨by dsimp only;omega,by dsimp only;omega⟩ (fun h=>by dsimp only at h;omega) s4 om
   ·right
    rw [brn c1]
    exact ⟨_,rfl,by dsimp only;omega,hg,hp,hs.mono om⟩)
  ([],0,m1.code,m1.at_,m1.seed) ⟨0,rfl,rfl,by omega,fun j hj=>by simp at hj,by simp [aI],s1.mono om⟩
 rw [g1,obs]
 obtain ⟨g3,g4,g5,g6⟩:=g2
 dsimp only at g3 g4 g5 g6
 exact ⟨l,_,rfl,⟨by omega,by omega,g4,by omega⟩,by omega,g5,g6⟩
theorem BN {code:List UInt8} (h:code.length≤1048600): ∃l,ko code=some ⟨l⟩∧OkC l∧l.length≤9∧aI l 2≤3:=by
 unfold ko
 obtain ⟨m,e,hm⟩:=A2 h
 obtain ⟨l,m',e2,h2,h3,h4,_⟩:=EP hm (by decide)
 rw [e,obs,e2]
 exact ⟨l,rfl,h2,h3,h4⟩
end Go.AI.Fn
set_option linter.unusedVariables false
set_option linter.unusedSimpArgs false
namespace Go.AI.Fn
theorem zO {a b:List Int} {g:List aa} {n:Nat} (hn:n≤100) {m:aV} {B:Int} (h:Src B m) (hb:B+4000<Big):
 ∃l m',Loop (bz a b g) ([],(n:Int),m.code,m.at_,m.seed)=some (l,0,false,m'.code,m'.at_,m'.seed)∧l.length=n∧cX l∧Src (B+30*n) m':=by
 obtain ⟨⟨l,k,f,c,at_,sd⟩,g1,g2⟩:=qF (step:=bz a b g)
  (fun s=>0≤s.2.1∧(s.1.length:Int)+s.2.1=n∧cX s.1∧Src (B+30*(n-s.2.1)) ⟨s.2.2.1,s.2.2.2.1,s.2.2.2.2⟩) (fun s=>s.2.1.toNat)
  (fun e=>e.2.1=0∧e.2.2.1=false∧e.1.length=n∧cX e.1∧Src (B+30*n) ⟨e.2.2.2.1,e.2.2.2.2.1,e.2.2.2.2.2⟩)
  (fun s=>by
   obtain ⟨l,k,c,at_,sd⟩:=s
   rintro ⟨k0,hl,ho,hs⟩
   dsimp only at k0 hl ho hs
   simp only [bz]
   by_cases c1:k>0
   ·left
    obtain ⟨x,m1,e1,x0,x1,_,s1⟩:=i8 (n:=2) hs om
    have x2:=x1 om
    obtain ⟨y,m2,e2,s2⟩:=uX (n:=5) s1 om
    rw [brd c1,e1,obs]
    dsimp only
    rw [e2,obs,ai _ om om]
    dsimp only
    cases y
    ·rw [aC,bn (by simp;omega)]
     refine ⟨_,rfl,⟨by dsimp only;omega,by simp;omega,fun z hz=> ?_,s2.mono (by dsimp only;omega)⟩,by dsimp only;omega⟩
     rcases List.mem_append.1 hz with hz|hz
     ·exact ho z hz
     ·rw [List.mem_singleton] at hz;subst hz;exact ⟨x0,by omega⟩
    ·obtain ⟨w,m3,e3,ow,s3⟩:=Ds s2 om
     rw [bC,e3,obs]
     dsimp only
     rw [bn (by simp;omega)]
     refine ⟨_,rfl,⟨by dsimp only;omega,by simp;omega,fun z hz=> ?_,s3.mono (by dsimp only;omega)⟩,by dsimp only;omega⟩
     rcases List.mem_append.1 hz with hz|hz
     ·exact ho z hz
     ·rw [List.mem_singleton] at hz;subst hz;exact ow
   ·right
    rw [brn c1]
    exact ⟨_,rfl,by dsimp only;omega,by dsimp only;rw [decide_eq_false c1],by dsimp only;omega,ho,hs.mono om⟩)
  ([],(n:Int),m.code,m.at_,m.seed) ⟨by dsimp only;omega,by simp,(fun x hx=>by cases hx),h.mono (by simp)⟩
 obtain ⟨h1,h2,h3,h4,h5⟩:=g2
 dsimp only at h1 h2 h3 h4 h5
 subst h1 h2
 exact ⟨l,⟨c,at_,sd⟩,g1,h3,h4,h5⟩
theorem IR {a b d e:List Int} {g g':List aa} (s:List Int×Int×List UInt8×Int×Int):dd a b g s=bz d e g' s:=rfl
theorem JY {l:List aa} (hl:l.length≤100) {m:aV} {B:Int} (h:Src B m) (hb:B+10000<Big):
 ∃P I m',fy ⟨l⟩ m=some (P,I,m')∧cX P∧cX I∧P.length=aI l 2∧I.length=aI l 1∧Src (B+6000) m':=by
 have n2:=cU l 2
 have n1:=cU l 1
 unfold fy
 rw [fV (by show l.length≤_;omega),obs]
 dsimp only
 obtain ⟨P,m1,e1,lP,oP,s1⟩:=zO (a:=[]) (b:=[2,1]) (g:=l) (n:=aI l 2) om h om
 rw [e1,obs,fV (by show l.length≤_;omega),obs]
 dsimp only
 rw [show dd P [2,1] l=bz P [2,1] l from funext fun s=>IR s]
 obtain ⟨I,m2,e2,lI,oI,s2⟩:=zO (a:=P) (b:=[2,1]) (g:=l) (n:=aI l 1) om s1 om
 rw [e2,obs]
 exact ⟨P,I,m2,rfl,oP,oI,lP,lI,s2.mono om⟩
theorem Cp {code:List UInt8} (h:code.length≤1048600) {l:List aa} (hl:l.length≤100): ∃P I,lY code ⟨l⟩=some ⟨P,I⟩∧cX P∧cX I∧P.length=aI l 2∧I.length=aI l 1:=by
 unfold lY
 obtain ⟨m,e,hm⟩:=A2 h
 obtain ⟨P,I,m',e2,h2,h3,h4,h5,_⟩:=JY hl hm (by decide)
 rw [e,obs,e2]
 exact ⟨P,I,rfl,h2,h3,h4,h5⟩
end Go.AI.Fn
set_option linter.unusedVariables false
set_option linter.unusedSimpArgs false
namespace Go.AI.Fn
end Go.AI.Fn
set_option linter.unusedVariables false
set_option linter.unusedSimpArgs false
namespace Go.AI.Fn
theorem tA {k:Nat} (h:k≤62):bc .i64 1 (k:Int)=((2^k:Nat):Int):=by
 have h2: ∀k:Nat,k<63→(2:Int)^k≤4611686018427387904∧0<(2:Int)^k:=by decide
 obtain ⟨h3,h4⟩:=h2 k om
 show IntKind.wrap .i64 (1*2^(min ((k:Int).toNat) 64))=_
 rw [Int.toNat_natCast,Nat.min_eq_left om,Int.one_mul,ai _ om om]
 simp
def uR (h n:Nat) (pub priv:List Int):List Int:=((1::pub)++List.replicate (h-1-pub.length) 0)++(priv++List.replicate (n-h-priv.length) 0)
theorem NF {h n:Nat} {pub priv:List Int} (h1:pub.length+1≤h) (h2:priv.length≤n-h) (h3:h≤n):(uR h n pub priv).length=n:=by simp [uR];omega
theorem Hn {l r:List Int} {s:Nat} (h:s+r.length≤l.length):nW l s r.length r=l.take s++(r++l.drop (s+r.length)):=by
 rw [nW,List.take_length]
theorem MK {h n:Nat} {pub priv:List Int} (h1:pub.length+1≤h) (h2:priv.length≤n-h) (h3:h≤n):
 nW (nW ((List.replicate n (0:Int)).set 0 1) 1 pub.length pub) h priv.length priv=uR h n pub priv:=by
 obtain ⟨m,rfl⟩: ∃m,n=m+1:=⟨n-1,by omega⟩
 have e1:(List.replicate (m+1) (0:Int)).set 0 1=1::List.replicate m 0:=by rw [List.replicate_succ];rfl
 have e2:nW (1::List.replicate m (0:Int)) 1 pub.length pub=1::(pub++List.replicate (m-pub.length) 0):=by
  rw [Hn (by simp;omega),Nat.add_comm 1];simp
 rw [e1,e2,Hn (by simp;omega),uR]
 have e3:(1::(pub++List.replicate (m-pub.length) (0:Int))).take h=(1::pub)++List.replicate (h-1-pub.length) 0:=by
  obtain ⟨q,rfl⟩: ∃q,h=q+1:=⟨h-1,by omega⟩
  rw [List.take_succ_cons,List.take_append,List.take_of_length_le om,List.take_replicate,Nat.min_eq_left om]
  simp
 have e4:(1::(pub++List.replicate (m-pub.length) (0:Int))).drop (h+priv.length)=List.replicate (m+1-h-priv.length) 0:=by
  obtain ⟨q,rfl⟩: ∃q,h=q+1:=⟨h-1,by omega⟩
  rw [show q+1+priv.length=(q+priv.length)+1 by omega,List.drop_succ_cons,List.drop_append,List.drop_eq_nil_of_le om,List.nil_append,List.drop_replicate]
  congr 1;omega
 rw [e3,e4]
def wS (s:aS):Nat:=2^(s.Cols.toNat-1)
theorem yx {s:aS} (h:tm s=true):2≤s.Cols.toNat∧s.Cols.toNat≤5∧s.Cols=(s.Cols.toNat:Int):=by
 obtain ⟨_,h2,_⟩:=rv h;omega
theorem Nj {s:aS} (h:tm s=true):2^s.Cols.toNat=2*wS s:=by
 obtain ⟨h1,_⟩:=yx h
 rw [wS, ←Nat.pow_succ'];congr 1;omega
theorem pN: ∀k:Nat,k≤5→1≤2^k∧2^k≤32:=by decide
theorem A8 {s:aS} (h:tm s=true):bO s=some (wS s:Int):=by
 obtain ⟨h1,h2,h3⟩:=yx h
 unfold bO
 rw [ai _ om om,brd om,show s.Cols-1=((s.Cols.toNat-1:Nat):Int) by omega,tA om];rfl
theorem CR {s:aS} (h:tm s=true) {pub priv:List Int} (h1:pub.length+1≤wS s) (h2:priv.length≤wS s):ft s pub priv=some (uR (wS s) (2^s.Cols.toNat) pub priv):=by
 obtain ⟨c1,c2,c3⟩:=yx h
 have hh:=Nj h
 have hb:=pN s.Cols.toNat c2
 unfold ft
 rw [brd om,c3,tA om, ←c3]
 simp only [Int.toNat_natCast,List.length_replicate]
 have hn0:0<(List.replicate (2^s.Cols.toNat) (0:Int)).length:=by rw [List.length_replicate];omega
 rw [Tl om om om,brd om,MP hn0,brd om,brd om,A8 h,obs,YY om om,brd om]
 simp only [Int.toNat_natCast]
 rw [Nat.min_eq_left om,Nat.min_eq_left om,MK h1 om om]
theorem R6 {h n:Nat} {pub priv:List Int} (h1:cX pub) (h2:cX priv):cX (uR h n pub priv):=by
 intro x hx
 simp only [uR,List.mem_append,List.mem_cons,List.mem_replicate] at hx
 rcases hx with ((rfl|hx)|⟨_,rfl⟩)|hx|⟨_,rfl⟩
 ·exact Z0
 ·exact h1 x hx
 ·exact R2
 ·exact h2 x hx
 ·exact R2
end Go.AI.Fn
set_option linter.unusedVariables false
set_option linter.unusedSimpArgs false
namespace Go.AI.Fn
theorem sK {k:Nat} (h:k≤9223372036854775807):IntKind.wrap .u64 (k:Int)=(k:Int):=by
 simp only [IntKind.wrap,IntKind.bits,IntKind.signed]
 simp
 omega
def lgM (m:Int):Nat:=if m≤2 then 2 else if m≤4 then 3 else if m≤8 then 4 else 5
theorem wt {p w:Int} {l:List aa} {k:Nat} (hk:k≤50) (hp:0≤p) (hp1:p≤100):
 gG p w l ((k+1:Nat):Int)=if ((2^k:Nat):Int)<mx (p+1) w then some (.inl ((k+2:Nat):Int)) else some (.inr (((k+1:Nat):Int),false)):=by
 have e:IntKind.wrap .i64 (((k+1:Nat):Int)-1)=(k:Int):=by rw [ai _ om om];omega
 have e2:IntKind.wrap .i64 (((k+1:Nat):Int)+1)=((k+2:Nat):Int):=by rw [ai _ om om];omega
 simp only [gG]
 rw [e,e2,sK om,brd om,tA om,ai _ om om]
 by_cases h:((2^k:Nat):Int)<mx (p+1) w
 ·rw [brd h,if_pos h]
 ·rw [brn h,if_neg h,decide_eq_false h]
theorem RT {p w:Int} {l:List aa} (hp:0≤p) (hp1:p≤7) (hw:w≤15):Loop (gG p w l) 2=some ((lgM (mx (p+1) w):Int),false):=by
 have hm:mx (p+1) w≤15:=by unfold mx;split<;>omega
 have s1:=wt (p:=p) (w:=w) (l:=l) (k:=1) om hp om
 have s2:=wt (p:=p) (w:=w) (l:=l) (k:=2) om hp om
 have s3:=wt (p:=p) (w:=w) (l:=l) (k:=3) om hp om
 have s4:=wt (p:=p) (w:=w) (l:=l) (k:=4) om hp om
 simp only [Nat.reducePow,Nat.reduceAdd] at s1 s2 s3 s4
 unfold lgM
 generalize mx (p+1) w=m at*
 by_cases h1:m≤2
 ·rw [if_pos h1];rw [if_neg om] at s1;exact cD s1
 rw [if_neg h1];rw [if_pos om] at s1
 refine (dg s1).trans ?_
 by_cases h2:m≤4
 ·rw [if_pos h2];rw [if_neg om] at s2;exact cD s2
 rw [if_neg h2];rw [if_pos om] at s2
 refine (dg s2).trans ?_
 by_cases h3:m≤8
 ·rw [if_pos h3];rw [if_neg om] at s3;exact cD s3
 rw [if_neg h3];rw [if_pos om] at s3
 refine (dg s3).trans ?_
 rw [if_neg om] at s4;exact cD s4
def lgC (l:List aa):Nat:=lgM (mx ((aI l 2:Int)+1) ((l.length:Int)-(aI l 2:Int)))
theorem Dr {c:Circuit} (ok:OkC c.Gates):pK c=some (lgC c.Gates:Int):=by
 have h1:=ok.n2
 have h2:=ok.p
 have h3:=cU c.Gates 2
 unfold pK
 rw [fV om,obs,ai _ om om,RT om om om];rfl
theorem KK (m:Int):2≤lgM m∧lgM m≤5:=by
 unfold lgM
 split
 ·omega
 ·split
  ·omega
  ·split<;>omega
theorem RC {m:Int} (h:m≤15):m≤((2^(lgM m-1):Nat):Int):=by
 unfold lgM
 split
 ·simpa
 ·split
  ·simpa
  ·split
   ·simpa
   ·simp;omega
def nU (l:List aa) (j:Nat):Int:=if (l.getD j ⟨0,0,0,0⟩).Op=2 then (aI (l.take j) 2:Int)+1 else ((2^(lgC l-1):Nat):Int)+((j:Int)-(aI (l.take j) 2:Int))
def cA (l:List aa) (n:Nat):List Int:=(List.range n).map (nU l)
theorem rt (l:List aa) (n:Nat):(cA l n).length=n:=by simp [cA]
theorem wB (l:List aa) (n:Nat):cA l (n+1)=cA l n++[nU l n]:=by simp [cA,List.range_succ]
theorem Bo {c:Circuit} (ok:OkC c.Gates):nK c=some (cA c.Gates c.Gates.length,(lgC c.Gates:Int)):=by
 have h1:=ok.n2
 have h2:=KK (mx ((aI c.Gates 2:Int)+1) ((c.Gates.length:Int)-(aI c.Gates 2:Int)))
 have h2':2≤lgC c.Gates∧lgC c.Gates≤5:=h2
 have e:IntKind.wrap .i64 ((lgC c.Gates:Int)-1)=((lgC c.Gates-1:Nat):Int):=by rw [ai _ om om];omega
 have hpw:=pN (lgC c.Gates-1) om
 unfold nK
 rw [Dr ok,obs,e,sK om,brd om,tA om]
 have key:=eC (step:=fG (lgC c.Gates:Int) ((2^(lgC c.Gates-1):Nat):Int) c.Gates) (fun j=>(cA c.Gates j,(aI (c.Gates.take j) 2:Int),(j:Int)-(aI (c.Gates.take j) 2:Int),(j:Int))) c.Gates.length (e:=(cA c.Gates c.Gates.length,(aI c.Gates 2:Int),(c.Gates.length:Int)-(aI c.Gates 2:Int),(c.Gates.length:Int),false)) (fun j hj=> ?_) ?_
 ·have:((cA c.Gates 0,(aI (c.Gates.take 0) 2:Int),((0:Nat):Int)-(aI (c.Gates.take 0) 2:Int),((0:Nat):Int)):List Int×Int×Int×Int)=([],0,0,0):=rfl
  rw [←this,key];rfl
 ·have hd:c.Gates.getD j ⟨0,0,0,0⟩=c.Gates[j]:=by simp [hj]
  have l2:=cU (c.Gates.take j) 2
  rw [List.length_take] at l2
  have hcl:=rt c.Gates j
  have hfit: ∀v:Int,(cA c.Gates j++[v]).length*8≤1099511627776:=fun v=>by rw [List.length_append,hcl];simp;omega
  simp only [fG]
  rw [brd om,ci hj,obs,dp hj,cF,wB,nU,hd]
  by_cases h:c.Gates[j].Op=2
  ·rw [bre h,bn (hfit _),ai _ om om,ai _ om om,if_pos h,if_pos (by simp [h])]
   simp;omega
  ·rw [aP h,bn (hfit _),ai _ om om,ai _ om om,ai _ om om,if_neg h,if_neg (by simp [h])]
   simp;omega
 ·simp only [fG]
  rw [brn om,decide_eq_false om,List.take_length]
end Go.AI.Fn
set_option linter.unusedVariables false
set_option linter.unusedSimpArgs false
namespace Go.AI.Fn
def enP (row col:Int) (e:ag):Bool:=decide (e.Row=row)&&decide (e.Col>col)
def enR (row col v:Int):List ag→List ag
 |[]=>[⟨row,col,v⟩]
 |e::R=>if enP row col e=true then e::enR row col v R
  else if e.Row=row∧e.Col=col then (if aF e.Value v=0 then R else ⟨row,col,aF e.Value v⟩::R)
  else ⟨row,col,v⟩::e::R
def enM (L:List ag) (row col v:Int):List ag:=(enR row col v L.reverse).reverse
theorem Hg {row col v:Int} {R:List ag}: ∀{T:List ag},(∀e∈T,enP row col e=true)→enR row col v (T++R)=T++enR row col v R
 |[],_=>rfl
 |e::T,h=>by
  rw [List.cons_append,enR,if_pos (h e (by simp)),Hg fun x hx=>h x (by simp [hx])];rfl
theorem CF (row col:Int) (L:List ag): ∃A T,L=A++T∧(∀e∈T,enP row col e=true)∧(A=[]∨ ∃B e,A=B++[e]∧enP row col e=false):=by
 refine ⟨(L.reverse.dropWhile (enP row col)).reverse,(L.reverse.takeWhile (enP row col)).reverse, ?_, ?_, ?_⟩
 ·rw [←List.reverse_append,List.takeWhile_append_dropWhile,List.reverse_reverse]
 ·intro e he
  rw [List.mem_reverse] at he
  have: ∀(l:List ag), ∀e∈l.takeWhile (enP row col),enP row col e=true:=by
   intro l
   induction l with
   |nil=>intro e he;cases he
   |cons x l ih=>
    intro e he
    rw [List.takeWhile_cons] at he
    split at he
    ·rename_i hx
     rcases List.mem_cons.1 he with rfl|he
     ·exact hx
     ·exact ih e he
    ·cases he
  exact this _ e he
 ·have: ∀(l:List ag),l.dropWhile (enP row col)=[]∨ ∃x r,l.dropWhile (enP row col)=x::r∧enP row col x=false:=by
   intro l
   induction l with
   |nil=>exact .inl rfl
   |cons x l ih=>
    rw [List.dropWhile_cons]
    split
    ·exact ih
    ·rename_i hx;exact .inr ⟨x,l,rfl,by simpa using hx⟩
  rcases this L.reverse with h|⟨x,r,h,hx⟩
  ·exact .inl (by rw [h];rfl)
  ·exact .inr ⟨r.reverse,x,by rw [h,List.reverse_cons],hx⟩
theorem uS {row col v:Int} {A T:List ag} (h: ∀e∈T,enP row col e=true):enM (A++T) row col v=enM A row col v++T:=by
 unfold enM
 rw [List.reverse_append,Hg (fun e he=>h e (by simpa using he)),List.reverse_append,List.reverse_reverse]
theorem Dq {α:Type} {A B:List α} {n:Int} (h:n=A.length):ik (A++B) 0 n=some A:=by
 subst h
 rw [AZ om om (by simp;omega)]
 simp
theorem yG {α:Type} {A B:List α} {n m:Int} (h:n=A.length) (hm:m=((A++B).length:Nat)):ik (A++B) n m=some B:=by
 subst h;subst hm
 rw [AZ om (by simp;omega) om]
 have:((A.length:Int)+(B.length:Int)).toNat-A.length=B.length:=by omega
 simp [this]
theorem Qw {row col v:Int} {A T:List ag} (hT: ∀e∈T,enP row col e=true) (hA:A=[]∨ ∃B e,A=B++[e]∧enP row col e=false) (hl:(A++T).length≤1000000):
 Loop (dw (A++T) row col v) (((A++T).length:Nat):Int)=some ((A.length:Int),false):=by
 have hlen:(A++T).length=A.length+T.length:=List.length_append
 have key:=eC (step:=dw (A++T) row col v) (fun j=>(((A.length+T.length-j:Nat)):Int)) T.length (e:=((A.length:Int),false)) (fun j hj=> ?_) ?_
 ·rw [hlen];simpa using key
 ·have hi:A.length+T.length-j-1<(A++T).length:=by omega
  have hp:enP row col (A++T)[A.length+T.length-j-1]=true:=by
   rw [List.getElem_append_right om]
   exact hT _ (List.getElem_mem _)
  simp only [enP,Bool.and_eq_true,decide_eq_true_eq] at hp
  have e:IntKind.wrap .i64 (((A.length+T.length-j:Nat):Int)-1)=((A.length+T.length-j-1:Nat):Int):=by rw [ai _ om om];omega
  simp only [dw]
  rw [brd om,e,ci hi,obs,bre hp.1,obs,brd hp.2]
  have e3:A.length+T.length-j-1=A.length+T.length-(j+1):=by omega
  rw [e3]
 ·simp only [dw]
  rw [show A.length+T.length-T.length=A.length by omega]
  rcases hA with rfl|⟨B,x,rfl,hx⟩
  ·rw [brn (by simp)]
  ·have e:IntKind.wrap .i64 (((B++[x]).length:Nat)-1:Int)=(B.length:Int):=by
    rw [ai _ om om];simp
   have hx':atL (B++[x]++T) (B.length:Int)=some x:=by
    rw [ci (by simp)];simp
   rw [brd (by simp),e,hx',obs]
   simp only [enP,Bool.and_eq_false_iff,decide_eq_false_iff_not] at hx
   by_cases h1:x.Row=row
   ·have h2: ¬x.Col>col:=by rcases hx with hx|hx;exact absurd h1 hx;exact hx
    rw [bre h1,obs,brn h2,decide_eq_false h2]
   ·rw [aP h1]
theorem yT {L:List ag} {row col v:Int} (hl:L.length≤1000000) (hv:okF v) (hL: ∀e∈L,okF e.Value):ae L row col v=some (enM L row col v):=by
 obtain ⟨A,T,rfl,hT,hA⟩:=CF row col L
 have hlen:(A++T).length=A.length+T.length:=List.length_append
 unfold ae
 rw [Qw hT hA hl,obs,uS hT]
 dsimp only
 have f1: ∀M:List ag,M.length≤2000000→M.length*24≤1099511627776:=fun M h=>by omega
 have ins:((ik (A++T) 0 (A.length:Int)).bind fun y=>br (aK (([]++y:List ag)).length 24) (br (aK (([]++y)++[ag.mk row col v]).length 24) ((ik (A++T) (A.length:Int) (((A++T).length:Nat):Int)).bind fun y2=>br (aK ((([]++y)++[ag.mk row col v])++y2).length 24) (some ((([]++y)++[ag.mk row col v])++y2)) none) none) none)=some (A++[ag.mk row col v]++T):=by
  rw [Dq rfl,obs,List.nil_append,bn (f1 _ om),bn (f1 _ (by simp;omega)),yG rfl rfl,obs,bn (f1 _ (by simp;omega))]
 rcases hA with rfl|⟨B,x,rfl,hx⟩
 ·rw [brn (by simp),ins];rfl
 ·have e:IntKind.wrap .i64 (((B++[x]).length:Nat)-1:Int)=(B.length:Int):=by
   rw [ai _ om om];simp
  have hx':atL (B++[x]++T) (B.length:Int)=some x:=by
   rw [ci (by simp)];simp
  rw [brd (by simp),e,hx',obs]
  have hm:enM (B++[x]) row col v=if x.Row=row∧x.Col=col then (if aF x.Value v=0 then B else B++[⟨row,col,aF x.Value v⟩]) else B++[x]++[⟨row,col,v⟩]:=by
   unfold enM
   rw [List.reverse_append,List.reverse_singleton,List.singleton_append,enR,if_neg (by rw [hx];simp)]
   split
   ·split<;>simp
   ·simp
  rw [hm]
  by_cases h1:x.Row=row
  ·rw [bre h1,obs]
   by_cases h2:x.Col=col
   ·have hs:ik (B++[x]++T) 0 (B.length:Int)=some B:=by rw [List.append_assoc];exact Dq rfl
    rw [bre h2,obs,E1 (hL x (by simp)) hv,obs,hs,obs,List.nil_append,bn (f1 _ (by simp at hl;omega)),if_pos ⟨h1,h2⟩]
    by_cases h3:aF x.Value v=0
    ·rw [hQ h3,if_pos h3,yG rfl rfl,obs,bn (f1 _ (by simp at hl ⊢;omega))]
    ·rw [brb h3,if_neg h3,bn (f1 _ (by simp at hl ⊢;omega)),yG rfl rfl,obs,bn (f1 _ (by simp at hl ⊢;omega))]
   ·rw [aP h2,ins,if_neg (fun h=>h2 h.2)]
  ·rw [aP h1,ins,if_neg (fun h=>h1 h.1)]
end Go.AI.Fn
set_option linter.unusedVariables false
set_option linter.unusedSimpArgs false
namespace Go.AI.Fn
abbrev xo (a b:Int):Int:=tS .u64 a b
def rot (x s:Int):Int:=if s=0 then x else wZ .u64 (bc .u64 x s) (wI .u64 x (64-s))
end Go.AI.Fn
set_option linter.unusedVariables false
set_option linter.unusedSimpArgs false
namespace Go.AI.Fn
abbrev g (l:List Int) (i:Int):Int:=l.getD i.toNat 0
def Wo:List Int:=[0,1,62,28,27,36,44,6,55,20,3,10,43,25,39,41,45,15,21,8,18,2,61,56,14]
def p2 (m:List Int) (k:Nat) (l:List Int):List Int:=l.set ((k:Int)%5).toNat (xo (g l ((k:Int)%5)) (g m k))
def p3 (m c:List Int) (k:Nat) (l:List Int):List Int:=
 l.set ((k:Int)/5+5*((2*((k:Int)%5)+3*((k:Int)/5))%5)).toNat (rot (xo (g m k) (xo (g c (((k:Int)%5+4)%5)) (rot (g c (((k:Int)%5+1)%5)) 1))) (g Wo k))
def p4 (b:List Int) (k:Nat) (l:List Int):List Int:=
 l.set k (xo (g b k) (FN .u64 (g b ((k:Int)-(k:Int)%5+((k:Int)%5+2)%5)) (g b ((k:Int)-(k:Int)%5+((k:Int)%5+1)%5))))
def q2 (m:List Int) (k:Nat) (l:List Int):List Int:=l.set k (xo (xo (xo (xo (g m k) (g m ((k:Int)+5))) (g m ((k:Int)+10))) (g m ((k:Int)+15))) (g m ((k:Int)+20)))
def q3 (c:List Int) (k:Nat) (l:List Int):List Int:=l.set k (xo (g l k) (xo (g c (((k:Int)+4)%5)) (rot (g c (((k:Int)+1)%5)) 1)))
def TV (m:List Int) (rc:Int):List Int:=
 let c:=iU (p2 m) 25 (nZ 5)
 let b:=iU (p3 m c) 25 (nZ 25)
 let r:=iU (p4 b) 25 m
 r.set 0 (xo (r.getD 0 0) rc)
end Go.AI.Fn
set_option linter.unusedVariables false
set_option linter.unusedSimpArgs false
namespace Go.AI.Fn
end Go.AI.Fn
set_option linter.unusedVariables false
set_option linter.unusedSimpArgs false
set_option maxRecDepth 10000
namespace Go.AI.Fn
def rcL:List Int:=[1,32898,9223372036854808714,9223372039002292224,32907,2147483649,9223372039002292353,9223372036854808585,138,136,2147516425,2147483658,2147516555,9223372036854775947,9223372036854808713,9223372036854808579,9223372036854808578,9223372036854775936,32778,9223372039002259466,9223372039002292353,9223372036854808704,2147483649,9223372039002292232]
def rdP (k:Nat) (m:List Int):List Int:=TV m (rcL.getD k 0)
def Xn (m:List Int):List Int:=iU rdP 24 m
def lnS (t:List UInt8) (k:Nat) (l:List Int):List Int:=l.set ((k:Int)/8).toNat (wZ .u64 (g l ((k:Int)/8)) (bc .u64 (IntKind.wrap .u64 ((t.getD k 0).toNat:Int)) (8*((k:Int)%8))))
def TC (t:List UInt8):List Int:=iU (lnS t) t.length (nZ 25)
def txB (m:List Int) (i:Nat):UInt8:=UInt8.ofInt (wI .u64 (g m ((i:Int)/8)) (8*((i:Int)%8)))
def KC (m:List Int) (n:Nat):List UInt8:=(List.range n).map (txB m)
theorem HT (m:List Int) (n:Nat):(KC m n).length=n:=by simp [KC]
end Go.AI.Fn
set_option linter.unusedVariables false
set_option linter.unusedSimpArgs false
namespace Go.AI.Fn
def xoS (t:List Int) (k:Nat) (l:List Int):List Int:=l.set k (xo (g l k) (g t k))
def Zb (t m:List Int):List Int:=iU (xoS t) 25 m
def YX (a:List UInt8) (k:Nat) (m:List Int):List Int:=Xn (Zb (TC ((a.drop (136*k)).take 136)) m)
def Z1 (a:List UInt8) (n:Nat):List Int:=iU (YX a) n (nZ 25)
def Rv (l:List UInt8):List UInt8:=l++List.replicate ((136-l.length%136)%136) 0
def YW (b:List UInt8):List UInt8:=(Rv (b++[1])).set ((Rv (b++[1])).length-1) (UInt8.ofInt (wZ .u8 (((Rv (b++[1])).getD ((Rv (b++[1])).length-1) 0).toNat:Int) 128))
def H (b:List UInt8):List UInt8:=KC (Z1 (YW b) ((b.length+136)/136)) 32
theorem Zg (b:List UInt8):(H b).length=32:=HT _ _
end Go.AI.Fn
set_option linter.unusedVariables false
namespace Go.AI.Fn
def be (w x y z:UInt8):Int:=(((w.toNat:Int)*256+x.toNat)*256+y.toNat)*256+z.toNat
theorem Zj {l:List UInt8} (h:8≤l.length): ∃a b c d e f g k r,l=a::b::c::d::e::f::g::k::r:=by
 match l,h with
 |a::b::c::d::e::f::g::k::r,_=>exact ⟨a,b,c,d,e,f,g,k,r,rfl⟩
end Go.AI.Fn
set_option linter.unusedVariables false
set_option linter.unusedSimpArgs false
namespace Go.AI.Fn
def Zk:List UInt8:=[97,98,115,111,114,98]
structure Zd (s:Source):Prop where
 len:s.Script.length≤64
 scr:ny s.Script
 st:s.State.length=32
 a0:0≤s.At
 a1:s.At≤1000000
 c0:0≤s.Count
 c1:s.Count≤1000000
end Go.AI.Fn
set_option linter.unusedVariables false
namespace Go.AI.Fn
end Go.AI.Fn
set_option linter.unusedVariables false
set_option linter.unusedSimpArgs false
namespace Go.AI.Fn
end Go.AI.Fn
set_option linter.unusedVariables false
set_option linter.unusedSimpArgs false
namespace Go.AI.Fn
structure OkM (l:List ag) (R C:Int):Prop where
 len:l.length≤200
 ent: ∀x∈l,inE R C x
 srt: ∀k (hk:k<l.length), ∀y∈l.take k,ltE y l[k]
theorem zL {x y z:ag} (h:ltE x y) (g:ltE y z):ltE x z:=by unfold ltE at*;omega
open Classical in
theorem Ap {l:List ag} {R C:Int} (h:ou l R C=true):OkM l R C:=by
 unfold ou at h
 obtain ⟨hl,hb⟩:=of_decide_eq_true h
 refine ⟨hl,fun x hx=> ?_,fun k=> ?_⟩
 ·obtain ⟨k,hk,rfl⟩:=List.getElem_of_mem hx
  by_cases c:inE R C l[k]
  ·exact c
  ·exact absurd ⟨_,xg hk,.inl c⟩ (hb k)
 ·induction k with
  |zero=>intro hk y hy;simp at hy
  |succ k ih=>
   intro hk y hy
   rw [dp om] at hy
   have hlt:ltE l[k] l[k+1]:=by
    by_cases c:ltE l[k] l[k+1]
    ·exact c
    ·exact absurd ⟨_,xg hk,.inr ⟨by omega,_,xg om,c⟩⟩ (hb (k+1))
   rcases List.mem_append.1 hy with hy|hy
   ·exact zL (ih om y hy) hlt
   ·rw [List.mem_singleton.1 hy];exact hlt
end Go.AI.Fn
set_option linter.unusedVariables false
set_option linter.unusedSimpArgs false
namespace Go.AI.Fn
def muS (z T:List Int) (e:ag):List Int:=T.set e.Row.toNat (aF (T.getD e.Row.toNat 0) (mF e.Value (z.getD e.Col.toNat 0)))
theorem BF (z:List Int): ∀(l:List ag) (T:List Int),(l.foldl (muS z) T).length=T.length
 |[],_=>rfl
 |e::l,T=>by rw [List.foldl_cons,BF z l,muS,List.length_set]
theorem VK {z T:List Int} {e:ag} (h:cX T):cX (muS z T e):=by
 intro x hx
 unfold muS at hx
 rcases List.mem_or_eq_of_mem_set hx with hx|rfl
 ·exact h x hx
 ·exact Ew _ _
theorem FC (z:List Int): ∀(l:List ag) (T:List Int),cX T→cX (l.foldl (muS z) T)
 |[],_,h=>h
 |e::l,T,h=>by rw [List.foldl_cons];exact FC z l _ (VK h)
def muM (l:List ag) (n:Nat) (z:List Int):List Int:=l.foldl (muS z) (List.replicate (2^n) 0)
theorem wo (l:List ag) (n:Nat) (z:List Int):(muM l n z).length=2^n:=by rw [muM,BF,List.length_replicate]
theorem N1 (l:List ag) (n:Nat) (z:List Int):cX (muM l n z):=FC z l _ (by
 intro x hx
 rw [List.eq_of_mem_replicate hx]
 exact ⟨by omega,by omega⟩)
end Go.AI.Fn
set_option linter.unusedVariables false
set_option linter.unusedSimpArgs false
namespace Go.AI.Fn
structure MkR (l:List ag) (row C:Int):Prop where
 ent: ∀x∈l,0≤x.Row∧x.Row≤row∧0≤x.Col∧x.Col≤C-1∧1≤x.Value∧x.Value≤2130706432
 srt:l.Pairwise ltE
theorem MkR.nil (row C:Int):MkR [] row C:=⟨fun x hx=>(by cases hx),List.Pairwise.nil⟩
theorem MkR.up {l:List ag} {row C r:Int} (h:MkR l row C) (hr:row≤r):MkR l r C:=
 ⟨fun x hx=>by obtain ⟨a,b,c⟩:=h.ent x hx;exact ⟨a,by omega,c⟩,h.srt⟩
theorem MkR.okF {l:List ag} {row C:Int} (h:MkR l row C): ∀e∈l,Fn.okF e.Value:=fun e he=>by
 obtain ⟨_,_,_,_,a,b⟩:=h.ent e he
 exact ⟨by omega,by omega⟩
theorem AV {A T:List ag} {n:ag} {row C:Int} (h:MkR (A++T) row C) (hn:n.Row=row) (h0:0≤row) (hc:0≤n.Col∧n.Col≤C-1) (hv:1≤n.Value∧n.Value≤2130706432) (hA: ∀a∈A,ltE a n) (hT: ∀b∈T,ltE n b):MkR (A++[n]++T) row C:=by
 obtain ⟨p1,p2,p3⟩:=List.pairwise_append.1 h.srt
 refine ⟨fun x hx=> ?_, ?_⟩
 ·simp only [List.mem_append,List.mem_singleton] at hx
  rcases hx with (hx|rfl)|hx
  ·exact h.ent x (by simp [hx])
  ·exact ⟨by omega,by omega,hc.1,hc.2,hv.1,hv.2⟩
  ·exact h.ent x (by simp [hx])
 ·rw [List.append_assoc,List.pairwise_append]
  refine ⟨p1, ?_,fun a ha b hb=> ?_⟩
  ·rw [List.singleton_append,List.pairwise_cons];exact ⟨hT,p2⟩
  ·rw [List.singleton_append,List.mem_cons] at hb
   rcases hb with rfl|hb
   ·exact hA a ha
   ·exact p3 a ha b hb
theorem MkR.sub {l l':List ag} {row C:Int} (h:MkR l row C) (hs:List.Sublist l' l):MkR l' row C:=
 ⟨fun x hx=>h.ent x (hs.subset hx),h.srt.sublist hs⟩
theorem di {l:List ag} {row col v C:Int} (h:MkR l row C) (h0:0≤row) (hc:0≤col∧col≤C-1) (hv:1≤v∧v≤2130706432):MkR (enM l row col v) row C∧(enM l row col v).length≤l.length+1:=by
 obtain ⟨A,T,rfl,hT,hA⟩:=CF row col l
 have hT': ∀b∈T,b.Row=row∧b.Col>col:=fun b hb=>by simpa [enP] using hT b hb
 rw [uS hT]
 rcases hA with rfl|⟨B,x,rfl,hx⟩
 ·refine ⟨AV (A:=[]) (n:=⟨row,col,v⟩) h rfl h0 hc hv (fun a ha=>by cases ha) (fun b hb=> ?_),by simp [enM,enR]⟩
  have:=hT' b hb
  unfold ltE;dsimp only;omega
 ·have hm:enM (B++[x]) row col v=if x.Row=row∧x.Col=col then (if aF x.Value v=0 then B else B++[⟨row,col,aF x.Value v⟩]) else B++[x]++[⟨row,col,v⟩]:=by
   unfold enM
   rw [List.reverse_append,List.reverse_singleton,List.singleton_append,enR,if_neg (by rw [hx];simp)]
   split
   ·split<;>simp
   ·simp
  have hxe:=h.ent x (by simp)
  obtain ⟨p1,p2,p3⟩:=List.pairwise_append.1 h.srt
  obtain ⟨q1,q2,q3⟩:=List.pairwise_append.1 p1
  have hBx: ∀a∈B,ltE a x:=fun a ha=>q3 a ha x (by simp)
  rw [hm]
  split
  ·rename_i he
   have hs:MkR (B++T) row C:=h.sub (by simp)
   split
   ·exact ⟨hs,by simp;omega⟩
   ·rename_i hz
    have hk:=Ew x.Value v
    refine ⟨AV hs rfl h0 hc ⟨(by have:=hk.1;show 1≤aF x.Value v;omega),hk.2⟩ (fun a ha=> ?_) (fun b hb=> ?_),by simp⟩
    ·have:=hBx a ha
     unfold ltE at*;dsimp only;omega
    ·have:=hT' b hb
     unfold ltE;dsimp only;omega
  ·rename_i he
   have hxn:ltE x ⟨row,col,v⟩:=by
    simp only [enP,Bool.and_eq_false_iff,decide_eq_false_iff_not] at hx
    unfold ltE;dsimp only;omega
   refine ⟨AV h rfl h0 hc hv (fun a ha=> ?_) (fun b hb=> ?_),by simp;omega⟩
   ·rcases List.mem_append.1 ha with ha|ha
    ·exact zL (hBx a ha) hxn
    ·rw [List.mem_singleton] at ha;subst ha;exact hxn
   ·have:=hT' b hb
    unfold ltE;dsimp only;omega
end Go.AI.Fn
set_option linter.unusedVariables false
set_option linter.unusedSimpArgs false
namespace Go.AI.Fn
def syM (a b c:Int) (g:aa) (r:Int) (A B C:List ag):Int×List ag×List ag×List ag:=
 if g.Op=1∨g.Op=2 then (r,A,B,C)
 else if g.Op=6 then (r+1,enM A r a 1,enM B r b 1,enM C r c 1)
 else if g.Op=4 then (r+1,enM (enM A r a 1) r b 1,enM B r 0 1,enM C r c 1)
 else if g.Op=5 then (r+1,enM (enM A r a 1) r b 2130706432,enM B r 0 1,enM C r c 1)
 else if g.Op=3 then (r+1,if g.K>0 then enM A r 0 g.K else A,enM B r 0 1,enM C r c 1)
 else if g.Op=7 then (r+1+1,enM (enM A r b 1) (r+1) a 1,enM (enM B r 0 1) (r+1) 0 1,enM (enM C r c 1) (r+1) c 1)
 else (r+1+1,enM (enM A r a 1) (r+1) a 1,enM (enM B r a 1) (r+1) 0 1,enM (enM C r c 1) (r+1) c 1)
theorem ku {L:List ag} {row col v C:Int} (h:MkR L row C) (hl:L.length≤1000) (hv:1≤v∧v≤2130706432):ae L row col v=some (enM L row col v):=
 yT om ⟨by omega,hv.2⟩ h.okF
theorem Qs {t:List Int} {l:List aa} {c2 c3 c4 c5 c6 c7 r CC:Int} {k:Nat} {A B C:List ag} (ok:OkC l) (hk:k<l.length) (ht:t.length=l.length) (hr:0≤r) (hr1:r≤100)
 (hC:1≤CC) (hc: ∀i,i<l.length→0≤t.getD i 0∧t.getD i 0≤CC-1) (mA:MkR A r CC) (mB:MkR B r CC) (mC:MkR C r CC) (lA:A.length≤900) (lB:B.length≤900) (lC:C.length≤900):
 cI t l c2 c3 c4 c5 c6 c7 (r,(k:Int),A,B,C)=
  (fun S:Int×List ag×List ag×List ag=>some (.inl (S.1,((k+1:Nat):Int),S.2.1,S.2.2.1,S.2.2.2))) (syM (t.getD l[k].A.toNat 0) (t.getD l[k].B.toNat 0) (t.getD k 0) l[k] r A B C):=by
 have hn:=ok.n2
 obtain ⟨g1,g2,g3,g4⟩:=iN (ok.g k hk)
 have hck:=hc k hk
 simp only [cI]
 rw [brd om,ci hk,obs]
 generalize l[k]=g at*
 have ek:IntKind.wrap .i64 ((k:Int)+1)=((k+1:Nat):Int):=by rw [ai _ om om];omega
 have er:IntKind.wrap .i64 (r+1)=r+1:=ai _ om om
 have er2:IntKind.wrap .i64 (r+1+1)=r+1+1:=ai _ om om
 have one:(1:Int)≤1∧(1:Int)≤2130706432:=⟨by omega,by omega⟩
 have big:(1:Int)≤2130706432∧(2130706432:Int)≤2130706432:=⟨by omega,by omega⟩
 have c0:(0:Int)≤0∧(0:Int)≤CC-1:=⟨by omega,by omega⟩
 have hkk:atL t (k:Int)=some (t.getD k 0):=hG om
 rw [ek,er,er2,hkk]
 simp only [obs]
 have hop:g.Op=1∨g.Op=2∨g.Op=3∨g.Op=4∨g.Op=5∨g.Op=6∨g.Op=7∨g.Op=8:=by omega
 have ha:4≤g.Op→atL t g.A=some (t.getD g.A.toNat 0)∧0≤t.getD g.A.toNat 0∧t.getD g.A.toNat 0≤CC-1:=fun h=>by
  have:=g2 h
  exact ⟨ux this.1 om,hc _ om⟩
 have hb:4≤g.Op→g.Op≤7→atL t g.B=some (t.getD g.B.toNat 0)∧0≤t.getD g.B.toNat 0∧t.getD g.B.toNat 0≤CC-1:=fun h h7=>by
  have:=g3 h h7
  exact ⟨ux this.1 om,hc _ om⟩
 have dB:=ku (col:=0) mB om one
 have dC:=ku (col:=t.getD k 0) mC om one
 have nB:=di mB hr c0 one
 have nC:=di mC hr hck one
 have dB2:=ku (col:=0) (nB.1.up (r:=r+1) om) om one
 have dC2:=ku (col:=t.getD k 0) (nC.1.up (r:=r+1) om) om one
 rcases hop with h|h|h|h|h|h|h|h
 ·simp [syM,h,br]
 ·simp [syM,h,br]
 ·by_cases hK:g.K>0
  ·have dA:=ku (col:=0) (v:=g.K) mA om ⟨by omega,(g4 h).2⟩
   simp only [syM,h,decide_eq_true hK,dA,dB,dC,obs,if_pos hK];rfl
  ·simp only [syM,h,decide_eq_false hK,dB,dC,obs,if_neg hK];rfl
 ·obtain ⟨a1,a2⟩:=ha om
  obtain ⟨b1,b2⟩:=hb om om
  have dA:=ku (col:=t.getD g.A.toNat 0) mA om one
  have nA:=di mA hr a2 one
  have dA2:=ku (col:=t.getD g.B.toNat 0) nA.1 om one
  simp only [syM,h,a1,b1,dA,dA2,dB,dC,obs];rfl
 ·obtain ⟨a1,a2⟩:=ha om
  obtain ⟨b1,b2⟩:=hb om om
  have dA:=ku (col:=t.getD g.A.toNat 0) mA om one
  have nA:=di mA hr a2 one
  have dA2:=ku (col:=t.getD g.B.toNat 0) nA.1 om big
  simp only [syM,h,a1,b1,dA,dA2,dB,dC,obs];rfl
 ·obtain ⟨a1,a2⟩:=ha om
  obtain ⟨b1,b2⟩:=hb om om
  have dA:=ku (col:=t.getD g.A.toNat 0) mA om one
  have dBb:=ku (col:=t.getD g.B.toNat 0) mB om one
  simp only [syM,h,a1,b1,dA,dBb,dC,obs];rfl
 ·obtain ⟨a1,a2⟩:=ha om
  obtain ⟨b1,b2⟩:=hb om om
  have dA:=ku (col:=t.getD g.B.toNat 0) mA om one
  have nA:=di mA hr b2 one
  have dA2:=ku (col:=t.getD g.A.toNat 0) (nA.1.up (r:=r+1) om) om one
  simp only [syM,h,a1,b1,dA,dA2,dB,dB2,dC,dC2,obs];rfl
 ·obtain ⟨a1,a2⟩:=ha om
  have dA:=ku (col:=t.getD g.A.toNat 0) mA om one
  have nA:=di mA hr a2 one
  have dA2:=ku (col:=t.getD g.A.toNat 0) (nA.1.up (r:=r+1) om) om one
  have dBa:=ku (col:=t.getD g.A.toNat 0) mB om one
  have nBa:=di mB hr a2 one
  have dBa2:=ku (col:=0) (nBa.1.up (r:=r+1) om) om one
  simp only [syM,h,a1,dA,dA2,dBa,dBa2,dC,dC2,obs];rfl
end Go.AI.Fn
set_option linter.unusedVariables false
set_option linter.unusedSimpArgs false
namespace Go.AI.Fn
structure Mk3 (r:Int) (A B C:List ag) (CC:Int) (n:Nat):Prop where
 a:MkR A (r-1) CC
 b:MkR B (r-1) CC
 c:MkR C (r-1) CC
 la:A.length≤n
 lb:B.length≤n
 lc:C.length≤n
theorem Mk3.of {r' r:Int} {A B C:List ag} {CC:Int} {n m:Nat} (e:r'-1=r) (a:MkR A r CC) (b:MkR B r CC) (c:MkR C r CC) (la:A.length≤n) (lb:B.length≤n) (lc:C.length≤n) (h:n≤m):Mk3 r' A B C CC m:=by
 subst e;exact ⟨a,b,c,by omega,by omega,by omega⟩
theorem Y7 {a b c r CC:Int} {g:aa} {A B C:List ag} {n:Nat} (hr:0≤r) (hC:1≤CC) (ha:4≤g.Op→0≤a∧a≤CC-1) (hb:4≤g.Op→g.Op≤7→0≤b∧b≤CC-1) (hc:0≤c∧c≤CC-1) (hk:g.Op=3→okF g.K)
 (hop:1≤g.Op∧g.Op≤8) (m:Mk3 r A B C CC n):
 Mk3 (syM a b c g r A B C).1 (syM a b c g r A B C).2.1 (syM a b c g r A B C).2.2.1 (syM a b c g r A B C).2.2.2 CC (n+2)∧r≤(syM a b c g r A B C).1∧(syM a b c g r A B C).1≤r+2:=by
 have one:(1:Int)≤1∧(1:Int)≤2130706432:=⟨by omega,by omega⟩
 have big:(1:Int)≤2130706432∧(2130706432:Int)≤2130706432:=⟨by omega,by omega⟩
 have c0:(0:Int)≤0∧(0:Int)≤CC-1:=⟨by omega,by omega⟩
 have mA:=m.a.up (r:=r) om
 have mB:=m.b.up (r:=r) om
 have mC:=m.c.up (r:=r) om
 have la:=m.la
 have lb:=m.lb
 have lc:=m.lc
 have nB:=di mB hr c0 one
 have nC:=di mC hr hc one
 have nB2:=di (nB.1.up (r:=r+1) om) om c0 one
 have nC2:=di (nC.1.up (r:=r+1) om) om hc one
 unfold syM
 by_cases h1:g.Op=1∨g.Op=2
 ·rw [if_pos h1];exact ⟨⟨m.a,m.b,m.c,by dsimp only;omega,by dsimp only;omega,by dsimp only;omega⟩,by dsimp only;omega,by dsimp only;omega⟩
 rw [if_neg h1]
 by_cases h6:g.Op=6
 ·have nA:=di mA hr (ha om) one
  have nb:=di mB hr (hb om om) one
  rw [if_pos h6];exact ⟨Mk3.of (n:=n+1) (by dsimp only;omega) nA.1 nb.1 nC.1 (by dsimp only;omega) (by dsimp only;omega) (by dsimp only;omega) om,by dsimp only;omega,by dsimp only;omega⟩
 rw [if_neg h6]
 by_cases h4:g.Op=4
 ·have nA:=di mA hr (ha om) one
  have nA2:=di nA.1 hr (hb om om) one
  rw [if_pos h4];exact ⟨Mk3.of (n:=n+2) (by dsimp only;omega) nA2.1 nB.1 nC.1 (by dsimp only;omega) (by dsimp only;omega) (by dsimp only;omega) om,by dsimp only;omega,by dsimp only;omega⟩
 rw [if_neg h4]
 by_cases h5:g.Op=5
 ·have nA:=di mA hr (ha om) one
  have nA2:=di nA.1 hr (hb om om) big
  rw [if_pos h5];exact ⟨Mk3.of (n:=n+2) (by dsimp only;omega) nA2.1 nB.1 nC.1 (by dsimp only;omega) (by dsimp only;omega) (by dsimp only;omega) om,by dsimp only;omega,by dsimp only;omega⟩
 rw [if_neg h5]
 by_cases h3:g.Op=3
 ·rw [if_pos h3]
  by_cases hK:g.K>0
  ·have nA:=di mA hr c0 (v:=g.K) ⟨by omega,(hk h3).2⟩
   rw [if_pos hK];exact ⟨Mk3.of (n:=n+1) (by dsimp only;omega) nA.1 nB.1 nC.1 (by dsimp only;omega) (by dsimp only;omega) (by dsimp only;omega) om,by dsimp only;omega,by dsimp only;omega⟩
  ·rw [if_neg hK];exact ⟨Mk3.of (n:=n+1) (by dsimp only;omega) mA nB.1 nC.1 (by dsimp only;omega) (by dsimp only;omega) (by dsimp only;omega) om,by dsimp only;omega,by dsimp only;omega⟩
 rw [if_neg h3]
 by_cases h7:g.Op=7
 ·have nA:=di mA hr (hb om om) one
  have nA2:=di (nA.1.up (r:=r+1) om) om (ha om) one
  rw [if_pos h7];exact ⟨Mk3.of (n:=n+2) (by dsimp only;omega) nA2.1 nB2.1 nC2.1 (by dsimp only;omega) (by dsimp only;omega) (by dsimp only;omega) om,by dsimp only;omega,by dsimp only;omega⟩
 ·have nA:=di mA hr (ha om) one
  have nA2:=di (nA.1.up (r:=r+1) om) om (ha om) one
  have nb:=di mB hr (ha om) one
  have nb2:=di (nb.1.up (r:=r+1) om) om c0 one
  rw [if_neg h7];exact ⟨Mk3.of (n:=n+2) (by dsimp only;omega) nA2.1 nb2.1 nC2.1 (by dsimp only;omega) (by dsimp only;omega) (by dsimp only;omega) om,by dsimp only;omega,by dsimp only;omega⟩
end Go.AI.Fn
set_option linter.unusedVariables false
set_option linter.unusedSimpArgs false
namespace Go.AI.Fn
theorem uT (l:List aa) (k:Nat) (op:Int):aI l op≤aI (l.take k) op+(l.length-k):=by
 have h:aI l op=aI (l.take k) op+(l.drop k).countP (fun g=>g.Op==op):=by
  conv=>lhs;rw [←List.take_append_drop k l]
  simp only [aI,List.countP_append]
 have:=List.countP_le_length (p:=fun g:aa=>g.Op==op) (l:=l.drop k)
 rw [List.length_drop] at this
 omega
theorem sY (l:List aa):2≤lgC l∧lgC l≤5:=KK _
theorem wL {n:Nat} (h:1≤n):((2^n:Nat):Int)=((2^(n-1):Nat):Int)+((2^(n-1):Nat):Int):=by
 obtain ⟨m,rfl⟩: ∃m,n=m+1:=⟨n-1,by omega⟩
 rw [Nat.add_sub_cancel,Nat.pow_succ];omega
theorem Ux {a b c:Int} (h:mx a b≤c):a≤c∧b≤c:=by
 unfold mx at h
 split at h<;>constructor<;>omega
theorem FL {l:List aa} (ok:OkC l):(aI l 2:Int)+1≤((2^(lgC l-1):Nat):Int)∧(l.length:Int)-(aI l 2:Int)≤((2^(lgC l-1):Nat):Int):=by
 have h1:=ok.n2
 have h2:=ok.p
 have h3:=cU l 2
 have h4:mx ((aI l 2:Int)+1) ((l.length:Int)-(aI l 2:Int))≤15:=by unfold mx;split<;>omega
 exact Ux (RC h4)
theorem BR {l:List aa} (ok:OkC l) {j:Nat} (hj:j<l.length):0≤nU l j∧nU l j≤((2^lgC l:Nat):Int)-1:=by
 have hf:=FL ok
 have hg:=sY l
 have hp:=wL (n:=lgC l) om
 have h1:aI (l.take j) 2≤j:=by have:=cU (l.take j) 2;rw [List.length_take] at this;omega
 unfold nU
 rw [show l.getD j ⟨0,0,0,0⟩=l[j] by simp [hj]]
 split
 ·rename_i h
  have:=dQ hj h
  omega
 ·rename_i h
  have h2:=uT l (j+1) 2
  rw [dp hj,cF,if_neg (by simpa using h)] at h2
  omega
theorem lJ {l:List aa} {n i:Nat} (hi:i<n):(cA l n).getD i 0=nU l i:=by
 simp [cA,hi]
def fdM (l:List aa):Nat→Int×List ag×List ag×List ag
 |0=>(0,[],[],[])
 |j+1=>syM ((cA l l.length).getD (l.getD j ⟨0,0,0,0⟩).A.toNat 0) ((cA l l.length).getD (l.getD j ⟨0,0,0,0⟩).B.toNat 0) ((cA l l.length).getD j 0) (l.getD j ⟨0,0,0,0⟩) (fdM l j).1 (fdM l j).2.1 (fdM l j).2.2.1 (fdM l j).2.2.2
theorem q5 {l:List aa} (ok:OkC l): ∀j,j≤l.length→Mk3 (fdM l j).1 (fdM l j).2.1 (fdM l j).2.2.1 (fdM l j).2.2.2 ((2^lgC l:Nat):Int) (2*j)∧0≤(fdM l j).1∧(fdM l j).1≤2*j
 |0,_=>⟨⟨MkR.nil _ _,MkR.nil _ _,MkR.nil _ _,Nat.le_refl _,Nat.le_refl _,Nat.le_refl _⟩,Int.le_refl _,by simp [fdM]⟩
 |j+1,h=>by
  obtain ⟨m,h0,h1⟩:=q5 ok j om
  have hj:j<l.length:=by omega
  have hd:l.getD j ⟨0,0,0,0⟩=l[j]:=by simp [hj]
  obtain ⟨g1,g2,g3,g4⟩:=iN (ok.g j hj)
  have hp:=pN (lgC l) (by have:=sY l;omega)
  have hc: ∀a:Int,0≤a∧a≤(j:Int)-1→0≤(cA l l.length).getD a.toNat 0∧(cA l l.length).getD a.toNat 0≤((2^lgC l:Nat):Int)-1:=fun a ha=>by
   rw [lJ om];exact BR ok om
  have hcj:0≤(cA l l.length).getD j 0∧(cA l l.length).getD j 0≤((2^lgC l:Nat):Int)-1:=by
   rw [lJ hj];exact BR ok hj
  have:=Y7 (a:=(cA l l.length).getD l[j].A.toNat 0) (b:=(cA l l.length).getD l[j].B.toNat 0) (c:=(cA l l.length).getD j 0) (g:=l[j]) h0 om (fun h=>hc _ (g2 h)) (fun h h7=>hc _ (g3 h h7)) hcj g4 g1 m
  rw [fdM,hd]
  refine ⟨?_,by omega,by omega⟩
  have e:2*(j+1)=2*j+2:=by omega
  rw [e];exact this.1
def rlM (r:Int):Nat:=if r≤2 then 1 else if r≤4 then 2 else if r≤8 then 3 else if r≤16 then 4 else 5
theorem Uy (r:Int):1≤rlM r∧rlM r≤5:=by
 unfold rlM;repeat' split
 all_goals omega
theorem H4 {r:Int} (h:r≤32):r≤((2^rlM r:Nat):Int):=by
 unfold rlM;repeat' split
 all_goals simp<;>omega
def j1 (l:List aa):aS:=⟨(rlM (fdM l l.length).1:Int),(lgC l:Int),(aI l 2:Int),(fdM l l.length).2.1,(fdM l l.length).2.2.1,(fdM l l.length).2.2.2⟩
theorem CD {r:Int} {step:Int→Option (Int⊕(Bool×Int))} (hr:r≤32) (hs: ∀k:Nat,1≤k→k≤5→step (k:Int)=if ((2^k:Nat):Int)<r then some (.inl ((k+1:Nat):Int)) else some (.inr (false,(k:Int)))):
 Loop step 1=some (false,(rlM r:Int)):=by
 have s1:=hs 1 om om
 have s2:=hs 2 om om
 have s3:=hs 3 om om
 have s4:=hs 4 om om
 have s5:=hs 5 om om
 simp only [Nat.reducePow,Nat.reduceAdd] at s1 s2 s3 s4 s5
 unfold rlM
 by_cases h1:r≤2
 ·rw [if_pos h1];rw [if_neg om] at s1;exact cD s1
 rw [if_neg h1];rw [if_pos om] at s1
 refine (dg s1).trans ?_
 by_cases h2:r≤4
 ·rw [if_pos h2];rw [if_neg om] at s2;exact cD s2
 rw [if_neg h2];rw [if_pos om] at s2
 refine (dg s2).trans ?_
 by_cases h3:r≤8
 ·rw [if_pos h3];rw [if_neg om] at s3;exact cD s3
 rw [if_neg h3];rw [if_pos om] at s3
 refine (dg s3).trans ?_
 by_cases h4:r≤16
 ·rw [if_pos h4];rw [if_neg om] at s4;exact cD s4
 rw [if_neg h4];rw [if_pos om] at s4
 refine (dg s4).trans ?_
 rw [if_neg om] at s5;exact cD s5
theorem yp {c:Circuit} (ok:OkC c.Gates):kg c=some (j1 c.Gates):=by
 have hn:=ok.n2
 have hp:=pN (lgC c.Gates) (by have:=sY c.Gates;omega)
 unfold kg
 rw [Bo ok,obs,fV om,obs]
 dsimp only
 have key:=eC (step:=cI (cA c.Gates c.Gates.length) c.Gates 0 0 0 0 (lgC c.Gates:Int) (aI c.Gates 2:Int)) (fun j=>((fdM c.Gates j).1,(j:Int),(fdM c.Gates j).2.1,(fdM c.Gates j).2.2.1,(fdM c.Gates j).2.2.2)) c.Gates.length
  (e:=((fdM c.Gates c.Gates.length).1,(c.Gates.length:Int),false,(fdM c.Gates c.Gates.length).2.1,(fdM c.Gates c.Gates.length).2.2.1,(fdM c.Gates c.Gates.length).2.2.2)) (fun j hj=> ?_) ?_
 ·have e0:Loop (cI (cA c.Gates c.Gates.length) c.Gates 0 0 0 0 (lgC c.Gates:Int) (aI c.Gates 2:Int)) (0,0,[],[],[])=_:=key
  rw [e0,obs]
  dsimp only
  have hr:=(q5 ok c.Gates.length (Nat.le_refl _)).2
  rw [CD (r:=(fdM c.Gates c.Gates.length).1) om (fun k h1 h5=> ?_),obs]
  ·rfl
  ·simp only [i6]
   have e2:IntKind.wrap .i64 ((k:Int)+1)=((k+1:Nat):Int):=by rw [ai _ om om];omega
   rw [sK om,brd om,tA om,e2]
   by_cases h:((2^k:Nat):Int)<(fdM c.Gates c.Gates.length).1
   ·rw [brd h,if_pos h]
   ·rw [brn h,if_neg h,decide_eq_false h]
 ·obtain ⟨m,h0,h1⟩:=q5 ok j om
  have:=Qs (c2:=0) (c3:=0) (c4:=0) (c5:=0) (c6:=(lgC c.Gates:Int)) (c7:=(aI c.Gates 2:Int)) (r:=(fdM c.Gates j).1) (CC:=((2^lgC c.Gates:Nat):Int)) (A:=(fdM c.Gates j).2.1) (B:=(fdM c.Gates j).2.2.1) (C:=(fdM c.Gates j).2.2.2) ok hj (rt c.Gates c.Gates.length) h0 om om
   (fun i hi=>by rw [lJ hi];exact BR ok hi) (m.a.up om) (m.b.up om) (m.c.up om) (by have:=m.la;omega) (by have:=m.lb;omega) (by have:=m.lc;omega)
  have hd:c.Gates.getD j ⟨0,0,0,0⟩=c.Gates[j]:=by simp [hj]
  rw [this,fdM,hd]
 ·simp only [cI]
  rw [brn om,decide_eq_false om]
theorem zt {c:Circuit} (h:c.Gates.length≤1048576):mc c=some (if j4 c.Gates=true then (j1 c.Gates,0) else (⟨0,0,0,[],[],[]⟩,19)):=by
 unfold mc
 rw [qy h,obs]
 by_cases hc:j4 c.Gates=true
 ·rw [hc,yp (yH hc)];rfl
 ·have:j4 c.Gates=false:=by simpa using hc
  rw [this];rfl
end Go.AI.Fn
set_option linter.unusedVariables false
set_option linter.unusedSimpArgs false
namespace Go.AI.Fn
def eT (e:ag):Tri:=(e.Row,e.Col,e.Value)
structure Rm (r:Int) (m:List Tri) (L:List ag):Prop where
 kd:eX m=true
 lt: ∀t∈m,t.1<r
 eq:L.map eT=bK (m.filter nzT)
theorem Rm.nil (r:Int):Rm r [] []:=⟨rfl,(fun t h=>by cases h),(List.length_eq_zero_iff.1 (fj []).length_eq).symm⟩
theorem Rm.up {r r':Int} {m:List Tri} {L:List ag} (h:Rm r m L) (hr:r≤r'):Rm r' m L:=⟨h.kd,fun t ht=>by have:=h.lt t ht;omega,h.eq⟩
theorem Rm.row {r:Int} {m:List Tri} {L:List ag} (h:Rm r m L): ∀e∈L,e.Row<r:=fun e he=>by
 have:eT e∈bK (m.filter nzT):=by rw [←h.eq];exact List.mem_map.2 ⟨e,he,rfl⟩
 have:=(fj _).mem_iff.1 this
 exact h.lt _ (List.mem_filter.1 this).1
theorem Iu {x y:Tri} (h:x.1≠y.1):qM x y=false:=by
 simp only [qM,decide_eq_false_iff_not];omega
theorem Rm.app {r:Int} {m N:List Tri} {L E:List ag} (h:Rm r m L) (hN: ∀t∈N,t.1=r) (hk:eX N=true) (hE:(E.map eT).Perm (N.filter nzT)) (hs:(E.map eT).Pairwise (fun x y=>lL y x=false)):Rm (r+1) (m++N) (L++E):=by
 have hkd:eX (m++N)=true:=by
  refine ji (List.pairwise_append.2 ⟨il h.kd,il hk,fun a ha b hb=>Iu ?_⟩)
  have:=h.lt a ha;have:=hN b hb;omega
 refine ⟨hkd,fun t ht=> ?_, ?_⟩
 ·rcases List.mem_append.1 ht with ht|ht
  ·have:=h.lt t ht;omega
  ·have:=hN t ht;omega
 ·refine oA (ji ((il hkd).filter _)) ?_ ?_
  ·rw [List.map_append,List.filter_append,h.eq]
   exact (fj _).append hE
  ·rw [List.map_append]
   refine List.pairwise_append.2 ⟨by rw [h.eq];exact oQ _,hs,fun a ha b hb=> ?_⟩
   obtain ⟨e,he,rfl⟩:=List.mem_map.1 ha
   have h1:=h.row e he
   have h2:=hN b (List.mem_filter.1 (hE.mem_iff.1 hb)).1
   rw [mQ]
   simp only [eT]
   omega
theorem pR {r c:Int}: ∀{m:List Tri},(∀t∈m,t.1<r)→cM r c m=0
 |[],_=>rfl
 | (x,y,v)::m,h=>by
   have h0:=h (x,y,v) (by simp)
   simp only at h0
   rw [cM,if_neg om];exact pR (fun t ht=>h t (by simp [ht]))
theorem qh {r c v:Int}: ∀{m:List Tri},(∀t∈m,t.1<r)→cV r c v m=m++[(r,c,v)]
 |[],_=>rfl
 | (x,y,u)::m,h=>by
   have h0:=h (x,y,u) (by simp)
   simp only at h0
   rw [cV,if_neg om,qh (fun t ht=>h t (by simp [ht]))];rfl
theorem xM {r c:Int} {N:List Tri}: ∀{m:List Tri},(∀t∈m,t.1<r)→cM r c (m++N)=cM r c N
 |[],_=>rfl
 | (x,y,v)::m,h=>by
   have h0:=h (x,y,v) (by simp)
   simp only at h0
   rw [List.cons_append,cM,if_neg om];exact xM (fun t ht=>h t (by simp [ht]))
theorem Cv {r c v:Int} {N:List Tri}: ∀{m:List Tri},(∀t∈m,t.1<r)→cV r c v (m++N)=m++cV r c v N
 |[],_=>rfl
 | (x,y,u)::m,h=>by
   have h0:=h (x,y,u) (by simp)
   simp only at h0
   rw [List.cons_append,cV,if_neg om,Cv (fun t ht=>h t (by simp [ht]))];rfl
theorem Dw {v:Int} (h:okF v):aF 0 v=v:=by
 unfold aF okF at*;omega
theorem tR {r c v:Int} {L:List ag} (h: ∀e∈L,e.Row<r):enM L r c v=L++[⟨r,c,v⟩]:=by
 unfold enM
 have: ∀R:List ag,(∀e∈R,e.Row<r)→enR r c v R=⟨r,c,v⟩::R:=by
  intro R hR
  cases R with
  |nil=>rfl
  |cons e R=>
   have:=hR e (by simp)
   have h1:enP r c e=false:=by
    simp only [enP,Bool.and_eq_false_iff,decide_eq_false_iff_not];omega
   rw [enR,if_neg (by rw [h1];simp),if_neg om]
 rw [this _ (fun e he=>h e (by simpa using he))]
 simp
theorem GN {r c1 c2 v1 v2:Int} {L:List ag} (h: ∀e∈L,e.Row<r):enM (L++[⟨r,c1,v1⟩]) r c2 v2=
 if c1>c2 then L++[⟨r,c2,v2⟩,⟨r,c1,v1⟩] else if c1=c2 then (if aF v1 v2=0 then L else L++[⟨r,c2,aF v1 v2⟩]) else L++[⟨r,c1,v1⟩,⟨r,c2,v2⟩]:=by
 by_cases h1:c1>c2
 ·rw [if_pos h1,uS (fun e he=>by simp at he;subst he;simp [enP];omega),tR h]
  simp
 ·rw [if_neg h1]
  unfold enM
  rw [List.reverse_append,List.reverse_singleton,List.singleton_append,enR,if_neg (by simp [enP];omega)]
  by_cases h2:c1=c2
  ·rw [if_pos ⟨rfl,h2⟩,if_pos h2]
   split<;>simp
  ·rw [if_neg (fun h=>h2 h.2),if_neg h2]
   simp
theorem YH {r c v:Int} (h:v≠0):nzT (r,c,v)=true:=by simp [nzT,h]
theorem O0 {r c v:Int} (h:v≠0):([(r,c,v)]:List Tri).filter nzT=[(r,c,v)]:=by rw [List.filter_cons,if_pos (YH h)];rfl
theorem Ta {r c:Int}:([(r,c,0)]:List Tri).filter nzT=[]:=rfl
theorem Rm.one {r c v:Int} {m:List Tri} {L:List ag} (h:Rm r m L) (hv:v≠0):Rm (r+1) (cV r c v m) (enM L r c v):=by
 rw [qh h.lt,tR h.row]
 refine h.app (fun t ht=>by simp at ht;subst ht;rfl) rfl ?_ ?_
 ·rw [O0 hv];exact List.Perm.refl _
 ·simp
theorem Rm.add1 {r c v:Int} {m:List Tri} {L:List ag} (h:Rm r m L) (hv:1≤v∧v≤2130706432):Rm (r+1) (cV r c (aF (cM r c m) v) m) (enM L r c v):=by
 rw [pR h.lt,Dw ⟨by omega,hv.2⟩];exact h.one om
theorem Rm.add0 {r c:Int} {m:List Tri} {L:List ag} (h:Rm r m L):Rm (r+1) (cV r c (aF (cM r c m) 0) m) L:=by
 rw [pR h.lt,Dw ⟨by omega,by omega⟩,qh h.lt]
 have:=h.app (N:=[(r,c,0)]) (E:=[]) (fun t ht=>by simp at ht;subst ht;rfl) rfl (by rw [Ta];exact List.Perm.refl _) (by simp)
 simpa using this
theorem Rm.add2 {r c1 c2 v1 v2:Int} {m:List Tri} {L:List ag} (h:Rm r m L) (h1:1≤v1∧v1≤2130706432) (h2:1≤v2∧v2≤2130706432):
 Rm (r+1) (cV r c2 (aF (cM r c2 (cV r c1 (aF (cM r c1 m) v1) m)) v2) (cV r c1 (aF (cM r c1 m) v1) m)) (enM (enM L r c1 v1) r c2 v2):=by
 rw [pR h.lt,Dw (v:=v1) ⟨by omega,h1.2⟩,qh h.lt,xM h.lt,Cv h.lt,tR h.row,GN h.row]
 by_cases hc:c1=c2
 ·subst hc
  rw [if_neg om,if_pos rfl]
  have e1:cM r c1 [(r,c1,v1)]=v1:=by simp [cM]
  have e2: ∀u,cV r c1 u [(r,c1,v1)]=[(r,c1,u)]:=fun u=>by simp [cV]
  rw [e1,e2]
  by_cases hz:aF v1 v2=0
  ·rw [if_pos hz,hz]
   have:=h.app (N:=[(r,c1,0)]) (E:=[]) (fun t ht=>by simp at ht;subst ht;rfl) rfl (by rw [Ta];exact List.Perm.refl _) (by simp)
   simpa using this
  ·rw [if_neg hz]
   refine h.app (fun t ht=>by simp at ht;subst ht;rfl) rfl ?_ ?_
   ·rw [O0 hz];exact List.Perm.refl _
   ·simp
 ·have e1:cM r c2 [(r,c1,v1)]=0:=by simp [cM];omega
  have e2: ∀u,cV r c2 u [(r,c1,v1)]=[(r,c1,v1),(r,c2,u)]:=fun u=>by
   rw [cV,if_neg om];rfl
  rw [e1,e2,Dw ⟨by omega,h2.2⟩]
  have hN: ∀t∈([(r,c1,v1),(r,c2,v2)]:List Tri),t.1=r:=fun t ht=>by simp at ht;rcases ht with rfl|rfl<;>rfl
  have hk:eX [(r,c1,v1),(r,c2,v2)]=true:=by simp [eX,qM];omega
  have hf:([(r,c1,v1),(r,c2,v2)]:List Tri).filter nzT=[(r,c1,v1),(r,c2,v2)]:=by
   rw [List.filter_cons,if_pos (YH om),O0 om]
  by_cases hgt:c1>c2
  ·rw [if_pos hgt]
   refine h.app hN hk ?_ ?_
   ·rw [hf];exact List.Perm.swap _ _ _
   ·simp only [List.map_cons,List.map_nil,eT,List.pairwise_cons,List.mem_singleton,forall_eq,mQ]
    refine ⟨by omega,by simp⟩
  ·rw [if_neg hgt,if_neg hc]
   refine h.app hN hk ?_ ?_
   ·rw [hf];exact List.Perm.refl _
   ·simp only [List.map_cons,List.map_nil,eT,List.pairwise_cons,List.mem_singleton,forall_eq,mQ]
    refine ⟨by omega,by simp⟩
theorem gc (r c v:Int): ∀m:List Tri,(cV r c v m).length≤m.length+1
 |[]=>by simp [cV]
 | (x,y,u)::m=>by
   rw [cV];split
   ·simp
   ·have:=gc r c v m;simp;omega
theorem AA {r c:Int} {m:List Tri} (h: ∀t∈m,t.1<r):okF (cM r c m):=by rw [pR h];exact ⟨by omega,by omega⟩
theorem Rm.ent {r:Int} {m:List Tri} {L:List ag} (h:Rm r m L) (hl:m.length<1073741824):jr m=some (L,m):=by
 unfold jr
 rw [h.kd,Bool.true_and,brd hl, ←h.eq]
 have:(L.map eT).map ng=L:=by
  rw [List.map_map]
  have: ∀e∈L,(ng∘eT) e=e:=fun e _=>rfl
  rw [List.map_congr_left this];simp
 rw [this]
end Go.AI.Fn
set_option linter.unusedVariables false
set_option linter.unusedSimpArgs false
namespace Go.AI.Fn
theorem vF {g:aa} {k:Int} (h0:0≤k) (h1:k≤1048576):qN g k=some (dL g k):=by
 unfold qN dL
 simp only [DC,ul,obs]
 rw [ai (k-1) om om]
 obtain ⟨op,a,b,c⟩:=g
 dsimp only
 generalize decide (0≤a∧a≤k-1)=x
 generalize decide (0≤b∧b≤k-1)=y
 generalize pG c=z
 generalize (a==0)=za
 generalize (b==0)=zb
 generalize (c==0)=zc
 have hop:op=3∨op=4∨op=5∨op=6∨op=7∨op=8∨(op≠3∧op≠4∧op≠5∧op≠6∧op≠7∧op≠8):=by omega
 rcases hop with rfl|rfl|rfl|rfl|rfl|rfl|⟨h3,h4,h5,h6,h7,h8⟩
 ·cases x<;>cases y<;>cases z<;>cases za<;>cases zb<;>cases zc<;>rfl
 ·cases x<;>cases y<;>cases z<;>cases za<;>cases zb<;>cases zc<;>rfl
 ·cases x<;>cases y<;>cases z<;>cases za<;>cases zb<;>cases zc<;>rfl
 ·cases x<;>cases y<;>cases z<;>cases za<;>cases zb<;>cases zc<;>rfl
 ·cases x<;>cases y<;>cases z<;>cases za<;>cases zb<;>cases zc<;>rfl
 ·cases x<;>cases y<;>cases z<;>cases za<;>cases zb<;>cases zc<;>rfl
 ·have hu:jb op=0:=by unfold jb;rw [if_neg om,if_neg h8]
  have e3:(op==3)=false:=by simpa using h3
  have e4:(op==4)=false:=by simpa using h4
  have e5:(op==5)=false:=by simpa using h5
  have e6:(op==6)=false:=by simpa using h6
  have e7:(op==7)=false:=by simpa using h7
  have e8:(op==8)=false:=by simpa using h8
  rw [hu,e3,e4,e5,e6,e7,e8]
  generalize decide (1≤op∧op≤8)=o
  cases o<;>cases za<;>cases zb<;>cases zc<;>rfl
theorem ms {c:Circuit} {op:Int} (h:c.Gates.length≤1048576):bG c op=some (aI c.Gates op:Int):=by
 unfold bG
 have key:=eC (step:=bY op c.Gates (c.Gates.length:Int) c.Gates) (fun j=>((aI (c.Gates.take j) op:Int),(j:Int))) c.Gates.length (e:=((aI c.Gates op:Int),(c.Gates.length:Int),false)) (fun j hj=> ?_) ?_
 ·rw [show ((0:Int),(0:Int))=((aI (c.Gates.take 0) op:Int),((0:Nat):Int)) from rfl,key];rfl
 ·have hle:=cU (c.Gates.take j) op
  rw [List.length_take] at hle
  simp only [bY]
  rw [brd om,ci hj,obs,dp hj,cF]
  cases hb:(c.Gates[j].Op==op)
  ·rw [aC,if_neg (by simp),ai _ om om];simp
  ·rw [bC,if_pos rfl,ai _ om om,ai _ om om];simp
 ·simp only [bY]
  rw [brn om,decide_eq_false om,List.take_length]
theorem j0 {c:Circuit} (h:c.Gates.length≤1048576):eV c=some (j4 c.Gates):=by
 unfold eV j4
 rw [DC,obs]
 by_cases h1:1≤c.Gates.length∧c.Gates.length≤15
 ·rw [decide_eq_true om,decide_eq_true h1,Bool.not_true,aC,Bool.true_and]
  have key:=mb (step:=cj c.Gates (c.Gates.length:Int) c.Gates) (fun k=>(k:Int)) c.Gates.length (fun k=>((c.Gates[k]?.map fun g=>dL g (k:Int)).getD false)) (fun k=> .inl ((c.Gates.getD k ⟨0,0,0,0⟩).Op,(c.Gates.getD k ⟨0,0,0,0⟩).A,(c.Gates.getD k ⟨0,0,0,0⟩).B,(c.Gates.getD k ⟨0,0,0,0⟩).K)) (e:= .inr ((c.Gates.length:Int),false)) (fun k hk hp=>by
   have hb:dL c.Gates[k] (k:Int)=true:=by simpa [hk] using hp
   simp only [cj]
   rw [brd om,ci hk,obs,vF om om,obs,hb,Bool.not_true,aC,ai _ om om];rfl)
   (fun k hk hp=>by
    have hb:dL c.Gates[k] (k:Int)=false:=by simpa [hk] using hp
    have hd:c.Gates.getD k ⟨0,0,0,0⟩=c.Gates[k]:=by simp [hk]
    simp only [cj]
    rw [brd om,ci hk,obs,vF om om,obs,hb,Bool.not_false,bC,hd])
   (by simp only [cj];rw [brn om,decide_eq_false om])
  rcases key with ⟨h2,h3⟩|⟨k,hk,h2,_,h3⟩
  ·have e:Loop (cj c.Gates (c.Gates.length:Int) c.Gates) 0=some (.inr ((c.Gates.length:Int),false)):=h3
   have ha:(List.range c.Gates.length).all (fun k=>((c.Gates[k]?.map fun g=>dL g (k:Int)).getD false))=true:=List.all_eq_true.2 fun k hk=>h2 k (List.mem_range.1 hk)
   rw [e,ha,obs,mX,ms h,obs,Bool.true_and]
  ·have e:Loop (cj c.Gates (c.Gates.length:Int) c.Gates) 0=some (.inl _):=h3
   have ha:(List.range c.Gates.length).all (fun k=>((c.Gates[k]?.map fun g=>dL g (k:Int)).getD false))=false:=List.all_eq_false.2 ⟨k,List.mem_range.2 hk,by rw [h2];simp⟩
   rw [e,ha,obs,kZ,Bool.false_and]
 ·rw [decide_eq_false om,decide_eq_false h1,Bool.not_false,bC,Bool.false_and]
theorem GT {c v a2 a3 r:Int} {mA mB mC:List Tri} (h0:0≤r) (h1:r≤1000) (hm:okF (cM r c mA)) (hv:okF v):
 bv [(c,v)] a2 a3 r mA mB mC=some (r+1,cV r c (aF (cM r c mA) v) mA,cV r a2 1 mB,cV r a3 1 mC):=by
 unfold bv
 have s1:bg mB mC a2 a3 [(c,v)] (([(c,v)]:List (Int×Int)).length:Int) r (mA,0)=some (.inl (cV r c (aF (cM r c mA) v) mA,1)):=by
  simp only [bg]
  rw [brd (by simp)]
  show (Option.bind (some (c,v)) _)=_
  rw [obs,qw hm hv,obs,ai _ om om];rfl
 have s2:bg mB mC a2 a3 [(c,v)] (([(c,v)]:List (Int×Int)).length:Int) r (cV r c (aF (cM r c mA) v) mA,1)=some (.inr (cV r c (aF (cM r c mA) v) mA,1,false)):=by
  simp only [bg]
  rw [brn (by simp),decide_eq_false (by simp)]
 rw [dg s1,cD s2,obs,ai _ om om]
theorem SR {c1 v1 c2 v2 a2 a3 r:Int} {mA mB mC:List Tri} (h0:0≤r) (h1:r≤1000) (hm:okF (cM r c1 mA)) (hv1:okF v1) (hm2:okF (cM r c2 (cV r c1 (aF (cM r c1 mA) v1) mA))) (hv2:okF v2):
 bv [(c1,v1),(c2,v2)] a2 a3 r mA mB mC=some (r+1,cV r c2 (aF (cM r c2 (cV r c1 (aF (cM r c1 mA) v1) mA)) v2) (cV r c1 (aF (cM r c1 mA) v1) mA),cV r a2 1 mB,cV r a3 1 mC):=by
 unfold bv
 have s1:bg mB mC a2 a3 [(c1,v1),(c2,v2)] (([(c1,v1),(c2,v2)]:List (Int×Int)).length:Int) r (mA,0)=some (.inl (cV r c1 (aF (cM r c1 mA) v1) mA,1)):=by
  simp only [bg]
  rw [brd (by simp)]
  show (Option.bind (some (c1,v1)) _)=_
  rw [obs,qw hm hv1,obs,ai _ om om];rfl
 generalize cV r c1 (aF (cM r c1 mA) v1) mA=m1 at*
 have s2:bg mB mC a2 a3 [(c1,v1),(c2,v2)] (([(c1,v1),(c2,v2)]:List (Int×Int)).length:Int) r (m1,1)=some (.inl (cV r c2 (aF (cM r c2 m1) v2) m1,2)):=by
  simp only [bg]
  rw [brd (by simp)]
  show (Option.bind (some (c2,v2)) _)=_
  rw [obs,qw hm2 hv2,obs,ai _ om om];rfl
 have s3:bg mB mC a2 a3 [(c1,v1),(c2,v2)] (([(c1,v1),(c2,v2)]:List (Int×Int)).length:Int) r (cV r c2 (aF (cM r c2 m1) v2) m1,2)=some (.inr (cV r c2 (aF (cM r c2 m1) v2) m1,2,false)):=by
  simp only [bg]
  rw [brn (by simp),decide_eq_false (by simp)]
 rw [dg s1,dg s2,cD s3,obs,ai _ om om]
theorem E3 {r c1 c2 u:Int} {m:List Tri} (h: ∀t∈m,t.1<r) (hu:okF u):okF (cM r c2 (cV r c1 u m)):=by
 rw [qh h,xM h]
 by_cases hc:c1=c2
 ·have:cM r c2 [(r,c1,u)]=u:=by simp [cM,hc]
  rw [this];exact hu
 ·have:cM r c2 [(r,c1,u)]=0:=by simp [cM];exact fun e=>absurd e.symm hc
  rw [this];exact ⟨by omega,by omega⟩
structure R3 (r:Int) (mA mB mC:List Tri) (A B C:List ag) (n:Nat):Prop where
 a:Rm r mA A
 b:Rm r mB B
 c:Rm r mC C
 la:mA.length≤n
 lb:mB.length≤n
 lc:mC.length≤n
theorem rq {c v a2 a3 r:Int} {mA mB mC:List Tri} {A B C:List ag} {n:Nat} (h0:0≤r) (h1:r≤1000) (hv:1≤v∧v≤2130706432) (h:R3 r mA mB mC A B C n):
 ∃mA' mB' mC',bv [(c,v)] a2 a3 r mA mB mC=some (r+1,mA',mB',mC')∧R3 (r+1) mA' mB' mC' (enM A r c v) (enM B r a2 1) (enM C r a3 1) (n+1):=
 ⟨_,_,_,GT h0 h1 (AA h.a.lt) ⟨by omega,hv.2⟩,h.a.add1 hv,h.b.one om,h.c.one om,by have:=gc r c (aF (cM r c mA) v) mA;have:=h.la;omega,by have:=gc r a2 1 mB;have:=h.lb;omega,by have:=gc r a3 1 mC;have:=h.lc;omega⟩
theorem Sy {c a2 a3 r:Int} {mA mB mC:List Tri} {A B C:List ag} {n:Nat} (h0:0≤r) (h1:r≤1000) (h:R3 r mA mB mC A B C n):
 ∃mA' mB' mC',bv [(c,0)] a2 a3 r mA mB mC=some (r+1,mA',mB',mC')∧R3 (r+1) mA' mB' mC' A (enM B r a2 1) (enM C r a3 1) (n+1):=
 ⟨_,_,_,GT h0 h1 (AA h.a.lt) ⟨by omega,by omega⟩,h.a.add0,h.b.one om,h.c.one om,by have:=gc r c (aF (cM r c mA) 0) mA;have:=h.la;omega,by have:=gc r a2 1 mB;have:=h.lb;omega,by have:=gc r a3 1 mC;have:=h.lc;omega⟩
theorem GQ {c1 v1 c2 v2 a2 a3 r:Int} {mA mB mC:List Tri} {A B C:List ag} {n:Nat} (h0:0≤r) (h1:r≤1000) (hv1:1≤v1∧v1≤2130706432) (hv2:1≤v2∧v2≤2130706432) (h:R3 r mA mB mC A B C n):
 ∃mA' mB' mC',bv [(c1,v1),(c2,v2)] a2 a3 r mA mB mC=some (r+1,mA',mB',mC')∧R3 (r+1) mA' mB' mC' (enM (enM A r c1 v1) r c2 v2) (enM B r a2 1) (enM C r a3 1) (n+2):=
 ⟨_,_,_,SR h0 h1 (AA h.a.lt) ⟨by omega,hv1.2⟩ (E3 h.a.lt (Ew _ _)) ⟨by omega,hv2.2⟩,h.a.add2 hv1 hv2,h.b.one om,h.c.one om,by
   have:=gc r c1 (aF (cM r c1 mA) v1) mA
   have:=gc r c2 (aF (cM r c2 (cV r c1 (aF (cM r c1 mA) v1) mA)) v2) (cV r c1 (aF (cM r c1 mA) v1) mA)
   have:=h.la;omega,by have:=gc r a2 1 mB;have:=h.lb;omega,by have:=gc r a3 1 mC;have:=h.lc;omega⟩
theorem R3.up {r:Int} {mA mB mC:List Tri} {A B C:List ag} {n m:Nat} (h:R3 r mA mB mC A B C n) (hn:n≤m):R3 r mA mB mC A B C m:=⟨h.a,h.b,h.c,by have:=h.la;omega,by have:=h.lb;omega,by have:=h.lc;omega⟩
theorem jL {t:List Int} {p v:Int} (h:0≤p∧p<t.length):bo p v t=some [(t.getD p.toNat 0,v)]:=by
 unfold bo
 obtain ⟨k,rfl⟩: ∃k:Nat,p=k:=⟨p.toNat,by omega⟩
 rw [hG om,obs,Int.toNat_natCast]
theorem Te {t:List Int} {p:Int} (h:0≤p∧p<t.length):atL t p=some (t.getD p.toNat 0):=by
 obtain ⟨k,rfl⟩: ∃k:Nat,p=k:=⟨p.toNat,by omega⟩
 rw [hG om,Int.toNat_natCast]
theorem Ki {t:List Int} {g:aa} {k c r:Int} {mA mB mC:List Tri} {A B C:List ag} {n:Nat} (hg:dL g k=true) (hk:k<t.length) (h0:0≤r) (h1:r≤100) (h:R3 r mA mB mC A B C n):
 ∃mA' mB' mC',iQ g c t r mA mB mC=some ((syM (t.getD g.A.toNat 0) (t.getD g.B.toNat 0) c g r A B C).1,mA',mB',mC')∧
  R3 (syM (t.getD g.A.toNat 0) (t.getD g.B.toNat 0) c g r A B C).1 mA' mB' mC' (syM (t.getD g.A.toNat 0) (t.getD g.B.toNat 0) c g r A B C).2.1 (syM (t.getD g.A.toNat 0) (t.getD g.B.toNat 0) c g r A B C).2.2.1 (syM (t.getD g.A.toNat 0) (t.getD g.B.toNat 0) c g r A B C).2.2.2 (n+2):=by
 obtain ⟨g1,g2,g3,g4⟩:=iN hg
 have one:(1:Int)≤1∧(1:Int)≤2130706432:=⟨by omega,by omega⟩
 have big:(1:Int)≤2130706432∧(2130706432:Int)≤2130706432:=⟨by omega,by omega⟩
 unfold iQ
 have hop:g.Op=1∨g.Op=2∨g.Op=3∨g.Op=4∨g.Op=5∨g.Op=6∨g.Op=7∨g.Op=8:=by omega
 rcases hop with e|e|e|e|e|e|e|e
 ·rw [aP om,aP om,aP om,aP om,aP om,aP om]
  simp only [syM,e]
  exact ⟨_,_,_,rfl,h.up om⟩
 ·rw [aP om,aP om,aP om,aP om,aP om,aP om]
  simp only [syM,e]
  exact ⟨_,_,_,rfl,h.up om⟩
 ·have hk3:=g4 e
  rw [bre e]
  by_cases hp:g.K>0
  ·obtain ⟨x,y,z,e1,e2⟩:=rq (c:=0) (v:=g.K) (a2:=0) (a3:=c) h0 om ⟨by omega,hk3.2⟩ h
   rw [e1,obs]
   simp only [syM,e,if_pos hp]
   exact ⟨_,_,_,rfl,e2.up om⟩
  ·have hz:g.K=0:=by have:=hk3.1;omega
   obtain ⟨x,y,z,e1,e2⟩:=Sy (c:=0) (a2:=0) (a3:=c) h0 om h
   rw [hz,e1,obs]
   simp only [syM,e,if_neg hp]
   exact ⟨_,_,_,rfl,e2.up om⟩
 ·have a:=g2 om
  have b:=g3 om om
  rw [aP om,bre e,jL om,obs,jL om,obs,bn (by simp)]
  obtain ⟨x,y,z,e1,e2⟩:=GQ (c1:=t.getD g.A.toNat 0) (v1:=1) (c2:=t.getD g.B.toNat 0) (v2:=1) (a2:=0) (a3:=c) h0 om one one h
  rw [List.singleton_append,e1,obs]
  simp only [syM,e]
  exact ⟨_,_,_,rfl,e2⟩
 ·have a:=g2 om
  have b:=g3 om om
  rw [aP om,aP om,bre e,jL om,obs,jL om,obs,bn (by simp)]
  obtain ⟨x,y,z,e1,e2⟩:=GQ (c1:=t.getD g.A.toNat 0) (v1:=1) (c2:=t.getD g.B.toNat 0) (v2:=2130706432) (a2:=0) (a3:=c) h0 om one big h
  rw [List.singleton_append,e1,obs]
  simp only [syM,e]
  exact ⟨_,_,_,rfl,e2⟩
 ·have a:=g2 om
  have b:=g3 om om
  rw [aP om,aP om,aP om,bre e,jL om,obs,Te om,obs]
  obtain ⟨x,y,z,e1,e2⟩:=rq (c:=t.getD g.A.toNat 0) (v:=1) (a2:=t.getD g.B.toNat 0) (a3:=c) h0 om one h
  rw [e1,obs]
  simp only [syM,e]
  exact ⟨_,_,_,rfl,e2.up om⟩
 ·have a:=g2 om
  have b:=g3 om om
  rw [aP om,aP om,aP om,aP om,bre e,jL om,obs]
  obtain ⟨x,y,z,e1,e2⟩:=rq (c:=t.getD g.B.toNat 0) (v:=1) (a2:=0) (a3:=c) h0 om one h
  obtain ⟨x',y',z',e3,e4⟩:=rq (c:=t.getD g.A.toNat 0) (v:=1) (a2:=0) (a3:=c) om om one e2
  rw [e1,obs,jL om,obs,e3,obs]
  simp only [syM,e]
  exact ⟨_,_,_,rfl,e4⟩
 ·have a:=g2 om
  rw [aP om,aP om,aP om,aP om,aP om,bre e,jL om,obs,Te om,obs]
  obtain ⟨x,y,z,e1,e2⟩:=rq (c:=t.getD g.A.toNat 0) (v:=1) (a2:=t.getD g.A.toNat 0) (a3:=c) h0 om one h
  obtain ⟨x',y',z',e3,e4⟩:=rq (c:=t.getD g.A.toNat 0) (v:=1) (a2:=0) (a3:=c) om om one e2
  rw [e1,obs,obs,e3,obs]
  simp only [syM,e]
  exact ⟨_,_,_,rfl,e4⟩
end Go.AI.Fn
set_option linter.unusedVariables false
set_option linter.unusedSimpArgs false
namespace Go.AI.Fn
theorem Dt {s:aS} {k:Nat} (h:s.Cols=((k+1:Nat):Int)) (hk:k≤50):bO s=some ((2^k:Nat):Int):=by
 have e:IntKind.wrap .i64 (((k+1:Nat):Int)-1)=(k:Int):=by rw [ai _ om om];omega
 unfold bO
 rw [h,e,brd om,tA om]
theorem uj {p w c2 c3 c4 c5:Int} {l:List aa} {k:Nat} (hk:k≤50) (hp:0≤p) (hp1:p≤100):
 bM w l c2 c3 c4 c5 p ((k+1:Nat):Int)=if ((2^k:Nat):Int)<mx (p+1) w then some (.inl ((k+2:Nat):Int)) else some (.inr (false,((k+1:Nat):Int))):=by
 have e2:IntKind.wrap .i64 (((k+1:Nat):Int)+1)=((k+2:Nat):Int):=by rw [ai _ om om];omega
 simp only [bM]
 rw [Dt (k:=k) rfl hk,obs,e2,ai (p+1) om om]
 by_cases h:((2^k:Nat):Int)<mx (p+1) w
 ·rw [brd h,if_pos h]
 ·rw [brn h,if_neg h,decide_eq_false h]
theorem NP {p w c2 c3 c4 c5:Int} {l:List aa} (hp:0≤p) (hp1:p≤7) (hw:w≤15):Loop (bM w l c2 c3 c4 c5 p) 2=some (false,(lgM (mx (p+1) w):Int)):=by
 have hm:mx (p+1) w≤15:=by unfold mx;split<;>omega
 have s1:=uj (p:=p) (w:=w) (l:=l) (c2:=c2) (c3:=c3) (c4:=c4) (c5:=c5) (k:=1) om hp om
 have s2:=uj (p:=p) (w:=w) (l:=l) (c2:=c2) (c3:=c3) (c4:=c4) (c5:=c5) (k:=2) om hp om
 have s3:=uj (p:=p) (w:=w) (l:=l) (c2:=c2) (c3:=c3) (c4:=c4) (c5:=c5) (k:=3) om hp om
 have s4:=uj (p:=p) (w:=w) (l:=l) (c2:=c2) (c3:=c3) (c4:=c4) (c5:=c5) (k:=4) om hp om
 simp only [Nat.reducePow,Nat.reduceAdd] at s1 s2 s3 s4
 unfold lgM
 generalize mx (p+1) w=m at*
 by_cases h1:m≤2
 ·rw [if_pos h1];rw [if_neg om] at s1;exact cD s1
 rw [if_neg h1];rw [if_pos om] at s1
 refine (dg s1).trans ?_
 by_cases h2:m≤4
 ·rw [if_pos h2];rw [if_neg om] at s2;exact cD s2
 rw [if_neg h2];rw [if_pos om] at s2
 refine (dg s2).trans ?_
 by_cases h3:m≤8
 ·rw [if_pos h3];rw [if_neg om] at s3;exact cD s3
 rw [if_neg h3];rw [if_pos om] at s3
 refine (dg s3).trans ?_
 rw [if_neg om] at s4;exact cD s4
theorem EX {l:List aa} {c9 c10 c11 c12 c13 c14:Int} (ok:OkC l):Loop (bL l (l.length:Int) l c9 c10 c11 c12 c13 c14) ([],1,((2^(lgC l-1):Nat):Int),0)=
 some (cA l l.length,(aI l 2:Int)+1,((2^(lgC l-1):Nat):Int)+((l.length:Int)-(aI l 2:Int)),(l.length:Int),false):=by
 have h1:=ok.n2
 have h2':=sY l
 have hpw:=pN (lgC l-1) om
 have key:=eC (step:=bL l (l.length:Int) l c9 c10 c11 c12 c13 c14) (fun j=>(cA l j,(aI (l.take j) 2:Int)+1,((2^(lgC l-1):Nat):Int)+((j:Int)-(aI (l.take j) 2:Int)),(j:Int))) l.length (e:=(cA l l.length,(aI l 2:Int)+1,((2^(lgC l-1):Nat):Int)+((l.length:Int)-(aI l 2:Int)),(l.length:Int),false)) (fun j hj=> ?_) ?_
 ·have:((cA l 0,(aI (l.take 0) 2:Int)+1,((2^(lgC l-1):Nat):Int)+(((0:Nat):Int)-(aI (l.take 0) 2:Int)),((0:Nat):Int)):List Int×Int×Int×Int)=([],1,((2^(lgC l-1):Nat):Int),0):=by simp [cA,aI]
  rw [←this,key]
 ·have hd:l.getD j ⟨0,0,0,0⟩=l[j]:=by simp [hj]
  have l2:=cU (l.take j) 2
  rw [List.length_take] at l2
  have hcl:=rt l j
  have hfit: ∀v:Int,(cA l j++[v]).length*8≤1099511627776:=fun v=>by rw [List.length_append,hcl];simp;omega
  simp only [bL]
  rw [brd om,ci hj,obs,dp hj,cF,wB,nU,hd]
  by_cases h:l[j].Op=2
  ·rw [bre h,bn (hfit _),ai _ om om,ai _ om om,if_pos h,if_pos (by simp [h])]
   simp;omega
  ·rw [aP h,bn (hfit _),ai _ om om,ai _ om om,if_neg h,if_neg (by simp [h])]
   simp;omega
 ·simp only [bL]
  rw [brn om,decide_eq_false om,List.take_length]
theorem Cb {l:List aa} {c16 c17 c18 c19 c20 c21:Int} (ok:OkC l): ∃mA mB mC,Loop (cm (cA l l.length) l (l.length:Int) l c16 c17 c18 c19 c20 c21) ([],[],[],0,0)=
 some (mA,mB,mC,(l.length:Int),false,(fdM l l.length).1)∧R3 (fdM l l.length).1 mA mB mC (fdM l l.length).2.1 (fdM l l.length).2.2.1 (fdM l l.length).2.2.2 (2*l.length):=by
 have hn:=ok.n2
 obtain ⟨⟨mA,mB,mC,i,b,r⟩,h1,h2,h3,h4,h5⟩:=qF (step:=cm (cA l l.length) l (l.length:Int) l c16 c17 c18 c19 c20 c21)
  (fun s=> ∃j:Nat,j≤l.length∧s.2.2.2.1=(j:Int)∧s.2.2.2.2=(fdM l j).1∧R3 (fdM l j).1 s.1 s.2.1 s.2.2.1 (fdM l j).2.1 (fdM l j).2.2.1 (fdM l j).2.2.2 (2*j)) (fun s=>l.length-s.2.2.2.1.toNat)
  (fun e=>e.2.2.2.1=(l.length:Int)∧e.2.2.2.2.1=false∧e.2.2.2.2.2=(fdM l l.length).1∧R3 (fdM l l.length).1 e.1 e.2.1 e.2.2.1 (fdM l l.length).2.1 (fdM l l.length).2.2.1 (fdM l l.length).2.2.2 (2*l.length))
  (fun s=>by
   obtain ⟨mA,mB,mC,i,r⟩:=s
   rintro ⟨j,hj,e1,e2,h⟩
   dsimp only at e1 e2 h
   subst e1
   simp only [cm]
   by_cases hlt:j<l.length
   ·left
    have hd:l.getD j ⟨0,0,0,0⟩=l[j]:=by simp [hlt]
    have hl:=rt l l.length
    obtain ⟨_,r0,r1⟩:=q5 ok j hj
    obtain ⟨x,y,z,g1,g2⟩:=Ki (t:=cA l l.length) (c:=(cA l l.length).getD j 0) (ok.g j hlt) om r0 om h
    rw [brd om,ci hlt,obs,brd om,brd (by rw [Int.toNat_natCast];omega),Int.toNat_natCast,dE om,obs,e2,g1,obs,ai _ om om]
    refine ⟨_,rfl,⟨j+1,by omega,by dsimp only;omega,by rw [fdM,hd], ?_⟩,by dsimp only;omega⟩
    rw [fdM,hd]
    exact g2
   ·right
    have:j=l.length:=by omega
    subst this
    rw [brn om,decide_eq_false om]
    exact ⟨_,rfl,rfl,rfl,e2,h⟩)
  ([],[],[],0,0) ⟨0,by omega,rfl,rfl,⟨Rm.nil _,Rm.nil _,Rm.nil _,by simp,by simp,by simp⟩⟩
 dsimp only at h2 h3 h4 h5
 subst h2 h3 h4
 exact ⟨mA,mB,mC,h1,h5⟩
theorem DJ {c:Circuit} (ok:OkC c.Gates):eP c=some (j1 c.Gates):=by
 have hn:=ok.n2
 have h2:=ok.p
 have h3:=cU c.Gates 2
 have h5:=sY c.Gates
 unfold eP
 have hl:Loop (bM ((c.Gates.length:Int)-(aI c.Gates 2:Int)) c.Gates 0 0 0 1 (aI c.Gates 2:Int)) 2=some (false,(lgC c.Gates:Int)):=NP om om om
 rw [ms om,obs,ai _ om om,hl,obs]
 dsimp only
 rw [Dt (k:=lgC c.Gates-1) (by dsimp only;omega) om,obs,EX ok,obs]
 dsimp only
 obtain ⟨mA,mB,mC,g1,g2⟩:=Cb (c16:=0) (c17:=0) (c18:=0) (c19:=1) (c20:=(lgC c.Gates:Int)) (c21:=(aI c.Gates 2:Int)) ok
 obtain ⟨_,r0,r1⟩:=q5 ok c.Gates.length (Nat.le_refl _)
 rw [g1,obs]
 dsimp only
 rw [CD (r:=(fdM c.Gates c.Gates.length).1) om (fun k k1 k5=> ?_),obs,g2.a.ent (by have:=g2.la;omega),obs,g2.b.ent (by have:=g2.lb;omega),obs,g2.c.ent (by have:=g2.lc;omega),obs]
 ·rfl
 ·simp only [dT]
  have e2:IntKind.wrap .i64 ((k:Int)+1)=((k+1:Nat):Int):=by rw [ai _ om om];omega
  rw [brd om,tA om,e2]
  by_cases h:((2^k:Nat):Int)<(fdM c.Gates c.Gates.length).1
  ·rw [brd h,if_pos h]
  ·rw [brn h,if_neg h,decide_eq_false h]
theorem yP {c:Circuit} (h:c.Gates.length≤1048576):mh c=some (if j4 c.Gates=true then (j1 c.Gates,0) else (⟨0,0,0,[],[],[]⟩,19)):=by
 unfold mh
 rw [j0 h,obs]
 by_cases hc:j4 c.Gates=true
 ·rw [hc,DJ (yH hc)];rfl
 ·have:j4 c.Gates=false:=by simpa using hc
  rw [this];rfl
end Go.AI.Fn
