/- Plain laws for printed functions: loops whose states are told in advance; numbers; places. -/
import Derived.Test.YtdmhkkcihecndaaGreatAiW
import Derived.Test.YtdmhkkcihecndaaGreatFx3
import Derived.KernelRfl
set_option linter.unusedVariables false
namespace Go.AI
theorem bn {S E:Type} {step:S→Option (S⊕E)} {s s':S} (h:step s=some (.inl s')):Loop step s=Loop step s':=by rw [Vm,h];rfl
theorem bA {S E:Type} {step:S→Option (S⊕E)} {s:S} {e:E} (h:step s=some (.inr e)):Loop step s=some e:=by rw [Vm,h];rfl
theorem aA {S E:Type} {step:S→Option (S⊕E)} (F:Nat→S) (n:Nat) {e:E} (hs: ∀k,k<n→step (F k)=some (.inl (F (k+1)))) (he:step (F n)=some (.inr e)):Loop step (F 0)=some e:=by
 have key: ∀m k,k+m=n→Loop step (F k)=some e:=by
  intro m
  induction m with
  |zero=>intro k hk;have:k=n:=by omega
         subst this;exact bA he
  |succ m ih=>intro k hk;rw [bn (hs k om)];exact ih (k+1) om
 exact key n 0 om
theorem TN (P:Nat→Bool): ∀n,(∀k,k<n→P k=true)∨ ∃k,k<n∧P k=false∧ ∀j,j<k→P j=true
 |0=> .inl om
 |n+1=>by
  rcases TN P n with h|⟨k,hk,h1,h2⟩
  ·cases hn:P n
   ·exact .inr ⟨n,by omega,hn,h⟩
   ·refine .inl fun k hk=> ?_
    by_cases e:k=n
    ·subst e;exact hn
    ·exact h k om
  ·exact .inr ⟨k,by omega,h1,h2⟩
theorem HZ {S E:Type} {step:S→Option (S⊕E)} (F:Nat→S) (n:Nat) (P:Nat→Bool) (x:Nat→E) {e:E} (hs: ∀k,k<n→P k=true→step (F k)=some (.inl (F (k+1))))
 (hx: ∀k,k<n→P k=false→step (F k)=some (.inr (x k))) (he:step (F n)=some (.inr e)):
 ((∀k,k<n→P k=true)∧Loop step (F 0)=some e)∨ ∃k,k<n∧P k=false∧(∀j,j<k→P j=true)∧Loop step (F 0)=some (x k):=by
 rcases TN P n with h|⟨k,hk,h1,h2⟩
 ·exact .inl ⟨h,aA F n (fun k hk=>hs k hk (h k hk)) he⟩
 ·exact .inr ⟨k,hk,h1,h2,aA F k (fun j hj=>hs j om (h2 j hj)) (hx k hk h1)⟩
theorem mf {S E:Type} {step:S→Option (S⊕E)} (Inv:S→Prop) (me:S→Nat) (Post:E→Prop)
 (hs: ∀s,Inv s→(∃s',step s=some (.inl s')∧Inv s'∧me s'<me s)∨(∃e,step s=some (.inr e)∧Post e)):
 ∀s,Inv s→ ∃e,Loop step s=some e∧Post e:=by
 intro s
 generalize hm:me s=m
 induction m using Nat.strongRecOn generalizing s with
 |_ m ih=>
  intro hi
  rw [Vm]
  rcases hs s hi with ⟨s',h1,h2,h3⟩|⟨e,h1,h2⟩
  ·rw [h1];exact ih (me s') om s' rfl h2
  ·rw [h1];exact ⟨e,rfl,h2⟩
theorem v9 {α:Type} {c:Bool} {x y:α} (h:c=true):br c x y=x:=by subst h;rfl
theorem OG {α:Type} {c:Bool} {x y:α} (h:c=false):br c x y=y:=by subst h;rfl
theorem brd {α:Type} {p:Prop} [Decidable p] {x y:α} (h:p):br (decide p) x y=x:=v9 (decide_eq_true h)
theorem brn {α:Type} {p:Prop} [Decidable p] {x y:α} (h: ¬p):br (decide p) x y=y:=OG (decide_eq_false h)
theorem Bq {α:Type} {p q:Prop} [Decidable p] [Decidable q] {x y:α} (h:p) (g:q):br (decide p&&decide q) x y=x:=v9 (by simp [h,g])
theorem bre {α:Type} {a b:Int} {x y:α} (h:a=b):br (a==b) x y=x:=v9 (by simp [h])
theorem Pu {α:Type} {a b:Int} {x y:α} (h:a≠b):br (a==b) x y=y:=OG (by simp [h])
theorem brb {α:Type} {a b:Int} {x y:α} (h:a≠b):br (a !=b) x y=x:=v9 (by simp [h])
theorem cZ {α:Type} {a b:Int} {x y:α} (h:a=b):br (a !=b) x y=y:=OG (by simp [h])
theorem Xm {α:Type} {p:Prop} [Decidable p] {x y:α} (h:p):br (!decide p) x y=y:=OG (by simp [h])
theorem Vg {α:Type} {p:Prop} [Decidable p] {x y:α} (h: ¬p):br (!decide p) x y=x:=v9 (by simp [h])
theorem cn (a b:Int) (h:0≤a):a.tmod b=a%b:=Int.tmod_eq_emod_of_nonneg h
theorem mI (a b:Int) (h:0≤a):a.tdiv b=a/b:=Int.tdiv_eq_ediv_of_nonneg h
theorem o2 (x:UInt8):(x.toNat:Int)<256:=by have:=x.toNat_lt;omega
theorem DW {n b:Nat} (h:n*b≤1099511627776):bE n b=true:=by simp [bE,bx,h]
theorem aC {α:Type} {n b:Nat} {x y:α} (h:n*b≤1099511627776):br (bE n b) x y=x:=v9 (DW h)
theorem b2g {l c:Int} {b:Nat} (h0:0≤l) (h1:l≤c) (h2:c*b≤1099511627776):xU l c b=true:=by simp [xU,bx,h0,h1,h2]
theorem Ay {α:Type} {l c:Int} {b:Nat} {x y:α} (h0:0≤l) (h1:l≤c) (h2:c*b≤1099511627776):br (xU l c b) x y=x:=v9 (b2g h0 h1 h2)
theorem E6 {α:Type} {l:List α} {i:Int} (h0:0≤i) {x:α} (h:l[i.toNat]? =some x):atL l i=some x:=by simp [atL,h0,h]
theorem bO {α:Type} {l:List α} {k:Nat} (h:k<l.length):atL l (k:Int)=some l[k]:=by simp [atL,h]
theorem eu {β:Type} {l:List Int} {i:Nat} {f:Int→Option β} (h:i<l.length):(l[i]?).bind f=f (l.getD i 0):=by simp [h]
theorem rF {α:Type} {l:List α} {i:Nat} (h:i<l.length):l[i]? =some l[i]:=List.getElem?_eq_getElem h
theorem lb {α:Type} {l:List α} {i:Nat} (h:i<l.length): ∃x r,l.drop i=x::r∧l.drop (i+1)=r∧l[i]? =some x:=
 ⟨l[i],l.drop (i+1),List.drop_eq_getElem_cons h,rfl,by simp [h]⟩
theorem Zc {α:Type} {l r:List α} {x:α} {i:Int} (h0:0≤i) (h:l.drop i.toNat=x::r):atL l i=some x:=by
 have:l[i.toNat]? =some x:=by rw [←List.head?_drop,h];rfl
 simp [atL,h0,this]
theorem fK {α:Type} {l:List α} {a b:Int} (h0:0≤a) (h1:a≤b) (h2:b≤l.length):jO l a b=some ((l.drop a.toNat).take (b.toNat-a.toNat)):=by
 simp [jO,h0,h1,h2,List.drop_take]
theorem cm {α:Type} {l:List α} {k:Nat} (h:k<l.length):l.take (k+1)=l.take k++[l[k]]:=by rw [List.take_succ_eq_append_getElem h]
theorem iJ (k:Nat):((k+1:Nat):Int)=(k:Int)+1:=by omega
theorem lH (n:Nat):(nZ n).length=n:=by simp [nZ]
def iU {α:Type} (f:Nat→α→α):Nat→α→α
 |0,l=>l
 |k+1,l=>f k (iU f k l)
theorem rQ {f:Nat→List Int→List Int} (hf: ∀k l,(f k l).length=l.length): ∀(k:Nat) (l:List Int),(iU f k l).length=l.length
 |0,l=>rfl
 |k+1,l=>by rw [iU,hf,rQ hf k l]
end Go.AI
set_option linter.unusedVariables false
set_option linter.unusedSimpArgs false
namespace Go.AI.Fn
abbrev xo (a b:Int):Int:=oI .u64 a b
def rot (x s:Int):Int:=if s=0 then x else wR .u64 (aD .u64 x s) (aM .u64 x (64-s))
def Mh (x:Int):Prop:=0≤x∧x<18446744073709551616
theorem Vo (x:Int):Mh (IntKind.wrap .u64 x):=by
 unfold Mh;simp [IntKind.wrap,IntKind.bits,IntKind.signed];omega
theorem b6A (a b:Int):Mh (xo a b):=Vo _
theorem ZU {x:Int} (h:Mh x):((BitVec.ofInt 64 x).toNat:Int)=x:=by
 obtain ⟨h0,h1⟩:=h
 rw [BitVec.toNat_ofInt];omega
theorem Ic {a:Int} (h:Mh a):xo 0 a=a:=by
 show IntKind.wrap .u64 _=a
 have:(BitVec.ofInt 64 0^^^BitVec.ofInt 64 a)=BitVec.ofInt 64 a:=by simp
 show IntKind.wrap .u64 ((BitVec.ofInt 64 0^^^BitVec.ofInt 64 a).toNat:Int)=a
 rw [this,ZU h,cN a h.1 h.2]
theorem b2F {a:Int} (h:Mh a):wR .u64 a 0=a:=by
 have:(BitVec.ofInt 64 a|||BitVec.ofInt 64 0)=BitVec.ofInt 64 a:=by simp
 show IntKind.wrap .u64 ((BitVec.ofInt 64 a|||BitVec.ofInt 64 0).toNat:Int)=a
 rw [this,ZU h,cN a h.1 h.2]
theorem b3t (x y:Int):Ok .u64 x y=bw .u64 (bV .u64 y) x:=by
 show IntKind.wrap .u64 ((BitVec.ofInt 64 x&&& ~~~ BitVec.ofInt 64 y).toNat:Int)=IntKind.wrap .u64 ((BitVec.ofInt 64 (bV .u64 y)&&&BitVec.ofInt 64 x).toNat:Int)
 have h:BitVec.ofInt 64 (bV .u64 y)= ~~~ BitVec.ofInt 64 y:=by
  show BitVec.ofInt 64 (IntKind.wrap .u64 ((BitVec.ofInt 64 18446744073709551615^^^BitVec.ofInt 64 y).toNat:Int))=_
  have e:(BitVec.ofInt 64 18446744073709551615^^^BitVec.ofInt 64 y)= ~~~ BitVec.ofInt 64 y:=by
   rw [show BitVec.ofInt 64 18446744073709551615=BitVec.allOnes 64 by decide,BitVec.allOnes_xor]
  rw [e,cN _ om (by have:=(~~~ BitVec.ofInt 64 y).isLt;omega)]
  rw [BitVec.ofInt_natCast,BitVec.ofNat_toNat];simp
 rw [h,BitVec.and_comm]
theorem a3k {x s:Int} (hs:0≤s∧s<64):tM x s=some (rot x s):=by
 unfold tM rot
 by_cases h:s=0
 ·rw [bre h,if_pos h]
 ·rw [Pu h,if_neg h,brd hs.1,cN (64-s) om om,brd om]
end Go.AI.Fn
set_option linter.unusedVariables false
set_option linter.unusedSimpArgs false
namespace Go.AI.Fn
theorem b9J: ∀k:Nat,k<64→bw .u64 (IntKind.wrap .u64 (k:Int)) 63=(k:Int):=by decide
theorem a3B {x s:Int} (hs:0≤s∧s<64) (hx:s≠0∨Mh x):cU x s=some (rot x s):=by
 have e:bw .u64 (IntKind.wrap .u64 s) 63=s:=by
  have:=b9J s.toNat om
  rwa [Int.toNat_of_nonneg hs.1] at this
 unfold cU rot
 rw [e,brd hs.1,cN (64-s) om om,brd om]
 by_cases h:s=0
 ·subst h
  have hx:Mh x:=hx.resolve_left (fun h=>h rfl)
  have e1:aD .u64 x 0=x:=by
   show IntKind.wrap .u64 (x*2^0)=x
   rw [Int.pow_zero,Int.mul_one,cN x hx.1 hx.2]
  have e2:aM .u64 x (64-0)=0:=by
   show x.fdiv (2^64)=0
   rw [Int.fdiv_eq_ediv_of_nonneg _ (by decide)]
   exact Int.ediv_eq_zero_of_lt hx.1 hx.2
  rw [e1,e2,b2F hx,if_pos rfl]
 ·rw [if_neg h]
abbrev g (l:List Int) (i:Int):Int:=l.getD i.toNat 0
def of:List Int:=[0,1,62,28,27,36,44,6,55,20,3,10,43,25,39,41,45,15,21,8,18,2,61,56,14]
theorem a6V: ∀k:Nat,k<25→0≤of.getD k 0∧of.getD k 0<64:=by decide
def p2 (m:List Int) (k:Nat) (l:List Int):List Int:=l.set ((k:Int)%5).toNat (xo (g l ((k:Int)%5)) (g m k))
def p3 (m c:List Int) (k:Nat) (l:List Int):List Int:=
 l.set ((k:Int)/5+5*((2*((k:Int)%5)+3*((k:Int)/5))%5)).toNat (rot (xo (g m k) (xo (g c (((k:Int)%5+4)%5)) (rot (g c (((k:Int)%5+1)%5)) 1))) (g of k))
def p4 (b:List Int) (k:Nat) (l:List Int):List Int:=
 l.set k (xo (g b k) (Ok .u64 (g b ((k:Int)-(k:Int)%5+((k:Int)%5+2)%5)) (g b ((k:Int)-(k:Int)%5+((k:Int)%5+1)%5))))
def q2 (m:List Int) (k:Nat) (l:List Int):List Int:=l.set k (xo (xo (xo (xo (g m k) (g m ((k:Int)+5))) (g m ((k:Int)+10))) (g m ((k:Int)+15))) (g m ((k:Int)+20)))
def q3 (c:List Int) (k:Nat) (l:List Int):List Int:=l.set k (xo (g l k) (xo (g c (((k:Int)+4)%5)) (rot (g c (((k:Int)+1)%5)) 1)))
def q5 (m:List Int) (x:Int) (y:Nat) (l:List Int):List Int:=l.set ((y:Int)+5*((2*x+3*(y:Int))%5)).toNat (rot (g m (x+5*(y:Int))) (g of (x+5*(y:Int))))
def q4 (m:List Int) (x:Nat) (l:List Int):List Int:=iU (q5 m x) 5 l
def q7 (b:List Int) (x:Int) (y:Nat) (l:List Int):List Int:=l.set (x+5*(y:Int)).toNat (xo (g b (x+5*(y:Int))) (bw .u64 (bV .u64 (g b ((x+1)%5+5*(y:Int)))) (g b ((x+2)%5+5*(y:Int)))))
def q6 (b:List Int) (x:Nat) (l:List Int):List Int:=iU (q7 b x) 5 l
theorem a9A (m:List Int) (k:Nat) (l:List Int):(iU (p2 m) k l).length=l.length:=rQ (fun _ _=>List.length_set) k l
theorem W4 (m c:List Int) (k:Nat) (l:List Int):(iU (p3 m c) k l).length=l.length:=rQ (fun _ _=>List.length_set) k l
theorem Vv (b:List Int) (k:Nat) (l:List Int):(iU (p4 b) k l).length=l.length:=rQ (fun _ _=>List.length_set) k l
theorem a2j (m:List Int) (k:Nat) (l:List Int):(iU (q2 m) k l).length=l.length:=rQ (fun _ _=>List.length_set) k l
theorem PL (c:List Int) (k:Nat) (l:List Int):(iU (q3 c) k l).length=l.length:=rQ (fun _ _=>List.length_set) k l
theorem a6W (m:List Int) (x:Int) (k:Nat) (l:List Int):(iU (q5 m x) k l).length=l.length:=rQ (fun _ _=>List.length_set) k l
theorem a7r (m:List Int) (x:Int) (k:Nat) (l:List Int):(iU (q7 m x) k l).length=l.length:=rQ (fun _ _=>List.length_set) k l
theorem a2Q (m:List Int) (k:Nat) (l:List Int):(iU (q4 m) k l).length=l.length:=rQ (fun x l=>a6W m x 5 l) k l
theorem b0K (m:List Int) (k:Nat) (l:List Int):(iU (q6 m) k l).length=l.length:=rQ (fun x l=>a7r m x 5 l) k l
theorem b3g {m5 m6 m7 m9 t4:List Int} {t3 t5:Int} (h:m5.length=25):Loop (dZ m5 m6 m7 m9 t3 t4 t5) (nZ 5,0)=some (iU (p2 m5) 25 (nZ 5),25,false):=
 aA (fun k=>(iU (p2 m5) k (nZ 5),(k:Int))) 25 (fun k hk=>by
  have hl:=a9A m5 k (nZ 5)
  rw [lH] at hl
  simp only [dZ]
  simp (disch:=omega) only [brd,cn,Bq,eu,aa]
  simp only [iU,p2,Int.toNat_natCast,iJ]
  rfl) (by
  simp (disch:=omega) only [dZ,brn];rfl)
theorem b4V {m5 m6 m7 m8:List Int} {t2:Int} (h:m5.length=25):Loop (fW m5 m6 m7 m8 t2) (nZ 5,0)=some (iU (q2 m5) 5 (nZ 5),5,false):=
 aA (fun k=>(iU (q2 m5) k (nZ 5),(k:Int))) 5 (fun k hk=>by
  have hl:=a2j m5 k (nZ 5)
  rw [lH] at hl
  simp only [fW]
  simp (disch:=omega) only [brd,cn,Bq,eu,aa]
  simp only [iU,q2,Int.toNat_natCast,iJ]
  rfl) (by
  simp (disch:=omega) only [fW,brn];rfl)
theorem a0k (k:Nat) (hk:k<25):0≤of.getD k 0∧of.getD k 0<64:=a6V k hk
theorem JY:of.length=25:=rfl
theorem b2q {m10 m12 c t8:List Int} {t7 t9:Int} (h:m10.length=25) (hc:c.length=5):Loop (dW m10 of m12 c t7 t8 t9) (nZ 25,0)=some (iU (p3 m10 c) 25 (nZ 25),25,false):=
 aA (fun k=>(iU (p3 m10 c) k (nZ 25),(k:Int))) 25 (fun k hk=>by
  have hl:=W4 m10 c k (nZ 25)
  rw [lH] at hl
  have hs:=a0k k hk
  have hs1:=JY
  simp only [dW]
  simp (disch:=omega) only [brd,cn,mI,Bq,eu,aa]
  rw [a3B ⟨by decide,by decide⟩ (.inl (by decide))]
  simp only [obs]
  simp only [Int.toNat_natCast]
  rw [a3B hs (.inr (b6A _ _))]
  simp only [obs]
  rfl) (by
  simp (disch:=omega) only [dW,brn];rfl)
theorem b5b {m16 m17 m18 b t12:List Int} {t11 t13:Int} {m:List Int} (h:m.length=25) (hb:b.length=25):Loop (dX m16 m17 m18 b t11 t12 t13 b) (m,0)=some (iU (p4 b) 25 m,25,false):=
 aA (fun k=>(iU (p4 b) k m,(k:Int))) 25 (fun k hk=>by
  have hl:=Vv b k m
  simp only [dX]
  simp (disch:=omega) only [brd,cn,mI,Bq,eu,aa]
  rfl) (by
  simp (disch:=omega) only [dX,brn];rfl)
theorem b2b {m11 m12 m13 c m:List Int} {t4:Int} (h:m.length=25) (hc:c.length=5):Loop (g8 m11 m12 m13 c t4) (m,0)=some (iU (q3 c) 25 m,25,false):=
 aA (fun k=>(iU (q3 c) k m,(k:Int))) 25 (fun k hk=>by
  have hl:=PL c k m
  simp only [g8]
  simp (disch:=omega) only [brd,cn,mI,Bq,eu,aa]
  rw [a3k ⟨by decide,by decide⟩]
  simp only [obs]
  rfl) (by
  simp (disch:=omega) only [g8,brn];rfl)
theorem b2O {a m22 m23 m25 m:List Int} {t8:Int} {x:Nat} (hx:x<5) (h:m.length=25) (ha:a.length=25):Loop (gb a m22 m23 of m25 t8 x) (m,0)=some (iU (q5 a x) 5 m,5,false):=
 aA (fun k=>(iU (q5 a x) k m,(k:Int))) 5 (fun k hk=>by
  have hl:=a6W a x k m
  have hs:=a0k ((x:Int)+5*(k:Int)).toNat om
  have hs1:=JY
  simp only [gb]
  simp (disch:=omega) only [brd,cn,mI,Bq,eu,aa]
  rw [a3k hs]
  simp only [obs]
  rfl) (by
  simp (disch:=omega) only [gb,brn];rfl)
theorem b4s {a m16 m17 m19 m:List Int} {t6:Int} (h:m.length=25) (ha:a.length=25):Loop (fY a m16 m17 of m19 t6) (m,0)=some (iU (q4 a) 5 m,5,false):=
 aA (fun k=>(iU (q4 a) k m,(k:Int))) 5 (fun k hk=>by
  have hl:=a2Q a k m
  simp only [fY]
  rw [brd om,b2O hk om ha,obs,aa _ om om]
  rfl) (by
  simp (disch:=omega) only [fY,brn];rfl)
theorem b4Y {m34 m35 m36 m37 b m:List Int} {t13:Int} {x:Nat} (hx:x<5) (h:m.length=25) (hb:b.length=25):Loop (ga m34 m35 m36 m37 b t13 x) (m,0)=some (iU (q7 b x) 5 m,5,false):=
 aA (fun k=>(iU (q7 b x) k m,(k:Int))) 5 (fun k hk=>by
  have hl:=a7r b x k m
  simp only [ga]
  simp (disch:=omega) only [brd,cn,mI,Bq,eu,aa]
  rfl) (by
  simp (disch:=omega) only [ga,brn];rfl)
theorem b3D {m28 m29 m30 m31 b m:List Int} {t11:Int} (h:m.length=25) (hb:b.length=25):Loop (gi m28 m29 m30 m31 b t11) (m,0)=some (iU (q6 b) 5 m,5,false):=
 aA (fun k=>(iU (q6 b) k m,(k:Int))) 5 (fun k hk=>by
  have hl:=b0K b k m
  simp only [gi]
  rw [brd om,b4Y hk om hb,obs,aa _ om om]
  rfl) (by
  simp (disch:=omega) only [gi,brn];rfl)
def yP (m:List Int) (rc:Int):List Int:=
 let c:=iU (p2 m) 25 (nZ 5)
 let b:=iU (p3 m c) 25 (nZ 25)
 let r:=iU (p4 b) 25 m
 r.set 0 (xo (r.getD 0 0) rc)
def a1u (m:List Int) (rc:Int):List Int:=
 let c:=iU (q2 m) 5 (nZ 5)
 let a:=iU (q3 c) 25 m
 let b:=iU (q4 a) 5 (nZ 25)
 let r:=iU (q6 b) 5 a
 r.set 0 (xo (r.getD 0 0) rc)
end Go.AI.Fn
set_option linter.unusedVariables false
set_option linter.unusedSimpArgs false
namespace Go.AI.Fn
theorem bN {l:List Int} {n:Nat} (h:l.length=n+1): ∃a r,l=a::r∧r.length=n:=by
 cases l with
 |nil=>simp at h
 |cons a r=>exact ⟨a,r,rfl,by simpa using h⟩
theorem b1X {l:List Int} (h:l.length=0):l=[]:=List.eq_nil_of_length_eq_zero h
theorem Y1 {l:List Int} (h:l.length=25): ∃a0 a1 a2 a3 a4 a5 a6 a7 a8 a9 a10 a11 a12 a13 a14 a15 a16 a17 a18 a19 a20 a21 a22 a23 a24,l=[a0,a1,a2,a3,a4,a5,a6,a7,a8,a9,a10,a11,a12,a13,a14,a15,a16,a17,a18,a19,a20,a21,a22,a23,a24]:=by
 obtain ⟨a0,r0,rfl,h0⟩:=bN h
 obtain ⟨a1,r1,rfl,h1⟩:=bN h0
 obtain ⟨a2,r2,rfl,h2⟩:=bN h1
 obtain ⟨a3,r3,rfl,h3⟩:=bN h2
 obtain ⟨a4,r4,rfl,h4⟩:=bN h3
 obtain ⟨a5,r5,rfl,h5⟩:=bN h4
 obtain ⟨a6,r6,rfl,h6⟩:=bN h5
 obtain ⟨a7,r7,rfl,h7⟩:=bN h6
 obtain ⟨a8,r8,rfl,h8⟩:=bN h7
 obtain ⟨a9,r9,rfl,h9⟩:=bN h8
 obtain ⟨a10,r10,rfl,h10⟩:=bN h9
 obtain ⟨a11,r11,rfl,h11⟩:=bN h10
 obtain ⟨a12,r12,rfl,h12⟩:=bN h11
 obtain ⟨a13,r13,rfl,h13⟩:=bN h12
 obtain ⟨a14,r14,rfl,h14⟩:=bN h13
 obtain ⟨a15,r15,rfl,h15⟩:=bN h14
 obtain ⟨a16,r16,rfl,h16⟩:=bN h15
 obtain ⟨a17,r17,rfl,h17⟩:=bN h16
 obtain ⟨a18,r18,rfl,h18⟩:=bN h17
 obtain ⟨a19,r19,rfl,h19⟩:=bN h18
 obtain ⟨a20,r20,rfl,h20⟩:=bN h19
 obtain ⟨a21,r21,rfl,h21⟩:=bN h20
 obtain ⟨a22,r22,rfl,h22⟩:=bN h21
 obtain ⟨a23,r23,rfl,h23⟩:=bN h22
 obtain ⟨a24,r24,rfl,h24⟩:=bN h23
 obtain rfl:=b1X h24
 exact ⟨_,_,_,_,_,_,_,_,_,_,_,_,_,_,_,_,_,_,_,_,_,_,_,_,_,rfl⟩
def js (m:List Int):Prop:=m.length=25∧ ∀x∈m,Mh x
def cs (m:List Int):List Int:=iU (q2 m) 5 (nZ 5)
theorem b1W {m:List Int} (h:js m):iU (p2 m) 25 (nZ 5)=cs m:=by
 obtain ⟨hl,hb⟩:=h
 obtain ⟨a0,a1,a2,a3,a4,a5,a6,a7,a8,a9,a10,a11,a12,a13,a14,a15,a16,a17,a18,a19,a20,a21,a22,a23,a24,rfl⟩:=Y1 hl
 have e0:=Ic (hb a0 (by simp))
 have e1:=Ic (hb a1 (by simp))
 have e2:=Ic (hb a2 (by simp))
 have e3:=Ic (hb a3 (by simp))
 have e4:=Ic (hb a4 (by simp))
 have k:iU (p2 [a0,a1,a2,a3,a4,a5,a6,a7,a8,a9,a10,a11,a12,a13,a14,a15,a16,a17,a18,a19,a20,a21,a22,a23,a24]) 25 (nZ 5)=[xo (xo (xo (xo (xo 0 a0) a5) a10) a15) a20,xo (xo (xo (xo (xo 0 a1) a6) a11) a16) a21,xo (xo (xo (xo (xo 0 a2) a7) a12) a17) a22,xo (xo (xo (xo (xo 0 a3) a8) a13) a18) a23,xo (xo (xo (xo (xo 0 a4) a9) a14) a19) a24]:=by kernel_rfl
 have k2:cs [a0,a1,a2,a3,a4,a5,a6,a7,a8,a9,a10,a11,a12,a13,a14,a15,a16,a17,a18,a19,a20,a21,a22,a23,a24]=
  [xo (xo (xo (xo a0 a5) a10) a15) a20,xo (xo (xo (xo a1 a6) a11) a16) a21,xo (xo (xo (xo a2 a7) a12) a17) a22,xo (xo (xo (xo a3 a8) a13) a18) a23,xo (xo (xo (xo a4 a9) a14) a19) a24]:=by kernel_rfl
 rw [k,k2,e0,e1,e2,e3,e4]
theorem b3c {c:List Int} (a0 a1 a2 a3 a4 a5 a6 a7 a8 a9 a10 a11 a12 a13 a14 a15 a16 a17 a18 a19 a20 a21 a22 a23 a24:Int):iU (p3 [a0,a1,a2,a3,a4,a5,a6,a7,a8,a9,a10,a11,a12,a13,a14,a15,a16,a17,a18,a19,a20,a21,a22,a23,a24] c) 25 (nZ 25)=[rot (xo a0 (xo (g c 4) (rot (g c 1) 1))) 0,rot (xo a6 (xo (g c 0) (rot (g c 2) 1))) 44,rot (xo a12 (xo (g c 1) (rot (g c 3) 1))) 43,rot (xo a18 (xo (g c 2) (rot (g c 4) 1))) 21,rot (xo a24 (xo (g c 3) (rot (g c 0) 1))) 14,rot (xo a3 (xo (g c 2) (rot (g c 4) 1))) 28,rot (xo a9 (xo (g c 3) (rot (g c 0) 1))) 20,rot (xo a10 (xo (g c 4) (rot (g c 1) 1))) 3,rot (xo a16 (xo (g c 0) (rot (g c 2) 1))) 45,rot (xo a22 (xo (g c 1) (rot (g c 3) 1))) 61,rot (xo a1 (xo (g c 0) (rot (g c 2) 1))) 1,rot (xo a7 (xo (g c 1) (rot (g c 3) 1))) 6,rot (xo a13 (xo (g c 2) (rot (g c 4) 1))) 25,rot (xo a19 (xo (g c 3) (rot (g c 0) 1))) 8,rot (xo a20 (xo (g c 4) (rot (g c 1) 1))) 18,rot (xo a4 (xo (g c 3) (rot (g c 0) 1))) 27,rot (xo a5 (xo (g c 4) (rot (g c 1) 1))) 36,rot (xo a11 (xo (g c 0) (rot (g c 2) 1))) 10,rot (xo a17 (xo (g c 1) (rot (g c 3) 1))) 15,rot (xo a23 (xo (g c 2) (rot (g c 4) 1))) 56,rot (xo a2 (xo (g c 1) (rot (g c 3) 1))) 62,rot (xo a8 (xo (g c 2) (rot (g c 4) 1))) 55,rot (xo a14 (xo (g c 3) (rot (g c 0) 1))) 39,rot (xo a15 (xo (g c 4) (rot (g c 1) 1))) 41,rot (xo a21 (xo (g c 0) (rot (g c 2) 1))) 2]:=by kernel_rfl
theorem b4q {c:List Int} (a0 a1 a2 a3 a4 a5 a6 a7 a8 a9 a10 a11 a12 a13 a14 a15 a16 a17 a18 a19 a20 a21 a22 a23 a24:Int):iU (q3 c) 25 [a0,a1,a2,a3,a4,a5,a6,a7,a8,a9,a10,a11,a12,a13,a14,a15,a16,a17,a18,a19,a20,a21,a22,a23,a24]=[xo a0 (xo (g c 4) (rot (g c 1) 1)),xo a1 (xo (g c 0) (rot (g c 2) 1)),xo a2 (xo (g c 1) (rot (g c 3) 1)),xo a3 (xo (g c 2) (rot (g c 4) 1)),xo a4 (xo (g c 3) (rot (g c 0) 1)),xo a5 (xo (g c 4) (rot (g c 1) 1)),xo a6 (xo (g c 0) (rot (g c 2) 1)),xo a7 (xo (g c 1) (rot (g c 3) 1)),xo a8 (xo (g c 2) (rot (g c 4) 1)),xo a9 (xo (g c 3) (rot (g c 0) 1)),xo a10 (xo (g c 4) (rot (g c 1) 1)),xo a11 (xo (g c 0) (rot (g c 2) 1)),xo a12 (xo (g c 1) (rot (g c 3) 1)),xo a13 (xo (g c 2) (rot (g c 4) 1)),xo a14 (xo (g c 3) (rot (g c 0) 1)),xo a15 (xo (g c 4) (rot (g c 1) 1)),xo a16 (xo (g c 0) (rot (g c 2) 1)),xo a17 (xo (g c 1) (rot (g c 3) 1)),xo a18 (xo (g c 2) (rot (g c 4) 1)),xo a19 (xo (g c 3) (rot (g c 0) 1)),xo a20 (xo (g c 4) (rot (g c 1) 1)),xo a21 (xo (g c 0) (rot (g c 2) 1)),xo a22 (xo (g c 1) (rot (g c 3) 1)),xo a23 (xo (g c 2) (rot (g c 4) 1)),xo a24 (xo (g c 3) (rot (g c 0) 1))]:=by kernel_rfl
theorem b3x (a0 a1 a2 a3 a4 a5 a6 a7 a8 a9 a10 a11 a12 a13 a14 a15 a16 a17 a18 a19 a20 a21 a22 a23 a24:Int):iU (q4 [a0,a1,a2,a3,a4,a5,a6,a7,a8,a9,a10,a11,a12,a13,a14,a15,a16,a17,a18,a19,a20,a21,a22,a23,a24]) 5 (nZ 25)=[rot a0 0,rot a6 44,rot a12 43,rot a18 21,rot a24 14,rot a3 28,rot a9 20,rot a10 3,rot a16 45,rot a22 61,rot a1 1,rot a7 6,rot a13 25,rot a19 8,rot a20 18,rot a4 27,rot a5 36,rot a11 10,rot a17 15,rot a23 56,rot a2 62,rot a8 55,rot a14 39,rot a15 41,rot a21 2]:=by kernel_rfl
theorem b0E {m c:List Int} (hm:m.length=25):iU (p3 m c) 25 (nZ 25)=iU (q4 (iU (q3 c) 25 m)) 5 (nZ 25):=by
 obtain ⟨a0,a1,a2,a3,a4,a5,a6,a7,a8,a9,a10,a11,a12,a13,a14,a15,a16,a17,a18,a19,a20,a21,a22,a23,a24,rfl⟩:=Y1 hm
 rw [b3c,b4q,b3x]
def p4' (b:List Int) (k:Nat) (l:List Int):List Int:=l.set k (xo (g b k) (bw .u64 (bV .u64 (g b ((k:Int)-(k:Int)%5+((k:Int)%5+1)%5))) (g b ((k:Int)-(k:Int)%5+((k:Int)%5+2)%5))))
theorem c0e (b:List Int):p4 b=p4' b:=by funext k l;unfold p4 p4';rw [b3t]
theorem b4M (a0 a1 a2 a3 a4 a5 a6 a7 a8 a9 a10 a11 a12 a13 a14 a15 a16 a17 a18 a19 a20 a21 a22 a23 a24 b0 b1 b2 b3 b4 b5 b6 b7 b8 b9 b10 b11 b12 b13 b14 b15 b16 b17 b18 b19 b20 b21 b22 b23 b24:Int):iU (p4' [a0,a1,a2,a3,a4,a5,a6,a7,a8,a9,a10,a11,a12,a13,a14,a15,a16,a17,a18,a19,a20,a21,a22,a23,a24]) 25 [b0,b1,b2,b3,b4,b5,b6,b7,b8,b9,b10,b11,b12,b13,b14,b15,b16,b17,b18,b19,b20,b21,b22,b23,b24]=[xo a0 (bw .u64 (bV .u64 a1) a2),xo a1 (bw .u64 (bV .u64 a2) a3),xo a2 (bw .u64 (bV .u64 a3) a4),xo a3 (bw .u64 (bV .u64 a4) a0),xo a4 (bw .u64 (bV .u64 a0) a1),xo a5 (bw .u64 (bV .u64 a6) a7),xo a6 (bw .u64 (bV .u64 a7) a8),xo a7 (bw .u64 (bV .u64 a8) a9),xo a8 (bw .u64 (bV .u64 a9) a5),xo a9 (bw .u64 (bV .u64 a5) a6),xo a10 (bw .u64 (bV .u64 a11) a12),xo a11 (bw .u64 (bV .u64 a12) a13),xo a12 (bw .u64 (bV .u64 a13) a14),xo a13 (bw .u64 (bV .u64 a14) a10),xo a14 (bw .u64 (bV .u64 a10) a11),xo a15 (bw .u64 (bV .u64 a16) a17),xo a16 (bw .u64 (bV .u64 a17) a18),xo a17 (bw .u64 (bV .u64 a18) a19),xo a18 (bw .u64 (bV .u64 a19) a15),xo a19 (bw .u64 (bV .u64 a15) a16),xo a20 (bw .u64 (bV .u64 a21) a22),xo a21 (bw .u64 (bV .u64 a22) a23),xo a22 (bw .u64 (bV .u64 a23) a24),xo a23 (bw .u64 (bV .u64 a24) a20),xo a24 (bw .u64 (bV .u64 a20) a21)]:=by kernel_rfl
theorem b4Z (a0 a1 a2 a3 a4 a5 a6 a7 a8 a9 a10 a11 a12 a13 a14 a15 a16 a17 a18 a19 a20 a21 a22 a23 a24 b0 b1 b2 b3 b4 b5 b6 b7 b8 b9 b10 b11 b12 b13 b14 b15 b16 b17 b18 b19 b20 b21 b22 b23 b24:Int):iU (q6 [a0,a1,a2,a3,a4,a5,a6,a7,a8,a9,a10,a11,a12,a13,a14,a15,a16,a17,a18,a19,a20,a21,a22,a23,a24]) 5 [b0,b1,b2,b3,b4,b5,b6,b7,b8,b9,b10,b11,b12,b13,b14,b15,b16,b17,b18,b19,b20,b21,b22,b23,b24]=[xo a0 (bw .u64 (bV .u64 a1) a2),xo a1 (bw .u64 (bV .u64 a2) a3),xo a2 (bw .u64 (bV .u64 a3) a4),xo a3 (bw .u64 (bV .u64 a4) a0),xo a4 (bw .u64 (bV .u64 a0) a1),xo a5 (bw .u64 (bV .u64 a6) a7),xo a6 (bw .u64 (bV .u64 a7) a8),xo a7 (bw .u64 (bV .u64 a8) a9),xo a8 (bw .u64 (bV .u64 a9) a5),xo a9 (bw .u64 (bV .u64 a5) a6),xo a10 (bw .u64 (bV .u64 a11) a12),xo a11 (bw .u64 (bV .u64 a12) a13),xo a12 (bw .u64 (bV .u64 a13) a14),xo a13 (bw .u64 (bV .u64 a14) a10),xo a14 (bw .u64 (bV .u64 a10) a11),xo a15 (bw .u64 (bV .u64 a16) a17),xo a16 (bw .u64 (bV .u64 a17) a18),xo a17 (bw .u64 (bV .u64 a18) a19),xo a18 (bw .u64 (bV .u64 a19) a15),xo a19 (bw .u64 (bV .u64 a15) a16),xo a20 (bw .u64 (bV .u64 a21) a22),xo a21 (bw .u64 (bV .u64 a22) a23),xo a22 (bw .u64 (bV .u64 a23) a24),xo a23 (bw .u64 (bV .u64 a24) a20),xo a24 (bw .u64 (bV .u64 a20) a21)]:=by kernel_rfl
theorem b5d {b m a:List Int} (hb:b.length=25) (hm:m.length=25) (ha:a.length=25):iU (p4 b) 25 m=iU (q6 b) 5 a:=by
 rw [c0e]
 obtain ⟨a0,a1,a2,a3,a4,a5,a6,a7,a8,a9,a10,a11,a12,a13,a14,a15,a16,a17,a18,a19,a20,a21,a22,a23,a24,rfl⟩:=Y1 hb
 obtain ⟨b0,b1,b2,b3,b4,b5,b6,b7,b8,b9,b10,b11,b12,b13,b14,b15,b16,b17,b18,b19,b20,b21,b22,b23,b24,rfl⟩:=Y1 hm
 obtain ⟨c0,c1,c2,c3,c4,c5,c6,c7,c8,c9,c10,c11,c12,c13,c14,c15,c16,c17,c18,c19,c20,c21,c22,c23,c24,rfl⟩:=Y1 ha
 rw [b4M,b4Z]
theorem b0J {m:List Int} {rc:Int} (h:js m):yP m rc=a1u m rc:=by
 unfold yP a1u
 dsimp only
 have h1:=b1W h
 unfold cs at h1
 rw [h1]
 have hc:(iU (q2 m) 5 (nZ 5)).length=5:=by rw [a2j,lH]
 have ha:(iU (q3 (iU (q2 m) 5 (nZ 5))) 25 m).length=25:=by rw [PL];exact h.1
 rw [b0E h.1]
 rw [b5d (a:=iU (q3 (iU (q2 m) 5 (nZ 5))) 25 m) (by rw [a2Q,lH]) h.1 ha]
theorem a8C {m:List Int} {rc:Int} (h:js m):js (yP m rc):=by
 have hl:(yP m rc).length=25:=by
  unfold yP;dsimp only;rw [List.length_set,Vv];exact h.1
 refine ⟨hl, ?_⟩
 unfold yP
 dsimp only
 have hb:(iU (p3 m (iU (p2 m) 25 (nZ 5))) 25 (nZ 25)).length=25:=by rw [W4,lH]
 generalize iU (p3 m (iU (p2 m) 25 (nZ 5))) 25 (nZ 25)=b at hb
 have key: ∀k,k≤25→ ∀i,i<k→ ∀hi:i<(iU (p4 b) k m).length,Mh (iU (p4 b) k m)[i]:=by
  intro k
  induction k with
  |zero=>intro _ i hi;omega
  |succ k ih=>
   intro hk i hi hlen
   simp only [iU,p4]
   rw [List.getElem_set]
   split
   ·exact b6A _ _
   ·exact ih om i om (by simpa [iU,p4] using hlen)
 intro x hx
 rcases List.mem_or_eq_of_mem_set hx with h1|h1
 ·obtain ⟨i,hi,rfl⟩:=List.getElem_of_mem h1
  exact key 25 om i (by rw [Vv] at hi;have:=h.1;omega) hi
 ·rw [h1];exact b6A _ _
end Go.AI.Fn
set_option linter.unusedVariables false
set_option linter.unusedSimpArgs false
set_option maxRecDepth 10000
namespace Go.AI.Fn
def rcL:List Int:=[1,32898,9223372036854808714,9223372039002292224,32907,2147483649,9223372039002292353,9223372036854808585,138,136,2147516425,2147483658,2147516555,9223372036854775947,9223372036854808713,9223372036854808579,9223372036854808578,9223372036854775936,32778,9223372039002259466,9223372039002292353,9223372036854808704,2147483649,9223372039002292232]
theorem b8N:[1,32898,9223372036854808714,9223372039002292224,32907,2147483649,9223372039002292353,9223372036854808585,138,136,2147516425,2147483658,2147516555,9223372036854775947,9223372036854808713,9223372036854808579,9223372036854808578,9223372036854775936,32778,9223372039002259466,9223372039002292353,9223372036854808704,2147483649,9223372039002292232]=rcL:=rfl
theorem a5w:[0,1,62,28,27,36,44,6,55,20,3,10,43,25,39,41,45,15,21,8,18,2,61,56,14]=of:=rfl
theorem Wt:rcL.length=24:=rfl
def rdP (k:Nat) (m:List Int):List Int:=yP m (rcL.getD k 0)
def OO (m:List Int):List Int:=iU rdP 24 m
theorem Wg (k:Nat) (m:List Int):iU rdP (k+1) m=yP (iU rdP k m) (rcL.getD k 0):=by rw [iU,rdP]
theorem a3u {m:List Int} (h:js m): ∀k,js (iU rdP k m)
 |0=>h
 |k+1=>by rw [Wg];exact a8C (a3u h k)
theorem WA {m:List Int} (h:js m):js (OO m):=a3u h 24
theorem WE {m:List Int} (h:js m):jw m=some (OO m):=by
 unfold jw
 have key:Loop (dY of rcL rcL) (m,0)=some (OO m,24,false):=
  aA (fun k=>(iU rdP k m,(k:Int))) 24 (fun k hk=>by
   have h1:=a3u h k
   have hl1:=h1.1
   have hr:=Wt
   simp only [dY]
   simp (disch:=omega) only [brd,Bq,eu,aa]
   rw [b3g h1.1,obs,b2q h1.1 (by rw [a9A,lH]),obs,brd (by rw [W4,lH]),b5b h1.1 (by rw [W4,lH]),obs]
   have hl:=Vv (iU (p3 (iU rdP k m) (iU (p2 (iU rdP k m)) 25 (nZ 5))) 25 (nZ 25)) 25 (iU rdP k m)
   simp (disch:=omega) only [eu,brd]
   rw [Wg]
   unfold yP
   simp only [iJ,Int.toNat_natCast]) (by simp (disch:=omega) only [dY,brn];rfl)
 rw [b8N,a5w,key,obs]
theorem Wy {m:List Int} (h:js m):o1 m=some (OO m):=by
 unfold o1
 have key:Loop (gc (nZ 25) rcL of) (m,0)=some (OO m,24,false):=
  aA (fun k=>(iU rdP k m,(k:Int))) 24 (fun k hk=>by
   have h1:=a3u h k
   have hl1:=h1.1
   have hr:=Wt
   simp only [gc]
   rw [brd om,b4V h1.1,obs,b2b h1.1 (by rw [a2j,lH]),obs,b4s (lH 25) (by rw [PL];exact h1.1),obs,
    b3D (by rw [PL];exact h1.1) (by rw [a2Q,lH]),obs]
   have hl:=b0K (iU (q4 (iU (q3 (iU (q2 (iU rdP k m)) 5 (nZ 5))) 25 (iU rdP k m))) 5 (nZ 25)) 5 (iU (q3 (iU (q2 (iU rdP k m)) 5 (nZ 5))) 25 (iU rdP k m))
   rw [PL] at hl
   simp (disch:=omega) only [eu,brd,Bq,aa]
   rw [Wg,b0J h1]
   unfold a1u
   simp only [iJ,Int.toNat_natCast]) (by simp (disch:=omega) only [gc,brn];rfl)
 have hp:=(WA h).1
 rw [brd h.1]
 show (some rcL).bind _=_
 rw [obs,brd Wt]
 show (some of).bind _=_
 rw [obs,brd JY,key,obs,brd hp,brd hp,brd hp]
theorem Xc {l:List UInt8} {k:Nat} (h:k<l.length):atL l (k:Int)=some (l.getD k 0):=by simp [atL,h]
def lnS (t:List UInt8) (k:Nat) (l:List Int):List Int:=l.set ((k:Int)/8).toNat (wR .u64 (g l ((k:Int)/8)) (aD .u64 (IntKind.wrap .u64 ((t.getD k 0).toNat:Int)) (8*((k:Int)%8))))
def wI (t:List UInt8):List Int:=iU (lnS t) t.length (nZ 25)
theorem Vz (t:List UInt8) (k:Nat) (l:List Int):(iU (lnS t) k l).length=l.length:=rQ (fun _ _=>List.length_set) k l
theorem Da (t:List UInt8):js (wI t):=by
 refine ⟨by rw [wI,Vz,lH], ?_⟩
 have key: ∀k, ∀x∈iU (lnS t) k (nZ 25),Mh x:=by
  intro k
  induction k with
  |zero=>intro x hx;simp only [iU,nZ,List.mem_replicate] at hx;rw [hx.2];exact ⟨by decide,by decide⟩
  |succ k ih=>
   intro x hx
   rcases List.mem_or_eq_of_mem_set hx with h1|h1
   ·exact ih x h1
   ·rw [h1];exact Vo _
 exact key _
theorem Wp {t:List UInt8} (h:t.length≤200):yv t=some (wI t):=by
 unfold yv
 have key:Loop (jI (nZ 25) t ((t.length:Nat):Int)) (nZ 25,0)=some (wI t,(t.length:Int),false):=
  aA (fun k=>(iU (lnS t) k (nZ 25),(k:Int))) t.length (fun k hk=>by
   have hl:=Vz t k (nZ 25)
   rw [lH] at hl
   simp only [jI]
   simp (disch:=omega) only [brd,cn,mI,Bq,eu,aa,Xc,obs]
   rfl) (by simp (disch:=omega) only [jI,brn];simp;rfl)
 have hl:=(Da t).1
 rw [key,obs,brd hl,brd hl,brd hl]
theorem a2n {t:List UInt8} (h:t.length≤200):uJ t=some (wI t):=by
 unfold uJ
 have key:Loop (iZ (nZ 25) t) (nZ 25,0)=some (wI t,(t.length:Int),false):=
  aA (fun k=>(iU (lnS t) k (nZ 25),(k:Int))) t.length (fun k hk=>by
   have hl:=Vz t k (nZ 25)
   rw [lH] at hl
   simp only [iZ]
   simp (disch:=omega) only [brd,cn,mI,Bq,eu,aa,cN,Xc,obs]
   rfl) (by simp (disch:=omega) only [iZ,brn];simp;rfl)
 have hl:=(Da t).1
 rw [key,obs,brd hl,brd hl,brd hl]
def txB (m:List Int) (i:Nat):UInt8:=UInt8.ofInt (aM .u64 (g m ((i:Int)/8)) (8*((i:Int)%8)))
def uD (m:List Int) (n:Nat):List UInt8:=(List.range n).map (txB m)
theorem DX (m:List Int) (n:Nat):(uD m n).length=n:=by simp [uD]
theorem Pz (m:List Int) (n:Nat):uD m (n+1)=uD m n++[txB m n]:=by simp [uD,List.range_succ]
theorem a4W {m:List Int} (h:m.length=25):oa m=some (uD m 200,m):=by
 unfold oa
 have key:Loop (ge m) ([],0)=some (uD m 200,200,false):=
  aA (fun k=>(uD m k,(k:Int))) 200 (fun k hk=>by
   have hl:=DX m k
   simp only [ge]
   simp (disch:=omega) only [brd,cn,mI,Bq,eu,aa]
   rw [aC (by simp only [List.length_append,List.length_cons,List.length_nil];omega),Pz]
   rfl) (by simp (disch:=omega) only [ge,brn];rfl)
 rw [key];rfl
theorem a4O {m:List Int} (h:m.length=25) {n:Nat} (hn:n≤200):xQ m n=some (uD m n):=by
 unfold xQ
 have key:Loop (jK m n) ([],0)=some (uD m n,(n:Int),false):=
  aA (fun k=>(uD m k,(k:Int))) n (fun k hk=>by
   have hl:=DX m k
   simp only [jK]
   simp (disch:=omega) only [brd,cn,mI,Bq,eu,aa,cN]
   rw [aC (by simp only [List.length_append,List.length_cons,List.length_nil];omega),Pz]
   rfl) (by simp (disch:=omega) only [jK,brn];simp)
 rw [brd h,key];rfl
end Go.AI.Fn
set_option linter.unusedVariables false
set_option linter.unusedSimpArgs false
namespace Go.AI.Fn
def xoS (t:List Int) (k:Nat) (l:List Int):List Int:=l.set k (xo (g l k) (g t k))
def a5g (t m:List Int):List Int:=iU (xoS t) 25 m
theorem UL (t:List Int) (k:Nat) (l:List Int):(iU (xoS t) k l).length=l.length:=rQ (fun _ _=>List.length_set) k l
theorem a29 {t m:List Int} (h:js m):js (a5g t m):=by
 refine ⟨by rw [a5g,UL];exact h.1, ?_⟩
 have key: ∀k, ∀x∈iU (xoS t) k m,Mh x:=by
  intro k
  induction k with
  |zero=>exact h.2
  |succ k ih=>
   intro x hx
   rcases List.mem_or_eq_of_mem_set hx with h1|h1
   ·exact ih x h1
   ·rw [h1];exact Vo _
 exact key _
theorem a7J {l5 a:List UInt8} {t m:List Int} (ht:t.length=25) (h:m.length=25):Loop (kP l5 a t) (m,0)=some (a5g t m,25,false):=
 aA (fun k=>(iU (xoS t) k m,(k:Int))) 25 (fun k hk=>by
  have hl:=UL t k m
  simp only [kP]
  simp (disch:=omega) only [brd,Bq,eu,aa]
  rfl) (by simp (disch:=omega) only [kP,brn];rfl)
theorem a9f {l5 a:List UInt8} {p:Int} {t m:List Int} (ht:t.length=25) (h:m.length=25):Loop (jF l5 t a p) (m,0)=some (a5g t m,25,false):=
 aA (fun k=>(iU (xoS t) k m,(k:Int))) 25 (fun k hk=>by
  have hl:=UL t k m
  simp only [jF]
  simp (disch:=omega) only [brd,Bq,eu,aa]
  rfl) (by simp (disch:=omega) only [jF,brn];rfl)
def b9a (a:List UInt8) (k:Nat) (m:List Int):List Int:=OO (a5g (wI ((a.drop (136*k)).take 136)) m)
def Uw (a:List UInt8) (n:Nat):List Int:=iU (b9a a) n (nZ 25)
theorem c0i:js (nZ 25):=⟨lH 25,fun x hx=>by simp only [nZ,List.mem_replicate] at hx;rw [hx.2];exact ⟨by decide,by decide⟩⟩
theorem Q4 (a:List UInt8) (n:Nat):Uw a (n+1)=OO (a5g (wI ((a.drop (136*n)).take 136)) (Uw a n)):=by
 unfold Uw;rw [iU,b9a]
theorem OY (a:List UInt8): ∀n,js (Uw a n)
 |0=>c0i
 |n+1=>by rw [Q4];exact WA (a29 (OY a n))
theorem b0e {l4 a:List UInt8} {n:Nat} (h:a.length=136*n) (hn:n≤1000000000):Loop (lk l4) (nZ 25,a)=some (Uw a n,[],false):=
 aA (fun k=>(Uw a k,a.drop (136*k))) n (fun k hk=>by
  have h1:=OY a k
  have hx:=a29 (t:=wI ((a.drop (136*k)).take 136)) h1
  simp only [lk]
  rw [brd (by rw [List.length_drop];omega),fK om om (by rw [List.length_drop];omega),obs,fK om (by rw [List.length_drop];omega) om]
  have e1:(List.drop (Int.toNat 0) (List.drop (136*k) a)).take (Int.toNat 136-Int.toNat 0)=(a.drop (136*k)).take 136:=rfl
  have e2:(List.drop (Int.toNat 136) (List.drop (136*k) a)).take ((((List.drop (136*k) a).length:Nat):Int).toNat-Int.toNat 136)=a.drop (136*(k+1)):=by
   rw [List.drop_drop,List.take_of_length_le (by rw [List.length_drop,List.length_drop];simp;omega)]
   congr 1
  rw [e1,e2,Wp (by rw [List.length_take];omega),obs,a7J (Da _).1 h1.1,obs,WE hx,obs,obs,Q4]) (by
  simp only [lk]
  rw [brn (by rw [List.length_drop];omega),List.drop_eq_nil_of_le om]
  rfl)
theorem a91 {l3 a:List UInt8} {n:Nat} (h:a.length=136*n) (hn:n≤1000000000): ∃p,Loop (jN l3 a) (nZ 25,0)=some (Uw a n,p):=
 ⟨_,aA (fun k=>(Uw a k,((136*k:Nat):Int))) n (fun k hk=>by
   have h1:=OY a k
   have hx:=a29 (t:=wI ((a.drop (136*k)).take 136)) h1
   simp only [jN]
   rw [brd om,aa _ om om,fK om om om,obs]
   have e1:(List.drop (((136*k:Nat):Int)).toNat a).take (((((136*k:Nat):Int))+136).toNat-(((136*k:Nat):Int)).toNat)=(a.drop (136*k)).take 136:=by
    congr 1
    omega
   rw [e1,a2n (by rw [List.length_take];omega),obs,brd (Da _).1,a9f (Da _).1 h1.1,obs,brd hx.1,Wy hx,obs,Bq (WA hx).1 hx.1,Q4]
   have e2:(((136*k:Nat):Int))+136=((136*(k+1):Nat):Int):=by omega
   rw [e2]) (by
   simp only [jN]
   rw [brn om])⟩
def Jq (l:List UInt8):List UInt8:=l++List.replicate ((136-l.length%136)%136) 0
theorem Ou (l:List UInt8):(Jq l).length=136*((l.length+135)/136):=by
 rw [Jq,List.length_append,List.length_replicate];omega
theorem YK {α:Type} (n:Nat) (x:α):List.replicate (n+1) x=List.replicate n x++[x]:=by
 rw [List.replicate_succ']
theorem a6X {c l:List UInt8} (h:l.length≤1000000000):Loop (jj c) l=some (Jq l,false):=by
 have key:=aA (step:=jj c) (e:=(Jq l,false)) (fun k=>l++List.replicate k 0) ((136-l.length%136)%136) (fun k hk=>by
  simp only [jj]
  rw [cn _ _ om,brb (by rw [List.length_append,List.length_replicate];omega),aC (by simp only [List.length_append,List.length_replicate,List.length_cons,List.length_nil];omega),YK,List.append_assoc]) (by
  simp only [jj]
  have e:((((l++List.replicate ((136-l.length%136)%136) (0:UInt8)).length:Nat):Int).tmod 136)=0:=by
   rw [cn _ _ om,List.length_append,List.length_replicate];omega
  rw [e,cZ rfl];rfl)
 rwa [List.replicate_zero,List.append_nil] at key
theorem a8u {c l:List UInt8} (h:l.length≤1000000000):Loop (ik c) l=some (Jq l,false):=by
 have key:=aA (step:=ik c) (e:=(Jq l,false)) (fun k=>l++List.replicate k 0) ((136-l.length%136)%136) (fun k hk=>by
  simp only [ik]
  rw [cn _ _ om,brb (by rw [List.length_append,List.length_replicate];omega),aC (by simp only [List.length_append,List.length_replicate,List.length_cons,List.length_nil];omega),YK,List.append_assoc]) (by
  simp only [ik]
  have e:((((l++List.replicate ((136-l.length%136)%136) (0:UInt8)).length:Nat):Int).tmod 136)=0:=by
   rw [cn _ _ om,List.length_append,List.length_replicate];omega
  rw [e,cZ rfl];rfl)
 rwa [List.replicate_zero,List.append_nil] at key
def OP (b:List UInt8):List UInt8:=(Jq (b++[1])).set ((Jq (b++[1])).length-1) (UInt8.ofInt (wR .u8 (((Jq (b++[1])).getD ((Jq (b++[1])).length-1) 0).toNat:Int) 128))
def H (b:List UInt8):List UInt8:=uD (Uw (OP b) ((b.length+136)/136)) 32
theorem AO (b:List UInt8):(H b).length=32:=DX _ _
theorem a0d (b:List UInt8):(OP b).length=136*((b.length+136)/136):=by
 rw [OP,List.length_set,Ou,List.length_append,List.length_singleton]
theorem a9L {β:Type} {l:List UInt8} {i:Nat} {f:UInt8→Option β} (h:i<l.length):(l[i]?).bind f=f (l.getD i 0):=by simp [h]
theorem a2d (m:List Int):(uD m 200).take 32=uD m 32:=by
 rw [uD, ←List.map_take,List.take_range];rfl
theorem oN {b:List UInt8} (h:b.length≤100000000):j0 b=some (H b):=by
 unfold j0
 have hl:=Ou (b++[1])
 rw [List.length_append,List.length_singleton] at hl
 have hpl:=a0d b
 rw [aC om,aC (by rw [List.length_append,List.length_singleton];omega),a8u (by rw [List.length_append,List.length_singleton];omega),obs]
 dsimp only
 rw [aa _ om om]
 have ei:(((Jq (b++[1])).length:Int)-1).toNat=(Jq (b++[1])).length-1:=by omega
 rw [ei]
 simp (disch:=omega) only [brd,a9L]
 obtain ⟨p,hp⟩:=a91 (l3:=[1]) hpl om
 unfold OP at hp
 rw [hp,obs]
 dsimp only
 have ok:=OY (OP b) ((b.length+136)/136)
 unfold OP at ok
 rw [brd ok.1]
 have ht:=a4O (n:=32) ok.1 om
 rw [show ((32:Nat):Int)=32 from rfl] at ht
 rw [ht,obs,H,OP]
theorem a08 {l:List (List UInt8)} (h:l.flatten.length≤1000000000) (hn:l.length≤1000000):Loop (lf l ((l.length:Nat):Int)) ([],0)=some (l.flatten,(l.length:Int),false):=
 aA (fun k=>((l.take k).flatten,(k:Int))) l.length (fun k hk=>by
  simp only [lf]
  have h1:((l.take k).flatten++l[k]).length≤l.flatten.length:=by
   have e:l.flatten=(l.take (k+1)).flatten++(l.drop (k+1)).flatten:=by rw [←List.flatten_append,List.take_append_drop]
   rw [cm hk,List.flatten_append,List.flatten_singleton] at e
   have e2:=congrArg List.length e
   simp only [List.length_append] at e2 ⊢
   omega
  rw [brd om,bO hk,obs,aC om,aa _ om om,cm hk,List.flatten_append,List.flatten_singleton]
  rfl) (by
  simp only [lf]
  rw [brn om,List.take_length];simp)
theorem qU {l:List (List UInt8)} (h:l.flatten.length≤100000000) (hn:l.length≤1000000):ou l=some (H l.flatten):=by
 unfold ou
 rw [a08 om hn,obs]
 dsimp only
 generalize l.flatten=b at h
 have hl:=Ou (b++[1])
 rw [List.length_append,List.length_singleton] at hl
 have hpl:=a0d b
 rw [aC (by rw [List.length_append,List.length_singleton];omega),a6X (by rw [List.length_append,List.length_singleton];omega),obs]
 dsimp only
 rw [aa _ om om]
 have ei:(((Jq (b++[1])).length:Int)-1).toNat=(Jq (b++[1])).length-1:=by omega
 rw [ei]
 simp (disch:=omega) only [brd,a9L]
 have hp:=b0e (l4:=[1]) hpl om
 unfold OP at hp
 rw [hp,obs]
 dsimp only
 have ok:=OY (OP b) ((b.length+136)/136)
 unfold OP at ok
 rw [a4W ok.1,obs,fK om om (by rw [DX];omega),obs,H,OP, ←a2d]
 rfl
theorem Lb {t:List UInt8} (h:t.length≤100000000):yr t=some (H t):=by
 unfold yr
 rw [aC om,qU (by simpa using h) (by simp)]
 simp
end Go.AI.Fn
set_option linter.unusedVariables false
set_option linter.unusedSimpArgs false
namespace Go.AI.Fn
def okF (a:Int):Prop:=0≤a∧a≤2130706432
def okE (x:Ext):Prop:=okF x.A∧okF x.B
def Hl (a:Int):Bool:=decide (0≤a)&&decide (a≤2130706432)
def iE (x:Ext):Bool:=Hl x.A&&Hl x.B
theorem Qk {a:Int}:Hl a=true↔okF a:=by simp [Hl,okF]
theorem CE {x:Ext}:iE x=true↔okE x:=by simp [iE,okE,Qk]
def aF (a b:Int):Int:=(a+b)%2130706433
def sF (a b:Int):Int:=(a-b)%2130706433
def mF (a b:Int):Int:=(a*b)%2130706433
def eA (x y:Ext):Ext:=⟨(x.A+y.A)%2130706433,(x.B+y.B)%2130706433⟩
def eS (x y:Ext):Ext:=⟨(x.A-y.A)%2130706433,(x.B-y.B)%2130706433⟩
def eM (x y:Ext):Ext:=⟨(x.A*y.A+3*(x.B*y.B))%2130706433,(x.A*y.B+x.B*y.A)%2130706433⟩
def eC (x:Ext) (n:Int):Ext:=⟨(x.A*n)%2130706433,(x.B*n)%2130706433⟩
def e0:Ext:=⟨0,0⟩
def e1:Ext:=⟨1,0⟩
def eN (n:Int):Ext:=⟨n,0⟩
theorem b49:okF 3:=⟨by decide,by decide⟩
theorem b1Z:okF 1:=⟨by decide,by decide⟩
theorem b7t:okF 0:=⟨by decide,by decide⟩
theorem ji (a:Int):okF (a%2130706433):=⟨by omega,by omega⟩
theorem b5u (a b:Int):okF (sF a b):=ji _
theorem lY (a b:Int):okF (mF a b):=ji _
theorem Ty (x y:Ext):okE (eA x y):=⟨ji _,ji _⟩
theorem um (x y:Ext):okE (eS x y):=⟨ji _,ji _⟩
theorem nC (x y:Ext):okE (eM x y):=⟨ji _,ji _⟩
theorem a95 (x:Ext) (n:Int):okE (eC x n):=⟨ji _,ji _⟩
theorem a3w:okE e0:=⟨⟨by decide,by decide⟩,⟨by decide,by decide⟩⟩
theorem a09:okE e1:=⟨⟨by decide,by decide⟩,⟨by decide,by decide⟩⟩
theorem a3p {n:Int} (h:okF n):okE (eN n):=⟨h,b7t⟩
theorem b7R {a b:Int} (ha:okF a) (hb:okF b):0≤a*b∧a*b≤4539909900063178624:=
 ⟨Int.mul_nonneg ha.1 hb.1,Int.le_trans (Int.mul_le_mul ha.2 hb.2 hb.1 (by decide)) (by decide)⟩
theorem D7 {a:Int} (h:okF a):a%2130706433=a:=by obtain ⟨h1,h2⟩:=h;omega
theorem K9 {x y:Ext} (h1:x.A=y.A) (h2:x.B=y.B):x=y:=by cases x;cases y;cases h1;cases h2;rfl
theorem mA1 (a b:Int):(a%2130706433+b)%2130706433=(a+b)%2130706433:=Int.emod_add_emod _ _ _
theorem mA2 (a b:Int):(a+b%2130706433)%2130706433=(a+b)%2130706433:=Int.add_emod_emod _ _ _
theorem mM1 (a b:Int):(a%2130706433*b)%2130706433=(a*b)%2130706433:=by rw [Int.mul_emod,Int.emod_emod, ←Int.mul_emod]
theorem mM2 (a b:Int):(a*(b%2130706433))%2130706433=(a*b)%2130706433:=by rw [Int.mul_emod,Int.emod_emod, ←Int.mul_emod]
theorem mX1 (a b c:Int):(a%2130706433*b+c)%2130706433=(a*b+c)%2130706433:=by rw [←mA1,mM1,mA1]
theorem mX4 (a b c:Int):(c+a*(b%2130706433))%2130706433=(c+a*b)%2130706433:=by rw [←mA2,mM2,mA2]
theorem b5m {a b:Int} (ha:okF a) (hb:okF b):(IntKind.wrap .i64 (a+b)).tmod 2130706433=aF a b:=by
 obtain ⟨h1,h2⟩:=ha;obtain ⟨h3,h4⟩:=hb
 unfold aF;rw [aa _ om om,cn _ _ om]
theorem IM {a b:Int} (ha:okF a) (hb:okF b):La a b=some (aF a b):=by unfold La;rw [b5m ha hb]
theorem OD {a b:Int} (ha:okF a) (hb:okF b):Pp a b=some (sF a b):=by
 obtain ⟨h1,h2⟩:=ha;obtain ⟨h3,h4⟩:=hb
 unfold Pp sF;rw [aa (a-b) om om,aa _ om om,cn _ _ om]
 congr 1;omega
theorem a6U {a b:Int} (ha:okF a) (hb:okF b):(IntKind.wrap .i64 (a*b)).tmod 2130706433=mF a b:=by
 have h:=b7R ha hb
 unfold mF;rw [aa _ om om,cn _ _ om]
theorem lV {a b:Int} (ha:okF a) (hb:okF b):tY a b=some (mF a b):=by unfold tY;rw [a6U ha hb]
theorem j7 {x y:Ext} (hx:okE x) (hy:okE y):dx x y=some (eA x y):=by
 unfold dx;rw [IM hx.1 hy.1,IM hx.2 hy.2];rfl
theorem nk {x y:Ext} (hx:okE x) (hy:okE y):eQ x y=some (eS x y):=by
 unfold eQ;rw [OD hx.1 hy.1,OD hx.2 hy.2];rfl
theorem a3G (x y:Ext):eM x y=⟨aF (mF x.A y.A) (mF 3 (mF x.B y.B)),aF (mF x.A y.B) (mF x.B y.A)⟩:=by
 unfold eM aF mF
 congr 1
 ·rw [mA1,mA2,mX4]
 ·rw [mA1,mA2]
theorem dw {x y:Ext} (hx:okE x) (hy:okE y):bC x y=some (eM x y):=by
 unfold bC
 rw [lV hx.1 hy.1,lV hx.2 hy.2]
 simp only [obs]
 rw [lV b49 (lY _ _)]
 simp only [obs]
 rw [IM (lY _ _) (lY _ _),lV hx.1 hy.2,lV hx.2 hy.1]
 simp only [obs]
 rw [IM (lY _ _) (lY _ _),a3G];rfl
theorem w5 {x:Ext} {n:Int} (hx:okE x) (hn:okF n):eF x n=some (eC x n):=by
 unfold eF;rw [lV hx.1 hn,lV hx.2 hn];rfl
theorem Jj:LF=some e1:=rfl
theorem Dy (n a b:Int):ws n a b=some (decide (a≤n)&&decide (n≤b)):=by
 unfold ws;cases decide (a≤n)<;>rfl
theorem yT (a:Int):oT a=some (Hl a):=by
 unfold oT;rw [Dy];rfl
theorem pp (x:Ext):qz x=some (iE x):=by
 unfold qz iE;rw [yT,yT];cases Hl x.A<;>rfl
theorem IW {a b:Int} (ha:okF a) (hb:okF b):rK a b=some (aF a b):=by unfold rK;rw [b5m ha hb]
theorem Og {a b:Int} (ha:okF a) (hb:okF b):u5 a b=some (sF a b):=by
 obtain ⟨h1,h2⟩:=ha;obtain ⟨h3,h4⟩:=hb
 unfold u5 sF;rw [aa (a+2130706433) om om,aa _ om om,cn _ _ om]
 congr 1;omega
theorem qR {a b:Int} (ha:okF a) (hb:okF b):j2 a b=some (mF a b):=by unfold j2;rw [a6U ha hb]
theorem iI {x y:Ext} (hx:okE x) (hy:okE y):fG x y=some (eA x y):=by
 unfold fG;rw [IW hx.1 hy.1,IW hx.2 hy.2];rfl
theorem E8 {x y:Ext} (hx:okE x) (hy:okE y):rz x y=some (eS x y):=by
 unfold rz;rw [Og hx.1 hy.1,Og hx.2 hy.2];rfl
theorem dl {x y:Ext} (hx:okE x) (hy:okE y):bW x y=some (eM x y):=by
 unfold bW
 have h3:(IntKind.wrap .i64 (3*mF x.B y.B)).tmod 2130706433=mF 3 (mF x.B y.B):=a6U b49 (lY x.B y.B)
 rw [qR hx.1 hy.1,qR hx.2 hy.2]
 simp only [obs]
 rw [h3,IW (lY _ _) (lY _ _),qR hx.1 hy.2,qR hx.2 hy.1]
 simp only [obs]
 rw [IW (lY _ _) (lY _ _),a3G];rfl
theorem Ib (n:Int):oz n=some (eN n):=rfl
theorem Nb:xj=some e1:=rfl
theorem E7 {x:Ext} (hx:okE x):kO x=some (eS e1 x):=by
 unfold kO;rw [Nb,obs,E8 a09 hx];rfl
theorem HS (n a b:Int):ff n a b=some (decide (a≤n)&&decide (n≤b)):=by
 unfold ff;cases decide (a≤n)<;>rfl
theorem zK (a:Int):nT a=some (Hl a):=by
 unfold nT;rw [HS];rfl
theorem NG (x:Ext):zF x=some (iE x):=by
 unfold zF iE;rw [zK,zK];cases Hl x.A<;>rfl
theorem sub_self (x:Ext):eS x x=e0:=by
 apply K9<;>simp [eS,e0]
theorem a3f (x:Ext) (n:Int):eC x n=eM x (eN n):=by
 apply K9<;>(simp only [eC,eM,eN];congr 1;grind)
end Go.AI.Fn
set_option linter.unusedVariables false
namespace Go.AI.Fn
structure Src (B:Int) (m:u6):Prop where
 at0:0≤m.at_
 at1:m.at_≤B
 sd0:0≤m.seed
 sd1:m.seed<2147483648
 len:m.code.length≤1048600
theorem Src.mono {B C:Int} {m:u6} (h:Src B m) (hc:B≤C):Src C m:=⟨h.at0,by have:=h.at1;omega,h.sd0,h.sd1,h.len⟩
end Go.AI.Fn
set_option linter.unusedVariables false
namespace Go.AI.Fn
end Go.AI.Fn
set_option linter.unusedVariables false
namespace Go.AI.Fn
def eJ (n:Int):List UInt8:=[UInt8.ofInt (aM .i64 n 24),UInt8.ofInt (aM .i64 n 16),UInt8.ofInt (aM .i64 n 8),UInt8.ofInt n]
def e8 (x:Ext):List UInt8:=eJ x.A++eJ x.B
theorem cg (n:Int):(eJ n).length=4:=rfl
theorem b6o (x:Ext):(e8 x).length=8:=rfl
theorem nu {n:Int} {l:List UInt8} (h:l.length≤1099511627770):iQ n l=some (l++eJ n):=by
 unfold iQ
 rw [v9 (DW (by simp only [List.length_append,List.length_cons,List.length_nil];omega))];rfl
theorem c0J (n:Int):aM .i64 n 0=n:=by simp [aM]
theorem vi (n:Int):dy n 4=some (eJ n):=by
 unfold dy
 rw [show IntKind.wrap .i64 (4-1)=3 by decide,
  bn (s':=([UInt8.ofInt (aM .i64 n 24)],2)) (by kernel_rfl),
  bn (s':=([UInt8.ofInt (aM .i64 n 24),UInt8.ofInt (aM .i64 n 16)],1)) (by kernel_rfl),
  bn (s':=([UInt8.ofInt (aM .i64 n 24),UInt8.ofInt (aM .i64 n 16),UInt8.ofInt (aM .i64 n 8)],0)) (by kernel_rfl),
  bn (s':=([UInt8.ofInt (aM .i64 n 24),UInt8.ofInt (aM .i64 n 16),UInt8.ofInt (aM .i64 n 8),UInt8.ofInt (aM .i64 n 0)], -1)) (by kernel_rfl),
  bA (e:=([UInt8.ofInt (aM .i64 n 24),UInt8.ofInt (aM .i64 n 16),UInt8.ofInt (aM .i64 n 8),UInt8.ofInt (aM .i64 n 0)], -1,false)) (by kernel_rfl),c0J]
 rfl
theorem FA {l:List Ext} (hl:l.length≤4194304):oZ l=some (l.flatMap e8):=by
 unfold oZ
 have key:=mf (step:=iR l ((l.length:Nat):Int))
  (fun s=>0≤s.2∧s.2≤l.length∧(s.1.length:Int)=8*s.2∧s.1++(l.drop s.2.toNat).flatMap e8=l.flatMap e8) (fun s=>(l.length-s.2).toNat)
  (fun e=>e.1=l.flatMap e8) ?_ ([],0) ⟨by first|omega| (dsimp only;omega),by first|omega| (dsimp only;omega),by simp,rfl⟩
 ·obtain ⟨e,he,h⟩:=key
  rw [he];simp only [obs,h]
 ·rintro ⟨o,t⟩ ⟨h0,h1,h3,h2⟩
  dsimp only at h0 h1 h2 h3
  by_cases c:t<(l.length:Int)
  ·left
   obtain ⟨x,r,e1,e2,e3⟩:=lb (l:=l) (i:=t.toNat) om
   simp only [iR]
   rw [brd c,Zc h0 e1]
   simp only [obs]
   rw [nu om]
   simp only [obs]
   rw [nu (by simp only [List.length_append,cg];omega),aa (t+1) om om]
   refine ⟨_,rfl,⟨by first|omega| (dsimp only;omega),by first|omega| (dsimp only;omega), ?_, ?_⟩,by first|omega| (dsimp only;omega)⟩
   ·simp only [List.length_append,cg];omega
   ·dsimp only
    rw [show (t+1).toNat=t.toNat+1 by omega,e2]
    rw [e1,List.flatMap_cons] at h2
    simpa [e8] using h2
  ·right
   simp only [iR]
   rw [brn c]
   refine ⟨_,rfl, ?_⟩
   rw [List.drop_eq_nil_of_le om] at h2
   simpa using h2
theorem PS {l:List Ext} (hl:l.length≤4194304):pu l=some (l.flatMap e8):=by
 unfold pu
 have key:=mf (step:=j4 l)
  (fun s=>0≤s.2∧s.2≤l.length∧(s.1.length:Int)=8*s.2∧s.1++(l.drop s.2.toNat).flatMap e8=l.flatMap e8) (fun s=>(l.length-s.2).toNat)
  (fun e=>e.1=l.flatMap e8) ?_ ([],0) ⟨by first|omega| (dsimp only;omega),by first|omega| (dsimp only;omega),by simp,rfl⟩
 ·obtain ⟨e,he,h⟩:=key
  rw [he];simp only [obs,h]
 ·rintro ⟨o,t⟩ ⟨h0,h1,h3,h2⟩
  dsimp only at h0 h1 h2 h3
  by_cases c:t<(l.length:Int)
  ·left
   obtain ⟨x,r,e1,e2,e3⟩:=lb (l:=l) (i:=t.toNat) om
   simp only [j4]
   rw [brd c,Zc h0 e1]
   simp only [obs,vi]
   rw [v9 (DW (by simp only [List.length_append,cg];omega)),v9 (DW (by simp only [List.length_append,cg];omega)),aa (t+1) om om]
   refine ⟨_,rfl,⟨by first|omega| (dsimp only;omega),by first|omega| (dsimp only;omega), ?_, ?_⟩,by first|omega| (dsimp only;omega)⟩
   ·simp only [List.length_append,cg];omega
   ·dsimp only
    rw [show (t+1).toNat=t.toNat+1 by omega,e2]
    rw [e1,List.flatMap_cons] at h2
    simpa [e8] using h2
  ·right
   simp only [j4]
   rw [brn c]
   refine ⟨_,rfl, ?_⟩
   rw [List.drop_eq_nil_of_le om] at h2
   simpa using h2
end Go.AI.Fn
set_option linter.unusedVariables false
set_option linter.unusedSimpArgs false
namespace Go.AI.Fn
def pF (a:Int) (n:Nat):Int:=(a^n)%2130706433
theorem Nl (a:Int) (n:Nat):okF (pF a n):=ji _
theorem c0R {n:Int} (h:0≤n) (h2:n<9223372036854775808):bw .i64 n 1=n%2:=by
 show IntKind.wrap .i64 ((BitVec.ofInt 64 n&&&BitVec.ofInt 64 1).toNat:Int)=n%2
 have e1:(BitVec.ofInt 64 n).toNat=n.toNat:=by rw [BitVec.toNat_ofInt];omega
 have e2:(BitVec.ofInt 64 1).toNat=1:=by decide
 rw [BitVec.toNat_and,e1,e2,Nat.and_one_is_mod,aa _ om om]
 omega
theorem c0Q {n:Int} (h:0≤n):aM .i64 n 1=n/2:=by
 show n.fdiv (2^1)=n/2
 rw [Int.fdiv_eq_ediv_of_nonneg _ (by decide)];rfl
theorem b1p {a:Int} {n:Nat} (h:n%2=0):(a*a)^(n/2)=a^n:=by
 have e:n=2*(n/2):=by omega
 have e2:a^n=a^(2*(n/2)):=by rw [←e]
 rw [e2,Int.pow_mul,Int.pow_succ,Int.pow_succ,Int.pow_zero,Int.one_mul]
theorem b4t {a:Int} {n:Nat} (h:n%2=1):a*(a*a)^(n/2)=a^n:=by
 have e:n=2*(n/2)+1:=by omega
 have e2:a^n=a^(2*(n/2)+1):=by rw [←e]
 rw [e2,Int.pow_succ,Int.pow_mul,Int.pow_succ,Int.pow_succ,Int.pow_zero,Int.one_mul,Int.mul_comm]
theorem a45 (a:Int) (n:Nat):((a%2130706433)^n)%2130706433=(a^n)%2130706433:=by
 induction n with
 |zero=>rw [Int.pow_zero,Int.pow_zero]
 |succ n ih=>rw [Int.pow_succ,Int.pow_succ,mM2, ←mM1,ih,mM1]
theorem XI {a out:Int} {n:Nat} (hn:0<n):(n%2=1→(mF out a*(mF a a)^(n/2))%2130706433=(out*a^n)%2130706433)∧(n%2=0→(out*(mF a a)^(n/2))%2130706433=(out*a^n)%2130706433):=by
 constructor
 ·intro h
  unfold mF
  rw [mM1, ←mM2,a45,mM2, ←b4t h,Int.mul_assoc]
 ·intro h
  unfold mF
  rw [←mM2,a45,mM2,b1p h]
theorem a1d {a out n:Int} (ha:okF a) (ho:okF out) (h0:0≤n) (hn:n<9223372036854775808): ∃e,Loop tQ (a,n,out)=some e∧e.2.2.1=(out*a^n.toNat)%2130706433:=by
 refine mf (step:=tQ) (fun s=>okF s.1∧okF s.2.2∧0≤s.2.1∧s.2.1<9223372036854775808∧(s.2.2*s.1^s.2.1.toNat)%2130706433=(out*a^n.toNat)%2130706433) (fun s=>s.2.1.toNat) _ ?_ (a,n,out) ⟨ha,ho,h0,hn,rfl⟩
 rintro ⟨b,k,o⟩ ⟨hb,ho',hk0,hk1,hinv⟩
 dsimp only at hb ho' hk0 hk1 hinv
 simp only [tQ]
 by_cases hk:k>0
 ·left
  rw [brd hk,c0R hk0 hk1,c0Q hk0,lV hb hb]
  have hs:=XI (a:=b) (out:=o) (n:=k.toNat) om
  have e:(k/2).toNat=k.toNat/2:=by omega
  by_cases h2:k%2=1
  ·rw [bre h2,lV ho' hb]
   refine ⟨_,rfl,⟨lY _ _,lY _ _,by dsimp only;omega,by dsimp only;omega, ?_⟩,by dsimp only;omega⟩
   dsimp only
   rw [e,hs.1 om,hinv]
  ·rw [Pu h2]
   refine ⟨_,rfl,⟨lY _ _,ho',by dsimp only;omega,by dsimp only;omega, ?_⟩,by dsimp only;omega⟩
   dsimp only
   rw [e,hs.2 om,hinv]
 ·right
  rw [brn hk]
  refine ⟨_,rfl, ?_⟩
  have:k=0:=by omega
  subst this
  dsimp only
  rw [←hinv]
  simp [D7 ho']
theorem Pn {a n:Int} (ha:okF a) (h0:0≤n) (hn:n<9223372036854775808):Nd a n=some (pF a n.toNat):=by
 unfold Nd
 obtain ⟨e,h1,h2⟩:=a1d ha b1Z h0 hn
 rw [h1,obs,h2,Int.one_mul];rfl
theorem a1s {a out n:Int} (ha:okF a) (ho:okF out) (h0:0≤n) (hn:n<9223372036854775808): ∃e,Loop kN (a,n,out)=some e∧e.2.2.1=(out*a^n.toNat)%2130706433:=by
 refine mf (step:=kN) (fun s=>okF s.1∧okF s.2.2∧0≤s.2.1∧s.2.1<9223372036854775808∧(s.2.2*s.1^s.2.1.toNat)%2130706433=(out*a^n.toNat)%2130706433) (fun s=>s.2.1.toNat) _ ?_ (a,n,out) ⟨ha,ho,h0,hn,rfl⟩
 rintro ⟨b,k,o⟩ ⟨hb,ho',hk0,hk1,hinv⟩
 dsimp only at hb ho' hk0 hk1 hinv
 simp only [kN]
 by_cases hk:k>0
 ·left
  rw [brd hk,cn _ _ hk0,mI _ _ hk0,aa _ om om,qR hb hb]
  have hs:=XI (a:=b) (out:=o) (n:=k.toNat) om
  have e:(k/2).toNat=k.toNat/2:=by omega
  by_cases h2:k%2=1
  ·rw [bre h2,qR ho' hb]
   refine ⟨_,rfl,⟨lY _ _,lY _ _,by dsimp only;omega,by dsimp only;omega, ?_⟩,by dsimp only;omega⟩
   dsimp only
   rw [e,hs.1 om,hinv]
  ·rw [Pu h2]
   refine ⟨_,rfl,⟨lY _ _,ho',by dsimp only;omega,by dsimp only;omega, ?_⟩,by dsimp only;omega⟩
   dsimp only
   rw [e,hs.2 om,hinv]
 ·right
  rw [brn hk]
  refine ⟨_,rfl, ?_⟩
  have:k=0:=by omega
  subst this
  dsimp only
  rw [←hinv]
  simp [D7 ho']
theorem Q9 {a n:Int} (ha:okF a) (h0:0≤n) (hn:n<9223372036854775808):rG a n=some (pF a n.toNat):=by
 unfold rG
 obtain ⟨e,h1,h2⟩:=a1s ha b1Z h0 hn
 rw [h1,obs,h2,Int.one_mul];rfl
def iF (a:Int):Int:=pF a 2130706431
theorem zJ {a:Int} (ha:okF a):pw a=some (iF a):=by
 unfold pw;rw [Pn ha (by decide) (by decide),obs];rfl
theorem zm {a:Int} (ha:okF a):rG a 2130706431=some (iF a):=by
 rw [Q9 ha (by decide) (by decide)];rfl
def Nj (k:Nat):Int:=pF 3 (127*2^(24-k))
theorem YV (k:Nat):okF (Nj k):=Nl _ _
theorem a8s: ∀j:Nat,j<25→(2:Int)^j≤16777216∧0<(2:Int)^j:=by decide
theorem a7X {j:Nat} (h:j≤24):aD .i64 127 (j:Int)=127*2^j:=by
 obtain ⟨h1,h0⟩:=a8s j om
 show IntKind.wrap .i64 (127*2^(min ((j:Int).toNat) 64))=_
 rw [Int.toNat_natCast,Nat.min_eq_left om,aa _ om om]
theorem a4I {k:Nat} (h:k≤24):NO (k:Int)=some (Nj k):=by
 unfold NO
 obtain ⟨hq,hp⟩:=a8s (24-k) om
 rw [aa _ om om,brd om,show (24:Int)-k=((24-k:Nat):Int) by omega,a7X om,Pn b49 om om,obs,Nj]
 congr 2
theorem a5U {k:Nat} (h:k≤24):xF (k:Int)=some (Nj k):=by
 unfold xF
 obtain ⟨hq,hp⟩:=a8s (24-k) om
 rw [aa _ om om,cN _ om om,brd om,show (24:Int)-k=((24-k:Nat):Int) by omega,a7X om,Q9 b49 om om,obs,Nj]
 congr 2
end Go.AI.Fn
set_option linter.unusedVariables false
set_option linter.unusedSimpArgs false
namespace Go.AI.Fn
theorem O9 {α:Type} {p:α→Bool} {l:List α} {k:Nat} (hk:k<l.length) (h:p l[k]=true):l.any p=true:=List.any_eq_true.2 ⟨l[k],List.getElem_mem hk,h⟩
theorem a3Z {α:Type} {p:α→Bool} {l:List α} (h: ∀k (hk:k<l.length),p l[k]=false):l.any p=false:=by
 rw [List.any_eq_false]
 intro x hx
 obtain ⟨k,hk,rfl⟩:=List.getElem_of_mem hx
 simp [h k hk]
theorem tA {α:Type} {p:α→Bool} {f:α→Option Bool} {l:List α} (hl:l.length≤1099511627776) (hf: ∀x∈l,f x=some (p x)) {step:Int→Option (Int⊕(Int⊕(Int×Bool)))}
 (hs: ∀t,step t=br (decide (t<((l.length:Nat):Int))) ((atL l t).bind fun x=>(f x).bind fun r=>br r (some (.inr (.inl t))) (some (.inl (IntKind.wrap .i64 (t+1))))) (some (.inr (.inr (t,decide (t<((l.length:Nat):Int))))))):
 ((Loop step 0).bind (alt (fun e=>some e) (fun _=>some (-1)))).bind (fun r=>some (decide (r≥0)))=some (l.any p):=by
 have key:=HZ (step:=step) (fun k=>(k:Int)) l.length (fun k=> !((l[k]?.map p).getD false)) (fun k=> .inl (k:Int)) (e:= .inr ((l.length:Int),false)) (fun k hk hp=>by
  have hb:p l[k]=false:=by simpa [hk] using hp
  rw [hs,brd om,bO hk,obs,hf _ (List.getElem_mem hk),obs,hb,aw,aa _ om om];rfl)
  (fun k hk hp=>by
   have hb:p l[k]=true:=by simpa [hk] using hp
   rw [hs,brd om,bO hk,obs,hf _ (List.getElem_mem hk),obs,hb,bF])
  (by rw [hs,brn om,decide_eq_false om])
 rcases key with ⟨h1,h2⟩|⟨k,hk,h1,_,h2⟩
 ·have e:Loop step 0=some (.inr ((l.length:Int),false)):=h2
  rw [e,a3Z (fun k hk=>by simpa [hk] using h1 k hk)];rfl
 ·have e:Loop step 0=some (.inl (k:Int)):=h2
  rw [e,O9 hk (by simpa [hk] using h1)]
  simp only [obs,jX]
  rw [decide_eq_true om]
theorem a3b {α:Type} {p:α→Bool} {f:α→Option Bool} {l:List α} (hl:l.length≤1099511627776) (hf: ∀x∈l,f x=some (p x)) {step:Int→Option (Int⊕(Unit⊕(Int×Bool)))}
 (hs: ∀t,step t=br (decide (t<((l.length:Nat):Int))) ((atL l t).bind fun x=>(f x).bind fun r=>br (!r) (some (.inr (.inl ()))) (some (.inl (IntKind.wrap .i64 (t+1))))) (some (.inr (.inr (t,decide (t<((l.length:Nat):Int))))))):
 (Loop step 0).bind (alt (fun _=>some false) (fun _=>some true))=some (l.all p):=by
 have key:=HZ (step:=step) (fun k=>(k:Int)) l.length (fun k=>((l[k]?.map p).getD false)) (fun k=> .inl ()) (e:= .inr ((l.length:Int),false)) (fun k hk hp=>by
  have hb:p l[k]=true:=by simpa [hk] using hp
  rw [hs,brd om,bO hk,obs,hf _ (List.getElem_mem hk),obs,hb,Bool.not_true,aw,aa _ om om];rfl)
  (fun k hk hp=>by
   have hb:p l[k]=false:=by simpa [hk] using hp
   rw [hs,brd om,bO hk,obs,hf _ (List.getElem_mem hk),obs,hb,Bool.not_false,bF])
  (by rw [hs,brn om,decide_eq_false om])
 rcases key with ⟨h1,h2⟩|⟨k,hk,h1,_,h2⟩
 ·have e:Loop step 0=some (.inr ((l.length:Int),false)):=h2
  have ha:l.all p=true:=List.all_eq_true.2 fun x hx=>by
   obtain ⟨k,hk,rfl⟩:=List.getElem_of_mem hx
   simpa [hk] using h1 k hk
  rw [e,ha];rfl
 ·have e:Loop step 0=some (.inl ()):=h2
  have ha:l.all p=false:=by
   rw [List.all_eq_false]
   exact ⟨l[k],List.getElem_mem hk,by simpa [hk] using h1⟩
  rw [e,ha];rfl
theorem qQ {α:Type} (p:α→Bool) (l:List α):(!l.any fun x=> !p x)=l.all p:=by
 induction l with
 |nil=>rfl
 |cons x l ih=>simp only [List.any_cons,List.all_cons, ←ih];cases p x<;>simp
theorem a65 {l:List Int} (hl:l.length≤1099511627776):hO l=some (l.all Hl):=by
 unfold hO bi bq
 rw [tA (step:=bf l ((l.length:Nat):Int)) (p:=fun x=> !Hl x) (f:=fB) hl (fun x _=>by unfold fB;rw [yT];rfl) (fun t=>rfl),obs,qQ]
theorem DF {l:List Ext} (hl:l.length≤1099511627776):dh l=some (l.all iE):=by
 unfold dh aW bc
 rw [tA (step:=aS l ((l.length:Nat):Int)) (p:=fun x=> !iE x) (f:=fC) hl (fun x _=>by unfold fC;rw [pp];rfl) (fun t=>rfl),obs,qQ]
theorem ju {l:List Ext} (hl:l.length≤1099511627776):gU l=some (l.all iE):=by
 unfold gU
 exact a3b (f:=zF) hl (fun x _=>NG x) (fun t=>rfl)
theorem Y5 {l:List Int} (hl:l.length≤1099511627776):rj l=some (l.all Hl):=by
 unfold rj
 exact a3b (f:=nT) hl (fun x _=>zK x) (fun t=>rfl)
def cE (l:List Ext):Prop:= ∀x∈l,okE x
def M7 (l:List Int):Prop:= ∀x∈l,okF x
theorem a1p {l:List Ext}:l.all iE=true↔cE l:=by
 rw [List.all_eq_true];exact ⟨fun h x hx=>CE.1 (h x hx),fun h x hx=>CE.2 (h x hx)⟩
theorem c0L {l:List Int}:l.all Hl=true↔M7 l:=by
 rw [List.all_eq_true];exact ⟨fun h x hx=>Qk.1 (h x hx),fun h x hx=>Qk.2 (h x hx)⟩
theorem cE.get {l:List Ext} (h:cE l) {k:Nat} (hk:k<l.length):okE l[k]:=h _ (List.getElem_mem hk)
theorem M7.get {l:List Int} (h:M7 l) {k:Nat} (hk:k<l.length):okF l[k]:=h _ (List.getElem_mem hk)
theorem cE.app {l m:List Ext} (h:cE l) (h2:cE m):cE (l++m):=fun x hx=>(List.mem_append.1 hx).elim (h x) (h2 x)
theorem cE.nil:cE []:=fun x hx=>by cases hx
theorem cE.one {x:Ext} (h:okE x):cE [x]:=fun y hy=>by rw [List.mem_singleton.1 hy];exact h
theorem cE.map {α:Type} {f:α→Ext} (l:List α) (h: ∀x∈l,okE (f x)):cE (l.map f):=fun y hy=>by obtain ⟨x,hx,rfl⟩:=List.mem_map.1 hy;exact h x hx
theorem cE.take {l:List Ext} (h:cE l) (k:Nat):cE (l.take k):=fun x hx=>h x (List.mem_of_mem_take hx)
theorem cE.drop {l:List Ext} (h:cE l) (k:Nat):cE (l.drop k):=fun x hx=>h x (List.mem_of_mem_drop hx)
def Sv (a b:List Ext):Ext:=(a.zip b).foldl (fun c p=>eA c (eM p.1 p.2)) e0
theorem FM {α β:Type} {a:List α} {b:List β} {k:Nat} (ha:k<a.length) (hb:k<b.length):(a.zip b).take (k+1)=(a.zip b).take k++[(a[k],b[k])]:=by
 rw [cm (by rw [List.length_zip];omega),List.getElem_zip]
theorem a2a (l:List (Ext×Ext)) {c:Ext} (h:okE c):okE (l.foldl (fun c p=>eA c (eM p.1 p.2)) c):=by
 induction l generalizing c with
 |nil=>exact h
 |cons p l ih=>exact ih (Ty _ _)
theorem b4l (a b:List Ext):okE (Sv a b):=a2a _ a3w
theorem PD {a b:List Ext} (ha:cE a) (hb:cE b) (hl:a.length≤b.length) (hn:a.length≤1099511627776):It a b=some (Sv a b):=by
 unfold It
 have key:Loop (tH b a ((a.length:Nat):Int) 0 0) ((0:Int),(0:Int),(0:Int))=some ((a.length:Int),false,(Sv a b).A,(Sv a b).B):=
  aA (fun k=>((k:Int),(((a.zip b).take k).foldl (fun c p=>eA c (eM p.1 p.2)) e0).A,(((a.zip b).take k).foldl (fun c p=>eA c (eM p.1 p.2)) e0).B)) a.length (fun k hk=>by
   simp only [tH]
   have hc:=a2a ((a.zip b).take k) a3w
   rw [brd om,bO hk,obs,bO om,obs,dw (ha.get hk) (hb.get om),obs,j7 hc (nC _ _),obs,aa _ om om,FM hk om,List.foldl_append]
   rfl) (by
   simp only [tH]
   rw [brn om,decide_eq_false om,List.take_of_length_le (by rw [List.length_zip];omega)]
   rfl)
 rw [key];rfl
def eqS (out:List Ext) (p:Ext):List Ext:=out.map (fun a=>eM a (eS e1 p))++out.map (fun a=>eM a p)
def eqT (pt:List Ext):List Ext:=pt.foldl eqS [e1]
theorem a3P (out:List Ext) (p:Ext):(eqS out p).length=2*out.length:=by simp [eqS];omega
theorem b6p (out:List Ext) (p:Ext):cE (eqS out p):=cE.app (cE.map _ fun x _=>nC _ _) (cE.map _ fun x _=>nC _ _)
theorem Yd (l:List Ext) (p:Ext):eqT (l++[p])=eqS (eqT l) p:=by simp [eqT,List.foldl_append]
theorem b8B {l out:List Ext} (h:cE out):cE (l.foldl eqS out):=by
 induction l generalizing out with
 |nil=>exact h
 |cons p l ih=>exact ih (b6p _ _)
theorem Ub (l:List Ext):cE (eqT l):=b8B (cE.one a09)
theorem b4p (l out:List Ext):(l.foldl eqS out).length=2^l.length*out.length:=by
 induction l generalizing out with
 |nil=>simp
 |cons p l ih=>rw [List.foldl_cons,ih,a3P,List.length_cons,Nat.pow_succ];rw [Nat.mul_assoc]
theorem yU (l:List Ext):(eqT l).length=2^l.length:=by rw [eqT,b4p];simp
theorem a2H: ∀k:Nat,k≤6→2^k≤64:=by decide
theorem c0f {t:List Ext} {t2 t3:Int} {out:List Ext} {p:Ext} (ho:cE out) (hp:okE p) (hn:out.length≤1000000000):
 Loop (jE t t2 t3 out ((out.length:Nat):Int) p.A p.B) ([],[],0)=some (out.map (fun a=>eM a (eS e1 p)),out.map (fun a=>eM a p),(out.length:Int),false):=
 aA (fun k=>((out.take k).map (fun a=>eM a (eS e1 p)),(out.take k).map (fun a=>eM a p),(k:Int))) out.length (fun k hk=>by
  have he:Ext.mk p.A p.B=p:=rfl
  simp only [jE,he]
  rw [brd om,bO hk,obs,Jj,obs,nk a09 hp,obs,dw (ho.get hk) (um _ _),obs,
   aC (by simp only [List.length_append,List.length_map,List.length_take,List.length_singleton];omega),dw (ho.get hk) hp,obs,
   aC (by simp only [List.length_append,List.length_map,List.length_take,List.length_singleton];omega),aa _ om om,cm hk,List.map_append,List.map_append]
  rfl) (by
  simp only [jE]
  rw [brn om,decide_eq_false om,List.take_length])
theorem z8 {l:List Ext} (h:cE l) (hn:l.length≤6):oR l=some (eqT l):=by
 unfold oR
 have key:Loop (jD l ((l.length:Nat):Int)) ([e1],0)=some (eqT l,(l.length:Int),false):=
  aA (fun k=>(eqT (l.take k),(k:Int))) l.length (fun k hk=>by
   have hl:=yU (l.take k)
   have hb:=a2H (l.take k).length (by rw [List.length_take];omega)
   simp only [jD]
   rw [brd om,bO hk,obs,c0f (Ub _) (h.get hk) om,obs]
   dsimp only
   rw [aC (by simp only [List.length_append,List.length_map];omega),aa _ om om,cm hk,Yd]
   rfl) (by
   simp only [jD]
   rw [brn om,decide_eq_false om,List.take_length])
 rw [Jj,obs,key];rfl
def eqU (out:List Ext) (p:Ext) (k:Nat) (l:List Ext):List Ext:=(l.set k (eM (out.getD k e0) (eS e1 p))).set (k+out.length) (eM (out.getD k e0) p)
theorem a3X {f:Nat→List Ext→List Ext} (hf: ∀k l,(f k l).length=l.length): ∀(k:Nat) (l:List Ext),(iU f k l).length=l.length
 |0,l=>rfl
 |k+1,l=>by rw [iU,hf,a3X hf k l]
theorem Il (out:List Ext) (p:Ext) (k:Nat) (l:List Ext):(iU (eqU out p) k l).length=l.length:=a3X (fun _ _=>by simp [eqU]) k l
theorem a3h (out:List Ext) (p:Ext) (l:List Ext) (hl:l.length=2*out.length): ∀k,k≤out.length→ ∀j (hj:j<(iU (eqU out p) k l).length),(iU (eqU out p) k l)[j]=
 if j<k then eM (out.getD j e0) (eS e1 p) else if out.length≤j∧j<out.length+k then eM (out.getD (j-out.length) e0) p else l[j]'(by rw [Il] at hj;exact hj)
 |0,_,j,hj=>by
  rw [if_neg om,if_neg om];rfl
 |k+1,hk,j,hj=>by
  have ih:=a3h out p l hl k om j (by rw [Il] at hj ⊢;exact hj)
  simp only [iU,eqU,List.getElem_set]
  by_cases h1:k+out.length=j
  ·rw [if_pos h1,if_neg om,if_pos om,show j-out.length=k by omega]
  ·rw [if_neg h1]
   by_cases h2:k=j
   ·rw [if_pos h2,if_pos om,h2]
   ·rw [if_neg h2,ih]
    by_cases h3:j<k
    ·rw [if_pos h3,if_pos om]
    ·by_cases h4:out.length≤j∧j<out.length+k
     ·rw [if_neg h3,if_pos h4,if_neg om,if_pos om]
     ·rw [if_neg h3,if_neg h4,if_neg om,if_neg om]
theorem b4u (out:List Ext) (p:Ext) (l:List Ext) (hl:l.length=2*out.length):iU (eqU out p) out.length l=eqS out p:=by
 apply List.ext_getElem (by rw [Il,a3P,hl])
 intro j h1 h2
 rw [a3h out p l hl out.length (Nat.le_refl _) j h1]
 rw [Il,hl] at h1
 simp only [eqS]
 by_cases h3:j<out.length
 ·rw [if_pos h3,List.getElem_append_left (by simpa using h3),List.getElem_map];simp [h3]
 ·rw [if_neg h3,if_pos om,List.getElem_append_right (by simp;omega),List.getElem_map]
  have:j-out.length<out.length:=by omega
  simp [this]
theorem a3v {l:List Ext} {k:Nat} (h:k<l.length):atL l (k:Int)=some (l.getD k e0):=by simp [atL,h]
theorem cE.getD {l:List Ext} (h:cE l) (k:Nat):okE (l.getD k e0):=by
 by_cases hk:k<l.length
 ·simp [hk];exact h.get hk
 ·simp [List.getElem?_eq_none (Nat.le_of_not_lt hk)];exact a3w
theorem b5z {β:Type} {l:List Ext} {i:Nat} {f:Ext→Option β} (h:i<l.length):(l[i]?).bind f=f (l.getD i e0):=by simp [h]
theorem c0c {pt out l:List Ext} {i:Nat} (ho:cE out) (hp:cE pt) (hi:i<pt.length) (hl:l.length=2*out.length) (hn:out.length≤1000000000):
 Loop (nW pt out i) (l,0)=some (eqS out (pt.getD i e0),(out.length:Int),false):=by
 rw [←b4u out (pt.getD i e0) l hl]
 exact aA (fun k=>(iU (eqU out (pt.getD i e0)) k l,(k:Int))) out.length (fun k hk=>by
  have h1:=Il out (pt.getD i e0) k l
  simp only [nW]
  rw [brd om,a3v hk,obs,a3v hi,obs,E7 (hp.getD _),obs,dl (ho.getD _) (um _ _),obs,brd om,brd om,b5z om,
   obs,obs,dl (ho.getD _) (hp.getD _),obs,aa _ om om,brd om,brd om,b5z (by rw [List.length_set];omega),aa _ om om]
  rw [show ((k:Int)+(out.length:Int)).toNat=k+out.length by omega,Int.toNat_natCast]
  rfl) (by
  simp only [nW]
  rw [brn om,decide_eq_false om])
theorem I7 {l:List Ext} (h:cE l) (hn:l.length≤6):E4 l=some (eqT l):=by
 unfold E4
 have key:Loop (nI l) ([e1],0)=some (eqT l,(l.length:Int),false):=
  aA (fun k=>(eqT (l.take k),(k:Int))) l.length (fun k hk=>by
   have hl:=yU (l.take k)
   have hb:=a2H (l.take k).length (by rw [List.length_take];omega)
   simp only [nI]
   rw [brd om,aa _ om om,Ay om om om,c0c (Ub _) h hk (by rw [List.length_replicate];omega) om,obs,aa _ om om,cm hk,Yd]
   simp [hk]) (by
   simp only [nI]
   rw [brn om,decide_eq_false om,List.take_length])
 rw [Nb,obs,key];rfl
theorem a6Q {a b:List Ext} (ha:cE a) (hb:cE b) (hl:a.length≤b.length) (hn:a.length≤1000000000):Loop (nD a b 0 0) ((0:Int),(0:Int),(0:Int))=some ((a.length:Int),false,(Sv a b).A,(Sv a b).B):=
 aA (fun k=>((k:Int),(((a.zip b).take k).foldl (fun c p=>eA c (eM p.1 p.2)) e0).A,(((a.zip b).take k).foldl (fun c p=>eA c (eM p.1 p.2)) e0).B)) a.length (fun k hk=>by
  simp only [nD]
  have hc:=a2a ((a.zip b).take k) a3w
  rw [brd om,bO hk,obs,bO om,obs,dl (ha.get hk) (hb.get om),obs,iI hc (nC _ _),obs,aa _ om om,FM hk om,List.foldl_append]
  rfl) (by
  simp only [nD]
  rw [brn om,decide_eq_false om,List.take_of_length_le (by rw [List.length_zip];omega)]
  rfl)
theorem a37 {a pt:List Ext} (ha:cE a) (hp:cE pt) (hn:pt.length≤6) (hl:a.length≤2^pt.length):zI a pt=some (Sv a (eqT pt)):=by
 unfold zI
 have h6:=a2H pt.length hn
 have hel:=yU pt
 rw [I7 hp hn,obs,a6Q ha (Ub _) om om];rfl
end Go.AI.Fn
set_option linter.unusedVariables false
namespace Go.AI.Fn
def be (w x y z:UInt8):Int:=(((w.toNat:Int)*256+x.toNat)*256+y.toNat)*256+z.toNat
def dec:List UInt8→List Ext
 |a::b::c::d::e::f::g::h::r=>⟨be a b c d,be e f g h⟩::dec r
 |_=>[]
theorem Ko {l:List UInt8} (h:l.length<8):dec l=[]:=by
 match l,h with
 |[],_=>rfl
 |[_],_=>rfl
 |[_,_],_=>rfl
 |[_,_,_],_=>rfl
 |[_,_,_,_],_=>rfl
 |[_,_,_,_,_],_=>rfl
 |[_,_,_,_,_,_],_=>rfl
 |[_,_,_,_,_,_,_],_=>rfl
 |_::_::_::_::_::_::_::_::r,h=>simp at h;omega
theorem a6D {l:List UInt8} (h:8≤l.length): ∃a b c d e f g k r,l=a::b::c::d::e::f::g::k::r:=by
 match l,h with
 |a::b::c::d::e::f::g::k::r,_=>exact ⟨a,b,c,d,e,f,g,k,r,rfl⟩
theorem N5 (l:List UInt8):(dec l).length=l.length/8:=by
 generalize hn:l.length=n
 induction n using Nat.strongRecOn generalizing l with
 |_ n ih=>
  by_cases h:l.length<8
  ·rw [Ko h,List.length_nil];omega
  ·obtain ⟨a,b,c,d,e,f,g,k,r,rfl⟩:=a6D (l:=l) om
   simp only [List.length_cons] at hn
   simp only [dec,List.length_cons,ih r.length om r rfl];omega
theorem b2c {n:Int} (x:UInt8) (h0:0≤n) (h1:n<16777216):wR .i64 (aD .i64 n 8) (IntKind.wrap .i64 (x.toNat:Int))=n*256+x.toNat:=by
 have hx:=o2 x
 have e1:aD .i64 n 8=n*256:=by
  have:n*2^(min (8:Int).toNat (IntKind.bits .i64))=n*256:=by
   have:(2:Int)^(min (8:Int).toNat (IntKind.bits .i64))=256:=by decide
   rw [this]
  unfold aD
  rw [this,aa _ om om]
 rw [e1,aa (x.toNat:Int) om om]
 unfold wR
 obtain ⟨m,rfl⟩:=Int.eq_ofNat_of_zero_le h0
 have e2:(BitVec.ofInt (IntKind.bits .i64) ((m:Int)*256)|||BitVec.ofInt (IntKind.bits .i64) (x.toNat:Int)).toNat=m*256+x.toNat:=by
  rw [BitVec.toNat_or,BitVec.toNat_ofInt,BitVec.toNat_ofInt]
  have b1:(((m:Int)*256)%((2^(IntKind.bits .i64):Nat):Int)).toNat=m<<<8:=by
   rw [show ((2^(IntKind.bits .i64):Nat):Int)=18446744073709551616 by decide,Nat.shiftLeft_eq];omega
  have b2:((x.toNat:Int)%((2^(IntKind.bits .i64):Nat):Int)).toNat=x.toNat:=by
   rw [show ((2^(IntKind.bits .i64):Nat):Int)=18446744073709551616 by decide];omega
  rw [b1,b2, ←Nat.shiftLeft_add_eq_or_of_lt (show x.toNat<2^8 by omega),Nat.shiftLeft_eq]
 rw [e2,aa _ om om]
 omega
theorem D6 (w x y z:UInt8):nX [w,x,y,z]=some (be w x y z):=by
 have hw:=o2 w
 have hx:=o2 x
 have hy:=o2 y
 have hz:=o2 z
 unfold nX
 have st: ∀(n t:Int) (b:UInt8),0≤n→n<16777216→0≤t→t<4→[w,x,y,z][t.toNat]? =some b→lj [w,x,y,z] (([w,x,y,z].length:Nat):Int) (n,t)=some (.inl (n*256+b.toNat,t+1)):=by
  intro n t b h0 h1 h2 h3 h4
  simp only [lj]
  rw [brd (by simp only [List.length_cons,List.length_nil];omega),show atL [w,x,y,z] t=some b by simp [atL,h2,h4]]
  simp only [obs]
  rw [b2c b h0 h1,aa (t+1) om om]
 rw [bn (st 0 0 w om om om om rfl),bn (st _ _ x om om om om rfl),bn (st _ _ y om om om om rfl),bn (st _ _ z om om om om rfl)]
 rw [bA (e:=(be w x y z,4,false)) ?_]
 ·rfl
 ·simp only [lj]
  rw [brn (by simp only [List.length_cons,List.length_nil];omega)]
  simp [be]
theorem JJ (w x y z:UInt8):jL [w,x,y,z]=some (be w x y z):=by
 have hw:=o2 w
 have hx:=o2 x
 have hy:=o2 y
 have hz:=o2 z
 unfold jL
 have st: ∀(n t:Int) (b:UInt8),0≤n→n<16777216→0≤t→t<4→[w,x,y,z][t.toNat]? =some b→jM [w,x,y,z] (n,t)=some (.inl (n*256+b.toNat,t+1)):=by
  intro n t b h0 h1 h2 h3 h4
  have hb:=o2 b
  simp only [jM]
  rw [brd om,show atL [w,x,y,z] t=some b by simp [atL,h2,h4]]
  simp only [obs]
  rw [aa (n*256) om om,aa (b.toNat:Int) om om,aa (n*256+(b.toNat:Int)) om om,aa (t+1) om om]
 rw [bn (st 0 0 w om om om om rfl),bn (st _ _ x om om om om rfl),bn (st _ _ y om om om om rfl),bn (st _ _ z om om om om rfl)]
 rw [bA (e:=(be w x y z,4,false)) ?_]
 ·rfl
 ·simp only [jM]
  rw [brn om]
  simp [be]
theorem Sf {b:List UInt8} (hb:b.length≤8388608):uu b=some (dec b,decide (b.length%8=0)&&(dec b).all iE):=by
 unfold uu
 have key:=mf (step:=kh b)
  (fun s=>0≤s.2∧s.2≤b.length∧(s.1.length:Int)*8=s.2∧s.1++dec (b.drop s.2.toNat)=dec b) (fun s=>(b.length-s.2).toNat)
  (fun e=>e.1=dec b) ?_ ([],0) ⟨by first|omega| (dsimp only;omega),by first|omega| (dsimp only;omega),by simp,rfl⟩
 ·obtain ⟨e,he,h⟩:=key
  rw [he]
  simp only [obs,h]
  rw [cn _ _ om]
  by_cases c:b.length%8=0
  ·rw [bre om,DF (by rw [N5];omega)]
   simp [c]
  ·rw [Pu om]
   simp [c]
 ·rintro ⟨l,i⟩ ⟨h0,h1,h3,h2⟩
  dsimp only at h0 h1 h2 h3
  simp only [kh]
  rw [aa (i+8) om om]
  by_cases c:i+8≤(b.length:Int)
  ·left
   obtain ⟨p,q,r,s,t,u,v,w,z,hz⟩:=a6D (l:=b.drop i.toNat) (by rw [List.length_drop];omega)
   rw [brd c,aa (i+4) om om,fK h0 om om,fK om om om]
   have e1:(b.drop i.toNat).take ((i+4).toNat-i.toNat)=[p,q,r,s]:=by rw [hz,show (i+4).toNat-i.toNat=4 by omega];rfl
   have e2:(b.drop (i+4).toNat).take ((i+8).toNat-(i+4).toNat)=[t,u,v,w]:=by
    rw [show (i+4).toNat=i.toNat+4 by omega, ←List.drop_drop,hz,show (i+8).toNat-(i.toNat+4)=4 by omega];rfl
   have e3:b.drop (i+8).toNat=z:=by rw [show (i+8).toNat=i.toNat+8 by omega, ←List.drop_drop,hz];rfl
   rw [e1,e2]
   simp only [obs,D6]
   rw [v9 (DW (by simp only [List.length_append,List.length_cons,List.length_nil];omega))]
   refine ⟨_,rfl,⟨by first|omega| (dsimp only;omega),by first|omega| (dsimp only;omega), ?_, ?_⟩,by first|omega| (dsimp only;omega)⟩
   ·simp only [List.length_append,List.length_cons,List.length_nil];omega
   ·dsimp only
    rw [e3, ←h2,hz]
    simp [dec]
  ·right
   rw [brn c]
   refine ⟨_,rfl, ?_⟩
   rw [Ko (by rw [List.length_drop];omega)] at h2
   simpa using h2
theorem To {b:List UInt8} (hb:b.length≤8388608):xN b=some (if b.length%8=0∧(dec b).all iE then (dec b,true) else ([],false)):=by
 unfold xN
 rw [cn _ _ om]
 by_cases c0:b.length%8=0
 ·rw [cZ om]
  have key:=mf (step:=mz b)
   (fun s=>0≤s.2∧s.2≤b.length∧(s.1.length:Int)*8=s.2∧s.1++dec (b.drop s.2.toNat)=dec b) (fun s=>(b.length-s.2).toNat)
   (fun e=>e.1=dec b) ?_ ([],0) ⟨by first|omega| (dsimp only;omega),by first|omega| (dsimp only;omega),by simp,rfl⟩
  ·obtain ⟨e,he,h⟩:=key
   rw [he]
   simp only [obs,h]
   rw [ju (by rw [N5];omega)]
   cases hh:(dec b).all iE<;>simp [c0,br]
  ·rintro ⟨l,i⟩ ⟨h0,h1,h3,h2⟩
   dsimp only at h0 h1 h2 h3
   simp only [mz]
   by_cases c:i<(b.length:Int)
   ·left
    have c8:i+8≤(b.length:Int):=by omega
    obtain ⟨p,q,r,s,t,u,v,w,z,hz⟩:=a6D (l:=b.drop i.toNat) (by rw [List.length_drop];omega)
    rw [brd c,aa (i+4) om om,aa (i+8) om om,fK h0 om om,fK om om om]
    have e1:(b.drop i.toNat).take ((i+4).toNat-i.toNat)=[p,q,r,s]:=by rw [hz,show (i+4).toNat-i.toNat=4 by omega];rfl
    have e2:(b.drop (i+4).toNat).take ((i+8).toNat-(i+4).toNat)=[t,u,v,w]:=by
     rw [show (i+4).toNat=i.toNat+4 by omega, ←List.drop_drop,hz,show (i+8).toNat-(i.toNat+4)=4 by omega];rfl
    have e3:b.drop (i+8).toNat=z:=by rw [show (i+8).toNat=i.toNat+8 by omega, ←List.drop_drop,hz];rfl
    rw [e1,e2]
    simp only [obs,JJ]
    rw [v9 (DW (by simp only [List.length_append,List.length_cons,List.length_nil];omega))]
    refine ⟨_,rfl,⟨by first|omega| (dsimp only;omega),by first|omega| (dsimp only;omega), ?_, ?_⟩,by first|omega| (dsimp only;omega)⟩
    ·simp only [List.length_append,List.length_cons,List.length_nil];omega
    ·dsimp only
     rw [e3, ←h2,hz]
     simp [dec]
   ·right
    rw [brn c]
    refine ⟨_,rfl, ?_⟩
    rw [Ko (by rw [List.length_drop];omega)] at h2
    simpa using h2
 ·rw [brb om]
  simp [c0]
theorem b6U (n:Int) (k:Nat) (hk:k≤64) (h0:0≤n):aM .i64 n (k:Int)=n/2^k:=by
 unfold aM
 have:min ((k:Int).toNat) (IntKind.bits .i64)=k:=by simp [IntKind.bits];omega
 rw [this,Int.fdiv_eq_ediv_of_nonneg _ (by exact Int.pow_nonneg (by decide))]
end Go.AI.Fn
set_option linter.unusedVariables false
set_option linter.unusedSimpArgs false
namespace Go.AI.Fn
def b0W:List UInt8:=[97,98,115,111,114,98]
def Uv:List UInt8:=[100,114,97,119]
def Mo:List UInt8:=[103,114,105,110,100]
def Xh (s:Source):Bool:=decide (s.Script.length≤64)&&(s.Script.all iE&&(decide (s.State.length=32)&&((decide (0≤s.At)&&decide (s.At≤1000000))&&(decide (0≤s.Count)&&decide (s.Count≤1000000)))))
structure BE (s:Source):Prop where
 len:s.Script.length≤64
 scr:cE s.Script
 st:s.State.length=32
 a0:0≤s.At
 a1:s.At≤1000000
 c0:0≤s.Count
 c1:s.Count≤1000000
theorem Oz {s:Source}:Xh s=true↔BE s:=by
 unfold Xh
 simp only [Bool.and_eq_true,decide_eq_true_eq,a1p]
 exact ⟨fun ⟨h1,h2,h3,⟨h4,h5⟩,h6,h7⟩=>⟨h1,h2,h3,h4,h5,h6,h7⟩,fun h=>⟨h.1,h.2,h.3,⟨h.4,h.5⟩,h.6,h.7⟩⟩
theorem vl (h:List UInt8):rv h=some (decide (h.length=32)):=by
 unfold rv
 congr 1
 by_cases c:h.length=32
 ·rw [decide_eq_true c,c];rfl
 ·rw [decide_eq_false c];simp;omega
theorem Sk {s:Source} (hl:s.Script.length≤1099511627776):u2 s=some (Xh s):=by
 unfold u2 Xh
 rw [DF hl]
 by_cases h1:s.Script.length≤64
 ·rw [brd om,decide_eq_true h1,obs,vl,Dy,Dy]
  cases s.Script.all iE
  ·rfl
  ·simp only [bF,obs,Bool.true_and]
   cases decide (s.State.length=32)
   ·rfl
   ·simp only [bF,Bool.true_and]
    cases (decide (0≤s.At)&&decide (s.At≤1000000))<;>rfl
 ·rw [brn om,decide_eq_false h1];rfl
theorem RO {s:Source} (hl:s.Script.length≤1099511627776):ug s=some (Xh s):=by
 unfold ug Xh
 rw [ju hl]
 have e:(((s.State.length:Nat):Int)==32)=decide (s.State.length=32):=by
  by_cases c:s.State.length=32
  ·rw [decide_eq_true c,c];rfl
  ·rw [decide_eq_false c];simp;omega
 by_cases h1:s.Script.length≤64
 ·rw [brd om,decide_eq_true h1,obs,HS,HS,e]
  cases s.Script.all iE
  ·rfl
  ·simp only [bF,obs,Bool.true_and]
   cases (decide (0≤s.At)&&decide (s.At≤1000000))
   ·simp [br]
   ·simp only [bF,Bool.true_and]
    cases decide (s.State.length=32)<;>rfl
 ·rw [brn om,decide_eq_false h1];rfl
theorem DY (n:Int):De n=some (eJ n):=by
 unfold De;rw [aC (by simp only [List.length_cons,List.length_nil];omega)];rfl
theorem b9Z {l:List UInt8} (h:4≤l.length):l.take 4=[l.getD 0 0,l.getD 1 0,l.getD 2 0,l.getD 3 0]:=by
 match l,h with
 |a::b::c::d::r,_=>rfl
theorem Zx {n:Int} {k:Nat} (hk:k≤64) (h0:0≤n):(aM .i64 n (k:Int)==0)=decide (n<2^k):=by
 rw [b6U n k hk h0]
 have hp:(0:Int)<2^k:=Int.pow_pos (by decide)
 by_cases h:n<2^k
 ·rw [decide_eq_true h,Int.ediv_eq_zero_of_lt h0 h];rfl
 ·rw [decide_eq_false h]
  have:1≤n/2^k:=(Int.le_ediv_iff_mul_le hp).2 om
  simp;omega
def Qm (st:List UInt8) (bits:Nat) (nonce:Int):Bool:=decide (((H (st++(Mo++eJ nonce))).getD 0 0).toNat*256+((H (st++(Mo++eJ nonce))).getD 1 0).toNat<2^(16-bits))
theorem b5y: ∀b:Nat,b≤12→(2:Int)^(32-b)=65536*((2^(16-b):Nat):Int)∧(2:Int)^(16-b)=((2^(16-b):Nat):Int):=by decide
theorem a4C {s:Source} {bits:Nat} {nonce:Int} (hs:s.State.length=32) (hb:bits≤12):lX s bits nonce=some (Qm s.State bits nonce):=by
 unfold lX
 have hf:[s.State,[103,114,105,110,100],eJ nonce].flatten=s.State++(Mo++eJ nonce):=by simp [Mo]
 have h4:(eJ nonce).length=4:=cg nonce
 have h5:Mo.length=5:=rfl
 rw [aC om,DY,obs,qU (by rw [hf];simp only [List.length_append];omega) (by simp),obs,hf]
 have hl:=AO (s.State++(Mo++eJ nonce))
 unfold Qm
 generalize H (s.State++(Mo++eJ nonce))=h at hl
 rw [aC om,fK om om om,obs]
 have e:(h.drop (Int.toNat 0)).take (Int.toNat 4-Int.toNat 0)=[h.getD 0 0,h.getD 1 0,h.getD 2 0,h.getD 3 0]:=by
  show h.take 4=_
  exact b9Z om
 rw [e,D6,obs,aa _ om om,brd om,show (32:Int)-(bits:Int)=((32-bits:Nat):Int) by omega]
 have b0:=o2 (h.getD 0 0)
 have b1:=o2 (h.getD 1 0)
 have b2:=o2 (h.getD 2 0)
 have b3:=o2 (h.getD 3 0)
 obtain ⟨g1,g2⟩:=b5y bits hb
 rw [Zx om (by unfold be;omega),g1]
 congr 1
 have hiff:be (h.getD 0 0) (h.getD 1 0) (h.getD 2 0) (h.getD 3 0)<65536*((2^(16-bits):Nat):Int)↔(h.getD 0 0).toNat*256+(h.getD 1 0).toNat<2^(16-bits):=by
  unfold be;omega
 exact decide_eq_decide.2 hiff
theorem a4L {s:Source} {bits:Nat} {nonce:Int} (hs:s.State.length=32) (hb:bits≤12):xu s bits nonce=some (Qm s.State bits nonce):=by
 unfold xu
 have hf:s.State++[103,114,105,110,100]++eJ nonce=s.State++(Mo++eJ nonce):=by simp [Mo]
 have h4:(eJ nonce).length=4:=cg nonce
 have h5:Mo.length=5:=rfl
 rw [aC (by simp only [List.length_cons,List.length_nil];omega),vi,obs,aC (by simp only [List.length_append,List.length_cons,List.length_nil];omega),hf,oN (by simp only [List.length_append];omega),obs]
 have hl:=AO (s.State++(Mo++eJ nonce))
 unfold Qm
 generalize H (s.State++(Mo++eJ nonce))=h at hl
 have e0:atL h 0=some (h.getD 0 0):=Xc (k:=0) om
 have e1:atL h 1=some (h.getD 1 0):=Xc (k:=1) om
 have b0:=o2 (h.getD 0 0)
 have b1:=o2 (h.getD 1 0)
 rw [e0,obs,e1,obs]
 simp (disch:=omega) only [aa,cN]
 rw [brd om,show (16:Int)-(bits:Int)=((16-bits:Nat):Int) by omega,Zx om om,(b5y bits hb).2]
 congr 1
 exact decide_eq_decide.2 om
end Go.AI.Fn
set_option linter.unusedVariables false
namespace Go.AI.Fn
theorem a96 (x y:Int):gV x y=some (if x<y then-1 else if x>y then 1 else 0):=by
 unfold gV mb
 simp only [obs,bne_self_eq_false,aw]
 by_cases h:x<y
 ·rw [brd h,if_pos h]
 ·rw [brn h,if_neg h]
  by_cases h2:x>y
  ·rw [brd h2,if_pos h2]
  ·rw [brn h2,if_neg h2]
theorem Zn (a b:Int):dS 0 [a,b] (([a,b].length:Nat):Int) 0=br (a !=0) (some (.inr (.inl a))) (some (.inl 1)):=by
 simp only [dS]
 rw [brd (by simp),show atL [a,b] 0=some a by simp [atL],show IntKind.wrap .i64 (0+1)=1 by decide];rfl
theorem ZW (a b:Int):dS 0 [a,b] (([a,b].length:Nat):Int) 1=br (b !=0) (some (.inr (.inl b))) (some (.inl 2)):=by
 simp only [dS]
 rw [brd (by simp),show atL [a,b] 1=some b by simp [atL],show IntKind.wrap .i64 (1+1)=2 by decide];rfl
theorem b07 (a b:Int):dS 0 [a,b] (([a,b].length:Nat):Int) 2=some (.inr (.inr (2,false))):=by
 simp only [dS]
 rw [brn (by simp)];simp
theorem b9x (a b:Int):ub [a,b]=some (if a=0 then b else a):=by
 unfold ub
 by_cases ha:a=0
 ·rw [bn (s':=1) (by rw [Zn,cZ ha]),if_pos ha]
  by_cases hb:b=0
  ·rw [bn (s':=2) (by rw [ZW,cZ hb]),bA (b07 a b),hb];rfl
  ·rw [bA (e:= .inl b) (by rw [ZW,brb hb])];rfl
 ·rw [bA (e:= .inl a) (by rw [Zn,brb ha]),if_neg ha];rfl
def ltE (y x:Entry):Prop:=y.Row<x.Row∨(y.Row=x.Row∧y.Col<x.Col)
theorem b1d (y x:Entry): ∃c,ma y x=some c∧(c≥0↔ ¬ltE y x):=by
 unfold ma
 rw [a96,a96]
 simp only [obs,b9x]
 refine ⟨_,rfl, ?_⟩
 unfold ltE
 by_cases h1:y.Row<x.Row
 ·simp [h1]
 ·by_cases h2:y.Row>x.Row
  ·simp [h1,h2];omega
  ·have h3:y.Row=x.Row:=by omega
   by_cases h4:y.Col<x.Col
   ·simp [h3,h4]
   ·by_cases h5:y.Col>x.Col
    ·simp [h3,h4,h5]
    ·simp [h3,h4,h5]
def inE (R C:Int) (x:Entry):Prop:=(0≤x.Row∧x.Row≤R-1)∧(0≤x.Col∧x.Col≤C-1)∧1≤x.Value∧x.Value≤2130706432
def GO (l:List Entry) (R C:Int) (t:Nat):Prop:= ∃x,l[t]? =some x∧(¬inE R C x∨(0<t∧ ∃y,l[t-1]? =some y∧ ¬ltE y x))
open Classical in
noncomputable def uT (l:List Entry) (R C:Int):Bool:=decide (l.length≤200∧ ∀t, ¬GO l R C t)
open Classical in
theorem a8r {l:List Entry} {R C:Int} (h:l.length≤200) (g: ∀t, ¬GO l R C t):uT l R C=true:=by unfold uT;exact decide_eq_true ⟨h,g⟩
open Classical in
theorem UK {l:List Entry} {R C:Int} (h:l.length≤200→ ¬ ∀t, ¬GO l R C t):uT l R C=false:=by unfold uT;exact decide_eq_false fun g=>h g.1 g.2
open Classical in
theorem PU {l:List Entry} {R C:Int} (h:uT l R C=true):l.length≤200:=by unfold uT at h;exact (of_decide_eq_true h).1
theorem b0M (n a b:Int):ws n a b=some (decide (a≤n∧n≤b)):=by
 unfold ws
 by_cases h:a≤n
 ·rw [brd h];simp [h]
 ·rw [brn h];simp [h]
theorem a8l (n a b:Int):ff n a b=some (decide (a≤n∧n≤b)):=by
 unfold ff
 by_cases h:a≤n
 ·rw [brd h];simp [h]
 ·rw [brn h];simp [h]
theorem BW {l:List Entry} {R C:Int} (hl:l.length≤1099511627776) (hR:1≤R∧R≤4096) (hC:1≤C∧C≤4096):nh l R C=some (uT l R C):=by
 unfold nh
 have key:=mf (step:=kz l R C l ((l.length:Nat):Int)) (fun t=>0≤t∧t≤l.length∧ ∀k:Nat,(k:Int)<t→ ¬GO l R C k) (fun t=>(l.length-t).toNat)
  (fun e=>(∃x,e= .inl x∧ ∃k,GO l R C k)∨(∃x,e= .inr x∧ ∀k, ¬GO l R C k)) ?_ 0 ⟨by omega,by omega,by omega⟩
 ·obtain ⟨e,he,⟨x,rfl,k,hk⟩|⟨x,rfl,hk⟩⟩:=key
  ·rw [he]
   simp only [obs,jX]
   rw [UK fun _ h=>h k hk]
  ·rw [he]
   simp only [obs,mN]
   by_cases h:l.length≤200
   ·rw [decide_eq_true om,a8r h hk]
   ·rw [decide_eq_false om,UK fun g=>absurd g h]
 ·intro t ⟨h0,h1,h2⟩
  simp only [kz]
  by_cases c:t<(l.length:Int)
  ·obtain ⟨x,r,e1,e2,e3⟩:=lb (l:=l) (i:=t.toNat) om
   have next: ¬GO l R C t.toNat→(fun t:Int=>0≤t∧t≤l.length∧ ∀k:Nat,(k:Int)<t→ ¬GO l R C k) (t+1):=by
    intro hn
    refine ⟨by omega,by omega,fun k hk=> ?_⟩
    by_cases e:k=t.toNat
    ·subst e;exact hn
    ·exact h2 k om
   rw [brd c,E6 h0 e3]
   simp only [obs,b0M]
   rw [aa (R-1) om om,aa (C-1) om om,aa (t+1) om om]
   by_cases i1:0≤x.Row∧x.Row≤R-1
   ·rw [Xm i1]
    by_cases i2:0≤x.Col∧x.Col≤C-1
    ·rw [Xm i2]
     by_cases i3:1≤x.Value∧x.Value≤2130706432
     ·rw [Xm i3]
      by_cases c3:t>0
      ·rw [brd c3,aa (t-1) om om]
       obtain ⟨y,r2,f1,f2,f3⟩:=lb (l:=l) (i:=(t-1).toNat) om
       rw [E6 om f3]
       simp only [obs]
       obtain ⟨d,hd,hd2⟩:=b1d y x
       rw [hd]
       simp only [obs]
       rw [show (t-1).toNat=t.toNat-1 by omega] at f3
       by_cases c4:d≥0
       ·rw [brd c4]
        exact .inr ⟨_,rfl,.inl ⟨_,rfl,t.toNat,x,e3,.inr ⟨by omega,y,f3,hd2.1 c4⟩⟩⟩
       ·rw [brn c4]
        refine .inl ⟨_,rfl,next ?_,by omega⟩
        rintro ⟨x',g1,g|⟨_,y',g2,g3⟩⟩
        ·rw [e3] at g1;cases g1;exact g ⟨i1,i2,i3⟩
        ·rw [e3] at g1;cases g1;rw [f3] at g2;cases g2;exact c4 (hd2.2 g3)
      ·rw [brn c3]
       refine .inl ⟨_,rfl,next ?_,by omega⟩
       rintro ⟨x',g1,g|⟨g0,_⟩⟩
       ·rw [e3] at g1;cases g1;exact g ⟨i1,i2,i3⟩
       ·omega
     ·rw [Vg i3]
      exact .inr ⟨_,rfl,.inl ⟨_,rfl,t.toNat,x,e3,.inl fun g=>i3 g.2.2⟩⟩
    ·rw [Vg i2]
     exact .inr ⟨_,rfl,.inl ⟨_,rfl,t.toNat,x,e3,.inl fun g=>i2 g.2.1⟩⟩
   ·rw [Vg i1]
    exact .inr ⟨_,rfl,.inl ⟨_,rfl,t.toNat,x,e3,.inl fun g=>i1 g.1⟩⟩
  ·rw [brn c]
   refine .inr ⟨_,rfl,.inr ⟨_,rfl,fun k hk=> ?_⟩⟩
   have hkl:k<l.length:=by
    obtain ⟨x,hx,_⟩:=hk
    obtain ⟨h,_⟩:=List.getElem?_eq_some_iff.1 hx
    exact h
   exact h2 k om hk
theorem Wm {l:List Entry} {r c:Int} (hr:0≤r∧r≤5) (hc:0≤c∧c≤5) {R C:Int} (hR:aD .i64 1 r=R) (hC:aD .i64 1 c=C) (hR':1≤R∧R≤4096) (hC':1≤C∧C≤4096):p9 l r c=some (uT l R C):=by
 unfold p9
 by_cases hl:(l.length:Int)>200
 ·rw [brd hl]
  rw [UK om]
 rw [brn hl]
 have key:=mf (step:=lT l r c) (fun t=>0≤t∧t≤l.length∧ ∀k:Nat,(k:Int)<t→ ¬GO l R C k) (fun t=>(l.length-t).toNat)
  (fun e=>(∃x,e= .inl x∧ ∃k,GO l R C k)∨(∃x,e= .inr x∧ ∀k, ¬GO l R C k)) ?_ 0 ⟨by omega,by omega,by omega⟩
 ·obtain ⟨e,he,⟨x,rfl,k,hk⟩|⟨x,rfl,hk⟩⟩:=key
  ·rw [he]
   simp only [obs,jX]
   rw [UK fun _ h=>h k hk]
  ·rw [he]
   simp only [obs,mN]
   rw [a8r om hk]
 ·intro t ⟨h0,h1,h2⟩
  simp only [lT]
  rw [cN r om om,cN c om om,hR,hC]
  by_cases ct:t<(l.length:Int)
  ·obtain ⟨x,rest,e1,e2,e3⟩:=lb (l:=l) (i:=t.toNat) om
   have next: ¬GO l R C t.toNat→(fun t:Int=>0≤t∧t≤l.length∧ ∀k:Nat,(k:Int)<t→ ¬GO l R C k) (t+1):=by
    intro hn
    refine ⟨by omega,by omega,fun k hk=> ?_⟩
    by_cases e:k=t.toNat
    ·subst e;exact hn
    ·exact h2 k om
   rw [brd ct,E6 h0 e3]
   simp only [obs,a8l]
   rw [brd hr.1]
   rw [aa (R-1) om om,aa (C-1) om om,aa (t+1) om om]
   by_cases i1:0≤x.Row∧x.Row≤R-1
   ·rw [Xm i1,brd hc.1]
    by_cases i2:0≤x.Col∧x.Col≤C-1
    ·rw [Xm i2]
     by_cases i3:1≤x.Value∧x.Value≤2130706432
     ·rw [Xm i3]
      by_cases c3:t>0
      ·rw [brd c3,aa (t-1) om om]
       obtain ⟨y,r2,f1,f2,f3⟩:=lb (l:=l) (i:=(t-1).toNat) om
       rw [E6 om f3]
       simp only [obs]
       rw [show (t-1).toNat=t.toNat-1 by omega] at f3
       have good:ltE y x→ ¬GO l R C t.toNat:=by
        rintro hlt ⟨x',g1,g|⟨_,y',g2,g3⟩⟩
        ·rw [e3] at g1;cases g1;exact g ⟨i1,i2,i3⟩
        ·rw [e3] at g1;cases g1;rw [f3] at g2;cases g2;exact g3 hlt
       have bad: ¬ltE y x→GO l R C t.toNat:=fun h=>⟨x,e3,.inr ⟨by omega,y,f3,h⟩⟩
       by_cases c4:y.Row>x.Row
       ·rw [brd c4]
        exact .inr ⟨_,rfl,.inl ⟨_,rfl,_,bad (by unfold ltE;omega)⟩⟩
       ·rw [brn c4]
        by_cases c5:y.Row=x.Row
        ·rw [bre c5]
         by_cases c6:y.Col≥x.Col
         ·rw [brd c6]
          exact .inr ⟨_,rfl,.inl ⟨_,rfl,_,bad (by unfold ltE;omega)⟩⟩
         ·rw [brn c6]
          exact .inl ⟨_,rfl,next (good (by unfold ltE;omega)),by omega⟩
        ·rw [Pu c5]
         exact .inl ⟨_,rfl,next (good (by unfold ltE;omega)),by omega⟩
      ·rw [brn c3]
       refine .inl ⟨_,rfl,next ?_,by omega⟩
       rintro ⟨x',g1,g|⟨g0,_⟩⟩
       ·rw [e3] at g1;cases g1;exact g ⟨i1,i2,i3⟩
       ·omega
     ·rw [Vg i3]
      exact .inr ⟨_,rfl,.inl ⟨_,rfl,t.toNat,x,e3,.inl fun g=>i3 g.2.2⟩⟩
    ·rw [Vg i2]
     exact .inr ⟨_,rfl,.inl ⟨_,rfl,t.toNat,x,e3,.inl fun g=>i2 g.2.1⟩⟩
   ·rw [Vg i1]
    exact .inr ⟨_,rfl,.inl ⟨_,rfl,t.toNat,x,e3,.inl fun g=>i1 g.1⟩⟩
  ·rw [brn ct]
   refine .inr ⟨_,rfl,.inr ⟨_,rfl,fun k hk=> ?_⟩⟩
   have hkl:k<l.length:=by
    obtain ⟨x,hx,_⟩:=hk
    obtain ⟨h,_⟩:=List.getElem?_eq_some_iff.1 hx
    exact h
   exact h2 k om hk
end Go.AI.Fn
set_option linter.unusedVariables false
namespace Go.AI.Fn
theorem GA {k:Int} (h:0≤k∧k≤5):1≤aD .i64 1 k∧aD .i64 1 k≤4096:=by
 have:k=0∨k=1∨k=2∨k=3∨k=4∨k=5:=by omega
 rcases this with rfl|rfl|rfl|rfl|rfl|rfl<;>decide
noncomputable def ne (s:System):Bool:=
 decide (1≤s.Rows∧s.Rows≤5)&&(decide (2≤s.Cols∧s.Cols≤5)&&(decide (0≤s.Publics∧s.Publics≤aD .i64 1 (s.Cols-1)-1)&&
  (uT s.A (aD .i64 1 s.Rows) (aD .i64 1 s.Cols)&&(uT s.B (aD .i64 1 s.Rows) (aD .i64 1 s.Cols)&&uT s.C (aD .i64 1 s.Rows) (aD .i64 1 s.Cols)))))
theorem FV {s:System} (hA:s.A.length≤1099511627776) (hB:s.B.length≤1099511627776) (hC:s.C.length≤1099511627776):oP s=some (ne s):=by
 unfold oP ne
 simp only [b0M,obs]
 by_cases h1:1≤s.Rows∧s.Rows≤5
 ·rw [Xm h1]
  by_cases h2:2≤s.Cols∧s.Cols≤5
  ·rw [Xm h2]
   have k1:=GA (k:=s.Rows) om
   have k2:=GA (k:=s.Cols) om
   have k3:=GA (k:=s.Cols-1) om
   unfold fT dj
   rw [aa (s.Cols-1) om om,brd om]
   simp only [obs]
   rw [aa (aD .i64 1 (s.Cols-1)-1) om om]
   by_cases h3:0≤s.Publics∧s.Publics≤aD .i64 1 (s.Cols-1)-1
   ·rw [Xm h3,brd om,brd om,BW hA k1 k2]
    simp only [obs]
    rw [decide_eq_true h1,decide_eq_true h2,decide_eq_true h3]
    cases uT s.A (aD .i64 1 s.Rows) (aD .i64 1 s.Cols)
    ·rfl
    ·simp only [Bool.not_true,aw]
     rw [brd om,brd om,BW hB k1 k2]
     simp only [obs]
     cases uT s.B (aD .i64 1 s.Rows) (aD .i64 1 s.Cols)
     ·rfl
     ·simp only [Bool.not_true,aw]
      rw [brd om,brd om,BW hC k1 k2]
      simp only [obs]
      cases uT s.C (aD .i64 1 s.Rows) (aD .i64 1 s.Cols)<;>rfl
   ·rw [Vg h3,decide_eq_true h1,decide_eq_true h2,decide_eq_false h3];rfl
  ·rw [Vg h2,decide_eq_true h1,decide_eq_false h2];rfl
 ·rw [Vg h1,decide_eq_false h1];rfl
theorem FG (s:System):oL s=some (ne s):=by
 unfold oL ne
 simp only [a8l,obs]
 by_cases h1:1≤s.Rows∧s.Rows≤5
 ·rw [brd h1]
  by_cases h2:2≤s.Cols∧s.Cols≤5
  ·rw [brd h2]
   have k1:=GA (k:=s.Rows) om
   have k2:=GA (k:=s.Cols) om
   have k3:=GA (k:=s.Cols-1) om
   rw [aa (s.Cols-1) om om,cN (s.Cols-1) om om,brd om,aa (aD .i64 1 (s.Cols-1)-1) om om]
   by_cases h3:0≤s.Publics∧s.Publics≤aD .i64 1 (s.Cols-1)-1
   ·rw [brd h3,Wm om om rfl rfl k1 k2,Wm om om rfl rfl k1 k2,Wm om om rfl rfl k1 k2]
    rw [decide_eq_true h1,decide_eq_true h2,decide_eq_true h3]
    cases uT s.A (aD .i64 1 s.Rows) (aD .i64 1 s.Cols)<;>cases uT s.B (aD .i64 1 s.Rows) (aD .i64 1 s.Cols)<;>cases uT s.C (aD .i64 1 s.Rows) (aD .i64 1 s.Cols)<;>rfl
   ·rw [brn h3,decide_eq_true h1,decide_eq_true h2,decide_eq_false h3];rfl
  ·rw [brn h2,decide_eq_true h1,decide_eq_false h2];rfl
 ·rw [brn h1,decide_eq_false h1];rfl
theorem fQ {s:System} (h:ne s=true):(1≤s.Rows∧s.Rows≤5)∧(2≤s.Cols∧s.Cols≤5)∧(0≤s.Publics∧s.Publics≤4096)∧s.A.length≤200∧s.B.length≤200∧s.C.length≤200:=by
 unfold ne at h
 simp only [Bool.and_eq_true,decide_eq_true_eq] at h
 obtain ⟨h1,h2,h3,h4,h5,h6⟩:=h
 have k3:=GA (k:=s.Cols-1) om
 exact ⟨h1,h2,by omega,PU h4,PU h5,PU h6⟩
def setB (t:Setting):Bool:=decide (1≤t.Rate∧t.Rate≤3)&&(decide (1≤t.Queries∧t.Queries≤8)&&decide (0≤t.Grind∧t.Grind≤12))
theorem u4 (t:Setting):kA t=some (setB t):=by
 unfold kA setB
 simp only [b0M,obs]
 cases decide (1≤t.Rate∧t.Rate≤3)<;>cases decide (1≤t.Queries∧t.Queries≤8)<;>rfl
theorem uK (t:Setting):kK t=some (setB t):=by
 unfold kK setB
 simp only [a8l,obs]
 cases decide (1≤t.Rate∧t.Rate≤3)<;>cases decide (1≤t.Queries∧t.Queries≤8)<;>rfl
theorem hG {t:Setting} (h:setB t=true):(1≤t.Rate∧t.Rate≤3)∧(1≤t.Queries∧t.Queries≤8)∧0≤t.Grind∧t.Grind≤12:=by
 unfold setB at h
 simpa only [Bool.and_eq_true,decide_eq_true_eq] using h
theorem a1m {a:List Entry} {left:Int} (ha:a.length≤9223372036854775807) (h0: -1≤left) (h1:left≤1048576): ∃r,ni a left=some r∧ -1≤r∧r≤1048576∧(0≤r→a.length≤1048576):=by
 unfold ni
 rw [aa _ om om]
 by_cases c:left-(a.length:Int)<0
 ·rw [brd c];exact ⟨_,rfl,by omega,by omega,by omega⟩
 ·rw [brn c];exact ⟨_,rfl,by omega,by omega,by omega⟩
theorem b6i {s:System} {left:Int} (hA:s.A.length≤9223372036854775807) (hB:s.B.length≤9223372036854775807) (hC:s.C.length≤9223372036854775807) (h0: -1≤left) (h1:left≤1048576):
 ∃r,tX s left=some r∧ -1≤r∧r≤1048576∧(0≤r→s.A.length≤1048576∧s.B.length≤1048576∧s.C.length≤1048576):=by
 unfold tX
 obtain ⟨a,ea,a0,a1,a2⟩:=a1m (left:=left) hA om om
 rw [ea]
 simp only [obs]
 by_cases ca:a<0
 ·rw [brd ca];exact ⟨_,rfl,by omega,by omega,by omega⟩
 rw [brn ca]
 obtain ⟨b,eb,b0,b1,b2⟩:=a1m (left:=a) hB a0 a1
 rw [eb]
 simp only [obs]
 by_cases cb:b<0
 ·rw [brd cb];exact ⟨_,rfl,by omega,by omega,by omega⟩
 rw [brn cb]
 obtain ⟨c,ec,c0,c1,c2⟩:=a1m (left:=b) hC b0 b1
 rw [ec]
 simp only [obs]
 by_cases cc:c<0
 ·rw [brd cc];exact ⟨_,rfl,by omega,by omega,by omega⟩
 rw [brn cc]
 exact ⟨_,rfl,by omega,by omega,fun _=>⟨a2 om,b2 om,c2 om⟩⟩
theorem a0R {a:List Entry} (ha:a.length≤1048576):nm a=some a:=by
 unfold nm
 have hm:xU ((a.length:Nat):Int) ((a.length:Nat):Int) 24=true:=by
  have h24:((a.length:Nat):Int)*((24:Nat):Int)≤((bx:Nat):Int):=by simp only [bx];omega
  unfold xU;rw [decide_eq_true (show (0:Int)≤((a.length:Nat):Int) by omega),decide_eq_true (Int.le_refl _),decide_eq_true h24];rfl
 rw [v9 hm]
 have key:=mf (step:=ki a) (fun s=>0≤s.2∧s.2≤a.length∧s.1.length=a.length∧ ∀k:Nat,(k:Int)<s.2→s.1[k]? =a[k]?) (fun s=>(a.length-s.2).toNat)
  (fun e=>e.1=a) ?_ ((List.replicate (((a.length:Nat):Int).toNat) (Entry.mk (0:Int) (0:Int) (0:Int))),(0:Int)) ⟨by simp,by simp,by simp,fun k (hk:(k:Int)<0)=>by omega⟩
 ·obtain ⟨e,he,h⟩:=key
  rw [he];simp only [obs,h]
 ·rintro ⟨l,i⟩ ⟨h0,h1,hl,h2⟩
  dsimp only at h0 h1 hl h2
  simp only [ki]
  by_cases c:i<(a.length:Int)
  ·obtain ⟨x,rest,e1,e2,e3⟩:=lb (l:=a) (i:=i.toNat) om
   obtain ⟨y,rest2,f1,f2,f3⟩:=lb (l:=l) (i:=i.toNat) om
   rw [brd c,E6 h0 e3]
   simp only [obs,DL]
   rw [brd h0,brd om,f3]
   simp only [obs]
   rw [aa (i+1) om om]
   refine .inl ⟨_,rfl,⟨by dsimp only;omega,by dsimp only;omega,by simp [hl],fun k hk=> ?_⟩,by dsimp only;omega⟩
   dsimp only at hk ⊢
   rw [List.getElem?_set]
   by_cases e:i.toNat=k
   ·rw [if_pos e,if_pos om, ←e,e3]
   ·rw [if_neg e];exact h2 k om
  ·rw [brn c]
   refine .inr ⟨_,rfl, ?_⟩
   apply List.ext_getElem?
   intro k
   show l[k]? =a[k]?
   by_cases hk:k<a.length
   ·exact h2 k om
   ·rw [List.getElem?_eq_none om,List.getElem?_eq_none om]
theorem b8q {s:System} (hA:s.A.length≤1048576) (hB:s.B.length≤1048576) (hC:s.C.length≤1048576):ng s=some s:=by
 unfold ng
 rw [a0R hA,a0R hB,a0R hC];rfl
theorem a1K {a:List Entry} (ha:a.length≤1048576):nv a a=some true:=by
 unfold nv
 rw [cZ rfl]
 have key:=mf (step:=kE a a) (fun t=>0≤t∧t≤a.length) (fun t=>(a.length-t).toNat) (fun e=> ∃p,e= .inr p) ?_ 0 ⟨by omega,by omega⟩
 ·obtain ⟨e,he,p,rfl⟩:=key
  rw [he];rfl
 ·intro t ⟨h0,h1⟩
  simp only [kE]
  by_cases c:t<(a.length:Int)
  ·left
   obtain ⟨x,r,e1,e2,e3⟩:=lb (l:=a) (i:=t.toNat) om
   rw [brd c,E6 h0 e3]
   simp only [obs,Dz]
   rw [cZ rfl,cZ rfl,cZ rfl]
   simp only [obs,Bool.not_true,aw]
   rw [aa (t+1) om om]
   exact ⟨_,rfl,⟨by omega,by omega⟩,by omega⟩
  ·right
   rw [brn c]
   exact ⟨_,rfl,_,rfl⟩
theorem b5T {s:System} (hA:s.A.length≤1048576) (hB:s.B.length≤1048576) (hC:s.C.length≤1048576):ui s s=some true:=by
 unfold ui
 rw [cZ rfl,cZ rfl,cZ rfl,a1K hA,a1K hB,a1K hC];rfl
end Go.AI.Fn
set_option linter.unusedVariables false
set_option linter.unusedSimpArgs false
namespace Go.AI.Fn
def Xs (n:Nat) (p:Nat→Bool):Bool:=(List.range n).all p
theorem qY {n:Nat} {p:Nat→Bool}:Xs n p=true↔ ∀j,j<n→p j=true:=by simp [Xs]
theorem If {n:Nat} {p:Nat→Bool} (h: ∀j,j<n→p j=true):Xs n p=true:=qY.2 h
theorem b4B {n:Nat} {p:Nat→Bool} {k:Nat} (hk:k<n) (h:p k=false):Xs n p=false:=by
 refine Bool.eq_false_iff.2 fun e=> ?_
 rw [qY.1 e k hk] at h;cases h
theorem yt {E1 E2 R:Type} {step:Int→Option (Int⊕(E1⊕E2))} (n:Nat) (p:Nat→Bool) (e1:Nat→E1) {e2:E2} {f:E1→Option R} {g:E2→Option R} {x y:R} (hs: ∀k,k<n→p k=true→step (k:Int)=some (.inl ((k+1:Nat):Int)))
 (hx: ∀k,k<n→p k=false→step (k:Int)=some (.inr (.inl (e1 k)))) (he:step (n:Int)=some (.inr (.inr e2))) (hf: ∀e,f e=some x) (hg:g e2=some y):
 (Loop step 0).bind (alt f g)=some (if Xs n p=true then y else x):=by
 rcases HZ (step:=step) (fun k=>(k:Int)) n p (fun k=> .inl (e1 k)) hs hx he with ⟨h1,h2⟩|⟨k,hk,h1,_,h2⟩
 ·have h2':Loop step 0=_:=h2
  rw [h2',if_pos (If h1),obs,mN,hg]
 ·have h2':Loop step 0=_:=h2
  rw [h2',if_neg (by rw [b4B hk h1];decide),obs,jX,hf]
theorem YW {b:Bool}:(if b=true then true else false)=b:=by cases b<;>rfl
def h32 (x:List UInt8):Bool:=decide (x.length=32)
theorem JU {l:List (List UInt8)} (hl:l.length≤1099511627776):dV l=some (l.all h32):=by
 unfold dV aO aT
 rw [tA (step:=aN l ((l.length:Nat):Int)) (p:=fun x=> !h32 x) (f:=ey) hl (fun x _=>by unfold ey;rw [vl];rfl) (fun t=>rfl),obs,qQ]
def oC (size:Int) (g:List Ext):Bool:=decide ((g.length:Int)=size)&&g.all iE
def y5 (R:List (List Ext)) (many size:Int):Bool:=decide ((R.length:Int)=many)&&R.all (oC size)
theorem Ox {α C:Type} {p:α→Bool} {f:α→C→Option (Bool×C)} {l:List α} {c:C} (hl:l.length≤1099511627776) (hf: ∀x∈l,f x c=some (p x,c)) {step:Int×C→Option ((Int×C)⊕((Int×C)⊕(Int×Bool×C)))}
 (hs: ∀t,step (t,c)=br (decide (t<((l.length:Nat):Int))) ((atL l t).bind fun x=>(f x c).bind fun r=>br r.1 (some (.inr (.inl (t,r.2)))) (some (.inl (IntKind.wrap .i64 (t+1),r.2)))) (some (.inr (.inr (t,decide (t<((l.length:Nat):Int)),c))))):
 ∃n:Int,Loop step (0,c)=some (if l.any p then .inl (n,c) else .inr (n,false,c))∧0≤n:=by
 have key:=HZ (step:=step) (fun k=>((k:Int),c)) l.length (fun k=> !((l[k]?.map p).getD false)) (fun k=> .inl ((k:Int),c)) (e:= .inr ((l.length:Int),false,c)) (fun k hk hp=>by
  have hb:p l[k]=false:=by simpa [hk] using hp
  rw [hs,brd om,bO hk,obs,hf _ (List.getElem_mem hk),obs,hb,aw,aa _ om om];rfl)
  (fun k hk hp=>by
   have hb:p l[k]=true:=by simpa [hk] using hp
   rw [hs,brd om,bO hk,obs,hf _ (List.getElem_mem hk),obs,hb,bF])
  (by rw [hs,brn om,decide_eq_false om])
 rcases key with ⟨h1,h2⟩|⟨k,hk,h1,_,h2⟩
 ·exact ⟨(l.length:Int),by rw [a3Z (fun k hk=>by simpa [hk] using h1 k hk)];exact h2,by omega⟩
 ·exact ⟨(k:Int),by rw [O9 hk (by simpa [hk] using h1)];exact h2,by omega⟩
theorem uO {R:List (List Ext)} {many size:Int} (hl:R.length≤1099511627776) (hR: ∀g∈R,g.length≤1099511627776):kD R many size=some (y5 R many size):=by
 unfold kD y5
 by_cases h:(R.length:Int)=many
 ·rw [bre h,decide_eq_true h]
  obtain ⟨n,e,hn⟩:=Ox (c:=size) (p:=fun g=> !oC size g) (f:=m0) (l:=R) hl (fun x hx=>by
   unfold m0 oC
   by_cases h2:(x.length:Int)=size
   ·rw [cZ h2,DF (hR x hx),obs,decide_eq_true h2];rfl
   ·rw [brb h2,decide_eq_false h2];rfl) (step:=ba R ((R.length:Nat):Int)) (fun t=>rfl)
  unfold bg bp
  rw [e, ←qQ (oC size)]
  cases (R.any fun g=> !oC size g)
  ·rfl
  ·simp only [if_pos,obs,jX,decide_eq_true (show n≥0 from hn)];rfl
 ·rw [Pu h,decide_eq_false h];rfl
def YU (vars:Int) (t:Setting) (q:aj) (j:Nat):Bool:=decide (((q.Paths.getD j []).length:Int)=vars+t.Rate-1-j)&&(q.Paths.getD j []).all h32
def Iy (vars:Int) (t:Setting) (q:aj):Bool:=decide ((q.Pairs.length:Int)=2*vars)&&(q.Pairs.all iE&&(decide ((q.Paths.length:Int)=vars)&&Xs vars.toNat (YU vars t q)))
def okO (o:au) (vars:Int) (t:Setting):Bool:=decide (1≤vars∧vars≤6)&&(setB t&&(y5 o.Rounds vars 3&&(decide ((o.Roots.length:Int)=vars-1)&&(o.Roots.all h32&&(iE o.Last&&(decide (0≤o.Nonce∧o.Nonce≤65535)&&(decide ((o.Queries.length:Int)=t.Queries)&&o.Queries.all (Iy vars t))))))))
structure SmO (o:au):Prop where
 rn:o.Rounds.length≤1099511627776
 rr: ∀g∈o.Rounds,g.length≤1099511627776
 ro:o.Roots.length≤1099511627776
 qn:o.Queries.length≤1099511627776
 qp: ∀q∈o.Queries,q.Pairs.length≤1099511627776
 qt: ∀q∈o.Queries, ∀p∈q.Paths,p.length≤1099511627776
theorem GH {l:List (List (List UInt8))} {j:Nat} (h:j<l.length):atL l (j:Int)=some (l.getD j []):=by rw [bO h];simp [h]
theorem Vr {l:List (List (List UInt8))} {j:Nat} (h:j<l.length):l.getD j []∈l:=by simp [h]
theorem Wi {q:aj} {vars:Int} {t:Setting} (hv:1≤vars∧vars≤6) (ht:setB t=true) (hp:q.Pairs.length≤1099511627776) (hq: ∀p∈q.Paths,p.length≤1099511627776):tJ q vars t=some (Iy vars t q):=by
 have h2:=hG ht
 unfold tJ Iy
 rw [aa _ om om]
 by_cases c1:(q.Pairs.length:Int)=2*vars
 ·rw [cZ c1,decide_eq_true c1,DF hp,obs]
  cases hb:q.Pairs.all iE
  ·rfl
  ·rw [Bool.not_true,aw]
   by_cases c2:(q.Paths.length:Int)=vars
   ·rw [cZ c2,decide_eq_true c2]
    have hn:vars.toNat=q.Paths.length:=by omega
    have key:=yt (step:=ip vars q.Paths ((q.Paths.length:Nat):Int) q.Pairs q.Paths t.Rate t.Queries t.Grind) vars.toNat (YU vars t q) (fun _=>()) (e2:=((vars.toNat:Int),false)) (f:=fun _=>some false) (g:=fun _=>some true) (x:=false) (y:=true) (fun k hk hp=>by
     have hm:=hq _ (Vr (l:=q.Paths) (j:=k) om)
     simp only [YU,Bool.and_eq_true,decide_eq_true_eq] at hp
     simp only [ip]
     rw [brd om,GH om,obs,aa (vars+t.Rate) om om,aa (vars+t.Rate-1) om om,aa (vars+t.Rate-1-k) om om,cZ hp.1,JU hm,obs,hp.2,Bool.not_true,aw,aa _ om om];rfl) (fun k hk hp=>by
     have hm:=hq _ (Vr (l:=q.Paths) (j:=k) om)
     simp only [ip]
     rw [brd om,GH om,obs,aa (vars+t.Rate) om om,aa (vars+t.Rate-1) om om,aa (vars+t.Rate-1-k) om om]
     by_cases c3:((q.Paths.getD k []).length:Int)=vars+t.Rate-1-k
     ·rw [cZ c3,JU hm,obs]
      rw [YU,decide_eq_true c3,Bool.true_and] at hp
      rw [hp];rfl
     ·rw [brb c3]) (by
     simp only [ip]
     rw [brn om,decide_eq_false om]) (fun _=>rfl) rfl
    rw [YW] at key
    rw [key];rfl
   ·rw [brb c2,decide_eq_false c2];rfl
 ·rw [brb c1,decide_eq_false c1];rfl
theorem Oq {o:au} {vars:Int} {t:Setting} (S:SmO o):rL o vars t=some (okO o vars t):=by
 unfold rL okO
 rw [Dy,obs]
 by_cases hv:1≤vars∧vars≤6
 ·rw [decide_eq_true hv,decide_eq_true hv.1,decide_eq_true hv.2,Bool.and_self,bF,u4,obs,Bool.true_and]
  cases ht:setB t
  ·rfl
  ·rw [bF,uO S.rn S.rr,obs,Bool.true_and]
   cases hr:y5 o.Rounds vars 3
   ·rfl
   ·rw [bF,aa _ om om,Bool.true_and]
    by_cases c1:(o.Roots.length:Int)=vars-1
    ·rw [bre c1,decide_eq_true c1,JU S.ro,obs,Bool.true_and]
     cases hh:o.Roots.all h32
     ·rfl
     ·rw [bF,pp,obs,Bool.true_and]
      cases hl:iE o.Last
      ·rfl
      ·rw [bF,Dy,obs,Bool.true_and]
       by_cases c2:0≤o.Nonce∧o.Nonce≤65535
       ·rw [decide_eq_true c2,decide_eq_true c2.1,decide_eq_true c2.2,Bool.and_self,bF,Bool.true_and]
        by_cases c3:(o.Queries.length:Int)=t.Queries
        ·rw [bre c3,decide_eq_true c3,Bool.true_and]
         obtain ⟨n,e,hn⟩:=Ox (c:=(vars,t.Rate,t.Queries,t.Grind)) (p:=fun q=> !Iy vars t q) (f:=fun x c=>(bU x c.1 ⟨c.2.1,c.2.2.1,c.2.2.2⟩).bind fun r=>some (r.1,r.2.1,r.2.2.Rate,r.2.2.Queries,r.2.2.Grind)) (l:=o.Queries) S.qn (fun x hx=>by
          unfold bU qH
          show ((((tJ x vars t).bind _).bind _).bind _)=_
          rw [Wi hv ht (S.qp x hx) (S.qt x hx)];rfl) (step:=am o.Queries ((o.Queries.length:Nat):Int)) (fun z=>by
          show am _ _ (z,vars,t.Rate,t.Queries,t.Grind)=_
          simp only [am]
          congr 1
          cases atL o.Queries z with
          |none=>rfl
          |some x=>
           simp only [obs]
           cases bU x vars ⟨t.Rate,t.Queries,t.Grind⟩<;>rfl)
         unfold eo aJ aK
         rw [e, ←qQ (Iy vars t)]
         cases (o.Queries.any fun q=> !Iy vars t q)
         ·rfl
         ·simp only [if_pos,obs,jX,decide_eq_true (show n≥0 from hn)]
        ·rw [Pu c3,decide_eq_false c3];rfl
       ·rw [decide_eq_false c2]
        have:(decide (0≤o.Nonce)&&decide (o.Nonce≤65535))=false:=by
         rw [←Bool.decide_and];exact decide_eq_false c2
        rw [this];rfl
    ·rw [Pu c1,decide_eq_false c1];rfl
 ·rw [decide_eq_false hv]
  have:(decide (1≤vars)&&decide (vars≤6))=false:=by
   rw [←Bool.decide_and];exact decide_eq_false hv
  rw [this];rfl
end Go.AI.Fn
set_option linter.unusedVariables false
set_option linter.unusedSimpArgs false
namespace Go.AI.Fn
theorem xg {α:Type} (l:List α) (d:α) (P:α→Bool):Xs l.length (fun k=>P (l.getD k d))=l.all P:=by
 refine Bool.eq_iff_iff.2 ⟨fun h=>List.all_eq_true.2 fun x hx=> ?_,fun h=>If fun k hk=> ?_⟩
 ·obtain ⟨k,hk,rfl⟩:=List.getElem_of_mem hx
  have:=qY.1 h k hk
  simpa [hk] using this
 ·have:=List.all_eq_true.1 h _ (List.getElem_mem hk)
  simpa [hk] using this
theorem mV {α:Type} {l:List α} {d:α} {j:Nat} (h:j<l.length):atL l (j:Int)=some (l.getD j d):=by rw [bO h];simp [h]
theorem Nq {a t9:Int} {c30:List (List Ext)} {c31:List (List UInt8)} {c32 c33 c34:Int} {c35:List aj} {c36 c37 c38:Int} {c39:List Ext} {C:List (List (List UInt8))} {j:Nat} (hj:j<C.length) (hl:(C.getD j []).length≤1099511627776) {R:Type} {x y:R}:
 (Loop (fq a t9 (j:Int) c30 c31 c32 c33 c34 c35 c36 c37 c38 c39 C) 0).bind (alt (fun _=>some x) (fun _=>some y))=some (if (C.getD j []).all h32=true then y else x):=by
 rw [←xg (C.getD j []) [] h32]
 refine yt (C.getD j []).length _ (fun _=>()) (fun k hk hp=> ?_) (fun k hk hp=> ?_) (e2:=(((C.getD j []).length:Int),false)) ?_ (fun _=>rfl) rfl
 ·simp only [fq]
  simp only [h32,decide_eq_true_eq] at hp
  rw [GH hj,obs,brd om,obs,mV (d:=[]) hk,obs,cZ om,aa _ om om];rfl
 ·simp only [fq]
  simp only [h32,decide_eq_false_iff_not] at hp
  rw [GH hj,obs,brd om,obs,mV (d:=[]) hk,obs,brb om]
 ·simp only [fq]
  rw [GH hj,obs,brn om,decide_eq_false om]
theorem Na {vars:Int} {t:Setting} {q:aj} {t6:Int} {c19:List (List Ext)} {c20:List (List UInt8)} {c21 c22 c23:Int} {c24:List aj} {c26 c27:Int} {c28:List Ext} (hv:1≤vars∧vars≤6) (ht:setB t=true) (hq:(q.Paths.length:Int)=vars) (hl: ∀p∈q.Paths,p.length≤1099511627776) {R:Type} {x y:R}:
 (Loop (fA vars t6 c19 c20 c21 c22 c23 c24 t.Rate c26 c27 c28 q.Paths) 0).bind (alt (fun _=>some x) (fun _=>some y))=some (if Xs vars.toNat (YU vars t q)=true then y else x):=by
 have h2:=hG ht
 refine yt vars.toNat _ (fun _=>()) (fun k hk hp=> ?_) (fun k hk hp=> ?_) (e2:=((vars.toNat:Int),false)) ?_ (fun _=>rfl) rfl
 ·have hm:=hl _ (Vr (l:=q.Paths) (j:=k) om)
  simp only [YU,Bool.and_eq_true,decide_eq_true_eq] at hp
  simp only [fA]
  rw [brd om,GH om,obs,aa (vars+t.Rate) om om,aa (vars+t.Rate-1) om om,aa (vars+t.Rate-1-k) om om,cZ hp.1,Nq om hm,if_pos hp.2,aa _ om om];rfl
 ·have hm:=hl _ (Vr (l:=q.Paths) (j:=k) om)
  simp only [fA]
  rw [brd om,GH om,obs,aa (vars+t.Rate) om om,aa (vars+t.Rate-1) om om,aa (vars+t.Rate-1-k) om om]
  by_cases c3:((q.Paths.getD k []).length:Int)=vars+t.Rate-1-k
  ·rw [YU,decide_eq_true c3,Bool.true_and] at hp
   rw [cZ c3,Nq om hm,if_neg (by rw [hp];decide)]
  ·rw [brb c3]
 ·simp only [fA]
  rw [brn om,decide_eq_false om]
theorem V4 {vars:Int} {t:Setting} {o:au} {c14 c12 c13:Int} {c10:List (List Ext)} {c11:List (List UInt8)} {c17 c18:Int} (S:SmO o) (hv:1≤vars∧vars≤6) (ht:setB t=true) {R:Type} {x y:R}:
 (Loop (ee vars c10 c11 c12 c13 c14 o.Queries t.Rate c17 c18) 0).bind (alt (fun _=>some x) (fun _=>some y))=some (if o.Queries.all (Iy vars t)=true then y else x):=by
 rw [←xg o.Queries ⟨[],[]⟩ (Iy vars t)]
 have hQ: ∀k,k<o.Queries.length→o.Queries.getD k ⟨[],[]⟩∈o.Queries:=fun k hk=>by simp [hk]
 have hqn:=S.qn
 refine yt o.Queries.length _ (fun k=>((o.Queries.getD k ⟨[],[]⟩).Pairs,(o.Queries.getD k ⟨[],[]⟩).Paths)) (fun k hk hp=> ?_) (fun k hk hp=> ?_) (e2:=((o.Queries.length:Int),false)) ?_ (fun _=>rfl) rfl
 ·have hm:=hQ k hk
  simp only [Iy,Bool.and_eq_true,decide_eq_true_eq] at hp
  simp only [ee]
  rw [brd om,mV (d:=⟨[],[]⟩) hk,obs,aa (2*vars) om om,cZ hp.1,ju (S.qp _ hm),obs,hp.2.1,Bool.not_true,aw,cZ hp.2.2.1,Na hv ht hp.2.2.1 (S.qt _ hm),if_pos hp.2.2.2,aa _ om om];rfl
 ·have hm:=hQ k hk
  simp only [ee]
  rw [brd om,mV (d:=⟨[],[]⟩) hk,obs,aa (2*vars) om om]
  rw [Iy] at hp
  by_cases c1:((o.Queries.getD k ⟨[],[]⟩).Pairs.length:Int)=2*vars
  ·rw [cZ c1,ju (S.qp _ hm),obs]
   rw [decide_eq_true c1,Bool.true_and] at hp
   cases hb:(o.Queries.getD k ⟨[],[]⟩).Pairs.all iE
   ·rfl
   ·rw [Bool.not_true,aw]
    rw [hb,Bool.true_and] at hp
    by_cases c2:((o.Queries.getD k ⟨[],[]⟩).Paths.length:Int)=vars
    ·rw [decide_eq_true c2,Bool.true_and] at hp
     rw [cZ c2,Na hv ht c2 (S.qt _ hm),if_neg (by rw [hp];decide)]
    ·rw [brb c2]
  ·rw [brb c1]
 ·simp only [ee]
  rw [brn om,decide_eq_false om]
theorem Qt {o:au} {vars:Int} {t:Setting} (S:SmO o):qO o vars t=some (okO o vars t):=by
 unfold qO okO
 rw [HS,obs]
 by_cases hv:1≤vars∧vars≤6
 ·rw [decide_eq_true hv,decide_eq_true hv.1,decide_eq_true hv.2,Bool.and_self,Bool.not_true,aw,uK,obs,Bool.true_and]
  cases ht:setB t
  ·rfl
  ·rw [Bool.not_true,aw,aa _ om om,Bool.true_and,y5]
   by_cases c0:(o.Rounds.length:Int)=vars
   ·rw [cZ c0,decide_eq_true c0,Bool.true_and]
    by_cases c1:(o.Roots.length:Int)=vars-1
    ·rw [cZ c1,decide_eq_true c1,Bool.true_and]
     by_cases c3:(o.Queries.length:Int)=t.Queries
     ·rw [cZ c3,decide_eq_true c3,Bool.true_and,NG,obs]
      cases hl:iE o.Last
      ·rw [Bool.not_false,bF];cases o.Rounds.all (oC 3)<;>cases o.Roots.all h32<;>rfl
      ·rw [Bool.not_true,aw,HS,obs,Bool.true_and]
       by_cases c2:0≤o.Nonce∧o.Nonce≤65535
       ·rw [decide_eq_true c2,decide_eq_true c2.1,decide_eq_true c2.2,Bool.and_self,Bool.not_true,aw,Bool.true_and]
        have key:=yt (step:=ft vars o.Rounds o.Roots o.Last.A o.Last.B o.Nonce o.Queries t.Rate t.Queries t.Grind) vars.toNat (fun i=>oC 3 (o.Rounds.getD i [])&&(decide (i=0)||h32 (o.Roots.getD (i-1) []))) (fun _=>()) (e2:=((vars.toNat:Int),false)) (f:=fun _=>some false)
         (g:=fun _=>(Loop (ee vars o.Rounds o.Roots o.Last.A o.Last.B o.Nonce o.Queries t.Rate t.Queries t.Grind) 0).bind (alt (fun e_11=>some false) (fun e_12=>some true))) (x:=false) (y:=o.Queries.all (Iy vars t)) (fun k hk hp=>by
         simp only [Bool.and_eq_true,Bool.or_eq_true,oC,h32,decide_eq_true_eq] at hp
         have hm:=S.rr _ (show o.Rounds.getD k []∈o.Rounds by simp [show k<o.Rounds.length by omega])
         simp only [ft]
         rw [brd om,mV (d:=[]) om,obs,cZ hp.1.1,obs,ju hm,obs,hp.1.2,Bool.not_true,aw,aa ((k:Int)+1) om om]
         by_cases h0:k=0
         ·rw [brn om];rfl
         ·rw [brd om,aa _ om om,show (k:Int)-1=((k-1:Nat):Int) by omega,mV (d:=[]) om,obs,cZ (by have:=hp.2.resolve_left h0;omega)];rfl) (fun k hk hp=>by
         have hm:=S.rr _ (show o.Rounds.getD k []∈o.Rounds by simp [show k<o.Rounds.length by omega])
         simp only [ft]
         rw [brd om,mV (d:=[]) om,obs]
         by_cases c4:((o.Rounds.getD k []).length:Int)=3
         ·rw [cZ c4,obs,ju hm,obs]
          cases hb:(o.Rounds.getD k []).all iE
          ·rfl
          ·rw [oC,decide_eq_true c4,hb,Bool.true_and,Bool.true_and,Bool.or_eq_false_iff,decide_eq_false_iff_not,h32,decide_eq_false_iff_not] at hp
           rw [Bool.not_true,aw,brd om,aa _ om om,show (k:Int)-1=((k-1:Nat):Int) by omega,mV (d:=[]) om,obs,brb om]
         ·rw [brb c4]) (by
         simp only [ft]
         rw [brn om,decide_eq_false om]) (fun _=>rfl) (by rw [V4 S hv ht,YW])
        rw [key]
        have hall:Xs vars.toNat (fun i=>oC 3 (o.Rounds.getD i [])&&(decide (i=0)||h32 (o.Roots.getD (i-1) [])))=(o.Rounds.all (oC 3)&&o.Roots.all h32):=by
         rw [←xg o.Rounds [], ←xg o.Roots []]
         refine Bool.eq_iff_iff.2 ⟨fun h=> ?_,fun h=> ?_⟩
         ·rw [Bool.and_eq_true]
          refine ⟨If fun k hk=> ?_,If fun k hk=> ?_⟩
          ·have:=qY.1 h k om
           simp only [Bool.and_eq_true] at this;exact this.1
          ·have:=qY.1 h (k+1) om
           simpa using (Bool.and_eq_true _ _▸this).2
         ·rw [Bool.and_eq_true] at h
          refine If fun k hk=> ?_
          rw [Bool.and_eq_true]
          refine ⟨qY.1 h.1 k om, ?_⟩
          by_cases h0:k=0
          ·simp [h0]
          ·have:=qY.1 h.2 (k-1) om
           simp only [Bool.or_eq_true];exact .inr this
        rw [hall]
        cases o.Rounds.all (oC 3)<;>cases o.Roots.all h32<;>simp
       ·have:(decide (0≤o.Nonce)&&decide (o.Nonce≤65535))=false:=by
         rw [←Bool.decide_and];exact decide_eq_false c2
        rw [decide_eq_false c2,this,Bool.not_false,bF]
        cases o.Rounds.all (oC 3)<;>cases o.Roots.all h32<;>rfl
     ·rw [brb c3,decide_eq_false c3]
      cases o.Rounds.all (oC 3)<;>cases o.Roots.all h32<;>cases iE o.Last<;>cases decide (0≤o.Nonce∧o.Nonce≤65535)<;>rfl
    ·rw [brb c1,decide_eq_false c1];cases o.Rounds.all (oC 3)<;>rfl
   ·rw [brb c0,decide_eq_false c0];rfl
 ·rw [decide_eq_false hv]
  have:(decide (1≤vars)&&decide (vars≤6))=false:=by
   rw [←Bool.decide_and];exact decide_eq_false hv
  rw [this];rfl
end Go.AI.Fn
set_option linter.unusedVariables false
set_option linter.unusedSimpArgs false
namespace Go.AI.Fn
abbrev K:={x:Ext//okE x}
def K.n (i:Int):K:=⟨eN (i%2130706433),a3p (ji _)⟩
instance c07:Add K:=⟨fun a b=>⟨eA a.1 b.1,Ty _ _⟩⟩
instance c01:Mul K:=⟨fun a b=>⟨eM a.1 b.1,nC _ _⟩⟩
instance b8T:Sub K:=⟨fun a b=>⟨eS a.1 b.1,um _ _⟩⟩
instance c00:Neg K:=⟨fun a=>⟨eS e0 a.1,um _ _⟩⟩
instance b26:NatCast K:=⟨fun n=>K.n n⟩
instance b2X:IntCast K:=⟨fun n=>K.n n⟩
instance b6L (n:Nat):OfNat K n:=⟨K.n n⟩
def K.pow (a:K):Nat→K
 |0=>K.n 1
 |n+1=>K.pow a n*a
instance b8P:HPow K Nat K:=⟨K.pow⟩
theorem K.ext {a b:K} (h:a.1=b.1):a=b:=Subtype.ext h
theorem K.mul_val (a b:K):(a*b).1=eM a.1 b.1:=rfl
theorem K.n_mul (i j:Int):K.n (i*j)=K.n i*K.n j:=K.ext (K9 (by
 show (i*j)%2130706433=((i%2130706433)*(j%2130706433)+3*(0*0))%2130706433
 rw [show (3:Int)*(0*0)=0 from rfl,Int.add_zero, ←Int.mul_emod]) (by
 show (0:Int)=((i%2130706433)*0+0*(j%2130706433))%2130706433
 rw [Int.mul_zero,Int.zero_mul];rfl))
instance b45:NeZero 2130706433:=⟨by decide⟩
abbrev FP:=Fin 2130706433
def K.a (x:K):FP:=⟨x.1.A.toNat,by have h:=x.2.1;unfold okF at h;omega⟩
def K.b (x:K):FP:=⟨x.1.B.toNat,by have h:=x.2.2;unfold okF at h;omega⟩
theorem K.A_nat (x:K): ∃n:Nat,x.1.A=(n:Int)∧n<2130706433∧(K.a x).val=n:=⟨x.1.A.toNat,by have h:=x.2.1;unfold okF at h;omega,(K.a x).isLt,rfl⟩
theorem K.B_nat (x:K): ∃n:Nat,x.1.B=(n:Int)∧n<2130706433∧(K.b x).val=n:=⟨x.1.B.toNat,by have h:=x.2.2;unfold okF at h;omega,(K.b x).isLt,rfl⟩
theorem K.eqv {x y:K}:x=y↔K.a x=K.a y∧K.b x=K.b y:=⟨fun h=>by rw [h];exact ⟨rfl,rfl⟩,fun h=>by
 obtain ⟨n,h1,_,h2⟩:=K.A_nat x
 obtain ⟨m,h3,_,h4⟩:=K.A_nat y
 obtain ⟨i,h5,_,h6⟩:=K.B_nat x
 obtain ⟨j,h7,_,h8⟩:=K.B_nat y
 have e1:=congrArg Fin.val h.1
 have e2:=congrArg Fin.val h.2
 exact K.ext (K9 om om)⟩
theorem K.ad_a (x y:K):K.a (x+y)=K.a x+K.a y:=Fin.ext (by
 obtain ⟨n,h1,_,h2⟩:=K.A_nat x
 obtain ⟨m,h3,_,h4⟩:=K.A_nat y
 rw [Fin.val_add,h2,h4]
 show ((x.1.A+y.1.A)%2130706433).toNat=_
 omega)
theorem K.ad_b (x y:K):K.b (x+y)=K.b x+K.b y:=Fin.ext (by
 obtain ⟨n,h1,_,h2⟩:=K.B_nat x
 obtain ⟨m,h3,_,h4⟩:=K.B_nat y
 rw [Fin.val_add,h2,h4]
 show ((x.1.B+y.1.B)%2130706433).toNat=_
 omega)
theorem K.su_a (x y:K):K.a (x-y)=K.a x-K.a y:=Fin.ext (by
 obtain ⟨n,h1,_,h2⟩:=K.A_nat x
 obtain ⟨m,h3,_,h4⟩:=K.A_nat y
 rw [Fin.sub_def]
 show ((x.1.A-y.1.A)%2130706433).toNat=(2130706433-(K.a y).val+(K.a x).val)%2130706433
 omega)
theorem K.su_b (x y:K):K.b (x-y)=K.b x-K.b y:=Fin.ext (by
 obtain ⟨n,h1,_,h2⟩:=K.B_nat x
 obtain ⟨m,h3,_,h4⟩:=K.B_nat y
 rw [Fin.sub_def]
 show ((x.1.B-y.1.B)%2130706433).toNat=(2130706433-(K.b y).val+(K.b x).val)%2130706433
 omega)
theorem K.n0_a:K.a 0=0:=rfl
theorem K.n0_b:K.b 0=0:=rfl
theorem K.n1_a:K.a 1=1:=rfl
theorem K.n1_b:K.b 1=0:=rfl
theorem K.n2_a:K.a 2=2:=rfl
theorem K.n2_b:K.b 2=0:=rfl
theorem K.n3_a:K.a 3=3:=rfl
theorem K.n3_b:K.b 3=0:=rfl
theorem K.ne_sub (x:K): -x=0-x:=rfl
theorem K.mu_a (x y:K):K.a (x*y)=K.a x*K.a y+3*(K.b x*K.b y):=Fin.ext (by
 obtain ⟨n,h1,_,h2⟩:=K.A_nat x
 obtain ⟨m,h3,_,h4⟩:=K.A_nat y
 obtain ⟨i,h5,_,h6⟩:=K.B_nat x
 obtain ⟨j,h7,_,h8⟩:=K.B_nat y
 rw [Fin.val_add,Fin.val_mul,Fin.val_mul,Fin.val_mul,h2,h4,h6,h8,show (3:FP).val=3 from rfl]
 show ((x.1.A*y.1.A+3*(x.1.B*y.1.B))%2130706433).toNat=_
 rw [h1,h3,h5,h7, ←Int.natCast_mul, ←Int.natCast_mul]
 generalize n*m=u
 generalize i*j=v
 omega)
theorem K.mu_b (x y:K):K.b (x*y)=K.a x*K.b y+K.b x*K.a y:=Fin.ext (by
 obtain ⟨n,h1,_,h2⟩:=K.A_nat x
 obtain ⟨m,h3,_,h4⟩:=K.A_nat y
 obtain ⟨i,h5,_,h6⟩:=K.B_nat x
 obtain ⟨j,h7,_,h8⟩:=K.B_nat y
 rw [Fin.val_add,Fin.val_mul,Fin.val_mul,h2,h4,h6,h8]
 show ((x.1.A*y.1.B+x.1.B*y.1.A)%2130706433).toNat=_
 rw [h1,h3,h5,h7, ←Int.natCast_mul, ←Int.natCast_mul]
 generalize n*j=u
 generalize i*m=v
 omega)
theorem kg {p:Prop} (h:p:=by (simp only [K.ne_sub,K.eqv,K.ad_a,K.ad_b,K.su_a,K.su_b,K.mu_a,K.mu_b,K.n0_a,K.n0_b,K.n1_a,K.n1_b,K.n2_a,K.n2_b,K.n3_a,K.n3_b] at* <;>first|grind only|grind)):p:=h
def kF (a:Int):K:=K.n a
theorem z9 {a:Int} (h:okF a):(kF a).1=eN a:=by show eN (a%2130706433)=eN a;rw [D7 h]
theorem b0T (a b:Int):kF (mF a b)=kF a*kF b:=by
 rw [kF,kF,kF, ←K.n_mul]
 exact K.ext (by show eN ((a*b)%2130706433%2130706433)=eN ((a*b)%2130706433);rw [Int.emod_emod])
def kv (l:List K):List Ext:=l.map (·.1)
theorem aP (l:List K):(kv l).length=l.length:=by simp [kv]
theorem Dk (l:List K):cE (kv l):=cE.map l fun x _=>x.2
theorem b4z {L:List Ext} (h:cE L): ∃l,L=kv l:=by
 induction L with
 |nil=>exact ⟨[],rfl⟩
 |cons x L ih=>
  obtain ⟨l,rfl⟩:=ih fun y hy=>h y (by simp [hy])
  exact ⟨⟨x,h x (by simp)⟩::l,rfl⟩
theorem a7P {l:List K} {j:Nat} (h:j<l.length):(kv l)[j]'(by rw [aP];exact h)=(l.getD j 0).1:=by simp [kv,h]
theorem sq {l:List K} {j:Nat} (h:j<l.length):atL (kv l) (j:Int)=some (l.getD j 0).1:=by rw [bO (by rw [aP];exact h),a7P h]
theorem a40 {l:List K} {j:Nat} (h:j<l.length):(kv l)[j]? =some (l.getD j 0).1:=by rw [rF (by rw [aP];exact h),a7P h]
end Go.AI.Fn
set_option linter.unusedVariables false
set_option linter.unusedSimpArgs false
namespace Go.AI.Fn
theorem pw0 (x:K):x^0=1:=rfl
theorem pwS (x:K) (n:Nat):x^(n+1)=x^n*x:=rfl
theorem a9K: ∀n:Nat,(1:K)^n=1
 |0=>rfl
 |n+1=>by rw [pwS,a9K n];exact kg
theorem a8d (x y:K): ∀n:Nat,(x*y)^n=x^n*y^n
 |0=>by rw [pw0,pw0,pw0];exact kg
 |n+1=>by rw [pwS,pwS,pwS,a8d x y n];exact kg
def evs:List K→List K
 |a::_::l=>a::evs l
 |[a]=>[a]
 |[]=>[]
def ods:List K→List K
 |_::b::l=>b::ods l
 |_=>[]
def c0N (E O:List K) (w:K) (h:Nat):List K:=(List.range h).map fun j=>E.getD j 0+O.getD j 0*w^j
def c0I (E O:List K) (w:K) (h:Nat):List K:=(List.range h).map fun j=>E.getD j 0-O.getD j 0*w^j
def V:Nat→List K→K→List K
 |0,l,_=>l
 |k+1,l,w=>c0N (V k (evs l) (w*w)) (V k (ods l) (w*w)) w (2^k)++c0I (V k (evs l) (w*w)) (V k (ods l) (w*w)) w (2^k)
def cb (r:K) (a b:List K):List K:=List.zipWith (fun x y=>x+r*y) a b
end Go.AI.Fn
set_option linter.unusedVariables false
set_option linter.unusedSimpArgs false
namespace Go.AI.Fn
def YS:Nat→(Nat→K)→K
 |0,_=>0
 |n+1,f=>YS n f+f n
def fdK (r:K):List K→List K
 |a::b::l=>(a+r*(b-a))::fdK r l
 |_=>[]
theorem a3F (r:K): ∀(l:List K) (m:Nat),l.length=2*m→(fdK r l).length=m
 |[],m,h=>by simp at h;simp [fdK];omega
 |[a],m,h=>by simp at h;omega
 |a::b::l,0,h=>by simp at h
 |a::b::l,m+1,h=>by simp only [fdK,List.length_cons];rw [a3F r l m (by simp only [List.length_cons] at h;omega)]
def cmK (kind:Nat) (v:List K):K:=if kind=1 then v.getD 0 0*v.getD 1 0 else v.getD 0 0*(v.getD 1 0*v.getD 2 0-v.getD 3 0)
def bdK (r:K) (T:List (List K)):List (List K):=T.map (fdK r)
theorem b2k (r:K) (T:List (List K)) (i:Nat):(bdK r T).getD i []=fdK r (T.getD i []):=by
 by_cases h:i<T.length
 ·simp [bdK,h]
 ·simp [bdK,h,fdK]
end Go.AI.Fn
set_option linter.unusedVariables false
set_option linter.unusedSimpArgs false
namespace Go.AI.Fn
theorem NX {α:Type} {a:List α} {n k:Nat} {z x:α} (hk:k<n) (ha:a.length=k):(a++List.replicate (n-k) z).set k x=(a++[x])++List.replicate (n-(k+1)) z:=by
 subst ha
 have e:n-a.length=(n-(a.length+1))+1:=by omega
 rw [e,List.replicate_succ]
 simp
theorem UU {α β:Type} {f:α→Option β} {g:α→β} {a:List α} {z:β} (hl:a.length≤1099511627776) (hf: ∀x∈a,f x=some (g x)) {step:List β×Int→Option ((List β×Int)⊕(List β×Int×Bool))}
 (hs: ∀l i,step (l,i)=br (decide (i<((a.length:Nat):Int))) ((atL a i).bind fun x=>(f x).bind fun r=>br (decide (0≤i)) (br (decide (i.toNat<l.length)) ((l[i.toNat]?).bind fun _=>some (.inl (l.set i.toNat r,IntKind.wrap .i64 (i+1)))) none) none) (some (.inr (l,i,decide (i<((a.length:Nat):Int)))))) {n:Nat} (hn:a.length≤n):
 Loop step (List.replicate n z,0)=some (a.map g++List.replicate (n-a.length) z,(a.length:Int),false):=by
 have key:=aA (step:=step) (fun k=>((a.take k).map g++List.replicate (n-k) z,(k:Int))) a.length (e:=(a.map g++List.replicate (n-a.length) z,(a.length:Int),false)) (fun k hk=>by
  have hlen:((a.take k).map g++List.replicate (n-k) z).length=n:=by simp;omega
  rw [hs,brd om,bO hk,obs,hf _ (List.getElem_mem hk),obs,brd om,brd om,Int.toNat_natCast,rF om,obs,NX om (by simp;omega),aa _ om om,cm hk,List.map_append]
  rfl) (by
  rw [hs,brn om,decide_eq_false om,List.take_length])
 simpa using key
theorem a2p {α:Type} {f:α→α→Option Bool} {a:List α} (hl:a.length≤1099511627776) (hf: ∀x∈a,f x x=some true) {step:Int→Option (Int⊕(Unit⊕(Int×Bool)))}
 (hs: ∀t,step t=br (decide (t<((a.length:Nat):Int))) ((atL a t).bind fun x=>(atL a t).bind fun y=>(f x y).bind fun r=>br (!r) (some (.inr (.inl ()))) (some (.inl (IntKind.wrap .i64 (t+1))))) (some (.inr (.inr (t,decide (t<((a.length:Nat):Int))))))):
 (Loop step 0).bind (alt (fun _=>some false) (fun _=>some true))=some true:=by
 have key:Loop step 0=some (.inr ((a.length:Int),false)):=aA (step:=step) (fun k=>(k:Int)) a.length (fun k hk=>by
  rw [hs,brd om,bO hk,obs,obs,hf _ (List.getElem_mem hk),obs,Bool.not_true,aw,aa _ om om];rfl)
  (by rw [hs,brn om,decide_eq_false om])
 rw [key];rfl
theorem WQ (x:Ext):DP x x=some true:=by unfold DP;rw [cZ rfl,cZ rfl]
theorem ZM {a:List Ext} (h:a.length≤1048576):BL a=some a:=by
 unfold BL
 rw [Ay om om om,Int.toNat_natCast,UU (step:=th a) (f:=MT) (g:=fun x=>x) om (fun x _=>rfl) (fun l i=>rfl) (Nat.le_refl _)]
 simp
theorem a0h {a:List Int} (h:a.length≤1048576):u7 a=some a:=by
 unfold u7
 rw [Ay om om om,Int.toNat_natCast,UU (step:=te a) (f:=fun x=>some x) (g:=fun x=>x) om (fun x _=>rfl) (fun l i=>rfl) (Nat.le_refl _)]
 simp
theorem RS {a:List Ext} (h:a.length≤1048576):CP a a=some true:=by
 unfold CP
 rw [cZ rfl]
 exact a2p (f:=DP) om (fun x _=>WQ x) (fun t=>rfl)
theorem Sz {a:List Int} (h:a.length≤1048576):Bz a a=some true:=by
 unfold Bz
 rw [cZ rfl]
 refine a2p (a:=a) (f:=fun x y=>some (x==y)) om (fun x _=>by simp) (fun t=> ?_)
 simp only [ti]
 rfl
theorem ZH {a:List Ext} {left:Int} (ha:a.length≤9223372036854775807) (h0: -1≤left) (h1:left≤1048576): ∃r,Di a left=some r∧ -1≤r∧r≤1048576∧(0≤r→a.length≤1048576):=by
 unfold Di
 rw [aa _ om om]
 by_cases h:left-(a.length:Int)<0
 ·rw [brd h];exact ⟨_,rfl,by omega,by omega,by omega⟩
 ·rw [brn h];exact ⟨_,rfl,by omega,by omega,by omega⟩
end Go.AI.Fn
