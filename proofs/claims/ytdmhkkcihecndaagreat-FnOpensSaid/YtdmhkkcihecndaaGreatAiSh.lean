/- Short forms of code, hints told by the code itself, and the steps by which walks go. -/
import Derived.Test.YtdmhkkcihecndaaGreatAiW
import Derived.Test.YtdmhkkcihecndaaGreatAiComp
set_option linter.unusedVariables false
namespace Go.AI
@[reducible] def qg (d:Nat) (o:AOp):bi:=⟨some d,o,none⟩
@[reducible] def qG (d:Nat) (o:AOp) (t:Nat) (b:Bool):bi:=⟨some d,o,some (t,b)⟩
@[reducible] def qI (n:Int):Opd:= .c (.int .i64 n)
@[reducible] def qm (d s:Nat):bi:=⟨some d,.mv (.t s),none⟩
@[reducible] def qi (d:Nat) (n:Int):bi:=⟨some d,.mv (.c (.int .i64 n)),none⟩
@[reducible] def ql (d x:Nat):bi:=⟨some d,.load none (.t x),none⟩
@[reducible] def qL (d n x:Nat):bi:=⟨some d,.load (some n) (.t x),none⟩
@[reducible] def qs (d n a x:Nat):bi:=⟨some d,.store n (.t a) (.t x),none⟩
@[reducible] def qb (d:Nat) (o:BinOp) (x y:Nat):bi:=⟨some d,.bin o (.t x) (.t y),none⟩
@[reducible] def qB (d:Nat) (o:BinOp) (x:Nat) (n:Int):bi:=⟨some d,.bin o (.t x) (.c (.int .i64 n)),none⟩
@[reducible] def qD (d:Nat) (o:BinOp) (n:Int) (y:Nat):bi:=⟨some d,.bin o (.c (.int .i64 n)) (.t y),none⟩
@[reducible] def qo (d k x:Nat):bi:=⟨some d,.off k (.t x),none⟩
@[reducible] def qc (d f:Nat) (l:List Nat):bi:=⟨some d,.call f (l.map .t),none⟩
@[reducible] def qe (d x i:Nat):bi:=⟨some d,.ext (.t x) i,none⟩
@[reducible] def qk (d x:Nat):bi:=⟨some d,.nilCheck (.t x),none⟩
@[reducible] def qn (d x:Nat):bi:=⟨some d,.len false (.t x),none⟩
@[reducible] def qx (d e x i:Nat):bi:=⟨some d,.idx e (.t x) (.t i),none⟩
@[reducible] def qX (d l e x i:Nat):bi:=⟨some d,.idxArr l e (.t x) (.t i),none⟩
@[reducible] def qS (b:Nat) (ss:List bi) (l:List Nat):ag:= .region b ss l
def RZ:ag→List (Nat×List Nat)
 | .region b _ l=>[(b/1000-1,l)]
 | .drawn b _ _ l=>[(b/1000-1,l)]
 | .seq a b=>RZ a++RZ b
 | .cond _ a b=>RZ a++RZ b
 | .block _ c=>RZ c
 | .loop c=>RZ c
 | .ghost _ c=>RZ c
 |_=>[]
def a7h:ag→Nat
 | .region b _ _=>b/1000-1
 | .drawn b _ _ _=>b/1000-1
 | .ghost _ c=>a7h c
 |_=>0
def Sl:ag→List (Nat×kf)
 | .seq a b=>Sl a++Sl b
 | .cond _ a b=>Sl a++Sl b
 | .block _ c=>Sl c
 | .loop c=>Sl c
 | .ghost g c=>(a7h c,g)::Sl c
 |_=>[]
def hnO (a:ah):Wu:=⟨RZ a.body,Sl a.body,a.keep,a.raw⟩
def owg:List (Nat×List Nat)→Nat→List Nat
 |[],_=>[]
 | (j,v)::r,k=>br (decide (j=k)) v (owg r k)
section
variable {b o new m:Nat} {x:List (Nat×V)} {y:List (Nat×Blk)}
def ghB (b:kf):Option St→Option St
 |some st=>ca st b
 |none=>none
theorem a2c (st:St) (a b:kf):ca st (.both a b)=ghB b (ca st a):=by
 simp only [ca];cases ca st a<;>rfl
def a8h (st:St) (t new m:Nat):V→Option St
 | .lit (.slice none 0 0)=>br ((st.heap new).isNone&&decide (0<m)) (some { e:=iV t (.sl new 0 0) st.e,m:=iV new ⟨m,false,[]⟩ st.m }) (some st)
 |_=>some st
theorem a6c {α:Type} (o:Option α) (m:Nat) (x y:Option St):(if o.isNone=true∧0<m then x else y)=br (o.isNone&&decide (0<m)) x y:=by
 cases o.isNone<;>by_cases h:0<m<;>simp [h,br]
def a71 (st:St) (b o new m k:Nat) (row:List V):Option V→Option St
 |some (.lit (.slice none 0 0))=>br ((st.heap new).isNone&&decide (0<m)) (some { st with m:=iV new ⟨m,false,[]⟩ (iV b ⟨k,true,[row.set o (.sl new 0 0)]⟩ st.m) }) (some st)
 |_=>some st
def a6N (st:St) (b o new m:Nat):Option Blk→Option St
 |some ⟨k,true,[row]⟩=>a71 st b o new m k row row[o]?
 |_=>some st
theorem a3F (st:St):ca st (.nilCell b o new m)=a6N st b o new m (st.heap b):=by
 unfold ca a6N
 cases st.heap b with
 |none=>rfl
 |some k=>
  obtain ⟨e,op,rows⟩:=k
  cases op with
  |false=>simp
  |true=>
   dsimp only
   rw [if_pos rfl]
   match rows with
   |[]=>rfl
   |[row]=>
    dsimp only
    simp only [a71,a6c]
    rfl
   |_::_::_=>rfl
end
theorem Y5 (ts:List Nat) (t:Nat) (v:V) (r:List (Nat×V)):QW ts ((t,v)::r)=(t,br (ts.contains t) .undef v)::QW ts r:=by
 simp only [QW];by_cases h:t∈ts<;>simp [h,br]
attribute [go_sem] Y5 a2c a3F
theorem wb {α β:Type} {c:Bool} {x y:Option α} {r:α} {X Y Q:Option β} (h:br c x y=some r) (k1:x=some r→X=Q) (k2:y=some r→Y=Q):br c X Y=Q:=by
 cases c
 ·exact k2 h
 ·exact k1 h
theorem wn {α β γ:Type} {x:Option γ} {g:γ→Option α} {F:γ→Option β} {r:α} {Q:Option β} (h:x.bind g=some r) (k: ∀a,g a=some r→F a=Q):x.bind F=Q:=by
 cases x with
 |none=>cases h
 |some a=>exact k a h
def alt {α β γ:Type} (f:α→γ) (g:β→γ):α⊕β→γ
 | .inl a=>f a
 | .inr b=>g b
theorem ld {α β γ:Type} (f:α→γ) (g:β→γ) (a:α):alt f g (.inl a)=f a:=rfl
theorem mw {α β γ:Type} (f:α→γ) (g:β→γ) (b:β):alt f g (.inr b)=g b:=rfl
attribute [go_sem] ld mw
theorem lrG {T:Tab} {ow:cY} {S E:Type} {g:kf} {c:ag} {step:S→Option (S⊕E)} {eS:S→St} {eE:E→ai×St}
 (hb: ∀s o,step s=some o→Rn T ow (XS g) [.code c] (eS s)=some (match o with
  | .inl s'=>(.normal,eS s')
  | .inr e=>eE e)) {s:S} {e:E} (h:Loop step s=some e) (hne: ∀e,(eE e).1≠ .normal:=by intro e;(repeat' (obtain e|e:=(e:_⊕_)));(all_goals (intro h;cases h))):aD T ow g c (eS s)=some (eE e):=
 Yg hne hb h
theorem go {P:Prop} (p:P:=by
 repeat' first
  |with_reducible refine wb h (fun h=> ?_) (fun h=> ?_)
  |with_reducible refine wn h (fun x h=> ?_)
  | (obtain ⟨e,h1,h⟩:=bd h
     first|with_reducible replace h1:=d1 h1|with_reducible replace h1:=d2 h1|with_reducible replace h1:=d3 h1|with_reducible replace h1:=d4 h1|with_reducible replace h1:=d5 h1|with_reducible replace h1:=d6 h1|with_reducible replace h1:=d7 h1|with_reducible replace h1:=d8 h1|with_reducible replace h1:=d9 h1|with_reducible replace h1:=d10 h1|with_reducible replace h1:=d11 h1|with_reducible replace h1:=d12 h1|with_reducible replace h1:=d13 h1|with_reducible replace h1:=d14 h1|with_reducible replace h1:=d15 h1|with_reducible replace h1:=d16 h1|with_reducible replace h1:=d17 h1|with_reducible replace h1:=d18 h1|with_reducible replace h1:=d19 h1|with_reducible replace h1:=d20 h1|with_reducible replace h1:=d21 h1|with_reducible replace h1:=d22 h1|with_reducible replace h1:=d23 h1|with_reducible replace h1:=d24 h1
     try simp only [List.length_set] at h1
     first|refine a1y h1 ?_|refine Yj h1 ?_|refine a66 h1 ?_
     repeat' (obtain e|e:=(e:_⊕_))
     all_goals (try simp only [ld,mw] at h)
     all_goals simp+decide only [go_sem,reduceIte,Nat.reduceAdd])
  |refine wb h (fun h=> ?_) (fun h=> ?_)
  |refine wn h (fun x h=> ?_)
  | (cases h<;>first|rfl| (simp only [List.length_set,go_sem];done))):P:=p
end Go.AI
