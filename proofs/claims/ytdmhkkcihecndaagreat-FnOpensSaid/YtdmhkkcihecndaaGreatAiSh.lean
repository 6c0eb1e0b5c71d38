/- Short forms of code, hints told by the code itself, and the steps by which walks go. -/
import Derived.Test.YtdmhkkcihecndaaGreatAiW
import Derived.Test.YtdmhkkcihecndaaGreatAiComp
set_option linter.unusedVariables false
namespace Go.AI
@[reducible] def qg (d:Nat) (o:AOp):bi:=⟨some d,o,none⟩
@[reducible] def qG (d:Nat) (o:AOp) (t:Nat) (b:Bool):bi:=⟨some d,o,some (t,b)⟩
@[reducible] def qI (n:Int):Opd:= .c (.int .i64 n)
@[reducible] def qm (d s:Nat):bi:=⟨some d,.mv (.t s),none⟩
@[reducible] def qi (d:Nat) (n:Int):bi:=⟨some d,.mv (.c (.int .i64 n)),none⟩
@[reducible] def ql (d x:Nat):bi:=⟨some d,.load none (.t x),none⟩
@[reducible] def qL (d n x:Nat):bi:=⟨some d,.load (some n) (.t x),none⟩
@[reducible] def qs (d n a x:Nat):bi:=⟨some d,.store n (.t a) (.t x),none⟩
@[reducible] def qu (n a x:Nat):bi:=⟨none,.store n (.t a) (.t x),none⟩
@[reducible] def qb (d:Nat) (o:BinOp) (x y:Nat):bi:=⟨some d,.bin o (.t x) (.t y),none⟩
@[reducible] def qB (d:Nat) (o:BinOp) (x:Nat) (n:Int):bi:=⟨some d,.bin o (.t x) (.c (.int .i64 n)),none⟩
@[reducible] def qD (d:Nat) (o:BinOp) (n:Int) (y:Nat):bi:=⟨some d,.bin o (.c (.int .i64 n)) (.t y),none⟩
@[reducible] def qo (d k x:Nat):bi:=⟨some d,.off k (.t x),none⟩
@[reducible] def qc (d f:Nat) (l:List Nat):bi:=⟨some d,.call f (l.map .t),none⟩
@[reducible] def qe (d x i:Nat):bi:=⟨some d,.ext (.t x) i,none⟩
@[reducible] def qk (d x:Nat):bi:=⟨some d,.nilCheck (.t x),none⟩
@[reducible] def qn (d x:Nat):bi:=⟨some d,.len false (.t x),none⟩
@[reducible] def qx (d e x i:Nat):bi:=⟨some d,.idx e (.t x) (.t i),none⟩
@[reducible] def qX (d l e x i:Nat):bi:=⟨some d,.idxArr l e (.t x) (.t i),none⟩
@[reducible] def qS (b:Nat) (ss:List bi) (l:List Nat):ae:= .region b ss l
def Vv:ae→List (Nat×List Nat)
 | .region b _ l=>[(b/1000-1,l)]
 | .drawn b _ _ l=>[(b/1000-1,l)]
 | .seq a b=>Vv a++Vv b
 | .cond _ a b=>Vv a++Vv b
 | .block _ c=>Vv c
 | .loop c=>Vv c
 | .ghost _ c=>Vv c
 |_=>[]
def b5Q:ae→Nat
 | .region b _ _=>b/1000-1
 | .drawn b _ _ _=>b/1000-1
 | .ghost _ c=>b5Q c
 |_=>0
def Y5:ae→List (Nat×gY)
 | .seq a b=>Y5 a++Y5 b
 | .cond _ a b=>Y5 a++Y5 b
 | .block _ c=>Y5 c
 | .loop c=>Y5 c
 | .ghost g c=>(b5Q c,g)::Y5 c
 |_=>[]
def hnO (a:ah):a1H:=⟨Vv a.body,Y5 a.body,a.keep,a.raw⟩
def owg:List (Nat×List Nat)→Nat→List Nat
 |[],_=>[]
 | (j,v)::r,k=>br (decide (j=k)) v (owg r k)
theorem a9k (k:Nat):owg [] k=[]:=rfl
theorem a8z (j k:Nat) (v:List Nat) (r:List (Nat×List Nat)):owg ((j,v)::r) k=br (decide (j=k)) v (owg r k):=rfl
attribute [go_sem] a9k a8z
section
variable {b o new m:Nat} {x:List (Nat×V)} {y:List (Nat×Blk)}
def ghB (b:gY):Option St→Option St
 |some st=>bN st b
 |none=>none
theorem b1a (st:St) (a b:gY):bN st (.both a b)=ghB b (bN st a):=by
 simp only [bN];cases bN st a<;>rfl
theorem a4m (b:gY) (st:St):ghB b (some st)=bN st b:=rfl
def b7R (st:St) (t new m:Nat):V→Option St
 | .lit (.slice none 0 0)=>br ((st.heap new).isNone&&decide (0<m)) (some { e:=fu t (.sl new 0 0) st.e,m:=fu new ⟨m,false,[]⟩ st.m }) (some st)
 |_=>some st
theorem b3a {α:Type} (o:Option α) (m:Nat) (x y:Option St):(if o.isNone=true∧0<m then x else y)=br (o.isNone&&decide (0<m)) x y:=by
 cases o.isNone<;>by_cases h:0<m<;>simp [h,br]
def a5f (st:St) (b o new m k:Nat) (row:List V):Option V→Option St
 |some (.lit (.slice none 0 0))=>br ((st.heap new).isNone&&decide (0<m)) (some { st with m:=fu new ⟨m,false,[]⟩ (fu b ⟨k,true,[row.set o (.sl new 0 0)]⟩ st.m) }) (some st)
 |_=>some st
def b3M (st:St) (b o new m:Nat):Option Blk→Option St
 |some ⟨k,true,[row]⟩=>a5f st b o new m k row row[o]?
 |_=>some st
theorem a9I (st:St):bN st (.nilCell b o new m)=b3M st b o new m (st.heap b):=by
 unfold bN b3M
 cases st.heap b with
 |none=>rfl
 |some k=>
  obtain ⟨e,op,rows⟩:=k
  cases op with
  |false=>simp
  |true=>
   dsimp only
   rw [if_pos rfl]
   match rows with
   |[]=>rfl
   |[row]=>
    dsimp only
    simp only [a5f,b3a]
    rfl
   |_::_::_=>rfl
theorem a8E (st:St) (k:Nat) (row:List V):b3M st b o new m (some ⟨k,true,[row]⟩)=a5f st b o new m k row row[o]? :=rfl
theorem a5C (k:Nat) (row:List V):a5f ⟨x,y⟩ b o new m k row (some (.lit (.slice none 0 0)))=br ((St.heap ⟨x,y⟩ new).isNone&&decide (0<m)) (some ⟨x,fu new ⟨m,false,[]⟩ (fu b ⟨k,true,[row.set o (.sl new 0 0)]⟩ y)⟩) (some ⟨x,y⟩):=rfl
theorem a4B (st:St) (k c s n:Nat) (row:List V):a5f st b o new m k row (some (.sl c s n))=some st:=rfl
end
theorem b1y (x:List (Nat×V)) (y:List (Nat×Blk)) (ts:List Nat):bN ⟨x,y⟩ (.drop ts)=some ⟨NP ts x,y⟩:=rfl
theorem a67 (ts:List Nat):NP ts []=[]:=rfl
theorem a3C (ts:List Nat) (t:Nat) (v:V) (r:List (Nat×V)):NP ts ((t,v)::r)=(t,br (ts.contains t) .undef v)::NP ts r:=by
 simp only [NP];by_cases h:t∈ts<;>simp [h,br]
attribute [go_sem] b1y a67 a3C b1a a4m a9I a8E a5C a4B
theorem wb {α β:Type} {c:Bool} {x y:Option α} {r:α} {X Y Q:Option β} (h:br c x y=some r) (k1:x=some r→X=Q) (k2:y=some r→Y=Q):br c X Y=Q:=by
 cases c
 ·exact k2 h
 ·exact k1 h
theorem wn {α β γ:Type} {x:Option γ} {g:γ→Option α} {F:γ→Option β} {r:α} {Q:Option β} (h:x.bind g=some r) (k: ∀a,g a=some r→F a=Q):x.bind F=Q:=by
 cases x with
 |none=>cases h
 |some a=>exact k a h
def alt {α β γ:Type} (f:α→γ) (g:β→γ):α⊕β→γ
 | .inl a=>f a
 | .inr b=>g b
theorem lB {α β γ:Type} (f:α→γ) (g:β→γ) (a:α):alt f g (.inl a)=f a:=rfl
theorem ni {α β γ:Type} (f:α→γ) (g:β→γ) (b:β):alt f g (.inr b)=g b:=rfl
attribute [go_sem] lB ni
theorem lrG {T:Tab} {ow:dg} {S E:Type} {g:gY} {c:ae} {step:S→Option (S⊕E)} {eS:S→St} {eE:E→ai×St}
 (hb: ∀s o,step s=some o→Rn T ow (RM g) [.code c] (eS s)=some (match o with
  | .inl s'=>(.normal,eS s')
  | .inr e=>eE e)) {s:S} {e:E} (h:Loop step s=some e) (hne: ∀e,(eE e).1≠ .normal:=by intro e;(repeat' (obtain e|e:=(e:_⊕_)));(all_goals (intro h;cases h))):aD T ow g c (eS s)=some (eE e):=
 a2J hne hb h
theorem go {P:Prop} (p:P:=by
 repeat' first
  |with_reducible refine wb h (fun h=> ?_) (fun h=> ?_)
  |with_reducible refine wn h (fun x h=> ?_)
  | (obtain ⟨e,h1,h⟩:=bd h
     first|with_reducible replace h1:=d1 h1|with_reducible replace h1:=d2 h1|with_reducible replace h1:=d3 h1|with_reducible replace h1:=d4 h1|with_reducible replace h1:=d5 h1|with_reducible replace h1:=d6 h1|with_reducible replace h1:=d7 h1|with_reducible replace h1:=d8 h1|with_reducible replace h1:=d9 h1|with_reducible replace h1:=d10 h1|with_reducible replace h1:=d11 h1|with_reducible replace h1:=d12 h1|with_reducible replace h1:=d13 h1|with_reducible replace h1:=d14 h1|with_reducible replace h1:=d15 h1|with_reducible replace h1:=d16 h1|with_reducible replace h1:=d17 h1|with_reducible replace h1:=d18 h1|with_reducible replace h1:=d19 h1|with_reducible replace h1:=d20 h1|with_reducible replace h1:=d21 h1|with_reducible replace h1:=d22 h1|with_reducible replace h1:=d23 h1|with_reducible replace h1:=d24 h1
     try simp only [List.length_set] at h1
     first|refine a5m h1 ?_|refine a2H h1 ?_|refine b35 h1 ?_
     repeat' (obtain e|e:=(e:_⊕_))
     all_goals (try simp only [lB,ni] at h)
     all_goals simp+decide only [go_sem,reduceIte,Nat.reduceAdd])
  |refine wb h (fun h=> ?_) (fun h=> ?_)
  |refine wn h (fun x h=> ?_)
  | (cases h<;>first|rfl| (simp only [List.length_set,go_sem];done))):P:=p
end Go.AI
