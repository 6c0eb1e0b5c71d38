/- Short forms of code, hints told by the code itself, and the steps by which walks go. -/
import Derived.Test.YtdmhkkcihecndaaGreatAiW
import Derived.Test.YtdmhkkcihecndaaGreatAiComp
set_option linter.unusedVariables false
namespace Go.AI
@[reducible] def qg (d:Nat) (o:AOp):aY:=⟨some d,o,none⟩
@[reducible] def qG (d:Nat) (o:AOp) (t:Nat) (b:Bool):aY:=⟨some d,o,some (t,b)⟩
@[reducible] def qI (n:Int):Opd:= .c (.int .i64 n)
@[reducible] def qm (d s:Nat):aY:=⟨some d,.mv (.t s),none⟩
@[reducible] def qi (d:Nat) (n:Int):aY:=⟨some d,.mv (.c (.int .i64 n)),none⟩
@[reducible] def ql (d x:Nat):aY:=⟨some d,.load none (.t x),none⟩
@[reducible] def qL (d n x:Nat):aY:=⟨some d,.load (some n) (.t x),none⟩
@[reducible] def qs (d n a x:Nat):aY:=⟨some d,.store n (.t a) (.t x),none⟩
@[reducible] def qu (n a x:Nat):aY:=⟨none,.store n (.t a) (.t x),none⟩
@[reducible] def qb (d:Nat) (o:BinOp) (x y:Nat):aY:=⟨some d,.bin o (.t x) (.t y),none⟩
@[reducible] def qB (d:Nat) (o:BinOp) (x:Nat) (n:Int):aY:=⟨some d,.bin o (.t x) (.c (.int .i64 n)),none⟩
@[reducible] def qD (d:Nat) (o:BinOp) (n:Int) (y:Nat):aY:=⟨some d,.bin o (.c (.int .i64 n)) (.t y),none⟩
@[reducible] def qo (d k x:Nat):aY:=⟨some d,.off k (.t x),none⟩
@[reducible] def qc (d f:Nat) (l:List Nat):aY:=⟨some d,.call f (l.map .t),none⟩
@[reducible] def qe (d x i:Nat):aY:=⟨some d,.ext (.t x) i,none⟩
@[reducible] def qk (d x:Nat):aY:=⟨some d,.nilCheck (.t x),none⟩
@[reducible] def qn (d x:Nat):aY:=⟨some d,.len false (.t x),none⟩
@[reducible] def qx (d e x i:Nat):aY:=⟨some d,.idx e (.t x) (.t i),none⟩
@[reducible] def qX (d l e x i:Nat):aY:=⟨some d,.idxArr l e (.t x) (.t i),none⟩
@[reducible] def qS (b:Nat) (ss:List aY) (l:List Nat):ae:= .region b ss l
def Vo:ae→List (Nat×List Nat)
 | .region b _ l=>[(b/1000-1,l)]
 | .drawn b _ _ l=>[(b/1000-1,l)]
 | .seq a b=>Vo a++Vo b
 | .cond _ a b=>Vo a++Vo b
 | .block _ c=>Vo c
 | .loop c=>Vo c
 | .ghost _ c=>Vo c
 |_=>[]
def b52:ae→Nat
 | .region b _ _=>b/1000-1
 | .drawn b _ _ _=>b/1000-1
 | .ghost _ c=>b52 c
 |_=>0
def W1:ae→List (Nat×fO)
 | .seq a b=>W1 a++W1 b
 | .cond _ a b=>W1 a++W1 b
 | .block _ c=>W1 c
 | .loop c=>W1 c
 | .ghost g c=>(b52 c,g)::W1 c
 |_=>[]
def hnO (a:ag):a0a:=⟨Vo a.body,W1 a.body,a.keep,a.raw⟩
def owg:List (Nat×List Nat)→Nat→List Nat
 |[],_=>[]
 | (j,v)::r,k=>br (decide (j=k)) v (owg r k)
theorem b0C (k:Nat):owg [] k=[]:=rfl
theorem a5b (j k:Nat) (v:List Nat) (r:List (Nat×List Nat)):owg ((j,v)::r) k=br (decide (j=k)) v (owg r k):=rfl
attribute [go_sem] b0C a5b
section
variable {b o new m:Nat} {x:List (Nat×V)} {y:List (Nat×Blk)}
def ghB (b:fO):Option St→Option St
 |some st=>bB st b
 |none=>none
theorem b1c (st:St) (a b:fO):bB st (.both a b)=ghB b (bB st a):=by
 simp only [bB];cases bB st a<;>rfl
theorem a49 (b:fO) (st:St):ghB b (some st)=bB st b:=rfl
def a4C (st:St) (t new m:Nat):V→Option St
 | .lit (.slice none 0 0)=>br ((st.heap new).isNone&&decide (0<m)) (some { e:=eU t (.sl new 0 0) st.e,m:=eU new ⟨m,false,[]⟩ st.m }) (some st)
 |_=>some st
theorem a5X {α:Type} (o:Option α) (m:Nat) (x y:Option St):(if o.isNone=true∧0<m then x else y)=br (o.isNone&&decide (0<m)) x y:=by
 cases o.isNone<;>by_cases h:0<m<;>simp [h,br]
theorem b0X (st:St) (t:Nat):bB st (.nilTmp t new m)=a4C st t new m (st.get t):=by
 simp only [bB,a4C,a5X]
 rfl
theorem a4l (t:Nat):a4C ⟨x,y⟩ t new m (.lit (.slice none 0 0))=br ((St.heap ⟨x,y⟩ new).isNone&&decide (0<m)) (some ⟨eU t (.sl new 0 0) x,eU new ⟨m,false,[]⟩ y⟩) (some ⟨x,y⟩):=rfl
theorem a6O (st:St) (t c s n:Nat):a4C st t new m (.sl c s n)=some st:=rfl
theorem a6L (st:St) (t c:Nat) (r:List (List V)):a4C st t new m (.imm c r)=some st:=rfl
def a4t (st:St) (b o new m k:Nat) (row:List V):Option V→Option St
 |some (.lit (.slice none 0 0))=>br ((st.heap new).isNone&&decide (0<m)) (some { st with m:=eU new ⟨m,false,[]⟩ (eU b ⟨k,true,[row.set o (.sl new 0 0)]⟩ st.m) }) (some st)
 |_=>some st
def b3H (st:St) (b o new m:Nat):Option Blk→Option St
 |some ⟨k,true,[row]⟩=>a4t st b o new m k row row[o]?
 |_=>some st
theorem a83 (st:St):bB st (.nilCell b o new m)=b3H st b o new m (st.heap b):=by
 unfold bB b3H
 cases st.heap b with
 |none=>rfl
 |some k=>
  obtain ⟨e,op,rows⟩:=k
  cases op with
  |false=>simp
  |true=>
   dsimp only
   rw [if_pos rfl]
   match rows with
   |[]=>rfl
   |[row]=>
    dsimp only
    simp only [a4t,a5X]
    rfl
   |_::_::_=>rfl
theorem b00 (st:St) (k:Nat) (row:List V):b3H st b o new m (some ⟨k,true,[row]⟩)=a4t st b o new m k row row[o]? :=rfl
theorem a5g (k:Nat) (row:List V):a4t ⟨x,y⟩ b o new m k row (some (.lit (.slice none 0 0)))=br ((St.heap ⟨x,y⟩ new).isNone&&decide (0<m)) (some ⟨x,eU new ⟨m,false,[]⟩ (eU b ⟨k,true,[row.set o (.sl new 0 0)]⟩ y)⟩) (some ⟨x,y⟩):=rfl
theorem a7z (st:St) (k c s n:Nat) (row:List V):a4t st b o new m k row (some (.sl c s n))=some st:=rfl
end
theorem a80 (x:List (Nat×V)) (y:List (Nat×Blk)) (ts:List Nat):bB ⟨x,y⟩ (.drop ts)=some ⟨Lg ts x,y⟩:=rfl
theorem a6e (ts:List Nat):Lg ts []=[]:=rfl
theorem a2T (ts:List Nat) (t:Nat) (v:V) (r:List (Nat×V)):Lg ts ((t,v)::r)=(t,br (ts.contains t) .undef v)::Lg ts r:=by
 simp only [Lg];by_cases h:t∈ts<;>simp [h,br]
attribute [go_sem] a80 a6e a2T b1c a49 b0X a4l a6O a6L a83 b00 a5g a7z
theorem wb {α β:Type} {c:Bool} {x y:Option α} {r:α} {X Y Q:Option β} (h:br c x y=some r) (k1:x=some r→X=Q) (k2:y=some r→Y=Q):br c X Y=Q:=by
 cases c
 ·exact k2 h
 ·exact k1 h
theorem wn {α β γ:Type} {x:Option γ} {g:γ→Option α} {F:γ→Option β} {r:α} {Q:Option β} (h:x.bind g=some r) (k: ∀a,g a=some r→F a=Q):x.bind F=Q:=by
 cases x with
 |none=>cases h
 |some a=>exact k a h
def alt {α β γ:Type} (f:α→γ) (g:β→γ):α⊕β→γ
 | .inl a=>f a
 | .inr b=>g b
theorem iC {α β γ:Type} (f:α→γ) (g:β→γ) (a:α):alt f g (.inl a)=f a:=rfl
theorem kt {α β γ:Type} (f:α→γ) (g:β→γ) (b:β):alt f g (.inr b)=g b:=rfl
attribute [go_sem] iC kt
theorem lrG {T:Tab} {ow:dl} {S E:Type} {g:fO} {c:ae} {step:S→Option (S⊕E)} {eS:S→St} {eE:E→ah×St}
 (hb: ∀s o,step s=some o→Rn T ow (Sw g) [.code c] (eS s)=some (match o with
  | .inl s'=>(.normal,eS s')
  | .inr e=>eE e)) {s:S} {e:E} (h:Loop step s=some e) (hne: ∀e,(eE e).1≠ .normal:=by intro e;(repeat' (obtain e|e:=(e:_⊕_)));(all_goals (intro h;cases h))):aq T ow g c (eS s)=some (eE e):=
 a2k hne hb h
theorem go {P:Prop} (p:P:=by
 repeat' first
  |with_reducible refine wb h (fun h=> ?_) (fun h=> ?_)
  |with_reducible refine wn h (fun x h=> ?_)
  | (obtain ⟨e,h1,h⟩:=bd h
     first|with_reducible replace h1:=d1 h1|with_reducible replace h1:=d2 h1|with_reducible replace h1:=d3 h1|with_reducible replace h1:=d4 h1|with_reducible replace h1:=d5 h1|with_reducible replace h1:=d6 h1|with_reducible replace h1:=d7 h1|with_reducible replace h1:=d8 h1|with_reducible replace h1:=d9 h1|with_reducible replace h1:=d10 h1|with_reducible replace h1:=d11 h1|with_reducible replace h1:=d12 h1|with_reducible replace h1:=d13 h1|with_reducible replace h1:=d14 h1|with_reducible replace h1:=d15 h1|with_reducible replace h1:=d16 h1|with_reducible replace h1:=d17 h1|with_reducible replace h1:=d18 h1|with_reducible replace h1:=d19 h1|with_reducible replace h1:=d20 h1|with_reducible replace h1:=d21 h1|with_reducible replace h1:=d22 h1|with_reducible replace h1:=d23 h1|with_reducible replace h1:=d24 h1
     try simp only [List.length_set] at h1
     first|refine tu h1 ?_|refine jt h1 ?_|refine DC h1 ?_
     repeat' (obtain e|e:=(e:_⊕_))
     all_goals (try simp only [iC,kt] at h)
     all_goals simp+decide only [go_sem,reduceIte,Nat.reduceAdd])
  |refine wb h (fun h=> ?_) (fun h=> ?_)
  |refine wn h (fun x h=> ?_)
  | (cases h<;>first|rfl| (simp only [List.length_set,go_sem];done))):P:=p
end Go.AI
