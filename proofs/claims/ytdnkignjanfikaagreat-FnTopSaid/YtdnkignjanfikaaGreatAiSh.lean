/- Part. -/
import Derived.Test.YtdnkignjanfikaaGreatAiW
import Derived.Test.YtdnkignjanfikaaGreatAiComp
set_option linter.unusedVariables false
namespace Go.AI
@[reducible] def qg (d:Nat) (o:AOp):cw:=⟨some d,o,none⟩
@[reducible] def qG (d:Nat) (o:AOp) (t:Nat) (b:Bool):cw:=⟨some d,o,some (t,b)⟩
@[reducible] def qI (n:Int):Opd:= .c (.int .i64 n)
@[reducible] def qm (d s:Nat):cw:=⟨some d,.mv (.t s),none⟩
@[reducible] def qi (d:Nat) (n:Int):cw:=⟨some d,.mv (.c (.int .i64 n)),none⟩
@[reducible] def ql (d x:Nat):cw:=⟨some d,.load none (.t x),none⟩
@[reducible] def qL (d n x:Nat):cw:=⟨some d,.load (some n) (.t x),none⟩
@[reducible] def qs (d n a x:Nat):cw:=⟨some d,.store n (.t a) (.t x),none⟩
@[reducible] def qu (n a x:Nat):cw:=⟨none,.store n (.t a) (.t x),none⟩
@[reducible] def qb (d:Nat) (o:BinOp) (x y:Nat):cw:=⟨some d,.bin o (.t x) (.t y),none⟩
@[reducible] def qB (d:Nat) (o:BinOp) (x:Nat) (n:Int):cw:=⟨some d,.bin o (.t x) (.c (.int .i64 n)),none⟩
@[reducible] def qD (d:Nat) (o:BinOp) (n:Int) (y:Nat):cw:=⟨some d,.bin o (.c (.int .i64 n)) (.t y),none⟩
@[reducible] def qo (d k x:Nat):cw:=⟨some d,.off k (.t x),none⟩
@[reducible] def qc (d f:Nat) (l:List Nat):cw:=⟨some d,.call f (l.map .t),none⟩
@[reducible] def qe (d x i:Nat):cw:=⟨some d,.ext (.t x) i,none⟩
@[reducible] def qk (d x:Nat):cw:=⟨some d,.nilCheck (.t x),none⟩
@[reducible] def qn (d x:Nat):cw:=⟨some d,.len false (.t x),none⟩
@[reducible] def qx (d e x i:Nat):cw:=⟨some d,.idx e (.t x) (.t i),none⟩
@[reducible] def qX (d l e x i:Nat):cw:=⟨some d,.idxArr l e (.t x) (.t i),none⟩
@[reducible] def qS (b:Nat) (ss:List cw) (l:List Nat):aU:= .region b ss l
def YK:aU->List (Nat×List Nat)
 | .region b _ l=>[(b/1000-1,l)]
 | .drawn b _ _ l=>[(b/1000-1,l)]
 | .seq a b=>YK a++YK b
 | .cond _ a b=>YK a++YK b
 | .block _ c=>YK c
 | .loop c=>YK c
 | .ghost _ c=>YK c
 |_=>[]
def c5C:aU->Nat
 | .region b _ _=>b/1000-1
 | .drawn b _ _ _=>b/1000-1
 | .ghost _ c=>c5C c
 |_=>0
def b4K:aU->Bool
 | .ret=>true
 | .ghost _ c=>b4K c
 |_=>false
def a1k:aU->List (Nat×dW)
 | .seq a b=>a1k a++a1k b
 | .cond _ a b=>a1k a++a1k b
 | .block _ c=>a1k c
 | .loop c=>a1k c
 | .ghost g c=>if b4K c then [] else (c5C c,g)::a1k c
 |_=>[]
def WK:aU->List (Nat×dW)
 | .seq a b=>match WK a with
   |[]=>WK b
   |l=>l
 | .cond _ a b=>match WK a with
   |[]=>WK b
   |l=>l
 | .block _ c=>WK c
 | .loop c=>WK c
 | .ghost g c=>if b4K c then (999999,g)::WK c else WK c
 |_=>[]
def hnO (a:j4):J5:=⟨YK a.body,a1k a.body++WK a.body,a.keep,a.raw⟩
def owg:List (Nat×List Nat)->Nat->List Nat
 |[],_=>[]
 | (j,v)::r,k=>br (decide (j=k)) v (owg r k)
theorem b8R (k:Nat):owg [] k=[]:=rfl
theorem b06 (j k:Nat) (v:List Nat) (r:List (Nat×List Nat)):owg ((j,v)::r) k=br (decide (j=k)) v (owg r k):=rfl
attribute [go_sem] b8R b06
section
variable {b o new m:Nat} {x:List (Nat×V)} {y:List (Nat×Blk)}
def ghB (b:dW):Option St->Option St
 |some st=>dN st b
 |none=>none
theorem b6b (st:St) (a b:dW):dN st (.both a b)=ghB b (dN st a):=by
 simp only [dN];cases dN st a<;>rfl
theorem b4y (b:dW) (st:St):ghB b (some st)=dN st b:=rfl
def c7l (st:St) (t new m:Nat):V->Option St
 | .lit (.slice none 0 0)=>br ((st.heap new).isNone&&decide (0<m)) (some { e:=lm t (.sl new 0 0) st.e,m:=lm new ⟨m,false,[]⟩ st.m }) (some st)
 |_=>some st
theorem c3S {α:Type} (o:Option α) (m:Nat) (x y:Option St):(if o.isNone=true/\0<m then x else y)=br (o.isNone&&decide (0<m)) x y:=by
 cases o.isNone<;>by_cases h:0<m<;>simp [h,br]
def b0U (st:St) (b o new m k:Nat) (row:List V):Option V->Option St
 |some (.lit (.slice none 0 0))=>br ((st.heap new).isNone&&decide (0<m)) (some { st with m:=lm new ⟨m,false,[]⟩ (lm b ⟨k,true,[row.set o (.sl new 0 0)]⟩ st.m) }) (some st)
 |_=>some st
def b7g (st:St) (b o new m:Nat):Option Blk->Option St
 |some ⟨k,true,[row]⟩=>b0U st b o new m k row row[o]?
 |_=>some st
theorem b9s (st:St):dN st (.nilCell b o new m)=b7g st b o new m (st.heap b):=by
 unfold dN b7g
 cases st.heap b with
 |none=>rfl
 |some k=>
  obtain ⟨e,op,rows⟩:=k
  cases op with
  |false=>simp
  |true=>
   dsimp only
   rw [aa rfl]
   match rows with
   |[]=>rfl
   |[row]=>
    dsimp only
    simp only [b0U,c3S]
    rfl
   |_::_::_=>rfl
theorem a8M (st:St):b7g st b o new m none=some st:=rfl
theorem b7y (st:St) (k:Nat) (row:List V):b7g st b o new m (some ⟨k,true,[row]⟩)=b0U st b o new m k row row[o]? :=rfl
theorem b3d (k:Nat) (row:List V):b0U ⟨x,y⟩ b o new m k row (some (.lit (.slice none 0 0)))=br ((St.heap ⟨x,y⟩ new).isNone&&decide (0<m)) (some ⟨x,lm new ⟨m,false,[]⟩ (lm b ⟨k,true,[row.set o (.sl new 0 0)]⟩ y)⟩) (some ⟨x,y⟩):=rfl
theorem b3D (st:St) (k c s n:Nat) (row:List V):b0U st b o new m k row (some (.sl c s n))=some st:=rfl
end
attribute [go_sem] b6b b4y b9s a8M b7y b3d b3D
theorem wb {α β:Type} {c:Bool} {x y:Option α} {r:α} {X Y Q:Option β} (h:br c x y=some r) (a:x=some r->X=Q) (b:y=some r->Y=Q):br c X Y=Q:=by
 cases c
 ·exact b h
 ·exact a h
theorem wn {α β γ:Type} {x:Option γ} {g:γ->Option α} {F:γ->Option β} {r:α} {Q:Option β} (h:x.bind g=some r) (k: ∀a,g a=some r->F a=Q):x.bind F=Q:=by
 cases x with
 |none=>cases h
 |some a=>exact k a h
def alt {α β γ:Type} (f:α->γ) (g:β->γ):α⊕β->γ
 | .inl a=>f a
 | .inr b=>g b
theorem rX {α β γ:Type} (f:α->γ) (g:β->γ) (a:α):alt f g (.inl a)=f a:=rfl
theorem vK {α β γ:Type} (f:α->γ) (g:β->γ) (b:β):alt f g (.inr b)=g b:=rfl
attribute [go_sem] rX vK
theorem lrG {T:Tab} {ow:fe} {S E:Type} {g:dW} {c:aU} {step:S->Option (S⊕E)} {eS:S->St} {eE:E->dd×St}
 (hb: ∀s o,step s=some o->Rn T ow (Un g) [.code c] (eS s)=some (match o with
  | .inl s'=>(.normal,eS s')
  | .inr e=>eE e)) {s:S} {e:E} (h:Loop step s=some e) (hne: ∀e,(eE e).1≠ .normal:=by intro e;(repeat' (obtain e|e:=(e:_⊕_)));(all_goals (intro h;cases h))):FR T ow g c (eS s)=some (eE e):=
 a6B hne hb h
def LX {S E:Type} (T:Tab) (ow:fe) (g:dW) (c:aU) (step:S->Option (S⊕E)) (eS:S->St) (eE:E->dd×St):Prop:=
 ∀s e,Loop step s=some e->FR T ow g c (eS s)=some (eE e)
theorem lrX {T:Tab} {ow:fe} {S E:Type} {g:dW} {c:aU} {step:S->Option (S⊕E)} {eS:S->St} {eE:E->dd×St}
 (hb: ∀s o,step s=some o->Rn T ow (Un g) [.code c] (eS s)=some (match o with
  | .inl s'=>(.normal,eS s')
  | .inr e=>eE e)) (hne: ∀e,(eE e).1≠ .normal:=by intro e;(repeat' (obtain e|e:=(e:_⊕_)));(all_goals (intro h;cases h))):LX T ow g c step eS eE:=
 fun _ _ h=>lrG hb h hne
abbrev LXe {S E:Type} (T:Tab) (ow:fe) (g:dW) (c:aU) (step:S->Option (S⊕E)) (eS:S->St) (k:Nat) (p:E->S) (x:E->List (Nat×V)):Prop:=
 LX T ow g c step eS fun e=>(.exit k,⟨(eS (p e)).e++x e,(eS (p e)).m⟩)
theorem lxE {T:Tab} {ow:fe} {S E:Type} {g:dW} {c:aU} {step:S->Option (S⊕E)} {eS:S->St} {eE:E->dd×St} (x:LX T ow g c step eS eE) {s:S} {e:E} (h:Loop step s=some e):FR T ow g c (eS s)=some (eE e):=x s e h
theorem go {P:Prop} (p:P:=by
 repeat' first
  |with_reducible refine wb h (fun h=> ?_) (fun h=> ?_)
  |with_reducible refine wn h (fun x h=> ?_)
  | (obtain ⟨e,h1,h⟩:=bd h
     first|with_reducible replace h1:=d1 h1|with_reducible replace h1:=d2 h1|with_reducible replace h1:=d3 h1|with_reducible replace h1:=d4 h1|with_reducible replace h1:=d5 h1|with_reducible replace h1:=d6 h1|with_reducible replace h1:=d7 h1|with_reducible replace h1:=d8 h1|with_reducible replace h1:=d9 h1|with_reducible replace h1:=d10 h1|with_reducible replace h1:=d11 h1|with_reducible replace h1:=d12 h1|with_reducible replace h1:=d13 h1|with_reducible replace h1:=d14 h1|with_reducible replace h1:=d15 h1|with_reducible replace h1:=d16 h1|with_reducible replace h1:=d17 h1|with_reducible replace h1:=d18 h1|with_reducible replace h1:=d19 h1|with_reducible replace h1:=d20 h1|with_reducible replace h1:=d21 h1|with_reducible replace h1:=d22 h1|with_reducible replace h1:=d23 h1|with_reducible replace h1:=d24 h1|with_reducible replace h1:=lxE d1 h1|with_reducible replace h1:=lxE d2 h1|with_reducible replace h1:=lxE d3 h1|with_reducible replace h1:=lxE d4 h1|with_reducible replace h1:=lxE d5 h1|with_reducible replace h1:=lxE d6 h1|with_reducible replace h1:=lxE d7 h1|with_reducible replace h1:=lxE d8 h1|with_reducible replace h1:=lxE d9 h1|with_reducible replace h1:=lxE d10 h1|with_reducible replace h1:=lxE d11 h1|with_reducible replace h1:=lxE d12 h1|with_reducible replace h1:=lxE d13 h1|with_reducible replace h1:=lxE d14 h1|with_reducible replace h1:=lxE d15 h1|with_reducible replace h1:=lxE d16 h1|with_reducible replace h1:=lxE d17 h1|with_reducible replace h1:=lxE d18 h1|with_reducible replace h1:=lxE d19 h1|with_reducible replace h1:=lxE d20 h1|with_reducible replace h1:=lxE d21 h1|with_reducible replace h1:=lxE d22 h1|with_reducible replace h1:=lxE d23 h1|with_reducible replace h1:=lxE d24 h1
     try simp only [aO] at h1
     first|refine dq h1 ?_|refine ld h1 ?_|refine E5 h1 ?_
     repeat' (obtain e|e:=(e:_⊕_))
     all_goals (try simp only [rX,vK] at h)
     all_goals simp+decide only [go_sem,reduceIte,Nat.reduceAdd,Int.reduceBEq])
  |refine wb h (fun h=> ?_) (fun h=> ?_)
  |refine wn h (fun x h=> ?_)
  | (cases h<;>first|rfl| (simp only [aO,go_sem];done))):P:=p
theorem go2 {P:Prop} (p:P:=by (simp+decide only [go_sem,reduceIte,Nat.reduceAdd,Int.reduceBEq]);all_goals exact go):P:=p
end Go.AI
