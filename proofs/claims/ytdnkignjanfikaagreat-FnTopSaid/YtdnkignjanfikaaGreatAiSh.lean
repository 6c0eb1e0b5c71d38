/- Part. -/
import Derived.Test.YtdnkignjanfikaaGreatAiW
import Derived.Test.YtdnkignjanfikaaGreatAiComp
set_option linter.unusedVariables false
namespace Go.AI
@[reducible] def qg (d:Nat) (o:AOp):cx:=⟨some d,o,none⟩
@[reducible] def qG (d:Nat) (o:AOp) (t:Nat) (b:Bool):cx:=⟨some d,o,some (t,b)⟩
@[reducible] def qI (n:Int):Opd:= .c (.int .i64 n)
@[reducible] def qm (d s:Nat):cx:=⟨some d,.mv (.t s),none⟩
@[reducible] def qi (d:Nat) (n:Int):cx:=⟨some d,.mv (.c (.int .i64 n)),none⟩
@[reducible] def ql (d x:Nat):cx:=⟨some d,.load none (.t x),none⟩
@[reducible] def qL (d n x:Nat):cx:=⟨some d,.load (some n) (.t x),none⟩
@[reducible] def qs (d n a x:Nat):cx:=⟨some d,.store n (.t a) (.t x),none⟩
@[reducible] def qu (n a x:Nat):cx:=⟨none,.store n (.t a) (.t x),none⟩
@[reducible] def qb (d:Nat) (o:BinOp) (x y:Nat):cx:=⟨some d,.bin o (.t x) (.t y),none⟩
@[reducible] def qB (d:Nat) (o:BinOp) (x:Nat) (n:Int):cx:=⟨some d,.bin o (.t x) (.c (.int .i64 n)),none⟩
@[reducible] def qD (d:Nat) (o:BinOp) (n:Int) (y:Nat):cx:=⟨some d,.bin o (.c (.int .i64 n)) (.t y),none⟩
@[reducible] def qo (d k x:Nat):cx:=⟨some d,.off k (.t x),none⟩
@[reducible] def qc (d f:Nat) (l:List Nat):cx:=⟨some d,.call f (l.map .t),none⟩
@[reducible] def qe (d x i:Nat):cx:=⟨some d,.ext (.t x) i,none⟩
@[reducible] def qk (d x:Nat):cx:=⟨some d,.nilCheck (.t x),none⟩
@[reducible] def qn (d x:Nat):cx:=⟨some d,.len false (.t x),none⟩
@[reducible] def qx (d e x i:Nat):cx:=⟨some d,.idx e (.t x) (.t i),none⟩
@[reducible] def qX (d l e x i:Nat):cx:=⟨some d,.idxArr l e (.t x) (.t i),none⟩
@[reducible] def qS (b:Nat) (ss:List cx) (l:List Nat):aU:= .region b ss l
def a1h:aU->List (Nat×List Nat)
 | .region b _ l=>[(b/1000-1,l)]
 | .drawn b _ _ l=>[(b/1000-1,l)]
 | .seq a b=>a1h a++a1h b
 | .cond _ a b=>a1h a++a1h b
 | .block _ c=>a1h c
 | .loop c=>a1h c
 | .ghost _ c=>a1h c
 |_=>[]
def c4U:aU->Nat
 | .region b _ _=>b/1000-1
 | .drawn b _ _ _=>b/1000-1
 | .ghost _ c=>c4U c
 |_=>0
def b2W:aU->Bool
 | .ret=>true
 | .ghost _ c=>b2W c
 |_=>false
def Z5:aU->List (Nat×dX)
 | .seq a b=>Z5 a++Z5 b
 | .cond _ a b=>Z5 a++Z5 b
 | .block _ c=>Z5 c
 | .loop c=>Z5 c
 | .ghost g c=>if b2W c then [] else (c4U c,g)::Z5 c
 |_=>[]
def WJ:aU->List (Nat×dX)
 | .seq a b=>match WJ a with
   |[]=>WJ b
   |l=>l
 | .cond _ a b=>match WJ a with
   |[]=>WJ b
   |l=>l
 | .block _ c=>WJ c
 | .loop c=>WJ c
 | .ghost g c=>if b2W c then (999999,g)::WJ c else WJ c
 |_=>[]
def hnO (a:j4):Jt:=⟨a1h a.body,Z5 a.body++WJ a.body,a.keep,a.raw⟩
def owg:List (Nat×List Nat)->Nat->List Nat
 |[],_=>[]
 | (j,v)::r,k=>br (decide (j=k)) v (owg r k)
theorem b5Q (k:Nat):owg [] k=[]:=rfl
theorem b2B (j k:Nat) (v:List Nat) (r:List (Nat×List Nat)):owg ((j,v)::r) k=br (decide (j=k)) v (owg r k):=rfl
attribute [go_sem] b5Q b2B
section
variable {b o new m:Nat} {x:List (Nat×V)} {y:List (Nat×Blk)}
def ghB (b:dX):Option St->Option St
 |some st=>dN st b
 |none=>none
theorem b9e (st:St) (a b:dX):dN st (.both a b)=ghB b (dN st a):=by
 simp only [dN];cases dN st a<;>rfl
theorem a9U (b:dX) (st:St):ghB b (some st)=dN st b:=rfl
def c7k (st:St) (t new m:Nat):V->Option St
 | .lit (.slice none 0 0)=>br ((st.heap new).isNone&&decide (0<m)) (some { e:=lx t (.sl new 0 0) st.e,m:=lx new ⟨m,false,[]⟩ st.m }) (some st)
 |_=>some st
theorem c48 {α:Type} (o:Option α) (m:Nat) (x y:Option St):(if o.isNone=true/\0<m then x else y)=br (o.isNone&&decide (0<m)) x y:=by
 cases o.isNone<;>by_cases h:0<m<;>simp [h,br]
def b1u (st:St) (b o new m k:Nat) (row:List V):Option V->Option St
 |some (.lit (.slice none 0 0))=>br ((st.heap new).isNone&&decide (0<m)) (some { st with m:=lx new ⟨m,false,[]⟩ (lx b ⟨k,true,[row.set o (.sl new 0 0)]⟩ st.m) }) (some st)
 |_=>some st
def b9r (st:St) (b o new m:Nat):Option Blk->Option St
 |some ⟨k,true,[row]⟩=>b1u st b o new m k row row[o]?
 |_=>some st
theorem b8P (st:St):dN st (.nilCell b o new m)=b9r st b o new m (st.heap b):=by
 unfold dN b9r
 cases st.heap b with
 |none=>rfl
 |some k=>
  obtain ⟨e,op,rows⟩:=k
  cases op with
  |false=>simp
  |true=>
   dsimp only
   rw [aa rfl]
   match rows with
   |[]=>rfl
   |[row]=>
    dsimp only
    simp only [b1u,c48]
    rfl
   |_::_::_=>rfl
theorem a9f (st:St):b9r st b o new m none=some st:=rfl
theorem b8s (st:St) (k:Nat) (row:List V):b9r st b o new m (some ⟨k,true,[row]⟩)=b1u st b o new m k row row[o]? :=rfl
theorem b5t (k:Nat) (row:List V):b1u ⟨x,y⟩ b o new m k row (some (.lit (.slice none 0 0)))=br ((St.heap ⟨x,y⟩ new).isNone&&decide (0<m)) (some ⟨x,lx new ⟨m,false,[]⟩ (lx b ⟨k,true,[row.set o (.sl new 0 0)]⟩ y)⟩) (some ⟨x,y⟩):=rfl
theorem b1l (st:St) (k c s n:Nat) (row:List V):b1u st b o new m k row (some (.sl c s n))=some st:=rfl
end
attribute [go_sem] b9e a9U b8P a9f b8s b5t b1l
theorem wb {α β:Type} {c:Bool} {x y:Option α} {r:α} {X Y Q:Option β} (h:br c x y=some r) (a:x=some r->X=Q) (b:y=some r->Y=Q):br c X Y=Q:=by
 cases c
 ·exact b h
 ·exact a h
theorem wn {α β γ:Type} {x:Option γ} {g:γ->Option α} {F:γ->Option β} {r:α} {Q:Option β} (h:x.bind g=some r) (k: ∀a,g a=some r->F a=Q):x.bind F=Q:=by
 cases x with
 |none=>cases h
 |some a=>exact k a h
def alt {α β γ:Type} (f:α->γ) (g:β->γ):α⊕β->γ
 | .inl a=>f a
 | .inr b=>g b
theorem sr {α β γ:Type} (f:α->γ) (g:β->γ) (a:α):alt f g (.inl a)=f a:=rfl
theorem uT {α β γ:Type} (f:α->γ) (g:β->γ) (b:β):alt f g (.inr b)=g b:=rfl
attribute [go_sem] sr uT
theorem lrG {T:Tab} {ow:ff} {S E:Type} {g:dX} {c:aU} {step:S->Option (S⊕E)} {eS:S->St} {eE:E->dd×St}
 (hb: ∀s o,step s=some o->Rn T ow (UD g) [.code c] (eS s)=some (match o with
  | .inl s'=>(.normal,eS s')
  | .inr e=>eE e)) {s:S} {e:E} (h:Loop step s=some e) (hne: ∀e,(eE e).1≠ .normal:=by intro e;(repeat' (obtain e|e:=(e:_⊕_)));(all_goals (intro h;cases h))):H3 T ow g c (eS s)=some (eE e):=
 a7W hne hb h
def LX {S E:Type} (T:Tab) (ow:ff) (g:dX) (c:aU) (step:S->Option (S⊕E)) (eS:S->St) (eE:E->dd×St):Prop:=
 ∀s e,Loop step s=some e->H3 T ow g c (eS s)=some (eE e)
theorem lrX {T:Tab} {ow:ff} {S E:Type} {g:dX} {c:aU} {step:S->Option (S⊕E)} {eS:S->St} {eE:E->dd×St}
 (hb: ∀s o,step s=some o->Rn T ow (UD g) [.code c] (eS s)=some (match o with
  | .inl s'=>(.normal,eS s')
  | .inr e=>eE e)) (hne: ∀e,(eE e).1≠ .normal:=by intro e;(repeat' (obtain e|e:=(e:_⊕_)));(all_goals (intro h;cases h))):LX T ow g c step eS eE:=
 fun _ _ h=>lrG hb h hne
abbrev LXe {S E:Type} (T:Tab) (ow:ff) (g:dX) (c:aU) (step:S->Option (S⊕E)) (eS:S->St) (k:Nat) (p:E->S) (x:E->List (Nat×V)):Prop:=
 LX T ow g c step eS fun e=>(.exit k,⟨(eS (p e)).e++x e,(eS (p e)).m⟩)
theorem lxE {T:Tab} {ow:ff} {S E:Type} {g:dX} {c:aU} {step:S->Option (S⊕E)} {eS:S->St} {eE:E->dd×St} (x:LX T ow g c step eS eE) {s:S} {e:E} (h:Loop step s=some e):H3 T ow g c (eS s)=some (eE e):=x s e h
theorem go {P:Prop} (p:P:=by
 repeat' first
  |with_reducible refine wb h (fun h=> ?_) (fun h=> ?_)
  |with_reducible refine wn h (fun x h=> ?_)
  | (obtain ⟨e,h1,h⟩:=bd h
     first|with_reducible replace h1:=d1 h1|with_reducible replace h1:=d2 h1|with_reducible replace h1:=d3 h1|with_reducible replace h1:=d4 h1|with_reducible replace h1:=d5 h1|with_reducible replace h1:=d6 h1|with_reducible replace h1:=d7 h1|with_reducible replace h1:=d8 h1|with_reducible replace h1:=d9 h1|with_reducible replace h1:=d10 h1|with_reducible replace h1:=d11 h1|with_reducible replace h1:=d12 h1|with_reducible replace h1:=d13 h1|with_reducible replace h1:=d14 h1|with_reducible replace h1:=d15 h1|with_reducible replace h1:=d16 h1|with_reducible replace h1:=d17 h1|with_reducible replace h1:=d18 h1|with_reducible replace h1:=d19 h1|with_reducible replace h1:=d20 h1|with_reducible replace h1:=d21 h1|with_reducible replace h1:=d22 h1|with_reducible replace h1:=d23 h1|with_reducible replace h1:=d24 h1|with_reducible replace h1:=lxE d1 h1|with_reducible replace h1:=lxE d2 h1|with_reducible replace h1:=lxE d3 h1|with_reducible replace h1:=lxE d4 h1|with_reducible replace h1:=lxE d5 h1|with_reducible replace h1:=lxE d6 h1|with_reducible replace h1:=lxE d7 h1|with_reducible replace h1:=lxE d8 h1|with_reducible replace h1:=lxE d9 h1|with_reducible replace h1:=lxE d10 h1|with_reducible replace h1:=lxE d11 h1|with_reducible replace h1:=lxE d12 h1|with_reducible replace h1:=lxE d13 h1|with_reducible replace h1:=lxE d14 h1|with_reducible replace h1:=lxE d15 h1|with_reducible replace h1:=lxE d16 h1|with_reducible replace h1:=lxE d17 h1|with_reducible replace h1:=lxE d18 h1|with_reducible replace h1:=lxE d19 h1|with_reducible replace h1:=lxE d20 h1|with_reducible replace h1:=lxE d21 h1|with_reducible replace h1:=lxE d22 h1|with_reducible replace h1:=lxE d23 h1|with_reducible replace h1:=lxE d24 h1
     try simp only [aO] at h1
     first|refine dq h1 ?_|refine kZ h1 ?_|refine Em h1 ?_
     repeat' (obtain e|e:=(e:_⊕_))
     all_goals (try simp only [sr,uT] at h)
     all_goals simp+decide only [go_sem,reduceIte,Nat.reduceAdd,Int.reduceBEq])
  |refine wb h (fun h=> ?_) (fun h=> ?_)
  |refine wn h (fun x h=> ?_)
  | (cases h<;>first|rfl| (simp only [aO,go_sem];done))):P:=p
theorem go2 {P:Prop} (p:P:=by (simp+decide only [go_sem,reduceIte,Nat.reduceAdd,Int.reduceBEq]);all_goals exact go):P:=p
end Go.AI
