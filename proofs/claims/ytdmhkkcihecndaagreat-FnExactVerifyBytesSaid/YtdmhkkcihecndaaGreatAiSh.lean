/- Short forms of code, hints told by the code itself, and the steps by which walks go. -/
import Derived.Test.YtdmhkkcihecndaaGreatAiW
import Derived.Test.YtdmhkkcihecndaaGreatAiComp
set_option linter.unusedVariables false
namespace Go.AI
@[reducible] def qg (d:Nat) (o:AOp):aV:=⟨some d,o,none⟩
@[reducible] def qG (d:Nat) (o:AOp) (t:Nat) (b:Bool):aV:=⟨some d,o,some (t,b)⟩
@[reducible] def qI (n:Int):Opd:= .c (.int .i64 n)
@[reducible] def qm (d s:Nat):aV:=⟨some d,.mv (.t s),none⟩
@[reducible] def qi (d:Nat) (n:Int):aV:=⟨some d,.mv (.c (.int .i64 n)),none⟩
@[reducible] def ql (d x:Nat):aV:=⟨some d,.load none (.t x),none⟩
@[reducible] def qL (d n x:Nat):aV:=⟨some d,.load (some n) (.t x),none⟩
@[reducible] def qs (d n a x:Nat):aV:=⟨some d,.store n (.t a) (.t x),none⟩
@[reducible] def qu (n a x:Nat):aV:=⟨none,.store n (.t a) (.t x),none⟩
@[reducible] def qb (d:Nat) (o:BinOp) (x y:Nat):aV:=⟨some d,.bin o (.t x) (.t y),none⟩
@[reducible] def qB (d:Nat) (o:BinOp) (x:Nat) (n:Int):aV:=⟨some d,.bin o (.t x) (.c (.int .i64 n)),none⟩
@[reducible] def qD (d:Nat) (o:BinOp) (n:Int) (y:Nat):aV:=⟨some d,.bin o (.c (.int .i64 n)) (.t y),none⟩
@[reducible] def qo (d k x:Nat):aV:=⟨some d,.off k (.t x),none⟩
@[reducible] def qc (d f:Nat) (l:List Nat):aV:=⟨some d,.call f (l.map .t),none⟩
@[reducible] def qe (d x i:Nat):aV:=⟨some d,.ext (.t x) i,none⟩
@[reducible] def qk (d x:Nat):aV:=⟨some d,.nilCheck (.t x),none⟩
@[reducible] def qn (d x:Nat):aV:=⟨some d,.len false (.t x),none⟩
@[reducible] def qx (d e x i:Nat):aV:=⟨some d,.idx e (.t x) (.t i),none⟩
@[reducible] def qX (d l e x i:Nat):aV:=⟨some d,.idxArr l e (.t x) (.t i),none⟩
@[reducible] def qS (b:Nat) (ss:List aV) (l:List Nat):ai:= .region b ss l
def XV:ai→List (Nat×List Nat)
 | .region b _ l=>[(b/1000-1,l)]
 | .drawn b _ _ l=>[(b/1000-1,l)]
 | .seq a b=>XV a++XV b
 | .cond _ a b=>XV a++XV b
 | .block _ c=>XV c
 | .loop c=>XV c
 | .ghost _ c=>XV c
 |_=>[]
def b97:ai→Nat
 | .region b _ _=>b/1000-1
 | .drawn b _ _ _=>b/1000-1
 | .ghost _ c=>b97 c
 |_=>0
def Z9:ai→List (Nat×dB)
 | .seq a b=>Z9 a++Z9 b
 | .cond _ a b=>Z9 a++Z9 b
 | .block _ c=>Z9 c
 | .loop c=>Z9 c
 | .ghost g c=>(b97 c,g)::Z9 c
 |_=>[]
def hnO (a:ae):a47:=⟨XV a.body,Z9 a.body,a.keep,a.raw⟩
def owg:List (Nat×List Nat)→Nat→List Nat
 |[],_=>[]
 | (j,v)::r,k=>br (decide (j=k)) v (owg r k)
theorem b46 (k:Nat):owg [] k=[]:=rfl
theorem b0d (j k:Nat) (v:List Nat) (r:List (Nat×List Nat)):owg ((j,v)::r) k=br (decide (j=k)) v (owg r k):=rfl
attribute [go_sem] b46 b0d
section
variable {b o new m:Nat} {x:List (Nat×V)} {y:List (Nat×Blk)}
def ghB (b:dB):Option St→Option St
 |some st=>bK st b
 |none=>none
theorem b3W (st:St) (a b:dB):bK st (.both a b)=ghB b (bK st a):=by
 simp only [bK];cases bK st a<;>rfl
theorem a7o (b:dB) (st:St):ghB b (some st)=bK st b:=rfl
def b0l (st:St) (t new m:Nat):V→Option St
 | .lit (.slice none 0 0)=>br ((st.heap new).isNone&&decide (0<m)) (some { e:=fJ t (.sl new 0 0) st.e,m:=fJ new ⟨m,false,[]⟩ st.m }) (some st)
 |_=>some st
theorem a9Q {α:Type} (o:Option α) (m:Nat) (x y:Option St):(if o.isNone=true∧0<m then x else y)=br (o.isNone&&decide (0<m)) x y:=by
 cases o.isNone<;>by_cases h:0<m<;>simp [h,br]
theorem b4K (st:St) (t:Nat):bK st (.nilTmp t new m)=b0l st t new m (st.get t):=by
 simp only [bK,b0l,a9Q]
 rfl
theorem a7p (t:Nat):b0l ⟨x,y⟩ t new m (.lit (.slice none 0 0))=br ((St.heap ⟨x,y⟩ new).isNone&&decide (0<m)) (some ⟨fJ t (.sl new 0 0) x,fJ new ⟨m,false,[]⟩ y⟩) (some ⟨x,y⟩):=rfl
theorem a9X (st:St) (t c s n:Nat):b0l st t new m (.sl c s n)=some st:=rfl
theorem a8B (st:St) (t c:Nat) (r:List (List V)):b0l st t new m (.imm c r)=some st:=rfl
def a99 (st:St) (b o new m k:Nat) (row:List V):Option V→Option St
 |some (.lit (.slice none 0 0))=>br ((st.heap new).isNone&&decide (0<m)) (some { st with m:=fJ new ⟨m,false,[]⟩ (fJ b ⟨k,true,[row.set o (.sl new 0 0)]⟩ st.m) }) (some st)
 |_=>some st
def b8H (st:St) (b o new m:Nat):Option Blk→Option St
 |some ⟨k,true,[row]⟩=>a99 st b o new m k row row[o]?
 |_=>some st
theorem b4o (st:St):bK st (.nilCell b o new m)=b8H st b o new m (st.heap b):=by
 unfold bK b8H
 cases st.heap b with
 |none=>rfl
 |some k=>
  obtain ⟨e,op,rows⟩:=k
  cases op with
  |false=>simp
  |true=>
   dsimp only
   rw [if_pos rfl]
   match rows with
   |[]=>rfl
   |[row]=>
    dsimp only
    simp only [a99,a9Q]
    rfl
   |_::_::_=>rfl
theorem b3d (st:St) (k:Nat) (row:List V):b8H st b o new m (some ⟨k,true,[row]⟩)=a99 st b o new m k row row[o]? :=rfl
theorem b04 (k:Nat) (row:List V):a99 ⟨x,y⟩ b o new m k row (some (.lit (.slice none 0 0)))=br ((St.heap ⟨x,y⟩ new).isNone&&decide (0<m)) (some ⟨x,fJ new ⟨m,false,[]⟩ (fJ b ⟨k,true,[row.set o (.sl new 0 0)]⟩ y)⟩) (some ⟨x,y⟩):=rfl
theorem b0F (st:St) (k c s n:Nat) (row:List V):a99 st b o new m k row (some (.sl c s n))=some st:=rfl
end
theorem b2G (x:List (Nat×V)) (y:List (Nat×Blk)) (ts:List Nat):bK ⟨x,y⟩ (.drop ts)=some ⟨NU ts x,y⟩:=rfl
theorem a9H (ts:List Nat):NU ts []=[]:=rfl
theorem a5f (ts:List Nat) (t:Nat) (v:V) (r:List (Nat×V)):NU ts ((t,v)::r)=(t,br (ts.contains t) .undef v)::NU ts r:=by
 simp only [NU];by_cases h:t∈ts<;>simp [h,br]
attribute [go_sem] b2G a9H a5f b3W a7o b4K a7p a9X a8B b4o b3d b04 b0F
theorem wb {α β:Type} {c:Bool} {x y:Option α} {r:α} {X Y Q:Option β} (h:br c x y=some r) (k1:x=some r→X=Q) (k2:y=some r→Y=Q):br c X Y=Q:=by
 cases c
 ·exact k2 h
 ·exact k1 h
theorem wn {α β γ:Type} {x:Option γ} {g:γ→Option α} {F:γ→Option β} {r:α} {Q:Option β} (h:x.bind g=some r) (k: ∀a,g a=some r→F a=Q):x.bind F=Q:=by
 cases x with
 |none=>cases h
 |some a=>exact k a h
def alt {α β γ:Type} (f:α→γ) (g:β→γ):α⊕β→γ
 | .inl a=>f a
 | .inr b=>g b
theorem jX {α β γ:Type} (f:α→γ) (g:β→γ) (a:α):alt f g (.inl a)=f a:=rfl
theorem mN {α β γ:Type} (f:α→γ) (g:β→γ) (b:β):alt f g (.inr b)=g b:=rfl
attribute [go_sem] jX mN
theorem lrG {T:Tab} {ow:dI} {S E:Type} {g:dB} {c:ai} {step:S→Option (S⊕E)} {eS:S→St} {eE:E→ag×St}
 (hb: ∀s o,step s=some o→Rn T ow (UE g) [.code c] (eS s)=some (match o with
  | .inl s'=>(.normal,eS s')
  | .inr e=>eE e)) {s:S} {e:E} (h:Loop step s=some e) (hne: ∀e,(eE e).1≠ .normal:=by intro e;(repeat' (obtain e|e:=(e:_⊕_)));(all_goals (intro h;cases h))):aq T ow g c (eS s)=some (eE e):=
 a4q hne hb h
theorem go {P:Prop} (p:P:=by
 repeat' first
  |with_reducible refine wb h (fun h=> ?_) (fun h=> ?_)
  |with_reducible refine wn h (fun x h=> ?_)
  | (obtain ⟨e,h1,h⟩:=bd h
     first|with_reducible replace h1:=d1 h1|with_reducible replace h1:=d2 h1|with_reducible replace h1:=d3 h1|with_reducible replace h1:=d4 h1|with_reducible replace h1:=d5 h1|with_reducible replace h1:=d6 h1|with_reducible replace h1:=d7 h1|with_reducible replace h1:=d8 h1|with_reducible replace h1:=d9 h1|with_reducible replace h1:=d10 h1|with_reducible replace h1:=d11 h1|with_reducible replace h1:=d12 h1|with_reducible replace h1:=d13 h1|with_reducible replace h1:=d14 h1|with_reducible replace h1:=d15 h1|with_reducible replace h1:=d16 h1|with_reducible replace h1:=d17 h1|with_reducible replace h1:=d18 h1|with_reducible replace h1:=d19 h1|with_reducible replace h1:=d20 h1|with_reducible replace h1:=d21 h1|with_reducible replace h1:=d22 h1|with_reducible replace h1:=d23 h1|with_reducible replace h1:=d24 h1
     try simp only [List.length_set] at h1
     first|refine uf h1 ?_|refine le h1 ?_|refine H9 h1 ?_
     repeat' (obtain e|e:=(e:_⊕_))
     all_goals (try simp only [jX,mN] at h)
     all_goals simp+decide only [go_sem,reduceIte,Nat.reduceAdd])
  |refine wb h (fun h=> ?_) (fun h=> ?_)
  |refine wn h (fun x h=> ?_)
  | (cases h<;>first|rfl| (simp only [List.length_set,go_sem];done))):P:=p
theorem go2 {P:Prop} (p:P:=by (simp+decide only [go_sem,reduceIte,Nat.reduceAdd]);all_goals exact go):P:=p
end Go.AI
