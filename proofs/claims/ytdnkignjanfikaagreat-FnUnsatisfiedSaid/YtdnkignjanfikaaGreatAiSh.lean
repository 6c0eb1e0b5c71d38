/- Short forms of code, hints told by the code itself, and the steps by which walks go. -/
import Derived.Test.YtdnkignjanfikaaGreatAiW
import Derived.Test.YtdnkignjanfikaaGreatAiComp
set_option linter.unusedVariables false
namespace Go.AI
@[reducible] def qg (d:Nat) (o:AOp):bf:=⟨some d,o,none⟩
@[reducible] def qG (d:Nat) (o:AOp) (t:Nat) (b:Bool):bf:=⟨some d,o,some (t,b)⟩
@[reducible] def qI (n:Int):Opd:= .c (.int .i64 n)
@[reducible] def qm (d s:Nat):bf:=⟨some d,.mv (.t s),none⟩
@[reducible] def qi (d:Nat) (n:Int):bf:=⟨some d,.mv (.c (.int .i64 n)),none⟩
@[reducible] def ql (d x:Nat):bf:=⟨some d,.load none (.t x),none⟩
@[reducible] def qL (d n x:Nat):bf:=⟨some d,.load (some n) (.t x),none⟩
@[reducible] def qs (d n a x:Nat):bf:=⟨some d,.store n (.t a) (.t x),none⟩
@[reducible] def qu (n a x:Nat):bf:=⟨none,.store n (.t a) (.t x),none⟩
@[reducible] def qb (d:Nat) (o:BinOp) (x y:Nat):bf:=⟨some d,.bin o (.t x) (.t y),none⟩
@[reducible] def qB (d:Nat) (o:BinOp) (x:Nat) (n:Int):bf:=⟨some d,.bin o (.t x) (.c (.int .i64 n)),none⟩
@[reducible] def qD (d:Nat) (o:BinOp) (n:Int) (y:Nat):bf:=⟨some d,.bin o (.c (.int .i64 n)) (.t y),none⟩
@[reducible] def qo (d k x:Nat):bf:=⟨some d,.off k (.t x),none⟩
@[reducible] def qc (d f:Nat) (l:List Nat):bf:=⟨some d,.call f (l.map .t),none⟩
@[reducible] def qe (d x i:Nat):bf:=⟨some d,.ext (.t x) i,none⟩
@[reducible] def qk (d x:Nat):bf:=⟨some d,.nilCheck (.t x),none⟩
@[reducible] def qn (d x:Nat):bf:=⟨some d,.len false (.t x),none⟩
@[reducible] def qx (d e x i:Nat):bf:=⟨some d,.idx e (.t x) (.t i),none⟩
@[reducible] def qX (d l e x i:Nat):bf:=⟨some d,.idxArr l e (.t x) (.t i),none⟩
@[reducible] def qS (b:Nat) (ss:List bf) (l:List Nat):aq:= .region b ss l
def Xl:aq→List (Nat×List Nat)
 | .region b _ l=>[(b/1000-1,l)]
 | .drawn b _ _ l=>[(b/1000-1,l)]
 | .seq a b=>Xl a++Xl b
 | .cond _ a b=>Xl a++Xl b
 | .block _ c=>Xl c
 | .loop c=>Xl c
 | .ghost _ c=>Xl c
 |_=>[]
def c2Z:aq→Nat
 | .region b _ _=>b/1000-1
 | .drawn b _ _ _=>b/1000-1
 | .ghost _ c=>c2Z c
 |_=>0
def a87:aq→Bool
 | .ret=>true
 | .ghost _ c=>a87 c
 |_=>false
def WW:aq→List (Nat×cY)
 | .seq a b=>WW a++WW b
 | .cond _ a b=>WW a++WW b
 | .block _ c=>WW c
 | .loop c=>WW c
 | .ghost g c=>if a87 c then [] else (c2Z c,g)::WW c
 |_=>[]
def U3:aq→List (Nat×cY)
 | .seq a b=>match U3 a with
   |[]=>U3 b
   |l=>l
 | .cond _ a b=>match U3 a with
   |[]=>U3 b
   |l=>l
 | .block _ c=>U3 c
 | .loop c=>U3 c
 | .ghost g c=>if a87 c then (999999,g)::U3 c else U3 c
 |_=>[]
def hnO (a:al):ES:=⟨Xl a.body,WW a.body++U3 a.body,a.keep,a.raw⟩
def owg:List (Nat×List Nat)→Nat→List Nat
 |[],_=>[]
 | (j,v)::r,k=>br (decide (j=k)) v (owg r k)
theorem b3i (k:Nat):owg [] k=[]:=rfl
theorem a7z (j k:Nat) (v:List Nat) (r:List (Nat×List Nat)):owg ((j,v)::r) k=br (decide (j=k)) v (owg r k):=rfl
attribute [go_sem] b3i a7z
section
variable {b o new m:Nat} {x:List (Nat×V)} {y:List (Nat×Blk)}
def ghB (b:cY):Option St→Option St
 |some st=>bG st b
 |none=>none
theorem b2t (st:St) (a b:cY):bG st (.both a b)=ghB b (bG st a):=by
 simp only [bG];cases bG st a<;>rfl
theorem a6y (b:cY) (st:St):ghB b (some st)=bG st b:=rfl
def b0H (st:St) (t new m:Nat):V→Option St
 | .lit (.slice none 0 0)=>br ((st.heap new).isNone&&decide (0<m)) (some { e:=fx t (.sl new 0 0) st.e,m:=fx new ⟨m,false,[]⟩ st.m }) (some st)
 |_=>some st
theorem a7B {α:Type} (o:Option α) (m:Nat) (x y:Option St):(if o.isNone=true∧0<m then x else y)=br (o.isNone&&decide (0<m)) x y:=by
 cases o.isNone<;>by_cases h:0<m<;>simp [h,br]
theorem b5H (st:St) (t:Nat):bG st (.nilTmp t new m)=b0H st t new m (st.get t):=by
 simp only [bG,b0H,a7B]
 rfl
theorem a8d (t:Nat):b0H ⟨x,y⟩ t new m (.lit (.slice none 0 0))=br ((St.heap ⟨x,y⟩ new).isNone&&decide (0<m)) (some ⟨fx t (.sl new 0 0) x,fx new ⟨m,false,[]⟩ y⟩) (some ⟨x,y⟩):=rfl
theorem b1L (st:St) (t c s n:Nat):b0H st t new m (.sl c s n)=some st:=rfl
theorem b2b (st:St) (t c:Nat) (r:List (List V)):b0H st t new m (.imm c r)=some st:=rfl
def b1C (st:St) (b o new m k:Nat) (row:List V):Option V→Option St
 |some (.lit (.slice none 0 0))=>br ((st.heap new).isNone&&decide (0<m)) (some { st with m:=fx new ⟨m,false,[]⟩ (fx b ⟨k,true,[row.set o (.sl new 0 0)]⟩ st.m) }) (some st)
 |_=>some st
def a7c (st:St) (b o new m:Nat):Option Blk→Option St
 |some ⟨k,true,[row]⟩=>b1C st b o new m k row row[o]?
 |_=>some st
theorem b2G (st:St):bG st (.nilCell b o new m)=a7c st b o new m (st.heap b):=by
 unfold bG a7c
 cases st.heap b with
 |none=>rfl
 |some k=>
  obtain ⟨e,op,rows⟩:=k
  cases op with
  |false=>simp
  |true=>
   dsimp only
   rw [if_pos rfl]
   match rows with
   |[]=>rfl
   |[row]=>
    dsimp only
    simp only [b1C,a7B]
    rfl
   |_::_::_=>rfl
theorem a3f (st:St):a7c st b o new m none=some st:=rfl
theorem b6i (st:St) (k:Nat) (r:List (List V)):a7c st b o new m (some ⟨k,false,r⟩)=some st:=rfl
theorem b4O (st:St) (k:Nat) (row:List V):a7c st b o new m (some ⟨k,true,[row]⟩)=b1C st b o new m k row row[o]? :=rfl
theorem a6W (k:Nat) (row:List V):b1C ⟨x,y⟩ b o new m k row (some (.lit (.slice none 0 0)))=br ((St.heap ⟨x,y⟩ new).isNone&&decide (0<m)) (some ⟨x,fx new ⟨m,false,[]⟩ (fx b ⟨k,true,[row.set o (.sl new 0 0)]⟩ y)⟩) (some ⟨x,y⟩):=rfl
theorem a9A (st:St) (k c s n:Nat) (row:List V):b1C st b o new m k row (some (.sl c s n))=some st:=rfl
end
theorem b53 (x:List (Nat×V)) (y:List (Nat×Blk)) (ts:List Nat):bG ⟨x,y⟩ (.drop ts)=some ⟨NC ts x,y⟩:=rfl
theorem a7U (ts:List Nat):NC ts []=[]:=rfl
theorem a3Y (ts:List Nat) (t:Nat) (v:V) (r:List (Nat×V)):NC ts ((t,v)::r)=(t,br (ts.contains t) .undef v)::NC ts r:=by
 simp only [NC];by_cases h:t∈ts<;>simp [h,br]
attribute [go_sem] b53 a7U a3Y b2t a6y b5H a8d b1L b2b b2G a3f b6i b4O a6W a9A
theorem wb {α β:Type} {c:Bool} {x y:Option α} {r:α} {X Y Q:Option β} (h:br c x y=some r) (k1:x=some r→X=Q) (k2:y=some r→Y=Q):br c X Y=Q:=by
 cases c
 ·exact k2 h
 ·exact k1 h
theorem wn {α β γ:Type} {x:Option γ} {g:γ→Option α} {F:γ→Option β} {r:α} {Q:Option β} (h:x.bind g=some r) (k: ∀a,g a=some r→F a=Q):x.bind F=Q:=by
 cases x with
 |none=>cases h
 |some a=>exact k a h
def alt {α β γ:Type} (f:α→γ) (g:β→γ):α⊕β→γ
 | .inl a=>f a
 | .inr b=>g b
theorem ue {α β γ:Type} (f:α→γ) (g:β→γ) (a:α):alt f g (.inl a)=f a:=rfl
theorem wG {α β γ:Type} (f:α→γ) (g:β→γ) (b:β):alt f g (.inr b)=g b:=rfl
attribute [go_sem] ue wG
theorem lrG {T:Tab} {ow:cy} {S E:Type} {g:cY} {c:aq} {step:S→Option (S⊕E)} {eS:S→St} {eE:E→aw×St}
 (hb: ∀s o,step s=some o→Rn T ow (RF g) [.code c] (eS s)=some (match o with
  | .inl s'=>(.normal,eS s')
  | .inr e=>eE e)) {s:S} {e:E} (h:Loop step s=some e) (hne: ∀e,(eE e).1≠ .normal:=by intro e;(repeat' (obtain e|e:=(e:_⊕_)));(all_goals (intro h;cases h))):aO T ow g c (eS s)=some (eE e):=
 a5a hne hb h
theorem go {P:Prop} (p:P:=by
 repeat' first
  |with_reducible refine wb h (fun h=> ?_) (fun h=> ?_)
  |with_reducible refine wn h (fun x h=> ?_)
  | (obtain ⟨e,h1,h⟩:=bd h
     first|with_reducible replace h1:=d1 h1|with_reducible replace h1:=d2 h1|with_reducible replace h1:=d3 h1|with_reducible replace h1:=d4 h1|with_reducible replace h1:=d5 h1|with_reducible replace h1:=d6 h1|with_reducible replace h1:=d7 h1|with_reducible replace h1:=d8 h1|with_reducible replace h1:=d9 h1|with_reducible replace h1:=d10 h1|with_reducible replace h1:=d11 h1|with_reducible replace h1:=d12 h1|with_reducible replace h1:=d13 h1|with_reducible replace h1:=d14 h1|with_reducible replace h1:=d15 h1|with_reducible replace h1:=d16 h1|with_reducible replace h1:=d17 h1|with_reducible replace h1:=d18 h1|with_reducible replace h1:=d19 h1|with_reducible replace h1:=d20 h1|with_reducible replace h1:=d21 h1|with_reducible replace h1:=d22 h1|with_reducible replace h1:=d23 h1|with_reducible replace h1:=d24 h1
     try simp only [List.length_set] at h1
     first|refine bC h1 ?_|refine fU h1 ?_|refine A1 h1 ?_
     repeat' (obtain e|e:=(e:_⊕_))
     all_goals (try simp only [ue,wG] at h)
     all_goals simp+decide only [go_sem,reduceIte,Nat.reduceAdd,Int.reduceBEq])
  |refine wb h (fun h=> ?_) (fun h=> ?_)
  |refine wn h (fun x h=> ?_)
  | (cases h<;>first|rfl| (simp only [List.length_set,go_sem];done))):P:=p
theorem go2 {P:Prop} (p:P:=by (simp+decide only [go_sem,reduceIte,Nat.reduceAdd,Int.reduceBEq]);all_goals exact go):P:=p
end Go.AI
