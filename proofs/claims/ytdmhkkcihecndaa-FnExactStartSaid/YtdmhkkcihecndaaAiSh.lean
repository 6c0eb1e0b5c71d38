/- Short forms of code, hints told by the code itself, and the steps by which walks go. -/
import Derived.Test.YtdmhkkcihecndaaAiW
import Derived.Test.YtdmhkkcihecndaaAiComp
set_option linter.unusedVariables false
namespace Go.AI
@[reducible] def qg (d:Nat) (o:AOp):aC:=⟨some d,o,none⟩
@[reducible] def qG (d:Nat) (o:AOp) (t:Nat) (b:Bool):aC:=⟨some d,o,some (t,b)⟩
@[reducible] def qI (n:Int):Opd:= .c (.int .i64 n)
@[reducible] def qm (d s:Nat):aC:=⟨some d,.mv (.t s),none⟩
@[reducible] def qi (d:Nat) (n:Int):aC:=⟨some d,.mv (.c (.int .i64 n)),none⟩
@[reducible] def ql (d x:Nat):aC:=⟨some d,.load none (.t x),none⟩
@[reducible] def qL (d n x:Nat):aC:=⟨some d,.load (some n) (.t x),none⟩
@[reducible] def qs (d n a x:Nat):aC:=⟨some d,.store n (.t a) (.t x),none⟩
@[reducible] def qu (n a x:Nat):aC:=⟨none,.store n (.t a) (.t x),none⟩
@[reducible] def qb (d:Nat) (o:BinOp) (x y:Nat):aC:=⟨some d,.bin o (.t x) (.t y),none⟩
@[reducible] def qB (d:Nat) (o:BinOp) (x:Nat) (n:Int):aC:=⟨some d,.bin o (.t x) (.c (.int .i64 n)),none⟩
@[reducible] def qD (d:Nat) (o:BinOp) (n:Int) (y:Nat):aC:=⟨some d,.bin o (.c (.int .i64 n)) (.t y),none⟩
@[reducible] def qo (d k x:Nat):aC:=⟨some d,.off k (.t x),none⟩
@[reducible] def qc (d f:Nat) (l:List Nat):aC:=⟨some d,.call f (l.map .t),none⟩
@[reducible] def qe (d x i:Nat):aC:=⟨some d,.ext (.t x) i,none⟩
@[reducible] def qk (d x:Nat):aC:=⟨some d,.nilCheck (.t x),none⟩
@[reducible] def qn (d x:Nat):aC:=⟨some d,.len false (.t x),none⟩
@[reducible] def qx (d e x i:Nat):aC:=⟨some d,.idx e (.t x) (.t i),none⟩
@[reducible] def qX (d l e x i:Nat):aC:=⟨some d,.idxArr l e (.t x) (.t i),none⟩
@[reducible] def qS (b:Nat) (ss:List aC) (l:List Nat):ai:= .region b ss l
def CZ:ai→List (Nat×List Nat)
 | .region b _ l=>[(b/1000-1,l)]
 | .drawn b _ _ l=>[(b/1000-1,l)]
 | .seq a b=>CZ a++CZ b
 | .cond _ a b=>CZ a++CZ b
 | .block _ c=>CZ c
 | .loop c=>CZ c
 | .ghost _ c=>CZ c
 |_=>[]
def V2:ai→Nat
 | .region b _ _=>b/1000-1
 | .drawn b _ _ _=>b/1000-1
 | .ghost _ c=>V2 c
 |_=>0
def Jz:ai→Bool
 | .ret=>true
 | .ghost _ c=>Jz c
 |_=>false
def Cz:ai→List (Nat×bN)
 | .seq a b=>Cz a++Cz b
 | .cond _ a b=>Cz a++Cz b
 | .block _ c=>Cz c
 | .loop c=>Cz c
 | .ghost g c=>if Jz c then [] else (V2 c,g)::Cz c
 |_=>[]
def zS:ai→List (Nat×bN)
 | .seq a b=>match zS a with
   |[]=>zS b
   |l=>l
 | .cond _ a b=>match zS a with
   |[]=>zS b
   |l=>l
 | .block _ c=>zS c
 | .loop c=>zS c
 | .ghost g c=>if Jz c then (999999,g)::zS c else zS c
 |_=>[]
def hnO (a:ak):Gz:=⟨CZ a.body,Cz a.body++zS a.body,a.keep,a.raw⟩
def owg:List (Nat×List Nat)→Nat→List Nat
 |[],_=>[]
 | (j,v)::r,k=>br (decide (j=k)) v (owg r k)
theorem PT (k:Nat):owg [] k=[]:=rfl
theorem Nn (j k:Nat) (v:List Nat) (r:List (Nat×List Nat)):owg ((j,v)::r) k=br (decide (j=k)) v (owg r k):=rfl
attribute [go_sem] PT Nn
section
variable {b o new m:Nat} {x:List (Nat×V)} {y:List (Nat×Blk)}
def ghB (b:bN):Option St→Option St
 |some st=>aR st b
 |none=>none
theorem Qf (st:St) (a b:bN):aR st (.both a b)=ghB b (aR st a):=by
 simp only [aR];cases aR st a<;>rfl
theorem Jo (b:bN) (st:St):ghB b (some st)=aR st b:=rfl
def KN (st:St) (t new m:Nat):V→Option St
 | .lit (.slice none 0 0)=>br ((st.heap new).isNone&&decide (0<m)) (some { e:=cI t (.sl new 0 0) st.e,m:=cI new ⟨m,false,[]⟩ st.m }) (some st)
 |_=>some st
theorem Mz {α:Type} (o:Option α) (m:Nat) (x y:Option St):(if o.isNone=true∧0<m then x else y)=br (o.isNone&&decide (0<m)) x y:=by
 cases o.isNone<;>by_cases h:0<m<;>simp [h,br]
theorem Qe (st:St) (t:Nat):aR st (.nilTmp t new m)=KN st t new m (st.get t):=by
 simp only [aR,KN,Mz]
 rfl
theorem Kw (t:Nat):KN ⟨x,y⟩ t new m (.lit (.slice none 0 0))=br ((St.heap ⟨x,y⟩ new).isNone&&decide (0<m)) (some ⟨cI t (.sl new 0 0) x,cI new ⟨m,false,[]⟩ y⟩) (some ⟨x,y⟩):=rfl
theorem Mg (st:St) (t c s n:Nat):KN st t new m (.sl c s n)=some st:=rfl
theorem N5 (st:St) (t c:Nat) (r:List (List V)):KN st t new m (.imm c r)=some st:=rfl
def Lp (st:St) (b o new m k:Nat) (row:List V):Option V→Option St
 |some (.lit (.slice none 0 0))=>br ((st.heap new).isNone&&decide (0<m)) (some { st with m:=cI new ⟨m,false,[]⟩ (cI b ⟨k,true,[row.set o (.sl new 0 0)]⟩ st.m) }) (some st)
 |_=>some st
def Ty (st:St) (b o new m:Nat):Option Blk→Option St
 |some ⟨k,true,[row]⟩=>Lp st b o new m k row row[o]?
 |_=>some st
theorem PW (st:St):aR st (.nilCell b o new m)=Ty st b o new m (st.heap b):=by
 unfold aR Ty
 cases st.heap b with
 |none=>rfl
 |some k=>
  obtain ⟨e,op,rows⟩:=k
  cases op with
  |false=>simp
  |true=>
   dsimp only
   rw [if_pos rfl]
   match rows with
   |[]=>rfl
   |[row]=>
    dsimp only
    simp only [Lp,Mz]
    rfl
   |_::_::_=>rfl
theorem Q7 (st:St) (k:Nat) (row:List V):Ty st b o new m (some ⟨k,true,[row]⟩)=Lp st b o new m k row row[o]? :=rfl
theorem Ms (k:Nat) (row:List V):Lp ⟨x,y⟩ b o new m k row (some (.lit (.slice none 0 0)))=br ((St.heap ⟨x,y⟩ new).isNone&&decide (0<m)) (some ⟨x,cI new ⟨m,false,[]⟩ (cI b ⟨k,true,[row.set o (.sl new 0 0)]⟩ y)⟩) (some ⟨x,y⟩):=rfl
theorem LX (st:St) (k c s n:Nat) (row:List V):Lp st b o new m k row (some (.sl c s n))=some st:=rfl
end
theorem Q9 (x:List (Nat×V)) (y:List (Nat×Blk)) (ts:List Nat):aR ⟨x,y⟩ (.drop ts)=some ⟨wk ts x,y⟩:=rfl
theorem K1 (ts:List Nat):wk ts []=[]:=rfl
theorem Ip (ts:List Nat) (t:Nat) (v:V) (r:List (Nat×V)):wk ts ((t,v)::r)=(t,br (ts.contains t) .undef v)::wk ts r:=by
 simp only [wk];by_cases h:t∈ts<;>simp [h,br]
attribute [go_sem] Q9 K1 Ip Qf Jo Qe Kw Mg N5 PW Q7 Ms LX
theorem wb {α β:Type} {c:Bool} {x y:Option α} {r:α} {X Y Q:Option β} (h:br c x y=some r) (k1:x=some r→X=Q) (k2:y=some r→Y=Q):br c X Y=Q:=by
 cases c
 ·exact k2 h
 ·exact k1 h
theorem wn {α β γ:Type} {x:Option γ} {g:γ→Option α} {F:γ→Option β} {r:α} {Q:Option β} (h:x.bind g=some r) (k: ∀a,g a=some r→F a=Q):x.bind F=Q:=by
 cases x with
 |none=>cases h
 |some a=>exact k a h
def alt {α β γ:Type} (f:α→γ) (g:β→γ):α⊕β→γ
 | .inl a=>f a
 | .inr b=>g b
theorem tp {α β γ:Type} (f:α→γ) (g:β→γ) (a:α):alt f g (.inl a)=f a:=rfl
theorem vC {α β γ:Type} (f:α→γ) (g:β→γ) (b:β):alt f g (.inr b)=g b:=rfl
attribute [go_sem] tp vC
theorem lrG {T:Tab} {ow:bP} {S E:Type} {g:bN} {c:ai} {step:S→Option (S⊕E)} {eS:S→St} {eE:E→al×St}
 (hb: ∀s o,step s=some o→Rn T ow (A1 g) [.code c] (eS s)=some (match o with
  | .inl s'=>(.normal,eS s')
  | .inr e=>eE e)) {s:S} {e:E} (h:Loop step s=some e) (hne: ∀e,(eE e).1≠ .normal:=by intro e;(repeat' (obtain e|e:=(e:_⊕_)));(all_goals (intro h;cases h))):aX T ow g c (eS s)=some (eE e):=
 J9 hne hb h
theorem go {P:Prop} (p:P:=by
 repeat' first
  |with_reducible refine wb h (fun h=> ?_) (fun h=> ?_)
  |with_reducible refine wn h (fun x h=> ?_)
  | (obtain ⟨e,h1,h⟩:=bd h
     first|with_reducible replace h1:=d1 h1|with_reducible replace h1:=d2 h1|with_reducible replace h1:=d3 h1|with_reducible replace h1:=d4 h1|with_reducible replace h1:=d5 h1|with_reducible replace h1:=d6 h1|with_reducible replace h1:=d7 h1|with_reducible replace h1:=d8 h1|with_reducible replace h1:=d9 h1|with_reducible replace h1:=d10 h1|with_reducible replace h1:=d11 h1|with_reducible replace h1:=d12 h1|with_reducible replace h1:=d13 h1|with_reducible replace h1:=d14 h1|with_reducible replace h1:=d15 h1|with_reducible replace h1:=d16 h1|with_reducible replace h1:=d17 h1|with_reducible replace h1:=d18 h1|with_reducible replace h1:=d19 h1|with_reducible replace h1:=d20 h1|with_reducible replace h1:=d21 h1|with_reducible replace h1:=d22 h1|with_reducible replace h1:=d23 h1|with_reducible replace h1:=d24 h1
     try simp only [List.length_set] at h1
     first|refine mL h1 ?_|refine gn h1 ?_|refine AH h1 ?_
     repeat' (obtain e|e:=(e:_⊕_))
     all_goals (try simp only [tp,vC] at h)
     all_goals simp+decide only [go_sem,reduceIte,Nat.reduceAdd])
  |refine wb h (fun h=> ?_) (fun h=> ?_)
  |refine wn h (fun x h=> ?_)
  | (cases h<;>first|rfl| (simp only [List.length_set,go_sem];done))):P:=p
theorem go2 {P:Prop} (p:P:=by (simp+decide only [go_sem,reduceIte,Nat.reduceAdd]);all_goals exact go):P:=p
end Go.AI
