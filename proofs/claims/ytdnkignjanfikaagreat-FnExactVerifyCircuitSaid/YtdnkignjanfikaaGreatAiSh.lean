/- Part. -/
import Derived.Test.YtdnkignjanfikaaGreatAiW
import Derived.Test.YtdnkignjanfikaaGreatAiComp
set_option linter.unusedVariables false
namespace Go.AI
@[reducible] def qg (d:Nat) (o:AOp):cn:=⟨some d,o,none⟩
@[reducible] def qG (d:Nat) (o:AOp) (t:Nat) (b:Bool):cn:=⟨some d,o,some (t,b)⟩
@[reducible] def qI (n:Int):Opd:= .c (.int .i64 n)
@[reducible] def qm (d s:Nat):cn:=⟨some d,.mv (.t s),none⟩
@[reducible] def qi (d:Nat) (n:Int):cn:=⟨some d,.mv (.c (.int .i64 n)),none⟩
@[reducible] def ql (d x:Nat):cn:=⟨some d,.load none (.t x),none⟩
@[reducible] def qL (d n x:Nat):cn:=⟨some d,.load (some n) (.t x),none⟩
@[reducible] def qs (d n a x:Nat):cn:=⟨some d,.store n (.t a) (.t x),none⟩
@[reducible] def qu (n a x:Nat):cn:=⟨none,.store n (.t a) (.t x),none⟩
@[reducible] def qb (d:Nat) (o:BinOp) (x y:Nat):cn:=⟨some d,.bin o (.t x) (.t y),none⟩
@[reducible] def qB (d:Nat) (o:BinOp) (x:Nat) (n:Int):cn:=⟨some d,.bin o (.t x) (.c (.int .i64 n)),none⟩
@[reducible] def qD (d:Nat) (o:BinOp) (n:Int) (y:Nat):cn:=⟨some d,.bin o (.c (.int .i64 n)) (.t y),none⟩
@[reducible] def qo (d k x:Nat):cn:=⟨some d,.off k (.t x),none⟩
@[reducible] def qc (d f:Nat) (l:List Nat):cn:=⟨some d,.call f (l.map .t),none⟩
@[reducible] def qe (d x i:Nat):cn:=⟨some d,.ext (.t x) i,none⟩
@[reducible] def qk (d x:Nat):cn:=⟨some d,.nilCheck (.t x),none⟩
@[reducible] def qn (d x:Nat):cn:=⟨some d,.len false (.t x),none⟩
@[reducible] def qx (d e x i:Nat):cn:=⟨some d,.idx e (.t x) (.t i),none⟩
@[reducible] def qX (d l e x i:Nat):cn:=⟨some d,.idxArr l e (.t x) (.t i),none⟩
@[reducible] def qS (b:Nat) (ss:List cn) (l:List Nat):aQ:= .region b ss l
def a3o:aQ->List (Nat×List Nat)
 | .region b _ l=>[(b/1000-1,l)]
 | .drawn b _ _ l=>[(b/1000-1,l)]
 | .seq a b=>a3o a++a3o b
 | .cond _ a b=>a3o a++a3o b
 | .block _ c=>a3o c
 | .loop c=>a3o c
 | .ghost _ c=>a3o c
 |_=>[]
def c79:aQ->Nat
 | .region b _ _=>b/1000-1
 | .drawn b _ _ _=>b/1000-1
 | .ghost _ c=>c79 c
 |_=>0
def b1z:aQ->Bool
 | .ret=>true
 | .ghost _ c=>b1z c
 |_=>false
def a1l:aQ->List (Nat×eU)
 | .seq a b=>a1l a++a1l b
 | .cond _ a b=>a1l a++a1l b
 | .block _ c=>a1l c
 | .loop c=>a1l c
 | .ghost g c=>if b1z c then [] else (c79 c,g)::a1l c
 |_=>[]
def Yh:aQ->List (Nat×eU)
 | .seq a b=>match Yh a with
   |[]=>Yh b
   |l=>l
 | .cond _ a b=>match Yh a with
   |[]=>Yh b
   |l=>l
 | .block _ c=>Yh c
 | .loop c=>Yh c
 | .ghost g c=>if b1z c then (999999,g)::Yh c else Yh c
 |_=>[]
def hnO (a:aJ):Im:=⟨a3o a.body,a1l a.body++Yh a.body,a.keep,a.raw⟩
def owg:List (Nat×List Nat)->Nat->List Nat
 |[],_=>[]
 | (j,v)::r,k=>br (decide (j=k)) v (owg r k)
theorem b95 (k:Nat):owg [] k=[]:=rfl
theorem b2t (j k:Nat) (v:List Nat) (r:List (Nat×List Nat)):owg ((j,v)::r) k=br (decide (j=k)) v (owg r k):=rfl
attribute [go_sem] b95 b2t
section
variable {b o new m:Nat} {x:List (Nat×V)} {y:List (Nat×Blk)}
def ghB (b:eU):Option St->Option St
 |some st=>dd st b
 |none=>none
theorem c0X (st:St) (a b:eU):dd st (.both a b)=ghB b (dd st a):=by
 simp only [dd];cases dd st a<;>rfl
theorem b3A (b:eU) (st:St):ghB b (some st)=dd st b:=rfl
def b5e (st:St) (t new m:Nat):V->Option St
 | .lit (.slice none 0 0)=>br ((st.heap new).isNone&&decide (0<m)) (some { e:=j9 t (.sl new 0 0) st.e,m:=j9 new ⟨m,false,[]⟩ st.m }) (some st)
 |_=>some st
theorem b6C {α:Type} (o:Option α) (m:Nat) (x y:Option St):(if o.isNone=true/\0<m then x else y)=br (o.isNone&&decide (0<m)) x y:=by
 cases o.isNone<;>by_cases h:0<m<;>simp [h,br]
theorem b8m (st:St) (t:Nat):dd st (.nilTmp t new m)=b5e st t new m (st.get t):=by
 simp only [dd,b5e,b6C]
 rfl
theorem b66 (t:Nat):b5e ⟨x,y⟩ t new m (.lit (.slice none 0 0))=br ((St.heap ⟨x,y⟩ new).isNone&&decide (0<m)) (some ⟨j9 t (.sl new 0 0) x,j9 new ⟨m,false,[]⟩ y⟩) (some ⟨x,y⟩):=rfl
theorem b6J (st:St) (t c s n:Nat):b5e st t new m (.sl c s n)=some st:=rfl
theorem b2s (st:St) (t c:Nat) (r:List (List V)):b5e st t new m (.imm c r)=some st:=rfl
def b6p (st:St) (b o new m k:Nat) (row:List V):Option V->Option St
 |some (.lit (.slice none 0 0))=>br ((st.heap new).isNone&&decide (0<m)) (some { st with m:=j9 new ⟨m,false,[]⟩ (j9 b ⟨k,true,[row.set o (.sl new 0 0)]⟩ st.m) }) (some st)
 |_=>some st
def b69 (st:St) (b o new m:Nat):Option Blk->Option St
 |some ⟨k,true,[row]⟩=>b6p st b o new m k row row[o]?
 |_=>some st
theorem b8b (st:St):dd st (.nilCell b o new m)=b69 st b o new m (st.heap b):=by
 unfold dd b69
 cases st.heap b with
 |none=>rfl
 |some k=>
  obtain ⟨e,op,rows⟩:=k
  cases op with
  |false=>simp
  |true=>
   dsimp only
   rw [ae rfl]
   match rows with
   |[]=>rfl
   |[row]=>
    dsimp only
    simp only [b6p,b6C]
    rfl
   |_::_::_=>rfl
theorem b0v (st:St):b69 st b o new m none=some st:=rfl
theorem c0R (st:St) (k:Nat) (r:List (List V)):b69 st b o new m (some ⟨k,false,r⟩)=some st:=rfl
theorem b9Z (st:St) (k:Nat) (row:List V):b69 st b o new m (some ⟨k,true,[row]⟩)=b6p st b o new m k row row[o]? :=rfl
theorem b4J (k:Nat) (row:List V):b6p ⟨x,y⟩ b o new m k row (some (.lit (.slice none 0 0)))=br ((St.heap ⟨x,y⟩ new).isNone&&decide (0<m)) (some ⟨x,j9 new ⟨m,false,[]⟩ (j9 b ⟨k,true,[row.set o (.sl new 0 0)]⟩ y)⟩) (some ⟨x,y⟩):=rfl
theorem b2H (st:St) (k c s n:Nat) (row:List V):b6p st b o new m k row (some (.sl c s n))=some st:=rfl
end
theorem c0Z (x:List (Nat×V)) (y:List (Nat×Blk)) (ts:List Nat):dd ⟨x,y⟩ (.drop ts)=some ⟨Sl ts x,y⟩:=rfl
theorem b5n (ts:List Nat):Sl ts []=[]:=rfl
theorem a97 (ts:List Nat) (t:Nat) (v:V) (r:List (Nat×V)):Sl ts ((t,v)::r)=(t,br (ts.contains t) .undef v)::Sl ts r:=by
 simp only [Sl];by_cases h:t∈ts<;>simp [h,br]
attribute [go_sem] c0Z b5n a97 c0X b3A b8m b66 b6J b2s b8b b0v c0R b9Z b4J b2H
theorem wb {α β:Type} {c:Bool} {x y:Option α} {r:α} {X Y Q:Option β} (h:br c x y=some r) (a:x=some r->X=Q) (b:y=some r->Y=Q):br c X Y=Q:=by
 cases c
 ·exact b h
 ·exact a h
theorem wn {α β γ:Type} {x:Option γ} {g:γ->Option α} {F:γ->Option β} {r:α} {Q:Option β} (h:x.bind g=some r) (k: ∀a,g a=some r->F a=Q):x.bind F=Q:=by
 cases x with
 |none=>cases h
 |some a=>exact k a h
def alt {α β γ:Type} (f:α->γ) (g:β->γ):α⊕β->γ
 | .inl a=>f a
 | .inr b=>g b
theorem kQ {α β γ:Type} (f:α->γ) (g:β->γ) (a:α):alt f g (.inl a)=f a:=rfl
theorem nu {α β γ:Type} (f:α->γ) (g:β->γ) (b:β):alt f g (.inr b)=g b:=rfl
attribute [go_sem] kQ nu
theorem lrG {T:Tab} {ow:ec} {S E:Type} {g:eU} {c:aQ} {step:S->Option (S⊕E)} {eS:S->St} {eE:E->bR×St}
 (b: ∀s o,step s=some o->Rn T ow (V9 g) [.code c] (eS s)=some (match o with
  | .inl s'=>(.normal,eS s')
  | .inr e=>eE e)) {s:S} {e:E} (h:Loop step s=some e) (a: ∀e,(eE e).1≠ .normal:=by intro e;(repeat' (obtain e|e:=(e:_⊕_)));(all_goals (intro h;cases h))):Fx T ow g c (eS s)=some (eE e):=
 b0j a b h
def LX {S E:Type} (T:Tab) (ow:ec) (g:eU) (c:aQ) (step:S->Option (S⊕E)) (eS:S->St) (eE:E->bR×St):Prop:=
 ∀s e,Loop step s=some e->Fx T ow g c (eS s)=some (eE e)
theorem lrX {T:Tab} {ow:ec} {S E:Type} {g:eU} {c:aQ} {step:S->Option (S⊕E)} {eS:S->St} {eE:E->bR×St}
 (b: ∀s o,step s=some o->Rn T ow (V9 g) [.code c] (eS s)=some (match o with
  | .inl s'=>(.normal,eS s')
  | .inr e=>eE e)) (a: ∀e,(eE e).1≠ .normal:=by intro e;(repeat' (obtain e|e:=(e:_⊕_)));(all_goals (intro h;cases h))):LX T ow g c step eS eE:=
 fun _ _ h=>lrG b h a
theorem lxE {T:Tab} {ow:ec} {S E:Type} {g:eU} {c:aQ} {step:S->Option (S⊕E)} {eS:S->St} {eE:E->bR×St} (x:LX T ow g c step eS eE) {s:S} {e:E} (h:Loop step s=some e):Fx T ow g c (eS s)=some (eE e):=x s e h
theorem go {P:Prop} (p:P:=by
 repeat' first
  |with_reducible refine wb h (fun h=> ?_) (fun h=> ?_)
  |with_reducible refine wn h (fun x h=> ?_)
  | (obtain ⟨e,a,h⟩:=bd h
     first|with_reducible replace a:=b a|with_reducible replace a:=c a|with_reducible replace a:=d3 a|with_reducible replace a:=d a|with_reducible replace a:=f a|with_reducible replace a:=i a|with_reducible replace a:=j a|with_reducible replace a:=k a|with_reducible replace a:=d9 a|with_reducible replace a:=d10 a|with_reducible replace a:=d11 a|with_reducible replace a:=d12 a|with_reducible replace a:=d13 a|with_reducible replace a:=d14 a|with_reducible replace a:=d15 a|with_reducible replace a:=d16 a|with_reducible replace a:=d17 a|with_reducible replace a:=d18 a|with_reducible replace a:=d19 a|with_reducible replace a:=d20 a|with_reducible replace a:=d21 a|with_reducible replace a:=d22 a|with_reducible replace a:=d23 a|with_reducible replace a:=d24 a|with_reducible replace a:=lxE b a|with_reducible replace a:=lxE c a|with_reducible replace a:=lxE d3 a|with_reducible replace a:=lxE d a|with_reducible replace a:=lxE f a|with_reducible replace a:=lxE i a|with_reducible replace a:=lxE j a|with_reducible replace a:=lxE k a|with_reducible replace a:=lxE d9 a|with_reducible replace a:=lxE d10 a|with_reducible replace a:=lxE d11 a|with_reducible replace a:=lxE d12 a|with_reducible replace a:=lxE d13 a|with_reducible replace a:=lxE d14 a|with_reducible replace a:=lxE d15 a|with_reducible replace a:=lxE d16 a|with_reducible replace a:=lxE d17 a|with_reducible replace a:=lxE d18 a|with_reducible replace a:=lxE d19 a|with_reducible replace a:=lxE d20 a|with_reducible replace a:=lxE d21 a|with_reducible replace a:=lxE d22 a|with_reducible replace a:=lxE d23 a|with_reducible replace a:=lxE d24 a
     try simp only [bf] at a
     first|refine yG a ?_|refine og a ?_|refine Jr a ?_
     repeat' (obtain e|e:=(e:_⊕_))
     all_goals (try simp only [kQ,nu] at h)
     all_goals simp+decide only [go_sem,reduceIte,Nat.reduceAdd,Int.reduceBEq])
  |refine wb h (fun h=> ?_) (fun h=> ?_)
  |refine wn h (fun x h=> ?_)
  | (cases h<;>first|rfl| (simp only [bf,go_sem];done))):P:=p
theorem go2 {P:Prop} (p:P:=by (simp+decide only [go_sem,reduceIte,Nat.reduceAdd,Int.reduceBEq]);all_goals exact go):P:=p
end Go.AI
