/- Short forms of code, hints told by the code itself, and the steps by which walks go. -/
import Derived.Test.YtdnkignjanfikaaGreatAiW
import Derived.Test.YtdnkignjanfikaaGreatAiComp
set_option linter.unusedVariables false
namespace Go.AI
@[reducible] def qg (d:Nat) (o:AOp):cm:=⟨some d,o,none⟩
@[reducible] def qG (d:Nat) (o:AOp) (t:Nat) (b:Bool):cm:=⟨some d,o,some (t,b)⟩
@[reducible] def qI (n:Int):Opd:= .c (.int .i64 n)
@[reducible] def qm (d s:Nat):cm:=⟨some d,.mv (.t s),none⟩
@[reducible] def qi (d:Nat) (n:Int):cm:=⟨some d,.mv (.c (.int .i64 n)),none⟩
@[reducible] def ql (d x:Nat):cm:=⟨some d,.load none (.t x),none⟩
@[reducible] def qL (d n x:Nat):cm:=⟨some d,.load (some n) (.t x),none⟩
@[reducible] def qs (d n a x:Nat):cm:=⟨some d,.store n (.t a) (.t x),none⟩
@[reducible] def qu (n a x:Nat):cm:=⟨none,.store n (.t a) (.t x),none⟩
@[reducible] def qb (d:Nat) (o:BinOp) (x y:Nat):cm:=⟨some d,.bin o (.t x) (.t y),none⟩
@[reducible] def qB (d:Nat) (o:BinOp) (x:Nat) (n:Int):cm:=⟨some d,.bin o (.t x) (.c (.int .i64 n)),none⟩
@[reducible] def qD (d:Nat) (o:BinOp) (n:Int) (y:Nat):cm:=⟨some d,.bin o (.c (.int .i64 n)) (.t y),none⟩
@[reducible] def qo (d k x:Nat):cm:=⟨some d,.off k (.t x),none⟩
@[reducible] def qc (d f:Nat) (l:List Nat):cm:=⟨some d,.call f (l.map .t),none⟩
@[reducible] def qe (d x i:Nat):cm:=⟨some d,.ext (.t x) i,none⟩
@[reducible] def qk (d x:Nat):cm:=⟨some d,.nilCheck (.t x),none⟩
@[reducible] def qn (d x:Nat):cm:=⟨some d,.len false (.t x),none⟩
@[reducible] def qx (d e x i:Nat):cm:=⟨some d,.idx e (.t x) (.t i),none⟩
@[reducible] def qX (d l e x i:Nat):cm:=⟨some d,.idxArr l e (.t x) (.t i),none⟩
@[reducible] def qS (b:Nat) (ss:List cm) (l:List Nat):aP:= .region b ss l
def a1T:aP->List (Nat×List Nat)
 | .region b _ l=>[(b/1000-1,l)]
 | .drawn b _ _ l=>[(b/1000-1,l)]
 | .seq a b=>a1T a++a1T b
 | .cond _ a b=>a1T a++a1T b
 | .block _ c=>a1T c
 | .loop c=>a1T c
 | .ghost _ c=>a1T c
 |_=>[]
def c5b:aP->Nat
 | .region b _ _=>b/1000-1
 | .drawn b _ _ _=>b/1000-1
 | .ghost _ c=>c5b c
 |_=>0
def b6r:aP->Bool
 | .ret=>true
 | .ghost _ c=>b6r c
 |_=>false
def a35:aP->List (Nat×eZ)
 | .seq a b=>a35 a++a35 b
 | .cond _ a b=>a35 a++a35 b
 | .block _ c=>a35 c
 | .loop c=>a35 c
 | .ghost g c=>if b6r c then [] else (c5b c,g)::a35 c
 |_=>[]
def XV:aP->List (Nat×eZ)
 | .seq a b=>match XV a with
   |[]=>XV b
   |l=>l
 | .cond _ a b=>match XV a with
   |[]=>XV b
   |l=>l
 | .block _ c=>XV c
 | .loop c=>XV c
 | .ghost g c=>if b6r c then (999999,g)::XV c else XV c
 |_=>[]
def hnO (a:aJ):IW:=⟨a1T a.body,a35 a.body++XV a.body,a.keep,a.raw⟩
def owg:List (Nat×List Nat)->Nat->List Nat
 |[],_=>[]
 | (j,v)::r,k=>br (decide (j=k)) v (owg r k)
theorem b7u (k:Nat):owg [] k=[]:=rfl
theorem b5t (j k:Nat) (v:List Nat) (r:List (Nat×List Nat)):owg ((j,v)::r) k=br (decide (j=k)) v (owg r k):=rfl
attribute [go_sem] b7u b5t
section
variable {b o new m:Nat} {x:List (Nat×V)} {y:List (Nat×Blk)}
def ghB (b:eZ):Option St->Option St
 |some st=>dg st b
 |none=>none
theorem b8E (st:St) (a b:eZ):dg st (.both a b)=ghB b (dg st a):=by
 simp only [dg];cases dg st a<;>rfl
theorem b4Z (b:eZ) (st:St):ghB b (some st)=dg st b:=rfl
def b3n (st:St) (t new m:Nat):V->Option St
 | .lit (.slice none 0 0)=>br ((st.heap new).isNone&&decide (0<m)) (some { e:=jf t (.sl new 0 0) st.e,m:=jf new ⟨m,false,[]⟩ st.m }) (some st)
 |_=>some st
theorem b4s {α:Type} (o:Option α) (m:Nat) (x y:Option St):(if o.isNone=true/\0<m then x else y)=br (o.isNone&&decide (0<m)) x y:=by
 cases o.isNone<;>by_cases h:0<m<;>simp [h,br]
theorem b9a (st:St) (t:Nat):dg st (.nilTmp t new m)=b3n st t new m (st.get t):=by
 simp only [dg,b3n,b4s]
 rfl
theorem b6B (t:Nat):b3n ⟨x,y⟩ t new m (.lit (.slice none 0 0))=br ((St.heap ⟨x,y⟩ new).isNone&&decide (0<m)) (some ⟨jf t (.sl new 0 0) x,jf new ⟨m,false,[]⟩ y⟩) (some ⟨x,y⟩):=rfl
theorem b4x (st:St) (t c s n:Nat):b3n st t new m (.sl c s n)=some st:=rfl
theorem b2X (st:St) (t c:Nat) (r:List (List V)):b3n st t new m (.imm c r)=some st:=rfl
def b65 (st:St) (b o new m k:Nat) (row:List V):Option V->Option St
 |some (.lit (.slice none 0 0))=>br ((st.heap new).isNone&&decide (0<m)) (some { st with m:=jf new ⟨m,false,[]⟩ (jf b ⟨k,true,[row.set o (.sl new 0 0)]⟩ st.m) }) (some st)
 |_=>some st
def b3m (st:St) (b o new m:Nat):Option Blk->Option St
 |some ⟨k,true,[row]⟩=>b65 st b o new m k row row[o]?
 |_=>some st
theorem b8I (st:St):dg st (.nilCell b o new m)=b3m st b o new m (st.heap b):=by
 unfold dg b3m
 cases st.heap b with
 |none=>rfl
 |some k=>
  obtain ⟨e,op,rows⟩:=k
  cases op with
  |false=>simp
  |true=>
   dsimp only
   rw [ae rfl]
   match rows with
   |[]=>rfl
   |[row]=>
    dsimp only
    simp only [b65,b4s]
    rfl
   |_::_::_=>rfl
theorem a9u (st:St):b3m st b o new m none=some st:=rfl
theorem b71 (st:St) (k:Nat) (r:List (List V)):b3m st b o new m (some ⟨k,false,r⟩)=some st:=rfl
theorem b9q (st:St) (k:Nat) (row:List V):b3m st b o new m (some ⟨k,true,[row]⟩)=b65 st b o new m k row row[o]? :=rfl
theorem b2J (k:Nat) (row:List V):b65 ⟨x,y⟩ b o new m k row (some (.lit (.slice none 0 0)))=br ((St.heap ⟨x,y⟩ new).isNone&&decide (0<m)) (some ⟨x,jf new ⟨m,false,[]⟩ (jf b ⟨k,true,[row.set o (.sl new 0 0)]⟩ y)⟩) (some ⟨x,y⟩):=rfl
theorem b35 (st:St) (k c s n:Nat) (row:List V):b65 st b o new m k row (some (.sl c s n))=some st:=rfl
end
theorem b9B (x:List (Nat×V)) (y:List (Nat×Blk)) (ts:List Nat):dg ⟨x,y⟩ (.drop ts)=some ⟨Tg ts x,y⟩:=rfl
theorem b3S (ts:List Nat):Tg ts []=[]:=rfl
theorem a9b (ts:List Nat) (t:Nat) (v:V) (r:List (Nat×V)):Tg ts ((t,v)::r)=(t,br (ts.contains t) .undef v)::Tg ts r:=by
 simp only [Tg];by_cases h:t∈ts<;>simp [h,br]
attribute [go_sem] b9B b3S a9b b8E b4Z b9a b6B b4x b2X b8I a9u b71 b9q b2J b35
theorem wb {α β:Type} {c:Bool} {x y:Option α} {r:α} {X Y Q:Option β} (h:br c x y=some r) (k1:x=some r->X=Q) (k2:y=some r->Y=Q):br c X Y=Q:=by
 cases c
 ·exact k2 h
 ·exact k1 h
theorem wn {α β γ:Type} {x:Option γ} {g:γ->Option α} {F:γ->Option β} {r:α} {Q:Option β} (h:x.bind g=some r) (k: ∀a,g a=some r->F a=Q):x.bind F=Q:=by
 cases x with
 |none=>cases h
 |some a=>exact k a h
def alt {α β γ:Type} (f:α->γ) (g:β->γ):α⊕β->γ
 | .inl a=>f a
 | .inr b=>g b
theorem l6 {α β γ:Type} (f:α->γ) (g:β->γ) (a:α):alt f g (.inl a)=f a:=rfl
theorem nT {α β γ:Type} (f:α->γ) (g:β->γ) (b:β):alt f g (.inr b)=g b:=rfl
attribute [go_sem] l6 nT
theorem lrG {T:Tab} {ow:en} {S E:Type} {g:eZ} {c:aP} {step:S->Option (S⊕E)} {eS:S->St} {eE:E->bT×St}
 (hb: ∀s o,step s=some o->Rn T ow (UW g) [.code c] (eS s)=some (match o with
  | .inl s'=>(.normal,eS s')
  | .inr e=>eE e)) {s:S} {e:E} (h:Loop step s=some e) (hne: ∀e,(eE e).1≠ .normal:=by intro e;(repeat' (obtain e|e:=(e:_⊕_)));(all_goals (intro h;cases h))):Fw T ow g c (eS s)=some (eE e):=
 b0A hne hb h
def LX {S E:Type} (T:Tab) (ow:en) (g:eZ) (c:aP) (step:S->Option (S⊕E)) (eS:S->St) (eE:E->bT×St):Prop:=
 ∀s e,Loop step s=some e->Fw T ow g c (eS s)=some (eE e)
theorem lrX {T:Tab} {ow:en} {S E:Type} {g:eZ} {c:aP} {step:S->Option (S⊕E)} {eS:S->St} {eE:E->bT×St}
 (hb: ∀s o,step s=some o->Rn T ow (UW g) [.code c] (eS s)=some (match o with
  | .inl s'=>(.normal,eS s')
  | .inr e=>eE e)) (hne: ∀e,(eE e).1≠ .normal:=by intro e;(repeat' (obtain e|e:=(e:_⊕_)));(all_goals (intro h;cases h))):LX T ow g c step eS eE:=
 fun _ _ h=>lrG hb h hne
theorem lxE {T:Tab} {ow:en} {S E:Type} {g:eZ} {c:aP} {step:S->Option (S⊕E)} {eS:S->St} {eE:E->bT×St} (x:LX T ow g c step eS eE) {s:S} {e:E} (h:Loop step s=some e):Fw T ow g c (eS s)=some (eE e):=x s e h
theorem go {P:Prop} (p:P:=by
 repeat' first
  |with_reducible refine wb h (fun h=> ?_) (fun h=> ?_)
  |with_reducible refine wn h (fun x h=> ?_)
  | (obtain ⟨e,h1,h⟩:=bd h
     first|with_reducible replace h1:=d1 h1|with_reducible replace h1:=d2 h1|with_reducible replace h1:=d3 h1|with_reducible replace h1:=d4 h1|with_reducible replace h1:=d5 h1|with_reducible replace h1:=d6 h1|with_reducible replace h1:=d7 h1|with_reducible replace h1:=d8 h1|with_reducible replace h1:=d9 h1|with_reducible replace h1:=d10 h1|with_reducible replace h1:=d11 h1|with_reducible replace h1:=d12 h1|with_reducible replace h1:=d13 h1|with_reducible replace h1:=d14 h1|with_reducible replace h1:=d15 h1|with_reducible replace h1:=d16 h1|with_reducible replace h1:=d17 h1|with_reducible replace h1:=d18 h1|with_reducible replace h1:=d19 h1|with_reducible replace h1:=d20 h1|with_reducible replace h1:=d21 h1|with_reducible replace h1:=d22 h1|with_reducible replace h1:=d23 h1|with_reducible replace h1:=d24 h1|with_reducible replace h1:=lxE d1 h1|with_reducible replace h1:=lxE d2 h1|with_reducible replace h1:=lxE d3 h1|with_reducible replace h1:=lxE d4 h1|with_reducible replace h1:=lxE d5 h1|with_reducible replace h1:=lxE d6 h1|with_reducible replace h1:=lxE d7 h1|with_reducible replace h1:=lxE d8 h1|with_reducible replace h1:=lxE d9 h1|with_reducible replace h1:=lxE d10 h1|with_reducible replace h1:=lxE d11 h1|with_reducible replace h1:=lxE d12 h1|with_reducible replace h1:=lxE d13 h1|with_reducible replace h1:=lxE d14 h1|with_reducible replace h1:=lxE d15 h1|with_reducible replace h1:=lxE d16 h1|with_reducible replace h1:=lxE d17 h1|with_reducible replace h1:=lxE d18 h1|with_reducible replace h1:=lxE d19 h1|with_reducible replace h1:=lxE d20 h1|with_reducible replace h1:=lxE d21 h1|with_reducible replace h1:=lxE d22 h1|with_reducible replace h1:=lxE d23 h1|with_reducible replace h1:=lxE d24 h1
     try simp only [bg] at h1
     first|refine zB h1 ?_|refine oZ h1 ?_|refine K1 h1 ?_
     repeat' (obtain e|e:=(e:_⊕_))
     all_goals (try simp only [l6,nT] at h)
     all_goals simp+decide only [go_sem,reduceIte,Nat.reduceAdd,Int.reduceBEq])
  |refine wb h (fun h=> ?_) (fun h=> ?_)
  |refine wn h (fun x h=> ?_)
  | (cases h<;>first|rfl| (simp only [bg,go_sem];done))):P:=p
theorem go2 {P:Prop} (p:P:=by (simp+decide only [go_sem,reduceIte,Nat.reduceAdd,Int.reduceBEq]);all_goals exact go):P:=p
end Go.AI
