/- Part. -/
import Derived.Test.YtdnkignjanfikaaGreatAiW
import Derived.Test.YtdnkignjanfikaaGreatAiComp
set_option linter.unusedVariables false
namespace Go.AI
@[reducible] def qg (d:Nat) (o:AOp):cn:=⟨some d,o,none⟩
@[reducible] def qG (d:Nat) (o:AOp) (t:Nat) (b:Bool):cn:=⟨some d,o,some (t,b)⟩
@[reducible] def qI (n:Int):Opd:= .c (.int .i64 n)
@[reducible] def qm (d s:Nat):cn:=⟨some d,.mv (.t s),none⟩
@[reducible] def qi (d:Nat) (n:Int):cn:=⟨some d,.mv (.c (.int .i64 n)),none⟩
@[reducible] def ql (d x:Nat):cn:=⟨some d,.load none (.t x),none⟩
@[reducible] def qL (d n x:Nat):cn:=⟨some d,.load (some n) (.t x),none⟩
@[reducible] def qs (d n a x:Nat):cn:=⟨some d,.store n (.t a) (.t x),none⟩
@[reducible] def qu (n a x:Nat):cn:=⟨none,.store n (.t a) (.t x),none⟩
@[reducible] def qb (d:Nat) (o:BinOp) (x y:Nat):cn:=⟨some d,.bin o (.t x) (.t y),none⟩
@[reducible] def qB (d:Nat) (o:BinOp) (x:Nat) (n:Int):cn:=⟨some d,.bin o (.t x) (.c (.int .i64 n)),none⟩
@[reducible] def qD (d:Nat) (o:BinOp) (n:Int) (y:Nat):cn:=⟨some d,.bin o (.c (.int .i64 n)) (.t y),none⟩
@[reducible] def qo (d k x:Nat):cn:=⟨some d,.off k (.t x),none⟩
@[reducible] def qc (d f:Nat) (l:List Nat):cn:=⟨some d,.call f (l.map .t),none⟩
@[reducible] def qe (d x i:Nat):cn:=⟨some d,.ext (.t x) i,none⟩
@[reducible] def qk (d x:Nat):cn:=⟨some d,.nilCheck (.t x),none⟩
@[reducible] def qn (d x:Nat):cn:=⟨some d,.len false (.t x),none⟩
@[reducible] def qx (d e x i:Nat):cn:=⟨some d,.idx e (.t x) (.t i),none⟩
@[reducible] def qX (d l e x i:Nat):cn:=⟨some d,.idxArr l e (.t x) (.t i),none⟩
@[reducible] def qS (b:Nat) (ss:List cn) (l:List Nat):aQ:= .region b ss l
def a1h:aQ->List (Nat×List Nat)
 | .region b _ l=>[(b/1000-1,l)]
 | .drawn b _ _ l=>[(b/1000-1,l)]
 | .seq a b=>a1h a++a1h b
 | .cond _ a b=>a1h a++a1h b
 | .block _ c=>a1h c
 | .loop c=>a1h c
 | .ghost _ c=>a1h c
 |_=>[]
def c7b:aQ->Nat
 | .region b _ _=>b/1000-1
 | .drawn b _ _ _=>b/1000-1
 | .ghost _ c=>c7b c
 |_=>0
def b6u:aQ->Bool
 | .ret=>true
 | .ghost _ c=>b6u c
 |_=>false
def a2L:aQ->List (Nat×eU)
 | .seq a b=>a2L a++a2L b
 | .cond _ a b=>a2L a++a2L b
 | .block _ c=>a2L c
 | .loop c=>a2L c
 | .ghost g c=>if b6u c then [] else (c7b c,g)::a2L c
 |_=>[]
def Zq:aQ->List (Nat×eU)
 | .seq a b=>match Zq a with
   |[]=>Zq b
   |l=>l
 | .cond _ a b=>match Zq a with
   |[]=>Zq b
   |l=>l
 | .block _ c=>Zq c
 | .loop c=>Zq c
 | .ghost g c=>if b6u c then (999999,g)::Zq c else Zq c
 |_=>[]
def hnO (a:aJ):If:=⟨a1h a.body,a2L a.body++Zq a.body,a.keep,a.raw⟩
def owg:List (Nat×List Nat)->Nat->List Nat
 |[],_=>[]
 | (j,v)::r,k=>br (decide (j=k)) v (owg r k)
theorem b87 (k:Nat):owg [] k=[]:=rfl
theorem b3W (j k:Nat) (v:List Nat) (r:List (Nat×List Nat)):owg ((j,v)::r) k=br (decide (j=k)) v (owg r k):=rfl
attribute [go_sem] b87 b3W
section
variable {b o new m:Nat} {x:List (Nat×V)} {y:List (Nat×Blk)}
def ghB (b:eU):Option St->Option St
 |some st=>de st b
 |none=>none
theorem b9M (st:St) (a b:eU):de st (.both a b)=ghB b (de st a):=by
 simp only [de];cases de st a<;>rfl
theorem b39 (b:eU) (st:St):ghB b (some st)=de st b:=rfl
def b5u (st:St) (t new m:Nat):V->Option St
 | .lit (.slice none 0 0)=>br ((st.heap new).isNone&&decide (0<m)) (some { e:=j7 t (.sl new 0 0) st.e,m:=j7 new ⟨m,false,[]⟩ st.m }) (some st)
 |_=>some st
theorem b2g {α:Type} (o:Option α) (m:Nat) (x y:Option St):(if o.isNone=true/\0<m then x else y)=br (o.isNone&&decide (0<m)) x y:=by
 cases o.isNone<;>by_cases h:0<m<;>simp [h,br]
theorem c1m (st:St) (t:Nat):de st (.nilTmp t new m)=b5u st t new m (st.get t):=by
 simp only [de,b5u,b2g]
 rfl
theorem b5T (t:Nat):b5u ⟨x,y⟩ t new m (.lit (.slice none 0 0))=br ((St.heap ⟨x,y⟩ new).isNone&&decide (0<m)) (some ⟨j7 t (.sl new 0 0) x,j7 new ⟨m,false,[]⟩ y⟩) (some ⟨x,y⟩):=rfl
theorem b4y (st:St) (t c s n:Nat):b5u st t new m (.sl c s n)=some st:=rfl
theorem b4m (st:St) (t c:Nat) (r:List (List V)):b5u st t new m (.imm c r)=some st:=rfl
def b1Y (st:St) (b o new m k:Nat) (row:List V):Option V->Option St
 |some (.lit (.slice none 0 0))=>br ((st.heap new).isNone&&decide (0<m)) (some { st with m:=j7 new ⟨m,false,[]⟩ (j7 b ⟨k,true,[row.set o (.sl new 0 0)]⟩ st.m) }) (some st)
 |_=>some st
def b4Z (st:St) (b o new m:Nat):Option Blk->Option St
 |some ⟨k,true,[row]⟩=>b1Y st b o new m k row row[o]?
 |_=>some st
theorem c1v (st:St):de st (.nilCell b o new m)=b4Z st b o new m (st.heap b):=by
 unfold de b4Z
 cases st.heap b with
 |none=>rfl
 |some k=>
  obtain ⟨e,op,rows⟩:=k
  cases op with
  |false=>simp
  |true=>
   dsimp only
   rw [ae rfl]
   match rows with
   |[]=>rfl
   |[row]=>
    dsimp only
    simp only [b1Y,b2g]
    rfl
   |_::_::_=>rfl
theorem a9O (st:St):b4Z st b o new m none=some st:=rfl
theorem c0v (st:St) (k:Nat) (r:List (List V)):b4Z st b o new m (some ⟨k,false,r⟩)=some st:=rfl
theorem c1q (st:St) (k:Nat) (row:List V):b4Z st b o new m (some ⟨k,true,[row]⟩)=b1Y st b o new m k row row[o]? :=rfl
theorem b2j (k:Nat) (row:List V):b1Y ⟨x,y⟩ b o new m k row (some (.lit (.slice none 0 0)))=br ((St.heap ⟨x,y⟩ new).isNone&&decide (0<m)) (some ⟨x,j7 new ⟨m,false,[]⟩ (j7 b ⟨k,true,[row.set o (.sl new 0 0)]⟩ y)⟩) (some ⟨x,y⟩):=rfl
theorem b3l (st:St) (k c s n:Nat) (row:List V):b1Y st b o new m k row (some (.sl c s n))=some st:=rfl
end
theorem c0x (x:List (Nat×V)) (y:List (Nat×Blk)) (ts:List Nat):de ⟨x,y⟩ (.drop ts)=some ⟨T6 ts x,y⟩:=rfl
theorem b3p (ts:List Nat):T6 ts []=[]:=rfl
theorem b0n (ts:List Nat) (t:Nat) (v:V) (r:List (Nat×V)):T6 ts ((t,v)::r)=(t,br (ts.contains t) .undef v)::T6 ts r:=by
 simp only [T6];by_cases h:t∈ts<;>simp [h,br]
attribute [go_sem] c0x b3p b0n b9M b39 c1m b5T b4y b4m c1v a9O c0v c1q b2j b3l
theorem wb {α β:Type} {c:Bool} {x y:Option α} {r:α} {X Y Q:Option β} (h:br c x y=some r) (a:x=some r->X=Q) (b:y=some r->Y=Q):br c X Y=Q:=by
 cases c
 ·exact b h
 ·exact a h
theorem wn {α β γ:Type} {x:Option γ} {g:γ->Option α} {F:γ->Option β} {r:α} {Q:Option β} (h:x.bind g=some r) (k: ∀a,g a=some r->F a=Q):x.bind F=Q:=by
 cases x with
 |none=>cases h
 |some a=>exact k a h
def alt {α β γ:Type} (f:α->γ) (g:β->γ):α⊕β->γ
 | .inl a=>f a
 | .inr b=>g b
theorem kW {α β γ:Type} (f:α->γ) (g:β->γ) (a:α):alt f g (.inl a)=f a:=rfl
theorem ny {α β γ:Type} (f:α->γ) (g:β->γ) (b:β):alt f g (.inr b)=g b:=rfl
attribute [go_sem] kW ny
theorem lrG {T:Tab} {ow:ec} {S E:Type} {g:eU} {c:aQ} {step:S->Option (S⊕E)} {eS:S->St} {eE:E->bR×St}
 (hb: ∀s o,step s=some o->Rn T ow (UT g) [.code c] (eS s)=some (match o with
  | .inl s'=>(.normal,eS s')
  | .inr e=>eE e)) {s:S} {e:E} (h:Loop step s=some e) (hne: ∀e,(eE e).1≠ .normal:=by intro e;(repeat' (obtain e|e:=(e:_⊕_)));(all_goals (intro h;cases h))):FM T ow g c (eS s)=some (eE e):=
 a8c hne hb h
def LX {S E:Type} (T:Tab) (ow:ec) (g:eU) (c:aQ) (step:S->Option (S⊕E)) (eS:S->St) (eE:E->bR×St):Prop:=
 ∀s e,Loop step s=some e->FM T ow g c (eS s)=some (eE e)
theorem lrX {T:Tab} {ow:ec} {S E:Type} {g:eU} {c:aQ} {step:S->Option (S⊕E)} {eS:S->St} {eE:E->bR×St}
 (hb: ∀s o,step s=some o->Rn T ow (UT g) [.code c] (eS s)=some (match o with
  | .inl s'=>(.normal,eS s')
  | .inr e=>eE e)) (hne: ∀e,(eE e).1≠ .normal:=by intro e;(repeat' (obtain e|e:=(e:_⊕_)));(all_goals (intro h;cases h))):LX T ow g c step eS eE:=
 fun _ _ h=>lrG hb h hne
theorem lxE {T:Tab} {ow:ec} {S E:Type} {g:eU} {c:aQ} {step:S->Option (S⊕E)} {eS:S->St} {eE:E->bR×St} (x:LX T ow g c step eS eE) {s:S} {e:E} (h:Loop step s=some e):FM T ow g c (eS s)=some (eE e):=x s e h
theorem go {P:Prop} (p:P:=by
 repeat' first
  |with_reducible refine wb h (fun h=> ?_) (fun h=> ?_)
  |with_reducible refine wn h (fun x h=> ?_)
  | (obtain ⟨e,h1,h⟩:=bd h
     first|with_reducible replace h1:=d1 h1|with_reducible replace h1:=d2 h1|with_reducible replace h1:=d3 h1|with_reducible replace h1:=d4 h1|with_reducible replace h1:=d5 h1|with_reducible replace h1:=d6 h1|with_reducible replace h1:=d7 h1|with_reducible replace h1:=d8 h1|with_reducible replace h1:=d9 h1|with_reducible replace h1:=d10 h1|with_reducible replace h1:=d11 h1|with_reducible replace h1:=d12 h1|with_reducible replace h1:=d13 h1|with_reducible replace h1:=d14 h1|with_reducible replace h1:=d15 h1|with_reducible replace h1:=d16 h1|with_reducible replace h1:=d17 h1|with_reducible replace h1:=d18 h1|with_reducible replace h1:=d19 h1|with_reducible replace h1:=d20 h1|with_reducible replace h1:=d21 h1|with_reducible replace h1:=d22 h1|with_reducible replace h1:=d23 h1|with_reducible replace h1:=d24 h1|with_reducible replace h1:=lxE d1 h1|with_reducible replace h1:=lxE d2 h1|with_reducible replace h1:=lxE d3 h1|with_reducible replace h1:=lxE d4 h1|with_reducible replace h1:=lxE d5 h1|with_reducible replace h1:=lxE d6 h1|with_reducible replace h1:=lxE d7 h1|with_reducible replace h1:=lxE d8 h1|with_reducible replace h1:=lxE d9 h1|with_reducible replace h1:=lxE d10 h1|with_reducible replace h1:=lxE d11 h1|with_reducible replace h1:=lxE d12 h1|with_reducible replace h1:=lxE d13 h1|with_reducible replace h1:=lxE d14 h1|with_reducible replace h1:=lxE d15 h1|with_reducible replace h1:=lxE d16 h1|with_reducible replace h1:=lxE d17 h1|with_reducible replace h1:=lxE d18 h1|with_reducible replace h1:=lxE d19 h1|with_reducible replace h1:=lxE d20 h1|with_reducible replace h1:=lxE d21 h1|with_reducible replace h1:=lxE d22 h1|with_reducible replace h1:=lxE d23 h1|with_reducible replace h1:=lxE d24 h1
     try simp only [bf] at h1
     first|refine y5 h1 ?_|refine oU h1 ?_|refine JI h1 ?_
     repeat' (obtain e|e:=(e:_⊕_))
     all_goals (try simp only [kW,ny] at h)
     all_goals simp+decide only [go_sem,reduceIte,Nat.reduceAdd,Int.reduceBEq])
  |refine wb h (fun h=> ?_) (fun h=> ?_)
  |refine wn h (fun x h=> ?_)
  | (cases h<;>first|rfl| (simp only [bf,go_sem];done))):P:=p
theorem go2 {P:Prop} (p:P:=by (simp+decide only [go_sem,reduceIte,Nat.reduceAdd,Int.reduceBEq]);all_goals exact go):P:=p
end Go.AI
