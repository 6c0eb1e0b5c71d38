/- Short forms of code, hints told by the code itself, and the steps by which walks go. -/
import Derived.Test.YtgjlndaebhaciaaAiW
import Derived.Test.YtgjlndaebhaciaaAiComp
set_option linter.unusedVariables false
namespace Go.AI
@[reducible] def qg (d:Nat) (o:AOp):aD:=⟨some d,o,none⟩
@[reducible] def qG (d:Nat) (o:AOp) (t:Nat) (b:Bool):aD:=⟨some d,o,some (t,b)⟩
@[reducible] def qI (n:Int):Opd:= .c (.int .i64 n)
@[reducible] def qm (d s:Nat):aD:=⟨some d,.mv (.t s),none⟩
@[reducible] def qi (d:Nat) (n:Int):aD:=⟨some d,.mv (.c (.int .i64 n)),none⟩
@[reducible] def ql (d x:Nat):aD:=⟨some d,.load none (.t x),none⟩
@[reducible] def qL (d n x:Nat):aD:=⟨some d,.load (some n) (.t x),none⟩
@[reducible] def qs (d n a x:Nat):aD:=⟨some d,.store n (.t a) (.t x),none⟩
@[reducible] def qu (n a x:Nat):aD:=⟨none,.store n (.t a) (.t x),none⟩
@[reducible] def qb (d:Nat) (o:BinOp) (x y:Nat):aD:=⟨some d,.bin o (.t x) (.t y),none⟩
@[reducible] def qB (d:Nat) (o:BinOp) (x:Nat) (n:Int):aD:=⟨some d,.bin o (.t x) (.c (.int .i64 n)),none⟩
@[reducible] def qD (d:Nat) (o:BinOp) (n:Int) (y:Nat):aD:=⟨some d,.bin o (.c (.int .i64 n)) (.t y),none⟩
@[reducible] def qo (d k x:Nat):aD:=⟨some d,.off k (.t x),none⟩
@[reducible] def qc (d f:Nat) (l:List Nat):aD:=⟨some d,.call f (l.map .t),none⟩
@[reducible] def qe (d x i:Nat):aD:=⟨some d,.ext (.t x) i,none⟩
@[reducible] def qk (d x:Nat):aD:=⟨some d,.nilCheck (.t x),none⟩
@[reducible] def qn (d x:Nat):aD:=⟨some d,.len false (.t x),none⟩
@[reducible] def qx (d e x i:Nat):aD:=⟨some d,.idx e (.t x) (.t i),none⟩
@[reducible] def qX (d l e x i:Nat):aD:=⟨some d,.idxArr l e (.t x) (.t i),none⟩
@[reducible] def qS (b:Nat) (ss:List aD) (l:List Nat):aA:= .region b ss l
def yR:aA→List (Nat×List Nat)
 | .region b _ l=>[(b/1000-1,l)]
 | .drawn b _ _ l=>[(b/1000-1,l)]
 | .seq a b=>yR a++yR b
 | .cond _ a b=>yR a++yR b
 | .block _ c=>yR c
 | .loop c=>yR c
 | .ghost _ c=>yR c
 |_=>[]
def QK:aA→Nat
 | .region b _ _=>b/1000-1
 | .drawn b _ _ _=>b/1000-1
 | .ghost _ c=>QK c
 |_=>0
def IK:aA→Bool
 | .ret=>true
 | .ghost _ c=>IK c
 |_=>false
def xA:aA→List (Nat×bu)
 | .seq a b=>xA a++xA b
 | .cond _ a b=>xA a++xA b
 | .block _ c=>xA c
 | .loop c=>xA c
 | .ghost g c=>if IK c then [] else (QK c,g)::xA c
 |_=>[]
def vS:aA→List (Nat×bu)
 | .seq a b=>match vS a with
   |[]=>vS b
   |l=>l
 | .cond _ a b=>match vS a with
   |[]=>vS b
   |l=>l
 | .block _ c=>vS c
 | .loop c=>vS c
 | .ghost g c=>if IK c then (999999,g)::vS c else vS c
 |_=>[]
def hnO (a:aJ):nQ:=⟨yR a.body,xA a.body++vS a.body,a.keep,a.raw⟩
def owg:List (Nat×List Nat)→Nat→List Nat
 |[],_=>[]
 | (j,v)::r,k=>br (decide (j=k)) v (owg r k)
theorem KY (k:Nat):owg [] k=[]:=rfl
theorem GK (j k:Nat) (v:List Nat) (r:List (Nat×List Nat)):owg ((j,v)::r) k=br (decide (j=k)) v (owg r k):=rfl
attribute [go_sem] KY GK
section
variable {b o new m:Nat} {x:List (Nat×V)} {y:List (Nat×Blk)}
def ghB (b:bu):Option St→Option St
 |some st=>aL st b
 |none=>none
theorem KB (st:St) (a b:bu):aL st (.both a b)=ghB b (aL st a):=by
 simp only [aL];cases aL st a<;>rfl
theorem GE (b:bu) (st:St):ghB b (some st)=aL st b:=rfl
def EZ (st:St) (t new m:Nat):V→Option St
 | .lit (.slice none 0 0)=>br ((st.heap new).isNone&&decide (0<m)) (some { e:=cg t (.sl new 0 0) st.e,m:=cg new ⟨m,false,[]⟩ st.m }) (some st)
 |_=>some st
theorem Fe {α:Type} (o:Option α) (m:Nat) (x y:Option St):(if o.isNone=true∧0<m then x else y)=br (o.isNone&&decide (0<m)) x y:=by
 cases o.isNone<;>by_cases h:0<m<;>simp [h,br]
theorem JJ (st:St) (t:Nat):aL st (.nilTmp t new m)=EZ st t new m (st.get t):=by
 simp only [aL,EZ,Fe]
 rfl
theorem Gd (t:Nat):EZ ⟨x,y⟩ t new m (.lit (.slice none 0 0))=br ((St.heap ⟨x,y⟩ new).isNone&&decide (0<m)) (some ⟨cg t (.sl new 0 0) x,cg new ⟨m,false,[]⟩ y⟩) (some ⟨x,y⟩):=rfl
theorem Ib (st:St) (t c s n:Nat):EZ st t new m (.sl c s n)=some st:=rfl
theorem G5 (st:St) (t c:Nat) (r:List (List V)):EZ st t new m (.imm c r)=some st:=rfl
def FE (st:St) (b o new m k:Nat) (row:List V):Option V→Option St
 |some (.lit (.slice none 0 0))=>br ((st.heap new).isNone&&decide (0<m)) (some { st with m:=cg new ⟨m,false,[]⟩ (cg b ⟨k,true,[row.set o (.sl new 0 0)]⟩ st.m) }) (some st)
 |_=>some st
def NC (st:St) (b o new m:Nat):Option Blk→Option St
 |some ⟨k,true,[row]⟩=>FE st b o new m k row row[o]?
 |_=>some st
theorem KE (st:St):aL st (.nilCell b o new m)=NC st b o new m (st.heap b):=by
 unfold aL NC
 cases st.heap b with
 |none=>rfl
 |some k=>
  obtain ⟨e,op,rows⟩:=k
  cases op with
  |false=>simp
  |true=>
   dsimp only
   rw [if_pos rfl]
   match rows with
   |[]=>rfl
   |[row]=>
    dsimp only
    simp only [FE,Fe]
    rfl
   |_::_::_=>rfl
theorem Lz (st:St) (k:Nat) (row:List V):NC st b o new m (some ⟨k,true,[row]⟩)=FE st b o new m k row row[o]? :=rfl
theorem G0 (k:Nat) (row:List V):FE ⟨x,y⟩ b o new m k row (some (.lit (.slice none 0 0)))=br ((St.heap ⟨x,y⟩ new).isNone&&decide (0<m)) (some ⟨x,cg new ⟨m,false,[]⟩ (cg b ⟨k,true,[row.set o (.sl new 0 0)]⟩ y)⟩) (some ⟨x,y⟩):=rfl
theorem HL (st:St) (k c s n:Nat) (row:List V):FE st b o new m k row (some (.sl c s n))=some st:=rfl
end
theorem K8 (x:List (Nat×V)) (y:List (Nat×Blk)) (ts:List Nat):aL ⟨x,y⟩ (.drop ts)=some ⟨sN ts x,y⟩:=rfl
theorem Im (ts:List Nat):sN ts []=[]:=rfl
theorem Eh (ts:List Nat) (t:Nat) (v:V) (r:List (Nat×V)):sN ts ((t,v)::r)=(t,br (ts.contains t) .undef v)::sN ts r:=by
 simp only [sN];by_cases h:t∈ts<;>simp [h,br]
attribute [go_sem] K8 Im Eh KB GE JJ Gd Ib G5 KE Lz G0 HL
theorem wb {α β:Type} {c:Bool} {x y:Option α} {r:α} {X Y Q:Option β} (h:br c x y=some r) (k1:x=some r→X=Q) (k2:y=some r→Y=Q):br c X Y=Q:=by
 cases c
 ·exact k2 h
 ·exact k1 h
theorem wn {α β γ:Type} {x:Option γ} {g:γ→Option α} {F:γ→Option β} {r:α} {Q:Option β} (h:x.bind g=some r) (k: ∀a,g a=some r→F a=Q):x.bind F=Q:=by
 cases x with
 |none=>cases h
 |some a=>exact k a h
def alt {α β γ:Type} (f:α→γ) (g:β→γ):α⊕β→γ
 | .inl a=>f a
 | .inr b=>g b
theorem re {α β γ:Type} (f:α→γ) (g:β→γ) (a:α):alt f g (.inl a)=f a:=rfl
theorem qZ {α β γ:Type} (f:α→γ) (g:β→γ) (b:β):alt f g (.inr b)=g b:=rfl
attribute [go_sem] re qZ
theorem lrG {T:Tab} {ow:be} {S E:Type} {g:bu} {c:aA} {step:S→Option (S⊕E)} {eS:S→St} {eE:E→aH×St}
 (hb: ∀s o,step s=some o→Rn T ow (uJ g) [.code c] (eS s)=some (match o with
  | .inl s'=>(.normal,eS s')
  | .inr e=>eE e)) {s:S} {e:E} (h:Loop step s=some e) (hne: ∀e,(eE e).1≠ .normal:=by intro e;(repeat' (obtain e|e:=(e:_⊕_)));(all_goals (intro h;cases h))):cw T ow g c (eS s)=some (eE e):=
 Dz hne hb h
theorem go {P:Prop} (p:P:=by
 repeat' first
  |with_reducible refine wb h (fun h=> ?_) (fun h=> ?_)
  |with_reducible refine wn h (fun x h=> ?_)
  | (obtain ⟨e,h1,h⟩:=bd h
     first|with_reducible replace h1:=d1 h1|with_reducible replace h1:=d2 h1|with_reducible replace h1:=d3 h1|with_reducible replace h1:=d4 h1|with_reducible replace h1:=d5 h1|with_reducible replace h1:=d6 h1|with_reducible replace h1:=d7 h1|with_reducible replace h1:=d8 h1|with_reducible replace h1:=d9 h1|with_reducible replace h1:=d10 h1|with_reducible replace h1:=d11 h1|with_reducible replace h1:=d12 h1|with_reducible replace h1:=d13 h1|with_reducible replace h1:=d14 h1|with_reducible replace h1:=d15 h1|with_reducible replace h1:=d16 h1|with_reducible replace h1:=d17 h1|with_reducible replace h1:=d18 h1|with_reducible replace h1:=d19 h1|with_reducible replace h1:=d20 h1|with_reducible replace h1:=d21 h1|with_reducible replace h1:=d22 h1|with_reducible replace h1:=d23 h1|with_reducible replace h1:=d24 h1
     try simp only [List.length_set] at h1
     first|refine II h1 ?_|refine DH h1 ?_|refine P0 h1 ?_
     repeat' (obtain e|e:=(e:_⊕_))
     all_goals (try simp only [re,qZ] at h)
     all_goals simp+decide only [go_sem,reduceIte,Nat.reduceAdd,Int.reduceBEq])
  |refine wb h (fun h=> ?_) (fun h=> ?_)
  |refine wn h (fun x h=> ?_)
  | (cases h<;>first|rfl| (simp only [List.length_set,go_sem];done))):P:=p
theorem go2 {P:Prop} (p:P:=by (simp+decide only [go_sem,reduceIte,Nat.reduceAdd,Int.reduceBEq]);all_goals exact go):P:=p
end Go.AI
