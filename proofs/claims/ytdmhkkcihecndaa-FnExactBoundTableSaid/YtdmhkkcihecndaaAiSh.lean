/- Short forms of code, hints told by the code itself, and the steps by which walks go. -/
import Derived.Test.YtdmhkkcihecndaaAiW
import Derived.Test.YtdmhkkcihecndaaAiComp
set_option linter.unusedVariables false
namespace Go.AI
@[reducible] def qg (d:Nat) (o:AOp):al:=⟨some d,o,none⟩
@[reducible] def qG (d:Nat) (o:AOp) (t:Nat) (b:Bool):al:=⟨some d,o,some (t,b)⟩
@[reducible] def qI (n:Int):Opd:= .c (.int .i64 n)
@[reducible] def qm (d s:Nat):al:=⟨some d,.mv (.t s),none⟩
@[reducible] def qi (d:Nat) (n:Int):al:=⟨some d,.mv (.c (.int .i64 n)),none⟩
@[reducible] def ql (d x:Nat):al:=⟨some d,.load none (.t x),none⟩
@[reducible] def qL (d n x:Nat):al:=⟨some d,.load (some n) (.t x),none⟩
@[reducible] def qs (d n a x:Nat):al:=⟨some d,.store n (.t a) (.t x),none⟩
@[reducible] def qu (n a x:Nat):al:=⟨none,.store n (.t a) (.t x),none⟩
@[reducible] def qb (d:Nat) (o:BinOp) (x y:Nat):al:=⟨some d,.bin o (.t x) (.t y),none⟩
@[reducible] def qB (d:Nat) (o:BinOp) (x:Nat) (n:Int):al:=⟨some d,.bin o (.t x) (.c (.int .i64 n)),none⟩
@[reducible] def qD (d:Nat) (o:BinOp) (n:Int) (y:Nat):al:=⟨some d,.bin o (.c (.int .i64 n)) (.t y),none⟩
@[reducible] def qo (d k x:Nat):al:=⟨some d,.off k (.t x),none⟩
@[reducible] def qc (d f:Nat) (l:List Nat):al:=⟨some d,.call f (l.map .t),none⟩
@[reducible] def qe (d x i:Nat):al:=⟨some d,.ext (.t x) i,none⟩
@[reducible] def qk (d x:Nat):al:=⟨some d,.nilCheck (.t x),none⟩
@[reducible] def qn (d x:Nat):al:=⟨some d,.len false (.t x),none⟩
@[reducible] def qx (d e x i:Nat):al:=⟨some d,.idx e (.t x) (.t i),none⟩
@[reducible] def qX (d l e x i:Nat):al:=⟨some d,.idxArr l e (.t x) (.t i),none⟩
@[reducible] def qS (b:Nat) (ss:List al) (l:List Nat):ai:= .region b ss l
def vZ:ai→List (Nat×List Nat)
 | .region b _ l=>[(b/1000-1,l)]
 | .drawn b _ _ l=>[(b/1000-1,l)]
 | .seq a b=>vZ a++vZ b
 | .cond _ a b=>vZ a++vZ b
 | .block _ c=>vZ c
 | .loop c=>vZ c
 | .ghost _ c=>vZ c
 |_=>[]
def Pa:ai→Nat
 | .region b _ _=>b/1000-1
 | .drawn b _ _ _=>b/1000-1
 | .ghost _ c=>Pa c
 |_=>0
def DN:ai→Bool
 | .ret=>true
 | .ghost _ c=>DN c
 |_=>false
def vM:ai→List (Nat×bj)
 | .seq a b=>vM a++vM b
 | .cond _ a b=>vM a++vM b
 | .block _ c=>vM c
 | .loop c=>vM c
 | .ghost g c=>if DN c then [] else (Pa c,g)::vM c
 |_=>[]
def uo:ai→List (Nat×bj)
 | .seq a b=>match uo a with
   |[]=>uo b
   |l=>l
 | .cond _ a b=>match uo a with
   |[]=>uo b
   |l=>l
 | .block _ c=>uo c
 | .loop c=>uo c
 | .ghost g c=>if DN c then (999999,g)::uo c else uo c
 |_=>[]
def hnO (a:aj):zV:=⟨vZ a.body,vM a.body++uo a.body,a.keep,a.raw⟩
def owg:List (Nat×List Nat)→Nat→List Nat
 |[],_=>[]
 | (j,v)::r,k=>br (decide (j=k)) v (owg r k)
theorem Hq (k:Nat):owg [] k=[]:=rfl
theorem GA (j k:Nat) (v:List Nat) (r:List (Nat×List Nat)):owg ((j,v)::r) k=br (decide (j=k)) v (owg r k):=rfl
attribute [go_sem] Hq GA
section
variable {b o new m:Nat} {x:List (Nat×V)} {y:List (Nat×Blk)}
def ghB (b:bj):Option St→Option St
 |some st=>aE st b
 |none=>none
theorem Hr (st:St) (a b:bj):aE st (.both a b)=ghB b (aE st a):=by
 simp only [aE];cases aE st a<;>rfl
theorem GC (b:bj) (st:St):ghB b (some st)=aE st b:=rfl
def FY (st:St) (t new m:Nat):V→Option St
 | .lit (.slice none 0 0)=>br ((st.heap new).isNone&&decide (0<m)) (some { e:=bN t (.sl new 0 0) st.e,m:=bN new ⟨m,false,[]⟩ st.m }) (some st)
 |_=>some st
theorem Fo {α:Type} (o:Option α) (m:Nat) (x y:Option St):(if o.isNone=true∧0<m then x else y)=br (o.isNone&&decide (0<m)) x y:=by
 cases o.isNone<;>by_cases h:0<m<;>simp [h,br]
theorem GS (st:St) (t:Nat):aE st (.nilTmp t new m)=FY st t new m (st.get t):=by
 simp only [aE,FY,Fo]
 rfl
theorem Gn (t:Nat):FY ⟨x,y⟩ t new m (.lit (.slice none 0 0))=br ((St.heap ⟨x,y⟩ new).isNone&&decide (0<m)) (some ⟨bN t (.sl new 0 0) x,bN new ⟨m,false,[]⟩ y⟩) (some ⟨x,y⟩):=rfl
theorem DS (st:St) (t c s n:Nat):FY st t new m (.sl c s n)=some st:=rfl
theorem Gz (st:St) (t c:Nat) (r:List (List V)):FY st t new m (.imm c r)=some st:=rfl
def EZ (st:St) (b o new m k:Nat) (row:List V):Option V→Option St
 |some (.lit (.slice none 0 0))=>br ((st.heap new).isNone&&decide (0<m)) (some { st with m:=bN new ⟨m,false,[]⟩ (bN b ⟨k,true,[row.set o (.sl new 0 0)]⟩ st.m) }) (some st)
 |_=>some st
def KF (st:St) (b o new m:Nat):Option Blk→Option St
 |some ⟨k,true,[row]⟩=>EZ st b o new m k row row[o]?
 |_=>some st
theorem J2 (st:St):aE st (.nilCell b o new m)=KF st b o new m (st.heap b):=by
 unfold aE KF
 cases st.heap b with
 |none=>rfl
 |some k=>
  obtain ⟨e,op,rows⟩:=k
  cases op with
  |false=>simp
  |true=>
   dsimp only
   rw [if_pos rfl]
   match rows with
   |[]=>rfl
   |[row]=>
    dsimp only
    simp only [EZ,Fo]
    rfl
   |_::_::_=>rfl
theorem Jq (st:St) (k:Nat) (row:List V):KF st b o new m (some ⟨k,true,[row]⟩)=EZ st b o new m k row row[o]? :=rfl
theorem FS (k:Nat) (row:List V):EZ ⟨x,y⟩ b o new m k row (some (.lit (.slice none 0 0)))=br ((St.heap ⟨x,y⟩ new).isNone&&decide (0<m)) (some ⟨x,bN new ⟨m,false,[]⟩ (bN b ⟨k,true,[row.set o (.sl new 0 0)]⟩ y)⟩) (some ⟨x,y⟩):=rfl
theorem Dn (st:St) (k c s n:Nat) (row:List V):EZ st b o new m k row (some (.sl c s n))=some st:=rfl
end
theorem Ja (x:List (Nat×V)) (y:List (Nat×Blk)) (ts:List Nat):aE ⟨x,y⟩ (.drop ts)=some ⟨pV ts x,y⟩:=rfl
theorem DV (ts:List Nat):pV ts []=[]:=rfl
theorem Bh (ts:List Nat) (t:Nat) (v:V) (r:List (Nat×V)):pV ts ((t,v)::r)=(t,br (ts.contains t) .undef v)::pV ts r:=by
 simp only [pV];by_cases h:t∈ts<;>simp [h,br]
attribute [go_sem] Ja DV Bh Hr GC GS Gn DS Gz J2 Jq FS Dn
theorem wb {α β:Type} {c:Bool} {x y:Option α} {r:α} {X Y Q:Option β} (h:br c x y=some r) (k1:x=some r→X=Q) (k2:y=some r→Y=Q):br c X Y=Q:=by
 cases c
 ·exact k2 h
 ·exact k1 h
theorem wn {α β γ:Type} {x:Option γ} {g:γ→Option α} {F:γ→Option β} {r:α} {Q:Option β} (h:x.bind g=some r) (k: ∀a,g a=some r→F a=Q):x.bind F=Q:=by
 cases x with
 |none=>cases h
 |some a=>exact k a h
def alt {α β γ:Type} (f:α→γ) (g:β→γ):α⊕β→γ
 | .inl a=>f a
 | .inr b=>g b
theorem nr {α β γ:Type} (f:α→γ) (g:β→γ) (a:α):alt f g (.inl a)=f a:=rfl
theorem pb {α β γ:Type} (f:α→γ) (g:β→γ) (b:β):alt f g (.inr b)=g b:=rfl
attribute [go_sem] nr pb
theorem lrG {T:Tab} {ow:bm} {S E:Type} {g:bj} {c:ai} {step:S→Option (S⊕E)} {eS:S→St} {eE:E→au×St}
 (hb: ∀s o,step s=some o→Rn T ow (uy g) [.code c] (eS s)=some (match o with
  | .inl s'=>(.normal,eS s')
  | .inr e=>eE e)) {s:S} {e:E} (h:Loop step s=some e) (hne: ∀e,(eE e).1≠ .normal:=by intro e;(repeat' (obtain e|e:=(e:_⊕_)));(all_goals (intro h;cases h))):cf T ow g c (eS s)=some (eE e):=
 Bk hne hb h
theorem go {P:Prop} (p:P:=by
 repeat' first
  |with_reducible refine wb h (fun h=> ?_) (fun h=> ?_)
  |with_reducible refine wn h (fun x h=> ?_)
  | (obtain ⟨e,h1,h⟩:=bd h
     first|with_reducible replace h1:=d1 h1|with_reducible replace h1:=d2 h1|with_reducible replace h1:=d3 h1|with_reducible replace h1:=d4 h1|with_reducible replace h1:=d5 h1|with_reducible replace h1:=d6 h1|with_reducible replace h1:=d7 h1|with_reducible replace h1:=d8 h1|with_reducible replace h1:=d9 h1|with_reducible replace h1:=d10 h1|with_reducible replace h1:=d11 h1|with_reducible replace h1:=d12 h1|with_reducible replace h1:=d13 h1|with_reducible replace h1:=d14 h1|with_reducible replace h1:=d15 h1|with_reducible replace h1:=d16 h1|with_reducible replace h1:=d17 h1|with_reducible replace h1:=d18 h1|with_reducible replace h1:=d19 h1|with_reducible replace h1:=d20 h1|with_reducible replace h1:=d21 h1|with_reducible replace h1:=d22 h1|with_reducible replace h1:=d23 h1|with_reducible replace h1:=d24 h1
     try simp only [List.length_set] at h1
     first|refine pF h1 ?_|refine du h1 ?_|refine uF h1 ?_
     repeat' (obtain e|e:=(e:_⊕_))
     all_goals (try simp only [nr,pb] at h)
     all_goals simp+decide only [go_sem,reduceIte,Nat.reduceAdd])
  |refine wb h (fun h=> ?_) (fun h=> ?_)
  |refine wn h (fun x h=> ?_)
  | (cases h<;>first|rfl| (simp only [List.length_set,go_sem];done))):P:=p
theorem go2 {P:Prop} (p:P:=by (simp+decide only [go_sem,reduceIte,Nat.reduceAdd]);all_goals exact go):P:=p
end Go.AI
