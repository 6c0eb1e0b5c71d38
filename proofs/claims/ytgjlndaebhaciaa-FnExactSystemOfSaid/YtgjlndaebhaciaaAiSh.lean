/- Short forms of code, hints told by the code itself, and the steps by which walks go. -/
import Derived.Test.YtgjlndaebhaciaaAiW
import Derived.Test.YtgjlndaebhaciaaAiComp
set_option linter.unusedVariables false
namespace Go.AI
@[reducible] def qg (d:Nat) (o:AOp):aD:=⟨some d,o,none⟩
@[reducible] def qG (d:Nat) (o:AOp) (t:Nat) (b:Bool):aD:=⟨some d,o,some (t,b)⟩
@[reducible] def qI (n:Int):Opd:= .c (.int .i64 n)
@[reducible] def qm (d s:Nat):aD:=⟨some d,.mv (.t s),none⟩
@[reducible] def qi (d:Nat) (n:Int):aD:=⟨some d,.mv (.c (.int .i64 n)),none⟩
@[reducible] def ql (d x:Nat):aD:=⟨some d,.load none (.t x),none⟩
@[reducible] def qL (d n x:Nat):aD:=⟨some d,.load (some n) (.t x),none⟩
@[reducible] def qs (d n a x:Nat):aD:=⟨some d,.store n (.t a) (.t x),none⟩
@[reducible] def qu (n a x:Nat):aD:=⟨none,.store n (.t a) (.t x),none⟩
@[reducible] def qb (d:Nat) (o:BinOp) (x y:Nat):aD:=⟨some d,.bin o (.t x) (.t y),none⟩
@[reducible] def qB (d:Nat) (o:BinOp) (x:Nat) (n:Int):aD:=⟨some d,.bin o (.t x) (.c (.int .i64 n)),none⟩
@[reducible] def qD (d:Nat) (o:BinOp) (n:Int) (y:Nat):aD:=⟨some d,.bin o (.c (.int .i64 n)) (.t y),none⟩
@[reducible] def qo (d k x:Nat):aD:=⟨some d,.off k (.t x),none⟩
@[reducible] def qc (d f:Nat) (l:List Nat):aD:=⟨some d,.call f (l.map .t),none⟩
@[reducible] def qe (d x i:Nat):aD:=⟨some d,.ext (.t x) i,none⟩
@[reducible] def qk (d x:Nat):aD:=⟨some d,.nilCheck (.t x),none⟩
@[reducible] def qn (d x:Nat):aD:=⟨some d,.len false (.t x),none⟩
@[reducible] def qx (d e x i:Nat):aD:=⟨some d,.idx e (.t x) (.t i),none⟩
@[reducible] def qX (d l e x i:Nat):aD:=⟨some d,.idxArr l e (.t x) (.t i),none⟩
@[reducible] def qS (b:Nat) (ss:List aD) (l:List Nat):aw:= .region b ss l
def xB:aw→List (Nat×List Nat)
 | .region b _ l=>[(b/1000-1,l)]
 | .drawn b _ _ l=>[(b/1000-1,l)]
 | .seq a b=>xB a++xB b
 | .cond _ a b=>xB a++xB b
 | .block _ c=>xB c
 | .loop c=>xB c
 | .ghost _ c=>xB c
 |_=>[]
def R6:aw→Nat
 | .region b _ _=>b/1000-1
 | .drawn b _ _ _=>b/1000-1
 | .ghost _ c=>R6 c
 |_=>0
def IU:aw→Bool
 | .ret=>true
 | .ghost _ c=>IU c
 |_=>false
def xW:aw→List (Nat×bq)
 | .seq a b=>xW a++xW b
 | .cond _ a b=>xW a++xW b
 | .block _ c=>xW c
 | .loop c=>xW c
 | .ghost g c=>if IU c then [] else (R6 c,g)::xW c
 |_=>[]
def vO:aw→List (Nat×bq)
 | .seq a b=>match vO a with
   |[]=>vO b
   |l=>l
 | .cond _ a b=>match vO a with
   |[]=>vO b
   |l=>l
 | .block _ c=>vO c
 | .loop c=>vO c
 | .ghost g c=>if IU c then (999999,g)::vO c else vO c
 |_=>[]
def hnO (a:aI):nS:=⟨xB a.body,xW a.body++vO a.body,a.keep,a.raw⟩
def owg:List (Nat×List Nat)→Nat→List Nat
 |[],_=>[]
 | (j,v)::r,k=>br (decide (j=k)) v (owg r k)
theorem JM (k:Nat):owg [] k=[]:=rfl
theorem EO (j k:Nat) (v:List Nat) (r:List (Nat×List Nat)):owg ((j,v)::r) k=br (decide (j=k)) v (owg r k):=rfl
attribute [go_sem] JM EO
section
variable {b o new m:Nat} {x:List (Nat×V)} {y:List (Nat×Blk)}
def ghB (b:bq):Option St→Option St
 |some st=>aL st b
 |none=>none
theorem JE (st:St) (a b:bq):aL st (.both a b)=ghB b (aL st a):=by
 simp only [aL];cases aL st a<;>rfl
theorem EH (b:bq) (st:St):ghB b (some st)=aL st b:=rfl
def J6 (st:St) (t new m:Nat):V→Option St
 | .lit (.slice none 0 0)=>br ((st.heap new).isNone&&decide (0<m)) (some { e:=ci t (.sl new 0 0) st.e,m:=ci new ⟨m,false,[]⟩ st.m }) (some st)
 |_=>some st
theorem GS {α:Type} (o:Option α) (m:Nat) (x y:Option St):(if o.isNone=true∧0<m then x else y)=br (o.isNone&&decide (0<m)) x y:=by
 cases o.isNone<;>by_cases h:0<m<;>simp [h,br]
theorem M4 (st:St) (t:Nat):aL st (.nilTmp t new m)=J6 st t new m (st.get t):=by
 simp only [aL,J6,GS]
 rfl
theorem HO (t:Nat):J6 ⟨x,y⟩ t new m (.lit (.slice none 0 0))=br ((St.heap ⟨x,y⟩ new).isNone&&decide (0<m)) (some ⟨ci t (.sl new 0 0) x,ci new ⟨m,false,[]⟩ y⟩) (some ⟨x,y⟩):=rfl
theorem FO (st:St) (t c s n:Nat):J6 st t new m (.sl c s n)=some st:=rfl
theorem GM (st:St) (t c:Nat) (r:List (List V)):J6 st t new m (.imm c r)=some st:=rfl
def ET (st:St) (b o new m k:Nat) (row:List V):Option V→Option St
 |some (.lit (.slice none 0 0))=>br ((st.heap new).isNone&&decide (0<m)) (some { st with m:=ci new ⟨m,false,[]⟩ (ci b ⟨k,true,[row.set o (.sl new 0 0)]⟩ st.m) }) (some st)
 |_=>some st
def Nz (st:St) (b o new m:Nat):Option Blk→Option St
 |some ⟨k,true,[row]⟩=>ET st b o new m k row row[o]?
 |_=>some st
theorem Mr (st:St):aL st (.nilCell b o new m)=Nz st b o new m (st.heap b):=by
 unfold aL Nz
 cases st.heap b with
 |none=>rfl
 |some k=>
  obtain ⟨e,op,rows⟩:=k
  cases op with
  |false=>simp
  |true=>
   dsimp only
   rw [if_pos rfl]
   match rows with
   |[]=>rfl
   |[row]=>
    dsimp only
    simp only [ET,GS]
    rfl
   |_::_::_=>rfl
theorem M7 (st:St) (k:Nat) (row:List V):Nz st b o new m (some ⟨k,true,[row]⟩)=ET st b o new m k row row[o]? :=rfl
theorem Fa (k:Nat) (row:List V):ET ⟨x,y⟩ b o new m k row (some (.lit (.slice none 0 0)))=br ((St.heap ⟨x,y⟩ new).isNone&&decide (0<m)) (some ⟨x,ci new ⟨m,false,[]⟩ (ci b ⟨k,true,[row.set o (.sl new 0 0)]⟩ y)⟩) (some ⟨x,y⟩):=rfl
theorem HB (st:St) (k c s n:Nat) (row:List V):ET st b o new m k row (some (.sl c s n))=some st:=rfl
end
theorem L2 (x:List (Nat×V)) (y:List (Nat×Blk)) (ts:List Nat):aL ⟨x,y⟩ (.drop ts)=some ⟨sy ts x,y⟩:=rfl
theorem HU (ts:List Nat):sy ts []=[]:=rfl
theorem CW (ts:List Nat) (t:Nat) (v:V) (r:List (Nat×V)):sy ts ((t,v)::r)=(t,br (ts.contains t) .undef v)::sy ts r:=by
 simp only [sy];by_cases h:t∈ts<;>simp [h,br]
attribute [go_sem] L2 HU CW JE EH M4 HO FO GM Mr M7 Fa HB
theorem wb {α β:Type} {c:Bool} {x y:Option α} {r:α} {X Y Q:Option β} (h:br c x y=some r) (k1:x=some r→X=Q) (k2:y=some r→Y=Q):br c X Y=Q:=by
 cases c
 ·exact k2 h
 ·exact k1 h
theorem wn {α β γ:Type} {x:Option γ} {g:γ→Option α} {F:γ→Option β} {r:α} {Q:Option β} (h:x.bind g=some r) (k: ∀a,g a=some r→F a=Q):x.bind F=Q:=by
 cases x with
 |none=>cases h
 |some a=>exact k a h
def alt {α β γ:Type} (f:α→γ) (g:β→γ):α⊕β→γ
 | .inl a=>f a
 | .inr b=>g b
theorem rd {α β γ:Type} (f:α→γ) (g:β→γ) (a:α):alt f g (.inl a)=f a:=rfl
theorem qW {α β γ:Type} (f:α→γ) (g:β→γ) (b:β):alt f g (.inr b)=g b:=rfl
attribute [go_sem] rd qW
theorem lrG {T:Tab} {ow:be} {S E:Type} {g:bq} {c:aw} {step:S→Option (S⊕E)} {eS:S→St} {eE:E→aH×St}
 (hb: ∀s o,step s=some o→Rn T ow (vQ g) [.code c] (eS s)=some (match o with
  | .inl s'=>(.normal,eS s')
  | .inr e=>eE e)) {s:S} {e:E} (h:Loop step s=some e) (hne: ∀e,(eE e).1≠ .normal:=by intro e;(repeat' (obtain e|e:=(e:_⊕_)));(all_goals (intro h;cases h))):cw T ow g c (eS s)=some (eE e):=
 D5 hne hb h
theorem go {P:Prop} (p:P:=by
 repeat' first
  |with_reducible refine wb h (fun h=> ?_) (fun h=> ?_)
  |with_reducible refine wn h (fun x h=> ?_)
  | (obtain ⟨e,h1,h⟩:=bd h
     first|with_reducible replace h1:=d1 h1|with_reducible replace h1:=d2 h1|with_reducible replace h1:=d3 h1|with_reducible replace h1:=d4 h1|with_reducible replace h1:=d5 h1|with_reducible replace h1:=d6 h1|with_reducible replace h1:=d7 h1|with_reducible replace h1:=d8 h1|with_reducible replace h1:=d9 h1|with_reducible replace h1:=d10 h1|with_reducible replace h1:=d11 h1|with_reducible replace h1:=d12 h1|with_reducible replace h1:=d13 h1|with_reducible replace h1:=d14 h1|with_reducible replace h1:=d15 h1|with_reducible replace h1:=d16 h1|with_reducible replace h1:=d17 h1|with_reducible replace h1:=d18 h1|with_reducible replace h1:=d19 h1|with_reducible replace h1:=d20 h1|with_reducible replace h1:=d21 h1|with_reducible replace h1:=d22 h1|with_reducible replace h1:=d23 h1|with_reducible replace h1:=d24 h1
     try simp only [List.length_set] at h1
     first|refine Hv h1 ?_|refine Da h1 ?_|refine Ni h1 ?_
     repeat' (obtain e|e:=(e:_⊕_))
     all_goals (try simp only [rd,qW] at h)
     all_goals simp+decide only [go_sem,reduceIte,Nat.reduceAdd,Int.reduceBEq])
  |refine wb h (fun h=> ?_) (fun h=> ?_)
  |refine wn h (fun x h=> ?_)
  | (cases h<;>first|rfl| (simp only [List.length_set,go_sem];done))):P:=p
theorem go2 {P:Prop} (p:P:=by (simp+decide only [go_sem,reduceIte,Nat.reduceAdd,Int.reduceBEq]);all_goals exact go):P:=p
end Go.AI
