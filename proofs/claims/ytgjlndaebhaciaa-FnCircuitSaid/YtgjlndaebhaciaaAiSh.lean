/- Short forms of code, hints told by the code itself, and the steps by which walks go. -/
import Derived.Test.YtgjlndaebhaciaaAiW
import Derived.Test.YtgjlndaebhaciaaAiComp
set_option linter.unusedVariables false
namespace Go.AI
@[reducible] def qg (d:Nat) (o:AOp):aQ:=⟨some d,o,none⟩
@[reducible] def qG (d:Nat) (o:AOp) (t:Nat) (b:Bool):aQ:=⟨some d,o,some (t,b)⟩
@[reducible] def qI (n:Int):Opd:= .c (.int .i64 n)
@[reducible] def qm (d s:Nat):aQ:=⟨some d,.mv (.t s),none⟩
@[reducible] def qi (d:Nat) (n:Int):aQ:=⟨some d,.mv (.c (.int .i64 n)),none⟩
@[reducible] def ql (d x:Nat):aQ:=⟨some d,.load none (.t x),none⟩
@[reducible] def qL (d n x:Nat):aQ:=⟨some d,.load (some n) (.t x),none⟩
@[reducible] def qs (d n a x:Nat):aQ:=⟨some d,.store n (.t a) (.t x),none⟩
@[reducible] def qu (n a x:Nat):aQ:=⟨none,.store n (.t a) (.t x),none⟩
@[reducible] def qb (d:Nat) (o:BinOp) (x y:Nat):aQ:=⟨some d,.bin o (.t x) (.t y),none⟩
@[reducible] def qB (d:Nat) (o:BinOp) (x:Nat) (n:Int):aQ:=⟨some d,.bin o (.t x) (.c (.int .i64 n)),none⟩
@[reducible] def qD (d:Nat) (o:BinOp) (n:Int) (y:Nat):aQ:=⟨some d,.bin o (.c (.int .i64 n)) (.t y),none⟩
@[reducible] def qo (d k x:Nat):aQ:=⟨some d,.off k (.t x),none⟩
@[reducible] def qc (d f:Nat) (l:List Nat):aQ:=⟨some d,.call f (l.map .t),none⟩
@[reducible] def qe (d x i:Nat):aQ:=⟨some d,.ext (.t x) i,none⟩
@[reducible] def qk (d x:Nat):aQ:=⟨some d,.nilCheck (.t x),none⟩
@[reducible] def qn (d x:Nat):aQ:=⟨some d,.len false (.t x),none⟩
@[reducible] def qx (d e x i:Nat):aQ:=⟨some d,.idx e (.t x) (.t i),none⟩
@[reducible] def qX (d l e x i:Nat):aQ:=⟨some d,.idxArr l e (.t x) (.t i),none⟩
@[reducible] def qS (b:Nat) (ss:List aQ) (l:List Nat):aB:= .region b ss l
def CH:aB→List (Nat×List Nat)
 | .region b _ l=>[(b/1000-1,l)]
 | .drawn b _ _ l=>[(b/1000-1,l)]
 | .seq a b=>CH a++CH b
 | .cond _ a b=>CH a++CH b
 | .block _ c=>CH c
 | .loop c=>CH c
 | .ghost _ c=>CH c
 |_=>[]
def Xe:aB→Nat
 | .region b _ _=>b/1000-1
 | .drawn b _ _ _=>b/1000-1
 | .ghost _ c=>Xe c
 |_=>0
def Om:aB→Bool
 | .ret=>true
 | .ghost _ c=>Om c
 |_=>false
def DN:aB→List (Nat×bV)
 | .seq a b=>DN a++DN b
 | .cond _ a b=>DN a++DN b
 | .block _ c=>DN c
 | .loop c=>DN c
 | .ghost g c=>if Om c then [] else (Xe c,g)::DN c
 |_=>[]
def AX:aB→List (Nat×bV)
 | .seq a b=>match AX a with
   |[]=>AX b
   |l=>l
 | .cond _ a b=>match AX a with
   |[]=>AX b
   |l=>l
 | .block _ c=>AX c
 | .loop c=>AX c
 | .ghost g c=>if Om c then (999999,g)::AX c else AX c
 |_=>[]
def hnO (a:aG):sa:=⟨CH a.body,DN a.body++AX a.body,a.keep,a.raw⟩
def owg:List (Nat×List Nat)→Nat→List Nat
 |[],_=>[]
 | (j,v)::r,k=>br (decide (j=k)) v (owg r k)
theorem Pk (k:Nat):owg [] k=[]:=rfl
theorem M2 (j k:Nat) (v:List Nat) (r:List (Nat×List Nat)):owg ((j,v)::r) k=br (decide (j=k)) v (owg r k):=rfl
attribute [go_sem] Pk M2
section
variable {b o new m:Nat} {x:List (Nat×V)} {y:List (Nat×Blk)}
def ghB (b:bV):Option St→Option St
 |some st=>ba st b
 |none=>none
theorem Ra (st:St) (a b:bV):ba st (.both a b)=ghB b (ba st a):=by
 simp only [ba];cases ba st a<;>rfl
theorem L8 (b:bV) (st:St):ghB b (some st)=ba st b:=rfl
def KN (st:St) (t new m:Nat):V→Option St
 | .lit (.slice none 0 0)=>br ((st.heap new).isNone&&decide (0<m)) (some { e:=dj t (.sl new 0 0) st.e,m:=dj new ⟨m,false,[]⟩ st.m }) (some st)
 |_=>some st
theorem Ks {α:Type} (o:Option α) (m:Nat) (x y:Option St):(if o.isNone=true∧0<m then x else y)=br (o.isNone&&decide (0<m)) x y:=by
 cases o.isNone<;>by_cases h:0<m<;>simp [h,br]
theorem Q8 (st:St) (t:Nat):ba st (.nilTmp t new m)=KN st t new m (st.get t):=by
 simp only [ba,KN,Ks]
 rfl
theorem Nc (t:Nat):KN ⟨x,y⟩ t new m (.lit (.slice none 0 0))=br ((St.heap ⟨x,y⟩ new).isNone&&decide (0<m)) (some ⟨dj t (.sl new 0 0) x,dj new ⟨m,false,[]⟩ y⟩) (some ⟨x,y⟩):=rfl
theorem M9 (st:St) (t c s n:Nat):KN st t new m (.sl c s n)=some st:=rfl
theorem O2 (st:St) (t c:Nat) (r:List (List V)):KN st t new m (.imm c r)=some st:=rfl
def Ky (st:St) (b o new m k:Nat) (row:List V):Option V→Option St
 |some (.lit (.slice none 0 0))=>br ((st.heap new).isNone&&decide (0<m)) (some { st with m:=dj new ⟨m,false,[]⟩ (dj b ⟨k,true,[row.set o (.sl new 0 0)]⟩ st.m) }) (some st)
 |_=>some st
def VA (st:St) (b o new m:Nat):Option Blk→Option St
 |some ⟨k,true,[row]⟩=>Ky st b o new m k row row[o]?
 |_=>some st
theorem Qr (st:St):ba st (.nilCell b o new m)=VA st b o new m (st.heap b):=by
 unfold ba VA
 cases st.heap b with
 |none=>rfl
 |some k=>
  obtain ⟨e,op,rows⟩:=k
  cases op with
  |false=>simp
  |true=>
   dsimp only
   rw [if_pos rfl]
   match rows with
   |[]=>rfl
   |[row]=>
    dsimp only
    simp only [Ky,Ks]
    rfl
   |_::_::_=>rfl
theorem QU (st:St) (k:Nat) (row:List V):VA st b o new m (some ⟨k,true,[row]⟩)=Ky st b o new m k row row[o]? :=rfl
theorem Ni (k:Nat) (row:List V):Ky ⟨x,y⟩ b o new m k row (some (.lit (.slice none 0 0)))=br ((St.heap ⟨x,y⟩ new).isNone&&decide (0<m)) (some ⟨x,dj new ⟨m,false,[]⟩ (dj b ⟨k,true,[row.set o (.sl new 0 0)]⟩ y)⟩) (some ⟨x,y⟩):=rfl
theorem LF (st:St) (k c s n:Nat) (row:List V):Ky st b o new m k row (some (.sl c s n))=some st:=rfl
end
theorem Qy (x:List (Nat×V)) (y:List (Nat×Blk)) (ts:List Nat):ba ⟨x,y⟩ (.drop ts)=some ⟨ye ts x,y⟩:=rfl
theorem KD (ts:List Nat):ye ts []=[]:=rfl
theorem Kj (ts:List Nat) (t:Nat) (v:V) (r:List (Nat×V)):ye ts ((t,v)::r)=(t,br (ts.contains t) .undef v)::ye ts r:=by
 simp only [ye];by_cases h:t∈ts<;>simp [h,br]
attribute [go_sem] Qy KD Kj Ra L8 Q8 Nc M9 O2 Qr QU Ni LF
theorem wb {α β:Type} {c:Bool} {x y:Option α} {r:α} {X Y Q:Option β} (h:br c x y=some r) (k1:x=some r→X=Q) (k2:y=some r→Y=Q):br c X Y=Q:=by
 cases c
 ·exact k2 h
 ·exact k1 h
theorem wn {α β γ:Type} {x:Option γ} {g:γ→Option α} {F:γ→Option β} {r:α} {Q:Option β} (h:x.bind g=some r) (k: ∀a,g a=some r→F a=Q):x.bind F=Q:=by
 cases x with
 |none=>cases h
 |some a=>exact k a h
def alt {α β γ:Type} (f:α→γ) (g:β→γ):α⊕β→γ
 | .inl a=>f a
 | .inr b=>g b
theorem kZ {α β γ:Type} (f:α→γ) (g:β→γ) (a:α):alt f g (.inl a)=f a:=rfl
theorem mX {α β γ:Type} (f:α→γ) (g:β→γ) (b:β):alt f g (.inr b)=g b:=rfl
attribute [go_sem] kZ mX
theorem lrG {T:Tab} {ow:bB} {S E:Type} {g:bV} {c:aB} {step:S→Option (S⊕E)} {eS:S→St} {eE:E→aJ×St}
 (hb: ∀s o,step s=some o→Rn T ow (BW g) [.code c] (eS s)=some (match o with
  | .inl s'=>(.normal,eS s')
  | .inr e=>eE e)) {s:S} {e:E} (h:Loop step s=some e) (hne: ∀e,(eE e).1≠ .normal:=by intro e;(repeat' (obtain e|e:=(e:_⊕_)));(all_goals (intro h;cases h))):cy T ow g c (eS s)=some (eE e):=
 Ij hne hb h
theorem go {P:Prop} (p:P:=by
 repeat' first
  |with_reducible refine wb h (fun h=> ?_) (fun h=> ?_)
  |with_reducible refine wn h (fun x h=> ?_)
  | (obtain ⟨e,h1,h⟩:=bd h
     first|with_reducible replace h1:=d1 h1|with_reducible replace h1:=d2 h1|with_reducible replace h1:=d3 h1|with_reducible replace h1:=d4 h1|with_reducible replace h1:=d5 h1|with_reducible replace h1:=d6 h1|with_reducible replace h1:=d7 h1|with_reducible replace h1:=d8 h1|with_reducible replace h1:=d9 h1|with_reducible replace h1:=d10 h1|with_reducible replace h1:=d11 h1|with_reducible replace h1:=d12 h1|with_reducible replace h1:=d13 h1|with_reducible replace h1:=d14 h1|with_reducible replace h1:=d15 h1|with_reducible replace h1:=d16 h1|with_reducible replace h1:=d17 h1|with_reducible replace h1:=d18 h1|with_reducible replace h1:=d19 h1|with_reducible replace h1:=d20 h1|with_reducible replace h1:=d21 h1|with_reducible replace h1:=d22 h1|with_reducible replace h1:=d23 h1|with_reducible replace h1:=d24 h1
     try simp only [List.length_set] at h1
     first|refine uk h1 ?_|refine is h1 ?_|refine Gz h1 ?_
     repeat' (obtain e|e:=(e:_⊕_))
     all_goals (try simp only [kZ,mX] at h)
     all_goals simp+decide only [go_sem,reduceIte,Nat.reduceAdd,Int.reduceBEq])
  |refine wb h (fun h=> ?_) (fun h=> ?_)
  |refine wn h (fun x h=> ?_)
  | (cases h<;>first|rfl| (simp only [List.length_set,go_sem];done))):P:=p
theorem go2 {P:Prop} (p:P:=by (simp+decide only [go_sem,reduceIte,Nat.reduceAdd,Int.reduceBEq]);all_goals exact go):P:=p
end Go.AI
