/- Short forms of code, hints told by the code itself, and the steps by which walks go. -/
import Derived.Test.YtgjlndaebhaciaaAiW
import Derived.Test.YtgjlndaebhaciaaAiComp
set_option linter.unusedVariables false
namespace Go.AI
@[reducible] def qg (d:Nat) (o:AOp):aQ:=⟨some d,o,none⟩
@[reducible] def qG (d:Nat) (o:AOp) (t:Nat) (b:Bool):aQ:=⟨some d,o,some (t,b)⟩
@[reducible] def qI (n:Int):Opd:= .c (.int .i64 n)
@[reducible] def qm (d s:Nat):aQ:=⟨some d,.mv (.t s),none⟩
@[reducible] def qi (d:Nat) (n:Int):aQ:=⟨some d,.mv (.c (.int .i64 n)),none⟩
@[reducible] def ql (d x:Nat):aQ:=⟨some d,.load none (.t x),none⟩
@[reducible] def qL (d n x:Nat):aQ:=⟨some d,.load (some n) (.t x),none⟩
@[reducible] def qs (d n a x:Nat):aQ:=⟨some d,.store n (.t a) (.t x),none⟩
@[reducible] def qu (n a x:Nat):aQ:=⟨none,.store n (.t a) (.t x),none⟩
@[reducible] def qb (d:Nat) (o:BinOp) (x y:Nat):aQ:=⟨some d,.bin o (.t x) (.t y),none⟩
@[reducible] def qB (d:Nat) (o:BinOp) (x:Nat) (n:Int):aQ:=⟨some d,.bin o (.t x) (.c (.int .i64 n)),none⟩
@[reducible] def qD (d:Nat) (o:BinOp) (n:Int) (y:Nat):aQ:=⟨some d,.bin o (.c (.int .i64 n)) (.t y),none⟩
@[reducible] def qo (d k x:Nat):aQ:=⟨some d,.off k (.t x),none⟩
@[reducible] def qc (d f:Nat) (l:List Nat):aQ:=⟨some d,.call f (l.map .t),none⟩
@[reducible] def qe (d x i:Nat):aQ:=⟨some d,.ext (.t x) i,none⟩
@[reducible] def qk (d x:Nat):aQ:=⟨some d,.nilCheck (.t x),none⟩
@[reducible] def qn (d x:Nat):aQ:=⟨some d,.len false (.t x),none⟩
@[reducible] def qx (d e x i:Nat):aQ:=⟨some d,.idx e (.t x) (.t i),none⟩
@[reducible] def qX (d l e x i:Nat):aQ:=⟨some d,.idxArr l e (.t x) (.t i),none⟩
@[reducible] def qS (b:Nat) (ss:List aQ) (l:List Nat):au:= .region b ss l
def ET:au→List (Nat×List Nat)
 | .region b _ l=>[(b/1000-1,l)]
 | .drawn b _ _ l=>[(b/1000-1,l)]
 | .seq a b=>ET a++ET b
 | .cond _ a b=>ET a++ET b
 | .block _ c=>ET c
 | .loop c=>ET c
 | .ghost _ c=>ET c
 |_=>[]
def a1O:au→Nat
 | .region b _ _=>b/1000-1
 | .drawn b _ _ _=>b/1000-1
 | .ghost _ c=>a1O c
 |_=>0
def RA:au→Bool
 | .ret=>true
 | .ghost _ c=>RA c
 |_=>false
def F0:au→List (Nat×ci)
 | .seq a b=>F0 a++F0 b
 | .cond _ a b=>F0 a++F0 b
 | .block _ c=>F0 c
 | .loop c=>F0 c
 | .ghost g c=>if RA c then [] else (a1O c,g)::F0 c
 |_=>[]
def Dp:au→List (Nat×ci)
 | .seq a b=>match Dp a with
   |[]=>Dp b
   |l=>l
 | .cond _ a b=>match Dp a with
   |[]=>Dp b
   |l=>l
 | .block _ c=>Dp c
 | .loop c=>Dp c
 | .ghost g c=>if RA c then (999999,g)::Dp c else Dp c
 |_=>[]
def hnO (a:aC):ub:=⟨ET a.body,F0 a.body++Dp a.body,a.keep,a.raw⟩
def owg:List (Nat×List Nat)→Nat→List Nat
 |[],_=>[]
 | (j,v)::r,k=>br (decide (j=k)) v (owg r k)
theorem V2 (k:Nat):owg [] k=[]:=rfl
theorem MF (j k:Nat) (v:List Nat) (r:List (Nat×List Nat)):owg ((j,v)::r) k=br (decide (j=k)) v (owg r k):=rfl
attribute [go_sem] V2 MF
section
variable {b o new m:Nat} {x:List (Nat×V)} {y:List (Nat×Blk)}
def ghB (b:ci):Option St→Option St
 |some st=>bc st b
 |none=>none
theorem Tl (st:St) (a b:ci):bc st (.both a b)=ghB b (bc st a):=by
 simp only [bc];cases bc st a<;>rfl
theorem OU (b:ci) (st:St):ghB b (some st)=bc st b:=rfl
def NU (st:St) (t new m:Nat):V→Option St
 | .lit (.slice none 0 0)=>br ((st.heap new).isNone&&decide (0<m)) (some { e:=dv t (.sl new 0 0) st.e,m:=dv new ⟨m,false,[]⟩ st.m }) (some st)
 |_=>some st
theorem Nw {α:Type} (o:Option α) (m:Nat) (x y:Option St):(if o.isNone=true∧0<m then x else y)=br (o.isNone&&decide (0<m)) x y:=by
 cases o.isNone<;>by_cases h:0<m<;>simp [h,br]
theorem Ul (st:St) (t:Nat):bc st (.nilTmp t new m)=NU st t new m (st.get t):=by
 simp only [bc,NU,Nw]
 rfl
theorem Q3 (t:Nat):NU ⟨x,y⟩ t new m (.lit (.slice none 0 0))=br ((St.heap ⟨x,y⟩ new).isNone&&decide (0<m)) (some ⟨dv t (.sl new 0 0) x,dv new ⟨m,false,[]⟩ y⟩) (some ⟨x,y⟩):=rfl
theorem PU (st:St) (t c s n:Nat):NU st t new m (.sl c s n)=some st:=rfl
theorem Rw (st:St) (t c:Nat) (r:List (List V)):NU st t new m (.imm c r)=some st:=rfl
def Rq (st:St) (b o new m k:Nat) (row:List V):Option V→Option St
 |some (.lit (.slice none 0 0))=>br ((st.heap new).isNone&&decide (0<m)) (some { st with m:=dv new ⟨m,false,[]⟩ (dv b ⟨k,true,[row.set o (.sl new 0 0)]⟩ st.m) }) (some st)
 |_=>some st
def ZU (st:St) (b o new m:Nat):Option Blk→Option St
 |some ⟨k,true,[row]⟩=>Rq st b o new m k row row[o]?
 |_=>some st
theorem Sj (st:St):bc st (.nilCell b o new m)=ZU st b o new m (st.heap b):=by
 unfold bc ZU
 cases st.heap b with
 |none=>rfl
 |some k=>
  obtain ⟨e,op,rows⟩:=k
  cases op with
  |false=>simp
  |true=>
   dsimp only
   rw [if_pos rfl]
   match rows with
   |[]=>rfl
   |[row]=>
    dsimp only
    simp only [Rq,Nw]
    rfl
   |_::_::_=>rfl
theorem Ux (st:St) (k:Nat) (row:List V):ZU st b o new m (some ⟨k,true,[row]⟩)=Rq st b o new m k row row[o]? :=rfl
theorem NM (k:Nat) (row:List V):Rq ⟨x,y⟩ b o new m k row (some (.lit (.slice none 0 0)))=br ((St.heap ⟨x,y⟩ new).isNone&&decide (0<m)) (some ⟨x,dv new ⟨m,false,[]⟩ (dv b ⟨k,true,[row.set o (.sl new 0 0)]⟩ y)⟩) (some ⟨x,y⟩):=rfl
theorem R5 (st:St) (k c s n:Nat) (row:List V):Rq st b o new m k row (some (.sl c s n))=some st:=rfl
end
theorem TV (x:List (Nat×V)) (y:List (Nat×Blk)) (ts:List Nat):bc ⟨x,y⟩ (.drop ts)=some ⟨zA ts x,y⟩:=rfl
theorem O3 (ts:List Nat):zA ts []=[]:=rfl
theorem KW (ts:List Nat) (t:Nat) (v:V) (r:List (Nat×V)):zA ts ((t,v)::r)=(t,br (ts.contains t) .undef v)::zA ts r:=by
 simp only [zA];by_cases h:t∈ts<;>simp [h,br]
attribute [go_sem] TV O3 KW Tl OU Ul Q3 PU Rw Sj Ux NM R5
theorem wb {α β:Type} {c:Bool} {x y:Option α} {r:α} {X Y Q:Option β} (h:br c x y=some r) (k1:x=some r→X=Q) (k2:y=some r→Y=Q):br c X Y=Q:=by
 cases c
 ·exact k2 h
 ·exact k1 h
theorem wn {α β γ:Type} {x:Option γ} {g:γ→Option α} {F:γ→Option β} {r:α} {Q:Option β} (h:x.bind g=some r) (k: ∀a,g a=some r→F a=Q):x.bind F=Q:=by
 cases x with
 |none=>cases h
 |some a=>exact k a h
def alt {α β γ:Type} (f:α→γ) (g:β→γ):α⊕β→γ
 | .inl a=>f a
 | .inr b=>g b
theorem nW {α β γ:Type} (f:α→γ) (g:β→γ) (a:α):alt f g (.inl a)=f a:=rfl
theorem qt {α β γ:Type} (f:α→γ) (g:β→γ) (b:β):alt f g (.inr b)=g b:=rfl
attribute [go_sem] nW qt
theorem lrG {T:Tab} {ow:bK} {S E:Type} {g:ci} {c:au} {step:S→Option (S⊕E)} {eS:S→St} {eE:E→aH×St}
 (hb: ∀s o,step s=some o→Rn T ow (Ce g) [.code c] (eS s)=some (match o with
  | .inl s'=>(.normal,eS s')
  | .inr e=>eE e)) {s:S} {e:E} (h:Loop step s=some e) (hne: ∀e,(eE e).1≠ .normal:=by intro e;(repeat' (obtain e|e:=(e:_⊕_)));(all_goals (intro h;cases h))):bL T ow g c (eS s)=some (eE e):=
 KS hne hb h
theorem go {P:Prop} (p:P:=by
 repeat' first
  |with_reducible refine wb h (fun h=> ?_) (fun h=> ?_)
  |with_reducible refine wn h (fun x h=> ?_)
  | (obtain ⟨e,h1,h⟩:=bd h
     first|with_reducible replace h1:=d1 h1|with_reducible replace h1:=d2 h1|with_reducible replace h1:=d3 h1|with_reducible replace h1:=d4 h1|with_reducible replace h1:=d5 h1|with_reducible replace h1:=d6 h1|with_reducible replace h1:=d7 h1|with_reducible replace h1:=d8 h1|with_reducible replace h1:=d9 h1|with_reducible replace h1:=d10 h1|with_reducible replace h1:=d11 h1|with_reducible replace h1:=d12 h1|with_reducible replace h1:=d13 h1|with_reducible replace h1:=d14 h1|with_reducible replace h1:=d15 h1|with_reducible replace h1:=d16 h1|with_reducible replace h1:=d17 h1|with_reducible replace h1:=d18 h1|with_reducible replace h1:=d19 h1|with_reducible replace h1:=d20 h1|with_reducible replace h1:=d21 h1|with_reducible replace h1:=d22 h1|with_reducible replace h1:=d23 h1|with_reducible replace h1:=d24 h1
     try simp only [List.length_set] at h1
     first|refine we h1 ?_|refine iS h1 ?_|refine It h1 ?_
     repeat' (obtain e|e:=(e:_⊕_))
     all_goals (try simp only [nW,qt] at h)
     all_goals simp+decide only [go_sem,reduceIte,Nat.reduceAdd,Int.reduceBEq])
  |refine wb h (fun h=> ?_) (fun h=> ?_)
  |refine wn h (fun x h=> ?_)
  | (cases h<;>first|rfl| (simp only [List.length_set,go_sem];done))):P:=p
theorem go2 {P:Prop} (p:P:=by (simp+decide only [go_sem,reduceIte,Nat.reduceAdd,Int.reduceBEq]);all_goals exact go):P:=p
end Go.AI
