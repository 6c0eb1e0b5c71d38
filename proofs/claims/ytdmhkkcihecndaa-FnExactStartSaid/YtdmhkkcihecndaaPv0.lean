/- Plain laws for printed functions: loops whose states are told in advance; numbers; places. -/
import Derived.Test.YtdmhkkcihecndaaAiW
import Derived.Test.YtdmhkkcihecndaaFx1
import Derived.KernelRfl
set_option linter.unusedVariables false
namespace Go.AI
theorem fL {S E:Type} {step:S→Option (S⊕E)} {s s':S} (h:step s=some (.inl s')):Loop step s=Loop step s':=by rw [Af,h];rfl
theorem mA {S E:Type} {step:S→Option (S⊕E)} {s:S} {e:E} (h:step s=some (.inr e)):Loop step s=some e:=by rw [Af,h];rfl
theorem aI {S E:Type} {step:S→Option (S⊕E)} (F:Nat→S) (n:Nat) {e:E} (hs: ∀k,k<n→step (F k)=some (.inl (F (k+1)))) (he:step (F n)=some (.inr e)):Loop step (F 0)=some e:=by
 have key: ∀m k,k+m=n→Loop step (F k)=some e:=by
  intro m
  induction m with
  |zero=>intro k hk;have:k=n:=by omega
         subst this;exact mA he
  |succ m ih=>intro k hk;rw [fL (hs k om)];exact ih (k+1) om
 exact key n 0 om
theorem zD (P:Nat→Bool): ∀n,(∀k,k<n→P k=true)∨ ∃k,k<n∧P k=false∧ ∀j,j<k→P j=true
 |0=> .inl om
 |n+1=>by
  rcases zD P n with h|⟨k,hk,h1,h2⟩
  ·cases hn:P n
   ·exact .inr ⟨n,by omega,hn,h⟩
   ·refine .inl fun k hk=> ?_
    by_cases e:k=n
    ·subst e;exact hn
    ·exact h k om
  ·exact .inr ⟨k,by omega,h1,h2⟩
theorem DT {S E:Type} {step:S→Option (S⊕E)} (F:Nat→S) (n:Nat) (P:Nat→Bool) (x:Nat→E) {e:E} (hs: ∀k,k<n→P k=true→step (F k)=some (.inl (F (k+1))))
 (hx: ∀k,k<n→P k=false→step (F k)=some (.inr (x k))) (he:step (F n)=some (.inr e)):
 ((∀k,k<n→P k=true)∧Loop step (F 0)=some e)∨ ∃k,k<n∧P k=false∧(∀j,j<k→P j=true)∧Loop step (F 0)=some (x k):=by
 rcases zD P n with h|⟨k,hk,h1,h2⟩
 ·exact .inl ⟨h,aI F n (fun k hk=>hs k hk (h k hk)) he⟩
 ·exact .inr ⟨k,hk,h1,h2,aI F k (fun j hj=>hs j om (h2 j hj)) (hx k hk h1)⟩
theorem tc {S E:Type} {step:S→Option (S⊕E)} (Inv:S→Prop) (me:S→Nat) (Post:E→Prop)
 (hs: ∀s,Inv s→(∃s',step s=some (.inl s')∧Inv s'∧me s'<me s)∨(∃e,step s=some (.inr e)∧Post e)):
 ∀s,Inv s→ ∃e,Loop step s=some e∧Post e:=by
 intro s
 generalize hm:me s=m
 induction m using Nat.strongRecOn generalizing s with
 |_ m ih=>
  intro hi
  rw [Af]
  rcases hs s hi with ⟨s',h1,h2,h3⟩|⟨e,h1,h2⟩
  ·rw [h1];exact ih (me s') om s' rfl h2
  ·rw [h1];exact ⟨e,rfl,h2⟩
theorem tG {α:Type} {c:Bool} {x y:α} (h:c=true):br c x y=x:=by subst h;rfl
theorem C3 {α:Type} {c:Bool} {x y:α} (h:c=false):br c x y=y:=by subst h;rfl
theorem brd {α:Type} {p:Prop} [Decidable p] {x y:α} (h:p):br (decide p) x y=x:=tG (decide_eq_true h)
theorem brn {α:Type} {p:Prop} [Decidable p] {x y:α} (h: ¬p):br (decide p) x y=y:=C3 (decide_eq_false h)
theorem qA {α:Type} {p q:Prop} [Decidable p] [Decidable q] {x y:α} (h:p) (g:q):br (decide p&&decide q) x y=x:=tG (by simp [h,g])
theorem bre {α:Type} {a b:Int} {x y:α} (h:a=b):br (a==b) x y=x:=tG (by simp [h])
theorem Vn {α:Type} {a b:Int} {x y:α} (h:a≠b):br (a==b) x y=y:=C3 (by simp [h])
theorem brb {α:Type} {a b:Int} {x y:α} (h:a≠b):br (a !=b) x y=x:=tG (by simp [h])
theorem i6 {α:Type} {a b:Int} {x y:α} (h:a=b):br (a !=b) x y=y:=C3 (by simp [h])
theorem AT {α:Type} {p:Prop} [Decidable p] {x y:α} (h:p):br (!decide p) x y=y:=C3 (by simp [h])
theorem Ad {α:Type} {p:Prop} [Decidable p] {x y:α} (h: ¬p):br (!decide p) x y=x:=tG (by simp [h])
theorem e5 (a b:Int) (h:0≤a):a.tmod b=a%b:=Int.tmod_eq_emod_of_nonneg h
theorem jQ (a b:Int) (h:0≤a):a.tdiv b=a/b:=Int.tdiv_eq_ediv_of_nonneg h
theorem Gp {n b:Nat} (h:n*b≤1099511627776):dC n b=true:=by simp [dC,aM,h]
theorem bL {α:Type} {n b:Nat} {x y:α} (h:n*b≤1099511627776):br (dC n b) x y=x:=tG (Gp h)
theorem Ph {l c:Int} {b:Nat} (h0:0≤l) (h1:l≤c) (h2:c*b≤1099511627776):vt l c b=true:=by simp [vt,aM,h0,h1,h2]
theorem R4 {α:Type} {l c:Int} {b:Nat} {x y:α} (h0:0≤l) (h1:l≤c) (h2:c*b≤1099511627776):br (vt l c b) x y=x:=tG (Ph h0 h1 h2)
theorem q8 {α:Type} {l:List α} {i:Int} (h0:0≤i) {x:α} (h:l[i.toNat]? =some x):atL l i=some x:=by simp [atL,h0,h]
theorem fW {α:Type} {l:List α} {k:Nat} (h:k<l.length):atL l (k:Int)=some l[k]:=by simp [atL,h]
theorem cC {β:Type} {l:List Int} {i:Nat} {f:Int→Option β} (h:i<l.length):(l[i]?).bind f=f (l.getD i 0):=by simp [h]
theorem Nf {α:Type} {l:List α} {i:Nat} (h:i<l.length):l[i]? =some l[i]:=List.getElem?_eq_getElem h
theorem il {α:Type} {l:List α} {i:Nat} (h:i<l.length): ∃x r,l.drop i=x::r∧l.drop (i+1)=r∧l[i]? =some x:=
 ⟨l[i],l.drop (i+1),List.drop_eq_getElem_cons h,rfl,by simp [h]⟩
theorem vv {α:Type} {l:List α} {a b:Int} (h0:0≤a) (h1:a≤b) (h2:b≤l.length):ox l a b=some ((l.drop a.toNat).take (b.toNat-a.toNat)):=by
 simp [ox,h0,h1,h2,List.drop_take]
theorem ip {α:Type} {l:List α} {k:Nat} (h:k<l.length):l.take (k+1)=l.take k++[l[k]]:=by rw [List.take_succ_eq_append_getElem h]
theorem ib (k:Nat):((k+1:Nat):Int)=(k:Int)+1:=by omega
theorem fy (n:Nat):(nZ n).length=n:=by simp [nZ]
def iU {α:Type} (f:Nat→α→α):Nat→α→α
 |0,l=>l
 |k+1,l=>f k (iU f k l)
theorem ji {f:Nat→List Int→List Int} (hf: ∀k l,(f k l).length=l.length): ∀(k:Nat) (l:List Int),(iU f k l).length=l.length
 |0,l=>rfl
 |k+1,l=>by rw [iU,hf,ji hf k l]
end Go.AI
set_option linter.unusedVariables false
set_option linter.unusedSimpArgs false
namespace Go.AI.Fn
def okF (a:Int):Prop:=0≤a∧a≤2130706432
def okE (x:Ext):Prop:=okF x.A∧okF x.B
def rP (a:Int):Bool:=decide (0≤a)&&decide (a≤2130706432)
def sQ (x:Ext):Bool:=rP x.A&&rP x.B
theorem wo {a:Int}:rP a=true↔okF a:=by simp [rP,okF]
theorem DN {x:Ext}:sQ x=true↔okE x:=by simp [sQ,okE,wo]
def eA (x y:Ext):Ext:=⟨(x.A+y.A)%2130706433,(x.B+y.B)%2130706433⟩
def eS (x y:Ext):Ext:=⟨(x.A-y.A)%2130706433,(x.B-y.B)%2130706433⟩
def eM (x y:Ext):Ext:=⟨(x.A*y.A+3*(x.B*y.B))%2130706433,(x.A*y.B+x.B*y.A)%2130706433⟩
def e0:Ext:=⟨0,0⟩
def e1:Ext:=⟨1,0⟩
def eN (n:Int):Ext:=⟨n,0⟩
theorem W1:okF 0:=⟨by decide,by decide⟩
theorem nb (a:Int):okF (a%2130706433):=⟨by omega,by omega⟩
theorem Ul (x y:Ext):okE (eA x y):=⟨nb _,nb _⟩
theorem QX (x y:Ext):okE (eS x y):=⟨nb _,nb _⟩
theorem Vi (x y:Ext):okE (eM x y):=⟨nb _,nb _⟩
theorem VM:okE e0:=⟨⟨by decide,by decide⟩,⟨by decide,by decide⟩⟩
theorem VP {n:Int} (h:okF n):okE (eN n):=⟨h,W1⟩
theorem AU (n a b:Int):ot n a b=some (decide (a≤n)&&decide (n≤b)):=by
 unfold ot;cases decide (a≤n)<;>rfl
theorem nJ (a:Int):ir a=some (rP a):=by
 unfold ir;rw [AU];rfl
theorem El (x:Ext):sR x=some (sQ x):=by
 unfold sR sQ;rw [nJ,nJ];cases rP x.A<;>rfl
theorem Ao (n a b:Int):dg n a b=some (decide (a≤n)&&decide (n≤b)):=by
 unfold dg;cases decide (a≤n)<;>rfl
theorem nk (a:Int):gu a=some (rP a):=by
 unfold gu;rw [Ao];rfl
theorem Fe (x:Ext):pU x=some (sQ x):=by
 unfold pU sQ;rw [nk,nk];cases rP x.A<;>rfl
end Go.AI.Fn
set_option linter.unusedVariables false
set_option linter.unusedSimpArgs false
namespace Go.AI.Fn
end Go.AI.Fn
set_option linter.unusedVariables false
namespace Go.AI.Fn
structure Src (B:Int) (m:jp):Prop where
 at0:0≤m.at_
 at1:m.at_≤B
 sd0:0≤m.seed
 sd1:m.seed<2147483648
 len:m.code.length≤1048600
end Go.AI.Fn
set_option linter.unusedVariables false
namespace Go.AI.Fn
end Go.AI.Fn
set_option linter.unusedVariables false
set_option linter.unusedSimpArgs false
namespace Go.AI.Fn
theorem G4 {α:Type} {p:α→Bool} {l:List α} {k:Nat} (hk:k<l.length) (h:p l[k]=true):l.any p=true:=List.any_eq_true.2 ⟨l[k],List.getElem_mem hk,h⟩
theorem QQ {α:Type} {p:α→Bool} {l:List α} (h: ∀k (hk:k<l.length),p l[k]=false):l.any p=false:=by
 rw [List.any_eq_false]
 intro x hx
 obtain ⟨k,hk,rfl⟩:=List.getElem_of_mem hx
 simp [h k hk]
theorem tx {α:Type} {p:α→Bool} {f:α→Option Bool} {l:List α} (hl:l.length≤1099511627776) (hf: ∀x∈l,f x=some (p x)) {step:Int→Option (Int⊕(Int⊕(Int×Bool)))}
 (hs: ∀t,step t=br (decide (t<((l.length:Nat):Int))) ((atL l t).bind fun x=>(f x).bind fun r=>br r (some (.inr (.inl t))) (some (.inl (IntKind.wrap .i64 (t+1))))) (some (.inr (.inr (t,decide (t<((l.length:Nat):Int))))))):
 ((Loop step 0).bind (alt (fun e=>some e) (fun _=>some (-1)))).bind (fun r=>some (decide (r≥0)))=some (l.any p):=by
 have key:=DT (step:=step) (fun k=>(k:Int)) l.length (fun k=> !((l[k]?.map p).getD false)) (fun k=> .inl (k:Int)) (e:= .inr ((l.length:Int),false)) (fun k hk hp=>by
  have hb:p l[k]=false:=by simpa [hk] using hp
  rw [hs,brd om,fW hk,obs,hf _ (List.getElem_mem hk),obs,hb,aH,ah _ om om];rfl)
  (fun k hk hp=>by
   have hb:p l[k]=true:=by simpa [hk] using hp
   rw [hs,brd om,fW hk,obs,hf _ (List.getElem_mem hk),obs,hb,bK])
  (by rw [hs,brn om,decide_eq_false om])
 rcases key with ⟨h1,h2⟩|⟨k,hk,h1,_,h2⟩
 ·have e:Loop step 0=some (.inr ((l.length:Int),false)):=h2
  rw [e,QQ (fun k hk=>by simpa [hk] using h1 k hk)];rfl
 ·have e:Loop step 0=some (.inl (k:Int)):=h2
  rw [e,G4 hk (by simpa [hk] using h1)]
  simp only [obs,tp]
  rw [decide_eq_true om]
theorem Gj {α:Type} {p:α→Bool} {f:α→Option Bool} {l:List α} (hl:l.length≤1099511627776) (hf: ∀x∈l,f x=some (p x)) {step:Int→Option (Int⊕(Unit⊕(Int×Bool)))}
 (hs: ∀t,step t=br (decide (t<((l.length:Nat):Int))) ((atL l t).bind fun x=>(f x).bind fun r=>br (!r) (some (.inr (.inl ()))) (some (.inl (IntKind.wrap .i64 (t+1))))) (some (.inr (.inr (t,decide (t<((l.length:Nat):Int))))))):
 (Loop step 0).bind (alt (fun _=>some false) (fun _=>some true))=some (l.all p):=by
 have key:=DT (step:=step) (fun k=>(k:Int)) l.length (fun k=>((l[k]?.map p).getD false)) (fun k=> .inl ()) (e:= .inr ((l.length:Int),false)) (fun k hk hp=>by
  have hb:p l[k]=true:=by simpa [hk] using hp
  rw [hs,brd om,fW hk,obs,hf _ (List.getElem_mem hk),obs,hb,Bool.not_true,aH,ah _ om om];rfl)
  (fun k hk hp=>by
   have hb:p l[k]=false:=by simpa [hk] using hp
   rw [hs,brd om,fW hk,obs,hf _ (List.getElem_mem hk),obs,hb,Bool.not_false,bK])
  (by rw [hs,brn om,decide_eq_false om])
 rcases key with ⟨h1,h2⟩|⟨k,hk,h1,_,h2⟩
 ·have e:Loop step 0=some (.inr ((l.length:Int),false)):=h2
  have ha:l.all p=true:=List.all_eq_true.2 fun x hx=>by
   obtain ⟨k,hk,rfl⟩:=List.getElem_of_mem hx
   simpa [hk] using h1 k hk
  rw [e,ha];rfl
 ·have e:Loop step 0=some (.inl ()):=h2
  have ha:l.all p=false:=by
   rw [List.all_eq_false]
   exact ⟨l[k],List.getElem_mem hk,by simpa [hk] using h1⟩
  rw [e,ha];rfl
theorem uy {α:Type} (p:α→Bool) (l:List α):(!l.any fun x=> !p x)=l.all p:=by
 induction l with
 |nil=>rfl
 |cons x l ih=>simp only [List.any_cons,List.all_cons, ←ih];cases p x<;>simp
theorem Ih {l:List Int} (hl:l.length≤1099511627776):dt l=some (l.all rP):=by
 unfold dt aG aL
 rw [tx (step:=aF l ((l.length:Nat):Int)) (p:=fun x=> !rP x) (f:=cE) hl (fun x _=>by unfold cE;rw [nJ];rfl) (fun t=>rfl),obs,uy]
theorem Ia {l:List Ext} (hl:l.length≤1099511627776):du l=some (l.all sQ):=by
 unfold du aB aE
 rw [tx (step:=aw l ((l.length:Nat):Int)) (p:=fun x=> !sQ x) (f:=cD) hl (fun x _=>by unfold cD;rw [El];rfl) (fun t=>rfl),obs,uy]
theorem FU {l:List Ext} (hl:l.length≤1099511627776):lU l=some (l.all sQ):=by
 unfold lU
 exact Gj (f:=pU) hl (fun x _=>Fe x) (fun t=>rfl)
theorem BO {l:List Int} (hl:l.length≤1099511627776):iY l=some (l.all rP):=by
 unfold iY
 exact Gj (f:=gu) hl (fun x _=>nk x) (fun t=>rfl)
def pa (l:List Ext):Prop:= ∀x∈l,okE x
def OV (l:List Int):Prop:= ∀x∈l,okF x
theorem We {l:List Ext}:l.all sQ=true↔pa l:=by
 rw [List.all_eq_true];exact ⟨fun h x hx=>DN.1 (h x hx),fun h x hx=>DN.2 (h x hx)⟩
theorem Wb {l:List Int}:l.all rP=true↔OV l:=by
 rw [List.all_eq_true];exact ⟨fun h x hx=>wo.1 (h x hx),fun h x hx=>wo.2 (h x hx)⟩
theorem pa.get {l:List Ext} (h:pa l) {k:Nat} (hk:k<l.length):okE l[k]:=h _ (List.getElem_mem hk)
theorem OV.get {l:List Int} (h:OV l) {k:Nat} (hk:k<l.length):okF l[k]:=h _ (List.getElem_mem hk)
theorem pa.nil:pa []:=fun x hx=>by cases hx
theorem pa.map {α:Type} {f:α→Ext} (l:List α) (h: ∀x∈l,okE (f x)):pa (l.map f):=fun y hy=>by obtain ⟨x,hx,rfl⟩:=List.mem_map.1 hy;exact h x hx
theorem pa.take {l:List Ext} (h:pa l) (k:Nat):pa (l.take k):=fun x hx=>h x (List.mem_of_mem_take hx)
theorem pa.drop {l:List Ext} (h:pa l) (k:Nat):pa (l.drop k):=fun x hx=>h x (List.mem_of_mem_drop hx)
theorem pa.getD {l:List Ext} (h:pa l) (k:Nat):okE (l.getD k e0):=by
 by_cases hk:k<l.length
 ·simp [hk];exact h.get hk
 ·simp [List.getElem?_eq_none (Nat.le_of_not_lt hk)];exact VM
end Go.AI.Fn
set_option linter.unusedVariables false
set_option linter.unusedSimpArgs false
namespace Go.AI.Fn
abbrev K:={x:Ext//okE x}
def K.n (i:Int):K:=⟨eN (i%2130706433),VP (nb _)⟩
instance Vf:Add K:=⟨fun a b=>⟨eA a.1 b.1,Ul _ _⟩⟩
instance UZ:Mul K:=⟨fun a b=>⟨eM a.1 b.1,Vi _ _⟩⟩
instance VH:Sub K:=⟨fun a b=>⟨eS a.1 b.1,QX _ _⟩⟩
instance Vt:Neg K:=⟨fun a=>⟨eS e0 a.1,QX _ _⟩⟩
instance NF:NatCast K:=⟨fun n=>K.n n⟩
instance Ow:IntCast K:=⟨fun n=>K.n n⟩
instance TM (n:Nat):OfNat K n:=⟨K.n n⟩
def K.pow (a:K):Nat→K
 |0=>K.n 1
 |n+1=>K.pow a n*a
instance Uj:HPow K Nat K:=⟨K.pow⟩
instance Oj:NeZero 2130706433:=⟨by decide⟩
abbrev FP:=Fin 2130706433
def K.a (x:K):FP:=⟨x.1.A.toNat,by have h:=x.2.1;unfold okF at h;omega⟩
def K.b (x:K):FP:=⟨x.1.B.toNat,by have h:=x.2.2;unfold okF at h;omega⟩
end Go.AI.Fn
set_option linter.unusedVariables false
set_option linter.unusedSimpArgs false
namespace Go.AI.Fn
def cb (r:K) (a b:List K):List K:=List.zipWith (fun x y=>x+r*y) a b
end Go.AI.Fn
set_option linter.unusedVariables false
set_option linter.unusedSimpArgs false
namespace Go.AI.Fn
def fdK (r:K):List K→List K
 |a::b::l=>(a+r*(b-a))::fdK r l
 |_=>[]
theorem GG (r:K): ∀(l:List K) (m:Nat),l.length=2*m→(fdK r l).length=m
 |[],m,h=>by simp at h;simp [fdK];omega
 |[a],m,h=>by simp at h;omega
 |a::b::l,0,h=>by simp at h
 |a::b::l,m+1,h=>by simp only [fdK,List.length_cons];rw [GG r l m (by simp only [List.length_cons] at h;omega)]
def bdK (r:K) (T:List (List K)):List (List K):=T.map (fdK r)
theorem OK (r:K) (T:List (List K)) (i:Nat):(bdK r T).getD i []=fdK r (T.getD i []):=by
 by_cases h:i<T.length
 ·simp [bdK,h]
 ·simp [bdK,h,fdK]
end Go.AI.Fn
set_option linter.unusedVariables false
set_option linter.unusedSimpArgs false
namespace Go.AI.Fn
theorem Jd {α:Type} {a:List α} {n k:Nat} {z x:α} (hk:k<n) (ha:a.length=k):(a++List.replicate (n-k) z).set k x=(a++[x])++List.replicate (n-(k+1)) z:=by
 subst ha
 have e:n-a.length=(n-(a.length+1))+1:=by omega
 rw [e,List.replicate_succ]
 simp
theorem Li {α β:Type} {f:α→Option β} {g:α→β} {a:List α} {z:β} (hl:a.length≤1099511627776) (hf: ∀x∈a,f x=some (g x)) {step:List β×Int→Option ((List β×Int)⊕(List β×Int×Bool))}
 (hs: ∀l i,step (l,i)=br (decide (i<((a.length:Nat):Int))) ((atL a i).bind fun x=>(f x).bind fun r=>br (decide (0≤i)) (br (decide (i.toNat<l.length)) ((l[i.toNat]?).bind fun _=>some (.inl (l.set i.toNat r,IntKind.wrap .i64 (i+1)))) none) none) (some (.inr (l,i,decide (i<((a.length:Nat):Int)))))) {n:Nat} (hn:a.length≤n):
 Loop step (List.replicate n z,0)=some (a.map g++List.replicate (n-a.length) z,(a.length:Int),false):=by
 have key:=aI (step:=step) (fun k=>((a.take k).map g++List.replicate (n-k) z,(k:Int))) a.length (e:=(a.map g++List.replicate (n-a.length) z,(a.length:Int),false)) (fun k hk=>by
  have hlen:((a.take k).map g++List.replicate (n-k) z).length=n:=by simp;omega
  rw [hs,brd om,fW hk,obs,hf _ (List.getElem_mem hk),obs,brd om,brd om,Int.toNat_natCast,Nf om,obs,Jd om (by simp;omega),ah _ om om,ip hk,List.map_append]
  rfl) (by
  rw [hs,brn om,decide_eq_false om,List.take_length])
 simpa using key
theorem JC {α:Type} {f:α→α→Option Bool} {a:List α} (hl:a.length≤1099511627776) (hf: ∀x∈a,f x x=some true) {step:Int→Option (Int⊕(Unit⊕(Int×Bool)))}
 (hs: ∀t,step t=br (decide (t<((a.length:Nat):Int))) ((atL a t).bind fun x=>(atL a t).bind fun y=>(f x y).bind fun r=>br (!r) (some (.inr (.inl ()))) (some (.inl (IntKind.wrap .i64 (t+1))))) (some (.inr (.inr (t,decide (t<((a.length:Nat):Int))))))):
 (Loop step 0).bind (alt (fun _=>some false) (fun _=>some true))=some true:=by
 have key:Loop step 0=some (.inr ((a.length:Int),false)):=aI (step:=step) (fun k=>(k:Int)) a.length (fun k hk=>by
  rw [hs,brd om,fW hk,obs,obs,hf _ (List.getElem_mem hk),obs,Bool.not_true,aH,ah _ om om];rfl)
  (by rw [hs,brn om,decide_eq_false om])
 rw [key];rfl
theorem BB (x:Ext):q9 x x=some true:=by unfold q9;rw [i6 rfl,i6 rfl]
theorem CO {a:List Ext} (h:a.length≤1048576):pF a=some a:=by
 unfold pF
 rw [R4 om om om,Int.toNat_natCast,Li (step:=jO a) (f:=vE) (g:=fun x=>x) om (fun x _=>rfl) (fun l i=>rfl) (Nat.le_refl _)]
 simp
theorem CG {a:List Int} (h:a.length≤1048576):iX a=some a:=by
 unfold iX
 rw [R4 om om om,Int.toNat_natCast,Li (step:=jK a) (f:=fun x=>some x) (g:=fun x=>x) om (fun x _=>rfl) (fun l i=>rfl) (Nat.le_refl _)]
 simp
theorem z4 {a:List Ext} (h:a.length≤1048576):pt a a=some true:=by
 unfold pt
 rw [i6 rfl]
 exact JC (f:=q9) om (fun x _=>BB x) (fun t=>rfl)
theorem y5 {a:List Int} (h:a.length≤1048576):oK a a=some true:=by
 unfold oK
 rw [i6 rfl]
 refine JC (a:=a) (f:=fun x y=>some (x==y)) om (fun x _=>by simp) (fun t=> ?_)
 simp only [ka]
 rfl
theorem Cj {a:List Ext} {left:Int} (ha:a.length≤9223372036854775807) (h0: -1≤left) (h1:left≤1048576): ∃r,px a left=some r∧ -1≤r∧r≤1048576∧(0≤r→a.length≤1048576):=by
 unfold px
 rw [ah _ om om]
 by_cases h:left-(a.length:Int)<0
 ·rw [brd h];exact ⟨_,rfl,by omega,by omega,by omega⟩
 ·rw [brn h];exact ⟨_,rfl,by omega,by omega,by omega⟩
end Go.AI.Fn
set_option linter.unusedVariables false
namespace Go.AI.Fn
theorem Lg (x y:Int):dp x y=some (if x<y then-1 else if x>y then 1 else 0):=by
 unfold dp fJ
 simp only [obs,bne_self_eq_false,aH]
 by_cases h:x<y
 ·rw [brd h,if_pos h]
 ·rw [brn h,if_neg h]
  by_cases h2:x>y
  ·rw [brd h2,if_pos h2]
  ·rw [brn h2,if_neg h2]
theorem CY (a b:Int):bU 0 [a,b] (([a,b].length:Nat):Int) 0=br (a !=0) (some (.inr (.inl a))) (some (.inl 1)):=by
 simp only [bU]
 rw [brd (by simp),show atL [a,b] 0=some a by simp [atL],show IntKind.wrap .i64 (0+1)=1 by decide];rfl
theorem D4 (a b:Int):bU 0 [a,b] (([a,b].length:Nat):Int) 1=br (b !=0) (some (.inr (.inl b))) (some (.inl 2)):=by
 simp only [bU]
 rw [brd (by simp),show atL [a,b] 1=some b by simp [atL],show IntKind.wrap .i64 (1+1)=2 by decide];rfl
theorem Mn (a b:Int):bU 0 [a,b] (([a,b].length:Nat):Int) 2=some (.inr (.inr (2,false))):=by
 simp only [bU]
 rw [brn (by simp)];simp
theorem VV (a b:Int):kR [a,b]=some (if a=0 then b else a):=by
 unfold kR
 by_cases ha:a=0
 ·rw [fL (s':=1) (by rw [CY,i6 ha]),if_pos ha]
  by_cases hb:b=0
  ·rw [fL (s':=2) (by rw [D4,i6 hb]),mA (Mn a b),hb];rfl
  ·rw [mA (e:= .inl b) (by rw [D4,brb hb])];rfl
 ·rw [mA (e:= .inl a) (by rw [CY,brb ha]),if_neg ha];rfl
def ltE (y x:Entry):Prop:=y.Row<x.Row∨(y.Row=x.Row∧y.Col<x.Col)
theorem Me (y x:Entry): ∃c,fM y x=some c∧(c≥0↔ ¬ltE y x):=by
 unfold fM
 rw [Lg,Lg]
 simp only [obs,VV]
 refine ⟨_,rfl, ?_⟩
 unfold ltE
 by_cases h1:y.Row<x.Row
 ·simp [h1]
 ·by_cases h2:y.Row>x.Row
  ·simp [h1,h2];omega
  ·have h3:y.Row=x.Row:=by omega
   by_cases h4:y.Col<x.Col
   ·simp [h3,h4]
   ·by_cases h5:y.Col>x.Col
    ·simp [h3,h4,h5]
    ·simp [h3,h4,h5]
def inE (R C:Int) (x:Entry):Prop:=(0≤x.Row∧x.Row≤R-1)∧(0≤x.Col∧x.Col≤C-1)∧1≤x.Value∧x.Value≤2130706432
def s9 (l:List Entry) (R C:Int) (t:Nat):Prop:= ∃x,l[t]? =some x∧(¬inE R C x∨(0<t∧ ∃y,l[t-1]? =some y∧ ¬ltE y x))
open Classical in
noncomputable def pk (l:List Entry) (R C:Int):Bool:=decide (l.length≤200∧ ∀t, ¬s9 l R C t)
open Classical in
theorem MB {l:List Entry} {R C:Int} (h:l.length≤200) (g: ∀t, ¬s9 l R C t):pk l R C=true:=by unfold pk;exact decide_eq_true ⟨h,g⟩
open Classical in
theorem AJ {l:List Entry} {R C:Int} (h:l.length≤200→ ¬ ∀t, ¬s9 l R C t):pk l R C=false:=by unfold pk;exact decide_eq_false fun g=>h g.1 g.2
open Classical in
theorem wB {l:List Entry} {R C:Int} (h:pk l R C=true):l.length≤200:=by unfold pk at h;exact (of_decide_eq_true h).1
theorem Mm (n a b:Int):ot n a b=some (decide (a≤n∧n≤b)):=by
 unfold ot
 by_cases h:a≤n
 ·rw [brd h];simp [h]
 ·rw [brn h];simp [h]
theorem K4 (n a b:Int):dg n a b=some (decide (a≤n∧n≤b)):=by
 unfold dg
 by_cases h:a≤n
 ·rw [brd h];simp [h]
 ·rw [brn h];simp [h]
theorem pw {l:List Entry} {R C:Int} (hl:l.length≤1099511627776) (hR:1≤R∧R≤4096) (hC:1≤C∧C≤4096):ga l R C=some (pk l R C):=by
 unfold ga
 have key:=tc (step:=eZ l R C l ((l.length:Nat):Int)) (fun t=>0≤t∧t≤l.length∧ ∀k:Nat,(k:Int)<t→ ¬s9 l R C k) (fun t=>(l.length-t).toNat)
  (fun e=>(∃x,e= .inl x∧ ∃k,s9 l R C k)∨(∃x,e= .inr x∧ ∀k, ¬s9 l R C k)) ?_ 0 ⟨by omega,by omega,by omega⟩
 ·obtain ⟨e,he,⟨x,rfl,k,hk⟩|⟨x,rfl,hk⟩⟩:=key
  ·rw [he]
   simp only [obs,tp]
   rw [AJ fun _ h=>h k hk]
  ·rw [he]
   simp only [obs,vC]
   by_cases h:l.length≤200
   ·rw [decide_eq_true om,MB h hk]
   ·rw [decide_eq_false om,AJ fun g=>absurd g h]
 ·intro t ⟨h0,h1,h2⟩
  simp only [eZ]
  by_cases c:t<(l.length:Int)
  ·obtain ⟨x,r,e1,e2,e3⟩:=il (l:=l) (i:=t.toNat) om
   have next: ¬s9 l R C t.toNat→(fun t:Int=>0≤t∧t≤l.length∧ ∀k:Nat,(k:Int)<t→ ¬s9 l R C k) (t+1):=by
    intro hn
    refine ⟨by omega,by omega,fun k hk=> ?_⟩
    by_cases e:k=t.toNat
    ·subst e;exact hn
    ·exact h2 k om
   rw [brd c,q8 h0 e3]
   simp only [obs,Mm]
   rw [ah (R-1) om om,ah (C-1) om om,ah (t+1) om om]
   by_cases i1:0≤x.Row∧x.Row≤R-1
   ·rw [AT i1]
    by_cases i2:0≤x.Col∧x.Col≤C-1
    ·rw [AT i2]
     by_cases i3:1≤x.Value∧x.Value≤2130706432
     ·rw [AT i3]
      by_cases c3:t>0
      ·rw [brd c3,ah (t-1) om om]
       obtain ⟨y,r2,f1,f2,f3⟩:=il (l:=l) (i:=(t-1).toNat) om
       rw [q8 om f3]
       simp only [obs]
       obtain ⟨d,hd,hd2⟩:=Me y x
       rw [hd]
       simp only [obs]
       rw [show (t-1).toNat=t.toNat-1 by omega] at f3
       by_cases c4:d≥0
       ·rw [brd c4]
        exact .inr ⟨_,rfl,.inl ⟨_,rfl,t.toNat,x,e3,.inr ⟨by omega,y,f3,hd2.1 c4⟩⟩⟩
       ·rw [brn c4]
        refine .inl ⟨_,rfl,next ?_,by omega⟩
        rintro ⟨x',g1,g|⟨_,y',g2,g3⟩⟩
        ·rw [e3] at g1;cases g1;exact g ⟨i1,i2,i3⟩
        ·rw [e3] at g1;cases g1;rw [f3] at g2;cases g2;exact c4 (hd2.2 g3)
      ·rw [brn c3]
       refine .inl ⟨_,rfl,next ?_,by omega⟩
       rintro ⟨x',g1,g|⟨g0,_⟩⟩
       ·rw [e3] at g1;cases g1;exact g ⟨i1,i2,i3⟩
       ·omega
     ·rw [Ad i3]
      exact .inr ⟨_,rfl,.inl ⟨_,rfl,t.toNat,x,e3,.inl fun g=>i3 g.2.2⟩⟩
    ·rw [Ad i2]
     exact .inr ⟨_,rfl,.inl ⟨_,rfl,t.toNat,x,e3,.inl fun g=>i2 g.2.1⟩⟩
   ·rw [Ad i1]
    exact .inr ⟨_,rfl,.inl ⟨_,rfl,t.toNat,x,e3,.inl fun g=>i1 g.1⟩⟩
  ·rw [brn c]
   refine .inr ⟨_,rfl,.inr ⟨_,rfl,fun k hk=> ?_⟩⟩
   have hkl:k<l.length:=by
    obtain ⟨x,hx,_⟩:=hk
    obtain ⟨h,_⟩:=List.getElem?_eq_some_iff.1 hx
    exact h
   exact h2 k om hk
theorem Bo {l:List Entry} {r c:Int} (hr:0≤r∧r≤5) (hc:0≤c∧c≤5) {R C:Int} (hR:bf .i64 1 r=R) (hC:bf .i64 1 c=C) (hR':1≤R∧R≤4096) (hC':1≤C∧C≤4096):i8 l r c=some (pk l R C):=by
 unfold i8
 by_cases hl:(l.length:Int)>200
 ·rw [brd hl]
  rw [AJ om]
 rw [brn hl]
 have key:=tc (step:=fO l r c) (fun t=>0≤t∧t≤l.length∧ ∀k:Nat,(k:Int)<t→ ¬s9 l R C k) (fun t=>(l.length-t).toNat)
  (fun e=>(∃x,e= .inl x∧ ∃k,s9 l R C k)∨(∃x,e= .inr x∧ ∀k, ¬s9 l R C k)) ?_ 0 ⟨by omega,by omega,by omega⟩
 ·obtain ⟨e,he,⟨x,rfl,k,hk⟩|⟨x,rfl,hk⟩⟩:=key
  ·rw [he]
   simp only [obs,tp]
   rw [AJ fun _ h=>h k hk]
  ·rw [he]
   simp only [obs,vC]
   rw [MB om hk]
 ·intro t ⟨h0,h1,h2⟩
  simp only [fO]
  rw [eo r om om,eo c om om,hR,hC]
  by_cases ct:t<(l.length:Int)
  ·obtain ⟨x,rest,e1,e2,e3⟩:=il (l:=l) (i:=t.toNat) om
   have next: ¬s9 l R C t.toNat→(fun t:Int=>0≤t∧t≤l.length∧ ∀k:Nat,(k:Int)<t→ ¬s9 l R C k) (t+1):=by
    intro hn
    refine ⟨by omega,by omega,fun k hk=> ?_⟩
    by_cases e:k=t.toNat
    ·subst e;exact hn
    ·exact h2 k om
   rw [brd ct,q8 h0 e3]
   simp only [obs,K4]
   rw [brd hr.1]
   rw [ah (R-1) om om,ah (C-1) om om,ah (t+1) om om]
   by_cases i1:0≤x.Row∧x.Row≤R-1
   ·rw [AT i1,brd hc.1]
    by_cases i2:0≤x.Col∧x.Col≤C-1
    ·rw [AT i2]
     by_cases i3:1≤x.Value∧x.Value≤2130706432
     ·rw [AT i3]
      by_cases c3:t>0
      ·rw [brd c3,ah (t-1) om om]
       obtain ⟨y,r2,f1,f2,f3⟩:=il (l:=l) (i:=(t-1).toNat) om
       rw [q8 om f3]
       simp only [obs]
       rw [show (t-1).toNat=t.toNat-1 by omega] at f3
       have good:ltE y x→ ¬s9 l R C t.toNat:=by
        rintro hlt ⟨x',g1,g|⟨_,y',g2,g3⟩⟩
        ·rw [e3] at g1;cases g1;exact g ⟨i1,i2,i3⟩
        ·rw [e3] at g1;cases g1;rw [f3] at g2;cases g2;exact g3 hlt
       have bad: ¬ltE y x→s9 l R C t.toNat:=fun h=>⟨x,e3,.inr ⟨by omega,y,f3,h⟩⟩
       by_cases c4:y.Row>x.Row
       ·rw [brd c4]
        exact .inr ⟨_,rfl,.inl ⟨_,rfl,_,bad (by unfold ltE;omega)⟩⟩
       ·rw [brn c4]
        by_cases c5:y.Row=x.Row
        ·rw [bre c5]
         by_cases c6:y.Col≥x.Col
         ·rw [brd c6]
          exact .inr ⟨_,rfl,.inl ⟨_,rfl,_,bad (by unfold ltE;omega)⟩⟩
         ·rw [brn c6]
          exact .inl ⟨_,rfl,next (good (by unfold ltE;omega)),by omega⟩
        ·rw [Vn c5]
         exact .inl ⟨_,rfl,next (good (by unfold ltE;omega)),by omega⟩
      ·rw [brn c3]
       refine .inl ⟨_,rfl,next ?_,by omega⟩
       rintro ⟨x',g1,g|⟨g0,_⟩⟩
       ·rw [e3] at g1;cases g1;exact g ⟨i1,i2,i3⟩
       ·omega
     ·rw [Ad i3]
      exact .inr ⟨_,rfl,.inl ⟨_,rfl,t.toNat,x,e3,.inl fun g=>i3 g.2.2⟩⟩
    ·rw [Ad i2]
     exact .inr ⟨_,rfl,.inl ⟨_,rfl,t.toNat,x,e3,.inl fun g=>i2 g.2.1⟩⟩
   ·rw [Ad i1]
    exact .inr ⟨_,rfl,.inl ⟨_,rfl,t.toNat,x,e3,.inl fun g=>i1 g.1⟩⟩
  ·rw [brn ct]
   refine .inr ⟨_,rfl,.inr ⟨_,rfl,fun k hk=> ?_⟩⟩
   have hkl:k<l.length:=by
    obtain ⟨x,hx,_⟩:=hk
    obtain ⟨h,_⟩:=List.getElem?_eq_some_iff.1 hx
    exact h
   exact h2 k om hk
end Go.AI.Fn
set_option linter.unusedVariables false
namespace Go.AI.Fn
theorem s6 {k:Int} (h:0≤k∧k≤5):1≤bf .i64 1 k∧bf .i64 1 k≤4096:=by
 have:k=0∨k=1∨k=2∨k=3∨k=4∨k=5:=by omega
 rcases this with rfl|rfl|rfl|rfl|rfl|rfl<;>decide
noncomputable def yr (s:System):Bool:=
 decide (1≤s.Rows∧s.Rows≤5)&&(decide (2≤s.Cols∧s.Cols≤5)&&(decide (0≤s.Publics∧s.Publics≤bf .i64 1 (s.Cols-1)-1)&&
  (pk s.A (bf .i64 1 s.Rows) (bf .i64 1 s.Cols)&&(pk s.B (bf .i64 1 s.Rows) (bf .i64 1 s.Cols)&&pk s.C (bf .i64 1 s.Rows) (bf .i64 1 s.Cols)))))
theorem yA {s:System} (hA:s.A.length≤1099511627776) (hB:s.B.length≤1099511627776) (hC:s.C.length≤1099511627776):kA s=some (yr s):=by
 unfold kA yr
 simp only [Mm,obs]
 by_cases h1:1≤s.Rows∧s.Rows≤5
 ·rw [AT h1]
  by_cases h2:2≤s.Cols∧s.Cols≤5
  ·rw [AT h2]
   have k1:=s6 (k:=s.Rows) om
   have k2:=s6 (k:=s.Cols) om
   have k3:=s6 (k:=s.Cols-1) om
   unfold iV cu
   rw [ah (s.Cols-1) om om,brd om]
   simp only [obs]
   rw [ah (bf .i64 1 (s.Cols-1)-1) om om]
   by_cases h3:0≤s.Publics∧s.Publics≤bf .i64 1 (s.Cols-1)-1
   ·rw [AT h3,brd om,brd om,pw hA k1 k2]
    simp only [obs]
    rw [decide_eq_true h1,decide_eq_true h2,decide_eq_true h3]
    cases pk s.A (bf .i64 1 s.Rows) (bf .i64 1 s.Cols)
    ·rfl
    ·simp only [Bool.not_true,aH]
     rw [brd om,brd om,pw hB k1 k2]
     simp only [obs]
     cases pk s.B (bf .i64 1 s.Rows) (bf .i64 1 s.Cols)
     ·rfl
     ·simp only [Bool.not_true,aH]
      rw [brd om,brd om,pw hC k1 k2]
      simp only [obs]
      cases pk s.C (bf .i64 1 s.Rows) (bf .i64 1 s.Cols)<;>rfl
   ·rw [Ad h3,decide_eq_true h1,decide_eq_true h2,decide_eq_false h3];rfl
  ·rw [Ad h2,decide_eq_true h1,decide_eq_false h2];rfl
 ·rw [Ad h1,decide_eq_false h1];rfl
theorem yO (s:System):kK s=some (yr s):=by
 unfold kK yr
 simp only [K4,obs]
 by_cases h1:1≤s.Rows∧s.Rows≤5
 ·rw [brd h1]
  by_cases h2:2≤s.Cols∧s.Cols≤5
  ·rw [brd h2]
   have k1:=s6 (k:=s.Rows) om
   have k2:=s6 (k:=s.Cols) om
   have k3:=s6 (k:=s.Cols-1) om
   rw [ah (s.Cols-1) om om,eo (s.Cols-1) om om,brd om,ah (bf .i64 1 (s.Cols-1)-1) om om]
   by_cases h3:0≤s.Publics∧s.Publics≤bf .i64 1 (s.Cols-1)-1
   ·rw [brd h3,Bo om om rfl rfl k1 k2,Bo om om rfl rfl k1 k2,Bo om om rfl rfl k1 k2]
    rw [decide_eq_true h1,decide_eq_true h2,decide_eq_true h3]
    cases pk s.A (bf .i64 1 s.Rows) (bf .i64 1 s.Cols)<;>cases pk s.B (bf .i64 1 s.Rows) (bf .i64 1 s.Cols)<;>cases pk s.C (bf .i64 1 s.Rows) (bf .i64 1 s.Cols)<;>rfl
   ·rw [brn h3,decide_eq_true h1,decide_eq_true h2,decide_eq_false h3];rfl
  ·rw [brn h2,decide_eq_true h1,decide_eq_false h2];rfl
 ·rw [brn h1,decide_eq_false h1];rfl
theorem Gh {s:System} (h:yr s=true):(1≤s.Rows∧s.Rows≤5)∧(2≤s.Cols∧s.Cols≤5)∧(0≤s.Publics∧s.Publics≤4096)∧s.A.length≤200∧s.B.length≤200∧s.C.length≤200:=by
 unfold yr at h
 simp only [Bool.and_eq_true,decide_eq_true_eq] at h
 obtain ⟨h1,h2,h3,h4,h5,h6⟩:=h
 have k3:=s6 (k:=s.Cols-1) om
 exact ⟨h1,h2,by omega,wB h4,wB h5,wB h6⟩
def setB (t:Setting):Bool:=decide (1≤t.Rate∧t.Rate≤3)&&(decide (1≤t.Queries∧t.Queries≤8)&&decide (0≤t.Grind∧t.Grind≤12))
theorem wI (t:Setting):j6 t=some (setB t):=by
 unfold j6 setB
 simp only [Mm,obs]
 cases decide (1≤t.Rate∧t.Rate≤3)<;>cases decide (1≤t.Queries∧t.Queries≤8)<;>rfl
theorem xg (t:Setting):j4 t=some (setB t):=by
 unfold j4 setB
 simp only [K4,obs]
 cases decide (1≤t.Rate∧t.Rate≤3)<;>cases decide (1≤t.Queries∧t.Queries≤8)<;>rfl
theorem F9 {a:List Entry} {left:Int} (ha:a.length≤9223372036854775807) (h0: -1≤left) (h1:left≤1048576): ∃r,gc a left=some r∧ -1≤r∧r≤1048576∧(0≤r→a.length≤1048576):=by
 unfold gc
 rw [ah _ om om]
 by_cases c:left-(a.length:Int)<0
 ·rw [brd c];exact ⟨_,rfl,by omega,by omega,by omega⟩
 ·rw [brn c];exact ⟨_,rfl,by omega,by omega,by omega⟩
theorem Rp {s:System} {left:Int} (hA:s.A.length≤9223372036854775807) (hB:s.B.length≤9223372036854775807) (hC:s.C.length≤9223372036854775807) (h0: -1≤left) (h1:left≤1048576):
 ∃r,kZ s left=some r∧ -1≤r∧r≤1048576∧(0≤r→s.A.length≤1048576∧s.B.length≤1048576∧s.C.length≤1048576):=by
 unfold kZ
 obtain ⟨a,ea,a0,a1,a2⟩:=F9 (left:=left) hA om om
 rw [ea]
 simp only [obs]
 by_cases ca:a<0
 ·rw [brd ca];exact ⟨_,rfl,by omega,by omega,by omega⟩
 rw [brn ca]
 obtain ⟨b,eb,b0,b1,b2⟩:=F9 (left:=a) hB a0 a1
 rw [eb]
 simp only [obs]
 by_cases cb:b<0
 ·rw [brd cb];exact ⟨_,rfl,by omega,by omega,by omega⟩
 rw [brn cb]
 obtain ⟨c,ec,c0,c1,c2⟩:=F9 (left:=b) hC b0 b1
 rw [ec]
 simp only [obs]
 by_cases cc:c<0
 ·rw [brd cc];exact ⟨_,rfl,by omega,by omega,by omega⟩
 rw [brn cc]
 exact ⟨_,rfl,by omega,by omega,fun _=>⟨a2 om,b2 om,c2 om⟩⟩
theorem Ea {a:List Entry} (ha:a.length≤1048576):g6 a=some a:=by
 unfold g6
 have hm:vt ((a.length:Nat):Int) ((a.length:Nat):Int) 24=true:=by
  have h24:((a.length:Nat):Int)*((24:Nat):Int)≤((aM:Nat):Int):=by simp only [aM];omega
  unfold vt;rw [decide_eq_true (show (0:Int)≤((a.length:Nat):Int) by omega),decide_eq_true (Int.le_refl _),decide_eq_true h24];rfl
 rw [tG hm]
 have key:=tc (step:=fa a) (fun s=>0≤s.2∧s.2≤a.length∧s.1.length=a.length∧ ∀k:Nat,(k:Int)<s.2→s.1[k]? =a[k]?) (fun s=>(a.length-s.2).toNat)
  (fun e=>e.1=a) ?_ ((List.replicate (((a.length:Nat):Int).toNat) (Entry.mk (0:Int) (0:Int) (0:Int))),(0:Int)) ⟨by simp,by simp,by simp,fun k (hk:(k:Int)<0)=>by omega⟩
 ·obtain ⟨e,he,h⟩:=key
  rw [he];simp only [obs,h]
 ·rintro ⟨l,i⟩ ⟨h0,h1,hl,h2⟩
  dsimp only at h0 h1 hl h2
  simp only [fa]
  by_cases c:i<(a.length:Int)
  ·obtain ⟨x,rest,e1,e2,e3⟩:=il (l:=a) (i:=i.toNat) om
   obtain ⟨y,rest2,f1,f2,f3⟩:=il (l:=l) (i:=i.toNat) om
   rw [brd c,q8 h0 e3]
   simp only [obs,qa]
   rw [brd h0,brd om,f3]
   simp only [obs]
   rw [ah (i+1) om om]
   refine .inl ⟨_,rfl,⟨by dsimp only;omega,by dsimp only;omega,by simp [hl],fun k hk=> ?_⟩,by dsimp only;omega⟩
   dsimp only at hk ⊢
   rw [List.getElem?_set]
   by_cases e:i.toNat=k
   ·rw [if_pos e,if_pos om, ←e,e3]
   ·rw [if_neg e];exact h2 k om
  ·rw [brn c]
   refine .inr ⟨_,rfl, ?_⟩
   apply List.ext_getElem?
   intro k
   show l[k]? =a[k]?
   by_cases hk:k<a.length
   ·exact h2 k om
   ·rw [List.getElem?_eq_none om,List.getElem?_eq_none om]
theorem FW {a:List Entry} (ha:a.length≤1048576):gb a a=some true:=by
 unfold gb
 rw [i6 rfl]
 have key:=tc (step:=eQ a a) (fun t=>0≤t∧t≤a.length) (fun t=>(a.length-t).toNat) (fun e=> ∃p,e= .inr p) ?_ 0 ⟨by omega,by omega⟩
 ·obtain ⟨e,he,p,rfl⟩:=key
  rw [he];rfl
 ·intro t ⟨h0,h1⟩
  simp only [eQ]
  by_cases c:t<(a.length:Int)
  ·left
   obtain ⟨x,r,e1,e2,e3⟩:=il (l:=a) (i:=t.toNat) om
   rw [brd c,q8 h0 e3]
   simp only [obs,pX]
   rw [i6 rfl,i6 rfl,i6 rfl]
   simp only [obs,Bool.not_true,aH]
   rw [ah (t+1) om om]
   exact ⟨_,rfl,⟨by omega,by omega⟩,by omega⟩
  ·right
   rw [brn c]
   exact ⟨_,rfl,_,rfl⟩
theorem Ra {s:System} (hA:s.A.length≤1048576) (hB:s.B.length≤1048576) (hC:s.C.length≤1048576):kz s s=some true:=by
 unfold kz
 rw [i6 rfl,i6 rfl,i6 rfl,FW hA,FW hB,FW hC];rfl
end Go.AI.Fn
set_option linter.unusedVariables false
set_option linter.unusedSimpArgs false
namespace Go.AI.Fn
end Go.AI.Fn
set_option linter.unusedVariables false
namespace Go.AI.Fn
end Go.AI.Fn
set_option linter.unusedVariables false
set_option linter.unusedSimpArgs false
namespace Go.AI.Fn
end Go.AI.Fn
set_option linter.unusedVariables false
set_option linter.unusedSimpArgs false
namespace Go.AI.Fn
structure OkT (kind n:Nat) (T:List (List K)):Prop where
 kd:kind=1∨kind=2
 len:T.length=2*kind
 tab: ∀i,i<T.length→(T.getD i []).length=n
theorem OkT.bd {kind n:Nat} {T:List (List K)} (h:OkT kind (2*n) T) (r:K):OkT kind n (bdK r T):=⟨h.kd,by simp [bdK,h.len],fun i hi=>by
 rw [OK]
 exact GG r _ n (h.tab i (by simpa [bdK] using hi))⟩
variable {kind n:Nat} {T:List (List K)}
end Go.AI.Fn
set_option linter.unusedVariables false
set_option linter.unusedSimpArgs false
namespace Go.AI.Fn
end Go.AI.Fn
set_option linter.unusedVariables false
set_option linter.unusedSimpArgs false
namespace Go.AI.Fn
abbrev xo (a b:Int):Int:=eJ .u64 a b
def rot (x s:Int):Int:=if s=0 then x else ov .u64 (bf .u64 x s) (bD .u64 x (64-s))
def vl (x:Int):Prop:=0≤x∧x<18446744073709551616
theorem Ai (x:Int):vl (IntKind.wrap .u64 x):=by
 unfold vl;simp [IntKind.wrap,IntKind.bits,IntKind.signed];omega
theorem TV (a b:Int):vl (xo a b):=Ai _
theorem DE {x:Int} (h:vl x):((BitVec.ofInt 64 x).toNat:Int)=x:=by
 obtain ⟨h0,h1⟩:=h
 rw [BitVec.toNat_ofInt];omega
theorem su {a:Int} (h:vl a):xo 0 a=a:=by
 show IntKind.wrap .u64 _=a
 have:(BitVec.ofInt 64 0^^^BitVec.ofInt 64 a)=BitVec.ofInt 64 a:=by simp
 show IntKind.wrap .u64 ((BitVec.ofInt 64 0^^^BitVec.ofInt 64 a).toNat:Int)=a
 rw [this,DE h,eo a h.1 h.2]
theorem OF {a:Int} (h:vl a):ov .u64 a 0=a:=by
 have:(BitVec.ofInt 64 a|||BitVec.ofInt 64 0)=BitVec.ofInt 64 a:=by simp
 show IntKind.wrap .u64 ((BitVec.ofInt 64 a|||BitVec.ofInt 64 0).toNat:Int)=a
 rw [this,DE h,eo a h.1 h.2]
theorem NN (x y:Int):xS .u64 x y=aK .u64 (aW .u64 y) x:=by
 show IntKind.wrap .u64 ((BitVec.ofInt 64 x&&& ~~~ BitVec.ofInt 64 y).toNat:Int)=IntKind.wrap .u64 ((BitVec.ofInt 64 (aW .u64 y)&&&BitVec.ofInt 64 x).toNat:Int)
 have h:BitVec.ofInt 64 (aW .u64 y)= ~~~ BitVec.ofInt 64 y:=by
  show BitVec.ofInt 64 (IntKind.wrap .u64 ((BitVec.ofInt 64 18446744073709551615^^^BitVec.ofInt 64 y).toNat:Int))=_
  have e:(BitVec.ofInt 64 18446744073709551615^^^BitVec.ofInt 64 y)= ~~~ BitVec.ofInt 64 y:=by
   rw [show BitVec.ofInt 64 18446744073709551615=BitVec.allOnes 64 by decide,BitVec.allOnes_xor]
  rw [e,eo _ om (by have:=(~~~ BitVec.ofInt 64 y).isLt;omega)]
  rw [BitVec.ofInt_natCast,BitVec.ofNat_toNat];simp
 rw [h,BitVec.and_comm]
theorem Gx {x s:Int} (hs:0≤s∧s<64):kt x s=some (rot x s):=by
 unfold kt rot
 by_cases h:s=0
 ·rw [bre h,if_pos h]
 ·rw [Vn h,if_neg h,brd hs.1,eo (64-s) om om,brd om]
end Go.AI.Fn
set_option linter.unusedVariables false
set_option linter.unusedSimpArgs false
namespace Go.AI.Fn
theorem Uu: ∀k:Nat,k<64→aK .u64 (IntKind.wrap .u64 (k:Int)) 63=(k:Int):=by decide
theorem Gn {x s:Int} (hs:0≤s∧s<64) (hx:s≠0∨vl x):bu x s=some (rot x s):=by
 have e:aK .u64 (IntKind.wrap .u64 s) 63=s:=by
  have:=Uu s.toNat om
  rwa [Int.toNat_of_nonneg hs.1] at this
 unfold bu rot
 rw [e,brd hs.1,eo (64-s) om om,brd om]
 by_cases h:s=0
 ·subst h
  have hx:vl x:=hx.resolve_left (fun h=>h rfl)
  have e1:bf .u64 x 0=x:=by
   show IntKind.wrap .u64 (x*2^0)=x
   rw [Int.pow_zero,Int.mul_one,eo x hx.1 hx.2]
  have e2:bD .u64 x (64-0)=0:=by
   show x.fdiv (2^64)=0
   rw [Int.fdiv_eq_ediv_of_nonneg _ (by decide)]
   exact Int.ediv_eq_zero_of_lt hx.1 hx.2
  rw [e1,e2,OF hx,if_pos rfl]
 ·rw [if_neg h]
abbrev g (l:List Int) (i:Int):Int:=l.getD i.toNat 0
def hG:List Int:=[0,1,62,28,27,36,44,6,55,20,3,10,43,25,39,41,45,15,21,8,18,2,61,56,14]
theorem Ly: ∀k:Nat,k<25→0≤hG.getD k 0∧hG.getD k 0<64:=by decide
def p2 (m:List Int) (k:Nat) (l:List Int):List Int:=l.set ((k:Int)%5).toNat (xo (g l ((k:Int)%5)) (g m k))
def p3 (m c:List Int) (k:Nat) (l:List Int):List Int:=
 l.set ((k:Int)/5+5*((2*((k:Int)%5)+3*((k:Int)/5))%5)).toNat (rot (xo (g m k) (xo (g c (((k:Int)%5+4)%5)) (rot (g c (((k:Int)%5+1)%5)) 1))) (g hG k))
def p4 (b:List Int) (k:Nat) (l:List Int):List Int:=
 l.set k (xo (g b k) (xS .u64 (g b ((k:Int)-(k:Int)%5+((k:Int)%5+2)%5)) (g b ((k:Int)-(k:Int)%5+((k:Int)%5+1)%5))))
def q2 (m:List Int) (k:Nat) (l:List Int):List Int:=l.set k (xo (xo (xo (xo (g m k) (g m ((k:Int)+5))) (g m ((k:Int)+10))) (g m ((k:Int)+15))) (g m ((k:Int)+20)))
def q3 (c:List Int) (k:Nat) (l:List Int):List Int:=l.set k (xo (g l k) (xo (g c (((k:Int)+4)%5)) (rot (g c (((k:Int)+1)%5)) 1)))
def q5 (m:List Int) (x:Int) (y:Nat) (l:List Int):List Int:=l.set ((y:Int)+5*((2*x+3*(y:Int))%5)).toNat (rot (g m (x+5*(y:Int))) (g hG (x+5*(y:Int))))
def q4 (m:List Int) (x:Nat) (l:List Int):List Int:=iU (q5 m x) 5 l
def q7 (b:List Int) (x:Int) (y:Nat) (l:List Int):List Int:=l.set (x+5*(y:Int)).toNat (xo (g b (x+5*(y:Int))) (aK .u64 (aW .u64 (g b ((x+1)%5+5*(y:Int)))) (g b ((x+2)%5+5*(y:Int)))))
def q6 (b:List Int) (x:Nat) (l:List Int):List Int:=iU (q7 b x) 5 l
theorem Lt (m:List Int) (k:Nat) (l:List Int):(iU (p2 m) k l).length=l.length:=ji (fun _ _=>List.length_set) k l
theorem Br (m c:List Int) (k:Nat) (l:List Int):(iU (p3 m c) k l).length=l.length:=ji (fun _ _=>List.length_set) k l
theorem Be (b:List Int) (k:Nat) (l:List Int):(iU (p4 b) k l).length=l.length:=ji (fun _ _=>List.length_set) k l
theorem FM (m:List Int) (k:Nat) (l:List Int):(iU (q2 m) k l).length=l.length:=ji (fun _ _=>List.length_set) k l
theorem wg (c:List Int) (k:Nat) (l:List Int):(iU (q3 c) k l).length=l.length:=ji (fun _ _=>List.length_set) k l
theorem Kl (m:List Int) (x:Int) (k:Nat) (l:List Int):(iU (q5 m x) k l).length=l.length:=ji (fun _ _=>List.length_set) k l
theorem Jr (m:List Int) (x:Int) (k:Nat) (l:List Int):(iU (q7 m x) k l).length=l.length:=ji (fun _ _=>List.length_set) k l
theorem Es (m:List Int) (k:Nat) (l:List Int):(iU (q4 m) k l).length=l.length:=ji (fun x l=>Kl m x 5 l) k l
theorem JN (m:List Int) (k:Nat) (l:List Int):(iU (q6 m) k l).length=l.length:=ji (fun x l=>Jr m x 5 l) k l
theorem Pm {m5 m6 m7 m9 t4:List Int} {t3 t5:Int} (h:m5.length=25):Loop (bW m5 m6 m7 m9 t3 t4 t5) (nZ 5,0)=some (iU (p2 m5) 25 (nZ 5),25,false):=
 aI (fun k=>(iU (p2 m5) k (nZ 5),(k:Int))) 25 (fun k hk=>by
  have hl:=Lt m5 k (nZ 5)
  rw [fy] at hl
  simp only [bW]
  simp (disch:=omega) only [brd,e5,qA,cC,ah]
  simp only [iU,p2,Int.toNat_natCast,ib]
  rfl) (by
  simp (disch:=omega) only [bW,brn];rfl)
theorem NA {m5 m6 m7 m8:List Int} {t2:Int} (h:m5.length=25):Loop (cT m5 m6 m7 m8 t2) (nZ 5,0)=some (iU (q2 m5) 5 (nZ 5),5,false):=
 aI (fun k=>(iU (q2 m5) k (nZ 5),(k:Int))) 5 (fun k hk=>by
  have hl:=FM m5 k (nZ 5)
  rw [fy] at hl
  simp only [cT]
  simp (disch:=omega) only [brd,e5,qA,cC,ah]
  simp only [iU,q2,Int.toNat_natCast,ib]
  rfl) (by
  simp (disch:=omega) only [cT,brn];rfl)
theorem DH (k:Nat) (hk:k<25):0≤hG.getD k 0∧hG.getD k 0<64:=Ly k hk
theorem uc:hG.length=25:=rfl
theorem No {m10 m12 c t8:List Int} {t7 t9:Int} (h:m10.length=25) (hc:c.length=5):Loop (bV m10 hG m12 c t7 t8 t9) (nZ 25,0)=some (iU (p3 m10 c) 25 (nZ 25),25,false):=
 aI (fun k=>(iU (p3 m10 c) k (nZ 25),(k:Int))) 25 (fun k hk=>by
  have hl:=Br m10 c k (nZ 25)
  rw [fy] at hl
  have hs:=DH k hk
  have hs1:=uc
  simp only [bV]
  simp (disch:=omega) only [brd,e5,jQ,qA,cC,ah]
  rw [Gn ⟨by decide,by decide⟩ (.inl (by decide))]
  simp only [obs]
  simp only [Int.toNat_natCast]
  rw [Gn hs (.inr (TV _ _))]
  simp only [obs]
  rfl) (by
  simp (disch:=omega) only [bV,brn];rfl)
theorem P5 {m16 m17 m18 b t12:List Int} {t11 t13:Int} {m:List Int} (h:m.length=25) (hb:b.length=25):Loop (bY m16 m17 m18 b t11 t12 t13 b) (m,0)=some (iU (p4 b) 25 m,25,false):=
 aI (fun k=>(iU (p4 b) k m,(k:Int))) 25 (fun k hk=>by
  have hl:=Be b k m
  simp only [bY]
  simp (disch:=omega) only [brd,e5,jQ,qA,cC,ah]
  rfl) (by
  simp (disch:=omega) only [bY,brn];rfl)
theorem NI {m11 m12 m13 c m:List Int} {t4:Int} (h:m.length=25) (hc:c.length=5):Loop (cM m11 m12 m13 c t4) (m,0)=some (iU (q3 c) 25 m,25,false):=
 aI (fun k=>(iU (q3 c) k m,(k:Int))) 25 (fun k hk=>by
  have hl:=wg c k m
  simp only [cM]
  simp (disch:=omega) only [brd,e5,jQ,qA,cC,ah]
  rw [Gx ⟨by decide,by decide⟩]
  simp only [obs]
  rfl) (by
  simp (disch:=omega) only [cM,brn];rfl)
theorem Pf {a m22 m23 m25 m:List Int} {t8:Int} {x:Nat} (hx:x<5) (h:m.length=25) (ha:a.length=25):Loop (cR a m22 m23 hG m25 t8 x) (m,0)=some (iU (q5 a x) 5 m,5,false):=
 aI (fun k=>(iU (q5 a x) k m,(k:Int))) 5 (fun k hk=>by
  have hl:=Kl a x k m
  have hs:=DH ((x:Int)+5*(k:Int)).toNat om
  have hs1:=uc
  simp only [cR]
  simp (disch:=omega) only [brd,e5,jQ,qA,cC,ah]
  rw [Gx hs]
  simp only [obs]
  rfl) (by
  simp (disch:=omega) only [cR,brn];rfl)
theorem Qk {a m16 m17 m19 m:List Int} {t6:Int} (h:m.length=25) (ha:a.length=25):Loop (cP a m16 m17 hG m19 t6) (m,0)=some (iU (q4 a) 5 m,5,false):=
 aI (fun k=>(iU (q4 a) k m,(k:Int))) 5 (fun k hk=>by
  have hl:=Es a k m
  simp only [cP]
  rw [brd om,Pf hk om ha,obs,ah _ om om]
  rfl) (by
  simp (disch:=omega) only [cP,brn];rfl)
theorem Nz {m34 m35 m36 m37 b m:List Int} {t13:Int} {x:Nat} (hx:x<5) (h:m.length=25) (hb:b.length=25):Loop (cQ m34 m35 m36 m37 b t13 x) (m,0)=some (iU (q7 b x) 5 m,5,false):=
 aI (fun k=>(iU (q7 b x) k m,(k:Int))) 5 (fun k hk=>by
  have hl:=Jr b x k m
  simp only [cQ]
  simp (disch:=omega) only [brd,e5,jQ,qA,cC,ah]
  rfl) (by
  simp (disch:=omega) only [cQ,brn];rfl)
theorem Pl {m28 m29 m30 m31 b m:List Int} {t11:Int} (h:m.length=25) (hb:b.length=25):Loop (cS m28 m29 m30 m31 b t11) (m,0)=some (iU (q6 b) 5 m,5,false):=
 aI (fun k=>(iU (q6 b) k m,(k:Int))) 5 (fun k hk=>by
  have hl:=JN b k m
  simp only [cS]
  rw [brd om,Nz hk om hb,obs,ah _ om om]
  rfl) (by
  simp (disch:=omega) only [cS,brn];rfl)
def nE (m:List Int) (rc:Int):List Int:=
 let c:=iU (p2 m) 25 (nZ 5)
 let b:=iU (p3 m c) 25 (nZ 25)
 let r:=iU (p4 b) 25 m
 r.set 0 (xo (r.getD 0 0) rc)
def Ey (m:List Int) (rc:Int):List Int:=
 let c:=iU (q2 m) 5 (nZ 5)
 let a:=iU (q3 c) 25 m
 let b:=iU (q4 a) 5 (nZ 25)
 let r:=iU (q6 b) 5 a
 r.set 0 (xo (r.getD 0 0) rc)
end Go.AI.Fn
set_option linter.unusedVariables false
set_option linter.unusedSimpArgs false
namespace Go.AI.Fn
theorem aS {l:List Int} {n:Nat} (h:l.length=n+1): ∃a r,l=a::r∧r.length=n:=by
 cases l with
 |nil=>simp at h
 |cons a r=>exact ⟨a,r,rfl,by simpa using h⟩
theorem PS {l:List Int} (h:l.length=0):l=[]:=List.eq_nil_of_length_eq_zero h
theorem CL {l:List Int} (h:l.length=25): ∃a0 a1 a2 a3 a4 a5 a6 a7 a8 a9 a10 a11 a12 a13 a14 a15 a16 a17 a18 a19 a20 a21 a22 a23 a24,l=[a0,a1,a2,a3,a4,a5,a6,a7,a8,a9,a10,a11,a12,a13,a14,a15,a16,a17,a18,a19,a20,a21,a22,a23,a24]:=by
 obtain ⟨a0,r0,rfl,h0⟩:=aS h
 obtain ⟨a1,r1,rfl,h1⟩:=aS h0
 obtain ⟨a2,r2,rfl,h2⟩:=aS h1
 obtain ⟨a3,r3,rfl,h3⟩:=aS h2
 obtain ⟨a4,r4,rfl,h4⟩:=aS h3
 obtain ⟨a5,r5,rfl,h5⟩:=aS h4
 obtain ⟨a6,r6,rfl,h6⟩:=aS h5
 obtain ⟨a7,r7,rfl,h7⟩:=aS h6
 obtain ⟨a8,r8,rfl,h8⟩:=aS h7
 obtain ⟨a9,r9,rfl,h9⟩:=aS h8
 obtain ⟨a10,r10,rfl,h10⟩:=aS h9
 obtain ⟨a11,r11,rfl,h11⟩:=aS h10
 obtain ⟨a12,r12,rfl,h12⟩:=aS h11
 obtain ⟨a13,r13,rfl,h13⟩:=aS h12
 obtain ⟨a14,r14,rfl,h14⟩:=aS h13
 obtain ⟨a15,r15,rfl,h15⟩:=aS h14
 obtain ⟨a16,r16,rfl,h16⟩:=aS h15
 obtain ⟨a17,r17,rfl,h17⟩:=aS h16
 obtain ⟨a18,r18,rfl,h18⟩:=aS h17
 obtain ⟨a19,r19,rfl,h19⟩:=aS h18
 obtain ⟨a20,r20,rfl,h20⟩:=aS h19
 obtain ⟨a21,r21,rfl,h21⟩:=aS h20
 obtain ⟨a22,r22,rfl,h22⟩:=aS h21
 obtain ⟨a23,r23,rfl,h23⟩:=aS h22
 obtain ⟨a24,r24,rfl,h24⟩:=aS h23
 obtain rfl:=PS h24
 exact ⟨_,_,_,_,_,_,_,_,_,_,_,_,_,_,_,_,_,_,_,_,_,_,_,_,_,rfl⟩
def e6 (m:List Int):Prop:=m.length=25∧ ∀x∈m,vl x
def cs (m:List Int):List Int:=iU (q2 m) 5 (nZ 5)
theorem Qc {m:List Int} (h:e6 m):iU (p2 m) 25 (nZ 5)=cs m:=by
 obtain ⟨hl,hb⟩:=h
 obtain ⟨a0,a1,a2,a3,a4,a5,a6,a7,a8,a9,a10,a11,a12,a13,a14,a15,a16,a17,a18,a19,a20,a21,a22,a23,a24,rfl⟩:=CL hl
 have e0:=su (hb a0 (by simp))
 have e1:=su (hb a1 (by simp))
 have e2:=su (hb a2 (by simp))
 have e3:=su (hb a3 (by simp))
 have e4:=su (hb a4 (by simp))
 have k:iU (p2 [a0,a1,a2,a3,a4,a5,a6,a7,a8,a9,a10,a11,a12,a13,a14,a15,a16,a17,a18,a19,a20,a21,a22,a23,a24]) 25 (nZ 5)=[xo (xo (xo (xo (xo 0 a0) a5) a10) a15) a20,xo (xo (xo (xo (xo 0 a1) a6) a11) a16) a21,xo (xo (xo (xo (xo 0 a2) a7) a12) a17) a22,xo (xo (xo (xo (xo 0 a3) a8) a13) a18) a23,xo (xo (xo (xo (xo 0 a4) a9) a14) a19) a24]:=by kernel_rfl
 have k2:cs [a0,a1,a2,a3,a4,a5,a6,a7,a8,a9,a10,a11,a12,a13,a14,a15,a16,a17,a18,a19,a20,a21,a22,a23,a24]=
  [xo (xo (xo (xo a0 a5) a10) a15) a20,xo (xo (xo (xo a1 a6) a11) a16) a21,xo (xo (xo (xo a2 a7) a12) a17) a22,xo (xo (xo (xo a3 a8) a13) a18) a23,xo (xo (xo (xo a4 a9) a14) a19) a24]:=by kernel_rfl
 rw [k,k2,e0,e1,e2,e3,e4]
theorem OZ {c:List Int} (a0 a1 a2 a3 a4 a5 a6 a7 a8 a9 a10 a11 a12 a13 a14 a15 a16 a17 a18 a19 a20 a21 a22 a23 a24:Int):iU (p3 [a0,a1,a2,a3,a4,a5,a6,a7,a8,a9,a10,a11,a12,a13,a14,a15,a16,a17,a18,a19,a20,a21,a22,a23,a24] c) 25 (nZ 25)=[rot (xo a0 (xo (g c 4) (rot (g c 1) 1))) 0,rot (xo a6 (xo (g c 0) (rot (g c 2) 1))) 44,rot (xo a12 (xo (g c 1) (rot (g c 3) 1))) 43,rot (xo a18 (xo (g c 2) (rot (g c 4) 1))) 21,rot (xo a24 (xo (g c 3) (rot (g c 0) 1))) 14,rot (xo a3 (xo (g c 2) (rot (g c 4) 1))) 28,rot (xo a9 (xo (g c 3) (rot (g c 0) 1))) 20,rot (xo a10 (xo (g c 4) (rot (g c 1) 1))) 3,rot (xo a16 (xo (g c 0) (rot (g c 2) 1))) 45,rot (xo a22 (xo (g c 1) (rot (g c 3) 1))) 61,rot (xo a1 (xo (g c 0) (rot (g c 2) 1))) 1,rot (xo a7 (xo (g c 1) (rot (g c 3) 1))) 6,rot (xo a13 (xo (g c 2) (rot (g c 4) 1))) 25,rot (xo a19 (xo (g c 3) (rot (g c 0) 1))) 8,rot (xo a20 (xo (g c 4) (rot (g c 1) 1))) 18,rot (xo a4 (xo (g c 3) (rot (g c 0) 1))) 27,rot (xo a5 (xo (g c 4) (rot (g c 1) 1))) 36,rot (xo a11 (xo (g c 0) (rot (g c 2) 1))) 10,rot (xo a17 (xo (g c 1) (rot (g c 3) 1))) 15,rot (xo a23 (xo (g c 2) (rot (g c 4) 1))) 56,rot (xo a2 (xo (g c 1) (rot (g c 3) 1))) 62,rot (xo a8 (xo (g c 2) (rot (g c 4) 1))) 55,rot (xo a14 (xo (g c 3) (rot (g c 0) 1))) 39,rot (xo a15 (xo (g c 4) (rot (g c 1) 1))) 41,rot (xo a21 (xo (g c 0) (rot (g c 2) 1))) 2]:=by kernel_rfl
theorem Ot {c:List Int} (a0 a1 a2 a3 a4 a5 a6 a7 a8 a9 a10 a11 a12 a13 a14 a15 a16 a17 a18 a19 a20 a21 a22 a23 a24:Int):iU (q3 c) 25 [a0,a1,a2,a3,a4,a5,a6,a7,a8,a9,a10,a11,a12,a13,a14,a15,a16,a17,a18,a19,a20,a21,a22,a23,a24]=[xo a0 (xo (g c 4) (rot (g c 1) 1)),xo a1 (xo (g c 0) (rot (g c 2) 1)),xo a2 (xo (g c 1) (rot (g c 3) 1)),xo a3 (xo (g c 2) (rot (g c 4) 1)),xo a4 (xo (g c 3) (rot (g c 0) 1)),xo a5 (xo (g c 4) (rot (g c 1) 1)),xo a6 (xo (g c 0) (rot (g c 2) 1)),xo a7 (xo (g c 1) (rot (g c 3) 1)),xo a8 (xo (g c 2) (rot (g c 4) 1)),xo a9 (xo (g c 3) (rot (g c 0) 1)),xo a10 (xo (g c 4) (rot (g c 1) 1)),xo a11 (xo (g c 0) (rot (g c 2) 1)),xo a12 (xo (g c 1) (rot (g c 3) 1)),xo a13 (xo (g c 2) (rot (g c 4) 1)),xo a14 (xo (g c 3) (rot (g c 0) 1)),xo a15 (xo (g c 4) (rot (g c 1) 1)),xo a16 (xo (g c 0) (rot (g c 2) 1)),xo a17 (xo (g c 1) (rot (g c 3) 1)),xo a18 (xo (g c 2) (rot (g c 4) 1)),xo a19 (xo (g c 3) (rot (g c 0) 1)),xo a20 (xo (g c 4) (rot (g c 1) 1)),xo a21 (xo (g c 0) (rot (g c 2) 1)),xo a22 (xo (g c 1) (rot (g c 3) 1)),xo a23 (xo (g c 2) (rot (g c 4) 1)),xo a24 (xo (g c 3) (rot (g c 0) 1))]:=by kernel_rfl
theorem Q0 (a0 a1 a2 a3 a4 a5 a6 a7 a8 a9 a10 a11 a12 a13 a14 a15 a16 a17 a18 a19 a20 a21 a22 a23 a24:Int):iU (q4 [a0,a1,a2,a3,a4,a5,a6,a7,a8,a9,a10,a11,a12,a13,a14,a15,a16,a17,a18,a19,a20,a21,a22,a23,a24]) 5 (nZ 25)=[rot a0 0,rot a6 44,rot a12 43,rot a18 21,rot a24 14,rot a3 28,rot a9 20,rot a10 3,rot a16 45,rot a22 61,rot a1 1,rot a7 6,rot a13 25,rot a19 8,rot a20 18,rot a4 27,rot a5 36,rot a11 10,rot a17 15,rot a23 56,rot a2 62,rot a8 55,rot a14 39,rot a15 41,rot a21 2]:=by kernel_rfl
theorem LH {m c:List Int} (hm:m.length=25):iU (p3 m c) 25 (nZ 25)=iU (q4 (iU (q3 c) 25 m)) 5 (nZ 25):=by
 obtain ⟨a0,a1,a2,a3,a4,a5,a6,a7,a8,a9,a10,a11,a12,a13,a14,a15,a16,a17,a18,a19,a20,a21,a22,a23,a24,rfl⟩:=CL hm
 rw [OZ,Ot,Q0]
def p4' (b:List Int) (k:Nat) (l:List Int):List Int:=l.set k (xo (g b k) (aK .u64 (aW .u64 (g b ((k:Int)-(k:Int)%5+((k:Int)%5+1)%5))) (g b ((k:Int)-(k:Int)%5+((k:Int)%5+2)%5))))
theorem VQ (b:List Int):p4 b=p4' b:=by funext k l;unfold p4 p4';rw [NN]
theorem Po (a0 a1 a2 a3 a4 a5 a6 a7 a8 a9 a10 a11 a12 a13 a14 a15 a16 a17 a18 a19 a20 a21 a22 a23 a24 b0 b1 b2 b3 b4 b5 b6 b7 b8 b9 b10 b11 b12 b13 b14 b15 b16 b17 b18 b19 b20 b21 b22 b23 b24:Int):iU (p4' [a0,a1,a2,a3,a4,a5,a6,a7,a8,a9,a10,a11,a12,a13,a14,a15,a16,a17,a18,a19,a20,a21,a22,a23,a24]) 25 [b0,b1,b2,b3,b4,b5,b6,b7,b8,b9,b10,b11,b12,b13,b14,b15,b16,b17,b18,b19,b20,b21,b22,b23,b24]=[xo a0 (aK .u64 (aW .u64 a1) a2),xo a1 (aK .u64 (aW .u64 a2) a3),xo a2 (aK .u64 (aW .u64 a3) a4),xo a3 (aK .u64 (aW .u64 a4) a0),xo a4 (aK .u64 (aW .u64 a0) a1),xo a5 (aK .u64 (aW .u64 a6) a7),xo a6 (aK .u64 (aW .u64 a7) a8),xo a7 (aK .u64 (aW .u64 a8) a9),xo a8 (aK .u64 (aW .u64 a9) a5),xo a9 (aK .u64 (aW .u64 a5) a6),xo a10 (aK .u64 (aW .u64 a11) a12),xo a11 (aK .u64 (aW .u64 a12) a13),xo a12 (aK .u64 (aW .u64 a13) a14),xo a13 (aK .u64 (aW .u64 a14) a10),xo a14 (aK .u64 (aW .u64 a10) a11),xo a15 (aK .u64 (aW .u64 a16) a17),xo a16 (aK .u64 (aW .u64 a17) a18),xo a17 (aK .u64 (aW .u64 a18) a19),xo a18 (aK .u64 (aW .u64 a19) a15),xo a19 (aK .u64 (aW .u64 a15) a16),xo a20 (aK .u64 (aW .u64 a21) a22),xo a21 (aK .u64 (aW .u64 a22) a23),xo a22 (aK .u64 (aW .u64 a23) a24),xo a23 (aK .u64 (aW .u64 a24) a20),xo a24 (aK .u64 (aW .u64 a20) a21)]:=by kernel_rfl
theorem QN (a0 a1 a2 a3 a4 a5 a6 a7 a8 a9 a10 a11 a12 a13 a14 a15 a16 a17 a18 a19 a20 a21 a22 a23 a24 b0 b1 b2 b3 b4 b5 b6 b7 b8 b9 b10 b11 b12 b13 b14 b15 b16 b17 b18 b19 b20 b21 b22 b23 b24:Int):iU (q6 [a0,a1,a2,a3,a4,a5,a6,a7,a8,a9,a10,a11,a12,a13,a14,a15,a16,a17,a18,a19,a20,a21,a22,a23,a24]) 5 [b0,b1,b2,b3,b4,b5,b6,b7,b8,b9,b10,b11,b12,b13,b14,b15,b16,b17,b18,b19,b20,b21,b22,b23,b24]=[xo a0 (aK .u64 (aW .u64 a1) a2),xo a1 (aK .u64 (aW .u64 a2) a3),xo a2 (aK .u64 (aW .u64 a3) a4),xo a3 (aK .u64 (aW .u64 a4) a0),xo a4 (aK .u64 (aW .u64 a0) a1),xo a5 (aK .u64 (aW .u64 a6) a7),xo a6 (aK .u64 (aW .u64 a7) a8),xo a7 (aK .u64 (aW .u64 a8) a9),xo a8 (aK .u64 (aW .u64 a9) a5),xo a9 (aK .u64 (aW .u64 a5) a6),xo a10 (aK .u64 (aW .u64 a11) a12),xo a11 (aK .u64 (aW .u64 a12) a13),xo a12 (aK .u64 (aW .u64 a13) a14),xo a13 (aK .u64 (aW .u64 a14) a10),xo a14 (aK .u64 (aW .u64 a10) a11),xo a15 (aK .u64 (aW .u64 a16) a17),xo a16 (aK .u64 (aW .u64 a17) a18),xo a17 (aK .u64 (aW .u64 a18) a19),xo a18 (aK .u64 (aW .u64 a19) a15),xo a19 (aK .u64 (aW .u64 a15) a16),xo a20 (aK .u64 (aW .u64 a21) a22),xo a21 (aK .u64 (aW .u64 a22) a23),xo a22 (aK .u64 (aW .u64 a23) a24),xo a23 (aK .u64 (aW .u64 a24) a20),xo a24 (aK .u64 (aW .u64 a20) a21)]:=by kernel_rfl
theorem Oq {b m a:List Int} (hb:b.length=25) (hm:m.length=25) (ha:a.length=25):iU (p4 b) 25 m=iU (q6 b) 5 a:=by
 rw [VQ]
 obtain ⟨a0,a1,a2,a3,a4,a5,a6,a7,a8,a9,a10,a11,a12,a13,a14,a15,a16,a17,a18,a19,a20,a21,a22,a23,a24,rfl⟩:=CL hb
 obtain ⟨b0,b1,b2,b3,b4,b5,b6,b7,b8,b9,b10,b11,b12,b13,b14,b15,b16,b17,b18,b19,b20,b21,b22,b23,b24,rfl⟩:=CL hm
 obtain ⟨c0,c1,c2,c3,c4,c5,c6,c7,c8,c9,c10,c11,c12,c13,c14,c15,c16,c17,c18,c19,c20,c21,c22,c23,c24,rfl⟩:=CL ha
 rw [Po,QN]
theorem Lx {m:List Int} {rc:Int} (h:e6 m):nE m rc=Ey m rc:=by
 unfold nE Ey
 dsimp only
 have h1:=Qc h
 unfold cs at h1
 rw [h1]
 have hc:(iU (q2 m) 5 (nZ 5)).length=5:=by rw [FM,fy]
 have ha:(iU (q3 (iU (q2 m) 5 (nZ 5))) 25 m).length=25:=by rw [wg];exact h.1
 rw [LH h.1]
 rw [Oq (a:=iU (q3 (iU (q2 m) 5 (nZ 5))) 25 m) (by rw [Es,fy]) h.1 ha]
theorem KD {m:List Int} {rc:Int} (h:e6 m):e6 (nE m rc):=by
 have hl:(nE m rc).length=25:=by
  unfold nE;dsimp only;rw [List.length_set,Be];exact h.1
 refine ⟨hl, ?_⟩
 unfold nE
 dsimp only
 have hb:(iU (p3 m (iU (p2 m) 25 (nZ 5))) 25 (nZ 25)).length=25:=by rw [Br,fy]
 generalize iU (p3 m (iU (p2 m) 25 (nZ 5))) 25 (nZ 25)=b at hb
 have key: ∀k,k≤25→ ∀i,i<k→ ∀hi:i<(iU (p4 b) k m).length,vl (iU (p4 b) k m)[i]:=by
  intro k
  induction k with
  |zero=>intro _ i hi;omega
  |succ k ih=>
   intro hk i hi hlen
   simp only [iU,p4]
   rw [List.getElem_set]
   split
   ·exact TV _ _
   ·exact ih om i om (by simpa [iU,p4] using hlen)
 intro x hx
 rcases List.mem_or_eq_of_mem_set hx with h1|h1
 ·obtain ⟨i,hi,rfl⟩:=List.getElem_of_mem h1
  exact key 25 om i (by rw [Be] at hi;have:=h.1;omega) hi
 ·rw [h1];exact TV _ _
end Go.AI.Fn
set_option linter.unusedVariables false
set_option linter.unusedSimpArgs false
set_option maxRecDepth 10000
namespace Go.AI.Fn
def rcL:List Int:=[1,32898,9223372036854808714,9223372039002292224,32907,2147483649,9223372039002292353,9223372036854808585,138,136,2147516425,2147483658,2147516555,9223372036854775947,9223372036854808713,9223372036854808579,9223372036854808578,9223372036854775936,32778,9223372039002259466,9223372039002292353,9223372036854808704,2147483649,9223372039002292232]
theorem TY:[1,32898,9223372036854808714,9223372039002292224,32907,2147483649,9223372039002292353,9223372036854808585,138,136,2147516425,2147483658,2147516555,9223372036854775947,9223372036854808713,9223372036854808579,9223372036854808578,9223372036854775936,32778,9223372039002259466,9223372039002292353,9223372036854808704,2147483649,9223372039002292232]=rcL:=rfl
theorem IY:[0,1,62,28,27,36,44,6,55,20,3,10,43,25,39,41,45,15,21,8,18,2,61,56,14]=hG:=rfl
theorem zQ:rcL.length=24:=rfl
def rdP (k:Nat) (m:List Int):List Int:=nE m (rcL.getD k 0)
def wY (m:List Int):List Int:=iU rdP 24 m
theorem AN (k:Nat) (m:List Int):iU rdP (k+1) m=nE (iU rdP k m) (rcL.getD k 0):=by rw [iU,rdP]
theorem G5 {m:List Int} (h:e6 m): ∀k,e6 (iU rdP k m)
 |0=>h
 |k+1=>by rw [AN];exact KD (G5 h k)
theorem zY {m:List Int} (h:e6 m):e6 (wY m):=G5 h 24
theorem B8 {m:List Int} (h:e6 m):ep m=some (wY m):=by
 unfold ep
 have key:Loop (bX hG rcL rcL) (m,0)=some (wY m,24,false):=
  aI (fun k=>(iU rdP k m,(k:Int))) 24 (fun k hk=>by
   have h1:=G5 h k
   have hl1:=h1.1
   have hr:=zQ
   simp only [bX]
   simp (disch:=omega) only [brd,qA,cC,ah]
   rw [Pm h1.1,obs,No h1.1 (by rw [Lt,fy]),obs,brd (by rw [Br,fy]),P5 h1.1 (by rw [Br,fy]),obs]
   have hl:=Be (iU (p3 (iU rdP k m) (iU (p2 (iU rdP k m)) 25 (nZ 5))) 25 (nZ 25)) 25 (iU rdP k m)
   simp (disch:=omega) only [cC,brd]
   rw [AN]
   unfold nE
   simp only [ib,Int.toNat_natCast]) (by simp (disch:=omega) only [bX,brn];rfl)
 rw [TY,IY,key,obs]
theorem AV {m:List Int} (h:e6 m):hM m=some (wY m):=by
 unfold hM
 have key:Loop (cN (nZ 25) rcL hG) (m,0)=some (wY m,24,false):=
  aI (fun k=>(iU rdP k m,(k:Int))) 24 (fun k hk=>by
   have h1:=G5 h k
   have hl1:=h1.1
   have hr:=zQ
   simp only [cN]
   rw [brd om,NA h1.1,obs,NI h1.1 (by rw [FM,fy]),obs,Qk (fy 25) (by rw [wg];exact h1.1),obs,
    Pl (by rw [wg];exact h1.1) (by rw [Es,fy]),obs]
   have hl:=JN (iU (q4 (iU (q3 (iU (q2 (iU rdP k m)) 5 (nZ 5))) 25 (iU rdP k m))) 5 (nZ 25)) 5 (iU (q3 (iU (q2 (iU rdP k m)) 5 (nZ 5))) 25 (iU rdP k m))
   rw [wg] at hl
   simp (disch:=omega) only [cC,brd,qA,ah]
   rw [AN,Lx h1]
   unfold Ey
   simp only [ib,Int.toNat_natCast]) (by simp (disch:=omega) only [cN,brn];rfl)
 have hp:=(zY h).1
 rw [brd h.1]
 show (some rcL).bind _=_
 rw [obs,brd zQ]
 show (some hG).bind _=_
 rw [obs,brd uc,key,obs,brd hp,brd hp,brd hp]
theorem KA {l:List UInt8} {k:Nat} (h:k<l.length):atL l (k:Int)=some (l.getD k 0):=by simp [atL,h]
def lnS (t:List UInt8) (k:Nat) (l:List Int):List Int:=l.set ((k:Int)/8).toNat (ov .u64 (g l ((k:Int)/8)) (bf .u64 (IntKind.wrap .u64 ((t.getD k 0).toNat:Int)) (8*((k:Int)%8))))
def lR (t:List UInt8):List Int:=iU (lnS t) t.length (nZ 25)
theorem A4 (t:List UInt8) (k:Nat) (l:List Int):(iU (lnS t) k l).length=l.length:=ji (fun _ _=>List.length_set) k l
theorem p8 (t:List UInt8):e6 (lR t):=by
 refine ⟨by rw [lR,A4,fy], ?_⟩
 have key: ∀k, ∀x∈iU (lnS t) k (nZ 25),vl x:=by
  intro k
  induction k with
  |zero=>intro x hx;simp only [iU,nZ,List.mem_replicate] at hx;rw [hx.2];exact ⟨by decide,by decide⟩
  |succ k ih=>
   intro x hx
   rcases List.mem_or_eq_of_mem_set hx with h1|h1
   ·exact ih x h1
   ·rw [h1];exact Ai _
 exact key _
theorem Bi {t:List UInt8} (h:t.length≤200):mp t=some (lR t):=by
 unfold mp
 have key:Loop (ew (nZ 25) t ((t.length:Nat):Int)) (nZ 25,0)=some (lR t,(t.length:Int),false):=
  aI (fun k=>(iU (lnS t) k (nZ 25),(k:Int))) t.length (fun k hk=>by
   have hl:=A4 t k (nZ 25)
   rw [fy] at hl
   simp only [ew]
   simp (disch:=omega) only [brd,e5,jQ,qA,cC,ah,KA,obs]
   rfl) (by simp (disch:=omega) only [ew,brn];simp;rfl)
 have hl:=(p8 t).1
 rw [key,obs,brd hl,brd hl,brd hl]
theorem F0 {t:List UInt8} (h:t.length≤200):l8 t=some (lR t):=by
 unfold l8
 have key:Loop (dJ (nZ 25) t) (nZ 25,0)=some (lR t,(t.length:Int),false):=
  aI (fun k=>(iU (lnS t) k (nZ 25),(k:Int))) t.length (fun k hk=>by
   have hl:=A4 t k (nZ 25)
   rw [fy] at hl
   simp only [dJ]
   simp (disch:=omega) only [brd,e5,jQ,qA,cC,ah,eo,KA,obs]
   rfl) (by simp (disch:=omega) only [dJ,brn];simp;rfl)
 have hl:=(p8 t).1
 rw [key,obs,brd hl,brd hl,brd hl]
def txB (m:List Int) (i:Nat):UInt8:=UInt8.ofInt (bD .u64 (g m ((i:Int)/8)) (8*((i:Int)%8)))
def kQ (m:List Int) (n:Nat):List UInt8:=(List.range n).map (txB m)
theorem pR (m:List Int) (n:Nat):(kQ m n).length=n:=by simp [kQ]
theorem xi (m:List Int) (n:Nat):kQ m (n+1)=kQ m n++[txB m n]:=by simp [kQ,List.range_succ]
theorem HF {m:List Int} (h:m.length=25):gR m=some (kQ m 200,m):=by
 unfold gR
 have key:Loop (cL m) ([],0)=some (kQ m 200,200,false):=
  aI (fun k=>(kQ m k,(k:Int))) 200 (fun k hk=>by
   have hl:=pR m k
   simp only [cL]
   simp (disch:=omega) only [brd,e5,jQ,qA,cC,ah]
   rw [bL (by simp only [List.length_append,List.length_cons,List.length_nil];omega),xi]
   rfl) (by simp (disch:=omega) only [cL,brn];rfl)
 rw [key];rfl
theorem I6 {m:List Int} (h:m.length=25) {n:Nat} (hn:n≤200):my m n=some (kQ m n):=by
 unfold my
 have key:Loop (ey m n) ([],0)=some (kQ m n,(n:Int),false):=
  aI (fun k=>(kQ m k,(k:Int))) n (fun k hk=>by
   have hl:=pR m k
   simp only [ey]
   simp (disch:=omega) only [brd,e5,jQ,qA,cC,ah,eo]
   rw [bL (by simp only [List.length_append,List.length_cons,List.length_nil];omega),xi]
   rfl) (by simp (disch:=omega) only [ey,brn];simp)
 rw [brd h,key];rfl
end Go.AI.Fn
set_option linter.unusedVariables false
set_option linter.unusedSimpArgs false
namespace Go.AI.Fn
def xoS (t:List Int) (k:Nat) (l:List Int):List Int:=l.set k (xo (g l k) (g t k))
def He (t m:List Int):List Int:=iU (xoS t) 25 m
theorem Ak (t:List Int) (k:Nat) (l:List Int):(iU (xoS t) k l).length=l.length:=ji (fun _ _=>List.length_set) k l
theorem E9 {t m:List Int} (h:e6 m):e6 (He t m):=by
 refine ⟨by rw [He,Ak];exact h.1, ?_⟩
 have key: ∀k, ∀x∈iU (xoS t) k m,vl x:=by
  intro k
  induction k with
  |zero=>exact h.2
  |succ k ih=>
   intro x hx
   rcases List.mem_or_eq_of_mem_set hx with h1|h1
   ·exact ih x h1
   ·rw [h1];exact Ai _
 exact key _
theorem Lr {l5 a:List UInt8} {t m:List Int} (ht:t.length=25) (h:m.length=25):Loop (fj l5 a t) (m,0)=some (He t m,25,false):=
 aI (fun k=>(iU (xoS t) k m,(k:Int))) 25 (fun k hk=>by
  have hl:=Ak t k m
  simp only [fj]
  simp (disch:=omega) only [brd,qA,cC,ah]
  rfl) (by simp (disch:=omega) only [fj,brn];rfl)
theorem JL {l5 a:List UInt8} {p:Int} {t m:List Int} (ht:t.length=25) (h:m.length=25):Loop (eu l5 t a p) (m,0)=some (He t m,25,false):=
 aI (fun k=>(iU (xoS t) k m,(k:Int))) 25 (fun k hk=>by
  have hl:=Ak t k m
  simp only [eu]
  simp (disch:=omega) only [brd,qA,cC,ah]
  rfl) (by simp (disch:=omega) only [eu,brn];rfl)
def Ur (a:List UInt8) (k:Nat) (m:List Int):List Int:=wY (He (lR ((a.drop (136*k)).take 136)) m)
def zU (a:List UInt8) (n:Nat):List Int:=iU (Ur a) n (nZ 25)
theorem Uq:e6 (nZ 25):=⟨fy 25,fun x hx=>by simp only [nZ,List.mem_replicate] at hx;rw [hx.2];exact ⟨by decide,by decide⟩⟩
theorem xO (a:List UInt8) (n:Nat):zU a (n+1)=wY (He (lR ((a.drop (136*n)).take 136)) (zU a n)):=by
 unfold zU;rw [iU,Ur]
theorem vN (a:List UInt8): ∀n,e6 (zU a n)
 |0=>Uq
 |n+1=>by rw [xO];exact zY (E9 (vN a n))
theorem KO {l4 a:List UInt8} {n:Nat} (h:a.length=136*n) (hn:n≤1000000000):Loop (fm l4) (nZ 25,a)=some (zU a n,[],false):=
 aI (fun k=>(zU a k,a.drop (136*k))) n (fun k hk=>by
  have h1:=vN a k
  have hx:=E9 (t:=lR ((a.drop (136*k)).take 136)) h1
  simp only [fm]
  rw [brd (by rw [List.length_drop];omega),vv om om (by rw [List.length_drop];omega),obs,vv om (by rw [List.length_drop];omega) om]
  have e1:(List.drop (Int.toNat 0) (List.drop (136*k) a)).take (Int.toNat 136-Int.toNat 0)=(a.drop (136*k)).take 136:=rfl
  have e2:(List.drop (Int.toNat 136) (List.drop (136*k) a)).take ((((List.drop (136*k) a).length:Nat):Int).toNat-Int.toNat 136)=a.drop (136*(k+1)):=by
   rw [List.drop_drop,List.take_of_length_le (by rw [List.length_drop,List.length_drop];simp;omega)]
   congr 1
  rw [e1,e2,Bi (by rw [List.length_take];omega),obs,Lr (p8 _).1 h1.1,obs,B8 hx,obs,obs,xO]) (by
  simp only [fm]
  rw [brn (by rw [List.length_drop];omega),List.drop_eq_nil_of_le om]
  rfl)
theorem Jy {l3 a:List UInt8} {n:Nat} (h:a.length=136*n) (hn:n≤1000000000): ∃p,Loop (ez l3 a) (nZ 25,0)=some (zU a n,p):=
 ⟨_,aI (fun k=>(zU a k,((136*k:Nat):Int))) n (fun k hk=>by
   have h1:=vN a k
   have hx:=E9 (t:=lR ((a.drop (136*k)).take 136)) h1
   simp only [ez]
   rw [brd om,ah _ om om,vv om om om,obs]
   have e1:(List.drop (((136*k:Nat):Int)).toNat a).take (((((136*k:Nat):Int))+136).toNat-(((136*k:Nat):Int)).toNat)=(a.drop (136*k)).take 136:=by
    congr 1
    omega
   rw [e1,F0 (by rw [List.length_take];omega),obs,brd (p8 _).1,JL (p8 _).1 h1.1,obs,brd hx.1,AV hx,obs,qA (zY hx).1 hx.1,xO]
   have e2:(((136*k:Nat):Int))+136=((136*(k+1):Nat):Int):=by omega
   rw [e2]) (by
   simp only [ez]
   rw [brn om])⟩
def sI (l:List UInt8):List UInt8:=l++List.replicate ((136-l.length%136)%136) 0
theorem wq (l:List UInt8):(sI l).length=136*((l.length+135)/136):=by
 rw [sI,List.length_append,List.length_replicate];omega
theorem C4 {α:Type} (n:Nat) (x:α):List.replicate (n+1) x=List.replicate n x++[x]:=by
 rw [List.replicate_succ']
theorem KX {c l:List UInt8} (h:l.length≤1000000000):Loop (ee c) l=some (sI l,false):=by
 have key:=aI (step:=ee c) (e:=(sI l,false)) (fun k=>l++List.replicate k 0) ((136-l.length%136)%136) (fun k hk=>by
  simp only [ee]
  rw [e5 _ _ om,brb (by rw [List.length_append,List.length_replicate];omega),bL (by simp only [List.length_append,List.length_replicate,List.length_cons,List.length_nil];omega),C4,List.append_assoc]) (by
  simp only [ee]
  have e:((((l++List.replicate ((136-l.length%136)%136) (0:UInt8)).length:Nat):Int).tmod 136)=0:=by
   rw [e5 _ _ om,List.length_append,List.length_replicate];omega
  rw [e,i6 rfl];rfl)
 rwa [List.replicate_zero,List.append_nil] at key
theorem MX {c l:List UInt8} (h:l.length≤1000000000):Loop (dz c) l=some (sI l,false):=by
 have key:=aI (step:=dz c) (e:=(sI l,false)) (fun k=>l++List.replicate k 0) ((136-l.length%136)%136) (fun k hk=>by
  simp only [dz]
  rw [e5 _ _ om,brb (by rw [List.length_append,List.length_replicate];omega),bL (by simp only [List.length_append,List.length_replicate,List.length_cons,List.length_nil];omega),C4,List.append_assoc]) (by
  simp only [dz]
  have e:((((l++List.replicate ((136-l.length%136)%136) (0:UInt8)).length:Nat):Int).tmod 136)=0:=by
   rw [e5 _ _ om,List.length_append,List.length_replicate];omega
  rw [e,i6 rfl];rfl)
 rwa [List.replicate_zero,List.append_nil] at key
def xa (b:List UInt8):List UInt8:=(sI (b++[1])).set ((sI (b++[1])).length-1) (UInt8.ofInt (ov .u8 (((sI (b++[1])).getD ((sI (b++[1])).length-1) 0).toNat:Int) 128))
def H (b:List UInt8):List UInt8:=kQ (zU (xa b) ((b.length+136)/136)) 32
theorem G9 (b:List UInt8):(H b).length=32:=pR _ _
theorem CT (b:List UInt8):(xa b).length=136*((b.length+136)/136):=by
 rw [xa,List.length_set,wq,List.length_append,List.length_singleton]
theorem M6 {β:Type} {l:List UInt8} {i:Nat} {f:UInt8→Option β} (h:i<l.length):(l[i]?).bind f=f (l.getD i 0):=by simp [h]
theorem ET (m:List Int):(kQ m 200).take 32=kQ m 32:=by
 rw [kQ, ←List.map_take,List.take_range];rfl
theorem zb {b:List UInt8} (h:b.length≤100000000):kn b=some (H b):=by
 unfold kn
 have hl:=wq (b++[1])
 rw [List.length_append,List.length_singleton] at hl
 have hpl:=CT b
 rw [bL om,bL (by rw [List.length_append,List.length_singleton];omega),MX (by rw [List.length_append,List.length_singleton];omega),obs]
 dsimp only
 rw [ah _ om om]
 have ei:(((sI (b++[1])).length:Int)-1).toNat=(sI (b++[1])).length-1:=by omega
 rw [ei]
 simp (disch:=omega) only [brd,M6]
 obtain ⟨p,hp⟩:=Jy (l3:=[1]) hpl om
 unfold xa at hp
 rw [hp,obs]
 dsimp only
 have ok:=vN (xa b) ((b.length+136)/136)
 unfold xa at ok
 rw [brd ok.1]
 have ht:=I6 (n:=32) ok.1 om
 rw [show ((32:Nat):Int)=32 from rfl] at ht
 rw [ht,obs,H,xa]
theorem CM {l:List (List UInt8)} (h:l.flatten.length≤1000000000) (hn:l.length≤1000000):Loop (ff l ((l.length:Nat):Int)) ([],0)=some (l.flatten,(l.length:Int),false):=
 aI (fun k=>((l.take k).flatten,(k:Int))) l.length (fun k hk=>by
  simp only [ff]
  have h1:((l.take k).flatten++l[k]).length≤l.flatten.length:=by
   have e:l.flatten=(l.take (k+1)).flatten++(l.drop (k+1)).flatten:=by rw [←List.flatten_append,List.take_append_drop]
   rw [ip hk,List.flatten_append,List.flatten_singleton] at e
   have e2:=congrArg List.length e
   simp only [List.length_append] at e2 ⊢
   omega
  rw [brd om,fW hk,obs,bL om,ah _ om om,ip hk,List.flatten_append,List.flatten_singleton]
  rfl) (by
  simp only [ff]
  rw [brn om,List.take_length];simp)
theorem uu {l:List (List UInt8)} (h:l.flatten.length≤100000000) (hn:l.length≤1000000):mi l=some (H l.flatten):=by
 unfold mi
 rw [CM om hn,obs]
 dsimp only
 generalize l.flatten=b at h
 have hl:=wq (b++[1])
 rw [List.length_append,List.length_singleton] at hl
 have hpl:=CT b
 rw [bL (by rw [List.length_append,List.length_singleton];omega),KX (by rw [List.length_append,List.length_singleton];omega),obs]
 dsimp only
 rw [ah _ om om]
 have ei:(((sI (b++[1])).length:Int)-1).toNat=(sI (b++[1])).length-1:=by omega
 rw [ei]
 simp (disch:=omega) only [brd,M6]
 have hp:=KO (l4:=[1]) hpl om
 unfold xa at hp
 rw [hp,obs]
 dsimp only
 have ok:=vN (xa b) ((b.length+136)/136)
 unfold xa at ok
 rw [HF ok.1,obs,vv om om (by rw [pR];omega),obs,H,xa, ←ET]
 rfl
end Go.AI.Fn
set_option linter.unusedVariables false
namespace Go.AI.Fn
def u5 (n:Int):List UInt8:=[UInt8.ofInt (bD .i64 n 24),UInt8.ofInt (bD .i64 n 16),UInt8.ofInt (bD .i64 n 8),UInt8.ofInt n]
theorem cW (n:Int):(u5 n).length=4:=rfl
theorem kH {n:Int} {l:List UInt8} (h:l.length≤1099511627770):eP n l=some (l++u5 n):=by
 unfold eP
 rw [tG (Gp (by simp only [List.length_append,List.length_cons,List.length_nil];omega))];rfl
theorem Wi (n:Int):bD .i64 n 0=n:=by simp [bD]
theorem vy (n:Int):dY n 4=some (u5 n):=by
 unfold dY
 rw [show IntKind.wrap .i64 (4-1)=3 by decide,
  fL (s':=([UInt8.ofInt (bD .i64 n 24)],2)) (by kernel_rfl),
  fL (s':=([UInt8.ofInt (bD .i64 n 24),UInt8.ofInt (bD .i64 n 16)],1)) (by kernel_rfl),
  fL (s':=([UInt8.ofInt (bD .i64 n 24),UInt8.ofInt (bD .i64 n 16),UInt8.ofInt (bD .i64 n 8)],0)) (by kernel_rfl),
  fL (s':=([UInt8.ofInt (bD .i64 n 24),UInt8.ofInt (bD .i64 n 16),UInt8.ofInt (bD .i64 n 8),UInt8.ofInt (bD .i64 n 0)], -1)) (by kernel_rfl),
  mA (e:=([UInt8.ofInt (bD .i64 n 24),UInt8.ofInt (bD .i64 n 16),UInt8.ofInt (bD .i64 n 8),UInt8.ofInt (bD .i64 n 0)], -1,false)) (by kernel_rfl),Wi]
 rfl
end Go.AI.Fn
set_option linter.unusedVariables false
namespace Go.AI.Fn
theorem Ws {l:List UInt8} (h:8≤l.length): ∃a b c d e f g k r,l=a::b::c::d::e::f::g::k::r:=by
 match l,h with
 |a::b::c::d::e::f::g::k::r,_=>exact ⟨a,b,c,d,e,f,g,k,r,rfl⟩
end Go.AI.Fn
set_option linter.unusedVariables false
set_option linter.unusedSimpArgs false
namespace Go.AI.Fn
def I2:List UInt8:=[97,98,115,111,114,98]
def Bh (s:Source):Bool:=decide (s.Script.length≤64)&&(s.Script.all sQ&&(decide (s.State.length=32)&&((decide (0≤s.At)&&decide (s.At≤1000000))&&(decide (0≤s.Count)&&decide (s.Count≤1000000)))))
structure G8 (s:Source):Prop where
 len:s.Script.length≤64
 scr:pa s.Script
 st:s.State.length=32
 a0:0≤s.At
 a1:s.At≤1000000
 c0:0≤s.Count
 c1:s.Count≤1000000
theorem wc {s:Source}:Bh s=true↔G8 s:=by
 unfold Bh
 simp only [Bool.and_eq_true,decide_eq_true_eq,We]
 exact ⟨fun ⟨h1,h2,h3,⟨h4,h5⟩,h6,h7⟩=>⟨h1,h2,h3,h4,h5,h6,h7⟩,fun h=>⟨h.1,h.2,h.3,⟨h.4,h.5⟩,h.6,h.7⟩⟩
theorem CI (h:List UInt8):pn h=some (decide (h.length=32)):=by
 unfold pn
 congr 1
 by_cases c:h.length=32
 ·rw [decide_eq_true c,c];rfl
 ·rw [decide_eq_false c];simp;omega
theorem yw {s:Source} (hl:s.Script.length≤1099511627776):kP s=some (Bh s):=by
 unfold kP Bh
 rw [Ia hl]
 by_cases h1:s.Script.length≤64
 ·rw [brd om,decide_eq_true h1,obs,CI,AU,AU]
  cases s.Script.all sQ
  ·rfl
  ·simp only [bK,obs,Bool.true_and]
   cases decide (s.State.length=32)
   ·rfl
   ·simp only [bK,Bool.true_and]
    cases (decide (0≤s.At)&&decide (s.At≤1000000))<;>rfl
 ·rw [brn om,decide_eq_false h1];rfl
theorem yi {s:Source} (hl:s.Script.length≤1099511627776):kL s=some (Bh s):=by
 unfold kL Bh
 rw [FU hl]
 have e:(((s.State.length:Nat):Int)==32)=decide (s.State.length=32):=by
  by_cases c:s.State.length=32
  ·rw [decide_eq_true c,c];rfl
  ·rw [decide_eq_false c];simp;omega
 by_cases h1:s.Script.length≤64
 ·rw [brd om,decide_eq_true h1,obs,Ao,Ao,e]
  cases s.Script.all sQ
  ·rfl
  ·simp only [bK,obs,Bool.true_and]
   cases (decide (0≤s.At)&&decide (s.At≤1000000))
   ·simp [br]
   ·simp only [bK,Bool.true_and]
    cases decide (s.State.length=32)<;>rfl
 ·rw [brn om,decide_eq_false h1];rfl
theorem IW (n:Int):xP n=some (u5 n):=by
 unfold xP;rw [bL (by simp only [List.length_cons,List.length_nil];omega)];rfl
end Go.AI.Fn
set_option linter.unusedVariables false
set_option linter.unusedSimpArgs false
namespace Go.AI.Fn
def tkM (s:Source) (t:List UInt8):Source:=⟨s.Script,s.At,H (s.State++(I2++(u5 t.length++t))),0⟩
theorem Rz {s:Source} (t:List UInt8) (h:G8 s):G8 (tkM s t):=⟨h.1,h.2,G9 _,h.4,h.5,by simp [tkM],by simp [tkM]⟩
theorem DP {s:Source} {t:List UInt8} (hs:s.State.length=32) (ht:t.length≤1000000):j5 s t=some (tkM s t):=by
 unfold j5
 have h4:=cW ((t.length:Nat):Int)
 rw [bL (by simp only [List.length_cons,List.length_nil];omega),vy,obs,bL (by simp only [List.length_append,List.length_cons,List.length_nil];omega),
  bL (by simp only [List.length_append,List.length_cons,List.length_nil];omega),zb (by simp only [List.length_append,List.length_cons,List.length_nil];omega),obs,tkM]
 simp [I2]
theorem Mb {s:Source} (h:s.Script.length≤1000000):pL s=some s:=by
 unfold pL;rw [bL (by simp;omega)];simp
structure Few (s:Source) (k:Int):Prop where
 ok:G8 s
 a:s.At≤k
 c:s.Count≤k
theorem Few.take {s:Source} {k:Int} (h:Few s k) (t:List UInt8):Few (tkM s t) (k+1):=⟨Rz t h.1,by have:=h.2;simp [tkM];omega,by have:=h.3;have:=h.1.c0;simp [tkM];omega⟩
end Go.AI.Fn
set_option linter.unusedVariables false
set_option linter.unusedSimpArgs false
namespace Go.AI.Fn
variable {s:Source} {k:Int}
theorem Vj {a b c:Int} (h:a≤c) (g:b≤c):mx a b≤c:=by unfold mx;split<;>assumption
end Go.AI.Fn
set_option linter.unusedVariables false
set_option linter.unusedSimpArgs false
namespace Go.AI.Fn
variable {kind:Nat} {bh:List K→Source→Source}
theorem O4 (v:Nat):2^(v+1)=2*2^v:=by rw [Nat.pow_succ,Nat.mul_comm]
theorem OkT.up {v:Nat} {T:List (List K)} (h:OkT kind (2^(v+1)) T) (r:K):OkT kind (2^v) (bdK r T):=by
 rw [O4] at h;exact h.bd r
noncomputable instance VJ:DecidableEq K:=fun a b=>Classical.propDecidable _
variable {bv:Nat→Source→Source}
end Go.AI.Fn
set_option linter.unusedVariables false
set_option linter.unusedSimpArgs false
namespace Go.AI.Fn
structure OkM (l:List Entry) (R C:Int):Prop where
 len:l.length≤200
 ent: ∀x∈l,inE R C x
 srt: ∀k (hk:k<l.length), ∀y∈l.take k,ltE y l[k]
def qz (l:List Entry):List UInt8:=l.flatMap fun x=>[UInt8.ofInt x.Row,UInt8.ofInt x.Col]++u5 x.Value
theorem mO (l:List Entry):(qz l).length=6*l.length:=by
 induction l with
 |nil=>rfl
 |cons x l ih=>simp only [qz,List.flatMap_cons,List.length_append,List.length_cons] at*;rw [ih];simp [cW];omega
theorem zk (l:List Entry) (x:Entry):qz (l++[x])=qz l++([UInt8.ofInt x.Row,UInt8.ofInt x.Col]++u5 x.Value):=by simp [qz]
def vZ (l:List Entry):List UInt8:=u5 (l.length:Int)++qz l
def vh (s:System):List UInt8:=[115,121,115,116,101,109]++[UInt8.ofInt s.Rows,UInt8.ofInt s.Cols,UInt8.ofInt s.Publics]++vZ s.A++vZ s.B++vZ s.C
theorem tA (l:List Entry):(vZ l).length=4+6*l.length:=by rw [vZ,List.length_append,mO,cW]
theorem tJ {l2 L:List UInt8} {t t2 t3 l c4 c5 c6:List Entry} {t4 c c2 c3:Int} (h:l.length≤200) (hL:L.length≤1000000):Loop (aY l2 t t2 t3 t4 l ((l.length:Nat):Int) c c2 c3 c4 c5 c6) (L,0)=some (L++qz l,(l.length:Int),false):=by
 have key:=aI (step:=aY l2 t t2 t3 t4 l ((l.length:Nat):Int) c c2 c3 c4 c5 c6) (fun k=>(L++qz (l.take k),(k:Int))) l.length (e:=(L++qz l,(l.length:Int),false)) (fun k hk=> ?_) ?_
 ·simpa [qz] using key
 ·simp only [aY]
  have hn:=mO (l.take k)
  rw [List.length_take] at hn
  rw [brd om,fW hk,obs,bL (by simp only [List.length_append,List.length_cons,List.length_nil];omega),kH (by simp only [List.length_append,List.length_cons,List.length_nil];omega),obs,ah _ om om,ip hk,zk]
  simp only [List.append_assoc,ib]
 ·simp only [aY]
  rw [brn om,decide_eq_false om,List.take_length]
theorem Ew {l2 L:List UInt8} {t t2 t3 l c4 c5 c6:List Entry} {t4 c c2 c3:Int} (h:l.length≤200) (hL:L.length≤1000000):Loop (cq l2 t t2 t3 t4 l ((l.length:Nat):Int) c c2 c3 c4 c5 c6) (L,0)=some (L++qz l,(l.length:Int),false):=tJ (l2:=l2) (t:=t) (t2:=t2) (t3:=t3) (c4:=c4) (c5:=c5) (c6:=c6) (t4:=t4) (c:=c) (c2:=c2) (c3:=c3) h hL
theorem FC {l2 L:List UInt8} {t t2 t3 l c4 c5 c6:List Entry} {t4 c c2 c3:Int} (h:l.length≤200) (hL:L.length≤1000000):Loop (cr l2 t t2 t3 t4 l ((l.length:Nat):Int) c c2 c3 c4 c5 c6) (L,0)=some (L++qz l,(l.length:Int),false):=tJ (l2:=l2) (t:=t) (t2:=t2) (t3:=t3) (c4:=c4) (c5:=c5) (c6:=c6) (t4:=t4) (c:=c) (c2:=c2) (c3:=c3) h hL
theorem vr {s:System} (hA:s.A.length≤200) (hB:s.B.length≤200) (hC:s.C.length≤200):cG s=some (vh s):=by
 have a1:=mO s.A
 have b1:=mO s.B
 have c1:=mO s.C
 unfold cG cu
 rw [bL (by simp only [List.length_append,List.length_cons,List.length_nil];omega),obs]
 dsimp only
 rw [kH (by simp only [List.length_append,List.length_cons,List.length_nil];omega),obs,tJ hA (by simp only [List.length_append,List.length_cons,List.length_nil,cW];omega),obs,
  kH (by simp only [List.length_append,List.length_cons,List.length_nil,cW];omega),obs,Ew hB (by simp only [List.length_append,List.length_cons,List.length_nil,cW];omega),obs,
  kH (by simp only [List.length_append,List.length_cons,List.length_nil,cW];omega),obs,FC hC (by simp only [List.length_append,List.length_cons,List.length_nil,cW];omega),obs]
 simp only [vh,vZ,List.append_assoc]
theorem DR (s:System):(vh s).length=21+6*(s.A.length+s.B.length+s.C.length):=by
 simp only [vh,List.length_append,tA,List.length_cons,List.length_nil];omega
theorem F6 {l3 L:List UInt8} {l4:List (List Entry)} {l c4 c5 c6:List Entry} {c c2 c3:Int} {j:Nat} (hj:l4[j]? =some l) (h:l.length≤200) (hL:L.length≤1000000):Loop (cy l3 l4 (j:Int) c c2 c3 c4 c5 c6) (L,0)=some (L++qz l,(l.length:Int),false):=by
 have hj2:j<l4.length:=by
  rcases Nat.lt_or_ge j l4.length with h|h
  ·exact h
  ·rw [List.getElem?_eq_none h] at hj;cases hj
 have key:=aI (step:=cy l3 l4 (j:Int) c c2 c3 c4 c5 c6) (fun k=>(L++qz (l.take k),(k:Int))) l.length (e:=(L++qz l,(l.length:Int),false)) (fun k hk=> ?_) ?_
 ·simpa [qz] using key
 ·simp only [cy]
  have hn:=mO (l.take k)
  rw [List.length_take] at hn
  rw [brd om,brd om,Int.toNat_natCast,hj,obs,brd om,brd om,brd om,obs,fW hk,obs,vy,obs,bL (by rw [cW];simp only [List.length_cons,List.length_nil];omega),
   bL (by simp only [List.length_append,List.length_cons,List.length_nil,cW];omega),ah _ om om,ip hk,zk]
  simp only [List.append_assoc,ib]
 ·simp only [cy]
  rw [brd om,brd om,Int.toNat_natCast,hj,obs,brn om,decide_eq_false om,List.take_length]
theorem ue {l3 L:List UInt8} {l4:List (List Entry)} {l c4 c5 c6:List Entry} {c c2 c3:Int} {j:Nat} (hj:l4[j]? =some l) (j3:j<3) (h:l.length≤200) (hL:L.length≤900000):dq l3 l4 c c2 c3 c4 c5 c6 (L,(j:Int))=some (.inl (L++vZ l,((j+1:Nat):Int))):=by
 have hj2:j<l4.length:=by
  rcases Nat.lt_or_ge j l4.length with h|h
  ·exact h
  ·rw [List.getElem?_eq_none h] at hj;cases hj
 simp only [dq]
 rw [brd om,brd om,brd om,Int.toNat_natCast,hj,obs,vy,obs,bL (by rw [cW];omega),F6 hj h (by rw [List.length_append,cW];omega),obs,ah _ om om,vZ]
 simp only [List.append_assoc,ib]
theorem vO {s:System} (hA:s.A.length≤200) (hB:s.B.length≤200) (hC:s.C.length≤200):jc s=some (H (vh s)):=by
 have a1:=tA s.A
 have b1:=tA s.B
 have c1:=tA s.C
 have hl:=DR s
 unfold jc
 rw [bL (by simp only [List.length_cons,List.length_nil];omega),show (0:Int)=((0:Nat):Int) from rfl,
  fL (ue (l:=s.A) (j:=0) rfl om hA (by simp only [List.length_append,List.length_cons,List.length_nil];omega)),
  fL (ue (l:=s.B) (j:=1) rfl om hB (by simp only [List.length_append,List.length_cons,List.length_nil];omega)),
  fL (ue (l:=s.C) (j:=2) rfl om hC (by simp only [List.length_append,List.length_cons,List.length_nil];omega)),
  mA (by simp only [dq];rw [brn om]),obs]
 dsimp only
 rw [show [115,121,115,116,101,109]++[UInt8.ofInt s.Rows,UInt8.ofInt s.Cols,UInt8.ofInt s.Publics]++vZ s.A++vZ s.B++vZ s.C=vh s from rfl,zb om];rfl
end Go.AI.Fn
set_option linter.unusedVariables false
set_option linter.unusedSimpArgs false
namespace Go.AI.Fn
end Go.AI.Fn
set_option linter.unusedVariables false
set_option linter.unusedSimpArgs false
namespace Go.AI.Fn
variable {kind:Nat} {bh:List K→Source→Source}
end Go.AI.Fn
set_option linter.unusedVariables false
set_option linter.unusedSimpArgs false
namespace Go.AI.Fn
end Go.AI.Fn
set_option linter.unusedVariables false
set_option linter.unusedSimpArgs false
namespace Go.AI.Fn
abbrev Tx:=List UInt8
def Vh (t:Tx):Tx:=0::t
def hL (t:Tx):Tx:=H (Vh t)
def Hs (l:List Tx):Prop:= ∀x∈l,x.length=32
theorem Hs.getD {l:List Tx} (h:Hs l) {k:Nat} (hk:k<l.length):(l.getD k []).length=32:=by simp [hk];exact h _ (List.getElem_mem hk)
end Go.AI.Fn
set_option linter.unusedVariables false
set_option linter.unusedSimpArgs false
namespace Go.AI.Fn
end Go.AI.Fn
set_option linter.unusedVariables false
set_option linter.unusedSimpArgs false
namespace Go.AI.Fn
end Go.AI.Fn
set_option linter.unusedVariables false
set_option linter.unusedSimpArgs false
namespace Go.AI.Fn
end Go.AI.Fn
set_option linter.unusedVariables false
set_option linter.unusedSimpArgs false
namespace Go.AI.Fn
def W9 (n:Nat) (p:Nat→Bool):Bool:=(List.range n).all p
def h32 (x:List UInt8):Bool:=decide (x.length=32)
def Wg (vars:Int) (t:Setting) (q:eG) (j:Nat):Bool:=decide (((q.Paths.getD j []).length:Int)=vars+t.Rate-1-j)&&(q.Paths.getD j []).all h32
def Wo (vars:Int) (t:Setting) (q:eG):Bool:=decide ((q.Pairs.length:Int)=2*vars)&&(q.Pairs.all sQ&&(decide ((q.Paths.length:Int)=vars)&&W9 vars.toNat (Wg vars t q)))
structure SmO (o:aV):Prop where
 rn:o.Rounds.length≤1099511627776
 rr: ∀g∈o.Rounds,g.length≤1099511627776
 ro:o.Roots.length≤1099511627776
 qn:o.Queries.length≤1099511627776
 qp: ∀q∈o.Queries,q.Pairs.length≤1099511627776
 qt: ∀q∈o.Queries, ∀p∈q.Paths,p.length≤1099511627776
end Go.AI.Fn
set_option linter.unusedVariables false
set_option linter.unusedSimpArgs false
namespace Go.AI.Fn
end Go.AI.Fn
set_option linter.unusedVariables false
set_option linter.unusedSimpArgs false
namespace Go.AI.Fn
end Go.AI.Fn
set_option linter.unusedVariables false
set_option linter.unusedSimpArgs false
namespace Go.AI.Fn
end Go.AI.Fn
set_option linter.unusedVariables false
set_option linter.unusedSimpArgs false
namespace Go.AI.Fn
variable {kind:Nat}
end Go.AI.Fn
set_option linter.unusedVariables false
set_option linter.unusedSimpArgs false
namespace Go.AI.Fn
variable {v ρ:Nat} {t P:List K} {s:Source} {k:Int}
end Go.AI.Fn
set_option linter.unusedVariables false
set_option linter.unusedSimpArgs false
namespace Go.AI.Fn
end Go.AI.Fn
set_option linter.unusedVariables false
set_option linter.unusedSimpArgs false
namespace Go.AI.Fn
def Wm (due:Option K) (x:K):Prop:= ∃d,due=some d∧x≠d
noncomputable instance TP (due:Option K) (x:K):Decidable (Wm due x):=Classical.propDecidable _
variable {v ρ:Nat} {t P:List K} {s:Source} {k:Int}
end Go.AI.Fn
set_option linter.unusedVariables false
set_option linter.unusedSimpArgs false
namespace Go.AI.Fn
end Go.AI.Fn
set_option linter.unusedVariables false
set_option linter.unusedSimpArgs false
namespace Go.AI.Fn
end Go.AI.Fn
set_option linter.unusedVariables false
set_option linter.unusedSimpArgs false
namespace Go.AI.Fn
end Go.AI.Fn
set_option linter.unusedVariables false
set_option linter.unusedSimpArgs false
namespace Go.AI.Fn
variable {v ρ:Nat} {t P:List K} {s:Source} {k:Int}
end Go.AI.Fn
set_option linter.unusedVariables false
set_option linter.unusedSimpArgs false
namespace Go.AI.Fn
end Go.AI.Fn
set_option linter.unusedVariables false
set_option linter.unusedSimpArgs false
namespace Go.AI.Fn
structure BoO (o:aV):Prop where
 rn:o.Rounds.length≤6
 rr: ∀g∈o.Rounds,g.length≤3
 ro:o.Roots.length≤6
 rh: ∀x∈o.Roots,x.length≤32
 qn:o.Queries.length≤8
 qp: ∀q∈o.Queries,q.Pairs.length≤12
 qt: ∀q∈o.Queries,q.Paths.length≤6
 qq: ∀q∈o.Queries, ∀p∈q.Paths,p.length≤8∧ ∀x∈p,x.length≤32
structure OkO (o:aV) (v:Nat) (t:Setting):Prop where
 v1:1≤v∧v≤6
 st:setB t=true
 rn:o.Rounds.length=v
 rr: ∀g∈o.Rounds,g.length=3∧pa g
 ro:o.Roots.length=v-1
 rh: ∀x∈o.Roots,x.length=32
 la:okE o.Last
 no:0≤o.Nonce∧o.Nonce≤65535
 qn:(o.Queries.length:Int)=t.Queries
 qq: ∀q∈o.Queries,Wo (v:Int) t q=true
variable {o:aV} {v:Nat} {t:Setting}
end Go.AI.Fn
set_option linter.unusedVariables false
set_option linter.unusedSimpArgs false
namespace Go.AI.Fn
variable {o:aV} {v ρ:Nat} {t:Setting} {root:List UInt8} {D:List K} {q:eG}
end Go.AI.Fn
set_option linter.unusedVariables false
set_option linter.unusedSimpArgs false
namespace Go.AI.Fn
end Go.AI.Fn
set_option linter.unusedVariables false
set_option linter.unusedSimpArgs false
namespace Go.AI.Fn
variable {o:aV} {v ρ nq bits:Nat} {t:Setting} {root:List UInt8} {D P:List K} {s:Source} {k:Int}
end Go.AI.Fn
set_option linter.unusedVariables false
set_option linter.unusedSimpArgs false
namespace Go.AI.Fn
variable {o:aV} {v ρ nq bits:Nat} {t:Setting} {root:List UInt8} {P:List K} {cl:K} {s:Source} {k:Int}
end Go.AI.Fn
set_option linter.unusedVariables false
set_option linter.unusedSimpArgs false
namespace Go.AI.Fn
variable {o:aV} {v ρ nq bits:Nat} {t:Setting} {root:List UInt8} {P:List K} {cl:K} {s:Source} {k:Int}
end Go.AI.Fn
set_option linter.unusedVariables false
set_option linter.unusedSimpArgs false
namespace Go.AI.Fn
variable {o:aV} {v ρ nq bits:Nat} {t:Setting} {root:List UInt8} {P:List K} {cl:K} {s:Source} {k:Int}
end Go.AI.Fn
set_option linter.unusedVariables false
set_option linter.unusedSimpArgs false
namespace Go.AI.Fn
end Go.AI.Fn
set_option linter.unusedVariables false
set_option linter.unusedSimpArgs false
namespace Go.AI.Fn
end Go.AI.Fn
set_option linter.unusedVariables false
set_option linter.unusedSimpArgs false
namespace Go.AI.Fn
def s8 (l:List Int):List UInt8:=l.flatMap u5
theorem xN (l:List Int):(s8 l).length=4*l.length:=by
 induction l with
 |nil=>rfl
 |cons x l ih=>simp only [s8,List.flatMap_cons,List.length_append,cW,List.length_cons] at*;omega
theorem zl (l:List Int) (x:Int):s8 (l++[x])=s8 l++u5 x:=by simp [s8]
def setT (t:Setting):List UInt8:=[UInt8.ofInt t.Rate,UInt8.ofInt t.Queries,UInt8.ofInt t.Grind]
def tQ (s:System) (t:Setting) (p:List Int):List UInt8:=H (vh s)++setT t++s8 p
theorem Nx {l:List (List UInt8)} {l3 L:List UInt8} {p:List Int} {c c2 c3 c7 c8 c9:Int} {c4 c5 c6:List Entry} (hp:p.length≤5000) (hL:L.length≤1000):Loop (cB l l3 p ((p.length:Nat):Int) c c2 c3 c4 c5 c6 c7 c8 c9) (L,0)=some (L++s8 p,(p.length:Int),false):=by
 have key:=aI (step:=cB l l3 p ((p.length:Nat):Int) c c2 c3 c4 c5 c6 c7 c8 c9) (fun j=>(L++s8 (p.take j),(j:Int))) p.length (e:=(L++s8 p,(p.length:Int),false)) (fun j hj=> ?_) ?_
 ·simpa [s8] using key
 ·simp only [cB]
  have hn:=xN (p.take j)
  rw [List.length_take] at hn
  rw [brd om,fW hj,obs,kH (by simp only [List.length_append];omega),obs,ah _ om om,ip hj,zl,List.append_assoc];rfl
 ·simp only [cB]
  rw [brn om,decide_eq_false om,List.take_length]
theorem H6 {l L:List UInt8} {p:List Int} {c c2 c3 c7 c8 c9 c11 c13 c14 c16:Int} {c10:List Ext} {c12 c15:List UInt8} {c4 c5 c6:List Entry} (hp:p.length≤5000) (hL:L.length≤1000):Loop (cZ l p c c2 c3 c4 c5 c6 c7 c8 c9 c10 c11 c12 c13 c14 c15 c16) (L,0)=some (L++s8 p,(p.length:Int),false):=by
 have key:=aI (step:=cZ l p c c2 c3 c4 c5 c6 c7 c8 c9 c10 c11 c12 c13 c14 c15 c16) (fun j=>(L++s8 (p.take j),(j:Int))) p.length (e:=(L++s8 p,(p.length:Int),false)) (fun j hj=> ?_) ?_
 ·simpa [s8] using key
 ·simp only [cZ]
  have hn:=xN (p.take j)
  rw [List.length_take] at hn
  rw [brd om,fW hj,obs,vy,obs,bL (by simp only [List.length_append,cW];omega),ah _ om om,ip hj,zl,List.append_assoc];rfl
 ·simp only [cZ]
  rw [brn om,decide_eq_false om,List.take_length]
theorem xU (s:System) (t:Setting) (p:List Int):(tQ s t p).length=35+4*p.length:=by
 simp only [tQ,List.length_append,G9,setT,List.length_cons,List.length_nil,xN]
end Go.AI.Fn
set_option linter.unusedVariables false
set_option linter.unusedSimpArgs false
namespace Go.AI.Fn
noncomputable def stC (s:System) (t:Setting) (p:List Int) (src:Source):Int:=
 if p.length>4096 then 2 else if yr s=false then 1 else if setB t=false then 1 else if p.all rP=false then 1 else if Bh src=false then 1
 else if (p.length:Int)≠s.Publics then 17 else if 999800<mx src.At src.Count then 6 else 0
theorem xQ {s:System} {t:Setting} {p:List Int} {src:Source} (hA:s.A.length≤1048576) (hB:s.B.length≤1048576) (hC:s.C.length≤1048576) (hp:p.length≤1048576) (hs:src.Script.length≤1048576):
 j1 s t p src=some (stC s t p src):=by
 unfold j1 stC
 by_cases c1:p.length>4096
 ·rw [brd om,if_pos c1]
 rw [brn om,if_neg c1,yA om om om,obs]
 cases h2:yr s
 ·rfl
 rw [Bool.not_true,aH,if_neg (by simp),wI,obs]
 cases h3:setB t
 ·rfl
 rw [Bool.not_true,aH,if_neg (by simp),Ih om,obs]
 cases h4:p.all rP
 ·rfl
 rw [Bool.not_true,aH,if_neg (by simp),yw om,obs]
 cases h5:Bh src
 ·rfl
 have ho:=wc.1 h5
 have h0:0≤mx src.At src.Count:=by have:=ho.4;have:=ho.6;unfold mx;split<;>assumption
 have h9:=Vj ho.5 ho.7
 rw [Bool.not_true,aH,if_neg (by simp)]
 by_cases c6:(p.length:Int)=s.Publics
 ·rw [i6 c6,if_neg (by simp [c6])]
  unfold iW
  rw [obs,ah _ om om]
  by_cases c7:999800<mx src.At src.Count
  ·rw [brd om,if_pos c7]
  ·rw [brn om,if_neg c7]
 ·rw [brb c6,if_pos c6]
theorem DV {s:System} {t:Setting} {p:List Int} {src:Source} (hp:p.length≤1048576) (hs:src.Script.length≤1048576):
 oP s t p src=some (stC s t p src):=by
 unfold oP stC
 by_cases c1:p.length>4096
 ·rw [brd om,if_pos c1]
 rw [brn om,if_neg c1,yO,obs]
 cases h2:yr s
 ·rfl
 rw [Bool.not_true,aH,if_neg (by simp),xg,obs]
 cases h3:setB t
 ·rfl
 rw [Bool.not_true,aH,if_neg (by simp),BO om,obs]
 cases h4:p.all rP
 ·rfl
 rw [Bool.not_true,aH,if_neg (by simp),yi om,obs]
 cases h5:Bh src
 ·rfl
 have ho:=wc.1 h5
 rw [Bool.not_true,aH,if_neg (by simp)]
 by_cases c6:(p.length:Int)=s.Publics
 ·rw [i6 c6,if_neg (by simp [c6])]
  unfold mY
  rw [ah _ om om]
  by_cases c7:999800<mx src.At src.Count
  ·rw [if_pos c7]
   by_cases c8:src.At>999800
   ·rw [brd om];rfl
   ·have:src.Count>999800:=by unfold mx at c7;split at c7<;>omega
    rw [brn om,decide_eq_true om];rfl
  ·rw [if_neg c7]
   have:src.At≤999800∧src.Count≤999800:=by unfold mx at c7;split at c7<;>omega
   rw [brn om,decide_eq_false om];rfl
 ·rw [brb c6,if_pos c6]
structure RB (s:System) (t:Setting) (p:List Int) (src:Source):Prop where
 sy:yr s=true
 se:setB t=true
 pl:p.length≤4096
 pf:OV p
 pe:(p.length:Int)=s.Publics
 fw:Few src 999800
theorem Ro {s:System} {t:Setting} {p:List Int} {src:Source} (h:stC s t p src=0):RB s t p src:=by
 unfold stC at h
 split at h
 ·cases h
 split at h
 ·cases h
 split at h
 ·cases h
 split at h
 ·cases h
 split at h
 ·cases h
 split at h
 ·cases h
 split at h
 ·cases h
 rename_i h1 h2 h3 h4 h5 h6 h7
 have ho:=wc.1 (by simpa using h5)
 refine ⟨by simpa using h2,by simpa using h3,by omega,Wb.1 (by simpa using h4),by simpa using h6,ho, ?_, ?_⟩<;>(unfold mx at h7;split at h7<;>omega)
theorem ww {s:System} {t:Setting} {p:List Int} {src:Source} (h:RB s t p src):jf s t p=some (tQ s t p):=by
 obtain ⟨_,_,_,hA,hB,hC⟩:=Gh h.sy
 have hle:=h.pl
 have hl:=DR s
 have hH:=G9 (vh s)
 unfold jf
 rw [vr hA hB hC,obs,uu (by simpa using by omega) (by simp),obs,show [vh s].flatten=vh s by simp,bL om,bL (by simp only [List.length_append,List.length_cons,List.length_nil];omega),
  Nx om (by simp only [List.length_append,List.length_cons,List.length_nil];omega),obs];rfl
theorem yp {s:System} {t:Setting} {p:List Int} {src:Source} (h:RB s t p src):kU s t p src=some (tkM src (tQ s t p)):=by
 obtain ⟨_,_,_,hA,hB,hC⟩:=Gh h.sy
 have hle:=h.pl
 have hs2:=xU s t p
 have hH:=G9 (vh s)
 unfold kU
 rw [vO hA hB hC,obs,bL (by simp only [List.length_cons,List.length_nil];omega),H6 om (by simp only [List.length_append,List.length_cons,List.length_nil];omega),obs]
 dsimp only
 rw [show H (vh s)++[UInt8.ofInt t.Rate,UInt8.ofInt t.Queries,UInt8.ofInt t.Grind]++s8 p=tQ s t p from rfl,DP h.fw.1.3 om,obs]
end Go.AI.Fn
set_option linter.unusedVariables false
set_option linter.unusedSimpArgs false
namespace Go.AI.Fn
theorem nu {α:Type} {x y:α} {B:List α}: ∀{A:List α} {j:Nat},A.length=j→(A++x::B).set j y=A++y::B
 |[],j,h=>by subst h;rfl
 |a::A,j,h=>by subst h;simp only [List.cons_append,List.length_cons,List.set_cons_succ,nu rfl]
theorem pY {α:Type} {x:α} {B A:List α} {j:Nat} (h:A.length=j):(A++x::B)[j]? =some x:=by
 subst h;simp
def mkE (k:Int) (n:Nat):List Ext:=(List.range n).map fun (j:Nat)=>⟨k+2*(j:Int),k+2*(j:Int)+1⟩
theorem jI (k:Int) (n:Nat):(mkE k n).length=n:=by simp [mkE]
theorem Jp (k:Int) (n:Nat):mkE k (n+1)=mkE k n++[⟨k+2*n,k+2*n+1⟩]:=by simp [mkE,List.range_succ]
theorem S8 (k:Int) {n j:Nat} (h:j<n):(mkE k n)[j]'(by rw [jI];exact h)=⟨k+2*j,k+2*j+1⟩:=by simp [mkE]
def mkT (k:Int) (n:Nat):List Entry:=(List.range n).map fun (j:Nat)=>⟨k+3*(j:Int),k+3*(j:Int)+1,k+3*(j:Int)+1+1⟩
theorem lh (k:Int) (n:Nat):(mkT k n).length=n:=by simp [mkT]
theorem Ln (k:Int) (n:Nat):mkT k (n+1)=mkT k n++[⟨k+3*n,k+3*n+1,k+3*n+1+1⟩]:=by simp [mkT,List.range_succ]
def mkN (k:Int) (n:Nat):List Int:=(List.range n).map fun (j:Nat)=>k+(j:Int)
theorem vG (k:Int) (n:Nat):(mkN k n).length=n:=by simp [mkN]
theorem JY (k:Int) (n:Nat):mkN k (n+1)=mkN k n++[k+(n:Int)]:=by simp [mkN,List.range_succ]
theorem Bs {α:Type} {l:List α} {j:Nat} (h:j<l.length):l.drop j=l[j]::l.drop (j+1):=List.drop_eq_getElem_cons h
theorem JJ {k:Int} {l:List Ext} (h0:0≤k) (h1:k≤1000000000000) (hl:l.length≤1048576):gN k l=some (k+2*l.length,mkE k l.length):=by
 unfold gN
 have key:Loop cj (l,k,0)=some (mkE k l.length,k+2*l.length,(l.length:Int),false):=by
  have:=aI (step:=cj) (fun j=>(mkE k j++l.drop j,k+2*j,(j:Int))) l.length (e:=(mkE k l.length,k+2*l.length,(l.length:Int),false)) (fun j hj=> ?_) ?_
  ·simpa [mkE] using this
  ·have hn:(mkE k j++l.drop j).length=l.length:=by rw [List.length_append,jI,List.length_drop];omega
   simp only [cj]
   rw [hn,brd om,brd om,brd om,Bs hj,Int.toNat_natCast,pY (jI k j),obs,brd om,brd om,nu (jI k j),pY (jI k j),obs,nu (jI k j),ah _ om om,ah _ om om,ah _ om om,Jp,List.append_assoc]
   have:k+2*(j:Int)+1+1=k+2*((j+1:Nat):Int):=by omega
   rw [this];rfl
  ·have hn:(mkE k l.length++l.drop l.length).length=l.length:=by rw [List.length_append,jI,List.length_drop];omega
   simp only [cj]
   rw [hn,brn om,decide_eq_false om,List.drop_length,List.append_nil]
 rw [key];rfl
theorem KI {k:Int} {n:Nat} (h0:0≤k) (h1:k≤1000000000000) (hl:n≤1048576):kC (mkE k n) k=some (k+2*n):=by
 unfold kC
 have hn:=jI k n
 have key:Loop (da (mkE k n)) (k,0)=some (.inr (k+2*n,(n:Int),false)):=by
  have:=aI (step:=da (mkE k n)) (fun j=>(k+2*j,(j:Int))) n (e:= .inr (k+2*n,(n:Int),false)) (fun j hj=> ?_) ?_
  ·simpa using this
  ·simp only [da]
   rw [hn,brd om,fW om,obs,S8 k hj,i6 rfl,obs,ah _ om om,i6 rfl,ah _ om om,ah _ om om]
   have:k+2*(j:Int)+1+1=k+2*((j+1:Nat):Int):=by omega
   rw [this];rfl
  ·simp only [da]
   rw [hn,brn om,decide_eq_false om]
 rw [key];rfl
theorem xx {k:Int} {l:List Entry} (h0:0≤k) (h1:k≤1000000000000) (hl:l.length≤1048576):cU k l=some (k+3*l.length,mkT k l.length):=by
 unfold cU
 have key:Loop bO (l,k,0)=some (mkT k l.length,k+3*l.length,(l.length:Int),false):=by
  have:=aI (step:=bO) (fun j=>(mkT k j++l.drop j,k+3*j,(j:Int))) l.length (e:=(mkT k l.length,k+3*l.length,(l.length:Int),false)) (fun j hj=> ?_) ?_
  ·simpa [mkT] using this
  ·have hn:(mkT k j++l.drop j).length=l.length:=by rw [List.length_append,lh,List.length_drop];omega
   simp only [bO]
   rw [hn,brd om,brd om,brd om,Bs hj,Int.toNat_natCast,pY (lh k j),obs,brd om,brd om,nu (lh k j),pY (lh k j),obs,brd om,brd om,nu (lh k j),pY (lh k j),obs,nu (lh k j),ah _ om om,ah _ om om,ah _ om om,ah _ om om,Ln,List.append_assoc]
   have:k+3*(j:Int)+1+1+1=k+3*((j+1:Nat):Int):=by omega
   rw [this];rfl
  ·have hn:(mkT k l.length++l.drop l.length).length=l.length:=by rw [List.length_append,lh,List.length_drop];omega
   simp only [bO]
   rw [hn,brn om,decide_eq_false om,List.drop_length,List.append_nil]
 rw [key];rfl
theorem Ku {k:Int} {l:List Int} (h0:0≤k) (h1:k≤1000000000000) (hl:l.length≤1048576):gJ k l=some (k+l.length,mkN k l.length):=by
 unfold gJ
 have key:Loop ck (l,k,0)=some (mkN k l.length,k+l.length,(l.length:Int),false):=by
  have:=aI (step:=ck) (fun j=>(mkN k j++l.drop j,k+j,(j:Int))) l.length (e:=(mkN k l.length,k+l.length,(l.length:Int),false)) (fun j hj=> ?_) ?_
  ·simpa [mkN] using this
  ·have hn:(mkN k j++l.drop j).length=l.length:=by rw [List.length_append,vG,List.length_drop];omega
   simp only [ck]
   rw [hn,brd om,brd om,brd om,Bs hj,Int.toNat_natCast,pY (vG k j),obs,nu (vG k j),ah _ om om,ah _ om om,JY,List.append_assoc]
   have:k+(j:Int)+1=k+((j+1:Nat):Int):=by omega
   rw [this];rfl
  ·have hn:(mkN k l.length++l.drop l.length).length=l.length:=by rw [List.length_append,vG,List.length_drop];omega
   simp only [ck]
   rw [hn,brn om,decide_eq_false om,List.drop_length,List.append_nil]
 rw [key];rfl
theorem Nc {a b c k:Int} {A B C:List Entry} (h0:0≤k) (h1:k≤1000000) (hA:A.length≤1048576) (hB:B.length≤1048576) (hC:C.length≤1048576):
 ∃r,hN a b c k A B C=some r∧0≤r.1∧r.1≤100000000:=by
 unfold hN
 rw [xx h0 om hA,obs,xx (by dsimp only;omega) (by dsimp only;omega) hB,obs,xx (by dsimp only;omega) (by dsimp only;omega) hC,obs]
 exact ⟨_,rfl,by dsimp only;omega,by dsimp only;omega⟩
theorem Pj {s:System} (hA:s.A.length≤1048576) (hB:s.B.length≤1048576) (hC:s.C.length≤1048576):dU s=some (s.Rows,s.Cols,s.Publics,s.A,s.B,s.C):=by
 unfold dU
 rw [Ea hA,obs,Ea hB,obs,Ea hC,obs]
end Go.AI.Fn
set_option linter.unusedVariables false
set_option linter.unusedSimpArgs false
namespace Go.AI.Fn
structure Wr (s:System) (t:Setting) (root:List UInt8) (G W:List (List K)) (o:aV):Prop where
 rt:root.length=32
 gl:G.length=s.Rows.toNat
 g4: ∀g∈G,g.length=4
 wl:W.length=s.Cols.toNat
 w3: ∀g∈W,g.length=3
 op:OkO o (s.Cols.toNat-1) t
variable {s:System} {t:Setting} {p:List Int} {src:Source} {root:List UInt8} {G W:List (List K)} {va vb vc vw:K} {o:aV}
end Go.AI.Fn
set_option linter.unusedVariables false
set_option linter.unusedSimpArgs false
namespace Go.AI.Fn
theorem yN {a:Source} {left:Int} (ha:bdSource a) (h0: -1≤left) (h1:left≤1048576): ∃r,kJ a left=some r∧ -1≤r∧r≤1048576∧(0≤r→a.Script.length≤1048576):=by
 obtain ⟨b0,_,b1,_⟩:=ha
 have b1':a.State.length≤9223372036854775807:=b1
 obtain ⟨r,h2,h3,h4,h5⟩:=Cj b0.1 h0 h1
 unfold kJ
 rw [h2,obs]
 by_cases c:r<0
 ·rw [brd c];exact ⟨_,rfl,by omega,by omega,by omega⟩
 ·rw [brn c,ah _ om om]
  by_cases d:r-(a.State.length:Int)<0
  ·rw [brd d];exact ⟨_,rfl,by omega,by omega,by omega⟩
  ·rw [brn d];exact ⟨_,rfl,by omega,by omega,fun _=>h5 om⟩
theorem nU {a:Source} (h:a.Script.length≤1048576):eT a a=some true:=by
 unfold eT
 rw [z4 h,obs,Bool.not_true,aH,i6 rfl,C3 (by simp),i6 rfl]
end Go.AI.Fn
set_option linter.unusedVariables false
namespace Go.AI.Fn
theorem Aw {s:Source} (h:s.Script.length≤1048576):dR s=some (s.At,s.State,s.Count,s.Script):=by
 unfold dR ci
 rw [bL om];rfl
theorem Bz {m m3:Int} {m2 t:List UInt8} {l:List Ext} (hs:m2.length=32) (ht:t.length≤1000000):dH t m m2 m3 l=some (m,H (m2++(I2++(u5 t.length++t))),0,l):=by
 unfold dH
 have hf:[m2,[97,98,115,111,114,98],u5 ((t.length:Nat):Int),t].flatten=m2++(I2++(u5 t.length++t)):=by simp [I2]
 rw [bL om,IW,obs,uu (by rw [hf];simp only [List.length_append,cW,I2,List.length_cons,List.length_nil];omega) (by simp),obs,hf]
theorem Fu {s:System} {t:Setting} {p:List Int} {src:Source} (hA:s.A.length≤1048576) (hB:s.B.length≤1048576) (hC:s.C.length≤1048576) (hp:p.length≤1048576) (hs:src.Script.length≤1048576):
 ∃(c:Int) (q:Source),sJ s t p src=some (q,c)∧md s t p src=some (q.At,q.State,q.Count,c,q.Script)∧q.Script.length≤1000000:=by
 unfold sJ md
 rw [xQ hA hB hC hp hs,obs]
 by_cases c1:p.length>4096
 ·have:stC s t p src=2:=by unfold stC;rw [if_pos c1]
  rw [brd om,this,brb om];exact ⟨2,⟨[],0,[],0⟩,rfl,rfl,by simp⟩
 rw [brn om,DV hp hs,obs]
 by_cases c2:stC s t p src=0
 ·have ok:=Ro c2
  have hl:=ok.fw.1.1
  have hs2:=xU s t p
  have hpl:=ok.pl
  rw [c2,i6 rfl,i6 rfl,yp ok,obs,Mb (by show src.Script.length≤_;omega),obs,Aw hs,obs,ww ok,obs,Bz ok.fw.1.3 om,obs]
  exact ⟨0,tkM src (tQ s t p),rfl,rfl,by show src.Script.length≤_;omega⟩
 ·rw [brb c2,brb c2];exact ⟨_,⟨[],0,[],0⟩,rfl,rfl,by simp⟩
theorem I7 {a:Source} (h:a.Script.length≤1048576):dT a=some (a.At,a.State,a.Count,a.Script):=by
 unfold dT
 rw [CO h,obs]
theorem w9 {a a3 k:Int} {a2:List UInt8} {l:List Ext} (h0:0≤k) (h1:k≤1000000000000) (hl:l.length≤1048576):fk a a2 a3 k l=some (k+2*l.length,mkE k l.length):=by
 unfold fk
 rw [JJ h0 h1 hl];rfl
theorem FS {a a3 k:Int} {a2:List UInt8} {n:Nat} (h0:0≤k) (h1:k≤1000000000000) (hl:n≤1048576):fi ⟨mkE k n,a,a2,a3⟩ k=some (k+2*n):=by
 unfold fi
 rw [KI h0 h1 hl,obs,brn om]
theorem law_FnExactStart (s:System) (t:Setting) (p:List Int) (src:Source) (hs:bdSystem s) (ht:bdSetting t) (hp:bdL bdI p) (hsr:bdSource src):hZ s t p src=some true:=by
 obtain ⟨_,_,_,⟨hA,_⟩,⟨hB,_⟩,⟨hC,_⟩⟩:=hs
 unfold hZ
 by_cases c1:((p.length:Nat):Int)>1048576
 ·rw [brd c1]
 rw [brn c1]
 obtain ⟨r,e1,r0,r1,h1⟩:=Rp (left:=1048576) hA hB hC om om
 rw [e1,obs]
 by_cases c2:r<0
 ·rw [brd c2]
 rw [brn c2]
 obtain ⟨z,e3,z0,z1,h3⟩:=yN hsr r0 r1
 rw [e3,obs]
 by_cases c4:z<0
 ·rw [brd c4]
 rw [brn c4]
 obtain ⟨hA',hB',hC'⟩:=h1 om
 have hS:=h3 om
 have hP:p.length≤1048576:=by omega
 obtain ⟨c,q,i1,i2,i3⟩:=Fu (t:=t) hA' hB' hC' hP hS
 obtain ⟨m,m1,m2,m3⟩:=Nc (a:=s.Rows) (b:=s.Cols) (c:=s.Publics) (k:=1) om om hA' hB' hC'
 unfold gg
 rw [Pj hA' hB' hC',CG hP,I7 hS]
 simp only [obs]
 rw [i1,i2]
 simp only [obs]
 rw [Ra hA' hB' hC',y5 hP,nU hS,nU (a:=q) om,m1]
 simp only [obs,Bool.not_true,aH]
 rw [Ku m2 om hP]
 simp only [obs]
 rw [w9 om om hS,w9 om om (show q.Script.length≤1048576 by omega)]
 simp only [obs]
 rw [jI,FS om om om]
 simp only [obs]
 rw [i6 rfl,brn om,i6 rfl,brd trivial,brn om,i6 rfl,i6 rfl,brd trivial,brn om,i6 rfl]
end Go.AI.Fn
