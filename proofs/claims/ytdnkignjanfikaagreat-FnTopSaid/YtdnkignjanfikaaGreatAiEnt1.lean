/- Part. -/
import Derived.Test.YtdnkignjanfikaaGreatAiEnt0
set_option linter.unusedVariables false
set_option linter.unusedSimpArgs false
namespace Go.AI
section
variable {μ:Mu} {h:ba} {w w2:World} {r:Nat}
structure a8y (r:Nat) (w w2:World):Prop where
 ne: ∀c,c≠r->w2.heap[c]? =w.heap[c]?
 sz:w2.heap.size=w.heap.size
 nc: ∀i,w.cell? ⟨r,i,none⟩=none
theorem a8y.cell (S:a8y r w w2) {c i:Nat} {x:Value} (a:w.cell? ⟨c,i,none⟩=some x):w2.cell? ⟨c,i,none⟩=some x:=by
 have hc:c≠r:=fun e=>by rw [e,S.nc i] at a;cases a
 rw [ww (S.ne c hc)];exact a
theorem b7.side [Frame] (S:a8y r w w2) (hμ: ∀b,μ b≠some r) {v:V} {x:Value} (z:b7 μ h w v x):b7 μ h w2 v x:=by
 induction z with
 |lit v=>exact .lit v
 |agg cs xs p d hc ih=>exact .agg cs xs p d ih
 |tup vs xs p hc ih=>exact .tup vs xs p ih
 |ptr b i o n x k q hn t hp hd=>exact .ptr b i o n x k q hn t hp hd
 |mp b x k q t hm=>exact .mp b x k q t hm
 |sl b s n x k q hn t hp=>
  refine .sl b s n x k q hn t (fun h1 h2=> ?_)
  obtain ⟨a,cap,e,m⟩:=hp h1 h2
  refine ⟨a,cap,e, ?_⟩
  rcases m with m|⟨c,u,hc2,hc3,hc4⟩
  ·exact .inl m
  ·refine .inr ⟨c,u,hc2, ?_,hc4⟩
   have hc:c≠r:=fun e=>hμ b (e▸u)
   unfold bsize at*
   rw [S.ne c hc];exact hc3
 |emp a=>exact .emp a
 |imm0 e a cap he=>exact .imm0 e a cap he
 |imm e rows c off cap ys he hr y hc m l d z ih=>
  exact .imm e rows c off cap ys he hr y (by rw [S.sz];exact hc) m l (fun i j hi hj=>S.cell (d i j hi hj)) ih
 |iptr row o c off ys hc m l d z ih=>
  exact .iptr row o c off ys (by rw [S.sz];exact hc) m l (fun j hj=>S.cell (d j hj)) ih
 |fn f caps xs p hc ih=>exact .fn f caps xs p ih
 |unk x=>exact .unk x
theorem bG.side [Frame] (S:a8y r w w2) (hμ: ∀b,μ b≠some r) (H:bG μ h w):bG μ h w2:=by
 refine ⟨H.inj,H.dom,fun b k f=> ?_,H.rows,H.frame,fun c hc=>by rw [S.sz];exact H.frlt c hc⟩
 rcases H.blk b k f with d|⟨h0,c,arr,t,lo,hi,a,l,m,n,o⟩|⟨h0,p,c,a,q⟩
 ·exact .inl d
 ·exact .inr (.inl ⟨h0,c,arr,t,lo,hi,a,by rw [S.ne c (fun e=>hμ b (e▸a))];exact l,m,n,fun i row j v d s=>(o i row j v d s).side S hμ⟩)
 ·exact .inr (.inr ⟨h0,p,c,a,q.keep (S.ne c (fun e=>hμ b (e▸a)))⟩)
theorem Chg.side [Frame] {μ0:Mu} {h0:ba} {w0:World} (C:Chg μ0 h0 w0 μ h w) (S:a8y r w w2) (hμ: ∀b,μ b≠some r) (v:w0.heap.size<=r) (d: ∀c,Frame.fr c->c<w0.heap.size) (m:w2.os=w.os) (n:w2.tape=w.tape) (o:w2.output=w.output) (p:w.drawn<=w2.drawn):Chg μ0 h0 w0 μ h w2:=by
 refine ⟨⟨m.trans C.ev.os,n.trans C.ev.tape,o.trans C.ev.output,by rw [S.sz];exact C.ev.size,fT C.ev.drawn p,(fun c hc q=> ?_),fun c hc=> ?_⟩,fun b k s=> ?_⟩
 ·obtain ⟨f,i⟩:=C.ev.keep c hc q
  exact ⟨(S.ne c om).trans f,i⟩
 ·have:=d c hc
  exact (S.ne c om).trans (C.ev.keepF c hc)
 ·obtain ⟨k',j,a⟩:=C.refs b k s
  refine ⟨k',j, ?_⟩
  rcases a with a|a|⟨f,i,t,l,u⟩
  ·exact .inl a
  ·exact .inr (.inl a)
  ·refine .inr (.inr ⟨f,i,t,l,fun c hc=> ?_⟩)
   rw [<-u c hc]
   unfold bsize
   rw [S.ne c (fun e=>hμ b (by rw [l,hc,e]))]
end
def a5t (n:Nat) (seen:List Nat):Nat:=(List.range n).countP (fun i=>decide (i∉seen))
theorem a5Z {p q:Nat->Bool} (a: ∀x,q x=true->p x=true) {j:Nat} (e:p j=true) (f:q j=false): ∀{l:List Nat},j∈l->l.countP q<l.countP p
 |x::l,b=>by
  have c: ∀l:List Nat,l.countP q<=l.countP p:=fun l=>List.countP_mono_left (fun x _ h=>a x h)
  rcases aW.1 b with rfl|b
  ·simp only [rC,e,f,if_true,bC,if_false]
   have:=c l;omega
  ·have:=a5Z a e f b
   simp only [rC]
   cases d:q x with
   |true=>rw [a x d];simp only [if_true];omega
   |false=>simp only [bC,if_false];omega
theorem b86 {n j:Nat} {seen:List Nat} (a:j<n) (b:j∉seen):a5t n (seen++[j])<a5t n seen:=
 a5Z (fun x h=>by simp at h ⊢;exact h.1) (j:=j) (by simpa using b) sm (bS.2 a)
def nzT (t:Tri):Bool:=t.2.2 !=0
def yh (L:List Tri) (seen:List Nat):List Tri:=(seen.filterMap fun i=>L[i]?).filter nzT
theorem b4x {L:List Tri} {seen:List Nat} {j:Nat} {t:Tri} (a:L[j]? =some t):yh L (seen++[j])=if nzT t=true then yh L seen++[t] else yh L seen:=by
 unfold yh
 rw [List.filterMap_append,List.filter_append]
 simp only [List.filterMap_cons,List.filterMap_nil,a,mD,sO]
 split<;>simp
theorem YS (L:List Tri): ∀seen:List Nat,(yh L seen).length<=seen.length:=fun seen=>
 fT (List.length_filter_le _ _) (List.length_filterMap_le _ _)
theorem a94: ∀(L:List Tri),(List.range L.length).filterMap (fun i=>L[i]?)=L:=by
 intro L
 have: ∀(n:Nat),n<=L.length->(List.range n).filterMap (fun i=>L[i]?)=L.take n:=by
  intro n
  induction n with
  |zero=>intro _;simp
  |succ n ih=>
   intro h
   rw [dY,List.filterMap_append,ih om]
   have:L[n]? =some L[n]:=aq om
   simp only [List.filterMap_cons,List.filterMap_nil,this]
   rw [List.take_add_one,this];rfl
 rw [this L.length (am _)];simp
theorem YW {L:List Tri} {seen:List Nat} (hn:seen.Nodup) (b: ∀i∈seen,i<L.length) (c: ∀i,i<L.length->i∈seen):(yh L seen).Perm (L.filter nzT):=by
 have d:seen.Perm (List.range L.length):=(List.perm_ext_iff_of_nodup hn List.nodup_range).2 (fun a=>⟨fun h=>bS.2 (b a h),fun h=>c a (bS.1 h)⟩)
 have:=(d.filterMap (fun i=>L[i]?)).filter nzT
 rwa [a94] at this
theorem Mj {L:List Tri} (p:Tri->Bool) (h:pa L=true):pa (L.filter p)=true:=wV ((uk h).filter p)
theorem YB {n:Nat} {seen:List Nat} (hn:seen.Nodup) (b: ∀i∈seen,i<n):seen.length<=n:=by
 have c:seen.Perm ((List.range n).filter (fun i=>decide (i∈seen))):=(List.perm_ext_iff_of_nodup hn (List.nodup_range.filter _)).2 (fun a=>by
  simp only [k8,bS,aA]
  exact ⟨fun h=>⟨b a h,h⟩,fun h=>h.2⟩)
 have e:=c.length_eq
 have d:=List.length_filter_le (fun i=>decide (i∈seen)) (List.range n)
 simp at d
 omega
section
variable {P:Program} {T:Tab} {ow:ff} {n:Nat} {hn:Jt}
theorem Ee [Frame] (b:Bn P T) (d:P.follows .mixedOrders=true) {μ0:Mu} {h0:ba} {w0:World} {c:Code} {ac:aU} {st st':St} {e:dd} {μ:Mu} {a:Act} {w:World} {Q:Exit->Act->World->Prop}
 (hc:ge P n hn c=some ac) (f:ji T ow ac st=some (e,st')) (I:Inv n st.get st.heap μ a w) (S:nX μ0 h0 w0 μ st.heap w)
 (K: ∀μ' a' w',Inv n st'.get st'.heap μ' a' w'->nX μ0 h0 w0 μ' st'.heap w'->Q e.real a' w'):c.wp P Q a w:=by
 obtain ⟨k,h⟩:=mz f
 exact RG (C0 b k) d k c ac st st' e μ a w Q hc h I S K
theorem Inv.weak [Frame] {f g:Nat->V} {h:ba} {μ:Mu} {a:Act} {w:World} (I:Inv n f h μ a w) (b: ∀t,g t=f t\/g t= .undef):Inv n g h μ a w:=
 ⟨I.H,fun t=>by
   rcases b t with e|e
   ·rw [e];exact I.E t
   ·rw [e];exact .unk _,I.sz,I.df⟩
end
end Go.AI
