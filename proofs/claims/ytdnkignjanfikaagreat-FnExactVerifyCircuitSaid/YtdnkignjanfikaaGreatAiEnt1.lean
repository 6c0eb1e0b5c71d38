/- Part. -/
import Derived.Test.YtdnkignjanfikaaGreatAiEnt0
set_option linter.unusedVariables false
set_option linter.unusedSimpArgs false
namespace Go.AI
section
variable {μ:Mu} {h:b8} {w w2:World} {r:Nat}
structure a8J (r:Nat) (w w2:World):Prop where
 ne: ∀c,c≠r->w2.heap[c]? =w.heap[c]?
 sz:w2.heap.size=w.heap.size
 nc: ∀i,w.cell? ⟨r,i,none⟩=none
theorem a8J.cell (S:a8J r w d) {c i:Nat} {x:Value} (a:w.cell? ⟨c,i,none⟩=some x):d.cell? ⟨c,i,none⟩=some x:=by
 b f:c≠r:=fun e=>by rw [e,S.nc i] at a;cases a
 rw [tA (S.ne c f)];exact a
theorem aY.side [Frame] (S:a8J r w w2) (hμ: ∀b,μ b≠some r) {v:V} {x:Value} (hv:aY μ h w v x):aY μ h w2 v x:=by
 induction hv with
 |lit v=>exact .lit v
 |agg cs xs q d m ih=>exact .agg cs xs q d ih
 |tup vs xs q m ih=>exact .tup vs xs q ih
 |ptr b i o n x k t hn u hp hd=>exact .ptr b i o n x k t hn u hp hd
 |mp b x k t u hm=>exact .mp b x k t u hm
 |sl b s n x k t hn u hp=>
  refine .sl b s n x k t hn u (fun h1 h2=> ?_)
  obtain ⟨a,cap,e,p⟩:=hp h1 h2
  refine ⟨a,cap,e, ?_⟩
  rcases p with p|⟨c,y,hc2,hc3,hc4⟩
  ·exact .inl p
  ·refine .inr ⟨c,y,hc2, ?_,hc4⟩
   have m:c≠r:=fun e=>hμ b (e▸y)
   unfold bsize at*
   rw [S.ne c m];exact hc3
 |emp a=>exact .emp a
 |imm0 e a cap he=>exact .imm0 e a cap he
 |imm e rows c off cap ys he hr z m p l d hv ih=>
  exact .imm e rows c off cap ys he hr z (by rw [S.sz];exact m) p l (fun i j hi hj=>S.cell (d i j hi hj)) ih
 |iptr row o c off ys m p l d hv ih=>
  exact .iptr row o c off ys (by rw [S.sz];exact m) p l (fun j hj=>S.cell (d j hj)) ih
 |fn f caps xs q m ih=>exact .fn f caps xs q ih
 |unk x=>exact .unk x
theorem bB.side [Frame] (S:a8J r w f) (hμ: ∀b,μ b≠some r) (H:bB μ h w):bB μ h f:=by
 refine ⟨H.inj,H.dom,fun b k l=> ?_,H.rows,H.frame,fun c m=>by rw [S.sz];exact H.frlt c m⟩
 rcases H.blk b k l with d|⟨h0,c,arr,t,lo,hi,a,n,o,p,q⟩|⟨h0,s,c,a,u⟩
 ·exact .inl d
 ·exact .inr (.inl ⟨h0,c,arr,t,lo,hi,a,by rw [S.ne c (fun e=>hμ b (e▸a))];exact n,o,p,fun i row j v d x=>(q i row j v d x).side S hμ⟩)
 ·exact .inr (.inr ⟨h0,s,c,a,u.keep (S.ne c (fun e=>hμ b (e▸a)))⟩)
theorem Chg.side [Frame] {μ0:Mu} {h0:b8} {w0:World} (C:Chg μ0 h0 w0 μ h w) (S:a8J r w d) (hμ: ∀b,μ b≠some r) (z:w0.heap.size<=r) (i: ∀c,Frame.fr c->c<w0.heap.size) (p:d.os=w.os) (q:d.tape=w.tape) (s:d.output=w.output) (t:w.drawn<=d.drawn):Chg μ0 h0 w0 μ h d:=by
 refine ⟨⟨p.trans C.ev.os,q.trans C.ev.tape,s.trans C.ev.output,by rw [S.sz];exact C.ev.size,e7 C.ev.drawn t,(fun c a u=> ?_),fun c a=> ?_⟩,fun b k v=> ?_⟩
 ·obtain ⟨j,l⟩:=C.ev.keep c a u
  exact ⟨(S.ne c (by omega)).trans j,l⟩
 ·n:=i c a
  exact (S.ne c (by omega)).trans (C.ev.keepF c a)
 ·obtain ⟨k',m,f⟩:=C.refs b k v
  refine ⟨k',m, ?_⟩
  rcases f with f|f|⟨j,l,x,o,y⟩
  ·exact .inl f
  ·exact .inr (.inl f)
  ·refine .inr (.inr ⟨j,l,x,o,fun c a=> ?_⟩)
   rw [<-y c a]
   unfold bsize
   rw [S.ne c (fun e=>hμ b (by rw [o,a,e]))]
end
def a7F (n:Nat) (seen:List Nat):Nat:=(List.range n).countP (fun i=>decide (i∉seen))
theorem a6w {p q:Nat->Bool} (b: ∀x,q x=true->p x=true) {j:Nat} (f:p j=true) (i:q j=false): ∀{l:List Nat},j∈l->l.countP q<l.countP p
 |x::l,c=>by
  a d: ∀l:List Nat,l.countP q<=l.countP p:=fun l=>List.countP_mono_left (fun x _ h=>b x h)
  rcases b9.1 c with rfl|c
  ·simp only [nP,f,i,if_true,bx,if_false]
   a:=d l;omega
  ·a:=a6w b f i c
   simp only [nP]
   cases e:q x with
   |true=>rw [b x e];simp only [if_true];omega
   |false=>simp only [bx,if_false];omega
theorem b8v {n j:Nat} {seen:List Nat} (a:j<n) (b:j∉seen):a7F n (seen++[j])<a7F n seen:=
 a6w (fun x h=>by simp at h ⊢;exact h.1) (j:=j) (by simpa using b) (by simp) (bU.2 a)
def nzT (t:Tri):Bool:=t.2.2 !=0
def uY (L:List Tri) (seen:List Nat):List Tri:=(seen.filterMap fun i=>L[i]?).filter nzT
theorem b1W {L:List Tri} {seen:List Nat} {j:Nat} {t:Tri} (a:L[j]? =some t):uY L (seen++[j])=if nzT t=true then uY L seen++[t] else uY L seen:=by
 unfold uY
 rw [List.filterMap_append,List.filter_append]
 simp only [List.filterMap_cons,List.filterMap_nil,a,kf,p6]
 split<;>simp
theorem a0E (L:List Tri): ∀seen:List Nat,(uY L seen).length<=seen.length:=fun seen=>
 e7 (List.length_filter_le _ _) (List.length_filterMap_le _ _)
theorem a7S: ∀(L:List Tri),(List.range L.length).filterMap (fun i=>L[i]?)=L:=by
 intro L
 a: ∀(n:Nat),n<=L.length->(List.range n).filterMap (fun i=>L[i]?)=L.take n:=by
  intro n
  induction n with
  |zero=>intro _;simp
  |succ n ih=>
   intro h
   rw [gB,List.filterMap_append,ih (by omega)]
   a:L[n]? =some L[n]:=aq (by omega)
   simp only [List.filterMap_cons,List.filterMap_nil,this]
   rw [List.take_add_one,this];rfl
 rw [this L.length (aw _)];simp
theorem a0R {L:List Tri} {seen:List Nat} (c:seen.Nodup) (d: ∀i∈seen,i<L.length) (e: ∀i,i<L.length->i∈seen):(uY L seen).Perm (L.filter nzT):=by
 b f:seen.Perm (List.range L.length):=(List.perm_ext_iff_of_nodup c List.nodup_range).2 (fun a=>⟨fun h=>bU.2 (d a h),fun h=>e a (bU.1 h)⟩)
 b:=(f.filterMap (fun i=>L[i]?)).filter nzT
 rwa [a7S] at this
theorem KE {L:List Tri} (p:Tri->Bool) (h:ms L=true):ms (L.filter p)=true:=tm ((qM h).filter p)
theorem a2i {n:Nat} {seen:List Nat} (c:seen.Nodup) (d: ∀i∈seen,i<n):seen.length<=n:=by
 b e:seen.Perm ((List.range n).filter (fun i=>decide (i∈seen))):=(List.perm_ext_iff_of_nodup c (List.nodup_range.filter _)).2 (fun a=>by
   simp only [iW,bU,aC]
   exact ⟨fun h=>⟨d a h,h⟩,fun h=>h.2⟩)
 b j:=e.length_eq
 b f:=List.length_filter_le (fun i=>decide (i∈seen)) (List.range n)
 simp at f
 omega
section
variable {P:Program} {T:Tab} {ow:ec} {n:Nat} {hn:Im}
theorem CZ [Frame] (b:Ad P T) (d:P.follows .mixedOrders=true) {μ0:Mu} {h0:b8} {w0:World} {c:Code} {ac:aQ} {st st':St} {e:bR} {μ:Mu} {a:Act} {w:World} {Q:Exit->Act->World->Prop}
 (f:fk P n j c=some ac) (h:il T ow ac st=some (e,st')) (I:Inv n st.get st.heap μ a w) (S:l8 μ0 h0 w0 μ st.heap w)
 (K: ∀μ' a' w',Inv n st'.get st'.heap μ' a' w'->l8 μ0 h0 w0 μ' st'.heap w'->Q e.real a' w'):c.wp P Q a w:=by
 obtain ⟨k,i⟩:=kh h
 exact SF (Ao b k) d k c ac st st' e μ a w Q f i I S K
theorem Inv.weak [Frame] {f g:Nat->V} {h:b8} {μ:Mu} {a:Act} {w:World} (I:Inv n f h μ a w) (b: ∀t,g t=f t\/g t= .undef):Inv n g h μ a w:=
 ⟨I.H,fun t=>by
   rcases b t with e|e
   ·rw [e];exact I.E t
   ·rw [e];exact .unk _,I.sz,I.df⟩
end
end Go.AI
