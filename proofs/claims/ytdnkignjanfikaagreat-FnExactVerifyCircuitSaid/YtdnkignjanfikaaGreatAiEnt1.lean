/- Pieces of a function that ranges over a map, put together: what the range's own memory does not disturb. -/
import Derived.Test.YtdnkignjanfikaaGreatAiEnt0
import Derived.Test.YtdnkignjanfikaaGreatAiCtl
set_option linter.unusedVariables false
set_option linter.unusedSimpArgs false
namespace Go.AI
section
variable {μ:Mu} {h:aZ} {w w2:World} {r:Nat}
structure b0H (r:Nat) (w w2:World):Prop where
 ne: ∀c,c≠r->w2.heap[c]? =w.heap[c]?
 sz:w2.heap.size=w.heap.size
 nc: ∀i,w.cell? ⟨r,i,none⟩=none
theorem b0H.cell (S:b0H r w w2) {c i:Nat} {x:Value} (hx:w.cell? ⟨c,i,none⟩=some x):w2.cell? ⟨c,i,none⟩=some x:=by
 have hc:c≠r:=fun e=>by rw [e,S.nc i] at hx;cases hx
 rw [uf (S.ne c hc)];exact hx
theorem aX.side [Frame] (S:b0H r w w2) (hμ: ∀b,μ b≠some r) {v:V} {x:Value} (hv:aX μ h w v x):aX μ h w2 v x:=by
 induction hv with
 |lit v=>exact .lit v
 |agg cs xs hl hcell hc ih=>exact .agg cs xs hl hcell ih
 |tup vs xs hl hc ih=>exact .tup vs xs hl ih
 |ptr b i o n x k hk hn hx hp hd=>exact .ptr b i o n x k hk hn hx hp hd
 |mp b x k hk hx hm=>exact .mp b x k hk hx hm
 |sl b s n x k hk hn hx hp=>
  refine .sl b s n x k hk hn hx (fun h1 h2=> ?_)
  obtain ⟨a,cap,e,hs⟩:=hp h1 h2
  refine ⟨a,cap,e, ?_⟩
  rcases hs with hs|⟨c,hc1,hc2,hc3,hc4⟩
  ·exact .inl hs
  ·refine .inr ⟨c,hc1,hc2, ?_,hc4⟩
   have hc:c≠r:=fun e=>hμ b (e▸hc1)
   unfold bsize at*
   rw [S.ne c hc];exact hc3
 |emp a=>exact .emp a
 |imm0 e a cap he=>exact .imm0 e a cap he
 |imm e rows c off cap ys he hr hcap hc hs hrow hcell hv ih=>
  exact .imm e rows c off cap ys he hr hcap (by rw [S.sz];exact hc) hs hrow (fun i j hi hj=>S.cell (hcell i j hi hj)) ih
 |iptr row o c off ys hc hs hrow hcell hv ih=>
  exact .iptr row o c off ys (by rw [S.sz];exact hc) hs hrow (fun j hj=>S.cell (hcell j hj)) ih
 |fn f caps xs hl hc ih=>exact .fn f caps xs hl ih
 |unk x=>exact .unk x
theorem bD.side [Frame] (S:b0H r w w2) (hμ: ∀b,μ b≠some r) (H:bD μ h w):bD μ h w2:=by
 refine ⟨H.inj,H.dom,fun b k hk=> ?_,H.rows,H.frame,fun c hc=>by rw [S.sz];exact H.frlt c hc⟩
 rcases H.blk b k hk with h1|⟨h0,c,arr,t,lo,hi,hm,hh,hf,hl,hv⟩|⟨h0,ho,c,hm,hb⟩
 ·exact .inl h1
 ·exact .inr (.inl ⟨h0,c,arr,t,lo,hi,hm,by rw [S.ne c (fun e=>hμ b (e▸hm))];exact hh,hf,hl,fun i row j v h1 h2=>(hv i row j v h1 h2).side S hμ⟩)
 ·exact .inr (.inr ⟨h0,ho,c,hm,hb.keep (S.ne c (fun e=>hμ b (e▸hm)))⟩)
theorem Chg.side [Frame] {μ0:Mu} {h0:aZ} {w0:World} (C:Chg μ0 h0 w0 μ h w) (S:b0H r w w2) (hμ: ∀b,μ b≠some r) (hr:w0.heap.size<=r) (hfr: ∀c,Frame.fr c->c<w0.heap.size) (h1:w2.os=w.os) (h2:w2.tape=w.tape) (h3:w2.output=w.output) (h4:w.drawn<=w2.drawn):Chg μ0 h0 w0 μ h w2:=by
 refine ⟨⟨h1.trans C.ev.os,h2.trans C.ev.tape,h3.trans C.ev.output,by rw [S.sz];exact C.ev.size,ed C.ev.drawn h4,(fun c hc hs=> ?_),fun c hc=> ?_⟩,fun b k hk=> ?_⟩
 ·obtain ⟨g1,g2⟩:=C.ev.keep c hc hs
  exact ⟨(S.ne c (by omega)).trans g1,g2⟩
 ·have:=hfr c hc
  exact (S.ne c (by omega)).trans (C.ev.keepF c hc)
 ·obtain ⟨k',hk',hq⟩:=C.refs b k hk
  refine ⟨k',hk', ?_⟩
  rcases hq with hq|hq|⟨g1,g2,g3,g4,g5⟩
  ·exact .inl hq
  ·exact .inr (.inl hq)
  ·refine .inr (.inr ⟨g1,g2,g3,g4,fun c hc=> ?_⟩)
   rw [<-g5 c hc]
   unfold bsize
   rw [S.ne c (fun e=>hμ b (by rw [g4,hc,e]))]
end
def a8a (n:Nat) (seen:List Nat):Nat:=(List.range n).countP (fun i=>decide (i∉seen))
theorem a8E {p q:Nat->Bool} (hpq: ∀x,q x=true->p x=true) {j:Nat} (hp:p j=true) (hq:q j=false): ∀{l:List Nat},j∈l->l.countP q<l.countP p
 |x::l,hj=>by
  have hle: ∀l:List Nat,l.countP q<=l.countP p:=fun l=>List.countP_mono_left (fun x _ h=>hpq x h)
  rcases bc.1 hj with rfl|hj
  ·simp only [oz,hp,hq,if_true,bA,if_false]
   have:=hle l;omega
  ·have:=a8E hpq hp hq hj
   simp only [oz]
   cases hqx:q x with
   |true=>rw [hpq x hqx];simp only [if_true];omega
   |false=>simp only [bA,if_false];omega
theorem b7F {n j:Nat} {seen:List Nat} (hj:j<n) (hs:j∉seen):a8a n (seen++[j])<a8a n seen:=
 a8E (fun x h=>by simp at h ⊢;exact h.1) (j:=j) (by simpa using hs) (by simp) (bX.2 hj)
def nzT (t:Tri):Bool:=t.2.2 !=0
def ww (L:List Tri) (seen:List Nat):List Tri:=(seen.filterMap fun i=>L[i]?).filter nzT
theorem b2g {L:List Tri} {seen:List Nat} {j:Nat} {t:Tri} (ht:L[j]? =some t):ww L (seen++[j])=if nzT t=true then ww L seen++[t] else ww L seen:=by
 unfold ww
 rw [List.filterMap_append,List.filter_append]
 simp only [List.filterMap_cons,List.filterMap_nil,ht,kn,pM]
 split<;>simp
theorem a3v (L:List Tri): ∀seen:List Nat,(ww L seen).length<=seen.length:=fun seen=>
 ed (List.length_filter_le _ _) (List.length_filterMap_le _ _)
theorem a9T: ∀(L:List Tri),(List.range L.length).filterMap (fun i=>L[i]?)=L:=by
 intro L
 have: ∀(n:Nat),n<=L.length->(List.range n).filterMap (fun i=>L[i]?)=L.take n:=by
  intro n
  induction n with
  |zero=>intro _;simp
  |succ n ih=>
   intro h
   rw [gN,List.filterMap_append,ih (by omega)]
   have:L[n]? =some L[n]:=aq (by omega)
   simp only [List.filterMap_cons,List.filterMap_nil,this]
   rw [List.take_add_one,this];rfl
 rw [this L.length (aw _)];simp
theorem a4a {L:List Tri} {seen:List Nat} (hn:seen.Nodup) (hs: ∀i∈seen,i<L.length) (ha: ∀i,i<L.length->i∈seen):(ww L seen).Perm (L.filter nzT):=by
 have hp:seen.Perm (List.range L.length):=(List.perm_ext_iff_of_nodup hn List.nodup_range).2 (fun a=>⟨fun h=>bX.2 (hs a h),fun h=>ha a (bX.1 h)⟩)
 have:=(hp.filterMap (fun i=>L[i]?)).filter nzT
 rwa [a9T] at this
theorem Mw {L:List Tri} (p:Tri->Bool) (h:mW L=true):mW (L.filter p)=true:=tW ((rk h).filter p)
theorem a2u {n:Nat} {seen:List Nat} (hn:seen.Nodup) (hs: ∀i∈seen,i<n):seen.length<=n:=by
 have hp:seen.Perm ((List.range n).filter (fun i=>decide (i∈seen))):=(List.perm_ext_iff_of_nodup hn (List.nodup_range.filter _)).2 (fun a=>by
  simp only [j4,bX,aG]
  exact ⟨fun h=>⟨hs a h,h⟩,fun h=>h.2⟩)
 have h1:=hp.length_eq
 have h2:=List.length_filter_le (fun i=>decide (i∈seen)) (List.range n)
 simp at h2
 omega
section
variable {P:Program} {T:Tab} {ow:en} {n:Nat} {hn:IW}
theorem Eh [Frame] (hT:A9 P T) (hm:P.follows .mixedOrders=true) {μ0:Mu} {h0:aZ} {w0:World} {c:Code} {ac:aP} {st st':St} {e:bT} {μ:Mu} {a:Act} {w:World} {Q:Exit->Act->World->Prop}
 (hc:fx P n hn c=some ac) (he:ir T ow ac st=some (e,st')) (I:Inv n st.get st.heap μ a w) (S:lr μ0 h0 w0 μ st.heap w)
 (K: ∀μ' a' w',Inv n st'.get st'.heap μ' a' w'->lr μ0 h0 w0 μ' st'.heap w'->Q e.real a' w'):c.wp P Q a w:=by
 obtain ⟨k,hk⟩:=kx he
 exact Tz (AV hT k) hm k c ac st st' e μ a w Q hc hk I S K
theorem Inv.weak [Frame] {f g:Nat->V} {h:aZ} {μ:Mu} {a:Act} {w:World} (I:Inv n f h μ a w) (hg: ∀t,g t=f t\/g t= .undef):Inv n g h μ a w:=
 ⟨I.H,fun t=>by
   rcases hg t with e|e
   ·rw [e];exact I.E t
   ·rw [e];exact .unk _,I.sz,I.df⟩
end
end Go.AI
