/- What the program and the reference say of an opening: all of it. -/
import Derived.Test.YtdmhkkcihecndaaGreatPv1
import Derived.Test.YtdmhkkcihecndaaGreatPv0
set_option linter.unusedVariables false
set_option linter.unusedSimpArgs false
namespace Go.AI.Fn
variable {o:au} {v ρ nq bits:Nat} {t:Setting} {root:List UInt8} {D P:List K} {s:Source} {k:Int}
theorem TL {c21 c22 c23 c24 c25 c33 c35 c36 c38 c39 c40:Int} {c32:List Ext} {c34 c37:List UInt8} (h:OkO o v t) (e1:t.Rate=(ρ:Int)) (hD:D.length=v): ∀(ps:List Int) (qs:List aj) (preP:List Int) (preQ:List aj),o.Queries=preQ++qs→preP.length=preQ.length→ps.length=qs.length→preP.length+ps.length≤100→(∀p∈ps,0≤p∧p<512)→
 (qsC (toK o.Last) (v+ρ) (root::o.Roots) D ps qs=0→Loop (eU (root::o.Roots) (kv D) (v:Int) ((2^(v+ρ):Nat):Int) (preP++ps) c21 c22 c23 c24 c25 o.Rounds o.Roots o.Last.A o.Last.B o.Nonce o.Queries c32 c33 c34 c35 c36 c37 c38 c39 c40) (preP.length:Int)=some (.inr (((preP++ps).length:Int),false)))∧
 (qsC (toK o.Last) (v+ρ) (root::o.Roots) D ps qs≠0→Loop (eU (root::o.Roots) (kv D) (v:Int) ((2^(v+ρ):Nat):Int) (preP++ps) c21 c22 c23 c24 c25 o.Rounds o.Roots o.Last.A o.Last.B o.Nonce o.Queries c32 c33 c34 c35 c36 c37 c38 c39 c40) (preP.length:Int)=some (.inl (qsC (toK o.Last) (v+ρ) (root::o.Roots) D ps qs)))
 |[],qs,preP,preQ,hQ,h1,h2,h3,hp=>by
  refine ⟨fun _=>bA ?_,fun h=>absurd (by cases qs<;>rfl) h⟩
  simp only [eU]
  rw [List.append_nil,brn om,decide_eq_false om]
 |p::ps,[],preP,preQ,hQ,h1,h2,h3,hp=>by simp at h2
 |p::ps,q::qs,preP,preQ,hQ,h1,h2,h3,hp=>by
  rw [List.length_cons] at h3
  have hp0:=hp p (by simp)
  have hm:q∈o.Queries:=by rw [hQ];simp
  have hq:=a2V (root:=root) h e1 hD hm hp0.1 hp0.2
  have ih:=TL (c21:=c21) (c22:=c22) (c23:=c23) (c24:=c24) (c25:=c25) (c32:=c32) (c33:=c33) (c34:=c34) (c35:=c35) (c36:=c36) (c37:=c37) (c38:=c38) (c39:=c39) (c40:=c40) h e1 hD ps qs (preP++[p]) (preQ++[q]) (by rw [hQ];simp) (by simp [h1]) (by simpa using h2) (by rw [List.length_append,List.length_singleton];omega) (fun x hx=>hp x (by simp [hx]))
  rw [List.append_assoc,List.singleton_append,show (preP++[p]).length=preP.length+1 by simp] at ih
  have hs:eU (root::o.Roots) (kv D) (v:Int) ((2^(v+ρ):Nat):Int) (preP++p::ps) c21 c22 c23 c24 c25 o.Rounds o.Roots o.Last.A o.Last.B o.Nonce o.Queries c32 c33 c34 c35 c36 c37 c38 c39 c40 (preP.length:Int)=
   br (qcK (toK o.Last) (v+ρ) (root::o.Roots) (q.Pairs.map toK) q.Paths D p.toNat none !=0) (some (.inr (.inl (qcK (toK o.Last) (v+ρ) (root::o.Roots) (q.Pairs.map toK) q.Paths D p.toNat none)))) (some (.inl ((preP.length+1:Nat):Int))):=by
   simp only [eU]
   rw [brd (by rw [List.length_append,List.length_cons];omega),jP rfl,obs,show atL o.Queries (preP.length:Int)=some q by rw [hQ];exact jP om,obs,show au.mk o.Rounds o.Roots (Ext.mk o.Last.A o.Last.B) o.Nonce o.Queries=o from rfl,hq,obs,aa _ om om];rfl
  rw [qsC]
  by_cases hz:qcK (toK o.Last) (v+ρ) (root::o.Roots) (q.Pairs.map toK) q.Paths D p.toNat none=0
  ·rw [if_pos hz]
   rw [cZ hz] at hs
   rw [bn hs];exact ih
  ·rw [if_neg hz]
   rw [brb hz] at hs
   exact ⟨fun h=>absurd h hz,fun _=>bA hs⟩
theorem TQ {c2 c4 c5 c6 c7 c8 c9 c16 c17 c18 N:Int} {c:List Ext} {c3:List UInt8} (h:OkO o v t) (e1:t.Rate=(ρ:Int)) (hD:D.length=v): ∀(ps:List Int) (qs:List aj) (preP:List Int) (preQ:List aj),o.Queries=preQ++qs→preP.length=preQ.length→ps.length=qs.length→preP.length+ps.length≤100→(∀p∈ps,0≤p∧p<512)→N=((preP++ps).length:Int)→
 (qsC (toK o.Last) (v+ρ) (root::o.Roots) D ps qs=0→Loop (cM (root::o.Roots) (kv D) ((2^(v+ρ):Nat):Int) (preP++ps) N c c2 c3 c4 c5 c6 c7 c8 c9 o.Rounds o.Roots o.Last.A o.Last.B o.Nonce o.Queries c16 c17 c18) (preP.length:Int)=some (.inr (N,false)))∧
 (qsC (toK o.Last) (v+ρ) (root::o.Roots) D ps qs≠0→Loop (cM (root::o.Roots) (kv D) ((2^(v+ρ):Nat):Int) (preP++ps) N c c2 c3 c4 c5 c6 c7 c8 c9 o.Rounds o.Roots o.Last.A o.Last.B o.Nonce o.Queries c16 c17 c18) (preP.length:Int)=some (.inl (qsC (toK o.Last) (v+ρ) (root::o.Roots) D ps qs)))
 |[],qs,preP,preQ,hQ,h1,h2,h3,hp,hN=>by
  rw [List.append_nil] at hN
  refine ⟨fun _=>bA ?_,fun h=>absurd (by cases qs<;>rfl) h⟩
  simp only [cM]
  rw [brn om,decide_eq_false om,hN]
 |p::ps,[],preP,preQ,hQ,h1,h2,h3,hp,hN=>by simp at h2
 |p::ps,q::qs,preP,preQ,hQ,h1,h2,h3,hp,hN=>by
  rw [List.length_cons] at h3
  have hp0:=hp p (by simp)
  have hm:q∈o.Queries:=by rw [hQ];simp
  have hq:=a1Z (root:=root) h e1 hD hm hp0.1 hp0.2
  have ih:=TQ (N:=N) (c:=c) (c2:=c2) (c3:=c3) (c4:=c4) (c5:=c5) (c6:=c6) (c7:=c7) (c8:=c8) (c9:=c9) (c16:=c16) (c17:=c17) (c18:=c18) h e1 hD ps qs (preP++[p]) (preQ++[q]) (by rw [hQ];simp) (by simp [h1]) (by simpa using h2) (by rw [List.length_append,List.length_singleton];omega) (fun x hx=>hp x (by simp [hx])) (by rw [hN];simp)
  rw [List.append_assoc,List.singleton_append,show (preP++[p]).length=preP.length+1 by simp] at ih
  have hs:cM (root::o.Roots) (kv D) ((2^(v+ρ):Nat):Int) (preP++p::ps) N c c2 c3 c4 c5 c6 c7 c8 c9 o.Rounds o.Roots o.Last.A o.Last.B o.Nonce o.Queries c16 c17 c18 (preP.length:Int)=
   br (qcK (toK o.Last) (v+ρ) (root::o.Roots) (q.Pairs.map toK) q.Paths D p.toNat none !=0) (some (.inr (.inl (qcK (toK o.Last) (v+ρ) (root::o.Roots) (q.Pairs.map toK) q.Paths D p.toNat none)))) (some (.inl ((preP.length+1:Nat):Int))):=by
   simp only [cM]
   rw [brd (by rw [hN,List.length_append,List.length_cons];omega),jP rfl,obs,show atL o.Queries (preP.length:Int)=some q by rw [hQ];exact jP om,obs,show au.mk o.Rounds o.Roots (Ext.mk o.Last.A o.Last.B) o.Nonce o.Queries=o from rfl,hq,obs,aa _ om om];rfl
  rw [qsC]
  by_cases hz:qcK (toK o.Last) (v+ρ) (root::o.Roots) (q.Pairs.map toK) q.Paths D p.toNat none=0
  ·rw [if_pos hz]
   rw [cZ hz] at hs
   rw [bn hs];exact ih
  ·rw [if_neg hz]
   rw [brb hz] at hs
   exact ⟨fun h=>absurd h hz,fun _=>bA hs⟩
def Ds (o:au):List (List K):=o.Rounds.map fun g=>g.map toK
theorem a41 (h:OkO o v t):kvv (Ds o)=o.Rounds:=by
 rw [kvv,Ds,List.map_map]
 refine (List.map_congr_left fun g hg=> ?_).trans (List.map_id _)
 exact b6I (h.rr g hg).2
end Go.AI.Fn
set_option linter.unusedVariables false
set_option linter.unusedSimpArgs false
namespace Go.AI.Fn
variable {o:au} {v ρ nq bits:Nat} {t:Setting} {root:List UInt8} {P:List K} {cl:K} {s:Source} {k:Int}
noncomputable def vfO (v:Nat) (o:au) (cl:K) (s:Source):Int×List K×K×Source:=vfM 1 (bvO v o.Roots) (Ds o) 0 cl s
noncomputable def chO (v ρ nq bits:Nat) (root:List UInt8) (P:List K) (cl:K) (o:au) (s:Source):Int:=chC (v+ρ) bits nq root P o.Roots (toK o.Last) o.Nonce o.Queries (vfO v o cl s)
theorem a2f (h:OkO o v t) (hP:P.length=v) (e1:t.Rate=(ρ:Int)) (e2:t.Queries=(nq:Int)) (e3:t.Grind=(bits:Int)) (hf:Few s k) (hk:k≤999850):
 ∃src,tV root (v:Int) (kv P) cl.1 t o s=some (src,chO v ρ nq bits root P cl o s)∧(chO v ρ nq bits root P cl o s=0→src=chS nq (toK o.Last) o.Nonce (vfO v o cl s)):=by
 have hs:=hG h.st
 have hv:=h.v1
 have hro:=h.ro
 have hrn:=h.rn
 have hqn:=h.qn
 have hk0:0≤k:=by have:=hf.2;have:=hf.1.4;omega
 have hrl:(Ds o).length=v:=by rw [Ds,List.length_map,hrn]
 have hr3: ∀g∈Ds o,g.length=3:=fun g hg=>by
  obtain ⟨x,hx,rfl⟩:=List.mem_map.1 hg
  rw [List.length_map,(h.rr x hx).1]
 obtain ⟨q,hq⟩: ∃q,v+ρ=q+1:=⟨v+ρ-1,by omega⟩
 have hpq:=a2T q om
 have hl:=Nf (V:=(v:Int)) (rts:=o.Roots) (l:=root::o.Roots) (t2:=kv P) (c:=cl.1.A) (c2:=cl.1.B) (c3:=t.Rate) (c4:=t.Queries) (c5:=t.Grind) (c8:=o.Last.A) (c9:=o.Last.B) (c10:=o.Nonce) (c11:=o.Queries) (c16:=0) (c17:=[]) (c18:=0) rfl om h.rh (Ds o) [] cl s k [] hr3 hf om (by rw [List.length_nil];omega) (by rw [List.length_nil];omega) om
 rw [List.nil_append,List.nil_append,List.length_nil,a41 h] at hl
 have hvl:=O6 (kind:=1) (bv:=bvO v o.Roots) (Ds o) 0 cl s
 have hvf:=NE (kind:=1) (Uj v o.Roots) (Ds o) 0 cl s k hf om
 rw [show vfM 1 (bvO v o.Roots) (Ds o) 0 cl s=vfO v o cl s from rfl] at hl hvl hvf
 rw [hrl] at hvl hvf
 unfold tV
 rw [aC (by simp only [List.length_append,List.length_singleton];omega),List.singleton_append]
 unfold chO chC
 by_cases h0:(vfO v o cl s).1=0
 ·have key:Loop (cO (root::o.Roots) (v:Int) (kv P) cl.1.A cl.1.B t.Rate t.Queries t.Grind o.Rounds o.Roots o.Last.A o.Last.B o.Nonce o.Queries 0 [] 0) ([],0,s.Script,s.At,s.State,s.Count,cl.1.A,cl.1.B)=_:=hl.1 h0
  have hDl:=hvl h0
  rw [key,obs,mN,if_pos h0]
  dsimp only
  have hlast:o.Last=(toK o.Last).1:=(jo h.la).symm
  rw [a46 (by rw [hDl,hP]) om,obs,dl h.la (Subtype.property _),obs,show eM o.Last (eaK (vfO v o cl s).2.1 P 1).1=(toK o.Last*eaK (vfO v o cl s).2.1 P 1).1 by rw [K.mul_val, ←hlast],Ec]
  by_cases h1:toK o.Last*eaK (vfO v o cl s).2.1 P 1=(vfO v o cl s).2.2.1
  ·rw [if_pos h1,if_pos h1]
   have hfS:Few (rsM (vfO v o cl s).2.2.2 [toK o.Last]) (k+3*v+1):=hvf.take _
   rw [show Source.mk (vfO v o cl s).2.2.2.Script (vfO v o cl s).2.2.2.At (vfO v o cl s).2.2.2.State (vfO v o cl s).2.2.2.Count=(vfO v o cl s).2.2.2 from rfl,show ([o.Last]:List Ext)=kv [toK o.Last] by rw [kv,List.map_singleton, ←hlast],Pg hvf.1 (by simp),obs,e3,a4L hfS.1.3 om,obs]
   cases h2:Qm (rsM (vfO v o cl s).2.2.2 [toK o.Last]).State bits o.Nonce with
   |false=>rw [Bool.not_false,bF,if_neg (by simp)];exact ⟨_,rfl,fun h=>absurd h (by decide)⟩
   |true=>
    have hfT:Few (tkM (rsM (vfO v o cl s).2.2.2 [toK o.Last]) (eJ o.Nonce)) (k+3*v+1+1):=hfS.take _
    have hpl: ∀x∈plM (drL (tkM (rsM (vfO v o cl s).2.2.2 [toK o.Last]) (eJ o.Nonce)) nq) ((2^q:Nat):Int),0≤x∧x<512:=fun x hx=>by
     obtain ⟨y,hy,rfl⟩:=List.mem_map.1 hx
     have g0:=Int.emod_nonneg y.A (b:=((2^q:Nat):Int)) om
     have g1:=Int.emod_lt_of_pos y.A (b:=((2^q:Nat):Int)) om
     have g2:=a2T (q+1) om
     have g3:2^(q+1)=2*2^q:=by rw [Nat.pow_succ];omega
     omega
    have hsh:aD .i64 1 (((v+ρ:Nat)):Int)=((2^(v+ρ):Nat):Int):=Oy (v+ρ) om
    rw [Bool.not_true,aw,if_pos rfl,vi,obs,rb hfS.1.3 (by rw [cg];omega),obs,e1,aa ((v:Int)+(ρ:Int)) om om,cN _ om om,brd om,show (v:Int)+(ρ:Int)=((v+ρ:Nat):Int) by omega,hsh,hq,a3W q om,e2,ZN hfT om om om,obs,Nat.add_sub_cancel]
    have hqs:=TL (root:=root) (D:=(vfO v o cl s).2.1) (c21:=cl.1.A) (c22:=cl.1.B) (c23:=(ρ:Int)) (c24:=(nq:Int)) (c25:=t.Grind) (c32:=(drS (tkM (rsM (vfO v o cl s).2.2.2 [toK o.Last]) (eJ o.Nonce)) nq).Script) (c33:=(drS (tkM (rsM (vfO v o cl s).2.2.2 [toK o.Last]) (eJ o.Nonce)) nq).At) (c34:=(drS (tkM (rsM (vfO v o cl s).2.2.2 [toK o.Last]) (eJ o.Nonce)) nq).State) (c35:=(drS (tkM (rsM (vfO v o cl s).2.2.2 [toK o.Last]) (eJ o.Nonce)) nq).Count) (c36:=0) (c37:=[]) (c38:=0) (c39:=(vfO v o cl s).2.2.1.1.A) (c40:=(vfO v o cl s).2.2.1.1.B) h e1 hDl (plM (drL (tkM (rsM (vfO v o cl s).2.2.2 [toK o.Last]) (eJ o.Nonce)) nq) ((2^q:Nat):Int)) o.Queries [] [] rfl rfl (by rw [plM,List.length_map,lh];omega) (by rw [plM,List.length_map,lh,List.length_nil];omega) hpl
    rw [List.nil_append,List.length_nil,hq,e3] at hqs
    by_cases h3:qsC (toK o.Last) (q+1) (root::o.Roots) (vfO v o cl s).2.1 (plM (drL (tkM (rsM (vfO v o cl s).2.2.2 [toK o.Last]) (eJ o.Nonce)) nq) ((2^q:Nat):Int)) o.Queries=0
    ·have kk:=hqs.1 h3
     rw [show (((0:Nat):Int))=0 from rfl] at kk
     rw [kk,h3]
     exact ⟨_,rfl,fun _=>rfl⟩
    ·have kk:=hqs.2 h3
     rw [show (((0:Nat):Int))=0 from rfl] at kk
     rw [kk]
     exact ⟨_,rfl,fun h=>absurd h h3⟩
  ·rw [if_neg h1,if_neg h1]
   exact ⟨_,rfl,fun h=>absurd h (by decide)⟩
 ·obtain ⟨h10,e,he⟩:=hl.2 h0
  have key:Loop (cO (root::o.Roots) (v:Int) (kv P) cl.1.A cl.1.B t.Rate t.Queries t.Grind o.Rounds o.Roots o.Last.A o.Last.B o.Nonce o.Queries 0 [] 0) ([],0,s.Script,s.At,s.State,s.Count,cl.1.A,cl.1.B)=_:=he
  rw [key,obs,jX,if_neg h0,h10]
  exact ⟨_,rfl,fun h=>absurd h (by decide)⟩
end Go.AI.Fn
set_option linter.unusedVariables false
set_option linter.unusedSimpArgs false
namespace Go.AI.Fn
variable {o:au} {v ρ nq bits:Nat} {t:Setting} {root:List UInt8} {P:List K} {cl:K} {s:Source} {k:Int}
theorem a0F (h:OkO o v t) (hP:P.length=v) (e1:t.Rate=(ρ:Int)) (e2:t.Queries=(nq:Int)) (e3:t.Grind=(bits:Int)) (hf:Few s k) (hk:k≤999850):
 ∃src,kj root (kv P) cl.1 t o s=some (chO v ρ nq bits root P cl o s,src)∧(chO v ρ nq bits root P cl o s=0→src=chS nq (toK o.Last) o.Nonce (vfO v o cl s)):=by
 have hs:=hG h.st
 have hv:=h.v1
 have hro:=h.ro
 have hrn:=h.rn
 have hqn:=h.qn
 have hk0:0≤k:=by have:=hf.2;have:=hf.1.4;omega
 have hrl:(Ds o).length=v:=by rw [Ds,List.length_map,hrn]
 have hr3: ∀g∈Ds o,g.length=3:=fun g hg=>by
  obtain ⟨x,hx,rfl⟩:=List.mem_map.1 hg
  rw [List.length_map,(h.rr x hx).1]
 obtain ⟨q,hq⟩: ∃q,v+ρ=q+1:=⟨v+ρ-1,by omega⟩
 have hpq:=a2T q om
 have hl:=NT (V:=(v:Int)) (rts:=o.Roots) (c6:=o.Rounds) (c8:=o.Last.A) (c9:=o.Last.B) (c10:=o.Nonce) (c11:=o.Queries) (c14:=0) (c15:=0) rfl om h.rh (Ds o) [] cl s k [] hr3 hf om (by rw [List.length_nil];omega) (by rw [List.length_nil];omega) om
 rw [List.nil_append,List.nil_append,List.length_nil,a41 h] at hl
 have hvl:=O6 (kind:=1) (bv:=bvO v o.Roots) (Ds o) 0 cl s
 have hvf:=NE (kind:=1) (Uj v o.Roots) (Ds o) 0 cl s k hf om
 rw [show vfM 1 (bvO v o.Roots) (Ds o) 0 cl s=vfO v o cl s from rfl] at hl hvl hvf
 rw [hrl] at hvl hvf
 unfold kj cx
 rw [aP,hP,hrn]
 unfold chO chC
 by_cases h0:(vfO v o cl s).1=0
 ·have key:Loop (an 1 o.Rounds (v:Int) 0 0) ([],0,s.Script,s.At,s.State,s.Count,(v:Int),o.Rounds,o.Roots,o.Last.A,o.Last.B,o.Nonce,o.Queries,cl.1.A,cl.1.B)=_:=hl.1 h0
  have hDl:=hvl h0
  rw [key,obs,mN,if_pos h0,obs]
  dsimp only
  rw [cZ rfl]
  simp only [show Ext.mk o.Last.A o.Last.B=o.Last from rfl]
  have hlast:o.Last=(toK o.Last).1:=(jo h.la).symm
  rw [a3e (by rw [hDl,hP]) om,obs,dw h.la (Subtype.property _),obs,show eM o.Last (eaK (vfO v o cl s).2.1 P 1).1=(toK o.Last*eaK (vfO v o cl s).2.1 P 1).1 by rw [K.mul_val, ←hlast],Ec]
  by_cases h1:toK o.Last*eaK (vfO v o cl s).2.1 P 1=(vfO v o cl s).2.2.1
  ·rw [if_pos h1,if_pos h1]
   have hfS:Few (rsM (vfO v o cl s).2.2.2 [toK o.Last]) (k+3*v+1):=hvf.take _
   rw [show Source.mk (vfO v o cl s).2.2.2.Script (vfO v o cl s).2.2.2.At (vfO v o cl s).2.2.2.State (vfO v o cl s).2.2.2.Count=(vfO v o cl s).2.2.2 from rfl,show ([o.Last]:List Ext)=kv [toK o.Last] by rw [kv,List.map_singleton, ←hlast],Po hvf.1 (by simp),obs,e3,a4C hfS.1.3 om,obs]
   cases h2:Qm (rsM (vfO v o cl s).2.2.2 [toK o.Last]).State bits o.Nonce with
   |false=>rw [Bool.not_false,bF,if_neg (by simp)];exact ⟨_,rfl,fun h=>absurd h (by decide)⟩
   |true=>
    have hfT:Few (tkM (rsM (vfO v o cl s).2.2.2 [toK o.Last]) (eJ o.Nonce)) (k+3*v+1+1):=hfS.take _
    have hpl: ∀x∈plM (drL (tkM (rsM (vfO v o cl s).2.2.2 [toK o.Last]) (eJ o.Nonce)) nq) ((2^q:Nat):Int),0≤x∧x<512:=fun x hx=>by
     obtain ⟨y,hy,rfl⟩:=List.mem_map.1 hx
     have g0:=Int.emod_nonneg y.A (b:=((2^q:Nat):Int)) om
     have g1:=Int.emod_lt_of_pos y.A (b:=((2^q:Nat):Int)) om
     have g2:=a2T (q+1) om
     have g3:2^(q+1)=2*2^q:=by rw [Nat.pow_succ];omega
     omega
    have hsh:aD .i64 1 (((v+ρ:Nat)):Int)=((2^(v+ρ):Nat):Int):=Oy (v+ρ) om
    rw [Bool.not_true,aw,if_pos rfl,DY,obs,rd hfS.1.3 (by rw [cg];omega),obs,e1,aa ((v:Int)+(ρ:Int)) om om,brd om,aC (by simp only [List.length_append,List.length_singleton];omega),show (v:Int)+(ρ:Int)=((v+ρ:Nat):Int) by omega,hsh,hq,a3W q om,e2,Hi hfT om om,obs,ZP (by rw [lh];omega) (Qw hfT om om) om,obs,Nat.add_sub_cancel,List.singleton_append]
    have hpn:(plM (drL (tkM (rsM (vfO v o cl s).2.2.2 [toK o.Last]) (eJ o.Nonce)) nq) ((2^q:Nat):Int)).length=nq:=by rw [plM,List.length_map,lh]
    have hqs:=TQ (root:=root) (N:=(((plM (drL (tkM (rsM (vfO v o cl s).2.2.2 [toK o.Last]) (eJ o.Nonce)) nq) ((2^q:Nat):Int)).length:Nat):Int)) (D:=(vfO v o cl s).2.1) (c:=(drS (tkM (rsM (vfO v o cl s).2.2.2 [toK o.Last]) (eJ o.Nonce)) nq).Script) (c2:=(drS (tkM (rsM (vfO v o cl s).2.2.2 [toK o.Last]) (eJ o.Nonce)) nq).At) (c3:=(drS (tkM (rsM (vfO v o cl s).2.2.2 [toK o.Last]) (eJ o.Nonce)) nq).State) (c4:=(drS (tkM (rsM (vfO v o cl s).2.2.2 [toK o.Last]) (eJ o.Nonce)) nq).Count) (c5:=cl.1.A) (c6:=cl.1.B) (c7:=(ρ:Int)) (c8:=(nq:Int)) (c9:=t.Grind) (c16:=(v:Int)) (c17:=(vfO v o cl s).2.2.1.1.A) (c18:=(vfO v o cl s).2.2.1.1.B) h e1 hDl (plM (drL (tkM (rsM (vfO v o cl s).2.2.2 [toK o.Last]) (eJ o.Nonce)) nq) ((2^q:Nat):Int)) o.Queries [] [] rfl rfl (by rw [hpn];omega) (by rw [hpn,List.length_nil];omega) hpl rfl
    rw [List.nil_append,List.length_nil,hq,e3] at hqs
    by_cases h3:qsC (toK o.Last) (q+1) (root::o.Roots) (vfO v o cl s).2.1 (plM (drL (tkM (rsM (vfO v o cl s).2.2.2 [toK o.Last]) (eJ o.Nonce)) nq) ((2^q:Nat):Int)) o.Queries=0
    ·have kk:=hqs.1 h3
     rw [show (((0:Nat):Int))=0 from rfl] at kk
     rw [kk,h3]
     exact ⟨_,rfl,fun _=>rfl⟩
    ·have kk:=hqs.2 h3
     rw [show (((0:Nat):Int))=0 from rfl] at kk
     rw [kk]
     exact ⟨_,rfl,fun h=>absurd h h3⟩
  ·rw [if_neg h1,if_neg h1]
   exact ⟨_,rfl,fun h=>absurd h (by decide)⟩
 ·obtain ⟨h10,e,h11,he⟩:=hl.2 h0
  have key:Loop (an 1 o.Rounds (v:Int) 0 0) ([],0,s.Script,s.At,s.State,s.Count,(v:Int),o.Rounds,o.Roots,o.Last.A,o.Last.B,o.Nonce,o.Queries,cl.1.A,cl.1.B)=_:=he
  rw [key,obs,jX,if_neg h0,h10,obs]
  dsimp only
  rw [h11,brb (by decide)]
  exact ⟨_,rfl,fun h=>absurd h (by decide)⟩
end Go.AI.Fn
set_option linter.unusedVariables false
set_option linter.unusedSimpArgs false
namespace Go.AI.Fn
variable {o:au} {v ρ nq bits:Nat} {t:Setting} {root:List UInt8} {P:List K} {cl:K} {s:Source} {k:Int}
end Go.AI.Fn
set_option linter.unusedVariables false
set_option linter.unusedSimpArgs false
namespace Go.AI.Fn
theorem b1B {R T:List K} {β:K} {l t t2 t3 c4 c5 c6:List Entry} {c c2 c3 c7 c8 c11 c12 RR CC:Int} (hm:OkM l RR CC) (hR:(R.length:Int)=RR) (hT:(T.length:Int)=CC):
 Loop (kV (kv R) t t2 t3 l ((l.length:Nat):Int) c c2 c3 c4 c5 c6 c7 c8 β.1.A β.1.B c11 c12) (kv T,0)=some (kv (l.foldl (btS β R) T),(l.length:Int),false):=
 OQ (t:=t) (t2:=t2) (t3:=t3) (t4:=0) (c:=c) (c2:=c2) (c3:=c3) (c4:=c4) (c5:=c5) (c6:=c6) (c9:=0) (c10:=0) (c11:=0) (c12:=0) hm hR hT
theorem a9n {R T:List K} {β:K} {l t t2 t3 c4 c5 c6:List Entry} {c c2 c3 c7 c8 c9 c10 RR CC:Int} (hm:OkM l RR CC) (hR:(R.length:Int)=RR) (hT:(T.length:Int)=CC):
 Loop (kS (kv R) t t2 t3 l ((l.length:Nat):Int) c c2 c3 c4 c5 c6 c7 c8 c9 c10 β.1.A β.1.B) (kv T,0)=some (kv (l.foldl (btS β R) T),(l.length:Int),false):=
 OQ (t:=t) (t2:=t2) (t3:=t3) (t4:=0) (c:=c) (c2:=c2) (c3:=c3) (c4:=c4) (c5:=c5) (c6:=c6) (c9:=0) (c10:=0) (c11:=0) (c12:=0) hm hR hT
def btM (s:System) (R:List K) (x y z:K):List K:=s.C.foldl (btS z R) (s.B.foldl (btS y R) (s.A.foldl (btS x R) (List.replicate (2^s.Cols.toNat) 0)))
theorem a3R (s:System) (R:List K) (x y z:K):(btM s R x y z).length=2^s.Cols.toNat:=by rw [btM,mU,mU,mU,List.length_replicate]
theorem a3q (n:Nat):kv (List.replicate n 0)=List.replicate n e0:=by rw [kv,List.map_replicate];rfl
theorem Za {s:System} (h:ne s=true):OkM s.A ((2^s.Rows.toNat:Nat):Int) ((2^s.Cols.toNat:Nat):Int)∧OkM s.B ((2^s.Rows.toNat:Nat):Int) ((2^s.Cols.toNat:Nat):Int)∧OkM s.C ((2^s.Rows.toNat:Nat):Int) ((2^s.Cols.toNat:Nat):Int)∧
 uT s.A ((2^s.Rows.toNat:Nat):Int) ((2^s.Cols.toNat:Nat):Int)=true∧uT s.B ((2^s.Rows.toNat:Nat):Int) ((2^s.Cols.toNat:Nat):Int)=true∧uT s.C ((2^s.Rows.toNat:Nat):Int) ((2^s.Cols.toNat:Nat):Int)=true:=by
 obtain ⟨hR,hC,_⟩:=fQ h
 have e1:s.Rows=((s.Rows.toNat:Nat):Int):=by omega
 have e2:s.Cols=((s.Cols.toNat:Nat):Int):=by omega
 have f1:aD .i64 1 s.Rows=((2^s.Rows.toNat:Nat):Int):=by conv=>lhs;rw [e1];rw [Nx om]
 have f2:aD .i64 1 s.Cols=((2^s.Cols.toNat:Nat):Int):=by conv=>lhs;rw [e2];rw [Nx om]
 unfold ne at h
 simp only [Bool.and_eq_true,decide_eq_true_eq,f1,f2] at h
 obtain ⟨_,_,_,mA,mB,mC⟩:=h
 exact ⟨WM mA,WM mB,WM mC,mA,mB,mC⟩
theorem M0 {s:System} (h:ne s=true) {p R:List K} {x y z:K} (hp:p.length=s.Rows.toNat) (hR:eqT (kv p)=kv R):ob s (kv p) (x.1,y.1,z.1)=some (kv (btM s R x y z)):=by
 obtain ⟨hr,hc,_⟩:=fQ h
 obtain ⟨mA,mB,mC,_⟩:=Za h
 have hpw:=Do s.Cols.toNat om
 have hRl:(R.length:Int)=((2^s.Rows.toNat:Nat):Int):=by
  have:=yU (kv p)
  rw [hR,aP,aP,hp] at this;omega
 have e2:s.Cols=((s.Cols.toNat:Nat):Int):=by omega
 have f2:aD .i64 1 s.Cols=((2^s.Cols.toNat:Nat):Int):=by conv=>lhs;rw [e2];rw [Nx om]
 unfold ob dj
 rw [brd om,f2,Ay om om om,z8 (Dk p) (by rw [aP];omega),obs,hR,obs]
 dsimp only
 rw [Int.toNat_natCast,show Ext.mk 0 0=e0 from rfl, ←a3q,OQ mA hRl (by rw [List.length_replicate]),obs]
 dsimp only
 rw [b1B mB hRl (by rw [mU,List.length_replicate]),obs]
 dsimp only
 rw [a9n mC hRl (by rw [mU,mU,List.length_replicate]),obs];rfl
def Hg (l:List Int):List UInt8:=l.flatMap eJ
theorem Nv (l:List Int):(Hg l).length=4*l.length:=by
 induction l with
 |nil=>rfl
 |cons x l ih=>simp only [Hg,List.flatMap_cons,List.length_append,cg,List.length_cons] at*;omega
theorem Th (l:List Int) (x:Int):Hg (l++[x])=Hg l++eJ x:=by simp [Hg]
def setT (t:Setting):List UInt8:=[UInt8.ofInt t.Rate,UInt8.ofInt t.Queries,UInt8.ofInt t.Grind]
def C0 (s:System) (t:Setting) (p:List Int):List UInt8:=H (Mx s)++setT t++Hg p
theorem b3Z {l:List (List UInt8)} {l3 L:List UInt8} {p:List Int} {c c2 c3 c7 c8 c9:Int} {c4 c5 c6:List Entry} (hp:p.length≤5000) (hL:L.length≤1000):Loop (fm l l3 p ((p.length:Nat):Int) c c2 c3 c4 c5 c6 c7 c8 c9) (L,0)=some (L++Hg p,(p.length:Int),false):=by
 have key:=aA (step:=fm l l3 p ((p.length:Nat):Int) c c2 c3 c4 c5 c6 c7 c8 c9) (fun j=>(L++Hg (p.take j),(j:Int))) p.length (e:=(L++Hg p,(p.length:Int),false)) (fun j hj=> ?_) ?_
 ·simpa [Hg] using key
 ·simp only [fm]
  have hn:=Nv (p.take j)
  rw [List.length_take] at hn
  rw [brd om,bO hj,obs,nu (by simp only [List.length_append];omega),obs,aa _ om om,cm hj,Th,List.append_assoc];rfl
 ·simp only [fm]
  rw [brn om,decide_eq_false om,List.take_length]
theorem a5l {l L:List UInt8} {p:List Int} {c c2 c3 c7 c8 c9 c11 c13 c14 c16:Int} {c10:List Ext} {c12 c15:List UInt8} {c4 c5 c6:List Entry} (hp:p.length≤5000) (hL:L.length≤1000):Loop (gq l p c c2 c3 c4 c5 c6 c7 c8 c9 c10 c11 c12 c13 c14 c15 c16) (L,0)=some (L++Hg p,(p.length:Int),false):=by
 have key:=aA (step:=gq l p c c2 c3 c4 c5 c6 c7 c8 c9 c10 c11 c12 c13 c14 c15 c16) (fun j=>(L++Hg (p.take j),(j:Int))) p.length (e:=(L++Hg p,(p.length:Int),false)) (fun j hj=> ?_) ?_
 ·simpa [Hg] using key
 ·simp only [gq]
  have hn:=Nv (p.take j)
  rw [List.length_take] at hn
  rw [brd om,bO hj,obs,vi,obs,aC (by simp only [List.length_append,cg];omega),aa _ om om,cm hj,Th,List.append_assoc];rfl
 ·simp only [gq]
  rw [brn om,decide_eq_false om,List.take_length]
theorem OZ (s:System) (t:Setting) (p:List Int):(C0 s t p).length=35+4*p.length:=by
 simp only [C0,List.length_append,AO,setT,List.length_cons,List.length_nil,Nv]
end Go.AI.Fn
set_option linter.unusedVariables false
set_option linter.unusedSimpArgs false
namespace Go.AI.Fn
noncomputable def stC (s:System) (t:Setting) (p:List Int) (src:Source):Int:=
 if p.length>4096 then 2 else if ne s=false then 1 else if setB t=false then 1 else if p.all Hl=false then 1 else if Xh src=false then 1
 else if (p.length:Int)≠s.Publics then 17 else if 999800<mx src.At src.Count then 6 else 0
theorem Nk {s:System} {t:Setting} {p:List Int} {src:Source} (hA:s.A.length≤1048576) (hB:s.B.length≤1048576) (hC:s.C.length≤1048576) (hp:p.length≤1048576) (hs:src.Script.length≤1048576):
 rI s t p src=some (stC s t p src):=by
 unfold rI stC
 by_cases c1:p.length>4096
 ·rw [brd om,if_pos c1]
 rw [brn om,if_neg c1,FV om om om,obs]
 cases h2:ne s
 ·rfl
 rw [Bool.not_true,aw,if_neg (by simp),u4,obs]
 cases h3:setB t
 ·rfl
 rw [Bool.not_true,aw,if_neg (by simp),a65 om,obs]
 cases h4:p.all Hl
 ·rfl
 rw [Bool.not_true,aw,if_neg (by simp),Sk om,obs]
 cases h5:Xh src
 ·rfl
 have ho:=Oz.1 h5
 have h0:0≤mx src.At src.Count:=by have:=ho.4;have:=ho.6;unfold mx;split<;>assumption
 have h9:=b9S ho.5 ho.7
 rw [Bool.not_true,aw,if_neg (by simp)]
 by_cases c6:(p.length:Int)=s.Publics
 ·rw [cZ c6,if_neg (by simp [c6])]
  unfold pL
  rw [obs,aa _ om om]
  by_cases c7:999800<mx src.At src.Count
  ·rw [brd om,if_pos c7]
  ·rw [brn om,if_neg c7]
 ·rw [brb c6,if_pos c6]
theorem YI {s:System} {t:Setting} {p:List Int} {src:Source} (hp:p.length≤1048576) (hs:src.Script.length≤1048576):
 C8 s t p src=some (stC s t p src):=by
 unfold C8 stC
 by_cases c1:p.length>4096
 ·rw [brd om,if_pos c1]
 rw [brn om,if_neg c1,FG,obs]
 cases h2:ne s
 ·rfl
 rw [Bool.not_true,aw,if_neg (by simp),uK,obs]
 cases h3:setB t
 ·rfl
 rw [Bool.not_true,aw,if_neg (by simp),Y5 om,obs]
 cases h4:p.all Hl
 ·rfl
 rw [Bool.not_true,aw,if_neg (by simp),RO om,obs]
 cases h5:Xh src
 ·rfl
 have ho:=Oz.1 h5
 rw [Bool.not_true,aw,if_neg (by simp)]
 by_cases c6:(p.length:Int)=s.Publics
 ·rw [cZ c6,if_neg (by simp [c6])]
  unfold zf
  rw [aa _ om om]
  by_cases c7:999800<mx src.At src.Count
  ·rw [if_pos c7]
   by_cases c8:src.At>999800
   ·rw [brd om];rfl
   ·have:src.Count>999800:=by unfold mx at c7;split at c7<;>omega
    rw [brn om,decide_eq_true om];rfl
  ·rw [if_neg c7]
   have:src.At≤999800∧src.Count≤999800:=by unfold mx at c7;split at c7<;>omega
   rw [brn om,decide_eq_false om];rfl
 ·rw [brb c6,if_pos c6]
structure M9 (s:System) (t:Setting) (p:List Int) (src:Source):Prop where
 sy:ne s=true
 se:setB t=true
 pl:p.length≤4096
 pf:M7 p
 pe:(p.length:Int)=s.Publics
 fw:Few src 999800
theorem b8L {s:System} {t:Setting} {p:List Int} {src:Source} (h:stC s t p src=0):M9 s t p src:=by
 unfold stC at h
 split at h
 ·cases h
 split at h
 ·cases h
 split at h
 ·cases h
 split at h
 ·cases h
 split at h
 ·cases h
 split at h
 ·cases h
 split at h
 ·cases h
 rename_i h1 h2 h3 h4 h5 h6 h7
 have ho:=Oz.1 (by simpa using h5)
 refine ⟨by simpa using h2,by simpa using h3,by omega,c0L.1 (by simpa using h4),by simpa using h6,ho, ?_, ?_⟩<;>(unfold mx at h7;split at h7<;>omega)
theorem Q0 {s:System} {t:Setting} {p:List Int} {src:Source} (h:M9 s t p src):ra s t p=some (C0 s t p):=by
 obtain ⟨_,_,_,hA,hB,hC⟩:=fQ h.sy
 have hle:=h.pl
 have hl:=XY s
 have hH:=AO (Mx s)
 unfold ra
 rw [Mn hA hB hC,obs,qU (by simpa using by omega) (by simp),obs,show [Mx s].flatten=Mx s by simp,aC om,aC (by simp only [List.length_append,List.length_cons,List.length_nil];omega),
  b3Z om (by simp only [List.length_append,List.length_cons,List.length_nil];omega),obs];rfl
theorem Rv {s:System} {t:Setting} {p:List Int} {src:Source} (h:M9 s t p src):tW s t p src=some (tkM src (C0 s t p)):=by
 obtain ⟨_,_,_,hA,hB,hC⟩:=fQ h.sy
 have hle:=h.pl
 have hs2:=OZ s t p
 have hH:=AO (Mx s)
 unfold tW
 rw [Qr hA hB hC,obs,aC (by simp only [List.length_cons,List.length_nil];omega),a5l om (by simp only [List.length_append,List.length_cons,List.length_nil];omega),obs]
 dsimp only
 rw [show H (Mx s)++[UInt8.ofInt t.Rate,UInt8.ofInt t.Queries,UInt8.ofInt t.Grind]++Hg p=C0 s t p from rfl,rb h.fw.1.3 om,obs]
theorem KI {R T B:List K} {M:List (List Entry)} {k:Nat} {c7 c8 c9:Int} {c10 c11 c12:List Entry} {RR CC:Int} (hk:k<M.length) (hB:k<B.length) (hm:OkM (M.getD k []) RR CC) (hR:(R.length:Int)=RR) (hT:(T.length:Int)=CC):
 Loop (dm M (kv B) (kv R) (k:Int) c7 c8 c9 c10 c11 c12) (kv T,0)=some (kv ((M.getD k []).foldl (btS (B.getD k 0) R) T),((M.getD k []).length:Int),false):=by
 have hl:=hm.len
 have hMk:M[(k:Int).toNat]? =some (M.getD k []):=by rw [Int.toNat_natCast];simp [hk]
 generalize M.getD k []=l at*
 have key:=aA (step:=dm M (kv B) (kv R) (k:Int) c7 c8 c9 c10 c11 c12) (fun j=>(kv ((l.take j).foldl (btS (B.getD k 0) R) T),(j:Int))) l.length (e:=(kv (l.foldl (btS (B.getD k 0) R) T),(l.length:Int),false)) (fun j hj=> ?_) ?_
 ·exact key
 ·simp only [dm]
  obtain ⟨hr,hc,_⟩:=hm.ent _ (List.getElem_mem hj)
  have hv:=b1j (hm.ent _ (List.getElem_mem hj))
  have hn:=mU (B.getD k 0) R (l.take j) T
  have hrow:atL (kv R) l[j].Row=some (R.getD l[j].Row.toNat 0).1:=by
   have:=sq (l:=R) (j:=l[j].Row.toNat) om
   rwa [Int.toNat_of_nonneg hr.1] at this
  rw [brd om,brd om,hMk,obs,brd om,brd om,brd om,obs,bO hj,obs,brd hc.1,brd (by rw [aP,hn];omega),a40 om,obs,sq hB,obs,Ib,obs,hrow,obs, ←z9 hv,
   dl (kF _).2 (Subtype.property _),obs,dl (Subtype.property _) (nC _ _),obs,iI (Subtype.property _) (nC _ _),obs,brd hc.1,brd (by rw [aP,hn];omega),obs,aa _ om om,cm hj,List.foldl_append]
  show some (Sum.inl ((kv _).set l[j].Col.toNat ((List.foldl (btS (B.getD k 0) R) T (l.take j)).getD l[j].Col.toNat 0+B.getD k 0*(kF l[j].Value*R.getD l[j].Row.toNat 0)).1,_))=_
  rw [a9x,show B.getD k 0*(kF l[j].Value*R.getD l[j].Row.toNat 0)=B.getD k 0*R.getD l[j].Row.toNat 0*kF l[j].Value by exact kg];rfl
 ·simp only [dm]
  rw [brd om,brd om,hMk,obs,brn om,decide_eq_false om,List.take_length]
theorem SK {s:System} (h:ne s=true) {p R:List K} {x y z:K} (hp:p.length=s.Rows.toNat) (hR:eqT (kv p)=kv R):uo s (kv p) (kv [x,y,z])=some (kv (btM s R x y z)):=by
 obtain ⟨hr,hc,_⟩:=fQ h
 obtain ⟨mA,mB,mC,_⟩:=Za h
 have hpw:=Do s.Cols.toNat om
 have hRl:(R.length:Int)=((2^s.Rows.toNat:Nat):Int):=by
  have:=yU (kv p)
  rw [hR,aP,aP,hp] at this;omega
 have e2:s.Cols=((s.Cols.toNat:Nat):Int):=by omega
 have f2:aD .i64 1 s.Cols=((2^s.Cols.toNat:Nat):Int):=by conv=>lhs;rw [e2];rw [Nx om]
 have l0:=KI (M:=[s.A,s.B,s.C]) (B:=[x,y,z]) (k:=0) (T:=List.replicate (2^s.Cols.toNat) 0) (R:=R) (c7:=s.Rows) (c8:=s.Cols) (c9:=s.Publics) (c10:=s.A) (c11:=s.B) (c12:=s.C) (by simp) (by simp) mA hRl (by rw [List.length_replicate])
 have l1:=KI (M:=[s.A,s.B,s.C]) (B:=[x,y,z]) (k:=1) (T:=s.A.foldl (btS x R) (List.replicate (2^s.Cols.toNat) 0)) (R:=R) (c7:=s.Rows) (c8:=s.Cols) (c9:=s.Publics) (c10:=s.A) (c11:=s.B) (c12:=s.C) (by simp) (by simp) mB hRl (by rw [mU,List.length_replicate])
 have l2:=KI (M:=[s.A,s.B,s.C]) (B:=[x,y,z]) (k:=2) (T:=s.B.foldl (btS y R) (s.A.foldl (btS x R) (List.replicate (2^s.Cols.toNat) 0))) (R:=R) (c7:=s.Rows) (c8:=s.Cols) (c9:=s.Publics) (c10:=s.A) (c11:=s.B) (c12:=s.C) (by simp) (by simp) mC hRl (by rw [mU,mU,List.length_replicate])
 simp only [List.getD_cons_zero,List.getD_cons_succ] at l0 l1 l2
 unfold uo
 rw [cN _ om om,brd om,f2,Ay om om om,I7 (Dk p) (by rw [aP];omega),obs,hR]
 rw [Int.toNat_natCast,show Ext.mk 0 0=e0 from rfl, ←a3q]
 have key:=aA (step:=iY [s.A,s.B,s.C] (kv [x,y,z]) (kv R) s.Rows s.Cols s.Publics s.A s.B s.C) (fun j=>(kv (match j with
  |0=>List.replicate (2^s.Cols.toNat) 0
  |1=>s.A.foldl (btS x R) (List.replicate (2^s.Cols.toNat) 0)
  |2=>s.B.foldl (btS y R) (s.A.foldl (btS x R) (List.replicate (2^s.Cols.toNat) 0))
  |_=>btM s R x y z),(j:Int))) 3 (e:=(kv (btM s R x y z),3,false)) (fun j hj=> ?_) (by rfl)
 ·have key':Loop (iY [s.A,s.B,s.C] (kv [x,y,z]) (kv R) s.Rows s.Cols s.Publics s.A s.B s.C) (kv (List.replicate (2^s.Cols.toNat) 0),0)=_:=key
  rw [key',obs]
 ·simp only [iY]
  rw [brd om]
  match j,hj with
  |0,_=>
   show (Loop (dm [s.A,s.B,s.C] (kv [x,y,z]) (kv R) ((0:Nat):Int) s.Rows s.Cols s.Publics s.A s.B s.C) (kv (List.replicate (2^s.Cols.toNat) 0),0)).bind _=_
   rw [l0,obs];rfl
  |1,_=>
   show (Loop (dm [s.A,s.B,s.C] (kv [x,y,z]) (kv R) ((1:Nat):Int) s.Rows s.Cols s.Publics s.A s.B s.C) (kv (s.A.foldl (btS x R) (List.replicate (2^s.Cols.toNat) 0)),0)).bind _=_
   rw [l1,obs];rfl
  |2,_=>
   show (Loop (dm [s.A,s.B,s.C] (kv [x,y,z]) (kv R) ((2:Nat):Int) s.Rows s.Cols s.Publics s.A s.B s.C) (kv (s.B.foldl (btS y R) (s.A.foldl (btS x R) (List.replicate (2^s.Cols.toNat) 0))),0)).bind _=_
   rw [l2,obs];rfl
theorem WS (x y z:K):yp x.1 y.1 z.1=some (x+z*(y-x)).1:=by
 unfold yp
 rw [nk y.2 x.2,obs,dw z.2 (um _ _),obs,j7 x.2 (nC _ _),obs];rfl
theorem b95 {L:List Ext} (h:cE L) (hl:L.length=3): ∃a b c:K,L=kv [a,b,c]:=by
 obtain ⟨l,rfl⟩:=b4z h
 rw [aP] at hl
 match l,hl with
 |[a,b,c],_=>exact ⟨a,b,c,rfl⟩
noncomputable def a8f (s:System) (p:List Int) (P:List K):K:=toK (b44 s p (kv P))
theorem XK (s:System) (p:List Int) (P:List K):(a8f s p P).1=b44 s p (kv P):=jo (b4l _ _)
noncomputable def vx1 (s:System) (t:Setting) (p:List Int) (root:List UInt8) (src:Source):Source:=tkM (tkM src (C0 s t p)) root
noncomputable def vg1 (s:System) (t:Setting) (p:List Int) (root:List UInt8) (G:List (List K)) (src:Source):Int×List K×K×Source:=vfM 2 bv0 G 0 0 (drS (vx1 s t p root src) s.Rows.toNat)
noncomputable def vx3 (s:System) (t:Setting) (p:List Int) (root:List UInt8) (G:List (List K)) (va vb vc:K) (src:Source):Source:=rsM (vg1 s t p root G src).2.2.2 [va,vb,vc]
noncomputable def vr (x:Source) (j:Nat):K:=toK ((drL x 3).getD j e0)
noncomputable def vg2 (s:System) (t:Setting) (p:List Int) (root:List UInt8) (G W:List (List K)) (va vb vc:K) (src:Source):Int×List K×K×Source:=
 vfM 1 bv0 W 0 (vr (vx3 s t p root G va vb vc src) 0*va+(vr (vx3 s t p root G va vb vc src) 1*vb+vr (vx3 s t p root G va vb vc src) 2*vc)) (drS (vx3 s t p root G va vb vc src) 3)
noncomputable def a3a (s:System) (p:List Int) (rx ry:List K) (r0 r1 r2 vw:K):K:=
 Sn (btM s (eqK rx) r0 r1 r2) (eqK ry)*(a8f s p (ry.take (s.Cols.toNat-1))+ry.getD (s.Cols.toNat-1) 0*(vw-a8f s p (ry.take (s.Cols.toNat-1))))
theorem T8 (s:System) (p:List Int) (rx ry:List K) (r0 r1 r2 vw:K):a3a s p rx ry r0 r1 r2 vw=Sn (btM s (eqK rx) r0 r1 r2) (eqK ry)*(a8f s p (ry.take (s.Cols.toNat-1))+ry.getD (s.Cols.toNat-1) 0*(vw-a8f s p (ry.take (s.Cols.toNat-1)))):=rfl
noncomputable def b4n (s:System) (t:Setting) (p:List Int) (root:List UInt8) (G W:List (List K)) (va vb vc vw:K) (o:au) (src:Source):Int:=
 if (vg1 s t p root G src).1≠0 then (vg1 s t p root G src).1
 else if cmK 2 [eaK ((drL (vx1 s t p root src) s.Rows.toNat).map toK) (vg1 s t p root G src).2.1 1,va,vb,vc]≠(vg1 s t p root G src).2.2.1 then 11
 else if (vg2 s t p root G W va vb vc src).1≠0 then (vg2 s t p root G W va vb vc src).1
 else if a3a s p (vg1 s t p root G src).2.1 (vg2 s t p root G W va vb vc src).2.1 (vr (vx3 s t p root G va vb vc src) 0) (vr (vx3 s t p root G va vb vc src) 1) (vr (vx3 s t p root G va vb vc src) 2) vw≠(vg2 s t p root G W va vb vc src).2.2.1 then 11
 else chO (s.Cols.toNat-1) t.Rate.toNat t.Queries.toNat t.Grind.toNat root ((vg2 s t p root G W va vb vc src).2.1.take (s.Cols.toNat-1)) vw o (rsM (vg2 s t p root G W va vb vc src).2.2.2 [vw])
theorem a0z {L:List Ext} (h:cE L):kv (L.map toK)=L:=by
 rw [kv,List.map_map]
 conv=>rhs;rw [←List.map_id L]
 exact List.map_congr_left fun x hx=>jo (h x hx)
theorem b9T {x:Source} {k:Int} (h:Few x k) (hk:k≤999890):drL x 3=kv [vr x 0,vr x 1,vr x 2]:=by
 have ho:=Qw h hk (n:=3) om
 obtain ⟨a,b,c,e⟩:=b95 ho (lh x 3)
 rw [vr,vr,vr,e]
 show [a.1,b.1,c.1]=[(toK a.1).1,(toK b.1).1,(toK c.1).1]
 rw [jo a.2,jo b.2,jo c.2]
end Go.AI.Fn
set_option linter.unusedVariables false
set_option linter.unusedSimpArgs false
namespace Go.AI.Fn
structure W5 (s:System) (t:Setting) (root:List UInt8) (G W:List (List K)) (o:au):Prop where
 rt:root.length=32
 gl:G.length=s.Rows.toNat
 g4: ∀g∈G,g.length=4
 wl:W.length=s.Cols.toNat
 w3: ∀g∈W,g.length=3
 op:OkO o (s.Cols.toNat-1) t
variable {s:System} {t:Setting} {p:List Int} {src:Source} {root:List UInt8} {G W:List (List K)} {va vb vc vw:K} {o:au}
theorem VM (h:M9 s t p src):Few (vx1 s t p root src) 999802:=((h.fw.take _).take _).mono om
theorem Xp (h:M9 s t p src):Few (drS (vx1 s t p root src) s.Rows.toNat) 999807:=by
 obtain ⟨hr,_⟩:=fQ h.sy
 exact (DS (VM h) om _ om).mono om
theorem U2 (h:M9 s t p src) (q:W5 s t root G W o):Few (vg1 s t p root G src).2.2.2 999822:=by
 obtain ⟨hr,_⟩:=fQ h.sy
 have:=q.gl
 exact (NE (kind:=2) b1x G 0 0 _ _ (Xp h) om).mono om
theorem V8 (h:M9 s t p src) (q:W5 s t root G W o):Few (vx3 s t p root G va vb vc src) 999823:=(Few.take (U2 h q) _).mono om
theorem UC (h:M9 s t p src) (q:W5 s t root G W o):Few (drS (vx3 s t p root G va vb vc src) 3) 999826:=(DS (V8 h q) om 3 om).mono om
theorem a3L (h:M9 s t p src) (q:W5 s t root G W o):Few (vg2 s t p root G W va vb vc src).2.2.2 999841:=by
 obtain ⟨_,hc,_⟩:=fQ h.sy
 have:=q.wl
 exact (NE (kind:=1) b1x W 0 _ _ _ (UC h q) om).mono om
theorem a3V (q:W5 s t root G W o) (z:(vg1 s t p root G src).1=0):(vg1 s t p root G src).2.1.length=s.Rows.toNat:=(O6 (kind:=2) (bv:=bv0) G 0 0 _ z).trans q.gl
theorem a3o (q:W5 s t root G W o) (z:(vg2 s t p root G W va vb vc src).1=0):(vg2 s t p root G W va vb vc src).2.1.length=s.Cols.toNat:=(O6 (kind:=1) (bv:=bv0) W 0 _ _ z).trans q.wl
theorem b0o (a b c x y z:K):Sn [a,b,c] [x,y,z]=a*x+(b*y+c*z):=by simp only [Sn];exact kg
theorem Ys (h:M9 s t p src) (q:W5 s t root G W o):
 ∃src',gX s t p ⟨root,kvv G,va.1,vb.1,vc.1,kvv W,vw.1,o⟩ src=some (b4n s t p root G W va vb vc vw o src,src'):=by
 obtain ⟨hr,hc,hpb,_⟩:=fQ h.sy
 obtain ⟨_,hpub⟩:=a3n h.sy
 have hpl:=h.pl
 have hpe:=h.pe
 have hst:=OZ s t p
 have hrt:=q.rt
 have f1:=VM (root:=root) h
 have f2:=Xp (root:=root) h
 have f3:=V8 (va:=va) (vb:=vb) (vc:=vc) h q
 have f4:=UC (va:=va) (vb:=vb) (vc:=vc) h q
 have f5:=a3L (va:=va) (vb:=vb) (vc:=vc) h q
 have bo:=hG h.se
 have eR:((s.Rows.toNat:Nat):Int)=s.Rows:=by omega
 have hd1:=Hi f1 om (n:=s.Rows.toNat) om
 rw [eR] at hd1
 have hv1:bm 2 (Ext.mk 0 0) (kvv G) (drS (vx1 s t p root src) s.Rows.toNat)=_:=C6 (kind:=2) (.inr rfl) (R:=G) (c:=0) f2 (by have:=q.gl;omega)
 rw [show vfM 2 bv0 G 0 0 (drS (vx1 s t p root src) s.Rows.toNat)=vg1 s t p root G src from rfl] at hv1
 unfold gX
 dsimp only
 rw [Q0 h,obs,rd h.fw.1.3 om,obs,aC om,rd (h.fw.take _).1.3 om,obs]
 rw [show tkM (tkM src (C0 s t p)) root=vx1 s t p root src from rfl,hd1,obs]
 dsimp only
 rw [hv1,obs]
 unfold b4n
 by_cases z1:(vg1 s t p root G src).1=0
 ·have hl1:=a3V q z1
  rw [if_pos z1,if_neg (not_not_intro z1)]
  dsimp only
  have htau:=Qw f1 om (n:=s.Rows.toNat) om
  have hea:GW (drL (vx1 s t p root src) s.Rows.toNat) (kv (vg1 s t p root G src).2.1)=some (eaK ((drL (vx1 s t p root src) s.Rows.toNat).map toK) (vg1 s t p root G src).2.1 1).1:=by
   have:=a3e (A:=(drL (vx1 s t p root src) s.Rows.toNat).map toK) (B:=(vg1 s t p root G src).2.1) (by rw [List.length_map,lh,hl1]) (by rw [List.length_map,lh];omega)
   rwa [a0z htau] at this
  have hcm: ∀x:K,tN 2 [x.1,va.1,vb.1,vc.1]=some (cmK 2 [x,va,vb,vc]).1:=fun x=>Uy (kind:=2) (v:=[x,va,vb,vc]) (.inr rfl) rfl
  rw [cZ rfl,hea,obs,hcm,obs,Ec]
  by_cases z2:cmK 2 [eaK ((drL (vx1 s t p root src) s.Rows.toNat).map toK) (vg1 s t p root G src).2.1 1,va,vb,vc]=(vg1 s t p root G src).2.2.1
  ·have hd3:=Hi f3 om (n:=3) om
   rw [show ((3:Nat):Int)=3 from rfl,b9T f3 om] at hd3
   have hab:bu [va.1,vb.1,vc.1] (vg1 s t p root G src).2.2.2=some (vx3 s t p root G va vb vc src):=Po (g:=[va,vb,vc]) (U2 h q).1 (by simp)
   have hdot: ∀a b c:K,It (kv [a,b,c]) [va.1,vb.1,vc.1]=some (a*va+(b*vb+c*vc)).1:=fun a b c=>by
    have:=PD (Dk [a,b,c]) (Dk [va,vb,vc]) (by simp [aP]) (by simp [aP])
    rw [a1h,b0o] at this
    exact this
   have hv2:bm 1 (vr (vx3 s t p root G va vb vc src) 0*va+(vr (vx3 s t p root G va vb vc src) 1*vb+vr (vx3 s t p root G va vb vc src) 2*vc)).1 (kvv W) (drS (vx3 s t p root G va vb vc src) 3)=_:=C6 (kind:=1) (.inl rfl) (R:=W) f4 (by have:=q.wl;omega)
   rw [show vfM 1 bv0 W 0 (vr (vx3 s t p root G va vb vc src) 0*va+(vr (vx3 s t p root G va vb vc src) 1*vb+vr (vx3 s t p root G va vb vc src) 2*vc)) (drS (vx3 s t p root G va vb vc src) 3)=vg2 s t p root G W va vb vc src from rfl] at hv2
   rw [if_pos z2,if_neg (not_not_intro z2),hab,obs,hd3,obs]
   dsimp only
   rw [hdot,obs,hv2,obs]
   by_cases z3:(vg2 s t p root G W va vb vc src).1=0
   ·have hl2:=a3o q z3
    have htk:((vg2 s t p root G W va vb vc src).2.1.take (s.Cols.toNat-1)).length=s.Cols.toNat-1:=by rw [List.length_take];omega
    have hat:=sq (l:=(vg2 s t p root G W va vb vc src).2.1) (j:=s.Cols.toNat-1) om
    rw [show ((s.Cols.toNat-1:Nat):Int)=s.Cols-1 by omega] at hat
    rw [if_pos z3,if_neg (not_not_intro z3)]
    dsimp only
    have hbt:=M0 h.sy (p:=(vg1 s t p root G src).2.1) (R:=eqK (vg1 s t p root G src).2.1) (x:=vr (vx3 s t p root G va vb vc src) 0) (y:=vr (vx3 s t p root G va vb vc src) 1) (z:=vr (vx3 s t p root G va vb vc src) 2) hl1 (P6 _)
    have hbl:=a3R s (eqK (vg1 s t p root G src).2.1) (vr (vx3 s t p root G va vb vc src) 0) (vr (vx3 s t p root G va vb vc src) 1) (vr (vx3 s t p root G va vb vc src) 2)
    have hel:=b2l (vg2 s t p root G W va vb vc src).2.1
    have hpw:=Do s.Cols.toNat om
    rw [hl2] at hel
    have hdt:It (kv (btM s (eqK (vg1 s t p root G src).2.1) (vr (vx3 s t p root G va vb vc src) 0) (vr (vx3 s t p root G va vb vc src) 1) (vr (vx3 s t p root G va vb vc src) 2))) (kv (eqK (vg2 s t p root G W va vb vc src).2.1))=some (Sn (btM s (eqK (vg1 s t p root G src).2.1) (vr (vx3 s t p root G va vb vc src) 0) (vr (vx3 s t p root G va vb vc src) 1) (vr (vx3 s t p root G va vb vc src) 2)) (eqK (vg2 s t p root G W va vb vc src).2.1)).1:=by
     rw [PD (Dk _) (Dk _) (by rw [aP,aP];omega) (by rw [aP];omega),a1h]
    rw [cZ rfl,aa (s.Cols-1) om om,fK om om (by rw [aP];omega),obs,hat,obs,brd (by simp [aP])]
    rw [show a1I (kv [vr (vx3 s t p root G va vb vc src) 0,vr (vx3 s t p root G va vb vc src) 1,vr (vx3 s t p root G va vb vc src) 2])=some ((vr (vx3 s t p root G va vb vc src) 0).1,(vr (vx3 s t p root G va vb vc src) 1).1,(vr (vx3 s t p root G va vb vc src) 2).1) from rfl,obs,hbt,obs,
     z8 (Dk _) (by rw [aP];omega),obs,P6,hdt,obs,show (Int.toNat 0)=0 from rfl,List.drop_zero,show (s.Cols-1).toNat-0=s.Cols.toNat-1 by omega,a3E,
     S7 h.sy om h.pf (Dk _) (by rw [aP];omega),obs, ←XK,WS,obs,dw (Subtype.property _) (Subtype.property _),obs, ←K.mul_val, ←T8,Ec]
    by_cases z4:a3a s p (vg1 s t p root G src).2.1 (vg2 s t p root G W va vb vc src).2.1 (vr (vx3 s t p root G va vb vc src) 0) (vr (vx3 s t p root G va vb vc src) 1) (vr (vx3 s t p root G va vb vc src) 2) vw=(vg2 s t p root G W va vb vc src).2.2.1
    ·obtain ⟨src',hck,_⟩:=a0F (s:=rsM (vg2 s t p root G W va vb vc src).2.2.2 [vw]) (root:=root) (cl:=vw) (P:=(vg2 s t p root G W va vb vc src).2.1.take (s.Cols.toNat-1)) (nq:=t.Queries.toNat) (ρ:=t.Rate.toNat) (bits:=t.Grind.toNat) q.op htk om om om ((Few.take f5 _).mono om:Few (rsM (vg2 s t p root G W va vb vc src).2.2.2 [vw]) 999842) om
     have hab2:bu [vw.1] (vg2 s t p root G W va vb vc src).2.2.2=some (rsM (vg2 s t p root G W va vb vc src).2.2.2 [vw]):=Po (g:=[vw]) f5.1 (by simp)
     rw [if_pos z4,if_neg (not_not_intro z4),hab2,obs,hck,obs]
     exact ⟨_,rfl⟩
    ·rw [if_neg z4,if_pos z4]
     exact ⟨_,rfl⟩
   ·rw [if_neg z3,if_pos z3]
    dsimp only
    rw [brb z3]
    exact ⟨_,rfl⟩
  ·rw [if_neg z2,if_pos z2]
   exact ⟨_,rfl⟩
 ·rw [if_neg z1,if_pos z1]
  dsimp only
  rw [brb z1]
  exact ⟨_,rfl⟩
theorem b5V (D a b z:K):D*((1-z)*a+z*b)=D*(a+z*(b-a)):=by exact kg
theorem NR (h:M9 s t p src) (q:W5 s t root G W o):
 nB s t p ⟨root,kvv G,va.1,vb.1,vc.1,kvv W,vw.1,o⟩ src=some (b4n s t p root G W va vb vc vw o src):=by
 obtain ⟨hr,hc,hpb,_⟩:=fQ h.sy
 obtain ⟨_,hpub⟩:=a3n h.sy
 have hpl:=h.pl
 have hpe:=h.pe
 have hrt:=q.rt
 have f1:=VM (root:=root) h
 have f2:=Xp (root:=root) h
 have f3:=V8 (va:=va) (vb:=vb) (vc:=vc) h q
 have f4:=UC (va:=va) (vb:=vb) (vc:=vc) h q
 have f5:=a3L (va:=va) (vb:=vb) (vc:=vc) h q
 have bo:=hG h.se
 have eR:((s.Rows.toNat:Nat):Int)=s.Rows:=by omega
 have hd1:=JZ f1 om (n:=s.Rows.toNat) om
 rw [eR] at hd1
 have hv1:ja 2 (Ext.mk 0 0) (kvv G) (G.length:Int) (drS (vx1 s t p root src) s.Rows.toNat)=_:=L5 (kind:=2) (.inr rfl) (R:=G) (c:=0) f2 (by have:=q.gl;omega)
 rw [show vfM 2 bv0 G 0 0 (drS (vx1 s t p root src) s.Rows.toNat)=vg1 s t p root G src from rfl,q.gl,eR] at hv1
 unfold nB
 dsimp only
 rw [Rv h,obs,rb (h.fw.take _).1.3 om,obs]
 rw [show tkM (tkM src (C0 s t p)) root=vx1 s t p root src from rfl,hd1,obs]
 dsimp only
 rw [hv1,obs]
 unfold b4n
 by_cases z1:(vg1 s t p root G src).1=0
 ·have hl1:=a3V q z1
  rw [if_pos z1,if_neg (not_not_intro z1)]
  dsimp only
  have htau:=Qw f1 om (n:=s.Rows.toNat) om
  have hea:py (drL (vx1 s t p root src) s.Rows.toNat) (kv (vg1 s t p root G src).2.1)=some (eaK ((drL (vx1 s t p root src) s.Rows.toNat).map toK) (vg1 s t p root G src).2.1 1).1:=by
   have:=a46 (A:=(drL (vx1 s t p root src) s.Rows.toNat).map toK) (B:=(vg1 s t p root G src).2.1) (by rw [List.length_map,lh,hl1]) (by rw [List.length_map,lh];omega)
   rwa [a0z htau] at this
  have hcm: ∀x:K,kY 2 [x.1,va.1,vb.1,vc.1]=some (cmK 2 [x,va,vb,vc]).1:=fun x=>V6 (kind:=2) (v:=[x,va,vb,vc]) (.inr rfl) rfl
  rw [cZ rfl,hea,obs,hcm,obs,Ec]
  by_cases z2:cmK 2 [eaK ((drL (vx1 s t p root src) s.Rows.toNat).map toK) (vg1 s t p root G src).2.1 1,va,vb,vc]=(vg1 s t p root G src).2.2.1
  ·have hd3:=JZ f3 om (n:=3) om
   rw [show ((3:Nat):Int)=3 from rfl,b9T f3 om] at hd3
   have hab:iH (vg1 s t p root G src).2.2.2 [va.1,vb.1,vc.1]=some (vx3 s t p root G va vb vc src):=Pg (g:=[va,vb,vc]) (U2 h q).1 (by simp)
   have hv2:ja 1 (vr (vx3 s t p root G va vb vc src) 0*va+(vr (vx3 s t p root G va vb vc src) 1*vb+vr (vx3 s t p root G va vb vc src) 2*vc)).1 (kvv W) (W.length:Int) (drS (vx3 s t p root G va vb vc src) 3)=_:=L5 (kind:=1) (.inl rfl) (R:=W) f4 (by have:=q.wl;omega)
   rw [show vfM 1 bv0 W 0 (vr (vx3 s t p root G va vb vc src) 0*va+(vr (vx3 s t p root G va vb vc src) 1*vb+vr (vx3 s t p root G va vb vc src) 2*vc)) (drS (vx3 s t p root G va vb vc src) 3)=vg2 s t p root G W va vb vc src from rfl,q.wl,show ((s.Cols.toNat:Nat):Int)=s.Cols by omega] at hv2
   have k0: ∀a b c:K,atL (kv [a,b,c]) 0=some a.1:=fun _ _ _=>rfl
   have k1: ∀a b c:K,atL (kv [a,b,c]) 1=some b.1:=fun _ _ _=>rfl
   have k2: ∀a b c:K,atL (kv [a,b,c]) 2=some c.1:=fun _ _ _=>rfl
   have hm: ∀a b:K,bW a.1 b.1=some (a*b).1:=fun a b=>dl a.2 b.2
   have ha: ∀a b:K,fG a.1 b.1=some (a+b).1:=fun a b=>iI a.2 b.2
   rw [if_pos z2,if_neg (not_not_intro z2),hab,obs,hd3,obs]
   dsimp only
   rw [k0,obs,hm,obs,k1,obs,hm,obs,k2,obs,hm,obs,ha,obs,ha,obs,hv2,obs]
   by_cases z3:(vg2 s t p root G W va vb vc src).1=0
   ·have hl2:=a3o q z3
    have htk:((vg2 s t p root G W va vb vc src).2.1.take (s.Cols.toNat-1)).length=s.Cols.toNat-1:=by rw [List.length_take];omega
    have hat:=sq (l:=(vg2 s t p root G W va vb vc src).2.1) (j:=s.Cols.toNat-1) om
    rw [show ((s.Cols.toNat-1:Nat):Int)=s.Cols-1 by omega] at hat
    rw [if_pos z3,if_neg (not_not_intro z3)]
    dsimp only
    have hbt:=SK h.sy (p:=(vg1 s t p root G src).2.1) (R:=eqK (vg1 s t p root G src).2.1) (x:=vr (vx3 s t p root G va vb vc src) 0) (y:=vr (vx3 s t p root G va vb vc src) 1) (z:=vr (vx3 s t p root G va vb vc src) 2) hl1 (P6 _)
    have hbl:=a3R s (eqK (vg1 s t p root G src).2.1) (vr (vx3 s t p root G va vb vc src) 0) (vr (vx3 s t p root G va vb vc src) 1) (vr (vx3 s t p root G va vb vc src) 2)
    have hpw:=Do s.Cols.toNat om
    have hdt:zI (kv (btM s (eqK (vg1 s t p root G src).2.1) (vr (vx3 s t p root G va vb vc src) 0) (vr (vx3 s t p root G va vb vc src) 1) (vr (vx3 s t p root G va vb vc src) 2))) (kv (vg2 s t p root G W va vb vc src).2.1)=some (Sn (btM s (eqK (vg1 s t p root G src).2.1) (vr (vx3 s t p root G va vb vc src) 0) (vr (vx3 s t p root G va vb vc src) 1) (vr (vx3 s t p root G va vb vc src) 2)) (eqK (vg2 s t p root G W va vb vc src).2.1)).1:=by
     rw [a37 (Dk _) (Dk _) (by rw [aP];omega) (by rw [aP,aP,hl2];omega),P6,a1h]
    have hls: ∀a:K,kO a.1=some (1-a).1:=fun a=>E7 a.2
    rw [cZ rfl,aa (s.Cols-1) om om,fK om om (by rw [aP];omega),obs,hat,obs,hls,obs,show (Int.toNat 0)=0 from rfl,List.drop_zero,show (s.Cols-1).toNat-0=s.Cols.toNat-1 by omega,a3E,
     Zo h.sy om h.pf (Dk _) (by rw [aP];omega),obs, ←XK,hm,obs,hm,obs,ha,obs,hbt,obs,hdt,obs,hm,obs,b5V, ←T8,Ec]
    by_cases z4:a3a s p (vg1 s t p root G src).2.1 (vg2 s t p root G W va vb vc src).2.1 (vr (vx3 s t p root G va vb vc src) 0) (vr (vx3 s t p root G va vb vc src) 1) (vr (vx3 s t p root G va vb vc src) 2) vw=(vg2 s t p root G W va vb vc src).2.2.1
    ·obtain ⟨src',hck,_⟩:=a2f (s:=rsM (vg2 s t p root G W va vb vc src).2.2.2 [vw]) (root:=root) (cl:=vw) (P:=(vg2 s t p root G W va vb vc src).2.1.take (s.Cols.toNat-1)) (nq:=t.Queries.toNat) (ρ:=t.Rate.toNat) (bits:=t.Grind.toNat) q.op htk om om om ((Few.take f5 _).mono om:Few (rsM (vg2 s t p root G W va vb vc src).2.2.2 [vw]) 999842) om
     rw [show ((s.Cols.toNat-1:Nat):Int)=s.Cols-1 by omega] at hck
     have hab2:iH (vg2 s t p root G W va vb vc src).2.2.2 [vw.1]=some (rsM (vg2 s t p root G W va vb vc src).2.2.2 [vw]):=Pg (g:=[vw]) f5.1 (by simp)
     rw [if_pos z4,if_neg (not_not_intro z4),hab2,obs,hck,obs]
    ·rw [if_neg z4,if_pos z4]
   ·rw [if_neg z3,if_pos z3]
    dsimp only
    rw [brb z3]
  ·rw [if_neg z2,if_pos z2]
 ·rw [if_neg z1,if_pos z1]
  dsimp only
  rw [brb z1]
end Go.AI.Fn
set_option linter.unusedVariables false
set_option linter.unusedSimpArgs false
namespace Go.AI.Fn
theorem a49 {p:gn} {s:System} {t:Setting} (h:okP p s t=true):
 ∃(G W:List (List K)) (va vb vc vw:K),p=⟨p.Root,kvv G,va.1,vb.1,vc.1,kvv W,vw.1,p.Open⟩∧W5 s t p.Root G W p.Open:=by
 unfold okP y5 at h
 simp only [Bool.and_eq_true,decide_eq_true_eq,List.all_eq_true,h32,CE] at h
 obtain ⟨hs,ht,hr,⟨hg,hg2⟩,ha,hb,hc,⟨hw,hw2⟩,hv,ho⟩:=h
 obtain ⟨hR,hC,_⟩:=fQ hs
 have lift: ∀(R:List (List Ext)) (n:Nat),(∀x∈R,oC (n:Int) x=true)→R=kvv (R.map fun g=>g.map toK)∧ ∀g∈(R.map fun g=>g.map toK),g.length=n:=fun R n hR=>by
  have hx: ∀x∈R,x.length=n∧cE x:=fun x hx=>by
   have:=hR x hx
   simp only [oC,Bool.and_eq_true,decide_eq_true_eq] at this
   exact ⟨by omega,a1p.1 this.2⟩
  refine ⟨?_,fun g hg=> ?_⟩
  ·rw [kvv,List.map_map]
   conv=>lhs;rw [←List.map_id R]
   exact List.map_congr_left fun x h=>(a0z (hx x h).2).symm
  ·obtain ⟨x,h,rfl⟩:=List.mem_map.1 hg
   rw [List.length_map];exact (hx x h).1
 obtain ⟨eG,lG⟩:=lift p.Gates 4 hg2
 obtain ⟨eW,lW⟩:=lift p.Wires 3 hw2
 refine ⟨p.Gates.map fun g=>g.map toK,p.Wires.map fun g=>g.map toK,toK p.VA,toK p.VB,toK p.VC,toK p.VW, ?_,hr,by rw [List.length_map];omega,lG,by rw [List.length_map];omega,lW, ?_⟩
 ·rw [←eG, ←eW,jo ha,jo hb,jo hc,jo hv]
 ·exact Ta (by rw [show ((s.Cols.toNat-1:Nat):Int)=s.Cols-1 by omega];exact ho)
theorem Zh {s:System} {t:Setting} {p:List Int} {q:gn} {src:Source} (h:M9 s t p src) (hq:okP q s t=true):
 ∃c src',gX s t p q src=some (c,src')∧nB s t p q src=some c:=by
 obtain ⟨G,W,va,vb,vc,vw,e,hp⟩:=a49 hq
 obtain ⟨src',h1⟩:=Ys (va:=va) (vb:=vb) (vc:=vc) (vw:=vw) h hp
 rw [e]
 exact ⟨_,_,h1,NR h hp⟩
theorem RZ {a:Source} {left:Int} (ha:bdSource a) (h0: -1≤left) (h1:left≤1048576): ∃r,uM a left=some r∧ -1≤r∧r≤1048576∧(0≤r→a.Script.length≤1048576):=by
 obtain ⟨b0,_,b1,_⟩:=ha
 have b1':a.State.length≤9223372036854775807:=b1
 obtain ⟨r,h2,h3,h4,h5⟩:=ZH b0.1 h0 h1
 unfold uM
 rw [h2,obs]
 by_cases c:r<0
 ·rw [brd c];exact ⟨_,rfl,by omega,by omega,by omega⟩
 ·rw [brn c,aa _ om om]
  by_cases d:r-(a.State.length:Int)<0
  ·rw [brd d];exact ⟨_,rfl,by omega,by omega,by omega⟩
  ·rw [brn d];exact ⟨_,rfl,by omega,by omega,fun _=>h5 om⟩
theorem QK {a:Source} (h:a.Script.length≤1048576):nb a=some a:=by
 unfold nb
 rw [ZM h,obs]
theorem Mv {a:Source} (h:a.Script.length≤1048576):uG a a=some true:=by
 unfold uG
 rw [RS h,obs,Bool.not_true,aw,cZ rfl,OG (by simp),cZ rfl]
end Go.AI.Fn
set_option linter.unusedVariables false
set_option linter.unusedSimpArgs false
namespace Go.AI.Fn
section
variable {v ρ nq:Nat} {t:Setting}
theorem a5P {l14:List (List Ext)} {l15:List (List UInt8)} {l16:List aj} {l17:List (List (List UInt8))} {t10 t11 t12 c48 c49 c50 c51 c52 c53 c54 c55 c56:Int} {c57:List Ext} (n:Nat) (hn:n≤100) (r:List UInt8) (ok:Bool) (hr:r.length≤100000):
 ∃l' t' ok',Loop (ib l14 l15 l16 l17 t10 t11 t12 c48 c49 c50 c51 c52 c53 c54 c55 c56 c57) ([],(n:Int),r,ok)=some (l',0,false,t',ok')∧t'.length≤r.length∧(ok'=true↔ok=true∧n*32≤r.length)∧(ok'=true→l'=hsL n r∧t'=r.drop (n*32)):=by
 obtain ⟨l',t',ok',e,h1,h2,h3⟩:=wc (sz:=fun _=>32) (D:=fun _ r=>r.take 32) (V:=fun _=>True) (k:=n) (ix:=fun j=>((n-j:Nat):Int)) (step:=ib l14 l15 l16 l17 t10 t11 t12 c48 c49 c50 c51 c52 c53 c54 c55 c56 c57) (b:=16) om (fun l j r ok hj h2=>by
  obtain ⟨x,t1,ok1,e,h1,h2,h3⟩:=N1 (n:=32) om ⟨r,ok⟩ h2
  refine ⟨x,t1,ok1, ?_,h1,h2,h3⟩
  simp only [ib]
  rw [brd om,show (32:Int)=((32:Nat):Int) from rfl,e,obs,aa _ om om,show ((n-j:Nat):Int)-1=((n-(j+1):Nat):Int) by omega]) (fun l r ok=>by
  simp only [ib]
  rw [brn om,decide_eq_false om]) n 0 [] r ok om (by rw [List.length_nil];omega) hr
 rw [gt] at h2 h3
 refine ⟨l',t',ok', ?_,h1,⟨fun g=>⟨(h2.1 g).1,(h2.1 g).2.1⟩,fun g=>h2.2 ⟨g.1,g.2,fun _ _=>trivial⟩⟩,h3⟩
 rw [Nat.sub_zero,Nat.sub_self,List.nil_append] at e
 exact e
theorem a9Z {l4:List (List Ext)} {l6:List aj} {c14 c15 c16 c17 c18 c19 c20 c21 c22:Int} (hv:1≤v∧v≤6) (r:List UInt8) (ok:Bool) (hr:r.length≤100000):
 ∃l' t' ok',Loop (i9 l4 l6 (v:Int) c14 c15 c16 c17 c18 c19 c20 c21 c22) ([],1,r,ok)=some (l',(v:Int),false,t',ok')∧t'.length≤r.length∧(ok'=true↔ok=true∧(v-1)*32≤r.length)∧(ok'=true→l'=hsL (v-1) r∧t'=r.drop ((v-1)*32)):=by
 obtain ⟨l',t',ok',e,h1,h2,h3⟩:=wc (sz:=fun _=>32) (D:=fun _ r=>r.take 32) (V:=fun _=>True) (k:=v-1) (ix:=fun j=>((j+1:Nat):Int)) (step:=i9 l4 l6 (v:Int) c14 c15 c16 c17 c18 c19 c20 c21 c22) (b:=16) om (fun l j r ok hj h2=>by
  obtain ⟨x,t1,ok1,e,h1,h2,h3⟩:=N1 (n:=32) om ⟨r,ok⟩ h2
  refine ⟨x,t1,ok1, ?_,h1,h2,h3⟩
  simp only [i9]
  rw [brd om,show (32:Int)=((32:Nat):Int) from rfl,e,obs,aa _ om om,show ((j+1:Nat):Int)+1=((j+1+1:Nat):Int) by omega]) (fun l r ok=>by
  simp only [i9]
  rw [brn om,decide_eq_false om]) (v-1) 0 [] r ok om (by rw [List.length_nil];omega) hr
 rw [gt] at h2 h3
 refine ⟨l',t',ok', ?_,h1,⟨fun g=>⟨(h2.1 g).1,(h2.1 g).2.1⟩,fun g=>h2.2 ⟨g.1,g.2,fun _ _=>trivial⟩⟩,h3⟩
 rw [show v-1+1=v by omega,List.nil_append] at e
 exact e
theorem a48 {l2:List (List UInt8)} {l3:List aj} {c3 c4 c5 c6 c7 c8 c9 c10 c11:Int} (hv:v≤6) (r:List UInt8) (ok:Bool) (hr:r.length≤100000):
 ∃l' t' ok',Loop (ir l2 l3 (v:Int) c3 c4 c5 c6 c7 c8 c9 c10 c11) ([],0,r,ok)=some (l',(v:Int),false,t',ok')∧t'.length≤r.length∧(ok'=true↔ok=true∧v*(8*3)≤r.length∧ ∀x∈rsL 3 v r,cE x)∧(ok'=true→l'=rsL 3 v r∧t'=r.drop (v*(8*3))):=by
 obtain ⟨l',t',ok',e,h1,h2,h3⟩:=wc (sz:=fun _=>8*3) (D:=fun _=>dE 3) (V:=cE) (k:=v) (ix:=fun j=>(j:Int)) (step:=ir l2 l3 (v:Int) c3 c4 c5 c6 c7 c8 c9 c10 c11) (b:=24) om (fun l j r ok hj h2=>by
  obtain ⟨x,t1,ok1,e,h1,h2,h3⟩:=IK (k:=3) om ⟨r,ok⟩ h2
  refine ⟨x,t1,ok1, ?_,h1,h2,h3⟩
  simp only [ir]
  rw [brd om,show (3:Int)=((3:Nat):Int) from rfl,e,obs,aa _ om om];rfl) (fun l r ok=>by
  simp only [ir]
  rw [brn om,decide_eq_false om]) v 0 [] r ok om (by rw [List.length_nil];omega) hr
 rw [gt] at h2 h3
 exact ⟨l',t',ok',e,h1,h2,h3⟩
theorem b0Y {l10:List (List Ext)} {l11:List (List UInt8)} {l12:List aj} {t8 c37 c38 c39 c40 c41 c42 c43 c44:Int} {c45:List Ext} (hv:1≤v∧v≤6) (hρ:1≤ρ∧ρ≤3) (r:List UInt8) (ok:Bool) (hr:r.length≤100000):
 ∃l' t' ok',Loop (ie l10 l11 l12 (v:Int) t8 (ρ:Int) c37 c38 c39 c40 c41 c42 c43 c44 c45) ([],0,r,ok)=some (l',(v:Int),false,t',ok')∧t'.length≤r.length∧(ok'=true↔ok=true∧tL (pS (v+ρ-1)) v 0≤r.length)∧
  (ok'=true→l'=dL (pS (v+ρ-1)) (fun j r=>hsL (v+ρ-1-j) r) v 0 r∧t'=r.drop (tL (pS (v+ρ-1)) v 0)):=by
 obtain ⟨l',t',ok',e,h1,h2,h3⟩:=wc (sz:=pS (v+ρ-1)) (D:=fun j r=>hsL (v+ρ-1-j) r) (V:=fun _=>True) (k:=v) (ix:=fun j=>(j:Int)) (step:=ie l10 l11 l12 (v:Int) t8 (ρ:Int) c37 c38 c39 c40 c41 c42 c43 c44 c45) (b:=24) om (fun l j r ok hj h2=>by
  simp only [ie]
  obtain ⟨x,t1,ok1,e,h1,h2,h3⟩:=a5P (l14:=l10) (l15:=l11) (l16:=l12) (l17:=l) (t10:=(v:Int)) (t11:=t8) (t12:=(j:Int)) (c48:=(ρ:Int)) (c49:=c37) (c50:=c38) (c51:=c39) (c52:=c40) (c53:=c41) (c54:=c42) (c55:=c43) (c56:=c44) (c57:=c45) (v+ρ-1-j) om r ok h2
  refine ⟨x,t1,ok1, ?_,h1,by rw [h2];exact ⟨fun g=>⟨g.1,g.2,trivial⟩,fun g=>⟨g.1,g.2.1⟩⟩,h3⟩
  rw [brd om,aa ((v:Int)+(ρ:Int)) om om,aa ((v:Int)+(ρ:Int)-1) om om,aa ((v:Int)+(ρ:Int)-1-(j:Int)) om om,show (v:Int)+(ρ:Int)-1-(j:Int)=((v+ρ-1-j:Nat):Int) by omega,
   e,obs,aa _ om om];rfl) (fun l r ok=>by
  simp only [ie]
  rw [brn om,decide_eq_false om]) v 0 [] r ok om (by rw [List.length_nil];omega) hr
 exact ⟨l',t',ok',e,h1,⟨fun g=>⟨(h2.1 g).1,(h2.1 g).2.1⟩,fun g=>h2.2 ⟨g.1,g.2,fun _ _=>trivial⟩⟩,h3⟩
theorem a2g {l7:List (List Ext)} {l8:List (List UInt8)} {c27 c28 c29 c30 c31 c32 c33:Int} (hv:1≤v∧v≤6) (hρ:1≤ρ∧ρ≤3) (hq:nq≤8) (r:List UInt8) (ok:Bool) (hr:r.length≤100000):
 ∃l' t' ok',Loop (ic l7 l8 (v:Int) (ρ:Int) (nq:Int) c27 c28 c29 c30 c31 c32 c33) ([],0,r,ok)=some (l',(nq:Int),false,t',ok')∧t'.length≤r.length∧
  (ok'=true↔ok=true∧nq*nQ v (v+ρ-1)≤r.length∧ ∀q∈dL (fun _=>nQ v (v+ρ-1)) (fun _=>dQ v (v+ρ-1)) nq 0 r,cE q.Pairs)∧
  (ok'=true→l'=dL (fun _=>nQ v (v+ρ-1)) (fun _=>dQ v (v+ρ-1)) nq 0 r∧t'=r.drop (nq*nQ v (v+ρ-1))):=by
 obtain ⟨l',t',ok',e,h1,h2,h3⟩:=wc (sz:=fun _=>nQ v (v+ρ-1)) (D:=fun _=>dQ v (v+ρ-1)) (V:=fun q:aj=>cE q.Pairs) (k:=nq) (ix:=fun j=>(j:Int)) (step:=ic l7 l8 (v:Int) (ρ:Int) (nq:Int) c27 c28 c29 c30 c31 c32 c33) (b:=48) om (fun l j r ok hj h2=>by
  simp only [ic]
  obtain ⟨x,t1,ok1,e,h1,h2,h3⟩:=IK (k:=2*v) om ⟨r,ok⟩ h2
  dsimp only at h1 h2 h3
  obtain ⟨y,t2,ok2,g,g1,g2,g3⟩:=b0Y (ρ:=ρ) (l10:=l7) (l11:=l8) (l12:=l) (t8:=(j:Int)) (c37:=(nq:Int)) (c38:=c27) (c39:=c28) (c40:=c29) (c41:=c30) (c42:=c31) (c43:=c32) (c44:=c33) (c45:=x) hv hρ t1 ok1 om
  refine ⟨⟨x,y⟩,t2,ok2, ?_,by omega, ?_,fun hh=> ?_⟩
  ·rw [brd om,aa (2*(v:Int)) om om,show 2*(v:Int)=((2*v:Nat):Int) by omega,e,obs]
   dsimp only
   rw [g,obs,aa _ om om];rfl
  ·rw [g2]
   show _↔_∧8*(2*v)+tL (pS (v+ρ-1)) v 0≤_∧cE (dE (2*v) r)
   constructor
   ·rintro ⟨a1,a2⟩
    obtain ⟨b1,b2,b3⟩:=h2.1 a1
    obtain ⟨_,rfl⟩:=h3 a1
    rw [List.length_drop] at a2
    exact ⟨b1,by omega,b3⟩
   ·rintro ⟨a1,a2,a3⟩
    have hk:ok1=true:=h2.2 ⟨a1,by omega,a3⟩
    obtain ⟨_,rfl⟩:=h3 hk
    exact ⟨hk,by rw [List.length_drop];omega⟩
  ·obtain ⟨a1,a2⟩:=g2.1 hh
   obtain ⟨rfl,rfl⟩:=h3 a1
   obtain ⟨rfl,rfl⟩:=g3 hh
   rw [List.drop_drop]
   exact ⟨rfl,rfl⟩) (fun l r ok=>by
  simp only [ic]
  rw [brn om,decide_eq_false om]) nq 0 [] r ok om (by rw [List.length_nil];omega) hr
 rw [gt] at h2 h3
 exact ⟨l',t',ok',e,h1,h2,h3⟩
theorem b0z (l:List UInt8) (h:l.length=4): ∃n,jL l=some n:=by
 match l,h with
 |[a,b,c,d],_=>exact ⟨_,JJ a b c d⟩
def vO (o:au):Prop:=(∀x∈o.Rounds,cE x)∧okE o.Last∧ ∀q∈o.Queries,cE q.Pairs
theorem a1j (hv:1≤v∧v≤6) (hs:setB t=true):b4S (yC (v:Int) t) (nO v (v+t.Rate.toNat-1) t.Queries.toNat) (dO v (v+t.Rate.toNat-1) t.Queries.toNat) vO:=by
 intro m hm
 have hb:=hG hs
 unfold yC
 obtain ⟨x1,t1,k1,e1,a1,b1,d1'⟩:=a48 (l2:=[]) (l3:=[]) (c3:=t.Rate) (c4:=t.Queries) (c5:=t.Grind) (c6:=0) (c7:=0) (c8:=0) (c9:=0) (c10:=0) (c11:=0) (v:=v) om m.t m.ok hm
 obtain ⟨x2,t2,k2,e2,a2,b2,d2⟩:=a9Z (l4:=x1) (l6:=[]) (c14:=t.Rate) (c15:=t.Queries) (c16:=t.Grind) (c17:=0) (c18:=0) (c19:=0) (c20:=0) (c21:=0) (c22:=0) hv t1 k1 om
 obtain ⟨x3,t3,k3,e3,a3,b3,d3⟩:=Qy ⟨t2,k2⟩ (by dsimp only;omega)
 dsimp only at a3 b3 d3
 rw [e1,obs]
 dsimp only
 rw [e2,obs]
 dsimp only
 rw [e3,obs]
 dsimp only
 obtain ⟨x4,t4,k4,n4,e4,f4,a4,b4,d4'⟩: ∃x4 t4 k4 n4,bR 4 ⟨t3,k3⟩=some (x4,⟨t4,k4⟩)∧jL x4=some n4∧t4.length≤t3.length∧(k4=true↔k3=true∧4≤t3.length)∧(k4=true→n4=d4 t3∧t4=t3.drop 4):=by
  by_cases h:4≤t3.length
  ·obtain ⟨x4,t4,k4,e,h1,h2,h3⟩:=N1 (n:=4) om ⟨t3,k3⟩ (by dsimp only;omega)
   dsimp only at h1 h2 h3
   obtain ⟨g1,g2⟩:=E9 h
   have:bR 4 ⟨t3,k3⟩=some (t3.take 4,⟨t3.drop 4,k3⟩):=by
    unfold bR
    dsimp only
    rw [brn om,show (4:Int)=((4:Nat):Int) from rfl,g1,obs,g2];rfl
   exact ⟨_,_,_,_,this,(a0b h).2,by rw [List.length_drop];omega,⟨fun g=>⟨g,h⟩,fun g=>g.1⟩,fun _=>⟨rfl,rfl⟩⟩
  ·obtain ⟨n,hn⟩:=b0z (List.replicate 4 (0:UInt8)) (by simp)
   have:bR 4 ⟨t3,k3⟩=some (List.replicate 4 0,⟨t3,false⟩):=by
    unfold bR
    dsimp only
    rw [brd om,Ay om om om];rfl
   exact ⟨_,_,_,n,this,hn,Nat.le_refl _,⟨fun g=>(nomatch g),fun g=>absurd g.2 h⟩,fun g=>(nomatch g)⟩
 rw [e4,obs]
 dsimp only
 rw [f4,obs]
 obtain ⟨x5,t5,k5,e5,a5,b5,d5⟩:=a2g (ρ:=t.Rate.toNat) (nq:=t.Queries.toNat) (l7:=x1) (l8:=x2) (c27:=t.Grind) (c28:=0) (c29:=0) (c30:=0) (c31:=x3.A) (c32:=x3.B) (c33:=n4) hv om om t4 k4 om
 rw [show ((t.Rate.toNat:Nat):Int)=t.Rate by omega,show ((t.Queries.toNat:Nat):Int)=t.Queries by omega] at e5
 rw [e5,obs]
 refine ⟨_,_,_,rfl,by dsimp only;omega, ?_,fun hh=> ?_⟩
 ·dsimp only
  unfold vO dO nO
  dsimp only
  constructor
  ·intro h5
   obtain ⟨h4,l5,v5⟩:=b5.1 h5
   obtain ⟨h3,l4⟩:=b4.1 h4
   obtain ⟨h2,l3,v3⟩:=b3.1 h3
   obtain ⟨h1,l2⟩:=b2.1 h2
   obtain ⟨h0,l1,v1⟩:=b1.1 h1
   obtain ⟨_,rfl⟩:=d1' h1
   obtain ⟨_,rfl⟩:=d2 h2
   obtain ⟨_,rfl⟩:=d3 h3
   obtain ⟨_,rfl⟩:=d4' h4
   simp only [List.length_drop] at l2 l3 l4 l5
   exact ⟨h0,by omega,v1,v3,v5⟩
  ·rintro ⟨h0,hl,v1,v3,v5⟩
   have h1:=b1.2 ⟨h0,by omega,v1⟩
   obtain ⟨_,rfl⟩:=d1' h1
   have h2:=b2.2 ⟨h1,by rw [List.length_drop];omega⟩
   obtain ⟨_,rfl⟩:=d2 h2
   have h3:=b3.2 ⟨h2,by simp only [List.length_drop];omega,v3⟩
   obtain ⟨_,rfl⟩:=d3 h3
   have h4:=b4.2 ⟨h3,by simp only [List.length_drop];omega⟩
   obtain ⟨_,rfl⟩:=d4' h4
   exact b5.2 ⟨h4,by simp only [List.length_drop];omega,v5⟩
 ·obtain ⟨h4,_,_⟩:=b5.1 hh
  obtain ⟨h3,_⟩:=b4.1 h4
  obtain ⟨h2,_,_⟩:=b3.1 h3
  obtain ⟨h1,_⟩:=b2.1 h2
  obtain ⟨rfl,rfl⟩:=d1' h1
  obtain ⟨rfl,rfl⟩:=d2 h2
  obtain ⟨rfl,rfl⟩:=d3 h3
  obtain ⟨rfl,rfl⟩:=d4' h4
  obtain ⟨rfl,rfl⟩:=d5 hh
  unfold dO nO
  simp only [List.drop_drop,Nat.add_assoc,and_self]
end
end Go.AI.Fn
set_option linter.unusedVariables false
set_option linter.unusedSimpArgs false
namespace Go.AI.Fn
theorem dE3 {r:List UInt8} (h:24≤r.length):dE 3 r=[d1 r,d1 (r.drop 8),d1 ((r.drop 8).drop 8)]:=by
 obtain ⟨a,b,c,d,e,f,g,k,r1,rfl⟩:=a6D (l:=r) om
 simp only [List.length_cons] at h
 obtain ⟨a2,b2,c2,d2,e2,f2,g2,k2,r2,rfl⟩:=a6D (l:=r1) om
 simp only [List.length_cons] at h
 obtain ⟨a3,b3,c3,d3,e3,f3,g3,k3,r3,rfl⟩:=a6D (l:=r2) om
 rfl
def dP (s:System) (t:Setting) (r:List UInt8):gn:=
 ⟨r.take 32,rsL 4 s.Rows.toNat (r.drop 32),d1 ((r.drop 32).drop (s.Rows.toNat*(8*4))),d1 (((r.drop 32).drop (s.Rows.toNat*(8*4))).drop 8),d1 ((((r.drop 32).drop (s.Rows.toNat*(8*4))).drop 8).drop 8),
   rsL 3 s.Cols.toNat (((((r.drop 32).drop (s.Rows.toNat*(8*4))).drop 8).drop 8).drop 8),d1 ((((((r.drop 32).drop (s.Rows.toNat*(8*4))).drop 8).drop 8).drop 8).drop (s.Cols.toNat*(8*3))),
   dO (s.Cols.toNat-1) (s.Cols.toNat-1+t.Rate.toNat-1) t.Queries.toNat (((((((r.drop 32).drop (s.Rows.toNat*(8*4))).drop 8).drop 8).drop 8).drop (s.Cols.toNat*(8*3))).drop 8)⟩
def nP (s:System) (t:Setting):Nat:=32+(s.Rows.toNat*(8*4)+(8+(8+(8+(s.Cols.toNat*(8*3)+(8+nO (s.Cols.toNat-1) (s.Cols.toNat-1+t.Rate.toNat-1) t.Queries.toNat))))))
theorem b5q (k:Nat) (r:List UInt8):(dE k r).length≤k:=by rw [dE,N5,List.length_take];omega
theorem P3 {α:Type} {sz:Nat→Nat} {D:Nat→List UInt8→α}: ∀(d j:Nat) (r:List UInt8) (x:α),x∈dL sz D d j r→ ∃i r',x=D i r'
 |0,_,_,x,h=>by simp [dL] at h
 |d+1,j,r,x,h=>by
  rcases List.mem_cons.1 h with rfl|h
  ·exact ⟨_,_,rfl⟩
  ·exact P3 d (j+1) _ x h
theorem b0y (n:Nat) (hn:n≤1000) (r:List UInt8):b7C (hsL n r):=by
 refine ⟨by rw [hsL,PM];omega,fun x hx=> ?_⟩
 obtain ⟨i,r',rfl⟩:=P3 _ _ _ _ hx
 show (r'.take 32).length≤_
 rw [List.length_take];omega
theorem a2x (k n:Nat) (hk:k≤1000) (hn:n≤1000) (r:List UInt8):b2u (rsL k n r):=by
 refine ⟨by rw [rsL,PM];omega,fun x hx=> ?_⟩
 obtain ⟨i,r',rfl⟩:=P3 _ _ _ _ hx
 have:=b5q k r'
 omega
theorem c03 (v m nq:Nat) (hv:v≤100) (hm:m≤100) (hq:nq≤100) (r:List UInt8):SzO (dO v m nq r):=by
 refine ⟨a2x 3 v om om _,b0y _ om _,by unfold dO;dsimp only;rw [PM];omega,fun q h=> ?_⟩
 obtain ⟨i,r',rfl⟩:=P3 _ _ _ _ h
 refine ⟨by have:=b5q (2*v) r';show (dE (2*v) r').length≤_;omega,by show (dL _ _ _ _ _).length≤_;rw [PM];omega,fun p hp=> ?_⟩
 obtain ⟨j,r2,rfl⟩:=P3 _ _ _ _ hp
 exact b0y _ om _
section
variable {s:System} {t:Setting}
theorem a9l (hs:ne s=true) (ht:setB t=true) (r:List UInt8):SzP (dP s t r):=by
 obtain ⟨hr,hc,_⟩:=fQ hs
 have hb:=hG ht
 exact ⟨by show (r.take 32).length≤_;rw [List.length_take];omega,a2x 4 _ om om _,a2x 3 _ om om _,c03 _ _ _ om om om _⟩
def p0:gn:=⟨[],[],e0,e0,e0,[],e0,⟨[],[],e0,0,[]⟩⟩
theorem PX (hs:ne s=true) (ht:setB t=true):rk s t=some ((nP s t:Nat):Int):=by
 obtain ⟨hr,hc,_⟩:=fQ hs
 have hv:1≤s.Cols.toNat-1∧s.Cols.toNat-1≤6:=by omega
 have ho:=b9W hv ht
 have hz:=b8D hv ht
 unfold rk
 rw [aa (s.Cols-1) om om,show s.Cols-1=((s.Cols.toNat-1:Nat):Int) by omega,K1 hv ht,obs,
  aa (32*s.Rows) om om,aa (32+32*s.Rows) om om,aa (32+32*s.Rows+24) om om,aa (24*s.Cols) om om,aa (32+32*s.Rows+24+24*s.Cols) om om,aa (32+32*s.Rows+24+24*s.Cols+8) om om,aa _ om om]
 congr 1
 unfold nP
 omega
theorem Oo (hs:ne s=true) (ht:setB t=true) {b:List UInt8} (hb:b.length≤65536) (hA:s.A.length≤1048576) (hB:s.B.length≤1048576) (hC:s.C.length≤1048576):
 qV b s t=some (if b.length=nP s t then (dP s t b,okP (dP s t b) s t) else (p0,false)):=by
 obtain ⟨hr,hc,_⟩:=fQ hs
 have hv:1≤s.Cols.toNat-1∧s.Cols.toNat-1≤6:=by omega
 unfold qV
 rw [PX hs ht,obs]
 by_cases h:b.length=nP s t
 ·rw [if_pos h,cZ om]
  unfold nP at h
  generalize hn:nO (s.Cols.toNat-1) (s.Cols.toNat-1+t.Rate.toNat-1) t.Queries.toNat=n at h
  have l1:(b.drop 32).length=b.length-32:=List.length_drop
  have l2:((b.drop 32).drop (s.Rows.toNat*(8*4))).length=b.length-32-s.Rows.toNat*(8*4):=by rw [List.length_drop,l1]
  have l3:(((b.drop 32).drop (s.Rows.toNat*(8*4))).drop (8*3)).length=b.length-32-s.Rows.toNat*(8*4)-8*3:=by rw [List.length_drop,l2]
  have l4:((((b.drop 32).drop (s.Rows.toNat*(8*4))).drop (8*3)).drop (s.Cols.toNat*(8*3))).length=b.length-32-s.Rows.toNat*(8*4)-8*3-s.Cols.toNat*(8*3):=by rw [List.length_drop,l3]
  have l5:(((((b.drop 32).drop (s.Rows.toNat*(8*4))).drop (8*3)).drop (s.Cols.toNat*(8*3))).drop (8*1)).length=b.length-32-s.Rows.toNat*(8*4)-8*3-s.Cols.toNat*(8*3)-8*1:=by rw [List.length_drop,l4]
  have e8:((((b.drop 32).drop (s.Rows.toNat*(8*4))).drop 8).drop 8).drop 8=((b.drop 32).drop (s.Rows.toNat*(8*4))).drop (8*3):=by rw [List.drop_drop,List.drop_drop]
  have hg:=H7 (n:=s.Rows.toNat) (k:=4) om om (b.drop 32) om om
  have hw:=H7 (n:=s.Cols.toNat) (k:=3) om om (((b.drop 32).drop (s.Rows.toNat*(8*4))).drop (8*3)) om om
  rw [show ((s.Rows.toNat:Nat):Int)=s.Rows by omega] at hg
  rw [show ((s.Cols.toNat:Nat):Int)=s.Cols by omega] at hw
  rw [Oi b om om,obs]
  dsimp only
  rw [show (4:Int)=((4:Nat):Int) from rfl,hg,obs]
  dsimp only
  have hx:=BR (k:=3) om ((b.drop 32).drop (s.Rows.toNat*(8*4))) om om
  rw [show (3:Int)=((3:Nat):Int) from rfl,hx,obs]
  dsimp only
  rw [dE3 om]
  rw [show ∀x y z:Ext,atL [x,y,z] 0=some x from fun _ _ _=>rfl,obs,show ∀x y z:Ext,atL [x,y,z] 1=some y from fun _ _ _=>rfl,obs,show ∀x y z:Ext,atL [x,y,z] 2=some z from fun _ _ _=>rfl,obs,hw,obs]
  dsimp only
  rw [show (1:Int)=((1:Nat):Int) from rfl,BR (k:=1) om _ om om,obs]
  dsimp only
  rw [b5w om,obs,show ((1:Nat):Int)=1 from rfl,aa (s.Cols-1) om om,show s.Cols-1=((s.Cols.toNat-1:Nat):Int) by omega,YD hv ht _ om om,obs]
  have hp:gn.mk (b.take 32) (rsL 4 s.Rows.toNat (b.drop 32)) (d1 ((b.drop 32).drop (s.Rows.toNat*(8*4)))) (d1 (((b.drop 32).drop (s.Rows.toNat*(8*4))).drop 8)) (d1 ((((b.drop 32).drop (s.Rows.toNat*(8*4))).drop 8).drop 8)) (rsL 3 s.Cols.toNat (((b.drop 32).drop (s.Rows.toNat*(8*4))).drop (8*3)))
   (d1 ((((b.drop 32).drop (s.Rows.toNat*(8*4))).drop (8*3)).drop (s.Cols.toNat*(8*3)))) (dO (s.Cols.toNat-1) (s.Cols.toNat-1+t.Rate.toNat-1) t.Queries.toNat (((((b.drop 32).drop (s.Rows.toNat*(8*4))).drop (8*3)).drop (s.Cols.toNat*(8*3))).drop (8*1)))=dP s t b:=by
   unfold dP
   rw [e8]
  dsimp only
  rw [hp,Je (a9l hs ht b) hA hB hC];rfl
 ·rw [if_neg h,brb om];rfl
end
end Go.AI.Fn
set_option linter.unusedVariables false
set_option linter.unusedSimpArgs false
namespace Go.AI.Fn
section
variable {s:System} {t:Setting}
theorem a9D {l2:List (List Ext)} {c2 c3 c7 c8 c9 c11 c12 c13 c14 c15 c16 c17 c18 c19 c20 c21 c25 c26 c27 c28 c29 c30 c31 c32 c33 c34 c35:Int} {c4 c5 c6:List Entry} {c10 c24:List UInt8} {n:Nat} (hn:n≤100) (r:List UInt8) (ok:Bool) (hr:r.length≤100000):
 ∃l' t' ok',Loop (i8 l2 (n:Int) c2 c3 c4 c5 c6 c7 c8 c9 c10 c11 c12 c13 c14 c15 c16 c17 c18 c19 c20 c21 c24 c25 c26 c27 c28 c29 c30 c31 c32 c33 c34 c35) ([],0,r,ok)=some (l',(n:Int),false,t',ok')∧t'.length≤r.length∧(ok'=true↔ok=true∧n*(8*4)≤r.length∧ ∀x∈rsL 4 n r,cE x)∧(ok'=true→l'=rsL 4 n r∧t'=r.drop (n*(8*4))):=by
 obtain ⟨l',t',ok',e,h1,h2,h3⟩:=wc (sz:=fun _=>8*4) (D:=fun _=>dE 4) (V:=cE) (k:=n) (ix:=fun j=>(j:Int)) (step:=i8 l2 (n:Int) c2 c3 c4 c5 c6 c7 c8 c9 c10 c11 c12 c13 c14 c15 c16 c17 c18 c19 c20 c21 c24 c25 c26 c27 c28 c29 c30 c31 c32 c33 c34 c35) (b:=24) om (fun l j r ok hj h2=>by
  obtain ⟨x,t1,ok1,e,h1,h2,h3⟩:=IK (k:=4) om ⟨r,ok⟩ h2
  refine ⟨x,t1,ok1, ?_,h1,h2,h3⟩
  simp only [i8]
  rw [brd om,show (4:Int)=((4:Nat):Int) from rfl,e,obs,aa _ om om];rfl) (fun l r ok=>by
  simp only [i8]
  rw [brn om,decide_eq_false om]) n 0 [] r ok om (by rw [List.length_nil];omega) hr
 rw [gt] at h2 h3
 exact ⟨l',t',ok',e,h1,h2,h3⟩
theorem b06 {l3:List (List Ext)} {c36 c38 c42 c43 c44 c46 c47 c48 c49 c50 c51 c52 c53 c54 c55 c56 c60 c61 c62 c63 c64 c65 c66 c67 c68 c69 c70:Int} {c39 c40 c41:List Entry} {c45 c59:List UInt8} {n:Nat} (hn:n≤100) (r:List UInt8) (ok:Bool) (hr:r.length≤100000):
 ∃l' t' ok',Loop (i6 l3 c36 (n:Int) c38 c39 c40 c41 c42 c43 c44 c45 c46 c47 c48 c49 c50 c51 c52 c53 c54 c55 c56 c59 c60 c61 c62 c63 c64 c65 c66 c67 c68 c69 c70) ([],0,r,ok)=some (l',(n:Int),false,t',ok')∧t'.length≤r.length∧(ok'=true↔ok=true∧n*(8*3)≤r.length∧ ∀x∈rsL 3 n r,cE x)∧(ok'=true→l'=rsL 3 n r∧t'=r.drop (n*(8*3))):=by
 obtain ⟨l',t',ok',e,h1,h2,h3⟩:=wc (sz:=fun _=>8*3) (D:=fun _=>dE 3) (V:=cE) (k:=n) (ix:=fun j=>(j:Int)) (step:=i6 l3 c36 (n:Int) c38 c39 c40 c41 c42 c43 c44 c45 c46 c47 c48 c49 c50 c51 c52 c53 c54 c55 c56 c59 c60 c61 c62 c63 c64 c65 c66 c67 c68 c69 c70) (b:=24) om (fun l j r ok hj h2=>by
  obtain ⟨x,t1,ok1,e,h1,h2,h3⟩:=IK (k:=3) om ⟨r,ok⟩ h2
  refine ⟨x,t1,ok1, ?_,h1,h2,h3⟩
  simp only [i6]
  rw [brd om,show (3:Int)=((3:Nat):Int) from rfl,e,obs,aa _ om om];rfl) (fun l r ok=>by
  simp only [i6]
  rw [brn om,decide_eq_false om]) n 0 [] r ok om (by rw [List.length_nil];omega) hr
 rw [gt] at h2 h3
 exact ⟨l',t',ok',e,h1,h2,h3⟩
theorem c0t {r:List UInt8} (h:okP (dP s t r) s t=true):(∀x∈(dP s t r).Gates,cE x)∧okE (dP s t r).VA∧okE (dP s t r).VB∧okE (dP s t r).VC∧(∀x∈(dP s t r).Wires,cE x)∧okE (dP s t r).VW∧vO (dP s t r).Open:=by
 obtain ⟨hs,_⟩:ne s=true∧True:=by
  unfold okP at h
  simp only [Bool.and_eq_true] at h
  exact ⟨h.1,trivial⟩
 obtain ⟨_,hc,_⟩:=fQ hs
 unfold okP y5 at h
 simp only [Bool.and_eq_true,decide_eq_true_eq,List.all_eq_true,h32,CE] at h
 obtain ⟨_,ht,hr,⟨hg,hg2⟩,ha,hb,hc',⟨hw,hw2⟩,hv,ho⟩:=h
 have rnd: ∀{k:Int} {x:List Ext},oC k x=true→cE x:=fun {k x} g=>by
  simp only [oC,Bool.and_eq_true] at g
  exact a1p.1 g.2
 have o:=Ta (v:=s.Cols.toNat-1) (o:=(dP s t r).Open) (t:=t) (by rw [show ((s.Cols.toNat-1:Nat):Int)=s.Cols-1 by omega];exact ho)
 exact ⟨fun x hx=>rnd (hg2 x hx),ha,hb,hc',fun x hx=>rnd (hw2 x hx),hv,fun x hx=>(o.rr x hx).2,o.la,fun q hq=>(xV (o.qq q hq)).2.1⟩
theorem Rk (hs:ne s=true) (ht:setB t=true) {b:List UInt8} (hb:b.length≤65536):
 ∃x ok,xO b s t=some (x,ok)∧(ok=true↔b.length=nP s t∧okP (dP s t b) s t=true)∧(ok=true→x=dP s t b):=by
 obtain ⟨hr,hc,_⟩:=fQ hs
 have hv:1≤s.Cols.toNat-1∧s.Cols.toNat-1≤6:=by omega
 unfold xO
 obtain ⟨x0,t0,k0,e0',a0,b0,d0⟩:=N1 (n:=32) om ⟨b,true⟩ (by dsimp only;omega)
 dsimp only at a0 b0 d0
 rw [show (32:Int)=((32:Nat):Int) from rfl,e0',obs]
 dsimp only
 obtain ⟨x1,t1,k1,e1',a1,b1,d1'⟩:=a9D (l2:=[]) (c2:=s.Cols) (c3:=s.Publics) (c4:=s.A) (c5:=s.B) (c6:=s.C) (c7:=t.Rate) (c8:=t.Queries) (c9:=t.Grind) (c10:=[]) (c11:=0) (c12:=0) (c13:=0) (c14:=0) (c15:=0) (c16:=0) (c17:=0) (c18:=0) (c19:=0) (c20:=0) (c21:=0) (c24:=x0) (c25:=0) (c26:=0) (c27:=0) (c28:=0) (c29:=0) (c30:=0) (c31:=0) (c32:=0) (c33:=0) (c34:=0) (c35:=0) (n:=s.Rows.toNat) om t0 k0 om
 rw [show ((s.Rows.toNat:Nat):Int)=s.Rows by omega] at e1'
 rw [e1',obs]
 dsimp only
 obtain ⟨x2,t2,k2,e2,a2,b2,d2⟩:=Qy ⟨t1,k1⟩ (by dsimp only;omega)
 dsimp only at a2 b2 d2
 rw [e2,obs]
 dsimp only
 obtain ⟨x3,t3,k3,e3,a3,b3,d3⟩:=Qy ⟨t2,k2⟩ (by dsimp only;omega)
 dsimp only at a3 b3 d3
 rw [e3,obs]
 dsimp only
 obtain ⟨x4,t4,k4,e4,a4,b4,d4'⟩:=Qy ⟨t3,k3⟩ (by dsimp only;omega)
 dsimp only at a4 b4 d4'
 rw [e4,obs]
 dsimp only
 obtain ⟨x5,t5,k5,e5,a5,b5,d5⟩:=b06 (l3:=x1) (c36:=s.Rows) (c38:=s.Publics) (c39:=s.A) (c40:=s.B) (c41:=s.C) (c42:=t.Rate) (c43:=t.Queries) (c44:=t.Grind) (c45:=[]) (c46:=0) (c47:=0) (c48:=0) (c49:=0) (c50:=0) (c51:=0) (c52:=0) (c53:=0) (c54:=0) (c55:=0) (c56:=0) (c59:=x0) (c60:=x2.A) (c61:=x2.B) (c62:=x3.A) (c63:=x3.B) (c64:=x4.A) (c65:=x4.B) (c66:=0) (c67:=0) (c68:=0) (c69:=0) (c70:=0) (n:=s.Cols.toNat) om t4 k4 om
 rw [show ((s.Cols.toNat:Nat):Int)=s.Cols by omega] at e5
 rw [e5,obs]
 dsimp only
 obtain ⟨x6,t6,k6,e6,a6,b6,d6⟩:=Qy ⟨t5,k5⟩ (by dsimp only;omega)
 dsimp only at a6 b6 d6
 rw [e6,obs]
 dsimp only
 obtain ⟨x7,t7,k7,e7,a7,b7,d7⟩:=a1j hv ht ⟨t6,k6⟩ (by dsimp only;omega)
 dsimp only at a7 b7 d7
 rw [aa (s.Cols-1) om om,show s.Cols-1=((s.Cols.toNat-1:Nat):Int) by omega,e7,obs]
 dsimp only
 have all:k7=true→gn.mk x0 x1 x2 x3 x4 x5 x6 x7=dP s t b∧t7=b.drop (nP s t)∧nP s t≤b.length:=fun h7=>by
  obtain ⟨h6,l7,_⟩:=b7.1 h7
  obtain ⟨h5,l6,_⟩:=b6.1 h6
  obtain ⟨h4,l5,_⟩:=b5.1 h5
  obtain ⟨h3,l4,_⟩:=b4.1 h4
  obtain ⟨h2,l3,_⟩:=b3.1 h3
  obtain ⟨h1,l2,_⟩:=b2.1 h2
  obtain ⟨h0,l1,_⟩:=b1.1 h1
  obtain ⟨_,l0,_⟩:=b0.1 h0
  obtain ⟨rfl,rfl⟩:=d0 h0
  obtain ⟨rfl,rfl⟩:=d1' h1
  obtain ⟨rfl,rfl⟩:=d2 h2
  obtain ⟨rfl,rfl⟩:=d3 h3
  obtain ⟨rfl,rfl⟩:=d4' h4
  obtain ⟨rfl,rfl⟩:=d5 h5
  obtain ⟨rfl,rfl⟩:=d6 h6
  obtain ⟨rfl,rfl⟩:=d7 h7
  simp only [List.length_drop] at l1 l2 l3 l4 l5 l6 l7
  refine ⟨rfl, ?_,by unfold nP;omega⟩
  unfold nP
  simp only [List.drop_drop,Nat.add_assoc]
 cases h7:k7 with
 |false=>
  rw [aw]
  refine ⟨_,_,rfl,⟨fun h=>(nomatch h),fun ⟨hl,hk⟩=> ?_⟩,fun h=>(nomatch h)⟩
  obtain ⟨v1,v2,v3,v4,v5,v6,v7⟩:=c0t hk
  unfold nP at hl
  have g0:=b0.2 ⟨rfl,by omega,trivial⟩
  obtain ⟨_,rfl⟩:=d0 g0
  have g1:=b1.2 ⟨g0,by simp only [List.length_drop];omega,v1⟩
  obtain ⟨_,rfl⟩:=d1' g1
  have g2:=b2.2 ⟨g1,by simp only [List.length_drop];omega,v2⟩
  obtain ⟨_,rfl⟩:=d2 g2
  have g3:=b3.2 ⟨g2,by simp only [List.length_drop];omega,v3⟩
  obtain ⟨_,rfl⟩:=d3 g3
  have g4:=b4.2 ⟨g3,by simp only [List.length_drop];omega,v4⟩
  obtain ⟨_,rfl⟩:=d4' g4
  have g5:=b5.2 ⟨g4,by simp only [List.length_drop];omega,v5⟩
  obtain ⟨_,rfl⟩:=d5 g5
  have g6:=b6.2 ⟨g5,by simp only [List.length_drop];omega,v6⟩
  obtain ⟨_,rfl⟩:=d6 g6
  have g7:=b7.2 ⟨g6,by simp only [List.length_drop];omega,v7⟩
  rw [g7] at h7;cases h7
 |true=>
  obtain ⟨ep,et,hle⟩:=all h7
  rw [bF,et]
  by_cases hl:b.length=nP s t
  ·rw [List.drop_eq_nil_of_le om,v9 (by simp),ep,VT (a9l hs ht b),obs]
   exact ⟨_,_,rfl,⟨fun h=>⟨hl,h⟩,fun h=>h.2⟩,fun _=>rfl⟩
  ·have hne:b.drop (nP s t)≠[]:=fun h=>by
    have:=congrArg List.length h
    rw [List.length_drop,List.length_nil] at this;omega
   rw [OG (by simpa using hne)]
   exact ⟨_,_,rfl,⟨fun h=>(nomatch h),fun h=>absurd h.1 hl⟩,fun h=>(nomatch h)⟩
theorem KJ {p:List Int} {b:List UInt8} {src:Source} (hA:s.A.length≤1048576) (hB:s.B.length≤1048576) (hC:s.C.length≤1048576) (hp:p.length≤1048576) (hs:src.Script.length≤1048576):
 ∃r,mi s t p b src=some r∧mo s t p b src=some r:=by
 unfold mi mo
 by_cases hb:((b.length:Nat):Int)>65536
 ·rw [brd hb]
  by_cases hl:p.length>4096
  ·rw [brd om];exact ⟨_,rfl,rfl⟩
  ·rw [brn om,brd hb];exact ⟨_,rfl,rfl⟩
 rw [brn hb,Nk hA hB hC hp hs,obs]
 by_cases hl:p.length>4096
 ·rw [brd om]
  have:stC s t p src=2:=by unfold stC;rw [if_pos hl]
  rw [this,brb om]
  exact ⟨_,rfl,rfl⟩
 rw [brn om,brn hb,YI hp hs,obs]
 by_cases h0:stC s t p src=0
 ·have h:=b8L h0
  have h64:=h.fw.1.1
  rw [cZ h0,cZ h0,Oo h.sy h.se om hA hB hC,obs]
  obtain ⟨x,ok,e,h1,h2⟩:=Rk h.sy h.se (b:=b) om
  rw [e,obs]
  cases ok with
  |false=>
   have hn: ¬(b.length=nP s t∧okP (dP s t b) s t=true):=fun g=>by have:=h1.2 g;cases this
   by_cases hb2:b.length=nP s t
   ·have:okP (dP s t b) s t=false:=by
     cases hk:okP (dP s t b) s t with
     |false=>rfl
     |true=>exact absurd ⟨hb2,hk⟩ hn
    rw [if_pos hb2,this]
    exact ⟨_,rfl,rfl⟩
   ·rw [if_neg hb2]
    exact ⟨_,rfl,rfl⟩
  |true=>
   obtain ⟨g1,g2⟩:=h1.1 rfl
   obtain rfl:=h2 rfl
   obtain ⟨c,src',i1,i2⟩:=Zh h g2
   rw [if_pos g1,g2]
   dsimp only
   rw [Bool.not_true,aw,aw]
   unfold zX
   rw [Je (a9l h.sy h.se b) hA hB hC,obs,g2,Bool.not_true,aw,Z7 om,obs,i1,i2]
   exact ⟨_,rfl,rfl⟩
 ·rw [brb h0,brb h0]
  exact ⟨_,rfl,rfl⟩
end
theorem VY {a:List UInt8} (h:a.length≤1048576):oS a=some a:=by
 unfold oS
 rw [Ay om om om,Int.toNat_natCast,UU (step:=qK a) (f:=fun x=>some x) (g:=fun x=>x) om (fun x _=>rfl) (fun l i=>rfl) (Nat.le_refl _)]
 simp
theorem O5 {a:List UInt8} (h:a.length≤1048576):yA a a=some true:=by
 unfold yA
 rw [cZ rfl]
 refine a2p (a:=a) (f:=fun x y=>some ((x.toNat:Int)==y.toNat)) om (fun x _=>by simp) (fun t=> ?_)
 simp only [q8]
 rfl
end Go.AI.Fn
set_option linter.unusedVariables false
namespace Go.AI.Fn
theorem law_FnExactVerifyBytes (s:System) (t:Setting) (a:List Int) (b:List UInt8) (src:Source) (hs:bdSystem s) (ht:bdSetting t) (ha:bdL bdI a) (hb:bdL bdT b) (hsr:bdSource src):i0 s t a b src=some true:=by
 obtain ⟨_,_,_,⟨hA,_⟩,⟨hB,_⟩,⟨hC,_⟩⟩:=hs
 unfold i0
 by_cases c1:((a.length:Nat):Int)>1048576
 ·rw [brd c1]
 rw [brn c1]
 by_cases c0:((b.length:Nat):Int)>1048576
 ·rw [brd c0]
 rw [brn c0]
 obtain ⟨r,e1,r0,r1,h1⟩:=b6i (left:=1048576) hA hB hC om om
 rw [e1,obs]
 by_cases c2:r<0
 ·rw [brd c2]
 rw [brn c2]
 obtain ⟨z,e3,z0,z1,h3⟩:=RZ hsr r0 r1
 rw [e3,obs]
 by_cases c4:z<0
 ·rw [brd c4]
 rw [brn c4]
 obtain ⟨hA',hB',hC'⟩:=h1 om
 have hS:=h3 om
 obtain ⟨x,i1,i2⟩:=KJ (t:=t) (p:=a) (b:=b) (src:=src) hA' hB' hC' om hS
 unfold rD
 rw [b8q hA' hB' hC',a0h om,VY om,QK hS]
 simp only [obs]
 rw [i1,i2]
 simp only [obs]
 rw [b5T hA' hB' hC',Sz om,O5 om,Mv hS]
 simp only [obs,Bool.not_true,aw]
 rw [OG (by simp),cZ rfl]
end Go.AI.Fn
