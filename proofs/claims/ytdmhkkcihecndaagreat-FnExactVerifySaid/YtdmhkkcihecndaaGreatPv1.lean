/- Sources: what the program draws, takes in and places is what the reference does. -/
import Derived.Test.YtdmhkkcihecndaaGreatPv0
set_option linter.unusedVariables false
set_option linter.unusedSimpArgs false
namespace Go.AI.Fn
theorem a2U {n:Int} (x:UInt8) (h0:0≤n) (h1:n<72057594037927936):vh .u64 (aB .u64 n 8) (IntKind.wrap .u64 (x.toNat:Int))=n*256+x.toNat:=by
 have hx:=uv x
 have e1:aB .u64 n 8=n*256:=by
  have:n*2^(min (8:Int).toNat (IntKind.bits .u64))=n*256:=by
   have:(2:Int)^(min (8:Int).toNat (IntKind.bits .u64))=256:=by decide
   rw [this]
  unfold aB
  rw [this,cw _ (by omega) (by omega)]
 rw [e1,cw (x.toNat:Int) (by omega) (by omega)]
 unfold vh
 obtain ⟨m,rfl⟩:=Int.eq_ofNat_of_zero_le h0
 have e2:(BitVec.ofInt (IntKind.bits .u64) ((m:Int)*256)|||BitVec.ofInt (IntKind.bits .u64) (x.toNat:Int)).toNat=m*256+x.toNat:=by
  rw [BitVec.toNat_or,BitVec.toNat_ofInt,BitVec.toNat_ofInt]
  have b1:(((m:Int)*256)%((2^(IntKind.bits .u64):Nat):Int)).toNat=m<<<8:=by
   rw [show ((2^(IntKind.bits .u64):Nat):Int)=18446744073709551616 by decide,Nat.shiftLeft_eq];omega
  have b2:((x.toNat:Int)%((2^(IntKind.bits .u64):Nat):Int)).toNat=x.toNat:=by
   rw [show ((2^(IntKind.bits .u64):Nat):Int)=18446744073709551616 by decide];omega
  rw [b1,b2, ←Nat.shiftLeft_add_eq_or_of_lt (show x.toNat<2^8 by omega),Nat.shiftLeft_eq]
 rw [e2,cw _ (by omega) (by omega)]
 omega
theorem Y1: ∀(l:List UInt8) (k:Nat),k≤8→k≤l.length→0≤beN (l.take k)∧beN (l.take k)<256^k
 |l,0,_,_=>by simp [beN]
 |l,k+1,h,hl=>by
  have ⟨h0,h1⟩:=Y1 l k (by omega) (by omega)
  have hb:=uv l[k]
  rw [bX (by omega),K5]
  have:(256:Int)^(k+1)=256^k*256:=Int.pow_succ _ _
  rw [this]
  generalize (256:Int)^k=p at*
  omega
theorem b6W: ∀k:Nat,k<8→(256:Int)^k≤72057594037927936:=by decide
theorem Hm {t:List UInt8} (h:t.length=8):wq t=some (a0F t):=by
 unfold wq
 have key:Loop (hO t ((t.length:Nat):Int)) (0,0)=some (beN t,(t.length:Int),false):=by
  have key:=au (step:=hO t ((t.length:Nat):Int)) (fun k=>(beN (t.take k),(k:Int))) t.length (e:=(beN t,(t.length:Int),false)) (fun k hk=> ?_) ?_
  ·exact key
  ·have ⟨h0,h1⟩:=Y1 t k (by omega) (by omega)
   have h2:=b6W k (by omega)
   simp only [hO]
   rw [brd (by omega),bH hk,obs,a2U _ h0 (by omega),ab _ (by omega) (by omega),bX hk,K5];rfl
  ·simp only [hO]
   rw [brn (by omega),decide_eq_false (by omega),List.take_length]
 have ⟨h0,h1⟩:=Y1 t 8 (by omega) (by omega)
 rw [List.take_of_length_le (by omega)] at h0 h1
 rw [key,obs]
 dsimp only
 rw [cm _ _ h0,ab _ (by omega) (by omega)];rfl
theorem oS {s:Source} {t:List UInt8} (hs:s.State.length=32) (ht:t.length≤1000000):cX t s=some (tkM s t):=by
 unfold cX
 have hf:[s.State,[97,98,115,111,114,98],dT ((t.length:Nat):Int),t].flatten=s.State++(a3U++(dT t.length++t)):=by simp [a3U]
 rw [aA (by omega),Bv,obs,oT (by rw [hf];simp only [List.length_append,bR,a3U,List.length_cons,List.length_nil];omega) (by simp),obs,hf];rfl
theorem Qa {s:Source} (h:Ai s):f0 s=some ((oR s).2,(oR s).1):=by
 have h1:=h.1
 have h3:=h.3
 have h4:=h.4
 have h5:=h.5
 have h6:=h.6
 have h7:=h.7
 unfold f0 oR
 by_cases hl:s.Script.length=0
 ·have hf:=bR s.Count
  have hh:=yC (s.State++(Tl++dT s.Count))
  have e:[s.State,[100,114,97,119],dT s.Count].flatten=s.State++(Tl++dT s.Count):=by simp [Tl]
  rw [brn (by omega),if_pos hl,aA (by omega),Bv,obs,oT (by rw [e];simp only [List.length_append,bR,Tl,List.length_cons,List.length_nil];omega) (by simp),obs,e,aA (by omega),
   ju (by omega) (by omega) (by omega),obs,Hm (by simp;omega),obs,ju (by omega) (by omega) (by omega),obs,Hm (by simp;omega),obs,ab _ (by omega) (by omega)]
  rfl
 ·have hr:=Int.emod_nonneg s.At (b:=(s.Script.length:Int)) (by omega)
  have hr2:=Int.emod_lt_of_pos s.At (b:=(s.Script.length:Int)) (by omega)
  rw [brd (by omega),if_neg hl,brd (by omega),ab (s.At+1) (by omega) (by omega),ab (s.At+1-1) (by omega) (by omega),show s.At+1-1=s.At by omega,cm _ _ h4]
  have e:atL s.Script (s.At%(s.Script.length:Int))=some (s.Script.getD (s.At%(s.Script.length:Int)).toNat e0):=by
   have:=a0q (l:=s.Script) (k:=(s.At%(s.Script.length:Int)).toNat) (by omega)
   rwa [Int.toNat_of_nonneg hr] at this
  rw [e];rfl
def drS (s:Source):Nat→Source
 |0=>s
 |j+1=>(oR (drS s j)).1
def drL (s:Source) (n:Nat):List Ext:=(List.range n).map fun j=>(oR (drS s j)).2
theorem jq (s:Source) (n:Nat):(drL s n).length=n:=by simp [drL]
theorem BB {s:Source} {k:Int} (h:Few s k) (hk:k≤999890): ∀j:Nat,j≤100→Few (drS s j) (k+j)
 |0,_=>h.mono (by omega)
 |j+1,hj=>((BB h hk j (by omega)).draw (by omega)).mono (by omega)
theorem Lk {s:Source} {k:Int} (h:Few s k) (hk:k≤999890) {n:Nat} (hn:n≤100):dH (drL s n):=fun x hx=>by
 obtain ⟨j,hj,rfl⟩:=List.mem_map.1 hx
 have hj:=List.mem_range.1 hj
 exact UO (BB h hk j (by omega)).1
theorem UV (s:Source) (n:Nat):drL s (n+1)=drL s n++[(oR (drS s n)).2]:=by simp [drL,List.range_succ]
theorem DM {s:Source} {k:Int} (h:Few s k) (hk:k≤999890) {n:Nat} (hn:n≤100):fl (n:Int) s=some (drL s n,drS s n):=by
 unfold fl
 have key:=au (step:=da (n:Int)) (fun j=>(drL s j,(j:Int),(drS s j).Script,(drS s j).At,(drS s j).State,(drS s j).Count)) n (e:=(drL s n,(n:Int),false,(drS s n).Script,(drS s n).At,(drS s n).State,(drS s n).Count)) (fun j hj=> ?_) ?_
 ·have key':Loop (da (n:Int)) ([],0,s.Script,s.At,s.State,s.Count)=_:=key
  rw [key'];rfl
 ·simp only [da]
  rw [brd (by omega),Qa (BB h hk j (by omega)).1,obs,aA (by simp only [List.length_append,jq,List.length_singleton];omega),ab _ (by omega) (by omega), ←UV];rfl
 ·simp only [da]
  rw [brn (by omega),decide_eq_false (by omega)]
theorem GB {s:Source} {k:Int} (h:Few s k) (hk:k≤999890) {n:Nat} (hn:n≤100):my s (n:Int)=some (drS s n,drL s n):=by
 unfold my
 have key:=au (step:=fT (n:Int) 0 [] 0) (fun j=>(drL s j,(j:Int),(drS s j).Script,(drS s j).At,(drS s j).State,(drS s j).Count)) n (e:=(drL s n,(n:Int),false,(drS s n).Script,(drS s n).At,(drS s n).State,(drS s n).Count)) (fun j hj=> ?_) ?_
 ·have key':Loop (fT (n:Int) 0 [] 0) ([],0,s.Script,s.At,s.State,s.Count)=_:=key
  rw [key'];rfl
 ·simp only [fT]
  rw [brd (by omega),Qx (BB h hk j (by omega)).1,obs,aA (by simp only [List.length_append,jq,List.length_singleton];omega),ab _ (by omega) (by omega), ←UV];rfl
 ·simp only [fT]
  rw [brn (by omega),decide_eq_false (by omega)]
theorem W9 {s:Source} (h:s.Script.length≤1000000):i9 s=some s:=by
 unfold i9 dJ
 rw [aA (by omega)];rfl
variable {s:Source} {k:Int}
theorem b65 {a b c:Int} (h:a≤c) (g:b≤c):mx a b≤c:=by unfold mx;split<;>assumption
def plM (l:List Ext) (m:Int):List Int:=l.map fun x=>x.A%m
theorem VD {l:List Ext} {m:Int} (hl:l.length≤1000) (ok:dH l) (hm:0<m):B2 l m=some (plM l m):=by
 unfold B2
 have key:Loop (i5 m l ((l.length:Nat):Int)) ([],0)=some (plM l m,(l.length:Int),false):=
  au (step:=i5 m l ((l.length:Nat):Int)) (fun j=>(plM (l.take j) m,(j:Int))) l.length (fun j hj=>by
   simp only [i5]
   rw [brd (by omega),bH hj,obs,brd (by omega),aA (by simp only [List.length_append,plM,List.length_map,List.length_take,List.length_singleton];omega),ab _ (by omega) (by omega),cm _ _ (ok.get hj).1.1,bX hj]
   simp only [plM,List.map_append,List.map_cons,List.map_nil,gp]) (by
   simp only [i5]
   rw [brn (by omega),decide_eq_false (by omega),List.take_length])
 rw [key];rfl
theorem WU {l:List Ext} {m:Int} {c c8:List Ext} {c2 c4 c5 c7 c9 c11:Int} {c3 c6 c10:List UInt8} (hl:l.length≤1000) (ok:dH l) (hm:0<m):Loop (ep (l.length:Int) m l c c2 c3 c4 c5 c6 c7 c8 c9 c10 c11) ([],0)=some (plM l m,(l.length:Int),false):=
 au (step:=ep (l.length:Int) m l c c2 c3 c4 c5 c6 c7 c8 c9 c10 c11) (fun j=>(plM (l.take j) m,(j:Int))) l.length (fun j hj=>by
  simp only [ep]
  rw [brd (by omega),bH hj,obs,brd (by omega),aA (by simp only [List.length_append,plM,List.length_map,List.length_take,List.length_singleton];omega),ab _ (by omega) (by omega),cm _ _ (ok.get hj).1.1,bX hj]
  simp only [plM,List.map_append,List.map_cons,List.map_nil,gp]) (by
  simp only [ep]
  rw [brn (by omega),decide_eq_false (by omega),List.take_length])
end Go.AI.Fn
set_option linter.unusedVariables false
set_option linter.unusedSimpArgs false
namespace Go.AI.Fn
def toK (x:Ext):K:=⟨⟨x.A%2130706433,x.B%2130706433⟩,⟨gT _,gT _⟩⟩
theorem gU {x:Ext} (h:okE x):(toK x).1=x:=Gz (Ab h.1) (Ab h.2)
theorem K1 (l:List Ext):(l.flatMap e8).length=8*l.length:=by
 induction l with
 |nil=>rfl
 |cons x l ih=>simp only [List.flatMap_cons,List.length_append,ih,b4q,List.length_cons];omega
def rsM (s:Source) (g:List K):Source:=tkM s ((kv g).flatMap e8)
def rdM (s:Source) (g:List K):K:=toK (oR (rsM s g)).2
def nsM (s:Source) (g:List K):Source:=(oR (rsM s g)).1
theorem Dl {s:Source} {k:Int} (h:Few s k) (hk:k≤999990) (g:List K):Few (nsM s g) (k+2):=by
 have:=(h.take ((kv g).flatMap e8)).draw (by omega)
 rw [show k+1+1=k+2 by omega] at this;exact this
theorem a7A {s:Source} {k:Int} (h:Few s k) (g:List K):(rdM s g).1=(oR (rsM s g)).2:=gU (UO (h.take _).1)
theorem Ln {s:Source} (h:Ai s) {g:List K} (hl:g.length≤1000):bo (kv g) s=some (rsM s g):=by
 have e:=K1 (kv g)
 rw [aM] at e
 unfold bo
 rw [CB (by rw [aM];omega),obs,oS h.3 (by omega)];rfl
theorem Kz {s:Source} (h:Ai s) {g:List K} (hl:g.length≤1000):gM s (kv g)=some (rsM s g):=by
 have e:=K1 (kv g)
 rw [aM] at e
 unfold gM
 rw [L2 (by rw [aM];omega),obs,oH h.3 (by omega)];rfl
theorem b1E {s:Source} {k:Int} (h:Few s k) (g:List K):f0 (rsM s g)=some ((rdM s g).1,nsM s g):=by
 rw [Qa (s:=rsM s g) (h.take _).1,a7A h];rfl
theorem b1v {s:Source} {k:Int} (h:Few s k) (g:List K):lf (rsM s g)=some (nsM s g,(rdM s g).1):=by
 rw [Qx (s:=rsM s g) (h.take _).1,a7A h];rfl
variable {kind:Nat} {bh:List K→Source→Source}
theorem a9D (v:Nat):2^(v+1)=2*2^v:=by rw [Nat.pow_succ,Nat.mul_comm]
theorem OkT.up {v:Nat} {T:List (List K)} (h:OkT kind (2^(v+1)) T) (r:K):OkT kind (2^v) (bdK r T):=by
 rw [a9D] at h;exact h.bd r
noncomputable instance b5Z:DecidableEq K:=fun a b=>Classical.propDecidable _
noncomputable def vfM (kind:Nat) (bv:Nat→Source→Source):List (List K)→Nat→K→Source→Int×List K×K×Source
 |[],i,c,s=>(0,[],c,s)
 |g::R,i,c,s=>if g.length=kind+2 then (if g.getD 0 0+g.getD 1 0=c then
   ((vfM kind bv R (i+1) (lnK g (rdM s g)) (bv i (nsM s g))).1,rdM s g::(vfM kind bv R (i+1) (lnK g (rdM s g)) (bv i (nsM s g))).2.1,(vfM kind bv R (i+1) (lnK g (rdM s g)) (bv i (nsM s g))).2.2) else (10,[],c,s)) else (18,[],c,s)
def bv0:Nat→Source→Source:=fun _ s=>s
def b3E (bv:Nat→Source→Source):Prop:= ∀i s k,Few s k→k≤999990→Few (bv i s) (k+1)
theorem a4G:b3E bv0:=fun i s k h _=>h.mono (by omega)
variable {bv:Nat→Source→Source}
theorem Ll (hb:b3E bv): ∀(R:List (List K)) (i:Nat) (c:K) (s:Source) (k:Int),Few s k→k+3*R.length≤999990→Few (vfM kind bv R i c s).2.2.2 (k+3*R.length)
 |[],i,c,s,k,h,hk=>by rw [List.length_nil,show k+3*((0:Nat):Int)=k by omega];exact h
 |g::R,i,c,s,k,h,hk=>by
  rw [List.length_cons] at hk ⊢
  rw [vfM]
  by_cases h1:g.length=kind+2
  ·by_cases h2:g.getD 0 0+g.getD 1 0=c
   ·rw [if_pos h1,if_pos h2]
    have:=Ll hb R (i+1) (lnK g (rdM s g)) _ _ (hb i _ _ (Dl h (by omega) g) (by omega)) (by omega)
    rw [show k+2+1+3*(R.length:Int)=k+3*((R.length+1:Nat):Int) by omega] at this
    exact this
   ·rw [if_pos h1,if_neg h2];exact h.mono (by omega)
  ·rw [if_neg h1];exact h.mono (by omega)
theorem LQ: ∀(R:List (List K)) (i:Nat) (c:K) (s:Source),(vfM kind bv R i c s).1=0→(vfM kind bv R i c s).2.1.length=R.length
 |[],i,c,s,h=>rfl
 |g::R,i,c,s,h=>by
  rw [vfM] at h ⊢
  by_cases h1:g.length=kind+2
  ·by_cases h2:g.getD 0 0+g.getD 1 0=c
   ·rw [if_pos h1,if_pos h2] at h ⊢
    simp only [List.length_cons];rw [LQ R _ _ _ h]
   ·rw [if_pos h1,if_neg h2] at h;exact absurd (show (10:Int)=0 from h) (by decide)
  ·rw [if_neg h1] at h;exact absurd (show (18:Int)=0 from h) (by decide)
theorem b59 (a b:K):(a.1.A==b.1.A&&a.1.B==b.1.B)=decide (a=b):=by
 by_cases h:a=b
 ·subst h;simp
 ·rw [decide_eq_false h]
  refine Bool.eq_false_iff.2 fun e=>h ?_
  simp only [Bool.and_eq_true,beq_iff_eq] at e
  exact K.ext (Gz e.1 e.2)
theorem BK {α:Type} (a b:K) (x y:α):br (a.1.A==b.1.A) (br (a.1.B==b.1.B) x y) y=if a=b then x else y:=by
 have:=b59 a b
 cases h1:(a.1.A==b.1.A)<;>cases h2:(a.1.B==b.1.B)<;>rw [h1,h2] at this<;>simp at this<;>simp [this,br]
theorem atK {l:List K} {j:Nat} {i:Int} (hi:i=(j:Int)) (h:j<l.length):atL (kv l) i=some (l.getD j 0).1:=by subst hi;exact qa h
theorem Q7 {c7 c8:Int} (hkd:kind=1∨kind=2): ∀(R pre:List (List K)) (c:K) (s:Source) (k:Int) (P:List Ext),Few s k→k+3*R.length≤999990→P.length+R.length≤999990→pre.length+R.length≤999990→
 ((vfM kind bv0 R pre.length c s).1=0→Loop (aC (kind:Int) (kvv (pre++R)) ((pre++R).length:Int) c7 c8) (P,(pre.length:Int),s.Script,s.At,s.State,s.Count,c.1.A,c.1.B)=
   some (.inr (P++kv (vfM kind bv0 R pre.length c s).2.1,((pre++R).length:Int),false,(vfM kind bv0 R pre.length c s).2.2.2.Script,(vfM kind bv0 R pre.length c s).2.2.2.At,(vfM kind bv0 R pre.length c s).2.2.2.State,(vfM kind bv0 R pre.length c s).2.2.2.Count,
    (vfM kind bv0 R pre.length c s).2.2.1.1.A,(vfM kind bv0 R pre.length c s).2.2.1.1.B)))∧
 ((vfM kind bv0 R pre.length c s).1≠0→ ∃P' A B,Loop (aC (kind:Int) (kvv (pre++R)) ((pre++R).length:Int) c7 c8) (P,(pre.length:Int),s.Script,s.At,s.State,s.Count,c.1.A,c.1.B)=
   some (.inl (P',(vfM kind bv0 R pre.length c s).1,(vfM kind bv0 R pre.length c s).2.2.2.Script,(vfM kind bv0 R pre.length c s).2.2.2.At,(vfM kind bv0 R pre.length c s).2.2.2.State,(vfM kind bv0 R pre.length c s).2.2.2.Count,A,B)))
 |[],pre,c,s,k,P,hf,hk,hP,hp=>by
  refine ⟨fun _=>bI ?_,fun h=>absurd rfl h⟩
  simp only [aC,List.append_nil]
  rw [brn (by omega),decide_eq_false (by omega)]
  simp [vfM,kv]
 |g::R,pre,c,s,k,P,hf,hk,hP,hp=>by
  rw [List.length_cons] at hk hP hp
  have hat:atL (kvv (pre++g::R)) (pre.length:Int)=some (kv g):=by rw [SI (by simp)];simp
  have hlt:(pre.length:Int)<((pre++g::R).length:Int):=by rw [List.length_append,List.length_cons];omega
  rw [vfM]
  by_cases h1:g.length=kind+2
  ·by_cases h2:g.getD 0 0+g.getD 1 0=c
   ·rw [if_pos h1,if_pos h2]
    have ih:=Q7 (c7:=c7) (c8:=c8) hkd R (pre++[g]) (lnK g (rdM s g)) (nsM s g) (k+2) (P++[(rdM s g).1]) (Dl hf (by omega) g) (by omega) (by rw [List.length_append,List.length_singleton];omega) (by rw [List.length_append,List.length_singleton];omega)
    rw [List.append_assoc,List.singleton_append,List.length_append,List.length_singleton] at ih
    have step:aC (kind:Int) (kvv (pre++g::R)) ((pre++g::R).length:Int) c7 c8 (P,(pre.length:Int),s.Script,s.At,s.State,s.Count,c.1.A,c.1.B)=
     some (.inl (P++[(rdM s g).1],((pre.length+1:Nat):Int),(nsM s g).Script,(nsM s g).At,(nsM s g).State,(nsM s g).Count,(lnK g (rdM s g)).1.A,(lnK g (rdM s g)).1.B)):=by
     simp only [aC]
     rw [brd hlt,hat,obs,tU hkd,obs,ab _ (by omega) (by omega),cE (by rw [aM];omega),atK (i:=0) (j:=0) rfl (by omega),obs,atK (i:=1) (j:=1) rfl (by omega),obs,gI (Subtype.property _) (Subtype.property _),obs]
     rw [show eA (g.getD 0 0).1 (g.getD 1 0).1=c.1 from congrArg Subtype.val h2,bre rfl,bre rfl,show Source.mk s.Script s.At s.State s.Count=s from rfl,Ln hf.1 (by omega),obs,b1E hf,obs]
     dsimp only
     rw [IF _ (by omega),obs,aA (by rw [List.length_append,List.length_singleton];omega),ab _ (by omega) (by omega)];rfl
    refine ⟨fun h=> ?_,fun h=> ?_⟩
    ·rw [bG step,ih.1 h]
     simp [kv,bv0]
    ·obtain ⟨P',A,B,e⟩:=ih.2 h
     exact ⟨P',A,B,by rw [bG step,e];rfl⟩
   ·rw [if_pos h1,if_neg h2]
    refine ⟨fun h=>absurd (show (10:Int)=0 from h) (by decide),fun _=>⟨P,c.1.A,c.1.B,bI ?_⟩⟩
    simp only [aC]
    rw [brd hlt,hat,obs,tU hkd,obs,ab _ (by omega) (by omega),cE (by rw [aM];omega),atK (i:=0) (j:=0) rfl (by omega),obs,atK (i:=1) (j:=1) rfl (by omega),obs,gI (Subtype.property _) (Subtype.property _),obs]
    rw [show eA (g.getD 0 0).1 (g.getD 1 0).1=(g.getD 0 0+g.getD 1 0).1 from rfl,BK,if_neg h2]
  ·rw [if_neg h1]
   refine ⟨fun h=>absurd (show (18:Int)=0 from h) (by decide),fun _=>⟨P,c.1.A,c.1.B,bI ?_⟩⟩
   simp only [aC]
   rw [brd hlt,hat,obs,tU hkd,obs,ab _ (by omega) (by omega),brb (by rw [aM];omega)]
theorem Aa (hkd:kind=1∨kind=2) {R:List (List K)} {c:K} {s:Source} {k:Int} (hf:Few s k) (hk:k+3*R.length≤999990):
 bi (kind:Int) c.1 (kvv R) s=some (if (vfM kind bv0 R 0 c s).1=0 then (kv (vfM kind bv0 R 0 c s).2.1,(vfM kind bv0 R 0 c s).2.2.1.1,0,(vfM kind bv0 R 0 c s).2.2.2) else ([],e0,(vfM kind bv0 R 0 c s).1,(vfM kind bv0 R 0 c s).2.2.2)):=by
 have hk0:0≤k:=by have:=hf.2;have:=hf.1.4;omega
 have h:=Q7 (c7:=0) (c8:=0) hkd R [] c s k [] hf hk (by rw [List.length_nil];omega) (by rw [List.length_nil];omega)
 rw [List.nil_append,List.length_nil] at h
 unfold bi
 rw [T8]
 by_cases h0:(vfM kind bv0 R 0 c s).1=0
 ·rw [if_pos h0]
  have:=h.1 h0
  rw [show (((0:Nat):Int))=0 from rfl] at this
  rw [this];rfl
 ·rw [if_neg h0]
  obtain ⟨P',A,B,e⟩:=h.2 h0
  rw [show (((0:Nat):Int))=0 from rfl] at e
  rw [e];rfl
end Go.AI.Fn
set_option linter.unusedVariables false
set_option linter.unusedSimpArgs false
namespace Go.AI.Fn
structure OkM (l:List Entry) (R C:Int):Prop where
 len:l.length≤200
 ent: ∀x∈l,inE R C x
 srt: ∀k (hk:k<l.length), ∀y∈l.take k,ltE y l[k]
theorem a1L {x y z:Entry} (h:ltE x y) (g:ltE y z):ltE x z:=by unfold ltE at*;omega
open Classical in
theorem Rx {l:List Entry} {R C:Int} (h:tG l R C=true):OkM l R C:=by
 unfold tG at h
 obtain ⟨hl,hb⟩:=of_decide_eq_true h
 refine ⟨hl,fun x hx=> ?_,fun k=> ?_⟩
 ·obtain ⟨k,hk,rfl⟩:=List.getElem_of_mem hx
  by_cases c:inE R C l[k]
  ·exact c
  ·exact absurd ⟨_,oE hk,.inl c⟩ (hb k)
 ·induction k with
  |zero=>intro hk y hy;simp at hy
  |succ k ih=>
   intro hk y hy
   rw [bX (by omega)] at hy
   have hlt:ltE l[k] l[k+1]:=by
    by_cases c:ltE l[k] l[k+1]
    ·exact c
    ·exact absurd ⟨_,oE hk,.inr ⟨by omega,_,oE (by omega),c⟩⟩ (hb (k+1))
   rcases List.mem_append.1 hy with hy|hy
   ·exact a1L (ih (by omega) y hy) hlt
   ·rw [List.mem_singleton.1 hy];exact hlt
theorem a5W {R C:Int} {x:Entry} (h:inE R C x):okF x.Value:=⟨by have:=h.2.2.1;omega,h.2.2.2⟩
def BJ (l:List Entry):List UInt8:=l.flatMap fun x=>[UInt8.ofInt x.Row,UInt8.ofInt x.Col]++dT x.Value
theorem wP (l:List Entry):(BJ l).length=6*l.length:=by
 induction l with
 |nil=>rfl
 |cons x l ih=>simp only [BJ,List.flatMap_cons,List.length_append,List.length_cons] at*;rw [ih];simp [bR];omega
theorem PJ (l:List Entry) (x:Entry):BJ (l++[x])=BJ l++([UInt8.ofInt x.Row,UInt8.ofInt x.Col]++dT x.Value):=by simp [BJ]
def Mm (l:List Entry):List UInt8:=dT (l.length:Int)++BJ l
def IU (s:System):List UInt8:=[115,121,115,116,101,109]++[UInt8.ofInt s.Rows,UInt8.ofInt s.Cols,UInt8.ofInt s.Publics]++Mm s.A++Mm s.B++Mm s.C
theorem EV (l:List Entry):(Mm l).length=4+6*l.length:=by rw [Mm,List.length_append,wP,bR]
theorem Hb {l2 L:List UInt8} {t t2 t3 l c4 c5 c6:List Entry} {t4 c c2 c3:Int} (h:l.length≤200) (hL:L.length≤1000000):Loop (bU l2 t t2 t3 t4 l ((l.length:Nat):Int) c c2 c3 c4 c5 c6) (L,0)=some (L++BJ l,(l.length:Int),false):=by
 have key:=au (step:=bU l2 t t2 t3 t4 l ((l.length:Nat):Int) c c2 c3 c4 c5 c6) (fun k=>(L++BJ (l.take k),(k:Int))) l.length (e:=(L++BJ l,(l.length:Int),false)) (fun k hk=> ?_) ?_
 ·simpa [BJ] using key
 ·simp only [bU]
  have hn:=wP (l.take k)
  rw [List.length_take] at hn
  rw [brd (by omega),bH hk,obs,aA (by simp only [List.length_append,List.length_cons,List.length_nil];omega),kT (by simp only [List.length_append,List.length_cons,List.length_nil];omega),obs,ab _ (by omega) (by omega),bX hk,PJ]
  simp only [List.append_assoc,gp]
 ·simp only [bU]
  rw [brn (by omega),decide_eq_false (by omega),List.take_length]
theorem Ym {l2 L:List UInt8} {t t2 t3 l c4 c5 c6:List Entry} {t4 c c2 c3:Int} (h:l.length≤200) (hL:L.length≤1000000):Loop (eg l2 t t2 t3 t4 l ((l.length:Nat):Int) c c2 c3 c4 c5 c6) (L,0)=some (L++BJ l,(l.length:Int),false):=Hb (l2:=l2) (t:=t) (t2:=t2) (t3:=t3) (c4:=c4) (c5:=c5) (c6:=c6) (t4:=t4) (c:=c) (c2:=c2) (c3:=c3) h hL
theorem Zk {l2 L:List UInt8} {t t2 t3 l c4 c5 c6:List Entry} {t4 c c2 c3:Int} (h:l.length≤200) (hL:L.length≤1000000):Loop (ee l2 t t2 t3 t4 l ((l.length:Nat):Int) c c2 c3 c4 c5 c6) (L,0)=some (L++BJ l,(l.length:Int),false):=Hb (l2:=l2) (t:=t) (t2:=t2) (t3:=t3) (c4:=c4) (c5:=c5) (c6:=c6) (t4:=t4) (c:=c) (c2:=c2) (c3:=c3) h hL
theorem Ji {s:System} (hA:s.A.length≤200) (hB:s.B.length≤200) (hC:s.C.length≤200):eK s=some (IU s):=by
 have a1:=wP s.A
 have b1:=wP s.B
 have c1:=wP s.C
 unfold eK cO
 rw [aA (by simp only [List.length_append,List.length_cons,List.length_nil];omega),obs]
 dsimp only
 rw [kT (by simp only [List.length_append,List.length_cons,List.length_nil];omega),obs,Hb hA (by simp only [List.length_append,List.length_cons,List.length_nil,bR];omega),obs,
  kT (by simp only [List.length_append,List.length_cons,List.length_nil,bR];omega),obs,Ym hB (by simp only [List.length_append,List.length_cons,List.length_nil,bR];omega),obs,
  kT (by simp only [List.length_append,List.length_cons,List.length_nil,bR];omega),obs,Zk hC (by simp only [List.length_append,List.length_cons,List.length_nil,bR];omega),obs]
 simp only [IU,Mm,List.append_assoc]
theorem W5 (s:System):(IU s).length=21+6*(s.A.length+s.B.length+s.C.length):=by
 simp only [IU,List.length_append,EV,List.length_cons,List.length_nil];omega
theorem XI {l3 L:List UInt8} {l4:List (List Entry)} {l c4 c5 c6:List Entry} {c c2 c3:Int} {j:Nat} (hj:l4[j]? =some l) (h:l.length≤200) (hL:L.length≤1000000):Loop (er l3 l4 (j:Int) c c2 c3 c4 c5 c6) (L,0)=some (L++BJ l,(l.length:Int),false):=by
 have hj2:j<l4.length:=by
  rcases Nat.lt_or_ge j l4.length with h|h
  ·exact h
  ·rw [List.getElem?_eq_none h] at hj;cases hj
 have key:=au (step:=er l3 l4 (j:Int) c c2 c3 c4 c5 c6) (fun k=>(L++BJ (l.take k),(k:Int))) l.length (e:=(L++BJ l,(l.length:Int),false)) (fun k hk=> ?_) ?_
 ·simpa [BJ] using key
 ·simp only [er]
  have hn:=wP (l.take k)
  rw [List.length_take] at hn
  rw [brd (by omega),brd (by omega),Int.toNat_natCast,hj,obs,brd (by omega),brd (by omega),brd (by omega),obs,bH hk,obs,uu,obs,aA (by rw [bR];simp only [List.length_cons,List.length_nil];omega),
   aA (by simp only [List.length_append,List.length_cons,List.length_nil,bR];omega),ab _ (by omega) (by omega),bX hk,PJ]
  simp only [List.append_assoc,gp]
 ·simp only [er]
  rw [brd (by omega),brd (by omega),Int.toNat_natCast,hj,obs,brn (by omega),decide_eq_false (by omega),List.take_length]
theorem GT {l3 L:List UInt8} {l4:List (List Entry)} {l c4 c5 c6:List Entry} {c c2 c3:Int} {j:Nat} (hj:l4[j]? =some l) (j3:j<3) (h:l.length≤200) (hL:L.length≤900000):fI l3 l4 c c2 c3 c4 c5 c6 (L,(j:Int))=some (.inl (L++Mm l,((j+1:Nat):Int))):=by
 have hj2:j<l4.length:=by
  rcases Nat.lt_or_ge j l4.length with h|h
  ·exact h
  ·rw [List.getElem?_eq_none h] at hj;cases hj
 simp only [fI]
 rw [brd (by omega),brd (by omega),brd (by omega),Int.toNat_natCast,hj,obs,uu,obs,aA (by rw [bR];omega),XI hj h (by rw [List.length_append,bR];omega),obs,ab _ (by omega) (by omega),Mm]
 simp only [List.append_assoc,gp]
theorem MK {s:System} (hA:s.A.length≤200) (hB:s.B.length≤200) (hC:s.C.length≤200):oL s=some (H (IU s)):=by
 have a1:=EV s.A
 have b1:=EV s.B
 have c1:=EV s.C
 have hl:=W5 s
 unfold oL
 rw [aA (by simp only [List.length_cons,List.length_nil];omega),show (0:Int)=((0:Nat):Int) from rfl,
  bG (GT (l:=s.A) (j:=0) rfl (by omega) hA (by simp only [List.length_append,List.length_cons,List.length_nil];omega)),
  bG (GT (l:=s.B) (j:=1) rfl (by omega) hB (by simp only [List.length_append,List.length_cons,List.length_nil];omega)),
  bG (GT (l:=s.C) (j:=2) rfl (by omega) hC (by simp only [List.length_append,List.length_cons,List.length_nil];omega)),
  bI (by simp only [fI];rw [brn (by omega)]),obs]
 dsimp only
 rw [show [115,121,115,116,101,109]++[UInt8.ofInt s.Rows,UInt8.ofInt s.Cols,UInt8.ofInt s.Publics]++Mm s.A++Mm s.B++Mm s.C=IU s from rfl,mQ (by omega)];rfl
end Go.AI.Fn
set_option linter.unusedVariables false
set_option linter.unusedSimpArgs false
namespace Go.AI.Fn
def O3:List K→List K→K
 |a::xs,b::ys=>a*b+O3 xs ys
 |_,_=>0
theorem WP: ∀(a b:List K) (c:K),((kv a).zip (kv b)).foldl (fun c p=>eA c (eM p.1 p.2)) c.1=(c+O3 a b).1
 |[],b,c=>by
  show c.1=(c+0).1
  exact congrArg Subtype.val (by exact kg)
 |_::_,[],c=>by
  show c.1=(c+0).1
  exact congrArg Subtype.val (by exact kg)
 |x::a,y::b,c=>by
  have:=WP a b (c+x*y)
  show ((kv a).zip (kv b)).foldl _ (c+x*y).1=_
  rw [this]
  exact congrArg Subtype.val (by rw [O3];exact kg)
theorem Zd (a b:List K):OE (kv a) (kv b)=(O3 a b).1:=by
 have:=WP a b 0
 rw [OE]
 rw [show e0=(0:K).1 from rfl,this]
 exact congrArg Subtype.val (by exact kg)
def btS (β:K) (R T:List K) (x:Entry):List K:=T.set x.Col.toNat (T.getD x.Col.toNat 0+β*R.getD x.Row.toNat 0*kF x.Value)
theorem kr (β:K) (R:List K): ∀(l:List Entry) (T:List K),(l.foldl (btS β R) T).length=T.length
 |[],T=>rfl
 |x::l,T=>by rw [List.foldl_cons,kr β R l,btS,List.length_set]
theorem a3O (l:List K) (j:Nat) (x:K):(kv l).set j x.1=kv (l.set j x):=by simp [kv,List.map_set]
theorem Mx {R T:List K} {β:K} {l t t2 t3 c4 c5 c6:List Entry} {t4 c c2 c3 c9 c10 c11 c12 RR CC:Int} (hm:OkM l RR CC) (hR:(R.length:Int)=RR) (hT:(T.length:Int)=CC):
 Loop (dR (kv R) t t2 t3 t4 l ((l.length:Nat):Int) c c2 c3 c4 c5 c6 β.1.A β.1.B c9 c10 c11 c12) (kv T,0)=some (kv (l.foldl (btS β R) T),(l.length:Int),false):=by
 have hl:=hm.len
 have key:=au (step:=dR (kv R) t t2 t3 t4 l ((l.length:Nat):Int) c c2 c3 c4 c5 c6 β.1.A β.1.B c9 c10 c11 c12) (fun j=>(kv ((l.take j).foldl (btS β R) T),(j:Int))) l.length (e:=(kv (l.foldl (btS β R) T),(l.length:Int),false)) (fun j hj=> ?_) ?_
 ·exact key
 ·simp only [dR]
  obtain ⟨hr,hc,_⟩:=hm.ent _ (List.getElem_mem hj)
  have hv:=a5W (hm.ent _ (List.getElem_mem hj))
  have hn:=kr β R (l.take j) T
  have hrow:atL (kv R) l[j].Row=some (R.getD l[j].Row.toNat 0).1:=by
   have:=qa (l:=R) (j:=l[j].Row.toNat) (by omega)
   rwa [Int.toNat_of_nonneg hr.1] at this
  rw [brd (by omega),bH hj,obs,brd hc.1,brd (by rw [aM,hn];omega),a0g (by omega),obs,hrow,obs,show Ext.mk β.1.A β.1.B=β.1 from rfl,db β.2 (Subtype.property _),obs,um (l9 _ _) hv,obs,
   gI (Subtype.property _) (a7N _ _),obs,brd hc.1,brd (by rw [aM,hn];omega),obs,ab _ (by omega) (by omega),Zz, ←xf hv,bX hj,List.foldl_append]
  show some (Sum.inl ((kv _).set l[j].Col.toNat ((List.foldl (btS β R) T (l.take j)).getD l[j].Col.toNat 0+β*R.getD l[j].Row.toNat 0*kF l[j].Value).1,_))=_
  rw [a3O];rfl
 ·simp only [dR]
  rw [brn (by omega),decide_eq_false (by omega),List.take_length]
end Go.AI.Fn
set_option linter.unusedVariables false
set_option linter.unusedSimpArgs false
namespace Go.AI.Fn
def b0U (out:List K) (p:K):List K:=out.map (fun a=>a*(1-p))++out.map (fun a=>a*p)
def eqK (P:List K):List K:=P.foldl b0U [1]
theorem b4x (out:List K) (p:K):eqS (kv out) p.1=kv (b0U out p):=by
 simp only [eqS,kv,b0U,List.map_append,List.map_map];rfl
theorem a7p: ∀(P out:List K),(kv P).foldl eqS (kv out)=kv (P.foldl b0U out)
 |[],out=>rfl
 |p::P,out=>by
  show (kv P).foldl eqS (eqS (kv out) p.1)=_
  rw [b4x,a7p P];rfl
theorem Ns (P:List K):eqT (kv P)=kv (eqK P):=a7p P [1]
theorem b0h (P:List K):(eqK P).length=2^P.length:=by
 have:=xP (kv P)
 rw [Ns,aM,aM] at this;exact this
variable {kind:Nat} {bh:List K→Source→Source}
end Go.AI.Fn
set_option linter.unusedVariables false
set_option linter.unusedSimpArgs false
namespace Go.AI.Fn
theorem a0f (l:List K) (j:Nat):(kv l).take j=kv (l.take j):=by simp [kv]
theorem YH: ∀k:Nat,k≤9→1≤2^k∧2^k≤512:=by decide
end Go.AI.Fn
set_option linter.unusedVariables false
set_option linter.unusedSimpArgs false
namespace Go.AI.Fn
abbrev Tx:=List UInt8
def Qh (t:Tx):Tx:=0::t
def Iz (a b:Tx):Tx:=1::(a++b)
def hL (t:Tx):Tx:=H (Qh t)
def hN (a b:Tx):Tx:=H (Iz a b)
theorem a3t {l:List Tx} {k:Nat} (h:k<l.length):atL l (k:Int)=some (l.getD k []):=by simp [atL,h]
theorem O4 {t:Tx} (h:t.length≤1000000):su t=some (Qh t):=by
 unfold su;rw [aA (by simp only [List.length_cons,List.length_nil];omega)];rfl
theorem C3 {a b:Tx} (ha:a.length≤1000000) (hb:b.length≤1000000):mG a b=some (Iz a b):=by
 unfold mG
 rw [aA (by simp only [List.length_cons,List.length_nil];omega),aA (by simp only [List.length_append,List.length_cons,List.length_nil];omega)];rfl
theorem a2i {t:Tx} (h:t.length≤1000000):vN t=some (hL t):=by
 unfold vN
 rw [aA (by simp only [List.length_cons,List.length_nil];omega),mQ (by simp only [List.length_append,List.length_cons,List.length_nil];omega),obs];rfl
def Hs (l:List Tx):Prop:= ∀x∈l,x.length=32
theorem Hs.getD {l:List Tx} (h:Hs l) {k:Nat} (hk:k<l.length):(l.getD k []).length=32:=by simp [hk];exact h _ (List.getElem_mem hk)
theorem lF {α:Type} (f:Nat→α) (k:Nat):(List.range (k+1)).map f=(List.range k).map f++[f k]:=by rw [List.range_succ,List.map_append];rfl
theorem a4j (i j:Nat):i/2^j/2=i/2^(j+1):=by rw [Nat.div_div_eq_div_mul,Nat.pow_succ]
theorem a2u (q:Nat) (h:q≤1000000):IntKind.wrap .i64 (((q:Nat):Int)/2)=((q/2:Nat):Int):=by
 rw [ab _ (by omega) (by omega)];omega
end Go.AI.Fn
set_option linter.unusedVariables false
set_option linter.unusedSimpArgs false
namespace Go.AI.Fn
def iR (i:Nat) (leaf:Tx) (path:List Tx):Nat→Tx
 |0=>Qh leaf
 |j+1=>if i/2^j%2=1 then Iz (path.getD j []) (H (iR i leaf path j)) else Iz (H (iR i leaf path j)) (path.getD j [])
def vP (i:Nat) (leaf:Tx) (path:List Tx) (j:Nat):List Tx:=(List.range (j+1)).map (iR i leaf path)
theorem lx (i:Nat) (leaf:Tx) (path:List Tx) (j:Nat):(vP i leaf path j).length=j+1:=by simp [vP]
theorem WK {i:Nat} {leaf:Tx} {path:List Tx} {j m:Nat} (h:m≤j):atL (vP i leaf path j) (m:Int)=some (iR i leaf path m):=by
 rw [bH (by rw [lx];omega)];simp [vP]
theorem a1d (i j:Nat):IntKind.wrap .i64 (((i/2^j:Nat):Int).tdiv 2)=((i/2^(j+1):Nat):Int)∨1000000<i:=by
 by_cases h:i≤1000000
 ·left
  rw [km _ _ (Int.natCast_nonneg _),a2u _ (Nat.le_trans (Nat.div_le_self _ _) h),a4j]
 ·right;omega
theorem a1e {l:List Tx} (h:Hs l):(l.any fun x=> !decide (x.length=32))=false:=by
 rw [List.any_eq_false];intro x hx;simp [h x hx]
theorem b3p {path:List Tx} (hl:path.length≤1000) (hh:Hs path):aQ path=some false:=by
 unfold aQ bC
 rw [rP (step:=bn path ((path.length:Nat):Int)) (p:=fun x=> !decide (x.length=32)) (f:=w5) (by omega) (fun x _=>by unfold w5;rw [u6];rfl) (fun t=>rfl),a1e hh]
end Go.AI.Fn
set_option linter.unusedVariables false
set_option linter.unusedSimpArgs false
namespace Go.AI.Fn
theorem b53: ∀k:Nat,k≤9→Ew ((2^k:Nat):Int)=some (k:Int)
 |0,_=>rfl
 |1,_=>rfl
 |2,_=>rfl
 |3,_=>rfl
 |4,_=>rfl
 |5,_=>rfl
 |6,_=>rfl
 |7,_=>rfl
 |8,_=>rfl
 |9,_=>rfl
theorem b6p {k:Nat} (h:k≤9):wg ((2^k:Nat):Int)=some (k:Int):=by
 unfold wg
 have key:Loop (fW ((2^k:Nat):Int)) 0=some ((k:Int),false):=
  au (step:=fW ((2^k:Nat):Int)) (fun j=>(j:Int)) k (fun j hj=>by
   have hp:2^j<2^k:=Nat.pow_lt_pow_right (by omega) hj
   simp only [fW]
   rw [cw _ (by omega) (by omega),brd (by omega),Nh (by omega),brd (by omega),ab _ (by omega) (by omega)];rfl) (by
   simp only [fW]
   rw [cw _ (by omega) (by omega),brd (by omega),Nh (by omega),brn (by omega),decide_eq_false (by omega)])
 rw [key];rfl
def fpK (k i:Nat) (a b r:K):K:=(a+b)*kF (iF 2)+r*(a-b)*(kF (iF 2)*kF (iF (pF (N0 k) i)))
theorem I5 (a:Int):okF (iF a):=Md _ _
theorem b5E:okF 2:=⟨by decide,by decide⟩
theorem NK {k i:Nat} (a b r:K) (hk:k≤9) (hi:i≤1000):j5 ((2^k:Nat):Int) i a.1 b.1 r.1=some (fpK k i a b r).1:=by
 unfold j5
 rw [xU b5E,obs,b53 k hk,obs,a2q (by omega),obs,LS (Wq k) (by omega) (by omega),obs,gI a.2 b.2,obs,um (PR _ _) (I5 2),obs,kS a.2 b.2,obs,
  db r.2 (t1 _ _),obs,xU (Md _ _),obs,ka (I5 2) (I5 _),obs,um (l9 _ _) (jT _ _),obs,gI (a7N _ _) (a7N _ _),obs,Int.toNat_natCast,Zz,Zz, ←xf (I5 2), ←xf (jT _ _),a3Q];rfl
theorem a94: ∀m:Nat,m≤9→ ∀t:Nat,t≤m→aJ .i64 ((2^m:Nat):Int) (t:Int)=((2^(m-t):Nat):Int):=by decide+kernel
theorem b41 (a b:List K):kv (a++b)=kv a++kv b:=by simp [kv]
end Go.AI.Fn
set_option linter.unusedVariables false
set_option linter.unusedSimpArgs false
namespace Go.AI.Fn
theorem a0C {k i:Nat} (a b r:K) (hk:k≤9) (hi:i≤1000):jx ((2^k:Nat):Int) i a.1 b.1 r.1=some (fpK k i a b r).1:=by
 unfold jx gY
 rw [b6p hk,obs,a2I (by omega),obs,Nx (Wq k) (by omega) (by omega),obs,ym b5E,obs,obs,gH a.2 b.2,obs,Fl,obs,cT (PR _ _) (a08 (I5 2)),obs,Bs a.2 b.2,obs,
  ym (Md _ _),obs,obs,oG (I5 2) (I5 _),obs,Fl,obs,cT (t1 _ _) (a08 (jT _ _)),obs,cT r.2 (l9 _ _),obs,gH (l9 _ _) (l9 _ _),obs,Int.toNat_natCast, ←xf (I5 2), ←xf (jT _ _),a3Q]
 have:(a+b)*kF (iF 2)+r*((a-b)*(kF (iF 2)*kF (iF (pF (N0 k) i))))=fpK k i a b r:=by unfold fpK;exact kg
 rw [←this];rfl
theorem a0y (k:Nat) (hk:k+1≤9):IntKind.wrap .i64 (((2^(k+1):Nat):Int).tdiv 2)=((2^k:Nat):Int):=by
 have hp:=YH (k+1) hk
 have hs:2^(k+1)=2*2^k:=by rw [Nat.pow_succ];omega
 rw [km _ _ (by omega),ab _ (by omega) (by omega)];omega
theorem WG {s:Source} {k:Int} (h:Few s k) (hk:k≤999890) {n:Nat} (hn:n≤100) {m:Int} (h1:1≤m):oO s (n:Int) m=some (drS s n,plM (drL s n) m):=by
 unfold oO
 rw [GB h hk (by omega),obs]
 have:=WU (l:=drL s n) (m:=m) (c:=s.Script) (c2:=s.At) (c3:=s.State) (c4:=s.Count) (c5:=0) (c6:=[]) (c7:=0) (c8:=(drS s n).Script) (c9:=(drS s n).At) (c10:=(drS s n).State) (c11:=(drS s n).Count) (by rw [jq];omega) (Lk h hk (by omega)) (by omega)
 rw [jq] at this
 rw [this,obs]
end Go.AI.Fn
set_option linter.unusedVariables false
set_option linter.unusedSimpArgs false
namespace Go.AI.Fn
def T6 (n:Nat) (p:Nat→Bool):Bool:=(List.range n).all p
theorem p7 {n:Nat} {p:Nat→Bool}:T6 n p=true↔ ∀j,j<n→p j=true:=by simp [T6]
theorem Es {n:Nat} {p:Nat→Bool} (h: ∀j,j<n→p j=true):T6 n p=true:=p7.2 h
theorem b0z {n:Nat} {p:Nat→Bool} {k:Nat} (hk:k<n) (h:p k=false):T6 n p=false:=by
 refine Bool.eq_false_iff.2 fun e=> ?_
 rw [p7.1 e k hk] at h;cases h
theorem wM {E1 E2 R:Type} {step:Int→Option (Int⊕(E1⊕E2))} (n:Nat) (p:Nat→Bool) (e1:Nat→E1) {e2:E2} {f:E1→Option R} {g:E2→Option R} {x y:R} (hs: ∀k,k<n→p k=true→step (k:Int)=some (.inl ((k+1:Nat):Int)))
 (hx: ∀k,k<n→p k=false→step (k:Int)=some (.inr (.inl (e1 k)))) (he:step (n:Int)=some (.inr (.inr e2))) (hf: ∀e,f e=some x) (hg:g e2=some y):
 (Loop step 0).bind (alt f g)=some (if T6 n p=true then y else x):=by
 rcases FG (step:=step) (fun k=>(k:Int)) n p (fun k=> .inl (e1 k)) hs hx he with ⟨h1,h2⟩|⟨k,hk,h1,_,h2⟩
 ·have h2':Loop step 0=_:=h2
  rw [h2',if_pos (Es h1),obs,kt,hg]
 ·have h2':Loop step 0=_:=h2
  rw [h2',if_neg (by rw [b0z hk h1];decide),obs,iC,hf]
theorem Ur {b:Bool}:(if b=true then true else false)=b:=by cases b<;>rfl
def h32 (x:List UInt8):Bool:=decide (x.length=32)
theorem GL {l:List (List UInt8)} (hl:l.length≤1099511627776):dA l=some (l.all h32):=by
 unfold dA aL aO
 rw [rP (step:=aK l ((l.length:Nat):Int)) (p:=fun x=> !h32 x) (f:=dL) hl (fun x _=>by unfold dL;rw [u6];rfl) (fun t=>rfl),obs,pc]
def pj (size:Int) (g:List Ext):Bool:=decide ((g.length:Int)=size)&&g.all iq
def yV (R:List (List Ext)) (many size:Int):Bool:=decide ((R.length:Int)=many)&&R.all (pj size)
theorem Kl {α C:Type} {p:α→Bool} {f:α→C→Option (Bool×C)} {l:List α} {c:C} (hl:l.length≤1099511627776) (hf: ∀x∈l,f x c=some (p x,c)) {step:Int×C→Option ((Int×C)⊕((Int×C)⊕(Int×Bool×C)))}
 (hs: ∀t,step (t,c)=br (decide (t<((l.length:Nat):Int))) ((atL l t).bind fun x=>(f x c).bind fun r=>br r.1 (some (.inr (.inl (t,r.2)))) (some (.inl (IntKind.wrap .i64 (t+1),r.2)))) (some (.inr (.inr (t,decide (t<((l.length:Nat):Int)),c))))):
 ∃n:Int,Loop step (0,c)=some (if l.any p then .inl (n,c) else .inr (n,false,c))∧0≤n:=by
 have key:=FG (step:=step) (fun k=>((k:Int),c)) l.length (fun k=> !((l[k]?.map p).getD false)) (fun k=> .inl ((k:Int),c)) (e:= .inr ((l.length:Int),false,c)) (fun k hk hp=>by
  have hb:p l[k]=false:=by simpa [hk] using hp
  rw [hs,brd (by omega),bH hk,obs,hf _ (List.getElem_mem hk),obs,hb,an,ab _ (by omega) (by omega)];rfl)
  (fun k hk hp=>by
   have hb:p l[k]=true:=by simpa [hk] using hp
   rw [hs,brd (by omega),bH hk,obs,hf _ (List.getElem_mem hk),obs,hb,bz])
  (by rw [hs,brn (by omega),decide_eq_false (by omega)])
 rcases key with ⟨h1,h2⟩|⟨k,hk,h1,_,h2⟩
 ·exact ⟨(l.length:Int),by rw [a0x (fun k hk=>by simpa [hk] using h1 k hk)];exact h2,by omega⟩
 ·exact ⟨(k:Int),by rw [Nj hk (by simpa [hk] using h1)];exact h2,by omega⟩
theorem sX {R:List (List Ext)} {many size:Int} (hl:R.length≤1099511627776) (hR: ∀g∈R,g.length≤1099511627776):iP R many size=some (yV R many size):=by
 unfold iP yV
 by_cases h:(R.length:Int)=many
 ·rw [bre h,decide_eq_true h]
  obtain ⟨n,e,hn⟩:=Kl (c:=size) (p:=fun g=> !pj size g) (f:=kf) (l:=R) hl (fun x hx=>by
   unfold kf pj
   by_cases h2:(x.length:Int)=size
   ·rw [cE h2,Gm (hR x hx),obs,decide_eq_true h2];rfl
   ·rw [brb h2,decide_eq_false h2];rfl) (step:=aZ R ((R.length:Nat):Int)) (fun t=>rfl)
  unfold bc bk
  rw [e, ←pc (pj size)]
  cases (R.any fun g=> !pj size g)
  ·rfl
  ·simp only [if_pos,obs,iC,decide_eq_true (show n≥0 from hn)];rfl
 ·rw [TB h,decide_eq_false h];rfl
def UX (vars:Int) (t:Setting) (q:Query) (j:Nat):Bool:=decide (((q.Paths.getD j []).length:Int)=vars+t.Rate-1-j)&&(q.Paths.getD j []).all h32
def EL (vars:Int) (t:Setting) (q:Query):Bool:=decide ((q.Pairs.length:Int)=2*vars)&&(q.Pairs.all iq&&(decide ((q.Paths.length:Int)=vars)&&T6 vars.toNat (UX vars t q)))
def okO (o:Opening) (vars:Int) (t:Setting):Bool:=decide (1≤vars∧vars≤6)&&(setB t&&(yV o.Rounds vars 3&&(decide ((o.Roots.length:Int)=vars-1)&&(o.Roots.all h32&&(iq o.Last&&(decide (0≤o.Nonce∧o.Nonce≤65535)&&(decide ((o.Queries.length:Int)=t.Queries)&&o.Queries.all (EL vars t))))))))
structure SmO (o:Opening):Prop where
 rn:o.Rounds.length≤1099511627776
 rr: ∀g∈o.Rounds,g.length≤1099511627776
 ro:o.Roots.length≤1099511627776
 qn:o.Queries.length≤1099511627776
 qp: ∀q∈o.Queries,q.Pairs.length≤1099511627776
 qt: ∀q∈o.Queries, ∀p∈q.Paths,p.length≤1099511627776
theorem DS {l:List (List (List UInt8))} {j:Nat} (h:j<l.length):atL l (j:Int)=some (l.getD j []):=by rw [bH h];simp [h]
theorem QW {l:List (List (List UInt8))} {j:Nat} (h:j<l.length):l.getD j []∈l:=by simp [h]
theorem TV {q:Query} {vars:Int} {t:Setting} (hv:1≤vars∧vars≤6) (ht:setB t=true) (hp:q.Pairs.length≤1099511627776) (hq: ∀p∈q.Paths,p.length≤1099511627776):rT q vars t=some (EL vars t q):=by
 have h2:=nK ht
 unfold rT EL
 rw [ab _ (by omega) (by omega)]
 by_cases c1:(q.Pairs.length:Int)=2*vars
 ·rw [cE c1,decide_eq_true c1,Gm hp,obs]
  cases hb:q.Pairs.all iq
  ·rfl
  ·rw [Bool.not_true,an]
   by_cases c2:(q.Paths.length:Int)=vars
   ·rw [cE c2,decide_eq_true c2]
    have hn:vars.toNat=q.Paths.length:=by omega
    have key:=wM (step:=ga vars q.Paths ((q.Paths.length:Nat):Int) q.Pairs q.Paths t.Rate t.Queries t.Grind) vars.toNat (UX vars t q) (fun _=>()) (e2:=((vars.toNat:Int),false)) (f:=fun _=>some false) (g:=fun _=>some true) (x:=false) (y:=true) (fun k hk hp=>by
     have hm:=hq _ (QW (l:=q.Paths) (j:=k) (by omega))
     simp only [UX,Bool.and_eq_true,decide_eq_true_eq] at hp
     simp only [ga]
     rw [brd (by omega),DS (by omega),obs,ab (vars+t.Rate) (by omega) (by omega),ab (vars+t.Rate-1) (by omega) (by omega),ab (vars+t.Rate-1-k) (by omega) (by omega),cE hp.1,GL hm,obs,hp.2,Bool.not_true,an,ab _ (by omega) (by omega)];rfl) (fun k hk hp=>by
     have hm:=hq _ (QW (l:=q.Paths) (j:=k) (by omega))
     simp only [ga]
     rw [brd (by omega),DS (by omega),obs,ab (vars+t.Rate) (by omega) (by omega),ab (vars+t.Rate-1) (by omega) (by omega),ab (vars+t.Rate-1-k) (by omega) (by omega)]
     by_cases c3:((q.Paths.getD k []).length:Int)=vars+t.Rate-1-k
     ·rw [cE c3,GL hm,obs]
      rw [UX,decide_eq_true c3,Bool.true_and] at hp
      rw [hp];rfl
     ·rw [brb c3]) (by
     simp only [ga]
     rw [brn (by omega),decide_eq_false (by omega)]) (fun _=>rfl) rfl
    rw [Ur] at key
    rw [key];rfl
   ·rw [brb c2,decide_eq_false c2];rfl
 ·rw [brb c1,decide_eq_false c1];rfl
theorem Nr {o:Opening} {vars:Int} {t:Setting} (S:SmO o):oN o vars t=some (okO o vars t):=by
 unfold oN okO
 rw [Bf,obs]
 by_cases hv:1≤vars∧vars≤6
 ·rw [decide_eq_true hv,decide_eq_true hv.1,decide_eq_true hv.2,Bool.and_self,bz,ti,obs,Bool.true_and]
  cases ht:setB t
  ·rfl
  ·rw [bz,sX S.rn S.rr,obs,Bool.true_and]
   cases hr:yV o.Rounds vars 3
   ·rfl
   ·rw [bz,ab _ (by omega) (by omega),Bool.true_and]
    by_cases c1:(o.Roots.length:Int)=vars-1
    ·rw [bre c1,decide_eq_true c1,GL S.ro,obs,Bool.true_and]
     cases hh:o.Roots.all h32
     ·rfl
     ·rw [bz,mD,obs,Bool.true_and]
      cases hl:iq o.Last
      ·rfl
      ·rw [bz,Bf,obs,Bool.true_and]
       by_cases c2:0≤o.Nonce∧o.Nonce≤65535
       ·rw [decide_eq_true c2,decide_eq_true c2.1,decide_eq_true c2.2,Bool.and_self,bz,Bool.true_and]
        by_cases c3:(o.Queries.length:Int)=t.Queries
        ·rw [bre c3,decide_eq_true c3,Bool.true_and]
         obtain ⟨n,e,hn⟩:=Kl (c:=(vars,t.Rate,t.Queries,t.Grind)) (p:=fun q=> !EL vars t q) (f:=fun x c=>(bL x c.1 ⟨c.2.1,c.2.2.1,c.2.2.2⟩).bind fun r=>some (r.1,r.2.1,r.2.2.Rate,r.2.2.Queries,r.2.2.Grind)) (l:=o.Queries) S.qn (fun x hx=>by
          unfold bL o3
          show ((((rT x vars t).bind _).bind _).bind _)=_
          rw [TV hv ht (S.qp x hx) (S.qt x hx)];rfl) (step:=al o.Queries ((o.Queries.length:Nat):Int)) (fun z=>by
          show al _ _ (z,vars,t.Rate,t.Queries,t.Grind)=_
          simp only [al]
          congr 1
          cases atL o.Queries z with
          |none=>rfl
          |some x=>
           simp only [obs]
           cases bL x vars ⟨t.Rate,t.Queries,t.Grind⟩<;>rfl)
         unfold dK aG aH
         rw [e, ←pc (EL vars t)]
         cases (o.Queries.any fun q=> !EL vars t q)
         ·rfl
         ·simp only [if_pos,obs,iC,decide_eq_true (show n≥0 from hn)]
        ·rw [TB c3,decide_eq_false c3];rfl
       ·rw [decide_eq_false c2]
        have:(decide (0≤o.Nonce)&&decide (o.Nonce≤65535))=false:=by
         rw [←Bool.decide_and];exact decide_eq_false c2
        rw [this];rfl
    ·rw [TB c1,decide_eq_false c1];rfl
 ·rw [decide_eq_false hv]
  have:(decide (1≤vars)&&decide (vars≤6))=false:=by
   rw [←Bool.decide_and];exact decide_eq_false hv
  rw [this];rfl
end Go.AI.Fn
set_option linter.unusedVariables false
set_option linter.unusedSimpArgs false
namespace Go.AI.Fn
theorem wj {α:Type} (l:List α) (d:α) (P:α→Bool):T6 l.length (fun k=>P (l.getD k d))=l.all P:=by
 refine Bool.eq_iff_iff.2 ⟨fun h=>List.all_eq_true.2 fun x hx=> ?_,fun h=>Es fun k hk=> ?_⟩
 ·obtain ⟨k,hk,rfl⟩:=List.getElem_of_mem hx
  have:=p7.1 h k hk
  simpa [hk] using this
 ·have:=List.all_eq_true.1 h _ (List.getElem_mem hk)
  simpa [hk] using this
theorem ku {α:Type} {l:List α} {d:α} {j:Nat} (h:j<l.length):atL l (j:Int)=some (l.getD j d):=by rw [bH h];simp [h]
theorem KZ {a t9:Int} {c30:List (List Ext)} {c31:List (List UInt8)} {c32 c33 c34:Int} {c35:List Query} {c36 c37 c38:Int} {c39:List Ext} {C:List (List (List UInt8))} {j:Nat} (hj:j<C.length) (hl:(C.getD j []).length≤1099511627776) {R:Type} {x y:R}:
 (Loop (ez a t9 (j:Int) c30 c31 c32 c33 c34 c35 c36 c37 c38 c39 C) 0).bind (alt (fun _=>some x) (fun _=>some y))=some (if (C.getD j []).all h32=true then y else x):=by
 rw [←wj (C.getD j []) [] h32]
 refine wM (C.getD j []).length _ (fun _=>()) (fun k hk hp=> ?_) (fun k hk hp=> ?_) (e2:=(((C.getD j []).length:Int),false)) ?_ (fun _=>rfl) rfl
 ·simp only [ez]
  simp only [h32,decide_eq_true_eq] at hp
  rw [DS hj,obs,brd (by omega),obs,ku (d:=[]) hk,obs,cE (by omega),ab _ (by omega) (by omega)];rfl
 ·simp only [ez]
  simp only [h32,decide_eq_false_iff_not] at hp
  rw [DS hj,obs,brd (by omega),obs,ku (d:=[]) hk,obs,brb (by omega)]
 ·simp only [ez]
  rw [DS hj,obs,brn (by omega),decide_eq_false (by omega)]
theorem Nb {vars:Int} {t:Setting} {q:Query} {t6:Int} {c19:List (List Ext)} {c20:List (List UInt8)} {c21 c22 c23:Int} {c24:List Query} {c26 c27:Int} {c28:List Ext} (hv:1≤vars∧vars≤6) (ht:setB t=true) (hq:(q.Paths.length:Int)=vars) (hl: ∀p∈q.Paths,p.length≤1099511627776) {R:Type} {x y:R}:
 (Loop (eD vars t6 c19 c20 c21 c22 c23 c24 t.Rate c26 c27 c28 q.Paths) 0).bind (alt (fun _=>some x) (fun _=>some y))=some (if T6 vars.toNat (UX vars t q)=true then y else x):=by
 have h2:=nK ht
 refine wM vars.toNat _ (fun _=>()) (fun k hk hp=> ?_) (fun k hk hp=> ?_) (e2:=((vars.toNat:Int),false)) ?_ (fun _=>rfl) rfl
 ·have hm:=hl _ (QW (l:=q.Paths) (j:=k) (by omega))
  simp only [UX,Bool.and_eq_true,decide_eq_true_eq] at hp
  simp only [eD]
  rw [brd (by omega),DS (by omega),obs,ab (vars+t.Rate) (by omega) (by omega),ab (vars+t.Rate-1) (by omega) (by omega),ab (vars+t.Rate-1-k) (by omega) (by omega),cE hp.1,KZ (by omega) hm,if_pos hp.2,ab _ (by omega) (by omega)];rfl
 ·have hm:=hl _ (QW (l:=q.Paths) (j:=k) (by omega))
  simp only [eD]
  rw [brd (by omega),DS (by omega),obs,ab (vars+t.Rate) (by omega) (by omega),ab (vars+t.Rate-1) (by omega) (by omega),ab (vars+t.Rate-1-k) (by omega) (by omega)]
  by_cases c3:((q.Paths.getD k []).length:Int)=vars+t.Rate-1-k
  ·rw [UX,decide_eq_true c3,Bool.true_and] at hp
   rw [cE c3,KZ (by omega) hm,if_neg (by rw [hp];decide)]
  ·rw [brb c3]
 ·simp only [eD]
  rw [brn (by omega),decide_eq_false (by omega)]
theorem Tj {vars:Int} {t:Setting} {o:Opening} {c14 c12 c13:Int} {c10:List (List Ext)} {c11:List (List UInt8)} {c17 c18:Int} (S:SmO o) (hv:1≤vars∧vars≤6) (ht:setB t=true) {R:Type} {x y:R}:
 (Loop (dE vars c10 c11 c12 c13 c14 o.Queries t.Rate c17 c18) 0).bind (alt (fun _=>some x) (fun _=>some y))=some (if o.Queries.all (EL vars t)=true then y else x):=by
 rw [←wj o.Queries ⟨[],[]⟩ (EL vars t)]
 have hQ: ∀k,k<o.Queries.length→o.Queries.getD k ⟨[],[]⟩∈o.Queries:=fun k hk=>by simp [hk]
 have hqn:=S.qn
 refine wM o.Queries.length _ (fun k=>((o.Queries.getD k ⟨[],[]⟩).Pairs,(o.Queries.getD k ⟨[],[]⟩).Paths)) (fun k hk hp=> ?_) (fun k hk hp=> ?_) (e2:=((o.Queries.length:Int),false)) ?_ (fun _=>rfl) rfl
 ·have hm:=hQ k hk
  simp only [EL,Bool.and_eq_true,decide_eq_true_eq] at hp
  simp only [dE]
  rw [brd (by omega),ku (d:=⟨[],[]⟩) hk,obs,ab (2*vars) (by omega) (by omega),cE hp.1,iI (S.qp _ hm),obs,hp.2.1,Bool.not_true,an,cE hp.2.2.1,Nb hv ht hp.2.2.1 (S.qt _ hm),if_pos hp.2.2.2,ab _ (by omega) (by omega)];rfl
 ·have hm:=hQ k hk
  simp only [dE]
  rw [brd (by omega),ku (d:=⟨[],[]⟩) hk,obs,ab (2*vars) (by omega) (by omega)]
  rw [EL] at hp
  by_cases c1:((o.Queries.getD k ⟨[],[]⟩).Pairs.length:Int)=2*vars
  ·rw [cE c1,iI (S.qp _ hm),obs]
   rw [decide_eq_true c1,Bool.true_and] at hp
   cases hb:(o.Queries.getD k ⟨[],[]⟩).Pairs.all iq
   ·rfl
   ·rw [Bool.not_true,an]
    rw [hb,Bool.true_and] at hp
    by_cases c2:((o.Queries.getD k ⟨[],[]⟩).Paths.length:Int)=vars
    ·rw [decide_eq_true c2,Bool.true_and] at hp
     rw [cE c2,Nb hv ht c2 (S.qt _ hm),if_neg (by rw [hp];decide)]
    ·rw [brb c2]
  ·rw [brb c1]
 ·simp only [dE]
  rw [brn (by omega),decide_eq_false (by omega)]
theorem MY {o:Opening} {vars:Int} {t:Setting} (S:SmO o):ph o vars t=some (okO o vars t):=by
 unfold ph okO
 rw [FO,obs]
 by_cases hv:1≤vars∧vars≤6
 ·rw [decide_eq_true hv,decide_eq_true hv.1,decide_eq_true hv.2,Bool.and_self,Bool.not_true,an,sC,obs,Bool.true_and]
  cases ht:setB t
  ·rfl
  ·rw [Bool.not_true,an,ab _ (by omega) (by omega),Bool.true_and,yV]
   by_cases c0:(o.Rounds.length:Int)=vars
   ·rw [cE c0,decide_eq_true c0,Bool.true_and]
    by_cases c1:(o.Roots.length:Int)=vars-1
    ·rw [cE c1,decide_eq_true c1,Bool.true_and]
     by_cases c3:(o.Queries.length:Int)=t.Queries
     ·rw [cE c3,decide_eq_true c3,Bool.true_and,Lw,obs]
      cases hl:iq o.Last
      ·rw [Bool.not_false,bz];cases o.Rounds.all (pj 3)<;>cases o.Roots.all h32<;>rfl
      ·rw [Bool.not_true,an,FO,obs,Bool.true_and]
       by_cases c2:0≤o.Nonce∧o.Nonce≤65535
       ·rw [decide_eq_true c2,decide_eq_true c2.1,decide_eq_true c2.2,Bool.and_self,Bool.not_true,an,Bool.true_and]
        have key:=wM (step:=ex vars o.Rounds o.Roots o.Last.A o.Last.B o.Nonce o.Queries t.Rate t.Queries t.Grind) vars.toNat (fun i=>pj 3 (o.Rounds.getD i [])&&(decide (i=0)||h32 (o.Roots.getD (i-1) []))) (fun _=>()) (e2:=((vars.toNat:Int),false)) (f:=fun _=>some false)
         (g:=fun _=>(Loop (dE vars o.Rounds o.Roots o.Last.A o.Last.B o.Nonce o.Queries t.Rate t.Queries t.Grind) 0).bind (alt (fun e_11=>some false) (fun e_12=>some true))) (x:=false) (y:=o.Queries.all (EL vars t)) (fun k hk hp=>by
         simp only [Bool.and_eq_true,Bool.or_eq_true,pj,h32,decide_eq_true_eq] at hp
         have hm:=S.rr _ (show o.Rounds.getD k []∈o.Rounds by simp [show k<o.Rounds.length by omega])
         simp only [ex]
         rw [brd (by omega),ku (d:=[]) (by omega),obs,cE hp.1.1,obs,iI hm,obs,hp.1.2,Bool.not_true,an,ab ((k:Int)+1) (by omega) (by omega)]
         by_cases h0:k=0
         ·rw [brn (by omega)];rfl
         ·rw [brd (by omega),ab _ (by omega) (by omega),show (k:Int)-1=((k-1:Nat):Int) by omega,ku (d:=[]) (by omega),obs,cE (by have:=hp.2.resolve_left h0;omega)];rfl) (fun k hk hp=>by
         have hm:=S.rr _ (show o.Rounds.getD k []∈o.Rounds by simp [show k<o.Rounds.length by omega])
         simp only [ex]
         rw [brd (by omega),ku (d:=[]) (by omega),obs]
         by_cases c4:((o.Rounds.getD k []).length:Int)=3
         ·rw [cE c4,obs,iI hm,obs]
          cases hb:(o.Rounds.getD k []).all iq
          ·rfl
          ·rw [pj,decide_eq_true c4,hb,Bool.true_and,Bool.true_and,Bool.or_eq_false_iff,decide_eq_false_iff_not,h32,decide_eq_false_iff_not] at hp
           rw [Bool.not_true,an,brd (by omega),ab _ (by omega) (by omega),show (k:Int)-1=((k-1:Nat):Int) by omega,ku (d:=[]) (by omega),obs,brb (by omega)]
         ·rw [brb c4]) (by
         simp only [ex]
         rw [brn (by omega),decide_eq_false (by omega)]) (fun _=>rfl) (by rw [Tj S hv ht,Ur])
        rw [key]
        have hall:T6 vars.toNat (fun i=>pj 3 (o.Rounds.getD i [])&&(decide (i=0)||h32 (o.Roots.getD (i-1) [])))=(o.Rounds.all (pj 3)&&o.Roots.all h32):=by
         rw [←wj o.Rounds [], ←wj o.Roots []]
         refine Bool.eq_iff_iff.2 ⟨fun h=> ?_,fun h=> ?_⟩
         ·rw [Bool.and_eq_true]
          refine ⟨Es fun k hk=> ?_,Es fun k hk=> ?_⟩
          ·have:=p7.1 h k (by omega)
           simp only [Bool.and_eq_true] at this;exact this.1
          ·have:=p7.1 h (k+1) (by omega)
           simpa using (Bool.and_eq_true _ _▸this).2
         ·rw [Bool.and_eq_true] at h
          refine Es fun k hk=> ?_
          rw [Bool.and_eq_true]
          refine ⟨p7.1 h.1 k (by omega), ?_⟩
          by_cases h0:k=0
          ·simp [h0]
          ·have:=p7.1 h.2 (k-1) (by omega)
           simp only [Bool.or_eq_true];exact .inr this
        rw [hall]
        cases o.Rounds.all (pj 3)<;>cases o.Roots.all h32<;>simp
       ·have:(decide (0≤o.Nonce)&&decide (o.Nonce≤65535))=false:=by
         rw [←Bool.decide_and];exact decide_eq_false c2
        rw [decide_eq_false c2,this,Bool.not_false,bz]
        cases o.Rounds.all (pj 3)<;>cases o.Roots.all h32<;>rfl
     ·rw [brb c3,decide_eq_false c3]
      cases o.Rounds.all (pj 3)<;>cases o.Roots.all h32<;>cases iq o.Last<;>cases decide (0≤o.Nonce∧o.Nonce≤65535)<;>rfl
    ·rw [brb c1,decide_eq_false c1];cases o.Rounds.all (pj 3)<;>rfl
   ·rw [brb c0,decide_eq_false c0];rfl
 ·rw [decide_eq_false hv]
  have:(decide (1≤vars)&&decide (vars≤6))=false:=by
   rw [←Bool.decide_and];exact decide_eq_false hv
  rw [this];rfl
end Go.AI.Fn
set_option linter.unusedVariables false
set_option linter.unusedSimpArgs false
namespace Go.AI.Fn
end Go.AI.Fn
set_option linter.unusedVariables false
set_option linter.unusedSimpArgs false
namespace Go.AI.Fn
end Go.AI.Fn
set_option linter.unusedVariables false
set_option linter.unusedSimpArgs false
namespace Go.AI.Fn
variable {kind:Nat}
theorem Q6 {c7 c8 c9 c11:Int} {c10:List UInt8} (hkd:kind=1∨kind=2): ∀(R pre:List (List K)) (c:K) (s:Source) (k:Int) (P:List Ext),Few s k→k+3*R.length≤999990→P.length+R.length≤999990→pre.length+R.length≤999990→
 ((vfM kind bv0 R pre.length c s).1=0→Loop (cg (kind:Int) (kvv (pre++R)) ((pre++R).length:Int) c7 c8 c9 c10 c11) (P,(pre.length:Int),c.1.A,c.1.B,s.Script,s.At,s.State,s.Count)=
   some (.inr (.inr (P++kv (vfM kind bv0 R pre.length c s).2.1,((pre++R).length:Int),false,(vfM kind bv0 R pre.length c s).2.2.1.1.A,(vfM kind bv0 R pre.length c s).2.2.1.1.B,(vfM kind bv0 R pre.length c s).2.2.2.Script,(vfM kind bv0 R pre.length c s).2.2.2.At,(vfM kind bv0 R pre.length c s).2.2.2.State,(vfM kind bv0 R pre.length c s).2.2.2.Count))))∧
 ((vfM kind bv0 R pre.length c s).1≠0→((vfM kind bv0 R pre.length c s).1=18∧ ∃P' A B C D E F S0 S1 S2 S3,Loop (cg (kind:Int) (kvv (pre++R)) ((pre++R).length:Int) c7 c8 c9 c10 c11) (P,(pre.length:Int),c.1.A,c.1.B,s.Script,s.At,s.State,s.Count)=
   some (.inl (P',[],A,B,C,D,E,F,S0,S1,S2,S3))∧Source.mk S0 S1 S2 S3=(vfM kind bv0 R pre.length c s).2.2.2)∨
   ((vfM kind bv0 R pre.length c s).1=10∧ ∃P' A B C D E F S0 S1 S2 S3,Loop (cg (kind:Int) (kvv (pre++R)) ((pre++R).length:Int) c7 c8 c9 c10 c11) (P,(pre.length:Int),c.1.A,c.1.B,s.Script,s.At,s.State,s.Count)=
   some (.inr (.inl (P',[],A,B,C,D,E,F,S0,S1,S2,S3)))∧Source.mk S0 S1 S2 S3=(vfM kind bv0 R pre.length c s).2.2.2))
 |[],pre,c,s,k,P,hf,hk,hP,hp=>by
  refine ⟨fun _=>bI ?_,fun h=>absurd rfl h⟩
  simp only [cg,List.append_nil]
  rw [brn (by omega),decide_eq_false (by omega)]
  simp [vfM,kv]
 |g::R,pre,c,s,k,P,hf,hk,hP,hp=>by
  rw [List.length_cons] at hk hP hp
  have hat:atL (kvv (pre++g::R)) (pre.length:Int)=some (kv g):=by rw [SI (by simp)];simp
  have hlt:(pre.length:Int)<((pre++g::R).length:Int):=by rw [List.length_append,List.length_cons];omega
  have hd:oZ (kind:Int)=some ((kind+1:Nat):Int):=by unfold oZ;rw [ab _ (by omega) (by omega)];rfl
  rw [vfM]
  by_cases h1:g.length=kind+2
  ·by_cases h2:g.getD 0 0+g.getD 1 0=c
   ·rw [if_pos h1,if_pos h2]
    have ih:=Q6 (c7:=c7) (c8:=c8) (c9:=c9) (c10:=c10) (c11:=c11) hkd R (pre++[g]) (lnK g (rdM s g)) (nsM s g) (k+2) (P++[(rdM s g).1]) (Dl hf (by omega) g) (by omega) (by rw [List.length_append,List.length_singleton];omega) (by rw [List.length_append,List.length_singleton];omega)
    rw [List.append_assoc,List.singleton_append,List.length_append,List.length_singleton] at ih
    have step:cg (kind:Int) (kvv (pre++g::R)) ((pre++g::R).length:Int) c7 c8 c9 c10 c11 (P,(pre.length:Int),c.1.A,c.1.B,s.Script,s.At,s.State,s.Count)=
     some (.inl (P++[(rdM s g).1],((pre.length+1:Nat):Int),(lnK g (rdM s g)).1.A,(lnK g (rdM s g)).1.B,(nsM s g).Script,(nsM s g).At,(nsM s g).State,(nsM s g).Count)):=by
     simp only [cg]
     rw [brd hlt,hat,obs,hd,obs,ab _ (by omega) (by omega),cE (by rw [aM];omega),atK (i:=0) (j:=0) rfl (by omega),obs,atK (i:=1) (j:=1) rfl (by omega),obs,gH (Subtype.property _) (Subtype.property _),obs]
     rw [show eA (g.getD 0 0).1 (g.getD 1 0).1=c.1 from congrArg Subtype.val h2,bre rfl,bre rfl,show Source.mk s.Script s.At s.State s.Count=s from rfl,Kz hf.1 (by omega),obs,b1v hf,obs]
     dsimp only
     rw [Qm _ (by omega),obs,aA (by rw [List.length_append,List.length_singleton];omega),ab _ (by omega) (by omega)];rfl
    refine ⟨fun h=> ?_,fun h=> ?_⟩
    ·rw [bG step,ih.1 h]
     simp [kv,bv0]
    ·rcases ih.2 h with ⟨q,P',A,B,C,D,E,F,S0,S1,S2,S3,e,e2⟩|⟨q,P',A,B,C,D,E,F,S0,S1,S2,S3,e,e2⟩
     ·exact .inl ⟨q,P',A,B,C,D,E,F,S0,S1,S2,S3,by rw [bG step,e],e2⟩
     ·exact .inr ⟨q,P',A,B,C,D,E,F,S0,S1,S2,S3,by rw [bG step,e],e2⟩
   ·rw [if_pos h1,if_neg h2]
    refine ⟨fun h=>absurd (show (10:Int)=0 from h) (by decide),fun _=> .inr ⟨rfl,P,c.1.A,c.1.B,s.Script,s.At,s.State,s.Count,s.Script,s.At,s.State,s.Count,bI ?_,rfl⟩⟩
    simp only [cg]
    rw [brd hlt,hat,obs,hd,obs,ab _ (by omega) (by omega),cE (by rw [aM];omega),atK (i:=0) (j:=0) rfl (by omega),obs,atK (i:=1) (j:=1) rfl (by omega),obs,gH (Subtype.property _) (Subtype.property _),obs]
    rw [show eA (g.getD 0 0).1 (g.getD 1 0).1=(g.getD 0 0+g.getD 1 0).1 from rfl,BK,if_neg h2]
  ·rw [if_neg h1]
   refine ⟨fun h=>absurd (show (18:Int)=0 from h) (by decide),fun _=> .inl ⟨rfl,P,c.1.A,c.1.B,s.Script,s.At,s.State,s.Count,s.Script,s.At,s.State,s.Count,bI ?_,rfl⟩⟩
   simp only [cg]
   rw [brd hlt,hat,obs,hd,obs,ab _ (by omega) (by omega),brb (by rw [aM];omega)]
theorem IA (hkd:kind=1∨kind=2) {R:List (List K)} {c:K} {s:Source} {k:Int} (hf:Few s k) (hk:k+3*R.length≤999990):
 gR (kind:Int) c.1 (kvv R) (R.length:Int) s=some (if (vfM kind bv0 R 0 c s).1=0 then (kv (vfM kind bv0 R 0 c s).2.1,(vfM kind bv0 R 0 c s).2.2.1.1,(vfM kind bv0 R 0 c s).2.2.2,0) else ([],e0,(vfM kind bv0 R 0 c s).2.2.2,(vfM kind bv0 R 0 c s).1)):=by
 have hk0:0≤k:=by have:=hf.2;have:=hf.1.4;omega
 have h:=Q6 (c7:=0) (c8:=0) (c9:=0) (c10:=[]) (c11:=0) hkd R [] c s k [] hf hk (by rw [List.length_nil];omega) (by rw [List.length_nil];omega)
 rw [List.nil_append,List.length_nil] at h
 unfold gR
 rw [T8,cE rfl]
 by_cases h0:(vfM kind bv0 R 0 c s).1=0
 ·rw [if_pos h0]
  have:=h.1 h0
  rw [show (((0:Nat):Int))=0 from rfl] at this
  rw [this];rfl
 ·rw [if_neg h0]
  rcases h.2 h0 with ⟨q,P',A,B,C,D,E,F,S0,S1,S2,S3,e,e2⟩|⟨q,P',A,B,C,D,E,F,S0,S1,S2,S3,e,e2⟩
  ·rw [show (((0:Nat):Int))=0 from rfl] at e
   rw [e,q, ←e2];rfl
  ·rw [show (((0:Nat):Int))=0 from rfl] at e
   rw [e,q, ←e2];rfl
end Go.AI.Fn
set_option linter.unusedVariables false
set_option linter.unusedSimpArgs false
namespace Go.AI.Fn
variable {v ρ:Nat} {t P:List K} {s:Source} {k:Int}
end Go.AI.Fn
set_option linter.unusedVariables false
set_option linter.unusedSimpArgs false
namespace Go.AI.Fn
end Go.AI.Fn
set_option linter.unusedVariables false
set_option linter.unusedSimpArgs false
namespace Go.AI.Fn
def eaK:List K→List K→K→K
 |x::A,b::B,c=>eaK A B (c*(x*b+(1-x)*(1-b)))
 |_,_,c=>c
def qf (a b:K):List UInt8:=[a.1,b.1].flatMap e8
def a1C (due:Option K) (x:K):Prop:= ∃d,due=some d∧x≠d
noncomputable instance b40 (due:Option K) (x:K):Decidable (a1C due x):=Classical.propDecidable _
noncomputable def qcK (l:K):Nat→List (List UInt8)→List K→List (List (List UInt8))→List K→Nat→Option K→Int
 |m,rt::rts,a::b::prs,p::pths,r::P,k,due=>
  if (H (iR (k%2^(m-1)) (qf a b) p (m-1))==rt)=false then 9
  else if a1C due (if 2^(m-1)≤k then b else a) then 12
  else qcK l (m-1) rts prs pths P (k%2^(m-1)) (some (fpK m (k%2^(m-1)) a b r))
 |_,_,_,_,_,_,due=>if due=some l then 0 else 13
noncomputable def qsC (l:K) (m:Nat) (rts:List (List UInt8)) (D:List K):List Int→List Query→Int
 |p::ps,q::qs=>if qcK l m rts (q.Pairs.map toK) q.Paths D p.toNat none=0 then qsC l m rts D ps qs else qcK l m rts (q.Pairs.map toK) q.Paths D p.toNat none
 |_,_=>0
def bvO (v:Nat) (rts:List (List UInt8)) (j:Nat) (s:Source):Source:=if j+1<v then tkM s (rts.getD j []) else s
theorem TZ (v:Nat) (rts:List (List UInt8)):b3E (bvO v rts):=fun j s k h hk=>by
 unfold bvO;split
 ·exact h.take _
 ·exact h.mono (by omega)
noncomputable def chC (m bits nq:Nat) (root:List UInt8) (P:List K) (rts:List (List UInt8)) (l:K) (nonce:Int) (qs:List Query) (q:Int×List K×K×Source):Int:=
 if q.1=0 then
  if l*eaK q.2.1 P 1=q.2.2.1 then
   if LU (rsM q.2.2.2 [l]).State bits nonce=true then qsC l m (root::rts) q.2.1 (plM (drL (tkM (rsM q.2.2.2 [l]) (dT nonce)) nq) ((2^(m-1):Nat):Int)) qs
   else 14
  else 11
 else q.1
def chS (nq:Nat) (l:K) (nonce:Int) (q:Int×List K×K×Source):Source:=drS (tkM (rsM q.2.2.2 [l]) (dT nonce)) nq
variable {v ρ:Nat} {t P:List K} {s:Source} {k:Int}
end Go.AI.Fn
set_option linter.unusedVariables false
set_option linter.unusedSimpArgs false
namespace Go.AI.Fn
theorem b6B: ∀i:Nat,i<512→ ∀j:Nat,j<9→(bp .i64 (aJ .i64 (i:Int) (j:Int)) 1==1)=decide (i/2^j%2=1):=by decide+kernel
theorem b2A {i k:Nat} {leaf:Tx} {path:List Tx} (hi:i<512) (hk:k≤9) (hl:leaf.length≤1000) (hp:path.length=k) (hh:Hs path):FW i leaf path=some (vP i leaf path k):=by
 unfold FW
 rw [O4 (by omega),obs,hp]
 have key:Loop (j1 i path k) ([Qh leaf],0)=some (vP i leaf path k,(k:Int),false):=by
  refine au (step:=j1 i path k) (fun j=>(vP i leaf path j,(j:Int))) k (fun j hj=> ?_) ?_
  ·have hx:=hh.getD (k:=j) (by omega)
   have hH:=yC (iR i leaf path j)
   simp only [j1]
   have e:=WK (i:=i) (leaf:=leaf) (path:=path) (Nat.le_refl j)
   rw [bH (by rw [lx];omega),Option.some.injEq] at e
   have e2:(vP i leaf path j)[((j:Nat):Int).toNat]? =some (iR i leaf path j):=by
    rw [Int.toNat_natCast,oE (by rw [lx];omega),e]
   have hw:(iR i leaf path j).length≤100000000:=by
    cases j with
    |zero=>simp only [iR,Qh,List.length_cons];omega
    |succ j=>
     have hx':=hh.getD (k:=j) (by omega)
     have hH':=yC (iR i leaf path j)
     simp only [iR]
     split<;>simp only [Iz,List.length_cons,List.length_append]<;>omega
   rw [brd (by omega),a3t (by omega),obs,brd (by omega),brd (by rw [lx];omega),e2,obs,HR hw,obs,brd (by omega),b6B i hi j (by omega)]
   by_cases c:i/2^j%2=1
   ·rw [brd c,C3 (by omega) (by omega),obs,aA (by simp only [List.length_append,lx,List.length_singleton];omega),ab _ (by omega) (by omega),vP,vP,lF _ (j+1)]
    simp only [iR,if_pos c];rfl
   ·rw [brn c,C3 (by omega) (by omega),obs,aA (by simp only [List.length_append,lx,List.length_singleton];omega),ab _ (by omega) (by omega),vP,vP,lF _ (j+1)]
    simp only [iR,if_neg c];rfl
  ·simp only [j1]
   rw [brn (by omega),decide_eq_false (by omega)]
 rw [key];rfl
theorem up9 {i k:Nat} {leaf:Tx} {path:List Tx} (hi:i<512) (hk:k≤9) (hl:leaf.length≤1000) (hp:path.length=k) (hh:Hs path):Eo i leaf path=some (vP i leaf path k,H (iR i leaf path k)):=by
 unfold Eo
 rw [aA (by simp only [List.length_singleton];omega),a2i (by omega),obs]
 have key:Loop (iV path) ([[0]++leaf],(i:Int),hL leaf,0)=some (vP i leaf path k,((i/2^k:Nat):Int),H (iR i leaf path k),(k:Int),false):=by
  have key:=au (step:=iV path) (fun j=>(vP i leaf path j,((i/2^j:Nat):Int),H (iR i leaf path j),(j:Int))) k (e:=(vP i leaf path k,((i/2^k:Nat):Int),H (iR i leaf path k),(k:Int),false)) (fun j hj=> ?_) ?_
  ·have e0:i/2^0=i:=by simp
   rw [e0] at key
   exact key
  ·have hx:=hh.getD (k:=j) (by omega)
   have hH:=yC (iR i leaf path j)
   have hq:IntKind.wrap .i64 (((i/2^j:Nat):Int).tdiv 2)=((i/2^(j+1):Nat):Int):=(a1d i j).resolve_right (by omega)
   have hm:(((i/2^j:Nat):Int).tmod 2==1)=decide (i/2^j%2=1):=by
    rw [cm _ _ (Int.natCast_nonneg _)]
    generalize i/2^j=q
    by_cases c:q%2=1
    ·rw [decide_eq_true c];simp;omega
    ·rw [decide_eq_false c];simp;omega
   simp only [iV]
   rw [brd (by omega),aA (by simp only [List.length_singleton];omega),a3t (by omega),obs,aA (by simp only [List.length_append,List.length_singleton];omega),hm,hq]
   by_cases c:i/2^j%2=1
   ·rw [brd c,obs,aA (by simp only [List.length_singleton];omega),aA (by simp only [List.length_append,List.length_singleton];omega),aA (by simp only [List.length_append,lx,List.length_singleton];omega),
     mQ (by simp only [List.length_append,List.length_singleton];omega),obs,ab _ (by omega) (by omega),vP,vP,lF _ (j+1)]
    simp only [iR,if_pos c,Iz,List.singleton_append,List.cons_append,List.nil_append,gp]
   ·rw [brn c,aA (by simp only [List.length_append,lx,List.length_singleton];omega),
     mQ (by simp only [List.length_append,List.length_singleton];omega),obs,ab _ (by omega) (by omega),vP,vP,lF _ (j+1)]
    simp only [iR,if_neg c,Iz,List.singleton_append,List.cons_append,List.nil_append,gp]
  ·simp only [iV]
   rw [brn (by omega),decide_eq_false (by omega)]
 rw [key];rfl
theorem b3x {root:Tx} {i k:Nat} {leaf:Tx} {path:List Tx} (hi:i<512) (hk:k≤9) (hl:leaf.length≤64) (hp:path.length=k) (hh:Hs path):Bt root ((2^k:Nat):Int) i leaf path=some (H (iR i leaf path k)==root):=by
 unfold Bt
 have hw:(iR i leaf path k).length≤100000000:=by
  cases k with
  |zero=>simp only [iR,Qh,List.length_cons];omega
  |succ j=>
   have hx':=hh.getD (k:=j) (by omega)
   have hH':=yC (iR i leaf path j)
   simp only [iR]
   split<;>simp only [Iz,List.length_cons,List.length_append]<;>omega
 rw [brn (by omega),b53 k hk,obs,cE (by omega),b3p (by omega) hh,obs,an,b2A hi hk (by omega) hp hh,obs,lx,ab _ (by omega) (by omega),show (((k+1:Nat):Int))-1=(k:Int) by omega,WK (Nat.le_refl k),obs,HR hw];rfl
theorem K6: ∀k:Nat,k≤9→aB .i64 1 (k:Int)=((2^k:Nat):Int):=by decide+kernel
theorem b1Q {root:Tx} {i k:Nat} {leaf:Tx} {path:List Tx} (hi:i<512) (hk:k≤9) (hl:leaf.length≤64) (hp:path.length=k) (hh:Hs path):mX root ((2^k:Nat):Int) i leaf path=some (H (iR i leaf path k)==root):=by
 unfold mX
 have hm:mn 20 ((path.length:Nat):Int)=(k:Int):=by rw [hp];simp only [mn];omega
 rw [brn (by omega),hm,cw _ (by omega) (by omega),brd (by omega),K6 k hk,cE rfl]
 have key:Loop (fu root i leaf path) 0=some (.inr (((path.length:Nat):Int),false)):=
  au (step:=fu root i leaf path) (fun j=>(j:Int)) path.length (fun j hj=>by
   have hx:=hh.getD (k:=j) (by omega)
   simp only [fu]
   rw [brd (by omega),a3t (by omega),obs,cE (by omega),ab _ (by omega) (by omega)];rfl) (by
   simp only [fu]
   rw [brn (by omega),decide_eq_false (by omega)])
 rw [key,obs,kt,up9 hi hk (by omega) hp hh];rfl
end Go.AI.Fn
set_option linter.unusedVariables false
set_option linter.unusedSimpArgs false
namespace Go.AI.Fn
end Go.AI.Fn
set_option linter.unusedVariables false
set_option linter.unusedSimpArgs false
namespace Go.AI.Fn
end Go.AI.Fn
set_option linter.unusedVariables false
set_option linter.unusedSimpArgs false
namespace Go.AI.Fn
variable {v ρ:Nat} {t P:List K} {s:Source} {k:Int}
end Go.AI.Fn
set_option linter.unusedVariables false
set_option linter.unusedSimpArgs false
namespace Go.AI.Fn
def QSh:Nat→List (List UInt8)→List K→List (List (List UInt8))→List K→Prop
 |_,[],[],[],[]=>True
 |m,_::rts,_::_::prs,p::pths,_::D=>1≤m∧p.length=m-1∧Hs p∧QSh (m-1) rts prs pths D
 |_,_,_,_,_=>False
def ww:Option K→Ext
 |none=>e0
 |some d=>d.1
theorem ir {α:Type} {pre l:List α} {x:α} {i:Int} (h:i=(pre.length:Int)):atL (pre++x::l) i=some x:=by subst h;rw [bH (by simp)];simp
theorem uR (pre l:List K):kv (pre++l)=kv pre++kv l:=b41 pre l
theorem PZ {l:K} {V:Int} {c:List (List Ext)} {c2:List (List UInt8)} {c3 c4 c5:Int} {c6:List Query}: ∀(rts:List (List UInt8)) (prs:List K) (pths:List (List (List UInt8))) (D:List K) (m:Nat) (preR:List (List UInt8)) (preP:List K) (preT:List (List (List UInt8))) (preD:List K) (k:Nat) (due:Option K),
 QSh m rts prs pths D→m≤9→preP.length=2*preR.length→preT.length=preR.length→preD.length=preR.length→V=((preR.length+rts.length:Nat):Int)→preR.length+rts.length≤100→k<2^9→(due=none↔preR.length=0)→(rts=[]→due≠none)→
 (Loop (fk (preR++rts) V (kv (preD++D)) c c2 c3 c4 c5 c6 (kv (preP++prs)) (preT++pths)) (((2^m:Nat):Int),(k:Int),(preR.length:Int),(ww due).A,(ww due).B)).bind (alt (fun e_2=>some e_2.1) (fun e_3=>br (e_3.2.2.2.2.1==l.1.A) (br (e_3.2.2.2.2.2==l.1.B) (some 0) (some 13)) (some 13)))=
  some (qcK l m rts prs pths D k due)
 |[],prs,pths,D,m,preR,preP,preT,preD,k,due,h,hm,h1,h2,h3,hV,hb,hk,hd,hn=>by
  match prs,pths,D,h with
  |[],[],[],_=>
   cases due with
   |none=>exact absurd rfl (hn rfl)
   |some d=>
    rw [bI (e:= .inr (((2^m:Nat):Int),(k:Int),(preR.length:Int),false,d.1.A,d.1.B)) (by
     simp only [fk,ww]
     rw [brn (by rw [hV,List.length_nil];omega),decide_eq_false (by rw [hV,List.length_nil];omega)])]
    rw [obs,kt]
    dsimp only
    rw [BK]
    show _=some (if some d=some l then (0:Int) else 13)
    by_cases e:d=l
    ·rw [if_pos e,if_pos (by rw [e])]
    ·rw [if_neg e,if_neg (fun h=>e (Option.some.inj h))]
 |rt::rts,prs,pths,D,m,preR,preP,preT,preD,k,due,h,hm,h1,h2,h3,hV,hb,hk,hd,hn=>by
  match prs,pths,D,h with
  |a::b::prs,p::pths,r::D,⟨hm1,hpl,hph,hq⟩=>
   obtain ⟨q,rfl⟩: ∃q,m=q+1:=⟨m-1,by omega⟩
   rw [List.length_cons] at hV hb
   have hp:=YH (q+1) hm
   have hs:2^(q+1)=2*2^q:=by rw [Nat.pow_succ];omega
   have hh:=a0y q hm
   have hat:k%2^q<2^q:=Nat.mod_lt _ (by omega)
   have hmod:(k:Int).tmod ((2^q:Nat):Int)=((k%2^q:Nat):Int):=by rw [cm _ _ (by omega)];omega
   have hk2:k%2^q<2^9:=Nat.lt_of_lt_of_le hat (by omega)
   have hcheck:mX rt ((2^q:Nat):Int) ((k%2^q:Nat):Int) (qf a b) p=some (H (iR (k%2^q) (qf a b) p q)==rt):=b1Q (by omega) (by omega) (by rw [qf,K1];simp) (by omega) hph
   have ih:=PZ (l:=l) (V:=V) (c:=c) (c2:=c2) (c3:=c3) (c4:=c4) (c5:=c5) (c6:=c6) rts prs pths D q (preR++[rt]) (preP++[a,b]) (preT++[p]) (preD++[r]) (k%2^q) (some (fpK (q+1) (k%2^q) a b r)) hq (by omega)
    (by simp only [List.length_append,List.length_cons,List.length_nil];omega) (by simp only [List.length_append,List.length_cons,List.length_nil];omega) (by simp only [List.length_append,List.length_cons,List.length_nil];omega) (by rw [hV];simp only [List.length_append,List.length_cons,List.length_nil];omega) (by simp only [List.length_append,List.length_cons,List.length_nil];omega) hk2 (by simp) (by simp)
   simp only [List.append_assoc,List.singleton_append,List.cons_append,List.nil_append,List.length_append,List.length_singleton] at ih
   have hR:atL (preR++rt::rts) (preR.length:Int)=some rt:=ir rfl
   have hT:atL (preT++p::pths) (preR.length:Int)=some p:=ir (by omega)
   have hD:atL (kv (preD++r::D)) (preR.length:Int)=some r.1:=by rw [uR];exact ir (by rw [aM];omega)
   have hA:atL (kv (preP++a::b::prs)) (2*(preR.length:Int))=some a.1:=by rw [uR];exact ir (by rw [aM];omega)
   have hB:atL (kv (preP++a::b::prs)) (2*(preR.length:Int)+1)=some b.1:=by
    rw [show preP++a::b::prs=(preP++[a])++b::prs by simp,uR];exact ir (by rw [aM,List.length_append,List.length_singleton];omega)
   have hstep:fk (preR++rt::rts) V (kv (preD++r::D)) c c2 c3 c4 c5 c6 (kv (preP++a::b::prs)) (preT++p::pths) (((2^(q+1):Nat):Int),(k:Int),(preR.length:Int),(ww due).A,(ww due).B)=
    if (H (iR (k%2^q) (qf a b) p q)==rt)=false then some (.inr (.inl (9,(ww due).A,(ww due).B,a.1.A,a.1.B,b.1.A,b.1.B)))
    else if a1C due (if 2^q≤k then b else a) then some (.inr (.inl (12,(ww due).A,(ww due).B,a.1.A,a.1.B,b.1.A,b.1.B)))
    else some (.inl (((2^q:Nat):Int),((k%2^q:Nat):Int),((preR.length+1:Nat):Int),(fpK (q+1) (k%2^q) a b r).1.A,(fpK (q+1) (k%2^q) a b r).1.B)):=by
    simp only [fk,hh]
    rw [brd (by omega),brd (by omega),ab (2*(preR.length:Int)) (by omega) (by omega),hA,obs,ab (2*(preR.length:Int)+1) (by omega) (by omega),hB,obs,hR,obs,L2 (by simp),obs,hT,obs,hmod,show ([a.1,b.1]:List Ext).flatMap e8=qf a b from rfl,hcheck,obs]
    cases hc:(H (iR (k%2^q) (qf a b) p q)==rt) with
    |false=>rw [if_pos rfl,Bool.not_false,bz]
    |true=>
     rw [if_neg (by simp),Bool.not_true,an]
     have hpair:=a0C (k:=q+1) (i:=k%2^q) a b r hm (by omega)
     cases due with
     |none=>
      rw [brn (by have:=hd.1 rfl;omega),hD,obs,hpair,obs,ab _ (by omega) (by omega),if_neg (by rintro ⟨d,h,_⟩;cases h)];rfl
     |some d=>
      rw [brd (by have:preR.length≠0:=fun e=>by cases hd.2 e
                  omega)]
      by_cases hlow:k<2^q
      ·have hown:(if 2^q≤k then b else a)=a:=if_neg (by omega)
       rw [hown,brd (by omega),decide_eq_true (show (k:Int)<((2^q:Nat):Int) by omega)]
       show br (a.1.A==d.1.A) (br (a.1.B==d.1.B) _ _) _=_
       rw [BK]
       by_cases e:a=d
       ·rw [if_pos e,if_neg (by rintro ⟨x,h,h'⟩;cases h;exact h' e),hD,obs,hpair,obs,ab _ (by omega) (by omega)];rfl
       ·rw [if_neg e,if_pos ⟨d,rfl,e⟩]
      ·have hown:(if 2^q≤k then b else a)=b:=if_pos (by omega)
       rw [hown,brn (by omega),decide_eq_false (show ¬(k:Int)<((2^q:Nat):Int) by omega)]
       show br (b.1.A==d.1.A) (br (b.1.B==d.1.B) _ _) _=_
       rw [BK]
       by_cases e:b=d
       ·rw [if_pos e,if_neg (by rintro ⟨x,h,h'⟩;cases h;exact h' e),hD,obs,hpair,obs,ab _ (by omega) (by omega)];rfl
       ·rw [if_neg e,if_pos ⟨d,rfl,e⟩]
   rw [qcK,Nat.add_sub_cancel]
   by_cases hc:(H (iR (k%2^q) (qf a b) p q)==rt)=false
   ·rw [if_pos hc] at hstep ⊢
    rw [bI hstep,obs,iC]
   ·rw [if_neg hc] at hstep ⊢
    by_cases ho:a1C due (if 2^q≤k then b else a)
    ·rw [if_pos ho] at hstep ⊢
     rw [bI hstep,obs,iC]
    ·rw [if_neg ho] at hstep ⊢
     rw [bG hstep];exact ih
theorem PM {l:K} {M:Nat} {V:Int} {c:List (List Ext)} {c2:List (List UInt8)} {c3 c4 c5:Int} {c6:List Query}: ∀(rts:List (List UInt8)) (prs:List K) (pths:List (List (List UInt8))) (D:List K) (m:Nat) (preR:List (List UInt8)) (preP:List K) (preT:List (List (List UInt8))) (preD:List K) (k:Nat) (due:Option K),
 QSh m rts prs pths D→M≤9→m+preR.length=M→preP.length=2*preR.length→preT.length=preR.length→preD.length=preR.length→V=((preR.length+rts.length:Nat):Int)→preR.length+rts.length≤100→k<2^9→(due=none↔preR.length=0)→(rts=[]→due≠none)→
 (Loop (cF (kv (preD++D)) ((2^M:Nat):Int) (preR++rts) V c c2 c3 c4 c5 c6 (kv (preP++prs)) (preT++pths)) ((k:Int),(preR.length:Int),(ww due).A,(ww due).B)).bind (alt (fun e_2=>some 9) (alt (fun e_3=>some 12) (fun e_4=>br (e_4.2.2.2.1==l.1.A) (br (e_4.2.2.2.2==l.1.B) (some 0) (some 13)) (some 13))))=
  some (qcK l m rts prs pths D k due)
 |[],prs,pths,D,m,preR,preP,preT,preD,k,due,h,hM,hm,h1,h2,h3,hV,hb,hk,hd,hn=>by
  match prs,pths,D,h with
  |[],[],[],_=>
   cases due with
   |none=>exact absurd rfl (hn rfl)
   |some d=>
    rw [bI (e:= .inr (.inr ((k:Int),(preR.length:Int),false,d.1.A,d.1.B))) (by
     simp only [cF,ww]
     rw [brn (by rw [hV,List.length_nil];omega),decide_eq_false (by rw [hV,List.length_nil];omega)])]
    rw [obs,kt,kt]
    dsimp only
    rw [BK]
    show _=some (if some d=some l then (0:Int) else 13)
    by_cases e:d=l
    ·rw [if_pos e,if_pos (by rw [e])]
    ·rw [if_neg e,if_neg (fun h=>e (Option.some.inj h))]
 |rt::rts,prs,pths,D,m,preR,preP,preT,preD,k,due,h,hM,hm,h1,h2,h3,hV,hb,hk,hd,hn=>by
  match prs,pths,D,h with
  |a::b::prs,p::pths,r::D,⟨hm1,hpl,hph,hq⟩=>
   obtain ⟨q,rfl⟩: ∃q,m=q+1:=⟨m-1,by omega⟩
   rw [List.length_cons] at hV hb
   have hp:=YH (q+1) (by omega)
   have hs:2^(q+1)=2*2^q:=by rw [Nat.pow_succ];omega
   have hsh:aJ .i64 ((2^M:Nat):Int) (preR.length:Int)=((2^(q+1):Nat):Int):=by rw [a94 M hM preR.length (by omega),show M-preR.length=q+1 by omega]
   have hh:=a0y q (by omega)
   have hat:k%2^q<2^q:=Nat.mod_lt _ (by omega)
   have hmod:(k:Int).tmod ((2^q:Nat):Int)=((k%2^q:Nat):Int):=by rw [cm _ _ (by omega)];omega
   have hk2:k%2^q<2^9:=Nat.lt_of_lt_of_le hat (by omega)
   have hcheck:Bt rt ((2^q:Nat):Int) ((k%2^q:Nat):Int) (qf a b) p=some (H (iR (k%2^q) (qf a b) p q)==rt):=b3x (by omega) (by omega) (by rw [qf,K1];simp) (by omega) hph
   have ih:=PM (l:=l) (M:=M) (V:=V) (c:=c) (c2:=c2) (c3:=c3) (c4:=c4) (c5:=c5) (c6:=c6) rts prs pths D q (preR++[rt]) (preP++[a,b]) (preT++[p]) (preD++[r]) (k%2^q) (some (fpK (q+1) (k%2^q) a b r)) hq hM
    (by simp only [List.length_append,List.length_cons,List.length_nil];omega) (by simp only [List.length_append,List.length_cons,List.length_nil];omega) (by simp only [List.length_append,List.length_cons,List.length_nil];omega) (by simp only [List.length_append,List.length_cons,List.length_nil];omega) (by rw [hV];simp only [List.length_append,List.length_cons,List.length_nil];omega) (by simp only [List.length_append,List.length_cons,List.length_nil];omega) hk2 (by simp) (by simp)
   simp only [List.append_assoc,List.singleton_append,List.cons_append,List.nil_append,List.length_append,List.length_singleton] at ih
   have hR:atL (preR++rt::rts) (preR.length:Int)=some rt:=ir rfl
   have hT:atL (preT++p::pths) (preR.length:Int)=some p:=ir (by omega)
   have hD:atL (kv (preD++r::D)) (preR.length:Int)=some r.1:=by rw [uR];exact ir (by rw [aM];omega)
   have hA:atL (kv (preP++a::b::prs)) (2*(preR.length:Int))=some a.1:=by rw [uR];exact ir (by rw [aM];omega)
   have hB:atL (kv (preP++a::b::prs)) (2*(preR.length:Int)+1)=some b.1:=by
    rw [show preP++a::b::prs=(preP++[a])++b::prs by simp,uR];exact ir (by rw [aM,List.length_append,List.length_singleton];omega)
   have hstep:(H (iR (k%2^q) (qf a b) p q)==rt)=false∧(∃e,cF (kv (preD++r::D)) ((2^M:Nat):Int) (preR++rt::rts) V c c2 c3 c4 c5 c6 (kv (preP++a::b::prs)) (preT++p::pths) ((k:Int),(preR.length:Int),(ww due).A,(ww due).B)=some (.inr (.inl e)))∨
    (H (iR (k%2^q) (qf a b) p q)==rt)=true∧a1C due (if 2^q≤k then b else a)∧(∃e,cF (kv (preD++r::D)) ((2^M:Nat):Int) (preR++rt::rts) V c c2 c3 c4 c5 c6 (kv (preP++a::b::prs)) (preT++p::pths) ((k:Int),(preR.length:Int),(ww due).A,(ww due).B)=some (.inr (.inr (.inl e))))∨
    (H (iR (k%2^q) (qf a b) p q)==rt)=true∧ ¬a1C due (if 2^q≤k then b else a)∧cF (kv (preD++r::D)) ((2^M:Nat):Int) (preR++rt::rts) V c c2 c3 c4 c5 c6 (kv (preP++a::b::prs)) (preT++p::pths) ((k:Int),(preR.length:Int),(ww due).A,(ww due).B)=
     some (.inl (((k%2^q:Nat):Int),((preR.length+1:Nat):Int),(fpK (q+1) (k%2^q) a b r).1.A,(fpK (q+1) (k%2^q) a b r).1.B)):=by
    have hpair:=NK (k:=q+1) (i:=k%2^q) a b r (by omega) (by omega)
    simp only [cF,hsh,hh]
    rw [brd (by omega),hR,obs,brd (by omega),brd (by omega),ab (2*(preR.length:Int)) (by omega) (by omega),hA,obs,ab (2*(preR.length:Int)+1) (by omega) (by omega),hB,obs,CB (by simp),obs,hT,obs,hmod,show ([a.1,b.1]:List Ext).flatMap e8=qf a b from rfl,hcheck,obs]
    cases hc:(H (iR (k%2^q) (qf a b) p q)==rt) with
    |false=>exact .inl ⟨rfl,_,rfl⟩
    |true=>
     refine .inr ?_
     rw [Bool.not_true,an]
     by_cases hlow:k<2^q
     ·have hown:(if 2^q≤k then b else a)=a:=if_neg (by omega)
      rw [hown,brn (by omega)]
      cases due with
      |none=>
       refine .inr ⟨rfl,(by rintro ⟨d,h,_⟩;cases h), ?_⟩
       rw [brn (by have:=hd.1 rfl;omega),hD,obs,hpair,obs,ab _ (by omega) (by omega)];rfl
      |some d=>
       rw [brd (by have:preR.length≠0:=fun e=>by cases hd.2 e
                   omega)]
       rw [show (ww (some d))=d.1 from rfl,BK]
       by_cases e:a=d
       ·rw [if_pos e]
        refine .inr ⟨rfl,by rintro ⟨x,h,h'⟩;cases h;exact h' e, ?_⟩
        rw [hD,obs,hpair,obs,ab _ (by omega) (by omega)];rfl
       ·rw [if_neg e]
        exact .inl ⟨rfl,⟨d,rfl,e⟩,_,rfl⟩
     ·have hown:(if 2^q≤k then b else a)=b:=if_pos (by omega)
      rw [hown,brd (by omega)]
      cases due with
      |none=>
       refine .inr ⟨rfl,(by rintro ⟨d,h,_⟩;cases h), ?_⟩
       rw [brn (by have:=hd.1 rfl;omega),hD,obs,hpair,obs,ab _ (by omega) (by omega)];rfl
      |some d=>
       rw [brd (by have:preR.length≠0:=fun e=>by cases hd.2 e
                   omega)]
       rw [show (ww (some d))=d.1 from rfl,BK]
       by_cases e:b=d
       ·rw [if_pos e]
        refine .inr ⟨rfl,by rintro ⟨x,h,h'⟩;cases h;exact h' e, ?_⟩
        rw [hD,obs,hpair,obs,ab _ (by omega) (by omega)];rfl
       ·rw [if_neg e]
        exact .inl ⟨rfl,⟨d,rfl,e⟩,_,rfl⟩
   rw [qcK,Nat.add_sub_cancel]
   rcases hstep with ⟨hc,e,he⟩|⟨hc,ho,e,he⟩|⟨hc,ho,he⟩
   ·rw [if_pos hc,bI he,obs,iC]
   ·rw [if_neg (by rw [hc];simp),if_pos ho,bI he,obs,kt,iC]
   ·rw [if_neg (by rw [hc];simp),if_neg ho,bG he];exact ih
end Go.AI.Fn
set_option linter.unusedVariables false
set_option linter.unusedSimpArgs false
namespace Go.AI.Fn
theorem a7t {α:Type} {f:α→List UInt8} {c:Nat}: ∀{l:List α},(∀x∈l,(f x).length≤c)→(l.flatMap f).length≤l.length*c
 |[],_=>by simp
 |x::l,h=>by
  have h1:=h x (by simp)
  have h2:=a7t (l:=l) fun y hy=>h y (by simp [hy])
  rw [List.flatMap_cons,List.length_append,List.length_cons,Nat.succ_mul];omega
def flB (P:List (List (List UInt8))):List UInt8:=P.flatMap fun x=>x.flatMap id
structure BoO (o:Opening):Prop where
 rn:o.Rounds.length≤6
 rr: ∀g∈o.Rounds,g.length≤3
 ro:o.Roots.length≤6
 rh: ∀x∈o.Roots,x.length≤32
 qn:o.Queries.length≤8
 qp: ∀q∈o.Queries,q.Pairs.length≤12
 qt: ∀q∈o.Queries,q.Paths.length≤6
 qq: ∀q∈o.Queries, ∀p∈q.Paths,p.length≤8∧ ∀x∈p,x.length≤32
theorem a9l {l:List (List UInt8)}:l.all h32=true↔ ∀x∈l,x.length=32:=by simp [List.all_eq_true,h32]
theorem Bu {v:Nat} {t:Setting} {q:Query} (h:EL (v:Int) t q=true):q.Pairs.length=2*v∧dH q.Pairs∧q.Paths.length=v∧ ∀j,j<v→(((q.Paths.getD j []).length:Nat):Int)=v+t.Rate-1-j∧ ∀x∈q.Paths.getD j [],x.length=32:=by
 unfold EL at h
 simp only [Bool.and_eq_true,decide_eq_true_eq] at h
 refine ⟨by omega,a8s.1 h.2.1,by omega,fun j hj=> ?_⟩
 have:=p7.1 h.2.2.2 j (by omega)
 unfold UX at this
 simp only [Bool.and_eq_true,decide_eq_true_eq] at this
 exact ⟨this.1,a9l.1 this.2⟩
structure OkO (o:Opening) (v:Nat) (t:Setting):Prop where
 v1:1≤v∧v≤6
 st:setB t=true
 rn:o.Rounds.length=v
 rr: ∀g∈o.Rounds,g.length=3∧dH g
 ro:o.Roots.length=v-1
 rh: ∀x∈o.Roots,x.length=32
 la:okE o.Last
 no:0≤o.Nonce∧o.Nonce≤65535
 qn:(o.Queries.length:Int)=t.Queries
 qq: ∀q∈o.Queries,EL (v:Int) t q=true
theorem a0S {o:Opening} {v:Nat} {t:Setting} (h:okO o (v:Int) t=true):OkO o v t:=by
 unfold okO yV at h
 simp only [Bool.and_eq_true,decide_eq_true_eq,List.all_eq_true] at h
 obtain ⟨h1,h2,⟨h3,h4⟩,h5,h6,h7,h8,h9,h10⟩:=h
 refine ⟨by omega,h2,by omega,fun g hg=> ?_,by omega,fun x hx=> ?_,F2.1 h7,h8,h9,h10⟩
 ·have:=h4 g hg
  unfold pj at this
  simp only [Bool.and_eq_true,decide_eq_true_eq] at this
  exact ⟨by omega,a8s.1 this.2⟩
 ·have:=h6 x hx
  simpa [h32] using this
theorem OkO.path {o:Opening} {v:Nat} {t:Setting} (h:OkO o v t) {q:Query} (hq:q∈o.Queries) {p:List (List UInt8)} (hp:p∈q.Paths):p.length≤8∧ ∀x∈p,x.length=32:=by
 obtain ⟨_,_,h3,h4⟩:=Bu (h.qq q hq)
 obtain ⟨j,hj,rfl⟩:=List.getElem_of_mem hp
 have:=h4 j (by omega)
 have hs:=nK h.st
 have hv:=h.v1
 rw [show q.Paths.getD j []=q.Paths[j] by simp [hj]] at this
 exact ⟨by omega,this.2⟩
theorem BoO.sm {o:Opening} (h:BoO o):SmO o:=⟨by have:=h.rn;omega,fun g hg=>by have:=h.rr g hg;omega,by have:=h.ro;omega,by have:=h.qn;omega,fun q hq=>by have:=h.qp q hq;omega,fun q hq p hp=>by have:=(h.qq q hq p hp).1;omega⟩
theorem BoO.pth {o:Opening} (h:BoO o) {q:Query} (hq:q∈o.Queries) {p:List (List UInt8)} (hp:p∈q.Paths):(p.flatMap id).length≤256:=by
 have h1:=h.qq q hq p hp
 have:=a7t (f:=id) (c:=32) h1.2
 have:=h1.1;omega
theorem BoO.pths {o:Opening} (h:BoO o) {q:Query} (hq:q∈o.Queries):(flB q.Paths).length≤1536:=by
 have:=a7t (f:=fun x:List (List UInt8)=>x.flatMap id) (c:=256) fun p hp=>h.pth hq hp
 have h2:=h.qt q hq
 unfold flB;omega
variable {o:Opening} {v:Nat} {t:Setting}
end Go.AI.Fn
set_option linter.unusedVariables false
set_option linter.unusedSimpArgs false
namespace Go.AI.Fn
theorem PK: ∀(A B preA preB:List K) (acc:K),A.length=B.length→preA.length=preB.length→preA.length+A.length≤100→
 Loop (g9 (kv (preA++A)) (kv (preB++B)) 0 0) ((preA.length:Int),acc.1.A,acc.1.B)=some (((preA++A).length:Int),false,(eaK A B acc).1.A,(eaK A B acc).1.B)
 |[],B,preA,preB,acc,h1,h2,h3=>by
  refine bI ?_
  simp only [g9,aM]
  rw [brn (by simp),decide_eq_false (by simp)];simp [eaK]
 |x::A,[],preA,preB,acc,h1,h2,h3=>by simp at h1
 |x::A,b::B,preA,preB,acc,h1,h2,h3=>by
  rw [List.length_cons,List.length_cons] at h1
  rw [List.length_cons] at h3
  have ih:=PK A B (preA++[x]) (preB++[b]) (acc*(x*b+(1-x)*(1-b))) (by omega) (by rw [List.length_append,List.length_append,List.length_singleton,List.length_singleton];omega) (by rw [List.length_append,List.length_singleton];omega)
  rw [List.append_assoc,List.append_assoc,List.singleton_append,List.singleton_append,show (preA++[x]).length=preA.length+1 by simp] at ih
  have hx:atL (kv (preA++x::A)) (preA.length:Int)=some x.1:=by rw [uR];exact ir (by rw [aM])
  have hb:atL (kv (preB++b::B)) (preA.length:Int)=some b.1:=by rw [uR];exact ir (by rw [aM];omega)
  rw [bG (s':=(((preA.length+1:Nat):Int),(acc*(x*b+(1-x)*(1-b))).1.A,(acc*(x*b+(1-x)*(1-b))).1.B)) ?_]
  ·rw [ih];rfl
  ·simp only [g9,aM]
   rw [brd (by rw [List.length_append,List.length_cons];omega),hx,obs,hb,obs,cT x.2 b.2,obs,obs,BA x.2,obs,obs,BA b.2,obs,cT (t1 _ _) (t1 _ _),obs,gH (l9 _ _) (l9 _ _),obs,show Ext.mk acc.1.A acc.1.B=acc.1 from rfl,cT acc.2 (PR _ _),obs,ab _ (by omega) (by omega)];rfl
theorem a0k {A B:List K} (h:A.length=B.length) (hl:A.length≤100):mS (kv A) (kv B)=some (eaK A B 1).1:=by
 have:=PK A B [] [] 1 h rfl (by rw [List.length_nil];omega)
 unfold mS
 rw [MF,obs]
 rw [List.nil_append,List.nil_append,List.length_nil] at this
 have key:Loop (g9 (kv A) (kv B) 0 0) (0,e1.A,e1.B)=_:=this
 rw [key];rfl
theorem PY: ∀(A B preA preB:List K) (acc:K),A.length=B.length→preA.length=preB.length→preA.length+A.length≤100→
 Loop (kZ (kv (preB++B)) (kv (preA++A)) ((preA++A).length:Int) 0 0) ((preA.length:Int),acc.1.A,acc.1.B)=some (((preA++A).length:Int),false,(eaK A B acc).1.A,(eaK A B acc).1.B)
 |[],B,preA,preB,acc,h1,h2,h3=>by
  refine bI ?_
  simp only [kZ]
  rw [brn (by simp),decide_eq_false (by simp)];simp [eaK]
 |x::A,[],preA,preB,acc,h1,h2,h3=>by simp at h1
 |x::A,b::B,preA,preB,acc,h1,h2,h3=>by
  rw [List.length_cons,List.length_cons] at h1
  rw [List.length_cons] at h3
  have ih:=PY A B (preA++[x]) (preB++[b]) (acc*(x*b+(1-x)*(1-b))) (by omega) (by rw [List.length_append,List.length_append,List.length_singleton,List.length_singleton];omega) (by rw [List.length_append,List.length_singleton];omega)
  rw [List.append_assoc,List.append_assoc,List.singleton_append,List.singleton_append,show (preA++[x]).length=preA.length+1 by simp] at ih
  have hx:atL (kv (preA++x::A)) (preA.length:Int)=some x.1:=by rw [uR];exact ir (by rw [aM])
  have hb:atL (kv (preB++b::B)) (preA.length:Int)=some b.1:=by rw [uR];exact ir (by rw [aM];omega)
  rw [bG (s':=(((preA.length+1:Nat):Int),(acc*(x*b+(1-x)*(1-b))).1.A,(acc*(x*b+(1-x)*(1-b))).1.B)) ?_]
  ·rw [ih];rfl
  ·simp only [kZ]
   rw [brd (by rw [List.length_append,List.length_cons];omega),hx,obs,hb,obs,db x.2 b.2,obs,F0,obs,kS UQ x.2,obs,obs,obs,kS UQ b.2,obs,db (t1 _ _) (t1 _ _),obs,gI (l9 _ _) (l9 _ _),obs,show Ext.mk acc.1.A acc.1.B=acc.1 from rfl,db acc.2 (PR _ _),obs,ab _ (by omega) (by omega)];rfl
theorem a0r {A B:List K} (h:A.length=B.length) (hl:A.length≤100):E5 (kv A) (kv B)=some (eaK A B 1).1:=by
 have:=PY A B [] [] 1 h rfl (by rw [List.length_nil];omega)
 unfold E5
 rw [F0,obs,aM]
 rw [List.nil_append,List.nil_append,List.length_nil] at this
 have key:Loop (kZ (kv B) (kv A) (A.length:Int) 0 0) (0,e1.A,e1.B)=_:=this
 rw [key];rfl
theorem b37 {L:List Ext} (h:dH L):kv (L.map toK)=L:=by
 rw [kv,List.map_map]
 refine (List.map_congr_left fun x hx=> ?_).trans (List.map_id _)
 exact gU (h x hx)
theorem a3r: ∀(n m:Nat) (rts:List (List UInt8)) (prs:List K) (pths:List (List (List UInt8))) (D:List K),n≤m→rts.length=n→prs.length=2*n→pths.length=n→D.length=n→(∀j,j<n→(pths.getD j []).length=m-1-j∧ ∀x∈pths.getD j [],x.length=32)→QSh m rts prs pths D
 |0,m,[],[],[],[],_,_,_,_,_,_=>trivial
 |0,m,_::_,_,_,_,_,h,_,_,_,_=>by simp at h
 |0,m,_,_::_,_,_,_,_,h,_,_,_=>by simp at h
 |0,m,_,_,_::_,_,_,_,_,h,_,_=>by simp at h
 |0,m,_,_,_,_::_,_,_,_,_,h,_=>by simp at h
 |n+1,m,rts,prs,pths,D,hm,h1,h2,h3,h4,h5=>by
  match rts,prs,pths,D,h1,h2,h3,h4 with
  |rt::rts,a::b::prs,p::pths,r::D,h1,h2,h3,h4=>
   simp only [List.length_cons] at h1 h2 h3 h4
   have h0:=h5 0 (by omega)
   exact ⟨by omega,by have:=h0.1;simpa using this,fun x hx=>h0.2 x hx,a3r n (m-1) rts prs pths D (by omega) (by omega) (by omega) (by omega) (by omega) fun j hj=>by
    have:=h5 (j+1) (by omega)
    exact ⟨this.1.trans (by omega),this.2⟩⟩
  |[],_,_,_,h1,_,_,_=>simp at h1
  |_::_,[],_,_,_,h2,_,_=>simp at h2
  |_::_,[_],_,_,_,h2,_,_=>simp at h2;omega
  |_::_,_::_::_,[],_,_,_,h3,_=>simp at h3
  |_::_,_::_::_,_::_,[],_,_,_,h4=>simp at h4
variable {o:Opening} {v ρ:Nat} {t:Setting} {root:List UInt8} {D:List K} {q:Query}
theorem b1J (h:OkO o v t) (e1:t.Rate=(ρ:Int)) (hD:D.length=v) (hq:q∈o.Queries):QSh (v+ρ) (root::o.Roots) (q.Pairs.map toK) q.Paths D:=by
 obtain ⟨h1,h2,h3,h4⟩:=Bu (h.qq q hq)
 have hv:=h.v1
 have hs:=nK h.st
 have hr:=h.ro
 exact a3r v (v+ρ) _ _ _ _ (by omega) (by rw [List.length_cons];omega) (by rw [List.length_map,h1]) h3 hD fun j hj=>by
  have:=h4 j hj
  exact ⟨by omega,this.2⟩
theorem YZ (h:OkO o v t) (e1:t.Rate=(ρ:Int)) (hD:D.length=v) (hq:q∈o.Queries) {p:Int} (h0:0≤p) (hp:p<512):
 xG (root::o.Roots) (v:Int) ((2^(v+ρ):Nat):Int) p (kv D) o q=some (qcK (toK o.Last) (v+ρ) (root::o.Roots) (q.Pairs.map toK) q.Paths D p.toNat none):=by
 have hs:=nK h.st
 have hv:=h.v1
 have hr:=h.ro
 have key:=PZ (l:=toK o.Last) (V:=(v:Int)) (c:=o.Rounds) (c2:=o.Roots) (c3:=o.Last.A) (c4:=o.Last.B) (c5:=o.Nonce) (c6:=o.Queries) (root::o.Roots) (q.Pairs.map toK) q.Paths D (v+ρ) [] [] [] [] p.toNat none (b1J h e1 hD hq) (by omega) rfl rfl rfl (by rw [List.length_nil,List.length_cons];omega) (by rw [List.length_nil,List.length_cons];omega) (by omega) (by simp) (by simp)
 simp only [List.nil_append,List.length_nil,b37 (Bu (h.qq q hq)).2.1,Int.toNat_of_nonneg h0,gU h.la] at key
 exact key
theorem Xs (h:OkO o v t) (e1:t.Rate=(ρ:Int)) (hD:D.length=v) (hq:q∈o.Queries) {p:Int} (h0:0≤p) (hp:p<512):
 qZ (root::o.Roots) (kv D) ((2^(v+ρ):Nat):Int) p o q=some (qcK (toK o.Last) (v+ρ) (root::o.Roots) (q.Pairs.map toK) q.Paths D p.toNat none):=by
 have hs:=nK h.st
 have hv:=h.v1
 have hr:=h.ro
 have key:=PM (l:=toK o.Last) (M:=v+ρ) (V:=(((root::o.Roots).length:Nat):Int)) (c:=o.Rounds) (c2:=o.Roots) (c3:=o.Last.A) (c4:=o.Last.B) (c5:=o.Nonce) (c6:=o.Queries) (root::o.Roots) (q.Pairs.map toK) q.Paths D (v+ρ) [] [] [] [] p.toNat none (b1J h e1 hD hq) (by omega) rfl rfl rfl rfl (by rw [List.length_nil];omega) (by rw [List.length_nil,List.length_cons];omega) (by omega) (by simp) (by simp)
 simp only [List.nil_append,List.length_nil,b37 (Bu (h.qq q hq)).2.1,Int.toNat_of_nonneg h0,gU h.la] at key
 exact key
end Go.AI.Fn
set_option linter.unusedVariables false
set_option linter.unusedSimpArgs false
namespace Go.AI.Fn
theorem LO {v:Nat} {V:Int} {rts l:List (List UInt8)} {t2:List Ext} {c c2 c3 c4 c5 c8 c9 c10 c16 c18:Int} {c11:List Query} {c17:List UInt8} (hV:V=(v:Int)) (hrl:rts.length+1=v) (hrh: ∀x∈rts,x.length=32): ∀(R pre:List (List K)) (cl:K) (s:Source) (k:Int) (P:List Ext),(∀g∈R,g.length=3)→Few s k→k+3*R.length≤999890→P.length+R.length≤1000→pre.length+R.length=v→v≤100→
 ((vfM 1 (bvO v rts) R pre.length cl s).1=0→Loop (cx l V t2 c c2 c3 c4 c5 (kvv (pre++R)) rts c8 c9 c10 c11 c16 c17 c18) (P,(pre.length:Int),s.Script,s.At,s.State,s.Count,cl.1.A,cl.1.B)=
   some (.inr (P++kv (vfM 1 (bvO v rts) R pre.length cl s).2.1,V,false,(vfM 1 (bvO v rts) R pre.length cl s).2.2.2.Script,(vfM 1 (bvO v rts) R pre.length cl s).2.2.2.At,(vfM 1 (bvO v rts) R pre.length cl s).2.2.2.State,(vfM 1 (bvO v rts) R pre.length cl s).2.2.2.Count,
    (vfM 1 (bvO v rts) R pre.length cl s).2.2.1.1.A,(vfM 1 (bvO v rts) R pre.length cl s).2.2.1.1.B)))∧
 ((vfM 1 (bvO v rts) R pre.length cl s).1≠0→(vfM 1 (bvO v rts) R pre.length cl s).1=10∧ ∃e,Loop (cx l V t2 c c2 c3 c4 c5 (kvv (pre++R)) rts c8 c9 c10 c11 c16 c17 c18) (P,(pre.length:Int),s.Script,s.At,s.State,s.Count,cl.1.A,cl.1.B)=some (.inl e))
 |[],pre,cl,s,k,P,hg,hf,hk,hP,hp,hv=>by
  rw [List.length_nil] at hp
  refine ⟨fun _=>bI ?_,fun h=>absurd rfl h⟩
  simp only [cx,List.append_nil]
  rw [brn (by omega),decide_eq_false (by omega)]
  simp [vfM,kv];omega
 |g::R,pre,cl,s,k,P,hg,hf,hk,hP,hp,hv=>by
  rw [List.length_cons] at hk hP hp
  have hgl:=hg g (by simp)
  have hat:atL (kvv (pre++g::R)) (pre.length:Int)=some (kv g):=by rw [SI (by simp)];simp
  have hk0:0≤k:=by have:=hf.2;have:=hf.1.4;omega
  rw [vfM,if_pos (show g.length=1+2 from hgl)]
  by_cases h2:g.getD 0 0+g.getD 1 0=cl
  ·rw [if_pos h2]
   have hfb:Few (bvO v rts pre.length (nsM s g)) (k+2+1):=TZ v rts _ _ _ (Dl hf (by omega) g) (by omega)
   have ih:=LO (l:=l) (t2:=t2) (c:=c) (c2:=c2) (c3:=c3) (c4:=c4) (c5:=c5) (c8:=c8) (c9:=c9) (c10:=c10) (c11:=c11) (c16:=c16) (c17:=c17) (c18:=c18) hV hrl hrh R (pre++[g]) (lnK g (rdM s g)) (bvO v rts pre.length (nsM s g)) (k+2+1) (P++[(rdM s g).1]) (fun x hx=>hg x (by simp [hx])) hfb (by omega) (by rw [List.length_append,List.length_singleton];omega) (by rw [List.length_append,List.length_singleton];omega) hv
   rw [List.append_assoc,List.singleton_append,List.length_append,List.length_singleton] at ih
   have step:cx l V t2 c c2 c3 c4 c5 (kvv (pre++g::R)) rts c8 c9 c10 c11 c16 c17 c18 (P,(pre.length:Int),s.Script,s.At,s.State,s.Count,cl.1.A,cl.1.B)=
    some (.inl (P++[(rdM s g).1],((pre.length+1:Nat):Int),(bvO v rts pre.length (nsM s g)).Script,(bvO v rts pre.length (nsM s g)).At,(bvO v rts pre.length (nsM s g)).State,(bvO v rts pre.length (nsM s g)).Count,(lnK g (rdM s g)).1.A,(lnK g (rdM s g)).1.B)):=by
    simp only [cx]
    rw [brd (by omega),hat,obs,atK (i:=0) (j:=0) rfl (by omega),obs,atK (i:=1) (j:=1) rfl (by omega),obs,gH (Subtype.property _) (Subtype.property _),obs]
    rw [show eA (g.getD 0 0).1 (g.getD 1 0).1=cl.1 from congrArg Subtype.val h2,bre rfl,bre rfl,show Source.mk s.Script s.At s.State s.Count=s from rfl,Kz hf.1 (by omega),obs,b1v hf,obs]
    dsimp only
    rw [Qm _ (by omega),obs,aA (by rw [List.length_append,List.length_singleton];omega),ab _ (by omega) (by omega)]
    by_cases hb:pre.length+1<v
    ·have hx:rts.getD pre.length []∈rts:=by simp [show pre.length<rts.length by omega]
     rw [brd (by omega),ku (d:=[]) (by omega),obs,oH (Dl hf (by omega) g).1.3 (by rw [hrh _ hx];omega),obs,bvO,if_pos hb];rfl
    ·rw [brn (by omega),bvO,if_neg hb];rfl
   refine ⟨fun h=> ?_,fun h=> ?_⟩
   ·rw [bG step,ih.1 h]
    simp [kv]
   ·obtain ⟨h10,e,he⟩:=ih.2 h
    exact ⟨h10,e,by rw [bG step,he]⟩
  ·rw [if_neg h2]
   refine ⟨fun h=>absurd (show (10:Int)=0 from h) (by decide),fun _=>⟨rfl,(P,s.Script,s.At,s.State,s.Count,s.Script,s.At,s.State,s.Count,cl.1.A,cl.1.B),bI ?_⟩⟩
   simp only [cx]
   rw [brd (by omega),hat,obs,atK (i:=0) (j:=0) rfl (by omega),obs,atK (i:=1) (j:=1) rfl (by omega),obs,gH (Subtype.property _) (Subtype.property _),obs]
   rw [show eA (g.getD 0 0).1 (g.getD 1 0).1=(g.getD 0 0+g.getD 1 0).1 from rfl,BK,if_neg h2]
theorem Ky {v:Nat} {V:Int} {rts:List (List UInt8)} {c6:List (List Ext)} {c8 c9 c10 c14 c15:Int} {c11:List Query} (hV:V=(v:Int)) (hrl:rts.length+1=v) (hrh: ∀x∈rts,x.length=32): ∀(R pre:List (List K)) (cl:K) (s:Source) (k:Int) (P:List Ext),(∀g∈R,g.length=3)→Few s k→k+3*R.length≤999890→P.length+R.length≤1000→pre.length+R.length=v→v≤100→
 ((vfM 1 (bvO v rts) R pre.length cl s).1=0→Loop (am 1 (kvv (pre++R)) V c14 c15) (P,(pre.length:Int),s.Script,s.At,s.State,s.Count,V,c6,rts,c8,c9,c10,c11,cl.1.A,cl.1.B)=
   some (.inr (P++kv (vfM 1 (bvO v rts) R pre.length cl s).2.1,V,false,(vfM 1 (bvO v rts) R pre.length cl s).2.2.2.Script,(vfM 1 (bvO v rts) R pre.length cl s).2.2.2.At,(vfM 1 (bvO v rts) R pre.length cl s).2.2.2.State,(vfM 1 (bvO v rts) R pre.length cl s).2.2.2.Count,V,c6,rts,c8,c9,c10,c11,
    (vfM 1 (bvO v rts) R pre.length cl s).2.2.1.1.A,(vfM 1 (bvO v rts) R pre.length cl s).2.2.1.1.B)))∧
 ((vfM 1 (bvO v rts) R pre.length cl s).1≠0→(vfM 1 (bvO v rts) R pre.length cl s).1=10∧ ∃e:List Ext×Int×List Ext×Int×List UInt8×Int×Int×List (List Ext)×List (List UInt8)×Int×Int×Int×List Query×Int×Int,e.2.1=10∧Loop (am 1 (kvv (pre++R)) V c14 c15) (P,(pre.length:Int),s.Script,s.At,s.State,s.Count,V,c6,rts,c8,c9,c10,c11,cl.1.A,cl.1.B)=some (.inl e))
 |[],pre,cl,s,k,P,hg,hf,hk,hP,hp,hv=>by
  rw [List.length_nil] at hp
  refine ⟨fun _=>bI ?_,fun h=>absurd rfl h⟩
  simp only [am,List.append_nil]
  rw [brn (by omega),decide_eq_false (by omega)]
  simp [vfM,kv];omega
 |g::R,pre,cl,s,k,P,hg,hf,hk,hP,hp,hv=>by
  rw [List.length_cons] at hk hP hp
  have hgl:=hg g (by simp)
  have hdg:kN 1=some ((2:Nat):Int):=tU (kind:=1) (.inl rfl)
  have hat:atL (kvv (pre++g::R)) (pre.length:Int)=some (kv g):=by rw [SI (by simp)];simp
  have hk0:0≤k:=by have:=hf.2;have:=hf.1.4;omega
  rw [vfM,if_pos (show g.length=1+2 from hgl)]
  by_cases h2:g.getD 0 0+g.getD 1 0=cl
  ·rw [if_pos h2]
   have hfb:Few (bvO v rts pre.length (nsM s g)) (k+2+1):=TZ v rts _ _ _ (Dl hf (by omega) g) (by omega)
   have ih:=Ky (c6:=c6) (c8:=c8) (c9:=c9) (c10:=c10) (c11:=c11) (c14:=c14) (c15:=c15) hV hrl hrh R (pre++[g]) (lnK g (rdM s g)) (bvO v rts pre.length (nsM s g)) (k+2+1) (P++[(rdM s g).1]) (fun x hx=>hg x (by simp [hx])) hfb (by omega) (by rw [List.length_append,List.length_singleton];omega) (by rw [List.length_append,List.length_singleton];omega) hv
   rw [List.append_assoc,List.singleton_append,List.length_append,List.length_singleton] at ih
   have step:am 1 (kvv (pre++g::R)) V c14 c15 (P,(pre.length:Int),s.Script,s.At,s.State,s.Count,V,c6,rts,c8,c9,c10,c11,cl.1.A,cl.1.B)=
    some (.inl (P++[(rdM s g).1],((pre.length+1:Nat):Int),(bvO v rts pre.length (nsM s g)).Script,(bvO v rts pre.length (nsM s g)).At,(bvO v rts pre.length (nsM s g)).State,(bvO v rts pre.length (nsM s g)).Count,V,c6,rts,c8,c9,c10,c11,(lnK g (rdM s g)).1.A,(lnK g (rdM s g)).1.B)):=by
    simp only [am,gn]
    rw [brd (by omega),hat,obs,hdg,obs,ab _ (by omega) (by omega),cE (by rw [aM];omega),atK (i:=0) (j:=0) rfl (by omega),obs,atK (i:=1) (j:=1) rfl (by omega),obs,gI (Subtype.property _) (Subtype.property _),obs]
    rw [show eA (g.getD 0 0).1 (g.getD 1 0).1=cl.1 from congrArg Subtype.val h2,bre rfl,bre rfl,show Source.mk s.Script s.At s.State s.Count=s from rfl,Ln hf.1 (by omega),obs,b1E hf,obs]
    dsimp only
    rw [IF _ (by omega),obs,aA (by rw [List.length_append,List.length_singleton];omega),ab (V-1) (by omega) (by omega),ab ((pre.length:Int)+1) (by omega) (by omega)]
    by_cases hb:pre.length+1<v
    ·have hx:rts.getD pre.length []∈rts:=by simp [show pre.length<rts.length by omega]
     rw [brd (by omega),ku (d:=[]) (by omega),obs,aA (by rw [hrh _ hx];omega),oS (Dl hf (by omega) g).1.3 (by rw [hrh _ hx];omega),obs,obs,bvO,if_pos hb];rfl
    ·rw [brn (by omega),obs,bvO,if_neg hb];rfl
   refine ⟨fun h=> ?_,fun h=> ?_⟩
   ·rw [bG step,ih.1 h]
    simp [kv]
   ·obtain ⟨h10,e,h1,he⟩:=ih.2 h
    exact ⟨h10,e,h1,by rw [bG step,he]⟩
  ·rw [if_neg h2]
   refine ⟨fun h=>absurd (show (10:Int)=0 from h) (by decide),fun _=>⟨rfl,(P,10,s.Script,s.At,s.State,s.Count,V,c6,rts,c8,c9,c10,c11,cl.1.A,cl.1.B),rfl,bI ?_⟩⟩
   simp only [am,gn]
   rw [brd (by omega),hat,obs,hdg,obs,ab _ (by omega) (by omega),cE (by rw [aM];omega),atK (i:=0) (j:=0) rfl (by omega),obs,atK (i:=1) (j:=1) rfl (by omega),obs,gI (Subtype.property _) (Subtype.property _),obs]
   rw [show eA (g.getD 0 0).1 (g.getD 1 0).1=(g.getD 0 0+g.getD 1 0).1 from rfl,BK,if_neg h2]
end Go.AI.Fn
set_option linter.unusedVariables false
set_option linter.unusedSimpArgs false
namespace Go.AI.Fn
variable {o:Opening} {v ρ nq bits:Nat} {t:Setting} {root:List UInt8} {D P:List K} {s:Source} {k:Int}
theorem Qk {c21 c22 c23 c24 c25 c33 c35 c36 c38 c39 c40:Int} {c32:List Ext} {c34 c37:List UInt8} (h:OkO o v t) (e1:t.Rate=(ρ:Int)) (hD:D.length=v): ∀(ps:List Int) (qs:List Query) (preP:List Int) (preQ:List Query),o.Queries=preQ++qs→preP.length=preQ.length→ps.length=qs.length→preP.length+ps.length≤100→(∀p∈ps,0≤p∧p<512)→
 (qsC (toK o.Last) (v+ρ) (root::o.Roots) D ps qs=0→Loop (e7 (root::o.Roots) (kv D) (v:Int) ((2^(v+ρ):Nat):Int) (preP++ps) c21 c22 c23 c24 c25 o.Rounds o.Roots o.Last.A o.Last.B o.Nonce o.Queries c32 c33 c34 c35 c36 c37 c38 c39 c40) (preP.length:Int)=some (.inr (((preP++ps).length:Int),false)))∧
 (qsC (toK o.Last) (v+ρ) (root::o.Roots) D ps qs≠0→Loop (e7 (root::o.Roots) (kv D) (v:Int) ((2^(v+ρ):Nat):Int) (preP++ps) c21 c22 c23 c24 c25 o.Rounds o.Roots o.Last.A o.Last.B o.Nonce o.Queries c32 c33 c34 c35 c36 c37 c38 c39 c40) (preP.length:Int)=some (.inl (qsC (toK o.Last) (v+ρ) (root::o.Roots) D ps qs)))
 |[],qs,preP,preQ,hQ,h1,h2,h3,hp=>by
  refine ⟨fun _=>bI ?_,fun h=>absurd (by cases qs<;>rfl) h⟩
  simp only [e7]
  rw [List.append_nil,brn (by omega),decide_eq_false (by omega)]
 |p::ps,[],preP,preQ,hQ,h1,h2,h3,hp=>by simp at h2
 |p::ps,q::qs,preP,preQ,hQ,h1,h2,h3,hp=>by
  rw [List.length_cons] at h3
  have hp0:=hp p (by simp)
  have hm:q∈o.Queries:=by rw [hQ];simp
  have hq:=YZ (root:=root) h e1 hD hm hp0.1 hp0.2
  have ih:=Qk (c21:=c21) (c22:=c22) (c23:=c23) (c24:=c24) (c25:=c25) (c32:=c32) (c33:=c33) (c34:=c34) (c35:=c35) (c36:=c36) (c37:=c37) (c38:=c38) (c39:=c39) (c40:=c40) h e1 hD ps qs (preP++[p]) (preQ++[q]) (by rw [hQ];simp) (by simp [h1]) (by simpa using h2) (by rw [List.length_append,List.length_singleton];omega) (fun x hx=>hp x (by simp [hx]))
  rw [List.append_assoc,List.singleton_append,show (preP++[p]).length=preP.length+1 by simp] at ih
  have hs:e7 (root::o.Roots) (kv D) (v:Int) ((2^(v+ρ):Nat):Int) (preP++p::ps) c21 c22 c23 c24 c25 o.Rounds o.Roots o.Last.A o.Last.B o.Nonce o.Queries c32 c33 c34 c35 c36 c37 c38 c39 c40 (preP.length:Int)=
   br (qcK (toK o.Last) (v+ρ) (root::o.Roots) (q.Pairs.map toK) q.Paths D p.toNat none !=0) (some (.inr (.inl (qcK (toK o.Last) (v+ρ) (root::o.Roots) (q.Pairs.map toK) q.Paths D p.toNat none)))) (some (.inl ((preP.length+1:Nat):Int))):=by
   simp only [e7]
   rw [brd (by rw [List.length_append,List.length_cons];omega),ir rfl,obs,show atL o.Queries (preP.length:Int)=some q by rw [hQ];exact ir (by omega),obs,show Opening.mk o.Rounds o.Roots (Ext.mk o.Last.A o.Last.B) o.Nonce o.Queries=o from rfl,hq,obs,ab _ (by omega) (by omega)];rfl
  rw [qsC]
  by_cases hz:qcK (toK o.Last) (v+ρ) (root::o.Roots) (q.Pairs.map toK) q.Paths D p.toNat none=0
  ·rw [if_pos hz]
   rw [cE hz] at hs
   rw [bG hs];exact ih
  ·rw [if_neg hz]
   rw [brb hz] at hs
   exact ⟨fun h=>absurd h hz,fun _=>bI hs⟩
theorem PU {c2 c4 c5 c6 c7 c8 c9 c16 c17 c18 N:Int} {c:List Ext} {c3:List UInt8} (h:OkO o v t) (e1:t.Rate=(ρ:Int)) (hD:D.length=v): ∀(ps:List Int) (qs:List Query) (preP:List Int) (preQ:List Query),o.Queries=preQ++qs→preP.length=preQ.length→ps.length=qs.length→preP.length+ps.length≤100→(∀p∈ps,0≤p∧p<512)→N=((preP++ps).length:Int)→
 (qsC (toK o.Last) (v+ρ) (root::o.Roots) D ps qs=0→Loop (cA (root::o.Roots) (kv D) ((2^(v+ρ):Nat):Int) (preP++ps) N c c2 c3 c4 c5 c6 c7 c8 c9 o.Rounds o.Roots o.Last.A o.Last.B o.Nonce o.Queries c16 c17 c18) (preP.length:Int)=some (.inr (N,false)))∧
 (qsC (toK o.Last) (v+ρ) (root::o.Roots) D ps qs≠0→Loop (cA (root::o.Roots) (kv D) ((2^(v+ρ):Nat):Int) (preP++ps) N c c2 c3 c4 c5 c6 c7 c8 c9 o.Rounds o.Roots o.Last.A o.Last.B o.Nonce o.Queries c16 c17 c18) (preP.length:Int)=some (.inl (qsC (toK o.Last) (v+ρ) (root::o.Roots) D ps qs)))
 |[],qs,preP,preQ,hQ,h1,h2,h3,hp,hN=>by
  rw [List.append_nil] at hN
  refine ⟨fun _=>bI ?_,fun h=>absurd (by cases qs<;>rfl) h⟩
  simp only [cA]
  rw [brn (by omega),decide_eq_false (by omega),hN]
 |p::ps,[],preP,preQ,hQ,h1,h2,h3,hp,hN=>by simp at h2
 |p::ps,q::qs,preP,preQ,hQ,h1,h2,h3,hp,hN=>by
  rw [List.length_cons] at h3
  have hp0:=hp p (by simp)
  have hm:q∈o.Queries:=by rw [hQ];simp
  have hq:=Xs (root:=root) h e1 hD hm hp0.1 hp0.2
  have ih:=PU (N:=N) (c:=c) (c2:=c2) (c3:=c3) (c4:=c4) (c5:=c5) (c6:=c6) (c7:=c7) (c8:=c8) (c9:=c9) (c16:=c16) (c17:=c17) (c18:=c18) h e1 hD ps qs (preP++[p]) (preQ++[q]) (by rw [hQ];simp) (by simp [h1]) (by simpa using h2) (by rw [List.length_append,List.length_singleton];omega) (fun x hx=>hp x (by simp [hx])) (by rw [hN];simp)
  rw [List.append_assoc,List.singleton_append,show (preP++[p]).length=preP.length+1 by simp] at ih
  have hs:cA (root::o.Roots) (kv D) ((2^(v+ρ):Nat):Int) (preP++p::ps) N c c2 c3 c4 c5 c6 c7 c8 c9 o.Rounds o.Roots o.Last.A o.Last.B o.Nonce o.Queries c16 c17 c18 (preP.length:Int)=
   br (qcK (toK o.Last) (v+ρ) (root::o.Roots) (q.Pairs.map toK) q.Paths D p.toNat none !=0) (some (.inr (.inl (qcK (toK o.Last) (v+ρ) (root::o.Roots) (q.Pairs.map toK) q.Paths D p.toNat none)))) (some (.inl ((preP.length+1:Nat):Int))):=by
   simp only [cA]
   rw [brd (by rw [hN,List.length_append,List.length_cons];omega),ir rfl,obs,show atL o.Queries (preP.length:Int)=some q by rw [hQ];exact ir (by omega),obs,show Opening.mk o.Rounds o.Roots (Ext.mk o.Last.A o.Last.B) o.Nonce o.Queries=o from rfl,hq,obs,ab _ (by omega) (by omega)];rfl
  rw [qsC]
  by_cases hz:qcK (toK o.Last) (v+ρ) (root::o.Roots) (q.Pairs.map toK) q.Paths D p.toNat none=0
  ·rw [if_pos hz]
   rw [cE hz] at hs
   rw [bG hs];exact ih
  ·rw [if_neg hz]
   rw [brb hz] at hs
   exact ⟨fun h=>absurd h hz,fun _=>bI hs⟩
def B0 (o:Opening):List (List K):=o.Rounds.map fun g=>g.map toK
theorem Zx (h:OkO o v t):kvv (B0 o)=o.Rounds:=by
 rw [kvv,B0,List.map_map]
 refine (List.map_congr_left fun g hg=> ?_).trans (List.map_id _)
 exact b37 (h.rr g hg).2
end Go.AI.Fn
set_option linter.unusedVariables false
set_option linter.unusedSimpArgs false
namespace Go.AI.Fn
variable {o:Opening} {v ρ nq bits:Nat} {t:Setting} {root:List UInt8} {P:List K} {cl:K} {s:Source} {k:Int}
noncomputable def vfO (v:Nat) (o:Opening) (cl:K) (s:Source):Int×List K×K×Source:=vfM 1 (bvO v o.Roots) (B0 o) 0 cl s
noncomputable def chO (v ρ nq bits:Nat) (root:List UInt8) (P:List K) (cl:K) (o:Opening) (s:Source):Int:=chC (v+ρ) bits nq root P o.Roots (toK o.Last) o.Nonce o.Queries (vfO v o cl s)
theorem Yv (h:OkO o v t) (hP:P.length=v) (e1:t.Rate=(ρ:Int)) (e2:t.Queries=(nq:Int)) (e3:t.Grind=(bits:Int)) (hf:Few s k) (hk:k≤999850):
 ∃src,sO root (v:Int) (kv P) cl.1 t o s=some (src,chO v ρ nq bits root P cl o s)∧(chO v ρ nq bits root P cl o s=0→src=chS nq (toK o.Last) o.Nonce (vfO v o cl s)):=by
 have hs:=nK h.st
 have hv:=h.v1
 have hro:=h.ro
 have hrn:=h.rn
 have hqn:=h.qn
 have hk0:0≤k:=by have:=hf.2;have:=hf.1.4;omega
 have hrl:(B0 o).length=v:=by rw [B0,List.length_map,hrn]
 have hr3: ∀g∈B0 o,g.length=3:=fun g hg=>by
  obtain ⟨x,hx,rfl⟩:=List.mem_map.1 hg
  rw [List.length_map,(h.rr x hx).1]
 obtain ⟨q,hq⟩: ∃q,v+ρ=q+1:=⟨v+ρ-1,by omega⟩
 have hpq:=YH q (by omega)
 have hl:=LO (V:=(v:Int)) (rts:=o.Roots) (l:=root::o.Roots) (t2:=kv P) (c:=cl.1.A) (c2:=cl.1.B) (c3:=t.Rate) (c4:=t.Queries) (c5:=t.Grind) (c8:=o.Last.A) (c9:=o.Last.B) (c10:=o.Nonce) (c11:=o.Queries) (c16:=0) (c17:=[]) (c18:=0) rfl (by omega) h.rh (B0 o) [] cl s k [] hr3 hf (by omega) (by rw [List.length_nil];omega) (by rw [List.length_nil];omega) (by omega)
 rw [List.nil_append,List.nil_append,List.length_nil,Zx h] at hl
 have hvl:=LQ (kind:=1) (bv:=bvO v o.Roots) (B0 o) 0 cl s
 have hvf:=Ll (kind:=1) (TZ v o.Roots) (B0 o) 0 cl s k hf (by omega)
 rw [show vfM 1 (bvO v o.Roots) (B0 o) 0 cl s=vfO v o cl s from rfl] at hl hvl hvf
 rw [hrl] at hvl hvf
 unfold sO
 rw [aA (by simp only [List.length_append,List.length_singleton];omega),List.singleton_append]
 unfold chO chC
 by_cases h0:(vfO v o cl s).1=0
 ·have key:Loop (cx (root::o.Roots) (v:Int) (kv P) cl.1.A cl.1.B t.Rate t.Queries t.Grind o.Rounds o.Roots o.Last.A o.Last.B o.Nonce o.Queries 0 [] 0) ([],0,s.Script,s.At,s.State,s.Count,cl.1.A,cl.1.B)=_:=hl.1 h0
  have hDl:=hvl h0
  rw [key,obs,kt,if_pos h0]
  dsimp only
  have hlast:o.Last=(toK o.Last).1:=(gU h.la).symm
  rw [a0k (by rw [hDl,hP]) (by omega),obs,cT h.la (Subtype.property _),obs,show eM o.Last (eaK (vfO v o cl s).2.1 P 1).1=(toK o.Last*eaK (vfO v o cl s).2.1 P 1).1 by rw [K.mul_val, ←hlast],BK]
  by_cases h1:toK o.Last*eaK (vfO v o cl s).2.1 P 1=(vfO v o cl s).2.2.1
  ·rw [if_pos h1,if_pos h1]
   have hfS:Few (rsM (vfO v o cl s).2.2.2 [toK o.Last]) (k+3*v+1):=hvf.take _
   rw [show Source.mk (vfO v o cl s).2.2.2.Script (vfO v o cl s).2.2.2.At (vfO v o cl s).2.2.2.State (vfO v o cl s).2.2.2.Count=(vfO v o cl s).2.2.2 from rfl,show ([o.Last]:List Ext)=kv [toK o.Last] by rw [kv,List.map_singleton, ←hlast],Kz hvf.1 (by simp),obs,e3,a3f hfS.1.3 (by omega),obs]
   cases h2:LU (rsM (vfO v o cl s).2.2.2 [toK o.Last]).State bits o.Nonce with
   |false=>rw [Bool.not_false,bz,if_neg (by simp)];exact ⟨_,rfl,fun h=>absurd h (by decide)⟩
   |true=>
    have hfT:Few (tkM (rsM (vfO v o cl s).2.2.2 [toK o.Last]) (dT o.Nonce)) (k+3*v+1+1):=hfS.take _
    have hpl: ∀x∈plM (drL (tkM (rsM (vfO v o cl s).2.2.2 [toK o.Last]) (dT o.Nonce)) nq) ((2^q:Nat):Int),0≤x∧x<512:=fun x hx=>by
     obtain ⟨y,hy,rfl⟩:=List.mem_map.1 hx
     have g0:=Int.emod_nonneg y.A (b:=((2^q:Nat):Int)) (by omega)
     have g1:=Int.emod_lt_of_pos y.A (b:=((2^q:Nat):Int)) (by omega)
     have g2:=YH (q+1) (by omega)
     have g3:2^(q+1)=2*2^q:=by rw [Nat.pow_succ];omega
     omega
    have hsh:aB .i64 1 (((v+ρ:Nat)):Int)=((2^(v+ρ):Nat):Int):=K6 (v+ρ) (by omega)
    rw [Bool.not_true,an,if_pos rfl,uu,obs,oH hfS.1.3 (by rw [bR];omega),obs,e1,ab ((v:Int)+(ρ:Int)) (by omega) (by omega),cw _ (by omega) (by omega),brd (by omega),show (v:Int)+(ρ:Int)=((v+ρ:Nat):Int) by omega,hsh,hq,a0y q (by omega),e2,WG hfT (by omega) (by omega) (by omega),obs,Nat.add_sub_cancel]
    have hqs:=Qk (root:=root) (D:=(vfO v o cl s).2.1) (c21:=cl.1.A) (c22:=cl.1.B) (c23:=(ρ:Int)) (c24:=(nq:Int)) (c25:=t.Grind) (c32:=(drS (tkM (rsM (vfO v o cl s).2.2.2 [toK o.Last]) (dT o.Nonce)) nq).Script) (c33:=(drS (tkM (rsM (vfO v o cl s).2.2.2 [toK o.Last]) (dT o.Nonce)) nq).At) (c34:=(drS (tkM (rsM (vfO v o cl s).2.2.2 [toK o.Last]) (dT o.Nonce)) nq).State) (c35:=(drS (tkM (rsM (vfO v o cl s).2.2.2 [toK o.Last]) (dT o.Nonce)) nq).Count) (c36:=0) (c37:=[]) (c38:=0) (c39:=(vfO v o cl s).2.2.1.1.A) (c40:=(vfO v o cl s).2.2.1.1.B) h e1 hDl (plM (drL (tkM (rsM (vfO v o cl s).2.2.2 [toK o.Last]) (dT o.Nonce)) nq) ((2^q:Nat):Int)) o.Queries [] [] rfl rfl (by rw [plM,List.length_map,jq];omega) (by rw [plM,List.length_map,jq,List.length_nil];omega) hpl
    rw [List.nil_append,List.length_nil,hq,e3] at hqs
    by_cases h3:qsC (toK o.Last) (q+1) (root::o.Roots) (vfO v o cl s).2.1 (plM (drL (tkM (rsM (vfO v o cl s).2.2.2 [toK o.Last]) (dT o.Nonce)) nq) ((2^q:Nat):Int)) o.Queries=0
    ·have kk:=hqs.1 h3
     rw [show (((0:Nat):Int))=0 from rfl] at kk
     rw [kk,h3]
     exact ⟨_,rfl,fun _=>rfl⟩
    ·have kk:=hqs.2 h3
     rw [show (((0:Nat):Int))=0 from rfl] at kk
     rw [kk]
     exact ⟨_,rfl,fun h=>absurd h h3⟩
  ·rw [if_neg h1,if_neg h1]
   exact ⟨_,rfl,fun h=>absurd h (by decide)⟩
 ·obtain ⟨h10,e,he⟩:=hl.2 h0
  have key:Loop (cx (root::o.Roots) (v:Int) (kv P) cl.1.A cl.1.B t.Rate t.Queries t.Grind o.Rounds o.Roots o.Last.A o.Last.B o.Nonce o.Queries 0 [] 0) ([],0,s.Script,s.At,s.State,s.Count,cl.1.A,cl.1.B)=_:=he
  rw [key,obs,iC,if_neg h0,h10]
  exact ⟨_,rfl,fun h=>absurd h (by decide)⟩
end Go.AI.Fn
set_option linter.unusedVariables false
set_option linter.unusedSimpArgs false
namespace Go.AI.Fn
variable {o:Opening} {v ρ nq bits:Nat} {t:Setting} {root:List UInt8} {P:List K} {cl:K} {s:Source} {k:Int}
theorem XF (h:OkO o v t) (hP:P.length=v) (e1:t.Rate=(ρ:Int)) (e2:t.Queries=(nq:Int)) (e3:t.Grind=(bits:Int)) (hf:Few s k) (hk:k≤999850):
 ∃src,j8 root (kv P) cl.1 t o s=some (chO v ρ nq bits root P cl o s,src)∧(chO v ρ nq bits root P cl o s=0→src=chS nq (toK o.Last) o.Nonce (vfO v o cl s)):=by
 have hs:=nK h.st
 have hv:=h.v1
 have hro:=h.ro
 have hrn:=h.rn
 have hqn:=h.qn
 have hk0:0≤k:=by have:=hf.2;have:=hf.1.4;omega
 have hrl:(B0 o).length=v:=by rw [B0,List.length_map,hrn]
 have hr3: ∀g∈B0 o,g.length=3:=fun g hg=>by
  obtain ⟨x,hx,rfl⟩:=List.mem_map.1 hg
  rw [List.length_map,(h.rr x hx).1]
 obtain ⟨q,hq⟩: ∃q,v+ρ=q+1:=⟨v+ρ-1,by omega⟩
 have hpq:=YH q (by omega)
 have hl:=Ky (V:=(v:Int)) (rts:=o.Roots) (c6:=o.Rounds) (c8:=o.Last.A) (c9:=o.Last.B) (c10:=o.Nonce) (c11:=o.Queries) (c14:=0) (c15:=0) rfl (by omega) h.rh (B0 o) [] cl s k [] hr3 hf (by omega) (by rw [List.length_nil];omega) (by rw [List.length_nil];omega) (by omega)
 rw [List.nil_append,List.nil_append,List.length_nil,Zx h] at hl
 have hvl:=LQ (kind:=1) (bv:=bvO v o.Roots) (B0 o) 0 cl s
 have hvf:=Ll (kind:=1) (TZ v o.Roots) (B0 o) 0 cl s k hf (by omega)
 rw [show vfM 1 (bvO v o.Roots) (B0 o) 0 cl s=vfO v o cl s from rfl] at hl hvl hvf
 rw [hrl] at hvl hvf
 unfold j8 cj
 rw [aM,hP,hrn]
 unfold chO chC
 by_cases h0:(vfO v o cl s).1=0
 ·have key:Loop (am 1 o.Rounds (v:Int) 0 0) ([],0,s.Script,s.At,s.State,s.Count,(v:Int),o.Rounds,o.Roots,o.Last.A,o.Last.B,o.Nonce,o.Queries,cl.1.A,cl.1.B)=_:=hl.1 h0
  have hDl:=hvl h0
  rw [key,obs,kt,if_pos h0,obs]
  dsimp only
  rw [cE rfl]
  simp only [show Ext.mk o.Last.A o.Last.B=o.Last from rfl]
  have hlast:o.Last=(toK o.Last).1:=(gU h.la).symm
  rw [a0r (by rw [hDl,hP]) (by omega),obs,db h.la (Subtype.property _),obs,show eM o.Last (eaK (vfO v o cl s).2.1 P 1).1=(toK o.Last*eaK (vfO v o cl s).2.1 P 1).1 by rw [K.mul_val, ←hlast],BK]
  by_cases h1:toK o.Last*eaK (vfO v o cl s).2.1 P 1=(vfO v o cl s).2.2.1
  ·rw [if_pos h1,if_pos h1]
   have hfS:Few (rsM (vfO v o cl s).2.2.2 [toK o.Last]) (k+3*v+1):=hvf.take _
   rw [show Source.mk (vfO v o cl s).2.2.2.Script (vfO v o cl s).2.2.2.At (vfO v o cl s).2.2.2.State (vfO v o cl s).2.2.2.Count=(vfO v o cl s).2.2.2 from rfl,show ([o.Last]:List Ext)=kv [toK o.Last] by rw [kv,List.map_singleton, ←hlast],Ln hvf.1 (by simp),obs,e3,a1c hfS.1.3 (by omega),obs]
   cases h2:LU (rsM (vfO v o cl s).2.2.2 [toK o.Last]).State bits o.Nonce with
   |false=>rw [Bool.not_false,bz,if_neg (by simp)];exact ⟨_,rfl,fun h=>absurd h (by decide)⟩
   |true=>
    have hfT:Few (tkM (rsM (vfO v o cl s).2.2.2 [toK o.Last]) (dT o.Nonce)) (k+3*v+1+1):=hfS.take _
    have hpl: ∀x∈plM (drL (tkM (rsM (vfO v o cl s).2.2.2 [toK o.Last]) (dT o.Nonce)) nq) ((2^q:Nat):Int),0≤x∧x<512:=fun x hx=>by
     obtain ⟨y,hy,rfl⟩:=List.mem_map.1 hx
     have g0:=Int.emod_nonneg y.A (b:=((2^q:Nat):Int)) (by omega)
     have g1:=Int.emod_lt_of_pos y.A (b:=((2^q:Nat):Int)) (by omega)
     have g2:=YH (q+1) (by omega)
     have g3:2^(q+1)=2*2^q:=by rw [Nat.pow_succ];omega
     omega
    have hsh:aB .i64 1 (((v+ρ:Nat)):Int)=((2^(v+ρ):Nat):Int):=K6 (v+ρ) (by omega)
    rw [Bool.not_true,an,if_pos rfl,Bv,obs,oS hfS.1.3 (by rw [bR];omega),obs,e1,ab ((v:Int)+(ρ:Int)) (by omega) (by omega),brd (by omega),aA (by simp only [List.length_append,List.length_singleton];omega),show (v:Int)+(ρ:Int)=((v+ρ:Nat):Int) by omega,hsh,hq,a0y q (by omega),e2,DM hfT (by omega) (by omega),obs,VD (by rw [jq];omega) (Lk hfT (by omega) (by omega)) (by omega),obs,Nat.add_sub_cancel,List.singleton_append]
    have hpn:(plM (drL (tkM (rsM (vfO v o cl s).2.2.2 [toK o.Last]) (dT o.Nonce)) nq) ((2^q:Nat):Int)).length=nq:=by rw [plM,List.length_map,jq]
    have hqs:=PU (root:=root) (N:=(((plM (drL (tkM (rsM (vfO v o cl s).2.2.2 [toK o.Last]) (dT o.Nonce)) nq) ((2^q:Nat):Int)).length:Nat):Int)) (D:=(vfO v o cl s).2.1) (c:=(drS (tkM (rsM (vfO v o cl s).2.2.2 [toK o.Last]) (dT o.Nonce)) nq).Script) (c2:=(drS (tkM (rsM (vfO v o cl s).2.2.2 [toK o.Last]) (dT o.Nonce)) nq).At) (c3:=(drS (tkM (rsM (vfO v o cl s).2.2.2 [toK o.Last]) (dT o.Nonce)) nq).State) (c4:=(drS (tkM (rsM (vfO v o cl s).2.2.2 [toK o.Last]) (dT o.Nonce)) nq).Count) (c5:=cl.1.A) (c6:=cl.1.B) (c7:=(ρ:Int)) (c8:=(nq:Int)) (c9:=t.Grind) (c16:=(v:Int)) (c17:=(vfO v o cl s).2.2.1.1.A) (c18:=(vfO v o cl s).2.2.1.1.B) h e1 hDl (plM (drL (tkM (rsM (vfO v o cl s).2.2.2 [toK o.Last]) (dT o.Nonce)) nq) ((2^q:Nat):Int)) o.Queries [] [] rfl rfl (by rw [hpn];omega) (by rw [hpn,List.length_nil];omega) hpl rfl
    rw [List.nil_append,List.length_nil,hq,e3] at hqs
    by_cases h3:qsC (toK o.Last) (q+1) (root::o.Roots) (vfO v o cl s).2.1 (plM (drL (tkM (rsM (vfO v o cl s).2.2.2 [toK o.Last]) (dT o.Nonce)) nq) ((2^q:Nat):Int)) o.Queries=0
    ·have kk:=hqs.1 h3
     rw [show (((0:Nat):Int))=0 from rfl] at kk
     rw [kk,h3]
     exact ⟨_,rfl,fun _=>rfl⟩
    ·have kk:=hqs.2 h3
     rw [show (((0:Nat):Int))=0 from rfl] at kk
     rw [kk]
     exact ⟨_,rfl,fun h=>absurd h h3⟩
  ·rw [if_neg h1,if_neg h1]
   exact ⟨_,rfl,fun h=>absurd h (by decide)⟩
 ·obtain ⟨h10,e,h11,he⟩:=hl.2 h0
  have key:Loop (am 1 o.Rounds (v:Int) 0 0) ([],0,s.Script,s.At,s.State,s.Count,(v:Int),o.Rounds,o.Roots,o.Last.A,o.Last.B,o.Nonce,o.Queries,cl.1.A,cl.1.B)=_:=he
  rw [key,obs,iC,if_neg h0,h10,obs]
  dsimp only
  rw [h11,brb (by decide)]
  exact ⟨_,rfl,fun h=>absurd h (by decide)⟩
end Go.AI.Fn
set_option linter.unusedVariables false
set_option linter.unusedSimpArgs false
namespace Go.AI.Fn
variable {o:Opening} {v ρ nq bits:Nat} {t:Setting} {root:List UInt8} {P:List K} {cl:K} {s:Source} {k:Int}
end Go.AI.Fn
set_option linter.unusedVariables false
set_option linter.unusedSimpArgs false
namespace Go.AI.Fn
theorem RY {α:Type} {P:α→Prop} {f:α→Int→Option Int} {a:List α} {left:Int} (ha:a.length≤9223372036854775807) (h0: -1≤left) (h1:left≤1048576)
 (hf: ∀x∈a, ∀l, -1≤l→l≤1048576→ ∃r,f x l=some r∧ -9223372036854775808≤r∧r≤1048576∧(0≤r→P x)) {step:Int×Int→Option ((Int×Int)⊕(Unit⊕(Int×Int×Bool)))}
 (hs: ∀l i,step (l,i)=br (decide (i<((a.length:Nat):Int))) ((atL a i).bind fun x=>(f x l).bind fun r=>br (decide (r<0)) (some (.inr (.inl ()))) (some (.inl (r,IntKind.wrap .i64 (i+1))))) (some (.inr (.inr (l,i,decide (i<((a.length:Nat):Int))))))):
 ∃r,br (decide (IntKind.wrap .i64 (left-((a.length:Nat):Int))<0)) (some (-1:Int)) ((Loop step (IntKind.wrap .i64 (left-((a.length:Nat):Int)),0)).bind (alt (fun _=>some (-1)) (fun e=>some e.1)))=some r∧ -1≤r∧r≤1048576∧(0≤r→a.length≤1048576∧ ∀x∈a,P x):=by
 rw [ab _ (by omega) (by omega)]
 by_cases h:left-(a.length:Int)<0
 ·rw [brd h];exact ⟨_,rfl,by omega,by omega,by omega⟩
 ·rw [brn h]
  have key:=lQ (step:=step) (fun s=>0≤s.2∧s.2≤a.length∧0≤s.1∧s.1≤1048576∧ ∀j:Nat,(j:Int)<s.2→ ∀x,a[j]? =some x→P x) (fun s=>((a.length:Int)-s.2).toNat)
   (fun e:Unit⊕(Int×Int×Bool)=> ∀q,e= .inr q→0≤q.1∧q.1≤1048576∧ ∀x∈a,P x) ?_ (left-(a.length:Int),0) ⟨by dsimp only;omega,by dsimp only;omega,by dsimp only;omega,by dsimp only;omega,fun j hj=>by dsimp only at hj;omega⟩
  ·obtain ⟨e,he,hp⟩:=key
   rw [he]
   cases e with
   |inl u=>exact ⟨-1,rfl,by omega,by omega,by omega⟩
   |inr q=>have hq:=hp q rfl;exact ⟨q.1,rfl,by omega,hq.2.1,fun _=>⟨by omega,hq.2.2⟩⟩
  ·rintro ⟨l,i⟩ ⟨i0,i1,l0,l1,hP⟩
   dsimp only at i0 i1 l0 l1 hP
   rw [hs]
   by_cases hi:i<(a.length:Int)
   ·rw [brd hi]
    obtain ⟨x,hx,hx2,hm⟩:=b1N i0 hi
    obtain ⟨r,hr,r0,r1,hPx⟩:=hf x hm l (by omega) l1
    rw [hx,obs,hr,obs]
    by_cases hn:r<0
    ·rw [brd hn];exact .inr ⟨_,rfl,fun q hq=>by cases hq⟩
    ·rw [brn hn,ab _ (by omega) (by omega)]
     refine .inl ⟨_,rfl,⟨by dsimp only;omega,by dsimp only;omega,by dsimp only;omega,r1,fun j hj y hy=> ?_⟩,by dsimp only;omega⟩
     dsimp only at hj
     by_cases c:(j:Int)<i
     ·exact hP j c y hy
     ·have:j=i.toNat:=by omega
      subst this
      rw [hx2] at hy;cases hy
      exact hPx (by omega)
   ·rw [brn hi]
    refine .inr ⟨_,rfl,fun q hq=> ?_⟩
    cases hq
    refine ⟨l0,l1,fun x hx=> ?_⟩
    obtain ⟨j,hj,rfl⟩:=List.getElem_of_mem hx
    exact hP j (by omega) _ (List.getElem?_eq_getElem hj)
def SzT (x:List UInt8):Prop:=x.length≤1048576
def a5Y (a:List (List UInt8)):Prop:=a.length≤1048576∧ ∀x∈a,SzT x
def ZS (a:List (List (List UInt8))):Prop:=a.length≤1048576∧ ∀x∈a,a5Y x
def a1T (a:List (List Ext)):Prop:=a.length≤1048576∧ ∀x∈a,x.length≤1048576
def SzQ (q:Query):Prop:=q.Pairs.length≤1048576∧ZS q.Paths
def SzO (o:Opening):Prop:=a1T o.Rounds∧a5Y o.Roots∧o.Queries.length≤1048576∧ ∀q∈o.Queries,SzQ q
def SzP (p:Proof):Prop:=SzT p.Root∧a1T p.Gates∧a1T p.Wires∧SzO p.Open
theorem SzO.sm {o:Opening} (h:SzO o):SmO o:=⟨by have:=h.1.1;omega,fun g hg=>by have:=h.1.2 g hg;omega,by have:=h.2.1.1;omega,by have:=h.2.2.1;omega,fun q hq=>by have:=(h.2.2.2 q hq).1;omega,fun q hq p hp=>by have:=((h.2.2.2 q hq).2.2 p hp).1;omega⟩
theorem yf {a:List (List Ext)} {left:Int} (ha:bdL (bdL bdExt) a) (h0: -1≤left) (h1:left≤1048576): ∃r,s6 a left=some r∧ -1≤r∧r≤1048576∧(0≤r→a1T a):=
 RY (f:=oP) (step:=nQ a) ha.1 h0 h1 (fun x hx l l0 l1=>by
  obtain ⟨r,h2,h3,h4,h5⟩:=Ah (ha.2 x hx).1 l0 l1
  exact ⟨r,h2,by omega,h4,h5⟩) (fun l i=>rfl)
theorem B6 {a:List (List UInt8)} {left:Int} (ha:bdL bdS a) (h0: -1≤left) (h1:left≤1048576): ∃r,lv a left=some r∧ -1≤r∧r≤1048576∧(0≤r→a5Y a):=
 RY (f:=fun x l=>some (IntKind.wrap .i64 (l-((x.length:Nat):Int)))) (step:=ib a) ha.1 h0 h1 (fun x hx l l0 l1=>by
  have hb:x.length≤9223372036854775807:=ha.2 x hx
  exact ⟨_,rfl,by rw [ab _ (by omega) (by omega)];omega,by rw [ab _ (by omega) (by omega)];omega,fun h=>by rw [ab _ (by omega) (by omega)] at h;show x.length≤_;omega⟩) (fun l i=>by simp only [ib,obs])
theorem Jt {a:List (List (List UInt8))} {left:Int} (ha:bdL (bdL bdS) a) (h0: -1≤left) (h1:left≤1048576): ∃r,rJ a left=some r∧ -1≤r∧r≤1048576∧(0≤r→ZS a):=
 RY (f:=lv) (step:=jA a) ha.1 h0 h1 (fun x hx l l0 l1=>by
  obtain ⟨r,h2,h3,h4,h5⟩:=B6 (ha.2 x hx) l0 l1
  exact ⟨r,h2,by omega,h4,h5⟩) (fun l i=>rfl)
theorem SV {q:Query} {left:Int} (ha:bdQuery q) (h0: -1≤left) (h1:left≤1048576): ∃r,s7 q left=some r∧ -1≤r∧r≤1048576∧(0≤r→SzQ q):=by
 obtain ⟨r,h2,h3,h4,h5⟩:=Ah ha.1.1 h0 h1
 unfold s7
 rw [h2,obs]
 by_cases c:r<0
 ·rw [brd c];exact ⟨_,rfl,by omega,by omega,by omega⟩
 ·rw [brn c]
  obtain ⟨r2,g2,g3,g4,g5⟩:=Jt ha.2 h3 h4
  rw [g2,obs]
  by_cases d:r2<0
  ·rw [brd d];exact ⟨_,rfl,by omega,by omega,by omega⟩
  ·rw [brn d];exact ⟨_,rfl,g3,g4,fun _=>⟨h5 (by omega),g5 (by omega)⟩⟩
theorem Of {a:List Query} {left:Int} (ha:bdL bdQuery a) (h0: -1≤left) (h1:left≤1048576): ∃r,xk a left=some r∧ -1≤r∧r≤1048576∧(0≤r→a.length≤1048576∧ ∀q∈a,SzQ q):=
 RY (f:=s7) (step:=mj a) ha.1 h0 h1 (fun x hx l l0 l1=>by
  obtain ⟨r,h2,h3,h4,h5⟩:=SV (ha.2 x hx) l0 l1
  exact ⟨r,h2,by omega,h4,h5⟩) (fun l i=>rfl)
theorem Nw {o:Opening} {left:Int} (ha:bdOpening o) (h0: -1≤left) (h1:left≤1048576): ∃r,oD o left=some r∧ -1≤r∧r≤1048576∧(0≤r→SzO o):=by
 obtain ⟨b1,b2,_,_,b3⟩:=ha
 obtain ⟨r,h2,h3,h4,h5⟩:=yf b1 h0 h1
 unfold oD
 rw [h2,obs]
 by_cases c:r<0
 ·rw [brd c];exact ⟨_,rfl,by omega,by omega,by omega⟩
 ·rw [brn c]
  obtain ⟨r2,g2,g3,g4,g5⟩:=B6 b2 h3 h4
  rw [g2,obs]
  by_cases d:r2<0
  ·rw [brd d];exact ⟨_,rfl,by omega,by omega,by omega⟩
  ·rw [brn d]
   obtain ⟨r3,k2,k3,k4,k5⟩:=Of b3 g3 g4
   rw [k2,obs]
   by_cases e:r3<0
   ·rw [brd e];exact ⟨_,rfl,by omega,by omega,by omega⟩
   ·rw [brn e];exact ⟨_,rfl,k3,k4,fun _=>⟨h5 (by omega),g5 (by omega),k5 (by omega)⟩⟩
theorem RG {p:Proof} {left:Int} (ha:bdProof p) (h0: -1≤left) (h1:left≤1048576): ∃r,wH p left=some r∧ -1≤r∧r≤1048576∧(0≤r→SzP p):=by
 obtain ⟨b0,b1,_,_,_,b2,_,b3⟩:=ha
 have b0':p.Root.length≤9223372036854775807:=b0
 unfold wH
 rw [ab _ (by omega) (by omega)]
 by_cases c0:left-(p.Root.length:Int)<0
 ·rw [brd c0];exact ⟨_,rfl,by omega,by omega,by omega⟩
 ·rw [brn c0]
  obtain ⟨r,h2,h3,h4,h5⟩:=yf b1 (show-1≤left-(p.Root.length:Int) by omega) (by omega)
  rw [h2,obs]
  by_cases c:r<0
  ·rw [brd c];exact ⟨_,rfl,by omega,by omega,by omega⟩
  ·rw [brn c]
   obtain ⟨r2,g2,g3,g4,g5⟩:=yf b2 h3 h4
   rw [g2,obs]
   by_cases d:r2<0
   ·rw [brd d];exact ⟨_,rfl,by omega,by omega,by omega⟩
   ·rw [brn d]
    obtain ⟨r3,k2,k3,k4,k5⟩:=Nw b3 g3 g4
    rw [k2,obs]
    by_cases e:r3<0
    ·rw [brd e];exact ⟨_,rfl,by omega,by omega,by omega⟩
    ·rw [brn e];exact ⟨_,rfl,k3,k4,fun _=>⟨by show p.Root.length≤_;omega,h5 (by omega),g5 (by omega),k5 (by omega)⟩⟩
theorem xe {a:List (List Ext)} (h:a1T a):mz a=some a:=by
 have:=h.1
 unfold mz
 rw [yL (by omega) (by omega) (by omega),Int.toNat_natCast,DO (step:=o1 a) (f:=oV) (g:=fun x=>x) (by omega) (fun x hx=>A6 (h.2 x hx)) (fun l i=>rfl) (Nat.le_refl _)]
 simp
theorem zT {a:List (List UInt8)} (h:a5Y a):iZ a=some a:=by
 have:=h.1
 unfold iZ
 rw [yL (by omega) (by omega) (by omega),Int.toNat_natCast,DO (step:=ky a) (f:=fun x=>some x) (g:=fun x=>x) (by omega) (fun x hx=>rfl) (fun l i=>rfl) (Nat.le_refl _)]
 simp
theorem JJ {a:List (List (List UInt8))} (h:ZS a):mb a=some a:=by
 have:=h.1
 unfold mb
 rw [yL (by omega) (by omega) (by omega),Int.toNat_natCast,DO (step:=jg a) (f:=iZ) (g:=fun x=>x) (by omega) (fun x hx=>zT (h.2 x hx)) (fun l i=>rfl) (Nat.le_refl _)]
 simp
theorem RM {q:Query} (h:SzQ q):rR q=some q:=by
 unfold rR
 rw [A6 h.1,obs,JJ h.2];rfl
theorem Oz {a:List Query} (h:a.length≤1048576) (hq: ∀q∈a,SzQ q):tc a=some a:=by
 unfold tc
 rw [yL (by omega) (by omega) (by omega),Int.toNat_natCast,DO (step:=ly a) (f:=rR) (g:=fun x=>x) (by omega) (fun x hx=>RM (hq x hx)) (fun l i=>rfl) (Nat.le_refl _)]
 simp
theorem Lp {o:Opening} (h:SzO o):oz o=some o:=by
 unfold oz mg
 rw [xe h.1,obs,zT h.2.1,obs,obs,Oz h.2.2.1 h.2.2.2];rfl
theorem QL {p:Proof} (h:SzP p):mU p=some p:=by
 unfold mU mg
 rw [xe h.2.1,obs,obs,obs,obs,xe h.2.2.1,obs,obs,Lp h.2.2.2];rfl
theorem sq {a:List (List Ext)} (h:a1T a):nv a a=some true:=by
 have:=h.1
 unfold nv
 rw [cE rfl]
 exact H0 (f:=oW) (by omega) (fun x hx=>uM (h.2 x hx)) (fun t=>rfl)
theorem xb {a:List (List UInt8)} (h:a5Y a):iX a a=some true:=by
 have:=h.1
 unfold iX
 rw [cE rfl]
 refine H0 (a:=a) (f:=fun x y=>some (x==y)) (by omega) (fun x _=>by simp) (fun t=> ?_)
 simp only [kz]
 rfl
theorem Ec {a:List (List (List UInt8))} (h:ZS a):lz a a=some true:=by
 have:=h.1
 unfold lz
 rw [cE rfl]
 exact H0 (f:=iX) (by omega) (fun x hx=>xb (h.2 x hx)) (fun t=>rfl)
theorem KE {q:Query} (h:SzQ q):rX q q=some true:=by
 unfold rX
 rw [uM h.1,obs,Bool.not_true,an,Ec h.2,obs,Bool.not_true,an]
theorem IZ {a:List Query} (h:a.length≤1048576) (hq: ∀q∈a,SzQ q):tx a a=some true:=by
 unfold tx
 rw [cE rfl]
 exact H0 (f:=rX) (by omega) (fun x hx=>KE (hq x hx)) (fun t=>rfl)
theorem GC {o:Opening} (h:SzO o):oB o o=some true:=by
 unfold oB
 rw [sq h.1,obs,Bool.not_true,an,xb h.2.1,obs,Bool.not_true,an,jo,obs,Bool.not_true,an,cE rfl,IZ h.2.2.1 h.2.2.2,obs,Bool.not_true,an]
theorem MP {p:Proof} (h:SzP p):wY p p=some true:=by
 unfold wY
 rw [KF (by simp),sq h.2.1,obs,Bool.not_true,an,jo,obs,Bool.not_true,an,jo,obs,Bool.not_true,an,jo,obs,Bool.not_true,an,sq h.2.2.1,obs,Bool.not_true,an,jo,obs,Bool.not_true,an,GC h.2.2.2,obs,Bool.not_true,an]
end Go.AI.Fn
