/- Proofs of right lengths: program and reference say alike, of all of them. -/
import Derived.Test.YtdmhkkcihecndaaGreatPv1
import Derived.Test.YtdmhkkcihecndaaGreatPv0
set_option linter.unusedVariables false
set_option linter.unusedSimpArgs false
namespace Go.AI.Fn
noncomputable def okP (p:Proof) (s:System) (t:Setting):Bool:=
 oF s&&(setB t&&(h32 p.Root&&(yV p.Gates s.Rows 4&&(iq p.VA&&(iq p.VB&&(iq p.VC&&(yV p.Wires s.Cols 3&&(iq p.VW&&okO p.Open (s.Cols-1) t))))))))
theorem b1H {R:List (List Ext)} {size:Int} {X:Type} {x y:X} (hl:R.length≤1048576) (hR: ∀g∈R,g.length≤1048576) {step:Int→Option (Int⊕(Unit⊕(Int×Bool)))} {g:Int×Bool→Option X} (hg: ∀e,g e=some y)
 (hs: ∀t,step t=br (decide (t<((R.length:Nat):Int))) ((atL R t).bind fun x=>br (((x.length:Nat):Int) !=size) (some (.inr (.inl ()))) ((atL R t).bind fun x2=>(gO x2).bind fun r=>br (!r) (some (.inr (.inl ()))) (some (.inl (IntKind.wrap .i64 (t+1)))))) (some (.inr (.inr (t,decide (t<((R.length:Nat):Int))))))):
 (Loop step 0).bind (alt (fun _=>some x) g)=some (if R.all (pj size)=true then y else x):=by
 rw [←wj R [] (pj size)]
 have hm: ∀k,k<R.length→R.getD k []∈R:=fun k hk=>by simp [hk]
 refine wM R.length _ (fun _=>()) (fun k hk hp=> ?_) (fun k hk hp=> ?_) (e2:=((R.length:Int),false)) ?_ (fun _=>rfl) (hg _)
 ·have:=hR _ (hm k hk)
  simp only [pj,Bool.and_eq_true,decide_eq_true_eq] at hp
  rw [hs,brd (by omega),ku (d:=[]) hk,obs,cE hp.1,obs,iI (by omega),obs,hp.2,Bool.not_true,an,ab _ (by omega) (by omega)];rfl
 ·have:=hR _ (hm k hk)
  rw [hs,brd (by omega),ku (d:=[]) hk,obs]
  by_cases c:((R.getD k []).length:Int)=size
  ·rw [pj,decide_eq_true c,Bool.true_and] at hp
   rw [cE c,obs,iI (by omega),obs,hp];rfl
  ·rw [brb c]
 ·rw [hs,brn (by omega),decide_eq_false (by omega)]
theorem RD {p:Proof} {s:System} {t:Setting} (h:SzP p) (hA:s.A.length≤1048576) (hB:s.B.length≤1048576) (hC:s.C.length≤1048576):wI p s t=some (okP p s t):=by
 have g1:=h.2.1.1
 have g2:=h.2.2.1.1
 unfold wI okP
 rw [CW (by omega) (by omega) (by omega),obs]
 cases hs:oF s
 ·rfl
 ·obtain ⟨hr,hc,_⟩:=iv hs
  rw [bz,ti,obs,u6,sX (by omega) (fun g hg=>by have:=h.2.1.2 g hg;omega),sX (by omega) (fun g hg=>by have:=h.2.2.1.2 g hg;omega),ab _ (by omega) (by omega),Nr h.2.2.2.sm,mD,mD,mD,mD]
  simp only [obs,Bool.true_and,h32]
  cases setB t<;>cases decide (p.Root.length=32)<;>cases yV p.Gates s.Rows 4<;>cases iq p.VA<;>cases iq p.VB<;>cases iq p.VC<;>cases yV p.Wires s.Cols 3<;>cases iq p.VW<;>rfl
theorem QV {p:Proof} {s:System} {t:Setting} (h:SzP p):ws p s t=some (okP p s t):=by
 have g1:=h.2.1.1
 have g2:=h.2.2.1.1
 unfold ws okP yV
 rw [CQ,obs]
 cases hs:oF s
 ·rfl
 ·obtain ⟨hr,hc,_⟩:=iv hs
  rw [Bool.not_true,an,sC,obs,iI (by simp),obs,ab (s.Cols-1) (by omega) (by omega),MY h.2.2.2.sm]
  cases setB t
  ·rfl
  ·rw [Bool.not_true,an,Bool.true_and,Bool.true_and,h32]
   by_cases c1:p.Root.length=32
   ·rw [cE (by omega),decide_eq_true c1,Bool.true_and]
    by_cases c2:(p.Gates.length:Int)=s.Rows
    ·rw [cE c2,decide_eq_true c2,Bool.true_and]
     by_cases c3:(p.Wires.length:Int)=s.Cols
     ·rw [cE c3,decide_eq_true c3,Bool.true_and]
      simp only [obs]
      have k2:=fun l c c2 c3 c4 c5 c6 c7 c8 c10 c11 c12 c13 c14 c15 c16 c17 c18 c19 c20 c21 c22 c23 c24 c25 c26=>b1H (R:=p.Wires) (size:=3) (x:=false) (y:=okO p.Open (s.Cols-1) t) (step:=ob l c c2 c3 c4 c5 c6 c7 c8 p.Wires c10 c11 c12 c13 c14 c15 c16 c17 c18 c19 c20 c21 c22 c23 c24 c25 c26) (g:=fun _=>some (okO p.Open (s.Cols-1) t)) g2 h.2.2.1.2 (fun _=>rfl) (fun t=>rfl)
      have k1:=fun l c c3 c4 c5 c6 c7 c8 c9 c10 c11 c12 c13 c14 c15 c16 c17 c18 c19 c20 c21 c22 c23 c24 c25 c26 g (hg: ∀e,g e=_)=>b1H (R:=p.Gates) (size:=4) (x:=false) (y:=if p.Wires.all (pj 3)=true then okO p.Open (s.Cols-1) t else false) (step:=nR l c p.Gates c3 c4 c5 c6 c7 c8 c9 c10 c11 c12 c13 c14 c15 c16 c17 c18 c19 c20 c21 c22 c23 c24 c25 c26) (g:=g) g1 h.2.1.2 hg (fun t=>rfl)
      rw [k1 _ _ _ _ _ _ _ _ _ _ _ _ _ _ _ _ _ _ _ _ _ _ _ _ _ _ _ (fun e=>k2 _ _ _ _ _ _ _ _ _ _ _ _ _ _ _ _ _ _ _ _ _ _ _ _ _ _)]
      simp only [List.all_cons,List.all_nil,Bool.and_true]
      cases iq p.VA<;>cases iq p.VB<;>cases iq p.VC<;>cases iq p.VW<;>cases p.Gates.all (pj 4)<;>cases p.Wires.all (pj 3)<;>rfl
     ·rw [brb c3,decide_eq_false c3]
      cases p.Gates.all (pj 4)<;>cases iq p.VA<;>cases iq p.VB<;>cases iq p.VC<;>rfl
    ·rw [brb c2,decide_eq_false c2];rfl
   ·rw [brb (by omega),decide_eq_false c1];rfl
end Go.AI.Fn
set_option linter.unusedVariables false
set_option linter.unusedSimpArgs false
namespace Go.AI.Fn
theorem a7G {R T:List K} {β:K} {l t t2 t3 c4 c5 c6:List Entry} {c c2 c3 c7 c8 c11 c12 RR CC:Int} (hm:OkM l RR CC) (hR:(R.length:Int)=RR) (hT:(T.length:Int)=CC):
 Loop (je (kv R) t t2 t3 l ((l.length:Nat):Int) c c2 c3 c4 c5 c6 c7 c8 β.1.A β.1.B c11 c12) (kv T,0)=some (kv (l.foldl (btS β R) T),(l.length:Int),false):=
 Mx (t:=t) (t2:=t2) (t3:=t3) (t4:=0) (c:=c) (c2:=c2) (c3:=c3) (c4:=c4) (c5:=c5) (c6:=c6) (c9:=0) (c10:=0) (c11:=0) (c12:=0) hm hR hT
theorem a3E {R T:List K} {β:K} {l t t2 t3 c4 c5 c6:List Entry} {c c2 c3 c7 c8 c9 c10 RR CC:Int} (hm:OkM l RR CC) (hR:(R.length:Int)=RR) (hT:(T.length:Int)=CC):
 Loop (jv (kv R) t t2 t3 l ((l.length:Nat):Int) c c2 c3 c4 c5 c6 c7 c8 c9 c10 β.1.A β.1.B) (kv T,0)=some (kv (l.foldl (btS β R) T),(l.length:Int),false):=
 Mx (t:=t) (t2:=t2) (t3:=t3) (t4:=0) (c:=c) (c2:=c2) (c3:=c3) (c4:=c4) (c5:=c5) (c6:=c6) (c9:=0) (c10:=0) (c11:=0) (c12:=0) hm hR hT
def btM (s:System) (R:List K) (x y z:K):List K:=s.C.foldl (btS z R) (s.B.foldl (btS y R) (s.A.foldl (btS x R) (List.replicate (2^s.Cols.toNat) 0)))
theorem a06 (s:System) (R:List K) (x y z:K):(btM s R x y z).length=2^s.Cols.toNat:=by rw [btM,kr,kr,kr,List.length_replicate]
theorem a0l (n:Nat):kv (List.replicate n 0)=List.replicate n e0:=by rw [kv,List.map_replicate];rfl
theorem Uf {s:System} (h:oF s=true):OkM s.A ((2^s.Rows.toNat:Nat):Int) ((2^s.Cols.toNat:Nat):Int)∧OkM s.B ((2^s.Rows.toNat:Nat):Int) ((2^s.Cols.toNat:Nat):Int)∧OkM s.C ((2^s.Rows.toNat:Nat):Int) ((2^s.Cols.toNat:Nat):Int)∧
 tG s.A ((2^s.Rows.toNat:Nat):Int) ((2^s.Cols.toNat:Nat):Int)=true∧tG s.B ((2^s.Rows.toNat:Nat):Int) ((2^s.Cols.toNat:Nat):Int)=true∧tG s.C ((2^s.Rows.toNat:Nat):Int) ((2^s.Cols.toNat:Nat):Int)=true:=by
 obtain ⟨hR,hC,_⟩:=iv h
 have e1:s.Rows=((s.Rows.toNat:Nat):Int):=by omega
 have e2:s.Cols=((s.Cols.toNat:Nat):Int):=by omega
 have f1:aB .i64 1 s.Rows=((2^s.Rows.toNat:Nat):Int):=by conv=>lhs;rw [e1];rw [Nh (by omega)]
 have f2:aB .i64 1 s.Cols=((2^s.Cols.toNat:Nat):Int):=by conv=>lhs;rw [e2];rw [Nh (by omega)]
 unfold oF at h
 simp only [Bool.and_eq_true,decide_eq_true_eq,f1,f2] at h
 obtain ⟨_,_,_,mA,mB,mC⟩:=h
 exact ⟨Rx mA,Rx mB,Rx mC,mA,mB,mC⟩
theorem JF {s:System} (h:oF s=true) {p R:List K} {x y z:K} (hp:p.length=s.Rows.toNat) (hR:eqT (kv p)=kv R):mc s (kv p) (x.1,y.1,z.1)=some (kv (btM s R x y z)):=by
 obtain ⟨hr,hc,_⟩:=iv h
 obtain ⟨mA,mB,mC,_⟩:=Uf h
 have hpw:=Ac s.Cols.toNat (by omega)
 have hRl:(R.length:Int)=((2^s.Rows.toNat:Nat):Int):=by
  have:=xP (kv p)
  rw [hR,aM,aM,hp] at this;omega
 have e2:s.Cols=((s.Cols.toNat:Nat):Int):=by omega
 have f2:aB .i64 1 s.Cols=((2^s.Cols.toNat:Nat):Int):=by conv=>lhs;rw [e2];rw [Nh (by omega)]
 unfold mc cO
 rw [brd (by omega),f2,yL (by omega) (by omega) (by omega),xV (AR p) (by rw [aM];omega),obs,hR,obs]
 dsimp only
 rw [Int.toNat_natCast,show Ext.mk 0 0=e0 from rfl, ←a0l,Mx mA hRl (by rw [List.length_replicate]),obs]
 dsimp only
 rw [a7G mB hRl (by rw [kr,List.length_replicate]),obs]
 dsimp only
 rw [a3E mC hRl (by rw [kr,kr,List.length_replicate]),obs];rfl
def E7 (l:List Int):List UInt8:=l.flatMap dT
theorem KD (l:List Int):(E7 l).length=4*l.length:=by
 induction l with
 |nil=>rfl
 |cons x l ih=>simp only [E7,List.flatMap_cons,List.length_append,bR,List.length_cons] at*;omega
theorem PO (l:List Int) (x:Int):E7 (l++[x])=E7 l++dT x:=by simp [E7]
def setT (t:Setting):List UInt8:=[UInt8.ofInt t.Rate,UInt8.ofInt t.Queries,UInt8.ofInt t.Grind]
def zD (s:System) (t:Setting) (p:List Int):List UInt8:=H (IU s)++setT t++E7 p
theorem a8C {l:List (List UInt8)} {l3 L:List UInt8} {p:List Int} {c c2 c3 c7 c8 c9:Int} {c4 c5 c6:List Entry} (hp:p.length≤5000) (hL:L.length≤1000):Loop (ey l l3 p ((p.length:Nat):Int) c c2 c3 c4 c5 c6 c7 c8 c9) (L,0)=some (L++E7 p,(p.length:Int),false):=by
 have key:=au (step:=ey l l3 p ((p.length:Nat):Int) c c2 c3 c4 c5 c6 c7 c8 c9) (fun j=>(L++E7 (p.take j),(j:Int))) p.length (e:=(L++E7 p,(p.length:Int),false)) (fun j hj=> ?_) ?_
 ·simpa [E7] using key
 ·simp only [ey]
  have hn:=KD (p.take j)
  rw [List.length_take] at hn
  rw [brd (by omega),bH hj,obs,kT (by simp only [List.length_append];omega),obs,ab _ (by omega) (by omega),bX hj,PO,List.append_assoc];rfl
 ·simp only [ey]
  rw [brn (by omega),decide_eq_false (by omega),List.take_length]
theorem a2e {l L:List UInt8} {p:List Int} {c c2 c3 c7 c8 c9 c11 c13 c14 c16:Int} {c10:List Ext} {c12 c15:List UInt8} {c4 c5 c6:List Entry} (hp:p.length≤5000) (hL:L.length≤1000):Loop (fj l p c c2 c3 c4 c5 c6 c7 c8 c9 c10 c11 c12 c13 c14 c15 c16) (L,0)=some (L++E7 p,(p.length:Int),false):=by
 have key:=au (step:=fj l p c c2 c3 c4 c5 c6 c7 c8 c9 c10 c11 c12 c13 c14 c15 c16) (fun j=>(L++E7 (p.take j),(j:Int))) p.length (e:=(L++E7 p,(p.length:Int),false)) (fun j hj=> ?_) ?_
 ·simpa [E7] using key
 ·simp only [fj]
  have hn:=KD (p.take j)
  rw [List.length_take] at hn
  rw [brd (by omega),bH hj,obs,uu,obs,aA (by simp only [List.length_append,bR];omega),ab _ (by omega) (by omega),bX hj,PO,List.append_assoc];rfl
 ·simp only [fj]
  rw [brn (by omega),decide_eq_false (by omega),List.take_length]
theorem M2 (s:System) (t:Setting) (p:List Int):(zD s t p).length=35+4*p.length:=by
 simp only [zD,List.length_append,yC,setT,List.length_cons,List.length_nil,KD]
end Go.AI.Fn
set_option linter.unusedVariables false
set_option linter.unusedSimpArgs false
namespace Go.AI.Fn
noncomputable def stC (s:System) (t:Setting) (p:List Int) (src:Source):Int:=
 if p.length>4096 then 2 else if oF s=false then 1 else if setB t=false then 1 else if p.all DU=false then 1 else if RV src=false then 1
 else if (p.length:Int)≠s.Publics then 17 else if 999800<mx src.At src.Count then 6 else 0
theorem Mz {s:System} {t:Setting} {p:List Int} {src:Source} (hA:s.A.length≤1048576) (hB:s.B.length≤1048576) (hC:s.C.length≤1048576) (hp:p.length≤1048576) (hs:src.Script.length≤1048576):
 oK s t p src=some (stC s t p src):=by
 unfold oK stC
 by_cases c1:p.length>4096
 ·rw [brd (by omega),if_pos c1]
 rw [brn (by omega),if_neg c1,CW (by omega) (by omega) (by omega),obs]
 cases h2:oF s
 ·rfl
 rw [Bool.not_true,an,if_neg (by simp),ti,obs]
 cases h3:setB t
 ·rfl
 rw [Bool.not_true,an,if_neg (by simp),a0Q (by omega),obs]
 cases h4:p.all DU
 ·rfl
 rw [Bool.not_true,an,if_neg (by simp),OU (by omega),obs]
 cases h5:RV src
 ·rfl
 have ho:=Mn.1 h5
 have h0:0≤mx src.At src.Count:=by have:=ho.4;have:=ho.6;unfold mx;split<;>assumption
 have h9:=b65 ho.5 ho.7
 rw [Bool.not_true,an,if_neg (by simp)]
 by_cases c6:(p.length:Int)=s.Publics
 ·rw [cE c6,if_neg (by simp [c6])]
  unfold oa
  rw [obs,ab _ (by omega) (by omega)]
  by_cases c7:999800<mx src.At src.Count
  ·rw [brd (by omega),if_pos c7]
  ·rw [brn (by omega),if_neg c7]
 ·rw [brb c6,if_pos c6]
theorem Uk {s:System} {t:Setting} {p:List Int} {src:Source} (hp:p.length≤1048576) (hs:src.Script.length≤1048576):
 B8 s t p src=some (stC s t p src):=by
 unfold B8 stC
 by_cases c1:p.length>4096
 ·rw [brd (by omega),if_pos c1]
 rw [brn (by omega),if_neg c1,CQ,obs]
 cases h2:oF s
 ·rfl
 rw [Bool.not_true,an,if_neg (by simp),sC,obs]
 cases h3:setB t
 ·rfl
 rw [Bool.not_true,an,if_neg (by simp),Vt (by omega),obs]
 cases h4:p.all DU
 ·rfl
 rw [Bool.not_true,an,if_neg (by simp),PB (by omega),obs]
 cases h5:RV src
 ·rfl
 have ho:=Mn.1 h5
 rw [Bool.not_true,an,if_neg (by simp)]
 by_cases c6:(p.length:Int)=s.Publics
 ·rw [cE c6,if_neg (by simp [c6])]
  unfold yo
  rw [ab _ (by omega) (by omega)]
  by_cases c7:999800<mx src.At src.Count
  ·rw [if_pos c7]
   by_cases c8:src.At>999800
   ·rw [brd (by omega)];rfl
   ·have:src.Count>999800:=by unfold mx at c7;split at c7<;>omega
    rw [brn (by omega),decide_eq_true (by omega)];rfl
  ·rw [if_neg c7]
   have:src.At≤999800∧src.Count≤999800:=by unfold mx at c7;split at c7<;>omega
   rw [brn (by omega),decide_eq_false (by omega)];rfl
 ·rw [brb c6,if_pos c6]
structure J4 (s:System) (t:Setting) (p:List Int) (src:Source):Prop where
 sy:oF s=true
 se:setB t=true
 pl:p.length≤4096
 pf:IY p
 pe:(p.length:Int)=s.Publics
 fw:Few src 999800
theorem b4i {s:System} {t:Setting} {p:List Int} {src:Source} (h:stC s t p src=0):J4 s t p src:=by
 unfold stC at h
 split at h
 ·cases h
 split at h
 ·cases h
 split at h
 ·cases h
 split at h
 ·cases h
 split at h
 ·cases h
 split at h
 ·cases h
 split at h
 ·cases h
 rename_i h1 h2 h3 h4 h5 h6 h7
 have ho:=Mn.1 (by simpa using h5)
 refine ⟨by simpa using h2,by simpa using h3,by omega,b6K.1 (by simpa using h4),by simpa using h6,ho, ?_, ?_⟩<;>(unfold mx at h7;split at h7<;>omega)
theorem Ki {s:System} {t:Setting} {p:List Int} {src:Source} (h:J4 s t p src):oU s t p=some (zD s t p):=by
 obtain ⟨_,_,_,hA,hB,hC⟩:=iv h.sy
 have hle:=h.pl
 have hl:=W5 s
 have hH:=yC (IU s)
 unfold oU
 rw [Ji hA hB hC,obs,oT (by simpa using by omega) (by simp),obs,show [IU s].flatten=IU s by simp,aA (by omega),aA (by simp only [List.length_append,List.length_cons,List.length_nil];omega),
  a8C (by omega) (by simp only [List.length_append,List.length_cons,List.length_nil];omega),obs];rfl
theorem P2 {s:System} {t:Setting} {p:List Int} {src:Source} (h:J4 s t p src):tf s t p src=some (tkM src (zD s t p)):=by
 obtain ⟨_,_,_,hA,hB,hC⟩:=iv h.sy
 have hle:=h.pl
 have hs2:=M2 s t p
 have hH:=yC (IU s)
 unfold tf
 rw [MK hA hB hC,obs,aA (by simp only [List.length_cons,List.length_nil];omega),a2e (by omega) (by simp only [List.length_append,List.length_cons,List.length_nil];omega),obs]
 dsimp only
 rw [show H (IU s)++[UInt8.ofInt t.Rate,UInt8.ofInt t.Queries,UInt8.ofInt t.Grind]++E7 p=zD s t p from rfl,oH h.fw.1.3 (by omega),obs]
theorem Ha {R T B:List K} {M:List (List Entry)} {k:Nat} {c7 c8 c9:Int} {c10 c11 c12:List Entry} {RR CC:Int} (hk:k<M.length) (hB:k<B.length) (hm:OkM (M.getD k []) RR CC) (hR:(R.length:Int)=RR) (hT:(T.length:Int)=CC):
 Loop (cU M (kv B) (kv R) (k:Int) c7 c8 c9 c10 c11 c12) (kv T,0)=some (kv ((M.getD k []).foldl (btS (B.getD k 0) R) T),((M.getD k []).length:Int),false):=by
 have hl:=hm.len
 have hMk:M[(k:Int).toNat]? =some (M.getD k []):=by rw [Int.toNat_natCast];simp [hk]
 generalize M.getD k []=l at*
 have key:=au (step:=cU M (kv B) (kv R) (k:Int) c7 c8 c9 c10 c11 c12) (fun j=>(kv ((l.take j).foldl (btS (B.getD k 0) R) T),(j:Int))) l.length (e:=(kv (l.foldl (btS (B.getD k 0) R) T),(l.length:Int),false)) (fun j hj=> ?_) ?_
 ·exact key
 ·simp only [cU]
  obtain ⟨hr,hc,_⟩:=hm.ent _ (List.getElem_mem hj)
  have hv:=a5W (hm.ent _ (List.getElem_mem hj))
  have hn:=kr (B.getD k 0) R (l.take j) T
  have hrow:atL (kv R) l[j].Row=some (R.getD l[j].Row.toNat 0).1:=by
   have:=qa (l:=R) (j:=l[j].Row.toNat) (by omega)
   rwa [Int.toNat_of_nonneg hr.1] at this
  rw [brd (by omega),brd (by omega),hMk,obs,brd (by omega),brd (by omega),brd (by omega),obs,bH hj,obs,brd hc.1,brd (by rw [aM,hn];omega),a0g (by omega),obs,qa hB,obs,Fl,obs,hrow,obs, ←xf hv,
   cT (kF _).2 (Subtype.property _),obs,cT (Subtype.property _) (l9 _ _),obs,gH (Subtype.property _) (l9 _ _),obs,brd hc.1,brd (by rw [aM,hn];omega),obs,ab _ (by omega) (by omega),bX hj,List.foldl_append]
  show some (Sum.inl ((kv _).set l[j].Col.toNat ((List.foldl (btS (B.getD k 0) R) T (l.take j)).getD l[j].Col.toNat 0+B.getD k 0*(kF l[j].Value*R.getD l[j].Row.toNat 0)).1,_))=_
  rw [a3O,show B.getD k 0*(kF l[j].Value*R.getD l[j].Row.toNat 0)=B.getD k 0*R.getD l[j].Row.toNat 0*kF l[j].Value by exact kg];rfl
 ·simp only [cU]
  rw [brd (by omega),brd (by omega),hMk,obs,brn (by omega),decide_eq_false (by omega),List.take_length]
theorem Py {s:System} (h:oF s=true) {p R:List K} {x y z:K} (hp:p.length=s.Rows.toNat) (hR:eqT (kv p)=kv R):tz s (kv p) (kv [x,y,z])=some (kv (btM s R x y z)):=by
 obtain ⟨hr,hc,_⟩:=iv h
 obtain ⟨mA,mB,mC,_⟩:=Uf h
 have hpw:=Ac s.Cols.toNat (by omega)
 have hRl:(R.length:Int)=((2^s.Rows.toNat:Nat):Int):=by
  have:=xP (kv p)
  rw [hR,aM,aM,hp] at this;omega
 have e2:s.Cols=((s.Cols.toNat:Nat):Int):=by omega
 have f2:aB .i64 1 s.Cols=((2^s.Cols.toNat:Nat):Int):=by conv=>lhs;rw [e2];rw [Nh (by omega)]
 have l0:=Ha (M:=[s.A,s.B,s.C]) (B:=[x,y,z]) (k:=0) (T:=List.replicate (2^s.Cols.toNat) 0) (R:=R) (c7:=s.Rows) (c8:=s.Cols) (c9:=s.Publics) (c10:=s.A) (c11:=s.B) (c12:=s.C) (by simp) (by simp) mA hRl (by rw [List.length_replicate])
 have l1:=Ha (M:=[s.A,s.B,s.C]) (B:=[x,y,z]) (k:=1) (T:=s.A.foldl (btS x R) (List.replicate (2^s.Cols.toNat) 0)) (R:=R) (c7:=s.Rows) (c8:=s.Cols) (c9:=s.Publics) (c10:=s.A) (c11:=s.B) (c12:=s.C) (by simp) (by simp) mB hRl (by rw [kr,List.length_replicate])
 have l2:=Ha (M:=[s.A,s.B,s.C]) (B:=[x,y,z]) (k:=2) (T:=s.B.foldl (btS y R) (s.A.foldl (btS x R) (List.replicate (2^s.Cols.toNat) 0))) (R:=R) (c7:=s.Rows) (c8:=s.Cols) (c9:=s.Publics) (c10:=s.A) (c11:=s.B) (c12:=s.C) (by simp) (by simp) mC hRl (by rw [kr,kr,List.length_replicate])
 simp only [List.getD_cons_zero,List.getD_cons_succ] at l0 l1 l2
 unfold tz
 rw [cw _ (by omega) (by omega),brd (by omega),f2,yL (by omega) (by omega) (by omega),Fj (AR p) (by rw [aM];omega),obs,hR]
 rw [Int.toNat_natCast,show Ext.mk 0 0=e0 from rfl, ←a0l]
 have key:=au (step:=gy [s.A,s.B,s.C] (kv [x,y,z]) (kv R) s.Rows s.Cols s.Publics s.A s.B s.C) (fun j=>(kv (match j with
  |0=>List.replicate (2^s.Cols.toNat) 0
  |1=>s.A.foldl (btS x R) (List.replicate (2^s.Cols.toNat) 0)
  |2=>s.B.foldl (btS y R) (s.A.foldl (btS x R) (List.replicate (2^s.Cols.toNat) 0))
  |_=>btM s R x y z),(j:Int))) 3 (e:=(kv (btM s R x y z),3,false)) (fun j hj=> ?_) (by rfl)
 ·have key':Loop (gy [s.A,s.B,s.C] (kv [x,y,z]) (kv R) s.Rows s.Cols s.Publics s.A s.B s.C) (kv (List.replicate (2^s.Cols.toNat) 0),0)=_:=key
  rw [key',obs]
 ·simp only [gy]
  rw [brd (by omega)]
  match j,hj with
  |0,_=>
   show (Loop (cU [s.A,s.B,s.C] (kv [x,y,z]) (kv R) ((0:Nat):Int) s.Rows s.Cols s.Publics s.A s.B s.C) (kv (List.replicate (2^s.Cols.toNat) 0),0)).bind _=_
   rw [l0,obs];rfl
  |1,_=>
   show (Loop (cU [s.A,s.B,s.C] (kv [x,y,z]) (kv R) ((1:Nat):Int) s.Rows s.Cols s.Publics s.A s.B s.C) (kv (s.A.foldl (btS x R) (List.replicate (2^s.Cols.toNat) 0)),0)).bind _=_
   rw [l1,obs];rfl
  |2,_=>
   show (Loop (cU [s.A,s.B,s.C] (kv [x,y,z]) (kv R) ((2:Nat):Int) s.Rows s.Cols s.Publics s.A s.B s.C) (kv (s.B.foldl (btS y R) (s.A.foldl (btS x R) (List.replicate (2^s.Cols.toNat) 0))),0)).bind _=_
   rw [l2,obs];rfl
theorem Sa (x y z:K):wB x.1 y.1 z.1=some (x+z*(y-x)).1:=by
 unfold wB
 rw [kS y.2 x.2,obs,db z.2 (t1 _ _),obs,gI x.2 (l9 _ _),obs];rfl
theorem b5N {L:List Ext} (h:dH L) (hl:L.length=3): ∃a b c:K,L=kv [a,b,c]:=by
 obtain ⟨l,rfl⟩:=b0W h
 rw [aM] at hl
 match l,hl with
 |[a,b,c],_=>exact ⟨a,b,c,rfl⟩
noncomputable def a59 (s:System) (p:List Int) (P:List K):K:=toK (b0d s p (kv P))
theorem Vg (s:System) (p:List Int) (P:List K):(a59 s p P).1=b0d s p (kv P):=gU (b0g _ _)
noncomputable def vx1 (s:System) (t:Setting) (p:List Int) (root:List UInt8) (src:Source):Source:=tkM (tkM src (zD s t p)) root
noncomputable def vg1 (s:System) (t:Setting) (p:List Int) (root:List UInt8) (G:List (List K)) (src:Source):Int×List K×K×Source:=vfM 2 bv0 G 0 0 (drS (vx1 s t p root src) s.Rows.toNat)
noncomputable def vx3 (s:System) (t:Setting) (p:List Int) (root:List UInt8) (G:List (List K)) (va vb vc:K) (src:Source):Source:=rsM (vg1 s t p root G src).2.2.2 [va,vb,vc]
noncomputable def vr (x:Source) (j:Nat):K:=toK ((drL x 3).getD j e0)
noncomputable def vg2 (s:System) (t:Setting) (p:List Int) (root:List UInt8) (G W:List (List K)) (va vb vc:K) (src:Source):Int×List K×K×Source:=
 vfM 1 bv0 W 0 (vr (vx3 s t p root G va vb vc src) 0*va+(vr (vx3 s t p root G va vb vc src) 1*vb+vr (vx3 s t p root G va vb vc src) 2*vc)) (drS (vx3 s t p root G va vb vc src) 3)
noncomputable def a0i (s:System) (p:List Int) (rx ry:List K) (r0 r1 r2 vw:K):K:=
 O3 (btM s (eqK rx) r0 r1 r2) (eqK ry)*(a59 s p (ry.take (s.Cols.toNat-1))+ry.getD (s.Cols.toNat-1) 0*(vw-a59 s p (ry.take (s.Cols.toNat-1))))
theorem PN (s:System) (p:List Int) (rx ry:List K) (r0 r1 r2 vw:K):a0i s p rx ry r0 r1 r2 vw=O3 (btM s (eqK rx) r0 r1 r2) (eqK ry)*(a59 s p (ry.take (s.Cols.toNat-1))+ry.getD (s.Cols.toNat-1) 0*(vw-a59 s p (ry.take (s.Cols.toNat-1)))):=rfl
noncomputable def b0O (s:System) (t:Setting) (p:List Int) (root:List UInt8) (G W:List (List K)) (va vb vc vw:K) (o:Opening) (src:Source):Int:=
 if (vg1 s t p root G src).1≠0 then (vg1 s t p root G src).1
 else if cmK 2 [eaK ((drL (vx1 s t p root src) s.Rows.toNat).map toK) (vg1 s t p root G src).2.1 1,va,vb,vc]≠(vg1 s t p root G src).2.2.1 then 11
 else if (vg2 s t p root G W va vb vc src).1≠0 then (vg2 s t p root G W va vb vc src).1
 else if a0i s p (vg1 s t p root G src).2.1 (vg2 s t p root G W va vb vc src).2.1 (vr (vx3 s t p root G va vb vc src) 0) (vr (vx3 s t p root G va vb vc src) 1) (vr (vx3 s t p root G va vb vc src) 2) vw≠(vg2 s t p root G W va vb vc src).2.2.1 then 11
 else chO (s.Cols.toNat-1) t.Rate.toNat t.Queries.toNat t.Grind.toNat root ((vg2 s t p root G W va vb vc src).2.1.take (s.Cols.toNat-1)) vw o (rsM (vg2 s t p root G W va vb vc src).2.2.2 [vw])
theorem Xg {L:List Ext} (h:dH L):kv (L.map toK)=L:=by
 rw [kv,List.map_map]
 conv=>rhs;rw [←List.map_id L]
 exact List.map_congr_left fun x hx=>gU (h x hx)
theorem b5M {x:Source} {k:Int} (h:Few x k) (hk:k≤999890):drL x 3=kv [vr x 0,vr x 1,vr x 2]:=by
 have ho:=Lk h hk (n:=3) (by omega)
 obtain ⟨a,b,c,e⟩:=b5N ho (jq x 3)
 rw [vr,vr,vr,e]
 show [a.1,b.1,c.1]=[(toK a.1).1,(toK b.1).1,(toK c.1).1]
 rw [gU a.2,gU b.2,gU c.2]
end Go.AI.Fn
set_option linter.unusedVariables false
set_option linter.unusedSimpArgs false
namespace Go.AI.Fn
structure T1 (s:System) (t:Setting) (root:List UInt8) (G W:List (List K)) (o:Opening):Prop where
 rt:root.length=32
 gl:G.length=s.Rows.toNat
 g4: ∀g∈G,g.length=4
 wl:W.length=s.Cols.toNat
 w3: ∀g∈W,g.length=3
 op:OkO o (s.Cols.toNat-1) t
variable {s:System} {t:Setting} {p:List Int} {src:Source} {root:List UInt8} {G W:List (List K)} {va vb vc vw:K} {o:Opening}
theorem Sf (h:J4 s t p src):Few (vx1 s t p root src) 999802:=((h.fw.take _).take _).mono (by omega)
theorem U3 (h:J4 s t p src):Few (drS (vx1 s t p root src) s.Rows.toNat) 999807:=by
 obtain ⟨hr,_⟩:=iv h.sy
 exact (BB (Sf h) (by omega) _ (by omega)).mono (by omega)
theorem SO (h:J4 s t p src) (q:T1 s t root G W o):Few (vg1 s t p root G src).2.2.2 999822:=by
 obtain ⟨hr,_⟩:=iv h.sy
 have:=q.gl
 exact (Ll (kind:=2) a4G G 0 0 _ _ (U3 h) (by omega)).mono (by omega)
theorem Tw (h:J4 s t p src) (q:T1 s t root G W o):Few (vx3 s t p root G va vb vc src) 999823:=(Few.take (SO h q) _).mono (by omega)
theorem QP (h:J4 s t p src) (q:T1 s t root G W o):Few (drS (vx3 s t p root G va vb vc src) 3) 999826:=(BB (Tw h q) (by omega) 3 (by omega)).mono (by omega)
theorem a04 (h:J4 s t p src) (q:T1 s t root G W o):Few (vg2 s t p root G W va vb vc src).2.2.2 999841:=by
 obtain ⟨_,hc,_⟩:=iv h.sy
 have:=q.wl
 exact (Ll (kind:=1) a4G W 0 _ _ _ (QP h q) (by omega)).mono (by omega)
theorem a0z (q:T1 s t root G W o) (z:(vg1 s t p root G src).1=0):(vg1 s t p root G src).2.1.length=s.Rows.toNat:=(LQ (kind:=2) (bv:=bv0) G 0 0 _ z).trans q.gl
theorem Zv (q:T1 s t root G W o) (z:(vg2 s t p root G W va vb vc src).1=0):(vg2 s t p root G W va vb vc src).2.1.length=s.Cols.toNat:=(LQ (kind:=1) (bv:=bv0) W 0 _ _ z).trans q.wl
theorem a46 (a b c x y z:K):O3 [a,b,c] [x,y,z]=a*x+(b*y+c*z):=by simp only [O3];exact kg
theorem VM (h:J4 s t p src) (q:T1 s t root G W o):
 ∃src',fJ s t p ⟨root,kvv G,va.1,vb.1,vc.1,kvv W,vw.1,o⟩ src=some (b0O s t p root G W va vb vc vw o src,src'):=by
 obtain ⟨hr,hc,hpb,_⟩:=iv h.sy
 obtain ⟨_,hpub⟩:=ZF h.sy
 have hpl:=h.pl
 have hpe:=h.pe
 have hst:=M2 s t p
 have hrt:=q.rt
 have f1:=Sf (root:=root) h
 have f2:=U3 (root:=root) h
 have f3:=Tw (va:=va) (vb:=vb) (vc:=vc) h q
 have f4:=QP (va:=va) (vb:=vb) (vc:=vc) h q
 have f5:=a04 (va:=va) (vb:=vb) (vc:=vc) h q
 have bj:=nK h.se
 have eR:((s.Rows.toNat:Nat):Int)=s.Rows:=by omega
 have hd1:=DM f1 (by omega) (n:=s.Rows.toNat) (by omega)
 rw [eR] at hd1
 have hv1:bi 2 (Ext.mk 0 0) (kvv G) (drS (vx1 s t p root src) s.Rows.toNat)=_:=Aa (kind:=2) (.inr rfl) (R:=G) (c:=0) f2 (by have:=q.gl;omega)
 rw [show vfM 2 bv0 G 0 0 (drS (vx1 s t p root src) s.Rows.toNat)=vg1 s t p root G src from rfl] at hv1
 unfold fJ
 dsimp only
 rw [Ki h,obs,oS h.fw.1.3 (by omega),obs,aA (by omega),oS (h.fw.take _).1.3 (by omega),obs]
 rw [show tkM (tkM src (zD s t p)) root=vx1 s t p root src from rfl,hd1,obs]
 dsimp only
 rw [hv1,obs]
 unfold b0O
 by_cases z1:(vg1 s t p root G src).1=0
 ·have hl1:=a0z q z1
  rw [if_pos z1,if_neg (not_not_intro z1)]
  dsimp only
  have htau:=Lk f1 (by omega) (n:=s.Rows.toNat) (by omega)
  have hea:E5 (drL (vx1 s t p root src) s.Rows.toNat) (kv (vg1 s t p root G src).2.1)=some (eaK ((drL (vx1 s t p root src) s.Rows.toNat).map toK) (vg1 s t p root G src).2.1 1).1:=by
   have:=a0r (A:=(drL (vx1 s t p root src) s.Rows.toNat).map toK) (B:=(vg1 s t p root G src).2.1) (by rw [List.length_map,jq,hl1]) (by rw [List.length_map,jq];omega)
   rwa [Xg htau] at this
  have hcm: ∀x:K,rY 2 [x.1,va.1,vb.1,vc.1]=some (cmK 2 [x,va,vb,vc]).1:=fun x=>RQ (kind:=2) (v:=[x,va,vb,vc]) (.inr rfl) rfl
  rw [cE rfl,hea,obs,hcm,obs,BK]
  by_cases z2:cmK 2 [eaK ((drL (vx1 s t p root src) s.Rows.toNat).map toK) (vg1 s t p root G src).2.1 1,va,vb,vc]=(vg1 s t p root G src).2.2.1
  ·have hd3:=DM f3 (by omega) (n:=3) (by omega)
   rw [show ((3:Nat):Int)=3 from rfl,b5M f3 (by omega)] at hd3
   have hab:bo [va.1,vb.1,vc.1] (vg1 s t p root G src).2.2.2=some (vx3 s t p root G va vb vc src):=Ln (g:=[va,vb,vc]) (SO h q).1 (by simp)
   have hdot: ∀a b c:K,Fi (kv [a,b,c]) [va.1,vb.1,vc.1]=some (a*va+(b*vb+c*vc)).1:=fun a b c=>by
    have:=Na (AR [a,b,c]) (AR [va,vb,vc]) (by simp [aM]) (by simp [aM])
    rw [Zd,a46] at this
    exact this
   have hv2:bi 1 (vr (vx3 s t p root G va vb vc src) 0*va+(vr (vx3 s t p root G va vb vc src) 1*vb+vr (vx3 s t p root G va vb vc src) 2*vc)).1 (kvv W) (drS (vx3 s t p root G va vb vc src) 3)=_:=Aa (kind:=1) (.inl rfl) (R:=W) f4 (by have:=q.wl;omega)
   rw [show vfM 1 bv0 W 0 (vr (vx3 s t p root G va vb vc src) 0*va+(vr (vx3 s t p root G va vb vc src) 1*vb+vr (vx3 s t p root G va vb vc src) 2*vc)) (drS (vx3 s t p root G va vb vc src) 3)=vg2 s t p root G W va vb vc src from rfl] at hv2
   rw [if_pos z2,if_neg (not_not_intro z2),hab,obs,hd3,obs]
   dsimp only
   rw [hdot,obs,hv2,obs]
   by_cases z3:(vg2 s t p root G W va vb vc src).1=0
   ·have hl2:=Zv q z3
    have htk:((vg2 s t p root G W va vb vc src).2.1.take (s.Cols.toNat-1)).length=s.Cols.toNat-1:=by rw [List.length_take];omega
    have hat:=qa (l:=(vg2 s t p root G W va vb vc src).2.1) (j:=s.Cols.toNat-1) (by omega)
    rw [show ((s.Cols.toNat-1:Nat):Int)=s.Cols-1 by omega] at hat
    rw [if_pos z3,if_neg (not_not_intro z3)]
    dsimp only
    have hbt:=JF h.sy (p:=(vg1 s t p root G src).2.1) (R:=eqK (vg1 s t p root G src).2.1) (x:=vr (vx3 s t p root G va vb vc src) 0) (y:=vr (vx3 s t p root G va vb vc src) 1) (z:=vr (vx3 s t p root G va vb vc src) 2) hl1 (Ns _)
    have hbl:=a06 s (eqK (vg1 s t p root G src).2.1) (vr (vx3 s t p root G va vb vc src) 0) (vr (vx3 s t p root G va vb vc src) 1) (vr (vx3 s t p root G va vb vc src) 2)
    have hel:=b0h (vg2 s t p root G W va vb vc src).2.1
    have hpw:=Ac s.Cols.toNat (by omega)
    rw [hl2] at hel
    have hdt:Fi (kv (btM s (eqK (vg1 s t p root G src).2.1) (vr (vx3 s t p root G va vb vc src) 0) (vr (vx3 s t p root G va vb vc src) 1) (vr (vx3 s t p root G va vb vc src) 2))) (kv (eqK (vg2 s t p root G W va vb vc src).2.1))=some (O3 (btM s (eqK (vg1 s t p root G src).2.1) (vr (vx3 s t p root G va vb vc src) 0) (vr (vx3 s t p root G va vb vc src) 1) (vr (vx3 s t p root G va vb vc src) 2)) (eqK (vg2 s t p root G W va vb vc src).2.1)).1:=by
     rw [Na (AR _) (AR _) (by rw [aM,aM];omega) (by rw [aM];omega),Zd]
    rw [cE rfl,ab (s.Cols-1) (by omega) (by omega),ju (by omega) (by omega) (by rw [aM];omega),obs,hat,obs,brd (by simp [aM])]
    rw [show XC (kv [vr (vx3 s t p root G va vb vc src) 0,vr (vx3 s t p root G va vb vc src) 1,vr (vx3 s t p root G va vb vc src) 2])=some ((vr (vx3 s t p root G va vb vc src) 0).1,(vr (vx3 s t p root G va vb vc src) 1).1,(vr (vx3 s t p root G va vb vc src) 2).1) from rfl,obs,hbt,obs,
     xV (AR _) (by rw [aM];omega),obs,Ns,hdt,obs,show (Int.toNat 0)=0 from rfl,List.drop_zero,show (s.Cols-1).toNat-0=s.Cols.toNat-1 by omega,a0f,
     Ot h.sy (by omega) h.pf (AR _) (by rw [aM];omega),obs, ←Vg,Sa,obs,db (Subtype.property _) (Subtype.property _),obs, ←K.mul_val, ←PN,BK]
    by_cases z4:a0i s p (vg1 s t p root G src).2.1 (vg2 s t p root G W va vb vc src).2.1 (vr (vx3 s t p root G va vb vc src) 0) (vr (vx3 s t p root G va vb vc src) 1) (vr (vx3 s t p root G va vb vc src) 2) vw=(vg2 s t p root G W va vb vc src).2.2.1
    ·obtain ⟨src',hck,_⟩:=XF (s:=rsM (vg2 s t p root G W va vb vc src).2.2.2 [vw]) (root:=root) (cl:=vw) (P:=(vg2 s t p root G W va vb vc src).2.1.take (s.Cols.toNat-1)) (nq:=t.Queries.toNat) (ρ:=t.Rate.toNat) (bits:=t.Grind.toNat) q.op htk (by omega) (by omega) (by omega) ((Few.take f5 _).mono (by omega):Few (rsM (vg2 s t p root G W va vb vc src).2.2.2 [vw]) 999842) (by omega)
     have hab2:bo [vw.1] (vg2 s t p root G W va vb vc src).2.2.2=some (rsM (vg2 s t p root G W va vb vc src).2.2.2 [vw]):=Ln (g:=[vw]) f5.1 (by simp)
     rw [if_pos z4,if_neg (not_not_intro z4),hab2,obs,hck,obs]
     exact ⟨_,rfl⟩
    ·rw [if_neg z4,if_pos z4]
     exact ⟨_,rfl⟩
   ·rw [if_neg z3,if_pos z3]
    dsimp only
    rw [brb z3]
    exact ⟨_,rfl⟩
  ·rw [if_neg z2,if_pos z2]
   exact ⟨_,rfl⟩
 ·rw [if_neg z1,if_pos z1]
  dsimp only
  rw [brb z1]
  exact ⟨_,rfl⟩
theorem b2r (D a b z:K):D*((1-z)*a+z*b)=D*(a+z*(b-a)):=by exact kg
theorem N9 (h:J4 s t p src) (q:T1 s t root G W o):
 lm s t p ⟨root,kvv G,va.1,vb.1,vc.1,kvv W,vw.1,o⟩ src=some (b0O s t p root G W va vb vc vw o src):=by
 obtain ⟨hr,hc,hpb,_⟩:=iv h.sy
 obtain ⟨_,hpub⟩:=ZF h.sy
 have hpl:=h.pl
 have hpe:=h.pe
 have hrt:=q.rt
 have f1:=Sf (root:=root) h
 have f2:=U3 (root:=root) h
 have f3:=Tw (va:=va) (vb:=vb) (vc:=vc) h q
 have f4:=QP (va:=va) (vb:=vb) (vc:=vc) h q
 have f5:=a04 (va:=va) (vb:=vb) (vc:=vc) h q
 have bj:=nK h.se
 have eR:((s.Rows.toNat:Nat):Int)=s.Rows:=by omega
 have hd1:=GB f1 (by omega) (n:=s.Rows.toNat) (by omega)
 rw [eR] at hd1
 have hv1:gR 2 (Ext.mk 0 0) (kvv G) (G.length:Int) (drS (vx1 s t p root src) s.Rows.toNat)=_:=IA (kind:=2) (.inr rfl) (R:=G) (c:=0) f2 (by have:=q.gl;omega)
 rw [show vfM 2 bv0 G 0 0 (drS (vx1 s t p root src) s.Rows.toNat)=vg1 s t p root G src from rfl,q.gl,eR] at hv1
 unfold lm
 dsimp only
 rw [P2 h,obs,oH (h.fw.take _).1.3 (by omega),obs]
 rw [show tkM (tkM src (zD s t p)) root=vx1 s t p root src from rfl,hd1,obs]
 dsimp only
 rw [hv1,obs]
 unfold b0O
 by_cases z1:(vg1 s t p root G src).1=0
 ·have hl1:=a0z q z1
  rw [if_pos z1,if_neg (not_not_intro z1)]
  dsimp only
  have htau:=Lk f1 (by omega) (n:=s.Rows.toNat) (by omega)
  have hea:mS (drL (vx1 s t p root src) s.Rows.toNat) (kv (vg1 s t p root G src).2.1)=some (eaK ((drL (vx1 s t p root src) s.Rows.toNat).map toK) (vg1 s t p root G src).2.1 1).1:=by
   have:=a0k (A:=(drL (vx1 s t p root src) s.Rows.toNat).map toK) (B:=(vg1 s t p root G src).2.1) (by rw [List.length_map,jq,hl1]) (by rw [List.length_map,jq];omega)
   rwa [Xg htau] at this
  have hcm: ∀x:K,jm 2 [x.1,va.1,vb.1,vc.1]=some (cmK 2 [x,va,vb,vc]).1:=fun x=>Sz (kind:=2) (v:=[x,va,vb,vc]) (.inr rfl) rfl
  rw [cE rfl,hea,obs,hcm,obs,BK]
  by_cases z2:cmK 2 [eaK ((drL (vx1 s t p root src) s.Rows.toNat).map toK) (vg1 s t p root G src).2.1 1,va,vb,vc]=(vg1 s t p root G src).2.2.1
  ·have hd3:=GB f3 (by omega) (n:=3) (by omega)
   rw [show ((3:Nat):Int)=3 from rfl,b5M f3 (by omega)] at hd3
   have hab:gM (vg1 s t p root G src).2.2.2 [va.1,vb.1,vc.1]=some (vx3 s t p root G va vb vc src):=Kz (g:=[va,vb,vc]) (SO h q).1 (by simp)
   have hv2:gR 1 (vr (vx3 s t p root G va vb vc src) 0*va+(vr (vx3 s t p root G va vb vc src) 1*vb+vr (vx3 s t p root G va vb vc src) 2*vc)).1 (kvv W) (W.length:Int) (drS (vx3 s t p root G va vb vc src) 3)=_:=IA (kind:=1) (.inl rfl) (R:=W) f4 (by have:=q.wl;omega)
   rw [show vfM 1 bv0 W 0 (vr (vx3 s t p root G va vb vc src) 0*va+(vr (vx3 s t p root G va vb vc src) 1*vb+vr (vx3 s t p root G va vb vc src) 2*vc)) (drS (vx3 s t p root G va vb vc src) 3)=vg2 s t p root G W va vb vc src from rfl,q.wl,show ((s.Cols.toNat:Nat):Int)=s.Cols by omega] at hv2
   have k0: ∀a b c:K,atL (kv [a,b,c]) 0=some a.1:=fun _ _ _=>rfl
   have k1: ∀a b c:K,atL (kv [a,b,c]) 1=some b.1:=fun _ _ _=>rfl
   have k2: ∀a b c:K,atL (kv [a,b,c]) 2=some c.1:=fun _ _ _=>rfl
   have hm: ∀a b:K,bN a.1 b.1=some (a*b).1:=fun a b=>cT a.2 b.2
   have ha: ∀a b:K,eF a.1 b.1=some (a+b).1:=fun a b=>gH a.2 b.2
   rw [if_pos z2,if_neg (not_not_intro z2),hab,obs,hd3,obs]
   dsimp only
   rw [k0,obs,hm,obs,k1,obs,hm,obs,k2,obs,hm,obs,ha,obs,ha,obs,hv2,obs]
   by_cases z3:(vg2 s t p root G W va vb vc src).1=0
   ·have hl2:=Zv q z3
    have htk:((vg2 s t p root G W va vb vc src).2.1.take (s.Cols.toNat-1)).length=s.Cols.toNat-1:=by rw [List.length_take];omega
    have hat:=qa (l:=(vg2 s t p root G W va vb vc src).2.1) (j:=s.Cols.toNat-1) (by omega)
    rw [show ((s.Cols.toNat-1:Nat):Int)=s.Cols-1 by omega] at hat
    rw [if_pos z3,if_neg (not_not_intro z3)]
    dsimp only
    have hbt:=Py h.sy (p:=(vg1 s t p root G src).2.1) (R:=eqK (vg1 s t p root G src).2.1) (x:=vr (vx3 s t p root G va vb vc src) 0) (y:=vr (vx3 s t p root G va vb vc src) 1) (z:=vr (vx3 s t p root G va vb vc src) 2) hl1 (Ns _)
    have hbl:=a06 s (eqK (vg1 s t p root G src).2.1) (vr (vx3 s t p root G va vb vc src) 0) (vr (vx3 s t p root G va vb vc src) 1) (vr (vx3 s t p root G va vb vc src) 2)
    have hpw:=Ac s.Cols.toNat (by omega)
    have hdt:xr (kv (btM s (eqK (vg1 s t p root G src).2.1) (vr (vx3 s t p root G va vb vc src) 0) (vr (vx3 s t p root G va vb vc src) 1) (vr (vx3 s t p root G va vb vc src) 2))) (kv (vg2 s t p root G W va vb vc src).2.1)=some (O3 (btM s (eqK (vg1 s t p root G src).2.1) (vr (vx3 s t p root G va vb vc src) 0) (vr (vx3 s t p root G va vb vc src) 1) (vr (vx3 s t p root G va vb vc src) 2)) (eqK (vg2 s t p root G W va vb vc src).2.1)).1:=by
     rw [ZJ (AR _) (AR _) (by rw [aM];omega) (by rw [aM,aM,hl2];omega),Ns,Zd]
    have hls: ∀a:K,jp a.1=some (1-a).1:=fun a=>BA a.2
    rw [cE rfl,ab (s.Cols-1) (by omega) (by omega),ju (by omega) (by omega) (by rw [aM];omega),obs,hat,obs,hls,obs,show (Int.toNat 0)=0 from rfl,List.drop_zero,show (s.Cols-1).toNat-0=s.Cols.toNat-1 by omega,a0f,
     UD h.sy (by omega) h.pf (AR _) (by rw [aM];omega),obs, ←Vg,hm,obs,hm,obs,ha,obs,hbt,obs,hdt,obs,hm,obs,b2r, ←PN,BK]
    by_cases z4:a0i s p (vg1 s t p root G src).2.1 (vg2 s t p root G W va vb vc src).2.1 (vr (vx3 s t p root G va vb vc src) 0) (vr (vx3 s t p root G va vb vc src) 1) (vr (vx3 s t p root G va vb vc src) 2) vw=(vg2 s t p root G W va vb vc src).2.2.1
    ·obtain ⟨src',hck,_⟩:=Yv (s:=rsM (vg2 s t p root G W va vb vc src).2.2.2 [vw]) (root:=root) (cl:=vw) (P:=(vg2 s t p root G W va vb vc src).2.1.take (s.Cols.toNat-1)) (nq:=t.Queries.toNat) (ρ:=t.Rate.toNat) (bits:=t.Grind.toNat) q.op htk (by omega) (by omega) (by omega) ((Few.take f5 _).mono (by omega):Few (rsM (vg2 s t p root G W va vb vc src).2.2.2 [vw]) 999842) (by omega)
     rw [show ((s.Cols.toNat-1:Nat):Int)=s.Cols-1 by omega] at hck
     have hab2:gM (vg2 s t p root G W va vb vc src).2.2.2 [vw.1]=some (rsM (vg2 s t p root G W va vb vc src).2.2.2 [vw]):=Kz (g:=[vw]) f5.1 (by simp)
     rw [if_pos z4,if_neg (not_not_intro z4),hab2,obs,hck,obs]
    ·rw [if_neg z4,if_pos z4]
   ·rw [if_neg z3,if_pos z3]
    dsimp only
    rw [brb z3]
  ·rw [if_neg z2,if_pos z2]
 ·rw [if_neg z1,if_pos z1]
  dsimp only
  rw [brb z1]
end Go.AI.Fn
set_option linter.unusedVariables false
set_option linter.unusedSimpArgs false
namespace Go.AI.Fn
theorem a31 {p:Proof} {s:System} {t:Setting} (h:okP p s t=true):
 ∃(G W:List (List K)) (va vb vc vw:K),p=⟨p.Root,kvv G,va.1,vb.1,vc.1,kvv W,vw.1,p.Open⟩∧T1 s t p.Root G W p.Open:=by
 unfold okP yV at h
 simp only [Bool.and_eq_true,decide_eq_true_eq,List.all_eq_true,h32,F2] at h
 obtain ⟨hs,ht,hr,⟨hg,hg2⟩,ha,hb,hc,⟨hw,hw2⟩,hv,ho⟩:=h
 obtain ⟨hR,hC,_⟩:=iv hs
 have lift: ∀(R:List (List Ext)) (n:Nat),(∀x∈R,pj (n:Int) x=true)→R=kvv (R.map fun g=>g.map toK)∧ ∀g∈(R.map fun g=>g.map toK),g.length=n:=fun R n hR=>by
  have hx: ∀x∈R,x.length=n∧dH x:=fun x hx=>by
   have:=hR x hx
   simp only [pj,Bool.and_eq_true,decide_eq_true_eq] at this
   exact ⟨by omega,a8s.1 this.2⟩
  refine ⟨?_,fun g hg=> ?_⟩
  ·rw [kvv,List.map_map]
   conv=>lhs;rw [←List.map_id R]
   exact List.map_congr_left fun x h=>(Xg (hx x h).2).symm
  ·obtain ⟨x,h,rfl⟩:=List.mem_map.1 hg
   rw [List.length_map];exact (hx x h).1
 obtain ⟨eG,lG⟩:=lift p.Gates 4 hg2
 obtain ⟨eW,lW⟩:=lift p.Wires 3 hw2
 refine ⟨p.Gates.map fun g=>g.map toK,p.Wires.map fun g=>g.map toK,toK p.VA,toK p.VB,toK p.VC,toK p.VW, ?_,hr,by rw [List.length_map];omega,lG,by rw [List.length_map];omega,lW, ?_⟩
 ·rw [←eG, ←eW,gU ha,gU hb,gU hc,gU hv]
 ·exact a0S (by rw [show ((s.Cols.toNat-1:Nat):Int)=s.Cols-1 by omega];exact ho)
theorem Vk {s:System} {t:Setting} {p:List Int} {q:Proof} {src:Source} (h:J4 s t p src) (hq:okP q s t=true):
 ∃c src',fJ s t p q src=some (c,src')∧lm s t p q src=some c:=by
 obtain ⟨G,W,va,vb,vc,vw,e,hp⟩:=a31 hq
 obtain ⟨src',h1⟩:=VM (va:=va) (vb:=vb) (vc:=vc) (vw:=vw) h hp
 rw [e]
 exact ⟨_,_,h1,N9 h hp⟩
theorem WZ {s:System} {t:Setting} {p:List Int} {q:Proof} {src:Source} (hA:s.A.length≤1048576) (hB:s.B.length≤1048576) (hC:s.C.length≤1048576) (hp:p.length≤1048576) (hq:SzP q) (hs:src.Script.length≤1048576):
 ∃r,Ar s t p q src=some r∧AV s t p q src=some r:=by
 unfold Ar AV
 rw [Mz hA hB hC hp hs,obs]
 by_cases hl:p.length>4096
 ·rw [brd (by omega)]
  have:stC s t p src=2:=by unfold stC;rw [if_pos hl]
  rw [this,brb (by omega)]
  exact ⟨_,rfl,rfl⟩
 rw [brn (by omega),Uk hp hs,obs]
 by_cases h0:stC s t p src=0
 ·have h:=b4i h0
  have h64:=h.fw.1.1
  rw [cE h0,cE h0]
  unfold xg
  rw [RD hq hA hB hC,obs,QV hq,obs]
  cases hk:okP q s t with
  |false=>exact ⟨_,rfl,rfl⟩
  |true=>
   obtain ⟨c,src',h1,h2⟩:=Vk h hk
   rw [Bool.not_true,an,an,W9 (by omega),obs,h1,h2]
   exact ⟨_,rfl,rfl⟩
 ·rw [brb h0,brb h0]
  exact ⟨_,rfl,rfl⟩
theorem P9 {a:Source} {left:Int} (ha:bdSource a) (h0: -1≤left) (h1:left≤1048576): ∃r,ta a left=some r∧ -1≤r∧r≤1048576∧(0≤r→a.Script.length≤1048576):=by
 obtain ⟨b0,_,b1,_⟩:=ha
 have b1':a.State.length≤9223372036854775807:=b1
 obtain ⟨r,h2,h3,h4,h5⟩:=Ah b0.1 h0 h1
 unfold ta
 rw [h2,obs]
 by_cases c:r<0
 ·rw [brd c];exact ⟨_,rfl,by omega,by omega,by omega⟩
 ·rw [brn c,ab _ (by omega) (by omega)]
  by_cases d:r-(a.State.length:Int)<0
  ·rw [brd d];exact ⟨_,rfl,by omega,by omega,by omega⟩
  ·rw [brn d];exact ⟨_,rfl,by omega,by omega,fun _=>h5 (by omega)⟩
theorem NR {a:Source} (h:a.Script.length≤1048576):kQ a=some a:=by
 unfold kQ
 rw [A6 h,obs]
theorem JB {a:Source} (h:a.Script.length≤1048576):sv a a=some true:=by
 unfold sv
 rw [uM h,obs,Bool.not_true,an,cE rfl,KF (by simp),cE rfl]
end Go.AI.Fn
set_option linter.unusedVariables false
namespace Go.AI.Fn
theorem law_FnExactVerify (s:System) (t:Setting) (a:List Int) (p:Proof) (src:Source) (hs:bdSystem s) (ht:bdSetting t) (ha:bdL bdI a) (hp:bdProof p) (hsr:bdSource src):ko s t a p src=some true:=by
 obtain ⟨_,_,_,⟨hA,_⟩,⟨hB,_⟩,⟨hC,_⟩⟩:=hs
 unfold ko
 by_cases c1:((a.length:Nat):Int)>1048576
 ·rw [brd c1]
 rw [brn c1]
 obtain ⟨r,e1,r0,r1,h1⟩:=b4N (left:=1048576) hA hB hC (by omega) (by omega)
 rw [e1,obs]
 by_cases c2:r<0
 ·rw [brd c2]
 rw [brn c2]
 obtain ⟨q,e2,q0,q1,h2⟩:=RG hp r0 r1
 rw [e2,obs]
 by_cases c3:q<0
 ·rw [brd c3]
 rw [brn c3]
 obtain ⟨z,e3,z0,z1,h3⟩:=P9 hsr q0 q1
 rw [e3,obs]
 by_cases c4:z<0
 ·rw [brd c4]
 rw [brn c4]
 obtain ⟨hA',hB',hC'⟩:=h1 (by omega)
 have hP:=h2 (by omega)
 have hS:=h3 (by omega)
 obtain ⟨x,i1,i2⟩:=WZ (t:=t) (p:=a) (q:=p) (src:=src) hA' hB' hC' (by omega) hP hS
 unfold oy
 rw [b1T hA' hB' hC',Vw (by omega),QL hP,NR hS]
 simp only [obs]
 rw [i1,i2]
 simp only [obs]
 rw [b4n hA' hB' hC',Pa (by omega),MP hP,JB hS]
 simp only [obs,Bool.not_true,an]
 rw [KF (by simp),cE rfl]
end Go.AI.Fn
