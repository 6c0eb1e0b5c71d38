/- Openings of right lengths: program and reference say alike, of all of them. -/
import Derived.Test.YtdmhkkcihecndaaGreatPv0
set_option linter.unusedVariables false
set_option linter.unusedSimpArgs false
namespace Go.AI.Fn
def QN (n:Nat) (p:Nat→Bool):Bool:=(List.range n).all p
theorem oG {n:Nat} {p:Nat→Bool}:QN n p=true↔ ∀j,j<n→p j=true:=by simp [QN]
theorem Ax {n:Nat} {p:Nat→Bool} (h: ∀j,j<n→p j=true):QN n p=true:=oG.2 h
theorem a1Q {n:Nat} {p:Nat→Bool} {k:Nat} (hk:k<n) (h:p k=false):QN n p=false:=by
 refine Bool.eq_false_iff.2 fun e=> ?_
 rw [oG.1 e k hk] at h;cases h
theorem yY {E1 E2 R:Type} {step:Int→Option (Int⊕(E1⊕E2))} (n:Nat) (p:Nat→Bool) (e1:Nat→E1) {e2:E2} {f:E1→Option R} {g:E2→Option R} {x y:R} (hs: ∀k,k<n→p k=true→step (k:Int)=some (.inl ((k+1:Nat):Int)))
 (hx: ∀k,k<n→p k=false→step (k:Int)=some (.inr (.inl (e1 k)))) (he:step (n:Int)=some (.inr (.inr e2))) (hf: ∀e,f e=some x) (hg:g e2=some y):
 (Loop step 0).bind (alt f g)=some (if QN n p=true then y else x):=by
 rcases vr (step:=step) (fun k=>(k:Int)) n p (fun k=> .inl (e1 k)) hs hx he with ⟨h1,h2⟩|⟨k,hk,h1,_,h2⟩
 ·have h2':Loop step 0=_:=h2
  rw [h2',if_pos (Ax h1),Option.bind_some,mw,hg]
 ·have h2':Loop step 0=_:=h2
  rw [h2',if_neg (by rw [a1Q hk h1];decide),Option.bind_some,ld,hf]
theorem U4 {b:Bool}:(if b=true then true else false)=b:=by cases b<;>rfl
def h32 (x:List UInt8):Bool:=decide (x.length=32)
theorem Gs {l:List (List UInt8)} (hl:l.length≤1099511627776):dq l=some (l.all h32):=by
 unfold dq aO aS
 rw [ws (step:=aM l ((l.length:Nat):Int)) (p:=fun x=> !h32 x) (f:=dG) hl (fun x _=>by unfold dG;rw [zO];rfl) (fun t=>rfl),Option.bind_some,sN]
def zx (size:Int) (g:List Ext):Bool:=decide ((g.length:Int)=size)&&g.all pG
def GZ (R:List (List Ext)) (many size:Int):Bool:=decide ((R.length:Int)=many)&&R.all (zx size)
theorem Ml {α C:Type} {p:α→Bool} {f:α→C→Option (Bool×C)} {l:List α} {c:C} (hl:l.length≤1099511627776) (hf: ∀x∈l,f x c=some (p x,c)) {step:Int×C→Option ((Int×C)⊕((Int×C)⊕(Int×Bool×C)))}
 (hs: ∀t,step (t,c)=br (decide (t<((l.length:Nat):Int))) ((atL l t).bind fun x=>(f x c).bind fun r=>br r.1 (some (.inr (.inl (t,r.2)))) (some (.inl (IntKind.wrap .i64 (t+1),r.2)))) (some (.inr (.inr (t,decide (t<((l.length:Nat):Int)),c))))):
 ∃n:Int,Loop step (0,c)=some (if l.any p then .inl (n,c) else .inr (n,false,c))∧0≤n:=by
 have key:=vr (step:=step) (fun k=>((k:Int),c)) l.length (fun k=> !((l[k]?.map p).getD false)) (fun k=> .inl ((k:Int),c)) (e:= .inr ((l.length:Int),false,c)) (fun k hk hp=>by
  have hb:p l[k]=false:=by simpa [hk] using hp
  rw [hs,brd (by omega),bQ hk,Option.bind_some,hf _ (List.getElem_mem hk),Option.bind_some,hb,aj,aa _ (by omega) (by omega)];rfl)
  (fun k hk hp=>by
   have hb:p l[k]=true:=by simpa [hk] using hp
   rw [hs,brd (by omega),bQ hk,Option.bind_some,hf _ (List.getElem_mem hk),Option.bind_some,hb,aQ])
  (by rw [hs,brn (by omega),decide_eq_false (by omega)])
 rcases key with ⟨h1,h2⟩|⟨k,hk,h1,_,h2⟩
 ·exact ⟨(l.length:Int),by rw [Wh (fun k hk=>by simpa [hk] using h1 k hk)];exact h2,by omega⟩
 ·exact ⟨(k:Int),by rw [Mi hk (by simpa [hk] using h1)];exact h2,by omega⟩
theorem MH {R:List (List Ext)} {many size:Int} (hl:R.length≤1099511627776) (hR: ∀g∈R,g.length≤1099511627776):ov R many size=some (GZ R many size):=by
 unfold ov GZ
 by_cases h:(R.length:Int)=many
 ·rw [bre h,decide_eq_true h]
  obtain ⟨n,e,hn⟩:=Ml (c:=size) (p:=fun g=> !zx size g) (f:=kB) (l:=R) hl (fun x hx=>by
   unfold kB zx
   by_cases h2:(x.length:Int)=size
   ·rw [ff h2,qW (hR x hx),Option.bind_some,decide_eq_true h2];rfl
   ·rw [brb h2,decide_eq_false h2];rfl) (step:=bg R ((R.length:Nat):Int)) (fun t=>rfl)
  unfold bj bu
  rw [e, ←sN (zx size)]
  cases (R.any fun g=> !zx size g)
  ·rfl
  ·simp only [if_pos,Option.bind_some,ld,decide_eq_true (show n≥0 from hn)];rfl
 ·rw [zh h,decide_eq_false h];rfl
def Rk (vars:Int) (t:Setting) (q:aB) (j:Nat):Bool:=decide (((q.Paths.getD j []).length:Int)=vars+t.Rate-1-j)&&(q.Paths.getD j []).all h32
def B4 (vars:Int) (t:Setting) (q:aB):Bool:=decide ((q.Pairs.length:Int)=2*vars)&&(q.Pairs.all pG&&(decide ((q.Paths.length:Int)=vars)&&QN vars.toNat (Rk vars t q)))
def okO (o:aC) (vars:Int) (t:Setting):Bool:=decide (1≤vars∧vars≤6)&&(setB t&&(GZ o.Rounds vars 3&&(decide ((o.Roots.length:Int)=vars-1)&&(o.Roots.all h32&&(pG o.Last&&(decide (0≤o.Nonce∧o.Nonce≤65535)&&(decide ((o.Queries.length:Int)=t.Queries)&&o.Queries.all (B4 vars t))))))))
structure SmO (o:aC):Prop where
 rn:o.Rounds.length≤1099511627776
 rr: ∀g∈o.Rounds,g.length≤1099511627776
 ro:o.Roots.length≤1099511627776
 qn:o.Queries.length≤1099511627776
 qp: ∀q∈o.Queries,q.Pairs.length≤1099511627776
 qt: ∀q∈o.Queries, ∀p∈q.Paths,p.length≤1099511627776
theorem Cx {l:List (List (List UInt8))} {j:Nat} (h:j<l.length):atL l (j:Int)=some (l.getD j []):=by rw [bQ h];simp [h]
theorem Qs {l:List (List (List UInt8))} {j:Nat} (h:j<l.length):l.getD j []∈l:=by simp [h]
theorem Q9 {q:aB} {vars:Int} {t:Setting} (hv:1≤vars∧vars≤6) (ht:setB t=true) (hp:q.Pairs.length≤1099511627776) (hq: ∀p∈q.Paths,p.length≤1099511627776):qY q vars t=some (B4 vars t q):=by
 have h2:=mu ht
 unfold qY B4
 rw [aa _ (by omega) (by omega)]
 by_cases c1:(q.Pairs.length:Int)=2*vars
 ·rw [ff c1,decide_eq_true c1,qW hp,Option.bind_some]
  cases hb:q.Pairs.all pG
  ·rfl
  ·rw [Bool.not_true,aj]
   by_cases c2:(q.Paths.length:Int)=vars
   ·rw [ff c2,decide_eq_true c2]
    have hn:vars.toNat=q.Paths.length:=by omega
    have key:=yY (step:=gg vars q.Paths ((q.Paths.length:Nat):Int) q.Pairs q.Paths t.Rate t.Queries t.Grind) vars.toNat (Rk vars t q) (fun _=>()) (e2:=((vars.toNat:Int),false)) (f:=fun _=>some false) (g:=fun _=>some true) (x:=false) (y:=true) (fun k hk hp=>by
     have hm:=hq _ (Qs (l:=q.Paths) (j:=k) (by omega))
     simp only [Rk,Bool.and_eq_true,decide_eq_true_eq] at hp
     simp only [gg]
     rw [brd (by omega),Cx (by omega),Option.bind_some,aa (vars+t.Rate) (by omega) (by omega),aa (vars+t.Rate-1) (by omega) (by omega),aa (vars+t.Rate-1-k) (by omega) (by omega),ff hp.1,Gs hm,Option.bind_some,hp.2,Bool.not_true,aj,aa _ (by omega) (by omega)];rfl) (fun k hk hp=>by
     have hm:=hq _ (Qs (l:=q.Paths) (j:=k) (by omega))
     simp only [gg]
     rw [brd (by omega),Cx (by omega),Option.bind_some,aa (vars+t.Rate) (by omega) (by omega),aa (vars+t.Rate-1) (by omega) (by omega),aa (vars+t.Rate-1-k) (by omega) (by omega)]
     by_cases c3:((q.Paths.getD k []).length:Int)=vars+t.Rate-1-k
     ·rw [ff c3,Gs hm,Option.bind_some]
      rw [Rk,decide_eq_true c3,Bool.true_and] at hp
      rw [hp];rfl
     ·rw [brb c3]) (by
     simp only [gg]
     rw [brn (by omega),decide_eq_false (by omega)]) (fun _=>rfl) rfl
    rw [U4] at key
    rw [key];rfl
   ·rw [brb c2,decide_eq_false c2];rfl
 ·rw [brb c1,decide_eq_false c1];rfl
theorem ze {o:aC} {vars:Int} {t:Setting} (S:SmO o):lH o vars t=some (okO o vars t):=by
 unfold lH okO
 rw [o4,Option.bind_some]
 by_cases hv:1≤vars∧vars≤6
 ·rw [decide_eq_true hv,decide_eq_true hv.1,decide_eq_true hv.2,Bool.and_self,aQ,lY,Option.bind_some,Bool.true_and]
  cases ht:setB t
  ·rfl
  ·rw [aQ,MH S.rn S.rr,Option.bind_some,Bool.true_and]
   cases hr:GZ o.Rounds vars 3
   ·rfl
   ·rw [aQ,aa _ (by omega) (by omega),Bool.true_and]
    by_cases c1:(o.Roots.length:Int)=vars-1
    ·rw [bre c1,decide_eq_true c1,Gs S.ro,Option.bind_some,Bool.true_and]
     cases hh:o.Roots.all h32
     ·rfl
     ·rw [aQ,rx,Option.bind_some,Bool.true_and]
      cases hl:pG o.Last
      ·rfl
      ·rw [aQ,o4,Option.bind_some,Bool.true_and]
       by_cases c2:0≤o.Nonce∧o.Nonce≤65535
       ·rw [decide_eq_true c2,decide_eq_true c2.1,decide_eq_true c2.2,Bool.and_self,aQ,Bool.true_and]
        by_cases c3:(o.Queries.length:Int)=t.Queries
        ·rw [bre c3,decide_eq_true c3,Bool.true_and]
         obtain ⟨n,e,hn⟩:=Ml (c:=(vars,t.Rate,t.Queries,t.Grind)) (p:=fun q=> !B4 vars t q) (f:=fun x c=>(bL x c.1 ⟨c.2.1,c.2.2.1,c.2.2.2⟩).bind fun r=>some (r.1,r.2.1,r.2.2.Rate,r.2.2.Queries,r.2.2.Grind)) (l:=o.Queries) S.qn (fun x hx=>by
          unfold bL nC
          show ((((qY x vars t).bind _).bind _).bind _)=_
          rw [Q9 hv ht (S.qp x hx) (S.qt x hx)];rfl) (step:=aw o.Queries ((o.Queries.length:Nat):Int)) (fun z=>by
          show aw _ _ (z,vars,t.Rate,t.Queries,t.Grind)=_
          simp only [aw]
          congr 1
          cases atL o.Queries z with
          |none=>rfl
          |some x=>
           simp only [Option.bind_some]
           cases bL x vars ⟨t.Rate,t.Queries,t.Grind⟩<;>rfl)
         unfold dE aI aJ
         rw [e, ←sN (B4 vars t)]
         cases (o.Queries.any fun q=> !B4 vars t q)
         ·rfl
         ·simp only [if_pos,Option.bind_some,ld,decide_eq_true (show n≥0 from hn)]
        ·rw [zh c3,decide_eq_false c3];rfl
       ·rw [decide_eq_false c2]
        have:(decide (0≤o.Nonce)&&decide (o.Nonce≤65535))=false:=by
         rw [←Bool.decide_and];exact decide_eq_false c2
        rw [this];rfl
    ·rw [zh c1,decide_eq_false c1];rfl
 ·rw [decide_eq_false hv]
  have:(decide (1≤vars)&&decide (vars≤6))=false:=by
   rw [←Bool.decide_and];exact decide_eq_false hv
  rw [this];rfl
end Go.AI.Fn
set_option linter.unusedVariables false
set_option linter.unusedSimpArgs false
namespace Go.AI.Fn
theorem AJ {α:Type} (l:List α) (d:α) (P:α→Bool):QN l.length (fun k=>P (l.getD k d))=l.all P:=by
 refine Bool.eq_iff_iff.2 ⟨fun h=>List.all_eq_true.2 fun x hx=> ?_,fun h=>Ax fun k hk=> ?_⟩
 ·obtain ⟨k,hk,rfl⟩:=List.getElem_of_mem hx
  have:=oG.1 h k hk
  simpa [hk] using this
 ·have:=List.all_eq_true.1 h _ (List.getElem_mem hk)
  simpa [hk] using this
theorem nX {α:Type} {l:List α} {d:α} {j:Nat} (h:j<l.length):atL l (j:Int)=some (l.getD j d):=by rw [bQ h];simp [h]
theorem K6 {a t9:Int} {c30:List (List Ext)} {c31:List (List UInt8)} {c32 c33 c34:Int} {c35:List aB} {c36 c37 c38:Int} {c39:List Ext} {C:List (List (List UInt8))} {j:Nat} (hj:j<C.length) (hl:(C.getD j []).length≤1099511627776) {R:Type} {x y:R}:
 (Loop (ep a t9 (j:Int) c30 c31 c32 c33 c34 c35 c36 c37 c38 c39 C) 0).bind (alt (fun _=>some x) (fun _=>some y))=some (if (C.getD j []).all h32=true then y else x):=by
 rw [←AJ (C.getD j []) [] h32]
 refine yY (C.getD j []).length _ (fun _=>()) (fun k hk hp=> ?_) (fun k hk hp=> ?_) (e2:=(((C.getD j []).length:Int),false)) ?_ (fun _=>rfl) rfl
 ·simp only [ep]
  simp only [h32,decide_eq_true_eq] at hp
  rw [Cx hj,Option.bind_some,brd (by omega),Option.bind_some,nX (d:=[]) hk,Option.bind_some,ff (by omega),aa _ (by omega) (by omega)];rfl
 ·simp only [ep]
  simp only [h32,decide_eq_false_iff_not] at hp
  rw [Cx hj,Option.bind_some,brd (by omega),Option.bind_some,nX (d:=[]) hk,Option.bind_some,brb (by omega)]
 ·simp only [ep]
  rw [Cx hj,Option.bind_some,brn (by omega),decide_eq_false (by omega)]
theorem Lc {vars:Int} {t:Setting} {q:aB} {t6:Int} {c19:List (List Ext)} {c20:List (List UInt8)} {c21 c22 c23:Int} {c24:List aB} {c26 c27:Int} {c28:List Ext} (hv:1≤vars∧vars≤6) (ht:setB t=true) (hq:(q.Paths.length:Int)=vars) (hl: ∀p∈q.Paths,p.length≤1099511627776) {R:Type} {x y:R}:
 (Loop (eo vars t6 c19 c20 c21 c22 c23 c24 t.Rate c26 c27 c28 q.Paths) 0).bind (alt (fun _=>some x) (fun _=>some y))=some (if QN vars.toNat (Rk vars t q)=true then y else x):=by
 have h2:=mu ht
 refine yY vars.toNat _ (fun _=>()) (fun k hk hp=> ?_) (fun k hk hp=> ?_) (e2:=((vars.toNat:Int),false)) ?_ (fun _=>rfl) rfl
 ·have hm:=hl _ (Qs (l:=q.Paths) (j:=k) (by omega))
  simp only [Rk,Bool.and_eq_true,decide_eq_true_eq] at hp
  simp only [eo]
  rw [brd (by omega),Cx (by omega),Option.bind_some,aa (vars+t.Rate) (by omega) (by omega),aa (vars+t.Rate-1) (by omega) (by omega),aa (vars+t.Rate-1-k) (by omega) (by omega),ff hp.1,K6 (by omega) hm,if_pos hp.2,aa _ (by omega) (by omega)];rfl
 ·have hm:=hl _ (Qs (l:=q.Paths) (j:=k) (by omega))
  simp only [eo]
  rw [brd (by omega),Cx (by omega),Option.bind_some,aa (vars+t.Rate) (by omega) (by omega),aa (vars+t.Rate-1) (by omega) (by omega),aa (vars+t.Rate-1-k) (by omega) (by omega)]
  by_cases c3:((q.Paths.getD k []).length:Int)=vars+t.Rate-1-k
  ·rw [Rk,decide_eq_true c3,Bool.true_and] at hp
   rw [ff c3,K6 (by omega) hm,if_neg (by rw [hp];decide)]
  ·rw [brb c3]
 ·simp only [eo]
  rw [brn (by omega),decide_eq_false (by omega)]
theorem Qy {vars:Int} {t:Setting} {o:aC} {c14 c12 c13:Int} {c10:List (List Ext)} {c11:List (List UInt8)} {c17 c18:Int} (S:SmO o) (hv:1≤vars∧vars≤6) (ht:setB t=true) {R:Type} {x y:R}:
 (Loop (dy vars c10 c11 c12 c13 c14 o.Queries t.Rate c17 c18) 0).bind (alt (fun _=>some x) (fun _=>some y))=some (if o.Queries.all (B4 vars t)=true then y else x):=by
 rw [←AJ o.Queries ⟨[],[]⟩ (B4 vars t)]
 have hQ: ∀k,k<o.Queries.length→o.Queries.getD k ⟨[],[]⟩∈o.Queries:=fun k hk=>by simp [hk]
 have hqn:=S.qn
 refine yY o.Queries.length _ (fun k=>((o.Queries.getD k ⟨[],[]⟩).Pairs,(o.Queries.getD k ⟨[],[]⟩).Paths)) (fun k hk hp=> ?_) (fun k hk hp=> ?_) (e2:=((o.Queries.length:Int),false)) ?_ (fun _=>rfl) rfl
 ·have hm:=hQ k hk
  simp only [B4,Bool.and_eq_true,decide_eq_true_eq] at hp
  simp only [dy]
  rw [brd (by omega),nX (d:=⟨[],[]⟩) hk,Option.bind_some,aa (2*vars) (by omega) (by omega),ff hp.1,jv (S.qp _ hm),Option.bind_some,hp.2.1,Bool.not_true,aj,ff hp.2.2.1,Lc hv ht hp.2.2.1 (S.qt _ hm),if_pos hp.2.2.2,aa _ (by omega) (by omega)];rfl
 ·have hm:=hQ k hk
  simp only [dy]
  rw [brd (by omega),nX (d:=⟨[],[]⟩) hk,Option.bind_some,aa (2*vars) (by omega) (by omega)]
  rw [B4] at hp
  by_cases c1:((o.Queries.getD k ⟨[],[]⟩).Pairs.length:Int)=2*vars
  ·rw [ff c1,jv (S.qp _ hm),Option.bind_some]
   rw [decide_eq_true c1,Bool.true_and] at hp
   cases hb:(o.Queries.getD k ⟨[],[]⟩).Pairs.all pG
   ·rfl
   ·rw [Bool.not_true,aj]
    rw [hb,Bool.true_and] at hp
    by_cases c2:((o.Queries.getD k ⟨[],[]⟩).Paths.length:Int)=vars
    ·rw [decide_eq_true c2,Bool.true_and] at hp
     rw [ff c2,Lc hv ht c2 (S.qt _ hm),if_neg (by rw [hp];decide)]
    ·rw [brb c2]
  ·rw [brb c1]
 ·simp only [dy]
  rw [brn (by omega),decide_eq_false (by omega)]
theorem Mn {o:aC} {vars:Int} {t:Setting} (S:SmO o):of o vars t=some (okO o vars t):=by
 unfold of okO
 rw [wS,Option.bind_some]
 by_cases hv:1≤vars∧vars≤6
 ·rw [decide_eq_true hv,decide_eq_true hv.1,decide_eq_true hv.2,Bool.and_self,Bool.not_true,aj,ry,Option.bind_some,Bool.true_and]
  cases ht:setB t
  ·rfl
  ·rw [Bool.not_true,aj,aa _ (by omega) (by omega),Bool.true_and,GZ]
   by_cases c0:(o.Rounds.length:Int)=vars
   ·rw [ff c0,decide_eq_true c0,Bool.true_and]
    by_cases c1:(o.Roots.length:Int)=vars-1
    ·rw [ff c1,decide_eq_true c1,Bool.true_and]
     by_cases c3:(o.Queries.length:Int)=t.Queries
     ·rw [ff c3,decide_eq_true c3,Bool.true_and,D3,Option.bind_some]
      cases hl:pG o.Last
      ·rw [Bool.not_false,aQ];cases o.Rounds.all (zx 3)<;>cases o.Roots.all h32<;>rfl
      ·rw [Bool.not_true,aj,wS,Option.bind_some,Bool.true_and]
       by_cases c2:0≤o.Nonce∧o.Nonce≤65535
       ·rw [decide_eq_true c2,decide_eq_true c2.1,decide_eq_true c2.2,Bool.and_self,Bool.not_true,aj,Bool.true_and]
        have key:=yY (step:=er vars o.Rounds o.Roots o.Last.A o.Last.B o.Nonce o.Queries t.Rate t.Queries t.Grind) vars.toNat (fun i=>zx 3 (o.Rounds.getD i [])&&(decide (i=0)||h32 (o.Roots.getD (i-1) []))) (fun _=>()) (e2:=((vars.toNat:Int),false)) (f:=fun _=>some false)
         (g:=fun _=>(Loop (dy vars o.Rounds o.Roots o.Last.A o.Last.B o.Nonce o.Queries t.Rate t.Queries t.Grind) 0).bind (alt (fun e_11=>some false) (fun e_12=>some true))) (x:=false) (y:=o.Queries.all (B4 vars t)) (fun k hk hp=>by
         simp only [Bool.and_eq_true,Bool.or_eq_true,zx,h32,decide_eq_true_eq] at hp
         have hm:=S.rr _ (show o.Rounds.getD k []∈o.Rounds by simp [show k<o.Rounds.length by omega])
         simp only [er]
         rw [brd (by omega),nX (d:=[]) (by omega),Option.bind_some,ff hp.1.1,Option.bind_some,jv hm,Option.bind_some,hp.1.2,Bool.not_true,aj,aa ((k:Int)+1) (by omega) (by omega)]
         by_cases h0:k=0
         ·rw [brn (by omega)];rfl
         ·rw [brd (by omega),aa _ (by omega) (by omega),show (k:Int)-1=((k-1:Nat):Int) by omega,nX (d:=[]) (by omega),Option.bind_some,ff (by have:=hp.2.resolve_left h0;omega)];rfl) (fun k hk hp=>by
         have hm:=S.rr _ (show o.Rounds.getD k []∈o.Rounds by simp [show k<o.Rounds.length by omega])
         simp only [er]
         rw [brd (by omega),nX (d:=[]) (by omega),Option.bind_some]
         by_cases c4:((o.Rounds.getD k []).length:Int)=3
         ·rw [ff c4,Option.bind_some,jv hm,Option.bind_some]
          cases hb:(o.Rounds.getD k []).all pG
          ·rfl
          ·rw [zx,decide_eq_true c4,hb,Bool.true_and,Bool.true_and,Bool.or_eq_false_iff,decide_eq_false_iff_not,h32,decide_eq_false_iff_not] at hp
           rw [Bool.not_true,aj,brd (by omega),aa _ (by omega) (by omega),show (k:Int)-1=((k-1:Nat):Int) by omega,nX (d:=[]) (by omega),Option.bind_some,brb (by omega)]
         ·rw [brb c4]) (by
         simp only [er]
         rw [brn (by omega),decide_eq_false (by omega)]) (fun _=>rfl) (by rw [Qy S hv ht,U4])
        rw [key]
        have hall:QN vars.toNat (fun i=>zx 3 (o.Rounds.getD i [])&&(decide (i=0)||h32 (o.Roots.getD (i-1) [])))=(o.Rounds.all (zx 3)&&o.Roots.all h32):=by
         rw [←AJ o.Rounds [], ←AJ o.Roots []]
         refine Bool.eq_iff_iff.2 ⟨fun h=> ?_,fun h=> ?_⟩
         ·rw [Bool.and_eq_true]
          refine ⟨Ax fun k hk=> ?_,Ax fun k hk=> ?_⟩
          ·have:=oG.1 h k (by omega)
           simp only [Bool.and_eq_true] at this;exact this.1
          ·have:=oG.1 h (k+1) (by omega)
           simpa using (Bool.and_eq_true _ _▸this).2
         ·rw [Bool.and_eq_true] at h
          refine Ax fun k hk=> ?_
          rw [Bool.and_eq_true]
          refine ⟨oG.1 h.1 k (by omega), ?_⟩
          by_cases h0:k=0
          ·simp [h0]
          ·have:=oG.1 h.2 (k-1) (by omega)
           simp only [Bool.or_eq_true];exact .inr this
        rw [hall]
        cases o.Rounds.all (zx 3)<;>cases o.Roots.all h32<;>simp
       ·have:(decide (0≤o.Nonce)&&decide (o.Nonce≤65535))=false:=by
         rw [←Bool.decide_and];exact decide_eq_false c2
        rw [decide_eq_false c2,this,Bool.not_false,aQ]
        cases o.Rounds.all (zx 3)<;>cases o.Roots.all h32<;>rfl
     ·rw [brb c3,decide_eq_false c3]
      cases o.Rounds.all (zx 3)<;>cases o.Roots.all h32<;>cases pG o.Last<;>cases decide (0≤o.Nonce∧o.Nonce≤65535)<;>rfl
    ·rw [brb c1,decide_eq_false c1];cases o.Rounds.all (zx 3)<;>rfl
   ·rw [brb c0,decide_eq_false c0];rfl
 ·rw [decide_eq_false hv]
  have:(decide (1≤vars)&&decide (vars≤6))=false:=by
   rw [←Bool.decide_and];exact decide_eq_false hv
  rw [this];rfl
end Go.AI.Fn
set_option linter.unusedVariables false
set_option linter.unusedSimpArgs false
namespace Go.AI.Fn
def wdK:Nat→List K→List K→List K
 |_,W,[]=>W
 |m,W,r::P=>wdK (m-1) (fwK (m-1) W r) P
def oB:Nat→List K→List K→List (List K)
 |_,_,[]=>[]
 |m,W,r::P=>W::oB (m-1) (fwK (m-1) W r) P
def oW:Nat→List K→List K→List (List UInt8)
 |_,_,[]=>[]
 |m,W,r::P=>(if P.length=0 then [] else [wrK (m-2) (fwK (m-1) W r)])++oW (m-1) (fwK (m-1) W r) P
theorem vf: ∀(P:List K) (m:Nat) (W:List K),(oB m W P).length=P.length
 |[],_,_=>rfl
 |r::P,m,W=>by rw [oB,List.length_cons,vf P,List.length_cons]
theorem T1: ∀(P:List K) (m:Nat) (W:List K),(oW m W P).length=P.length-1
 |[],_,_=>rfl
 |r::P,m,W=>by
  rw [oW,List.length_append,T1 P,List.length_cons]
  split
  ·rw [List.length_nil];omega
  ·rw [List.length_singleton];omega
theorem YT: ∀(P:List K) (m:Nat) (W:List K),Hs (oW m W P)
 |[],_,_=>fun x hx=>by simp [oW] at hx
 |r::P,m,W=>fun x hx=>by
  rw [oW,List.mem_append] at hx
  rcases hx with hx|hx
  ·split at hx
   ·cases hx
   ·rw [List.mem_singleton] at hx;subst hx;exact Dv _ _
  ·exact YT P _ _ x hx
def bhO (v ρ:Nat) (W P:List K) (s:Source):Source:=if P.length<v then tkM s (wrK (v+ρ-P.length-1) (wdK (v+ρ) W P)) else s
theorem UW (v ρ:Nat) (W:List K):a1U (bhO v ρ W):=fun P s k h hk=>by
 unfold bhO;split
 ·exact h.take _
 ·exact h.mono (by omega)
theorem HQ {ρ:Nat} {bh:List K→Source→Source} (hb:a1U bh) (hρ:ρ≤3) {l3:List aB} {c c2 c3 c8 c9 c10 c11 c13 c14 c15 c16:Int} {c12:List UInt8}: ∀(v:Nat) (Q:List K) (T:List (List K)) (W:List K) (s:Source) (k:Int) (R:List (List Ext)) (Rt:List (List UInt8)) (Ws:List (List Ext)),
 OkT 1 (2^v) T→W.length=2^(v+ρ)→Few s k→k+3*v≤1000→v≤6→R.length+v≤1000→Rt.length+v≤1000→Ws.length+v≤1000→
 (∀(P':List K) (s':Source),P'≠[]→P'.length≤v→bh (Q++P') s'=if P'.length<v then tkM s' (wrK (v+ρ-P'.length-1) (wdK (v+ρ) W P')) else s')→
 Loop (iB l3 c c2 c3 c8 c9 c10 c11 c12 c13 c14 c15 c16) (R,Rt,Ws,kvv T,kv W,s.Script,s.At,s.State,s.Count)=
  some (R++kvv (pvM 1 bh v Q T s).1,Rt++oW (v+ρ) W (pvM 1 bh v Q T s).2.1,Ws++kvv (oB (v+ρ) W (pvM 1 bh v Q T s).2.1),kvv (pvM 1 bh v Q T s).2.2.1,kv (wdK (v+ρ) W (pvM 1 bh v Q T s).2.1),false,
   (pvM 1 bh v Q T s).2.2.2.Script,(pvM 1 bh v Q T s).2.2.2.At,(pvM 1 bh v Q T s).2.2.2.State,(pvM 1 bh v Q T s).2.2.2.Count)
 |0,Q,T,W,s,k,R,Rt,Ws,hT,hW,hf,hk,hv,h1,h2,h3,hbh=>by
  have hl:=hT.len
  refine cy ?_
  simp only [iB]
  rw [Vp (by omega),Option.bind_some,al,hT.tab 0 (by omega),brn (by decide),decide_eq_false (by decide)]
  simp [pvM,kvv,oW,oB,wdK]
 |v+1,Q,T,W,s,k,R,Rt,Ws,hT,hW,hf,hk,hv,h1,h2,h3,hbh=>by
  have hl:=hT.len
  have hp:=Vq v (by omega)
  have hT2:=hT
  rw [nT] at hT2
  have hm:v+1+ρ-1=v+ρ:=by omega
  have hW2:W.length=2^(v+ρ+1):=by rw [hW];congr 1;omega
  have hb1:=hbh [rdM s (rdK 1 T (2^v))] (nsM s (rdK 1 T (2^v))) (by simp) (by simp)
  simp only [wdK,List.length_singleton,hm] at hb1
  have hin: ∀(P':List K) (s':Source),P'≠[]→P'.length≤v→bh (Q++[rdM s (rdK 1 T (2^v))]++P') s'=if P'.length<v then tkM s' (wrK (v+ρ-P'.length-1) (wdK (v+ρ) (fwK (v+ρ) W (rdM s (rdK 1 T (2^v)))) P')) else s':=fun P' s' hne hle=>by
   have:=hbh (rdM s (rdK 1 T (2^v))::P') s' (by simp) (by rw [List.length_cons];omega)
   rw [List.append_assoc,List.singleton_append,this,List.length_cons,wdK,hm,show v+1+ρ-(P'.length+1)-1=v+ρ-P'.length-1 by omega]
   by_cases hc:P'.length<v
   ·rw [if_pos hc,if_pos (by omega)]
   ·rw [if_neg hc,if_neg (by omega)]
  have ih:=HQ hb hρ (l3:=l3) (c:=c) (c2:=c2) (c3:=c3) (c8:=c8) (c9:=c9) (c10:=c10) (c11:=c11) (c12:=c12) (c13:=c13) (c14:=c14) (c15:=c15) (c16:=c16) v (Q++[rdM s (rdK 1 T (2^v))]) (bdK (rdM s (rdK 1 T (2^v))) T) (fwK (v+ρ) W (rdM s (rdK 1 T (2^v)))) (bh (Q++[rdM s (rdK 1 T (2^v))]) (nsM s (rdK 1 T (2^v)))) (k+2+1)
   (R++[kv (rdK 1 T (2^v))]) (Rt++if v=0 then [] else [wrK (v+ρ-1) (fwK (v+ρ) W (rdM s (rdK 1 T (2^v))))]) (Ws++[kv W]) (hT.up _) (sR _ _ _) (hb _ _ _ (xw hf (by omega) _) (by omega)) (by omega) (by omega) (by rw [List.length_append,List.length_singleton];omega)
   (by rw [List.length_append];split<;>simp only [List.length_nil,List.length_singleton]<;>omega) (by rw [List.length_append,List.length_singleton];omega) hin
  have hpl:=(FZ (kind:=1) (bh:=bh) v (Q++[rdM s (rdK 1 T (2^v))]) (bdK (rdM s (rdK 1 T (2^v))) T) (bh (Q++[rdM s (rdK 1 T (2^v))]) (nsM s (rdK 1 T (2^v))))).2
  rw [cj (s':=(R++[kv (rdK 1 T (2^v))],(Rt++if v=0 then [] else [wrK (v+ρ-1) (fwK (v+ρ) W (rdM s (rdK 1 T (2^v))))]),Ws++[kv W],kvv (bdK (rdM s (rdK 1 T (2^v))) T),kv (fwK (v+ρ) W (rdM s (rdK 1 T (2^v)))),(bh (Q++[rdM s (rdK 1 T (2^v))]) (nsM s (rdK 1 T (2^v)))).Script,(bh (Q++[rdM s (rdK 1 T (2^v))]) (nsM s (rdK 1 T (2^v)))).At,(bh (Q++[rdM s (rdK 1 T (2^v))]) (nsM s (rdK 1 T (2^v)))).State,(bh (Q++[rdM s (rdK 1 T (2^v))]) (nsM s (rdK 1 T (2^v)))).Count)) ?_]
  ·rw [ih]
   simp only [pvM,oW,oB,wdK,hm,hpl,kvv,List.map_cons,List.append_assoc,List.singleton_append,show v+1+ρ-2=v+ρ-1 by omega]
  ·have hr1:ni 1 (kvv T)=some (kv (rdK 1 T (2^v))):=UV hT2 (by omega)
   simp only [iB]
   rw [Vp (by omega),Option.bind_some,al,hT.tab 0 (by omega),nT,brd (by omega),ak (by rw [List.length_append,List.length_singleton];omega),hr1,Option.bind_some,show Source.mk s.Script s.At s.State s.Count=s from rfl,QB hf.1 (by rw [AU];omega),Option.bind_some,a4j hf,Option.bind_some]
   dsimp only
   rw [OT hT2 (by omega),Option.bind_some,Vk _ (by omega) hW2,Option.bind_some,ak (by rw [List.length_append,List.length_singleton];omega),Vp (by simp [bdK];omega),Option.bind_some,al,(hT.up _).tab 0 (by simp [bdK];omega)]
   cases v with
   |zero=>
    rw [brn (by decide)]
    rw [if_neg (by omega)] at hb1
    rw [hb1];simp
   |succ u=>
    have hp2:=Vq u (by omega)
    rw [if_pos (by omega)] at hb1
    rw [brd (by rw [nT];omega),yM (k:=u+ρ) (by omega) (by rw [sR];congr 1;omega),Option.bind_some,MA _ _ (by omega),Option.bind_some,lD (xw hf (by omega) (rdK 1 T (2^(u+1)))).1.3 (by rw [Dv];omega),Option.bind_some,ak (by rw [List.length_append,List.length_singleton];omega),hb1,if_neg (by omega),show u+1+ρ-1=u+ρ by omega]
end Go.AI.Fn
set_option linter.unusedVariables false
set_option linter.unusedSimpArgs false
namespace Go.AI.Fn
def prK:Nat→List (List K)→Nat→List K
 |_,[],_=>[]
 |m,W::Ws,k=>W.getD (k%2^(m-1)) 0::W.getD (k%2^(m-1)+2^(m-1)) 0::prK (m-1) Ws (k%2^(m-1))
def ptK:Nat→List (List K)→Nat→List (List (List UInt8))
 |_,[],_=>[]
 |m,W::Ws,k=>gD ((lvK (m-1) W).map hL) (m-1) (k%2^(m-1))::ptK (m-1) Ws (k%2^(m-1))
def Nf:Nat→List (List K)→Prop
 |_,[]=>True
 |m,W::Ws=>W.length=2^m∧1≤m∧Nf (m-1) Ws
def WX:Nat→List (List K)→Nat→Nat
 |_,[],k=>k
 |m,_::Ws,k=>WX (m-1) Ws (k%2^(m-1))
theorem Je: ∀(P:List K) (m:Nat) (W:List K),W.length=2^m→P.length≤m→Nf m (oB m W P)
 |[],_,_,_,_=>trivial
 |r::P,m,W,h,hm=>by
  rw [List.length_cons] at hm
  exact ⟨h,by omega,Je P (m-1) _ (sR _ _ _) (by omega)⟩
theorem F7 {l9:List (List Ext)} {l10:List (List UInt8)} {l11:List aB} {t5:List Int} {t6 c37 c38 c39 c41 c43 c44 c45 c46 c47 c49 c50 c51 c52 c54 c56:Int} {c40 c53:List Ext} {c42 c48 c55:List UInt8}: ∀(Ws pre:List (List K)) (m:Nat) (k:Nat) (A:List Ext) (B:List (List (List UInt8))),
 Nf m Ws→m≤9→pre.length+Ws.length≤100→A.length+2*Ws.length≤1000→B.length+Ws.length≤1000→k≤1000000→
 Loop (iP l9 l10 l11 (kvv (pre++Ws)) t5 t6 c37 c38 c39 c40 c41 c42 c43 c44 c45 c46 c47 c48 c49 c50 c51 c52 c53 c54 c55 c56) (A,B,(k:Int),(pre.length:Int))=
  some (A++kv (prK m Ws k),B++ptK m Ws k,(WX m Ws k:Int),((pre++Ws).length:Int),false)
 |[],pre,m,k,A,B,h,hm,h1,h2,h3,hk=>by
  refine cy ?_
  simp only [iP,gu]
  rw [brn (by simp),decide_eq_false (by simp)]
  simp [prK,ptK,WX,kv]
 |W::Ws,pre,m,k,A,B,h,hm,h1,h2,h3,hk=>by
  obtain ⟨hW,hm1,hws⟩:=h
  rw [List.length_cons] at h1 h2 h3
  obtain ⟨q,rfl⟩: ∃q,m=q+1:=⟨m-1,by omega⟩
  have hp:=oe (q+1) hm
  have hs:2^(q+1)=2*2^q:=by rw [Nat.pow_succ];omega
  have hh:=yI q hm
  have hq:k%2^q<2^q:=Nat.mod_lt _ (by omega)
  have hlt:(pre.length:Int)<((pre++W::Ws).length:Int):=by rw [List.length_append,List.length_cons];omega
  have hget:(kvv (pre++W::Ws))[pre.length]? =some (kv W):=by simp [kvv]
  have hmod:(k:Int).tmod ((2^q:Nat):Int)=((k%2^q:Nat):Int):=by rw [bp _ _ (by omega)];omega
  have ih:=F7 (l9:=l9) (l10:=l10) (l11:=l11) (t5:=t5) (t6:=t6) (c37:=c37) (c38:=c38) (c39:=c39) (c40:=c40) (c41:=c41) (c42:=c42) (c43:=c43) (c44:=c44) (c45:=c45) (c46:=c46) (c47:=c47) (c48:=c48) (c49:=c49) (c50:=c50) (c51:=c51) (c52:=c52) (c53:=c53) (c54:=c54) (c55:=c55) (c56:=c56)
   Ws (pre++[W]) q (k%2^q) (A++[(W.getD (k%2^q) 0).1,(W.getD (k%2^q+2^q) 0).1]) (B++[gD ((lvK q W).map hL) q (k%2^q)]) hws (by omega) (by rw [List.length_append,List.length_singleton];omega)
   (by rw [List.length_append];simp only [List.length_cons,List.length_nil];omega) (by rw [List.length_append,List.length_singleton];omega) (by omega)
  rw [List.append_assoc,List.singleton_append,List.length_append,List.length_singleton] at ih
  rw [cj (s':=(A++[(W.getD (k%2^q) 0).1,(W.getD (k%2^q+2^q) 0).1],B++[gD ((lvK q W).map hL) q (k%2^q)],((k%2^q:Nat):Int),((pre.length+1:Nat):Int))) ?_]
  ·rw [ih]
   simp [prK,ptK,WX,kv]
  ·simp only [iP,gu,Int.toNat_natCast]
   rw [brd hlt,brd (by omega),brd (by omega),hget,Option.bind_some,al,hW,hh,hmod,brd (by omega),brd (by omega),brd (by omega),Option.bind_some,dL (by omega),Option.bind_some,brd (by omega),brd (by omega),Option.bind_some,aa (((k%2^q:Nat):Int)+_) (by omega) (by omega),show ((k%2^q:Nat):Int)+((2^q:Nat):Int)=((k%2^q+2^q:Nat):Int) by omega,dL (by omega),Option.bind_some,
    ak (by rw [List.length_append];simp only [List.length_cons,List.length_nil];omega),brd (by omega),brd (by omega),Option.bind_some,yM hm hW,Option.bind_some,Hh (FM q W) (pI q W) (by omega),Option.bind_some,XG (by rw [List.length_map,pI]) (by omega) hq,Option.bind_some,ak (by rw [List.length_append,List.length_singleton];omega),aa _ (by omega) (by omega)];rfl
def qsM (m:Nat) (Ws:List (List K)) (p:Int):aB:=⟨kv (prK m Ws p.toNat),ptK m Ws p.toNat⟩
theorem K8 {l5:List (List Ext)} {l6:List (List UInt8)} {c17 c18 c19 c21 c23 c24 c25 c26 c27 c29 c30 c31 c32 c34 c36:Int} {c20 c33:List Ext} {c22 c28 c35:List UInt8} {Ws:List (List K)} {m:Nat} {pl:List Int} (h:Nf m Ws) (hm:m≤9) (hl:Ws.length≤100) (hp:pl.length≤1000) (hr: ∀x∈pl,0≤x∧x≤1000000):
 Loop (g9 l5 l6 (kvv Ws) pl c17 c18 c19 c20 c21 c22 c23 c24 c25 c26 c27 c28 c29 c30 c31 c32 c33 c34 c35 c36) ([],0)=some (pl.map (qsM m Ws),(pl.length:Int),false):=by
 refine am (step:=g9 l5 l6 (kvv Ws) pl c17 c18 c19 c20 c21 c22 c23 c24 c25 c26 c27 c28 c29 c30 c31 c32 c33 c34 c35 c36) (fun j=>((pl.take j).map (qsM m Ws),(j:Int))) pl.length (fun j hj=> ?_) ?_
 ·have hx:=hr _ (List.getElem_mem hj)
  have hq:=F7 (l9:=l5) (l10:=l6) (l11:=(pl.take j).map (qsM m Ws)) (t5:=pl) (t6:=(j:Int)) (c37:=c17) (c38:=c18) (c39:=c19) (c40:=c20) (c41:=c21) (c42:=c22) (c43:=c23) (c44:=c24) (c45:=c25) (c46:=c26) (c47:=c27) (c48:=c28) (c49:=c29) (c50:=c30) (c51:=c31) (c52:=c32) (c53:=c33) (c54:=c34) (c55:=c35) (c56:=c36)
   Ws [] m (pl[j].toNat) [] [] h hm (by rw [List.length_nil];omega) (by rw [List.length_nil];omega) (by rw [List.length_nil];omega) (by omega)
  rw [List.nil_append,Int.toNat_of_nonneg hx.1,List.length_nil] at hq
  simp only [g9]
  rw [brd (by omega),bQ hj,Option.bind_some,show ((0:Int))=((0:Nat):Int) from rfl,hq,Option.bind_some,ak (by rw [List.length_append,List.length_map,List.length_take,List.length_singleton];omega),aa _ (by omega) (by omega),cp hj,List.map_append];rfl
 ·simp only [g9]
  rw [brn (by omega),decide_eq_false (by omega),List.take_of_length_le (by omega)]
end Go.AI.Fn
set_option linter.unusedVariables false
set_option linter.unusedSimpArgs false
namespace Go.AI.Fn
variable {kind:Nat}
theorem Ga {k:Nat} (hk:k≤6):nm ((2^k:Nat):Int) 64=some true:=by
 have hp:=Vq k hk
 unfold nm
 have key:Loop (fw ((2^k:Nat):Int) 64) 1=some (.inl ()):=
  am (step:=fw ((2^k:Nat):Int) 64) (fun j=>((2^j:Nat):Int)) k (fun j hj=>by
   have hj2:=Vq j (by omega)
   have hlt:2^j<2^k:=Nat.pow_lt_pow_right (by omega) hj
   simp only [fw]
   rw [brd (by omega),zh (by omega),aa _ (by omega) (by omega),Nat.pow_succ];simp) (by
   simp only [fw]
   rw [brd (by omega),bre rfl])
 rw [key];rfl
theorem GX {t:List K} {v:Nat} (hv:v≤6) (h:t.length=2^v):lL (kv t)=some true:=by
 have hp:=Vq v hv
 rw [Fw (by rw [al];omega),al,h,Uc (by omega) (by omega),FL.2 (yz t)];rfl
theorem HV {t:List K} {v:Nat} (hv:v≤6) (h:t.length=2^v):rb (kv t)=some true:=by
 have hp:=Vq v hv
 unfold rb wZ
 rw [al,brn (by omega),h,Ga hv,Option.bind_some,Option.bind_some,aQ,jv (by rw [al];omega),Option.bind_some,FL.2 (yz t)]
theorem X5 {s:Source} {k:Int} (h:Few s k) (hk:k≤900000): ∃n,iJ s=some n∧100000≤n∧n≤1000000:=by
 have hmx:=a6D h.2 h.3
 have h0:0≤mx s.At s.Count:=by have:=h.1.4;have:=h.1.6;unfold mx;split<;>assumption
 unfold iJ
 rw [aa _ (by omega) (by omega)]
 exact ⟨_,rfl,by omega,by omega⟩
end Go.AI.Fn
set_option linter.unusedVariables false
set_option linter.unusedSimpArgs false
namespace Go.AI.Fn
def opW (v ρ:Nat) (t:List K):List K:=Enc v ρ (cfK v t)
def opQ (v ρ:Nat) (t P:List K) (s:Source):List (List K)×List K×List (List K)×Source:=pvM 1 (bhO v ρ (opW v ρ t)) v [] [t,eqK P] s
def opL (v ρ:Nat) (t P:List K) (s:Source):K:=((opQ v ρ t P s).2.2.1.getD 0 []).getD 0 0
def opS (v ρ:Nat) (t P:List K) (s:Source):Source:=rsM (opQ v ρ t P s).2.2.2 [opL v ρ t P s]
def opT (v ρ n:Nat) (t P:List K) (s:Source):Source:=tkM (opS v ρ t P s) (dS (n:Int))
def opO (v ρ nq n:Nat) (t P:List K) (s:Source):aC:=
 ⟨kvv (opQ v ρ t P s).1,oW (v+ρ) (opW v ρ t) (opQ v ρ t P s).2.1,(opL v ρ t P s).1,(n:Int),(plM (drL (opT v ρ n t P s) nq) ((2^(v+ρ-1):Nat):Int)).map (qsM (v+ρ) (oB (v+ρ) (opW v ρ t) (opQ v ρ t P s).2.1))⟩
noncomputable def opG (v ρ nq:Nat) (t P:List K) (s:Source):Option Nat→aC×Source×Bool
 |none=>(⟨[],[],⟨0,0⟩,0,[]⟩,opS v ρ t P s,false)
 |some n=>(opO v ρ nq n t P s,drS (opT v ρ n t P s) nq,true)
noncomputable def HE (v ρ nq bits:Nat) (t P:List K) (s:Source):aC×Source×Bool:=opG v ρ nq t P s (ij (opS v ρ t P s).State bits)
theorem wk {v ρ nq bits:Nat} {t P:List K} {s:Source} (h:ij (opS v ρ t P s).State bits=none):HE v ρ nq bits t P s=(⟨[],[],⟨0,0⟩,0,[]⟩,opS v ρ t P s,false):=by
 rw [HE,h,opG]
theorem wR {v ρ nq bits n:Nat} {t P:List K} {s:Source} (h:ij (opS v ρ t P s).State bits=some n):HE v ρ nq bits t P s=(opO v ρ nq n t P s,drS (opT v ρ n t P s) nq,true):=by
 rw [HE,h,opG]
theorem ms {v ρ:Nat} {t:List K} (ht:t.length=2^v):(opW v ρ t).length=2^(v+ρ):=a3G (by rw [j7];exact ht)
theorem Ym {v:Nat} {t P:List K} (ht:t.length=2^v) (hP:P.length=v):OkT 1 (2^v) [t,eqK P]:=⟨.inl rfl,rfl,fun i hi=>by
 have hi2:i<2:=hi
 match i,hi2 with
 |0,_=>exact ht
 |1,_=>exact (PU P).trans (by rw [hP])⟩
variable {v ρ:Nat} {t P:List K} {s:Source} {k:Int}
theorem Pn (hf:Few s k) (hk:k+3*v≤900):Few (opQ v ρ t P s).2.2.2 (k+3*v):=Zz (UW v ρ _) v [] _ s k hf (by omega)
theorem Rp (hf:Few s k) (hk:k+3*v≤900):Few (opS v ρ t P s) (k+3*v+1):=(Pn hf hk).take _
theorem DD (hf:Few s k) (hk:k+3*v≤900) (n:Nat):Few (opT v ρ n t P s) (k+3*v+1+1):=(Rp hf hk).take _
theorem YU {l:List Ext} (h:eg l) {m:Nat} (h1:1≤m) (h2:m≤1000000): ∀x∈plM l (m:Int),0≤x∧x≤1000000:=fun x hx=>by
 obtain ⟨y,hy,rfl⟩:=List.mem_map.1 hx
 have h0:=Int.emod_nonneg y.A (b:=(m:Int)) (by omega)
 have h3:=Int.emod_lt_of_pos y.A (b:=(m:Int)) (by omega)
 omega
theorem Xs {st:Setting} {nq bits:Nat} (ht:t.length=2^v) (hP:P.length=v) (hv1:1≤v) (hv:v≤6) (hρ:ρ≤3) (hq1:nq≤8) (hb:bits≤12) (e1:st.Rate=(ρ:Int)) (e2:st.Queries=(nq:Int)) (e3:st.Grind=(bits:Int)) (hf:Few s k) (hk:k≤800):
 vj (kv t) (kv P) st s=some (HE v ρ nq bits t P s):=by
 have hk0:0≤k:=by have:=hf.2;have:=hf.1.4;omega
 have hp:=Gz v hv
 have hkk:k+3*v≤900:=by omega
 have hfQ:=Pn (ρ:=ρ) (t:=t) (P:=P) hf hkk
 have hfS:=Rp (ρ:=ρ) (t:=t) (P:=P) hf hkk
 have hloop:=HQ (bh:=bhO v ρ (opW v ρ t)) (UW v ρ _) hρ (l3:=[]) (c:=(ρ:Int)) (c2:=(nq:Int)) (c3:=(bits:Int)) (c8:=0) (c9:=0) (c10:=0) (c11:=0) (c12:=[]) (c13:=0) (c14:=0) (c15:=0) (c16:=0)
  v [] [t,eqK P] (opW v ρ t) s k [] [] [] (Ym ht hP) (ms ht) hf (by omega) hv (by rw [List.length_nil];omega) (by rw [List.length_nil];omega) (by rw [List.length_nil];omega) (fun P' s' _ _=>rfl)
 have hfin:OkT 1 1 (opQ v ρ t P s).2.2.1:=Q0 v _ _ _ (Ym ht hP)
 have hrl:=(FZ (kind:=1) (bh:=bhO v ρ (opW v ρ t)) v [] [t,eqK P] s).2
 have hpo:=Je (pvM 1 (bhO v ρ (opW v ρ t)) v [] [t,eqK P] s).2.1 (v+ρ) (opW v ρ t) (ms ht) (by omega)
 have hwl:=vf (pvM 1 (bhO v ρ (opW v ρ t)) v [] [t,eqK P] s).2.1 (v+ρ) (opW v ρ t)
 have hT0:(opQ v ρ t P s).2.2.1.length=2:=hfin.len
 unfold vj
 rw [List.nil_append,ak (by rw [al];omega),Pu (yz P) (by rw [al];omega),Option.bind_some,Rr,e1,Ov ht hv (by omega),Option.bind_some,e2,e3]
 rw [show ([kv t,kv (eqK P)]:List (List Ext))=kvv [t,eqK P] from rfl,show Enc v ρ (cfK v t)=opW v ρ t from rfl,hloop,Option.bind_some]
 simp only [List.nil_append]
 rw [show pvM 1 (bhO v ρ (opW v ρ t)) v [] [t,eqK P] s=opQ v ρ t P s from rfl] at hrl hpo hwl ⊢
 rw [Vp (by omega),Option.bind_some,kv0 (by rw [hfin.tab 0 (by omega)];omega),Option.bind_some,
  show (Source.mk (opQ v ρ t P s).2.2.2.Script (opQ v ρ t P s).2.2.2.At (opQ v ρ t P s).2.2.2.State (opQ v ρ t P s).2.2.2.Count)=(opQ v ρ t P s).2.2.2 from rfl,
  show ([(((opQ v ρ t P s).2.2.1.getD 0 []).getD 0 0).1]:List Ext)=kv [opL v ρ t P s] from rfl,QB hfQ.1 (by simp),Option.bind_some,show rsM (opQ v ρ t P s).2.2.2 [opL v ρ t P s]=opS v ρ t P s from rfl,UQ hfS.1.3 hb,Option.bind_some]
 cases hg:ij (opS v ρ t P s).State bits with
 |none=>rw [wk hg];rfl
 |some n=>
  have hfT:=DD (ρ:=ρ) (t:=t) (P:=P) hf hkk n
  rw [wR hg]
  dsimp only
  rw [Bool.not_true,aj,Aj,Option.bind_some,lD hfS.1.3 (by rw [ey];omega),Option.bind_some,show tkM (opS v ρ t P s) (dS (n:Int))=opT v ρ n t P s from rfl,brd (by rw [gu,hwl];omega)]
  obtain ⟨q,hq⟩: ∃q,v+ρ=q+1:=⟨v+ρ-1,by omega⟩
  have hgt:(kvv (oB (v+ρ) (opW v ρ t) (opQ v ρ t P s).2.1))[0]? =some (kv (opW v ρ t)):=by
   match hL:(opQ v ρ t P s).2.1,hrl with
   |r::L,_=>rfl
   |[],h=>exfalso;rw [List.length_nil] at h;omega
  have hpq:=oe q (by omega)
  have hpl:=YU (Ks hfT (by omega) (n:=nq) (by omega)) (m:=2^q) (by omega) (by omega)
  have hwl2:(oB (q+1) (opW v ρ t) (opQ v ρ t P s).2.1).length≤100:=by rw [vf];omega
  rw [hq] at hpo
  rw [hgt,Option.bind_some,al,ms ht,hq,yI q (by omega),HS hfT (by omega) (by omega) (by omega),Option.bind_some]
  rw [K8 hpo (by omega) hwl2 (by rw [plM,List.length_map,kX];omega) hpl,Option.bind_some,opO,hq,Nat.add_sub_cancel];rfl
theorem WQ: ∀(Ws:List (List K)) (m k:Nat),(prK m Ws k).length=2*Ws.length
 |[],_,_=>rfl
 |W::Ws,m,k=>by rw [prK,List.length_cons,List.length_cons,WQ Ws,List.length_cons];omega
theorem a0Z: ∀(Ws:List (List K)) (m k:Nat),m≤9→Nf m Ws→(ptK m Ws k).length=Ws.length∧ ∀j,j<Ws.length→((ptK m Ws k).getD j []).length=m-1-j∧Hs ((ptK m Ws k).getD j [])
 |[],_,_,_,_=>⟨rfl,fun j hj=>absurd hj (by simp)⟩
 |W::Ws,m,k,hm,h=>by
  obtain ⟨h1,h2,h3⟩:=h
  have ih:=a0Z Ws (m-1) (k%2^(m-1)) (by omega) h3
  have hp:=oe (m-1) (by omega)
  refine ⟨by rw [ptK,List.length_cons,ih.1,List.length_cons],fun j hj=> ?_⟩
  rw [List.length_cons] at hj
  cases j with
  |zero=>exact ⟨(FH _ _ _).trans (by omega),a5M (pI _ _) (Nat.mod_lt _ (by omega))⟩
  |succ j=>
   have:=ih.2 j (by omega)
   exact ⟨this.1.trans (by omega),this.2⟩
theorem W7 {l:List Tx} (h:Hs l):l.all h32=true:=List.all_eq_true.2 fun x hx=>by simp only [h32,decide_eq_true_eq];exact h x hx
theorem F5 (v ρ:Nat) (t P:List K) (s:Source):(opQ v ρ t P s).1.length=v∧(opQ v ρ t P s).2.1.length=v:=FZ v _ _ _
theorem a5z {Ws:List (List K)} {st:Setting} {p:Int} (hW:Nf (v+ρ) Ws) (hl:Ws.length=v) (hm:v+ρ≤9) (e1:st.Rate=(ρ:Int)) (hv:1≤v):B4 (v:Int) st (qsM (v+ρ) Ws p)=true:=by
 have h1:=a0Z Ws (v+ρ) p.toNat hm hW
 have h2:((kv (prK (v+ρ) Ws p.toNat)).length:Int)=2*(v:Int):=by rw [al,WQ,hl];omega
 have h3:(((ptK (v+ρ) Ws p.toNat).length:Nat):Int)=(v:Int):=by rw [h1.1,hl]
 unfold B4 qsM
 dsimp only
 rw [decide_eq_true h2,Bool.true_and,FL.2 (yz _),Bool.true_and,decide_eq_true h3,Bool.true_and]
 refine Ax fun j hj=> ?_
 have hj2:=h1.2 j (by omega)
 unfold Rk
 dsimp only
 rw [W7 hj2.2,Bool.and_true,decide_eq_true_eq,hj2.1,e1];omega
theorem a62 {st:Setting} {nq n:Nat} (ht:t.length=2^v) (hv1:1≤v) (hv:v≤6) (hρ:ρ≤3) (hst:setB st=true) (e1:st.Rate=(ρ:Int)) (e2:st.Queries=(nq:Int)) (hn:n<65536):okO (opO v ρ nq n t P s) (v:Int) st=true:=by
 have hl:=F5 v ρ t P s
 have hw:=Je (opQ v ρ t P s).2.1 (v+ρ) (opW v ρ t) (ms ht) (by omega)
 have hwl:=vf (opQ v ρ t P s).2.1 (v+ρ) (opW v ρ t)
 have h1:GZ (kvv (opQ v ρ t P s).1) (v:Int) 3=true:=by
  unfold GZ
  rw [gu,hl.1,decide_eq_true rfl,Bool.true_and]
  refine List.all_eq_true.2 fun x hx=> ?_
  obtain ⟨g,hg,rfl⟩:=List.mem_map.1 hx
  have:=Xo v _ _ _ g hg
  unfold zx
  rw [al,this,FL.2 (yz g)];rfl
 have h2:(((oW (v+ρ) (opW v ρ t) (opQ v ρ t P s).2.1).length:Nat):Int)=(v:Int)-1:=by rw [T1,hl.2];omega
 have h3:((((plM (drL (opT v ρ n t P s) nq) ((2^(v+ρ-1):Nat):Int)).map (qsM (v+ρ) (oB (v+ρ) (opW v ρ t) (opQ v ρ t P s).2.1))).length:Nat):Int)=st.Queries:=by
  rw [List.length_map,plM,List.length_map,kX,e2]
 unfold okO opO
 dsimp only
 rw [decide_eq_true (by omega),hst,h1,decide_eq_true h2,W7 (YT _ _ _),om.2 (Subtype.property _),decide_eq_true (by omega),decide_eq_true h3]
 simp only [Bool.true_and]
 refine List.all_eq_true.2 fun x hx=> ?_
 obtain ⟨p,_,rfl⟩:=List.mem_map.1 hx
 exact a5z hw (by omega) (by omega) e1 hv1
theorem JX {st:Setting} {nq bits:Nat} (ht:t.length=2^v) (hP:P.length=v) (hv1:1≤v) (hv:v≤6) (hst:setB st=true) (e1:st.Rate=(ρ:Int)) (e2:st.Queries=(nq:Int)) (e3:st.Grind=(bits:Int)) (hf:Few s k) (hk:k≤800):
 oz (kv t) (kv P) st s=some (match ij (opS v ρ t P s).State bits with|none=>(⟨[],[],⟨0,0⟩,0,[]⟩,⟨[],0,[],0⟩,14)|some n=>(opO v ρ nq n t P s,drS (opT v ρ n t P s) nq,0)):=by
 have hk0:0≤k:=by have:=hf.2;have:=hf.1.4;omega
 have hp:=Gz v hv
 have hs2:=mu hst
 have hlen:=hf.1.1
 have hg:2≤2^v:=by
  obtain ⟨u,rfl⟩: ∃u,v=u+1:=⟨v-1,by omega⟩
  have:=Gz u (by omega)
  rw [Nat.pow_succ];omega
 have hsp:ji s 100=some false:=Tn hf (by omega) (n:=100) (by omega)
 have hop:=Xs (ρ:=ρ) (nq:=nq) (bits:=bits) ht hP hv1 hv (by omega) (by omega) (by omega) e1 e2 e3 hf hk
 unfold oz nk qF
 rw [al,al,brn (by omega),brn (by omega),HV hv ht,Option.bind_some,Bool.not_true,aj,brd (by omega),jv (by rw [al];omega),Option.bind_some,FL.2 (yz P),Option.bind_some,Bool.not_true,aj,ry,Option.bind_some,hst,Bool.not_true,aj,Ff hf.1,Option.bind_some,Bool.not_true,aj,
  ht,Ga hv,Option.bind_some,aQ,Option.bind_some,decide_eq_true (by omega),Bool.not_true,aj,hP,cT _ (by omega) (by omega),brd (by omega),XT (by omega),ff rfl,hsp,Option.bind_some,aj,hop,Option.bind_some]
 cases hg:ij (opS v ρ t P s).State bits with
 |none=>rw [wk hg];rfl
 |some n=>
  rw [wR hg]
  dsimp only
  have hT:=(DD (v:=v) (ρ:=ρ) (t:=t) (P:=P) hf (by omega) n).1.1
  rw [Bool.not_true,aj,EB (by rw [AR];omega),Option.bind_some]
end Go.AI.Fn
set_option linter.unusedVariables false
set_option linter.unusedSimpArgs false
namespace Go.AI.Fn
theorem a05 (m j:Nat):(2*m)/2^(j+1)%2=m/2^j%2:=by rw [Nat.pow_succ,Nat.mul_comm (2^j) 2, ←Nat.div_div_eq_div_mul,Nat.mul_div_cancel_left m (by omega)]
theorem a3u (m j:Nat):(2*m+1)/2^(j+1)%2=m/2^j%2:=by rw [Nat.pow_succ,Nat.mul_comm (2^j) 2, ←Nat.div_div_eq_div_mul,show (2*m+1)/2=m by omega]
theorem pX {l:List K} {j m:Nat} (h:m<l.length):(stK l j).getD m 0=if m/2^j%2=1 then l.getD m 0-l.getD (m-2^j) 0 else l.getD m 0:=by rw [stK,o0 h]
theorem a5C {l:List K} {n j:Nat} (h:l.length=2*n):evs (stK l (j+1))=stK (evs l) j:=by
 have h1:=fA l n h
 refine fm (by rw [fA _ n (by rw [fE];exact h),fE,h1]) fun m hm=> ?_
 rw [fA _ n (by rw [fE];exact h)] at hm
 rw [im,pX (by omega),pX (by omega),a05,im,im,Nat.pow_succ,show 2*m-2^j*2=2*(m-2^j) by omega]
theorem a4O {l:List K} {n j:Nat} (h:l.length=2*n):ods (stK l (j+1))=stK (ods l) j:=by
 have h1:=fP l n h
 refine fm (by rw [fP _ n (by rw [fE];exact h),fE,h1]) fun m hm=> ?_
 rw [fP _ n (by rw [fE];exact h)] at hm
 rw [j6,pX (by omega),pX (by omega),a3u,j6,j6]
 by_cases c:m/2^j%2=1
 ·have hq:2^j≤m:=by
   refine Nat.le_of_not_lt fun hlt=> ?_
   rw [Nat.div_eq_of_lt hlt] at c;omega
  rw [if_pos c,if_pos c,Nat.pow_succ,show 2*m+1-2^j*2=2*(m-2^j)+1 by omega]
 ·rw [if_neg c,if_neg c]
theorem a2a {l:List K} {n:Nat} (h:l.length=2*n):evs (stK l 0)=evs l:=by
 refine fm (by rw [fA _ n (by rw [fE];exact h),fA _ n h]) fun m hm=> ?_
 rw [fA _ n (by rw [fE];exact h)] at hm
 rw [im,pX (by omega),Nat.pow_zero,Nat.div_one,if_neg (by omega),im]
theorem a2D {l:List K} {n:Nat} (h:l.length=2*n):ods (stK l 0)=cb (-1) (ods l) (evs l):=by
 have h1:=fP l n h
 have h2:=fA l n h
 refine fm (by rw [fP _ n (by rw [fE];exact h),iT (by omega),h1]) fun m hm=> ?_
 rw [fP _ n (by rw [fE];exact h)] at hm
 rw [j6,pX (by omega),Nat.pow_zero,Nat.div_one,if_pos (by omega),gR (by omega),j6,im,show 2*m+1-1=2*m by omega]
 exact kg
theorem a1E {n:Nat} {l:List K} (h:l.length=2*n): ∀v,evs (cfK (v+1) l)=cfK v (evs (stK l 0))
 |0=>rfl
 |v+1=>by
  rw [cfK,a5C (by rw [j7];exact h),a1E h v];rfl
theorem a0K {n:Nat} {l:List K} (h:l.length=2*n): ∀v,ods (cfK (v+1) l)=cfK v (ods (stK l 0))
 |0=>rfl
 |v+1=>by
  rw [cfK,a4O (by rw [j7];exact h),a0K h v];rfl
theorem a6O {a b:List K} (r:K) (h:a.length=b.length) (j:Nat):stK (cb r a b) j=cb r (stK a j) (stK b j):=by
 refine fm (by rw [fE,iT h,iT (by rw [fE,fE];exact h),fE]) fun m hm=> ?_
 rw [fE,iT h] at hm
 have hs:(stK a j).length=(stK b j).length:=by rw [fE,fE];exact h
 rw [pX (by rw [iT h];exact hm),gR hs m,pX hm,pX (by omega)]
 split
 ·rw [gR h,gR h];exact kg
 ·rw [gR h]
theorem a4p {a b:List K} (r:K) (h:a.length=b.length): ∀v,cfK v (cb r a b)=cb r (cfK v a) (cfK v b)
 |0=>rfl
 |v+1=>by rw [cfK,a4p r h v,a6O r (by rw [j7,j7];exact h)];rfl
theorem a6E {l:List K} {n:Nat} (r:K) (h:l.length=2*n):cb r (evs l) (cb (-1) (ods l) (evs l))=fdK r l:=by
 have h1:=fP l n h
 have h2:=fA l n h
 refine fm (by rw [iT (by rw [iT (by omega)];omega),h2,tM r l n h]) fun m hm=> ?_
 rw [gR (by rw [iT (by omega)];omega),gR (by omega),im,j6,wj r l n m h];exact kg
theorem a2S {l:List K} {v:Nat} (r:K) (h:l.length=2^(v+1)):cb r (evs (cfK (v+1) l)) (ods (cfK (v+1) l))=cfK v (fdK r l):=by
 have h2:l.length=2*2^v:=by rw [h,Nat.pow_succ];omega
 have e1:=fA l _ h2
 have e2:=fP l _ h2
 rw [a1E h2,a0K h2,a2a h2,a2D h2, ←a4p r (by rw [iT (by omega)];omega),a6E r h2]
theorem ZZ {ρ:Nat} (hρ:ρ≤3): ∀(P:List K) (v:Nat) (t:List K),P.length≤v→v≤6→t.length=2^v→wdK (v+ρ) (Enc v ρ (cfK v t)) P=Enc (v-P.length) ρ (cfK (v-P.length) (CZ P t))
 |[],v,t,_,_,_=>rfl
 |r::P,v,t,hP,hv,ht=>by
  rw [List.length_cons] at hP
  obtain ⟨u,rfl⟩: ∃u,v=u+1:=⟨v-1,by omega⟩
  have h2:t.length=2*2^u:=by rw [ht,Nat.pow_succ];omega
  rw [wdK,show u+1+ρ-1=u+ρ by omega,a1c r (by omega) (by rw [j7];exact ht),a2S r ht,ZZ hρ P u _ (by omega) (by omega) (tM r t _ h2),List.length_cons,show u+1-(P.length+1)=u-P.length by omega];rfl
theorem Xj: ∀(n:Nat) (x:K),ev (List.replicate n 0) x=0
 |0,_=>rfl
 |n+1,x=>by rw [List.replicate_succ,ev,Xj n x];exact kg
theorem a3s (ρ:Nat) (hρ:ρ≤9) (a:K) (j:Nat) (hj:j<2^ρ):(Enc 0 ρ [a]).getD j 0=a:=by
 have hp:=oe ρ hρ
 unfold Enc
 rw [Nat.zero_add,a6b ρ _ _ (kI (by simp;omega)) (a4i (by omega)) j hj,wE,YY,Xj,ev,ev]
 clear hp hj
 exact kg
end Go.AI.Fn
set_option linter.unusedVariables false
set_option linter.unusedSimpArgs false
namespace Go.AI.Fn
def eaK:List K→List K→K→K
 |x::A,b::B,c=>eaK A B (c*(x*b+(1-x)*(1-b)))
 |_,_,c=>c
theorem a40 (r c:K): ∀l:List K,fdK r (sc c l)=sc c (fdK r l)
 |[]=>rfl
 |[a]=>rfl
 |a::b::l=>by
  show (c*a+r*(c*b-c*a))::fdK r (sc c l)=(c*(a+r*(b-a)))::sc c (fdK r l)
  rw [a40 r c l,show c*a+r*(c*b-c*a)=c*(a+r*(b-a)) from kg]
theorem Zb (c:K): ∀(R l:List K),CZ R (sc c l)=sc c (CZ R l)
 |[],l=>rfl
 |r::R,l=>by
  show CZ R (fdK r (sc c l))=sc c (CZ R (fdK r l))
  rw [a40,Zb c R]
theorem WF (r p:K): ∀E:List K,fdK r (gK E (rI [1] p))=sc (r*p+(1-r)*(1-p)) E
 |[]=>rfl
 |e::E=>by
  show (1*(1-p)*e+r*(1*p*e-1*(1-p)*e))::fdK r (gK E (rI [1] p))=((r*p+(1-r)*(1-p))*e)::sc _ E
  rw [WF r p E,show 1*(1-p)*e+r*(1*p*e-1*(1-p)*e)=(r*p+(1-r)*(1-p))*e from kg]
theorem Zr: ∀(R P:List K) (c:K),R.length=P.length→c*(CZ R (eqK P)).getD 0 0=eaK R P c
 |[],[],c,_=>by show c*1=c;exact kg
 |[],p::P,c,h=>by simp at h
 |r::R,[],c,h=>by simp at h
 |r::R,p::P,c,h=>by
  rw [List.length_cons,List.length_cons] at h
  show c*(CZ R (fdK r (eqK (p::P)))).getD 0 0=eaK R P (c*(r*p+(1-r)*(1-p)))
  rw [SM,WF,Zb,a4T, ←Zr R P _ (by omega)];exact kg
theorem OM (f:Nat→K): ∀n,iR (n+1) f=f 0+iR n fun k=>f (k+1)
 |0=>by show (0:K)+f 0=f 0+0;exact kg
 |n+1=>by rw [iR,OM f n,iR];exact kg
theorem Xk: ∀(t e:List K),t.length=e.length→iR t.length (fun k=>t.getD k 0*e.getD k 0)=xn t e
 |[],[],_=>rfl
 |[],b::e,h=>by simp at h
 |a::t,[],h=>by simp at h
 |a::t,b::e,h=>by
  rw [List.length_cons,OM]
  show a*b+iR t.length (fun k=>t.getD k 0*e.getD k 0)=a*b+xn t e
  rw [Xk t e (by simpa using h)]
theorem a3j {t e:List K} {n:Nat} (ht:t.length=n) (he:e.length=n):oX 1 [t,e] n=xn t e:=by
 rw [←Xk t e (by omega),ht];rfl
def Gf:Nat→List K→List K→List (List UInt8)
 |_,_,[]=>[]
 |m,W,r::P=>wrK (m-1) W::Gf (m-1) (fwK (m-1) W r) P
theorem OK: ∀(P:List K) (m:Nat) (W:List K),P≠[]→wrK (m-1) W::oW m W P=Gf m W P
 |[],_,_,h=>absurd rfl h
 |[r],m,W,_=>rfl
 |r::r2::P,m,W,_=>by
  rw [oW,Gf, ←OK (r2::P) (m-1) _ (by simp),if_neg (by simp),List.singleton_append,show m-1-1=m-2 by omega]
theorem X9: ∀(P:List K) (m:Nat) (W:List K) (j:Nat),j+1<P.length→(oW m W P).getD j []=wrK (m-(j+1)-1) (wdK m W (P.take (j+1)))
 |[],_,_,j,h=>by simp at h
 |[r],m,W,j,h=>by simp at h
 |r::r2::P,m,W,0,_=>by
  rw [oW,if_neg (by simp),List.singleton_append,show m-(0+1)-1=m-2 by omega];rfl
 |r::r2::P,m,W,j+1,h=>by
  rw [oW,if_neg (by simp),List.singleton_append,show m-(j+1+1)-1=m-1-(j+1)-1 by omega]
  exact X9 (r2::P) (m-1) _ j (by simpa using h)
def mM (a b:K):List UInt8:=[a.1,b.1].flatMap e8
def Yd (due:Option K) (x:K):Prop:= ∃d,due=some d∧x≠d
noncomputable instance a4H (due:Option K) (x:K):Decidable (Yd due x):=Classical.propDecidable _
noncomputable def qcK (l:K):Nat→List (List UInt8)→List K→List (List (List UInt8))→List K→Nat→Option K→Int
 |m,rt::rts,a::b::prs,p::pths,r::P,k,due=>
  if (H (gV (k%2^(m-1)) (mM a b) p (m-1))==rt)=false then 9
  else if Yd due (if 2^(m-1)≤k then b else a) then 12
  else qcK l (m-1) rts prs pths P (k%2^(m-1)) (some (fpK m (k%2^(m-1)) a b r))
 |_,_,_,_,_,_,due=>if due=some l then 0 else 13
noncomputable def qsC (l:K) (m:Nat) (rts:List (List UInt8)) (D:List K):List Int→List aB→Int
 |p::ps,q::qs=>if qcK l m rts (q.Pairs.map toK) q.Paths D p.toNat none=0 then qsC l m rts D ps qs else qcK l m rts (q.Pairs.map toK) q.Paths D p.toNat none
 |_,_=>0
theorem Xq (l:K): ∀(P:List K) (m:Nat) (W:List K) (k:Nat) (due:Option K),W.length=2^m→P.length≤m→m≤9→k<2^m→(∀d,due=some d→d=W.getD k 0)→(P=[]→due≠none)→(∀j,j<2^(m-P.length)→(wdK m W P).getD j 0=l)→
 qcK l m (Gf m W P) (prK m (oB m W P) k) (ptK m (oB m W P) k) P k due=0
 |[],m,W,k,due,hW,hP,hm,hk,hd,hn,hf=>by
  have h2:=hf k (by rw [List.length_nil,Nat.sub_zero];exact hk)
  cases due with
  |none=>exact absurd rfl (hn rfl)
  |some d=>
   have h1:=hd d rfl
   have h3:d=l:=h1.trans h2
   subst h3
   show (if some d=some d then (0:Int) else 13)=0
   rw [if_pos rfl]
 |r::P,m,W,k,due,hW,hP,hm,hk,hd,hn,hf=>by
  rw [List.length_cons] at hP
  obtain ⟨q,rfl⟩: ∃q,m=q+1:=⟨m-1,by omega⟩
  have hp:=oe q (by omega)
  have hs:2^(q+1)=2*2^q:=by rw [Nat.pow_succ];omega
  have hat:k%2^q<2^q:=Nat.mod_lt _ (by omega)
  have hroot:H (gV (k%2^q) (mM (W.getD (k%2^q) 0) (W.getD (k%2^q+2^q) 0)) (gD ((lvK q W).map hL) q (k%2^q)) q)=wrK q W:=by
   have:=ZB (l:=lvK q W) (pI q W) hat
   rw [show (lvK q W).getD (k%2^q) []=mM (W.getD (k%2^q) 0) (W.getD (k%2^q+2^q) 0) by simp [lvK,hat];rfl] at this
   exact this
  have hown:(if 2^q≤k then W.getD (k%2^q+2^q) 0 else W.getD (k%2^q) 0)=W.getD k 0:=by
   split
   ·rename_i h
    rw [show k%2^q+2^q=k by rw [Nat.mod_eq_sub_mod h,Nat.mod_eq_of_lt (by omega)];omega]
   ·rename_i h
    rw [Nat.mod_eq_of_lt (by omega)]
  have hfw:fpK (q+1) (k%2^q) (W.getD (k%2^q) 0) (W.getD (k%2^q+2^q) 0) r=(fwK q W r).getD (k%2^q) 0:=by rw [fwK,o0 hat]
  have ih:=Xq l P q (fwK q W r) (k%2^q) (some (fpK (q+1) (k%2^q) (W.getD (k%2^q) 0) (W.getD (k%2^q+2^q) 0) r)) (sR _ _ _) (by omega) (by omega) hat (fun d hd=>by cases hd;exact hfw) (fun _ h=>by cases h) (fun j hj=>hf j (by rw [List.length_cons,show q+1-(P.length+1)=q-P.length by omega];exact hj))
  simp only [Gf,oB,prK,ptK,qcK,Nat.add_sub_cancel]
  rw [if_neg (by rw [hroot];simp),if_neg (by rintro ⟨d,h1,h2⟩;rw [hown] at h2;exact h2 (hd d h1).symm)]
  exact ih
def bvO (v:Nat) (rts:List (List UInt8)) (j:Nat) (s:Source):Source:=if j+1<v then tkM s (rts.getD j []) else s
theorem K1 (v:Nat) (rts:List (List UInt8)):a6t (bvO v rts):=fun j s k h hk=>by
 unfold bvO;split
 ·exact h.take _
 ·exact h.mono (by omega)
noncomputable def chC (m bits nq:Nat) (root:List UInt8) (P:List K) (rts:List (List UInt8)) (l:K) (nonce:Int) (qs:List aB) (q:Int×List K×K×Source):Int:=
 if q.1=0 then
  if l*eaK q.2.1 P 1=q.2.2.1 then
   if gM (rsM q.2.2.2 [l]).State bits nonce=true then qsC l m (root::rts) q.2.1 (plM (drL (tkM (rsM q.2.2.2 [l]) (dS nonce)) nq) ((2^(m-1):Nat):Int)) qs
   else 14
  else 11
 else q.1
def chS (nq:Nat) (l:K) (nonce:Int) (q:Int×List K×K×Source):Source:=drS (tkM (rsM q.2.2.2 [l]) (dS nonce)) nq
variable {v ρ:Nat} {t P:List K} {s:Source} {k:Int}
theorem X2 {l:K} {m:Nat} {D W:List K} (hW:W.length=2^m) (hD:D.length≤m) (hm:m≤9) (hD0:D≠[]) (hf: ∀j,j<2^(m-D.length)→(wdK m W D).getD j 0=l): ∀ps:List Int,(∀p∈ps,0≤p∧p<((2^m:Nat):Int))→qsC l m (Gf m W D) D ps (ps.map (qsM m (oB m W D)))=0
 |[],_=>rfl
 |p::ps,h=>by
  have hp:=h p (by simp)
  have h1:=Xq l D m W p.toNat none hW hD hm (by omega) (fun d hd=>by cases hd) (fun h=>absurd h hD0) hf
  have e:((qsM m (oB m W D) p).Pairs).map toK=prK m (oB m W D) p.toNat:=by
   show (kv (prK m (oB m W D) p.toNat)).map toK=_
   rw [kv,List.map_map]
   refine (List.map_congr_left fun x _=> ?_).trans (List.map_id _)
   exact K.ext (pR x.2)
  rw [List.map_cons,qsC,e]
  rw [show (qsM m (oB m W D) p).Paths=ptK m (oB m W D) p.toNat from rfl,if_pos h1,X2 hW hD hm hD0 hf ps fun x hx=>h x (by simp [hx])]
theorem a30 {nq bits n:Nat} (ht:t.length=2^v) (hP:P.length=v) (hv1:1≤v) (hv:v≤6) (hρ:ρ≤3) (hg:ij (opS v ρ t P s).State bits=some n) (hf:Few s k) (hk:k≤800) (hq:nq≤8):
 vfM 1 (bvO v (oW (v+ρ) (opW v ρ t) (opQ v ρ t P s).2.1)) (opQ v ρ t P s).1 0 (xn t (eqK P)) s=(0,(opQ v ρ t P s).2.1,opL v ρ t P s*eaK (opQ v ρ t P s).2.1 P 1,(opQ v ρ t P s).2.2.2):=by
 have hl:=F5 v ρ t P s
 have key:=a3U (kind:=1) (bh:=bhO v ρ (opW v ρ t)) (bv:=bvO v (oW (v+ρ) (opW v ρ t) (opQ v ρ t P s).2.1)) v [] [t,eqK P] s (Ym ht hP) (fun j hj s'=>by
  rw [List.length_nil,List.nil_append,Nat.zero_add]
  show bvO v (oW (v+ρ) (opW v ρ t) (opQ v ρ t P s).2.1) j s'=bhO v ρ (opW v ρ t) ((opQ v ρ t P s).2.1.take (j+1)) s'
  rw [bvO,bhO,List.length_take,hl.2,Nat.min_eq_left (by omega)]
  by_cases c:j+1<v
  ·rw [if_pos c,if_pos c,X9 _ _ _ _ (by rw [hl.2];exact c)]
  ·rw [if_neg c,if_neg c])
 rw [a3j ht (by rw [PU,hP]),List.length_nil] at key
 refine key.trans ?_
 have hT:(opQ v ρ t P s).2.2.1.getD 1 []=CZ (opQ v ρ t P s).2.1 (eqK P):=UK 1 v [] [t,eqK P] s
 have he:=Zr (opQ v ρ t P s).2.1 P 1 (by rw [hl.2,hP])
 have h1:oX 1 (opQ v ρ t P s).2.2.1 1=opL v ρ t P s*eaK (opQ v ρ t P s).2.1 P 1:=by
  rw [a3p,cmK,if_pos rfl,RX,RX,hT, ←he]
  show opL v ρ t P s*_=_
  generalize (CZ (opQ v ρ t P s).2.1 (eqK P)).getD 0 0=y
  generalize opL v ρ t P s=x
  clear he hT key hg hf
  exact kg
 rw [←h1];rfl
theorem a2I {nq bits n:Nat} (ht:t.length=2^v) (hP:P.length=v) (hv1:1≤v) (hv:v≤6) (hρ:ρ≤3) (hg:ij (opS v ρ t P s).State bits=some n) (hf:Few s k) (hk:k≤800) (hq:nq≤8):
 chC (v+ρ) bits nq (wrK (v+ρ-1) (opW v ρ t)) P (oW (v+ρ) (opW v ρ t) (opQ v ρ t P s).2.1) (opL v ρ t P s) n (opO v ρ nq n t P s).Queries (0,(opQ v ρ t P s).2.1,opL v ρ t P s*eaK (opQ v ρ t P s).2.1 P 1,(opQ v ρ t P s).2.2.2)=0:=by
 have hl:=F5 v ρ t P s
 have hg2:=KH hg
 have hfT:=DD (v:=v) (ρ:=ρ) (t:=t) (P:=P) hf (by omega) n
 have hk0:0≤k:=by have:=hf.2;have:=hf.1.4;omega
 have hD0:(opQ v ρ t P s).2.1≠[]:=fun h=>by rw [h,List.length_nil] at hl;omega
 have hpp:=oe (v+ρ-1) (by omega)
 have hpq:2^(v+ρ)=2*2^(v+ρ-1):=by
  obtain ⟨q,hq⟩: ∃q,v+ρ=q+1:=⟨v+ρ-1,by omega⟩
  rw [hq,Nat.add_sub_cancel,Nat.pow_succ];omega
 have hfin: ∀j,j<2^(v+ρ-(opQ v ρ t P s).2.1.length)→(wdK (v+ρ) (opW v ρ t) (opQ v ρ t P s).2.1).getD j 0=opL v ρ t P s:=fun j hj=>by
  have ht0:(opQ v ρ t P s).2.2.1.getD 0 []=CZ (opQ v ρ t P s).2.1 t:=UK 0 v [] [t,eqK P] s
  have hone:(CZ (opQ v ρ t P s).2.1 t).length=1:=by
   rw [←ht0]
   have:=Q0 (kind:=1) (bh:=bhO v ρ (opW v ρ t)) v [] [t,eqK P] s (Ym ht hP)
   exact this.tab 0 (by rw [this.len];omega)
  rw [opW,ZZ hρ _ v t (by omega) hv ht,hl.2,Nat.sub_self]
  rw [hl.2,show v+ρ-v=ρ by omega] at hj
  unfold opL
  rw [ht0]
  match hx:CZ (opQ v ρ t P s).2.1 t,hone with
  |[a],_=>exact a3s ρ (by omega) a j hj
 unfold chC
 rw [if_pos rfl,if_pos rfl,if_pos (show gM (rsM (opQ v ρ t P s).2.2.2 [opL v ρ t P s]).State bits n=true from hg2.2.1)]
 rw [OK _ _ _ hD0]
 exact X2 (ms ht) (by omega) (by omega) hD0 hfin _ fun x hx=>by
  obtain ⟨y,hy,rfl⟩:=List.mem_map.1 hx
  have h0:=Int.emod_nonneg y.A (b:=((2^(v+ρ-1):Nat):Int)) (by omega)
  have h3:=Int.emod_lt_of_pos y.A (b:=((2^(v+ρ-1):Nat):Int)) (by omega)
  omega
end Go.AI.Fn
set_option linter.unusedVariables false
set_option linter.unusedSimpArgs false
namespace Go.AI.Fn
theorem a83: ∀i:Nat,i<512→ ∀j:Nat,j<9→(bk .i64 (aL .i64 (i:Int) (j:Int)) 1==1)=decide (i/2^j%2=1):=by decide+kernel
theorem a52 {i k:Nat} {leaf:Tx} {path:List Tx} (hi:i<512) (hk:k≤9) (hl:leaf.length≤1000) (hp:path.length=k) (hh:Hs path):Dy i leaf path=some (w4 i leaf path k):=by
 unfold Dy
 rw [By (by omega),Option.bind_some,hp]
 have key:Loop (jp i path k) ([LP leaf],0)=some (w4 i leaf path k,(k:Int),false):=by
  refine am (step:=jp i path k) (fun j=>(w4 i leaf path j,(j:Int))) k (fun j hj=> ?_) ?_
  ·have hx:=hh.getD (k:=j) (by omega)
   have hH:=uc (gV i leaf path j)
   simp only [jp]
   have e:=TI (i:=i) (leaf:=leaf) (path:=path) (Nat.le_refl j)
   rw [bQ (by rw [lT];omega),Option.some.injEq] at e
   have e2:(w4 i leaf path j)[((j:Nat):Int).toNat]? =some (gV i leaf path j):=by
    rw [Int.toNat_natCast,vd (by rw [lT];omega),e]
   have hw:(gV i leaf path j).length≤100000000:=by
    cases j with
    |zero=>simp only [gV,LP,List.length_cons];omega
    |succ j=>
     have hx':=hh.getD (k:=j) (by omega)
     have hH':=uc (gV i leaf path j)
     simp only [gV]
     split<;>simp only [Fi,List.length_cons,List.length_append]<;>omega
   rw [brd (by omega),Bm (by omega),Option.bind_some,brd (by omega),brd (by rw [lT];omega),e2,Option.bind_some,tD hw,Option.bind_some,brd (by omega),a83 i hi j (by omega)]
   by_cases c:i/2^j%2=1
   ·rw [brd c,uB (by omega) (by omega),Option.bind_some,ak (by simp only [List.length_append,lT,List.length_singleton];omega),aa _ (by omega) (by omega),w4,w4,cM _ (j+1)]
    simp only [gV,if_pos c];rfl
   ·rw [brn c,uB (by omega) (by omega),Option.bind_some,ak (by simp only [List.length_append,lT,List.length_singleton];omega),aa _ (by omega) (by omega),w4,w4,cM _ (j+1)]
    simp only [gV,if_neg c];rfl
  ·simp only [jp]
   rw [brn (by omega),decide_eq_false (by omega)]
 rw [key];rfl
theorem up9 {i k:Nat} {leaf:Tx} {path:List Tx} (hi:i<512) (hk:k≤9) (hl:leaf.length≤1000) (hp:path.length=k) (hh:Hs path):Fq i leaf path=some (w4 i leaf path k,H (gV i leaf path k)):=by
 unfold Fq
 rw [ak (by simp only [List.length_singleton];omega),OI (by omega),Option.bind_some]
 have key:Loop (jE path) ([[0]++leaf],(i:Int),hL leaf,0)=some (w4 i leaf path k,((i/2^k:Nat):Int),H (gV i leaf path k),(k:Int),false):=by
  have key:=am (step:=jE path) (fun j=>(w4 i leaf path j,((i/2^j:Nat):Int),H (gV i leaf path j),(j:Int))) k (e:=(w4 i leaf path k,((i/2^k:Nat):Int),H (gV i leaf path k),(k:Int),false)) (fun j hj=> ?_) ?_
  ·have e0:i/2^0=i:=by simp
   rw [e0] at key
   exact key
  ·have hx:=hh.getD (k:=j) (by omega)
   have hH:=uc (gV i leaf path j)
   have hq:IntKind.wrap .i64 (((i/2^j:Nat):Int).tdiv 2)=((i/2^(j+1):Nat):Int):=(XV i j).resolve_right (by omega)
   have hm:(((i/2^j:Nat):Int).tmod 2==1)=decide (i/2^j%2=1):=by
    rw [bp _ _ (Int.natCast_nonneg _)]
    generalize i/2^j=q
    by_cases c:q%2=1
    ·rw [decide_eq_true c];simp;omega
    ·rw [decide_eq_false c];simp;omega
   simp only [jE]
   rw [brd (by omega),ak (by simp only [List.length_singleton];omega),Bm (by omega),Option.bind_some,ak (by simp only [List.length_append,List.length_singleton];omega),hm,hq]
   by_cases c:i/2^j%2=1
   ·rw [brd c,Option.bind_some,ak (by simp only [List.length_singleton];omega),ak (by simp only [List.length_append,List.length_singleton];omega),ak (by simp only [List.length_append,lT,List.length_singleton];omega),
     lG (by simp only [List.length_append,List.length_singleton];omega),Option.bind_some,aa _ (by omega) (by omega),w4,w4,cM _ (j+1)]
    simp only [gV,if_pos c,Fi,List.singleton_append,List.cons_append,List.nil_append,lJ]
   ·rw [brn c,ak (by simp only [List.length_append,lT,List.length_singleton];omega),
     lG (by simp only [List.length_append,List.length_singleton];omega),Option.bind_some,aa _ (by omega) (by omega),w4,w4,cM _ (j+1)]
    simp only [gV,if_neg c,Fi,List.singleton_append,List.cons_append,List.nil_append,lJ]
  ·simp only [jE]
   rw [brn (by omega),decide_eq_false (by omega)]
 rw [key];rfl
theorem a65 {root:Tx} {i k:Nat} {leaf:Tx} {path:List Tx} (hi:i<512) (hk:k≤9) (hl:leaf.length≤64) (hp:path.length=k) (hh:Hs path):Aq root ((2^k:Nat):Int) i leaf path=some (H (gV i leaf path k)==root):=by
 unfold Aq
 have hw:(gV i leaf path k).length≤100000000:=by
  cases k with
  |zero=>simp only [gV,LP,List.length_cons];omega
  |succ j=>
   have hx':=hh.getD (k:=j) (by omega)
   have hH':=uc (gV i leaf path j)
   simp only [gV]
   split<;>simp only [Fi,List.length_cons,List.length_append]<;>omega
 rw [brn (by omega),a4Z k hk,Option.bind_some,ff (by omega),a4K (by omega) hh,Option.bind_some,aj,a52 hi hk (by omega) hp hh,Option.bind_some,lT,aa _ (by omega) (by omega),show (((k+1:Nat):Int))-1=(k:Int) by omega,TI (Nat.le_refl k),Option.bind_some,tD hw];rfl
theorem JU: ∀k:Nat,k≤9→bW .i64 1 (k:Int)=((2^k:Nat):Int):=by decide+kernel
theorem a5G {root:Tx} {i k:Nat} {leaf:Tx} {path:List Tx} (hi:i<512) (hk:k≤9) (hl:leaf.length≤64) (hp:path.length=k) (hh:Hs path):n9 root ((2^k:Nat):Int) i leaf path=some (H (gV i leaf path k)==root):=by
 unfold n9
 have hm:mn 20 ((path.length:Nat):Int)=(k:Int):=by rw [hp];simp only [mn];omega
 rw [brn (by omega),hm,cT _ (by omega) (by omega),brd (by omega),JU k hk,ff rfl]
 have key:Loop (fq root i leaf path) 0=some (.inr (((path.length:Nat):Int),false)):=
  am (step:=fq root i leaf path) (fun j=>(j:Int)) path.length (fun j hj=>by
   have hx:=hh.getD (k:=j) (by omega)
   simp only [fq]
   rw [brd (by omega),Bm (by omega),Option.bind_some,ff (by omega),aa _ (by omega) (by omega)];rfl) (by
   simp only [fq]
   rw [brn (by omega),decide_eq_false (by omega)])
 rw [key,Option.bind_some,mw,up9 hi hk (by omega) hp hh];rfl
end Go.AI.Fn
set_option linter.unusedVariables false
set_option linter.unusedSimpArgs false
namespace Go.AI.Fn
theorem Za {l:List K} {j:Nat} (hl:l.length≤64) (hj:j<6):Loop (cw ((2^j:Nat):Int) (l.length:Int)) (kv l,0)=some (kv (stK l j),(l.length:Int),false):=by
 have key:=am (step:=cw ((2^j:Nat):Int) (l.length:Int)) (fun i=>(kv (stP l j i),(i:Int))) l.length (e:=(kv (stK l j),(l.length:Int),false)) (fun i hi=> ?_) ?_
 ·have key':Loop (cw ((2^j:Nat):Int) (l.length:Int)) (kv (stP l j 0),0)=_:=key
  rw [TM] at key';exact key'
 ·simp only [cw]
  have hb:=a6T i (by omega) j hj
  have hlen:(kv (stP l j i)).length=l.length:=by rw [al,kN]
  have hq:1≤2^j:=Nat.one_le_two_pow
  have hb2:(bk .i64 (i:Int) ((2^j:Nat):Int) !=0)= !decide (i/2^j%2=0):=by rw [bne,hb]
  rw [brd (by omega),hb2]
  by_cases c:i/2^j%2=0
  ·rw [decide_eq_true c,Bool.not_true,aj,aa _ (by omega) (by omega),T2 c];rfl
  ·obtain ⟨h1,h2,h3⟩:=a7m i (by omega) j hj (by omega)
   have h4:IntKind.wrap .i64 ((i:Int)-((2^j:Nat):Int))=((i-2^j:Nat):Int):=by rw [aa _ (by omega) (by omega)];omega
   rw [decide_eq_false c,Bool.not_false,aQ,h4]
   simp only [Int.toNat_natCast]
   rw [brd (by omega),brd (by omega),Ao (by rw [kN];omega),Option.bind_some,brd (by omega),brd (by omega),Ao (by rw [kN];omega),Option.bind_some,Ai hi,if_neg (by omega),Ai (by omega),if_neg (by omega),ie (Subtype.property _) (Subtype.property _),Option.bind_some,brd (by omega),brd (by omega),Option.bind_some,aa _ (by omega) (by omega), ←Wv hi (by omega)]
   rw [kv,kv,List.map_set];rfl
 ·simp only [cw]
  rw [brn (by omega),decide_eq_false (by omega),Xh]
theorem Mq {l:List K} {v:Nat} (h:l.length=2^v) (hv:v≤6):re (kv l)=some (kv (cfK v l)):=by
 have hp:=Gz v hv
 unfold re mg
 have key:=am (step:=cQ) (fun j=>(kv (cfK j l),((2^j:Nat):Int))) v (e:=(kv (cfK v l),((2^v:Nat):Int),false)) (fun j hj=> ?_) ?_
 ·have key':Loop cQ (kv l,1)=_:=key
  rw [List.nil_append,ak (by rw [al];omega),key'];rfl
 ·have hlt:2^j<2^v:=Nat.pow_lt_pow_right (by omega) hj
  have hq:1≤2^j:=Nat.one_le_two_pow
  have hl:=j7 l j
  simp only [cQ,al]
  have hc2:=Za (l:=cfK j l) (j:=j) (by omega) (by omega)
  rw [brd (by omega),hc2,Option.bind_some,aa _ (by omega) (by omega),Nat.pow_succ];simp [cfK]
 ·have hl:=j7 l v
  simp only [cQ,al]
  rw [brn (by omega),decide_eq_false (by omega)]
theorem TY {k:Nat} {W:List K} (hk:k+1≤9) (hW:W.length=2^(k+1)):sE (kv W)=some (lvK k W):=by
 have hp:=oe (k+1) hk
 have hs:2^(k+1)=2*2^k:=by rw [Nat.pow_succ];omega
 have hh:=yI k hk
 unfold sE
 rw [al,hW,hh]
 have key:=am (step:=fj (kv W) ((2^k:Nat):Int) ((2^k:Nat):Int)) (fun j=>((List.range j).map (lfK k W),(j:Int))) (2^k) (e:=(lvK k W,((2^k:Nat):Int),false)) (fun j hj=> ?_) ?_
 ·have key':Loop (fj (kv W) ((2^k:Nat):Int) ((2^k:Nat):Int)) ([],0)=_:=key
  rw [key'];rfl
 ·simp only [fj]
  rw [brd (by omega),dL (by omega),Option.bind_some,aa ((j:Int)+_) (by omega) (by omega),show (j:Int)+((2^k:Nat):Int)=((j+2^k:Nat):Int) by omega,dL (by omega),Option.bind_some,uf (by simp),Option.bind_some,
   ak (by simp only [List.length_append,List.length_map,List.length_range,List.length_singleton];omega),aa _ (by omega) (by omega),List.range_succ,List.map_append,List.map_singleton];rfl
 ·simp only [fj]
  rw [brn (by omega),decide_eq_false (by omega)];rfl
def wtK (m:Nat) (W:List K):aP:=⟨kv W,gq ((lvK (m-1) W).map hL) (m-1)⟩
def uZ:Nat→List (List K)→List aP
 |_,[]=>[]
 |m,W::Ws=>wtK m W::uZ (m-1) Ws
theorem Ez: ∀(Ws:List (List K)) (m:Nat),(uZ m Ws).length=Ws.length
 |[],_=>rfl
 |W::Ws,m=>by rw [uZ,List.length_cons,Ez Ws,List.length_cons]
theorem zp {k:Nat} {W:List K} (hk:k+1≤9) (hW:W.length=2^(k+1)):rv (kv W)=some (wtK (k+1) W):=by
 unfold rv
 rw [TY hk hW,Option.bind_some,Tq (FM k W) (pI k W) (by omega),Option.bind_some];rfl
theorem Ky (k:Nat) (W:List K) (hk:k≤9):rX (wtK (k+1) W).rows=some (wrK k W):=Sw (by rw [List.length_map,Nat.add_sub_cancel,pI]) hk
theorem FV {v ρ:Nat} {t:List K} (ht:t.length=2^v) (hv1:1≤v) (hv:v≤6) (h1:1≤ρ) (h3:ρ≤3):kD (kv t) (ρ:Int)=some (wrK (v+ρ-1) (opW v ρ t),0):=by
 have hp:=Gz v hv
 have hg:2≤2^v:=by
  obtain ⟨u,rfl⟩: ∃u,v=u+1:=⟨v-1,by omega⟩
  have:=Gz u (by omega)
  rw [Nat.pow_succ];omega
 obtain ⟨q,hq⟩: ∃q,v+ρ=q+1:=⟨v+ρ-1,by omega⟩
 unfold kD
 rw [al,brn (by omega),GX hv ht,Option.bind_some,Bool.not_true,aj,o4,Option.bind_some,ht,decide_eq_true (by omega),decide_eq_true (by omega),Bool.and_self,Bool.not_true,aj,o4,Option.bind_some,decide_eq_true (by omega),decide_eq_true (by omega),Bool.and_self,Bool.not_true,aj,
  Mq ht hv,Option.bind_some,EA (m:=v) (t:=ρ) (by omega) (by rw [j7];exact ht),Option.bind_some,zp (k:=q) (by omega) (by rw [←hq];exact ms ht),Option.bind_some,Ky q _ (by omega),Option.bind_some,hq,Nat.add_sub_cancel];rfl
theorem Gb {v ρ:Nat} {t:List K} (ht:t.length=2^v) (hv1:1≤v) (hv:v≤6) (h1:1≤ρ) (h3:ρ≤3):kH (kv t) (ρ:Int)=some (wrK (v+ρ-1) (opW v ρ t),0):=by
 have hp:=Gz v hv
 have hg:2≤2^v:=by
  obtain ⟨u,rfl⟩: ∃u,v=u+1:=⟨v-1,by omega⟩
  have:=Gz u (by omega)
  rw [Nat.pow_succ];omega
 obtain ⟨q,hq⟩: ∃q,v+ρ=q+1:=⟨v+ρ-1,by omega⟩
 unfold kH qF
 rw [al,brn (by omega),HV hv ht,Option.bind_some,Bool.not_true,aj,ht,Ga hv,Option.bind_some,aQ,Option.bind_some,decide_eq_true (by omega),Bool.not_true,aj,wS,Option.bind_some,decide_eq_true (by omega),decide_eq_true (by omega),Bool.and_self,Bool.not_true,aj,
  Ov ht hv (by omega),Option.bind_some,yM (k:=q) (by omega) (by rw [←hq];exact ms ht),Option.bind_some,MA q _ (by omega),Option.bind_some,hq,Nat.add_sub_cancel];rfl
end Go.AI.Fn
set_option linter.unusedVariables false
set_option linter.unusedSimpArgs false
namespace Go.AI.Fn
theorem SJ {ρ:Nat} {V:Int} {bh:List K→Source→Source} (hb:a1U bh) (hρ:ρ≤3): ∀(v:Nat) (Q:List K) (T:List (List K)) (W:List K) (s:Source) (k:Int) (pre:List aP) (R:List (List Ext)) (P:List Ext) (Rt:List (List UInt8)),
 OkT 1 (2^(v+1)) T→W.length=2^(v+1+ρ)→Few s k→k+3*(v+1)≤1000→v+1≤6→R.length+(v+1)≤1000→P.length+(v+1)≤1000→Rt.length+(v+1)≤1000→(pre.length:Int)+v+1=V→V≤1000→
 (∀(P':List K) (s':Source),P'≠[]→P'.length≤v+1→bh (Q++P') s'=if P'.length<v+1 then tkM s' (wrK (v+1+ρ-P'.length-1) (wdK (v+1+ρ) W P')) else s')→
 Loop (aN ([]:List Ext) 1) (pre++[wtK (v+1+ρ) W],R,P,Rt,kvv T,s.Script,s.At,s.State,s.Count,V,0,0,0)=
  some (pre++uZ (v+1+ρ) (oB (v+1+ρ) W (pvM 1 bh (v+1) Q T s).2.1),R++kvv (pvM 1 bh (v+1) Q T s).1,P++kv (pvM 1 bh (v+1) Q T s).2.1,Rt++oW (v+1+ρ) W (pvM 1 bh (v+1) Q T s).2.1,kvv (pvM 1 bh (v+1) Q T s).2.2.1,false,
   (pvM 1 bh (v+1) Q T s).2.2.2.Script,(pvM 1 bh (v+1) Q T s).2.2.2.At,(pvM 1 bh (v+1) Q T s).2.2.2.State,(pvM 1 bh (v+1) Q T s).2.2.2.Count,V,0,0,0):=by
 intro v
 induction v with
 |zero=>
  intro Q T W s k pre R P Rt hT hW hf hk hv h1 h2 h3 hV hV2 hbh
  have hl:=hT.len
  have hT2:=hT
  rw [nT] at hT2
  have hW2:W.length=2^(ρ+1):=by rw [hW];congr 1;omega
  have hb1:=hbh [rdM s (rdK 1 T (2^0))] (nsM s (rdK 1 T (2^0))) (by simp) (by simp)
  rw [if_neg (by simp)] at hb1
  have hr1:na 1 (kvv T)=some (kv (rdK 1 T (2^0))):=Fl hT2 (by omega)
  have ho:=(hT.up (rdM s (rdK 1 T (2^0))))
  have hlast:(pre++[wtK (0+1+ρ) W])[pre.length]? =some (wtK (0+1+ρ) W):=by simp
  rw [cj (s':=(pre++[wtK (0+1+ρ) W],R++[kv (rdK 1 T (2^0))],P++[(rdM s (rdK 1 T (2^0))).1],Rt,kvv (bdK (rdM s (rdK 1 T (2^0))) T),(nsM s (rdK 1 T (2^0))).Script,(nsM s (rdK 1 T (2^0))).At,(nsM s (rdK 1 T (2^0))).State,(nsM s (rdK 1 T (2^0))).Count,V,0,0,0)) ?_]
  ·rw [cy (e:=(pre++[wtK (0+1+ρ) W],R++[kv (rdK 1 T (2^0))],P++[(rdM s (rdK 1 T (2^0))).1],Rt,kvv (bdK (rdM s (rdK 1 T (2^0))) T),false,(nsM s (rdK 1 T (2^0))).Script,(nsM s (rdK 1 T (2^0))).At,(nsM s (rdK 1 T (2^0))).State,(nsM s (rdK 1 T (2^0))).Count,V,0,0,0)) ?_]
   ·simp only [pvM,hb1,oW,oB,uZ,kvv,kv,List.map_cons,List.map_nil,List.length_nil,reduceIte,List.append_nil]
   ·simp only [aN]
    rw [Vp (by simp [bdK];omega),Option.bind_some,al,ho.tab 0 (by simp [bdK];omega),brn (by decide),decide_eq_false (by decide)]
  ·simp only [aN,fk]
   rw [Vp (by omega),Option.bind_some,al,hT.tab 0 (by omega),brd (by decide),hr1,Option.bind_some,show Source.mk s.Script s.At s.State s.Count=s from rfl,KS hf.1 (by rw [AU];omega),Option.bind_some,a1n hf,Option.bind_some]
   dsimp only
   rw [Cs hT2 (by omega),Option.bind_some,ak (by rw [List.length_append,List.length_singleton];omega),ak (by rw [List.length_append,List.length_singleton];omega),List.length_append,List.length_singleton,aa (((pre.length+1:Nat):Int)-1) (by omega) (by omega),show ((pre.length+1:Nat):Int)-1=(pre.length:Int) by omega]
   simp only [Int.toNat_natCast]
   rw [brd (by omega),brd (by omega),hlast,Option.bind_some]
   rw [show (wtK (0+1+ρ) W).word=kv W from rfl,Br _ (by omega) hW2,Option.bind_some,bre (by omega),Option.bind_some]
 |succ v ih=>
  intro Q T W s k pre R P Rt hT hW hf hk hv h1 h2 h3 hV hV2 hbh
  have hl:=hT.len
  have hp:=Vq (v+1) (by omega)
  have hT2:=hT
  rw [nT] at hT2
  have hm:v+1+1+ρ-1=v+1+ρ:=by omega
  have hW2:W.length=2^(v+1+ρ+1):=by rw [hW];congr 1;omega
  have hb1:=hbh [rdM s (rdK 1 T (2^(v+1)))] (nsM s (rdK 1 T (2^(v+1)))) (by simp) (by simp)
  simp only [wdK,List.length_singleton,hm] at hb1
  rw [if_pos (by omega),show v+1+ρ-1=v+ρ by omega] at hb1
  have hin: ∀(P':List K) (s':Source),P'≠[]→P'.length≤v+1→bh (Q++[rdM s (rdK 1 T (2^(v+1)))]++P') s'=if P'.length<v+1 then tkM s' (wrK (v+1+ρ-P'.length-1) (wdK (v+1+ρ) (fwK (v+1+ρ) W (rdM s (rdK 1 T (2^(v+1))))) P')) else s':=fun P' s' hne hle=>by
   have:=hbh (rdM s (rdK 1 T (2^(v+1)))::P') s' (by simp) (by rw [List.length_cons];omega)
   rw [List.append_assoc,List.singleton_append,this,List.length_cons,wdK,hm,show v+1+1+ρ-(P'.length+1)-1=v+1+ρ-P'.length-1 by omega]
   by_cases hc:P'.length<v+1
   ·rw [if_pos hc,if_pos (by omega)]
   ·rw [if_neg hc,if_neg (by omega)]
  have hr1:na 1 (kvv T)=some (kv (rdK 1 T (2^(v+1)))):=Fl hT2 (by omega)
  have hlast:(pre++[wtK (v+1+1+ρ) W])[pre.length]? =some (wtK (v+1+1+ρ) W):=by simp
  have hlast2:(pre++[wtK (v+1+1+ρ) W]++[wtK (v+1+ρ) (fwK (v+1+ρ) W (rdM s (rdK 1 T (2^(v+1)))))])[pre.length+1]? =some (wtK (v+1+ρ) (fwK (v+1+ρ) W (rdM s (rdK 1 T (2^(v+1)))))):=by simp
  have hnf:=xw hf (by omega) (rdK 1 T (2^(v+1)))
  have hih:=ih (Q++[rdM s (rdK 1 T (2^(v+1)))]) (bdK (rdM s (rdK 1 T (2^(v+1)))) T) (fwK (v+1+ρ) W (rdM s (rdK 1 T (2^(v+1))))) (bh (Q++[rdM s (rdK 1 T (2^(v+1)))]) (nsM s (rdK 1 T (2^(v+1))))) (k+2+1) (pre++[wtK (v+1+1+ρ) W])
   (R++[kv (rdK 1 T (2^(v+1)))]) (P++[(rdM s (rdK 1 T (2^(v+1)))).1]) (Rt++[wrK (v+ρ) (fwK (v+1+ρ) W (rdM s (rdK 1 T (2^(v+1)))))]) (hT.up _) (sR _ _ _) (hb _ _ _ hnf (by omega)) (by omega) (by omega) (by rw [List.length_append,List.length_singleton];omega) (by rw [List.length_append,List.length_singleton];omega) (by rw [List.length_append,List.length_singleton];omega)
   (by rw [List.length_append,List.length_singleton];omega) hV2 hin
  have hpl:=(FZ (kind:=1) (bh:=bh) (v+1) (Q++[rdM s (rdK 1 T (2^(v+1)))]) (bdK (rdM s (rdK 1 T (2^(v+1)))) T) (bh (Q++[rdM s (rdK 1 T (2^(v+1)))]) (nsM s (rdK 1 T (2^(v+1)))))).2
  rw [cj (s':=(pre++[wtK (v+1+1+ρ) W]++[wtK (v+1+ρ) (fwK (v+1+ρ) W (rdM s (rdK 1 T (2^(v+1)))))],R++[kv (rdK 1 T (2^(v+1)))],P++[(rdM s (rdK 1 T (2^(v+1)))).1],Rt++[wrK (v+ρ) (fwK (v+1+ρ) W (rdM s (rdK 1 T (2^(v+1)))))],kvv (bdK (rdM s (rdK 1 T (2^(v+1)))) T),(bh (Q++[rdM s (rdK 1 T (2^(v+1)))]) (nsM s (rdK 1 T (2^(v+1))))).Script,(bh (Q++[rdM s (rdK 1 T (2^(v+1)))]) (nsM s (rdK 1 T (2^(v+1))))).At,(bh (Q++[rdM s (rdK 1 T (2^(v+1)))]) (nsM s (rdK 1 T (2^(v+1))))).State,(bh (Q++[rdM s (rdK 1 T (2^(v+1)))]) (nsM s (rdK 1 T (2^(v+1))))).Count,V,0,0,0)) ?_]
  ·rw [hih]
   have e1:pvM 1 bh (v+1+1) Q T s=(rdK 1 T (2^(v+1))::(pvM 1 bh (v+1) (Q++[rdM s (rdK 1 T (2^(v+1)))]) (bdK (rdM s (rdK 1 T (2^(v+1)))) T) (bh (Q++[rdM s (rdK 1 T (2^(v+1)))]) (nsM s (rdK 1 T (2^(v+1)))))).1,
    rdM s (rdK 1 T (2^(v+1)))::(pvM 1 bh (v+1) (Q++[rdM s (rdK 1 T (2^(v+1)))]) (bdK (rdM s (rdK 1 T (2^(v+1)))) T) (bh (Q++[rdM s (rdK 1 T (2^(v+1)))]) (nsM s (rdK 1 T (2^(v+1)))))).2.1,
    (pvM 1 bh (v+1) (Q++[rdM s (rdK 1 T (2^(v+1)))]) (bdK (rdM s (rdK 1 T (2^(v+1)))) T) (bh (Q++[rdM s (rdK 1 T (2^(v+1)))]) (nsM s (rdK 1 T (2^(v+1)))))).2.2):=rfl
   rw [e1]
   simp only [oW,oB,uZ,hm,hpl,kvv,kv,List.map_cons,List.append_assoc,List.singleton_append,show v+1+1+ρ-2=v+ρ by omega]
   rw [if_neg (by omega)];rfl
  ·simp only [aN,fk]
   rw [Vp (by omega),Option.bind_some,al,hT.tab 0 (by omega),nT,brd (by omega),hr1,Option.bind_some,show Source.mk s.Script s.At s.State s.Count=s from rfl,KS hf.1 (by rw [AU];omega),Option.bind_some,a1n hf,Option.bind_some]
   dsimp only
   rw [Cs hT2 (by omega),Option.bind_some,ak (by rw [List.length_append,List.length_singleton];omega),ak (by rw [List.length_append,List.length_singleton];omega),show (pre++[wtK (v+1+1+ρ) W]).length=pre.length+1 by simp,aa (((pre.length+1:Nat):Int)-1) (by omega) (by omega),show ((pre.length+1:Nat):Int)-1=(pre.length:Int) by omega]
   simp only [Int.toNat_natCast]
   rw [brd (by omega),brd (by omega),hlast,Option.bind_some]
   rw [show (wtK (v+1+1+ρ) W).word=kv W from rfl,Br _ (by omega) hW2,Option.bind_some,zh (by omega),zp (k:=v+ρ) (by omega) (by rw [sR];congr 1;omega),Option.bind_some,show v+ρ+1=v+1+ρ by omega]
   rw [show (pre++[wtK (v+1+1+ρ) W]++[wtK (v+1+ρ) (fwK (v+1+ρ) W (rdM s (rdK 1 T (2^(v+1)))))]).length=pre.length+1+1 by simp,ak (by omega),aa (((pre.length+1+1:Nat):Int)-1) (by omega) (by omega),show ((pre.length+1+1:Nat):Int)-1=((pre.length+1:Nat):Int) by omega]
   simp only [Int.toNat_natCast]
   rw [brd (by omega),brd (by omega),hlast2,Option.bind_some,show v+1+ρ=v+ρ+1 by omega,Ky _ _ (by omega),Option.bind_some,ak (by rw [List.length_append,List.length_singleton];omega),ak (by rw [Dv];omega),og hnf.1.3 (by rw [Dv];omega),Option.bind_some,Option.bind_some,show v+ρ+1=v+1+ρ by omega,hb1]
end Go.AI.Fn
set_option linter.unusedVariables false
set_option linter.unusedSimpArgs false
namespace Go.AI.Fn
theorem TW (p q:Nat):p%2^(q+1)%2^q=p%2^q:=Nat.mod_mod_of_dvd p ⟨2,by rw [Nat.pow_succ]⟩
theorem a2j: ∀(Ws:List (List K)) (m p:Nat),Nf m Ws→prK m Ws (p%2^m)=prK m Ws p
 |[],_,_,_=>rfl
 |W::Ws,m,p,h=>by
  obtain ⟨q,rfl⟩: ∃q,m=q+1:=⟨m-1,by have:=h.2.1;omega⟩
  simp only [prK,Nat.add_sub_cancel,TW]
theorem a1O: ∀(Ws:List (List K)) (m p:Nat),Nf m Ws→ptK m Ws (p%2^m)=ptK m Ws p
 |[],_,_,_=>rfl
 |W::Ws,m,p,h=>by
  obtain ⟨q,rfl⟩: ∃q,m=q+1:=⟨m-1,by have:=h.2.1;omega⟩
  simp only [ptK,Nat.add_sub_cancel,TW]
theorem Ex {l5:List (List UInt8)} {l6:List aB} {t5:List Int} {t6 t7 N c17 c19 c20 c21 c22 c23 c24 c25 c27 c28 c29 c30:Int} {c16:List Ext} {c18:List UInt8} {c26:List (List Ext)}: ∀(Ws:List (List K)) (pre:List aP) (m p:Nat) (A:List Ext) (B:List (List (List UInt8))),
 Nf m Ws→m≤9→pre.length+Ws.length≤100→A.length+2*Ws.length≤1000→B.length+Ws.length≤1000→p≤1000000→N=((pre++uZ m Ws).length:Int)→
 Loop (ec (pre++uZ m Ws) l5 l6 (p:Int) t5 t6 t7 N c16 c17 c18 c19 c20 c21 c22 c23 c24 c25 c26 c27 c28 c29 c30) (A,B,(pre.length:Int))=
  some (A++kv (prK m Ws p),B++ptK m Ws p,N,false)
 |[],pre,m,p,A,B,h,hm,h1,h2,h3,hk,hN=>by
  rw [uZ,List.append_nil] at hN
  refine cy ?_
  simp only [ec]
  rw [brn (by omega),decide_eq_false (by omega), ←hN]
  simp [prK,ptK,kv]
 |W::Ws,pre,m,p,A,B,h,hm,h1,h2,h3,hk,hN=>by
  obtain ⟨hW,hm1,hws⟩:=h
  rw [List.length_cons] at h1 h2 h3
  obtain ⟨q,rfl⟩: ∃q,m=q+1:=⟨m-1,by omega⟩
  have hp:=oe (q+1) hm
  have hs:2^(q+1)=2*2^q:=by rw [Nat.pow_succ];omega
  have hh:=yI q hm
  have hq:p%2^q<2^q:=Nat.mod_lt _ (by omega)
  have hL2:(pre++uZ (q+1) (W::Ws)).length=pre.length+(Ws.length+1):=by rw [List.length_append,Ez,List.length_cons]
  have hlt:(pre.length:Int)<N:=by rw [hN,hL2];omega
  have hget:(pre++uZ (q+1) (W::Ws))[pre.length]? =some (wtK (q+1) W):=by simp [uZ]
  have hmod:(p:Int).tmod ((2^q:Nat):Int)=((p%2^q:Nat):Int):=by rw [bp _ _ (by omega)];omega
  have ih:=Ex (l5:=l5) (l6:=l6) (t5:=t5) (t6:=t6) (t7:=t7) (N:=N) (c16:=c16) (c17:=c17) (c18:=c18) (c19:=c19) (c20:=c20) (c21:=c21) (c22:=c22) (c23:=c23) (c24:=c24) (c25:=c25) (c26:=c26) (c27:=c27) (c28:=c28) (c29:=c29) (c30:=c30)
   Ws (pre++[wtK (q+1) W]) q p (A++[(W.getD (p%2^q) 0).1,(W.getD (p%2^q+2^q) 0).1]) (B++[gD ((lvK q W).map hL) q (p%2^q)]) hws (by omega) (by rw [List.length_append,List.length_singleton];omega)
   (by rw [List.length_append];simp only [List.length_cons,List.length_nil];omega) (by rw [List.length_append,List.length_singleton];omega) (by omega) (by rw [hN,hL2,List.append_assoc,List.length_append,List.singleton_append,List.length_cons,Ez])
  rw [List.append_assoc,List.singleton_append,List.length_append,List.length_singleton] at ih
  rw [cj (s':=(A++[(W.getD (p%2^q) 0).1,(W.getD (p%2^q+2^q) 0).1],B++[gD ((lvK q W).map hL) q (p%2^q)],((pre.length+1:Nat):Int))) ?_]
  ·rw [show pre++uZ (q+1) (W::Ws)=pre++wtK (q+1) W::uZ q Ws from rfl,ih]
   simp only [prK,ptK,Nat.add_sub_cancel,a2j Ws q p hws,a1O Ws q p hws]
   simp [kv]
  ·simp only [ec,Int.toNat_natCast]
   rw [brd hlt,brd (by omega),brd (by rw [hL2];omega),hget,Option.bind_some,show (wtK (q+1) W).word=kv W from rfl,al,hW,hh,hmod,brd (by omega),dL (by omega),Option.bind_some,aa (((p%2^q:Nat):Int)+_) (by omega) (by omega),show ((p%2^q:Nat):Int)+((2^q:Nat):Int)=((p%2^q+2^q:Nat):Int) by omega,dL (by omega),Option.bind_some,
    ak (by rw [List.length_append];simp only [List.length_cons,List.length_nil];omega),show (wtK (q+1) W).rows=gq ((lvK q W).map hL) q from rfl,RJ (by rw [List.length_map,pI]) (by omega) hq,Option.bind_some,ak (by rw [List.length_append,List.length_singleton];omega),aa _ (by omega) (by omega)];rfl
theorem Kg {l2:List (List UInt8)} {c2 c4 c5 c6 c7 c8 c9 c10 c12 c13 c14 c15:Int} {c:List Ext} {c3:List UInt8} {c11:List (List Ext)} {Ws:List (List K)} {m:Nat} {pl:List Int} (h:Nf m Ws) (hm:m≤9) (hl:Ws.length≤100) (hp:pl.length≤1000) (hr: ∀x∈pl,0≤x∧x≤1000000):
 Loop (di (uZ m Ws) l2 pl (pl.length:Int) c c2 c3 c4 c5 c6 c7 c8 c9 c10 c11 c12 c13 c14 c15) ([],0)=some (pl.map (qsM m Ws),(pl.length:Int),false):=by
 refine am (step:=di (uZ m Ws) l2 pl (pl.length:Int) c c2 c3 c4 c5 c6 c7 c8 c9 c10 c11 c12 c13 c14 c15) (fun j=>((pl.take j).map (qsM m Ws),(j:Int))) pl.length (fun j hj=> ?_) ?_
 ·have hx:=hr _ (List.getElem_mem hj)
  have hq:=Ex (l5:=l2) (l6:=(pl.take j).map (qsM m Ws)) (t5:=pl) (t6:=(pl.length:Int)) (t7:=(j:Int)) (N:=((uZ m Ws).length:Int)) (c16:=c) (c17:=c2) (c18:=c3) (c19:=c4) (c20:=c5) (c21:=c6) (c22:=c7) (c23:=c8) (c24:=c9) (c25:=c10) (c26:=c11) (c27:=c12) (c28:=c13) (c29:=c14) (c30:=c15)
   Ws [] m (pl[j].toNat) [] [] h hm (by rw [List.length_nil];omega) (by rw [List.length_nil];omega) (by rw [List.length_nil];omega) (by omega) rfl
  rw [List.nil_append,Int.toNat_of_nonneg hx.1,List.length_nil] at hq
  simp only [di]
  rw [brd (by omega),bQ hj,Option.bind_some,show ((0:Int))=((0:Nat):Int) from rfl,hq,Option.bind_some,ak (by rw [List.length_append,List.length_map,List.length_take,List.length_singleton];omega),aa _ (by omega) (by omega),cp hj,List.map_append];rfl
 ·simp only [di]
  rw [brn (by omega),decide_eq_false (by omega),List.take_of_length_le (by omega)]
variable {v ρ:Nat} {t P:List K} {s:Source} {k:Int}
theorem Yb {st:Setting} {nq bits:Nat} (ht:t.length=2^v) (hP:P.length=v) (hv1:1≤v) (hv:v≤6) (hρ:ρ≤3) (hq1:nq≤8) (hb:bits≤12) (e1:st.Rate=(ρ:Int)) (e2:st.Queries=(nq:Int)) (e3:st.Grind=(bits:Int)) (hf:Few s k) (hk:k≤800):
 kG (kv t) (kv P) st s=some ((HE v ρ nq bits t P s).1,(HE v ρ nq bits t P s).2.2,(HE v ρ nq bits t P s).2.1):=by
 have hk0:0≤k:=by have:=hf.2;have:=hf.1.4;omega
 have hp:=Gz v hv
 have hkk:k+3*v≤900:=by omega
 obtain ⟨u,rfl⟩: ∃u,v=u+1:=⟨v-1,by omega⟩
 obtain ⟨q,hq⟩: ∃q,u+1+ρ=q+1:=⟨u+ρ,by omega⟩
 have hfQ:=Pn (ρ:=ρ) (t:=t) (P:=P) hf hkk
 have hfS:=Rp (ρ:=ρ) (t:=t) (P:=P) hf hkk
 have hloop:=SJ (V:=((u+1:Nat):Int)) (bh:=bhO (u+1) ρ (opW (u+1) ρ t)) (UW (u+1) ρ _) hρ u [] [t,eqK P] (opW (u+1) ρ t) s k [] [] [] [] (Ym ht hP) (ms ht) hf (by omega) hv (by rw [List.length_nil];omega) (by rw [List.length_nil];omega) (by rw [List.length_nil];omega) (by rw [List.length_nil];omega) (by omega) (fun P' s' _ _=>rfl)
 have hfin:OkT 1 1 (opQ (u+1) ρ t P s).2.2.1:=Q0 (u+1) _ _ _ (Ym ht hP)
 have hrl:=(F5 (u+1) ρ t P s).2
 have hpo:=Je (opQ (u+1) ρ t P s).2.1 (u+1+ρ) (opW (u+1) ρ t) (ms ht) (by omega)
 have hwl:=vf (opQ (u+1) ρ t P s).2.1 (u+1+ρ) (opW (u+1) ρ t)
 have hT0:(opQ (u+1) ρ t P s).2.2.1.length=2:=hfin.len
 have hlast:=fun c9 c10 c11 c12 c13 c14 c15 c16 l7 l8 l9 l11=>am (step:=ba l7 l8 l9 l11 (kvv (opQ (u+1) ρ t P s).2.2.1) (((kvv (opQ (u+1) ρ t P s).2.2.1).length:Nat):Int) c9 c10 c11 c12 c13 c14 c15 c16) (fun j=>(kv ((u6 (opQ (u+1) ρ t P s).2.2.1).take j),(j:Int))) (opQ (u+1) ρ t P s).2.2.1.length (e:=(kv (u6 (opQ (u+1) ρ t P s).2.2.1),((opQ (u+1) ρ t P s).2.2.1.length:Int),false)) (fun j hj=>by
  simp only [ba,gu]
  rw [brd (by omega),ut hj,Option.bind_some,kv0 (by rw [hfin.tab j hj];omega),Option.bind_some,ak (by rw [List.length_append,al,List.length_take,OW,List.length_singleton];omega),aa _ (by omega) (by omega),Yc hj,kvS];rfl) (by
  simp only [ba,gu]
  rw [brn (by omega),decide_eq_false (by omega),List.take_of_length_le (by rw [OW];omega)])
 have hps:bN 1 (kvv [t,eqK P]) s ((u+1:Nat):Int) 0 0 0 [wtK (u+1+ρ) (opW (u+1) ρ t)]=some (kvv (opQ (u+1) ρ t P s).1,kv (opQ (u+1) ρ t P s).2.1,kv (u6 (opQ (u+1) ρ t P s).2.2.1),(opQ (u+1) ρ t P s).2.2.2,((u+1:Nat):Int),0,0,0,uZ (u+1+ρ) (oB (u+1+ρ) (opW (u+1) ρ t) (opQ (u+1) ρ t P s).2.1),oW (u+1+ρ) (opW (u+1) ρ t) (opQ (u+1) ρ t P s).2.1):=by
  unfold bN
  rw [List.nil_append] at hloop
  rw [hloop,Option.bind_some]
  simp only [List.nil_append]
  rw [show pvM 1 (bhO (u+1) ρ (opW (u+1) ρ t)) (u+1) [] [t,eqK P] s=opQ (u+1) ρ t P s from rfl]
  have hl2:=hlast (opQ (u+1) ρ t P s).2.2.2.Script (opQ (u+1) ρ t P s).2.2.2.At (opQ (u+1) ρ t P s).2.2.2.State (opQ (u+1) ρ t P s).2.2.2.Count ((u+1:Nat):Int) 0 0 0 (uZ (u+1+ρ) (oB (u+1+ρ) (opW (u+1) ρ t) (opQ (u+1) ρ t P s).2.1)) (kvv (opQ (u+1) ρ t P s).1) (kv (opQ (u+1) ρ t P s).2.1) (oW (u+1+ρ) (opW (u+1) ρ t) (opQ (u+1) ρ t P s).2.1)
  rw [List.take_zero] at hl2
  rw [show (([]:List Ext),(0:Int))=(kv [],((0:Nat):Int)) from rfl,hl2];rfl
 have hll:u6 (opQ (u+1) ρ t P s).2.2.1=[opL (u+1) ρ t P s,((opQ (u+1) ρ t P s).2.2.1.getD 1 []).getD 0 0]:=by
  match hx:(opQ (u+1) ρ t P s).2.2.1,hT0 with
  |[x,y],_=>simp only [u6,opL,hx];rfl
 unfold kG
 rw [Mq ht hv,Option.bind_some,e1,EA (m:=u+1) (t:=ρ) (by omega) (by rw [j7];exact ht),Option.bind_some,show Enc (u+1) ρ (cfK (u+1) t)=opW (u+1) ρ t from rfl,zp (k:=q) (by omega) (by rw [←hq];exact ms ht),Option.bind_some,DA (yz P) (by rw [al];omega),Option.bind_some,Rr,al,hP, ←hq,
  show ([kv t,kv (eqK P)]:List (List Ext))=kvv [t,eqK P] from rfl,hps,Option.bind_some]
 dsimp only
 rw [hll,show kv [opL (u+1) ρ t P s,((opQ (u+1) ρ t P s).2.2.1.getD 1 []).getD 0 0]=[(opL (u+1) ρ t P s).1,(((opQ (u+1) ρ t P s).2.2.1.getD 1 []).getD 0 0).1] from rfl,show atL [(opL (u+1) ρ t P s).1,(((opQ (u+1) ρ t P s).2.2.1.getD 1 []).getD 0 0).1] 0=some (opL (u+1) ρ t P s).1 from rfl,Option.bind_some,
  show ([(opL (u+1) ρ t P s).1]:List Ext)=kv [opL (u+1) ρ t P s] from rfl,KS hfQ.1 (by simp),Option.bind_some,show rsM (opQ (u+1) ρ t P s).2.2.2 [opL (u+1) ρ t P s]=opS (u+1) ρ t P s from rfl,e3,UD hfS.1.3 hb,Option.bind_some]
 cases hg:ij (opS (u+1) ρ t P s).State bits with
 |none=>
  dsimp only
  rw [wk hg,brd (by decide)]
 |some n=>
  have hfT:=DD (ρ:=ρ) (t:=t) (P:=P) hf hkk n
  dsimp only
  rw [wR hg,brn (show ¬(((n:Nat):Int)<0) from Int.not_lt.2 (Int.natCast_nonneg n)),v6,Option.bind_some,og hfS.1.3 (by rw [ey];omega),Option.bind_some,show tkM (opS (u+1) ρ t P s) (dS (n:Int))=opT (u+1) ρ n t P s from rfl,e2,M4 hfT (by omega) (by omega),Option.bind_some,brd (by rw [Ez,hwl];omega)]
  have hgt:(uZ (u+1+ρ) (oB (u+1+ρ) (opW (u+1) ρ t) (opQ (u+1) ρ t P s).2.1))[0]? =some (wtK (u+1+ρ) (opW (u+1) ρ t)):=by
   match hL:(opQ (u+1) ρ t P s).2.1,hrl with
   |r::L,_=>rfl
   |[],h=>exfalso;rw [List.length_nil] at h;omega
  have hpq:=oe q (by omega)
  have hpl:=YU (Ks hfT (by omega) (n:=nq) (by omega)) (m:=2^q) (by omega) (by omega)
  rw [hgt,Option.bind_some,show (wtK (u+1+ρ) (opW (u+1) ρ t)).word=kv (opW (u+1) ρ t) from rfl,al,ms ht,hq,yI q (by omega),Il (by rw [kX];omega) (Ks hfT (by omega) (by omega)) (by omega),Option.bind_some]
  rw [hq] at hpo
  rw [Kg hpo (by omega) (by rw [vf];omega) (by rw [plM,List.length_map,kX];omega) hpl,Option.bind_some,opO,hq,Nat.add_sub_cancel]
theorem KI {st:Setting} {nq bits:Nat} (ht:t.length=2^v) (hP:P.length=v) (hv1:1≤v) (hv:v≤6) (hst:setB st=true) (e1:st.Rate=(ρ:Int)) (e2:st.Queries=(nq:Int)) (e3:st.Grind=(bits:Int)) (hf:Few s k) (hk:k≤800):
 oH (kv t) (kv P) st s=some (match ij (opS v ρ t P s).State bits with|none=>(⟨[],[],⟨0,0⟩,0,[]⟩,⟨[],0,[],0⟩,14)|some n=>(opO v ρ nq n t P s,drS (opT v ρ n t P s) nq,0)):=by
 have hk0:0≤k:=by have:=hf.2;have:=hf.1.4;omega
 have hp:=Gz v hv
 have hs2:=mu hst
 have hlen:=hf.1.1
 have hg:2≤2^v:=by
  obtain ⟨u,rfl⟩: ∃u,v=u+1:=⟨v-1,by omega⟩
  have:=Gz u (by omega)
  rw [Nat.pow_succ];omega
 obtain ⟨z,hz,hz1,_⟩:=X5 hf (by omega)
 have hop:=Yb (ρ:=ρ) (nq:=nq) (bits:=bits) ht hP hv1 hv (by omega) (by omega) (by omega) e1 e2 e3 hf hk
 unfold oH
 rw [al,al,brn (by omega),brn (by omega),GX hv ht,Option.bind_some,Bool.not_true,aj,E4 (by rw [al];omega),Option.bind_some,al,FL.2 (yz P),decide_eq_true (by omega),Bool.and_self,Bool.not_true,aj,lY,Option.bind_some,hst,Bool.not_true,aj,EN hf.1,Option.bind_some,Bool.not_true,aj,
  ht,zh (by omega),hP,brd (by omega),XT (by omega),ff rfl,hz,Option.bind_some,brn (by omega),I2 (by omega),Option.bind_some,hop,Option.bind_some]
 cases hg:ij (opS v ρ t P s).State bits with
 |none=>rw [wk hg];rfl
 |some n=>
  rw [wR hg]
  dsimp only
  rw [Bool.not_true,aj]
end Go.AI.Fn
set_option linter.unusedVariables false
set_option linter.unusedSimpArgs false
namespace Go.AI.Fn
def QSh:Nat→List (List UInt8)→List K→List (List (List UInt8))→List K→Prop
 |_,[],[],[],[]=>True
 |m,_::rts,_::_::prs,p::pths,_::D=>1≤m∧p.length=m-1∧Hs p∧QSh (m-1) rts prs pths D
 |_,_,_,_,_=>False
def vR:Option K→Ext
 |none=>e0
 |some d=>d.1
theorem iS {α:Type} {pre l:List α} {x:α} {i:Int} (h:i=(pre.length:Int)):atL (pre++x::l) i=some x:=by subst h;rw [bQ (by simp)];simp
theorem uP (pre l:List K):kv (pre++l)=kv pre++kv l:=ZC pre l
theorem NU {l:K} {V:Int} {c:List (List Ext)} {c2:List (List UInt8)} {c3 c4 c5:Int} {c6:List aB}: ∀(rts:List (List UInt8)) (prs:List K) (pths:List (List (List UInt8))) (D:List K) (m:Nat) (preR:List (List UInt8)) (preP:List K) (preT:List (List (List UInt8))) (preD:List K) (k:Nat) (due:Option K),
 QSh m rts prs pths D→m≤9→preP.length=2*preR.length→preT.length=preR.length→preD.length=preR.length→V=((preR.length+rts.length:Nat):Int)→preR.length+rts.length≤100→k<2^9→(due=none↔preR.length=0)→(rts=[]→due≠none)→
 (Loop (fx (preR++rts) V (kv (preD++D)) c c2 c3 c4 c5 c6 (kv (preP++prs)) (preT++pths)) (((2^m:Nat):Int),(k:Int),(preR.length:Int),(vR due).A,(vR due).B)).bind (alt (fun e_2=>some e_2.1) (fun e_3=>br (e_3.2.2.2.2.1==l.1.A) (br (e_3.2.2.2.2.2==l.1.B) (some 0) (some 13)) (some 13)))=
  some (qcK l m rts prs pths D k due)
 |[],prs,pths,D,m,preR,preP,preT,preD,k,due,h,hm,h1,h2,h3,hV,hb,hk,hd,hn=>by
  match prs,pths,D,h with
  |[],[],[],_=>
   cases due with
   |none=>exact absurd rfl (hn rfl)
   |some d=>
    rw [cy (e:= .inr (((2^m:Nat):Int),(k:Int),(preR.length:Int),false,d.1.A,d.1.B)) (by
     simp only [fx,vR]
     rw [brn (by rw [hV,List.length_nil];omega),decide_eq_false (by rw [hV,List.length_nil];omega)])]
    rw [Option.bind_some,mw]
    dsimp only
    rw [MZ]
    show _=some (if some d=some l then (0:Int) else 13)
    by_cases e:d=l
    ·rw [if_pos e,if_pos (by rw [e])]
    ·rw [if_neg e,if_neg (fun h=>e (Option.some.inj h))]
 |rt::rts,prs,pths,D,m,preR,preP,preT,preD,k,due,h,hm,h1,h2,h3,hV,hb,hk,hd,hn=>by
  match prs,pths,D,h with
  |a::b::prs,p::pths,r::D,⟨hm1,hpl,hph,hq⟩=>
   obtain ⟨q,rfl⟩: ∃q,m=q+1:=⟨m-1,by omega⟩
   rw [List.length_cons] at hV hb
   have hp:=oe (q+1) hm
   have hs:2^(q+1)=2*2^q:=by rw [Nat.pow_succ];omega
   have hh:=yI q hm
   have hat:k%2^q<2^q:=Nat.mod_lt _ (by omega)
   have hmod:(k:Int).tmod ((2^q:Nat):Int)=((k%2^q:Nat):Int):=by rw [bp _ _ (by omega)];omega
   have hk2:k%2^q<2^9:=Nat.lt_of_lt_of_le hat (by omega)
   have hcheck:n9 rt ((2^q:Nat):Int) ((k%2^q:Nat):Int) (mM a b) p=some (H (gV (k%2^q) (mM a b) p q)==rt):=a5G (by omega) (by omega) (by rw [mM,Dt];simp) (by omega) hph
   have ih:=NU (l:=l) (V:=V) (c:=c) (c2:=c2) (c3:=c3) (c4:=c4) (c5:=c5) (c6:=c6) rts prs pths D q (preR++[rt]) (preP++[a,b]) (preT++[p]) (preD++[r]) (k%2^q) (some (fpK (q+1) (k%2^q) a b r)) hq (by omega)
    (by simp only [List.length_append,List.length_cons,List.length_nil];omega) (by simp only [List.length_append,List.length_cons,List.length_nil];omega) (by simp only [List.length_append,List.length_cons,List.length_nil];omega) (by rw [hV];simp only [List.length_append,List.length_cons,List.length_nil];omega) (by simp only [List.length_append,List.length_cons,List.length_nil];omega) hk2 (by simp) (by simp)
   simp only [List.append_assoc,List.singleton_append,List.cons_append,List.nil_append,List.length_append,List.length_singleton] at ih
   have hR:atL (preR++rt::rts) (preR.length:Int)=some rt:=iS rfl
   have hT:atL (preT++p::pths) (preR.length:Int)=some p:=iS (by omega)
   have hD:atL (kv (preD++r::D)) (preR.length:Int)=some r.1:=by rw [uP];exact iS (by rw [al];omega)
   have hA:atL (kv (preP++a::b::prs)) (2*(preR.length:Int))=some a.1:=by rw [uP];exact iS (by rw [al];omega)
   have hB:atL (kv (preP++a::b::prs)) (2*(preR.length:Int)+1)=some b.1:=by
    rw [show preP++a::b::prs=(preP++[a])++b::prs by simp,uP];exact iS (by rw [al,List.length_append,List.length_singleton];omega)
   have hstep:fx (preR++rt::rts) V (kv (preD++r::D)) c c2 c3 c4 c5 c6 (kv (preP++a::b::prs)) (preT++p::pths) (((2^(q+1):Nat):Int),(k:Int),(preR.length:Int),(vR due).A,(vR due).B)=
    if (H (gV (k%2^q) (mM a b) p q)==rt)=false then some (.inr (.inl (9,(vR due).A,(vR due).B,a.1.A,a.1.B,b.1.A,b.1.B)))
    else if Yd due (if 2^q≤k then b else a) then some (.inr (.inl (12,(vR due).A,(vR due).B,a.1.A,a.1.B,b.1.A,b.1.B)))
    else some (.inl (((2^q:Nat):Int),((k%2^q:Nat):Int),((preR.length+1:Nat):Int),(fpK (q+1) (k%2^q) a b r).1.A,(fpK (q+1) (k%2^q) a b r).1.B)):=by
    simp only [fx,hh]
    rw [brd (by omega),brd (by omega),aa (2*(preR.length:Int)) (by omega) (by omega),hA,Option.bind_some,aa (2*(preR.length:Int)+1) (by omega) (by omega),hB,Option.bind_some,hR,Option.bind_some,CH (by simp),Option.bind_some,hT,Option.bind_some,hmod,show ([a.1,b.1]:List Ext).flatMap e8=mM a b from rfl,hcheck,Option.bind_some]
    cases hc:(H (gV (k%2^q) (mM a b) p q)==rt) with
    |false=>rw [if_pos rfl,Bool.not_false,aQ]
    |true=>
     rw [if_neg (by simp),Bool.not_true,aj]
     have hpair:=O5 (k:=q+1) (i:=k%2^q) a b r hm (by omega)
     cases due with
     |none=>
      rw [brn (by have:=hd.1 rfl;omega),hD,Option.bind_some,hpair,Option.bind_some,aa _ (by omega) (by omega),if_neg (by rintro ⟨d,h,_⟩;cases h)];rfl
     |some d=>
      rw [brd (by have:preR.length≠0:=fun e=>by cases hd.2 e
                  omega)]
      by_cases hlow:k<2^q
      ·have hown:(if 2^q≤k then b else a)=a:=if_neg (by omega)
       rw [hown,brd (by omega),decide_eq_true (show (k:Int)<((2^q:Nat):Int) by omega)]
       show br (a.1.A==d.1.A) (br (a.1.B==d.1.B) _ _) _=_
       rw [MZ]
       by_cases e:a=d
       ·rw [if_pos e,if_neg (by rintro ⟨x,h,h'⟩;cases h;exact h' e),hD,Option.bind_some,hpair,Option.bind_some,aa _ (by omega) (by omega)];rfl
       ·rw [if_neg e,if_pos ⟨d,rfl,e⟩]
      ·have hown:(if 2^q≤k then b else a)=b:=if_pos (by omega)
       rw [hown,brn (by omega),decide_eq_false (show ¬(k:Int)<((2^q:Nat):Int) by omega)]
       show br (b.1.A==d.1.A) (br (b.1.B==d.1.B) _ _) _=_
       rw [MZ]
       by_cases e:b=d
       ·rw [if_pos e,if_neg (by rintro ⟨x,h,h'⟩;cases h;exact h' e),hD,Option.bind_some,hpair,Option.bind_some,aa _ (by omega) (by omega)];rfl
       ·rw [if_neg e,if_pos ⟨d,rfl,e⟩]
   rw [qcK,Nat.add_sub_cancel]
   by_cases hc:(H (gV (k%2^q) (mM a b) p q)==rt)=false
   ·rw [if_pos hc] at hstep ⊢
    rw [cy hstep,Option.bind_some,ld]
   ·rw [if_neg hc] at hstep ⊢
    by_cases ho:Yd due (if 2^q≤k then b else a)
    ·rw [if_pos ho] at hstep ⊢
     rw [cy hstep,Option.bind_some,ld]
    ·rw [if_neg ho] at hstep ⊢
     rw [cj hstep];exact ih
theorem OP {l:K} {M:Nat} {V:Int} {c:List (List Ext)} {c2:List (List UInt8)} {c3 c4 c5:Int} {c6:List aB}: ∀(rts:List (List UInt8)) (prs:List K) (pths:List (List (List UInt8))) (D:List K) (m:Nat) (preR:List (List UInt8)) (preP:List K) (preT:List (List (List UInt8))) (preD:List K) (k:Nat) (due:Option K),
 QSh m rts prs pths D→M≤9→m+preR.length=M→preP.length=2*preR.length→preT.length=preR.length→preD.length=preR.length→V=((preR.length+rts.length:Nat):Int)→preR.length+rts.length≤100→k<2^9→(due=none↔preR.length=0)→(rts=[]→due≠none)→
 (Loop (cC (kv (preD++D)) ((2^M:Nat):Int) (preR++rts) V c c2 c3 c4 c5 c6 (kv (preP++prs)) (preT++pths)) ((k:Int),(preR.length:Int),(vR due).A,(vR due).B)).bind (alt (fun e_2=>some 9) (alt (fun e_3=>some 12) (fun e_4=>br (e_4.2.2.2.1==l.1.A) (br (e_4.2.2.2.2==l.1.B) (some 0) (some 13)) (some 13))))=
  some (qcK l m rts prs pths D k due)
 |[],prs,pths,D,m,preR,preP,preT,preD,k,due,h,hM,hm,h1,h2,h3,hV,hb,hk,hd,hn=>by
  match prs,pths,D,h with
  |[],[],[],_=>
   cases due with
   |none=>exact absurd rfl (hn rfl)
   |some d=>
    rw [cy (e:= .inr (.inr ((k:Int),(preR.length:Int),false,d.1.A,d.1.B))) (by
     simp only [cC,vR]
     rw [brn (by rw [hV,List.length_nil];omega),decide_eq_false (by rw [hV,List.length_nil];omega)])]
    rw [Option.bind_some,mw,mw]
    dsimp only
    rw [MZ]
    show _=some (if some d=some l then (0:Int) else 13)
    by_cases e:d=l
    ·rw [if_pos e,if_pos (by rw [e])]
    ·rw [if_neg e,if_neg (fun h=>e (Option.some.inj h))]
 |rt::rts,prs,pths,D,m,preR,preP,preT,preD,k,due,h,hM,hm,h1,h2,h3,hV,hb,hk,hd,hn=>by
  match prs,pths,D,h with
  |a::b::prs,p::pths,r::D,⟨hm1,hpl,hph,hq⟩=>
   obtain ⟨q,rfl⟩: ∃q,m=q+1:=⟨m-1,by omega⟩
   rw [List.length_cons] at hV hb
   have hp:=oe (q+1) (by omega)
   have hs:2^(q+1)=2*2^q:=by rw [Nat.pow_succ];omega
   have hsh:aL .i64 ((2^M:Nat):Int) (preR.length:Int)=((2^(q+1):Nat):Int):=by rw [a1P M hM preR.length (by omega),show M-preR.length=q+1 by omega]
   have hh:=yI q (by omega)
   have hat:k%2^q<2^q:=Nat.mod_lt _ (by omega)
   have hmod:(k:Int).tmod ((2^q:Nat):Int)=((k%2^q:Nat):Int):=by rw [bp _ _ (by omega)];omega
   have hk2:k%2^q<2^9:=Nat.lt_of_lt_of_le hat (by omega)
   have hcheck:Aq rt ((2^q:Nat):Int) ((k%2^q:Nat):Int) (mM a b) p=some (H (gV (k%2^q) (mM a b) p q)==rt):=a65 (by omega) (by omega) (by rw [mM,Dt];simp) (by omega) hph
   have ih:=OP (l:=l) (M:=M) (V:=V) (c:=c) (c2:=c2) (c3:=c3) (c4:=c4) (c5:=c5) (c6:=c6) rts prs pths D q (preR++[rt]) (preP++[a,b]) (preT++[p]) (preD++[r]) (k%2^q) (some (fpK (q+1) (k%2^q) a b r)) hq hM
    (by simp only [List.length_append,List.length_cons,List.length_nil];omega) (by simp only [List.length_append,List.length_cons,List.length_nil];omega) (by simp only [List.length_append,List.length_cons,List.length_nil];omega) (by simp only [List.length_append,List.length_cons,List.length_nil];omega) (by rw [hV];simp only [List.length_append,List.length_cons,List.length_nil];omega) (by simp only [List.length_append,List.length_cons,List.length_nil];omega) hk2 (by simp) (by simp)
   simp only [List.append_assoc,List.singleton_append,List.cons_append,List.nil_append,List.length_append,List.length_singleton] at ih
   have hR:atL (preR++rt::rts) (preR.length:Int)=some rt:=iS rfl
   have hT:atL (preT++p::pths) (preR.length:Int)=some p:=iS (by omega)
   have hD:atL (kv (preD++r::D)) (preR.length:Int)=some r.1:=by rw [uP];exact iS (by rw [al];omega)
   have hA:atL (kv (preP++a::b::prs)) (2*(preR.length:Int))=some a.1:=by rw [uP];exact iS (by rw [al];omega)
   have hB:atL (kv (preP++a::b::prs)) (2*(preR.length:Int)+1)=some b.1:=by
    rw [show preP++a::b::prs=(preP++[a])++b::prs by simp,uP];exact iS (by rw [al,List.length_append,List.length_singleton];omega)
   have hstep:(H (gV (k%2^q) (mM a b) p q)==rt)=false∧(∃e,cC (kv (preD++r::D)) ((2^M:Nat):Int) (preR++rt::rts) V c c2 c3 c4 c5 c6 (kv (preP++a::b::prs)) (preT++p::pths) ((k:Int),(preR.length:Int),(vR due).A,(vR due).B)=some (.inr (.inl e)))∨
    (H (gV (k%2^q) (mM a b) p q)==rt)=true∧Yd due (if 2^q≤k then b else a)∧(∃e,cC (kv (preD++r::D)) ((2^M:Nat):Int) (preR++rt::rts) V c c2 c3 c4 c5 c6 (kv (preP++a::b::prs)) (preT++p::pths) ((k:Int),(preR.length:Int),(vR due).A,(vR due).B)=some (.inr (.inr (.inl e))))∨
    (H (gV (k%2^q) (mM a b) p q)==rt)=true∧ ¬Yd due (if 2^q≤k then b else a)∧cC (kv (preD++r::D)) ((2^M:Nat):Int) (preR++rt::rts) V c c2 c3 c4 c5 c6 (kv (preP++a::b::prs)) (preT++p::pths) ((k:Int),(preR.length:Int),(vR due).A,(vR due).B)=
     some (.inl (((k%2^q:Nat):Int),((preR.length+1:Nat):Int),(fpK (q+1) (k%2^q) a b r).1.A,(fpK (q+1) (k%2^q) a b r).1.B)):=by
    have hpair:=BS (k:=q+1) (i:=k%2^q) a b r (by omega) (by omega)
    simp only [cC,hsh,hh]
    rw [brd (by omega),hR,Option.bind_some,brd (by omega),brd (by omega),aa (2*(preR.length:Int)) (by omega) (by omega),hA,Option.bind_some,aa (2*(preR.length:Int)+1) (by omega) (by omega),hB,Option.bind_some,uf (by simp),Option.bind_some,hT,Option.bind_some,hmod,show ([a.1,b.1]:List Ext).flatMap e8=mM a b from rfl,hcheck,Option.bind_some]
    cases hc:(H (gV (k%2^q) (mM a b) p q)==rt) with
    |false=>exact .inl ⟨rfl,_,rfl⟩
    |true=>
     refine .inr ?_
     rw [Bool.not_true,aj]
     by_cases hlow:k<2^q
     ·have hown:(if 2^q≤k then b else a)=a:=if_neg (by omega)
      rw [hown,brn (by omega)]
      cases due with
      |none=>
       refine .inr ⟨rfl,(by rintro ⟨d,h,_⟩;cases h), ?_⟩
       rw [brn (by have:=hd.1 rfl;omega),hD,Option.bind_some,hpair,Option.bind_some,aa _ (by omega) (by omega)];rfl
      |some d=>
       rw [brd (by have:preR.length≠0:=fun e=>by cases hd.2 e
                   omega)]
       rw [show (vR (some d))=d.1 from rfl,MZ]
       by_cases e:a=d
       ·rw [if_pos e]
        refine .inr ⟨rfl,by rintro ⟨x,h,h'⟩;cases h;exact h' e, ?_⟩
        rw [hD,Option.bind_some,hpair,Option.bind_some,aa _ (by omega) (by omega)];rfl
       ·rw [if_neg e]
        exact .inl ⟨rfl,⟨d,rfl,e⟩,_,rfl⟩
     ·have hown:(if 2^q≤k then b else a)=b:=if_pos (by omega)
      rw [hown,brd (by omega)]
      cases due with
      |none=>
       refine .inr ⟨rfl,(by rintro ⟨d,h,_⟩;cases h), ?_⟩
       rw [brn (by have:=hd.1 rfl;omega),hD,Option.bind_some,hpair,Option.bind_some,aa _ (by omega) (by omega)];rfl
      |some d=>
       rw [brd (by have:preR.length≠0:=fun e=>by cases hd.2 e
                   omega)]
       rw [show (vR (some d))=d.1 from rfl,MZ]
       by_cases e:b=d
       ·rw [if_pos e]
        refine .inr ⟨rfl,by rintro ⟨x,h,h'⟩;cases h;exact h' e, ?_⟩
        rw [hD,Option.bind_some,hpair,Option.bind_some,aa _ (by omega) (by omega)];rfl
       ·rw [if_neg e]
        exact .inl ⟨rfl,⟨d,rfl,e⟩,_,rfl⟩
   rw [qcK,Nat.add_sub_cancel]
   rcases hstep with ⟨hc,e,he⟩|⟨hc,ho,e,he⟩|⟨hc,ho,he⟩
   ·rw [if_pos hc,cy he,Option.bind_some,ld]
   ·rw [if_neg (by rw [hc];simp),if_pos ho,cy he,Option.bind_some,mw,ld]
   ·rw [if_neg (by rw [hc];simp),if_neg ho,cj he];exact ih
end Go.AI.Fn
set_option linter.unusedVariables false
set_option linter.unusedSimpArgs false
namespace Go.AI.Fn
theorem ZL {α:Type} {f:α→List UInt8} {c:Nat}: ∀{l:List α},(∀x∈l,(f x).length≤c)→(l.flatMap f).length≤l.length*c
 |[],_=>by simp
 |x::l,h=>by
  have h1:=h x (by simp)
  have h2:=ZL (l:=l) fun y hy=>h y (by simp [hy])
  rw [List.flatMap_cons,List.length_append,List.length_cons,Nat.succ_mul];omega
def flB (P:List (List (List UInt8))):List UInt8:=P.flatMap fun x=>x.flatMap id
structure BoO (o:aC):Prop where
 rn:o.Rounds.length≤6
 rr: ∀g∈o.Rounds,g.length≤3
 ro:o.Roots.length≤6
 rh: ∀x∈o.Roots,x.length≤32
 qn:o.Queries.length≤8
 qp: ∀q∈o.Queries,q.Pairs.length≤12
 qt: ∀q∈o.Queries,q.Paths.length≤6
 qq: ∀q∈o.Queries, ∀p∈q.Paths,p.length≤8∧ ∀x∈p,x.length≤32
theorem a2G {l:List (List UInt8)}:l.all h32=true↔ ∀x∈l,x.length=32:=by simp [List.all_eq_true,h32]
theorem qC {v:Nat} {t:Setting} {q:aB} (h:B4 (v:Int) t q=true):q.Pairs.length=2*v∧eg q.Pairs∧q.Paths.length=v∧ ∀j,j<v→(((q.Paths.getD j []).length:Nat):Int)=v+t.Rate-1-j∧ ∀x∈q.Paths.getD j [],x.length=32:=by
 unfold B4 at h
 simp only [Bool.and_eq_true,decide_eq_true_eq] at h
 refine ⟨by omega,FL.1 h.2.1,by omega,fun j hj=> ?_⟩
 have:=oG.1 h.2.2.2 j (by omega)
 unfold Rk at this
 simp only [Bool.and_eq_true,decide_eq_true_eq] at this
 exact ⟨this.1,a2G.1 this.2⟩
structure OkO (o:aC) (v:Nat) (t:Setting):Prop where
 v1:1≤v∧v≤6
 st:setB t=true
 rn:o.Rounds.length=v
 rr: ∀g∈o.Rounds,g.length=3∧eg g
 ro:o.Roots.length=v-1
 rh: ∀x∈o.Roots,x.length=32
 la:okE o.Last
 no:0≤o.Nonce∧o.Nonce≤65535
 qn:(o.Queries.length:Int)=t.Queries
 qq: ∀q∈o.Queries,B4 (v:Int) t q=true
theorem FS {o:aC} {v:Nat} {t:Setting} (h:okO o (v:Int) t=true):OkO o v t:=by
 unfold okO GZ at h
 simp only [Bool.and_eq_true,decide_eq_true_eq,List.all_eq_true] at h
 obtain ⟨h1,h2,⟨h3,h4⟩,h5,h6,h7,h8,h9,h10⟩:=h
 refine ⟨by omega,h2,by omega,fun g hg=> ?_,by omega,fun x hx=> ?_,om.1 h7,h8,h9,h10⟩
 ·have:=h4 g hg
  unfold zx at this
  simp only [Bool.and_eq_true,decide_eq_true_eq] at this
  exact ⟨by omega,FL.1 this.2⟩
 ·have:=h6 x hx
  simpa [h32] using this
theorem OkO.path {o:aC} {v:Nat} {t:Setting} (h:OkO o v t) {q:aB} (hq:q∈o.Queries) {p:List (List UInt8)} (hp:p∈q.Paths):p.length≤8∧ ∀x∈p,x.length=32:=by
 obtain ⟨_,_,h3,h4⟩:=qC (h.qq q hq)
 obtain ⟨j,hj,rfl⟩:=List.getElem_of_mem hp
 have:=h4 j (by omega)
 have hs:=mu h.st
 have hv:=h.v1
 rw [show q.Paths.getD j []=q.Paths[j] by simp [hj]] at this
 exact ⟨by omega,this.2⟩
theorem OkO.bo {o:aC} {v:Nat} {t:Setting} (h:OkO o v t):BoO o:=by
 have hv:=h.v1
 have hs:=mu h.st
 have hn:=h.qn
 have hro:=h.ro
 refine ⟨by rw [h.rn];omega,fun g hg=>by rw [(h.rr g hg).1];omega,by omega,fun x hx=>by rw [h.rh x hx];omega,by omega,fun q hq=> ?_,fun q hq=> ?_,fun q hq p hp=> ?_⟩
 ·have:=(qC (h.qq q hq)).1;omega
 ·have:=(qC (h.qq q hq)).2.2.1;omega
 ·have:=h.path hq hp
  exact ⟨this.1,fun x hx=>by rw [this.2 x hx];omega⟩
theorem BoO.sm {o:aC} (h:BoO o):SmO o:=⟨by have:=h.rn;omega,fun g hg=>by have:=h.rr g hg;omega,by have:=h.ro;omega,by have:=h.qn;omega,fun q hq=>by have:=h.qp q hq;omega,fun q hq p hp=>by have:=(h.qq q hq p hp).1;omega⟩
theorem BoO.pth {o:aC} (h:BoO o) {q:aB} (hq:q∈o.Queries) {p:List (List UInt8)} (hp:p∈q.Paths):(p.flatMap id).length≤256:=by
 have h1:=h.qq q hq p hp
 have:=ZL (f:=id) (c:=32) h1.2
 have:=h1.1;omega
theorem BoO.pths {o:aC} (h:BoO o) {q:aB} (hq:q∈o.Queries):(flB q.Paths).length≤1536:=by
 have:=ZL (f:=fun x:List (List UInt8)=>x.flatMap id) (c:=256) fun p hp=>h.pth hq hp
 have h2:=h.qt q hq
 unfold flB;omega
theorem gdm {α:Type} {l:List α} {j:Nat} (h:j<l.length):l[j]∈l:=List.getElem_mem h
variable {o:aC} {v:Nat} {t:Setting}
end Go.AI.Fn
set_option linter.unusedVariables false
set_option linter.unusedSimpArgs false
namespace Go.AI.Fn
theorem OL: ∀(A B preA preB:List K) (acc:K),A.length=B.length→preA.length=preB.length→preA.length+A.length≤100→
 Loop (gn (kv (preA++A)) (kv (preB++B)) 0 0) ((preA.length:Int),acc.1.A,acc.1.B)=some (((preA++A).length:Int),false,(eaK A B acc).1.A,(eaK A B acc).1.B)
 |[],B,preA,preB,acc,h1,h2,h3=>by
  refine cy ?_
  simp only [gn,al]
  rw [brn (by simp),decide_eq_false (by simp)];simp [eaK]
 |x::A,[],preA,preB,acc,h1,h2,h3=>by simp at h1
 |x::A,b::B,preA,preB,acc,h1,h2,h3=>by
  rw [List.length_cons,List.length_cons] at h1
  rw [List.length_cons] at h3
  have ih:=OL A B (preA++[x]) (preB++[b]) (acc*(x*b+(1-x)*(1-b))) (by omega) (by rw [List.length_append,List.length_append,List.length_singleton,List.length_singleton];omega) (by rw [List.length_append,List.length_singleton];omega)
  rw [List.append_assoc,List.append_assoc,List.singleton_append,List.singleton_append,show (preA++[x]).length=preA.length+1 by simp] at ih
  have hx:atL (kv (preA++x::A)) (preA.length:Int)=some x.1:=by rw [uP];exact iS (by rw [al])
  have hb:atL (kv (preB++b::B)) (preA.length:Int)=some b.1:=by rw [uP];exact iS (by rw [al];omega)
  rw [cj (s':=(((preA.length+1:Nat):Int),(acc*(x*b+(1-x)*(1-b))).1.A,(acc*(x*b+(1-x)*(1-b))).1.B)) ?_]
  ·rw [ih];rfl
  ·simp only [gn,al]
   rw [brd (by rw [List.length_append,List.length_cons];omega),hx,Option.bind_some,hb,Option.bind_some,du x.2 b.2,Option.bind_some,Option.bind_some,Gu x.2,Option.bind_some,Option.bind_some,Gu b.2,Option.bind_some,du (pd _ _) (pd _ _),Option.bind_some,jV (ox _ _) (ox _ _),Option.bind_some,show Ext.mk acc.1.A acc.1.B=acc.1 from rfl,du acc.2 (OU _ _),Option.bind_some,aa _ (by omega) (by omega)];rfl
theorem a2V {A B:List K} (h:A.length=B.length) (hl:A.length≤100):vD (kv A) (kv B)=some (eaK A B 1).1:=by
 have:=OL A B [] [] 1 h rfl (by rw [List.length_nil];omega)
 unfold vD
 rw [Ka,Option.bind_some]
 rw [List.nil_append,List.nil_append,List.length_nil] at this
 have key:Loop (gn (kv A) (kv B) 0 0) (0,e1.A,e1.B)=_:=this
 rw [key];rfl
theorem OB: ∀(A B preA preB:List K) (acc:K),A.length=B.length→preA.length=preB.length→preA.length+A.length≤100→
 Loop (lx (kv (preB++B)) (kv (preA++A)) ((preA++A).length:Int) 0 0) ((preA.length:Int),acc.1.A,acc.1.B)=some (((preA++A).length:Int),false,(eaK A B acc).1.A,(eaK A B acc).1.B)
 |[],B,preA,preB,acc,h1,h2,h3=>by
  refine cy ?_
  simp only [lx]
  rw [brn (by simp),decide_eq_false (by simp)];simp [eaK]
 |x::A,[],preA,preB,acc,h1,h2,h3=>by simp at h1
 |x::A,b::B,preA,preB,acc,h1,h2,h3=>by
  rw [List.length_cons,List.length_cons] at h1
  rw [List.length_cons] at h3
  have ih:=OB A B (preA++[x]) (preB++[b]) (acc*(x*b+(1-x)*(1-b))) (by omega) (by rw [List.length_append,List.length_append,List.length_singleton,List.length_singleton];omega) (by rw [List.length_append,List.length_singleton];omega)
  rw [List.append_assoc,List.append_assoc,List.singleton_append,List.singleton_append,show (preA++[x]).length=preA.length+1 by simp] at ih
  have hx:atL (kv (preA++x::A)) (preA.length:Int)=some x.1:=by rw [uP];exact iS (by rw [al])
  have hb:atL (kv (preB++b::B)) (preA.length:Int)=some b.1:=by rw [uP];exact iS (by rw [al];omega)
  rw [cj (s':=(((preA.length+1:Nat):Int),(acc*(x*b+(1-x)*(1-b))).1.A,(acc*(x*b+(1-x)*(1-b))).1.B)) ?_]
  ·rw [ih];rfl
  ·simp only [lx]
   rw [brd (by rw [List.length_append,List.length_cons];omega),hx,Option.bind_some,hb,Option.bind_some,dK x.2 b.2,Option.bind_some,DV,Option.bind_some,ie SX x.2,Option.bind_some,Option.bind_some,Option.bind_some,ie SX b.2,Option.bind_some,dK (pd _ _) (pd _ _),Option.bind_some,gL (ox _ _) (ox _ _),Option.bind_some,show Ext.mk acc.1.A acc.1.B=acc.1 from rfl,dK acc.2 (OU _ _),Option.bind_some,aa _ (by omega) (by omega)];rfl
theorem a38 {A B:List K} (h:A.length=B.length) (hl:A.length≤100):JD (kv A) (kv B)=some (eaK A B 1).1:=by
 have:=OB A B [] [] 1 h rfl (by rw [List.length_nil];omega)
 unfold JD
 rw [DV,Option.bind_some,al]
 rw [List.nil_append,List.nil_append,List.length_nil] at this
 have key:Loop (lx (kv B) (kv A) (A.length:Int) 0 0) (0,e1.A,e1.B)=_:=this
 rw [key];rfl
theorem a5u {L:List Ext} (h:eg L):kv (L.map toK)=L:=by
 rw [kv,List.map_map]
 refine (List.map_congr_left fun x hx=> ?_).trans (List.map_id _)
 exact pR (h x hx)
theorem YW: ∀(n m:Nat) (rts:List (List UInt8)) (prs:List K) (pths:List (List (List UInt8))) (D:List K),n≤m→rts.length=n→prs.length=2*n→pths.length=n→D.length=n→(∀j,j<n→(pths.getD j []).length=m-1-j∧ ∀x∈pths.getD j [],x.length=32)→QSh m rts prs pths D
 |0,m,[],[],[],[],_,_,_,_,_,_=>trivial
 |0,m,_::_,_,_,_,_,h,_,_,_,_=>by simp at h
 |0,m,_,_::_,_,_,_,_,h,_,_,_=>by simp at h
 |0,m,_,_,_::_,_,_,_,_,h,_,_=>by simp at h
 |0,m,_,_,_,_::_,_,_,_,_,h,_=>by simp at h
 |n+1,m,rts,prs,pths,D,hm,h1,h2,h3,h4,h5=>by
  match rts,prs,pths,D,h1,h2,h3,h4 with
  |rt::rts,a::b::prs,p::pths,r::D,h1,h2,h3,h4=>
   simp only [List.length_cons] at h1 h2 h3 h4
   have h0:=h5 0 (by omega)
   exact ⟨by omega,by have:=h0.1;simpa using this,fun x hx=>h0.2 x hx,YW n (m-1) rts prs pths D (by omega) (by omega) (by omega) (by omega) (by omega) fun j hj=>by
    have:=h5 (j+1) (by omega)
    exact ⟨this.1.trans (by omega),this.2⟩⟩
  |[],_,_,_,h1,_,_,_=>simp at h1
  |_::_,[],_,_,_,h2,_,_=>simp at h2
  |_::_,[_],_,_,_,h2,_,_=>simp at h2;omega
  |_::_,_::_::_,[],_,_,_,h3,_=>simp at h3
  |_::_,_::_::_,_::_,[],_,_,_,h4=>simp at h4
variable {o:aC} {v ρ:Nat} {t:Setting} {root:List UInt8} {D:List K} {q:aB}
theorem a4n (h:OkO o v t) (e1:t.Rate=(ρ:Int)) (hD:D.length=v) (hq:q∈o.Queries):QSh (v+ρ) (root::o.Roots) (q.Pairs.map toK) q.Paths D:=by
 obtain ⟨h1,h2,h3,h4⟩:=qC (h.qq q hq)
 have hv:=h.v1
 have hs:=mu h.st
 have hr:=h.ro
 exact YW v (v+ρ) _ _ _ _ (by omega) (by rw [List.length_cons];omega) (by rw [List.length_map,h1]) h3 hD fun j hj=>by
  have:=h4 j hj
  exact ⟨by omega,this.2⟩
theorem UY (h:OkO o v t) (e1:t.Rate=(ρ:Int)) (hD:D.length=v) (hq:q∈o.Queries) {p:Int} (h0:0≤p) (hp:p<512):
 xr (root::o.Roots) (v:Int) ((2^(v+ρ):Nat):Int) p (kv D) o q=some (qcK (toK o.Last) (v+ρ) (root::o.Roots) (q.Pairs.map toK) q.Paths D p.toNat none):=by
 have hs:=mu h.st
 have hv:=h.v1
 have hr:=h.ro
 have key:=NU (l:=toK o.Last) (V:=(v:Int)) (c:=o.Rounds) (c2:=o.Roots) (c3:=o.Last.A) (c4:=o.Last.B) (c5:=o.Nonce) (c6:=o.Queries) (root::o.Roots) (q.Pairs.map toK) q.Paths D (v+ρ) [] [] [] [] p.toNat none (a4n h e1 hD hq) (by omega) rfl rfl rfl (by rw [List.length_nil,List.length_cons];omega) (by rw [List.length_nil,List.length_cons];omega) (by omega) (by simp) (by simp)
 simp only [List.nil_append,List.length_nil,a5u (qC (h.qq q hq)).2.1,Int.toNat_of_nonneg h0,pR h.la] at key
 exact key
theorem VK (h:OkO o v t) (e1:t.Rate=(ρ:Int)) (hD:D.length=v) (hq:q∈o.Queries) {p:Int} (h0:0≤p) (hp:p<512):
 pS (root::o.Roots) (kv D) ((2^(v+ρ):Nat):Int) p o q=some (qcK (toK o.Last) (v+ρ) (root::o.Roots) (q.Pairs.map toK) q.Paths D p.toNat none):=by
 have hs:=mu h.st
 have hv:=h.v1
 have hr:=h.ro
 have key:=OP (l:=toK o.Last) (M:=v+ρ) (V:=(((root::o.Roots).length:Nat):Int)) (c:=o.Rounds) (c2:=o.Roots) (c3:=o.Last.A) (c4:=o.Last.B) (c5:=o.Nonce) (c6:=o.Queries) (root::o.Roots) (q.Pairs.map toK) q.Paths D (v+ρ) [] [] [] [] p.toNat none (a4n h e1 hD hq) (by omega) rfl rfl rfl rfl (by rw [List.length_nil];omega) (by rw [List.length_nil,List.length_cons];omega) (by omega) (by simp) (by simp)
 simp only [List.nil_append,List.length_nil,a5u (qC (h.qq q hq)).2.1,Int.toNat_of_nonneg h0,pR h.la] at key
 exact key
end Go.AI.Fn
set_option linter.unusedVariables false
set_option linter.unusedSimpArgs false
namespace Go.AI.Fn
theorem Kh {v:Nat} {V:Int} {rts l:List (List UInt8)} {t2:List Ext} {c c2 c3 c4 c5 c8 c9 c10 c16 c18:Int} {c11:List aB} {c17:List UInt8} (hV:V=(v:Int)) (hrl:rts.length+1=v) (hrh: ∀x∈rts,x.length=32): ∀(R pre:List (List K)) (cl:K) (s:Source) (k:Int) (P:List Ext),(∀g∈R,g.length=3)→Few s k→k+3*R.length≤999890→P.length+R.length≤1000→pre.length+R.length=v→v≤100→
 ((vfM 1 (bvO v rts) R pre.length cl s).1=0→Loop (ct l V t2 c c2 c3 c4 c5 (kvv (pre++R)) rts c8 c9 c10 c11 c16 c17 c18) (P,(pre.length:Int),s.Script,s.At,s.State,s.Count,cl.1.A,cl.1.B)=
   some (.inr (P++kv (vfM 1 (bvO v rts) R pre.length cl s).2.1,V,false,(vfM 1 (bvO v rts) R pre.length cl s).2.2.2.Script,(vfM 1 (bvO v rts) R pre.length cl s).2.2.2.At,(vfM 1 (bvO v rts) R pre.length cl s).2.2.2.State,(vfM 1 (bvO v rts) R pre.length cl s).2.2.2.Count,
    (vfM 1 (bvO v rts) R pre.length cl s).2.2.1.1.A,(vfM 1 (bvO v rts) R pre.length cl s).2.2.1.1.B)))∧
 ((vfM 1 (bvO v rts) R pre.length cl s).1≠0→(vfM 1 (bvO v rts) R pre.length cl s).1=10∧ ∃e,Loop (ct l V t2 c c2 c3 c4 c5 (kvv (pre++R)) rts c8 c9 c10 c11 c16 c17 c18) (P,(pre.length:Int),s.Script,s.At,s.State,s.Count,cl.1.A,cl.1.B)=some (.inl e))
 |[],pre,cl,s,k,P,hg,hf,hk,hP,hp,hv=>by
  rw [List.length_nil] at hp
  refine ⟨fun _=>cy ?_,fun h=>absurd rfl h⟩
  simp only [ct,List.append_nil]
  rw [brn (by omega),decide_eq_false (by omega)]
  simp [vfM,kv];omega
 |g::R,pre,cl,s,k,P,hg,hf,hk,hP,hp,hv=>by
  rw [List.length_cons] at hk hP hp
  have hgl:=hg g (by simp)
  have hat:atL (kvv (pre++g::R)) (pre.length:Int)=some (kv g):=by rw [ut (by simp)];simp
  have hk0:0≤k:=by have:=hf.2;have:=hf.1.4;omega
  rw [vfM,if_pos (show g.length=1+2 from hgl)]
  by_cases h2:g.getD 0 0+g.getD 1 0=cl
  ·rw [if_pos h2]
   have hfb:Few (bvO v rts pre.length (nsM s g)) (k+2+1):=K1 v rts _ _ _ (xw hf (by omega) g) (by omega)
   have ih:=Kh (l:=l) (t2:=t2) (c:=c) (c2:=c2) (c3:=c3) (c4:=c4) (c5:=c5) (c8:=c8) (c9:=c9) (c10:=c10) (c11:=c11) (c16:=c16) (c17:=c17) (c18:=c18) hV hrl hrh R (pre++[g]) (lnK g (rdM s g)) (bvO v rts pre.length (nsM s g)) (k+2+1) (P++[(rdM s g).1]) (fun x hx=>hg x (by simp [hx])) hfb (by omega) (by rw [List.length_append,List.length_singleton];omega) (by rw [List.length_append,List.length_singleton];omega) hv
   rw [List.append_assoc,List.singleton_append,List.length_append,List.length_singleton] at ih
   have step:ct l V t2 c c2 c3 c4 c5 (kvv (pre++g::R)) rts c8 c9 c10 c11 c16 c17 c18 (P,(pre.length:Int),s.Script,s.At,s.State,s.Count,cl.1.A,cl.1.B)=
    some (.inl (P++[(rdM s g).1],((pre.length+1:Nat):Int),(bvO v rts pre.length (nsM s g)).Script,(bvO v rts pre.length (nsM s g)).At,(bvO v rts pre.length (nsM s g)).State,(bvO v rts pre.length (nsM s g)).Count,(lnK g (rdM s g)).1.A,(lnK g (rdM s g)).1.B)):=by
    simp only [ct]
    rw [brd (by omega),hat,Option.bind_some,atK (i:=0) (j:=0) rfl (by omega),Option.bind_some,atK (i:=1) (j:=1) rfl (by omega),Option.bind_some,jV (Subtype.property _) (Subtype.property _),Option.bind_some]
    rw [show eA (g.getD 0 0).1 (g.getD 1 0).1=cl.1 from congrArg Subtype.val h2,bre rfl,bre rfl,show Source.mk s.Script s.At s.State s.Count=s from rfl,QB hf.1 (by omega),Option.bind_some,a4j hf,Option.bind_some]
    dsimp only
    rw [XR _ (by omega),Option.bind_some,ak (by rw [List.length_append,List.length_singleton];omega),aa _ (by omega) (by omega)]
    by_cases hb:pre.length+1<v
    ·have hx:rts.getD pre.length []∈rts:=by simp [show pre.length<rts.length by omega]
     rw [brd (by omega),nX (d:=[]) (by omega),Option.bind_some,lD (xw hf (by omega) g).1.3 (by rw [hrh _ hx];omega),Option.bind_some,bvO,if_pos hb];rfl
    ·rw [brn (by omega),bvO,if_neg hb];rfl
   refine ⟨fun h=> ?_,fun h=> ?_⟩
   ·rw [cj step,ih.1 h]
    simp [kv]
   ·obtain ⟨h10,e,he⟩:=ih.2 h
    exact ⟨h10,e,by rw [cj step,he]⟩
  ·rw [if_neg h2]
   refine ⟨fun h=>absurd (show (10:Int)=0 from h) (by decide),fun _=>⟨rfl,(P,s.Script,s.At,s.State,s.Count,s.Script,s.At,s.State,s.Count,cl.1.A,cl.1.B),cy ?_⟩⟩
   simp only [ct]
   rw [brd (by omega),hat,Option.bind_some,atK (i:=0) (j:=0) rfl (by omega),Option.bind_some,atK (i:=1) (j:=1) rfl (by omega),Option.bind_some,jV (Subtype.property _) (Subtype.property _),Option.bind_some]
   rw [show eA (g.getD 0 0).1 (g.getD 1 0).1=(g.getD 0 0+g.getD 1 0).1 from rfl,MZ,if_neg h2]
theorem LS {v:Nat} {V:Int} {rts:List (List UInt8)} {c6:List (List Ext)} {c8 c9 c10 c14 c15:Int} {c11:List aB} (hV:V=(v:Int)) (hrl:rts.length+1=v) (hrh: ∀x∈rts,x.length=32): ∀(R pre:List (List K)) (cl:K) (s:Source) (k:Int) (P:List Ext),(∀g∈R,g.length=3)→Few s k→k+3*R.length≤999890→P.length+R.length≤1000→pre.length+R.length=v→v≤100→
 ((vfM 1 (bvO v rts) R pre.length cl s).1=0→Loop (aA 1 (kvv (pre++R)) V c14 c15) (P,(pre.length:Int),s.Script,s.At,s.State,s.Count,V,c6,rts,c8,c9,c10,c11,cl.1.A,cl.1.B)=
   some (.inr (P++kv (vfM 1 (bvO v rts) R pre.length cl s).2.1,V,false,(vfM 1 (bvO v rts) R pre.length cl s).2.2.2.Script,(vfM 1 (bvO v rts) R pre.length cl s).2.2.2.At,(vfM 1 (bvO v rts) R pre.length cl s).2.2.2.State,(vfM 1 (bvO v rts) R pre.length cl s).2.2.2.Count,V,c6,rts,c8,c9,c10,c11,
    (vfM 1 (bvO v rts) R pre.length cl s).2.2.1.1.A,(vfM 1 (bvO v rts) R pre.length cl s).2.2.1.1.B)))∧
 ((vfM 1 (bvO v rts) R pre.length cl s).1≠0→(vfM 1 (bvO v rts) R pre.length cl s).1=10∧ ∃e:List Ext×Int×List Ext×Int×List UInt8×Int×Int×List (List Ext)×List (List UInt8)×Int×Int×Int×List aB×Int×Int,e.2.1=10∧Loop (aA 1 (kvv (pre++R)) V c14 c15) (P,(pre.length:Int),s.Script,s.At,s.State,s.Count,V,c6,rts,c8,c9,c10,c11,cl.1.A,cl.1.B)=some (.inl e))
 |[],pre,cl,s,k,P,hg,hf,hk,hP,hp,hv=>by
  rw [List.length_nil] at hp
  refine ⟨fun _=>cy ?_,fun h=>absurd rfl h⟩
  simp only [aA,List.append_nil]
  rw [brn (by omega),decide_eq_false (by omega)]
  simp [vfM,kv];omega
 |g::R,pre,cl,s,k,P,hg,hf,hk,hP,hp,hv=>by
  rw [List.length_cons] at hk hP hp
  have hgl:=hg g (by simp)
  have hdg:lg 1=some ((2:Nat):Int):=GI (kind:=1) (.inl rfl)
  have hat:atL (kvv (pre++g::R)) (pre.length:Int)=some (kv g):=by rw [ut (by simp)];simp
  have hk0:0≤k:=by have:=hf.2;have:=hf.1.4;omega
  rw [vfM,if_pos (show g.length=1+2 from hgl)]
  by_cases h2:g.getD 0 0+g.getD 1 0=cl
  ·rw [if_pos h2]
   have hfb:Few (bvO v rts pre.length (nsM s g)) (k+2+1):=K1 v rts _ _ _ (xw hf (by omega) g) (by omega)
   have ih:=LS (c6:=c6) (c8:=c8) (c9:=c9) (c10:=c10) (c11:=c11) (c14:=c14) (c15:=c15) hV hrl hrh R (pre++[g]) (lnK g (rdM s g)) (bvO v rts pre.length (nsM s g)) (k+2+1) (P++[(rdM s g).1]) (fun x hx=>hg x (by simp [hx])) hfb (by omega) (by rw [List.length_append,List.length_singleton];omega) (by rw [List.length_append,List.length_singleton];omega) hv
   rw [List.append_assoc,List.singleton_append,List.length_append,List.length_singleton] at ih
   have step:aA 1 (kvv (pre++g::R)) V c14 c15 (P,(pre.length:Int),s.Script,s.At,s.State,s.Count,V,c6,rts,c8,c9,c10,c11,cl.1.A,cl.1.B)=
    some (.inl (P++[(rdM s g).1],((pre.length+1:Nat):Int),(bvO v rts pre.length (nsM s g)).Script,(bvO v rts pre.length (nsM s g)).At,(bvO v rts pre.length (nsM s g)).State,(bvO v rts pre.length (nsM s g)).Count,V,c6,rts,c8,c9,c10,c11,(lnK g (rdM s g)).1.A,(lnK g (rdM s g)).1.B)):=by
    simp only [aA,gB]
    rw [brd (by omega),hat,Option.bind_some,hdg,Option.bind_some,aa _ (by omega) (by omega),ff (by rw [al];omega),atK (i:=0) (j:=0) rfl (by omega),Option.bind_some,atK (i:=1) (j:=1) rfl (by omega),Option.bind_some,gL (Subtype.property _) (Subtype.property _),Option.bind_some]
    rw [show eA (g.getD 0 0).1 (g.getD 1 0).1=cl.1 from congrArg Subtype.val h2,bre rfl,bre rfl,show Source.mk s.Script s.At s.State s.Count=s from rfl,KS hf.1 (by omega),Option.bind_some,a1n hf,Option.bind_some]
    dsimp only
    rw [SH _ (by omega),Option.bind_some,ak (by rw [List.length_append,List.length_singleton];omega),aa (V-1) (by omega) (by omega),aa ((pre.length:Int)+1) (by omega) (by omega)]
    by_cases hb:pre.length+1<v
    ·have hx:rts.getD pre.length []∈rts:=by simp [show pre.length<rts.length by omega]
     rw [brd (by omega),nX (d:=[]) (by omega),Option.bind_some,ak (by rw [hrh _ hx];omega),og (xw hf (by omega) g).1.3 (by rw [hrh _ hx];omega),Option.bind_some,Option.bind_some,bvO,if_pos hb];rfl
    ·rw [brn (by omega),Option.bind_some,bvO,if_neg hb];rfl
   refine ⟨fun h=> ?_,fun h=> ?_⟩
   ·rw [cj step,ih.1 h]
    simp [kv]
   ·obtain ⟨h10,e,h1,he⟩:=ih.2 h
    exact ⟨h10,e,h1,by rw [cj step,he]⟩
  ·rw [if_neg h2]
   refine ⟨fun h=>absurd (show (10:Int)=0 from h) (by decide),fun _=>⟨rfl,(P,10,s.Script,s.At,s.State,s.Count,V,c6,rts,c8,c9,c10,c11,cl.1.A,cl.1.B),rfl,cy ?_⟩⟩
   simp only [aA,gB]
   rw [brd (by omega),hat,Option.bind_some,hdg,Option.bind_some,aa _ (by omega) (by omega),ff (by rw [al];omega),atK (i:=0) (j:=0) rfl (by omega),Option.bind_some,atK (i:=1) (j:=1) rfl (by omega),Option.bind_some,gL (Subtype.property _) (Subtype.property _),Option.bind_some]
   rw [show eA (g.getD 0 0).1 (g.getD 1 0).1=(g.getD 0 0+g.getD 1 0).1 from rfl,MZ,if_neg h2]
end Go.AI.Fn
set_option linter.unusedVariables false
set_option linter.unusedSimpArgs false
namespace Go.AI.Fn
variable {o:aC} {v ρ nq bits:Nat} {t:Setting} {root:List UInt8} {D P:List K} {s:Source} {k:Int}
theorem O7 {c21 c22 c23 c24 c25 c33 c35 c36 c38 c39 c40:Int} {c32:List Ext} {c34 c37:List UInt8} (h:OkO o v t) (e1:t.Rate=(ρ:Int)) (hD:D.length=v): ∀(ps:List Int) (qs:List aB) (preP:List Int) (preQ:List aB),o.Queries=preQ++qs→preP.length=preQ.length→ps.length=qs.length→preP.length+ps.length≤100→(∀p∈ps,0≤p∧p<512)→
 (qsC (toK o.Last) (v+ρ) (root::o.Roots) D ps qs=0→Loop (dT (root::o.Roots) (kv D) (v:Int) ((2^(v+ρ):Nat):Int) (preP++ps) c21 c22 c23 c24 c25 o.Rounds o.Roots o.Last.A o.Last.B o.Nonce o.Queries c32 c33 c34 c35 c36 c37 c38 c39 c40) (preP.length:Int)=some (.inr (((preP++ps).length:Int),false)))∧
 (qsC (toK o.Last) (v+ρ) (root::o.Roots) D ps qs≠0→Loop (dT (root::o.Roots) (kv D) (v:Int) ((2^(v+ρ):Nat):Int) (preP++ps) c21 c22 c23 c24 c25 o.Rounds o.Roots o.Last.A o.Last.B o.Nonce o.Queries c32 c33 c34 c35 c36 c37 c38 c39 c40) (preP.length:Int)=some (.inl (qsC (toK o.Last) (v+ρ) (root::o.Roots) D ps qs)))
 |[],qs,preP,preQ,hQ,h1,h2,h3,hp=>by
  refine ⟨fun _=>cy ?_,fun h=>absurd (by cases qs<;>rfl) h⟩
  simp only [dT]
  rw [List.append_nil,brn (by omega),decide_eq_false (by omega)]
 |p::ps,[],preP,preQ,hQ,h1,h2,h3,hp=>by simp at h2
 |p::ps,q::qs,preP,preQ,hQ,h1,h2,h3,hp=>by
  rw [List.length_cons] at h3
  have hp0:=hp p (by simp)
  have hm:q∈o.Queries:=by rw [hQ];simp
  have hq:=UY (root:=root) h e1 hD hm hp0.1 hp0.2
  have ih:=O7 (c21:=c21) (c22:=c22) (c23:=c23) (c24:=c24) (c25:=c25) (c32:=c32) (c33:=c33) (c34:=c34) (c35:=c35) (c36:=c36) (c37:=c37) (c38:=c38) (c39:=c39) (c40:=c40) h e1 hD ps qs (preP++[p]) (preQ++[q]) (by rw [hQ];simp) (by simp [h1]) (by simpa using h2) (by rw [List.length_append,List.length_singleton];omega) (fun x hx=>hp x (by simp [hx]))
  rw [List.append_assoc,List.singleton_append,show (preP++[p]).length=preP.length+1 by simp] at ih
  have hs:dT (root::o.Roots) (kv D) (v:Int) ((2^(v+ρ):Nat):Int) (preP++p::ps) c21 c22 c23 c24 c25 o.Rounds o.Roots o.Last.A o.Last.B o.Nonce o.Queries c32 c33 c34 c35 c36 c37 c38 c39 c40 (preP.length:Int)=
   br (qcK (toK o.Last) (v+ρ) (root::o.Roots) (q.Pairs.map toK) q.Paths D p.toNat none !=0) (some (.inr (.inl (qcK (toK o.Last) (v+ρ) (root::o.Roots) (q.Pairs.map toK) q.Paths D p.toNat none)))) (some (.inl ((preP.length+1:Nat):Int))):=by
   simp only [dT]
   rw [brd (by rw [List.length_append,List.length_cons];omega),iS rfl,Option.bind_some,show atL o.Queries (preP.length:Int)=some q by rw [hQ];exact iS (by omega),Option.bind_some,show aC.mk o.Rounds o.Roots (Ext.mk o.Last.A o.Last.B) o.Nonce o.Queries=o from rfl,hq,Option.bind_some,aa _ (by omega) (by omega)];rfl
  rw [qsC]
  by_cases hz:qcK (toK o.Last) (v+ρ) (root::o.Roots) (q.Pairs.map toK) q.Paths D p.toNat none=0
  ·rw [if_pos hz]
   rw [ff hz] at hs
   rw [cj hs];exact ih
  ·rw [if_neg hz]
   rw [brb hz] at hs
   exact ⟨fun h=>absurd h hz,fun _=>cy hs⟩
theorem O9 {c2 c4 c5 c6 c7 c8 c9 c16 c17 c18 N:Int} {c:List Ext} {c3:List UInt8} (h:OkO o v t) (e1:t.Rate=(ρ:Int)) (hD:D.length=v): ∀(ps:List Int) (qs:List aB) (preP:List Int) (preQ:List aB),o.Queries=preQ++qs→preP.length=preQ.length→ps.length=qs.length→preP.length+ps.length≤100→(∀p∈ps,0≤p∧p<512)→N=((preP++ps).length:Int)→
 (qsC (toK o.Last) (v+ρ) (root::o.Roots) D ps qs=0→Loop (cx (root::o.Roots) (kv D) ((2^(v+ρ):Nat):Int) (preP++ps) N c c2 c3 c4 c5 c6 c7 c8 c9 o.Rounds o.Roots o.Last.A o.Last.B o.Nonce o.Queries c16 c17 c18) (preP.length:Int)=some (.inr (N,false)))∧
 (qsC (toK o.Last) (v+ρ) (root::o.Roots) D ps qs≠0→Loop (cx (root::o.Roots) (kv D) ((2^(v+ρ):Nat):Int) (preP++ps) N c c2 c3 c4 c5 c6 c7 c8 c9 o.Rounds o.Roots o.Last.A o.Last.B o.Nonce o.Queries c16 c17 c18) (preP.length:Int)=some (.inl (qsC (toK o.Last) (v+ρ) (root::o.Roots) D ps qs)))
 |[],qs,preP,preQ,hQ,h1,h2,h3,hp,hN=>by
  rw [List.append_nil] at hN
  refine ⟨fun _=>cy ?_,fun h=>absurd (by cases qs<;>rfl) h⟩
  simp only [cx]
  rw [brn (by omega),decide_eq_false (by omega),hN]
 |p::ps,[],preP,preQ,hQ,h1,h2,h3,hp,hN=>by simp at h2
 |p::ps,q::qs,preP,preQ,hQ,h1,h2,h3,hp,hN=>by
  rw [List.length_cons] at h3
  have hp0:=hp p (by simp)
  have hm:q∈o.Queries:=by rw [hQ];simp
  have hq:=VK (root:=root) h e1 hD hm hp0.1 hp0.2
  have ih:=O9 (N:=N) (c:=c) (c2:=c2) (c3:=c3) (c4:=c4) (c5:=c5) (c6:=c6) (c7:=c7) (c8:=c8) (c9:=c9) (c16:=c16) (c17:=c17) (c18:=c18) h e1 hD ps qs (preP++[p]) (preQ++[q]) (by rw [hQ];simp) (by simp [h1]) (by simpa using h2) (by rw [List.length_append,List.length_singleton];omega) (fun x hx=>hp x (by simp [hx])) (by rw [hN];simp)
  rw [List.append_assoc,List.singleton_append,show (preP++[p]).length=preP.length+1 by simp] at ih
  have hs:cx (root::o.Roots) (kv D) ((2^(v+ρ):Nat):Int) (preP++p::ps) N c c2 c3 c4 c5 c6 c7 c8 c9 o.Rounds o.Roots o.Last.A o.Last.B o.Nonce o.Queries c16 c17 c18 (preP.length:Int)=
   br (qcK (toK o.Last) (v+ρ) (root::o.Roots) (q.Pairs.map toK) q.Paths D p.toNat none !=0) (some (.inr (.inl (qcK (toK o.Last) (v+ρ) (root::o.Roots) (q.Pairs.map toK) q.Paths D p.toNat none)))) (some (.inl ((preP.length+1:Nat):Int))):=by
   simp only [cx]
   rw [brd (by rw [hN,List.length_append,List.length_cons];omega),iS rfl,Option.bind_some,show atL o.Queries (preP.length:Int)=some q by rw [hQ];exact iS (by omega),Option.bind_some,show aC.mk o.Rounds o.Roots (Ext.mk o.Last.A o.Last.B) o.Nonce o.Queries=o from rfl,hq,Option.bind_some,aa _ (by omega) (by omega)];rfl
  rw [qsC]
  by_cases hz:qcK (toK o.Last) (v+ρ) (root::o.Roots) (q.Pairs.map toK) q.Paths D p.toNat none=0
  ·rw [if_pos hz]
   rw [ff hz] at hs
   rw [cj hs];exact ih
  ·rw [if_neg hz]
   rw [brb hz] at hs
   exact ⟨fun h=>absurd h hz,fun _=>cy hs⟩
def ue (o:aC):List (List K):=o.Rounds.map fun g=>g.map toK
theorem W6 (h:OkO o v t):kvv (ue o)=o.Rounds:=by
 rw [kvv,ue,List.map_map]
 refine (List.map_congr_left fun g hg=> ?_).trans (List.map_id _)
 exact a5u (h.rr g hg).2
end Go.AI.Fn
set_option linter.unusedVariables false
set_option linter.unusedSimpArgs false
namespace Go.AI.Fn
variable {o:aC} {v ρ nq bits:Nat} {t:Setting} {root:List UInt8} {P:List K} {cl:K} {s:Source} {k:Int}
noncomputable def vfO (v:Nat) (o:aC) (cl:K) (s:Source):Int×List K×K×Source:=vfM 1 (bvO v o.Roots) (ue o) 0 cl s
noncomputable def chO (v ρ nq bits:Nat) (root:List UInt8) (P:List K) (cl:K) (o:aC) (s:Source):Int:=chC (v+ρ) bits nq root P o.Roots (toK o.Last) o.Nonce o.Queries (vfO v o cl s)
theorem Ul (h:OkO o v t) (hP:P.length=v) (e1:t.Rate=(ρ:Int)) (e2:t.Queries=(nq:Int)) (e3:t.Grind=(bits:Int)) (hf:Few s k) (hk:k≤999850):
 ∃src,rB root (v:Int) (kv P) cl.1 t o s=some (src,chO v ρ nq bits root P cl o s)∧(chO v ρ nq bits root P cl o s=0→src=chS nq (toK o.Last) o.Nonce (vfO v o cl s)):=by
 have hs:=mu h.st
 have hv:=h.v1
 have hro:=h.ro
 have hrn:=h.rn
 have hqn:=h.qn
 have hk0:0≤k:=by have:=hf.2;have:=hf.1.4;omega
 have hrl:(ue o).length=v:=by rw [ue,List.length_map,hrn]
 have hr3: ∀g∈ue o,g.length=3:=fun g hg=>by
  obtain ⟨x,hx,rfl⟩:=List.mem_map.1 hg
  rw [List.length_map,(h.rr x hx).1]
 obtain ⟨q,hq⟩: ∃q,v+ρ=q+1:=⟨v+ρ-1,by omega⟩
 have hpq:=oe q (by omega)
 have hl:=Kh (V:=(v:Int)) (rts:=o.Roots) (l:=root::o.Roots) (t2:=kv P) (c:=cl.1.A) (c2:=cl.1.B) (c3:=t.Rate) (c4:=t.Queries) (c5:=t.Grind) (c8:=o.Last.A) (c9:=o.Last.B) (c10:=o.Nonce) (c11:=o.Queries) (c16:=0) (c17:=[]) (c18:=0) rfl (by omega) h.rh (ue o) [] cl s k [] hr3 hf (by omega) (by rw [List.length_nil];omega) (by rw [List.length_nil];omega) (by omega)
 rw [List.nil_append,List.nil_append,List.length_nil,W6 h] at hl
 have hvl:=W0 (kind:=1) (bv:=bvO v o.Roots) (ue o) 0 cl s
 have hvf:=P9 (kind:=1) (K1 v o.Roots) (ue o) 0 cl s k hf (by omega)
 rw [show vfM 1 (bvO v o.Roots) (ue o) 0 cl s=vfO v o cl s from rfl] at hl hvl hvf
 rw [hrl] at hvl hvf
 unfold rB
 rw [ak (by simp only [List.length_append,List.length_singleton];omega),List.singleton_append]
 unfold chO chC
 by_cases h0:(vfO v o cl s).1=0
 ·have key:Loop (ct (root::o.Roots) (v:Int) (kv P) cl.1.A cl.1.B t.Rate t.Queries t.Grind o.Rounds o.Roots o.Last.A o.Last.B o.Nonce o.Queries 0 [] 0) ([],0,s.Script,s.At,s.State,s.Count,cl.1.A,cl.1.B)=_:=hl.1 h0
  have hDl:=hvl h0
  rw [key,Option.bind_some,mw,if_pos h0]
  dsimp only
  have hlast:o.Last=(toK o.Last).1:=(pR h.la).symm
  rw [a2V (by rw [hDl,hP]) (by omega),Option.bind_some,du h.la (Subtype.property _),Option.bind_some,show eM o.Last (eaK (vfO v o cl s).2.1 P 1).1=(toK o.Last*eaK (vfO v o cl s).2.1 P 1).1 by rw [K.mul_val, ←hlast],MZ]
  by_cases h1:toK o.Last*eaK (vfO v o cl s).2.1 P 1=(vfO v o cl s).2.2.1
  ·rw [if_pos h1,if_pos h1]
   have hfS:Few (rsM (vfO v o cl s).2.2.2 [toK o.Last]) (k+3*v+1):=hvf.take _
   rw [show Source.mk (vfO v o cl s).2.2.2.Script (vfO v o cl s).2.2.2.At (vfO v o cl s).2.2.2.State (vfO v o cl s).2.2.2.Count=(vfO v o cl s).2.2.2 from rfl,show ([o.Last]:List Ext)=kv [toK o.Last] by rw [kv,List.map_singleton, ←hlast],QB hvf.1 (by simp),Option.bind_some,e3,G9 hfS.1.3 (by omega),Option.bind_some]
   cases h2:gM (rsM (vfO v o cl s).2.2.2 [toK o.Last]).State bits o.Nonce with
   |false=>rw [Bool.not_false,aQ,if_neg (by simp)];exact ⟨_,rfl,fun h=>absurd h (by decide)⟩
   |true=>
    have hfT:Few (tkM (rsM (vfO v o cl s).2.2.2 [toK o.Last]) (dS o.Nonce)) (k+3*v+1+1):=hfS.take _
    have hpl: ∀x∈plM (drL (tkM (rsM (vfO v o cl s).2.2.2 [toK o.Last]) (dS o.Nonce)) nq) ((2^q:Nat):Int),0≤x∧x<512:=fun x hx=>by
     obtain ⟨y,hy,rfl⟩:=List.mem_map.1 hx
     have g0:=Int.emod_nonneg y.A (b:=((2^q:Nat):Int)) (by omega)
     have g1:=Int.emod_lt_of_pos y.A (b:=((2^q:Nat):Int)) (by omega)
     have g2:=oe (q+1) (by omega)
     have g3:2^(q+1)=2*2^q:=by rw [Nat.pow_succ];omega
     omega
    have hsh:bW .i64 1 (((v+ρ:Nat)):Int)=((2^(v+ρ):Nat):Int):=JU (v+ρ) (by omega)
    rw [Bool.not_true,aj,if_pos rfl,Aj,Option.bind_some,lD hfS.1.3 (by rw [ey];omega),Option.bind_some,e1,aa ((v:Int)+(ρ:Int)) (by omega) (by omega),cT _ (by omega) (by omega),brd (by omega),show (v:Int)+(ρ:Int)=((v+ρ:Nat):Int) by omega,hsh,hq,yI q (by omega),e2,HS hfT (by omega) (by omega) (by omega),Option.bind_some,Nat.add_sub_cancel]
    have hqs:=O7 (root:=root) (D:=(vfO v o cl s).2.1) (c21:=cl.1.A) (c22:=cl.1.B) (c23:=(ρ:Int)) (c24:=(nq:Int)) (c25:=t.Grind) (c32:=(drS (tkM (rsM (vfO v o cl s).2.2.2 [toK o.Last]) (dS o.Nonce)) nq).Script) (c33:=(drS (tkM (rsM (vfO v o cl s).2.2.2 [toK o.Last]) (dS o.Nonce)) nq).At) (c34:=(drS (tkM (rsM (vfO v o cl s).2.2.2 [toK o.Last]) (dS o.Nonce)) nq).State) (c35:=(drS (tkM (rsM (vfO v o cl s).2.2.2 [toK o.Last]) (dS o.Nonce)) nq).Count) (c36:=0) (c37:=[]) (c38:=0) (c39:=(vfO v o cl s).2.2.1.1.A) (c40:=(vfO v o cl s).2.2.1.1.B) h e1 hDl (plM (drL (tkM (rsM (vfO v o cl s).2.2.2 [toK o.Last]) (dS o.Nonce)) nq) ((2^q:Nat):Int)) o.Queries [] [] rfl rfl (by rw [plM,List.length_map,kX];omega) (by rw [plM,List.length_map,kX,List.length_nil];omega) hpl
    rw [List.nil_append,List.length_nil,hq,e3] at hqs
    by_cases h3:qsC (toK o.Last) (q+1) (root::o.Roots) (vfO v o cl s).2.1 (plM (drL (tkM (rsM (vfO v o cl s).2.2.2 [toK o.Last]) (dS o.Nonce)) nq) ((2^q:Nat):Int)) o.Queries=0
    ·have kk:=hqs.1 h3
     rw [show (((0:Nat):Int))=0 from rfl] at kk
     rw [kk,h3]
     exact ⟨_,rfl,fun _=>rfl⟩
    ·have kk:=hqs.2 h3
     rw [show (((0:Nat):Int))=0 from rfl] at kk
     rw [kk]
     exact ⟨_,rfl,fun h=>absurd h h3⟩
  ·rw [if_neg h1,if_neg h1]
   exact ⟨_,rfl,fun h=>absurd h (by decide)⟩
 ·obtain ⟨h10,e,he⟩:=hl.2 h0
  have key:Loop (ct (root::o.Roots) (v:Int) (kv P) cl.1.A cl.1.B t.Rate t.Queries t.Grind o.Rounds o.Roots o.Last.A o.Last.B o.Nonce o.Queries 0 [] 0) ([],0,s.Script,s.At,s.State,s.Count,cl.1.A,cl.1.B)=_:=he
  rw [key,Option.bind_some,ld,if_neg h0,h10]
  exact ⟨_,rfl,fun h=>absurd h (by decide)⟩
end Go.AI.Fn
set_option linter.unusedVariables false
set_option linter.unusedSimpArgs false
namespace Go.AI.Fn
variable {o:aC} {v ρ nq bits:Nat} {t:Setting} {root:List UInt8} {P:List K} {cl:K} {s:Source} {k:Int}
theorem Ur (h:OkO o v t) (hP:P.length=v) (e1:t.Rate=(ρ:Int)) (e2:t.Queries=(nq:Int)) (e3:t.Grind=(bits:Int)) (hf:Few s k) (hk:k≤999850):
 ∃src,jB root (kv P) cl.1 t o s=some (chO v ρ nq bits root P cl o s,src)∧(chO v ρ nq bits root P cl o s=0→src=chS nq (toK o.Last) o.Nonce (vfO v o cl s)):=by
 have hs:=mu h.st
 have hv:=h.v1
 have hro:=h.ro
 have hrn:=h.rn
 have hqn:=h.qn
 have hk0:0≤k:=by have:=hf.2;have:=hf.1.4;omega
 have hrl:(ue o).length=v:=by rw [ue,List.length_map,hrn]
 have hr3: ∀g∈ue o,g.length=3:=fun g hg=>by
  obtain ⟨x,hx,rfl⟩:=List.mem_map.1 hg
  rw [List.length_map,(h.rr x hx).1]
 obtain ⟨q,hq⟩: ∃q,v+ρ=q+1:=⟨v+ρ-1,by omega⟩
 have hpq:=oe q (by omega)
 have hl:=LS (V:=(v:Int)) (rts:=o.Roots) (c6:=o.Rounds) (c8:=o.Last.A) (c9:=o.Last.B) (c10:=o.Nonce) (c11:=o.Queries) (c14:=0) (c15:=0) rfl (by omega) h.rh (ue o) [] cl s k [] hr3 hf (by omega) (by rw [List.length_nil];omega) (by rw [List.length_nil];omega) (by omega)
 rw [List.nil_append,List.nil_append,List.length_nil,W6 h] at hl
 have hvl:=W0 (kind:=1) (bv:=bvO v o.Roots) (ue o) 0 cl s
 have hvf:=P9 (kind:=1) (K1 v o.Roots) (ue o) 0 cl s k hf (by omega)
 rw [show vfM 1 (bvO v o.Roots) (ue o) 0 cl s=vfO v o cl s from rfl] at hl hvl hvf
 rw [hrl] at hvl hvf
 unfold jB cf
 rw [al,hP,hrn]
 unfold chO chC
 by_cases h0:(vfO v o cl s).1=0
 ·have key:Loop (aA 1 o.Rounds (v:Int) 0 0) ([],0,s.Script,s.At,s.State,s.Count,(v:Int),o.Rounds,o.Roots,o.Last.A,o.Last.B,o.Nonce,o.Queries,cl.1.A,cl.1.B)=_:=hl.1 h0
  have hDl:=hvl h0
  rw [key,Option.bind_some,mw,if_pos h0,Option.bind_some]
  dsimp only
  rw [ff rfl]
  simp only [show Ext.mk o.Last.A o.Last.B=o.Last from rfl]
  have hlast:o.Last=(toK o.Last).1:=(pR h.la).symm
  rw [a38 (by rw [hDl,hP]) (by omega),Option.bind_some,dK h.la (Subtype.property _),Option.bind_some,show eM o.Last (eaK (vfO v o cl s).2.1 P 1).1=(toK o.Last*eaK (vfO v o cl s).2.1 P 1).1 by rw [K.mul_val, ←hlast],MZ]
  by_cases h1:toK o.Last*eaK (vfO v o cl s).2.1 P 1=(vfO v o cl s).2.2.1
  ·rw [if_pos h1,if_pos h1]
   have hfS:Few (rsM (vfO v o cl s).2.2.2 [toK o.Last]) (k+3*v+1):=hvf.take _
   rw [show Source.mk (vfO v o cl s).2.2.2.Script (vfO v o cl s).2.2.2.At (vfO v o cl s).2.2.2.State (vfO v o cl s).2.2.2.Count=(vfO v o cl s).2.2.2 from rfl,show ([o.Last]:List Ext)=kv [toK o.Last] by rw [kv,List.map_singleton, ←hlast],KS hvf.1 (by simp),Option.bind_some,e3,FN hfS.1.3 (by omega),Option.bind_some]
   cases h2:gM (rsM (vfO v o cl s).2.2.2 [toK o.Last]).State bits o.Nonce with
   |false=>rw [Bool.not_false,aQ,if_neg (by simp)];exact ⟨_,rfl,fun h=>absurd h (by decide)⟩
   |true=>
    have hfT:Few (tkM (rsM (vfO v o cl s).2.2.2 [toK o.Last]) (dS o.Nonce)) (k+3*v+1+1):=hfS.take _
    have hpl: ∀x∈plM (drL (tkM (rsM (vfO v o cl s).2.2.2 [toK o.Last]) (dS o.Nonce)) nq) ((2^q:Nat):Int),0≤x∧x<512:=fun x hx=>by
     obtain ⟨y,hy,rfl⟩:=List.mem_map.1 hx
     have g0:=Int.emod_nonneg y.A (b:=((2^q:Nat):Int)) (by omega)
     have g1:=Int.emod_lt_of_pos y.A (b:=((2^q:Nat):Int)) (by omega)
     have g2:=oe (q+1) (by omega)
     have g3:2^(q+1)=2*2^q:=by rw [Nat.pow_succ];omega
     omega
    have hsh:bW .i64 1 (((v+ρ:Nat)):Int)=((2^(v+ρ):Nat):Int):=JU (v+ρ) (by omega)
    rw [Bool.not_true,aj,if_pos rfl,v6,Option.bind_some,og hfS.1.3 (by rw [ey];omega),Option.bind_some,e1,aa ((v:Int)+(ρ:Int)) (by omega) (by omega),brd (by omega),ak (by simp only [List.length_append,List.length_singleton];omega),show (v:Int)+(ρ:Int)=((v+ρ:Nat):Int) by omega,hsh,hq,yI q (by omega),e2,M4 hfT (by omega) (by omega),Option.bind_some,Il (by rw [kX];omega) (Ks hfT (by omega) (by omega)) (by omega),Option.bind_some,Nat.add_sub_cancel,List.singleton_append]
    have hpn:(plM (drL (tkM (rsM (vfO v o cl s).2.2.2 [toK o.Last]) (dS o.Nonce)) nq) ((2^q:Nat):Int)).length=nq:=by rw [plM,List.length_map,kX]
    have hqs:=O9 (root:=root) (N:=(((plM (drL (tkM (rsM (vfO v o cl s).2.2.2 [toK o.Last]) (dS o.Nonce)) nq) ((2^q:Nat):Int)).length:Nat):Int)) (D:=(vfO v o cl s).2.1) (c:=(drS (tkM (rsM (vfO v o cl s).2.2.2 [toK o.Last]) (dS o.Nonce)) nq).Script) (c2:=(drS (tkM (rsM (vfO v o cl s).2.2.2 [toK o.Last]) (dS o.Nonce)) nq).At) (c3:=(drS (tkM (rsM (vfO v o cl s).2.2.2 [toK o.Last]) (dS o.Nonce)) nq).State) (c4:=(drS (tkM (rsM (vfO v o cl s).2.2.2 [toK o.Last]) (dS o.Nonce)) nq).Count) (c5:=cl.1.A) (c6:=cl.1.B) (c7:=(ρ:Int)) (c8:=(nq:Int)) (c9:=t.Grind) (c16:=(v:Int)) (c17:=(vfO v o cl s).2.2.1.1.A) (c18:=(vfO v o cl s).2.2.1.1.B) h e1 hDl (plM (drL (tkM (rsM (vfO v o cl s).2.2.2 [toK o.Last]) (dS o.Nonce)) nq) ((2^q:Nat):Int)) o.Queries [] [] rfl rfl (by rw [hpn];omega) (by rw [hpn,List.length_nil];omega) hpl rfl
    rw [List.nil_append,List.length_nil,hq,e3] at hqs
    by_cases h3:qsC (toK o.Last) (q+1) (root::o.Roots) (vfO v o cl s).2.1 (plM (drL (tkM (rsM (vfO v o cl s).2.2.2 [toK o.Last]) (dS o.Nonce)) nq) ((2^q:Nat):Int)) o.Queries=0
    ·have kk:=hqs.1 h3
     rw [show (((0:Nat):Int))=0 from rfl] at kk
     rw [kk,h3]
     exact ⟨_,rfl,fun _=>rfl⟩
    ·have kk:=hqs.2 h3
     rw [show (((0:Nat):Int))=0 from rfl] at kk
     rw [kk]
     exact ⟨_,rfl,fun h=>absurd h h3⟩
  ·rw [if_neg h1,if_neg h1]
   exact ⟨_,rfl,fun h=>absurd h (by decide)⟩
 ·obtain ⟨h10,e,h11,he⟩:=hl.2 h0
  have key:Loop (aA 1 o.Rounds (v:Int) 0 0) ([],0,s.Script,s.At,s.State,s.Count,(v:Int),o.Rounds,o.Roots,o.Last.A,o.Last.B,o.Nonce,o.Queries,cl.1.A,cl.1.B)=_:=he
  rw [key,Option.bind_some,ld,if_neg h0,h10,Option.bind_some]
  dsimp only
  rw [h11,brb (by decide)]
  exact ⟨_,rfl,fun h=>absurd h (by decide)⟩
end Go.AI.Fn
set_option linter.unusedVariables false
set_option linter.unusedSimpArgs false
namespace Go.AI.Fn
variable {o:aC} {v ρ nq bits:Nat} {t:Setting} {root:List UInt8} {P:List K} {cl:K} {s:Source} {k:Int}
def noS:Source:=⟨[],0,[],0⟩
noncomputable def chA (v ρ nq bits:Nat) (root:List UInt8) (P:List K) (cl:K) (o:aC) (s:Source):Source×Int:=
 if chO v ρ nq bits root P cl o s=0 then (chS nq (toK o.Last) o.Nonce (vfO v o cl s),0) else (noS,chO v ρ nq bits root P cl o s)
theorem a3P (h:OkO o v t) (hf:Few s k) (hk:k≤800):(chS nq (toK o.Last) o.Nonce (vfO v o cl s)).Script.length≤64:=by
 have hv:=h.v1
 have hrl:(ue o).length=v:=by rw [ue,List.length_map,h.rn]
 have hvf:=P9 (kind:=1) (K1 v o.Roots) (ue o) 0 cl s k hf (by omega)
 have:=((hvf.take ((kv [toK o.Last]).flatMap e8)).take (dS o.Nonce)).1.1
 rw [chS,AR];exact this
theorem El (S:SmO o) (hr:root.length≤65536) (hP:P.length=v) (hv:1≤v∧v≤6) (hst:setB t=true) (e1:t.Rate=(ρ:Int)) (e2:t.Queries=(nq:Int)) (e3:t.Grind=(bits:Int)) (hf:Few s k) (hk:k≤800):
 jm root (v:Int) (kv P) cl.1 t o s=some (if okO o (v:Int) t=true then chA v ρ nq bits root P cl o s else (noS,18)):=by
 have hsp:ji s 100=some false:=Tn hf (by omega) (n:=100) (by omega)
 unfold jm nk
 rw [al,brn (by omega),brn (by omega),brd (by omega),jv (by rw [al];omega),Option.bind_some,FL.2 (yz P),Option.bind_some,Bool.not_true,aj,D3,Option.bind_some,om.2 cl.2,Bool.not_true,aj,ry,Option.bind_some,hst,Bool.not_true,aj,Ff hf.1,Option.bind_some,Bool.not_true,aj,
  wS,Option.bind_some,decide_eq_true (by omega),decide_eq_true (by omega),Bool.and_self,Bool.not_true,aj,ff (by omega),Mn S,Option.bind_some]
 cases hok:okO o (v:Int) t with
 |false=>rfl
 |true=>
  have h:=FS hok
  obtain ⟨src,hc,hsrc⟩:=Ul (root:=root) (cl:=cl) h hP e1 e2 e3 hf (by omega)
  rw [Bool.not_true,aj,hsp,Option.bind_some,aj,hc,Option.bind_some,if_pos rfl,chA]
  dsimp only
  by_cases h0:chO v ρ nq bits root P cl o s=0
  ·have hl:=a3P (nq:=nq) (cl:=cl) h hf hk
   rw [ff h0,if_pos h0,hsrc h0,EB (by omega),Option.bind_some]
  ·rw [brb h0,if_neg h0];rfl
theorem DK (S:SmO o) (hr:root.length≤65536) (hP:P.length=v) (hv:1≤v∧v≤6) (hst:setB t=true) (e1:t.Rate=(ρ:Int)) (e2:t.Queries=(nq:Int)) (e3:t.Grind=(bits:Int)) (hf:Few s k) (hk:k≤800):
 ft root (v:Int) (kv P) cl.1 t o s=some (if okO o (v:Int) t=true then chA v ρ nq bits root P cl o s else (noS,18)):=by
 obtain ⟨z,hz,hz1,_⟩:=X5 hf (by omega)
 have hlen:=hf.1.1
 unfold ft E0
 rw [Option.bind_some,decide_eq_false (by omega),aj,al,brn (by omega),qW (by rw [al];omega),Option.bind_some,FL.2 (yz P),Bool.not_true,aj,rx,Option.bind_some,om.2 cl.2,Bool.not_true,aj,lY,Option.bind_some,hst,Bool.not_true,aj,EN hf.1,Option.bind_some,Bool.not_true,aj,
  o4,Option.bind_some,decide_eq_true (by omega),decide_eq_true (by omega),Bool.and_self,Bool.not_true,aj,ff (by omega),ze S,Option.bind_some]
 cases hok:okO o (v:Int) t with
 |false=>rfl
 |true=>
  have h:=FS hok
  obtain ⟨src,hc,hsrc⟩:=Ur (root:=root) (cl:=cl) h hP e1 e2 e3 hf (by omega)
  rw [Bool.not_true,aj,hz,Option.bind_some,brn (by omega),I2 (by omega),Option.bind_some,hc,Option.bind_some,if_pos rfl,chA]
  dsimp only
  by_cases h0:chO v ρ nq bits root P cl o s=0
  ·rw [ff h0,if_pos h0,hsrc h0]
  ·rw [brb h0,if_neg h0];rfl
end Go.AI.Fn
set_option linter.unusedVariables false
set_option linter.unusedSimpArgs false
namespace Go.AI.Fn
theorem Uk {l:List (List UInt8)} (hl:l.length≤1000):lM l l=some true:=by
 unfold lM
 have key:Loop (ej l l) 0=some (.inr ((l.length:Int),false)):=
  am (step:=ej l l) (fun j=>(j:Int)) l.length (fun j hj=>by
   simp only [ej]
   rw [brd (by omega),bQ hj,Option.bind_some,Option.bind_some,RL (by simp),aa _ (by omega) (by omega)];rfl) (by
   simp only [ej]
   rw [brn (by omega),decide_eq_false (by omega)])
 rw [ff rfl,key];rfl
theorem XD {R:List (List Ext)} (hl:R.length≤1000) (h: ∀g∈R,g.length≤1000):mo R R=some true:=by
 unfold mo
 have key:Loop (dI R R) 0=some (.inr ((R.length:Int),false)):=
  am (step:=dI R R) (fun j=>(j:Int)) R.length (fun j hj=>by
   have hg:=h _ (List.getElem_mem hj)
   simp only [dI]
   rw [brd (by omega),bQ hj,Option.bind_some,Option.bind_some,uk (by omega),Option.bind_some,Bool.not_true,aj,aa _ (by omega) (by omega)];rfl) (by
   simp only [dI]
   rw [brn (by omega),decide_eq_false (by omega)])
 rw [ff rfl,key];rfl
theorem WL {o:aC} (h:BoO o):iD o o=some true:=by
 have h1:=h.rn
 have h3:=h.ro
 have h5:=h.qn
 unfold iD
 rw [XD (by omega) (fun g hg=>by have:=h.rr g hg;omega),Option.bind_some,Bool.not_true,aj,Uk (by omega),Option.bind_some,Bool.not_true,aj,bre rfl,bre rfl,ff rfl,ff rfl]
 have key:Loop (dl o.Rounds o.Roots o.Last.A o.Last.B o.Nonce o.Queries o.Rounds o.Roots o.Last.A o.Last.B o.Nonce o.Queries) 0=some (.inr ((o.Queries.length:Int),false)):=
  am (step:=dl o.Rounds o.Roots o.Last.A o.Last.B o.Nonce o.Queries o.Rounds o.Roots o.Last.A o.Last.B o.Nonce o.Queries) (fun j=>(j:Int)) o.Queries.length (fun j hj=>by
   have hm:=gdm hj
   have hp:=h.qp _ hm
   have ht:=h.qt _ hm
   have k2:Loop (dj (j:Int) o.Rounds o.Roots o.Last.A o.Last.B o.Nonce o.Queries o.Rounds o.Roots o.Last.A o.Last.B o.Nonce o.Queries (o.Queries[j]).Pairs (o.Queries[j]).Paths (o.Queries[j]).Pairs (o.Queries[j]).Paths) 0=some (.inr ((((o.Queries[j]).Paths.length:Nat):Int),false)):=
    am (step:=dj (j:Int) o.Rounds o.Roots o.Last.A o.Last.B o.Nonce o.Queries o.Rounds o.Roots o.Last.A o.Last.B o.Nonce o.Queries (o.Queries[j]).Pairs (o.Queries[j]).Paths (o.Queries[j]).Pairs (o.Queries[j]).Paths) (fun i=>(i:Int)) (o.Queries[j]).Paths.length (fun i hi=>by
     have hq:=(h.qq _ hm _ (gdm hi)).1
     simp only [dj]
     rw [brd (by omega),bQ hi,Option.bind_some,Option.bind_some,Uk (by omega),Option.bind_some,Bool.not_true,aj,aa _ (by omega) (by omega)];rfl) (by
     simp only [dj]
     rw [brn (by omega),decide_eq_false (by omega)])
   simp only [dl]
   rw [brd (by omega),bQ hj,Option.bind_some,Option.bind_some,uk (by omega),Option.bind_some,Bool.not_true,aj,ff rfl,k2,Option.bind_some,mw,aa _ (by omega) (by omega)];rfl) (by
   simp only [dl]
   rw [brn (by omega),decide_eq_false (by omega)])
 rw [key];rfl
theorem a0b:iD ⟨[],[],⟨0,0⟩,0,[]⟩ ⟨[],[],⟨0,0⟩,0,[]⟩=some true:=WL ⟨by simp,by simp,by simp,by simp,by simp,by simp,by simp,by simp⟩
theorem Vt {s:Source} (h:s.Script.length≤1000):jJ s s=some true:=by
 unfold jJ
 rw [uk (by omega),Option.bind_some,aQ,bre rfl,y9 (by simp)];simp
theorem a5b (a b:K):Ag a.1 b.1=some ((a+b).1,0):=by
 unfold Ag nW
 rw [rx,Option.bind_some,om.2 a.2,Bool.not_true,aj,rx,Option.bind_some,om.2 b.2,Bool.not_true,aj,gL a.2 b.2];rfl
theorem a56 {r:List UInt8} (h:r.length≤1000):lQ r=some (H r):=by
 unfold lQ
 rw [brn (by omega),oA (by simp;omega) (by simp)];simp
theorem a70 (x:K):x≠x+1:=fun e=>by
 have:(1:K)=0:=by
  have h:x+1-x=x-x:=by rw [←e]
  have h1:x+1-x=1:=by clear e h;exact kg
  have h2:x-x=0:=by clear e h h1;exact kg
  rw [h1,h2] at h;exact h
 exact absurd (congrArg (fun y:K=>y.1.A) this) (by decide)
variable {v ρ:Nat} {t P:List K} {s:Source} {k:Int}
theorem a0E (v ρ nq n:Nat) (t P:List K) (s:Source):ue (opO v ρ nq n t P s)=(opQ v ρ t P s).1:=by
 show (kvv (opQ v ρ t P s).1).map (fun g=>g.map toK)=_
 rw [kvv,List.map_map]
 refine (List.map_congr_left fun g _=> ?_).trans (List.map_id _)
 show (kv g).map toK=g
 rw [kv,List.map_map]
 refine (List.map_congr_left fun x _=> ?_).trans (List.map_id _)
 exact K.ext (pR x.2)
theorem X1 (x:K):toK x.1=x:=K.ext (pR x.2)
theorem a1a {bv:Nat→Source→Source}: ∀{R:List (List K)} {c d:K} {s:Source},R≠[]→(vfM 1 bv R 0 c s).1=0→c≠d→(vfM 1 bv R 0 d s).1=10
 |[],c,d,s,h,_,_=>absurd rfl h
 |g::R,c,d,s,_,h,hne=>by
  rw [vfM] at h ⊢
  by_cases h1:g.length=1+2
  ·rw [if_pos h1] at h ⊢
   by_cases h2:g.getD 0 0+g.getD 1 0=c
   ·rw [if_neg (by rw [h2];exact hne)]
   ·rw [if_neg h2] at h;exact absurd (show (10:Int)=0 from h) (by decide)
  ·rw [if_neg h1] at h;exact absurd (show (18:Int)=0 from h) (by decide)
theorem law_FnOpens (a b:List UInt8) (ha:bdL bdT a) (hb:bdL bdT b):AE a b=some true:=by
 unfold AE
 by_cases c1:((a.length:Nat):Int)>1048576
 ·rw [brd c1]
 rw [brn c1]
 by_cases c2:((b.length:Nat):Int)>1048576
 ·rw [brd c2]
 rw [brn c2]
 obtain ⟨x,e1,x0,x1⟩:=a6Y (a:=b) (i:=0) (n:=3) (by omega) (by omega) (by omega) (by omega)
 obtain ⟨st,e2,t1,t2,t3⟩:=Qv (code:=b) (by omega)
 have hst:setB st=true:=by unfold setB;simp only [Bool.and_eq_true,decide_eq_true_eq];omega
 obtain ⟨v,hv⟩: ∃v:Nat,1+x=(v:Int):=⟨(1+x).toNat,by omega⟩
 have hp:=Gz v (by omega)
 obtain ⟨ρ,hρ⟩: ∃n:Nat,st.Rate=(n:Int):=⟨st.Rate.toNat,by omega⟩
 obtain ⟨nq,hq⟩: ∃n:Nat,st.Queries=(n:Int):=⟨st.Queries.toNat,by omega⟩
 obtain ⟨bits,hbt⟩: ∃n:Nat,st.Grind=(n:Int):=⟨st.Grind.toNat,by omega⟩
 obtain ⟨T,e3,tl,tok⟩:=OX (code:=a) (n:=((2^v:Nat):Int)) (by omega) (by omega) (by omega)
 obtain ⟨Q,e4,ql,qok⟩:=OX (code:=b) (n:=(v:Int)) (by omega) (by omega) (by omega)
 obtain ⟨s,e5,hf⟩:=SZ (code:=a) (by omega)
 obtain ⟨t,rfl⟩:=Xf (L:=T) tok
 obtain ⟨P,rfl⟩:=Xf (L:=Q) qok
 rw [al] at tl ql
 have ht:t.length=2^v:=by omega
 have hP:P.length=v:=by omega
 have hop:=JX (ρ:=ρ) (nq:=nq) (bits:=bits) ht hP (by omega) (by omega) hst hρ hq hbt hf (by omega)
 have hoi:=KI (ρ:=ρ) (nq:=nq) (bits:=bits) ht hP (by omega) (by omega) hst hρ hq hbt hf (by omega)
 rw [e1,Option.bind_some,hv,aa (v:Int) (by omega) (by omega),cT _ (by omega) (by omega),brd (by omega),XT (by omega),e3,Option.bind_some,e4,Option.bind_some,e2,Option.bind_some,e5,Option.bind_some,hoi,hop]
 rw [hρ,FV ht (by omega) (by omega) (by omega) (by omega),Option.bind_some,Gb ht (by omega) (by omega) (by omega) (by omega),Option.bind_some,Option.bind_some,Option.bind_some]
 dsimp only
 rw [ff rfl,RL (by simp)]
 cases hg:ij (opS v ρ t P s).State bits with
 |none=>
  dsimp only
  rw [ff rfl,a0b,Option.bind_some,Bool.not_true,aj,Vt (by simp),Option.bind_some,Bool.not_true,aj,brb (by decide)]
  rfl
 |some n=>
  have hn:=(KH hg).1
  have hok:=a62 (s:=s) (P:=P) ht (by omega) (by omega) (by omega) hst hρ hq hn
  have hpt:=FS hok
  have hl:=F5 v ρ t P s
  have hwl:=Dv (v+ρ-1) (opW v ρ t)
  have hfT:=(DD (v:=v) (ρ:=ρ) (t:=t) (P:=P) hf (by omega) n).1.1
  have hval:=Pa P t (by rw [hP];exact ht)
  have hch:=a30 (nq:=nq) (n:=n) ht hP (by omega) (by omega) (by omega) hg hf (by omega) (by omega)
  have hcz:=a2I (nq:=nq) ht hP (by omega) (by omega) (by omega) hg hf (by omega) (by omega)
  have hvf:vfO v (opO v ρ nq n t P s) (xn t (eqK P)) s=(0,(opQ v ρ t P s).2.1,opL v ρ t P s*eaK (opQ v ρ t P s).2.1 P 1,(opQ v ρ t P s).2.2.2):=by
   rw [vfO,a0E];exact hch
  have hc0:chO v ρ nq bits (wrK (v+ρ-1) (opW v ρ t)) P (xn t (eqK P)) (opO v ρ nq n t P s) s=0:=by
   rw [chO,hvf,show toK (opO v ρ nq n t P s).Last=opL v ρ t P s from X1 _];exact hcz
  have hA:=fun (root:List UInt8) (hr:root.length≤65536) (cl:K)=>DK (ρ:=ρ) (nq:=nq) (bits:=bits) (root:=root) (P:=P) (cl:=cl) hpt.bo.sm hr hP hpt.v1 hst hρ hq hbt hf (by omega)
  have hS:=fun (root:List UInt8) (hr:root.length≤65536) (cl:K)=>El (ρ:=ρ) (nq:=nq) (bits:=bits) (root:=root) (P:=P) (cl:=cl) hpt.bo.sm hr hP hpt.v1 hst hρ hq hbt hf (by omega)
  have hw10:chO v ρ nq bits (wrK (v+ρ-1) (opW v ρ t)) P (xn t (eqK P)+1) (opO v ρ nq n t P s) s=10:=by
   have h10:(vfO v (opO v ρ nq n t P s) (xn t (eqK P)+1) s).1=10:=a1a (c:=xn t (eqK P)) (by rw [a0E];intro h;rw [h,List.length_nil] at hl;omega) (by have:=congrArg (·.1) hvf;exact this) (a70 _)
   rw [chO,chC,if_neg (by rw [h10];decide),h10]
  have hsc:chS nq (toK (opO v ρ nq n t P s).Last) (opO v ρ nq n t P s).Nonce (vfO v (opO v ρ nq n t P s) (xn t (eqK P)) s)=drS (opT v ρ n t P s) nq:=by
   rw [hvf,show toK (opO v ρ nq n t P s).Last=opL v ρ t P s from X1 _];rfl
  dsimp only
  rw [ff rfl,WL hpt.bo,Option.bind_some,Bool.not_true,aj,Vt (by rw [AR];omega),Option.bind_some,Bool.not_true,aj,ff rfl,S8 (by omega) (by rw [hP];exact ht),Option.bind_some, ←hval]
  dsimp only
  rw [hA _ (by omega),Option.bind_some,show WN=some (1:K).1 from rfl,Option.bind_some,a5b,Option.bind_some]
  dsimp only
  rw [hA _ (by omega),Option.bind_some,ak (by omega),a56 (by omega),Option.bind_some,hA _ (by rw [uc];omega),Option.bind_some,ak (by omega),Option.bind_some,hS _ (by rw [uc];omega),Option.bind_some,if_pos hok,if_pos hok,if_pos hok]
  rw [chA,if_pos hc0,hsc]
  dsimp only
  rw [bre rfl,bre rfl,Vt (by rw [AR];omega),Option.bind_some,aQ,bre rfl,chA,if_neg (by rw [hw10];decide),hw10]
  dsimp only
  rw [bre rfl,bre rfl,ze hpt.bo.sm,Option.bind_some,hok,aQ,lY,Option.bind_some,hst]
end Go.AI.Fn
