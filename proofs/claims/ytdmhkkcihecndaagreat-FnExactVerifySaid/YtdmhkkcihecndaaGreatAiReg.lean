/- Regions whose order stands: step by step. -/
import Derived.Test.YtdmhkkcihecndaaGreatAiCall4
set_option linter.unusedVariables false
set_option linter.unusedSimpArgs false
namespace Go.AI
theorem rS {α:Type} (b:Nat) (k:α): ∀(m:List (Nat×α)) (b':Nat),dv (eU b k m) b'=if b'=b then some k else dv m b'
 |[],b'=>by
  simp only [eU,dv]
  by_cases e:b=b'
  ·simp [e]
  ·rw [if_neg e,if_neg (Ne.symm e)]
 | (j,u)::r,b'=>by
   simp only [eU]
   by_cases e:j=b
   ·rw [if_pos e]
    simp only [dv]
    by_cases e2:j=b'
    ·rw [if_pos e2,if_pos (by omega)]
    ·rw [if_neg e2,if_neg e2,if_neg (by omega)]
   ·rw [if_neg e]
    simp only [dv]
    by_cases e2:j=b'
    ·rw [if_pos e2,if_pos e2,if_neg (by omega)]
    ·rw [if_neg e2,if_neg e2,rS b k r b']
theorem QC: ∀(u:Upd) (m:List (Nat×Blk)),dv (Vv m u)=dU (dv m) u
 |[],m=>rfl
 | (b,k)::r,m=>by
   show dv (Vv (eU b k m) r)=dU (bj (dv m) b k) r
   rw [QC r (eU b k m)]
   congr 1
   funext b'
   rw [rS]
   rfl
theorem St.upd_heap (s:St) (u:Upd):(s.upd u).heap=dU s.heap u:=QC u s.m
theorem St.upd_get (s:St) (u:Upd):(s.upd u).get=s.get:=rfl
theorem St.put_heap (s:St) (d:Option Nat) (v:V):(s.put d v).heap=s.heap:=by cases d<;>rfl
theorem St.put_get (s:St) (d:Option Nat) (v:V) (t:Nat):(s.put d v).get t=if d=some t then v else s.get t:=by
 cases d with
 |none=>rfl
 |some d=>
  show (dv ((d,v)::s.e) t).getD .undef=_
  simp only [dv]
  by_cases e:d=t
  ·simp [e]
  ·rw [if_neg e,if_neg (by simpa using e)];rfl
theorem a3Y (live:List Nat) (s:St) (t:Nat):(trim live s).get t=if t∈live then s.get t else .undef:=by
 show (dv (live.map fun t=>(t,s.get t)) t).getD .undef=_
 have: ∀l:List Nat,dv (l.map fun t=>(t,s.get t)) t=if t∈l then some (s.get t) else none:=by
  intro l
  induction l with
  |nil=>rfl
  |cons x r ih=>
   simp only [List.map_cons,dv]
   by_cases e:x=t
   ·rw [if_pos e,if_pos (by simp [e]),e]
   ·rw [if_neg e,ih]
    by_cases h2:t∈r
    ·rw [if_pos h2,if_pos (by simp [h2])]
    ·rw [if_neg h2,if_neg (by simp [h2];exact fun h=>e h.symm)]
 rw [this live]
 split<;>rfl
section
structure Inv [Frame] (n:Nat) (f:Nat→V) (h:ak) (μ:Mu) (a:Act) (w:World):Prop where
 H:aE μ h w
 E:dN μ h w f a
 sz:n≤a.tmps.size
 df:a.defers=[]
structure jB [Frame] (μ0:Mu) (h0:ak) (w0:World) (μ:Mu) (h:ak) (w:World):Prop where
 C:Chg μ0 h0 w0 μ h w
 lo: ∀b k,h0 b=some k→b<1000
theorem a6J {a:Act} {d:Option Nat} {x:Value} {t:Nat} (h: ∀e,d=some e→e<a.tmps.size):(a.put d x).tmps.getD t undef=if d=some t then x else a.tmps.getD t undef:=by
 cases d with
 |none=>rfl
 |some e=>
  have:=h e rfl
  show (a.tmps.setIfInBounds e x).getD t undef=_
  rw [Array.getD_eq_getD_getElem?,Array.getElem?_setIfInBounds]
  by_cases he:e=t
  ·subst he;simp [this]
  ·rw [if_neg he,if_neg (by simpa using he),Array.getD_eq_getD_getElem?]
variable {P:Program} {μ:Mu} {w:World} {a:Act}
theorem dN.put [Frame] {h:ak} {f:Nat→V} (E:dN μ h w f a) {d:Option Nat} {v:V} {x:Value} (hd: ∀e,d=some e→e<a.tmps.size) (hv:aj μ h w v x):dN μ h w (fun t=>if d=some t then v else f t) (a.put d x):=by
 intro t
 rw [a6J hd]
 show aj μ h w (if d=some t then v else f t) _
 split
 ·exact hv
 ·exact E t
theorem Act.put_size (a:Act) (d:Option Nat) (x:Value):(a.put d x).tmps.size=a.tmps.size:=by
 cases d with
 |none=>rfl
 |some d=>show (a.tmps.setIfInBounds d x).size=_;simp
theorem Act.put_def (a:Act) (d:Option Nat) (x:Value):(a.put d x).defers=a.defers:=by cases d<;>rfl
structure b2I (P:Program) (n:Nat) (ops:Array Oper) (o:Oper) (s:aY):Prop where
 op:cN P o.op=some s.op
 dst:s.dst=o.dst
 lt: ∀d,o.dst=some d→d<n
 gd:match o.guard with
  |none=>s.guard=none
  |some (j,b)=> ∃t,(ops[j]?).bind (·.dst)=some t∧s.guard=some (t,b)
theorem Cp {n:Nat} {ops:Array Oper} {o:Oper} {s:aY} (h:Ff P n ops o=some s):b2I P n ops o s:=by
 unfold Ff at h
 split at h
 ·cases h
 ·rename_i op hop
  by_cases hd:a44 n o.dst=true
  ·rw [if_pos hd] at h
   have hlt: ∀d,o.dst=some d→d<n:=fun d hd'=>by rw [hd'] at hd;simpa [a44] using hd
   cases hg:o.guard with
   |none=>
    rw [hg] at h
    simp only [Option.some.injEq] at h
    subst h
    exact ⟨hop,rfl,hlt,by rw [hg]⟩
   |some p=>
    obtain ⟨j,b⟩:=p
    rw [hg] at h
    dsimp only at h
    cases ht:(ops[j]?).bind (·.dst) with
    |none=>rw [ht] at h;cases h
    |some t=>
     rw [ht] at h
     simp only [Option.some.injEq] at h
     subst h
     exact ⟨hop,rfl,hlt,by rw [hg];exact ⟨t,ht,rfl⟩⟩
  ·rw [if_neg hd] at h;cases h
theorem Gn [Frame] {n:Nat} {ops:Array Oper} {o:Oper} {s:aY} (C:b2I P n ops o s) {st:St} {h:ak} (E:dN μ h w st.get a) {b:Bool} (hw:st.want s.guard=some b):
 Region.wanted o (yielded ops a.tmps)=b:=by
 have hg:=C.gd
 unfold Region.wanted
 cases hog:o.guard with
 |none=>
  rw [hog] at hg
  simp only at hg
  rw [hg] at hw
  simp [St.want] at hw
  simp [hw]
 |some p=>
  obtain ⟨j,bb⟩:=p
  rw [hog] at hg
  obtain ⟨t,ht,hsg⟩:=hg
  rw [hsg] at hw
  have hE:=E t
  simp only [St.want] at hw
  simp only [yielded,ht,Option.bind_some]
  split at hw
  ·rename_i c hc
   cases hw
   rw [hc] at hE
   generalize hX:a.tmps.getD t undef=X at hE
   cases hE
   rw [Array.getD_eq_getD_getElem?] at hX
   cases hT:a.tmps[t]? with
   |none=>rw [hT] at hX;cases hX
   |some y=>
    rw [hT] at hX;cases hX
    rfl
  ·rename_i c hc
   cases hw
   rw [hc] at hE
   generalize hX:a.tmps.getD t undef=X at hE
   cases hE
   rw [Array.getD_eq_getD_getElem?] at hX
   cases hT:a.tmps[t]? with
   |none=>rfl
   |some y=>
    rw [hT] at hX;cases hX
    rfl
  ·cases hw
theorem Inv.put_skip [Frame] {n:Nat} {f:Nat→V} {h:ak} (I:Inv n f h μ a w) {d:Option Nat} (hd: ∀e,d=some e→e<n) {x:Value} {v:V} (hv:aj μ h w v x):Inv n (fun t=>if d=some t then v else f t) h μ (a.put d x) w:=
 ⟨I.H,I.E.put (fun e he=>Nat.lt_of_lt_of_le (hd e he) I.sz) hv,by rw [Act.put_size];exact I.sz,by rw [Act.put_def];exact I.df⟩
theorem Hw [Frame] {C:aU} (hC:gA P C) {ow:dl} {n:Nat} {ops:Array Oper} {Q:Exit→Act→World→Prop} {μ0:Mu} {h0:ak} {w0:World}: ∀(l:List Oper) (steps:List aY) (i k:Nat) (st st':St) (μ:Mu) (a:Act) (w:World),
 (∀j,j<l.length→ops[i+j]? =l[j]?)→gJ P n ops l=some steps→hG C ow steps k st=some st'→Inv n st.get st.heap μ a w→jB μ0 h0 w0 μ st.heap w→
 (∀μ' a' w',Inv n st'.get st'.heap μ' a' w'→jB μ0 h0 w0 μ' st'.heap w'→Q .normal a' w')→wpOps P ops Q (List.range' i l.length) a w
 |[],steps,i,k,st,st',μ,a,w,hl,hc,hs,I,S,K=>by
  simp [gJ] at hc;subst hc
  simp [hG] at hs;subst hs
  exact K μ a w I S
 |o::l,steps,i,k,st,st',μ,a,w,hl,hc,hs,I,S,K=>by
  simp only [gJ] at hc
  split at hc
  ·rename_i s r h1 h2
   cases hc
   simp only [hG] at hs
   split at hs
   ·rename_i st1 hst1
    have CS:=Cp h1
    have hoi:ops[i]? =some o:=by have:=hl 0 (by simp);simpa using this
    have hl': ∀j,j<l.length→ops[i+1+j]? =l[j]? :=fun j hj=>by
     have:=hl (j+1) (by simpa using hj)
     rw [show i+1+j=i+(j+1) by omega,this];simp
    simp only [List.length_cons,List.range'_succ,wpOps,hoi]
    have next: ∀μ' a' w',Inv n st1.get st1.heap μ' a' w'→jB μ0 h0 w0 μ' st1.heap w'→wpOps P ops Q (List.range' (i+1) l.length) a' w':=
     fun μ' a' w' I' S'=>Hw hC l r (i+1) (k+1) st1 st' μ' a' w' hl' h2 hs I' S' K
    unfold wL at hst1
    cases hwant:st.want s.guard with
    |none=>rw [hwant] at hst1;cases hst1
    |some b=>
     rw [hwant] at hst1
     rw [Gn CS I.E hwant]
     cases b with
     |false=>
      simp only [Option.some.injEq] at hst1
      subst hst1
      simp only [Bool.false_eq_true,if_false]
      refine next μ _ w ?_ (by rw [St.put_heap];exact S)
      rw [St.put_heap]
      have:=I.put_skip (d:=o.dst) (x:=undef) (v:= .lit (.tuple #[])) CS.lt (.lit _)
      have e:(st.put s.dst (.lit (.tuple #[]))).get=fun t=>if o.dst=some t then .lit (.tuple #[]) else st.get t:=by
       funext t;rw [St.put_get,CS.dst]
      rw [e];exact this
     |true=>
      simp only at hst1
      split at hst1
      ·rename_i v u hop
       cases hst1
       simp only [if_true]
       refine .inl (Li hC I.H I.E CS.op hop (fun x w' μ' H' C' V'=> ?_))
       have hh:((st.upd u).put s.dst v).heap=dU st.heap u:=by rw [St.put_heap,St.upd_heap]
       refine next μ' _ w' ?_ (by rw [hh];exact ⟨S.C.trans C',S.lo⟩)
       rw [hh]
       have E':dN μ' (dU st.heap u) w' st.get a:=fun t=>(I.E t).chg C'
       have:=(Inv.mk H' E' I.sz I.df).put_skip (d:=o.dst) CS.lt V'
       have e:((st.upd u).put s.dst v).get=fun t=>if o.dst=some t then v else st.get t:=by
        funext t;rw [St.put_get,CS.dst,St.upd_get]
       rw [e];exact this
      ·cases hst1
   ·cases hs
  ·cases hc
theorem Inv.trim [Frame] {n:Nat} {st:St} (I:Inv n st.get st.heap μ a w) (live:List Nat):Inv n (trim live st).get (AI.trim live st).heap μ a w:=by
 refine ⟨I.H,fun t=> ?_,I.sz,I.df⟩
 rw [a3Y]
 split
 ·exact I.E t
 ·exact .unk _
theorem RZ [Frame] {C:aU} (hC:gA P C) {ow:dl} {n id base:Nat} {ops:Array Oper} {steps:List aY} {live:List Nat} {Q:Exit→Act→World→Prop} {μ0:Mu} {h0:ak} {w0:World} {st st':St} {e:ah}
 (hc:gJ P n ops ops.toList=some steps) (hs:nO C ow base steps live st=some (e,st')) (I:Inv n st.get st.heap μ a w) (S:jB μ0 h0 w0 μ st.heap w)
 (K: ∀μ' a' w',Inv n st'.get st'.heap μ' a' w'→jB μ0 h0 w0 μ' st'.heap w'→Q .normal a' w'):e= .normal∧(Code.region id ops false).wp P Q a w:=by
 unfold nO at hs
 split at hs
 ·rename_i st1 h1
  cases hs
  refine ⟨rfl,wp_region ?_⟩
  have:=Hw (Q:=Q) hC ops.toList steps 0 base st st1 μ a w (fun j hj=>by simp) hc h1 I S (fun μ' a' w' I' S'=>K μ' a' w' (I'.trim live) S')
  rwa [Array.length_toList, ←List.range_eq_range'] at this
 ·cases hs
end
end Go.AI
