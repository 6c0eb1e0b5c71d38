/- The operations of the abstract machine and the model's. Fourth part: numbers, texts, addresses. -/
import Derived.Test.YtdnkignjanfikaaGreatAiRun
set_option linter.unusedVariables false
set_option linter.unusedSimpArgs false
namespace Go.AI
section
variable {P:Program} {μ:Mu} {h:aZ} {w:World} {f:Nat->V} {a:Act}
theorem de [Frame] {v x:Value} (hv:aX μ h w (.lit v) x):x=v:=by cases hv;rfl
theorem a2F (op:BinOp) (t:TypeId) (X Y:Operand) (k k':IntKind) (m n:Int):(eqGuard op t X Y (.int k m) (.int k' n)).run P w= .ok () w:=by
 cases op<;>simp [eqGuard]
theorem a1M (op:BinOp) (t:TypeId) (X Y:Operand) (m n:ByteArray):(eqGuard op t X Y (.string m) (.string n)).run P w= .ok () w:=by
 cases op<;>simp [eqGuard]
theorem a7L [Frame] {op:BinOp} {x y v:Value} (hb:gZ op x y=some v) (t:TypeId) (X Y:Operand):(do eqGuard op t X Y x y;binOp op t x y:Sem Value).run P w= .ok v w:=by
 cases x with
 |int k m=>
  cases y with
  |int k' n=>
   simp only [Sem.run_bind,a2F,Result.andThen_ok]
   cases op<;>simp only [gZ] at hb<;>(split at hb<;>first| (cases hb;done)|skip)<;>cases hb<;>rename_i hc<;>
    first
     | (obtain ⟨rfl,h0⟩:=hc;simp [binOp,Op.intDiv,h0];done)
     | (subst hc;simp [binOp,Op.intArith,Op.intBits,Op.intCmp];done)
     | (subst hc;simp [binOp,Op.intArith,Op.intBits,Op.intCmp];rfl)
     | (simp [binOp,Op.shift,Int.not_lt.2 hc];done)
  |_=>cases op<;>simp [gZ] at hb
 |string m=>
  cases y with
  |string n=>
   simp only [Sem.run_bind,a1M,Result.andThen_ok]
   cases op<;>simp only [gZ] at hb<;>first| (cases hb;done)|skip
   case add=>
    split at hb
    ·rename_i hc
     cases hb
     have h2: ¬(((m.size+n.size:Nat):Int)>IntKind.i64.max):=by
      have:IntKind.i64.max=9223372036854775807:=rfl
      rw [this]
      unfold cU at hc
      omega
     simp only [binOp,Op.stringOp]
     rw [aa h2]
     rfl
    ·cases hb
   case eql=>cases hb;simp [binOp,Op.stringOp]
   case neq=>cases hb;simp [binOp,Op.stringOp]
  |_=>cases op<;>simp [gZ] at hb
 |_=>cases op<;>simp [gZ] at hb
theorem a8o [Frame] (H:bD μ h w) (E:gj μ h w f a) {o:Oper} {op:BinOp} {t ty:TypeId} {x y:Operand} {x' y':Opd} (hop:o.op= .binOp op t x y ty) (hx:bC x=some x') (hy:bC y=some y')
 {C:cg} {ow:FuncId->List Nat} {new:Nat} {v:V} {u:Upd} (hs:aN C ow (.bin op x' y') (Opd.ev f) h new=some (v,u)):iC P o a μ h w v u:=by
 have hvx:=bP E hx
 have hvy:=bP E hy
 simp only [aN] at hs
 split at hs
 ·rename_i p q hp hq
  rw [hp] at hvx
  rw [hq] at hvy
  split at hs
  ·rename_i r hb
   cases hs
   refine .quiet H (x:=r) ?_ (.lit r)
   have:=a7L (P:=P) (w:=w) hb t x y
   rw [<-de hvx, <-de hvy] at this
   simp only [execOp,hop,Sem.run_bind] at this ⊢
   rw [this]
   rfl
  ·cases hs
 ·cases hs
theorem b1V {op:UnOp} {x v:Value} (hb:WJ op x=some v):(Op.unary op x).run P w= .ok v w:=by
 cases x with
 |int k m=>cases op<;>simp [WJ] at hb<;>subst hb<;>simp [Op.unary,Op.intArith,Op.intBits]
 |bool b=>cases op<;>simp [WJ] at hb<;>subst hb<;>simp [Op.unary]
 |_=>simp [WJ] at hb
theorem c2G [Frame] (H:bD μ h w) (E:gj μ h w f a) {o:Oper} {op:UnOp} {t:TypeId} {x:Operand} {x':Opd} (hop:o.op= .unOp op t x) (hx:bC x=some x')
 {C:cg} {ow:FuncId->List Nat} {new:Nat} {v:V} {u:Upd} (hs:aN C ow (.un op x') (Opd.ev f) h new=some (v,u)):iC P o a μ h w v u:=by
 have hvx:=bP E hx
 simp only [aN] at hs
 split at hs
 ·rename_i p hp
  rw [hp] at hvx
  split at hs
  ·rename_i r hb
   cases hs
   refine .quiet H (x:=r) ?_ (.lit r)
   simp [execOp,hop,de hvx,b1V hb]
  ·cases hs
 ·cases hs
theorem xO [Frame] {v:V} {n:Int} {x:Value} (hv:asI v=some n) (hr:aX μ h w v x): ∃k,x= .int k n:=by
 cases v with
 |lit y=>
  cases y<;>simp [asI] at hv
  subst hv
  exact ⟨_,de hr⟩
 |_=>simp [asI] at hv
theorem b2b [Frame] (H:bD μ h w) (E:gj μ h w f a) {o:Oper} {s d:TypeId} {x:Operand} {x':Opd} {k' k:IntKind} (hop:o.op= .convert s d x) (hx:bC x=some x') (h1:P.underlying s=some (.int k')) (h2:P.underlying d=some (.int k))
 {C:cg} {ow:FuncId->List Nat} {new:Nat} {v:V} {u:Upd} (hs:aN C ow (.toInt k x') (Opd.ev f) h new=some (v,u)):iC P o a μ h w v u:=by
 have hvx:=bP E hx
 simp only [aN] at hs
 split at hs
 ·rename_i n hn
  cases hs
  obtain ⟨k0,hk0⟩:=xO hn hvx
  refine .quiet H (x:= .int k (k.wrap n)) ?_ (.lit _)
  simp [execOp,hop,hk0,convert,run_underlying h1,run_underlying h2,Conv.intToInt]
 ·cases hs
theorem b42 [Frame] (H:bD μ h w) (E:gj μ h w f a) {o:Oper} {s d:TypeId} {x:Operand} {x':Opd} (hop:o.op= .convert s d x) (hx:bC x=some x') (h1:P.underlying s=some .string) (h2:P.underlying d=some .string)
 {C:cg} {ow:FuncId->List Nat} {new:Nat} {v:V} {u:Upd} (hs:aN C ow (.same x') (Opd.ev f) h new=some (v,u)):iC P o a μ h w v u:=by
 have hvx:=bP E hx
 simp only [aN] at hs
 split at hs
 ·rename_i n hn
  cases hs
  rw [hn] at hvx
  refine .quiet H (x:= .string n) ?_ (.lit _)
  simp [execOp,hop,de hvx,convert,run_underlying h1,run_underlying h2]
 ·cases hs
theorem b57 [Frame] (H:bD μ h w) (E:gj μ h w f a) {o:Oper} {x:Operand} {x':Opd} (hop:o.op= .move x\/o.op= .assign x) (hx:bC x=some x'):iC P o a μ h w (x'.ev f) []:=by
 refine .quiet H (x:=a.eval x) ?_ (bP E hx)
 rcases hop with hop|hop<;>simp [execOp,hop]
theorem b2u [Frame] (H:bD μ h w) (E:gj μ h w f a) {o:Oper} {c x y:Operand} {c' x' y':Opd} (hop:o.op= .pick c x y) (hc:bC c=some c') (hx:bC x=some x') (hy:bC y=some y')
 {C:cg} {ow:FuncId->List Nat} {new:Nat} {v:V} {u:Upd} (hs:aN C ow (.pick c' x' y') (Opd.ev f) h new=some (v,u)):iC P o a μ h w v u:=by
 have hvc:=bP E hc
 simp only [aN] at hs
 split at hs
 ·rename_i hb
  cases hs
  rw [hb] at hvc
  exact .quiet H (x:=a.eval x) (by simp [execOp,hop,de hvc,asBool]) (bP E hx)
 ·rename_i hb
  cases hs
  rw [hb] at hvc
  exact .quiet H (x:=a.eval y) (by simp [execOp,hop,de hvc,asBool]) (bP E hy)
 ·cases hs
theorem b4A [Frame] {g:FuncId} {cs:List V} {x:Value} (hv:aX μ h w (.fn g cs) x): ∃xs:Array Value,x= .func (.func g) #[] xs/\xs.size=cs.length/\ ∀(i:Nat) (v:V),cs[i]? =some v->aX μ h w v (xs.getD i undef):=by
 cases hv with
 |fn _ _ xs hl hc=>exact ⟨xs,rfl,hl,hc⟩
theorem Yr [Frame] (H:bD μ h w) (E:gj μ h w f a) {o:Oper} {x:Operand} {x':Opd} (hop:o.op= .nilCheck x) (hx:bC x=some x')
 {C:cg} {ow:FuncId->List Nat} {new:Nat} {v:V} {u:Upd} (hs:aN C ow (.nilCheck x') (Opd.ev f) h new=some (v,u)):iC P o a μ h w v u:=by
 have hvx:=bP E hx
 simp only [aN] at hs
 split at hs
 ·rename_i b i o' n hb
  split at hs
  ·rename_i k hk
   split at hs
   ·rename_i hc
    cases hs
    rw [hb] at hvx
    refine .quiet H (x:=a.eval x) ?_ hvx
    have hi:=aq (l:=k.rows) (i:=i) (by omega)
    have h0:=TU H hvx hk hi
    obtain ⟨c',_,he⟩:=a5Q hvx hk hc.1 hc.2 h0
    simp [execOp,hop,he]
   ·cases hs
  ·cases hs
 ·rename_i r o' hb
  cases hs
  rw [hb] at hvx
  obtain ⟨c,off,he,_⟩:=a3D hvx
  exact .quiet H (x:=a.eval x) (by simp [execOp,hop,he]) hvx
 ·rename_i g cs hb
  cases hs
  rw [hb] at hvx
  refine .quiet H (x:=a.eval x) ?_ hvx
  obtain ⟨xs,he,_⟩:=b4A hvx
  simp [execOp,hop,he]
 ·cases hs
theorem FO {fd:Field} {s:Nat} (hs:jI P fd.type=some (s+1)) (c off:Nat):(fieldPlace ⟨c,off,none⟩ fd).run P w= .ok ⟨c,off+fd.offset,none⟩ w:=by
 unfold fieldPlace
 simp [fD hs]
 unfold Addr.add
 by_cases h0:fd.offset=0
 ·simp [h0]
 ·simp [h0]
theorem a8j [Frame] {b i o n d:Nat} {x:Value} (hv:aX μ h w (.ptr b i o n) x): ∃c off,x= .pointer (some ⟨c,off,none⟩)/\aX μ h w (.ptr b i (o+d) n) (.pointer (some ⟨c,off+d,none⟩)):=by
 cases hv with
 |ptr _ _ _ _ _ k hk hn hx hp hd=>
  obtain ⟨c,off,rfl⟩:=hx
  refine ⟨c,off,rfl,.ptr b i (o+d) n _ k hk hn ⟨_,_,rfl⟩ (fun h1 h2 h3=> ?_) hd⟩
  obtain ⟨c',hc',he⟩:=hp h1 h2 h3
  injection he with he
  injection he with he
  injection he with h4 h5
  subst h4
  exact ⟨c,hc',by rw [h5,fA]⟩
theorem a4Y [Frame] {row:List V} {o d:Nat} {x:Value} (hv:aX μ h w (.iptr row o) x): ∃c off,x= .pointer (some ⟨c,off,none⟩)/\aX μ h w (.iptr row (o+d)) (.pointer (some ⟨c,off+d,none⟩)):=by
 cases hv with
 |iptr _ _ c off ys hc hs hrow hcell hv=>
  refine ⟨c,off+o,rfl, ?_⟩
  rw [fA]
  exact .iptr row (o+d) c off ys hc hs hrow hcell hv
theorem b8N [Frame] (H:bD μ h w) (E:gj μ h w f a) {o:Oper} {t:TypeId} {x:Operand} {x':Opd} {n:Nat} {fs:Array Field} {fd:Field} {s:Nat} (hop:o.op= .fieldAddr t x n) (hx:bC x=some x')
 (hu:P.underlying t=some (.struct fs)) (hf:fs[n]? =some fd) (hsz:jI P fd.type=some (s+1))
 {C:cg} {ow:FuncId->List Nat} {new:Nat} {v:V} {u:Upd} (hs:aN C ow (.off fd.offset x') (Opd.ev f) h new=some (v,u)):iC P o a μ h w v u:=by
 have hvx:=bP E hx
 simp only [aN] at hs
 split at hs
 ·rename_i b i o' n' hb
  cases hs
  rw [hb] at hvx
  obtain ⟨c,off,he,hv⟩:=a8j (d:=fd.offset) hvx
  refine .quiet H ?_ hv
  simp [execOp,hop,Instr.fieldAt,run_underlying hu,hf,he,Instr.sureAddr,FO hsz]
 ·rename_i r o' hb
  cases hs
  rw [hb] at hvx
  obtain ⟨c,off,he,hv⟩:=a4Y (d:=fd.offset) hvx
  refine .quiet H ?_ hv
  simp [execOp,hop,Instr.fieldAt,run_underlying hu,hf,he,Instr.sureAddr,FO hsz]
 ·cases hs
theorem w5 (c off n:Nat):(⟨c,off,none⟩:Addr).add n=⟨c,off+n,none⟩:=by
 unfold Addr.add
 by_cases h0:n=0
 ·simp [h0]
 ·simp [h0]
theorem a5X [Frame] (H:bD μ h w) (E:gj μ h w f a) {o:Oper} {t e:TypeId} {len:Nat} {x i:Operand} {x' i':Opd} {s:Nat} (hop:o.op= .indexAddr t x i) (hx:bC x=some x') (hi:bC i=some i')
 (hu:P.underlying t=some (.array len e)) (hsz:jI P e=some s)
 {C:cg} {ow:FuncId->List Nat} {new:Nat} {v:V} {u:Upd} (hs:aN C ow (.idxArr len s x' i') (Opd.ev f) h new=some (v,u)):iC P o a μ h w v u:=by
 have hvx:=bP E hx
 have hvi:=bP E hi
 simp only [aN] at hs
 split at hs
 ·rename_i n hn
  obtain ⟨k0,hk0⟩:=xO hn hvi
  split at hs
  ·rename_i hc
   have hc':0<=n/\n<(len:Int):=⟨hc.1,by omega⟩
   split at hs
   ·rename_i b j o' m hb
    cases hs
    rw [hb] at hvx
    obtain ⟨c,off,he,hv⟩:=a8j (d:=n.toNat*s) hvx
    refine .quiet H ?_ hv
    simp [execOp,hop,Instr.indexAt,run_underlying hu,he,hk0,Instr.sureAddr,asIntOf,hc',fD hsz,w5]
   ·rename_i r o' hb
    cases hs
    rw [hb] at hvx
    obtain ⟨c,off,he,hv⟩:=a4Y (d:=n.toNat*s) hvx
    refine .quiet H ?_ hv
    simp [execOp,hop,Instr.indexAt,run_underlying hu,he,hk0,Instr.sureAddr,asIntOf,hc',fD hsz,w5]
   ·cases hs
  ·cases hs
 ·cases hs
theorem b9I [Frame] (H:bD μ h w) (E:gj μ h w f a) {o:Oper} {t e:TypeId} {x i:Operand} {x' i':Opd} {s:Nat} (hop:o.op= .indexAddr t x i) (hx:bC x=some x') (hi:bC i=some i')
 (hu:P.underlying t=some (.slice e)) (hsz:jI P e=some s)
 {C:cg} {ow:FuncId->List Nat} {new:Nat} {v:V} {u:Upd} (hs:aN C ow (.idx s x' i') (Opd.ev f) h new=some (v,u)):iC P o a μ h w v u:=by
 have hvx:=bP E hx
 have hvi:=bP E hi
 simp only [aN] at hs
 split at hs
 ·rename_i n hn
  obtain ⟨k0,hk0⟩:=xO hn hvi
  split at hs
  ·rename_i h0
   split at hs
   ·rename_i b st m hb
    split at hs
    ·rename_i k hk
     split at hs
     ·rename_i hc
      cases hs
      obtain ⟨hc1,hc2,hc3,hc4⟩:=hc
      rw [hb] at hvx
      generalize hX:a.eval x=X at hvx
      cases hvx with
      |sl _ _ _ _ k' hk' hn' hx' hp=>
       rw [hk] at hk';cases hk'
       obtain ⟨ad,cap,rfl,hok⟩:=hp (by omega) hc3
       rcases hok with ⟨h1,_⟩|⟨c,hcm,rfl,hcap,hnc⟩
       ·omega
       ·have hlt:n<(m:Int):=by omega
        refine .quiet H (x:= .pointer (some ⟨c,st*k.esz+n.toNat*s,none⟩)) ?_ (.ptr _ _ _ _ _ k hk (.inr (aw _)) ⟨_,_,rfl⟩ (fun _ _ _=>⟨c,hcm, ?_⟩) (fun h=>by omega))
        ·simp [execOp,hop,Instr.indexAt,run_underlying hu,hX,hk0,asIntOf,h0,hlt,fD hsz,w5]
        ·rw [hc2,Nat.add_mul,cQ]
     ·cases hs
    ·cases hs
   ·rename_i e' rows hb
    split at hs
    ·rename_i he
     subst he
     split at hs
     ·rename_i row hrow
      cases hs
      rw [hb] at hvx
      generalize hX:a.eval x=X at hvx
      have hlen:=cS hrow
      cases hvx with
      |emp=>simp at hlen
      |imm0=>simp at hlen
      |imm _ _ c off cap ys he hr hcp hc hs hrw hcell hv=>
       have hlt:n<(rows.length:Int):=by omega
       have hmem:=hrw row (an hrow)
       refine .quiet H (x:= .pointer (some ⟨c,off+n.toNat*e',none⟩)) ?_ ?_
       ·simp [execOp,hop,Instr.indexAt,run_underlying hu,hX,hk0,asIntOf,h0,hlt,fD hsz,w5]
       ·have:=aX.iptr (μ:=μ) (h:=h) (w:=w) row 0 c (off+n.toNat*e') (fun j=>ys n.toNat j) hc hs hmem.2 (fun j hj=>by
         rw [fA];exact hcell n.toNat j hlen (by rw [<-hmem.1];exact hj)) (fun j v hj=>hv n.toNat row j v hrow hj)
        simpa using this
     ·cases hs
    ·cases hs
   ·cases hs
  ·cases hs
 ·cases hs
theorem b7Q [Frame] (H:bD μ h w) (E:gj μ h w f a) {o:Oper} {x:Operand} {x':Opd} {n:Nat} (hop:o.op= .extract x n) (hx:bC x=some x')
 {C:cg} {ow:FuncId->List Nat} {new:Nat} {v:V} {u:Upd} (hs:aN C ow (.ext x' n) (Opd.ev f) h new=some (v,u)):iC P o a μ h w v u:=by
 have hvx:=bP E hx
 simp only [aN] at hs
 split at hs
 ·rename_i vs hb
  split at hs
  ·rename_i v' hv'
   cases hs
   rw [hb] at hvx
   generalize hX:a.eval x=X at hvx
   cases hvx with
   |tup _ xs hl hc=>
    have hlt:n<xs.size:=by rw [hl];exact cS hv'
    refine .quiet H (x:=xs.getD n undef) ?_ (hc n v hv')
    simp [execOp,hop,Instr.extract,hX,aL hlt,hlt]
  ·cases hs
 ·cases hs
theorem a0T [Frame] (H:bD μ h w) (E:gj μ h w f a) {o:Oper} {g:FuncId} {fst caps:Array Operand} {cs:List Opd} (hop:o.op= .makeFunc (.func g) fst caps) (h0:fst.toList=[]) (hcs:lD caps.toList=some cs)
 {C:cg} {ow:FuncId->List Nat} {new:Nat} {v:V} {u:Upd} (hs:aN C ow (.makeFunc g cs) (Opd.ev f) h new=some (v,u)):iC P o a μ h w v u:=by
 simp only [aN] at hs
 cases hs
 have key: ∀(l:List Operand) (cs:List Opd),lD l=some cs->cs.length=l.length/\ ∀(j:Nat) (y:Opd),cs[j]? =some y-> ∃x,l[j]? =some x/\bC x=some y:=by
  intro l
  induction l with
  |nil=>intro cs h;simp [lD] at h;subst h;exact ⟨rfl,fun j y h=>by simp at h⟩
  |cons x l ih=>
   intro cs h
   simp only [lD] at h
   split at h
   ·rename_i y r' h1 h2
    cases h
    obtain ⟨l1,l2⟩:=ih r' h2
    refine ⟨by simp [l1],fun j z hj=> ?_⟩
    cases j with
    |zero=>simp at hj;subst hj;exact ⟨x,rfl,h1⟩
    |succ j=>exact l2 j z (by simpa using hj)
   ·cases h
 obtain ⟨l1,l2⟩:=key _ _ hcs
 have hf0:fst= #[]:=by cases fst;simp at h0;subst h0;rfl
 refine .quiet H (x:= .func (.func g) #[] (caps.map a.eval)) ?_ (.fn g _ _ (by simp [l1]) (fun i v hi=> ?_))
 ·simp [execOp,hop,Instr.makeFunc,hf0]
 ·rw [aV] at hi
  cases hy:cs[i]? with
  |none=>rw [hy] at hi;cases hi
  |some y=>
   rw [hy] at hi;cases hi
   obtain ⟨x,hx,hxy⟩:=l2 i y hy
   have:caps[i]? =some x:=by rw [<-Array.getElem?_toList];exact hx
   have hv:=bP E hxy
   simpa [Array.getD_eq_getD_getElem?,this] using hv
theorem a2j [Frame] {cs:List V} {xs:Array Value} {g:Option Nat} {t:TypeId} {d:Nat} {v:V} (hl:xs.size=cs.length) (hcell: ∀v∈cs,v.cell=true) (hc: ∀(i:Nat) (v:V),cs[i]? =some v->aX μ h w v (xs.getD i undef))
 (hg:OY P t=some g) (hp:AI.part g cs d=some v): ∃x,(Go.part t xs d).run P w= .ok x w/\aX μ h w v x:=by
 obtain ⟨hr,hn⟩:=a4C hg w
 cases g with
 |none=>
  simp only [AI.part] at hp
  have hlt:=cS hp
  have h1:d<xs.size:=by omega
  refine ⟨xs.getD d undef, ?_,hc d v hp⟩
  simp [Go.part,hr,aL h1,h1]
 |some n=>
  simp only [AI.part] at hp
  split at hp
  ·rename_i hle
   cases hp
   refine ⟨.agg (xs.extract d (d+n)), ?_,.agg _ _ (by simp;omega) (fun v hv=>hcell v (cc (cp hv))) (fun i v hi=> ?_)⟩
   ·simp [Go.part,hr,fD (hn n rfl)]
   ·rw [j8] at hi
    split at hi
    ·rename_i hin
     rw [gz] at hi
     have:=hc _ v hi
     have hlt:=cS hi
     have h1:d+i<xs.size:=by omega
     have h2:i<(xs.extract d (d+n)).size:=by simp;omega
     simpa [Array.getD_eq_getD_getElem?,aL h1,aL h2] using this
    ·cases hi
  ·cases hp
theorem a94 [Frame] (H:bD μ h w) (E:gj μ h w f a) {o:Oper} {t:TypeId} {x:Operand} {x':Opd} {n:Nat} {fs:Array Field} {fd:Field} {g:Option Nat} (hop:o.op= .field t x n) (hx:bC x=some x')
 (hu:P.underlying t=some (.struct fs)) (hf:fs[n]? =some fd) (hg:OY P fd.type=some g)
 {C:cg} {ow:FuncId->List Nat} {new:Nat} {v:V} {u:Upd} (hs:aN C ow (.field fd.offset g x') (Opd.ev f) h new=some (v,u)):iC P o a μ h w v u:=by
 have hvx:=bP E hx
 simp only [aN] at hs
 split at hs
 ·rename_i cs hb
  split at hs
  ·rename_i v' hv'
   cases hs
   rw [hb] at hvx
   generalize hX:a.eval x=X at hvx
   cases hvx with
   |agg _ xs hl hcell hc=>
    obtain ⟨y,hy,hv⟩:=a2j hl hcell hc hg hv'
    refine .quiet H (x:=y) ?_ hv
    simp [execOp,hop,Instr.field,run_underlying hu,hf,hX,asAgg,hy]
  ·cases hs
 ·cases hs
theorem a9Q [Frame] (H:bD μ h w) (E:gj μ h w f a) {o:Oper} {t e:TypeId} {len:Nat} {x i:Operand} {x' i':Opd} {s:Nat} {g:Option Nat} (hop:o.op= .index t x i) (hx:bC x=some x') (hi:bC i=some i')
 (hu:P.underlying t=some (.array len e)) (hsz:jI P e=some s) (hg:OY P e=some g)
 {C:cg} {ow:FuncId->List Nat} {new:Nat} {v:V} {u:Upd} (hs:aN C ow (.ixAgg len s g x' i') (Opd.ev f) h new=some (v,u)):iC P o a μ h w v u:=by
 have hvx:=bP E hx
 have hvi:=bP E hi
 simp only [aN] at hs
 split at hs
 ·rename_i cs n hb hn
  obtain ⟨k0,hk0⟩:=xO hn hvi
  split at hs
  ·rename_i hc0
   have hc':0<=n/\n<(len:Int):=⟨hc0.1,by omega⟩
   split at hs
   ·rename_i v' hv'
    cases hs
    rw [hb] at hvx
    generalize hX:a.eval x=X at hvx
    cases hvx with
    |agg _ xs hl hcell hc=>
     obtain ⟨y,hy,hv⟩:=a2j hl hcell hc hg hv'
     refine .quiet H (x:=y) ?_ hv
     simp [execOp,hop,Instr.index,run_underlying hu,hX,hk0,asIntOf,hc',fD hsz,hy]
   ·cases hs
  ·cases hs
 ·cases hs
theorem b1g [Frame] (H:bD μ h w) (E:gj μ h w f a) {o:Oper} {t:TypeId} {x i:Operand} {x' i':Opd} (hop:o.op= .index t x i) (hx:bC x=some x') (hi:bC i=some i')
 (hu:P.underlying t=some .string)
 {C:cg} {ow:FuncId->List Nat} {new:Nat} {v:V} {u:Upd} (hs:aN C ow (.ixStr x' i') (Opd.ev f) h new=some (v,u)):iC P o a μ h w v u:=by
 have hvx:=bP E hx
 have hvi:=bP E hi
 simp only [aN] at hs
 split at hs
 ·rename_i s n hb hn
  obtain ⟨k0,hk0⟩:=xO hn hvi
  split at hs
  ·rename_i h0
   split at hs
   ·rename_i b hb'
    cases hs
    rw [hb] at hvx
    have hlt:n.toNat<s.size:=by
     rcases cA n.toNat s.data.size with h1|h1
     ·exact h1
     ·rw [eK h1] at hb';cases hb'
    have hget:s[n.toNat]? =some b:=by
     rw [aL hlt] at hb'
     cases hb'
     simp [hlt];rfl
    refine .quiet H (x:= .int .u8 b.toNat) ?_ (.lit _)
    simp [execOp,hop,Instr.index,run_underlying hu,de hvx,hk0,asIntOf,h0,hget]
   ·cases hs
  ·cases hs
 ·cases hs
theorem b4z [Frame] (H:bD μ h w) (E:gj μ h w f a) {o:Oper} {c:Call} {x y:Operand} {x' y':Opd} (hop:o.op= .call c) (hca:c.callee= .builtin .max) (hargs:c.args.toList=[x,y]) (hx:bC x=some x') (hy:bC y=some y')
 {C:cg} {ow:FuncId->List Nat} {new:Nat} {v:V} {u:Upd} (hs:aN C ow (.max2 x' y') (Opd.ev f) h new=some (v,u)):iC P o a μ h w v u:=by
 have hvx:=bP E hx
 have hvy:=bP E hy
 simp only [aN] at hs
 split at hs
 ·rename_i k p k' q hp hq
  cases hs
  rw [hp] at hvx
  rw [hq] at hvy
  have ha:c.args= #[x,y]:=by rw [<-hargs]
  refine .quiet H (x:= .int k (if q>p then q else p)) ?_ (.lit _)
  simp [execOp,hop,resolve,hca,ha,invoke,builtin,de hvx,de hvy,run_max_int2]
 ·cases hs
theorem b2w [Frame] (H:bD μ h w) (E:gj μ h w f a) {o:Oper} {c:Call} {x y:Operand} {x' y':Opd} (hop:o.op= .call c) (hca:c.callee= .builtin .min) (hargs:c.args.toList=[x,y]) (hx:bC x=some x') (hy:bC y=some y')
 {C:cg} {ow:FuncId->List Nat} {new:Nat} {v:V} {u:Upd} (hs:aN C ow (.min2 x' y') (Opd.ev f) h new=some (v,u)):iC P o a μ h w v u:=by
 have hvx:=bP E hx
 have hvy:=bP E hy
 simp only [aN] at hs
 split at hs
 ·rename_i k p k' q hp hq
  cases hs
  rw [hp] at hvx
  rw [hq] at hvy
  have ha:c.args= #[x,y]:=by rw [<-hargs]
  refine .quiet H (x:= .int k (if q<p then q else p)) ?_ (.lit _)
  simp [execOp,hop,resolve,hca,ha,invoke,builtin,de hvx,de hvy,run_min_int2]
 ·cases hs
end
end Go.AI
