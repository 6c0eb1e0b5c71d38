/- The operations of the abstract machine and the model's. Fourth part: numbers, texts, addresses. -/
import Derived.Test.YtdnkignjanfikaaGreatAiRun
set_option linter.unusedVariables false
set_option linter.unusedSimpArgs false
namespace Go.AI
section
variable {P:Program} {μ:Mu} {h:au} {w:World} {f:Nat→V} {a:Act}
theorem bF [Frame] {v x:Value} (hv:an μ h w (.lit v) x):x=v:=by cases hv;rfl
theorem W4 (op:BinOp) (t:TypeId) (X Y:Operand) (k k':IntKind) (m n:Int):(eqGuard op t X Y (.int k m) (.int k' n)).run P w= .ok () w:=by
 cases op<;>simp [eqGuard]
theorem WU (op:BinOp) (t:TypeId) (X Y:Operand) (m n:ByteArray):(eqGuard op t X Y (.string m) (.string n)).run P w= .ok () w:=by
 cases op<;>simp [eqGuard]
theorem Yx [Frame] {op:BinOp} {x y v:Value} (hb:dW op x y=some v) (t:TypeId) (X Y:Operand):(do eqGuard op t X Y x y;binOp op t x y:Sem Value).run P w= .ok v w:=by
 cases x with
 |int k m=>
  cases y with
  |int k' n=>
   simp only [Sem.run_bind,W4,Result.andThen_ok]
   cases op<;>simp only [dW] at hb<;>(split at hb<;>first| (cases hb;done)|skip)<;>cases hb<;>rename_i hc<;>
    first
     | (obtain ⟨rfl,h0⟩:=hc;simp [binOp,Op.intDiv,h0];done)
     | (subst hc;simp [binOp,Op.intArith,Op.intBits,Op.intCmp];done)
     | (subst hc;simp [binOp,Op.intArith,Op.intBits,Op.intCmp];rfl)
     | (simp [binOp,Op.shift,Int.not_lt.2 hc];done)
  |_=>cases op<;>simp [dW] at hb
 |string m=>
  cases y with
  |string n=>
   simp only [Sem.run_bind,WU,Result.andThen_ok]
   cases op<;>simp only [dW] at hb<;>first| (cases hb;done)|skip
   case add=>
    split at hb
    ·rename_i hc
     cases hb
     have h2: ¬(((m.size+n.size:Nat):Int)>IntKind.i64.max):=by
      have:IntKind.i64.max=9223372036854775807:=rfl
      rw [this]
      unfold bH at hc
      omega
     simp only [binOp,Op.stringOp]
     rw [if_neg h2]
     rfl
    ·cases hb
   case eql=>cases hb;simp [binOp,Op.stringOp]
   case neq=>cases hb;simp [binOp,Op.stringOp]
  |_=>cases op<;>simp [dW] at hb
 |_=>cases op<;>simp [dW] at hb
theorem a1H [Frame] (H:aI μ h w) (E:dF μ h w f a) {o:Oper} {op:BinOp} {t ty:TypeId} {x y:Operand} {x' y':Opd} (hop:o.op= .binOp op t x y ty) (hx:aJ x=some x') (hy:aJ y=some y')
 {C:aY} {ow:FuncId→List Nat} {new:Nat} {v:V} {u:Upd} (hs:aj C ow (.bin op x' y') (Opd.ev f) h new=some (v,u)):eV P o a μ h w v u:=by
 have hvx:=aS E hx
 have hvy:=aS E hy
 simp only [aj] at hs
 split at hs
 ·rename_i p q hp hq
  rw [hp] at hvx
  rw [hq] at hvy
  split at hs
  ·rename_i r hb
   cases hs
   refine .quiet H (x:=r) ?_ (.lit r)
   have:=Yx (P:=P) (w:=w) hb t x y
   rw [←bF hvx, ←bF hvy] at this
   simp only [execOp,hop,Sem.run_bind] at this ⊢
   rw [this]
   rfl
  ·cases hs
 ·cases hs
theorem a5r {op:UnOp} {x v:Value} (hb:QR op x=some v):(Op.unary op x).run P w= .ok v w:=by
 cases x with
 |int k m=>cases op<;>simp [QR] at hb<;>subst hb<;>simp [Op.unary,Op.intArith,Op.intBits]
 |bool b=>cases op<;>simp [QR] at hb<;>subst hb<;>simp [Op.unary]
 |_=>simp [QR] at hb
theorem b81 [Frame] (H:aI μ h w) (E:dF μ h w f a) {o:Oper} {op:UnOp} {t:TypeId} {x:Operand} {x':Opd} (hop:o.op= .unOp op t x) (hx:aJ x=some x')
 {C:aY} {ow:FuncId→List Nat} {new:Nat} {v:V} {u:Upd} (hs:aj C ow (.un op x') (Opd.ev f) h new=some (v,u)):eV P o a μ h w v u:=by
 have hvx:=aS E hx
 simp only [aj] at hs
 split at hs
 ·rename_i p hp
  rw [hp] at hvx
  split at hs
  ·rename_i r hb
   cases hs
   refine .quiet H (x:=r) ?_ (.lit r)
   simp [execOp,hop,bF hvx,a5r hb]
  ·cases hs
 ·cases hs
theorem uz [Frame] {v:V} {n:Int} {x:Value} (hv:asI v=some n) (hr:an μ h w v x): ∃k,x= .int k n:=by
 cases v with
 |lit y=>
  cases y<;>simp [asI] at hv
  subst hv
  exact ⟨_,bF hr⟩
 |_=>simp [asI] at hv
theorem a9s [Frame] (H:aI μ h w) (E:dF μ h w f a) {o:Oper} {s d:TypeId} {x:Operand} {x':Opd} {k' k:IntKind} (hop:o.op= .convert s d x) (hx:aJ x=some x') (h1:P.underlying s=some (.int k')) (h2:P.underlying d=some (.int k))
 {C:aY} {ow:FuncId→List Nat} {new:Nat} {v:V} {u:Upd} (hs:aj C ow (.toInt k x') (Opd.ev f) h new=some (v,u)):eV P o a μ h w v u:=by
 have hvx:=aS E hx
 simp only [aj] at hs
 split at hs
 ·rename_i n hn
  cases hs
  obtain ⟨k0,hk0⟩:=uz hn hvx
  refine .quiet H (x:= .int k (k.wrap n)) ?_ (.lit _)
  simp [execOp,hop,hk0,convert,run_underlying h1,run_underlying h2,Conv.intToInt]
 ·cases hs
theorem a7F [Frame] (H:aI μ h w) (E:dF μ h w f a) {o:Oper} {s d:TypeId} {x:Operand} {x':Opd} (hop:o.op= .convert s d x) (hx:aJ x=some x') (h1:P.underlying s=some .string) (h2:P.underlying d=some .string)
 {C:aY} {ow:FuncId→List Nat} {new:Nat} {v:V} {u:Upd} (hs:aj C ow (.same x') (Opd.ev f) h new=some (v,u)):eV P o a μ h w v u:=by
 have hvx:=aS E hx
 simp only [aj] at hs
 split at hs
 ·rename_i n hn
  cases hs
  rw [hn] at hvx
  refine .quiet H (x:= .string n) ?_ (.lit _)
  simp [execOp,hop,bF hvx,convert,run_underlying h1,run_underlying h2]
 ·cases hs
theorem a6I [Frame] (H:aI μ h w) (E:dF μ h w f a) {o:Oper} {x:Operand} {x':Opd} (hop:o.op= .move x∨o.op= .assign x) (hx:aJ x=some x'):eV P o a μ h w (x'.ev f) []:=by
 refine .quiet H (x:=a.eval x) ?_ (aS E hx)
 rcases hop with hop|hop<;>simp [execOp,hop]
theorem a8o [Frame] (H:aI μ h w) (E:dF μ h w f a) {o:Oper} {c x y:Operand} {c' x' y':Opd} (hop:o.op= .pick c x y) (hc:aJ c=some c') (hx:aJ x=some x') (hy:aJ y=some y')
 {C:aY} {ow:FuncId→List Nat} {new:Nat} {v:V} {u:Upd} (hs:aj C ow (.pick c' x' y') (Opd.ev f) h new=some (v,u)):eV P o a μ h w v u:=by
 have hvc:=aS E hc
 simp only [aj] at hs
 split at hs
 ·rename_i hb
  cases hs
  rw [hb] at hvc
  exact .quiet H (x:=a.eval x) (by simp [execOp,hop,bF hvc,asBool]) (aS E hx)
 ·rename_i hb
  cases hs
  rw [hb] at hvc
  exact .quiet H (x:=a.eval y) (by simp [execOp,hop,bF hvc,asBool]) (aS E hy)
 ·cases hs
theorem a7J [Frame] {g:FuncId} {cs:List V} {x:Value} (hv:an μ h w (.fn g cs) x): ∃xs:Array Value,x= .func (.func g) #[] xs∧xs.size=cs.length∧ ∀(i:Nat) (v:V),cs[i]? =some v→an μ h w v (xs.getD i undef):=by
 cases hv with
 |fn _ _ xs hl hc=>exact ⟨xs,rfl,hl,hc⟩
theorem Ur [Frame] (H:aI μ h w) (E:dF μ h w f a) {o:Oper} {x:Operand} {x':Opd} (hop:o.op= .nilCheck x) (hx:aJ x=some x')
 {C:aY} {ow:FuncId→List Nat} {new:Nat} {v:V} {u:Upd} (hs:aj C ow (.nilCheck x') (Opd.ev f) h new=some (v,u)):eV P o a μ h w v u:=by
 have hvx:=aS E hx
 simp only [aj] at hs
 split at hs
 ·rename_i b i o' n hb
  split at hs
  ·rename_i k hk
   split at hs
   ·rename_i hc
    cases hs
    rw [hb] at hvx
    refine .quiet H (x:=a.eval x) ?_ hvx
    have hi:=List.getElem?_eq_getElem (l:=k.rows) (i:=i) (by omega)
    have h0:=NR H hvx hk hi
    obtain ⟨c',_,he⟩:=a0s hvx hk hc.1 hc.2 h0
    simp [execOp,hop,he]
   ·cases hs
  ·cases hs
 ·rename_i r o' hb
  cases hs
  rw [hb] at hvx
  obtain ⟨c,off,he,_⟩:=Wr hvx
  exact .quiet H (x:=a.eval x) (by simp [execOp,hop,he]) hvx
 ·rename_i g cs hb
  cases hs
  rw [hb] at hvx
  refine .quiet H (x:=a.eval x) ?_ hvx
  obtain ⟨xs,he,_⟩:=a7J hvx
  simp [execOp,hop,he]
 ·cases hs
theorem D3 {fd:Field} {s:Nat} (hs:g9 P fd.type=some (s+1)) (c off:Nat):(fieldPlace ⟨c,off,none⟩ fd).run P w= .ok ⟨c,off+fd.offset,none⟩ w:=by
 unfold fieldPlace
 simp [dd hs]
 unfold Addr.add
 by_cases h0:fd.offset=0
 ·simp [h0]
 ·simp [h0]
theorem a2e [Frame] {b i o n d:Nat} {x:Value} (hv:an μ h w (.ptr b i o n) x): ∃c off,x= .pointer (some ⟨c,off,none⟩)∧an μ h w (.ptr b i (o+d) n) (.pointer (some ⟨c,off+d,none⟩)):=by
 cases hv with
 |ptr _ _ _ _ _ k hk hn hx hp hd=>
  obtain ⟨c,off,rfl⟩:=hx
  refine ⟨c,off,rfl,.ptr b i (o+d) n _ k hk hn ⟨_,_,rfl⟩ (fun h1 h2 h3=> ?_) hd⟩
  obtain ⟨c',hc',he⟩:=hp h1 h2 h3
  injection he with he
  injection he with he
  injection he with h4 h5
  subst h4
  exact ⟨c,hc',by rw [h5,Nat.add_assoc]⟩
theorem Yg [Frame] {row:List V} {o d:Nat} {x:Value} (hv:an μ h w (.iptr row o) x): ∃c off,x= .pointer (some ⟨c,off,none⟩)∧an μ h w (.iptr row (o+d)) (.pointer (some ⟨c,off+d,none⟩)):=by
 cases hv with
 |iptr _ _ c off ys hc hs hrow hcell hv=>
  refine ⟨c,off+o,rfl, ?_⟩
  rw [Nat.add_assoc]
  exact .iptr row (o+d) c off ys hc hs hrow hcell hv
theorem b6h [Frame] (H:aI μ h w) (E:dF μ h w f a) {o:Oper} {t:TypeId} {x:Operand} {x':Opd} {n:Nat} {fs:Array Field} {fd:Field} {s:Nat} (hop:o.op= .fieldAddr t x n) (hx:aJ x=some x')
 (hu:P.underlying t=some (.struct fs)) (hf:fs[n]? =some fd) (hsz:g9 P fd.type=some (s+1))
 {C:aY} {ow:FuncId→List Nat} {new:Nat} {v:V} {u:Upd} (hs:aj C ow (.off fd.offset x') (Opd.ev f) h new=some (v,u)):eV P o a μ h w v u:=by
 have hvx:=aS E hx
 simp only [aj] at hs
 split at hs
 ·rename_i b i o' n' hb
  cases hs
  rw [hb] at hvx
  obtain ⟨c,off,he,hv⟩:=a2e (d:=fd.offset) hvx
  refine .quiet H ?_ hv
  simp [execOp,hop,Instr.fieldAt,run_underlying hu,hf,he,Instr.sureAddr,D3 hsz]
 ·rename_i r o' hb
  cases hs
  rw [hb] at hvx
  obtain ⟨c,off,he,hv⟩:=Yg (d:=fd.offset) hvx
  refine .quiet H ?_ hv
  simp [execOp,hop,Instr.fieldAt,run_underlying hu,hf,he,Instr.sureAddr,D3 hsz]
 ·cases hs
theorem sa (c off n:Nat):(⟨c,off,none⟩:Addr).add n=⟨c,off+n,none⟩:=by
 unfold Addr.add
 by_cases h0:n=0
 ·simp [h0]
 ·simp [h0]
theorem a0n [Frame] (H:aI μ h w) (E:dF μ h w f a) {o:Oper} {t e:TypeId} {len:Nat} {x i:Operand} {x' i':Opd} {s:Nat} (hop:o.op= .indexAddr t x i) (hx:aJ x=some x') (hi:aJ i=some i')
 (hu:P.underlying t=some (.array len e)) (hsz:g9 P e=some s)
 {C:aY} {ow:FuncId→List Nat} {new:Nat} {v:V} {u:Upd} (hs:aj C ow (.idxArr len s x' i') (Opd.ev f) h new=some (v,u)):eV P o a μ h w v u:=by
 have hvx:=aS E hx
 have hvi:=aS E hi
 simp only [aj] at hs
 split at hs
 ·rename_i n hn
  obtain ⟨k0,hk0⟩:=uz hn hvi
  split at hs
  ·rename_i hc
   have hc':0≤n∧n<(len:Int):=⟨hc.1,by omega⟩
   split at hs
   ·rename_i b j o' m hb
    cases hs
    rw [hb] at hvx
    obtain ⟨c,off,he,hv⟩:=a2e (d:=n.toNat*s) hvx
    refine .quiet H ?_ hv
    simp [execOp,hop,Instr.indexAt,run_underlying hu,he,hk0,Instr.sureAddr,asIntOf,hc',dd hsz,sa]
   ·rename_i r o' hb
    cases hs
    rw [hb] at hvx
    obtain ⟨c,off,he,hv⟩:=Yg (d:=n.toNat*s) hvx
    refine .quiet H ?_ hv
    simp [execOp,hop,Instr.indexAt,run_underlying hu,he,hk0,Instr.sureAddr,asIntOf,hc',dd hsz,sa]
   ·cases hs
  ·cases hs
 ·cases hs
theorem b34 [Frame] (H:aI μ h w) (E:dF μ h w f a) {o:Oper} {t e:TypeId} {x i:Operand} {x' i':Opd} {s:Nat} (hop:o.op= .indexAddr t x i) (hx:aJ x=some x') (hi:aJ i=some i')
 (hu:P.underlying t=some (.slice e)) (hsz:g9 P e=some s)
 {C:aY} {ow:FuncId→List Nat} {new:Nat} {v:V} {u:Upd} (hs:aj C ow (.idx s x' i') (Opd.ev f) h new=some (v,u)):eV P o a μ h w v u:=by
 have hvx:=aS E hx
 have hvi:=aS E hi
 simp only [aj] at hs
 split at hs
 ·rename_i n hn
  obtain ⟨k0,hk0⟩:=uz hn hvi
  split at hs
  ·rename_i h0
   split at hs
   ·rename_i b st m hb
    split at hs
    ·rename_i k hk
     split at hs
     ·rename_i hc
      cases hs
      obtain ⟨hc1,hc2,hc3,hc4⟩:=hc
      rw [hb] at hvx
      generalize hX:a.eval x=X at hvx
      cases hvx with
      |sl _ _ _ _ k' hk' hn' hx' hp=>
       rw [hk] at hk';cases hk'
       obtain ⟨ad,cap,rfl,hok⟩:=hp (by omega) hc3
       rcases hok with ⟨h1,_⟩|⟨c,hcm,rfl,hcap,hnc⟩
       ·omega
       ·have hlt:n<(m:Int):=by omega
        refine .quiet H (x:= .pointer (some ⟨c,st*k.esz+n.toNat*s,none⟩)) ?_ (.ptr _ _ _ _ _ k hk (.inr (Nat.le_refl _)) ⟨_,_,rfl⟩ (fun _ _ _=>⟨c,hcm, ?_⟩) (fun h=>by omega))
        ·simp [execOp,hop,Instr.indexAt,run_underlying hu,hX,hk0,asIntOf,h0,hlt,dd hsz,sa]
        ·rw [hc2,Nat.add_mul,Nat.add_zero]
     ·cases hs
    ·cases hs
   ·rename_i e' rows hb
    split at hs
    ·rename_i he
     subst he
     split at hs
     ·rename_i row hrow
      cases hs
      rw [hb] at hvx
      generalize hX:a.eval x=X at hvx
      have hlen:=bx hrow
      cases hvx with
      |emp=>simp at hlen
      |imm0=>simp at hlen
      |imm _ _ c off cap ys he hr hcp hc hs hrw hcell hv=>
       have hlt:n<(rows.length:Int):=by omega
       have hmem:=hrw row (List.mem_of_getElem? hrow)
       refine .quiet H (x:= .pointer (some ⟨c,off+n.toNat*e',none⟩)) ?_ ?_
       ·simp [execOp,hop,Instr.indexAt,run_underlying hu,hX,hk0,asIntOf,h0,hlt,dd hsz,sa]
       ·have:=an.iptr (μ:=μ) (h:=h) (w:=w) row 0 c (off+n.toNat*e') (fun j=>ys n.toNat j) hc hs hmem.2 (fun j hj=>by
         rw [Nat.add_assoc];exact hcell n.toNat j hlen (by rw [←hmem.1];exact hj)) (fun j v hj=>hv n.toNat row j v hrow hj)
        simpa using this
     ·cases hs
    ·cases hs
   ·cases hs
  ·cases hs
 ·cases hs
theorem b58 [Frame] (H:aI μ h w) (E:dF μ h w f a) {o:Oper} {x:Operand} {x':Opd} {n:Nat} (hop:o.op= .extract x n) (hx:aJ x=some x')
 {C:aY} {ow:FuncId→List Nat} {new:Nat} {v:V} {u:Upd} (hs:aj C ow (.ext x' n) (Opd.ev f) h new=some (v,u)):eV P o a μ h w v u:=by
 have hvx:=aS E hx
 simp only [aj] at hs
 split at hs
 ·rename_i vs hb
  split at hs
  ·rename_i v' hv'
   cases hs
   rw [hb] at hvx
   generalize hX:a.eval x=X at hvx
   cases hvx with
   |tup _ xs hl hc=>
    have hlt:n<xs.size:=by rw [hl];exact bx hv'
    refine .quiet H (x:=xs.getD n undef) ?_ (hc n v hv')
    simp [execOp,hop,Instr.extract,hX,Array.getElem?_eq_getElem hlt,hlt]
  ·cases hs
 ·cases hs
theorem TF [Frame] (H:aI μ h w) (E:dF μ h w f a) {o:Oper} {g:FuncId} {fst caps:Array Operand} {cs:List Opd} (hop:o.op= .makeFunc (.func g) fst caps) (h0:fst.toList=[]) (hcs:iK caps.toList=some cs)
 {C:aY} {ow:FuncId→List Nat} {new:Nat} {v:V} {u:Upd} (hs:aj C ow (.makeFunc g cs) (Opd.ev f) h new=some (v,u)):eV P o a μ h w v u:=by
 simp only [aj] at hs
 cases hs
 have key: ∀(l:List Operand) (cs:List Opd),iK l=some cs→cs.length=l.length∧ ∀(j:Nat) (y:Opd),cs[j]? =some y→ ∃x,l[j]? =some x∧aJ x=some y:=by
  intro l
  induction l with
  |nil=>intro cs h;simp [iK] at h;subst h;exact ⟨rfl,fun j y h=>by simp at h⟩
  |cons x l ih=>
   intro cs h
   simp only [iK] at h
   split at h
   ·rename_i y r' h1 h2
    cases h
    obtain ⟨l1,l2⟩:=ih r' h2
    refine ⟨by simp [l1],fun j z hj=> ?_⟩
    cases j with
    |zero=>simp at hj;subst hj;exact ⟨x,rfl,h1⟩
    |succ j=>exact l2 j z (by simpa using hj)
   ·cases h
 obtain ⟨l1,l2⟩:=key _ _ hcs
 have hf0:fst= #[]:=by cases fst;simp at h0;subst h0;rfl
 refine .quiet H (x:= .func (.func g) #[] (caps.map a.eval)) ?_ (.fn g _ _ (by simp [l1]) (fun i v hi=> ?_))
 ·simp [execOp,hop,Instr.makeFunc,hf0]
 ·rw [List.getElem?_map] at hi
  cases hy:cs[i]? with
  |none=>rw [hy] at hi;cases hi
  |some y=>
   rw [hy] at hi;cases hi
   obtain ⟨x,hx,hxy⟩:=l2 i y hy
   have:caps[i]? =some x:=by rw [←Array.getElem?_toList];exact hx
   have hv:=aS E hxy
   simpa [Array.getD_eq_getD_getElem?,this] using hv
theorem Y3 [Frame] {cs:List V} {xs:Array Value} {g:Option Nat} {t:TypeId} {d:Nat} {v:V} (hl:xs.size=cs.length) (hcell: ∀v∈cs,v.cell=true) (hc: ∀(i:Nat) (v:V),cs[i]? =some v→an μ h w v (xs.getD i undef))
 (hg:Ln P t=some g) (hp:AI.part g cs d=some v): ∃x,(Go.part t xs d).run P w= .ok x w∧an μ h w v x:=by
 obtain ⟨hr,hn⟩:=WO hg w
 cases g with
 |none=>
  simp only [AI.part] at hp
  have hlt:=bx hp
  have h1:d<xs.size:=by omega
  refine ⟨xs.getD d undef, ?_,hc d v hp⟩
  simp [Go.part,hr,Array.getElem?_eq_getElem h1,h1]
 |some n=>
  simp only [AI.part] at hp
  split at hp
  ·rename_i hle
   cases hp
   refine ⟨.agg (xs.extract d (d+n)), ?_,.agg _ _ (by simp;omega) (fun v hv=>hcell v (List.mem_of_mem_drop (List.mem_of_mem_take hv))) (fun i v hi=> ?_)⟩
   ·simp [Go.part,hr,dd (hn n rfl)]
   ·rw [List.getElem?_take] at hi
    split at hi
    ·rename_i hin
     rw [List.getElem?_drop] at hi
     have:=hc _ v hi
     have hlt:=bx hi
     have h1:d+i<xs.size:=by omega
     have h2:i<(xs.extract d (d+n)).size:=by simp;omega
     simpa [Array.getD_eq_getD_getElem?,Array.getElem?_eq_getElem h1,Array.getElem?_eq_getElem h2] using this
    ·cases hi
  ·cases hp
theorem a5p [Frame] (H:aI μ h w) (E:dF μ h w f a) {o:Oper} {t:TypeId} {x:Operand} {x':Opd} {n:Nat} {fs:Array Field} {fd:Field} {g:Option Nat} (hop:o.op= .field t x n) (hx:aJ x=some x')
 (hu:P.underlying t=some (.struct fs)) (hf:fs[n]? =some fd) (hg:Ln P fd.type=some g)
 {C:aY} {ow:FuncId→List Nat} {new:Nat} {v:V} {u:Upd} (hs:aj C ow (.field fd.offset g x') (Opd.ev f) h new=some (v,u)):eV P o a μ h w v u:=by
 have hvx:=aS E hx
 simp only [aj] at hs
 split at hs
 ·rename_i cs hb
  split at hs
  ·rename_i v' hv'
   cases hs
   rw [hb] at hvx
   generalize hX:a.eval x=X at hvx
   cases hvx with
   |agg _ xs hl hcell hc=>
    obtain ⟨y,hy,hv⟩:=Y3 hl hcell hc hg hv'
    refine .quiet H (x:=y) ?_ hv
    simp [execOp,hop,Instr.field,run_underlying hu,hf,hX,asAgg,hy]
  ·cases hs
 ·cases hs
theorem a5X [Frame] (H:aI μ h w) (E:dF μ h w f a) {o:Oper} {t e:TypeId} {len:Nat} {x i:Operand} {x' i':Opd} {s:Nat} {g:Option Nat} (hop:o.op= .index t x i) (hx:aJ x=some x') (hi:aJ i=some i')
 (hu:P.underlying t=some (.array len e)) (hsz:g9 P e=some s) (hg:Ln P e=some g)
 {C:aY} {ow:FuncId→List Nat} {new:Nat} {v:V} {u:Upd} (hs:aj C ow (.ixAgg len s g x' i') (Opd.ev f) h new=some (v,u)):eV P o a μ h w v u:=by
 have hvx:=aS E hx
 have hvi:=aS E hi
 simp only [aj] at hs
 split at hs
 ·rename_i cs n hb hn
  obtain ⟨k0,hk0⟩:=uz hn hvi
  split at hs
  ·rename_i hc0
   have hc':0≤n∧n<(len:Int):=⟨hc0.1,by omega⟩
   split at hs
   ·rename_i v' hv'
    cases hs
    rw [hb] at hvx
    generalize hX:a.eval x=X at hvx
    cases hvx with
    |agg _ xs hl hcell hc=>
     obtain ⟨y,hy,hv⟩:=Y3 hl hcell hc hg hv'
     refine .quiet H (x:=y) ?_ hv
     simp [execOp,hop,Instr.index,run_underlying hu,hX,hk0,asIntOf,hc',dd hsz,hy]
   ·cases hs
  ·cases hs
 ·cases hs
theorem a2P [Frame] (H:aI μ h w) (E:dF μ h w f a) {o:Oper} {t:TypeId} {x i:Operand} {x' i':Opd} (hop:o.op= .index t x i) (hx:aJ x=some x') (hi:aJ i=some i')
 (hu:P.underlying t=some .string)
 {C:aY} {ow:FuncId→List Nat} {new:Nat} {v:V} {u:Upd} (hs:aj C ow (.ixStr x' i') (Opd.ev f) h new=some (v,u)):eV P o a μ h w v u:=by
 have hvx:=aS E hx
 have hvi:=aS E hi
 simp only [aj] at hs
 split at hs
 ·rename_i s n hb hn
  obtain ⟨k0,hk0⟩:=uz hn hvi
  split at hs
  ·rename_i h0
   split at hs
   ·rename_i b hb'
    cases hs
    rw [hb] at hvx
    have hlt:n.toNat<s.size:=by
     rcases Nat.lt_or_ge n.toNat s.data.size with h1|h1
     ·exact h1
     ·rw [Array.getElem?_eq_none h1] at hb';cases hb'
    have hget:s[n.toNat]? =some b:=by
     rw [Array.getElem?_eq_getElem hlt] at hb'
     cases hb'
     simp [hlt];rfl
    refine .quiet H (x:= .int .u8 b.toNat) ?_ (.lit _)
    simp [execOp,hop,Instr.index,run_underlying hu,bF hvx,hk0,asIntOf,h0,hget]
   ·cases hs
  ·cases hs
 ·cases hs
theorem a6J [Frame] (H:aI μ h w) (E:dF μ h w f a) {o:Oper} {c:Call} {x y:Operand} {x' y':Opd} (hop:o.op= .call c) (hca:c.callee= .builtin .max) (hargs:c.args.toList=[x,y]) (hx:aJ x=some x') (hy:aJ y=some y')
 {C:aY} {ow:FuncId→List Nat} {new:Nat} {v:V} {u:Upd} (hs:aj C ow (.max2 x' y') (Opd.ev f) h new=some (v,u)):eV P o a μ h w v u:=by
 have hvx:=aS E hx
 have hvy:=aS E hy
 simp only [aj] at hs
 split at hs
 ·rename_i k p k' q hp hq
  cases hs
  rw [hp] at hvx
  rw [hq] at hvy
  have ha:c.args= #[x,y]:=by rw [←hargs]
  refine .quiet H (x:= .int k (if q>p then q else p)) ?_ (.lit _)
  simp [execOp,hop,resolve,hca,ha,invoke,builtin,bF hvx,bF hvy,run_max_int2]
 ·cases hs
theorem a9q [Frame] (H:aI μ h w) (E:dF μ h w f a) {o:Oper} {c:Call} {x y:Operand} {x' y':Opd} (hop:o.op= .call c) (hca:c.callee= .builtin .min) (hargs:c.args.toList=[x,y]) (hx:aJ x=some x') (hy:aJ y=some y')
 {C:aY} {ow:FuncId→List Nat} {new:Nat} {v:V} {u:Upd} (hs:aj C ow (.min2 x' y') (Opd.ev f) h new=some (v,u)):eV P o a μ h w v u:=by
 have hvx:=aS E hx
 have hvy:=aS E hy
 simp only [aj] at hs
 split at hs
 ·rename_i k p k' q hp hq
  cases hs
  rw [hp] at hvx
  rw [hq] at hvy
  have ha:c.args= #[x,y]:=by rw [←hargs]
  refine .quiet H (x:= .int k (if q<p then q else p)) ?_ (.lit _)
  simp [execOp,hop,resolve,hca,ha,invoke,builtin,bF hvx,bF hvy,run_min_int2]
 ·cases hs
end
end Go.AI
