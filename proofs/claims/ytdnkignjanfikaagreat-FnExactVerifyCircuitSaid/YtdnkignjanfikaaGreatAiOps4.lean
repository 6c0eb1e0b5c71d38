/- Part. -/
import Derived.Test.YtdnkignjanfikaaGreatAiRun
set_option linter.unusedVariables false
set_option linter.unusedSimpArgs false
namespace Go.AI
section
variable {P:Program} {μ:Mu} {h:b8} {w:World} {f:Nat->V} {a:Act}
theorem de [Frame] {v x:Value} (a:aY μ h w (.lit v) x):x=v:=by cases a;rfl
theorem a0i (op:BinOp) (t:TypeId) (X Y:Operand) (k k':IntKind) (m n:Int):(eqGuard op t X Y (.int k m) (.int k' n)).run P w= .ok () w:=by
 cases op<;>simp [eqGuard]
theorem a0Z (op:BinOp) (t:TypeId) (X Y:Operand) (m n:ByteArray):(eqGuard op t X Y (.string m) (.string n)).run P w= .ok () w:=by
 cases op<;>simp [eqGuard]
theorem a67 [Frame] {op:BinOp} {x y v:Value} (a:hG op x y=some v) (t:TypeId) (X Y:Operand):(do eqGuard op t X Y x y;binOp op t x y:Sem Value).run P w= .ok v w:=by
 cases x with
 |int k m=>
  cases y with
  |int k' n=>
   simp only [Sem.run_bind,a0i,Result.andThen_ok]
   cases op<;>simp only [hG] at a<;>(split at a<;>first| (cases a;done)|skip)<;>cases a<;>rename_i b<;>
    first
     | (obtain ⟨rfl,h0⟩:=b;simp [binOp,Op.intDiv,h0];done)
     | (subst b;simp [binOp,Op.intArith,Op.intBits,Op.intCmp];done)
     | (subst b;simp [binOp,Op.intArith,Op.intBits,Op.intCmp];rfl)
     | (simp [binOp,Op.shift,Int.not_lt.2 b];done)
  |_=>cases op<;>simp [hG] at a
 |string m=>
  cases y with
  |string n=>
   simp only [Sem.run_bind,a0Z,Result.andThen_ok]
   cases op<;>simp only [hG] at a<;>first| (cases a;done)|skip
   case add=>
    split at a
    ·rename_i b
     cases a
     c d: ¬(((m.size+n.size:Nat):Int)>IntKind.i64.max):=by
       c:IntKind.i64.max=9223372036854775807:=rfl
       rw [this]
       unfold cV at b
       omega
     simp only [binOp,Op.stringOp]
     rw [aa d]
     rfl
    ·cases a
   case eql=>cases a;simp [binOp,Op.stringOp]
   case neq=>cases a;simp [binOp,Op.stringOp]
  |_=>cases op<;>simp [hG] at a
 |_=>cases op<;>simp [hG] at a
theorem a7l [Frame] (H:bB μ h w) (E:gi μ h w f a) {o:Oper} {op:BinOp} {t ty:TypeId} {x y:Operand} {x' y':Opd} (i:o.op= .binOp op t x y ty) (j:bA x=some x') (k:bA y=some y')
 {C:ce} {ow:FuncId->List Nat} {new:Nat} {v:V} {u:Upd} (c:aM C ow (.bin op x' y') (Opd.ev f) h new=some (v,u)):ix P o a μ h w v u:=by
 b d:=bM E j
 b e:=bM E k
 simp only [aM] at c
 split at c
 ·rename_i p q l m
  rw [l] at d
  rw [m] at e
  split at c
  ·rename_i r n
   cases c
   refine .quiet H (x:=r) ?_ (.lit r)
   b:=a67 (P:=P) (w:=w) n t x y
   rw [<-de d, <-de e] at this
   simp only [execOp,i,Sem.run_bind] at this ⊢
   rw [this]
   rfl
  ·cases c
 ·cases c
theorem b0s {op:UnOp} {x v:Value} (a:Vo op x=some v):(Op.unary op x).run P w= .ok v w:=by
 cases x with
 |int k m=>cases op<;>simp [Vo] at a<;>subst a<;>simp [Op.unary,Op.intArith,Op.intBits]
 |bool b=>cases op<;>simp [Vo] at a<;>subst a<;>simp [Op.unary]
 |_=>simp [Vo] at a
theorem c4B [Frame] (H:bB μ h w) (E:gi μ h w f a) {o:Oper} {op:UnOp} {t:TypeId} {x:Operand} {x':Opd} (d:o.op= .unOp op t x) (i:bA x=some x')
 {C:ce} {ow:FuncId->List Nat} {new:Nat} {v:V} {u:Upd} (b:aM C ow (.un op x') (Opd.ev f) h new=some (v,u)):ix P o a μ h w v u:=by
 e c:=bM E i
 simp only [aM] at b
 split at b
 ·rename_i p j
  rw [j] at c
  split at b
  ·rename_i r k
   cases b
   refine .quiet H (x:=r) ?_ (.lit r)
   simp [execOp,d,de c,b0s k]
  ·cases b
 ·cases b
theorem xh [Frame] {v:V} {n:Int} {x:Value} (a:asI v=some n) (b:aY μ h w v x): ∃k,x= .int k n:=by
 cases v with
 |lit y=>
  cases y<;>simp [asI] at a
  subst a
  exact ⟨_,de b⟩
 |_=>simp [asI] at a
theorem b4Q [Frame] (H:bB μ h w) (E:gi μ h w f a) {o:Oper} {s d:TypeId} {x:Operand} {x':Opd} {k' k:IntKind} (c:o.op= .convert s d x) (l:bA x=some x') (m:P.underlying s=some (.int k')) (p:P.underlying d=some (.int k))
 {C:ce} {ow:FuncId->List Nat} {new:Nat} {v:V} {u:Upd} (b:aM C ow (.toInt k x') (Opd.ev f) h new=some (v,u)):ix P o a μ h w v u:=by
 j e:=bM E l
 simp only [aM] at b
 split at b
 ·rename_i n q
  cases b
  obtain ⟨r,i⟩:=xh q e
  refine .quiet H (x:= .int k (k.wrap n)) ?_ (.lit _)
  simp [execOp,c,i,convert,run_underlying m,run_underlying p,Conv.intToInt]
 ·cases b
theorem b3q [Frame] (H:bB μ h w) (E:gi μ h w f a) {o:Oper} {s d:TypeId} {x:Operand} {x':Opd} (e:o.op= .convert s d x) (j:bA x=some x') (k:P.underlying s=some .string) (l:P.underlying d=some .string)
 {C:ce} {ow:FuncId->List Nat} {new:Nat} {v:V} {u:Upd} (c:aM C ow (.same x') (Opd.ev f) h new=some (v,u)):ix P o a μ h w v u:=by
 i b:=bM E j
 simp only [aM] at c
 split at c
 ·rename_i n m
  cases c
  rw [m] at b
  refine .quiet H (x:= .string n) ?_ (.lit _)
  simp [execOp,e,de b,convert,run_underlying k,run_underlying l]
 ·cases c
theorem b5I [Frame] (H:bB μ h w) (E:gi μ h w f a) {o:Oper} {x:Operand} {x':Opd} (b:o.op= .move x\/o.op= .assign x) (c:bA x=some x'):ix P o a μ h w (x'.ev f) []:=by
 refine .quiet H (x:=a.eval x) ?_ (bM E c)
 rcases b with b|b<;>simp [execOp,b]
theorem b5p [Frame] (H:bB μ h w) (E:gi μ h w f a) {o:Oper} {c x y:Operand} {c' x' y':Opd} (d:o.op= .pick c x y) (k:bA c=some c') (l:bA x=some x') (m:bA y=some y')
 {C:ce} {ow:FuncId->List Nat} {new:Nat} {v:V} {u:Upd} (e:aM C ow (.pick c' x' y') (Opd.ev f) h new=some (v,u)):ix P o a μ h w v u:=by
 j b:=bM E k
 simp only [aM] at e
 split at e
 ·rename_i i
  cases e
  rw [i] at b
  exact .quiet H (x:=a.eval x) (by simp [execOp,d,de b,asBool]) (bM E l)
 ·rename_i i
  cases e
  rw [i] at b
  exact .quiet H (x:=a.eval y) (by simp [execOp,d,de b,asBool]) (bM E m)
 ·cases e
theorem b3S [Frame] {g:FuncId} {cs:List V} {x:Value} (a:aY μ h w (.fn g cs) x): ∃xs:Array Value,x= .func (.func g) #[] xs/\xs.size=cs.length/\ ∀(i:Nat) (v:V),cs[i]? =some v->aY μ h w v (xs.getD i undef):=by
 cases a with
 |fn _ _ xs b c=>exact ⟨xs,rfl,b,c⟩
theorem WP [Frame] (H:bB μ h w) (E:gi μ h w f a) {o:Oper} {x:Operand} {x':Opd} (m:o.op= .nilCheck x) (y:bA x=some x')
 {C:ce} {ow:FuncId->List Nat} {new:Nat} {v:V} {u:Upd} (e:aM C ow (.nilCheck x') (Opd.ev f) h new=some (v,u)):ix P o a μ h w v u:=by
 j d:=bM E y
 simp only [aM] at e
 split at e
 ·rename_i b i o' n p
  split at e
  ·rename_i k s
   split at e
   ·rename_i t
    cases e
    rw [p] at d
    refine .quiet H (x:=a.eval x) ?_ d
    j hi:=aq (l:=k.rows) (i:=i) (by omega)
    j h0:=Th H d s hi
    obtain ⟨c',_,q⟩:=a4S d s t.1 t.2 h0
    simp [execOp,m,q]
   ·cases e
  ·cases e
 ·rename_i r o' p
  cases e
  rw [p] at d
  obtain ⟨c,off,q,_⟩:=a2g d
  exact .quiet H (x:=a.eval x) (by simp [execOp,m,q]) d
 ·rename_i g cs p
  cases e
  rw [p] at d
  refine .quiet H (x:=a.eval x) ?_ d
  obtain ⟨xs,q,_⟩:=b3S d
  simp [execOp,m,q]
 ·cases e
theorem G2 {fd:Field} {s:Nat} (a:jB P fd.type=some (s+1)) (c off:Nat):(fieldPlace ⟨c,off,none⟩ fd).run P w= .ok ⟨c,off+fd.offset,none⟩ w:=by
 unfold fieldPlace
 simp [fD a]
 unfold Addr.add
 by_cases h0:fd.offset=0
 ·simp [h0]
 ·simp [h0]
theorem a6v [Frame] {b i o n d:Nat} {x:Value} (f:aY μ h w (.ptr b i o n) x): ∃c off,x= .pointer (some ⟨c,off,none⟩)/\aY μ h w (.ptr b i (o+d) n) (.pointer (some ⟨c,off+d,none⟩)):=by
 cases f with
 |ptr _ _ _ _ _ k j l m p q=>
  obtain ⟨c,off,rfl⟩:=m
  refine ⟨c,off,rfl,.ptr b i (o+d) n _ k j l ⟨_,_,rfl⟩ (fun r s t=> ?_) q⟩
  obtain ⟨c',e,a⟩:=p r s t
  injection a with a
  injection a with a
  injection a with u v
  subst u
  exact ⟨c,e,by rw [v,fx]⟩
theorem a0p [Frame] {row:List V} {o d:Nat} {x:Value} (e:aY μ h w (.iptr row o) x): ∃c off,x= .pointer (some ⟨c,off,none⟩)/\aY μ h w (.iptr row (o+d)) (.pointer (some ⟨c,off+d,none⟩)):=by
 cases e with
 |iptr _ _ c off ys f i b a e=>
  refine ⟨c,off+o,rfl, ?_⟩
  rw [fx]
  exact .iptr row (o+d) c off ys f i b a e
theorem c1u [Frame] (H:bB μ h w) (E:gi μ h w f a) {o:Oper} {t:TypeId} {x:Operand} {x':Opd} {n:Nat} {fs:Array Field} {fd:Field} {s:Nat} (j:o.op= .fieldAddr t x n) (hx:bA x=some x')
 (y:P.underlying t=some (.struct fs)) (z:fs[n]? =some fd) (k:jB P fd.type=some (s+1))
 {C:ce} {ow:FuncId->List Nat} {new:Nat} {v:V} {u:Upd} (l:aM C ow (.off fd.offset x') (Opd.ev f) h new=some (v,u)):ix P o a μ h w v u:=by
 have e:=bM E hx
 simp only [aM] at l
 split at l
 ·rename_i b i o' n' m
  cases l
  rw [m] at e
  obtain ⟨c,off,p,q⟩:=a6v (d:=fd.offset) e
  refine .quiet H ?_ q
  simp [execOp,j,Instr.fieldAt,run_underlying y,z,p,Instr.sureAddr,G2 k]
 ·rename_i r o' m
  cases l
  rw [m] at e
  obtain ⟨c,off,p,q⟩:=a0p (d:=fd.offset) e
  refine .quiet H ?_ q
  simp [execOp,j,Instr.fieldAt,run_underlying y,z,p,Instr.sureAddr,G2 k]
 ·cases l
theorem vh (c off n:Nat):(⟨c,off,none⟩:Addr).add n=⟨c,off+n,none⟩:=by
 unfold Addr.add
 by_cases h0:n=0
 ·simp [h0]
 ·simp [h0]
theorem a4U [Frame] (H:bB μ h w) (E:gi μ h w f a) {o:Oper} {t e:TypeId} {len:Nat} {x i:Operand} {x' i':Opd} {s:Nat} (q:o.op= .indexAddr t x i) (hx:bA x=some x') (hi:bA i=some i')
 (hu:P.underlying t=some (.array len e)) (y:jB P e=some s)
 {C:ce} {ow:FuncId->List Nat} {new:Nat} {v:V} {u:Upd} (k:aM C ow (.idxArr len s x' i') (Opd.ev f) h new=some (v,u)):ix P o a μ h w v u:=by
 p l:=bM E hx
 p hvi:=bM E hi
 simp only [aM] at k
 split at k
 ·rename_i n hn
  obtain ⟨k0,z⟩:=xh hn hvi
  split at k
  ·rename_i hc
   p hc':0<=n/\n<(len:Int):=⟨hc.1,by omega⟩
   split at k
   ·rename_i b j o' m hb
    cases k
    rw [hb] at l
    obtain ⟨c,off,he,hv⟩:=a6v (d:=n.toNat*s) l
    refine .quiet H ?_ hv
    simp [execOp,q,Instr.indexAt,run_underlying hu,he,z,Instr.sureAddr,asIntOf,hc',fD y,vh]
   ·rename_i r o' hb
    cases k
    rw [hb] at l
    obtain ⟨c,off,he,hv⟩:=a0p (d:=n.toNat*s) l
    refine .quiet H ?_ hv
    simp [execOp,q,Instr.indexAt,run_underlying hu,he,z,Instr.sureAddr,asIntOf,hc',fD y,vh]
   ·cases k
  ·cases k
 ·cases k
theorem c1h [Frame] (H:bB μ h w) (E:gi μ h w f a) {o:Oper} {t e:TypeId} {x i:Operand} {x' i':Opd} {s:Nat} (hop:o.op= .indexAddr t x i) (hx:bA x=some x') (hi:bA i=some i')
 (hu:P.underlying t=some (.slice e)) (hsz:jB P e=some s)
 {C:ce} {ow:FuncId->List Nat} {new:Nat} {v:V} {u:Upd} (l:aM C ow (.idx s x' i') (Opd.ev f) h new=some (v,u)):ix P o a μ h w v u:=by
 d p:=bM E hx
 d hvi:=bM E hi
 simp only [aM] at l
 split at l
 ·rename_i n hn
  obtain ⟨k0,hk0⟩:=xh hn hvi
  split at l
  ·rename_i h0
   split at l
   ·rename_i b st m hb
    split at l
    ·rename_i k hk
     split at l
     ·rename_i hc
      cases l
      obtain ⟨hc1,hc2,hc3,hc4⟩:=hc
      rw [hb] at p
      generalize hX:a.eval x=X at p
      cases p with
      |sl _ _ _ _ k' hk' hn' hx' hp=>
       rw [hk] at hk';cases hk'
       obtain ⟨ad,cap,rfl,hok⟩:=hp (by omega) hc3
       rcases hok with ⟨h1,_⟩|⟨c,hcm,rfl,hcap,hnc⟩
       ·omega
       ·d z:n<(m:Int):=by omega
        refine .quiet H (x:= .pointer (some ⟨c,st*k.esz+n.toNat*s,none⟩)) ?_ (.ptr _ _ _ _ _ k hk (.inr (aw _)) ⟨_,_,rfl⟩ (fun _ _ _=>⟨c,hcm, ?_⟩) (fun h=>by omega))
        ·simp [execOp,hop,Instr.indexAt,run_underlying hu,hX,hk0,asIntOf,h0,z,fD hsz,vh]
        ·rw [hc2,Nat.add_mul,cQ]
     ·cases l
    ·cases l
   ·rename_i e' rows hb
    split at l
    ·rename_i he
     subst he
     split at l
     ·rename_i row q
      cases l
      rw [hb] at p
      generalize hX:a.eval x=X at p
      d r:=cS q
      cases p with
      |emp=>simp at r
      |imm0=>simp at r
      |imm _ _ c off cap ys he hr hcp hc l hrw hcell hv=>
       d z:n<(rows.length:Int):=by omega
       d y:=hrw row (an q)
       refine .quiet H (x:= .pointer (some ⟨c,off+n.toNat*e',none⟩)) ?_ ?_
       ·simp [execOp,hop,Instr.indexAt,run_underlying hu,hX,hk0,asIntOf,h0,z,fD hsz,vh]
       ·d:=aY.iptr (μ:=μ) (h:=h) (w:=w) row 0 c (off+n.toNat*e') (fun j=>ys n.toNat j) hc l y.2 (fun j hj=>by
         rw [fx];exact hcell n.toNat j r (by rw [<-y.1];exact hj)) (fun j v hj=>hv n.toNat row j v q hj)
        simpa using this
     ·cases l
    ·cases l
   ·cases l
  ·cases l
 ·cases l
theorem b9P [Frame] (H:bB μ h w) (E:gi μ h w f a) {o:Oper} {x:Operand} {x':Opd} {n:Nat} (j:o.op= .extract x n) (k:bA x=some x')
 {C:ce} {ow:FuncId->List Nat} {new:Nat} {v:V} {u:Upd} (c:aM C ow (.ext x' n) (Opd.ev f) h new=some (v,u)):ix P o a μ h w v u:=by
 d b:=bM E k
 simp only [aM] at c
 split at c
 ·rename_i vs l
  split at c
  ·rename_i v' e
   cases c
   rw [l] at b
   generalize m:a.eval x=X at b
   cases b with
   |tup _ xs p q=>
    d i:n<xs.size:=by rw [p];exact cS e
    refine .quiet H (x:=xs.getD n undef) ?_ (q n v e)
    simp [execOp,j,Instr.extract,m,aL i,i]
  ·cases c
 ·cases c
theorem Ww [Frame] (H:bB μ h w) (E:gi μ h w f a) {o:Oper} {g:FuncId} {fst caps:Array Operand} {cs:List Opd} (c:o.op= .makeFunc (.func g) fst caps) (h0:fst.toList=[]) (d:ln caps.toList=some cs)
 {C:ce} {ow:FuncId->List Nat} {new:Nat} {v:V} {u:Upd} (q:aM C ow (.makeFunc g cs) (Opd.ev f) h new=some (v,u)):ix P o a μ h w v u:=by
 simp only [aM] at q
 cases q
 b key: ∀(l:List Operand) (cs:List Opd),ln l=some cs->cs.length=l.length/\ ∀(j:Nat) (y:Opd),cs[j]? =some y-> ∃x,l[j]? =some x/\bA x=some y:=by
   intro l
   induction l with
   |nil=>intro cs h;simp [ln] at h;subst h;exact ⟨rfl,fun j y h=>by simp at h⟩
   |cons x l ih=>
    intro cs h
    simp only [ln] at h
    split at h
    ·rename_i y r' r s
     cases h
     obtain ⟨e,l2⟩:=ih r' s
     refine ⟨by simp [e],fun j z k=> ?_⟩
     cases j with
     |zero=>simp at k;subst k;exact ⟨x,rfl,r⟩
     |succ j=>exact l2 j z (by simpa using k)
    ·cases h
 obtain ⟨e,l2⟩:=key _ _ d
 b m:fst= #[]:=by cases fst;simp at h0;subst h0;rfl
 refine .quiet H (x:= .func (.func g) #[] (caps.map a.eval)) ?_ (.fn g _ _ (by simp [e]) (fun i v hi=> ?_))
 ·simp [execOp,c,Instr.makeFunc,m]
 ·rw [aW] at hi
  cases n:cs[i]? with
  |none=>rw [n] at hi;cases hi
  |some y=>
   rw [n] at hi;cases hi
   obtain ⟨x,t,p⟩:=l2 i y n
   b:caps[i]? =some x:=by rw [<-Array.getElem?_toList];exact t
   b hv:=bM E p
   simpa [Array.getD_eq_getD_getElem?,this] using hv
theorem a38 [Frame] {cs:List V} {xs:Array Value} {g:Option Nat} {t:TypeId} {d:Nat} {v:V} (s:xs.size=cs.length) (b: ∀v∈cs,v.cell=true) (j: ∀(i:Nat) (v:V),cs[i]? =some v->aY μ h w v (xs.getD i undef))
 (l:Oo P t=some g) (c:AI.part g cs d=some v): ∃x,(Go.part t xs d).run P w= .ok x w/\aY μ h w v x:=by
 obtain ⟨k,m⟩:=a1p l w
 cases g with
 |none=>
  simp only [AI.part] at c
  a f:=cS c
  a e:d<xs.size:=by omega
  refine ⟨xs.getD d undef, ?_,j d v c⟩
  simp [Go.part,k,aL e,e]
 |some n=>
  simp only [AI.part] at c
  split at c
  ·rename_i o
   cases c
   refine ⟨.agg (xs.extract d (d+n)), ?_,.agg _ _ (by simp;omega) (fun v p=>b v (ca (cq p))) (fun i v hi=> ?_)⟩
   ·simp [Go.part,k,fD (m n rfl)]
   ·rw [j3] at hi
    split at hi
    ·rename_i q
     rw [gw] at hi
     a:=j _ v hi
     a f:=cS hi
     a e:d+i<xs.size:=by omega
     a r:i<(xs.extract d (d+n)).size:=by simp;omega
     simpa [Array.getD_eq_getD_getElem?,aL e,aL r] using this
    ·cases hi
  ·cases c
theorem a9X [Frame] (H:bB μ h w) (E:gi μ h w f a) {o:Oper} {t:TypeId} {x:Operand} {x':Opd} {n:Nat} {fs:Array Field} {fd:Field} {g:Option Nat} (e:o.op= .field t x n) (k:bA x=some x')
 (l:P.underlying t=some (.struct fs)) (m:fs[n]? =some fd) (p:Oo P fd.type=some g)
 {C:ce} {ow:FuncId->List Nat} {new:Nat} {v:V} {u:Upd} (d:aM C ow (.field fd.offset g x') (Opd.ev f) h new=some (v,u)):ix P o a μ h w v u:=by
 j b:=bM E k
 simp only [aM] at d
 split at d
 ·rename_i cs q
  split at d
  ·rename_i v' i
   cases d
   rw [q] at b
   generalize r:a.eval x=X at b
   cases b with
   |agg _ xs s c z=>
    obtain ⟨y,hy,hv⟩:=a38 s c z p i
    refine .quiet H (x:=y) ?_ hv
    simp [execOp,e,Instr.field,run_underlying l,m,r,asAgg,hy]
  ·cases d
 ·cases d
theorem b00 [Frame] (H:bB μ h w) (E:gi μ h w f a) {o:Oper} {t e:TypeId} {len:Nat} {x i:Operand} {x' i':Opd} {s:Nat} {g:Option Nat} (k:o.op= .index t x i) (hx:bA x=some x') (hi:bA i=some i')
 (hu:P.underlying t=some (.array len e)) (l:jB P e=some s) (hg:Oo P e=some g)
 {C:ce} {ow:FuncId->List Nat} {new:Nat} {v:V} {u:Upd} (b:aM C ow (.ixAgg len s g x' i') (Opd.ev f) h new=some (v,u)):ix P o a μ h w v u:=by
 c d:=bM E hx
 c m:=bM E hi
 simp only [aM] at b
 split at b
 ·rename_i cs n hb hn
  obtain ⟨k0,p⟩:=xh hn m
  split at b
  ·rename_i q
   c r:0<=n/\n<(len:Int):=⟨q.1,by omega⟩
   split at b
   ·rename_i v' z
    cases b
    rw [hb] at d
    generalize hX:a.eval x=X at d
    cases d with
    |agg _ xs hl j hc=>
     obtain ⟨y,hy,hv⟩:=a38 hl j hc hg z
     refine .quiet H (x:=y) ?_ hv
     simp [execOp,k,Instr.index,run_underlying hu,hX,p,asIntOf,r,fD l,hy]
   ·cases b
  ·cases b
 ·cases b
theorem a7Y [Frame] (H:bB μ h w) (E:gi μ h w f a) {o:Oper} {t:TypeId} {x i:Operand} {x' i':Opd} (m:o.op= .index t x i) (y:bA x=some x') (hi:bA i=some i')
 (z:P.underlying t=some .string)
 {C:ce} {ow:FuncId->List Nat} {new:Nat} {v:V} {u:Upd} (e:aM C ow (.ixStr x' i') (Opd.ev f) h new=some (v,u)):ix P o a μ h w v u:=by
 c j:=bM E y
 c p:=bM E hi
 simp only [aM] at e
 split at e
 ·rename_i s n hb hn
  obtain ⟨k0,q⟩:=xh hn p
  split at e
  ·rename_i h0
   split at e
   ·rename_i b d
    cases e
    rw [hb] at j
    c k:n.toNat<s.size:=by
      rcases cA n.toNat s.data.size with r|r
      ·exact r
      ·rw [eQ r] at d;cases d
    c l:s[n.toNat]? =some b:=by
      rw [aL k] at d
      cases d
      simp [k];rfl
    refine .quiet H (x:= .int .u8 b.toNat) ?_ (.lit _)
    simp [execOp,m,Instr.index,run_underlying z,de j,q,asIntOf,h0,l]
   ·cases e
  ·cases e
 ·cases e
theorem b1s [Frame] (H:bB μ h w) (E:gi μ h w f a) {o:Oper} {c:Call} {x y:Operand} {x' y':Opd} (l:o.op= .call c) (m:c.callee= .builtin .max) (d:c.args.toList=[x,y]) (n:bA x=some x') (r:bA y=some y')
 {C:ce} {ow:FuncId->List Nat} {new:Nat} {v:V} {u:Upd} (j:aM C ow (.max2 x' y') (Opd.ev f) h new=some (v,u)):ix P o a μ h w v u:=by
 b e:=bM E n
 b i:=bM E r
 simp only [aM] at j
 split at j
 ·rename_i k p k' q s t
  cases j
  rw [s] at e
  rw [t] at i
  b z:c.args= #[x,y]:=by rw [<-d]
  refine .quiet H (x:= .int k (if q>p then q else p)) ?_ (.lit _)
  simp [execOp,l,resolve,m,z,invoke,builtin,de e,de i,run_max_int2]
 ·cases j
theorem b2r [Frame] (H:bB μ h w) (E:gi μ h w f a) {o:Oper} {c:Call} {x y:Operand} {x' y':Opd} (l:o.op= .call c) (m:c.callee= .builtin .min) (d:c.args.toList=[x,y]) (n:bA x=some x') (r:bA y=some y')
 {C:ce} {ow:FuncId->List Nat} {new:Nat} {v:V} {u:Upd} (j:aM C ow (.min2 x' y') (Opd.ev f) h new=some (v,u)):ix P o a μ h w v u:=by
 b e:=bM E n
 b i:=bM E r
 simp only [aM] at j
 split at j
 ·rename_i k p k' q s t
  cases j
  rw [s] at e
  rw [t] at i
  b z:c.args= #[x,y]:=by rw [<-d]
  refine .quiet H (x:= .int k (if q<p then q else p)) ?_ (.lit _)
  simp [execOp,l,resolve,m,z,invoke,builtin,de e,de i,run_min_int2]
 ·cases j
end
end Go.AI
