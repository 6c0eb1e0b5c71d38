/- Part. -/
import Derived.Test.YtdnkignjanfikaaGreatAiRun
set_option linter.unusedVariables false
set_option linter.unusedSimpArgs false
namespace Go.AI
section
variable {P:Program} {μ:Mu} {h:b8} {w:World} {f:Nat->V} {a:Act}
theorem dd [Frame] {v x:Value} (a:aY μ h w (.lit v) x):x=v:=by cases a;rfl
theorem a2n (op:BinOp) (t:TypeId) (X Y:Operand) (k k':IntKind) (m n:Int):(eqGuard op t X Y (.int k m) (.int k' n)).run P w= .ok () w:=by
 cases op<;>simp [eqGuard]
theorem ZY (op:BinOp) (t:TypeId) (X Y:Operand) (m n:ByteArray):(eqGuard op t X Y (.string m) (.string n)).run P w= .ok () w:=by
 cases op<;>simp [eqGuard]
theorem a5y [Frame] {op:BinOp} {x y v:Value} (a:gX op x y=some v) (t:TypeId) (X Y:Operand):(do eqGuard op t X Y x y;binOp op t x y:Sem Value).run P w= .ok v w:=by
 cases x with
 |int k m=>
  cases y with
  |int k' n=>
   simp only [Sem.run_bind,a2n,Result.andThen_ok]
   cases op<;>simp only [gX] at a<;>(split at a<;>first| (cases a;done)|skip)<;>cases a<;>rename_i hc<;>
    first
     | (obtain ⟨rfl,h0⟩:=hc;simp [binOp,Op.intDiv,h0];done)
     | (subst hc;simp [binOp,Op.intArith,Op.intBits,Op.intCmp];done)
     | (subst hc;simp [binOp,Op.intArith,Op.intBits,Op.intCmp];rfl)
     | (simp [binOp,Op.shift,Int.not_lt.2 hc];done)
  |_=>cases op<;>simp [gX] at a
 |string m=>
  cases y with
  |string n=>
   simp only [Sem.run_bind,ZY,Result.andThen_ok]
   cases op<;>simp only [gX] at a<;>first| (cases a;done)|skip
   case add=>
    split at a
    ·rename_i hc
     cases a
     have b: ¬(((m.size+n.size:Nat):Int)>IntKind.i64.max):=by
      have:IntKind.i64.max=9223372036854775807:=rfl
      rw [this]
      unfold cX at hc
      omega
     simp only [binOp,Op.stringOp]
     rw [aa b]
     rfl
    ·cases a
   case eql=>cases a;simp [binOp,Op.stringOp]
   case neq=>cases a;simp [binOp,Op.stringOp]
  |_=>cases op<;>simp [gX] at a
 |_=>cases op<;>simp [gX] at a
theorem a6w [Frame] (H:bB μ h w) (E:gg μ h w f a) {o:Oper} {op:BinOp} {t ty:TypeId} {x y:Operand} {x' y':Opd} (e:o.op= .binOp op t x y ty) (i:bA x=some x') (j:bA y=some y')
 {C:ce} {ow:FuncId->List Nat} {new:Nat} {v:V} {u:Upd} (b:aM C ow (.bin op x' y') (Opd.ev f) h new=some (v,u)):ix P o a μ h w v u:=by
 have c:=bM E i
 have d:=bM E j
 simp only [aM] at b
 split at b
 ·rename_i p q k l
  rw [k] at c
  rw [l] at d
  split at b
  ·rename_i r m
   cases b
   refine .quiet H (x:=r) ?_ (.lit r)
   have:=a5y (P:=P) (w:=w) m t x y
   rw [<-dd c, <-dd d] at this
   simp only [execOp,e,Sem.run_bind] at this ⊢
   rw [this]
   rfl
  ·cases b
 ·cases b
theorem b0L {op:UnOp} {x v:Value} (a:VD op x=some v):(Op.unary op x).run P w= .ok v w:=by
 cases x with
 |int k m=>cases op<;>simp [VD] at a<;>subst a<;>simp [Op.unary,Op.intArith,Op.intBits]
 |bool b=>cases op<;>simp [VD] at a<;>subst a<;>simp [Op.unary]
 |_=>simp [VD] at a
theorem c3N [Frame] (H:bB μ h w) (E:gg μ h w f a) {o:Oper} {op:UnOp} {t:TypeId} {x:Operand} {x':Opd} (d:o.op= .unOp op t x) (e:bA x=some x')
 {C:ce} {ow:FuncId->List Nat} {new:Nat} {v:V} {u:Upd} (b:aM C ow (.un op x') (Opd.ev f) h new=some (v,u)):ix P o a μ h w v u:=by
 have c:=bM E e
 simp only [aM] at b
 split at b
 ·rename_i p i
  rw [i] at c
  split at b
  ·rename_i r j
   cases b
   refine .quiet H (x:=r) ?_ (.lit r)
   simp [execOp,d,dd c,b0L j]
  ·cases b
 ·cases b
theorem wK [Frame] {v:V} {n:Int} {x:Value} (a:asI v=some n) (b:aY μ h w v x): ∃k,x= .int k n:=by
 cases v with
 |lit y=>
  cases y<;>simp [asI] at a
  subst a
  exact ⟨_,dd b⟩
 |_=>simp [asI] at a
theorem b3N [Frame] (H:bB μ h w) (E:gg μ h w f a) {o:Oper} {s d:TypeId} {x:Operand} {x':Opd} {k' k:IntKind} (c:o.op= .convert s d x) (j:bA x=some x') (l:P.underlying s=some (.int k')) (m:P.underlying d=some (.int k))
 {C:ce} {ow:FuncId->List Nat} {new:Nat} {v:V} {u:Upd} (b:aM C ow (.toInt k x') (Opd.ev f) h new=some (v,u)):ix P o a μ h w v u:=by
 have e:=bM E j
 simp only [aM] at b
 split at b
 ·rename_i n hn
  cases b
  obtain ⟨p,i⟩:=wK hn e
  refine .quiet H (x:= .int k (k.wrap n)) ?_ (.lit _)
  simp [execOp,c,i,convert,run_underlying l,run_underlying m,Conv.intToInt]
 ·cases b
theorem b3Q [Frame] (H:bB μ h w) (E:gg μ h w f a) {o:Oper} {s d:TypeId} {x:Operand} {x':Opd} (e:o.op= .convert s d x) (i:bA x=some x') (j:P.underlying s=some .string) (k:P.underlying d=some .string)
 {C:ce} {ow:FuncId->List Nat} {new:Nat} {v:V} {u:Upd} (c:aM C ow (.same x') (Opd.ev f) h new=some (v,u)):ix P o a μ h w v u:=by
 have b:=bM E i
 simp only [aM] at c
 split at c
 ·rename_i n hn
  cases c
  rw [hn] at b
  refine .quiet H (x:= .string n) ?_ (.lit _)
  simp [execOp,e,dd b,convert,run_underlying j,run_underlying k]
 ·cases c
theorem b1N [Frame] (H:bB μ h w) (E:gg μ h w f a) {o:Oper} {x:Operand} {x':Opd} (b:o.op= .move x\/o.op= .assign x) (c:bA x=some x'):ix P o a μ h w (x'.ev f) []:=by
 refine .quiet H (x:=a.eval x) ?_ (bM E c)
 rcases b with b|b<;>simp [execOp,b]
theorem b5H [Frame] (H:bB μ h w) (E:gg μ h w f a) {o:Oper} {c x y:Operand} {c' x' y':Opd} (d:o.op= .pick c x y) (hc:bA c=some c') (j:bA x=some x') (k:bA y=some y')
 {C:ce} {ow:FuncId->List Nat} {new:Nat} {v:V} {u:Upd} (e:aM C ow (.pick c' x' y') (Opd.ev f) h new=some (v,u)):ix P o a μ h w v u:=by
 have b:=bM E hc
 simp only [aM] at e
 split at e
 ·rename_i i
  cases e
  rw [i] at b
  exact .quiet H (x:=a.eval x) (by simp [execOp,d,dd b,asBool]) (bM E j)
 ·rename_i i
  cases e
  rw [i] at b
  exact .quiet H (x:=a.eval y) (by simp [execOp,d,dd b,asBool]) (bM E k)
 ·cases e
theorem b42 [Frame] {g:FuncId} {cs:List V} {x:Value} (a:aY μ h w (.fn g cs) x): ∃xs:Array Value,x= .func (.func g) #[] xs/\xs.size=cs.length/\ ∀(i:Nat) (v:V),cs[i]? =some v->aY μ h w v (xs.getD i undef):=by
 cases a with
 |fn _ _ xs b hc=>exact ⟨xs,rfl,b,hc⟩
theorem Xr [Frame] (H:bB μ h w) (E:gg μ h w f a) {o:Oper} {x:Operand} {x':Opd} (j:o.op= .nilCheck x) (s:bA x=some x')
 {C:ce} {ow:FuncId->List Nat} {new:Nat} {v:V} {u:Upd} (e:aM C ow (.nilCheck x') (Opd.ev f) h new=some (v,u)):ix P o a μ h w v u:=by
 have d:=bM E s
 simp only [aM] at e
 split at e
 ·rename_i b i o' n m
  split at e
  ·rename_i k q
   split at e
   ·rename_i hc
    cases e
    rw [m] at d
    refine .quiet H (x:=a.eval x) ?_ d
    have hi:=aq (l:=k.rows) (i:=i) (by omega)
    have h0:=RG H d q hi
    obtain ⟨c',_,p⟩:=a3N d q hc.1 hc.2 h0
    simp [execOp,j,p]
   ·cases e
  ·cases e
 ·rename_i r o' m
  cases e
  rw [m] at d
  obtain ⟨c,off,p,_⟩:=a0S d
  exact .quiet H (x:=a.eval x) (by simp [execOp,j,p]) d
 ·rename_i g cs m
  cases e
  rw [m] at d
  refine .quiet H (x:=a.eval x) ?_ d
  obtain ⟨xs,p,_⟩:=b42 d
  simp [execOp,j,p]
 ·cases e
theorem Gx {fd:Field} {s:Nat} (a:jI P fd.type=some (s+1)) (c off:Nat):(fieldPlace ⟨c,off,none⟩ fd).run P w= .ok ⟨c,off+fd.offset,none⟩ w:=by
 unfold fieldPlace
 simp [fC a]
 unfold Addr.add
 by_cases h0:fd.offset=0
 ·simp [h0]
 ·simp [h0]
theorem a6R [Frame] {b i o n d:Nat} {x:Value} (f:aY μ h w (.ptr b i o n) x): ∃c off,x= .pointer (some ⟨c,off,none⟩)/\aY μ h w (.ptr b i (o+d) n) (.pointer (some ⟨c,off+d,none⟩)):=by
 cases f with
 |ptr _ _ _ _ _ k j hn l m p=>
  obtain ⟨c,off,rfl⟩:=l
  refine ⟨c,off,rfl,.ptr b i (o+d) n _ k j hn ⟨_,_,rfl⟩ (fun q r s=> ?_) p⟩
  obtain ⟨c',e,a⟩:=m q r s
  injection a with a
  injection a with a
  injection a with t u
  subst t
  exact ⟨c,e,by rw [u,fu]⟩
theorem ZZ [Frame] {row:List V} {o d:Nat} {x:Value} (e:aY μ h w (.iptr row o) x): ∃c off,x= .pointer (some ⟨c,off,none⟩)/\aY μ h w (.iptr row (o+d)) (.pointer (some ⟨c,off+d,none⟩)):=by
 cases e with
 |iptr _ _ c off ys hc f b a e=>
  refine ⟨c,off+o,rfl, ?_⟩
  rw [fu]
  exact .iptr row (o+d) c off ys hc f b a e
theorem c0m [Frame] (H:bB μ h w) (E:gg μ h w f a) {o:Oper} {t:TypeId} {x:Operand} {x':Opd} {n:Nat} {fs:Array Field} {fd:Field} {s:Nat} (j:o.op= .fieldAddr t x n) (hx:bA x=some x')
 (y:P.underlying t=some (.struct fs)) (z:fs[n]? =some fd) (k:jI P fd.type=some (s+1))
 {C:ce} {ow:FuncId->List Nat} {new:Nat} {v:V} {u:Upd} (l:aM C ow (.off fd.offset x') (Opd.ev f) h new=some (v,u)):ix P o a μ h w v u:=by
 have e:=bM E hx
 simp only [aM] at l
 split at l
 ·rename_i b i o' n' m
  cases l
  rw [m] at e
  obtain ⟨c,off,p,q⟩:=a6R (d:=fd.offset) e
  refine .quiet H ?_ q
  simp [execOp,j,Instr.fieldAt,run_underlying y,z,p,Instr.sureAddr,Gx k]
 ·rename_i r o' m
  cases l
  rw [m] at e
  obtain ⟨c,off,p,q⟩:=ZZ (d:=fd.offset) e
  refine .quiet H ?_ q
  simp [execOp,j,Instr.fieldAt,run_underlying y,z,p,Instr.sureAddr,Gx k]
 ·cases l
theorem uX (c off n:Nat):(⟨c,off,none⟩:Addr).add n=⟨c,off+n,none⟩:=by
 unfold Addr.add
 by_cases h0:n=0
 ·simp [h0]
 ·simp [h0]
theorem a4W [Frame] (H:bB μ h w) (E:gg μ h w f a) {o:Oper} {t e:TypeId} {len:Nat} {x i:Operand} {x' i':Opd} {s:Nat} (p:o.op= .indexAddr t x i) (hx:bA x=some x') (hi:bA i=some i')
 (hu:P.underlying t=some (.array len e)) (q:jI P e=some s)
 {C:ce} {ow:FuncId->List Nat} {new:Nat} {v:V} {u:Upd} (k:aM C ow (.idxArr len s x' i') (Opd.ev f) h new=some (v,u)):ix P o a μ h w v u:=by
 have l:=bM E hx
 have hvi:=bM E hi
 simp only [aM] at k
 split at k
 ·rename_i n hn
  obtain ⟨k0,y⟩:=wK hn hvi
  split at k
  ·rename_i hc
   have z:0<=n/\n<(len:Int):=⟨hc.1,by omega⟩
   split at k
   ·rename_i b j o' m hb
    cases k
    rw [hb] at l
    obtain ⟨c,off,he,hv⟩:=a6R (d:=n.toNat*s) l
    refine .quiet H ?_ hv
    simp [execOp,p,Instr.indexAt,run_underlying hu,he,y,Instr.sureAddr,asIntOf,z,fC q,uX]
   ·rename_i r o' hb
    cases k
    rw [hb] at l
    obtain ⟨c,off,he,hv⟩:=ZZ (d:=n.toNat*s) l
    refine .quiet H ?_ hv
    simp [execOp,p,Instr.indexAt,run_underlying hu,he,y,Instr.sureAddr,asIntOf,z,fC q,uX]
   ·cases k
  ·cases k
 ·cases k
theorem b7y [Frame] (H:bB μ h w) (E:gg μ h w f a) {o:Oper} {t e:TypeId} {x i:Operand} {x' i':Opd} {s:Nat} (hop:o.op= .indexAddr t x i) (hx:bA x=some x') (hi:bA i=some i')
 (hu:P.underlying t=some (.slice e)) (hsz:jI P e=some s)
 {C:ce} {ow:FuncId->List Nat} {new:Nat} {v:V} {u:Upd} (d:aM C ow (.idx s x' i') (Opd.ev f) h new=some (v,u)):ix P o a μ h w v u:=by
 have l:=bM E hx
 have hvi:=bM E hi
 simp only [aM] at d
 split at d
 ·rename_i n hn
  obtain ⟨k0,hk0⟩:=wK hn hvi
  split at d
  ·rename_i h0
   split at d
   ·rename_i b st m hb
    split at d
    ·rename_i k hk
     split at d
     ·rename_i hc
      cases d
      obtain ⟨hc1,hc2,hc3,hc4⟩:=hc
      rw [hb] at l
      generalize hX:a.eval x=X at l
      cases l with
      |sl _ _ _ _ k' hk' hn' hx' hp=>
       rw [hk] at hk';cases hk'
       obtain ⟨ad,cap,rfl,hok⟩:=hp (by omega) hc3
       rcases hok with ⟨h1,_⟩|⟨c,hcm,rfl,hcap,hnc⟩
       ·omega
       ·have y:n<(m:Int):=by omega
        refine .quiet H (x:= .pointer (some ⟨c,st*k.esz+n.toNat*s,none⟩)) ?_ (.ptr _ _ _ _ _ k hk (.inr (aw _)) ⟨_,_,rfl⟩ (fun _ _ _=>⟨c,hcm, ?_⟩) (fun h=>by omega))
        ·simp [execOp,hop,Instr.indexAt,run_underlying hu,hX,hk0,asIntOf,h0,y,fC hsz,uX]
        ·rw [hc2,Nat.add_mul,cQ]
     ·cases d
    ·cases d
   ·rename_i e' rows hb
    split at d
    ·rename_i he
     subst he
     split at d
     ·rename_i row p
      cases d
      rw [hb] at l
      generalize hX:a.eval x=X at l
      have q:=cS p
      cases l with
      |emp=>simp at q
      |imm0=>simp at q
      |imm _ _ c off cap ys he hr hcp hc d hrw z hv=>
       have y:n<(rows.length:Int):=by omega
       have r:=hrw row (an p)
       refine .quiet H (x:= .pointer (some ⟨c,off+n.toNat*e',none⟩)) ?_ ?_
       ·simp [execOp,hop,Instr.indexAt,run_underlying hu,hX,hk0,asIntOf,h0,y,fC hsz,uX]
       ·have:=aY.iptr (μ:=μ) (h:=h) (w:=w) row 0 c (off+n.toNat*e') (fun j=>ys n.toNat j) hc d r.2 (fun j hj=>by
         rw [fu];exact z n.toNat j q (by rw [<-r.1];exact hj)) (fun j v hj=>hv n.toNat row j v p hj)
        simpa using this
     ·cases d
    ·cases d
   ·cases d
  ·cases d
 ·cases d
theorem c1A [Frame] (H:bB μ h w) (E:gg μ h w f a) {o:Oper} {x:Operand} {x':Opd} {n:Nat} (i:o.op= .extract x n) (j:bA x=some x')
 {C:ce} {ow:FuncId->List Nat} {new:Nat} {v:V} {u:Upd} (c:aM C ow (.ext x' n) (Opd.ev f) h new=some (v,u)):ix P o a μ h w v u:=by
 have b:=bM E j
 simp only [aM] at c
 split at c
 ·rename_i vs k
  split at c
  ·rename_i v' d
   cases c
   rw [k] at b
   generalize l:a.eval x=X at b
   cases b with
   |tup _ xs m hc=>
    have e:n<xs.size:=by rw [m];exact cS d
    refine .quiet H (x:=xs.getD n undef) ?_ (hc n v d)
    simp [execOp,i,Instr.extract,l,aL e,e]
  ·cases c
 ·cases c
theorem ZC [Frame] (H:bB μ h w) (E:gg μ h w f a) {o:Oper} {g:FuncId} {fst caps:Array Operand} {cs:List Opd} (b:o.op= .makeFunc (.func g) fst caps) (h0:fst.toList=[]) (c:l9 caps.toList=some cs)
 {C:ce} {ow:FuncId->List Nat} {new:Nat} {v:V} {u:Upd} (p:aM C ow (.makeFunc g cs) (Opd.ev f) h new=some (v,u)):ix P o a μ h w v u:=by
 simp only [aM] at p
 cases p
 have key: ∀(l:List Operand) (cs:List Opd),l9 l=some cs->cs.length=l.length/\ ∀(j:Nat) (y:Opd),cs[j]? =some y-> ∃x,l[j]? =some x/\bA x=some y:=by
  intro l
  induction l with
  |nil=>intro cs h;simp [l9] at h;subst h;exact ⟨rfl,fun j y h=>by simp at h⟩
  |cons x l ih=>
   intro cs h
   simp only [l9] at h
   split at h
   ·rename_i y r' q r
    cases h
    obtain ⟨d,l2⟩:=ih r' r
    refine ⟨by simp [d],fun j z e=> ?_⟩
    cases j with
    |zero=>simp at e;subst e;exact ⟨x,rfl,q⟩
    |succ j=>exact l2 j z (by simpa using e)
   ·cases h
 obtain ⟨d,l2⟩:=key _ _ c
 have k:fst= #[]:=by cases fst;simp at h0;subst h0;rfl
 refine .quiet H (x:= .func (.func g) #[] (caps.map a.eval)) ?_ (.fn g _ _ (by simp [d]) (fun i v hi=> ?_))
 ·simp [execOp,b,Instr.makeFunc,k]
 ·rw [aW] at hi
  cases m:cs[i]? with
  |none=>rw [m] at hi;cases hi
  |some y=>
   rw [m] at hi;cases hi
   obtain ⟨x,s,n⟩:=l2 i y m
   have:caps[i]? =some x:=by rw [<-Array.getElem?_toList];exact s
   have t:=bM E n
   simpa [Array.getD_eq_getD_getElem?,this] using t
theorem a1D [Frame] {cs:List V} {xs:Array Value} {g:Option Nat} {t:TypeId} {d:Nat} {v:V} (p:xs.size=cs.length) (a: ∀v∈cs,v.cell=true) (hc: ∀(i:Nat) (v:V),cs[i]? =some v->aY μ h w v (xs.getD i undef))
 (j:Oi P t=some g) (b:AI.part g cs d=some v): ∃x,(Go.part t xs d).run P w= .ok x w/\aY μ h w v x:=by
 obtain ⟨f,hn⟩:=a01 j w
 cases g with
 |none=>
  simp only [AI.part] at b
  have e:=cS b
  have c:d<xs.size:=by omega
  refine ⟨xs.getD d undef, ?_,hc d v b⟩
  simp [Go.part,f,aL c,c]
 |some n=>
  simp only [AI.part] at b
  split at b
  ·rename_i k
   cases b
   refine ⟨.agg (xs.extract d (d+n)), ?_,.agg _ _ (by simp;omega) (fun v l=>a v (bZ (cq l))) (fun i v hi=> ?_)⟩
   ·simp [Go.part,f,fC (hn n rfl)]
   ·rw [j6] at hi
    split at hi
    ·rename_i m
     rw [gq] at hi
     have:=hc _ v hi
     have e:=cS hi
     have c:d+i<xs.size:=by omega
     have o:i<(xs.extract d (d+n)).size:=by simp;omega
     simpa [Array.getD_eq_getD_getElem?,aL c,aL o] using this
    ·cases hi
  ·cases b
theorem a7U [Frame] (H:bB μ h w) (E:gg μ h w f a) {o:Oper} {t:TypeId} {x:Operand} {x':Opd} {n:Nat} {fs:Array Field} {fd:Field} {g:Option Nat} (e:o.op= .field t x n) (j:bA x=some x')
 (k:P.underlying t=some (.struct fs)) (l:fs[n]? =some fd) (m:Oi P fd.type=some g)
 {C:ce} {ow:FuncId->List Nat} {new:Nat} {v:V} {u:Upd} (d:aM C ow (.field fd.offset g x') (Opd.ev f) h new=some (v,u)):ix P o a μ h w v u:=by
 have b:=bM E j
 simp only [aM] at d
 split at d
 ·rename_i cs p
  split at d
  ·rename_i v' i
   cases d
   rw [p] at b
   generalize q:a.eval x=X at b
   cases b with
   |agg _ xs r c hc=>
    obtain ⟨y,s,z⟩:=a1D r c hc m i
    refine .quiet H (x:=y) ?_ z
    simp [execOp,e,Instr.field,run_underlying k,l,q,asAgg,s]
  ·cases d
 ·cases d
theorem a8m [Frame] (H:bB μ h w) (E:gg μ h w f a) {o:Oper} {t e:TypeId} {len:Nat} {x i:Operand} {x' i':Opd} {s:Nat} {g:Option Nat} (j:o.op= .index t x i) (z:bA x=some x') (hi:bA i=some i')
 (hu:P.underlying t=some (.array len e)) (k:jI P e=some s) (hg:Oi P e=some g)
 {C:ce} {ow:FuncId->List Nat} {new:Nat} {v:V} {u:Upd} (b:aM C ow (.ixAgg len s g x' i') (Opd.ev f) h new=some (v,u)):ix P o a μ h w v u:=by
 have c:=bM E z
 have l:=bM E hi
 simp only [aM] at b
 split at b
 ·rename_i cs n hb hn
  obtain ⟨k0,m⟩:=wK hn l
  split at b
  ·rename_i p
   have q:0<=n/\n<(len:Int):=⟨p.1,by omega⟩
   split at b
   ·rename_i v' r
    cases b
    rw [hb] at c
    generalize hX:a.eval x=X at c
    cases c with
    |agg _ xs hl d hc=>
     obtain ⟨y,hy,hv⟩:=a1D hl d hc hg r
     refine .quiet H (x:=y) ?_ hv
     simp [execOp,j,Instr.index,run_underlying hu,hX,m,asIntOf,q,fC k,hy]
   ·cases b
  ·cases b
 ·cases b
theorem b0G [Frame] (H:bB μ h w) (E:gg μ h w f a) {o:Oper} {t:TypeId} {x i:Operand} {x' i':Opd} (l:o.op= .index t x i) (r:bA x=some x') (hi:bA i=some i')
 (y:P.underlying t=some .string)
 {C:ce} {ow:FuncId->List Nat} {new:Nat} {v:V} {u:Upd} (d:aM C ow (.ixStr x' i') (Opd.ev f) h new=some (v,u)):ix P o a μ h w v u:=by
 have e:=bM E r
 have m:=bM E hi
 simp only [aM] at d
 split at d
 ·rename_i s n z hn
  obtain ⟨k0,p⟩:=wK hn m
  split at d
  ·rename_i h0
   split at d
   ·rename_i b c
    cases d
    rw [z] at e
    have j:n.toNat<s.size:=by
     rcases cx n.toNat s.data.size with q|q
     ·exact q
     ·rw [eK q] at c;cases c
    have k:s[n.toNat]? =some b:=by
     rw [aL j] at c
     cases c
     simp [j];rfl
    refine .quiet H (x:= .int .u8 b.toNat) ?_ (.lit _)
    simp [execOp,l,Instr.index,run_underlying y,dd e,p,asIntOf,h0,k]
   ·cases d
  ·cases d
 ·cases d
theorem b35 [Frame] (H:bB μ h w) (E:gg μ h w f a) {o:Oper} {c:Call} {x y:Operand} {x' y':Opd} (j:o.op= .call c) (l:c.callee= .builtin .max) (b:c.args.toList=[x,y]) (m:bA x=some x') (n:bA y=some y')
 {C:ce} {ow:FuncId->List Nat} {new:Nat} {v:V} {u:Upd} (i:aM C ow (.max2 x' y') (Opd.ev f) h new=some (v,u)):ix P o a μ h w v u:=by
 have d:=bM E m
 have e:=bM E n
 simp only [aM] at i
 split at i
 ·rename_i k p k' q r s
  cases i
  rw [r] at d
  rw [s] at e
  have t:c.args= #[x,y]:=by rw [<-b]
  refine .quiet H (x:= .int k (if q>p then q else p)) ?_ (.lit _)
  simp [execOp,j,resolve,l,t,invoke,builtin,dd d,dd e,run_max_int2]
 ·cases i
theorem b5A [Frame] (H:bB μ h w) (E:gg μ h w f a) {o:Oper} {c:Call} {x y:Operand} {x' y':Opd} (j:o.op= .call c) (l:c.callee= .builtin .min) (b:c.args.toList=[x,y]) (m:bA x=some x') (n:bA y=some y')
 {C:ce} {ow:FuncId->List Nat} {new:Nat} {v:V} {u:Upd} (i:aM C ow (.min2 x' y') (Opd.ev f) h new=some (v,u)):ix P o a μ h w v u:=by
 have d:=bM E m
 have e:=bM E n
 simp only [aM] at i
 split at i
 ·rename_i k p k' q r s
  cases i
  rw [r] at d
  rw [s] at e
  have t:c.args= #[x,y]:=by rw [<-b]
  refine .quiet H (x:= .int k (if q<p then q else p)) ?_ (.lit _)
  simp [execOp,j,resolve,l,t,invoke,builtin,dd d,dd e,run_min_int2]
 ·cases i
end
end Go.AI
