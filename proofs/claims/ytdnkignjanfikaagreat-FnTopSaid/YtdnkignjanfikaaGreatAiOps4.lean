/- Part. -/
import Derived.Test.YtdnkignjanfikaaGreatAiRun
set_option linter.unusedVariables false
set_option linter.unusedSimpArgs false
namespace Go.AI
section
variable {P:Program} {μ:Mu} {h:ba} {w:World} {f:Nat->V} {a:Act}
theorem dw [Frame] {v x:Value} (a:b7 μ h w (.lit v) x):x=v:=by cases a;rfl
theorem ZL (op:BinOp) (t:TypeId) (X Y:Operand) (k k':IntKind) (m n:Int):(eqGuard op t X Y (.int k m) (.int k' n)).run P w= .ok () w:=by
 cases op<;>simp [eqGuard]
theorem Zd (op:BinOp) (t:TypeId) (X Y:Operand) (m n:ByteArray):(eqGuard op t X Y (.string m) (.string n)).run P w= .ok () w:=by
 cases op<;>simp [eqGuard]
theorem a2H [Frame] {op:BinOp} {x y v:Value} (a:jb op x y=some v) (t:TypeId) (X Y:Operand):(do eqGuard op t X Y x y;binOp op t x y:Sem Value).run P w= .ok v w:=by
 cases x with
 |int k m=>
  cases y with
  |int k' n=>
   simp only [Sem.run_bind,ZL,Result.andThen_ok]
   cases op<;>simp only [jb] at a<;>(split at a<;>first| (cases a;done)|skip)<;>cases a<;>rename_i hc<;>
    first
     | (obtain ⟨rfl,h0⟩:=hc;simp [binOp,Op.intDiv,h0];done)
     | (subst hc;simp [binOp,Op.intArith,Op.intBits,Op.intCmp];done)
     | (subst hc;simp [binOp,Op.intArith,Op.intBits,Op.intCmp];rfl)
     | (simp [binOp,Op.shift,Int.not_lt.2 hc];done)
  |_=>cases op<;>simp [jb] at a
 |string m=>
  cases y with
  |string n=>
   simp only [Sem.run_bind,Zd,Result.andThen_ok]
   cases op<;>simp only [jb] at a<;>first| (cases a;done)|skip
   case add=>
    split at a
    ·rename_i hc
     cases a
     have b: ¬(((m.size+n.size:Nat):Int)>IntKind.i64.max):=by
      have:IntKind.i64.max=9223372036854775807:=rfl
      rw [this]
      unfold dz at hc
      omega
     simp only [binOp,Op.stringOp]
     rw [a7 b]
     rfl
    ·cases a
   case eql=>cases a;simp [binOp,Op.stringOp]
   case neq=>cases a;simp [binOp,Op.stringOp]
  |_=>cases op<;>simp [jb] at a
 |_=>cases op<;>simp [jb] at a
theorem a5M [Frame] (H:bG μ h w) (E:ic μ h w f a) {o:Oper} {op:BinOp} {t ty:TypeId} {x y:Operand} {x' y':Opd} (e:o.op= .binOp op t x y ty) (i:bF x=some x') (j:bF y=some y')
 {C:cr} {ow:FuncId->List Nat} {new:Nat} {v:V} {u:Upd} (b:aK C ow (.bin op x' y') (Opd.ev f) h new=some (v,u)):jv P o a μ h w v u:=by
 have c:=bX E i
 have d:=bX E j
 simp only [aK] at b
 split at b
 ·rename_i p q k l
  rw [k] at c
  rw [l] at d
  split at b
  ·rename_i r m
   cases b
   refine .quiet H (x:=r) ?_ (.lit r)
   have:=a2H (P:=P) (w:=w) m t x y
   rw [<-dw c, <-dw d] at this
   simp only [execOp,e,Sem.run_bind] at this ⊢
   rw [this]
   rfl
  ·cases b
 ·cases b
theorem a84 {op:UnOp} {x v:Value} (a:Vn op x=some v):(Op.unary op x).run P w= .ok v w:=by
 cases x with
 |int k m=>cases op<;>simp [Vn] at a<;>subst a<;>simp [Op.unary,Op.intArith,Op.intBits]
 |bool b=>cases op<;>simp [Vn] at a<;>subst a<;>simp [Op.unary]
 |_=>simp [Vn] at a
theorem c3J [Frame] (H:bG μ h w) (E:ic μ h w f a) {o:Oper} {op:UnOp} {t:TypeId} {x:Operand} {x':Opd} (d:o.op= .unOp op t x) (e:bF x=some x')
 {C:cr} {ow:FuncId->List Nat} {new:Nat} {v:V} {u:Upd} (b:aK C ow (.un op x') (Opd.ev f) h new=some (v,u)):jv P o a μ h w v u:=by
 have c:=bX E e
 simp only [aK] at b
 split at b
 ·rename_i p i
  rw [i] at c
  split at b
  ·rename_i r j
   cases b
   refine .quiet H (x:=r) ?_ (.lit r)
   simp [execOp,d,dw c,a84 j]
  ·cases b
 ·cases b
theorem zH [Frame] {v:V} {n:Int} {x:Value} (a:asI v=some n) (b:b7 μ h w v x): ∃k,x= .int k n:=by
 cases v with
 |lit y=>
  cases y<;>simp [asI] at a
  subst a
  exact ⟨_,dw b⟩
 |_=>simp [asI] at a
theorem b3B [Frame] (H:bG μ h w) (E:ic μ h w f a) {o:Oper} {s d:TypeId} {x:Operand} {x':Opd} {k' k:IntKind} (c:o.op= .convert s d x) (j:bF x=some x') (l:P.underlying s=some (.int k')) (m:P.underlying d=some (.int k))
 {C:cr} {ow:FuncId->List Nat} {new:Nat} {v:V} {u:Upd} (b:aK C ow (.toInt k x') (Opd.ev f) h new=some (v,u)):jv P o a μ h w v u:=by
 have e:=bX E j
 simp only [aK] at b
 split at b
 ·rename_i n hn
  cases b
  obtain ⟨p,i⟩:=zH hn e
  refine .quiet H (x:= .int k (k.wrap n)) ?_ (.lit _)
  simp [execOp,c,i,convert,run_underlying l,run_underlying m,Conv.intToInt]
 ·cases b
theorem b1n [Frame] (H:bG μ h w) (E:ic μ h w f a) {o:Oper} {s d:TypeId} {x:Operand} {x':Opd} (e:o.op= .convert s d x) (i:bF x=some x') (j:P.underlying s=some .string) (k:P.underlying d=some .string)
 {C:cr} {ow:FuncId->List Nat} {new:Nat} {v:V} {u:Upd} (c:aK C ow (.same x') (Opd.ev f) h new=some (v,u)):jv P o a μ h w v u:=by
 have b:=bX E i
 simp only [aK] at c
 split at c
 ·rename_i n hn
  cases c
  rw [hn] at b
  refine .quiet H (x:= .string n) ?_ (.lit _)
  simp [execOp,e,dw b,convert,run_underlying j,run_underlying k]
 ·cases c
theorem b1C [Frame] (H:bG μ h w) (E:ic μ h w f a) {o:Oper} {x:Operand} {x':Opd} (b:o.op= .move x\/o.op= .assign x) (c:bF x=some x'):jv P o a μ h w (x'.ev f) []:=by
 refine .quiet H (x:=a.eval x) ?_ (bX E c)
 rcases b with b|b<;>simp [execOp,b]
theorem b5q [Frame] (H:bG μ h w) (E:ic μ h w f a) {o:Oper} {c x y:Operand} {c' x' y':Opd} (d:o.op= .pick c x y) (hc:bF c=some c') (j:bF x=some x') (k:bF y=some y')
 {C:cr} {ow:FuncId->List Nat} {new:Nat} {v:V} {u:Upd} (e:aK C ow (.pick c' x' y') (Opd.ev f) h new=some (v,u)):jv P o a μ h w v u:=by
 have b:=bX E hc
 simp only [aK] at e
 split at e
 ·rename_i i
  cases e
  rw [i] at b
  exact .quiet H (x:=a.eval x) (by simp [execOp,d,dw b,asBool]) (bX E j)
 ·rename_i i
  cases e
  rw [i] at b
  exact .quiet H (x:=a.eval y) (by simp [execOp,d,dw b,asBool]) (bX E k)
 ·cases e
theorem b2m [Frame] {g:FuncId} {cs:List V} {x:Value} (a:b7 μ h w (.fn g cs) x): ∃xs:Array Value,x= .func (.func g) #[] xs/\xs.size=cs.length/\ ∀(i:Nat) (v:V),cs[i]? =some v->b7 μ h w v (xs.getD i undef):=by
 cases a with
 |fn _ _ xs b hc=>exact ⟨xs,rfl,b,hc⟩
theorem Y8 [Frame] (H:bG μ h w) (E:ic μ h w f a) {o:Oper} {x:Operand} {x':Opd} (j:o.op= .nilCheck x) (s:bF x=some x')
 {C:cr} {ow:FuncId->List Nat} {new:Nat} {v:V} {u:Upd} (e:aK C ow (.nilCheck x') (Opd.ev f) h new=some (v,u)):jv P o a μ h w v u:=by
 have d:=bX E s
 simp only [aK] at e
 split at e
 ·rename_i b i o' n m
  split at e
  ·rename_i k q
   split at e
   ·rename_i hc
    cases e
    rw [m] at d
    refine .quiet H (x:=a.eval x) ?_ d
    have hi:=aq (l:=k.rows) (i:=i) om
    have h0:=Qx H d q hi
    obtain ⟨c',_,p⟩:=a3d d q hc.1 hc.2 h0
    simp [execOp,j,p]
   ·cases e
  ·cases e
 ·rename_i r o' m
  cases e
  rw [m] at d
  obtain ⟨c,off,p,_⟩:=YH d
  exact .quiet H (x:=a.eval x) (by simp [execOp,j,p]) d
 ·rename_i g cs m
  cases e
  rw [m] at d
  refine .quiet H (x:=a.eval x) ?_ d
  obtain ⟨xs,p,_⟩:=b2m d
  simp [execOp,j,p]
 ·cases e
theorem FG {fd:Field} {s:Nat} (a:lj P fd.type=some (s+1)) (c off:Nat):(fieldPlace ⟨c,off,none⟩ fd).run P w= .ok ⟨c,off+fd.offset,none⟩ w:=by
 unfold fieldPlace
 simp [gx a]
 unfold Addr.add
 by_cases h0:fd.offset=0
 ·simp [h0]
 ·simp [h0]
theorem a61 [Frame] {b i o n d:Nat} {x:Value} (f:b7 μ h w (.ptr b i o n) x): ∃c off,x= .pointer (some ⟨c,off,none⟩)/\b7 μ h w (.ptr b i (o+d) n) (.pointer (some ⟨c,off+d,none⟩)):=by
 cases f with
 |ptr _ _ _ _ _ k j hn l m p=>
  obtain ⟨c,off,rfl⟩:=l
  refine ⟨c,off,rfl,.ptr b i (o+d) n _ k j hn ⟨_,_,rfl⟩ (fun q r s=> ?_) p⟩
  obtain ⟨c',e,a⟩:=m q r s
  injection a with a
  injection a with a
  injection a with t u
  subst t
  exact ⟨c,e,by rw [u,gt]⟩
theorem a1l [Frame] {row:List V} {o d:Nat} {x:Value} (e:b7 μ h w (.iptr row o) x): ∃c off,x= .pointer (some ⟨c,off,none⟩)/\b7 μ h w (.iptr row (o+d)) (.pointer (some ⟨c,off+d,none⟩)):=by
 cases e with
 |iptr _ _ c off ys hc f b a e=>
  refine ⟨c,off+o,rfl, ?_⟩
  rw [gt]
  exact .iptr row (o+d) c off ys hc f b a e
theorem b9F [Frame] (H:bG μ h w) (E:ic μ h w f a) {o:Oper} {t:TypeId} {x:Operand} {x':Opd} {n:Nat} {fs:Array Field} {fd:Field} {s:Nat} (j:o.op= .fieldAddr t x n) (hx:bF x=some x')
 (y:P.underlying t=some (.struct fs)) (z:fs[n]? =some fd) (k:lj P fd.type=some (s+1))
 {C:cr} {ow:FuncId->List Nat} {new:Nat} {v:V} {u:Upd} (l:aK C ow (.off fd.offset x') (Opd.ev f) h new=some (v,u)):jv P o a μ h w v u:=by
 have e:=bX E hx
 simp only [aK] at l
 split at l
 ·rename_i b i o' n' m
  cases l
  rw [m] at e
  obtain ⟨c,off,p,q⟩:=a61 (d:=fd.offset) e
  refine .quiet H ?_ q
  simp [execOp,j,Instr.fieldAt,run_underlying y,z,p,Instr.sureAddr,FG k]
 ·rename_i r o' m
  cases l
  rw [m] at e
  obtain ⟨c,off,p,q⟩:=a1l (d:=fd.offset) e
  refine .quiet H ?_ q
  simp [execOp,j,Instr.fieldAt,run_underlying y,z,p,Instr.sureAddr,FG k]
 ·cases l
theorem yc (c off n:Nat):(⟨c,off,none⟩:Addr).add n=⟨c,off+n,none⟩:=by
 unfold Addr.add
 by_cases h0:n=0
 ·simp [h0]
 ·simp [h0]
theorem a2T [Frame] (H:bG μ h w) (E:ic μ h w f a) {o:Oper} {t e:TypeId} {len:Nat} {x i:Operand} {x' i':Opd} {s:Nat} (p:o.op= .indexAddr t x i) (hx:bF x=some x') (hi:bF i=some i')
 (hu:P.underlying t=some (.array len e)) (q:lj P e=some s)
 {C:cr} {ow:FuncId->List Nat} {new:Nat} {v:V} {u:Upd} (k:aK C ow (.idxArr len s x' i') (Opd.ev f) h new=some (v,u)):jv P o a μ h w v u:=by
 have l:=bX E hx
 have hvi:=bX E hi
 simp only [aK] at k
 split at k
 ·rename_i n hn
  obtain ⟨k0,y⟩:=zH hn hvi
  split at k
  ·rename_i hc
   have z:0<=n/\n<(len:Int):=⟨hc.1,by omega⟩
   split at k
   ·rename_i b j o' m hb
    cases k
    rw [hb] at l
    obtain ⟨c,off,he,hv⟩:=a61 (d:=n.toNat*s) l
    refine .quiet H ?_ hv
    simp [execOp,p,Instr.indexAt,run_underlying hu,he,y,Instr.sureAddr,asIntOf,z,gx q,yc]
   ·rename_i r o' hb
    cases k
    rw [hb] at l
    obtain ⟨c,off,he,hv⟩:=a1l (d:=n.toNat*s) l
    refine .quiet H ?_ hv
    simp [execOp,p,Instr.indexAt,run_underlying hu,he,y,Instr.sureAddr,asIntOf,z,gx q,yc]
   ·cases k
  ·cases k
 ·cases k
theorem b9O [Frame] (H:bG μ h w) (E:ic μ h w f a) {o:Oper} {t e:TypeId} {x i:Operand} {x' i':Opd} {s:Nat} (hop:o.op= .indexAddr t x i) (hx:bF x=some x') (hi:bF i=some i')
 (hu:P.underlying t=some (.slice e)) (hsz:lj P e=some s)
 {C:cr} {ow:FuncId->List Nat} {new:Nat} {v:V} {u:Upd} (d:aK C ow (.idx s x' i') (Opd.ev f) h new=some (v,u)):jv P o a μ h w v u:=by
 have l:=bX E hx
 have hvi:=bX E hi
 simp only [aK] at d
 split at d
 ·rename_i n hn
  obtain ⟨k0,hk0⟩:=zH hn hvi
  split at d
  ·rename_i h0
   split at d
   ·rename_i b st m hb
    split at d
    ·rename_i k hk
     split at d
     ·rename_i hc
      cases d
      obtain ⟨hc1,hc2,hc3,hc4⟩:=hc
      rw [hb] at l
      generalize hX:a.eval x=X at l
      cases l with
      |sl _ _ _ _ k' hk' hn' hx' hp=>
       rw [hk] at hk';cases hk'
       obtain ⟨ad,cap,rfl,hok⟩:=hp om hc3
       rcases hok with ⟨h1,_⟩|⟨c,hcm,rfl,hcap,hnc⟩
       ·omega
       ·have y:n<(m:Int):=by omega
        refine .quiet H (x:= .pointer (some ⟨c,st*k.esz+n.toNat*s,none⟩)) ?_ (.ptr _ _ _ _ _ k hk (.inr (am _)) ⟨_,_,rfl⟩ (fun _ _ _=>⟨c,hcm, ?_⟩) (fun h=>by omega))
        ·simp [execOp,hop,Instr.indexAt,run_underlying hu,hX,hk0,asIntOf,h0,y,gx hsz,yc]
        ·rw [hc2,Nat.add_mul,cH]
     ·cases d
    ·cases d
   ·rename_i e' rows hb
    split at d
    ·rename_i he
     subst he
     split at d
     ·rename_i row p
      cases d
      rw [hb] at l
      generalize hX:a.eval x=X at l
      have q:=dg p
      cases l with
      |emp=>simp at q
      |imm0=>simp at q
      |imm _ _ c off cap ys he hr hcp hc d hrw z hv=>
       have y:n<(rows.length:Int):=by omega
       have r:=hrw row (al p)
       refine .quiet H (x:= .pointer (some ⟨c,off+n.toNat*e',none⟩)) ?_ ?_
       ·simp [execOp,hop,Instr.indexAt,run_underlying hu,hX,hk0,asIntOf,h0,y,gx hsz,yc]
       ·have:=b7.iptr (μ:=μ) (h:=h) (w:=w) row 0 c (off+n.toNat*e') (fun j=>ys n.toNat j) hc d r.2 (fun j hj=>by
         rw [gt];exact z n.toNat j q (by rw [<-r.1];exact hj)) (fun j v hj=>hv n.toNat row j v p hj)
        simpa using this
     ·cases d
    ·cases d
   ·cases d
  ·cases d
 ·cases d
theorem b8J [Frame] (H:bG μ h w) (E:ic μ h w f a) {o:Oper} {x:Operand} {x':Opd} {n:Nat} (i:o.op= .extract x n) (j:bF x=some x')
 {C:cr} {ow:FuncId->List Nat} {new:Nat} {v:V} {u:Upd} (c:aK C ow (.ext x' n) (Opd.ev f) h new=some (v,u)):jv P o a μ h w v u:=by
 have b:=bX E j
 simp only [aK] at c
 split at c
 ·rename_i vs k
  split at c
  ·rename_i v' d
   cases c
   rw [k] at b
   generalize l:a.eval x=X at b
   cases b with
   |tup _ xs m hc=>
    have e:n<xs.size:=by rw [m];exact dg d
    refine .quiet H (x:=xs.getD n undef) ?_ (hc n v d)
    simp [execOp,i,Instr.extract,l,aH e,e]
  ·cases c
 ·cases c
theorem Wh [Frame] (H:bG μ h w) (E:ic μ h w f a) {o:Oper} {g:FuncId} {fst caps:Array Operand} {cs:List Opd} (b:o.op= .makeFunc (.func g) fst caps) (h0:fst.toList=[]) (c:nG caps.toList=some cs)
 {C:cr} {ow:FuncId->List Nat} {new:Nat} {v:V} {u:Upd} (p:aK C ow (.makeFunc g cs) (Opd.ev f) h new=some (v,u)):jv P o a μ h w v u:=by
 simp only [aK] at p
 cases p
 have key: ∀(l:List Operand) (cs:List Opd),nG l=some cs->cs.length=l.length/\ ∀(j:Nat) (y:Opd),cs[j]? =some y-> ∃x,l[j]? =some x/\bF x=some y:=by
  intro l
  induction l with
  |nil=>intro cs h;simp [nG] at h;subst h;exact ⟨rfl,fun j y h=>by simp at h⟩
  |cons x l ih=>
   intro cs h
   simp only [nG] at h
   split at h
   ·rename_i y r' q r
    cases h
    obtain ⟨d,l2⟩:=ih r' r
    refine ⟨by simp [d],fun j z e=> ?_⟩
    cases j with
    |zero=>simp at e;subst e;exact ⟨x,rfl,q⟩
    |succ j=>exact l2 j z (by simpa using e)
   ·cases h
 obtain ⟨d,l2⟩:=key _ _ c
 have k:fst= #[]:=by cases fst;simp at h0;subst h0;rfl
 refine .quiet H (x:= .func (.func g) #[] (caps.map a.eval)) ?_ (.fn g _ _ (by simp [d]) (fun i v hi=> ?_))
 ·simp [execOp,b,Instr.makeFunc,k]
 ·rw [b6] at hi
  cases m:cs[i]? with
  |none=>rw [m] at hi;cases hi
  |some y=>
   rw [m] at hi;cases hi
   obtain ⟨x,s,n⟩:=l2 i y m
   have:caps[i]? =some x:=by rw [<-Array.getElem?_toList];exact s
   have t:=bX E n
   simpa [Array.getD_eq_getD_getElem?,this] using t
theorem a1f [Frame] {cs:List V} {xs:Array Value} {g:Option Nat} {t:TypeId} {d:Nat} {v:V} (p:xs.size=cs.length) (a: ∀v∈cs,v.cell=true) (hc: ∀(i:Nat) (v:V),cs[i]? =some v->b7 μ h w v (xs.getD i undef))
 (j:Pr P t=some g) (b:AI.part g cs d=some v): ∃x,(Go.part t xs d).run P w= .ok x w/\b7 μ h w v x:=by
 obtain ⟨f,hn⟩:=ZF j w
 cases g with
 |none=>
  simp only [AI.part] at b
  have e:=dg b
  have c:d<xs.size:=by omega
  refine ⟨xs.getD d undef, ?_,hc d v b⟩
  simp [Go.part,f,aH c,c]
 |some n=>
  simp only [AI.part] at b
  split at b
  ·rename_i k
   cases b
   refine ⟨.agg (xs.extract d (d+n)), ?_,.agg _ _ (by simp;omega) (fun v l=>a v (bZ (cm l))) (fun i v hi=> ?_)⟩
   ·simp [Go.part,f,gx (hn n rfl)]
   ·rw [kw] at hi
    split at hi
    ·rename_i m
     rw [fZ] at hi
     have:=hc _ v hi
     have e:=dg hi
     have c:d+i<xs.size:=by omega
     have o:i<(xs.extract d (d+n)).size:=by simp;omega
     simpa [Array.getD_eq_getD_getElem?,aH c,aH o] using this
    ·cases hi
  ·cases b
theorem a9s [Frame] (H:bG μ h w) (E:ic μ h w f a) {o:Oper} {t:TypeId} {x:Operand} {x':Opd} {n:Nat} {fs:Array Field} {fd:Field} {g:Option Nat} (e:o.op= .field t x n) (j:bF x=some x')
 (k:P.underlying t=some (.struct fs)) (l:fs[n]? =some fd) (m:Pr P fd.type=some g)
 {C:cr} {ow:FuncId->List Nat} {new:Nat} {v:V} {u:Upd} (d:aK C ow (.field fd.offset g x') (Opd.ev f) h new=some (v,u)):jv P o a μ h w v u:=by
 have b:=bX E j
 simp only [aK] at d
 split at d
 ·rename_i cs p
  split at d
  ·rename_i v' i
   cases d
   rw [p] at b
   generalize q:a.eval x=X at b
   cases b with
   |agg _ xs r c hc=>
    obtain ⟨y,s,z⟩:=a1f r c hc m i
    refine .quiet H (x:=y) ?_ z
    simp [execOp,e,Instr.field,run_underlying k,l,q,asAgg,s]
  ·cases d
 ·cases d
theorem a6A [Frame] (H:bG μ h w) (E:ic μ h w f a) {o:Oper} {t e:TypeId} {len:Nat} {x i:Operand} {x' i':Opd} {s:Nat} {g:Option Nat} (j:o.op= .index t x i) (z:bF x=some x') (hi:bF i=some i')
 (hu:P.underlying t=some (.array len e)) (k:lj P e=some s) (hg:Pr P e=some g)
 {C:cr} {ow:FuncId->List Nat} {new:Nat} {v:V} {u:Upd} (b:aK C ow (.ixAgg len s g x' i') (Opd.ev f) h new=some (v,u)):jv P o a μ h w v u:=by
 have c:=bX E z
 have l:=bX E hi
 simp only [aK] at b
 split at b
 ·rename_i cs n hb hn
  obtain ⟨k0,m⟩:=zH hn l
  split at b
  ·rename_i p
   have q:0<=n/\n<(len:Int):=⟨p.1,by omega⟩
   split at b
   ·rename_i v' r
    cases b
    rw [hb] at c
    generalize hX:a.eval x=X at c
    cases c with
    |agg _ xs hl d hc=>
     obtain ⟨y,hy,hv⟩:=a1f hl d hc hg r
     refine .quiet H (x:=y) ?_ hv
     simp [execOp,j,Instr.index,run_underlying hu,hX,m,asIntOf,q,gx k,hy]
   ·cases b
  ·cases b
 ·cases b
theorem a91 [Frame] (H:bG μ h w) (E:ic μ h w f a) {o:Oper} {t:TypeId} {x i:Operand} {x' i':Opd} (l:o.op= .index t x i) (r:bF x=some x') (hi:bF i=some i')
 (y:P.underlying t=some .string)
 {C:cr} {ow:FuncId->List Nat} {new:Nat} {v:V} {u:Upd} (d:aK C ow (.ixStr x' i') (Opd.ev f) h new=some (v,u)):jv P o a μ h w v u:=by
 have e:=bX E r
 have m:=bX E hi
 simp only [aK] at d
 split at d
 ·rename_i s n z hn
  obtain ⟨k0,p⟩:=zH hn m
  split at d
  ·rename_i h0
   split at d
   ·rename_i b c
    cases d
    rw [z] at e
    have j:n.toNat<s.size:=by
     rcases dc n.toNat s.data.size with q|q
     ·exact q
     ·rw [fG q] at c;cases c
    have k:s[n.toNat]? =some b:=by
     rw [aH j] at c
     cases c
     simp [j];rfl
    refine .quiet H (x:= .int .u8 b.toNat) ?_ (.lit _)
    simp [execOp,l,Instr.index,run_underlying y,dw e,p,asIntOf,h0,k]
   ·cases d
  ·cases d
 ·cases d
theorem b1p [Frame] (H:bG μ h w) (E:ic μ h w f a) {o:Oper} {c:Call} {x y:Operand} {x' y':Opd} (j:o.op= .call c) (l:c.callee= .builtin .max) (b:c.args.toList=[x,y]) (m:bF x=some x') (n:bF y=some y')
 {C:cr} {ow:FuncId->List Nat} {new:Nat} {v:V} {u:Upd} (i:aK C ow (.max2 x' y') (Opd.ev f) h new=some (v,u)):jv P o a μ h w v u:=by
 have d:=bX E m
 have e:=bX E n
 simp only [aK] at i
 split at i
 ·rename_i k p k' q r s
  cases i
  rw [r] at d
  rw [s] at e
  have t:c.args= #[x,y]:=by rw [<-b]
  refine .quiet H (x:= .int k (if q>p then q else p)) ?_ (.lit _)
  simp [execOp,j,resolve,l,t,invoke,builtin,dw d,dw e,run_max_int2]
 ·cases i
theorem b06 [Frame] (H:bG μ h w) (E:ic μ h w f a) {o:Oper} {c:Call} {x y:Operand} {x' y':Opd} (j:o.op= .call c) (l:c.callee= .builtin .min) (b:c.args.toList=[x,y]) (m:bF x=some x') (n:bF y=some y')
 {C:cr} {ow:FuncId->List Nat} {new:Nat} {v:V} {u:Upd} (i:aK C ow (.min2 x' y') (Opd.ev f) h new=some (v,u)):jv P o a μ h w v u:=by
 have d:=bX E m
 have e:=bX E n
 simp only [aK] at i
 split at i
 ·rename_i k p k' q r s
  cases i
  rw [r] at d
  rw [s] at e
  have t:c.args= #[x,y]:=by rw [<-b]
  refine .quiet H (x:= .int k (if q<p then q else p)) ?_ (.lit _)
  simp [execOp,j,resolve,l,t,invoke,builtin,dw d,dw e,run_min_int2]
 ·cases i
end
end Go.AI
