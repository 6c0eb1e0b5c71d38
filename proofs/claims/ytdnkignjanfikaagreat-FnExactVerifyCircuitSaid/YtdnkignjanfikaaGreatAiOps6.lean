/- Part. -/
import Derived.Test.YtdnkignjanfikaaGreatAiOps5
import Derived.Lib.SliceRun
set_option linter.unusedVariables false
set_option linter.unusedSimpArgs false
namespace Go.AI
section
variable {P:Program} {μ:Mu} {h:b8} {w:World} {f:Nat->V} {a:Act}
theorem a7C [Frame] (H:bB μ h w) (E:gi μ h w f a) {o:Oper} {op:BinOp} {t ty:TypeId} {x y:Operand} {x' y':Opd} {neg:Bool} (d:o.op= .binOp op t x y ty) (l:bA x=some x') (m:bA y=some y') (n:P.underlying t=some .bool)
 (b:op=if neg then .neq else .eql) {C:ce} {ow:FuncId->List Nat} {new:Nat} {v:V} {u:Upd} (j:aM C ow (.beq neg x' y') (Opd.ev f) h new=some (v,u)):ix P o a μ h w v u:=by
 c e:=bM E l
 c i:=bM E m
 simp only [aM] at j
 split at j
 ·rename_i p q r s
  rw [r] at e
  rw [s] at i
  cases j
  refine .quiet H (x:= .bool (if neg then p !=q else p==q)) ?_ (.lit _)
  c e1:(Op.equal t (.bool p) (.bool q)).run P w= .ok (p==q) w:=Go.run_equalIn_bool' w 9999 t p q n
  c e2:=de e
  c k:=de i
  cases neg with
  |false=>
   simp only [bx,if_false] at b
   subst b
   simp only [execOp,d,e2,k,Sem.run_bind,eqGuard,binOp,Sem.run_pure,Result.andThen_ok]
   simp [e1]
  |true=>
   simp only [if_true] at b
   subst b
   simp only [execOp,d,e2,k,Sem.run_bind,eqGuard,binOp,Sem.run_pure,Result.andThen_ok]
   simp [e1]
   cases p<;>cases q<;>rfl
 ·cases j
theorem Wf [Frame] (H:bB μ h w) (E:gi μ h w f a) {o:Oper} {op:BinOp} {t ty e:TypeId} {x y:Operand} {x':Opd} {neg:Bool} (j:o.op= .binOp op t x y ty) (q:bA x=some x') (r:bA y=some (.c (.slice none 0 0))) (s:P.underlying t=some (.slice e))
 (d:op=if neg then .neq else .eql) {C:ce} {ow:FuncId->List Nat} {new:Nat} {v:V} {u:Upd} (k:aM C ow (.isNil neg x') (Opd.ev f) h new=some (v,u)):ix P o a μ h w v u:=by
 b i:=bM E q
 b l:=de (bM E r)
 b key: ∀(ad:Option Addr) (m cap:Nat),a.eval x= .slice ad m cap->ix P o a μ h w (.lit (.bool (if neg then !ad.isNone else ad.isNone))) []:=by
   intro ad m cap p
   b e1:(Op.equal t (.slice ad m cap) (.slice none 0 0)).run P w= .ok ad.isNone w:=by
     simp [Op.equal,Op.maxDepth,Go.Lib.run_equalIn_slice_nil w 9999 t e ad m cap 0 0 s]
   refine .quiet H (x:= .bool (if neg then !ad.isNone else ad.isNone)) ?_ (.lit _)
   cases neg with
   |false=>
    simp only [bx,if_false] at d
    subst d
    simp only [execOp,j,p,l,Sem.run_bind,eqGuard,binOp,Sem.run_pure,Result.andThen_ok]
    simp [e1]
   |true=>
    simp only [if_true] at d
    subst d
    simp only [execOp,j,p,l,Sem.run_bind,eqGuard,binOp,Sem.run_pure,Result.andThen_ok]
    simp [e1]
 simp only [aM] at k
 split at k
 ·rename_i ad m cap n
  rw [n] at i
  cases k
  exact key ad m cap (de i)
 ·rename_i e0 row rows n
  rw [n] at i
  cases k
  generalize z:a.eval x=X at i
  cases i with
  |imm _ _ c off cap=>
   b:=key _ _ _ z
   b e2:(if neg=true then !(some (⟨c,off,none⟩:Addr)).isNone else (some (⟨c,off,none⟩:Addr)).isNone)=neg:=by cases neg<;>rfl
   rw [e2] at this
   exact this
 ·cases k
theorem b45 [Frame] (H:bB μ h w) (E:gi μ h w f a) {o:Oper} {c:Call} {t:TypeId} {x:Operand} {x':Opd} (k:o.op= .call c) (l:c.callee= .builtin .len) (b:c.args.toList=[x]) (m:bA x=some x')
 (n:c.argTypes[0]? =some t) (p:P.underlying t=some .string)
 {C:ce} {ow:FuncId->List Nat} {new:Nat} {v:V} {u:Upd} (j:aM C ow (.len true x') (Opd.ev f) h new=some (v,u)):ix P o a μ h w v u:=by
 d e:=bM E m
 d q:c.args= #[x]:=by rw [<-b]
 simp only [aM] at j
 split at j
 ·rename_i s _ r
  cases j
  rw [r] at e
  refine .quiet H (x:= .int .i64 s.size) ?_ (.lit _)
  simp [execOp,k,resolve,l,q,invoke,builtin,Builtin.len_,n,run_underlying p,de e,goInt]
 ·rename_i i _;cases i
 ·rename_i i _;cases i
 ·rename_i i _;cases i
 ·cases j
theorem b2q [Frame] (H:bB μ h w) (E:gi μ h w f a) {o:Oper} {c:Call} {t e:TypeId} {x:Operand} {x':Opd} (q:o.op= .call c) (r:c.callee= .builtin .len) (j:c.args.toList=[x]) (y:bA x=some x')
 (z:c.argTypes[0]? =some t) (hu:P.underlying t=some (.slice e))
 {C:ce} {ow:FuncId->List Nat} {new:Nat} {v:V} {u:Upd} (m:aM C ow (.len false x') (Opd.ev f) h new=some (v,u)):ix P o a μ h w v u:=by
 i d:=bM E y
 i ha:c.args= #[x]:=by rw [<-j]
 i run: ∀(n:Nat) ad cap,a.eval x= .slice ad n cap->(execOp a.eval o).run P w= .ok (.value (.int .i64 n)) w:=by
   intro n ad cap l
   simp [execOp,q,resolve,r,ha,invoke,builtin,Builtin.len_,z,run_underlying hu,l,goInt]
 simp only [aM] at m
 split at m
 ·rename_i h1 _;cases h1
 ·rename_i ad n cap _ p
  cases m
  rw [p] at d
  exact .quiet H (run n ad cap (de d)) (.lit _)
 ·rename_i b s n _ p
  cases m
  rw [p] at d
  generalize l:a.eval x=X at d
  cases d with
  |sl _ _ _ _ k hk hn y hp=>obtain ⟨ad,cap,rfl⟩:=y;exact .quiet H (run n ad cap l) (.lit _)
 ·rename_i e rows _ p
  cases m
  rw [p] at d
  generalize l:a.eval x=X at d
  cases d with
  |emp ad=>exact .quiet H (run 0 ad 0 l) (.lit _)
  |imm0 _ ad cap=>exact .quiet H (run 0 ad cap l) (.lit _)
  |imm _ _ c off cap=>exact .quiet H (run _ _ cap l) (.lit _)
 ·cases m
theorem a4B [Frame] (H:bB μ h w) (E:gi μ h w f a) {o:Oper} {c:Call} {t e:TypeId} {n:Nat} {x:Operand} {x':Opd} (d:o.op= .call c) (i:c.callee= .builtin .len) (b:c.args.toList=[x]) (q:bA x=some x')
 (l:c.argTypes[0]? =some t) (m:P.underlying t=some (.array n e))
 {C:ce} {ow:FuncId->List Nat} {new:Nat} {v:V} {u:Upd} (j:aM C ow (.lenArr n x') (Opd.ev f) h new=some (v,u)):ix P o a μ h w v u:=by
 k p:c.args= #[x]:=by rw [<-b]
 simp only [aM] at j
 cases j
 refine .quiet H (x:= .int .i64 n) ?_ (.lit _)
 simp [execOp,d,resolve,i,p,invoke,builtin,Builtin.len_,l,run_underlying m,goInt]
theorem a6N {X:Array Value} {n:Nat} (h:n<X.size):X[n]? =some (X.getD n undef):=by
 rw [Array.getD_eq_getD_getElem?,aL h];rfl
theorem a0S {xs ys:List V} {r:Bool} (h:ft [] xs ys=some r):xs=[]/\ys=[]/\r=true:=by
 cases xs with
 |nil=>
  cases ys with
  |nil=>simp [ft] at h;exact ⟨rfl,rfl,h⟩
  |cons y ys=>simp [ft] at h
 |cons x xs=>simp [ft] at h
theorem a0t {ks:List Bool} {xs ys:List V} {r:Bool} (h:ft (true::ks) xs ys=some r):
 ∃k m n xs' ys',xs= .lit (.int k m)::xs'/\ys= .lit (.int k n)::ys'/\((m=n/\ft ks xs' ys'=some r)\/(m≠n/\r=false)):=by
 unfold ft at h
 split at h
 ·rename_i a;cases a
 ·rename_i ks1 k m xs' k' n ys' a
  cases a
  by_cases c:k=k'
  ·subst c
   rw [ae rfl] at h
   by_cases b:m=n
   ·rw [ae b] at h;exact ⟨k,m,n,xs',ys',rfl,rfl,.inl ⟨b,h⟩⟩
   ·rw [aa b] at h;injection h with h;exact ⟨k,m,n,xs',ys',rfl,rfl,.inr ⟨b,h.symm⟩⟩
  ·rw [aa c] at h;cases h
 ·rename_i a;cases a
 ·cases h
theorem a1D {ks:List Bool} {xs ys:List V} {r:Bool} (h:ft (false::ks) xs ys=some r):
 ∃m n xs' ys',xs= .lit (.string m)::xs'/\ys= .lit (.string n)::ys'/\((m=n/\ft ks xs' ys'=some r)\/(m≠n/\r=false)):=by
 unfold ft at h
 split at h
 ·rename_i a;cases a
 ·rename_i a;cases a
 ·rename_i ks1 m xs' n ys' a
  cases a
  by_cases b:m=n
  ·rw [ae b] at h;exact ⟨m,n,xs',ys',rfl,rfl,.inl ⟨b,h⟩⟩
  ·rw [aa b] at h;injection h with h;exact ⟨m,n,xs',ys',rfl,rfl,.inr ⟨b,h.symm⟩⟩
 ·cases h
theorem LM [Frame] {d:Nat}: ∀(fs:List Field) (n:Nat) (ks:List Bool) (xs ys:List V) (X Y:Array Value) (r:Bool),o5 P n fs=some ks->
 (∀j v,xs[j]? =some v->aY μ h w v (X.getD (n+j) undef))->(∀j v,ys[j]? =some v->aY μ h w v (Y.getD (n+j) undef))->
 X.size=n+xs.length->Y.size=n+ys.length->ft ks xs ys=some r->(Op.eqFields (d+1) X Y fs).run P w= .ok r w
 |[],n,ks,xs,ys,X,Y,r,f,_,_,_,_,he=>by
  simp [o5] at f
  subst f
  obtain ⟨_,_,rfl⟩:=a0S he
  simp [Op.eqFields]
 |fd::fs,n,ks,xs,ys,X,Y,r,f,hx,hy,p,q,he=>by
  simp only [o5] at f
  split at f
  ·rename_i p0
   simp only [aD,bne_iff_ne,ne_eq,beq_iff_eq] at p0
   obtain ⟨p1,p2⟩:=p0
   a step: ∀(x y:V) (xs' ys':List V) (ks':List Bool),xs=x::xs'->ys=y::ys'->o5 P (n+1) fs=some ks'-> ∀r,ft ks' xs' ys'=some r->
    (Op.eqFields (d+1) X Y fs).run P w= .ok r w:=by
     intro x y xs' ys' ks' e1 e2 e3 r he2
     subst e1 e2
     simp only [ah] at p q
     exact LM (d:=d) fs (n+1) ks' xs' ys' X Y r e3 (fun j v hj=>by a:=hx (j+1) v (by simpa using hj);rwa [show n+(j+1)=n+1+j by omega] at this)
      (fun j v hj=>by a:=hy (j+1) v (by simpa using hj);rwa [show n+(j+1)=n+1+j by omega] at this) (by omega) (by omega) he2
   a parts: ∀(x y:V) (xs' ys':List V),xs=x::xs'->ys=y::ys'->(isAgg fd.type).run P w= .ok false w->
    (Go.part fd.type X fd.offset).run P w= .ok (X.getD n undef) w/\(Go.part fd.type Y fd.offset).run P w= .ok (Y.getD n undef) w/\aY μ h w x (X.getD n undef)/\aY μ h w y (Y.getD n undef):=by
     intro x y xs' ys' e1 e2 i
     subst e1 e2
     simp only [ah] at p q
     a s:=hx 0 x rfl
     a t:=hy 0 y rfl
     simp only [cQ] at s t
     refine ⟨?_, ?_,s,t⟩
     ·simp only [Go.part,Sem.run_bind,i,Result.andThen_ok,p2,bx,if_false,a6N (show n<X.size by omega),Sem.run_pure]
     ·simp only [Go.part,Sem.run_bind,i,Result.andThen_ok,p2,bx,if_false,a6N (show n<Y.size by omega),Sem.run_pure]
   split at f
   ·rename_i k0 ks' u l
    cases f
    obtain ⟨k,m,m',xs',ys',rfl,rfl,b⟩:=a0t he
    obtain ⟨z,g2,g3,g4⟩:=parts _ _ _ _ rfl rfl (by simp [isAgg,run_underlying u])
    rw [de g3] at z
    rw [de g4] at g2
    simp only [Op.eqFields,Sem.run_ite]
    rw [ae p1]
    simp only [Sem.run_bind,z,g2,Result.andThen_ok,run_equalIn_int w d fd.type k k0 m m' u]
    rcases b with ⟨c,o⟩|⟨c,rfl⟩
    ·simp only [c,beq_self_eq_true,aH,bx,if_false]
     exact step _ _ _ _ _ rfl rfl l r o
    ·a:(m==m')=false:=by simpa using c
     simp [this]
   ·rename_i ks' u l
    cases f
    obtain ⟨m,m',xs',ys',rfl,rfl,b⟩:=a1D he
    obtain ⟨z,g2,g3,g4⟩:=parts _ _ _ _ rfl rfl (by simp [isAgg,run_underlying u])
    rw [de g3] at z
    rw [de g4] at g2
    simp only [Op.eqFields,Sem.run_ite]
    rw [ae p1]
    simp only [Sem.run_bind,z,g2,Result.andThen_ok,run_equalIn_string w d fd.type m m' u]
    rcases b with ⟨c,o⟩|⟨c,rfl⟩
    ·simp only [c,beq_self_eq_true,aH,bx,if_false]
     exact step _ _ _ _ _ rfl rfl l r o
    ·a:(m.toList==m'.toList)=false:=by
      rw [ByteArray.toList_eq,ByteArray.toList_eq,beq_eq_false_iff_ne]
      intro e
      apply c
      cases m;cases m'
      congr 1
      exact eV e
     simp [this]
   ·cases f
  ·cases f
theorem Vm [Frame] (H:bB μ h w) (E:gi μ h w f a) {o:Oper} {op:BinOp} {t ty:TypeId} {x y:Operand} {x' y':Opd} {fs:Array Field} {ks:List Bool} {neg:Bool} (l:o.op= .binOp op t x y ty) (hx:bA x=some x') (hy:bA y=some y')
 (hu:P.underlying t=some (.struct fs)) (q:P.stoodInHeld t=false) (m:P.eqGuardType P.depth t=false) (s:o5 P 0 fs.toList=some ks) (n:op=if neg then .neq else .eql)
 {C:ce} {ow:FuncId->List Nat} {new:Nat} {v:V} {u:Upd} (k:aM C ow (.eqAgg neg ks x' y') (Opd.ev f) h new=some (v,u)):ix P o a μ h w v u:=by
 b e:=bM E hx
 b i:=bM E hy
 simp only [aM] at k
 split at k
 ·rename_i xs ys z hby
  split at k
  ·rename_i r hr
   cases k
   rw [z] at e
   rw [hby] at i
   generalize hX:a.eval x=X0 at e
   generalize hY:a.eval y=Y0 at i
   cases e with
   |agg _ X hlx hcx hrx=>
    cases i with
    |agg _ Y hly hcy hry=>
     b p:P.fieldsOf t=fs:=by simp [Program.fieldsOf,hu]
     b c:(Op.equal t (.agg X) (.agg Y)).run P w= .ok r w:=by
       show (Op.equalIn (9999+1) t (.agg X) (.agg Y)).run P w=_
       rw [run_equalIn_struct w 9999 t X Y (by rw [p];exact hu) q,p]
       exact LM (d:=9998) fs.toList 0 ks xs ys X Y r s (fun j v hj=>by simpa using hrx j v hj) (fun j v hj=>by simpa using hry j v hj) (by omega) (by omega) hr
     refine .quiet H (x:= .bool (if neg then !r else r)) ?_ (.lit _)
     subst n
     cases neg
     ·simp [execOp,l,hX,hY,eqGuard,m,binOp,c]
     ·simp [execOp,l,hX,hY,eqGuard,m,binOp,c]
  ·cases k
 ·cases k
theorem QK [Frame] {z:List Value} {zv:Value} {esz n:Nat} (f:zv.cells.toList=z) (d:z.length=esz) (h0:0<esz) {i j:Nat} {row:List V} {v:V}
 (hi:(List.replicate n (z.map zc))[i]? =some row) (b:row[j]? =some v):row=z.map zc/\ ∃y,zv.cells[j]? =some y/\v=zc y/\j<esz/\i<n:=by
 e a:=cS hi
 simp only [aS] at a
 rw [List.getElem?_replicate,ae a] at hi
 cases hi
 rw [aW] at b
 cases c:z[j]? with
 |none=>rw [c] at b;cases b
 |some y=>
  rw [c] at b;cases b
  exact ⟨rfl,y,by rw [<-Array.getElem?_toList,f];exact c,rfl,by rw [<-d];exact cS c,a⟩
theorem IN {z:Array Value} {n i:Nat} (h:i<n) (b:0<z.size):(madeCells z n).getD i undef=z.getD (i%z.size) undef:=by
 a c:=gq i b
 simp [madeCells,h,c]
theorem TQ [Frame] (H:bB μ h w) (E:gi μ h w f a) {o:Oper} {t e:TypeId} {i:TypeInfo} {z:List Value} {l c:Operand} {l' c':Opd} (hop:o.op= .makeSlice t l c) (hl:bA l=some l') (hc:bA c=some c')
 (he:P.underlying t=some (.slice e)) (hi:P.info? e=some i) (hz:C6 P e=some z)
 {C:ce} {ow:FuncId->List Nat} {new:Nat} {v:V} {u:Upd} (p:aM C ow (.makeSlice i.size i.bytes z l' c') (Opd.ev f) h new=some (v,u)):ix P o a μ h w v u:=by
 b hvl:=bM E hl
 b hvc:=bM E hc
 simp only [aM] at p
 split at p
 ·rename_i n m hn hm
  split at p
  ·rename_i d
   obtain ⟨c1,c2,c3,c4,c5,c6⟩:=d
   obtain ⟨q,h0,hr⟩:=rb p
   cases hr
   obtain ⟨kl,hkl⟩:=xh hn hvl
   obtain ⟨kc,hkc⟩:=xh hm hvc
   obtain ⟨i',zv,s,hzv,x,hzr⟩:=rD hz
   rw [hi] at s;cases s
   dsimp only at h0
   unfold cV at c3 c4
   b hsz:zv.cells.size=i.size:=by rw [<-c5, <-x];simp
   b h63:m<=9223372036854775807:=by
     b:m*1<=m*(i.size:Int):=Int.mul_le_mul_of_nonneg_left (by omega) (by omega)
     omega
   b hrun:=run_make (P:=P) w t e i zv he hi hzv kl kc n m c1 c2 (by rw [Int.mul_comm];omega) h63
   b k: ∀r j,r<m.toNat->j<i.size->r*i.size+j<m.toNat*i.size:=by
     intro r j hr hj
     b:(r+1)*i.size<=m.toNat*i.size:=bi _ hr
     rw [Nat.add_mul,cB] at this
     omega
   obtain ⟨μ',q1,q2,q3⟩:=L9 H (lS w (.cells (madeCells zv.cells (m.toNat*i.size)) e)) (new:=new) q (esz:=i.size) (rows:=List.replicate n.toNat (z.map zc)) (lo:=0) (hi:=0) (cap:=m.toNat)
    (pJ w _) (.inl rfl) h0 (by simp;omega) (by rw [size_madeCells];exact aw _)
    (fun row hrow=>by
     obtain ⟨_,rfl⟩:=gr.1 hrow
     exact ⟨by simpa using c5,fun v hv=>by obtain ⟨y,hy,rfl⟩:=bq.1 hv;exact ⟨ZS (aB.1 c6 y hy),b3J y⟩⟩)
    (fun r row j v hi2 hj2=>by
     obtain ⟨_,y,hy,rfl,hjl,hrl⟩:=QK x c5 h0 hi2 hj2
     rw [IN (k r j (by omega) hjl) (by omega),hsz,jh,lw,od hjl]
     simp only [Array.getD_eq_getD_getElem?,hy,dq]
     exact .zc _)
   simp only [aS] at q3
   refine ⟨_,_,_,.inl ?_,q1,q2,q3⟩
   simp only [execOp,hop,hkl,hkc,Sem.run_bind,hrun,Result.andThen_ok]
   rfl
  ·cases p
 ·cases p
end
end Go.AI
