/- Part. -/
import Derived.Test.YtdnkignjanfikaaGreatAiOps5
import Derived.Lib.SliceRun
set_option linter.unusedVariables false
set_option linter.unusedSimpArgs false
namespace Go.AI
section
variable {P:Program} {μ:Mu} {h:ba} {w:World} {f:Nat->V} {a:Act}
theorem a6j [Frame] (H:bG μ h w) (E:ic μ h w f a) {o:Oper} {op:BinOp} {t ty:TypeId} {x y:Operand} {x' y':Opd} {neg:Bool} (c:o.op= .binOp op t x y ty) (k:bF x=some x') (l:bF y=some y') (m:P.underlying t=some .bool)
 (b:op=if neg then .neq else .eql) {C:cr} {ow:FuncId->List Nat} {new:Nat} {v:V} {u:Upd} (i:aK C ow (.beq neg x' y') (Opd.ev f) h new=some (v,u)):jv P o a μ h w v u:=by
 have d:=bX E k
 have e:=bX E l
 simp only [aK] at i
 split at i
 ·rename_i p q n r
  rw [n] at d
  rw [r] at e
  cases i
  refine .quiet H (x:= .bool (if neg then p !=q else p==q)) ?_ (.lit _)
  have e1:(Op.equal t (.bool p) (.bool q)).run P w= .ok (p==q) w:=Go.run_equalIn_bool' w 9999 t p q m
  have e2:=dw d
  have j:=dw e
  cases neg with
  |false=>
   simp only [bC,if_false] at b
   subst b
   simp only [execOp,c,e2,j,Sem.run_bind,eqGuard,binOp,Sem.run_pure,Result.andThen_ok]
   simp [e1]
  |true=>
   simp only [if_true] at b
   subst b
   simp only [execOp,c,e2,j,Sem.run_bind,eqGuard,binOp,Sem.run_pure,Result.andThen_ok]
   simp [e1]
   cases p<;>cases q<;>rfl
 ·cases i
theorem UH [Frame] (H:bG μ h w) (E:ic μ h w f a) {o:Oper} {op:BinOp} {t ty e:TypeId} {x y:Operand} {x':Opd} {neg:Bool} (i:o.op= .binOp op t x y ty) (p:bF x=some x') (q:bF y=some (.c (.slice none 0 0))) (r:P.underlying t=some (.slice e))
 (b:op=if neg then .neq else .eql) {C:cr} {ow:FuncId->List Nat} {new:Nat} {v:V} {u:Upd} (j:aK C ow (.isNil neg x') (Opd.ev f) h new=some (v,u)):jv P o a μ h w v u:=by
 have d:=bX E p
 have k:=dw (bX E q)
 have key: ∀(ad:Option Addr) (m cap:Nat),a.eval x= .slice ad m cap->jv P o a μ h w (.lit (.bool (if neg then !ad.isNone else ad.isNone))) []:=by
  intro ad m cap n
  have e1:(Op.equal t (.slice ad m cap) (.slice none 0 0)).run P w= .ok ad.isNone w:=by
   simp [Op.equal,Op.maxDepth,Go.Lib.run_equalIn_slice_nil w 9999 t e ad m cap 0 0 r]
  refine .quiet H (x:= .bool (if neg then !ad.isNone else ad.isNone)) ?_ (.lit _)
  cases neg with
  |false=>
   simp only [bC,if_false] at b
   subst b
   simp only [execOp,i,n,k,Sem.run_bind,eqGuard,binOp,Sem.run_pure,Result.andThen_ok]
   simp [e1]
  |true=>
   simp only [if_true] at b
   subst b
   simp only [execOp,i,n,k,Sem.run_bind,eqGuard,binOp,Sem.run_pure,Result.andThen_ok]
   simp [e1]
 simp only [aK] at j
 split at j
 ·rename_i ad m cap l
  rw [l] at d
  cases j
  exact key ad m cap (dw d)
 ·rename_i e0 row rows l
  rw [l] at d
  cases j
  generalize s:a.eval x=X at d
  cases d with
  |imm _ _ c off cap=>
   have:=key _ _ _ s
   have e2:(if neg=true then !(some (⟨c,off,none⟩:Addr)).isNone else (some (⟨c,off,none⟩:Addr)).isNone)=neg:=by cases neg<;>rfl
   rw [e2] at this
   exact this
 ·cases j
theorem b5f [Frame] (H:bG μ h w) (E:ic μ h w f a) {o:Oper} {c:Call} {t:TypeId} {x:Operand} {x':Opd} (j:o.op= .call c) (k:c.callee= .builtin .len) (b:c.args.toList=[x]) (l:bF x=some x')
 (m:c.argTypes[0]? =some t) (n:P.underlying t=some .string)
 {C:cr} {ow:FuncId->List Nat} {new:Nat} {v:V} {u:Upd} (i:aK C ow (.len true x') (Opd.ev f) h new=some (v,u)):jv P o a μ h w v u:=by
 have d:=bX E l
 have p:c.args= #[x]:=by rw [<-b]
 simp only [aK] at i
 split at i
 ·rename_i s _ q
  cases i
  rw [q] at d
  refine .quiet H (x:= .int .i64 s.size) ?_ (.lit _)
  simp [execOp,j,resolve,k,p,invoke,builtin,Builtin.len_,m,run_underlying n,dw d,goInt]
 ·rename_i e _;cases e
 ·rename_i e _;cases e
 ·rename_i e _;cases e
 ·cases i
theorem b4L [Frame] (H:bG μ h w) (E:ic μ h w f a) {o:Oper} {c:Call} {t e:TypeId} {x:Operand} {x':Opd} (p:o.op= .call c) (q:c.callee= .builtin .len) (i:c.args.toList=[x]) (r:bF x=some x')
 (y:c.argTypes[0]? =some t) (z:P.underlying t=some (.slice e))
 {C:cr} {ow:FuncId->List Nat} {new:Nat} {v:V} {u:Upd} (l:aK C ow (.len false x') (Opd.ev f) h new=some (v,u)):jv P o a μ h w v u:=by
 have d:=bX E r
 have ha:c.args= #[x]:=by rw [<-i]
 have run: ∀(n:Nat) ad cap,a.eval x= .slice ad n cap->(execOp a.eval o).run P w= .ok (.value (.int .i64 n)) w:=by
  intro n ad cap j
  simp [execOp,p,resolve,q,ha,invoke,builtin,Builtin.len_,y,run_underlying z,j,goInt]
 simp only [aK] at l
 split at l
 ·rename_i h1 _;cases h1
 ·rename_i ad n cap _ m
  cases l
  rw [m] at d
  exact .quiet H (run n ad cap (dw d)) (.lit _)
 ·rename_i b s n _ m
  cases l
  rw [m] at d
  generalize j:a.eval x=X at d
  cases d with
  |sl _ _ _ _ k hk hn r hp=>obtain ⟨ad,cap,rfl⟩:=r;exact .quiet H (run n ad cap j) (.lit _)
 ·rename_i e rows _ m
  cases l
  rw [m] at d
  generalize j:a.eval x=X at d
  cases d with
  |emp ad=>exact .quiet H (run 0 ad 0 j) (.lit _)
  |imm0 _ ad cap=>exact .quiet H (run 0 ad cap j) (.lit _)
  |imm _ _ c off cap=>exact .quiet H (run _ _ cap j) (.lit _)
 ·cases l
theorem a2U [Frame] (H:bG μ h w) (E:ic μ h w f a) {o:Oper} {c:Call} {t e:TypeId} {n:Nat} {x:Operand} {x':Opd} (d:o.op= .call c) (i:c.callee= .builtin .len) (b:c.args.toList=[x]) (p:bF x=some x')
 (k:c.argTypes[0]? =some t) (l:P.underlying t=some (.array n e))
 {C:cr} {ow:FuncId->List Nat} {new:Nat} {v:V} {u:Upd} (j:aK C ow (.lenArr n x') (Opd.ev f) h new=some (v,u)):jv P o a μ h w v u:=by
 have m:c.args= #[x]:=by rw [<-b]
 simp only [aK] at j
 cases j
 refine .quiet H (x:= .int .i64 n) ?_ (.lit _)
 simp [execOp,d,resolve,i,m,invoke,builtin,Builtin.len_,k,run_underlying l,goInt]
theorem a4T {X:Array Value} {n:Nat} (h:n<X.size):X[n]? =some (X.getD n undef):=by
 rw [Array.getD_eq_getD_getElem?,aH h];rfl
theorem Z3 {xs ys:List V} {r:Bool} (h:iX [] xs ys=some r):xs=[]/\ys=[]/\r=true:=by
 cases xs with
 |nil=>
  cases ys with
  |nil=>simp [iX] at h;exact ⟨rfl,rfl,h⟩
  |cons y ys=>simp [iX] at h
 |cons x xs=>simp [iX] at h
theorem a1e {ks:List Bool} {xs ys:List V} {r:Bool} (h:iX (true::ks) xs ys=some r):
 ∃k m n xs' ys',xs= .lit (.int k m)::xs'/\ys= .lit (.int k n)::ys'/\((m=n/\iX ks xs' ys'=some r)\/(m≠n/\r=false)):=by
 unfold iX at h
 split at h
 ·rename_i a;cases a
 ·rename_i ks1 k m xs' k' n ys' a
  cases a
  by_cases c:k=k'
  ·subst c
   rw [aa rfl] at h
   by_cases b:m=n
   ·rw [aa b] at h;exact ⟨k,m,n,xs',ys',rfl,rfl,.inl ⟨b,h⟩⟩
   ·rw [a7 b] at h;injection h with h;exact ⟨k,m,n,xs',ys',rfl,rfl,.inr ⟨b,h.symm⟩⟩
  ·rw [a7 c] at h;cases h
 ·rename_i a;cases a
 ·cases h
theorem Za {ks:List Bool} {xs ys:List V} {r:Bool} (h:iX (false::ks) xs ys=some r):
 ∃m n xs' ys',xs= .lit (.string m)::xs'/\ys= .lit (.string n)::ys'/\((m=n/\iX ks xs' ys'=some r)\/(m≠n/\r=false)):=by
 unfold iX at h
 split at h
 ·rename_i a;cases a
 ·rename_i a;cases a
 ·rename_i ks1 m xs' n ys' a
  cases a
  by_cases b:m=n
  ·rw [aa b] at h;exact ⟨m,n,xs',ys',rfl,rfl,.inl ⟨b,h⟩⟩
  ·rw [a7 b] at h;injection h with h;exact ⟨m,n,xs',ys',rfl,rfl,.inr ⟨b,h.symm⟩⟩
 ·cases h
theorem LJ [Frame] {d:Nat}: ∀(fs:List Field) (n:Nat) (ks:List Bool) (xs ys:List V) (X Y:Array Value) (r:Bool),rd P n fs=some ks->
 (∀j v,xs[j]? =some v->b7 μ h w v (X.getD (n+j) undef))->(∀j v,ys[j]? =some v->b7 μ h w v (Y.getD (n+j) undef))->
 X.size=n+xs.length->Y.size=n+ys.length->iX ks xs ys=some r->(Op.eqFields (d+1) X Y fs).run P w= .ok r w
 |[],n,ks,xs,ys,X,Y,r,c,_,_,_,_,he=>by
  simp [rd] at c
  subst c
  obtain ⟨_,_,rfl⟩:=Z3 he
  simp [Op.eqFields]
 |fd::fs,n,ks,xs,ys,X,Y,r,c,hx,hy,o,p,he=>by
  simp only [rd] at c
  split at c
  ·rename_i p0
   simp only [aB,bne_iff_ne,ne_eq,beq_iff_eq] at p0
   obtain ⟨p1,p2⟩:=p0
   have step: ∀(x y:V) (xs' ys':List V) (ks':List Bool),xs=x::xs'->ys=y::ys'->rd P (n+1) fs=some ks'-> ∀r,iX ks' xs' ys'=some r->
    (Op.eqFields (d+1) X Y fs).run P w= .ok r w:=by
    intro x y xs' ys' ks' e1 e2 e3 r he2
    subst e1 e2
    simp only [ab] at o p
    exact LJ (d:=d) fs (n+1) ks' xs' ys' X Y r e3 (fun j v hj=>by have:=hx (j+1) v (by simpa using hj);rwa [show n+(j+1)=n+1+j by omega] at this)
     (fun j v hj=>by have:=hy (j+1) v (by simpa using hj);rwa [show n+(j+1)=n+1+j by omega] at this) om om he2
   have parts: ∀(x y:V) (xs' ys':List V),xs=x::xs'->ys=y::ys'->(isAgg fd.type).run P w= .ok false w->
    (Go.part fd.type X fd.offset).run P w= .ok (X.getD n undef) w/\(Go.part fd.type Y fd.offset).run P w= .ok (Y.getD n undef) w/\b7 μ h w x (X.getD n undef)/\b7 μ h w y (Y.getD n undef):=by
    intro x y xs' ys' e1 e2 f
    subst e1 e2
    simp only [ab] at o p
    have q:=hx 0 x rfl
    have s:=hy 0 y rfl
    simp only [cH] at q s
    refine ⟨?_, ?_,q,s⟩
    ·simp only [Go.part,Sem.run_bind,f,Result.andThen_ok,p2,bC,if_false,a4T (show n<X.size by omega),Sem.run_pure]
    ·simp only [Go.part,Sem.run_bind,f,Result.andThen_ok,p2,bC,if_false,a4T (show n<Y.size by omega),Sem.run_pure]
   split at c
   ·rename_i k0 ks' t i
    cases c
    obtain ⟨k,m,m',xs',ys',rfl,rfl,a⟩:=a1e he
    obtain ⟨u,z,g3,g4⟩:=parts _ _ _ _ rfl rfl (by simp [isAgg,run_underlying t])
    rw [dw g3] at u
    rw [dw g4] at z
    simp only [Op.eqFields,Sem.run_ite]
    rw [aa p1]
    simp only [Sem.run_bind,u,z,Result.andThen_ok,run_equalIn_int w d fd.type k k0 m m' t]
    rcases a with ⟨b,l⟩|⟨b,rfl⟩
    ·simp only [b,beq_self_eq_true,aQ,bC,if_false]
     exact step _ _ _ _ _ rfl rfl i r l
    ·have:(m==m')=false:=by simpa using b
     simp [this]
   ·rename_i ks' t i
    cases c
    obtain ⟨m,m',xs',ys',rfl,rfl,a⟩:=Za he
    obtain ⟨u,z,g3,g4⟩:=parts _ _ _ _ rfl rfl (by simp [isAgg,run_underlying t])
    rw [dw g3] at u
    rw [dw g4] at z
    simp only [Op.eqFields,Sem.run_ite]
    rw [aa p1]
    simp only [Sem.run_bind,u,z,Result.andThen_ok,run_equalIn_string w d fd.type m m' t]
    rcases a with ⟨b,l⟩|⟨b,rfl⟩
    ·simp only [b,beq_self_eq_true,aQ,bC,if_false]
     exact step _ _ _ _ _ rfl rfl i r l
    ·have:(m.toList==m'.toList)=false:=by
      rw [ByteArray.toList_eq,ByteArray.toList_eq,beq_eq_false_iff_ne]
      intro e
      apply b
      cases m;cases m'
      congr 1
      exact fL e
     simp [this]
   ·cases c
  ·cases c
theorem UM [Frame] (H:bG μ h w) (E:ic μ h w f a) {o:Oper} {op:BinOp} {t ty:TypeId} {x y:Operand} {x' y':Opd} {fs:Array Field} {ks:List Bool} {neg:Bool} (k:o.op= .binOp op t x y ty) (hx:bF x=some x') (hy:bF y=some y')
 (hu:P.underlying t=some (.struct fs)) (p:P.stoodInHeld t=false) (l:P.eqGuardType P.depth t=false) (q:rd P 0 fs.toList=some ks) (m:op=if neg then .neq else .eql)
 {C:cr} {ow:FuncId->List Nat} {new:Nat} {v:V} {u:Upd} (i:aK C ow (.eqAgg neg ks x' y') (Opd.ev f) h new=some (v,u)):jv P o a μ h w v u:=by
 have c:=bX E hx
 have e:=bX E hy
 simp only [aK] at i
 split at i
 ·rename_i xs ys s z
  split at i
  ·rename_i r hr
   cases i
   rw [s] at c
   rw [z] at e
   generalize hX:a.eval x=X0 at c
   generalize hY:a.eval y=Y0 at e
   cases c with
   |agg _ X hlx hcx hrx=>
    cases e with
    |agg _ Y hly hcy hry=>
     have n:P.fieldsOf t=fs:=by simp [Program.fieldsOf,hu]
     have b:(Op.equal t (.agg X) (.agg Y)).run P w= .ok r w:=by
      show (Op.equalIn (9999+1) t (.agg X) (.agg Y)).run P w=_
      rw [run_equalIn_struct w 9999 t X Y (by rw [n];exact hu) p,n]
      exact LJ (d:=9998) fs.toList 0 ks xs ys X Y r q (fun j v hj=>by simpa using hrx j v hj) (fun j v hj=>by simpa using hry j v hj) om om hr
     refine .quiet H (x:= .bool (if neg then !r else r)) ?_ (.lit _)
     subst m
     cases neg
     ·simp [execOp,k,hX,hY,eqGuard,l,binOp,b]
     ·simp [execOp,k,hX,hY,eqGuard,l,binOp,b]
  ·cases i
 ·cases i
theorem Qb [Frame] {z:List Value} {zv:Value} {esz n:Nat} (e:zv.cells.toList=z) (d:z.length=esz) (h0:0<esz) {i j:Nat} {row:List V} {v:V}
 (hi:(List.replicate n (z.map zc))[i]? =some row) (b:row[j]? =some v):row=z.map zc/\ ∃y,zv.cells[j]? =some y/\v=zc y/\j<esz/\i<n:=by
 have a:=dg hi
 simp only [aL] at a
 rw [List.getElem?_replicate,aa a] at hi
 cases hi
 rw [b6] at b
 cases c:z[j]? with
 |none=>rw [c] at b;cases b
 |some y=>
  rw [c] at b;cases b
  exact ⟨rfl,y,by rw [<-Array.getElem?_toList,e];exact c,rfl,by rw [<-d];exact dg c,a⟩
theorem IC {z:Array Value} {n i:Nat} (h:i<n) (a:0<z.size):(madeCells z n).getD i undef=z.getD (i%z.size) undef:=by
 have b:=fN i a
 simp [madeCells,h,b]
theorem TE [Frame] (H:bG μ h w) (E:ic μ h w f a) {o:Oper} {t e:TypeId} {i:TypeInfo} {z:List Value} {l c:Operand} {l' c':Opd} (hop:o.op= .makeSlice t l c) (hl:bF l=some l') (hc:bF c=some c')
 (he:P.underlying t=some (.slice e)) (hi:P.info? e=some i) (hz:Dr P e=some z)
 {C:cr} {ow:FuncId->List Nat} {new:Nat} {v:V} {u:Upd} (k:aK C ow (.makeSlice i.size i.bytes z l' c') (Opd.ev f) h new=some (v,u)):jv P o a μ h w v u:=by
 have hvl:=bX E hl
 have hvc:=bX E hc
 simp only [aK] at k
 split at k
 ·rename_i n m hn hm
  split at k
  ·rename_i b
   obtain ⟨c1,c2,c3,c4,c5,c6⟩:=b
   obtain ⟨p,h0,hr⟩:=uw k
   cases hr
   obtain ⟨kl,hkl⟩:=zH hn hvl
   obtain ⟨kc,hkc⟩:=zH hm hvc
   obtain ⟨i',zv,q,hzv,s,hzr⟩:=uH hz
   rw [hi] at q;cases q
   dsimp only at h0
   unfold dz at c3 c4
   have hsz:zv.cells.size=i.size:=by rw [<-c5, <-s];simp
   have h63:m<=9223372036854775807:=by
    have:m*1<=m*(i.size:Int):=Int.mul_le_mul_of_nonneg_left om om
    omega
   have x:=run_make (P:=P) w t e i zv he hi hzv kl kc n m c1 c2 (by rw [Int.mul_comm];omega) h63
   have d: ∀r j,r<m.toNat->j<i.size->r*i.size+j<m.toNat*i.size:=by
    intro r j hr hj
    have:(r+1)*i.size<=m.toNat*i.size:=bg _ hr
    rw [Nat.add_mul,cK] at this
    omega
   obtain ⟨μ',q1,q2,q3⟩:=Lw H (o7 w (.cells (madeCells zv.cells (m.toNat*i.size)) e)) (new:=new) p (esz:=i.size) (rows:=List.replicate n.toNat (z.map zc)) (lo:=0) (hi:=0) (cap:=m.toNat)
    (ti w _) (.inl rfl) h0 (by simp;omega) (by rw [size_madeCells];exact am _)
    (fun row hrow=>by
     obtain ⟨_,rfl⟩:=io.1 hrow
     exact ⟨by simpa using c5,fun v hv=>by obtain ⟨y,hy,rfl⟩:=bf.1 hv;exact ⟨Wm (an.1 c6 y hy),b2u y⟩⟩)
    (fun r row j v hi2 hj2=>by
     obtain ⟨_,y,hy,rfl,hjl,hrl⟩:=Qb s c5 h0 hi2 hj2
     rw [IC (d r j om hjl) om,hsz,jd,nw,js hjl]
     simp only [Array.getD_eq_getD_getElem?,hy,dL]
     exact .zc _)
   simp only [aL] at q3
   refine ⟨_,_,_,.inl ?_,q1,q2,q3⟩
   simp only [execOp,hop,hkl,hkc,Sem.run_bind,x,Result.andThen_ok]
   rfl
  ·cases k
 ·cases k
end
end Go.AI
