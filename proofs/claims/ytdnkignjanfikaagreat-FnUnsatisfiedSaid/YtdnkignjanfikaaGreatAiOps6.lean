/- The operations of the abstract machine and the model's. Sixth part: make, append, copy, cuts, lengths, structs compared. -/
import Derived.Test.YtdnkignjanfikaaGreatAiOps5
import Derived.Lib.SliceRun
set_option linter.unusedVariables false
set_option linter.unusedSimpArgs false
namespace Go.AI
section
variable {P:Program} {μ:Mu} {h:au} {w:World} {f:Nat→V} {a:Act}
theorem a1w [Frame] (H:aI μ h w) (E:dF μ h w f a) {o:Oper} {op:BinOp} {t ty:TypeId} {x y:Operand} {x' y':Opd} {neg:Bool} (hop:o.op= .binOp op t x y ty) (hx:aJ x=some x') (hy:aJ y=some y') (hu:P.underlying t=some .bool)
 (hneg:op=if neg then .neq else .eql) {C:aY} {ow:FuncId→List Nat} {new:Nat} {v:V} {u:Upd} (hs:aj C ow (.beq neg x' y') (Opd.ev f) h new=some (v,u)):eV P o a μ h w v u:=by
 have hvx:=aS E hx
 have hvy:=aS E hy
 simp only [aj] at hs
 split at hs
 ·rename_i p q hp hq
  rw [hp] at hvx
  rw [hq] at hvy
  cases hs
  refine .quiet H (x:= .bool (if neg then p !=q else p==q)) ?_ (.lit _)
  have e1:(Op.equal t (.bool p) (.bool q)).run P w= .ok (p==q) w:=Go.run_equalIn_bool' w 9999 t p q hu
  have e2:=bF hvx
  have e3:=bF hvy
  cases neg with
  |false=>
   simp only [Bool.false_eq_true,if_false] at hneg
   subst hneg
   simp only [execOp,hop,e2,e3,Sem.run_bind,eqGuard,binOp,Sem.run_pure,Result.andThen_ok]
   simp [e1]
  |true=>
   simp only [if_true] at hneg
   subst hneg
   simp only [execOp,hop,e2,e3,Sem.run_bind,eqGuard,binOp,Sem.run_pure,Result.andThen_ok]
   simp [e1]
   cases p<;>cases q<;>rfl
 ·cases hs
theorem QB [Frame] (H:aI μ h w) (E:dF μ h w f a) {o:Oper} {op:BinOp} {t ty e:TypeId} {x y:Operand} {x':Opd} {neg:Bool} (hop:o.op= .binOp op t x y ty) (hx:aJ x=some x') (hy:aJ y=some (.c (.slice none 0 0))) (hu:P.underlying t=some (.slice e))
 (hneg:op=if neg then .neq else .eql) {C:aY} {ow:FuncId→List Nat} {new:Nat} {v:V} {u:Upd} (hs:aj C ow (.isNil neg x') (Opd.ev f) h new=some (v,u)):eV P o a μ h w v u:=by
 have hvx:=aS E hx
 have hvy:=bF (aS E hy)
 have key: ∀(ad:Option Addr) (m cap:Nat),a.eval x= .slice ad m cap→eV P o a μ h w (.lit (.bool (if neg then !ad.isNone else ad.isNone))) []:=by
  intro ad m cap he
  have e1:(Op.equal t (.slice ad m cap) (.slice none 0 0)).run P w= .ok ad.isNone w:=by
   simp [Op.equal,Op.maxDepth,Go.Lib.run_equalIn_slice_nil w 9999 t e ad m cap 0 0 hu]
  refine .quiet H (x:= .bool (if neg then !ad.isNone else ad.isNone)) ?_ (.lit _)
  cases neg with
  |false=>
   simp only [Bool.false_eq_true,if_false] at hneg
   subst hneg
   simp only [execOp,hop,he,hvy,Sem.run_bind,eqGuard,binOp,Sem.run_pure,Result.andThen_ok]
   simp [e1]
  |true=>
   simp only [if_true] at hneg
   subst hneg
   simp only [execOp,hop,he,hvy,Sem.run_bind,eqGuard,binOp,Sem.run_pure,Result.andThen_ok]
   simp [e1]
 simp only [aj] at hs
 split at hs
 ·rename_i ad m cap hp
  rw [hp] at hvx
  cases hs
  exact key ad m cap (bF hvx)
 ·rename_i e0 row rows hp
  rw [hp] at hvx
  cases hs
  generalize hX:a.eval x=X at hvx
  cases hvx with
  |imm _ _ c off cap=>
   have:=key _ _ _ hX
   have e2:(if neg=true then !(some (⟨c,off,none⟩:Addr)).isNone else (some (⟨c,off,none⟩:Addr)).isNone)=neg:=by cases neg<;>rfl
   rw [e2] at this
   exact this
 ·cases hs
theorem b25 [Frame] (H:aI μ h w) (E:dF μ h w f a) {o:Oper} {c:Call} {t:TypeId} {x:Operand} {x':Opd} (hop:o.op= .call c) (hca:c.callee= .builtin .len) (hargs:c.args.toList=[x]) (hx:aJ x=some x')
 (ht:c.argTypes[0]? =some t) (hu:P.underlying t=some .string)
 {C:aY} {ow:FuncId→List Nat} {new:Nat} {v:V} {u:Upd} (hs:aj C ow (.len true x') (Opd.ev f) h new=some (v,u)):eV P o a μ h w v u:=by
 have hvx:=aS E hx
 have ha:c.args= #[x]:=by rw [←hargs]
 simp only [aj] at hs
 split at hs
 ·rename_i s _ hb
  cases hs
  rw [hb] at hvx
  refine .quiet H (x:= .int .i64 s.size) ?_ (.lit _)
  simp [execOp,hop,resolve,hca,ha,invoke,builtin,Builtin.len_,ht,run_underlying hu,bF hvx,goInt]
 ·rename_i h1 _;cases h1
 ·rename_i h1 _;cases h1
 ·rename_i h1 _;cases h1
 ·cases hs
theorem a95 [Frame] (H:aI μ h w) (E:dF μ h w f a) {o:Oper} {c:Call} {t e:TypeId} {x:Operand} {x':Opd} (hop:o.op= .call c) (hca:c.callee= .builtin .len) (hargs:c.args.toList=[x]) (hx:aJ x=some x')
 (ht:c.argTypes[0]? =some t) (hu:P.underlying t=some (.slice e))
 {C:aY} {ow:FuncId→List Nat} {new:Nat} {v:V} {u:Upd} (hs:aj C ow (.len false x') (Opd.ev f) h new=some (v,u)):eV P o a μ h w v u:=by
 have hvx:=aS E hx
 have ha:c.args= #[x]:=by rw [←hargs]
 have run: ∀(n:Nat) ad cap,a.eval x= .slice ad n cap→(execOp a.eval o).run P w= .ok (.value (.int .i64 n)) w:=by
  intro n ad cap hX
  simp [execOp,hop,resolve,hca,ha,invoke,builtin,Builtin.len_,ht,run_underlying hu,hX,goInt]
 simp only [aj] at hs
 split at hs
 ·rename_i h1 _;cases h1
 ·rename_i ad n cap _ hb
  cases hs
  rw [hb] at hvx
  exact .quiet H (run n ad cap (bF hvx)) (.lit _)
 ·rename_i b s n _ hb
  cases hs
  rw [hb] at hvx
  generalize hX:a.eval x=X at hvx
  cases hvx with
  |sl _ _ _ _ k hk hn hx hp=>obtain ⟨ad,cap,rfl⟩:=hx;exact .quiet H (run n ad cap hX) (.lit _)
 ·rename_i e rows _ hb
  cases hs
  rw [hb] at hvx
  generalize hX:a.eval x=X at hvx
  cases hvx with
  |emp ad=>exact .quiet H (run 0 ad 0 hX) (.lit _)
  |imm0 _ ad cap=>exact .quiet H (run 0 ad cap hX) (.lit _)
  |imm _ _ c off cap=>exact .quiet H (run _ _ cap hX) (.lit _)
 ·cases hs
theorem a0t [Frame] (H:aI μ h w) (E:dF μ h w f a) {o:Oper} {c:Call} {t e:TypeId} {n:Nat} {x:Operand} {x':Opd} (hop:o.op= .call c) (hca:c.callee= .builtin .len) (hargs:c.args.toList=[x]) (hx:aJ x=some x')
 (ht:c.argTypes[0]? =some t) (hu:P.underlying t=some (.array n e))
 {C:aY} {ow:FuncId→List Nat} {new:Nat} {v:V} {u:Upd} (hs:aj C ow (.lenArr n x') (Opd.ev f) h new=some (v,u)):eV P o a μ h w v u:=by
 have ha:c.args= #[x]:=by rw [←hargs]
 simp only [aj] at hs
 cases hs
 refine .quiet H (x:= .int .i64 n) ?_ (.lit _)
 simp [execOp,hop,resolve,hca,ha,invoke,builtin,Builtin.len_,ht,run_underlying hu,goInt]
theorem a2x {X:Array Value} {n:Nat} (h:n<X.size):X[n]? =some (X.getD n undef):=by
 rw [Array.getD_eq_getD_getElem?,Array.getElem?_eq_getElem h];rfl
theorem Xj {xs ys:List V} {r:Bool} (h:db [] xs ys=some r):xs=[]∧ys=[]∧r=true:=by
 cases xs with
 |nil=>
  cases ys with
  |nil=>simp [db] at h;exact ⟨rfl,rfl,h⟩
  |cons y ys=>simp [db] at h
 |cons x xs=>simp [db] at h
theorem Vo {ks:List Bool} {xs ys:List V} {r:Bool} (h:db (true::ks) xs ys=some r):
 ∃k m n xs' ys',xs= .lit (.int k m)::xs'∧ys= .lit (.int k n)::ys'∧((m=n∧db ks xs' ys'=some r)∨(m≠n∧r=false)):=by
 unfold db at h
 split at h
 ·rename_i h1;cases h1
 ·rename_i ks1 k m xs' k' n ys' h1
  cases h1
  by_cases hk:k=k'
  ·subst hk
   rw [if_pos rfl] at h
   by_cases hm:m=n
   ·rw [if_pos hm] at h;exact ⟨k,m,n,xs',ys',rfl,rfl,.inl ⟨hm,h⟩⟩
   ·rw [if_neg hm] at h;injection h with h;exact ⟨k,m,n,xs',ys',rfl,rfl,.inr ⟨hm,h.symm⟩⟩
  ·rw [if_neg hk] at h;cases h
 ·rename_i h1;cases h1
 ·cases h
theorem W0 {ks:List Bool} {xs ys:List V} {r:Bool} (h:db (false::ks) xs ys=some r):
 ∃m n xs' ys',xs= .lit (.string m)::xs'∧ys= .lit (.string n)::ys'∧((m=n∧db ks xs' ys'=some r)∨(m≠n∧r=false)):=by
 unfold db at h
 split at h
 ·rename_i h1;cases h1
 ·rename_i h1;cases h1
 ·rename_i ks1 m xs' n ys' h1
  cases h1
  by_cases hm:m=n
  ·rw [if_pos hm] at h;exact ⟨m,n,xs',ys',rfl,rfl,.inl ⟨hm,h⟩⟩
  ·rw [if_neg hm] at h;injection h with h;exact ⟨m,n,xs',ys',rfl,rfl,.inr ⟨hm,h.symm⟩⟩
 ·cases h
theorem IF [Frame] {d:Nat}: ∀(fs:List Field) (n:Nat) (ks:List Bool) (xs ys:List V) (X Y:Array Value) (r:Bool),kZ P n fs=some ks→
 (∀j v,xs[j]? =some v→an μ h w v (X.getD (n+j) undef))→(∀j v,ys[j]? =some v→an μ h w v (Y.getD (n+j) undef))→
 X.size=n+xs.length→Y.size=n+ys.length→db ks xs ys=some r→(Op.eqFields (d+1) X Y fs).run P w= .ok r w
 |[],n,ks,xs,ys,X,Y,r,hp,_,_,_,_,he=>by
  simp [kZ] at hp
  subst hp
  obtain ⟨_,_,rfl⟩:=Xj he
  simp [Op.eqFields]
 |fd::fs,n,ks,xs,ys,X,Y,r,hp,hx,hy,hsx,hsy,he=>by
  simp only [kZ] at hp
  split at hp
  ·rename_i p0
   simp only [Bool.and_eq_true,bne_iff_ne,ne_eq,beq_iff_eq] at p0
   obtain ⟨p1,p2⟩:=p0
   have step: ∀(x y:V) (xs' ys':List V) (ks':List Bool),xs=x::xs'→ys=y::ys'→kZ P (n+1) fs=some ks'→ ∀r,db ks' xs' ys'=some r→
    (Op.eqFields (d+1) X Y fs).run P w= .ok r w:=by
    intro x y xs' ys' ks' e1 e2 e3 r he2
    subst e1 e2
    simp only [List.length_cons] at hsx hsy
    exact IF (d:=d) fs (n+1) ks' xs' ys' X Y r e3 (fun j v hj=>by have:=hx (j+1) v (by simpa using hj);rwa [show n+(j+1)=n+1+j by omega] at this)
     (fun j v hj=>by have:=hy (j+1) v (by simpa using hj);rwa [show n+(j+1)=n+1+j by omega] at this) (by omega) (by omega) he2
   have parts: ∀(x y:V) (xs' ys':List V),xs=x::xs'→ys=y::ys'→(isAgg fd.type).run P w= .ok false w→
    (Go.part fd.type X fd.offset).run P w= .ok (X.getD n undef) w∧(Go.part fd.type Y fd.offset).run P w= .ok (Y.getD n undef) w∧an μ h w x (X.getD n undef)∧an μ h w y (Y.getD n undef):=by
    intro x y xs' ys' e1 e2 hagg
    subst e1 e2
    simp only [List.length_cons] at hsx hsy
    have hx0:=hx 0 x rfl
    have hy0:=hy 0 y rfl
    simp only [Nat.add_zero] at hx0 hy0
    refine ⟨?_, ?_,hx0,hy0⟩
    ·simp only [Go.part,Sem.run_bind,hagg,Result.andThen_ok,p2,Bool.false_eq_true,if_false,a2x (show n<X.size by omega),Sem.run_pure]
    ·simp only [Go.part,Sem.run_bind,hagg,Result.andThen_ok,p2,Bool.false_eq_true,if_false,a2x (show n<Y.size by omega),Sem.run_pure]
   split at hp
   ·rename_i k0 ks' hu hks
    cases hp
    obtain ⟨k,m,m',xs',ys',rfl,rfl,hcase⟩:=Vo he
    obtain ⟨g1,g2,g3,g4⟩:=parts _ _ _ _ rfl rfl (by simp [isAgg,run_underlying hu])
    rw [bF g3] at g1
    rw [bF g4] at g2
    simp only [Op.eqFields,Sem.run_ite]
    rw [if_pos p1]
    simp only [Sem.run_bind,g1,g2,Result.andThen_ok,run_equalIn_int w d fd.type k k0 m m' hu]
    rcases hcase with ⟨hmm,he'⟩|⟨hmm,rfl⟩
    ·simp only [hmm,beq_self_eq_true,Bool.not_true,Bool.false_eq_true,if_false]
     exact step _ _ _ _ _ rfl rfl hks r he'
    ·have:(m==m')=false:=by simpa using hmm
     simp [this]
   ·rename_i ks' hu hks
    cases hp
    obtain ⟨m,m',xs',ys',rfl,rfl,hcase⟩:=W0 he
    obtain ⟨g1,g2,g3,g4⟩:=parts _ _ _ _ rfl rfl (by simp [isAgg,run_underlying hu])
    rw [bF g3] at g1
    rw [bF g4] at g2
    simp only [Op.eqFields,Sem.run_ite]
    rw [if_pos p1]
    simp only [Sem.run_bind,g1,g2,Result.andThen_ok,run_equalIn_string w d fd.type m m' hu]
    rcases hcase with ⟨hmm,he'⟩|⟨hmm,rfl⟩
    ·simp only [hmm,beq_self_eq_true,Bool.not_true,Bool.false_eq_true,if_false]
     exact step _ _ _ _ _ rfl rfl hks r he'
    ·have:(m.toList==m'.toList)=false:=by
      rw [ByteArray.toList_eq,ByteArray.toList_eq,beq_eq_false_iff_ne]
      intro e
      apply hmm
      cases m;cases m'
      congr 1
      exact Array.ext' e
     simp [this]
   ·cases hp
  ·cases hp
theorem Qr [Frame] (H:aI μ h w) (E:dF μ h w f a) {o:Oper} {op:BinOp} {t ty:TypeId} {x y:Operand} {x' y':Opd} {fs:Array Field} {ks:List Bool} {neg:Bool} (hop:o.op= .binOp op t x y ty) (hx:aJ x=some x') (hy:aJ y=some y')
 (hu:P.underlying t=some (.struct fs)) (hst:P.stoodInHeld t=false) (hgd:P.eqGuardType P.depth t=false) (hks:kZ P 0 fs.toList=some ks) (hneg:op=if neg then .neq else .eql)
 {C:aY} {ow:FuncId→List Nat} {new:Nat} {v:V} {u:Upd} (hs:aj C ow (.eqAgg neg ks x' y') (Opd.ev f) h new=some (v,u)):eV P o a μ h w v u:=by
 have hvx:=aS E hx
 have hvy:=aS E hy
 simp only [aj] at hs
 split at hs
 ·rename_i xs ys hbx hby
  split at hs
  ·rename_i r hr
   cases hs
   rw [hbx] at hvx
   rw [hby] at hvy
   generalize hX:a.eval x=X0 at hvx
   generalize hY:a.eval y=Y0 at hvy
   cases hvx with
   |agg _ X hlx hcx hrx=>
    cases hvy with
    |agg _ Y hly hcy hry=>
     have hfs:P.fieldsOf t=fs:=by simp [Program.fieldsOf,hu]
     have hrun:(Op.equal t (.agg X) (.agg Y)).run P w= .ok r w:=by
      show (Op.equalIn (9999+1) t (.agg X) (.agg Y)).run P w=_
      rw [run_equalIn_struct w 9999 t X Y (by rw [hfs];exact hu) hst,hfs]
      exact IF (d:=9998) fs.toList 0 ks xs ys X Y r hks (fun j v hj=>by simpa using hrx j v hj) (fun j v hj=>by simpa using hry j v hj) (by omega) (by omega) hr
     refine .quiet H (x:= .bool (if neg then !r else r)) ?_ (.lit _)
     subst hneg
     cases neg
     ·simp [execOp,hop,hX,hY,eqGuard,hgd,binOp,hrun]
     ·simp [execOp,hop,hX,hY,eqGuard,hgd,binOp,hrun]
  ·cases hs
 ·cases hs
theorem MS [Frame] {z:List Value} {zv:Value} {esz n:Nat} (hz:zv.cells.toList=z) (hzl:z.length=esz) (h0:0<esz) {i j:Nat} {row:List V} {v:V}
 (hi:(List.replicate n (z.map zc))[i]? =some row) (hj:row[j]? =some v):row=z.map zc∧ ∃y,zv.cells[j]? =some y∧v=zc y∧j<esz∧i<n:=by
 have hil:=bx hi
 simp only [List.length_replicate] at hil
 rw [List.getElem?_replicate,if_pos hil] at hi
 cases hi
 rw [List.getElem?_map] at hj
 cases hy:z[j]? with
 |none=>rw [hy] at hj;cases hj
 |some y=>
  rw [hy] at hj;cases hj
  exact ⟨rfl,y,by rw [←Array.getElem?_toList,hz];exact hy,rfl,by rw [←hzl];exact bx hy,hil⟩
theorem EF {z:Array Value} {n i:Nat} (h:i<n) (hz:0<z.size):(madeCells z n).getD i undef=z.getD (i%z.size) undef:=by
 have hm:=Nat.mod_lt i hz
 simp [madeCells,h,hm]
theorem Qf [Frame] (H:aI μ h w) (E:dF μ h w f a) {o:Oper} {t e:TypeId} {i:TypeInfo} {z:List Value} {l c:Operand} {l' c':Opd} (hop:o.op= .makeSlice t l c) (hl:aJ l=some l') (hc:aJ c=some c')
 (he:P.underlying t=some (.slice e)) (hi:P.info? e=some i) (hz:yN P e=some z)
 {C:aY} {ow:FuncId→List Nat} {new:Nat} {v:V} {u:Upd} (hs:aj C ow (.makeSlice i.size i.bytes z l' c') (Opd.ev f) h new=some (v,u)):eV P o a μ h w v u:=by
 have hvl:=aS E hl
 have hvc:=aS E hc
 simp only [aj] at hs
 split at hs
 ·rename_i n m hn hm
  split at hs
  ·rename_i hcond
   obtain ⟨c1,c2,c3,c4,c5,c6⟩:=hcond
   obtain ⟨hnew,h0,hr⟩:=nX hs
   cases hr
   obtain ⟨kl,hkl⟩:=uz hn hvl
   obtain ⟨kc,hkc⟩:=uz hm hvc
   obtain ⟨i',zv,hi',hzv,hcs,hzr⟩:=o5 hz
   rw [hi] at hi';cases hi'
   dsimp only at h0
   unfold bH at c3 c4
   have hsz:zv.cells.size=i.size:=by rw [←c5, ←hcs];simp
   have h63:m≤9223372036854775807:=by
    have:m*1≤m*(i.size:Int):=Int.mul_le_mul_of_nonneg_left (by omega) (by omega)
    omega
   have hrun:=run_make (P:=P) w t e i zv he hi hzv kl kc n m c1 c2 (by rw [Int.mul_comm];omega) h63
   have hcell: ∀r j,r<m.toNat→j<i.size→r*i.size+j<m.toNat*i.size:=by
    intro r j hr hj
    have:(r+1)*i.size≤m.toNat*i.size:=Nat.mul_le_mul_right _ hr
    rw [Nat.add_mul,Nat.one_mul] at this
    omega
   obtain ⟨μ',q1,q2,q3⟩:=GH H (iZ w (.cells (madeCells zv.cells (m.toNat*i.size)) e)) (new:=new) hnew (esz:=i.size) (rows:=List.replicate n.toNat (z.map zc)) (lo:=0) (hi:=0) (cap:=m.toNat)
    (mO w _) (.inl rfl) h0 (by simp;omega) (by rw [size_madeCells];exact Nat.le_refl _)
    (fun row hrow=>by
     obtain ⟨_,rfl⟩:=List.mem_replicate.1 hrow
     exact ⟨by simpa using c5,fun v hv=>by obtain ⟨y,hy,rfl⟩:=List.mem_map.1 hv;exact ⟨Uj (List.all_eq_true.1 c6 y hy),a7e y⟩⟩)
    (fun r row j v hi2 hj2=>by
     obtain ⟨_,y,hy,rfl,hjl,hrl⟩:=MS hcs c5 h0 hi2 hj2
     rw [EF (hcell r j (by omega) hjl) (by omega),hsz,Nat.add_comm,Nat.add_mul_mod_self_right,Nat.mod_eq_of_lt hjl]
     simp only [Array.getD_eq_getD_getElem?,hy,Option.getD_some]
     exact .zc _)
   simp only [List.length_replicate] at q3
   refine ⟨_,_,_,.inl ?_,q1,q2,q3⟩
   simp only [execOp,hop,hkl,hkc,Sem.run_bind,hrun,Result.andThen_ok]
   rfl
  ·cases hs
 ·cases hs
end
end Go.AI
