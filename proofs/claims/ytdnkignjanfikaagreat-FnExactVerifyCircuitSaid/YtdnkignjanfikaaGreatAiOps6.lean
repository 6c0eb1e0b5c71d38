/- The operations of the abstract machine and the model's. Sixth part: make, append, copy, cuts, lengths, structs compared. -/
import Derived.Test.YtdnkignjanfikaaGreatAiOps5
import Derived.Lib.SliceRun
set_option linter.unusedVariables false
set_option linter.unusedSimpArgs false
namespace Go.AI
section
variable {P:Program} {μ:Mu} {h:aZ} {w:World} {f:Nat->V} {a:Act}
theorem a87 [Frame] (H:bD μ h w) (E:gj μ h w f a) {o:Oper} {op:BinOp} {t ty:TypeId} {x y:Operand} {x' y':Opd} {neg:Bool} (hop:o.op= .binOp op t x y ty) (hx:bC x=some x') (hy:bC y=some y') (hu:P.underlying t=some .bool)
 (hneg:op=if neg then .neq else .eql) {C:cg} {ow:FuncId->List Nat} {new:Nat} {v:V} {u:Upd} (hs:aN C ow (.beq neg x' y') (Opd.ev f) h new=some (v,u)):iC P o a μ h w v u:=by
 have hvx:=bP E hx
 have hvy:=bP E hy
 simp only [aN] at hs
 split at hs
 ·rename_i p q hp hq
  rw [hp] at hvx
  rw [hq] at hvy
  cases hs
  refine .quiet H (x:= .bool (if neg then p !=q else p==q)) ?_ (.lit _)
  have e1:(Op.equal t (.bool p) (.bool q)).run P w= .ok (p==q) w:=Go.run_equalIn_bool' w 9999 t p q hu
  have e2:=de hvx
  have e3:=de hvy
  cases neg with
  |false=>
   simp only [bA,if_false] at hneg
   subst hneg
   simp only [execOp,hop,e2,e3,Sem.run_bind,eqGuard,binOp,Sem.run_pure,Result.andThen_ok]
   simp [e1]
  |true=>
   simp only [if_true] at hneg
   subst hneg
   simp only [execOp,hop,e2,e3,Sem.run_bind,eqGuard,binOp,Sem.run_pure,Result.andThen_ok]
   simp [e1]
   cases p<;>cases q<;>rfl
 ·cases hs
theorem Xf [Frame] (H:bD μ h w) (E:gj μ h w f a) {o:Oper} {op:BinOp} {t ty e:TypeId} {x y:Operand} {x':Opd} {neg:Bool} (hop:o.op= .binOp op t x y ty) (hx:bC x=some x') (hy:bC y=some (.c (.slice none 0 0))) (hu:P.underlying t=some (.slice e))
 (hneg:op=if neg then .neq else .eql) {C:cg} {ow:FuncId->List Nat} {new:Nat} {v:V} {u:Upd} (hs:aN C ow (.isNil neg x') (Opd.ev f) h new=some (v,u)):iC P o a μ h w v u:=by
 have hvx:=bP E hx
 have hvy:=de (bP E hy)
 have key: ∀(ad:Option Addr) (m cap:Nat),a.eval x= .slice ad m cap->iC P o a μ h w (.lit (.bool (if neg then !ad.isNone else ad.isNone))) []:=by
  intro ad m cap he
  have e1:(Op.equal t (.slice ad m cap) (.slice none 0 0)).run P w= .ok ad.isNone w:=by
   simp [Op.equal,Op.maxDepth,Go.Lib.run_equalIn_slice_nil w 9999 t e ad m cap 0 0 hu]
  refine .quiet H (x:= .bool (if neg then !ad.isNone else ad.isNone)) ?_ (.lit _)
  cases neg with
  |false=>
   simp only [bA,if_false] at hneg
   subst hneg
   simp only [execOp,hop,he,hvy,Sem.run_bind,eqGuard,binOp,Sem.run_pure,Result.andThen_ok]
   simp [e1]
  |true=>
   simp only [if_true] at hneg
   subst hneg
   simp only [execOp,hop,he,hvy,Sem.run_bind,eqGuard,binOp,Sem.run_pure,Result.andThen_ok]
   simp [e1]
 simp only [aN] at hs
 split at hs
 ·rename_i ad m cap hp
  rw [hp] at hvx
  cases hs
  exact key ad m cap (de hvx)
 ·rename_i e0 row rows hp
  rw [hp] at hvx
  cases hs
  generalize hX:a.eval x=X at hvx
  cases hvx with
  |imm _ _ c off cap=>
   have:=key _ _ _ hX
   have e2:(if neg=true then !(some (⟨c,off,none⟩:Addr)).isNone else (some (⟨c,off,none⟩:Addr)).isNone)=neg:=by cases neg<;>rfl
   rw [e2] at this
   exact this
 ·cases hs
theorem b4W [Frame] (H:bD μ h w) (E:gj μ h w f a) {o:Oper} {c:Call} {t:TypeId} {x:Operand} {x':Opd} (hop:o.op= .call c) (hca:c.callee= .builtin .len) (hargs:c.args.toList=[x]) (hx:bC x=some x')
 (ht:c.argTypes[0]? =some t) (hu:P.underlying t=some .string)
 {C:cg} {ow:FuncId->List Nat} {new:Nat} {v:V} {u:Upd} (hs:aN C ow (.len true x') (Opd.ev f) h new=some (v,u)):iC P o a μ h w v u:=by
 have hvx:=bP E hx
 have ha:c.args= #[x]:=by rw [<-hargs]
 simp only [aN] at hs
 split at hs
 ·rename_i s _ hb
  cases hs
  rw [hb] at hvx
  refine .quiet H (x:= .int .i64 s.size) ?_ (.lit _)
  simp [execOp,hop,resolve,hca,ha,invoke,builtin,Builtin.len_,ht,run_underlying hu,de hvx,goInt]
 ·rename_i h1 _;cases h1
 ·rename_i h1 _;cases h1
 ·rename_i h1 _;cases h1
 ·cases hs
theorem b5d [Frame] (H:bD μ h w) (E:gj μ h w f a) {o:Oper} {c:Call} {t e:TypeId} {x:Operand} {x':Opd} (hop:o.op= .call c) (hca:c.callee= .builtin .len) (hargs:c.args.toList=[x]) (hx:bC x=some x')
 (ht:c.argTypes[0]? =some t) (hu:P.underlying t=some (.slice e))
 {C:cg} {ow:FuncId->List Nat} {new:Nat} {v:V} {u:Upd} (hs:aN C ow (.len false x') (Opd.ev f) h new=some (v,u)):iC P o a μ h w v u:=by
 have hvx:=bP E hx
 have ha:c.args= #[x]:=by rw [<-hargs]
 have run: ∀(n:Nat) ad cap,a.eval x= .slice ad n cap->(execOp a.eval o).run P w= .ok (.value (.int .i64 n)) w:=by
  intro n ad cap hX
  simp [execOp,hop,resolve,hca,ha,invoke,builtin,Builtin.len_,ht,run_underlying hu,hX,goInt]
 simp only [aN] at hs
 split at hs
 ·rename_i h1 _;cases h1
 ·rename_i ad n cap _ hb
  cases hs
  rw [hb] at hvx
  exact .quiet H (run n ad cap (de hvx)) (.lit _)
 ·rename_i b s n _ hb
  cases hs
  rw [hb] at hvx
  generalize hX:a.eval x=X at hvx
  cases hvx with
  |sl _ _ _ _ k hk hn hx hp=>obtain ⟨ad,cap,rfl⟩:=hx;exact .quiet H (run n ad cap hX) (.lit _)
 ·rename_i e rows _ hb
  cases hs
  rw [hb] at hvx
  generalize hX:a.eval x=X at hvx
  cases hvx with
  |emp ad=>exact .quiet H (run 0 ad 0 hX) (.lit _)
  |imm0 _ ad cap=>exact .quiet H (run 0 ad cap hX) (.lit _)
  |imm _ _ c off cap=>exact .quiet H (run _ _ cap hX) (.lit _)
 ·cases hs
theorem a6R [Frame] (H:bD μ h w) (E:gj μ h w f a) {o:Oper} {c:Call} {t e:TypeId} {n:Nat} {x:Operand} {x':Opd} (hop:o.op= .call c) (hca:c.callee= .builtin .len) (hargs:c.args.toList=[x]) (hx:bC x=some x')
 (ht:c.argTypes[0]? =some t) (hu:P.underlying t=some (.array n e))
 {C:cg} {ow:FuncId->List Nat} {new:Nat} {v:V} {u:Upd} (hs:aN C ow (.lenArr n x') (Opd.ev f) h new=some (v,u)):iC P o a μ h w v u:=by
 have ha:c.args= #[x]:=by rw [<-hargs]
 simp only [aN] at hs
 cases hs
 refine .quiet H (x:= .int .i64 n) ?_ (.lit _)
 simp [execOp,hop,resolve,hca,ha,invoke,builtin,Builtin.len_,ht,run_underlying hu,goInt]
theorem a83 {X:Array Value} {n:Nat} (h:n<X.size):X[n]? =some (X.getD n undef):=by
 rw [Array.getD_eq_getD_getElem?,aL h];rfl
theorem a5c {xs ys:List V} {r:Bool} (h:i4 [] xs ys=some r):xs=[]/\ys=[]/\r=true:=by
 cases xs with
 |nil=>
  cases ys with
  |nil=>simp [i4] at h;exact ⟨rfl,rfl,h⟩
  |cons y ys=>simp [i4] at h
 |cons x xs=>simp [i4] at h
theorem a1S {ks:List Bool} {xs ys:List V} {r:Bool} (h:i4 (true::ks) xs ys=some r):
 ∃k m n xs' ys',xs= .lit (.int k m)::xs'/\ys= .lit (.int k n)::ys'/\((m=n/\i4 ks xs' ys'=some r)\/(m≠n/\r=false)):=by
 unfold i4 at h
 split at h
 ·rename_i h1;cases h1
 ·rename_i ks1 k m xs' k' n ys' h1
  cases h1
  by_cases hk:k=k'
  ·subst hk
   rw [ae rfl] at h
   by_cases hm:m=n
   ·rw [ae hm] at h;exact ⟨k,m,n,xs',ys',rfl,rfl,.inl ⟨hm,h⟩⟩
   ·rw [aa hm] at h;injection h with h;exact ⟨k,m,n,xs',ys',rfl,rfl,.inr ⟨hm,h.symm⟩⟩
  ·rw [aa hk] at h;cases h
 ·rename_i h1;cases h1
 ·cases h
theorem a5b {ks:List Bool} {xs ys:List V} {r:Bool} (h:i4 (false::ks) xs ys=some r):
 ∃m n xs' ys',xs= .lit (.string m)::xs'/\ys= .lit (.string n)::ys'/\((m=n/\i4 ks xs' ys'=some r)\/(m≠n/\r=false)):=by
 unfold i4 at h
 split at h
 ·rename_i h1;cases h1
 ·rename_i h1;cases h1
 ·rename_i ks1 m xs' n ys' h1
  cases h1
  by_cases hm:m=n
  ·rw [ae hm] at h;exact ⟨m,n,xs',ys',rfl,rfl,.inl ⟨hm,h⟩⟩
  ·rw [aa hm] at h;injection h with h;exact ⟨m,n,xs',ys',rfl,rfl,.inr ⟨hm,h.symm⟩⟩
 ·cases h
theorem M4 [Frame] {d:Nat}: ∀(fs:List Field) (n:Nat) (ks:List Bool) (xs ys:List V) (X Y:Array Value) (r:Bool),ob P n fs=some ks->
 (∀j v,xs[j]? =some v->aX μ h w v (X.getD (n+j) undef))->(∀j v,ys[j]? =some v->aX μ h w v (Y.getD (n+j) undef))->
 X.size=n+xs.length->Y.size=n+ys.length->i4 ks xs ys=some r->(Op.eqFields (d+1) X Y fs).run P w= .ok r w
 |[],n,ks,xs,ys,X,Y,r,hp,_,_,_,_,he=>by
  simp [ob] at hp
  subst hp
  obtain ⟨_,_,rfl⟩:=a5c he
  simp [Op.eqFields]
 |fd::fs,n,ks,xs,ys,X,Y,r,hp,hx,hy,hsx,hsy,he=>by
  simp only [ob] at hp
  split at hp
  ·rename_i p0
   simp only [aC,bne_iff_ne,ne_eq,beq_iff_eq] at p0
   obtain ⟨p1,p2⟩:=p0
   have step: ∀(x y:V) (xs' ys':List V) (ks':List Bool),xs=x::xs'->ys=y::ys'->ob P (n+1) fs=some ks'-> ∀r,i4 ks' xs' ys'=some r->
    (Op.eqFields (d+1) X Y fs).run P w= .ok r w:=by
    intro x y xs' ys' ks' e1 e2 e3 r he2
    subst e1 e2
    simp only [ah] at hsx hsy
    exact M4 (d:=d) fs (n+1) ks' xs' ys' X Y r e3 (fun j v hj=>by have:=hx (j+1) v (by simpa using hj);rwa [show n+(j+1)=n+1+j by omega] at this)
     (fun j v hj=>by have:=hy (j+1) v (by simpa using hj);rwa [show n+(j+1)=n+1+j by omega] at this) (by omega) (by omega) he2
   have parts: ∀(x y:V) (xs' ys':List V),xs=x::xs'->ys=y::ys'->(isAgg fd.type).run P w= .ok false w->
    (Go.part fd.type X fd.offset).run P w= .ok (X.getD n undef) w/\(Go.part fd.type Y fd.offset).run P w= .ok (Y.getD n undef) w/\aX μ h w x (X.getD n undef)/\aX μ h w y (Y.getD n undef):=by
    intro x y xs' ys' e1 e2 hagg
    subst e1 e2
    simp only [ah] at hsx hsy
    have hx0:=hx 0 x rfl
    have hy0:=hy 0 y rfl
    simp only [cQ] at hx0 hy0
    refine ⟨?_, ?_,hx0,hy0⟩
    ·simp only [Go.part,Sem.run_bind,hagg,Result.andThen_ok,p2,bA,if_false,a83 (show n<X.size by omega),Sem.run_pure]
    ·simp only [Go.part,Sem.run_bind,hagg,Result.andThen_ok,p2,bA,if_false,a83 (show n<Y.size by omega),Sem.run_pure]
   split at hp
   ·rename_i k0 ks' hu hks
    cases hp
    obtain ⟨k,m,m',xs',ys',rfl,rfl,hcase⟩:=a1S he
    obtain ⟨g1,g2,g3,g4⟩:=parts _ _ _ _ rfl rfl (by simp [isAgg,run_underlying hu])
    rw [de g3] at g1
    rw [de g4] at g2
    simp only [Op.eqFields,Sem.run_ite]
    rw [ae p1]
    simp only [Sem.run_bind,g1,g2,Result.andThen_ok,run_equalIn_int w d fd.type k k0 m m' hu]
    rcases hcase with ⟨hmm,he'⟩|⟨hmm,rfl⟩
    ·simp only [hmm,beq_self_eq_true,aH,bA,if_false]
     exact step _ _ _ _ _ rfl rfl hks r he'
    ·have:(m==m')=false:=by simpa using hmm
     simp [this]
   ·rename_i ks' hu hks
    cases hp
    obtain ⟨m,m',xs',ys',rfl,rfl,hcase⟩:=a5b he
    obtain ⟨g1,g2,g3,g4⟩:=parts _ _ _ _ rfl rfl (by simp [isAgg,run_underlying hu])
    rw [de g3] at g1
    rw [de g4] at g2
    simp only [Op.eqFields,Sem.run_ite]
    rw [ae p1]
    simp only [Sem.run_bind,g1,g2,Result.andThen_ok,run_equalIn_string w d fd.type m m' hu]
    rcases hcase with ⟨hmm,he'⟩|⟨hmm,rfl⟩
    ·simp only [hmm,beq_self_eq_true,aH,bA,if_false]
     exact step _ _ _ _ _ rfl rfl hks r he'
    ·have:(m.toList==m'.toList)=false:=by
      rw [ByteArray.toList_eq,ByteArray.toList_eq,beq_eq_false_iff_ne]
      intro e
      apply hmm
      cases m;cases m'
      congr 1
      exact eO e
     simp [this]
   ·cases hp
  ·cases hp
theorem XJ [Frame] (H:bD μ h w) (E:gj μ h w f a) {o:Oper} {op:BinOp} {t ty:TypeId} {x y:Operand} {x' y':Opd} {fs:Array Field} {ks:List Bool} {neg:Bool} (hop:o.op= .binOp op t x y ty) (hx:bC x=some x') (hy:bC y=some y')
 (hu:P.underlying t=some (.struct fs)) (hst:P.stoodInHeld t=false) (hgd:P.eqGuardType P.depth t=false) (hks:ob P 0 fs.toList=some ks) (hneg:op=if neg then .neq else .eql)
 {C:cg} {ow:FuncId->List Nat} {new:Nat} {v:V} {u:Upd} (hs:aN C ow (.eqAgg neg ks x' y') (Opd.ev f) h new=some (v,u)):iC P o a μ h w v u:=by
 have hvx:=bP E hx
 have hvy:=bP E hy
 simp only [aN] at hs
 split at hs
 ·rename_i xs ys hbx hby
  split at hs
  ·rename_i r hr
   cases hs
   rw [hbx] at hvx
   rw [hby] at hvy
   generalize hX:a.eval x=X0 at hvx
   generalize hY:a.eval y=Y0 at hvy
   cases hvx with
   |agg _ X hlx hcx hrx=>
    cases hvy with
    |agg _ Y hly hcy hry=>
     have hfs:P.fieldsOf t=fs:=by simp [Program.fieldsOf,hu]
     have hrun:(Op.equal t (.agg X) (.agg Y)).run P w= .ok r w:=by
      show (Op.equalIn (9999+1) t (.agg X) (.agg Y)).run P w=_
      rw [run_equalIn_struct w 9999 t X Y (by rw [hfs];exact hu) hst,hfs]
      exact M4 (d:=9998) fs.toList 0 ks xs ys X Y r hks (fun j v hj=>by simpa using hrx j v hj) (fun j v hj=>by simpa using hry j v hj) (by omega) (by omega) hr
     refine .quiet H (x:= .bool (if neg then !r else r)) ?_ (.lit _)
     subst hneg
     cases neg
     ·simp [execOp,hop,hX,hY,eqGuard,hgd,binOp,hrun]
     ·simp [execOp,hop,hX,hY,eqGuard,hgd,binOp,hrun]
  ·cases hs
 ·cases hs
theorem QV [Frame] {z:List Value} {zv:Value} {esz n:Nat} (hz:zv.cells.toList=z) (hzl:z.length=esz) (h0:0<esz) {i j:Nat} {row:List V} {v:V}
 (hi:(List.replicate n (z.map zc))[i]? =some row) (hj:row[j]? =some v):row=z.map zc/\ ∃y,zv.cells[j]? =some y/\v=zc y/\j<esz/\i<n:=by
 have hil:=cS hi
 simp only [aQ] at hil
 rw [List.getElem?_replicate,ae hil] at hi
 cases hi
 rw [aV] at hj
 cases hy:z[j]? with
 |none=>rw [hy] at hj;cases hj
 |some y=>
  rw [hy] at hj;cases hj
  exact ⟨rfl,y,by rw [<-Array.getElem?_toList,hz];exact hy,rfl,by rw [<-hzl];exact cS hy,hil⟩
theorem Iq {z:Array Value} {n i:Nat} (h:i<n) (hz:0<z.size):(madeCells z n).getD i undef=z.getD (i%z.size) undef:=by
 have hm:=gG i hz
 simp [madeCells,h,hm]
theorem Ws [Frame] (H:bD μ h w) (E:gj μ h w f a) {o:Oper} {t e:TypeId} {i:TypeInfo} {z:List Value} {l c:Operand} {l' c':Opd} (hop:o.op= .makeSlice t l c) (hl:bC l=some l') (hc:bC c=some c')
 (he:P.underlying t=some (.slice e)) (hi:P.info? e=some i) (hz:Cl P e=some z)
 {C:cg} {ow:FuncId->List Nat} {new:Nat} {v:V} {u:Upd} (hs:aN C ow (.makeSlice i.size i.bytes z l' c') (Opd.ev f) h new=some (v,u)):iC P o a μ h w v u:=by
 have hvl:=bP E hl
 have hvc:=bP E hc
 simp only [aN] at hs
 split at hs
 ·rename_i n m hn hm
  split at hs
  ·rename_i hcond
   obtain ⟨c1,c2,c3,c4,c5,c6⟩:=hcond
   obtain ⟨hnew,h0,hr⟩:=rI hs
   cases hr
   obtain ⟨kl,hkl⟩:=xO hn hvl
   obtain ⟨kc,hkc⟩:=xO hm hvc
   obtain ⟨i',zv,hi',hzv,hcs,hzr⟩:=rP hz
   rw [hi] at hi';cases hi'
   dsimp only at h0
   unfold cU at c3 c4
   have hsz:zv.cells.size=i.size:=by rw [<-c5, <-hcs];simp
   have h63:m<=9223372036854775807:=by
    have:m*1<=m*(i.size:Int):=Int.mul_le_mul_of_nonneg_left (by omega) (by omega)
    omega
   have hrun:=run_make (P:=P) w t e i zv he hi hzv kl kc n m c1 c2 (by rw [Int.mul_comm];omega) h63
   have hcell: ∀r j,r<m.toNat->j<i.size->r*i.size+j<m.toNat*i.size:=by
    intro r j hr hj
    have:(r+1)*i.size<=m.toNat*i.size:=bt _ hr
    rw [Nat.add_mul,cB] at this
    omega
   obtain ⟨μ',q1,q2,q3⟩:=La H (md w (.cells (madeCells zv.cells (m.toNat*i.size)) e)) (new:=new) hnew (esz:=i.size) (rows:=List.replicate n.toNat (z.map zc)) (lo:=0) (hi:=0) (cap:=m.toNat)
    (qf w _) (.inl rfl) h0 (by simp;omega) (by rw [size_madeCells];exact aw _)
    (fun row hrow=>by
     obtain ⟨_,rfl⟩:=gy.1 hrow
     exact ⟨by simpa using c5,fun v hv=>by obtain ⟨y,hy,rfl⟩:=bu.1 hv;exact ⟨a1c (aB.1 c6 y hy),b36 y⟩⟩)
    (fun r row j v hi2 hj2=>by
     obtain ⟨_,y,hy,rfl,hjl,hrl⟩:=QV hcs c5 h0 hi2 hj2
     rw [Iq (hcell r j (by omega) hjl) (by omega),hsz,jp,lV,o0 hjl]
     simp only [Array.getD_eq_getD_getElem?,hy,du]
     exact .zc _)
   simp only [aQ] at q3
   refine ⟨_,_,_,.inl ?_,q1,q2,q3⟩
   simp only [execOp,hop,hkl,hkc,Sem.run_bind,hrun,Result.andThen_ok]
   rfl
  ·cases hs
 ·cases hs
end
end Go.AI
