/- Part. -/
import Derived.Test.YtdnkignjanfikaaGreatAiOps7
set_option linter.unusedVariables false
set_option linter.unusedSimpArgs false
namespace Go.AI
section
variable {P:Program} {μ:Mu} {h:ba} {w:World} {f:Nat->V} {a:Act}
theorem U3 {z:Array Value} {n i:Nat} (h:i<n*z.size):(Builtin.zeroCells z n).getD i undef=z.getD (i%z.size) undef:=by
 have h0:0<z.size:=by
  rcases Nat.eq_zero_or_pos z.size with a|a
  ·rw [a] at h;simp at h
  ·exact a
 have b:=fN i h0
 simp [Builtin.zeroCells,h,b]
theorem a7B [Frame] {i:TypeInfo} {z:List Value} {zv:Value} {n:Nat} (b:zv.cells.toList=z) (c5:z.length=i.size) (h0:0<i.size) (c6:z.all cD=true):
 b4g μ h w i.size (List.replicate n (z.map zc)) (Builtin.zeroCells zv.cells n):=by
 have a:zv.cells.size=i.size:=by rw [<-c5, <-b];simp
 refine ⟨by rw [size_zeroCells,a];simp,fun r row j v d e=> ?_,fun row c=> ?_⟩
 ·obtain ⟨_,y,f,rfl,k,l⟩:=Qb b c5 h0 d e
  have m:r*i.size+j<n*i.size:=by
   have:(r+1)*i.size<=n*i.size:=bg _ l
   rw [Nat.add_mul,cK] at this
   omega
  rw [U3 (by rw [a];exact m),a,jd,nw,js k]
  simp only [Array.getD_eq_getD_getElem?,f,dL]
  exact .zc _
 ·obtain ⟨_,rfl⟩:=io.1 c
  exact ⟨by simpa using c5,fun v o=>by obtain ⟨y,f,rfl⟩:=bf.1 o;exact ⟨Wm (an.1 c6 y f),b2u y⟩⟩
theorem c0v (x:Int) (a:0<=x) (b:x<=1099511627776):IntKind.i64.wrap x=x:=by
 simp [IntKind.wrap,IntKind.bits,IntKind.signed];omega
set_option maxHeartbeats 4000000 in
theorem WD {t u e ty:TypeId} {k:IntKind} {i:TypeInfo} {base:Option Addr} {sLen sCap:Nat} {kk:IntKind} {l:Int} {zv:Value} (f:P.underlying t=some (.slice e)) (h:P.underlying u=some (.int k))
 (hi:P.info? e=some i) (o:i.zero=some zv) (h0:0<=l) (p:l<=1099511627776) (s:l*i.bytes<=1099511627776) (q:0<i.size) (c:sLen+l.toNat<=sCap):
 (Builtin.append_ #[t,u] ty #[.slice base sLen sCap,.int kk l]).run P w=
  ((match base with|some a=>storeCells (a.add (sLen*i.size)) (Builtin.zeroCells zv.cells l.toNat).toList|none=>pure ():Sem Unit).run P w).andThen fun _ w'=> .ok (.slice base (sLen+l.toNat) sCap) w':=by
 have j:=c0v l h0 p
 have m: ¬l<0:=by omega
 have n: ¬(281474976710656<l*i.bytes):=by omega
 by_cases d:l.toNat=0
 ·have:l.toNat*i.size=0:=by rw [d];simp
  have b:sLen<=sCap:=by omega
  cases base<;>simp [Builtin.append_,run_underlying f,run_underlying h,sizeOf,typeInfo,hi,asInt,asIntOf,j,m,n,d,b,Builtin.zeroCells]
 ·have:l.toNat*i.size≠0:=Nat.mul_ne_zero d om
  have r: ¬(l.toNat=0\/i.size=0):=by omega
  cases base<;>simp [Builtin.append_,run_underlying f,run_underlying h,sizeOf,typeInfo,hi,asInt,asIntOf,j,m,n,this,r,c,zeroValue,o]
set_option maxHeartbeats 4000000 in
theorem XP {t u e ty:TypeId} {k:IntKind} {i:TypeInfo} {base:Option Addr} {sLen sCap:Nat} {kk:IntKind} {l:Int} {zv:Value} {old:Array Value} (n:P.underlying t=some (.slice e)) (o:P.underlying u=some (.int k))
 (hi:P.info? e=some i) (p:i.zero=some zv) (h0:0<=l) (z:l<=1099511627776) (h2:l*i.bytes<=1099511627776) (hsz:0<i.size)
 (c: ∀w':World,w'.heap=w.heap->(Builtin.firstCells i.size sLen (.slice base sLen sCap)).run P w'= .ok old w') (q:sCap<sLen+l.toNat) (hb:(sLen+l.toNat)*i.bytes<=140737488355328) (h63:sLen+l.toNat<=9223372036854775807):
 ∃nc,sLen+l.toNat<=nc/\(Builtin.append_ #[t,u] ty #[.slice base sLen sCap,.int kk l]).run P w=
  .ok (.slice (some ⟨w.heap.size,0,none⟩) (sLen+l.toNat) nc) (p8 { w with drawn:=w.drawn+1 } (.cells (old++Builtin.zeroCells zv.cells l.toNat++Builtin.zeroCells zv.cells (nc-(sLen+l.toNat))) e)):=by
 refine ⟨(Question.appendCap (sLen+l.toNat) sCap e).cut (w.tape w.drawn (.appendCap (sLen+l.toNat) sCap e)),by simp only [Question.cut];omega, ?_⟩
 have r:=growslice_fits (need:=sLen+l.toNat) (old:=sCap) (bytes:=i.bytes) om hb
 have hforced:(Question.appendCap (sLen+l.toNat) sCap e).forced=false:=rfl
 have d: ¬sLen+l.toNat<=sCap:=by omega
 have f: ¬(281474976710656<Builtin.nextslicecap (sLen+l.toNat) sCap*i.bytes):=by omega
 have h: ¬(9223372036854775807<(sLen:Int)+(l.toNat:Int)):=by omega
 have n3': ¬(9223372036854775807<(sLen:Int)+max l 0):=by omega
 have s: ¬l<0:=by omega
 have v: ¬(281474976710656<l*i.bytes):=by omega
 have b:IntKind.i64.max=9223372036854775807:=rfl
 have x:=c w.drew rfl
 have y:=c0v l h0 z
 by_cases a:l.toNat=0
 ·have h4:l.toNat*i.size=0:=by rw [a];simp
  have j:Builtin.zeroCells zv.cells 0= #[]:=by simp [Builtin.zeroCells]
  rw [a] at d f h hforced ⊢
  simp only [cH] at d f hforced ⊢
  simp [Builtin.append_,run_underlying n,run_underlying o,sizeOf,typeInfo,hi,asInt,asIntOf,y,d,f,h,n3',s,v,a,hforced,b,x,zeroValue,p,newRow,j];rfl
 ·have h3: ¬(l.toNat=0\/i.size=0):=by omega
  have m: ¬(l<=0\/i.size=0):=by omega
  have h3'':l.toNat*i.size≠0:=Nat.mul_ne_zero a om
  simp [h3'',Builtin.append_,run_underlying n,run_underlying o,sizeOf,typeInfo,hi,asInt,asIntOf,y,d,f,h,n3',s,v,h3,m,hforced,b,x,zeroValue,p,newRow];rfl
theorem a09 [Frame] (H:bG μ h w) (E:ic μ h w f a) {o:Oper} {c:Call} {t u' e:TypeId} {k:IntKind} {i:TypeInfo} {z:List Value} {x y:Operand} {x' y':Opd} (hop:o.op= .call c) (hca:c.callee= .builtin .append) (j:c.args.toList=[x,y])
 (hx:bF x=some x') (hy:bF y=some y') (ht:c.argTypes[0]? =some t) (hu0:c.argTypes[1]? =some u') (hu:P.underlying u'=some (.int k)) (he:P.underlying t=some (.slice e)) (hi:P.info? e=some i) (hz:Dr P e=some z)
 {C:cr} {ow:FuncId->List Nat} {new:Nat} {v:V} {u:Upd} (m:aK C ow (.appendN i.size i.bytes z x' y') (Opd.ev f) h new=some (v,u)):jv P o a μ h w v u:=by
 have hvx:=bX E hx
 have hvy:=bX E hy
 have ha:c.args= #[x,y]:=by rw [<-j]
 obtain ⟨i',zv,p,q,hcs,hzr⟩:=uH hz
 rw [hi] at p;cases p
 have exec_eq: ∀r w',(Builtin.append_ #[t,u'] o.type #[a.eval x,a.eval y]).run P w= .ok r w'->(execOp a.eval o).run P w= .ok (.value r) w':=by
  intro r w' hr
  have hat: ∀ty args,Builtin.append_ c.argTypes ty args=Builtin.append_ #[t,u'] ty args:=by
   intro ty args
   unfold Builtin.append_
   simp only [ht,hu0]
   rfl
  simp only [execOp,hop,resolve,hca,ha,Sem.run_bind,Sem.run_pure,Result.andThen_ok,invoke,builtin,hat,qK,aM,eu,hr]
 simp only [aK] at m
 split at m
 ·rename_i l hl
  split at m
  ·rename_i hc
   obtain ⟨d1,d2,d3,d4⟩:=hc
   obtain ⟨kk,hkk⟩:=zH hl hvy
   have n:=m
   unfold Np at n
   split at n
   ·rename_i b
    refine Ov (e:=e) (B:=fun s=>Builtin.append_ #[t,u'] o.type #[s,a.eval y]) (sb:=fun _=>true) H hcs hvx (a7B hcs b.1 b.2.1 d4) (fun base sLen sCap d=> ?_) (fun base sLen sCap old hold h1 h2 h3=> ?_) exec_eq m
    ·rw [aL] at d ⊢
     rw [hkk]
     exact WD he hu hi q d1 d2 d3 b.2.1 d
    ·rw [aL] at h1 h2 h3 ⊢
     rw [hkk]
     exact XP he hu hi q d1 d2 d3 b.2.1 hold h1 h2 h3
   ·cases n
  ·cases m
 ·cases m
end
end Go.AI
