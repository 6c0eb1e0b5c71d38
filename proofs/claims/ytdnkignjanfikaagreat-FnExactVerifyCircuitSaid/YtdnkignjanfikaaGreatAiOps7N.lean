/- The operations of the abstract machine and the model's: append of a slice that is made. -/
import Derived.Test.YtdnkignjanfikaaGreatAiOps7
set_option linter.unusedVariables false
set_option linter.unusedSimpArgs false
namespace Go.AI
section
variable {P:Program} {μ:Mu} {h:aZ} {w:World} {f:Nat->V} {a:Act}
theorem VF {z:Array Value} {n i:Nat} (h:i<n*z.size):(Builtin.zeroCells z n).getD i undef=z.getD (i%z.size) undef:=by
 have h0:0<z.size:=by
  rcases Nat.eq_zero_or_pos z.size with h1|h1
  ·rw [h1] at h;simp at h
  ·exact h1
 have hm:=gG i h0
 simp [Builtin.zeroCells,h,hm]
theorem b1v [Frame] {i:TypeInfo} {z:List Value} {zv:Value} {n:Nat} (hcs:zv.cells.toList=z) (c5:z.length=i.size) (h0:0<i.size) (c6:z.all ck=true):
 b5M μ h w i.size (List.replicate n (z.map zc)) (Builtin.zeroCells zv.cells n):=by
 have hsz:zv.cells.size=i.size:=by rw [<-c5, <-hcs];simp
 refine ⟨by rw [size_zeroCells,hsz];simp,fun r row j v hi2 hj2=> ?_,fun row hrow=> ?_⟩
 ·obtain ⟨_,y,hy,rfl,hjl,hrl⟩:=QV hcs c5 h0 hi2 hj2
  have hlt:r*i.size+j<n*i.size:=by
   have:(r+1)*i.size<=n*i.size:=bt _ hrl
   rw [Nat.add_mul,cB] at this
   omega
  rw [VF (by rw [hsz];exact hlt),hsz,jp,lV,o0 hjl]
  simp only [Array.getD_eq_getD_getElem?,hy,du]
  exact .zc _
 ·obtain ⟨_,rfl⟩:=gy.1 hrow
  exact ⟨by simpa using c5,fun v hv=>by obtain ⟨y,hy,rfl⟩:=bu.1 hv;exact ⟨a1c (aB.1 c6 y hy),b36 y⟩⟩
theorem c0i (x:Int) (h1:0<=x) (h2:x<=1099511627776):IntKind.i64.wrap x=x:=by
 simp [IntKind.wrap,IntKind.bits,IntKind.signed];omega
set_option maxHeartbeats 4000000 in
theorem Yv {t u e ty:TypeId} {k:IntKind} {i:TypeInfo} {base:Option Addr} {sLen sCap:Nat} {kk:IntKind} {l:Int} {zv:Value} (ht:P.underlying t=some (.slice e)) (hu:P.underlying u=some (.int k))
 (hi:P.info? e=some i) (hz:i.zero=some zv) (h0:0<=l) (h1:l<=1099511627776) (h2:l*i.bytes<=1099511627776) (hsz:0<i.size) (hroom:sLen+l.toNat<=sCap):
 (Builtin.append_ #[t,u] ty #[.slice base sLen sCap,.int kk l]).run P w=
  ((match base with|some a=>storeCells (a.add (sLen*i.size)) (Builtin.zeroCells zv.cells l.toNat).toList|none=>pure ():Sem Unit).run P w).andThen fun _ w'=> .ok (.slice base (sLen+l.toNat) sCap) w':=by
 have hw:=c0i l h0 h1
 have n1: ¬l<0:=by omega
 have n2: ¬(281474976710656<l*i.bytes):=by omega
 by_cases hl0:l.toNat=0
 ·have:l.toNat*i.size=0:=by rw [hl0];simp
  have hroom2:sLen<=sCap:=by omega
  cases base<;>simp [Builtin.append_,run_underlying ht,run_underlying hu,sizeOf,typeInfo,hi,asInt,asIntOf,hw,n1,n2,hl0,hroom2,Builtin.zeroCells]
 ·have:l.toNat*i.size≠0:=Nat.mul_ne_zero hl0 (by omega)
  have h3: ¬(l.toNat=0\/i.size=0):=by omega
  cases base<;>simp [Builtin.append_,run_underlying ht,run_underlying hu,sizeOf,typeInfo,hi,asInt,asIntOf,hw,n1,n2,this,h3,hroom,zeroValue,hz]
set_option maxHeartbeats 4000000 in
theorem Zw {t u e ty:TypeId} {k:IntKind} {i:TypeInfo} {base:Option Addr} {sLen sCap:Nat} {kk:IntKind} {l:Int} {zv:Value} {old:Array Value} (ht:P.underlying t=some (.slice e)) (hu:P.underlying u=some (.int k))
 (hi:P.info? e=some i) (hz:i.zero=some zv) (h0:0<=l) (h1:l<=1099511627776) (h2:l*i.bytes<=1099511627776) (hsz:0<i.size)
 (hold: ∀w':World,w'.heap=w.heap->(Builtin.firstCells i.size sLen (.slice base sLen sCap)).run P w'= .ok old w') (hcap:sCap<sLen+l.toNat) (hb:(sLen+l.toNat)*i.bytes<=140737488355328) (h63:sLen+l.toNat<=9223372036854775807):
 ∃nc,sLen+l.toNat<=nc/\(Builtin.append_ #[t,u] ty #[.slice base sLen sCap,.int kk l]).run P w=
  .ok (.slice (some ⟨w.heap.size,0,none⟩) (sLen+l.toNat) nc) (mV { w with drawn:=w.drawn+1 } (.cells (old++Builtin.zeroCells zv.cells l.toNat++Builtin.zeroCells zv.cells (nc-(sLen+l.toNat))) e)):=by
 refine ⟨(Question.appendCap (sLen+l.toNat) sCap e).cut (w.tape w.drawn (.appendCap (sLen+l.toNat) sCap e)),by simp only [Question.cut];omega, ?_⟩
 have hfit:=growslice_fits (need:=sLen+l.toNat) (old:=sCap) (bytes:=i.bytes) (by omega) hb
 have hforced:(Question.appendCap (sLen+l.toNat) sCap e).forced=false:=rfl
 have n1: ¬sLen+l.toNat<=sCap:=by omega
 have n2: ¬(281474976710656<Builtin.nextslicecap (sLen+l.toNat) sCap*i.bytes):=by omega
 have n3: ¬(9223372036854775807<(sLen:Int)+(l.toNat:Int)):=by omega
 have n3': ¬(9223372036854775807<(sLen:Int)+max l 0):=by omega
 have n4: ¬l<0:=by omega
 have n5: ¬(281474976710656<l*i.bytes):=by omega
 have hmax:IntKind.i64.max=9223372036854775807:=rfl
 have ho:=hold w.drew rfl
 have hw:=c0i l h0 h1
 by_cases hl0:l.toNat=0
 ·have h4:l.toNat*i.size=0:=by rw [hl0];simp
  have hzz:Builtin.zeroCells zv.cells 0= #[]:=by simp [Builtin.zeroCells]
  rw [hl0] at n1 n2 n3 hforced ⊢
  simp only [cQ] at n1 n2 hforced ⊢
  simp [Builtin.append_,run_underlying ht,run_underlying hu,sizeOf,typeInfo,hi,asInt,asIntOf,hw,n1,n2,n3,n3',n4,n5,hl0,hforced,hmax,ho,zeroValue,hz,newRow,hzz];rfl
 ·have h3: ¬(l.toNat=0\/i.size=0):=by omega
  have h3': ¬(l<=0\/i.size=0):=by omega
  have h3'':l.toNat*i.size≠0:=Nat.mul_ne_zero hl0 (by omega)
  simp [h3'',Builtin.append_,run_underlying ht,run_underlying hu,sizeOf,typeInfo,hi,asInt,asIntOf,hw,n1,n2,n3,n3',n4,n5,h3,h3',hforced,hmax,ho,zeroValue,hz,newRow];rfl
theorem a3e [Frame] (H:bD μ h w) (E:gj μ h w f a) {o:Oper} {c:Call} {t u' e:TypeId} {k:IntKind} {i:TypeInfo} {z:List Value} {x y:Operand} {x' y':Opd} (hop:o.op= .call c) (hca:c.callee= .builtin .append) (hargs:c.args.toList=[x,y])
 (hx:bC x=some x') (hy:bC y=some y') (ht:c.argTypes[0]? =some t) (hu0:c.argTypes[1]? =some u') (hu:P.underlying u'=some (.int k)) (he:P.underlying t=some (.slice e)) (hi:P.info? e=some i) (hz:Cl P e=some z)
 {C:cg} {ow:FuncId->List Nat} {new:Nat} {v:V} {u:Upd} (hs:aN C ow (.appendN i.size i.bytes z x' y') (Opd.ev f) h new=some (v,u)):iC P o a μ h w v u:=by
 have hvx:=bP E hx
 have hvy:=bP E hy
 have ha:c.args= #[x,y]:=by rw [<-hargs]
 obtain ⟨i',zv,hi',hzv,hcs,hzr⟩:=rP hz
 rw [hi] at hi';cases hi'
 have exec_eq: ∀r w',(Builtin.append_ #[t,u'] o.type #[a.eval x,a.eval y]).run P w= .ok r w'->(execOp a.eval o).run P w= .ok (.value r) w':=by
  intro r w' hr
  have hat: ∀ty args,Builtin.append_ c.argTypes ty args=Builtin.append_ #[t,u'] ty args:=by
   intro ty args
   unfold Builtin.append_
   simp only [ht,hu0]
   rfl
  simp only [execOp,hop,resolve,hca,ha,Sem.run_bind,Sem.run_pure,Result.andThen_ok,invoke,builtin,hat,oy,aS,ee,hr]
 simp only [aN] at hs
 split at hs
 ·rename_i l hl
  split at hs
  ·rename_i hc
   obtain ⟨d1,d2,d3,d4⟩:=hc
   obtain ⟨kk,hkk⟩:=xO hl hvy
   have hs':=hs
   unfold Kq at hs'
   split at hs'
   ·rename_i hcond
    refine NP (e:=e) (B:=fun s=>Builtin.append_ #[t,u'] o.type #[s,a.eval y]) (sb:=fun _=>true) H hcs hvx (b1v hcs hcond.1 hcond.2.1 d4) (fun base sLen sCap hroom=> ?_) (fun base sLen sCap old hold h1 h2 h3=> ?_) exec_eq hs
    ·rw [aQ] at hroom ⊢
     rw [hkk]
     exact Yv he hu hi hzv d1 d2 d3 hcond.2.1 hroom
    ·rw [aQ] at h1 h2 h3 ⊢
     rw [hkk]
     exact Zw he hu hi hzv d1 d2 d3 hcond.2.1 hold h1 h2 h3
   ·cases hs'
  ·cases hs
 ·cases hs
end
end Go.AI
