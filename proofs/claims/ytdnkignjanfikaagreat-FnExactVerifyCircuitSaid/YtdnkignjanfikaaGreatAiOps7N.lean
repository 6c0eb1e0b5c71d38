/- Part. -/
import Derived.Test.YtdnkignjanfikaaGreatAiOps7
set_option linter.unusedVariables false
set_option linter.unusedSimpArgs false
namespace Go.AI
section
variable {P:Program} {μ:Mu} {h:b8} {w:World} {f:Nat->V} {a:Act}
theorem UP {z:Array Value} {n i:Nat} (h:i<n*z.size):(Builtin.zeroCells z n).getD i undef=z.getD (i%z.size) undef:=by
 a h0:0<z.size:=by
   rcases Nat.eq_zero_or_pos z.size with b|b
   ·rw [b] at h;simp at h
   ·exact b
 a c:=gq i h0
 simp [Builtin.zeroCells,h,c]
theorem a8W [Frame] {i:TypeInfo} {z:List Value} {zv:Value} {n:Nat} (c:zv.cells.toList=z) (c5:z.length=i.size) (h0:0<i.size) (c6:z.all ci=true):
 b1D μ h w i.size (List.replicate n (z.map zc)) (Builtin.zeroCells zv.cells n):=by
 a b:zv.cells.size=i.size:=by rw [<-c5, <-c];simp
 refine ⟨by rw [size_zeroCells,b];simp,fun r row j v e f=> ?_,fun row d=> ?_⟩
 ·obtain ⟨_,y,k,rfl,l,m⟩:=QK c c5 h0 e f
  a o:r*i.size+j<n*i.size:=by
    a:(r+1)*i.size<=n*i.size:=bi _ m
    rw [Nat.add_mul,cB] at this
    omega
  rw [UP (by rw [b];exact o),b,jh,lw,od l]
  simp only [Array.getD_eq_getD_getElem?,k,dq]
  exact .zc _
 ·obtain ⟨_,rfl⟩:=gr.1 d
  exact ⟨by simpa using c5,fun v p=>by obtain ⟨y,k,rfl⟩:=bq.1 p;exact ⟨ZS (aB.1 c6 y k),b3J y⟩⟩
theorem c1P (x:Int) (a:0<=x) (b:x<=1099511627776):IntKind.i64.wrap x=x:=by
 simp [IntKind.wrap,IntKind.bits,IntKind.signed];omega
set_option maxHeartbeats 4000000 in
theorem YB {t u e ty:TypeId} {k:IntKind} {i:TypeInfo} {base:Option Addr} {sLen sCap:Nat} {kk:IntKind} {l:Int} {zv:Value} (h:P.underlying t=some (.slice e)) (j:P.underlying u=some (.int k))
 (hi:P.info? e=some i) (p:i.zero=some zv) (h0:0<=l) (q:l<=1099511627776) (v:l*i.bytes<=1099511627776) (r:0<i.size) (d:sLen+l.toNat<=sCap):
 (Builtin.append_ #[t,u] ty #[.slice base sLen sCap,.int kk l]).run P w=
  ((match base with|some a=>storeCells (a.add (sLen*i.size)) (Builtin.zeroCells zv.cells l.toNat).toList|none=>pure ():Sem Unit).run P w).andThen fun _ w'=> .ok (.slice base (sLen+l.toNat) sCap) w':=by
 b m:=c1P l h0 q
 b n: ¬l<0:=by omega
 b o: ¬(281474976710656<l*i.bytes):=by omega
 by_cases f:l.toNat=0
 ·b:l.toNat*i.size=0:=by rw [f];simp
  b c:sLen<=sCap:=by omega
  cases base<;>simp [Builtin.append_,run_underlying h,run_underlying j,sizeOf,typeInfo,hi,asInt,asIntOf,m,n,o,f,c,Builtin.zeroCells]
 ·b:l.toNat*i.size≠0:=Nat.mul_ne_zero f (by omega)
  b s: ¬(l.toNat=0\/i.size=0):=by omega
  cases base<;>simp [Builtin.append_,run_underlying h,run_underlying j,sizeOf,typeInfo,hi,asInt,asIntOf,m,n,o,this,s,d,zeroValue,p]
set_option maxHeartbeats 4000000 in
theorem X6 {t u e ty:TypeId} {k:IntKind} {i:TypeInfo} {base:Option Addr} {sLen sCap:Nat} {kk:IntKind} {l:Int} {zv:Value} {old:Array Value} (o:P.underlying t=some (.slice e)) (p:P.underlying u=some (.int k))
 (hi:P.info? e=some i) (q:i.zero=some zv) (h0:0<=l) (h1:l<=1099511627776) (h2:l*i.bytes<=1099511627776) (hsz:0<i.size)
 (d: ∀w':World,w'.heap=w.heap->(Builtin.firstCells i.size sLen (.slice base sLen sCap)).run P w'= .ok old w') (r:sCap<sLen+l.toNat) (hb:(sLen+l.toNat)*i.bytes<=140737488355328) (h63:sLen+l.toNat<=9223372036854775807):
 ∃nc,sLen+l.toNat<=nc/\(Builtin.append_ #[t,u] ty #[.slice base sLen sCap,.int kk l]).run P w=
  .ok (.slice (some ⟨w.heap.size,0,none⟩) (sLen+l.toNat) nc) (mK { w with drawn:=w.drawn+1 } (.cells (old++Builtin.zeroCells zv.cells l.toNat++Builtin.zeroCells zv.cells (nc-(sLen+l.toNat))) e)):=by
 refine ⟨(Question.appendCap (sLen+l.toNat) sCap e).cut (w.tape w.drawn (.appendCap (sLen+l.toNat) sCap e)),by simp only [Question.cut];omega, ?_⟩
 a s:=growslice_fits (need:=sLen+l.toNat) (old:=sCap) (bytes:=i.bytes) (by omega) hb
 a hforced:(Question.appendCap (sLen+l.toNat) sCap e).forced=false:=rfl
 a f: ¬sLen+l.toNat<=sCap:=by omega
 a h: ¬(281474976710656<Builtin.nextslicecap (sLen+l.toNat) sCap*i.bytes):=by omega
 a j: ¬(9223372036854775807<(sLen:Int)+(l.toNat:Int)):=by omega
 a n3': ¬(9223372036854775807<(sLen:Int)+max l 0):=by omega
 a v: ¬l<0:=by omega
 a x: ¬(281474976710656<l*i.bytes):=by omega
 a c:IntKind.i64.max=9223372036854775807:=rfl
 a y:=d w.drew rfl
 a z:=c1P l h0 h1
 by_cases b:l.toNat=0
 ·a h4:l.toNat*i.size=0:=by rw [b];simp
  a m:Builtin.zeroCells zv.cells 0= #[]:=by simp [Builtin.zeroCells]
  rw [b] at f h j hforced ⊢
  simp only [cQ] at f h hforced ⊢
  simp [Builtin.append_,run_underlying o,run_underlying p,sizeOf,typeInfo,hi,asInt,asIntOf,z,f,h,j,n3',v,x,b,hforced,c,y,zeroValue,q,newRow,m];rfl
 ·a h3: ¬(l.toNat=0\/i.size=0):=by omega
  a n: ¬(l<=0\/i.size=0):=by omega
  a h3'':l.toNat*i.size≠0:=Nat.mul_ne_zero b (by omega)
  simp [h3'',Builtin.append_,run_underlying o,run_underlying p,sizeOf,typeInfo,hi,asInt,asIntOf,z,f,h,j,n3',v,x,h3,n,hforced,c,y,zeroValue,q,newRow];rfl
theorem a3u [Frame] (H:bB μ h w) (E:gi μ h w f a) {o:Oper} {c:Call} {t u' e:TypeId} {k:IntKind} {i:TypeInfo} {z:List Value} {x y:Operand} {x' y':Opd} (hop:o.op= .call c) (hca:c.callee= .builtin .append) (m:c.args.toList=[x,y])
 (hx:bA x=some x') (hy:bA y=some y') (ht:c.argTypes[0]? =some t) (hu0:c.argTypes[1]? =some u') (hu:P.underlying u'=some (.int k)) (he:P.underlying t=some (.slice e)) (hi:P.info? e=some i) (hz:C6 P e=some z)
 {C:ce} {ow:FuncId->List Nat} {new:Nat} {v:V} {u:Upd} (n:aM C ow (.appendN i.size i.bytes z x' y') (Opd.ev f) h new=some (v,u)):ix P o a μ h w v u:=by
 d hvx:=bM E hx
 d hvy:=bM E hy
 d ha:c.args= #[x,y]:=by rw [<-m]
 obtain ⟨i',zv,q,hzv,hcs,hzr⟩:=rD hz
 rw [hi] at q;cases q
 d exec_eq: ∀r w',(Builtin.append_ #[t,u'] o.type #[a.eval x,a.eval y]).run P w= .ok r w'->(execOp a.eval o).run P w= .ok (.value r) w':=by
   intro r w' hr
   d hat: ∀ty args,Builtin.append_ c.argTypes ty args=Builtin.append_ #[t,u'] ty args:=by
     intro ty args
     unfold Builtin.append_
     simp only [ht,hu0]
     rfl
   simp only [execOp,hop,resolve,hca,ha,Sem.run_bind,Sem.run_pure,Result.andThen_ok,invoke,builtin,hat,oc,aP,dL,hr]
 simp only [aM] at n
 split at n
 ·rename_i l hl
  split at n
  ·rename_i hc
   obtain ⟨d1,d2,d3,d4⟩:=hc
   obtain ⟨kk,hkk⟩:=xh hl hvy
   d p:=n
   unfold Jj at p
   split at p
   ·rename_i b
    refine NT (e:=e) (B:=fun s=>Builtin.append_ #[t,u'] o.type #[s,a.eval y]) (sb:=fun _=>true) H hcs hvx (a8W hcs b.1 b.2.1 d4) (fun base sLen sCap j=> ?_) (fun base sLen sCap old hold h1 h2 h3=> ?_) exec_eq n
    ·rw [aS] at j ⊢
     rw [hkk]
     exact YB he hu hi hzv d1 d2 d3 b.2.1 j
    ·rw [aS] at h1 h2 h3 ⊢
     rw [hkk]
     exact X6 he hu hi hzv d1 d2 d3 b.2.1 hold h1 h2 h3
   ·cases p
  ·cases n
 ·cases n
end
end Go.AI
