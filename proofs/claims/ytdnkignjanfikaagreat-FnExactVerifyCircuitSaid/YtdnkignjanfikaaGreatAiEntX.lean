/- Part. -/
import Derived.Test.YtdnkignjanfikaaGreatAiMapW
import Derived.Test.YtdnkignjanfikaaGreatAiEnt
import Derived.Test.YtdnkignjanfikaaGreatAiGen
set_option linter.unusedVariables false
set_option linter.unusedSimpArgs false
namespace Go.AI
theorem c1C {α:Type} (e:En α) (f:Tri->α) (b:e.esz=3) (c: ∀t,e.enc (f t)=kQ t) {m:List Tri} (a:(mH m&&decide (m.length<1073741824))=true):
 a3P false [.mp 0] [⟨0,true,[bz m]⟩]=some (sl e ((fW (m.filter nzT)).map f),[⟨0,true,[bz m]⟩]):=by
 simp only [aD,aC] at a
 simp only [a3P,vd,a1U,a0o,cond_false]
 rw [ae a]
 have:(V.imm 3 ((fW (m.filter nzT)).map kQ)).czR=sl e ((fW (m.filter nzT)).map f):=by
  cases h:fW (m.filter nzT) with
  |nil=>rfl
  |cons t r=>
   have e1:((t::r).map f).map e.enc=(t::r).map kQ:=by rw [jm];exact cC (fun t _=>c t)
   have e2:(t::r).map kQ=kQ t::r.map kQ:=rfl
   rw [show sl e ((t::r).map f)=V.imm e.esz (((t::r).map f).map e.enc) from rfl,e1,b,e2]
   rfl
 rw [this];rfl
def cSA:Code->Code
 | .seq a _=>a
 |c=>c
def cSB:Code->Code
 | .seq _ b=>b
 |c=>c
def cBk:Code->Code
 | .block _ c=>c
 |c=>c
def cLp:Code->Code
 | .loop c=>c
 |c=>c
def a8t:Code->List Oper
 | .region _ ops _=>ops.toList
 |_=>[]
def c7P (f:Func):Code:=f.body.getD .skip
theorem Pd {T:Tab} {ow:ec} (c:aQ) (st:St):ip T ow c st=Rn T ow (fun e s=>some (e,s)) [.code c] st:=by
 rw [fh]
 cases ip T ow c st with
 |none=>rfl
 |some p=>obtain ⟨e,s⟩:=p;cases e<;>rfl
theorem a3j {T:Tab} {ow:ec} {b:Nat} {ss:List cn} {l:List Nat} {c:aQ} {st S2:St} (h:Rn T ow (fun e s=>some (e,s)) [.code (.seq (.region b ss l) c)] st=some (.normal,S2)):
 ∃S1,jE (Call T ow) ow ss b st=some S1/\ip T ow c (trim l S1)=some (.normal,S2):=by
 rw [<-Pd,Ks,Nx] at h
 unfold s5 at h
 cases a:jE (Call T ow) ow ss b st with
 |none=>rw [a] at h;cases h
 |some S1=>rw [a] at h;exact ⟨S1,rfl,h⟩
def AY:En Tri:=⟨3,kQ⟩
theorem b2w (t:Tri):AY.enc t=[I t.1,I t.2.1,I t.2.2]:=rfl
theorem b2G:AY.esz=3:=rfl
theorem b9h (a b v:Int) (l:List Tri):dj [I a,I b,I v] (rws AY l)=rws AY ((a,b,v)::l):=rfl
theorem a8O (D:List Tri):(fW D).length=D.length:=(m9 D).length_eq
theorem b9X (n:Nat) (a:aQ) (L D:List Tri) (m:Nat) (d:m=D.length):
 ∀kp,kK ⟨n,a,[.tmp 2],kp,false⟩ 1 (some (.ret,⟨[(2,.sl 2000 0 m)],[(0,⟨0,true,[bz L]⟩),(2000,⟨3,false,rws AY D⟩)]⟩))=some (a1U kp D,a0o kp L D):=by
 subst d
 intro kp
 have b: ∀h:b8,uj h 1 [] [bz L]=some [bz L]:=fun h=>by simp only [uj,RN]
 have c:rws AY D=D.map kQ:=rfl
 have e: ∀h:b8,uj h 1 [2000] [bz L]=some [bz L]:=fun h=>by simp only [uj,RN]
 have f:gi [] 2000=[2000]:=rfl
 have i:kL 2000 [2000]=0:=rfl
 cases kp
 ·simp [kK,m8,IS,St.get,dP,wA,ES,pK,pi,St.heap,vC,SP,jW,b,c,YE,gJ,a1U,a0o]
 ·simp [kK,m8,IS,St.get,dP,wA,ES,pK,pi,St.heap,vC,SP,jW,b,c,e,YE,gJ,a1U,a0o,ml,E6,gN,rF,f,i]
end Go.AI
