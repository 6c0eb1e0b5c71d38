/- Part. -/
import Derived.Test.YtdnkignjanfikaaGreatAiMapW
import Derived.Test.YtdnkignjanfikaaGreatAiEnt
import Derived.Test.YtdnkignjanfikaaGreatAiGen
set_option linter.unusedVariables false
set_option linter.unusedSimpArgs false
namespace Go.AI
theorem b80 {α:Type} (e:En α) (f:Tri->α) (c:e.esz=3) (d: ∀t,e.enc (f t)=kO t) {m:List Tri} (b:(ms m&&decide (m.length<1073741824))=true):
 a5Y false [.mp 0] [⟨0,true,[bz m]⟩]=some (sl e ((fV (m.filter nzT)).map f),[⟨0,true,[bz m]⟩]):=by
 simp only [aD,aC] at b
 simp only [a5Y,vm,a3p,a2J,cond_false]
 rw [ae b]
 a:(V.imm 3 ((fV (m.filter nzT)).map kO)).czR=sl e ((fV (m.filter nzT)).map f):=by
  cases h:fV (m.filter nzT) with
  |nil=>rfl
  |cons t r=>
   a e1:((t::r).map f).map e.enc=(t::r).map kO:=by rw [jj];exact cC (fun t _=>d t)
   a e2:(t::r).map kO=kO t::r.map kO:=rfl
   rw [show sl e ((t::r).map f)=V.imm e.esz (((t::r).map f).map e.enc) from rfl,e1,c,e2]
   rfl
 rw [this];rfl
def cSA:Code->Code
 | .seq a _=>a
 |c=>c
def cSB:Code->Code
 | .seq _ b=>b
 |c=>c
def cBk:Code->Code
 | .block _ c=>c
 |c=>c
def cLp:Code->Code
 | .loop c=>c
 |c=>c
def b0P:Code->List Oper
 | .region _ ops _=>ops.toList
 |_=>[]
def c7w (f:Func):Code:=f.body.getD .skip
theorem Pa {T:Tab} {ow:ec} (c:aQ) (st:St):il T ow c st=Rn T ow (fun e s=>some (e,s)) [.code c] st:=by
 rw [fg]
 cases il T ow c st with
 |none=>rfl
 |some p=>obtain ⟨e,s⟩:=p;cases e<;>rfl
theorem a2F {T:Tab} {ow:ec} {b:Nat} {ss:List cn} {l:List Nat} {c:aQ} {st S2:St} (h:Rn T ow (fun e s=>some (e,s)) [.code (.seq (.region b ss l) c)] st=some (.normal,S2)):
 ∃S1,jH (Call T ow) ow ss b st=some S1/\il T ow c (trim l S1)=some (.normal,S2):=by
 rw [<-Pa,LF,NH] at h
 unfold sE at h
 cases a:jH (Call T ow) ow ss b st with
 |none=>rw [a] at h;cases h
 |some S1=>rw [a] at h;exact ⟨S1,rfl,h⟩
def Fm:En Tri:=⟨3,kO⟩
theorem b1b (D:List Tri):(fV D).length=D.length:=(m8 D).length_eq
theorem b8o (n:Nat) (a:aQ) (L D:List Tri) (m:Nat) (e:m=D.length):
 ∀kp,kG ⟨n,a,[.tmp 2],kp,false⟩ 1 (some (.ret,⟨[(2,.sl 2000 0 m)],[(0,⟨0,true,[bz L]⟩),(2000,⟨3,false,rws Fm D⟩)]⟩))=some (a3p kp D,a2J kp L D):=by
 subst e
 intro kp
 b c: ∀h:b8,uq h 1 [] [bz L]=some [bz L]:=fun h=>by simp only [uq,SR]
 b d:rws Fm D=D.map kO:=rfl
 b f: ∀h:b8,uq h 1 [2000] [bz L]=some [bz L]:=fun h=>by simp only [uq,SR]
 b i:gj [] 2000=[2000]:=rfl
 b j:kK 2000 [2000]=0:=rfl
 cases kp
 ·simp [kG,m2,HM,St.get,dP,wx,ET,pK,pu,St.heap,vk,SJ,jT,c,d,Xk,gB,a3p,a2J]
 ·simp [kG,m2,HM,St.get,dP,wx,ET,pK,pu,St.heap,vk,SJ,jT,c,d,f,Xk,gB,a3p,a2J,lZ,DW,gN,si,i,j]
end Go.AI
