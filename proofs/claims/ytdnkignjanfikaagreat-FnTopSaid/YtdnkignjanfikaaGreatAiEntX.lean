/- Part. -/
import Derived.Test.YtdnkignjanfikaaGreatAiMapW
import Derived.Test.YtdnkignjanfikaaGreatAiEnt
import Derived.Test.YtdnkignjanfikaaGreatAiGen
set_option linter.unusedVariables false
set_option linter.unusedSimpArgs false
namespace Go.AI
theorem b8m {α:Type} (e:En α) (f:Tri->α) (b:e.esz=3) (c: ∀t,e.enc (f t)=n7 t) {m:List Tri} (a:(pa m&&decide (m.length<1073741824))=true):
 a3E false [.mp 0] [⟨0,true,[bH m]⟩]=some (sl e ((i0 (m.filter nzT)).map f),[⟨0,true,[bH m]⟩]):=by
 simp only [aB,aA] at a
 simp only [a3E,yp,a0P,a0d,cond_false]
 rw [aa a]
 have:(V.imm 3 ((i0 (m.filter nzT)).map n7)).czR=sl e ((i0 (m.filter nzT)).map f):=by
  cases h:i0 (m.filter nzT) with
  |nil=>rfl
  |cons t r=>
   have e1:((t::r).map f).map e.enc=(t::r).map n7:=by rw [fb];exact bk (fun t _=>c t)
   have e2:(t::r).map n7=n7 t::r.map n7:=rfl
   rw [show sl e ((t::r).map f)=V.imm e.esz (((t::r).map f).map e.enc) from rfl,e1,b,e2]
   rfl
 rw [this];rfl
def cSA:Code->Code
 | .seq a _=>a
 |c=>c
def cSB:Code->Code
 | .seq _ b=>b
 |c=>c
def cBk:Code->Code
 | .block _ c=>c
 |c=>c
def cLp:Code->Code
 | .loop c=>c
 |c=>c
def a99:Code->List Oper
 | .region _ ops _=>ops.toList
 |_=>[]
def c54 (f:Func):Code:=f.body.getD .skip
theorem PE {T:Tab} {ow:ff} (c:aU) (st:St):ji T ow c st=Rn T ow (fun e s=>some (e,s)) [.code c] st:=by
 rw [gg]
 cases ji T ow c st with
 |none=>rfl
 |some p=>obtain ⟨e,s⟩:=p;cases e<;>rfl
theorem a1A {T:Tab} {ow:ff} {b:Nat} {ss:List cx} {l:List Nat} {c:aU} {st S2:St} (h:Rn T ow (fun e s=>some (e,s)) [.code (.seq (.region b ss l) c)] st=some (.normal,S2)):
 ∃S1,lD (Call T ow) ow ss b st=some S1/\ji T ow c (trim l S1)=some (.normal,S2):=by
 rw [<-PE,LU,OX] at h
 unfold vI at h
 cases a:lD (Call T ow) ow ss b st with
 |none=>rw [a] at h;cases h
 |some S1=>rw [a] at h;exact ⟨S1,rfl,h⟩
def Cw:En Tri:=⟨3,n7⟩
theorem b1i (t:Tri):Cw.enc t=[I t.1,I t.2.1,I t.2.2]:=rfl
theorem b2q:Cw.esz=3:=rfl
theorem b8T (a b v:Int) (l:List Tri):Av [I a,I b,I v] (rws Cw l)=rws Cw ((a,b,v)::l):=rfl
theorem a7U (D:List Tri):(i0 D).length=D.length:=(oD D).length_eq
theorem b8k (n:Nat) (a:aU) (L D:List Tri) (m:Nat) (d:m=D.length):
 ∀kp,mP ⟨n,a,[.tmp 2],kp,false⟩ 1 (some (.ret,⟨[(2,.sl 2000 0 m)],[(0,⟨0,true,[bH L]⟩),(2000,⟨3,false,rws Cw D⟩)]⟩))=some (a0P kp D,a0d kp L D):=by
 subst d
 intro kp
 have b: ∀h:ba,xG h 1 [] [bH L]=some [bH L]:=fun h=>by simp only [xG,QT]
 have c:rws Cw D=D.map n7:=rfl
 have e: ∀h:ba,xG h 1 [2000] [bH L]=some [bH L]:=fun h=>by simp only [xG,QT]
 have f:iA [] 2000=[2000]:=rfl
 have i:n3 2000 [2000]=0:=rfl
 cases kp
 ·simp [mP,o9,IP,St.get,eH,z6,Ll,vE,uO,St.heap,xV,RI,lZ,b,c,WA,dY,a0P,a0d]
 ·simp [mP,o9,IP,St.get,eH,z6,Ll,vE,uO,St.heap,xV,RI,lZ,b,c,e,WA,dY,a0P,a0d,oj,Fh,nE,E6,f,i]
end Go.AI
