/- Part. -/
import Derived.Test.YtdnkignjanfikaaGreatAiMapW
import Derived.Test.YtdnkignjanfikaaGreatAiEnt
import Derived.Test.YtdnkignjanfikaaGreatAiGen
set_option linter.unusedVariables false
set_option linter.unusedSimpArgs false
namespace Go.AI
theorem b64 {α:Type} (e:En α) (f:Tri->α) (b:e.esz=3) (c: ∀t,e.enc (f t)=n5 t) {m:List Tri} (a:(p8 m&&decide (m.length<1073741824))=true):
 a41 false [.mp 0] [⟨0,true,[bH m]⟩]=some (sl e ((hU (m.filter nzT)).map f),[⟨0,true,[bH m]⟩]):=by
 simp only [aB,aA] at a
 simp only [a41,yv,a0M,a07,cond_false]
 rw [aa a]
 have:(V.imm 3 ((hU (m.filter nzT)).map n5)).czR=sl e ((hU (m.filter nzT)).map f):=by
  cases h:hU (m.filter nzT) with
  |nil=>rfl
  |cons t r=>
   have e1:((t::r).map f).map e.enc=(t::r).map n5:=by rw [fg];exact bn (fun t _=>c t)
   have e2:(t::r).map n5=n5 t::r.map n5:=rfl
   rw [show sl e ((t::r).map f)=V.imm e.esz (((t::r).map f).map e.enc) from rfl,e1,b,e2]
   rfl
 rw [this];rfl
def cSA:Code->Code
 | .seq a _=>a
 |c=>c
def cSB:Code->Code
 | .seq _ b=>b
 |c=>c
def cBk:Code->Code
 | .block _ c=>c
 |c=>c
def cLp:Code->Code
 | .loop c=>c
 |c=>c
def a6X:Code->List Oper
 | .region _ ops _=>ops.toList
 |_=>[]
def c4G (f:Func):Code:=f.body.getD .skip
theorem PB {T:Tab} {ow:fe} (c:aU) (st:St):jk T ow c st=Rn T ow (fun e s=>some (e,s)) [.code c] st:=by
 rw [gc]
 cases jk T ow c st with
 |none=>rfl
 |some p=>obtain ⟨e,s⟩:=p;cases e<;>rfl
theorem a0C {T:Tab} {ow:fe} {b:Nat} {ss:List cw} {l:List Nat} {c:aU} {st S2:St} (h:Rn T ow (fun e s=>some (e,s)) [.code (.seq (.region b ss l) c)] st=some (.normal,S2)):
 ∃S1,lj (Call T ow) ow ss b st=some S1/\jk T ow c (trim l S1)=some (.normal,S2):=by
 rw [<-PB,M7,OH] at h
 unfold uU at h
 cases a:lj (Call T ow) ow ss b st with
 |none=>rw [a] at h;cases h
 |some S1=>rw [a] at h;exact ⟨S1,rfl,h⟩
def Cz:En Tri:=⟨3,n5⟩
theorem b2M (t:Tri):Cz.enc t=[I t.1,I t.2.1,I t.2.2]:=rfl
theorem b1j:Cz.esz=3:=rfl
theorem b9M (a b v:Int) (l:List Tri):Ak [I a,I b,I v] (rws Cz l)=rws Cz ((a,b,v)::l):=rfl
theorem a8d (D:List Tri):(hU D).length=D.length:=(oc D).length_eq
theorem b7G (n:Nat) (a:aU) (L D:List Tri) (m:Nat) (d:m=D.length):
 ∀kp,mX ⟨n,a,[.tmp 2],kp,false⟩ 1 (some (.ret,⟨[(2,.sl 2000 0 m)],[(0,⟨0,true,[bH L]⟩),(2000,⟨3,false,rws Cz D⟩)]⟩))=some (a0M kp D,a07 kp L D):=by
 subst d
 intro kp
 have b: ∀h:ba,xG h 1 [] [bH L]=some [bH L]:=fun h=>by simp only [xG,RW]
 have c:rws Cz D=D.map n5:=rfl
 have e: ∀h:ba,xG h 1 [2000] [bH L]=some [bH L]:=fun h=>by simp only [xG,RW]
 have f:iC [] 2000=[2000]:=rfl
 have i:n3 2000 [2000]=0:=rfl
 cases kp
 ·simp [mX,oU,Io,St.get,eH,yZ,KZ,vP,uO,St.heap,yk,SE,lZ,b,c,Yo,ed,a0M,a07]
 ·simp [mX,oU,Io,St.get,eH,yZ,KZ,vP,uO,St.heap,yk,SE,lZ,b,c,e,Yo,ed,a0M,a07,oA,Fe,ny,EO,f,i]
end Go.AI
