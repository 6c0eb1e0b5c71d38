/- The word for a map's entries, on lists; pieces of a code taken apart. -/
import Derived.Test.YtdnkignjanfikaaGreatAiMapW
import Derived.Test.YtdnkignjanfikaaGreatAiEnt
import Derived.Test.YtdnkignjanfikaaGreatAiGen
set_option linter.unusedVariables false
set_option linter.unusedSimpArgs false
namespace Go.AI
theorem b8i {α:Type} (e:En α) (f:Tri->α) (h3:e.esz=3) (hf: ∀t,e.enc (f t)=kZ t) {m:List Tri} (hb:(mW m&&decide (m.length<1073741824))=true):
 a5v false [.mp 0] [⟨0,true,[bB m]⟩]=some (sl e ((fV (m.filter nzT)).map f),[⟨0,true,[bB m]⟩]):=by
 simp only [aC,aG] at hb
 simp only [a5v,vA,a2S,a5j,cond_false]
 rw [ae hb]
 have:(V.imm 3 ((fV (m.filter nzT)).map kZ)).czR=sl e ((fV (m.filter nzT)).map f):=by
  cases h:fV (m.filter nzT) with
  |nil=>rfl
  |cons t r=>
   have e1:((t::r).map f).map e.enc=(t::r).map kZ:=by rw [jr];exact cC (fun t _=>hf t)
   have e2:(t::r).map kZ=kZ t::r.map kZ:=rfl
   rw [show sl e ((t::r).map f)=V.imm e.esz (((t::r).map f).map e.enc) from rfl,e1,h3,e2]
   rfl
 rw [this];rfl
def cSA:Code->Code
 | .seq a _=>a
 |c=>c
def cSB:Code->Code
 | .seq _ b=>b
 |c=>c
def cBk:Code->Code
 | .block _ c=>c
 |c=>c
def cLp:Code->Code
 | .loop c=>c
 |c=>c
def a98:Code->List Oper
 | .region _ ops _=>ops.toList
 |_=>[]
def c4U (f:Func):Code:=f.body.getD .skip
theorem Q9 {T:Tab} {ow:en} (c:aP) (st:St):ir T ow c st=Rn T ow (fun e s=>some (e,s)) [.code c] st:=by
 rw [fm]
 cases ir T ow c st with
 |none=>rfl
 |some p=>obtain ⟨e,s⟩:=p;cases e<;>rfl
theorem a4L {T:Tab} {ow:en} {b:Nat} {ss:List cm} {l:List Nat} {c:aP} {st S2:St} (h:Rn T ow (fun e s=>some (e,s)) [.code (.seq (.region b ss l) c)] st=some (.normal,S2)):
 ∃S1,jP (Call T ow) ow ss b st=some S1/\ir T ow c (trim l S1)=some (.normal,S2):=by
 rw [<-Q9,L4,Oo] at h
 unfold sh at h
 cases hs:jP (Call T ow) ow ss b st with
 |none=>rw [hs] at h;cases h
 |some S1=>rw [hs] at h;exact ⟨S1,rfl,h⟩
def GI:En Tri:=⟨3,kZ⟩
theorem b28 (D:List Tri):(fV D).length=D.length:=(my D).length_eq
theorem b6W (n:Nat) (a:aP) (L D:List Tri) (m:Nat) (hm:m=D.length):
 ∀kp,kP ⟨n,a,[.tmp 2],kp,false⟩ 1 (some (.ret,⟨[(2,.sl 2000 0 m)],[(0,⟨0,true,[bB L]⟩),(2000,⟨3,false,rws GI D⟩)]⟩))=some (a2S kp D,a5j kp L D):=by
 subst hm
 intro kp
 have h1: ∀h:aZ,uF h 1 [] [bB L]=some [bB L]:=fun h=>by simp only [uF,QX]
 have h2:rws GI D=D.map kZ:=rfl
 have h3: ∀h:aZ,uF h 1 [2000] [bB L]=some [bB L]:=fun h=>by simp only [uF,QX]
 have h4:gx [] 2000=[2000]:=rfl
 have h5:kV 2000 [2000]=0:=rfl
 cases kp
 ·simp [kP,mG,Iw,St.get,dO,xf,K9,sH,rZ,St.heap,vz,Tk,k9,h1,h2,a1m,gN,a2S,a5j]
 ·simp [kP,mG,Iw,St.get,dO,xf,K9,sH,rZ,St.heap,vz,Tk,k9,h1,h2,h3,a1m,gN,a2S,a5j,mj,EP,n7,Bb,h4,h5]
end Go.AI
