/- The word for a map's entries, on lists; pieces of a code taken apart. -/
import Derived.Test.YtgjlndaebhaciaaAiMapW
import Derived.Test.YtgjlndaebhaciaaAiEnt
import Derived.Test.YtgjlndaebhaciaaAiGen
set_option linter.unusedVariables false
set_option linter.unusedSimpArgs false
namespace Go.AI
theorem Sm {α:Type} (e:En α) (f:Tri→α) (h3:e.esz=3) (hf: ∀t,e.enc (f t)=er t) {m:List Tri} (hb:(ft m&&decide (m.length<1073741824))=true):
 CM false [.mp 0] [⟨0,true,[am m]⟩]=some (sl e ((bU (m.filter nzT)).map f),[⟨0,true,[am m]⟩]):=by
 simp only [Bool.and_eq_true,decide_eq_true_eq] at hb
 simp only [CM,j4,Dy,CA,cond_false]
 rw [if_pos hb]
 have:(V.imm 3 ((bU (m.filter nzT)).map er)).czR=sl e ((bU (m.filter nzT)).map f):=by
  cases h:bU (m.filter nzT) with
  |nil=>rfl
  |cons t r=>
   have e1:((t::r).map f).map e.enc=(t::r).map er:=by rw [List.map_map];exact List.map_congr_left (fun t _=>hf t)
   have e2:(t::r).map er=er t::r.map er:=rfl
   rw [show sl e ((t::r).map f)=V.imm e.esz (((t::r).map f).map e.enc) from rfl,e1,h3,e2]
   rfl
 rw [this];rfl
theorem a1V {α:Type} (e:En α) (f:Tri→α) (h3:e.esz=3) (hf: ∀t,e.enc (f t)=er t) {m:List Tri} (hb:(ft m&&decide (m.length<1073741824))=true):
 CM true [.mp 0] [⟨0,true,[am m]⟩]=some (.sl 1 0 ((bU (m.filter nzT)).map f).length,[⟨0,true,[am m]⟩,⟨3,false,rws e ((bU (m.filter nzT)).map f)⟩]):=by
 simp only [Bool.and_eq_true,decide_eq_true_eq] at hb
 simp only [CM,j4,Dy,CA,cond_true]
 rw [if_pos hb]
 have e1:((bU (m.filter nzT)).map f).map e.enc=(bU (m.filter nzT)).map er:=by rw [List.map_map];exact List.map_congr_left (fun t _=>hf t)
 rw [show rws e ((bU (m.filter nzT)).map f)=((bU (m.filter nzT)).map f).map e.enc from rfl,e1,List.length_map];rfl
def cSA:Code→Code
 | .seq a _=>a
 |c=>c
def cSB:Code→Code
 | .seq _ b=>b
 |c=>c
def cBk:Code→Code
 | .block _ c=>c
 |c=>c
def cLp:Code→Code
 | .loop c=>c
 |c=>c
def Kp:Code→List Oper
 | .region _ ops _=>ops.toList
 |_=>[]
def a04 (f:Func):Code:=f.body.getD .skip
theorem yl {T:Tab} {ow:bK} (c:au) (st:St):cO T ow c st=Rn T ow (fun e s=>some (e,s)) [.code c] st:=by
 rw [bN]
 cases cO T ow c st with
 |none=>rfl
 |some p=>obtain ⟨e,s⟩:=p;cases e<;>rfl
theorem Eg {T:Tab} {ow:bK} {b:Nat} {ss:List aQ} {l:List Nat} {c:au} {st S2:St} (h:Rn T ow (fun e s=>some (e,s)) [.code (.seq (.region b ss l) c)] st=some (.normal,S2)):
 ∃S1,dM (Call T ow) ow ss b st=some S1∧cO T ow c (trim l S1)=some (.normal,S2):=by
 rw [←yl,w5,xH] at h
 unfold j7 at h
 cases hs:dM (Call T ow) ow ss b st with
 |none=>rw [hs] at h;cases h
 |some S1=>rw [hs] at h;exact ⟨S1,rfl,h⟩
def oW:En Tri:=⟨3,er⟩
theorem O7 (t:Tri):oW.enc t=[I t.1,I t.2.1,I t.2.2]:=rfl
theorem Ry:oW.esz=3:=rfl
theorem Ur (a b v:Int) (l:List Tri):cA [I a,I b,I v] (rws oW l)=rws oW ((a,b,v)::l):=rfl
theorem Kn (D:List Tri):(bU D).length=D.length:=(fD D).length_eq
theorem US (n:Nat) (a:au) (L D:List Tri) (m:Nat) (hm:m=D.length):
 ∀kp,fa ⟨n,a,[.tmp 2],kp,false⟩ 1 (some (.ret,⟨[(2,.sl 2000 0 m)],[(0,⟨0,true,[am L]⟩),(2000,⟨3,false,rws oW D⟩)]⟩))=some (Dy kp D,CA kp L D):=by
 subst hm
 intro kp
 have h1: ∀h:ak,kC h 1 [] [am L]=some [am L]:=fun h=>by simp only [kC,yz]
 have h2:rws oW D=D.map er:=rfl
 have h3: ∀h:ak,kC h 1 [2000] [am L]=some [am L]:=fun h=>by simp only [kC,yz]
 have h4:cG [] 2000=[2000]:=rfl
 have h5:eD 2000 [2000]=0:=rfl
 cases kp
 ·simp [fa,fI,tF,St.get,bC,lZ,rq,iu,ic,St.heap,kO,A2,dR,h1,h2,CD,List.range_succ,Dy,CA]
 ·simp [fa,fI,tF,St.get,bC,lZ,rq,iu,ic,St.heap,kO,A2,dR,h1,h2,h3,CD,List.range_succ,Dy,CA,fC,qY,cH,ju,h4,h5]
end Go.AI
