/- The word for a map's entries, on lists; pieces of a code taken apart. -/
import Derived.Test.YtgjlndaebhaciaaAiMapW
import Derived.Test.YtgjlndaebhaciaaAiEnt
import Derived.Test.YtgjlndaebhaciaaAiGen
set_option linter.unusedVariables false
set_option linter.unusedSimpArgs false
namespace Go.AI
theorem Rj {α:Type} (e:En α) (f:Tri→α) (h3:e.esz=3) (hf: ∀t,e.enc (f t)=dR t) {m:List Tri} (hb:(eX m&&decide (m.length<1073741824))=true):
 BX false [.mp 0] [⟨0,true,[aq m]⟩]=some (sl e ((bK (m.filter nzT)).map f),[⟨0,true,[aq m]⟩]):=by
 simp only [Bool.and_eq_true,decide_eq_true_eq] at hb
 simp only [BX,iw,BC,BP,cond_false]
 rw [if_pos hb]
 have:(V.imm 3 ((bK (m.filter nzT)).map dR)).czR=sl e ((bK (m.filter nzT)).map f):=by
  cases h:bK (m.filter nzT) with
  |nil=>rfl
  |cons t r=>
   have e1:((t::r).map f).map e.enc=(t::r).map dR:=by rw [List.map_map];exact List.map_congr_left (fun t _=>hf t)
   have e2:(t::r).map dR=dR t::r.map dR:=rfl
   rw [show sl e ((t::r).map f)=V.imm e.esz (((t::r).map f).map e.enc) from rfl,e1,h3,e2]
   rfl
 rw [this];rfl
theorem YI {α:Type} (e:En α) (f:Tri→α) (h3:e.esz=3) (hf: ∀t,e.enc (f t)=dR t) {m:List Tri} (hb:(eX m&&decide (m.length<1073741824))=true):
 BX true [.mp 0] [⟨0,true,[aq m]⟩]=some (.sl 1 0 ((bK (m.filter nzT)).map f).length,[⟨0,true,[aq m]⟩,⟨3,false,rws e ((bK (m.filter nzT)).map f)⟩]):=by
 simp only [Bool.and_eq_true,decide_eq_true_eq] at hb
 simp only [BX,iw,BC,BP,cond_true]
 rw [if_pos hb]
 have e1:((bK (m.filter nzT)).map f).map e.enc=(bK (m.filter nzT)).map dR:=by rw [List.map_map];exact List.map_congr_left (fun t _=>hf t)
 rw [show rws e ((bK (m.filter nzT)).map f)=((bK (m.filter nzT)).map f).map e.enc from rfl,e1,List.length_map];rfl
def cSA:Code→Code
 | .seq a _=>a
 |c=>c
def cSB:Code→Code
 | .seq _ b=>b
 |c=>c
def cBk:Code→Code
 | .block _ c=>c
 |c=>c
def cLp:Code→Code
 | .loop c=>c
 |c=>c
def Kc:Code→List Oper
 | .region _ ops _=>ops.toList
 |_=>[]
def XI (f:Func):Code:=f.body.getD .skip
theorem wd {T:Tab} {ow:bB} (c:aB) (st:St):cH T ow c st=Rn T ow (fun e s=>some (e,s)) [.code c] st:=by
 rw [bH]
 cases cH T ow c st with
 |none=>rfl
 |some p=>obtain ⟨e,s⟩:=p;cases e<;>rfl
theorem DG {T:Tab} {ow:bB} {b:Nat} {ss:List aQ} {l:List Nat} {c:aB} {st S2:St} (h:Rn T ow (fun e s=>some (e,s)) [.code (.seq (.region b ss l) c)] st=some (.normal,S2)):
 ∃S1,dt (Call T ow) ow ss b st=some S1∧cH T ow c (trim l S1)=some (.normal,S2):=by
 rw [←wd,uh,vn] at h
 unfold iO at h
 cases hs:dt (Call T ow) ow ss b st with
 |none=>rw [hs] at h;cases h
 |some S1=>rw [hs] at h;exact ⟨S1,rfl,h⟩
def nF:En Tri:=⟨3,dR⟩
theorem OS (t:Tri):nF.enc t=[I t.1,I t.2.1,I t.2.2]:=rfl
theorem MG:nF.esz=3:=rfl
theorem SP (a b v:Int) (l:List Tri):co [I a,I b,I v] (rws nF l)=rws nF ((a,b,v)::l):=rfl
theorem HE (D:List Tri):(bK D).length=D.length:=(fj D).length_eq
theorem PJ (n:Nat) (a:aB) (L D:List Tri) (m:Nat) (hm:m=D.length):
 ∀kp,eD ⟨n,a,[.tmp 2],kp,false⟩ 1 (some (.ret,⟨[(2,.sl 2000 0 m)],[(0,⟨0,true,[aq L]⟩),(2000,⟨3,false,rws nF D⟩)]⟩))=some (BC kp D,BP kp L D):=by
 subst hm
 intro kp
 have h1: ∀h:ak,jE h 1 [] [aq L]=some [aq L]:=fun h=>by simp only [jE,yD]
 have h2:rws nF D=D.map dR:=rfl
 have h3: ∀h:ak,jE h 1 [2000] [aq L]=some [aq L]:=fun h=>by simp only [jE,yD]
 have h4:cu [] 2000=[2000]:=rfl
 have h5:dZ 2000 [2000]=0:=rfl
 cases kp
 ·simp [eD,fc,s6,St.get,bt,kV,pD,gU,gN,St.heap,jZ,xP,dG,h1,h2,Ay,List.range_succ,BC,BP]
 ·simp [eD,fc,s6,St.get,bt,kV,pD,gU,gN,St.heap,jZ,xP,dG,h1,h2,h3,Ay,List.range_succ,BC,BP,fq,pd,cw,iS,h4,h5]
end Go.AI
