/- The word for a map's entries, on lists; pieces of a code taken apart. -/
import Derived.Test.YtgjlndaebhaciaaAiMapW
import Derived.Test.YtgjlndaebhaciaaAiEnt
import Derived.Test.YtgjlndaebhaciaaAiGen
set_option linter.unusedVariables false
set_option linter.unusedSimpArgs false
namespace Go.AI
theorem Ss {α:Type} (e:En α) (f:Tri→α) (h3:e.esz=3) (hf: ∀t,e.enc (f t)=cH t) {m:List Tri} (hb:(db m&&decide (m.length<1073741824))=true):
 vY false [.mp 0] [⟨0,true,[ak m]⟩]=some (sl e ((bk (m.filter nzT)).map f),[⟨0,true,[ak m]⟩]):=by
 simp only [Bool.and_eq_true,decide_eq_true_eq] at hb
 simp only [vY,ff,vH,va,cond_false]
 rw [if_pos hb]
 have:(V.imm 3 ((bk (m.filter nzT)).map cH)).czR=sl e ((bk (m.filter nzT)).map f):=by
  cases h:bk (m.filter nzT) with
  |nil=>rfl
  |cons t r=>
   have e1:((t::r).map f).map e.enc=(t::r).map cH:=by rw [List.map_map];exact List.map_congr_left (fun t _=>hf t)
   have e2:(t::r).map cH=cH t::r.map cH:=rfl
   rw [show sl e ((t::r).map f)=V.imm e.esz (((t::r).map f).map e.enc) from rfl,e1,h3,e2]
   rfl
 rw [this];rfl
theorem LO {α:Type} (e:En α) (f:Tri→α) (h3:e.esz=3) (hf: ∀t,e.enc (f t)=cH t) {m:List Tri} (hb:(db m&&decide (m.length<1073741824))=true):
 vY true [.mp 0] [⟨0,true,[ak m]⟩]=some (.sl 1 0 ((bk (m.filter nzT)).map f).length,[⟨0,true,[ak m]⟩,⟨3,false,rws e ((bk (m.filter nzT)).map f)⟩]):=by
 simp only [Bool.and_eq_true,decide_eq_true_eq] at hb
 simp only [vY,ff,vH,va,cond_true]
 rw [if_pos hb]
 have e1:((bk (m.filter nzT)).map f).map e.enc=(bk (m.filter nzT)).map cH:=by rw [List.map_map];exact List.map_congr_left (fun t _=>hf t)
 rw [show rws e ((bk (m.filter nzT)).map f)=((bk (m.filter nzT)).map f).map e.enc from rfl,e1,List.length_map];rfl
def cSA:Code→Code
 | .seq a _=>a
 |c=>c
def cSB:Code→Code
 | .seq _ b=>b
 |c=>c
def cBk:Code→Code
 | .block _ c=>c
 |c=>c
def cLp:Code→Code
 | .loop c=>c
 |c=>c
def BU:Code→List Oper
 | .region _ ops _=>ops.toList
 |_=>[]
def S5 (f:Func):Code:=f.body.getD .skip
theorem r6 {T:Tab} {ow:be} (c:aw) (st:St):bO T ow c st=Rn T ow (fun e s=>some (e,s)) [.code c] st:=by
 rw [bf]
 cases bO T ow c st with
 |none=>rfl
 |some p=>obtain ⟨e,s⟩:=p;cases e<;>rfl
theorem xj {T:Tab} {ow:be} {b:Nat} {ss:List aD} {l:List Nat} {c:aw} {st S2:St} (h:Rn T ow (fun e s=>some (e,s)) [.code (.seq (.region b ss l) c)] st=some (.normal,S2)):
 ∃S1,cq (Call T ow) ow ss b st=some S1∧bO T ow c (trim l S1)=some (.normal,S2):=by
 rw [←r6,pg,pZ] at h
 unfold fM at h
 cases hs:cq (Call T ow) ow ss b st with
 |none=>rw [hs] at h;cases h
 |some S1=>rw [hs] at h;exact ⟨S1,rfl,h⟩
def jF:En Tri:=⟨3,cH⟩
theorem Ii (t:Tri):jF.enc t=[I t.1,I t.2.1,I t.2.2]:=rfl
theorem Ge:jF.esz=3:=rfl
theorem Jg (a b v:Int) (l:List Tri):bD [I a,I b,I v] (rws jF l)=rws jF ((a,b,v)::l):=rfl
theorem E8 (D:List Tri):(bk D).length=D.length:=(dc D).length_eq
theorem JL (n:Nat) (a:aw) (L D:List Tri) (m:Nat) (hm:m=D.length):
 ∀kp,cP ⟨n,a,[.tmp 2],kp,false⟩ 1 (some (.ret,⟨[(2,.sl 2000 0 m)],[(0,⟨0,true,[ak L]⟩),(2000,⟨3,false,rws jF D⟩)]⟩))=some (vH kp D,va kp L D):=by
 subst hm
 intro kp
 have h1: ∀h:ah,gS h 1 [] [ak L]=some [ak L]:=fun h=>by simp only [gS,sV]
 have h2:rws jF D=D.map cH:=rfl
 have h3: ∀h:ah,gS h 1 [2000] [ak L]=some [ak L]:=fun h=>by simp only [gS,sV]
 have h4:bK [] 2000=[2000]:=rfl
 have h5:cM 2000 [2000]=0:=rfl
 cases kp
 ·simp [cP,dd,nw,St.get,b7,ik,lK,eO,ep,St.heap,hZ,rJ,cx,h1,h2,wm,List.range_succ,vH,va]
 ·simp [cP,dd,nw,St.get,b7,ik,lK,eO,ep,St.heap,hZ,rJ,cx,h1,h2,h3,wm,List.range_succ,vH,va,de,kZ,bL,ft,h4,h5]
end Go.AI
