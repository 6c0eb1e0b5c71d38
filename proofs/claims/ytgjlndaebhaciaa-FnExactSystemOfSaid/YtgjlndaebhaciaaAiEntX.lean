/- The word for a map's entries, on lists; pieces of a code taken apart. -/
import Derived.Test.YtgjlndaebhaciaaAiMapW
import Derived.Test.YtgjlndaebhaciaaAiEnt
import Derived.Test.YtgjlndaebhaciaaAiGen
set_option linter.unusedVariables false
namespace Go.AI
theorem Ss {α:Type} (e:En α) (f:Tri→α) (h3:e.esz=3) (hf: ∀t,e.enc (f t)=cB t) {m:List Tri} (hb:(da m&&decide (m.length<1073741824))=true):
 wo false [.mp 0] [⟨0,true,[ak m]⟩]=some (sl e ((bm (m.filter nzT)).map f),[⟨0,true,[ak m]⟩]):=by
 simp only [Bool.and_eq_true,decide_eq_true_eq] at hb
 simp only [wo,fm,w7,uY,cond_false]
 rw [if_pos hb]
 have:(V.imm 3 ((bm (m.filter nzT)).map cB)).czR=sl e ((bm (m.filter nzT)).map f):=by
  cases h:bm (m.filter nzT) with
  |nil=>rfl
  |cons t r=>
   have e1:((t::r).map f).map e.enc=(t::r).map cB:=by rw [List.map_map];exact List.map_congr_left (fun t _=>hf t)
   have e2:(t::r).map cB=cB t::r.map cB:=rfl
   rw [show sl e ((t::r).map f)=V.imm e.esz (((t::r).map f).map e.enc) from rfl,e1,h3,e2]
   rfl
 rw [this];rfl
theorem MD {α:Type} (e:En α) (f:Tri→α) (h3:e.esz=3) (hf: ∀t,e.enc (f t)=cB t) {m:List Tri} (hb:(da m&&decide (m.length<1073741824))=true):
 wo true [.mp 0] [⟨0,true,[ak m]⟩]=some (.sl 1 0 ((bm (m.filter nzT)).map f).length,[⟨0,true,[ak m]⟩,⟨3,false,rws e ((bm (m.filter nzT)).map f)⟩]):=by
 simp only [Bool.and_eq_true,decide_eq_true_eq] at hb
 simp only [wo,fm,w7,uY,cond_true]
 rw [if_pos hb]
 have e1:((bm (m.filter nzT)).map f).map e.enc=(bm (m.filter nzT)).map cB:=by rw [List.map_map];exact List.map_congr_left (fun t _=>hf t)
 rw [show rws e ((bm (m.filter nzT)).map f)=((bm (m.filter nzT)).map f).map e.enc from rfl,e1,List.length_map];rfl
def cSA:Code→Code
 | .seq a _=>a
 |c=>c
def cSB:Code→Code
 | .seq _ b=>b
 |c=>c
def cBk:Code→Code
 | .block _ c=>c
 |c=>c
def cLp:Code→Code
 | .loop c=>c
 |c=>c
def Ds:Code→List Oper
 | .region _ ops _=>ops.toList
 |_=>[]
def Sd (f:Func):Code:=f.body.getD .skip
theorem qW {T:Tab} {ow:bf} (c:aA) (st:St):bO T ow c st=Rn T ow (fun e s=>some (e,s)) [.code c] st:=by
 rw [be]
 cases bO T ow c st with
 |none=>rfl
 |some p=>obtain ⟨e,s⟩:=p;cases e<;>rfl
theorem xx {T:Tab} {ow:bf} {b:Nat} {ss:List aD} {l:List Nat} {c:aA} {st S2:St} (h:Rn T ow (fun e s=>some (e,s)) [.code (.seq (.region b ss l) c)] st=some (.normal,S2)):
 ∃S1,co (Call T ow) ow ss b st=some S1∧bO T ow c (trim l S1)=some (.normal,S2):=by
 rw [←qW,ou,pZ] at h
 unfold fB at h
 cases hs:co (Call T ow) ow ss b st with
 |none=>rw [hs] at h;cases h
 |some S1=>rw [hs] at h;exact ⟨S1,rfl,h⟩
def jG:En Tri:=⟨3,cB⟩
theorem He (t:Tri):jG.enc t=[I t.1,I t.2.1,I t.2.2]:=rfl
theorem IV:jG.esz=3:=rfl
theorem Kc (a b v:Int) (l:List Tri):bD [I a,I b,I v] (rws jG l)=rws jG ((a,b,v)::l):=rfl
theorem Ea (D:List Tri):(bm D).length=D.length:=(dj D).length_eq
theorem Je (n:Nat) (a:aA) (L D:List Tri) (m:Nat) (hm:m=D.length):
 ∀kp,cU ⟨n,a,[.tmp 2],kp,false⟩ 1 (some (.ret,⟨[(2,.sl 2000 0 m)],[(0,⟨0,true,[ak L]⟩),(2000,⟨3,false,rws jG D⟩)]⟩))=some (w7 kp D,uY kp L D):=by
 subst hm
 intro kp
 have h1: ∀h:ah,gM h 1 [] [ak L]=some [ak L]:=fun h=>by simp only [gM,sI]
 have h2:rws jG D=D.map cB:=rfl
 have h3: ∀h:ah,gM h 1 [2000] [ak L]=some [ak L]:=fun h=>by simp only [gM,sI]
 have h4:bK [] 2000=[2000]:=rfl
 have h5:cM 2000 [2000]=0:=rfl
 cases kp
 ·simp [cU,di,nM,St.get,b7,io,lJ,eG,eo,St.heap,gZ,sM,cx,h1,h2,vO,List.range_succ,w7,uY]
 ·simp [cU,di,nM,St.get,b7,io,lJ,eG,eo,St.heap,gZ,sM,cx,h1,h2,h3,vO,List.range_succ,w7,uY,dg,kW,bL,ft,h4,h5]
end Go.AI
