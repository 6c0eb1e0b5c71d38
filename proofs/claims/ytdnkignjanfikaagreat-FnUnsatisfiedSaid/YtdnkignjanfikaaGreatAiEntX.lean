/- The word for a map's entries, on lists; pieces of a code taken apart. -/
import Derived.Test.YtdnkignjanfikaaGreatAiMapW
import Derived.Test.YtdnkignjanfikaaGreatAiEnt
import Derived.Test.YtdnkignjanfikaaGreatAiGen
set_option linter.unusedVariables false
set_option linter.unusedSimpArgs false
namespace Go.AI
theorem b59 {α:Type} (e:En α) (f:Tri→α) (h3:e.esz=3) (hf: ∀t,e.enc (f t)=i6 t) {m:List Tri} (hb:(j5 m&&decide (m.length<1073741824))=true):
 TZ false [.mp 0] [⟨0,true,[aC m]⟩]=some (sl e ((cK (m.filter nzT)).map f),[⟨0,true,[aC m]⟩]):=by
 simp only [Bool.and_eq_true,decide_eq_true_eq] at hb
 simp only [TZ,oa,TD,TL,cond_false]
 rw [if_pos hb]
 have:(V.imm 3 ((cK (m.filter nzT)).map i6)).czR=sl e ((cK (m.filter nzT)).map f):=by
  cases h:cK (m.filter nzT) with
  |nil=>rfl
  |cons t r=>
   have e1:((t::r).map f).map e.enc=(t::r).map i6:=by rw [List.map_map];exact List.map_congr_left (fun t _=>hf t)
   have e2:(t::r).map i6=i6 t::r.map i6:=rfl
   rw [show sl e ((t::r).map f)=V.imm e.esz (((t::r).map f).map e.enc) from rfl,e1,h3,e2]
   rfl
 rw [this];rfl
theorem c3z {α:Type} (e:En α) (f:Tri→α) (h3:e.esz=3) (hf: ∀t,e.enc (f t)=i6 t) {m:List Tri} (hb:(j5 m&&decide (m.length<1073741824))=true):
 TZ true [.mp 0] [⟨0,true,[aC m]⟩]=some (.sl 1 0 ((cK (m.filter nzT)).map f).length,[⟨0,true,[aC m]⟩,⟨3,false,rws e ((cK (m.filter nzT)).map f)⟩]):=by
 simp only [Bool.and_eq_true,decide_eq_true_eq] at hb
 simp only [TZ,oa,TD,TL,cond_true]
 rw [if_pos hb]
 have e1:((cK (m.filter nzT)).map f).map e.enc=(cK (m.filter nzT)).map i6:=by rw [List.map_map];exact List.map_congr_left (fun t _=>hf t)
 rw [show rws e ((cK (m.filter nzT)).map f)=((cK (m.filter nzT)).map f).map e.enc from rfl,e1,List.length_map];rfl
def cSA:Code→Code
 | .seq a _=>a
 |c=>c
def cSB:Code→Code
 | .seq _ b=>b
 |c=>c
def cBk:Code→Code
 | .block _ c=>c
 |c=>c
def cLp:Code→Code
 | .loop c=>c
 |c=>c
def a3R:Code→List Oper
 | .region _ ops _=>ops.toList
 |_=>[]
def c2c (f:Func):Code:=f.body.getD .skip
theorem M2 {T:Tab} {ow:cy} (c:aq) (st:St):dT T ow c st=Rn T ow (fun e s=>some (e,s)) [.code c] st:=by
 rw [cB]
 cases dT T ow c st with
 |none=>rfl
 |some p=>obtain ⟨e,s⟩:=p;cases e<;>rfl
theorem Xz {T:Tab} {ow:cy} {b:Nat} {ss:List bf} {l:List Nat} {c:aq} {st S2:St} (h:Rn T ow (fun e s=>some (e,s)) [.code (.seq (.region b ss l) c)] st=some (.normal,S2)):
 ∃S1,g8 (Call T ow) ow ss b st=some S1∧dT T ow c (trim l S1)=some (.normal,S2):=by
 rw [←M2,Hb,Kh] at h
 unfold oO at h
 cases hs:g8 (Call T ow) ow ss b st with
 |none=>rw [hs] at h;cases h
 |some S1=>rw [hs] at h;exact ⟨S1,rfl,h⟩
def xB:En Tri:=⟨3,i6⟩
theorem a8h (t:Tri):xB.enc t=[I t.1,I t.2.1,I t.2.2]:=rfl
theorem a8v:xB.esz=3:=rfl
theorem b5v (a b v:Int) (l:List Tri):bK [I a,I b,I v] (rws xB l)=rws xB ((a,b,v)::l):=rfl
theorem a4w (D:List Tri):(cK D).length=D.length:=(j9 D).length_eq
theorem b5T (n:Nat) (a:aq) (L D:List Tri) (m:Nat) (hm:m=D.length):
 ∀kp,ik ⟨n,a,[.tmp 2],kp,false⟩ 1 (some (.ret,⟨[(2,.sl 2000 0 m)],[(0,⟨0,true,[aC L]⟩),(2000,⟨3,false,rws xB D⟩)]⟩))=some (TD kp D,TL kp L D):=by
 subst hm
 intro kp
 have h1: ∀h:au,rg h 1 [] [aC L]=some [aC L]:=fun h=>by simp only [rg,MJ]
 have h2:rws xB D=D.map i6:=rfl
 have h3: ∀h:au,rg h 1 [2000] [aC L]=some [aC L]:=fun h=>by simp only [rg,MJ]
 have h4:dH [] 2000=[2000]:=rfl
 have h5:im 2000 [2000]=0:=rfl
 cases kp
 ·simp [ik,jt,ER,St.get,cj,tD,Br,mL,ma,St.heap,sM,Pa,gM,h1,h2,Uz,List.range_succ,TD,TL]
 ·simp [ik,jt,ER,St.get,cj,tD,Br,mL,ma,St.heap,sM,Pa,gM,h1,h2,h3,Uz,List.range_succ,TD,TL,jq,Aw,dG,oF,h4,h5]
end Go.AI
