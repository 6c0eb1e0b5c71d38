/- Part. -/
import Derived.Test.YtdnkignjanfikaaGreatAiTop
import Derived.Test.YtdnkignjanfikaaGreatAiSrt
set_option linter.unusedVariables false
set_option linter.unusedSimpArgs false
namespace Go.AI
def Dh (i:Nat) (t:Tri):MapEntry:={ key:=o3 t.1 t.2.1,val:= .int .i64 t.2.2,born:=i }
def Cm (L:List Tri):Array MapEntry:=(L.mapIdx Dh).toArray
theorem HD (L:List Tri):(Cm L).size=L.length:=by simp [Cm]
theorem Gh (L:List Tri) (i:Nat):(Cm L)[i]? =(L[i]?).map (Dh i):=by simp [Cm]
theorem vz.es {w:World} {c:Nat} {L:List Tri} (m:vz w c [bH L]):w.heap[c]? =some (.map (Cm L) L.length):=by
 obtain ⟨es,L',l,n,o,p,q⟩:=m.ex
 have e:L'=L:=(RN (List.cons.inj n).1).symm
 subst e
 have:es=Cm L':=by
  apply fS
  intro i
  rw [Gh]
  cases hi:es[i]? with
  |none=>
   have:es.size<=i:=Array.getElem?_eq_none_iff.1 hi
   rw [cf om];rfl
  |some e=>
   have r:i<es.size:=(nJ.1 hi).1
   have a:L'[i]? =some L'[i]:=aq om
   rw [a]
   have d:=p i e _ hi a
   have f:=q i e hi
   obtain ⟨k,v,b⟩:=e
   have h:=d.key;have j:=d.val
   simp only at h j f
   subst h j f
   rfl
 rw [l,o, <-this]
def itO (c n:Nat) (seen:List Nat):Obj:= .mapIter (some c) n seen.toArray n
section
variable {P:Program}
theorem UX {w:World} {r c n:Nat} {seen:List Nat} (h:w.heap[r]? =some (itO c n seen)):(getObj r).run P w= .ok (itO c n seen) w:=by
 simp [getObj,Sem.run,h,itO]
theorem a6I {w:World} {r c n:Nat} {seen:List Nat} (o:Obj) (h:w.heap[r]? =some (itO c n seen)):(setObj r o).run P w= .ok () (Cn w r o):=by
 simp [setObj,Sem.run,h,itO,Cn]
theorem b1a {w:World} {r c:Nat} {L:List Tri} {seen:List Nat} {ty:TypeId} (hi:w.heap[r]? =some (itO c L.length seen)) (hm:w.heap[c]? =some (.map (Cm L) L.length)) (hs: ∀i∈seen,i<L.length):
 ((Instr.next (.pointer (some ⟨r,0,none⟩)) false ty).run P w= .ok (.tuple #[.bool false]) w/\ ∀i,i<L.length->i∈seen)\/
 ∃j t b,L[j]? =some t/\j∉seen/\(b=w\/b={ w with drawn:=w.drawn+1 })/\
  (Instr.next (.pointer (some ⟨r,0,none⟩)) false ty).run P w= .ok (.tuple #[.bool true,o3 t.1 t.2.1,.int .i64 t.2.2]) (Cn b r (itO c L.length (seen++[j]))):=by
 have o:(!seen.toArray.isEmpty&& !(Cm L).isEmpty&&(Cm L).all (fun e=>decide (e.born>=L.length)))=false:=by
  cases L with
  |nil=>simp [Cm]
  |cons t L=>
   have:(Cm (t::L)).all (fun e=>decide (e.born>=(t::L).length))=false:=by
    rw [Array.all_eq_false]
    refine ⟨0,by rw [HD];simp, ?_⟩
    have:=Gh (t::L) 0
    simp [Cm,Dh]
   rw [this];simp
 let left:=(Cm L).filter fun e=> !seen.toArray.contains e.born
 have a: ∀e,e∈left↔ ∃j t,L[j]? =some t/\j∉seen/\e=Dh j t:=by
  intro e
  rw [Array.mem_filter]
  constructor
  ·rintro ⟨v,h2⟩
   obtain ⟨j,n⟩:=Array.mem_iff_getElem?.1 v
   rw [Gh] at n
   cases h:L[j]? with
   |none=>rw [h] at n;cases n
   |some t=>
    rw [h] at n;cases n
    exact ⟨j,t,h,by simpa [Dh] using h2,rfl⟩
  ·rintro ⟨j,t,h,x,rfl⟩
   exact ⟨Array.mem_iff_getElem?.2 ⟨j,by rw [Gh,h];rfl⟩,by simpa [Dh] using x⟩
 have d: ∀e∈left,e.born<L.length:=fun e f=>by
  obtain ⟨j,t,h,_,y⟩:=(a e).1 f
  rw [y]
  exact (eJ.1 h).1
 have k:left.filter (fun e=>decide (e.born<L.length))=left:=by
  rw [Array.filter_eq_self];intro e f;simpa using d e f
 have l:left.filter (fun e=>decide (e.born>=L.length))= #[]:=by
  rw [Array.filter_eq_empty_iff];intro e f;have:=d e f;simp;omega
 have main:(Instr.next (.pointer (some ⟨r,0,none⟩)) false ty).run P w=
  ((choose (.mapNext ((if left.isEmpty then #[none] else #[])++left.map some:Array (Option MapEntry)).size)).run P w).andThen fun i b=>
    (match ((if left.isEmpty then #[none] else #[])++left.map some:Array (Option MapEntry))[i]? with
    |some (some e)=>do
     setObj r (.mapIter (some c) L.length (seen.toArray.push e.born) L.length)
     pure (.tuple #[.bool true,e.key,e.val])
    |some none=>pure (.tuple #[.bool false])
    |none=>stuck "Next: no such candidate" :Sem Value).run P b:=by
  simp only [Instr.next,Sem.run_bind,UX hi,Result.andThen_ok,itO,mO hm,o,bC,if_false,Sem.run_pure]
  show _=_
  simp only [left] at k l
  rw [k,l]
  simp only [Array.append_empty]
  rfl
 by_cases f:left= #[]
 ·left
  have p:left.isEmpty=true:=by rw [f];rfl
  refine ⟨?_,fun i z=> ?_⟩
  ·rw [main]
   simp only [f]
   have:(choose (.mapNext 1)).run P w= .ok 0 w:=by simp [choose,Sem.run,Question.forced]
   simp [this]
  ·apply Classical.byContradiction
   intro hn
   have:Dh i L[i]∈left:=(a _).2 ⟨i,L[i],aq z,hn,rfl⟩
   rw [f] at this
   simp at this
 ·right
  have p:left.isEmpty=false:=by simpa using f
  have m:0<left.size:=Array.size_pos_iff.2 f
  rw [p] at main
  simp only [bC,if_false,Array.empty_append,Array.size_map] at main
  have hch: ∃i b,i<left.size/\(b=w\/b={ w with drawn:=w.drawn+1 })/\(choose (.mapNext left.size)).run P w= .ok i b:=by
   by_cases v:left.size<=1
   ·exact ⟨0,w,m,.inl rfl,by simp [choose,Sem.run,Question.forced,v]⟩
   ·exact ⟨w.tape w.drawn (.mapNext left.size)%left.size,_,fN _ m,.inr rfl,by simp [choose,Sem.run,Question.forced,v,Question.cut]⟩
  obtain ⟨i,b,q,s,hcr⟩:=hch
  obtain ⟨j,t,h,n,hjt⟩:=(a left[i]).1 (Array.getElem_mem q)
  refine ⟨j,t,b,h,n,s, ?_⟩
  have hi':b.heap[r]? =some (itO c L.length seen):=by rcases s with rfl|rfl<;>exact hi
  have u:(left.map some)[i]? =some (some (Dh j t)):=by
   rw [Array.getElem?_map,aH q,hjt];rfl
  rw [main,hcr]
  simp only [Result.andThen_ok,u,Sem.run_bind,a6I _ hi',Sem.run_pure]
  simp [Dh,itO]
theorem a6O {w:World} {r c j:Nat} {L:List Tri} {seen:List Nat} {t:Tri} (hi:w.heap[r]? =some (itO c L.length (seen++[j]))) (d:w.heap[c]? =some (.map (Cm L) L.length)) (b:L[j]? =some t):
 (Instr.entry (.pointer (some ⟨r,0,none⟩))).run P w= .ok (.tuple #[o3 t.1 t.2.1,.int .i64 t.2.2]) w:=by
 have f:(Cm L).find? (fun e=>e.born==j)=some (Dh j t):=by
  rw [Array.find?_eq_some_iff_getElem]
  have a:=(eJ.1 b).1
  have l: ∀i (h:i<(Cm L).size),(Cm L)[i].born=i:=fun i h=>by simp [Cm,Dh]
  refine ⟨by simp [Dh],j,by rw [HD];exact a, ?_,fun k m=> ?_⟩
  ·have:=Gh L j
   rw [b,aH (by rw [HD];exact a)] at this
   exact cS this
  ·have:=l k (by rw [HD];omega)
   simp [this];omega
 simp [Instr.entry,UX hi,itO,mO d,f,Dh]
theorem a87 {w:World} {c:Nat} {L:List Tri} {t kt et:TypeId} (a:P.underlying t=some (.map kt et)) (b:w.heap[c]? =some (.map (Cm L) L.length)):
 (Instr.range t (.map (some c))).run P w= .ok (.pointer (some ⟨w.heap.size,0,none⟩)) (p8 w (itO c L.length [])):=by
 simp [Instr.range,run_underlying a,mO b,itO,p8]
end
end Go.AI
