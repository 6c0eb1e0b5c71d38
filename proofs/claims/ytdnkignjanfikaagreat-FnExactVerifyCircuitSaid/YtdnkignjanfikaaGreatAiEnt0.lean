/- Part. -/
import Derived.Test.YtdnkignjanfikaaGreatAiTop
import Derived.Test.YtdnkignjanfikaaGreatAiSrt
set_option linter.unusedVariables false
set_option linter.unusedSimpArgs false
namespace Go.AI
def Ce (i:Nat) (t:Tri):MapEntry:={ key:=lS t.1 t.2.1,val:= .int .i64 t.2.2,born:=i }
def AG (L:List Tri):Array MapEntry:=(L.mapIdx Ce).toArray
theorem H6 (L:List Tri):(AG L).size=L.length:=by simp [AG]
theorem Gy (L:List Tri) (i:Nat):(AG L)[i]? =(L[i]?).map (Ce i):=by simp [AG]
theorem sB.es {w:World} {c:Nat} {L:List Tri} (m:sB w c [bz L]):w.heap[c]? =some (.map (AG L) L.length):=by
 obtain ⟨es,L',l,n,o,p,q⟩:=m.ex
 have e:L'=L:=(Ry (List.cons.inj n).1).symm
 subst e
 have:es=AG L':=by
  apply fe
  intro i
  rw [Gy]
  cases hi:es[i]? with
  |none=>
   have:es.size<=i:=Array.getElem?_eq_none_iff.1 hi
   rw [bD (by omega)];rfl
  |some e=>
   have r:i<es.size:=(lx.1 hi).1
   have a:L'[i]? =some L'[i]:=aq (by omega)
   rw [a]
   have d:=p i e _ hi a
   have f:=q i e hi
   obtain ⟨k,v,b⟩:=e
   have h:=d.key;have j:=d.val
   simp only at h j f
   subst h j f
   rfl
 rw [l,o, <-this]
def itO (c n:Nat) (seen:List Nat):Obj:= .mapIter (some c) n seen.toArray n
section
variable {P:Program}
theorem Vl {w:World} {r c n:Nat} {seen:List Nat} (h:w.heap[r]? =some (itO c n seen)):(getObj r).run P w= .ok (itO c n seen) w:=by
 simp [getObj,Sem.run,h,itO]
theorem b1g {w:World} {r c n:Nat} {seen:List Nat} (o:Obj) (h:w.heap[r]? =some (itO c n seen)):(setObj r o).run P w= .ok () (B8 w r o):=by
 simp [setObj,Sem.run,h,itO,B8]
theorem b6I {w:World} {r c:Nat} {L:List Tri} {seen:List Nat} {ty:TypeId} (hi:w.heap[r]? =some (itO c L.length seen)) (hm:w.heap[c]? =some (.map (AG L) L.length)) (hs: ∀i∈seen,i<L.length):
 ((Instr.next (.pointer (some ⟨r,0,none⟩)) false ty).run P w= .ok (.tuple #[.bool false]) w/\ ∀i,i<L.length->i∈seen)\/
 ∃j t b,L[j]? =some t/\j∉seen/\(b=w\/b={ w with drawn:=w.drawn+1 })/\
  (Instr.next (.pointer (some ⟨r,0,none⟩)) false ty).run P w= .ok (.tuple #[.bool true,lS t.1 t.2.1,.int .i64 t.2.2]) (B8 b r (itO c L.length (seen++[j]))):=by
 have o:(!seen.toArray.isEmpty&& !(AG L).isEmpty&&(AG L).all (fun e=>decide (e.born>=L.length)))=false:=by
  cases L with
  |nil=>simp [AG]
  |cons t L=>
   have:(AG (t::L)).all (fun e=>decide (e.born>=(t::L).length))=false:=by
    rw [Array.all_eq_false]
    refine ⟨0,by rw [H6];simp, ?_⟩
    have:=Gy (t::L) 0
    simp [AG,Ce]
   rw [this];simp
 let left:=(AG L).filter fun e=> !seen.toArray.contains e.born
 have a: ∀e,e∈left↔ ∃j t,L[j]? =some t/\j∉seen/\e=Ce j t:=by
  intro e
  rw [Array.mem_filter]
  constructor
  ·rintro ⟨v,h2⟩
   obtain ⟨j,n⟩:=Array.mem_iff_getElem?.1 v
   rw [Gy] at n
   cases h:L[j]? with
   |none=>rw [h] at n;cases n
   |some t=>
    rw [h] at n;cases n
    exact ⟨j,t,h,by simpa [Ce] using h2,rfl⟩
  ·rintro ⟨j,t,h,x,rfl⟩
   exact ⟨Array.mem_iff_getElem?.2 ⟨j,by rw [Gy,h];rfl⟩,by simpa [Ce] using x⟩
 have d: ∀e∈left,e.born<L.length:=fun e f=>by
  obtain ⟨j,t,h,_,y⟩:=(a e).1 f
  rw [y]
  exact (dg.1 h).1
 have k:left.filter (fun e=>decide (e.born<L.length))=left:=by
  rw [Array.filter_eq_self];intro e f;simpa using d e f
 have l:left.filter (fun e=>decide (e.born>=L.length))= #[]:=by
  rw [Array.filter_eq_empty_iff];intro e f;have:=d e f;simp;omega
 have main:(Instr.next (.pointer (some ⟨r,0,none⟩)) false ty).run P w=
  ((choose (.mapNext ((if left.isEmpty then #[none] else #[])++left.map some:Array (Option MapEntry)).size)).run P w).andThen fun i b=>
    (match ((if left.isEmpty then #[none] else #[])++left.map some:Array (Option MapEntry))[i]? with
    |some (some e)=>do
     setObj r (.mapIter (some c) L.length (seen.toArray.push e.born) L.length)
     pure (.tuple #[.bool true,e.key,e.val])
    |some none=>pure (.tuple #[.bool false])
    |none=>stuck "Next: no such candidate" :Sem Value).run P b:=by
  simp only [Instr.next,Sem.run_bind,Vl hi,Result.andThen_ok,itO,kE hm,o,bx,if_false,Sem.run_pure]
  show _=_
  simp only [left] at k l
  rw [k,l]
  simp only [Array.append_empty]
  rfl
 by_cases f:left= #[]
 ·left
  have p:left.isEmpty=true:=by rw [f];rfl
  refine ⟨?_,fun i z=> ?_⟩
  ·rw [main]
   simp only [f]
   have:(choose (.mapNext 1)).run P w= .ok 0 w:=by simp [choose,Sem.run,Question.forced]
   simp [this]
  ·apply Classical.byContradiction
   intro hn
   have:Ce i L[i]∈left:=(a _).2 ⟨i,L[i],aq z,hn,rfl⟩
   rw [f] at this
   simp at this
 ·right
  have p:left.isEmpty=false:=by simpa using f
  have m:0<left.size:=Array.size_pos_iff.2 f
  rw [p] at main
  simp only [bx,if_false,Array.empty_append,Array.size_map] at main
  have hch: ∃i b,i<left.size/\(b=w\/b={ w with drawn:=w.drawn+1 })/\(choose (.mapNext left.size)).run P w= .ok i b:=by
   by_cases v:left.size<=1
   ·exact ⟨0,w,m,.inl rfl,by simp [choose,Sem.run,Question.forced,v]⟩
   ·exact ⟨w.tape w.drawn (.mapNext left.size)%left.size,_,gt _ m,.inr rfl,by simp [choose,Sem.run,Question.forced,v,Question.cut]⟩
  obtain ⟨i,b,q,s,hcr⟩:=hch
  obtain ⟨j,t,h,n,hjt⟩:=(a left[i]).1 (Array.getElem_mem q)
  refine ⟨j,t,b,h,n,s, ?_⟩
  have hi':b.heap[r]? =some (itO c L.length seen):=by rcases s with rfl|rfl<;>exact hi
  have u:(left.map some)[i]? =some (some (Ce j t)):=by
   rw [Array.getElem?_map,aL q,hjt];rfl
  rw [main,hcr]
  simp only [Result.andThen_ok,u,Sem.run_bind,b1g _ hi',Sem.run_pure]
  simp [Ce,itO]
theorem a8P {w:World} {r c j:Nat} {L:List Tri} {seen:List Nat} {t:Tri} (hi:w.heap[r]? =some (itO c L.length (seen++[j]))) (d:w.heap[c]? =some (.map (AG L) L.length)) (b:L[j]? =some t):
 (Instr.entry (.pointer (some ⟨r,0,none⟩))).run P w= .ok (.tuple #[lS t.1 t.2.1,.int .i64 t.2.2]) w:=by
 have f:(AG L).find? (fun e=>e.born==j)=some (Ce j t):=by
  rw [Array.find?_eq_some_iff_getElem]
  have a:=(dg.1 b).1
  have l: ∀i (h:i<(AG L).size),(AG L)[i].born=i:=fun i h=>by simp [AG,Ce]
  refine ⟨by simp [Ce],j,by rw [H6];exact a, ?_,fun k m=> ?_⟩
  ·have:=Gy L j
   rw [b,aL (by rw [H6];exact a)] at this
   exact cZ this
  ·have:=l k (by rw [H6];omega)
   simp [this];omega
 simp [Instr.entry,Vl hi,itO,kE d,f,Ce]
theorem a7Z {w:World} {c:Nat} {L:List Tri} {t kt et:TypeId} (a:P.underlying t=some (.map kt et)) (b:w.heap[c]? =some (.map (AG L) L.length)):
 (Instr.range t (.map (some c))).run P w= .ok (.pointer (some ⟨w.heap.size,0,none⟩)) (mw w (itO c L.length [])):=by
 simp [Instr.range,run_underlying a,kE b,itO,mw]
end
end Go.AI
