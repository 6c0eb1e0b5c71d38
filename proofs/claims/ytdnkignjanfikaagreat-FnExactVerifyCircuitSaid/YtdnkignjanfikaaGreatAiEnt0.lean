/- A range over a map of pairs of numbers: what one step of it does, whoever draws. -/
import Derived.Test.YtdnkignjanfikaaGreatAiTop
import Derived.Test.YtdnkignjanfikaaGreatAiMap
import Derived.Test.YtdnkignjanfikaaGreatAiSrt
set_option linter.unusedVariables false
set_option linter.unusedSimpArgs false
namespace Go.AI
def BT (i:Nat) (t:Tri):MapEntry:={ key:=m3 t.1 t.2.1,val:= .int .i64 t.2.2,born:=i }
def Bd (L:List Tri):Array MapEntry:=(L.mapIdx BT).toArray
theorem Hz (L:List Tri):(Bd L).size=L.length:=by simp [Bd]
theorem GO (L:List Tri) (i:Nat):(Bd L)[i]? =(L[i]?).map (BT i):=by simp [Bd]
theorem sx.es {w:World} {c:Nat} {L:List Tri} (m:sx w c [bB L]):w.heap[c]? =some (.map (Bd L) L.length):=by
 obtain ⟨es,L',h1,h2,h3,h4,h5⟩:=m.ex
 have e:L'=L:=(Qj (List.cons.inj h2).1).symm
 subst e
 have:es=Bd L':=by
  apply fh
  intro i
  rw [GO]
  cases hi:es[i]? with
  |none=>
   have:es.size<=i:=Array.getElem?_eq_none_iff.1 hi
   rw [bF (by omega)];rfl
  |some e=>
   have hlt:i<es.size:=(lH.1 hi).1
   have ht:L'[i]? =some L'[i]:=aq (by omega)
   rw [ht]
   have hm:=h4 i e _ hi ht
   have hb:=h5 i e hi
   obtain ⟨k,v,b⟩:=e
   have h6:=hm.key;have h7:=hm.val
   simp only at h6 h7 hb
   subst h6 h7 hb
   rfl
 rw [h1,h3, <-this]
def itO (c n:Nat) (seen:List Nat):Obj:= .mapIter (some c) n seen.toArray n
section
variable {P:Program}
theorem X5 {w:World} {r c n:Nat} {seen:List Nat} (h:w.heap[r]? =some (itO c n seen)):(getObj r).run P w= .ok (itO c n seen) w:=by
 simp [getObj,Sem.run,h,itO]
theorem a9c {w:World} {r c n:Nat} {seen:List Nat} (o:Obj) (h:w.heap[r]? =some (itO c n seen)):(setObj r o).run P w= .ok () (Bs w r o):=by
 simp [setObj,Sem.run,h,itO,Bs]
theorem b6A {w:World} {r c:Nat} {L:List Tri} {seen:List Nat} {ty:TypeId} (hi:w.heap[r]? =some (itO c L.length seen)) (hm:w.heap[c]? =some (.map (Bd L) L.length)) (hs: ∀i∈seen,i<L.length):
 ((Instr.next (.pointer (some ⟨r,0,none⟩)) false ty).run P w= .ok (.tuple #[.bool false]) w/\ ∀i,i<L.length->i∈seen)\/
 ∃j t w1,L[j]? =some t/\j∉seen/\(w1=w\/w1={ w with drawn:=w.drawn+1 })/\
  (Instr.next (.pointer (some ⟨r,0,none⟩)) false ty).run P w= .ok (.tuple #[.bool true,m3 t.1 t.2.1,.int .i64 t.2.2]) (Bs w1 r (itO c L.length (seen++[j]))):=by
 have hnot:(!seen.toArray.isEmpty&& !(Bd L).isEmpty&&(Bd L).all (fun e=>decide (e.born>=L.length)))=false:=by
  cases L with
  |nil=>simp [Bd]
  |cons t L=>
   have:(Bd (t::L)).all (fun e=>decide (e.born>=(t::L).length))=false:=by
    rw [Array.all_eq_false]
    refine ⟨0,by rw [Hz];simp, ?_⟩
    have:=GO (t::L) 0
    simp [Bd,BT]
   rw [this];simp
 let left:=(Bd L).filter fun e=> !seen.toArray.contains e.born
 have hleft: ∀e,e∈left↔ ∃j t,L[j]? =some t/\j∉seen/\e=BT j t:=by
  intro e
  rw [Array.mem_filter]
  constructor
  ·rintro ⟨h1,h2⟩
   obtain ⟨j,hj⟩:=Array.mem_iff_getElem?.1 h1
   rw [GO] at hj
   cases ht:L[j]? with
   |none=>rw [ht] at hj;cases hj
   |some t=>
    rw [ht] at hj;cases hj
    exact ⟨j,t,ht,by simpa [BT] using h2,rfl⟩
  ·rintro ⟨j,t,ht,hnj,rfl⟩
   exact ⟨Array.mem_iff_getElem?.2 ⟨j,by rw [GO,ht];rfl⟩,by simpa [BT] using hnj⟩
 have hborn: ∀e∈left,e.born<L.length:=fun e he=>by
  obtain ⟨j,t,ht,_,he2⟩:=(hleft e).1 he
  rw [he2]
  exact (dh.1 ht).1
 have hold:left.filter (fun e=>decide (e.born<L.length))=left:=by
  rw [Array.filter_eq_self];intro e he;simpa using hborn e he
 have hnew:left.filter (fun e=>decide (e.born>=L.length))= #[]:=by
  rw [Array.filter_eq_empty_iff];intro e he;have:=hborn e he;simp;omega
 have main:(Instr.next (.pointer (some ⟨r,0,none⟩)) false ty).run P w=
  ((choose (.mapNext ((if left.isEmpty then #[none] else #[])++left.map some:Array (Option MapEntry)).size)).run P w).andThen fun i w1=>
    (match ((if left.isEmpty then #[none] else #[])++left.map some:Array (Option MapEntry))[i]? with
    |some (some e)=>do
     setObj r (.mapIter (some c) L.length (seen.toArray.push e.born) L.length)
     pure (.tuple #[.bool true,e.key,e.val])
    |some none=>pure (.tuple #[.bool false])
    |none=>stuck "Next: no such candidate" :Sem Value).run P w1:=by
  simp only [Instr.next,Sem.run_bind,X5 hi,Result.andThen_ok,itO,kK hm,hnot,bA,if_false,Sem.run_pure]
  show _=_
  simp only [left] at hold hnew
  rw [hold,hnew]
  simp only [Array.append_empty]
  rfl
 by_cases he:left= #[]
 ·left
  have hse:left.isEmpty=true:=by rw [he];rfl
  refine ⟨?_,fun i hi2=> ?_⟩
  ·rw [main]
   simp only [he]
   have:(choose (.mapNext 1)).run P w= .ok 0 w:=by simp [choose,Sem.run,Question.forced]
   simp [this]
  ·apply Classical.byContradiction
   intro hn
   have:BT i L[i]∈left:=(hleft _).2 ⟨i,L[i],aq hi2,hn,rfl⟩
   rw [he] at this
   simp at this
 ·right
  have hse:left.isEmpty=false:=by simpa using he
  have hpos:0<left.size:=Array.size_pos_iff.2 he
  rw [hse] at main
  simp only [bA,if_false,Array.empty_append,Array.size_map] at main
  have hch: ∃i w1,i<left.size/\(w1=w\/w1={ w with drawn:=w.drawn+1 })/\(choose (.mapNext left.size)).run P w= .ok i w1:=by
   by_cases h1:left.size<=1
   ·exact ⟨0,w,hpos,.inl rfl,by simp [choose,Sem.run,Question.forced,h1]⟩
   ·exact ⟨w.tape w.drawn (.mapNext left.size)%left.size,_,gG _ hpos,.inr rfl,by simp [choose,Sem.run,Question.forced,h1,Question.cut]⟩
  obtain ⟨i,w1,hil,hw1,hcr⟩:=hch
  obtain ⟨j,t,ht,hj,hjt⟩:=(hleft left[i]).1 (Array.getElem_mem hil)
  refine ⟨j,t,w1,ht,hj,hw1, ?_⟩
  have hi':w1.heap[r]? =some (itO c L.length seen):=by rcases hw1 with rfl|rfl<;>exact hi
  have hget:(left.map some)[i]? =some (some (BT j t)):=by
   rw [Array.getElem?_map,aL hil,hjt];rfl
  rw [main,hcr]
  simp only [Result.andThen_ok,hget,Sem.run_bind,a9c _ hi',Sem.run_pure]
  simp [BT,itO]
theorem b0o {w:World} {r c j:Nat} {L:List Tri} {seen:List Nat} {t:Tri} (hi:w.heap[r]? =some (itO c L.length (seen++[j]))) (hm:w.heap[c]? =some (.map (Bd L) L.length)) (ht:L[j]? =some t):
 (Instr.entry (.pointer (some ⟨r,0,none⟩))).run P w= .ok (.tuple #[m3 t.1 t.2.1,.int .i64 t.2.2]) w:=by
 have hf:(Bd L).find? (fun e=>e.born==j)=some (BT j t):=by
  rw [Array.find?_eq_some_iff_getElem]
  have hlt:=(dh.1 ht).1
  have hg: ∀i (h:i<(Bd L).size),(Bd L)[i].born=i:=fun i h=>by simp [Bd,BT]
  refine ⟨by simp [BT],j,by rw [Hz];exact hlt, ?_,fun k hk=> ?_⟩
  ·have:=GO L j
   rw [ht,aL (by rw [Hz];exact hlt)] at this
   exact cZ this
  ·have:=hg k (by rw [Hz];omega)
   simp [this];omega
 simp [Instr.entry,X5 hi,itO,kK hm,hf,BT]
theorem b0j {w:World} {c:Nat} {L:List Tri} {t kt et:TypeId} (hu:P.underlying t=some (.map kt et)) (hm:w.heap[c]? =some (.map (Bd L) L.length)):
 (Instr.range t (.map (some c))).run P w= .ok (.pointer (some ⟨w.heap.size,0,none⟩)) (mV w (itO c L.length [])):=by
 simp [Instr.range,run_underlying hu,kK hm,itO,mV]
end
end Go.AI
