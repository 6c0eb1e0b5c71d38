/- Part. -/
import Derived.Test.YtdnkignjanfikaaGreatAiTop
import Derived.Test.YtdnkignjanfikaaGreatAiSrt
set_option linter.unusedVariables false
set_option linter.unusedSimpArgs false
namespace Go.AI
def C0 (i:Nat) (t:Tri):MapEntry:={ key:=lQ t.1 t.2.1,val:= .int .i64 t.2.2,born:=i }
def AY (L:List Tri):Array MapEntry:=(L.mapIdx C0).toArray
theorem Ha (L:List Tri):(AY L).size=L.length:=by simp [AY]
theorem FG (L:List Tri) (i:Nat):(AY L)[i]? =(L[i]?).map (C0 i):=by simp [AY]
theorem rK.es {w:World} {c:Nat} {L:List Tri} (m:rK w c [bz L]):w.heap[c]? =some (.map (AY L) L.length):=by
 obtain ⟨es,L',n,o,p,q,r⟩:=m.ex
 a e:L'=L:=(Qp (List.cons.inj o).1).symm
 subst e
 a:es=AY L':=by
  apply fb
  intro i
  rw [FG]
  cases hi:es[i]? with
  |none=>
   a:es.size<=i:=Array.getElem?_eq_none_iff.1 hi
   rw [bD (by omega)];rfl
  |some e=>
   a s:i<es.size:=(lr.1 hi).1
   a d:L'[i]? =some L'[i]:=aq (by omega)
   rw [d]
   a f:=q i e _ hi d
   a h:=r i e hi
   obtain ⟨k,v,b⟩:=e
   a j:=f.key;a l:=f.val
   simp only at j l h
   subst j l h
   rfl
 rw [n,p, <-this]
def itO (c n:Nat) (seen:List Nat):Obj:= .mapIter (some c) n seen.toArray n
section
variable {P:Program}
theorem W8 {w:World} {r c n:Nat} {seen:List Nat} (h:w.heap[r]? =some (itO c n seen)):(getObj r).run P w= .ok (itO c n seen) w:=by
 simp [getObj,Sem.run,h,itO]
theorem a8y {w:World} {r c n:Nat} {seen:List Nat} (o:Obj) (h:w.heap[r]? =some (itO c n seen)):(setObj r o).run P w= .ok () (AF w r o):=by
 simp [setObj,Sem.run,h,itO,AF]
theorem b5k {w:World} {r c:Nat} {L:List Tri} {seen:List Nat} {ty:TypeId} (hi:w.heap[r]? =some (itO c L.length seen)) (hm:w.heap[c]? =some (.map (AY L) L.length)) (hs: ∀i∈seen,i<L.length):
 ((Instr.next (.pointer (some ⟨r,0,none⟩)) false ty).run P w= .ok (.tuple #[.bool false]) w/\ ∀i,i<L.length->i∈seen)\/
 ∃j t d,L[j]? =some t/\j∉seen/\(d=w\/d={ w with drawn:=w.drawn+1 })/\
  (Instr.next (.pointer (some ⟨r,0,none⟩)) false ty).run P w= .ok (.tuple #[.bool true,lQ t.1 t.2.1,.int .i64 t.2.2]) (AF d r (itO c L.length (seen++[j]))):=by
 a p:(!seen.toArray.isEmpty&& !(AY L).isEmpty&&(AY L).all (fun e=>decide (e.born>=L.length)))=false:=by
   cases L with
   |nil=>simp [AY]
   |cons t L=>
    a:(AY (t::L)).all (fun e=>decide (e.born>=(t::L).length))=false:=by
     rw [Array.all_eq_false]
     refine ⟨0,by rw [Ha];simp, ?_⟩
     a:=FG (t::L) 0
     simp [AY,C0]
    rw [this];simp
 let left:=(AY L).filter fun e=> !seen.toArray.contains e.born
 a b: ∀e,e∈left↔ ∃j t,L[j]? =some t/\j∉seen/\e=C0 j t:=by
   intro e
   rw [Array.mem_filter]
   constructor
   ·rintro ⟨x,h2⟩
    obtain ⟨j,o⟩:=Array.mem_iff_getElem?.1 x
    rw [FG] at o
    cases k:L[j]? with
    |none=>rw [k] at o;cases o
    |some t=>
     rw [k] at o;cases o
     exact ⟨j,t,k,by simpa [C0] using h2,rfl⟩
   ·rintro ⟨j,t,k,y,rfl⟩
    exact ⟨Array.mem_iff_getElem?.2 ⟨j,by rw [FG,k];rfl⟩,by simpa [C0] using y⟩
 a f: ∀e∈left,e.born<L.length:=fun e h=>by
   obtain ⟨j,t,k,_,z⟩:=(b e).1 h
   rw [z]
   exact (dg.1 k).1
 a l:left.filter (fun e=>decide (e.born<L.length))=left:=by
   rw [Array.filter_eq_self];intro e h;simpa using f e h
 a m:left.filter (fun e=>decide (e.born>=L.length))= #[]:=by
   rw [Array.filter_eq_empty_iff];intro e h;a:=f e h;simp;omega
 a main:(Instr.next (.pointer (some ⟨r,0,none⟩)) false ty).run P w=
  ((choose (.mapNext ((if left.isEmpty then #[none] else #[])++left.map some:Array (Option MapEntry)).size)).run P w).andThen fun i d=>
    (match ((if left.isEmpty then #[none] else #[])++left.map some:Array (Option MapEntry))[i]? with
    |some (some e)=>do
     setObj r (.mapIter (some c) L.length (seen.toArray.push e.born) L.length)
     pure (.tuple #[.bool true,e.key,e.val])
    |some none=>pure (.tuple #[.bool false])
    |none=>stuck "Next: no such candidate" :Sem Value).run P d:=by
   simp only [Instr.next,Sem.run_bind,W8 hi,Result.andThen_ok,itO,kA hm,p,bx,if_false,Sem.run_pure]
   show _=_
   simp only [left] at l m
   rw [l,m]
   simp only [Array.append_empty]
   rfl
 by_cases h:left= #[]
 ·left
  a q:left.isEmpty=true:=by rw [h];rfl
  refine ⟨?_,fun i hi2=> ?_⟩
  ·rw [main]
   simp only [h]
   a:(choose (.mapNext 1)).run P w= .ok 0 w:=by simp [choose,Sem.run,Question.forced]
   simp [this]
  ·apply Classical.byContradiction
   intro hn
   a:C0 i L[i]∈left:=(b _).2 ⟨i,L[i],aq hi2,hn,rfl⟩
   rw [h] at this
   simp at this
 ·right
  a q:left.isEmpty=false:=by simpa using h
  a n:0<left.size:=Array.size_pos_iff.2 h
  rw [q] at main
  simp only [bx,if_false,Array.empty_append,Array.size_map] at main
  a hch: ∃i d,i<left.size/\(d=w\/d={ w with drawn:=w.drawn+1 })/\(choose (.mapNext left.size)).run P w= .ok i d:=by
    by_cases x:left.size<=1
    ·exact ⟨0,w,n,.inl rfl,by simp [choose,Sem.run,Question.forced,x]⟩
    ·exact ⟨w.tape w.drawn (.mapNext left.size)%left.size,_,gq _ n,.inr rfl,by simp [choose,Sem.run,Question.forced,x,Question.cut]⟩
  obtain ⟨i,d,s,u,hcr⟩:=hch
  obtain ⟨j,t,k,o,hjt⟩:=(b left[i]).1 (Array.getElem_mem s)
  refine ⟨j,t,d,k,o,u, ?_⟩
  a hi':d.heap[r]? =some (itO c L.length seen):=by rcases u with rfl|rfl<;>exact hi
  a v:(left.map some)[i]? =some (some (C0 j t)):=by
    rw [Array.getElem?_map,aL s,hjt];rfl
  rw [main,hcr]
  simp only [Result.andThen_ok,v,Sem.run_bind,a8y _ hi',Sem.run_pure]
  simp [C0,itO]
theorem a9i {w:World} {r c j:Nat} {L:List Tri} {seen:List Nat} {t:Tri} (hi:w.heap[r]? =some (itO c L.length (seen++[j]))) (f:w.heap[c]? =some (.map (AY L) L.length)) (d:L[j]? =some t):
 (Instr.entry (.pointer (some ⟨r,0,none⟩))).run P w= .ok (.tuple #[lQ t.1 t.2.1,.int .i64 t.2.2]) w:=by
 a l:(AY L).find? (fun e=>e.born==j)=some (C0 j t):=by
   rw [Array.find?_eq_some_iff_getElem]
   a b:=(dg.1 d).1
   a m: ∀i (h:i<(AY L).size),(AY L)[i].born=i:=fun i h=>by simp [AY,C0]
   refine ⟨by simp [C0],j,by rw [Ha];exact b, ?_,fun k n=> ?_⟩
   ·a:=FG L j
    rw [d,aL (by rw [Ha];exact b)] at this
    exact cY this
   ·a:=m k (by rw [Ha];omega)
    simp [this];omega
 simp [Instr.entry,W8 hi,itO,kA f,l,C0]
theorem a8l {w:World} {c:Nat} {L:List Tri} {t kt et:TypeId} (a:P.underlying t=some (.map kt et)) (b:w.heap[c]? =some (.map (AY L) L.length)):
 (Instr.range t (.map (some c))).run P w= .ok (.pointer (some ⟨w.heap.size,0,none⟩)) (mK w (itO c L.length [])):=by
 simp [Instr.range,run_underlying a,kA b,itO,mK]
end
end Go.AI
