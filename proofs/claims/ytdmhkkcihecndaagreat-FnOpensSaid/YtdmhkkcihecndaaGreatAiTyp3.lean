/- The machine's operations on values of Lean's own types: what writes, what makes, what calls; a function's end. -/
import Derived.Test.YtdmhkkcihecndaaGreatAiTyp2
set_option linter.unusedVariables false
set_option linter.unusedSimpArgs false
namespace Go.AI
section
variable {C:aY} {ow:FuncId→List Nat} {ev:Opd→V} {h:au} {n:Nat} {α:Type} {e:En α} {l l2:List α}
def snO (k:Option Blk) (b s q:Nat):Option (V×List Nat):=match k with
 |some k=>if k.op=false∧0<k.esz∧s+q=k.rows.length then some (.imm k.esz (k.rows.drop s),[b]) else none
 |none=>none
theorem a5S (m b q:Nat) (h0:Nat.blt 0 m=true) (hq:l.length=q):snO (some ⟨m,false,rws e l⟩) b 0 q=some (.imm m (rws e l),[b]):=by
 rw [Iz,decide_eq_true_eq] at h0
 simp [snO,rws,hq,h0]
def snC:Option (V×List Nat)→Option (List V×List Nat)→Option (List V×List Nat)
 |some (a,bs),some (r,bs')=>some (a.cz::r,bs++bs')
 |_,_=>none
theorem Vl (v:V) (r:List V):jA h (v::r)=snC (pL h v) (jA h r):=by
 simp only [jA,snC]
 cases pL h v<;>cases jA h r<;>rfl
def stO (k:Option Blk) (b size i o m:Nat) (x:V) (h:au):Option (V×Upd):=match k with
 |some k=>if k.rows.length=m then (match k.rows[i]? with
  |some row=>
   if k.op then
    (if x.cells.length=size∧o+size≤row.length∧x.cells.all V.cell then
     some (.undef,[(b,{ k with rows:=k.rows.set i (row.take o++(x.cells++row.drop (o+size))) })]) else none)
   else match jA h x.cells with
    |some (cs,bs)=>if cs.length=size∧o+size≤row.length∧ ¬b∈bs then
     some (.undef,gJ bs++[(b,{ k with rows:=k.rows.set i (row.take o++(cs++row.drop (o+size))) })]) else none
    |none=>none
  |none=>none) else none
 |none=>none
def a0O (size:Nat) (a x:V) (h:au):Option (V×Upd):=match a with
 | .ptr b i o m=>stO (h b) b size i o m x h
 |_=>none
theorem a2O (size:Nat) (a x:Opd):an C ow (.store size a x) ev h n=a0O size (ev a) (ev x) h:=by
 simp only [an,a0O,stO]
 cases ev a with
 |ptr b i o m=>dsimp only;cases h b<;>rfl
 |_=>rfl
theorem Ux (m b size o:Nat) (row:List V) (x:V):stO (some ⟨m,true,[row]⟩) b size 0 o 1 x h=
 br (Nat.beq x.cells.length size&&(Nat.ble (o+size) row.length&&x.cells.all V.cell)) (some (.undef,[(b,⟨m,true,[row.take o++(x.cells++row.drop (o+size))]⟩)])) none:=by
 rw [L5,IF]
 by_cases h1:x.cells.length=size<;>by_cases h2:o+size≤row.length<;>cases h3:x.cells.all V.cell<;>simp [stO,h1,h2,h3,br]
def stT (r:List (List V)) (m b size i o:Nat) (row:List V):Option (List V×List Nat)→Option (V×Upd)
 |some (cs,bs)=>br (Nat.beq cs.length size&&(Nat.ble (o+size) row.length&& !bs.contains b)) (some (.undef,gJ bs++[(b,⟨m,false,KU r i (row.take o++(cs++row.drop (o+size)))⟩)])) none
 |none=>none
theorem S7 (r:List (List V)) (m b size i o:Nat) (row cs:List V) (bs:List Nat):stT r m b size i o row (some (cs,bs))=
 br (Nat.beq cs.length size&&(Nat.ble (o+size) row.length&& !bs.contains b)) (some (.undef,gJ bs++[(b,⟨m,false,KU r i (row.take o++(cs++row.drop (o+size)))⟩)])) none:=rfl
theorem a4F (m b size i o q:Nat) (x:V) (hq:l.length=q):stO (some ⟨m,false,rws e l⟩) b size i o q x h=(l[i]?).bind (fun y=>stT (rws e l) m b size i o (e.enc y) (jA h x.cells)):=by
 simp only [stO]
 have:(rws e l).length=q:=by simp [rws,hq]
 rw [if_pos this]
 have h2:(rws e l)[i]? =(l[i]?).map e.enc:=by simp [rws]
 rw [h2]
 cases hl:l[i]? with
 |none=>rfl
 |some y=>
  simp only [Option.map_some,Option.bind_some]
  cases hs:jA h x.cells with
  |none=>simp [stT]
  |some p=>
   obtain ⟨cs,bs⟩:=p
   rw [S7,L5,IF]
   by_cases h1:cs.length=size<;>by_cases h2:o+size≤(e.enc y).length<;>by_cases h3:b∈bs<;>simp [h1,h2,h3,br,KU]
def psC (i:Nat):Option (List V×List Nat)→Option (List (Nat×V)×List Nat)→Option (List (Nat×V)×List Nat)
 |some (cs,bs),some (r',bs')=>some ((i,.agg cs)::r',bs++bs')
 |_,_=>none
theorem JC (i:Nat) (x:Opd) (r:List (Nat×Opd)):cD h ev ((i,x)::r)=psC i (jA h (ev x).cells) (cD h ev r):=by
 simp only [cD,psC]
 cases jA h (ev x).cells<;>cases cD h ev r<;>rfl
def Sc (esz:Nat) (rows:List (List V)):List (Nat×V)→Option (List (List V))
 |[]=>some rows
 | (i,v)::r=>br (Nat.beq v.cells.length esz&&(Nat.blt i rows.length&&v.cells.all V.cell)) (Sc esz (rows.set i v.cells) r) none
theorem SR (esz:Nat): ∀(ps:List (Nat×V)) (rows:List (List V)),K0 esz rows ps=Sc esz rows ps
 |[],_=>rfl
 | (i,v)::r,rows=>by
   simp only [K0,Sc,L5,Iz]
   rw [←SR esz r]
   by_cases h1:v.cells.length=esz<;>by_cases h2:i<rows.length<;>cases h3:v.cells.all V.cell<;>simp [h1,h2,br]
def a8b (u0:Upd):Option (V×Upd)→Option (V×Upd)
 |some (v,u)=>some (v,u0++u)
 |none=>none
def bsR (esz len:Nat) (zero:List Value) (bs:List Nat) (h:au) (n:Nat):Option (List (List V))→Option (V×Upd)
 |some rows=>br (Nat.beq zero.length esz&&(zero.all bf&&(Nat.ble (len*esz) 16777216&& !bs.contains n))) (a8b (gJ bs) (frO (h n) n ⟨esz,false,mkR n rows⟩ (.sl n 0 len))) none
 |none=>none
def bsS (esz len:Nat) (zero:List Value) (h:au) (n:Nat):Option (List (Nat×V)×List Nat)→Option (V×Upd)
 |some (ps,bs)=>bsR esz len zero bs h n (Sc esz (List.replicate len (zero.map zc)) ps)
 |none=>none
theorem R1 (esz len:Nat) (zero:List Value) (ps:List (Nat×Opd)):an C ow (.buildSlice esz zero len ps) ev h n=bsS esz len zero h n (cD h ev ps):=by
 simp only [an,bsS,SR,vE]
 cases cD h ev ps with
 |none=>rfl
 |some p=>
  obtain ⟨qs,bs⟩:=p
  dsimp only
  cases Sc esz (List.replicate len (zero.map zc)) qs with
  |none=>rfl
  |some rows=>
   simp only [bsR,L5,IF,mkR]
   by_cases h1:zero.length=esz<;>cases h2:zero.all bf<;>by_cases h3:len*esz≤16777216<;>by_cases h4:n∈bs<;>simp [h1,h3,h4,br]
   cases frO (h n) n ⟨esz,false,rows⟩ (.sl n 0 len)<;>rfl
def tbS (x:V) (h:au) (n:Nat):Option (V×Upd):=match x with
 | .lit (.string s)=>if s.size≤bB then jf h n ⟨1,false,s.data.toList.map fun b=>[.lit (.int .u8 b.toNat)]⟩ (.sl n 0 s.size) else none
 |_=>none
theorem a6K (s:List UInt8):tbS (S s) h n=br (aZ s.length 1) (frO (h n) n ⟨1,false,rws eU8 s⟩ (.sl n 0 s.length)) none:=by
 simp only [tbS,Qm,aZ,Nat.mul_one,vE]
 by_cases h1:s.length≤bB<;>simp [h1,br]
 rfl
def boS (x:V) (h:au):Option (V×Upd):=match x with
 | .sl b s n=>match h b with
   |some k=>if k.op=false∧0<k.esz∧s+n=k.rows.length∧0<n then some (.sl b s n,[(b,k)]) else none
   |none=>none
 |_=>none
def boO (k:Option Blk) (b s n:Nat):Option (V×Upd):=match k with
 |some k=>if k.op=false∧0<k.esz∧s+n=k.rows.length∧0<n then some (.sl b s n,[(b,k)]) else none
 |none=>none
theorem a5R (b m q:Nat) (h0:Nat.blt 0 m=true) (hq:l.length=q):boO (some ⟨m,false,rws e l⟩) b 0 q=br (decide (0<q)) (some (.sl b 0 q,[(b,⟨m,false,rws e l⟩)])) none:=by
 rw [Iz,decide_eq_true_eq] at h0
 by_cases h1:0<q<;>simp [boO,rws,hq,h0,h1,br]
theorem Ty (l:List UInt8):an.bytesOf (rws eU8 l)=some l:=by
 induction l with
 |nil=>rfl
 |cons b l ih=>
  simp only [rws,List.map_cons,eU8] at ih ⊢
  simp only [an.bytesOf]
  have h1:(0:Int)≤(b.toNat:Int)∧(b.toNat:Int)<256:=⟨by omega,by have:=b.toNat_lt;omega⟩
  rw [if_pos h1,ih]
  simp
def tsR:Option (List (List V))→Option (V×Upd)
 |some rows=>match an.bytesOf rows with
  |some l=>some (.lit (.string ⟨l.toArray⟩),[])
  |none=>none
 |none=>none
def tsS (x:V) (h:au):Option (V×Upd):=br (Wm x) none (tsR (cv h 1 x))
theorem a2w (x:Opd):an C ow (.toStr x) ev h n=tsS (ev x) h:=by
 simp only [an,tsS,tsR]
 cases Wm (ev x)
 ·simp only [Bool.false_eq_true,if_false,aj]
  cases cv h 1 (ev x)<;>rfl
 ·rfl
theorem a0G (l:List UInt8):tsR (some (rws eU8 l))=some (S l,[]):=by
 simp only [tsR,Ty]
theorem a5L (l:List UInt8):tsS (sl eU8 l) h=some (S l,[]):=by
 rw [tsS,SV,aj,OZ 1 rfl,a0G]
def roO (k:Option Blk) (m s q:Nat):Option (List (List V)):=match k with
 |some k=>if k.op=false∧0<k.esz∧k.esz=m∧s+q=k.rows.length then some (k.rows.drop s) else none
 |none=>none
theorem a4A (m q:Nat) (h0:Nat.blt 0 m=true) (hq:l.length=q):roO (some ⟨m,false,rws e l⟩) m 0 q=some (rws e l):=by
 rw [Iz,decide_eq_true_eq] at h0
 simp [roO,rws,hq,h0]
def a7t (esz bytes:Nat) (zero:List Value) (len cap:V) (h:au) (n:Nat):Option (V×Upd):=match asI len,asI cap with
 |some l,some c=>if 0≤l∧l≤c∧c*bytes≤bB∧c*esz≤bB∧zero.length=esz∧zero.all bf then
  jf h n ⟨esz,false,List.replicate l.toNat (zero.map zc)⟩ (.sl n 0 l.toNat) else none
 |_,_=>none
theorem a5I (esz bytes:Nat) (zero:List Value) (k k':IntKind) (a c:Int) (hb:Nat.ble esz bytes=true) (hz:Nat.beq zero.length esz=true) (hz2:zero.all bf=true):
 a7t esz bytes zero (.lit (.int k a)) (.lit (.int k' c)) h n=br (J8 a c bytes) (frO (h n) n ⟨esz,false,J3 n a.toNat (zero.map zc)⟩ (.sl n 0 (Wt (J3 n a.toNat (zero.map zc))))) none:=by
 have hz3:=Nat.eq_of_beq_eq_true hz
 have hb2:=Nat.le_of_ble_eq_true hb
 simp only [a7t,asI,J8,hz3,hz2,vE,J3,Wt,List.length_replicate]
 by_cases h1:0≤a<;>by_cases h2:a≤c<;>by_cases h3:c*bytes≤bB<;>simp [h1,h2,h3,br]
 intro h4
 exfalso
 have:c*esz≤c*bytes:=Int.mul_le_mul_of_nonneg_left (by omega) (by omega)
 omega
def slS (esz:Nat) (x:V) (lo hi mx:Option V) (h:au):Option (V×Upd):=match mx with
 |some _=>none
 |none=>match x with
  | .lit (.slice none 0 0)=>match bK hi 0 0 with
    |some q=>match bK lo 0 q with
     |some _=>some (.lit (.slice none 0 0),[])
     |none=>none
    |none=>none
  | .sl b s n=>match h b with
    |some k=>if k.op=false∧0<k.esz∧k.esz=esz∧s+n=k.rows.length then (match bK hi n n with
     |some q=>match bK lo 0 q with
      |some p=>if q=n then some (.sl b (s+p) (n-p),[]) else some ((V.imm esz (((k.rows.drop s).take q).drop p)).cz,[(b,cu)])
      |none=>none
     |none=>none) else none
    |none=>none
  | .imm e rows=>if e=esz∨rows=[] then (match bK hi rows.length rows.length with
   |some q=>match bK lo 0 q with
    |some p=>some ((V.imm e ((rows.take q).drop p)).cz,[])
    |none=>none
   |none=>none) else none
  |_=>none
theorem KQ (d m:Nat):bK none d m=some d:=rfl
theorem Fp (k:IntKind) (i:Int) (d m:Nat):bK (some (.lit (.int k i))) d m=if 0≤i∧i≤m then some i.toNat else none:=rfl
theorem Pf (m:Nat) (hm:e.esz=m) (lo hi:Option V):slS m (sl e l) lo hi none h=(match bK hi l.length l.length with
 |some q=>match bK lo 0 q with
  |some p=>some (sl e ((l.take q).drop p),[])
  |none=>none
 |none=>none):=by
 subst hm
 rcases iY e l with ⟨rfl,hs⟩|⟨hne,hs⟩
 ·rw [hs]
  simp only [slS,List.length_nil,or_true,if_true]
  cases bK hi 0 0 with
  |none=>rfl
  |some q=>cases bK lo 0 q<;>simp [a5Y,V.cz]
 ·rw [hs]
  simp only [slS,true_or,if_true,rws,List.length_map]
  cases bK hi l.length l.length with
  |none=>rfl
  |some q=>cases bK lo 0 q<;>simp [sl,rws, ←List.map_take, ←List.map_drop]
theorem a60 (m:Nat) (hm:e.esz=m) (k:IntKind) (a:Int):slS m (sl e l) (some (.lit (.int k a))) none none h=(sK l a l.length).bind (fun l'=>some (sl e l',[])):=by
 rw [Pf m hm]
 simp only [KQ,Fp,sK]
 by_cases h1:0≤a<;>by_cases h2:a≤(l.length:Int)<;>simp [h1,h2]
theorem a5Q (m:Nat) (hm:e.esz=m) (k:IntKind) (b:Int):slS m (sl e l) none (some (.lit (.int k b))) none h=(sK l 0 b).bind (fun l'=>some (sl e l',[])):=by
 rw [Pf m hm]
 simp only [KQ,Fp,sK]
 by_cases h1:0≤b<;>by_cases h2:b≤(l.length:Int)<;>simp [h1,h2]
theorem a5O (m:Nat) (hm:e.esz=m) (k k':IntKind) (a b:Int):slS m (sl e l) (some (.lit (.int k a))) (some (.lit (.int k' b))) none h=(sK l a b).bind (fun l'=>some (sl e l',[])):=by
 rw [Pf m hm]
 simp only [Fp,sK]
 by_cases h1:0≤b<;>by_cases h2:b≤(l.length:Int)<;>by_cases h3:0≤a<;>by_cases h4:a≤b
 all_goals (have e1:((b.toNat:Nat):Int)=b∨ ¬0≤b:=by omega)
 all_goals (rcases e1 with e1|e1)
 all_goals (first|omega| (simp [h1,h2,h3,h4,e1];try omega))
def slO (k:Option Blk) (m b s q:Nat) (a:Int):Option (V×Upd):=match k with
 |some k=>if k.op=false∧0<k.esz∧k.esz=m∧s+q=k.rows.length then (if 0≤a∧a≤q then some (.sl b (s+a.toNat) (q-a.toNat),[]) else none) else none
 |none=>none
def ssS (x:V) (lo hi:Option V):Option (V×Upd):=match x with
 | .lit (.string s)=>match bK hi s.size s.size with
   |some b=>match bK lo 0 b with
    |some a=>some (.lit (.string (s.extract a b)),[])
    |none=>none
   |none=>none
 |_=>none
theorem VZ (s:List UInt8) (a b:Nat):(⟨⟨s⟩⟩:ByteArray).extract a b=⟨⟨(s.take b).drop a⟩⟩:=by
 apply ByteArray.ext
 rw [ByteArray.data_extract]
 apply Array.ext'
 simp [List.extract_eq_take_drop,List.drop_take]
theorem Wc (s:List UInt8) (lo hi:Option V):ssS (S s) lo hi=(match bK hi s.length s.length with
 |some q=>match bK lo 0 q with
  |some p=>some (S ((s.take q).drop p),[])
  |none=>none
 |none=>none):=by
 simp only [ssS,Qm,VZ]
theorem a5k (s:List UInt8) (k:IntKind) (b:Int):ssS (S s) none (some (.lit (.int k b)))=(sK s 0 b).bind (fun l'=>some (S l',[])):=by
 rw [Wc]
 simp only [KQ,Fp,sK]
 by_cases h1:0≤b<;>by_cases h2:b≤(s.length:Int)<;>simp [h1,h2]
theorem a4X (s:List UInt8) (k k':IntKind) (a b:Int):ssS (S s) (some (.lit (.int k a))) (some (.lit (.int k' b)))=(sK s a b).bind (fun l'=>some (S l',[])):=by
 rw [Wc]
 simp only [Fp,sK]
 by_cases h1:0≤b<;>by_cases h2:b≤(s.length:Int)<;>by_cases h3:0≤a<;>by_cases h4:a≤b
 all_goals (have e1:((b.toNat:Nat):Int)=b∨ ¬0≤b:=by omega)
 all_goals (rcases e1 with e1|e1)
 all_goals (first|omega| (simp [h1,h2,h3,h4,e1];try omega))
def apS (esz bytes:Nat) (zero:List Value) (x y:V) (h:au) (n:Nat):Option (List (List V))→Option (V×Upd)
 |none=>none
 |some new_=>if zero.length=esz∧0<esz∧new_.length*bytes≤bB∧new_.length*esz≤bB then
  (match x with
  | .sl b 0 n=>match h b with
    |some k=>if k.op=false∧0<k.esz∧k.esz=esz∧n=k.rows.length∧(n+new_.length)*bytes≤bB∧(n+new_.length)*esz≤bB∧an.selfOk b y then
     some (.sl b 0 (n+new_.length),[(b,{ k with rows:=k.rows++new_ })]) else none
    |none=>none
  | .lit (.slice none 0 0)=>jf h n ⟨esz,false,new_⟩ (.sl n 0 new_.length)
  | .imm 0 []=>jf h n ⟨esz,false,new_⟩ (.sl n 0 new_.length)
  |_=>none) else none
theorem a0Q (esz bytes:Nat) (zero:List Value) (x y:Opd):an C ow (.append esz bytes zero x y) ev h n=apS esz bytes zero (ev x) (ev y) h n (cv h esz (ev y)):=by
 simp only [an]
 cases cv h esz (ev y) with
 |none=>rfl
 |some r=>rfl
def Og (b:Nat) (y:V):Bool:=an.selfOk b y
theorem a1C (b:Nat):Og b (sl e l)=true:=by
 rcases iY e l with ⟨_,h⟩|⟨_,h⟩<;>rw [h]<;>rfl
def apO (k:Option Blk) (esz bytes:Nat) (zero:List Value) (b q:Nat) (sb:Bool) (new_:List (List V)):Option (V×Upd):=match k with
 |some k=>if zero.length=esz∧0<esz∧new_.length*bytes≤bB∧new_.length*esz≤bB then
  (if k.op=false∧0<k.esz∧k.esz=esz∧q=k.rows.length∧(q+new_.length)*bytes≤bB∧(q+new_.length)*esz≤bB∧sb=true then
        some (.sl b 0 (q+new_.length),[(b,{ k with rows:=k.rows++new_ })]) else none) else none
 |none=>none
theorem a3k (esz bytes:Nat) (zero:List Value) (b q:Nat) (y:V) (new_:List (List V)):apS esz bytes zero (.sl b 0 q) y h n (some new_)=apO (h b) esz bytes zero b q (Og b y) new_:=by
 simp only [apS,apO,Og]
 cases h b with
 |none=>simp
 |some k=>rfl
theorem a5T (m bytes:Nat) (zero:List Value) (b q:Nat) (sb:Bool) (hz:Nat.beq zero.length m=true) (h0:Nat.blt 0 m=true) (hb:Nat.ble m bytes=true) (hq:l.length=q) (hs:sb=true):
 apO (some ⟨m,false,rws e l⟩) m bytes zero b q sb (rws e l2)=br (aZ (l++l2).length bytes) (some (.sl b 0 (l++l2).length,[(b,⟨m,false,rws e (l++l2)⟩)])) none:=by
 have hz3:=Nat.eq_of_beq_eq_true hz
 have hb2:=Nat.le_of_ble_eq_true hb
 rw [Iz,decide_eq_true_eq] at h0
 subst hs hq
 simp only [apO,aZ,rws,List.length_map,List.length_append,List.map_append]
 have e1:(l.length+l2.length)*m≤(l.length+l2.length)*bytes:=Nat.mul_le_mul_left _ hb2
 have e2:l2.length*bytes≤(l.length+l2.length)*bytes:=Nat.mul_le_mul_right _ (by omega)
 have e3:l2.length*m≤l2.length*bytes:=Nat.mul_le_mul_left _ hb2
 by_cases hf:(l.length+l2.length)*bytes≤bB
 ·rw [if_pos ⟨hz3,h0,by omega,by omega⟩,if_pos ⟨by trivial,h0,by trivial,by trivial,hf,by omega,by trivial⟩,decide_eq_true hf,aQ]
 ·rw [decide_eq_false hf,aj]
  split
  ·rw [if_neg (fun hc=>hf hc.2.2.2.2.1)]
  ·rfl
theorem a32 (m bytes:Nat) (zero:List Value) (y:V) (hz:Nat.beq zero.length m=true) (h0:Nat.blt 0 m=true) (hb:Nat.ble m bytes=true):
 apS m bytes zero (.lit (.slice none 0 0)) y h n (some (rws e l2))=br (aZ l2.length bytes) (frO (h n) n ⟨m,false,rws e l2⟩ (.sl n 0 l2.length)) none:=by
 have hz3:=Nat.eq_of_beq_eq_true hz
 have hb2:=Nat.le_of_ble_eq_true hb
 rw [Iz,decide_eq_true_eq] at h0
 simp only [apS,aZ,vE]
 have hl:(rws e l2).length=l2.length:=by simp [rws]
 rw [hl]
 have e3:l2.length*m≤l2.length*bytes:=Nat.mul_le_mul_left _ hb2
 by_cases hf:l2.length*bytes≤bB
 ·rw [if_pos ⟨hz3,h0,hf,by omega⟩,decide_eq_true hf,aQ]
 ·rw [decide_eq_false hf,aj,if_neg (fun hc=>hf hc.2.2.1)]
def Ko (l:List α) (s k:Nat) (l2:List α):List α:=l.take s++(l2.take k++l.drop (s+k))
def a6o (esz bytes:Nat) (zero:List Value) (x y:V) (h:au) (n:Nat):Option (V×Upd):=match asI y with
 |some l=>if 0≤l∧l≤1099511627776∧l*bytes≤1099511627776∧zero.all bf then Cw esz bytes zero x (fun _=>true) h n (List.replicate l.toNat (zero.map zc)) else none
 |none=>none
theorem ZQ (m bytes:Nat) (zero:List Value) (b q:Nat) (k:IntKind) (a:Int) (hz2:zero.all bf=true):
 a6o m bytes zero (.sl b 0 q) (.lit (.int k a)) h n=br (J8 a a bytes&&decide (a≤1099511627776)) (apO (h b) m bytes zero b q true (J3 n a.toNat (zero.map zc))) none:=by
 simp only [a6o,asI,J8,hz2,J3,bB]
 by_cases h1:0≤a<;>by_cases h2:a*bytes≤1099511627776<;>by_cases h3:a≤1099511627776<;>simp [h1,h2,h3,br]
 simp only [Cw,apO]
 cases h b with
 |none=>simp
 |some kk=>rfl
def cpS (esz:Nat) (x y:V) (h:au):Option (List (List V))→Option (V×Upd)
 |some rows=>match x with
  | .sl b s n=>match h b with
    |some k=>if k.op=false∧0<k.esz∧k.esz=esz∧s+n=k.rows.length∧an.selfOk b y then
     some (.lit (.int .i64 (min rows.length n)),[(b,{ k with rows:=k.rows.take s++(rows.take (min rows.length n)++k.rows.drop (s+min rows.length n)) })]) else none
    |none=>none
  |_=>none
 |none=>none
theorem a69 (esz:Nat) (x y:Opd):an C ow (.copy esz x y) ev h n=cpS esz (ev x) (ev y) h (cv h esz (ev y)):=by
 simp only [an,cpS]
 cases cv h esz (ev y) with
 |none=>rfl
 |some r=>cases ev x<;>rfl
def cpO (k:Option Blk) (esz b s q:Nat) (sb:Bool) (rows:List (List V)):Option (V×Upd):=match k with
 |some k=>if k.op=false∧0<k.esz∧k.esz=esz∧s+q=k.rows.length∧sb=true then
  some (.lit (.int .i64 (min rows.length q)),[(b,{ k with rows:=k.rows.take s++(rows.take (min rows.length q)++k.rows.drop (s+min rows.length q)) })]) else none
 |none=>none
theorem a2l (esz b s q:Nat) (y:V) (rows:List (List V)):cpS esz (.sl b s q) y h (some rows)=cpO (h b) esz b s q (Og b y) rows:=by
 simp only [cpS,cpO,Og]
 cases h b<;>rfl
theorem a57 (m b s q:Nat) (sb:Bool) (h0:Nat.blt 0 m=true) (hs:sb=true):cpO (some ⟨m,false,rws e l⟩) m b s q sb (rws e l2)=
 br (decide (s+q=l.length)) (some (I (min (l2.length:Int) (q:Int)),[(b,⟨m,false,rws e (Ko l s (min l2.length q) l2)⟩)])) none:=by
 rw [Iz,decide_eq_true_eq] at h0
 subst hs
 simp only [cpO]
 by_cases hq:s+q=l.length
 ·rw [if_pos ⟨by trivial,h0,by trivial,by simp [rws,hq],by trivial⟩,decide_eq_true hq,aQ]
  simp [rws,Ko,List.map_take,List.map_drop]
 ·rw [decide_eq_false hq,aj,if_neg (fun hc=>hq (by simpa [rws] using hc.2.2.2.1))]
def ncS (x:V) (h:au):Option (V×Upd):=match x with
 | .ptr b i o n=>match h b with
   |some k=>if k.rows.length=n∧i<n then some (.ptr b i o n,[]) else none
   |none=>none
 | .iptr r o=>some (.iptr r o,[])
 | .fn f c=>some (.fn f c,[])
 |_=>none
theorem VT (x:Opd):an C ow (.nilCheck x) ev h n=ncS (ev x) h:=by
 simp only [an,ncS]
 cases ev x<;>rfl
def ncO (k:Option Blk) (b i o m:Nat):Option (V×Upd):=match k with
 |some k=>if k.rows.length=m∧i<m then some (.ptr b i o m,[]) else none
 |none=>none
def mxS (x y:V):Option (V×Upd):=match x,y with
 | .lit (.int k a),.lit (.int _ b)=>some (.lit (.int k (if b>a then b else a)),[])
 |_,_=>none
theorem a63 (x y:Opd):an C ow (.max2 x y) ev h n=mxS (ev x) (ev y):=by
 simp only [an,mxS]
 cases ev x<;>cases ev y<;>rfl
def mnS (x y:V):Option (V×Upd):=match x,y with
 | .lit (.int k a),.lit (.int _ b)=>some (.lit (.int k (if b<a then b else a)),[])
 |_,_=>none
theorem a4C (x y:Opd):an C ow (.min2 x y) ev h n=mnS (ev x) (ev y):=by
 simp only [an,mnS]
 cases ev x<;>cases ev y<;>rfl
def HR (h:au) (new:Nat) (ids bor:List Nat):Option (V×List Blk)→Option (V×Upd)
 |some (r,bs)=>vC h new ids bor r bs
 |none=>none
def WC (C:aY) (ow:FuncId→List Nat) (h:au) (new:Nat) (f:FuncId):Option (List V×List Blk×List Nat×List Nat)→Option (V×Upd)
 |some (args',blks,ids,bor)=>HR h new ids bor (C f (qj (ow f) args') (pN (ow f) blks))
 |none=>none
theorem O6 (f:FuncId) (args:List V):jx C ow h n f args=WC C ow h n f (cV ow h f args):=by
 unfold jx WC HR
 cases cV ow h f args with
 |none=>rfl
 |some p=>obtain ⟨a,b,c,d⟩:=p;dsimp only;cases C f (qj (ow f) a) (pN (ow f) b)<;>rfl
theorem a5p (f:FuncId) (args:List Opd):an C ow (.call f args) ev h n=WC C ow h n f (cV ow h f (args.map ev)):=O6 _ _
def a6A (C:aY) (ow:FuncId→List Nat) (h:au) (n:Nat) (args:List V):V→Option (V×Upd)
 | .fn k caps=>WC C ow h n k (cV ow h k (args++caps))
 |_=>none
theorem a72 (f:Opd) (args:List Opd):an C ow (.dyn f args) ev h n=a6A C ow h n (args.map ev) (ev f):=by
 simp only [an,a6A]
 cases ev f<;>first|rfl|exact O6 _ _
def a4h (args':List V) (bor:List Nat):Option (List Blk×List Nat)→Option (List V×List Blk×List Nat×List Nat)
 |some (blks,ids)=>br (bor.any (fun b=>decide (b∈ids))) none (some (args',blks,ids,bor))
 |none=>none
def a4k (h:au):Option (List V×List Nat×List Nat)→Option (List V×List Blk×List Nat×List Nat)
 |some (args',ids0,bor)=>a4h args' bor (dD h 40 0 ids0)
 |none=>none
theorem TV (f:FuncId) (args:List V):cV ow h f args=a4k h (gw h (ow f) 0 [] args):=by
 unfold cV a4k a4h
 cases gw h (ow f) 0 [] args with
 |none=>rfl
 |some p=>
  obtain ⟨a,i,b⟩:=p
  dsimp only
  cases dD h 40 0 i with
  |none=>rfl
  |some q=>
   obtain ⟨bl,ids⟩:=q
   dsimp only
   cases hb:b.any (fun b=>decide (b∈ids))<;>simp [br]
def la2 (v':V) (bs:List Nat):Option (List V×List Nat×List Nat)→Option (List V×List Nat×List Nat)
 |some (r',ids'',bs')=>some (v'::r',ids'',bs++bs')
 |none=>none
def la1 (h:au) (owns:List Nat) (j:Nat) (r:List V):Option (V×List Nat×List Nat)→Option (List V×List Nat×List Nat)
 |some (v',ids',bs)=>la2 v' bs (gw h owns (j+1) ids' r)
 |none=>none
theorem PW (owns:List Nat) (j:Nat) (ids:List Nat) (v:V) (r:List V):gw h owns j ids (v::r)=la1 h owns j r (dB h (owns.contains j) ids v):=by
 have:decide (j∈owns)=owns.contains j:=by simp [List.contains_iff_mem,Bool.eq_iff_iff]
 simp only [gw,la1,la2,this]
 cases dB h (owns.contains j) ids v with
 |none=>rfl
 |some p=>obtain ⟨a,b,c⟩:=p;dsimp only;cases gw h owns (j+1) b r<;>rfl
def lcP (k:Option Blk) (ids:List Nat) (b i o m:Nat):Option (V×List Nat×List Nat):=match k with
 |some k=>if k.rows.length=m then some (.ptr (pb b (gS ids b)) i o m,gS ids b,[]) else none
 |none=>none
def lcO (k:Option Blk) (own:Bool) (ids:List Nat) (b s q:Nat):Option (V×List Nat×List Nat):=match k with
 |some k=>if s+q=k.rows.length then
  (if own then some (.sl (pb b (gS ids b)) s q,gS ids b,[]) else if k.op=false∧0<k.esz then some (.imm k.esz (k.rows.drop s),ids,[b]) else none) else none
 |none=>none
theorem a07 (own:Bool) (ids:List Nat) (v:Value):cN h own ids (.lit v)=some (.lit v,ids,[]):=rfl
theorem a09 (own:Bool) (ids:List Nat) (v:Value):dB h own ids (.lit v)=some (.lit v,ids,[]):=rfl
def lcA (mk:List V→V):Option (List V×List Nat×List Nat)→Option (V×List Nat×List Nat)
 |some (cs',ids',bs)=>some (mk cs',ids',bs)
 |none=>none
theorem a5l (own:Bool) (ids:List Nat) (cs:List V):dB h own ids (.agg cs)=lcA V.agg (cF h own ids cs):=by
 simp only [dB,lcA]
 cases cF h own ids cs<;>rfl
theorem a7i (own:Bool) (ids:List Nat) (f:FuncId) (cs:List V):dB h own ids (.fn f cs)=lcA (V.fn f) (cF h true ids cs):=by
 simp only [dB,lcA]
 cases cF h true ids cs<;>rfl
def a6a (h:au) (own:Bool) (r:List V):Option (V×List Nat×List Nat)→Option (List V×List Nat×List Nat)
 |some (v',ids',bs)=>la2 v' bs (cF h own ids' r)
 |none=>none
theorem BO (own:Bool) (ids:List Nat) (v:V) (r:List V):cF h own ids (v::r)=a6a h own r (cN h own ids v):=by
 simp only [cF,a6a,la2]
 cases cN h own ids v with
 |none=>rfl
 |some p=>obtain ⟨a,b,c⟩:=p;dsimp only;cases cF h own b r<;>rfl
theorem Oq (own:Bool) (r:List V) (v':V) (ids' bs:List Nat):a6a h own r (some (v',ids',bs))=la2 v' bs (cF h own ids' r):=rfl
theorem a6y (m:Nat) (ids:List Nat) (b s q:Nat) (hq:s+q=l.length):lcO (some ⟨m,false,rws e l⟩) true ids b s q=some (.sl (pb b (gS ids b)) s q,gS ids b,[]):=by
 simp [lcO,rws,hq]
theorem a6n (m:Nat) (ids:List Nat) (b q:Nat) (h0:Nat.blt 0 m=true) (hq:l.length=q):lcO (some ⟨m,false,rws e l⟩) false ids b 0 q=some (.imm m (rws e l),ids,[b]):=by
 rw [Iz,decide_eq_true_eq] at h0
 simp [lcO,rws,hq,h0]
def lb2 (k:Blk):Option (List Blk×List Nat)→Option (List Blk×List Nat)
 |some (r,ids')=>some (k::r,ids')
 |none=>none
def ld2 (v':V):Option (List V×List Nat)→Option (List V×List Nat)
 |some (r',i)=>some (v'::r',i)
 |none=>none
def ld1 (h:au) (r:List V):Option (V×List Nat×List Nat)→Option (List V×List Nat)
 |some (v',ids',_)=>ld2 v' (mL h ids' r)
 |none=>none
theorem Mj (ids:List Nat) (v:V) (r:List V):mL h ids (v::r)=ld1 h r (dB h true ids v):=by
 simp only [mL,ld1,ld2]
 cases dB h true ids v with
 |none=>rfl
 |some p=>obtain ⟨a,b,c⟩:=p;dsimp only;cases mL h b r<;>rfl
theorem To (r:List V) (v':V) (ids' bs:List Nat):ld1 h r (some (v',ids',bs))=ld2 v' (mL h ids' r):=rfl
def lb1 (h:au) (fuel pos m:Nat):Option (List V×List Nat)→Option (List Blk×List Nat)
 |some (row,ids1)=>lb2 ⟨m,true,[row]⟩ (dD h fuel (pos+1) ids1)
 |none=>none
def lb0 (h:au) (fuel pos:Nat) (ids:List Nat):Option Blk→Option (List Blk×List Nat)
 |some k=>if k.op=false then lb2 k (dD h fuel (pos+1) ids) else (match jU h ids k.rows with
  |none=>none
  |some (rows,ids1)=>lb2 { k with rows:=rows } (dD h fuel (pos+1) ids1))
 |none=>none
def lbN (h:au) (fuel pos:Nat) (ids:List Nat):Option Nat→Option (List Blk×List Nat)
 |none=>some ([],ids)
 |some b=>lb0 h fuel pos ids (h b)
theorem Vh (fuel pos:Nat) (ids:List Nat):dD h (fuel+1) pos ids=lbN h fuel pos ids ids[pos]? :=by
 simp only [dD,lbN,lb0]
 cases ids[pos]? with
 |none=>rfl
 |some b=>
  dsimp only
  cases h b with
  |none=>rfl
  |some k=>
   dsimp only
   split
   ·cases dD h fuel (pos+1) ids<;>rfl
   ·cases jU h ids k.rows with
    |none=>rfl
    |some p=>obtain ⟨rows,ids1⟩:=p;dsimp only;cases dD h fuel (pos+1) ids1<;>rfl
theorem a5B (fuel pos:Nat) (ids:List Nat) (m:Nat) (row:List V):lb0 h fuel pos ids (some ⟨m,true,[row]⟩)=lb1 h fuel pos m (mL h ids row):=by
 simp only [lb0,jU,lb1]
 cases mL h ids row with
 |none=>rfl
 |some p=>obtain ⟨a,b⟩:=p;rfl
def cpw (new:Nat) (ids bor:List Nat) (r:V) (bs:List Blk) (ns:List Nat):Option (V×Upd):=some (Xb (ids++ns) r,mr (ids++ns) (bs.map (jD (ids++ns)))++br (bor.isEmpty||(GW r&&bs.all yD)) [] (gJ bor))
theorem VM (new:Nat) (ids bor:List Nat) (r:V) (bs:List Blk):HR h new ids bor (some (r,bs))=
 br (Nat.ble ids.length bs.length&&(eK ids bs new).all (fun b=>(h b).isNone)) (cpw new ids bor r bs (eK ids bs new)) none:=by
 simp only [HR,vC,cpw,IF]
 generalize (eK ids bs new).all (fun b=>(h b).isNone)=c3
 generalize (bor.isEmpty||(GW r&&bs.all yD))=c4
 by_cases h1:ids.length≤bs.length
 ·rw [decide_eq_true h1];cases c3<;>cases c4<;>simp [h1,br]
 ·rw [decide_eq_false h1];cases c3<;>cases c4<;>simp [h1,br]
theorem a68 (m:Nat) (row:List V):yD ⟨m,true,[row]⟩=row.all zb:=by simp [yD]
def a6G (raw:Bool) (m:Nat):Option (List V)→Option (List Blk)→Option (V×List Blk)
 |some vs',some bs=>br (Nat.ble m 1000) (some ((a6e vs').czR,br raw bs (bs.map Blk.cz))) none
 |_,_=>none
def UZ (keep raw:Bool) (m:Nat) (h:au):Option (List V)→Option (V×List Blk)
 |some vs=>a6G raw m (xJ h m (br keep (mW raw h m vs) []) vs) (yv h m (br keep (mW raw h m vs) []) (List.range m++(br keep (mW raw h m vs) [])))
 |none=>none
theorem Wd (nt:Nat) (body:ag) (res:List Ge) (keep raw:Bool) (m:Nat) (st:St) (x:ai) (hx:x= .ret∨x= .normal):W1 ⟨nt,body,res,keep,raw⟩ m x st=UZ keep raw m st.heap (km st res):=by
 have hk: ∀vs:List V,(if keep=true then mW raw st.heap m vs else [])=br keep (mW raw st.heap m vs) []:=fun vs=>by cases keep<;>rfl
 have:W1 ⟨nt,body,res,keep,raw⟩ m x st=W1 ⟨nt,body,res,keep,raw⟩ m .ret st:=by rcases hx with rfl|rfl<;>rfl
 rw [this]
 simp only [W1,kh,UZ,a6G,Su,hk,IF]
 cases km st res with
 |none=>rfl
 |some vs=>
  dsimp only
  cases xJ st.heap m (br keep (mW raw st.heap m vs) []) vs with
  |none=>rfl
  |some vs'=>
   cases yv st.heap m (br keep (mW raw st.heap m vs) []) (List.range m++(br keep (mW raw st.heap m vs) [])) with
   |none=>rfl
   |some bs=>by_cases h1:m≤1000<;>cases raw<;>simp [h1,br]
theorem a0x (nt:Nat) (body:ag) (res:List Ge) (keep raw:Bool) (m:Nat) (st:St):W1 ⟨nt,body,res,keep,raw⟩ m .ret st=UZ keep raw m st.heap (km st res):=Wd _ _ _ _ _ _ _ _ (.inl rfl)
theorem Se (nt:Nat) (body:ag) (res:List Ge) (keep raw:Bool) (m:Nat) (st:St):W1 ⟨nt,body,res,keep,raw⟩ m .normal st=UZ keep raw m st.heap (km st res):=Wd _ _ _ _ _ _ _ _ (.inr rfl)
def rs1:Option V→Option (List V)→Option (List V)
 |some v,some vs=>some (v::vs)
 |_,_=>none
theorem Yx (st:St) (r:Ge) (rs:List Ge):km st (r::rs)=rs1 (OS st r) (km st rs):=by
 simp only [km,rs1]
 cases OS st r<;>cases km st rs<;>rfl
def a8n:Option V→Option (List V)→Option (List V)
 |some v,some vs=>some (v::vs)
 |_,_=>none
theorem UF (m:Nat) (kp:List Nat) (v:V) (r:List V):xJ h m kp (v::r)=rs1 (LH h m kp v) (xJ h m kp r):=by
 simp only [xJ,rs1]
 cases LH h m kp v<;>cases xJ h m kp r<;>rfl
theorem KG (m:Nat) (kp:List Nat) (v:V) (r:List V):sJ h m kp (v::r)=rs1 (rU h m kp v) (sJ h m kp r):=by
 simp only [sJ,rs1]
 cases rU h m kp v<;>cases sJ h m kp r<;>rfl
def fag:Option (List V)→Option V
 |some cs=>some (.agg cs)
 |none=>none
theorem a1r (m:Nat) (kp:List Nat) (cs:List V):LH h m kp (.agg cs)=fag (sJ h m kp cs):=by
 simp only [LH,fag]
 cases sJ h m kp cs<;>rfl
def a6C:Option (V×List Nat)→Option V
 |some (v,_)=>some v
 |none=>none
def fcO (h:au) (m:Nat) (kp:List Nat) (b s q:Nat):Option V:=br (Nat.blt b m) (some (.sl b s q)) (br (kp.contains b) (some (.sl (m+pb b kp) s q)) (a6C (pL h (.sl b s q))))
theorem KP (m:Nat) (kp:List Nat) (b s q:Nat):rU h m kp (.sl b s q)=fcO h m kp b s q:=by
 simp only [rU,fcO,Iz,a6C]
 by_cases h1:b<m
 ·simp [h1,br]
 ·by_cases h2:b∈kp
  ·simp [h1,h2,br]
  ·have:kp.contains b=false:=by simpa using h2
   simp only [h1,h2,this,if_false,decide_false,aj]
   cases pL h (.sl b s q)<;>rfl
theorem a0u (m:Nat) (kp:List Nat) (b s q:Nat):LH h m kp (.sl b s q)=fcO h m kp b s q:=KP m kp b s q
def fcP (m:Nat) (kp:List Nat) (b i o q:Nat):Option V:=br (Nat.blt b m) (some (.ptr b i o q)) (br (kp.contains b) (some (.ptr (m+pb b kp) i o q)) none)
theorem JG (m:Nat) (kp:List Nat) (b i o q:Nat):rU h m kp (.ptr b i o q)=fcP m kp b i o q:=by
 simp only [rU,fcP,Iz]
 by_cases h1:b<m
 ·simp [h1,br]
 ·by_cases h2:b∈kp
  ·simp [h1,h2,br]
  ·have:kp.contains b=false:=by simpa using h2
   simp [h1,h2,this,br]
theorem a0i (m:Nat) (kp:List Nat) (b i o q:Nat):LH h m kp (.ptr b i o q)=fcP m kp b i o q:=JG (h:=h) m kp b i o q
def fb2:Option Blk→Option (List Blk)→Option (List Blk)
 |some k,some r=>some (k::r)
 |_,_=>none
def fb1 (h:au) (m:Nat) (kp r:List Nat):Option Blk→Option (List Blk)
 |some k=>fb2 (VL h m kp k) (yv h m kp r)
 |none=>none
theorem UN (m:Nat) (kp:List Nat) (b:Nat) (r:List Nat):yv h m kp (b::r)=fb1 h m kp r (h b):=by
 simp only [yv,fb1,fb2]
 cases h b with
 |none=>rfl
 |some k=>dsimp only;cases VL h m kp k<;>cases yv h m kp r<;>rfl
def fbO (q:Nat):Option (List V)→Option Blk
 |some row=>some ⟨q,true,[row]⟩
 |none=>none
theorem JB (m:Nat) (kp:List Nat) (v:V) (r:List V):xQ h m kp (v::r)=rs1 (NJ h m kp v) (xQ h m kp r):=by
 simp only [xQ,rs1]
 cases NJ h m kp v<;>cases xQ h m kp r<;>rfl
def fnR (f:FuncId):Option (List V)→Option V
 |some cs=>some (.fn f cs)
 |none=>none
theorem a3r (m:Nat) (kp:List Nat) (f:FuncId) (c:V) (cs:List V):NJ h m kp (.fn f (c::cs))=fnR f (sJ h m kp (c::cs)):=by
 simp only [NJ,fnR]
 cases sJ h m kp (c::cs)<;>rfl
theorem a0J (m:Nat) (kp:List Nat) (b s q:Nat):NJ h m kp (.sl b s q)=fcO h m kp b s q:=KP m kp b s q
theorem a0R (m:Nat) (kp:List Nat) (b i o q:Nat):NJ h m kp (.ptr b i o q)=fcP m kp b i o q:=JG (h:=h) m kp b i o q
theorem a3x (m:Nat) (kp:List Nat) (q:Nat) (row:List V):VL h m kp ⟨q,true,[row]⟩=fbO q (xQ h m kp row):=by
 simp only [VL,Al,fbO]
 cases xQ h m kp row<;>rfl
theorem a02 (t u:Nat) (v:V) (r:List (Nat×V)) (m:List (Nat×Blk)):St.get ⟨(u,v)::r,m⟩ t=if u=t then v else St.get ⟨r,m⟩ t:=by
 simp only [St.get,dg]
 split<;>rfl
theorem OQ (v:Value):(V.lit v).cells=[.lit v]:=rfl
theorem Ug (k:IntKind) (a:Int):(V.lit (.int k a)).cell=true:=rfl
theorem a2q (ids:List Nat):mr ids []=[]:=by cases ids<;>rfl
theorem XN (ids:List Nat) (b:Nat):gS ids b=br (ids.contains b) ids (ids++[b]):=by
 unfold gS
 by_cases h:b∈ids<;>simp [h,br]
theorem UL (o:List Nat) (a:List V):qj o a=br (o.contains 1000) a (a.map V.czA):=by
 unfold qj;cases o.contains 1000<;>rfl
theorem VX (o:List Nat) (a:List Blk):pN o a=br (o.contains 1000) a (a.map Blk.cz):=by
 unfold pN;cases o.contains 1000<;>rfl
def a1k (st:St) (bs:List Nat):St:={ e:=Vm (fzA st.heap bs) st.e,m:=fzM st.heap bs st.m }
theorem a0T (st:St) (bs:List Nat):ca st (.close bs)=br (bs.all (fun b=>Nat.ble 1000 b)) (some (a1k st bs)) none:=by
 simp only [ca,a1k,IF]
 cases bs.all (fun b=>decide (1000≤b))<;>rfl
variable {bs:List Nat}
def fzO:Option (V×List Nat)→V
 |some (v,_)=>v.cz
 |none=> .undef
theorem Zw (b s q:Nat):fzA h bs (.sl b s q)=br (bs.contains b) (fzO (pL h (.sl b s q))) (.sl b s q):=by
 simp only [fzA,fzC,fzO]
 by_cases hb:b∈bs
 ·simp [hb,br];cases pL h (.sl b s q)<;>rfl
 ·simp [hb,br]
theorem a0F (b i o m:Nat):fzA h bs (.ptr b i o m)=br (bs.contains b) .undef (.ptr b i o m):=by
 simp only [fzA,fzC]
 by_cases hb:b∈bs<;>simp [hb,br]
theorem a4L (cs:List V):fzA h bs (.agg cs)=br ((cs.map (fzC h bs)).all V.cell) (.agg (cs.map (fzC h bs))) .undef:=by
 simp only [fzA]
 cases (cs.map (fzC h bs)).all V.cell<;>rfl
theorem a3V (f:FuncId) (cs:List V):fzA h bs (.fn f cs)=br (cs.all okC&& !(cs.flatMap FB).any (fun b=>bs.contains b)) (.fn f cs) .undef:=by
 simp only [fzA,fzC]
 have:(fun b=>decide (b∈bs))=fun b=>bs.contains b:=by funext b;simp [Bool.eq_iff_iff]
 rw [this]
 cases (cs.all okC&& !(cs.flatMap FB).any (fun b=>bs.contains b))<;>rfl
theorem a5f (f:FuncId) (cs:List V):fzC h bs (.fn f cs)=br (cs.all okC&& !(cs.flatMap FB).any (fun b=>bs.contains b)) (.fn f cs) .undef:=a3V (h:=h) f cs
theorem a2Z (b s q:Nat):fzC h bs (.sl b s q)=br (bs.contains b) (fzO (pL h (.sl b s q))) (.sl b s q):=Zw b s q
theorem a2X (b i o m:Nat):fzC h bs (.ptr b i o m)=br (bs.contains b) .undef (.ptr b i o m):=a0F (h:=h) b i o m
def fzK (h:au) (bs:List Nat) (k:Blk):Blk:=if k.op then (if (k.rows.map (·.map (fzC h bs))).all (·.all V.cell) then { k with rows:=k.rows.map (·.map (fzC h bs)) } else cu) else k
theorem a1z (b:Nat) (k:Blk) (r:List (Nat×Blk)):fzM h bs ((b,k)::r)=br (bs.contains b) (fzM h bs r) ((b,fzK h bs k)::fzM h bs r):=by
 simp only [fzM,fzK]
 by_cases hb:b∈bs<;>simp [hb,br]
theorem a5t (m:Nat) (row:List V):fzK h bs ⟨m,true,[row]⟩=br ((row.map (fzC h bs)).all V.cell) ⟨m,true,[row.map (fzC h bs)]⟩ cu:=by
 simp only [fzK,List.map_cons,List.map_nil,List.all_cons,List.all_nil,Bool.and_true,if_true]
 cases (row.map (fzC h bs)).all V.cell<;>rfl
section
variable {R:Type} {T:Tab} {ow:cY} {k:ai→St→Option R} {d:Option Nat} {n:Nat} {ss:List bi} {live:List Nat} {K:List Fr} {st:St} {base i:Nat} {deps:List (List Nat)} {rs:List Rec} {fp:List Nat} {r:R}
theorem a1y {h:au} {new:Nat} {ids bor:List Nat} {x:Option (V×List Blk)} {p:V×List Blk} (hx:x=some p) (hr:aft T ow k d n ss live K st (HR h new ids bor (some p))=some r):aft T ow k d n ss live K st (HR h new ids bor x)=some r:=by
 rw [hx];exact hr
theorem Yj {h:au} {new:Nat} {ids bor:List Nat} {x:Option (V×List Blk)} {p:V×List Blk} (hx:x=some p) (hr:Qp T ow k d base i ss deps live rs K st fp (HR h new ids bor (some p))=some r):Qp T ow k d base i ss deps live rs K st fp (HR h new ids bor x)=some r:=by
 rw [hx];exact hr
end
end
section
variable {ow:cY} {ev:Opd→V} {h:au} {α:Type} {e:En α} {l:List α}
def fpC:Option (List V×List Blk×List Nat×List Nat)→List Nat
 |some (_,_,ids,bor)=>ids++bor
 |none=>[]
theorem a1V (f:FuncId) (args:List Opd):NP ow (.call f args) ev h=fpC (cV ow h f (args.map ev)):=by
 show G0 ow h f (args.map ev)=_
 unfold G0 fpC
 cases cV ow h f (args.map ev)<;>rfl
def fpD (ow:cY) (h:au) (args:List V):V→List Nat
 | .fn k caps=>fpC (cV ow h k (args++caps))
 |_=>[]
theorem a5U (f:Opd) (args:List Opd):NP ow (.dyn f args) ev h=fpD ow h (args.map ev) (ev f):=by
 show (match ev f with
  | .fn k caps=>G0 ow h k (args.map ev++caps)
  |_=>[])=_
 cases ev f<;>first|rfl| (simp only [fpD,G0,fpC];cases cV ow h _ _<;>rfl)
theorem RA (fp:List Nat) (b:Nat):mz h fp b=br (fp.contains b) (h b) none:=by
 unfold mz
 by_cases hb:b∈fp<;>simp [hb,br]
theorem a2r (rs:List Rec) (i:Nat) (fp wr:List Nat):a2z rs i fp wr=br (fp.isEmpty&&wr.isEmpty) rs (rs++[⟨i,fp,wr⟩]):=by
 have h:Rec.loud ⟨i,fp,wr⟩= !(fp.isEmpty&&wr.isEmpty):=rfl
 unfold a2z
 cases h1:Rec.loud ⟨i,fp,wr⟩ with
 |true=>
  rw [h1] at h
  have h2:(fp.isEmpty&&wr.isEmpty)=false:=by
   cases hx:fp.isEmpty&&wr.isEmpty with
   |false=>rfl
   |true=>rw [hx] at h;cases h
  rw [h2,aj,List.filter_cons_of_pos h1];rfl
 |false=>
  rw [h1] at h
  have h2:(fp.isEmpty&&wr.isEmpty)=true:=by
   cases hx:fp.isEmpty&&wr.isEmpty with
   |true=>rfl
   |false=>rw [hx] at h;cases h
  rw [h2,aQ,List.filter_cons_of_neg (by rw [h1];decide)];simp
theorem aa (x:Int) (h1: -9223372036854775808≤x) (h2:x<9223372036854775808):IntKind.wrap .i64 x=x:=by
 simp [IntKind.wrap,IntKind.bits,IntKind.signed];omega
theorem cT (x:Int) (h1:0≤x) (h2:x<18446744073709551616):IntKind.wrap .u64 x=x:=by
 simp [IntKind.wrap,IntKind.bits,IntKind.signed];omega
theorem a5A (a b:Nat):(a==b)=decide (a=b):=by
 by_cases h:a=b
 ·subst h;simp
 ·rw [decide_eq_false h];simpa using h
theorem a3m (m:Nat) (row:List V):a5X (some ⟨m,true,[row]⟩)=row.flatMap a0L:=by simp [a5X]
theorem Uo (m b:Nat) (acc r:List Nat):Is m acc (b::r)=Is m (br (Nat.ble m b) (gS acc b) acc) r:=by
 simp only [Is,IF]
 by_cases h:m≤b<;>simp [h,br]
end
end Go.AI
