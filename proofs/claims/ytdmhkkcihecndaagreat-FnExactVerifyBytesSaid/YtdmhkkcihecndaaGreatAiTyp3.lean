/- The machine's operations on values of Lean's own types: what writes, what makes, what calls; a function's end. -/
import Derived.Test.YtdmhkkcihecndaaGreatAiTyp2
set_option linter.unusedVariables false
set_option linter.unusedSimpArgs false
namespace Go.AI
section
variable {C:aZ} {ow:FuncId→List Nat} {ev:Opd→V} {h:al} {n:Nat} {α:Type} {e:En α} {l l2:List α}
def snO (k:Option Blk) (b s q:Nat):Option (V×List Nat):=match k with
 |some k=>if k.op=false∧0<k.esz∧s+q=k.rows.length then some (.imm k.esz (k.rows.drop s),[b]) else none
 |none=>none
theorem b0t (b s q:Nat):nf h (.sl b s q)=snO (h b) b s q:=rfl
theorem b6O (m b q:Nat) (h0:Nat.blt 0 m=true) (hq:l.length=q):snO (some ⟨m,false,rws e l⟩) b 0 q=some (.imm m (rws e l),[b]):=by
 rw [Hm,decide_eq_true_eq] at h0
 simp [snO,rws,hq,h0]
theorem a8A (k:IntKind) (a:Int):nf h (.lit (.int k a))=some (.lit (.int k a),[]):=rfl
theorem a6N (a:Bool):nf h (.lit (.bool a))=some (.lit (.bool a),[]):=rfl
theorem a8K (a:List UInt8):nf h (S a)=some (S a,[]):=rfl
theorem a86:nf h (.lit (.slice none 0 0))=some (.lit (.slice none 0 0),[]):=rfl
theorem b1o (m:Nat) (r:List (List V)):nf h (.imm m r)=some (.imm m r,[]):=rfl
def snC:Option (V×List Nat)→Option (List V×List Nat)→Option (List V×List Nat)
 |some (a,bs),some (r,bs')=>some (a.cz::r,bs++bs')
 |_,_=>none
theorem a4m:jZ h []=some ([],[]):=rfl
theorem a28 (v:V) (r:List V):jZ h (v::r)=snC (nf h v) (jZ h r):=by
 simp only [jZ,snC]
 cases nf h v<;>cases jZ h r<;>rfl
theorem b1A (a:V) (bs:List Nat) (r:List V) (bs':List Nat):snC (some (a,bs)) (some (r,bs'))=some (a.cz::r,bs++bs'):=rfl
theorem b89 (k:IntKind) (a:Int):(V.lit (.int k a)).cz= .lit (.int k a):=rfl
theorem b3u (a:Bool):(V.lit (.bool a)).cz= .lit (.bool a):=rfl
theorem b8z (a:List UInt8):(S a).cz=S a:=rfl
theorem b5R (a:Array Value):(V.lit (.tuple a)).cz= .lit (.tuple a):=rfl
theorem b8G:(V.lit (.slice none 0 0)).cz= .imm 1 []:=rfl
theorem b7r (m:Nat):(V.imm m []).cz= .imm 1 []:=rfl
theorem b8s (b i o m:Nat):(V.ptr b i o m).cz= .ptr b i o m:=rfl
theorem b6W (b s q:Nat):(V.sl b s q).cz= .sl b s q:=rfl
theorem b2Y (r:List V) (o:Nat):(V.iptr r o).cz= .iptr r o:=rfl
theorem b9P (f:FuncId) (cs:List V):(V.fn f cs).cz= .fn f cs:=rfl
theorem a7B:V.undef.cz= .undef:=rfl
theorem b40 (cs:List V):(V.agg cs).czA= .agg (cs.map V.cz):=rfl
theorem b3V (k:IntKind) (a:Int):(V.lit (.int k a)).czA= .lit (.int k a):=rfl
theorem a7z (a:Bool):(V.lit (.bool a)).czA= .lit (.bool a):=rfl
theorem b3C (a:List UInt8):(S a).czA=S a:=rfl
theorem b38:(V.lit (.slice none 0 0)).czA= .imm 1 []:=rfl
theorem b3Y (m:Nat) (r:List (List V)):(V.imm m r).czA=(V.imm m r).cz:=rfl
theorem b2j (b i o m:Nat):(V.ptr b i o m).czA= .ptr b i o m:=rfl
theorem b1V (b s q:Nat):(V.sl b s q).czA= .sl b s q:=rfl
theorem a9N (r:List V) (o:Nat):(V.iptr r o).czA= .iptr r o:=rfl
theorem b85 (f:FuncId) (cs:List V):(V.fn f cs).czA= .fn f cs:=rfl
theorem a6G:V.undef.czA= .undef:=rfl
theorem b3J (cs:List V):(V.tup cs).czR= .tup (cs.map V.czA):=rfl
theorem b4T (cs:List V):(V.agg cs).czR= .agg (cs.map V.cz):=rfl
theorem b2x (k:IntKind) (a:Int):(V.lit (.int k a)).czR= .lit (.int k a):=rfl
theorem a8D (a:Bool):(V.lit (.bool a)).czR= .lit (.bool a):=rfl
theorem b29 (a:List UInt8):(S a).czR=S a:=rfl
theorem b4N:(V.lit (.slice none 0 0)).czR= .imm 1 []:=rfl
theorem b2e (m:Nat) (r:List (List V)):(V.imm m r).czR=(V.imm m r).cz:=rfl
theorem b41 (b i o m:Nat):(V.ptr b i o m).czR= .ptr b i o m:=rfl
theorem b30 (b s q:Nat):(V.sl b s q).czR= .sl b s q:=rfl
theorem a87 (r:List V) (o:Nat):(V.iptr r o).czR= .iptr r o:=rfl
theorem b86 (f:FuncId) (cs:List V):(V.fn f cs).czR= .fn f cs:=rfl
theorem a70 (m:Nat) (row:List V):Blk.cz ⟨m,true,[row]⟩=⟨m,true,[row.map V.cz]⟩:=rfl
theorem a9B (m:Nat) (r:List (List V)):Blk.cz ⟨m,false,r⟩=⟨m,false,r⟩:=rfl
theorem b8a (k:IntKind) (a:Int):zc (.int k a)= .lit (.int k a):=rfl
theorem b4Q (a:Bool):zc (.bool a)= .lit (.bool a):=rfl
theorem b5P (a:List UInt8):zc (.string ⟨⟨a⟩⟩)=S a:=rfl
theorem b6z:zc (.slice none 0 0)= .imm 1 []:=rfl
def stO (k:Option Blk) (b size i o m:Nat) (x:V) (h:al):Option (V×Upd):=match k with
 |some k=>if k.rows.length=m then (match k.rows[i]? with
  |some row=>
   if k.op then
    (if x.cells.length=size∧o+size≤row.length∧x.cells.all V.cell then
     some (.undef,[(b,{ k with rows:=k.rows.set i (row.take o++(x.cells++row.drop (o+size))) })]) else none)
   else match jZ h x.cells with
    |some (cs,bs)=>if cs.length=size∧o+size≤row.length∧ ¬b∈bs then
     some (.undef,fE bs++[(b,{ k with rows:=k.rows.set i (row.take o++(cs++row.drop (o+size))) })]) else none
    |none=>none
  |none=>none) else none
 |none=>none
def a1E (size:Nat) (a x:V) (h:al):Option (V×Upd):=match a with
 | .ptr b i o m=>stO (h b) b size i o m x h
 |_=>none
theorem b4d (size:Nat) (a x:Opd):ah C ow (.store size a x) ev h n=a1E size (ev a) (ev x) h:=by
 simp only [ah,a1E,stO]
 cases ev a with
 |ptr b i o m=>dsimp only;cases h b<;>rfl
 |_=>rfl
theorem a8j (size b i o m:Nat) (x:V):a1E size (.ptr b i o m) x h=stO (h b) b size i o m x h:=rfl
theorem a30 (m b size o:Nat) (row:List V) (x:V):stO (some ⟨m,true,[row]⟩) b size 0 o 1 x h=
 br (Nat.beq x.cells.length size&&(Nat.ble (o+size) row.length&&x.cells.all V.cell)) (some (.undef,[(b,⟨m,true,[row.take o++(x.cells++row.drop (o+size))]⟩)])) none:=by
 rw [Mg,Mz]
 by_cases h1:x.cells.length=size<;>by_cases h2:o+size≤row.length<;>cases h3:x.cells.all V.cell<;>simp [stO,h1,h2,h3,br]
def stT (r:List (List V)) (m b size i o:Nat) (row:List V):Option (List V×List Nat)→Option (V×Upd)
 |some (cs,bs)=>br (Nat.beq cs.length size&&(Nat.ble (o+size) row.length&& !bs.contains b)) (some (.undef,fE bs++[(b,⟨m,false,wS r i (row.take o++(cs++row.drop (o+size)))⟩)])) none
 |none=>none
theorem ZO (r:List (List V)) (m b size i o:Nat) (row cs:List V) (bs:List Nat):stT r m b size i o row (some (cs,bs))=
 br (Nat.beq cs.length size&&(Nat.ble (o+size) row.length&& !bs.contains b)) (some (.undef,fE bs++[(b,⟨m,false,wS r i (row.take o++(cs++row.drop (o+size)))⟩)])) none:=rfl
theorem b7A (m b size i o q:Nat) (x:V) (hq:l.length=q):stO (some ⟨m,false,rws e l⟩) b size i o q x h=(l[i]?).bind (fun y=>stT (rws e l) m b size i o (e.enc y) (jZ h x.cells)):=by
 simp only [stO]
 have:(rws e l).length=q:=by simp [rws,hq]
 rw [if_pos this]
 have h2:(rws e l)[i]? =(l[i]?).map e.enc:=by simp [rws]
 rw [h2]
 cases hl:l[i]? with
 |none=>rfl
 |some y=>
  simp only [Option.map_some,Option.bind_some]
  cases hs:jZ h x.cells with
  |none=>simp [stT]
  |some p=>
   obtain ⟨cs,bs⟩:=p
   rw [ZO,Mg,Mz]
   by_cases h1:cs.length=size<;>by_cases h2:o+size≤(e.enc y).length<;>by_cases h3:b∈bs<;>simp [h1,h2,h3,br,wS]
def psC (i:Nat):Option (List V×List Nat)→Option (List (Nat×V)×List Nat)→Option (List (Nat×V)×List Nat)
 |some (cs,bs),some (r',bs')=>some ((i,.agg cs)::r',bs++bs')
 |_,_=>none
theorem QP:cI h ev []=some ([],[]):=rfl
theorem OX (i:Nat) (x:Opd) (r:List (Nat×Opd)):cI h ev ((i,x)::r)=psC i (jZ h (ev x).cells) (cI h ev r):=by
 simp only [cI,psC]
 cases jZ h (ev x).cells<;>cases cI h ev r<;>rfl
theorem a7b (i:Nat) (cs:List V) (bs:List Nat) (r:List (Nat×V)) (bs':List Nat):psC i (some (cs,bs)) (some (r,bs'))=some ((i,.agg cs)::r,bs++bs'):=rfl
def Jg (esz:Nat) (rows:List (List V)):List (Nat×V)→Option (List (List V))
 |[]=>some rows
 | (i,v)::r=>br (Nat.beq v.cells.length esz&&(Nat.blt i rows.length&&v.cells.all V.cell)) (Jg esz (rows.set i v.cells) r) none
theorem Yb (esz:Nat): ∀(ps:List (Nat×V)) (rows:List (List V)),Qf esz rows ps=Jg esz rows ps
 |[],_=>rfl
 | (i,v)::r,rows=>by
   simp only [Qf,Jg,Mg,Hm]
   rw [←Yb esz r]
   by_cases h1:v.cells.length=esz<;>by_cases h2:i<rows.length<;>cases h3:v.cells.all V.cell<;>simp [h1,h2,br]
def a27 (u0:Upd):Option (V×Upd)→Option (V×Upd)
 |some (v,u)=>some (v,u0++u)
 |none=>none
theorem a61 (u0 u:Upd) (v:V):a27 u0 (some (v,u))=some (v,u0++u):=rfl
theorem b43 (u0:Upd) (c:Bool) (x y:Option (V×Upd)):a27 u0 (br c x y)=br c (a27 u0 x) (a27 u0 y):=by cases c<;>rfl
theorem a6J (u0:Upd):a27 u0 none=none:=rfl
def bsR (esz len:Nat) (zero:List Value) (bs:List Nat) (h:al) (n:Nat):Option (List (List V))→Option (V×Upd)
 |some rows=>br (Nat.beq zero.length esz&&(zero.all aQ&&(Nat.ble (len*esz) 16777216&& !bs.contains n))) (a27 (fE bs) (frO (h n) n ⟨esz,false,mkR n rows⟩ (.sl n 0 len))) none
 |none=>none
def bsS (esz len:Nat) (zero:List Value) (h:al) (n:Nat):Option (List (Nat×V)×List Nat)→Option (V×Upd)
 |some (ps,bs)=>bsR esz len zero bs h n (Jg esz (List.replicate len (zero.map zc)) ps)
 |none=>none
theorem Ur (esz len:Nat) (zero:List Value) (ps:List (Nat×Opd)):ah C ow (.buildSlice esz zero len ps) ev h n=bsS esz len zero h n (cI h ev ps):=by
 simp only [ah,bsS,Yb,xE]
 cases cI h ev ps with
 |none=>rfl
 |some p=>
  obtain ⟨qs,bs⟩:=p
  dsimp only
  cases Jg esz (List.replicate len (zero.map zc)) qs with
  |none=>rfl
  |some rows=>
   simp only [bsR,Mg,Mz,mkR]
   by_cases h1:zero.length=esz<;>cases h2:zero.all aQ<;>by_cases h3:len*esz≤16777216<;>by_cases h4:n∈bs<;>simp [h1,h3,h4,br]
   cases frO (h n) n ⟨esz,false,rows⟩ (.sl n 0 len)<;>rfl
theorem a9W (esz len:Nat) (zero:List Value) (ps:List (Nat×V)) (bs:List Nat):bsS esz len zero h n (some (ps,bs))=bsR esz len zero bs h n (Jg esz (List.replicate len (zero.map zc)) ps):=rfl
theorem a7g (esz len:Nat) (zero:List Value) (bs:List Nat) (rows:List (List V)):bsR esz len zero bs h n (some rows)=br (Nat.beq zero.length esz&&(zero.all aQ&&(Nat.ble (len*esz) 16777216&& !bs.contains n))) (a27 (fE bs) (frO (h n) n ⟨esz,false,mkR n rows⟩ (.sl n 0 len))) none:=rfl
def tbS (x:V) (h:al) (n:Nat):Option (V×Upd):=match x with
 | .lit (.string s)=>if s.size≤bx then ky h n ⟨1,false,s.data.toList.map fun b=>[.lit (.int .u8 b.toNat)]⟩ (.sl n 0 s.size) else none
 |_=>none
theorem a6M (x:Opd):ah C ow (.toBytes x) ev h n=tbS (ev x) h n:=rfl
theorem b9u (s:List UInt8):tbS (S s) h n=br (bE s.length 1) (frO (h n) n ⟨1,false,rws eU8 s⟩ (.sl n 0 s.length)) none:=by
 simp only [tbS,VS,bE,Nat.mul_one,xE]
 by_cases h1:s.length≤bx<;>simp [h1,br]
 rfl
def boS (x:V) (h:al):Option (V×Upd):=match x with
 | .sl b s n=>match h b with
   |some k=>if k.op=false∧0<k.esz∧s+n=k.rows.length∧0<n then some (.sl b s n,[(b,k)]) else none
   |none=>none
 |_=>none
theorem a26 (x:Opd):ah C ow (.bytesOwn x) ev h n=boS (ev x) h:=rfl
def boO (k:Option Blk) (b s n:Nat):Option (V×Upd):=match k with
 |some k=>if k.op=false∧0<k.esz∧s+n=k.rows.length∧0<n then some (.sl b s n,[(b,k)]) else none
 |none=>none
theorem b55 (b s q:Nat):boS (.sl b s q) h=boO (h b) b s q:=rfl
theorem b8J (b m q:Nat) (h0:Nat.blt 0 m=true) (hq:l.length=q):boO (some ⟨m,false,rws e l⟩) b 0 q=br (decide (0<q)) (some (.sl b 0 q,[(b,⟨m,false,rws e l⟩)])) none:=by
 rw [Hm,decide_eq_true_eq] at h0
 by_cases h1:0<q<;>simp [boO,rws,hq,h0,h1,br]
theorem Zr (l:List UInt8):ah.bytesOf (rws eU8 l)=some l:=by
 induction l with
 |nil=>rfl
 |cons b l ih=>
  simp only [rws,List.map_cons,eU8] at ih ⊢
  simp only [ah.bytesOf]
  have h1:(0:Int)≤(b.toNat:Int)∧(b.toNat:Int)<256:=⟨by omega,by have:=b.toNat_lt;omega⟩
  rw [if_pos h1,ih]
  simp
def tsR:Option (List (List V))→Option (V×Upd)
 |some rows=>match ah.bytesOf rows with
  |some l=>some (.lit (.string ⟨l.toArray⟩),[])
  |none=>none
 |none=>none
def tsS (x:V) (h:al):Option (V×Upd):=br (a3t x) none (tsR (cA h 1 x))
theorem b2h (x:Opd):ah C ow (.toStr x) ev h n=tsS (ev x) h:=by
 simp only [ah,tsS,tsR]
 cases a3t (ev x)
 ·simp only [Bool.false_eq_true,if_false,aw]
  cases cA h 1 (ev x)<;>rfl
 ·rfl
theorem a8x (l:List UInt8):tsR (some (rws eU8 l))=some (S l,[]):=by
 simp only [tsR,Zr]
theorem b72 (l:List UInt8):tsS (sl eU8 l) h=some (S l,[]):=by
 rw [tsS,Zk,aw,T3 1 rfl,a8x]
def roO (k:Option Blk) (m s q:Nat):Option (List (List V)):=match k with
 |some k=>if k.op=false∧0<k.esz∧k.esz=m∧s+q=k.rows.length then some (k.rows.drop s) else none
 |none=>none
theorem a1N (m b s q:Nat):cA h m (.sl b s q)=roO (h b) m s q:=rfl
theorem b7N (m q:Nat) (h0:Nat.blt 0 m=true) (hq:l.length=q):roO (some ⟨m,false,rws e l⟩) m 0 q=some (rws e l):=by
 rw [Hm,decide_eq_true_eq] at h0
 simp [roO,rws,hq,h0]
theorem a2R (s:List UInt8):cA h 1 (S s)=some (rws eU8 s):=rfl
theorem b2W (b s q:Nat):tsS (.sl b s q) h=tsR (roO (h b) 1 s q):=rfl
theorem b4R:tsS (.lit (.slice none 0 0)) h=some (S [],[]):=rfl
theorem b1T:tsS (.imm 1 []) h=some (S [],[]):=rfl
def b7q (esz bytes:Nat) (zero:List Value) (len cap:V) (h:al) (n:Nat):Option (V×Upd):=match asI len,asI cap with
 |some l,some c=>if 0≤l∧l≤c∧c*bytes≤bx∧c*esz≤bx∧zero.length=esz∧zero.all aQ then
  ky h n ⟨esz,false,List.replicate l.toNat (zero.map zc)⟩ (.sl n 0 l.toNat) else none
 |_,_=>none
theorem a0n (esz bytes:Nat) (zero:List Value) (len cap:Opd):ah C ow (.makeSlice esz bytes zero len cap) ev h n=b7q esz bytes zero (ev len) (ev cap) h n:=rfl
theorem b6q (esz bytes:Nat) (zero:List Value) (k k':IntKind) (a c:Int) (hb:Nat.ble esz bytes=true) (hz:Nat.beq zero.length esz=true) (hz2:zero.all aQ=true):
 b7q esz bytes zero (.lit (.int k a)) (.lit (.int k' c)) h n=br (xU a c bytes) (frO (h n) n ⟨esz,false,Bh n a.toNat (zero.map zc)⟩ (.sl n 0 (a3z (Bh n a.toNat (zero.map zc))))) none:=by
 have hz3:=Nat.eq_of_beq_eq_true hz
 have hb2:=Nat.le_of_ble_eq_true hb
 simp only [b7q,asI,xU,hz3,hz2,xE,Bh,a3z,List.length_replicate]
 by_cases h1:0≤a<;>by_cases h2:a≤c<;>by_cases h3:c*bytes≤bx<;>simp [h1,h2,h3,br]
 intro h4
 exfalso
 have:c*esz≤c*bytes:=Int.mul_le_mul_of_nonneg_left (by omega) (by omega)
 omega
def slS (esz:Nat) (x:V) (lo hi mx:Option V) (h:al):Option (V×Upd):=match mx with
 |some _=>none
 |none=>match x with
  | .lit (.slice none 0 0)=>match bP hi 0 0 with
    |some q=>match bP lo 0 q with
     |some _=>some (.lit (.slice none 0 0),[])
     |none=>none
    |none=>none
  | .sl b s n=>match h b with
    |some k=>if k.op=false∧0<k.esz∧k.esz=esz∧s+n=k.rows.length then (match bP hi n n with
     |some q=>match bP lo 0 q with
      |some p=>if q=n then some (.sl b (s+p) (n-p),[]) else some ((V.imm esz (((k.rows.drop s).take q).drop p)).cz,[(b,jR)])
      |none=>none
     |none=>none) else none
    |none=>none
  | .imm e rows=>if e=esz∨rows=[] then (match bP hi rows.length rows.length with
   |some q=>match bP lo 0 q with
    |some p=>some ((V.imm e ((rows.take q).drop p)).cz,[])
    |none=>none
   |none=>none) else none
  |_=>none
theorem b3l (esz:Nat) (x:Opd) (lo hi:Option Opd):ah C ow (.slice esz x lo hi none) ev h n=slS esz (ev x) (lo.map ev) (hi.map ev) none h:=rfl
theorem Cz (d m:Nat):bP none d m=some d:=rfl
theorem zw (k:IntKind) (i:Int) (d m:Nat):bP (some (.lit (.int k i))) d m=if 0≤i∧i≤m then some i.toNat else none:=rfl
theorem UH (m:Nat) (hm:e.esz=m) (lo hi:Option V):slS m (sl e l) lo hi none h=(match bP hi l.length l.length with
 |some q=>match bP lo 0 q with
  |some p=>some (sl e ((l.take q).drop p),[])
  |none=>none
 |none=>none):=by
 subst hm
 rcases j5 e l with ⟨rfl,hs⟩|⟨hne,hs⟩
 ·rw [hs]
  simp only [slS,List.length_nil,or_true,if_true]
  cases bP hi 0 0 with
  |none=>rfl
  |some q=>cases bP lo 0 q<;>simp [b66,V.cz]
 ·rw [hs]
  simp only [slS,true_or,if_true,rws,List.length_map]
  cases bP hi l.length l.length with
  |none=>rfl
  |some q=>cases bP lo 0 q<;>simp [sl,rws, ←List.map_take, ←List.map_drop]
theorem b65 (m:Nat) (hm:e.esz=m) (k:IntKind) (a:Int):slS m (sl e l) (some (.lit (.int k a))) none none h=(jO l a l.length).bind (fun l'=>some (sl e l',[])):=by
 rw [UH m hm]
 simp only [Cz,zw,jO]
 by_cases h1:0≤a<;>by_cases h2:a≤(l.length:Int)<;>simp [h1,h2]
theorem b5N (m:Nat) (hm:e.esz=m) (k:IntKind) (b:Int):slS m (sl e l) none (some (.lit (.int k b))) none h=(jO l 0 b).bind (fun l'=>some (sl e l',[])):=by
 rw [UH m hm]
 simp only [Cz,zw,jO]
 by_cases h1:0≤b<;>by_cases h2:b≤(l.length:Int)<;>simp [h1,h2]
theorem b6j (m:Nat) (hm:e.esz=m) (k k':IntKind) (a b:Int):slS m (sl e l) (some (.lit (.int k a))) (some (.lit (.int k' b))) none h=(jO l a b).bind (fun l'=>some (sl e l',[])):=by
 rw [UH m hm]
 simp only [zw,jO]
 by_cases h1:0≤b<;>by_cases h2:b≤(l.length:Int)<;>by_cases h3:0≤a<;>by_cases h4:a≤b
 all_goals (have e1:((b.toNat:Nat):Int)=b∨ ¬0≤b:=by omega)
 all_goals (rcases e1 with e1|e1)
 all_goals (first|omega| (simp [h1,h2,h3,h4,e1];try omega))
def slO (k:Option Blk) (m b s q:Nat) (a:Int):Option (V×Upd):=match k with
 |some k=>if k.op=false∧0<k.esz∧k.esz=m∧s+q=k.rows.length then (if 0≤a∧a≤q then some (.sl b (s+a.toNat) (q-a.toNat),[]) else none) else none
 |none=>none
theorem b2J (m b s q:Nat) (k:IntKind) (a:Int):slS m (.sl b s q) (some (.lit (.int k a))) none none h=slO (h b) m b s q a:=by
 simp only [slS,slO,Cz,zw]
 cases h b with
 |none=>rfl
 |some k=>
  dsimp only
  split
  ·by_cases hc:0≤a∧a≤(q:Int)
   ·rw [if_pos hc,if_pos hc];simp
   ·rw [if_neg hc,if_neg hc]
  ·rfl
theorem b6w (m b s q:Nat) (a:Int) (h0:Nat.blt 0 m=true) (hq:s+q=l.length):slO (some ⟨m,false,rws e l⟩) m b s q a=br (decide (0≤a)&&decide (a≤q)) (some (.sl b (s+a.toNat) (q-a.toNat),[])) none:=by
 rw [Hm,decide_eq_true_eq] at h0
 by_cases h1:0≤a<;>by_cases h2:a≤(q:Int)<;>simp [slO,rws,hq,h0,h1,h2,br]
def ssS (x:V) (lo hi:Option V):Option (V×Upd):=match x with
 | .lit (.string s)=>match bP hi s.size s.size with
   |some b=>match bP lo 0 b with
    |some a=>some (.lit (.string (s.extract a b)),[])
    |none=>none
   |none=>none
 |_=>none
theorem a1i (x:Opd) (lo hi:Option Opd):ah C ow (.sliceStr x lo hi) ev h n=ssS (ev x) (lo.map ev) (hi.map ev):=rfl
theorem a1A (s:List UInt8) (a b:Nat):(⟨⟨s⟩⟩:ByteArray).extract a b=⟨⟨(s.take b).drop a⟩⟩:=by
 apply ByteArray.ext
 rw [ByteArray.data_extract]
 apply Array.ext'
 simp [List.extract_eq_take_drop,List.drop_take]
theorem Xd (s:List UInt8) (lo hi:Option V):ssS (S s) lo hi=(match bP hi s.length s.length with
 |some q=>match bP lo 0 q with
  |some p=>some (S ((s.take q).drop p),[])
  |none=>none
 |none=>none):=by
 simp only [ssS,VS,a1A]
theorem b7H (s:List UInt8) (k:IntKind) (a:Int):ssS (S s) (some (.lit (.int k a))) none=(jO s a s.length).bind (fun l'=>some (S l',[])):=by
 rw [Xd]
 simp only [Cz,zw,jO]
 by_cases h1:0≤a<;>by_cases h2:a≤(s.length:Int)<;>simp [h1,h2]
theorem b84 (s:List UInt8) (k:IntKind) (b:Int):ssS (S s) none (some (.lit (.int k b)))=(jO s 0 b).bind (fun l'=>some (S l',[])):=by
 rw [Xd]
 simp only [Cz,zw,jO]
 by_cases h1:0≤b<;>by_cases h2:b≤(s.length:Int)<;>simp [h1,h2]
theorem b69 (s:List UInt8) (k k':IntKind) (a b:Int):ssS (S s) (some (.lit (.int k a))) (some (.lit (.int k' b)))=(jO s a b).bind (fun l'=>some (S l',[])):=by
 rw [Xd]
 simp only [zw,jO]
 by_cases h1:0≤b<;>by_cases h2:b≤(s.length:Int)<;>by_cases h3:0≤a<;>by_cases h4:a≤b
 all_goals (have e1:((b.toNat:Nat):Int)=b∨ ¬0≤b:=by omega)
 all_goals (rcases e1 with e1|e1)
 all_goals (first|omega| (simp [h1,h2,h3,h4,e1];try omega))
def apS (esz bytes:Nat) (zero:List Value) (x y:V) (h:al) (n:Nat):Option (List (List V))→Option (V×Upd)
 |none=>none
 |some new_=>if zero.length=esz∧0<esz∧new_.length*bytes≤bx∧new_.length*esz≤bx then
  (match x with
  | .sl b 0 n=>match h b with
    |some k=>if k.op=false∧0<k.esz∧k.esz=esz∧n=k.rows.length∧(n+new_.length)*bytes≤bx∧(n+new_.length)*esz≤bx∧ah.selfOk b y then
     some (.sl b 0 (n+new_.length),[(b,{ k with rows:=k.rows++new_ })]) else none
    |none=>none
  | .lit (.slice none 0 0)=>ky h n ⟨esz,false,new_⟩ (.sl n 0 new_.length)
  | .imm 0 []=>ky h n ⟨esz,false,new_⟩ (.sl n 0 new_.length)
  |_=>none) else none
theorem b0h (esz bytes:Nat) (zero:List Value) (x y:Opd):ah C ow (.append esz bytes zero x y) ev h n=apS esz bytes zero (ev x) (ev y) h n (cA h esz (ev y)):=by
 simp only [ah]
 cases cA h esz (ev y) with
 |none=>rfl
 |some r=>rfl
def Ev (b:Nat) (y:V):Bool:=ah.selfOk b y
theorem b0i (b:Nat):Ev b (sl e l)=true:=by
 rcases j5 e l with ⟨_,h⟩|⟨_,h⟩<;>rw [h]<;>rfl
theorem a5i (b b' s q:Nat):Ev b (.sl b' s q)=(b !=b'):=rfl
theorem a5Y (b:Nat) (s:List UInt8):Ev b (S s)=true:=rfl
theorem a60 (b:Nat):Ev b (.lit (.slice none 0 0))=true:=rfl
theorem a4a (b m:Nat) (r:List (List V)):Ev b (.imm m r)=true:=rfl
def apO (k:Option Blk) (esz bytes:Nat) (zero:List Value) (b q:Nat) (sb:Bool) (new_:List (List V)):Option (V×Upd):=match k with
 |some k=>if zero.length=esz∧0<esz∧new_.length*bytes≤bx∧new_.length*esz≤bx then
  (if k.op=false∧0<k.esz∧k.esz=esz∧q=k.rows.length∧(q+new_.length)*bytes≤bx∧(q+new_.length)*esz≤bx∧sb=true then
        some (.sl b 0 (q+new_.length),[(b,{ k with rows:=k.rows++new_ })]) else none) else none
 |none=>none
theorem b2H (esz bytes:Nat) (zero:List Value) (b q:Nat) (y:V) (new_:List (List V)):apS esz bytes zero (.sl b 0 q) y h n (some new_)=apO (h b) esz bytes zero b q (Ev b y) new_:=by
 simp only [apS,apO,Ev]
 cases h b with
 |none=>simp
 |some k=>rfl
theorem b5G (m bytes:Nat) (zero:List Value) (b q:Nat) (sb:Bool) (hz:Nat.beq zero.length m=true) (h0:Nat.blt 0 m=true) (hb:Nat.ble m bytes=true) (hq:l.length=q) (hs:sb=true):
 apO (some ⟨m,false,rws e l⟩) m bytes zero b q sb (rws e l2)=br (bE (l++l2).length bytes) (some (.sl b 0 (l++l2).length,[(b,⟨m,false,rws e (l++l2)⟩)])) none:=by
 have hz3:=Nat.eq_of_beq_eq_true hz
 have hb2:=Nat.le_of_ble_eq_true hb
 rw [Hm,decide_eq_true_eq] at h0
 subst hs hq
 simp only [apO,bE,rws,List.length_map,List.length_append,List.map_append]
 have e1:(l.length+l2.length)*m≤(l.length+l2.length)*bytes:=Nat.mul_le_mul_left _ hb2
 have e2:l2.length*bytes≤(l.length+l2.length)*bytes:=Nat.mul_le_mul_right _ (by omega)
 have e3:l2.length*m≤l2.length*bytes:=Nat.mul_le_mul_left _ hb2
 by_cases hf:(l.length+l2.length)*bytes≤bx
 ·rw [if_pos ⟨hz3,h0,by omega,by omega⟩,if_pos ⟨by trivial,h0,by trivial,by trivial,hf,by omega,by trivial⟩,decide_eq_true hf,bF]
 ·rw [decide_eq_false hf,aw]
  split
  ·rw [if_neg (fun hc=>hf hc.2.2.2.2.1)]
  ·rfl
theorem b4b (m bytes:Nat) (zero:List Value) (y:V) (hz:Nat.beq zero.length m=true) (h0:Nat.blt 0 m=true) (hb:Nat.ble m bytes=true):
 apS m bytes zero (.lit (.slice none 0 0)) y h n (some (rws e l2))=br (bE l2.length bytes) (frO (h n) n ⟨m,false,rws e l2⟩ (.sl n 0 l2.length)) none:=by
 have hz3:=Nat.eq_of_beq_eq_true hz
 have hb2:=Nat.le_of_ble_eq_true hb
 rw [Hm,decide_eq_true_eq] at h0
 simp only [apS,bE,xE]
 have hl:(rws e l2).length=l2.length:=by simp [rws]
 rw [hl]
 have e3:l2.length*m≤l2.length*bytes:=Nat.mul_le_mul_left _ hb2
 by_cases hf:l2.length*bytes≤bx
 ·rw [if_pos ⟨hz3,h0,hf,by omega⟩,decide_eq_true hf,bF]
 ·rw [decide_eq_false hf,aw,if_neg (fun hc=>hf hc.2.2.1)]
def xk (l:List α) (s k:Nat) (l2:List α):List α:=l.take s++(l2.take k++l.drop (s+k))
def b7u (esz bytes:Nat) (zero:List Value) (x y:V) (h:al) (n:Nat):Option (V×Upd):=match asI y with
 |some l=>if 0≤l∧l≤1099511627776∧l*bytes≤1099511627776∧zero.all aQ then GX esz bytes zero x (fun _=>true) h n (List.replicate l.toNat (zero.map zc)) else none
 |none=>none
theorem a4J (esz bytes:Nat) (zero:List Value) (x y:Opd):ah C ow (.appendN esz bytes zero x y) ev h n=b7u esz bytes zero (ev x) (ev y) h n:=rfl
theorem a9t (m bytes:Nat) (zero:List Value) (b q:Nat) (k:IntKind) (a:Int) (hz2:zero.all aQ=true):
 b7u m bytes zero (.sl b 0 q) (.lit (.int k a)) h n=br (xU a a bytes&&decide (a≤1099511627776)) (apO (h b) m bytes zero b q true (Bh n a.toNat (zero.map zc))) none:=by
 simp only [b7u,asI,xU,hz2,Bh,bx]
 by_cases h1:0≤a<;>by_cases h2:a*bytes≤1099511627776<;>by_cases h3:a≤1099511627776<;>simp [h1,h2,h3,br]
 simp only [GX,apO]
 cases h b with
 |none=>simp
 |some kk=>rfl
def cpS (esz:Nat) (x y:V) (h:al):Option (List (List V))→Option (V×Upd)
 |some rows=>match x with
  | .sl b s n=>match h b with
    |some k=>if k.op=false∧0<k.esz∧k.esz=esz∧s+n=k.rows.length∧ah.selfOk b y then
     some (.lit (.int .i64 (min rows.length n)),[(b,{ k with rows:=k.rows.take s++(rows.take (min rows.length n)++k.rows.drop (s+min rows.length n)) })]) else none
    |none=>none
  |_=>none
 |none=>none
theorem b7h (esz:Nat) (x y:Opd):ah C ow (.copy esz x y) ev h n=cpS esz (ev x) (ev y) h (cA h esz (ev y)):=by
 simp only [ah,cpS]
 cases cA h esz (ev y) with
 |none=>rfl
 |some r=>cases ev x<;>rfl
def cpO (k:Option Blk) (esz b s q:Nat) (sb:Bool) (rows:List (List V)):Option (V×Upd):=match k with
 |some k=>if k.op=false∧0<k.esz∧k.esz=esz∧s+q=k.rows.length∧sb=true then
  some (.lit (.int .i64 (min rows.length q)),[(b,{ k with rows:=k.rows.take s++(rows.take (min rows.length q)++k.rows.drop (s+min rows.length q)) })]) else none
 |none=>none
theorem b2M (esz b s q:Nat) (y:V) (rows:List (List V)):cpS esz (.sl b s q) y h (some rows)=cpO (h b) esz b s q (Ev b y) rows:=by
 simp only [cpS,cpO,Ev]
 cases h b<;>rfl
theorem b8l (m b s q:Nat) (sb:Bool) (h0:Nat.blt 0 m=true) (hs:sb=true):cpO (some ⟨m,false,rws e l⟩) m b s q sb (rws e l2)=
 br (decide (s+q=l.length)) (some (I (min (l2.length:Int) (q:Int)),[(b,⟨m,false,rws e (xk l s (min l2.length q) l2)⟩)])) none:=by
 rw [Hm,decide_eq_true_eq] at h0
 subst hs
 simp only [cpO]
 by_cases hq:s+q=l.length
 ·rw [if_pos ⟨by trivial,h0,by trivial,by simp [rws,hq],by trivial⟩,decide_eq_true hq,bF]
  simp [rws,xk,List.map_take,List.map_drop]
 ·rw [decide_eq_false hq,aw,if_neg (fun hc=>hq (by simpa [rws] using hc.2.2.2.1))]
def ncS (x:V) (h:al):Option (V×Upd):=match x with
 | .ptr b i o n=>match h b with
   |some k=>if k.rows.length=n∧i<n then some (.ptr b i o n,[]) else none
   |none=>none
 | .iptr r o=>some (.iptr r o,[])
 | .fn f c=>some (.fn f c,[])
 |_=>none
theorem a0V (x:Opd):ah C ow (.nilCheck x) ev h n=ncS (ev x) h:=by
 simp only [ah,ncS]
 cases ev x<;>rfl
def ncO (k:Option Blk) (b i o m:Nat):Option (V×Upd):=match k with
 |some k=>if k.rows.length=m∧i<m then some (.ptr b i o m,[]) else none
 |none=>none
theorem b9b (b i o m:Nat):ncS (.ptr b i o m) h=ncO (h b) b i o m:=rfl
theorem b6S (b o m:Nat) (row:List V):ncO (some ⟨m,true,[row]⟩) b 0 o 1=some (.ptr b 0 o 1,[]):=rfl
theorem b9z (r:List V) (o:Nat):ncS (.iptr r o) h=some (.iptr r o,[]):=rfl
theorem c0k (f:FuncId) (c:List V):ncS (.fn f c) h=some (.fn f c,[]):=rfl
def mxS (x y:V):Option (V×Upd):=match x,y with
 | .lit (.int k a),.lit (.int _ b)=>some (.lit (.int k (if b>a then b else a)),[])
 |_,_=>none
theorem b6K (x y:Opd):ah C ow (.max2 x y) ev h n=mxS (ev x) (ev y):=by
 simp only [ah,mxS]
 cases ev x<;>cases ev y<;>rfl
theorem b9Q (k k':IntKind) (a b:Int):mxS (.lit (.int k a)) (.lit (.int k' b))=some (.lit (.int k (mx a b)),[]):=rfl
def mnS (x y:V):Option (V×Upd):=match x,y with
 | .lit (.int k a),.lit (.int _ b)=>some (.lit (.int k (if b<a then b else a)),[])
 |_,_=>none
theorem b6a (x y:Opd):ah C ow (.min2 x y) ev h n=mnS (ev x) (ev y):=by
 simp only [ah,mnS]
 cases ev x<;>cases ev y<;>rfl
theorem b8R (k k':IntKind) (a b:Int):mnS (.lit (.int k a)) (.lit (.int k' b))=some (.lit (.int k (mn a b)),[]):=rfl
def IN (h:al) (new:Nat) (ids bor:List Nat):Option (V×List Blk)→Option (V×Upd)
 |some (r,bs)=>xy h new ids bor r bs
 |none=>none
def Jp (C:aZ) (ow:FuncId→List Nat) (h:al) (new:Nat) (f:FuncId):Option (List V×List Blk×List Nat×List Nat)→Option (V×Upd)
 |some (args',blks,ids,bor)=>IN h new ids bor (C f (pG (ow f) args') (qa (ow f) blks))
 |none=>none
theorem TT (f:FuncId) (args:List V):ku C ow h n f args=Jp C ow h n f (cX ow h f args):=by
 unfold ku Jp IN
 cases cX ow h f args with
 |none=>rfl
 |some p=>obtain ⟨a,b,c,d⟩:=p;dsimp only;cases C f (pG (ow f) a) (qa (ow f) b)<;>rfl
theorem b6C (f:FuncId) (args:List Opd):ah C ow (.call f args) ev h n=Jp C ow h n f (cX ow h f (args.map ev)):=TT _ _
def b8K (C:aZ) (ow:FuncId→List Nat) (h:al) (n:Nat) (args:List V):V→Option (V×Upd)
 | .fn k caps=>Jp C ow h n k (cX ow h k (args++caps))
 |_=>none
theorem b9o (f:Opd) (args:List Opd):ah C ow (.dyn f args) ev h n=b8K C ow h n (args.map ev) (ev f):=by
 simp only [ah,b8K]
 cases ev f<;>first|rfl|exact TT _ _
theorem b4c (args:List V) (k:FuncId) (caps:List V):b8K C ow h n args (.fn k caps)=Jp C ow h n k (cX ow h k (args++caps)):=rfl
theorem a0W (f:FuncId) (a:List V) (b:List Blk) (c d:List Nat):Jp C ow h n f (some (a,b,c,d))=IN h n c d (C f (pG (ow f) a) (qa (ow f) b)):=rfl
theorem b1C (f:FuncId) (c:Bool) (x y:Option (List V×List Blk×List Nat×List Nat)):Jp C ow h n f (br c x y)=br c (Jp C ow h n f x) (Jp C ow h n f y):=by cases c<;>rfl
def a3I (args':List V) (bor:List Nat):Option (List Blk×List Nat)→Option (List V×List Blk×List Nat×List Nat)
 |some (blks,ids)=>br (bor.any (fun b=>decide (b∈ids))) none (some (args',blks,ids,bor))
 |none=>none
def a7A (h:al):Option (List V×List Nat×List Nat)→Option (List V×List Blk×List Nat×List Nat)
 |some (args',ids0,bor)=>a3I args' bor (dt h 40 0 ids0)
 |none=>none
theorem a0o (f:FuncId) (args:List V):cX ow h f args=a7A h (gy h (ow f) 0 [] args):=by
 unfold cX a7A a3I
 cases gy h (ow f) 0 [] args with
 |none=>rfl
 |some p=>
  obtain ⟨a,i,b⟩:=p
  dsimp only
  cases dt h 40 0 i with
  |none=>rfl
  |some q=>
   obtain ⟨bl,ids⟩:=q
   dsimp only
   cases hb:b.any (fun b=>decide (b∈ids))<;>simp [br]
theorem a2F (a:List V) (i b:List Nat):a7A h (some (a,i,b))=a3I a b (dt h 40 0 i):=rfl
theorem a1M (a:List V) (b:List Nat) (bl:List Blk) (ids:List Nat):a3I a b (some (bl,ids))=br (b.any (fun b=>decide (b∈ids))) none (some (a,bl,ids,b)):=rfl
def la2 (v':V) (bs:List Nat):Option (List V×List Nat×List Nat)→Option (List V×List Nat×List Nat)
 |some (r',ids'',bs')=>some (v'::r',ids'',bs++bs')
 |none=>none
def la1 (h:al) (owns:List Nat) (j:Nat) (r:List V):Option (V×List Nat×List Nat)→Option (List V×List Nat×List Nat)
 |some (v',ids',bs)=>la2 v' bs (gy h owns (j+1) ids' r)
 |none=>none
theorem YM (owns:List Nat) (j:Nat) (ids:List Nat):gy h owns j ids []=some ([],ids,[]):=rfl
theorem TZ (owns:List Nat) (j:Nat) (ids:List Nat) (v:V) (r:List V):gy h owns j ids (v::r)=la1 h owns j r (dq h (owns.contains j) ids v):=by
 have:decide (j∈owns)=owns.contains j:=by simp [List.contains_iff_mem,Bool.eq_iff_iff]
 simp only [gy,la1,la2,this]
 cases dq h (owns.contains j) ids v with
 |none=>rfl
 |some p=>obtain ⟨a,b,c⟩:=p;dsimp only;cases gy h owns (j+1) b r<;>rfl
theorem a8v (owns:List Nat) (j:Nat) (r:List V) (v':V) (ids' bs:List Nat):la1 h owns j r (some (v',ids',bs))=la2 v' bs (gy h owns (j+1) ids' r):=rfl
theorem a7u (v':V) (bs:List Nat) (r':List V) (i b:List Nat):la2 v' bs (some (r',i,b))=some (v'::r',i,bs++b):=rfl
def lcP (k:Option Blk) (ids:List Nat) (b i o m:Nat):Option (V×List Nat×List Nat):=match k with
 |some k=>if k.rows.length=m then some (.ptr (lO b (gp ids b)) i o m,gp ids b,[]) else none
 |none=>none
def lcO (k:Option Blk) (own:Bool) (ids:List Nat) (b s q:Nat):Option (V×List Nat×List Nat):=match k with
 |some k=>if s+q=k.rows.length then
  (if own then some (.sl (lO b (gp ids b)) s q,gp ids b,[]) else if k.op=false∧0<k.esz then some (.imm k.esz (k.rows.drop s),ids,[b]) else none) else none
 |none=>none
theorem a9Y (own:Bool) (ids:List Nat) (v:Value):cp h own ids (.lit v)=some (.lit v,ids,[]):=rfl
theorem b7c (own:Bool) (ids:List Nat) (m:Nat) (r:List (List V)):cp h own ids (.imm m r)=some (.imm m r,ids,[]):=rfl
theorem b2T (own:Bool) (ids:List Nat) (r:List V) (o:Nat):cp h own ids (.iptr r o)=some (.iptr r o,ids,[]):=rfl
theorem b9k (own:Bool) (ids:List Nat) (f:FuncId):cp h own ids (.fn f [])=some (.fn f [],ids,[]):=rfl
theorem b0S (own:Bool) (ids:List Nat):cp h own ids .undef=some (.undef,ids,[]):=rfl
theorem b6n (own:Bool) (ids:List Nat) (b i o m:Nat):cp h own ids (.ptr b i o m)=lcP (h b) ids b i o m:=rfl
theorem b8O (own:Bool) (ids:List Nat) (b s q:Nat):cp h own ids (.sl b s q)=lcO (h b) own ids b s q:=rfl
theorem b1i (own:Bool) (ids:List Nat) (v:Value):dq h own ids (.lit v)=some (.lit v,ids,[]):=rfl
theorem b6e (own:Bool) (ids:List Nat) (m:Nat) (r:List (List V)):dq h own ids (.imm m r)=some (.imm m r,ids,[]):=rfl
theorem b2I (own:Bool) (ids:List Nat) (r:List V) (o:Nat):dq h own ids (.iptr r o)=some (.iptr r o,ids,[]):=rfl
theorem b6c (own:Bool) (ids:List Nat) (b i o m:Nat):dq h own ids (.ptr b i o m)=lcP (h b) ids b i o m:=rfl
theorem b8C (own:Bool) (ids:List Nat) (b s q:Nat):dq h own ids (.sl b s q)=lcO (h b) own ids b s q:=rfl
def lcA (mk:List V→V):Option (List V×List Nat×List Nat)→Option (V×List Nat×List Nat)
 |some (cs',ids',bs)=>some (mk cs',ids',bs)
 |none=>none
theorem b6s (own:Bool) (ids:List Nat) (cs:List V):dq h own ids (.agg cs)=lcA V.agg (cL h own ids cs):=by
 simp only [dq,lcA]
 cases cL h own ids cs<;>rfl
theorem b9e (own:Bool) (ids:List Nat) (f:FuncId) (cs:List V):dq h own ids (.fn f cs)=lcA (V.fn f) (cL h true ids cs):=by
 simp only [dq,lcA]
 cases cL h true ids cs<;>rfl
theorem a73 (mk:List V→V) (cs:List V) (i b:List Nat):lcA mk (some (cs,i,b))=some (mk cs,i,b):=rfl
def b7B (h:al) (own:Bool) (r:List V):Option (V×List Nat×List Nat)→Option (List V×List Nat×List Nat)
 |some (v',ids',bs)=>la2 v' bs (cL h own ids' r)
 |none=>none
theorem Ux (own:Bool) (ids:List Nat):cL h own ids []=some ([],ids,[]):=rfl
theorem Fv (own:Bool) (ids:List Nat) (v:V) (r:List V):cL h own ids (v::r)=b7B h own r (cp h own ids v):=by
 simp only [cL,b7B,la2]
 cases cp h own ids v with
 |none=>rfl
 |some p=>obtain ⟨a,b,c⟩:=p;dsimp only;cases cL h own b r<;>rfl
theorem SS (own:Bool) (r:List V) (v':V) (ids' bs:List Nat):b7B h own r (some (v',ids',bs))=la2 v' bs (cL h own ids' r):=rfl
theorem b7e (ids:List Nat) (b o m:Nat) (row:List V):lcP (some ⟨m,true,[row]⟩) ids b 0 o 1=some (.ptr (lO b (gp ids b)) 0 o 1,gp ids b,[]):=rfl
theorem b9R (m:Nat) (ids:List Nat) (b s q:Nat) (hq:s+q=l.length):lcO (some ⟨m,false,rws e l⟩) true ids b s q=some (.sl (lO b (gp ids b)) s q,gp ids b,[]):=by
 simp [lcO,rws,hq]
theorem c0j (m:Nat) (ids:List Nat) (b q:Nat) (h0:Nat.blt 0 m=true) (hq:l.length=q):lcO (some ⟨m,false,rws e l⟩) false ids b 0 q=some (.imm m (rws e l),ids,[b]):=by
 rw [Hm,decide_eq_true_eq] at h0
 simp [lcO,rws,hq,h0]
def lb2 (k:Blk):Option (List Blk×List Nat)→Option (List Blk×List Nat)
 |some (r,ids')=>some (k::r,ids')
 |none=>none
def ld2 (v':V):Option (List V×List Nat)→Option (List V×List Nat)
 |some (r',i)=>some (v'::r',i)
 |none=>none
def ld1 (h:al) (r:List V):Option (V×List Nat×List Nat)→Option (List V×List Nat)
 |some (v',ids',_)=>ld2 v' (o8 h ids' r)
 |none=>none
theorem a6b (ids:List Nat):o8 h ids []=some ([],ids):=rfl
theorem Pt (ids:List Nat) (v:V) (r:List V):o8 h ids (v::r)=ld1 h r (dq h true ids v):=by
 simp only [o8,ld1,ld2]
 cases dq h true ids v with
 |none=>rfl
 |some p=>obtain ⟨a,b,c⟩:=p;dsimp only;cases o8 h b r<;>rfl
theorem Yg (r:List V) (v':V) (ids' bs:List Nat):ld1 h r (some (v',ids',bs))=ld2 v' (o8 h ids' r):=rfl
theorem b1E (v':V) (r':List V) (i:List Nat):ld2 v' (some (r',i))=some (v'::r',i):=rfl
def lb1 (h:al) (fuel pos m:Nat):Option (List V×List Nat)→Option (List Blk×List Nat)
 |some (row,ids1)=>lb2 ⟨m,true,[row]⟩ (dt h fuel (pos+1) ids1)
 |none=>none
def lb0 (h:al) (fuel pos:Nat) (ids:List Nat):Option Blk→Option (List Blk×List Nat)
 |some k=>if k.op=false then lb2 k (dt h fuel (pos+1) ids) else (match kQ h ids k.rows with
  |none=>none
  |some (rows,ids1)=>lb2 { k with rows:=rows } (dt h fuel (pos+1) ids1))
 |none=>none
def lbN (h:al) (fuel pos:Nat) (ids:List Nat):Option Nat→Option (List Blk×List Nat)
 |none=>some ([],ids)
 |some b=>lb0 h fuel pos ids (h b)
theorem a1W (fuel pos:Nat) (ids:List Nat):dt h (fuel+1) pos ids=lbN h fuel pos ids ids[pos]? :=by
 simp only [dt,lbN,lb0]
 cases ids[pos]? with
 |none=>rfl
 |some b=>
  dsimp only
  cases h b with
  |none=>rfl
  |some k=>
   dsimp only
   split
   ·cases dt h fuel (pos+1) ids<;>rfl
   ·cases kQ h ids k.rows with
    |none=>rfl
    |some p=>obtain ⟨rows,ids1⟩:=p;dsimp only;cases dt h fuel (pos+1) ids1<;>rfl
theorem a77 (fuel pos:Nat) (ids:List Nat):lbN h fuel pos ids none=some ([],ids):=rfl
theorem a8h (fuel pos:Nat) (ids:List Nat) (b:Nat):lbN h fuel pos ids (some b)=lb0 h fuel pos ids (h b):=rfl
theorem b6u (fuel pos:Nat) (ids:List Nat) (m:Nat) (r:List (List V)):lb0 h fuel pos ids (some ⟨m,false,r⟩)=lb2 ⟨m,false,r⟩ (dt h fuel (pos+1) ids):=rfl
theorem b6v (fuel pos:Nat) (ids:List Nat) (m:Nat) (row:List V):lb0 h fuel pos ids (some ⟨m,true,[row]⟩)=lb1 h fuel pos m (o8 h ids row):=by
 simp only [lb0,kQ,lb1]
 cases o8 h ids row with
 |none=>rfl
 |some p=>obtain ⟨a,b⟩:=p;rfl
theorem a7l (fuel pos m:Nat) (row:List V) (ids1:List Nat):lb1 h fuel pos m (some (row,ids1))=lb2 ⟨m,true,[row]⟩ (dt h fuel (pos+1) ids1):=rfl
theorem a9m (k:Blk) (r:List Blk) (ids:List Nat):lb2 k (some (r,ids))=some (k::r,ids):=rfl
theorem b90 (n:Nat):dD [] [] n=[]:=rfl
theorem b8Z (k:Blk) (r:List Blk) (n:Nat):dD [] (k::r) n=n::dD [] r (n+1000000):=rfl
theorem b9t (i:Nat) (ids:List Nat) (k:Blk) (r:List Blk) (n:Nat):dD (i::ids) (k::r) n=dD ids r n:=rfl
def cpw (new:Nat) (ids bor:List Nat) (r:V) (bs:List Blk) (ns:List Nat):Option (V×Upd):=some (AV (ids++ns) r,kI (ids++ns) (bs.map (j9 (ids++ns)))++br (bor.isEmpty||(rm r&&bs.all y9)) [] (fE bor))
theorem b6J (new:Nat) (ids bor:List Nat) (r:V) (bs:List Blk) (ns:List Nat):cpw new ids bor r bs ns=some (AV (ids++ns) r,kI (ids++ns) (bs.map (j9 (ids++ns)))++br (bor.isEmpty||(rm r&&bs.all y9)) [] (fE bor)):=rfl
theorem a1l (new:Nat) (ids bor:List Nat) (r:V) (bs:List Blk):IN h new ids bor (some (r,bs))=
 br (Nat.ble ids.length bs.length&&(dD ids bs new).all (fun b=>(h b).isNone)) (cpw new ids bor r bs (dD ids bs new)) none:=by
 simp only [IN,xy,cpw,Mz]
 generalize (dD ids bs new).all (fun b=>(h b).isNone)=c3
 generalize (bor.isEmpty||(rm r&&bs.all y9))=c4
 by_cases h1:ids.length≤bs.length
 ·rw [decide_eq_true h1];cases c3<;>cases c4<;>simp [h1,br]
 ·rw [decide_eq_false h1];cases c3<;>cases c4<;>simp [h1,br]
theorem a6F (ids:List Nat) (vs:List V):AV ids (.tup vs)= .tup (vs.map (mc ids)):=rfl
theorem a6y (ids:List Nat) (vs:List V):AV ids (.agg vs)= .agg (vs.map (unV ids)):=rfl
theorem a4Y (ids:List Nat) (v:Value):AV ids (.lit v)= .lit v:=rfl
theorem a5m (ids:List Nat) (m:Nat) (r:List (List V)):AV ids (.imm m r)= .imm m r:=rfl
theorem Zy (ids:List Nat):AV ids .undef= .undef:=rfl
theorem a4r (ids:List Nat) (b i o m:Nat):AV ids (.ptr b i o m)= .ptr (ids.getD b 0) i o m:=rfl
theorem a5n (ids:List Nat) (b s q:Nat):AV ids (.sl b s q)= .sl (ids.getD b 0) s q:=rfl
theorem a5N (ids:List Nat) (vs:List V):mc ids (.agg vs)= .agg (vs.map (unV ids)):=rfl
theorem a6E (ids:List Nat) (v:Value):mc ids (.lit v)= .lit v:=rfl
theorem a5h (ids:List Nat) (m:Nat) (r:List (List V)):mc ids (.imm m r)= .imm m r:=rfl
theorem a6j (ids:List Nat) (b i o m:Nat):mc ids (.ptr b i o m)= .ptr (ids.getD b 0) i o m:=rfl
theorem a5o (ids:List Nat) (b s q:Nat):mc ids (.sl b s q)= .sl (ids.getD b 0) s q:=rfl
theorem b3L (ids:List Nat) (v:Value):unV ids (.lit v)= .lit v:=rfl
theorem b88 (ids:List Nat) (f:FuncId) (cs:List V):unV ids (.fn f cs)= .fn f cs:=rfl
theorem b1h (ids:List Nat) (f:FuncId) (cs:List V):mc ids (.fn f cs)= .fn f (cs.map (unV ids)):=rfl
theorem b2s (ids:List Nat) (m:Nat) (r:List (List V)):unV ids (.imm m r)= .imm m r:=rfl
theorem b3f (ids:List Nat) (b i o m:Nat):unV ids (.ptr b i o m)= .ptr (ids.getD b 0) i o m:=rfl
theorem b3P (ids:List Nat) (b s q:Nat):unV ids (.sl b s q)= .sl (ids.getD b 0) s q:=rfl
theorem a9w (ids:List Nat) (m:Nat) (r:List (List V)):j9 ids ⟨m,false,r⟩=⟨m,false,r⟩:=rfl
theorem a6e (ids:List Nat) (m:Nat) (row:List V):j9 ids ⟨m,true,[row]⟩=⟨m,true,[row.map (mc ids)]⟩:=rfl
theorem b6T (v:Value):rm (.lit v)=true:=rfl
theorem a7h:rm .undef=true:=rfl
theorem b7p (m:Nat) (r:List (List V)):rm (.imm m r)=false:=rfl
theorem b6x (vs:List V):rm (.agg vs)=vs.all oH:=rfl
theorem b7i (vs:List V):rm (.tup vs)=vs.all Ci:=rfl
theorem b6Q (b i o m:Nat):rm (.ptr b i o m)=true:=rfl
theorem b87 (b s q:Nat):rm (.sl b s q)=true:=rfl
theorem b1P (v:Value):Ci (.lit v)=true:=rfl
theorem b2p (m:Nat) (r:List (List V)):Ci (.imm m r)=false:=rfl
theorem b3E (vs:List V):Ci (.agg vs)=vs.all oH:=rfl
theorem b3S (b i o m:Nat):Ci (.ptr b i o m)=true:=rfl
theorem b2Z (b s q:Nat):Ci (.sl b s q)=true:=rfl
theorem b2z (v:Value):oH (.lit v)=true:=rfl
theorem b8d (f:FuncId) (cs:List V):oH (.fn f cs)=false:=rfl
theorem b82 (f:FuncId) (cs:List V):Ci (.fn f cs)=false:=rfl
theorem b9D (f:FuncId) (cs:List V):rm (.fn f cs)=false:=rfl
theorem b2V (m:Nat) (r:List (List V)):oH (.imm m r)=false:=rfl
theorem b2y (b i o m:Nat):oH (.ptr b i o m)=true:=rfl
theorem b2n (b s q:Nat):oH (.sl b s q)=true:=rfl
theorem b6G (m:Nat) (r:List (List V)):y9 ⟨m,false,r⟩=false:=rfl
theorem b8f (m:Nat) (row:List V):y9 ⟨m,true,[row]⟩=row.all oH:=by simp [y9]
def b2A (raw:Bool) (m:Nat):Option (List V)→Option (List Blk)→Option (V×List Blk)
 |some vs',some bs=>br (Nat.ble m 1000) (some ((a1T vs').czR,br raw bs (bs.map Blk.cz))) none
 |_,_=>none
def Y9 (keep raw:Bool) (m:Nat) (h:al):Option (List V)→Option (V×List Blk)
 |some vs=>b2A raw m (vj h m (br keep (jS raw h m vs) []) vs) (uv h m (br keep (jS raw h m vs) []) (List.range m++(br keep (jS raw h m vs) [])))
 |none=>none
theorem a3s (nt:Nat) (body:ai) (res:List Kj) (keep raw:Bool) (m:Nat) (st:St) (x:ag) (hx:x= .ret∨x= .normal):a1D ⟨nt,body,res,keep,raw⟩ m x st=Y9 keep raw m st.heap (kM st res):=by
 have hk: ∀vs:List V,(if keep=true then jS raw st.heap m vs else [])=br keep (jS raw st.heap m vs) []:=fun vs=>by cases keep<;>rfl
 have:a1D ⟨nt,body,res,keep,raw⟩ m x st=a1D ⟨nt,body,res,keep,raw⟩ m .ret st:=by rcases hx with rfl|rfl<;>rfl
 rw [this]
 simp only [a1D,lJ,Y9,b2A,Zw,hk,Mz]
 cases kM st res with
 |none=>rfl
 |some vs=>
  dsimp only
  cases vj st.heap m (br keep (jS raw st.heap m vs) []) vs with
  |none=>rfl
  |some vs'=>
   cases uv st.heap m (br keep (jS raw st.heap m vs) []) (List.range m++(br keep (jS raw st.heap m vs) [])) with
   |none=>rfl
   |some bs=>by_cases h1:m≤1000<;>cases raw<;>simp [h1,br]
theorem a9I (nt:Nat) (body:ai) (res:List Kj) (keep raw:Bool) (m:Nat) (st:St):a1D ⟨nt,body,res,keep,raw⟩ m .ret st=Y9 keep raw m st.heap (kM st res):=a3s _ _ _ _ _ _ _ _ (.inl rfl)
theorem ZZ (nt:Nat) (body:ai) (res:List Kj) (keep raw:Bool) (m:Nat) (st:St):a1D ⟨nt,body,res,keep,raw⟩ m .normal st=Y9 keep raw m st.heap (kM st res):=a3s _ _ _ _ _ _ _ _ (.inr rfl)
theorem a4x (keep raw:Bool) (m:Nat) (vs:List V):Y9 keep raw m h (some vs)=b2A raw m (vj h m (br keep (jS raw h m vs) []) vs) (uv h m (br keep (jS raw h m vs) []) (List.range m++(br keep (jS raw h m vs) []))):=rfl
theorem a5p (raw:Bool) (m:Nat) (vs:List V) (bs:List Blk):b2A raw m (some vs) (some bs)=br (Nat.ble m 1000) (some ((a1T vs).czR,br raw bs (bs.map Blk.cz))) none:=rfl
def rs1:Option V→Option (List V)→Option (List V)
 |some v,some vs=>some (v::vs)
 |_,_=>none
theorem b0s (st:St):kM st []=some []:=rfl
theorem a5v (st:St) (r:Kj) (rs:List Kj):kM st (r::rs)=rs1 (LU st r) (kM st rs):=by
 simp only [kM,rs1]
 cases LU st r<;>cases kM st rs<;>rfl
theorem b0n (v:V) (vs:List V):rs1 (some v) (some vs)=some (v::vs):=rfl
theorem b3Q (st:St) (t:Nat):LU st (.tmp t)=some (st.get t):=rfl
theorem a9O (st:St) (t:Nat) (g:Option Nat):LU st (.cell t g)=uj g st.heap (st.get t):=rfl
def c0T:Option V→Option (List V)→Option (List V)
 |some v,some vs=>some (v::vs)
 |_,_=>none
theorem a59 (m:Nat) (kp:List Nat):vj h m kp []=some []:=rfl
theorem a1Q (m:Nat) (kp:List Nat) (v:V) (r:List V):vj h m kp (v::r)=rs1 (Hp h m kp v) (vj h m kp r):=by
 simp only [vj,rs1]
 cases Hp h m kp v<;>cases vj h m kp r<;>rfl
theorem a6p (m:Nat) (kp:List Nat):sk h m kp []=some []:=rfl
theorem On (m:Nat) (kp:List Nat) (v:V) (r:List V):sk h m kp (v::r)=rs1 (pa h m kp v) (sk h m kp r):=by
 simp only [sk,rs1]
 cases pa h m kp v<;>cases sk h m kp r<;>rfl
def fag:Option (List V)→Option V
 |some cs=>some (.agg cs)
 |none=>none
theorem a8Z (m:Nat) (kp:List Nat) (cs:List V):Hp h m kp (.agg cs)=fag (sk h m kp cs):=by
 simp only [Hp,fag]
 cases sk h m kp cs<;>rfl
theorem a8n (cs:List V):fag (some cs)=some (.agg cs):=rfl
theorem a7D (m:Nat) (kp:List Nat) (v:Value):Hp h m kp (.lit v)=some (.lit v):=rfl
theorem a7M (m:Nat) (kp:List Nat) (q:Nat) (r:List (List V)):Hp h m kp (.imm q r)=some (.imm q r):=rfl
theorem a2N (m:Nat) (kp:List Nat):Hp h m kp .undef=some .undef:=rfl
theorem b2o (m:Nat) (kp:List Nat) (f:FuncId):Hp h m kp (.fn f [])=some (.fn f []):=rfl
theorem b0c (m:Nat) (kp:List Nat) (v:Value):pa h m kp (.lit v)=some (.lit v):=rfl
theorem a7R (m:Nat) (kp:List Nat) (q:Nat) (r:List (List V)):pa h m kp (.imm q r)=some (.imm q r):=rfl
theorem b4H (m:Nat) (kp:List Nat) (f:FuncId):pa h m kp (.fn f [])=some (.fn f []):=rfl
theorem a0H (m:Nat) (kp:List Nat):pa h m kp .undef=some .undef:=rfl
def b2N:Option (V×List Nat)→Option V
 |some (v,_)=>some v
 |none=>none
def fcO (h:al) (m:Nat) (kp:List Nat) (b s q:Nat):Option V:=br (Nat.blt b m) (some (.sl b s q)) (br (kp.contains b) (some (.sl (m+lO b kp) s q)) (b2N (nf h (.sl b s q))))
theorem PR (m:Nat) (kp:List Nat) (b s q:Nat):pa h m kp (.sl b s q)=fcO h m kp b s q:=by
 simp only [pa,fcO,Hm,b2N]
 by_cases h1:b<m
 ·simp [h1,br]
 ·by_cases h2:b∈kp
  ·simp [h1,h2,br]
  ·have:kp.contains b=false:=by simpa using h2
   simp only [h1,h2,this,if_false,decide_false,aw]
   cases nf h (.sl b s q)<;>rfl
theorem b0b (m:Nat) (kp:List Nat) (b s q:Nat):Hp h m kp (.sl b s q)=fcO h m kp b s q:=PR m kp b s q
theorem b6Z (m:Nat) (kp:List Nat) (b s q:Nat):fcO h m kp b s q=br (Nat.blt b m) (some (.sl b s q)) (br (kp.contains b) (some (.sl (m+lO b kp) s q)) (b2N (nf h (.sl b s q)))):=rfl
theorem a5e (v:V) (bs:List Nat):b2N (some (v,bs))=some v:=rfl
def fcP (m:Nat) (kp:List Nat) (b i o q:Nat):Option V:=br (Nat.blt b m) (some (.ptr b i o q)) (br (kp.contains b) (some (.ptr (m+lO b kp) i o q)) none)
theorem Qs (m:Nat) (kp:List Nat) (b i o q:Nat):pa h m kp (.ptr b i o q)=fcP m kp b i o q:=by
 simp only [pa,fcP,Hm]
 by_cases h1:b<m
 ·simp [h1,br]
 ·by_cases h2:b∈kp
  ·simp [h1,h2,br]
  ·have:kp.contains b=false:=by simpa using h2
   simp [h1,h2,this,br]
theorem b01 (m:Nat) (kp:List Nat) (b i o q:Nat):Hp h m kp (.ptr b i o q)=fcP m kp b i o q:=Qs (h:=h) m kp b i o q
theorem b7V (m:Nat) (kp:List Nat) (b i o q:Nat):fcP m kp b i o q=br (Nat.blt b m) (some (.ptr b i o q)) (br (kp.contains b) (some (.ptr (m+lO b kp) i o q)) none):=rfl
def fb2:Option Blk→Option (List Blk)→Option (List Blk)
 |some k,some r=>some (k::r)
 |_,_=>none
def fb1 (h:al) (m:Nat) (kp r:List Nat):Option Blk→Option (List Blk)
 |some k=>fb2 (VO h m kp k) (uv h m kp r)
 |none=>none
theorem a6l (m:Nat) (kp:List Nat):uv h m kp []=some []:=rfl
theorem a1S (m:Nat) (kp:List Nat) (b:Nat) (r:List Nat):uv h m kp (b::r)=fb1 h m kp r (h b):=by
 simp only [uv,fb1,fb2]
 cases h b with
 |none=>rfl
 |some k=>dsimp only;cases VO h m kp k<;>cases uv h m kp r<;>rfl
theorem a6Y (m:Nat) (kp r:List Nat) (k:Blk):fb1 h m kp r (some k)=fb2 (VO h m kp k) (uv h m kp r):=rfl
theorem a7T (k:Blk) (r:List Blk):fb2 (some k) (some r)=some (k::r):=rfl
theorem b4i (m:Nat) (kp:List Nat) (q:Nat) (r:List (List V)):VO h m kp ⟨q,false,r⟩=some ⟨q,false,r⟩:=rfl
def fbO (q:Nat):Option (List V)→Option Blk
 |some row=>some ⟨q,true,[row]⟩
 |none=>none
theorem a6h (m:Nat) (kp:List Nat):yi h m kp []=some []:=rfl
theorem PH (m:Nat) (kp:List Nat) (v:V) (r:List V):yi h m kp (v::r)=rs1 (GD h m kp v) (yi h m kp r):=by
 simp only [yi,rs1]
 cases GD h m kp v<;>cases yi h m kp r<;>rfl
def fnR (f:FuncId):Option (List V)→Option V
 |some cs=>some (.fn f cs)
 |none=>none
theorem b0a (f:FuncId) (cs:List V):fnR f (some cs)=some (.fn f cs):=rfl
theorem a75 (m:Nat) (kp:List Nat) (f:FuncId):GD h m kp (.fn f [])=some (.fn f []):=rfl
theorem b1I (m:Nat) (kp:List Nat) (f:FuncId) (c:V) (cs:List V):GD h m kp (.fn f (c::cs))=fnR f (sk h m kp (c::cs)):=by
 simp only [GD,fnR]
 cases sk h m kp (c::cs)<;>rfl
theorem a9p (m:Nat) (kp:List Nat) (v:Value):GD h m kp (.lit v)=some (.lit v):=rfl
theorem a9b (m:Nat) (kp:List Nat) (q:Nat) (r:List (List V)):GD h m kp (.imm q r)=some (.imm q r):=rfl
theorem a2k (m:Nat) (kp:List Nat):GD h m kp .undef=some .undef:=rfl
theorem a5H (m:Nat) (kp:List Nat) (r:List V) (o:Nat):GD h m kp (.iptr r o)=some (.iptr r o):=rfl
theorem b0I (m:Nat) (kp:List Nat) (b s q:Nat):GD h m kp (.sl b s q)=fcO h m kp b s q:=PR m kp b s q
theorem b1e (m:Nat) (kp:List Nat) (b i o q:Nat):GD h m kp (.ptr b i o q)=fcP m kp b i o q:=Qs (h:=h) m kp b i o q
theorem b4W (m:Nat) (kp:List Nat) (q:Nat) (row:List V):VO h m kp ⟨q,true,[row]⟩=fbO q (yi h m kp row):=by
 simp only [VO,DD,fbO]
 cases yi h m kp row<;>rfl
theorem a8H (q:Nat) (row:List V):fbO q (some row)=some ⟨q,true,[row]⟩:=rfl
theorem a8k (t u:Nat) (v:V) (r:List (Nat×V)) (m:List (Nat×Blk)):St.get ⟨(u,v)::r,m⟩ t=if u=t then v else St.get ⟨r,m⟩ t:=by
 simp only [St.get,dR]
 split<;>rfl
theorem b4A (t:Nat) (m:List (Nat×Blk)):St.get ⟨[],m⟩ t= .undef:=rfl
theorem a68 (b c:Nat) (k:Blk) (r:List (Nat×Blk)) (x:List (Nat×V)):St.heap ⟨x,(c,k)::r⟩ b=if c=b then some k else St.heap ⟨x,r⟩ b:=rfl
theorem a8L (b:Nat) (x:List (Nat×V)):St.heap ⟨x,[]⟩ b=none:=rfl
theorem a8i (x:List (Nat×V)) (m:List (Nat×Blk)) (d:Nat) (v:V):St.put ⟨x,m⟩ (some d) v=⟨(d,v)::x,m⟩:=rfl
theorem b0m (st:St) (v:V):st.put none v=st:=rfl
theorem b8h (x:List (Nat×V)) (m:List (Nat×Blk)) (u:Upd):St.upd ⟨x,m⟩ u=⟨x,Yf m u⟩:=rfl
theorem b3v (st:St):st.upd []=st:=rfl
theorem a9v (m:List (Nat×Blk)):Yf m []=m:=rfl
theorem a6K (m:List (Nat×Blk)) (b:Nat) (k:Blk) (r:Upd):Yf m ((b,k)::r)=Yf (fJ b k m) r:=rfl
theorem b1k {β:Type} (k:Nat) (v:β):fJ k v []=[(k,v)]:=rfl
theorem a5Z {β:Type} (k j:Nat) (v u:β) (r:List (Nat×β)):fJ k v ((j,u)::r)=if j=k then (j,v)::r else (j,u)::fJ k v r:=rfl
theorem c0P (st:St) (t:Nat):st.ev (.t t)=st.get t:=rfl
theorem c0y (st:St) (v:Value):st.ev (.c v)= .lit v:=rfl
theorem c0F (st:St) (f:FuncId):st.ev (.f f)= .fn f []:=rfl
theorem b2t (live:List Nat) (x:List (Nat×V)) (m:List (Nat×Blk)):trim live ⟨x,m⟩=⟨live.map fun t=>(t,St.get ⟨x,m⟩ t),m⟩:=rfl
theorem a2Y {β:Type} (n:Nat):px n ([]:List β)=[]:=rfl
theorem Y3 {β:Type} (n:Nat) (x:β) (r:List β):px n (x::r)=(n,x)::px (n+1) r:=rfl
theorem start_eq (a:List V) (b:List Blk):start a b=⟨px 0 a,px 0 b⟩:=rfl
theorem a00:fc ev []=[]:=rfl
theorem X3 (a b:Nat) (x:Opd) (r:List (Nat×Nat×Opd)):fc ev ((a,b,x)::r)=(a,b,ev x)::fc ev r:=rfl
theorem a4y (cs:List V):LH cs []=some cs:=rfl
theorem a0Z (cs:List V) (off size:Nat) (v:V) (r:List (Nat×Nat×V)):LH cs ((off,size,v)::r)=br (Nat.beq v.cells.length size&&Nat.ble (off+size) cs.length&&v.cells.all V.cell) (LH (cs.take off++(v.cells++cs.drop (off+size))) r) none:=rfl
theorem a5D (m:Nat) (r:List (List V)):Jg m r []=some r:=rfl
theorem a0O (m:Nat) (rows:List (List V)) (i:Nat) (v:V) (r:List (Nat×V)):Jg m rows ((i,v)::r)=br (Nat.beq v.cells.length m&&(Nat.blt i rows.length&&v.cells.all V.cell)) (Jg m (rows.set i v.cells) r) none:=rfl
theorem a4D (cs:List V):(V.agg cs).cells=cs:=rfl
theorem Tz (v:Value):(V.lit v).cells=[.lit v]:=rfl
theorem a6c (m:Nat) (r:List (List V)):(V.imm m r).cells=[.imm m r]:=rfl
theorem a4v (b s q:Nat):(V.sl b s q).cells=[.sl b s q]:=rfl
theorem a4s (b i o m:Nat):(V.ptr b i o m).cells=[.ptr b i o m]:=rfl
theorem a0B (r:List V) (o:Nat):(V.iptr r o).cells=[.iptr r o]:=rfl
theorem a8q (f:FuncId) (cs:List V):(V.fn f cs).cells=[.fn f cs]:=rfl
theorem a0e (k:IntKind) (a:Int):(V.lit (.int k a)).cell=true:=rfl
theorem a4l (a:Bool):(V.lit (.bool a)).cell=true:=rfl
theorem a7s (a:ByteArray):(V.lit (.string a)).cell=true:=rfl
theorem a9M (a:Option Addr) (n m:Nat):(V.lit (.slice a n m)).cell=true:=rfl
theorem a78 (m:Nat) (r:List (List V)):(V.imm m r).cell=true:=rfl
theorem b0O (b s q:Nat):(V.sl b s q).cell=true:=rfl
theorem a92 (b i o m:Nat):(V.ptr b i o m).cell=true:=rfl
theorem a63 (r:List V) (o:Nat):(V.iptr r o).cell=true:=rfl
theorem b2P (f:FuncId) (cs:List V):(V.fn f cs).cell=true:=rfl
theorem b2L (k:IntKind) (a:Int):aQ (.int k a)=true:=rfl
theorem a74 (a:Bool):aQ (.bool a)=true:=rfl
theorem b1J (a:ByteArray):aQ (.string a)=true:=rfl
theorem b1N (a:Option Addr) (n m:Nat):aQ (.slice a n m)=true:=rfl
theorem b4g (a:Option Addr):aQ (.pointer a)=true:=rfl
theorem a4T:fE []=[]:=rfl
theorem a2D (b:Nat) (r:List Nat):fE (b::r)=(b,jR)::fE r:=rfl
theorem b2Q (ids:List Nat):kI ids []=[]:=by cases ids<;>rfl
theorem a7Z (i:Nat) (ids:List Nat) (k:Blk) (r:List Blk):kI (i::ids) (k::r)=(i,k)::kI ids r:=rfl
theorem a98 (b x:Nat) (r:List Nat):lO b (x::r)=if x=b then 0 else lO b r+1:=rfl
theorem a1b (b:Nat):gp [] b=[b]:=rfl
theorem a4z (ids:List Nat) (b:Nat):gp ids b=br (ids.contains b) ids (ids++[b]):=by
 unfold gp
 by_cases h:b∈ids<;>simp [h,br]
theorem b7k:List.range 1=[0]:=rfl
theorem b7g:List.range 2=[0,1]:=rfl
theorem b6m:List.range 3=[0,1,2]:=rfl
theorem b7f:List.range 4=[0,1,2,3]:=rfl
theorem a9S (v:V):a1T [v]=v:=rfl
theorem a9R:a1T []= .tup []:=rfl
theorem a9J (a b:V) (r:List V):a1T (a::b::r)= .tup (a::b::r):=rfl
theorem a0G (o:List Nat) (a:List V):pG o a=br (o.contains 1000) a (a.map V.czA):=by
 unfold pG;cases o.contains 1000<;>rfl
theorem a1w (o:List Nat) (a:List Blk):qa o a=br (o.contains 1000) a (a.map Blk.cz):=by
 unfold qa;cases o.contains 1000<;>rfl
theorem a5b (a:Nat) (r:List Nat):(a::r).getD 0 0=a:=rfl
theorem a6k (a n:Nat) (r:List Nat):(a::r).getD (n+1) 0=r.getD n 0:=rfl
def a2G (st:St) (bs:List Nat):St:={ e:=Qx (fzA st.heap bs) st.e,m:=fzM st.heap bs st.m }
theorem b0v (st:St) (bs:List Nat):bK st (.close bs)=br (bs.all (fun b=>Nat.ble 1000 b)) (some (a2G st bs)) none:=by
 simp only [bK,a2G,Mz]
 cases bs.all (fun b=>decide (1000≤b))<;>rfl
theorem a57 (x:List (Nat×V)) (m:List (Nat×Blk)) (bs:List Nat):a2G ⟨x,m⟩ bs=⟨Qx (fzA (St.heap ⟨x,m⟩) bs) x,fzM (St.heap ⟨x,m⟩) bs m⟩:=rfl
theorem b0R (g:V→V):Qx g []=[]:=rfl
theorem a66 (g:V→V) (t:Nat) (v:V) (r:List (Nat×V)):Qx g ((t,v)::r)=(t,g v)::Qx g r:=rfl
variable {bs:List Nat}
theorem b7l (v:Value):fzA h bs (.lit v)= .lit v:=rfl
theorem b7F (m:Nat) (r:List (List V)):fzA h bs (.imm m r)= .imm m r:=rfl
theorem b35 (r:List V) (o:Nat):fzA h bs (.iptr r o)= .iptr r o:=rfl
theorem a8c:fzA h bs .undef= .undef:=rfl
theorem b6h (vs:List V):fzA h bs (.tup vs)= .undef:=rfl
def fzO:Option (V×List Nat)→V
 |some (v,_)=>v.cz
 |none=> .undef
theorem a8N (b s q:Nat):fzA h bs (.sl b s q)=br (bs.contains b) (fzO (nf h (.sl b s q))) (.sl b s q):=by
 simp only [fzA,fzC,fzO]
 by_cases hb:b∈bs
 ·simp [hb,br];cases nf h (.sl b s q)<;>rfl
 ·simp [hb,br]
theorem a8U (b i o m:Nat):fzA h bs (.ptr b i o m)=br (bs.contains b) .undef (.ptr b i o m):=by
 simp only [fzA,fzC]
 by_cases hb:b∈bs<;>simp [hb,br]
theorem b0P (v:V) (b:List Nat):fzO (some (v,b))=v.cz:=rfl
theorem b6M (cs:List V):fzA h bs (.agg cs)=br ((cs.map (fzC h bs)).all V.cell) (.agg (cs.map (fzC h bs))) .undef:=by
 simp only [fzA]
 cases (cs.map (fzC h bs)).all V.cell<;>rfl
theorem b5r (f:FuncId) (cs:List V):fzA h bs (.fn f cs)=br (cs.all okC&& !(cs.flatMap rX).any (fun b=>bs.contains b)) (.fn f cs) .undef:=by
 simp only [fzA,fzC]
 have:(fun b=>decide (b∈bs))=fun b=>bs.contains b:=by funext b;simp [Bool.eq_iff_iff]
 rw [this]
 cases (cs.all okC&& !(cs.flatMap rX).any (fun b=>bs.contains b))<;>rfl
theorem b5a (v:Value):fzC h bs (.lit v)= .lit v:=rfl
theorem b4f (m:Nat) (r:List (List V)):fzC h bs (.imm m r)= .imm m r:=rfl
theorem b8A (f:FuncId) (cs:List V):fzC h bs (.fn f cs)=br (cs.all okC&& !(cs.flatMap rX).any (fun b=>bs.contains b)) (.fn f cs) .undef:=b5r (h:=h) f cs
theorem b3U (b i o m:Nat):okC (.ptr b i o m)=true:=rfl
theorem b3n (b s q:Nat):okC (.sl b s q)=true:=rfl
theorem b3e (v:Value):okC (.lit v)=true:=rfl
theorem b4r (m:Nat) (r:List (List V)):okC (.imm m r)=true:=rfl
theorem b7z (f:FuncId):okC (.fn f [])=true:=rfl
theorem b1u (r:List V) (o:Nat):fzC h bs (.iptr r o)= .iptr r o:=rfl
theorem b4j (b s q:Nat):fzC h bs (.sl b s q)=br (bs.contains b) (fzO (nf h (.sl b s q))) (.sl b s q):=a8N b s q
theorem b53 (b i o m:Nat):fzC h bs (.ptr b i o m)=br (bs.contains b) .undef (.ptr b i o m):=a8U (h:=h) b i o m
theorem b3B:fzM h bs []=[]:=rfl
def fzK (h:al) (bs:List Nat) (k:Blk):Blk:=if k.op then (if (k.rows.map (·.map (fzC h bs))).all (·.all V.cell) then { k with rows:=k.rows.map (·.map (fzC h bs)) } else jR) else k
theorem a8V (b:Nat) (k:Blk) (r:List (Nat×Blk)):fzM h bs ((b,k)::r)=br (bs.contains b) (fzM h bs r) ((b,fzK h bs k)::fzM h bs r):=by
 simp only [fzM,fzK]
 by_cases hb:b∈bs<;>simp [hb,br]
theorem b7O (m:Nat) (r:List (List V)):fzK h bs ⟨m,false,r⟩=⟨m,false,r⟩:=rfl
theorem b7y (m:Nat) (row:List V):fzK h bs ⟨m,true,[row]⟩=br ((row.map (fzC h bs)).all V.cell) ⟨m,true,[row.map (fzC h bs)]⟩ jR:=by
 simp only [fzK,List.map_cons,List.map_nil,List.all_cons,List.all_nil,Bool.and_true,if_true]
 cases (row.map (fzC h bs)).all V.cell<;>rfl
section
variable {R:Type} {T:Tab} {ow:dI} {k:ag→St→Option R} {d:Option Nat} {n:Nat} {ss:List aV} {live:List Nat} {K:List Fr} {st:St} {base i:Nat} {deps:List (List Nat)} {rs:List Rec} {fp:List Nat} {r:R}
theorem uf {h:al} {new:Nat} {ids bor:List Nat} {x:Option (V×List Blk)} {p:V×List Blk} (hx:x=some p) (hr:aft T ow k d n ss live K st (IN h new ids bor (some p))=some r):aft T ow k d n ss live K st (IN h new ids bor x)=some r:=by
 rw [hx];exact hr
theorem le {h:al} {new:Nat} {ids bor:List Nat} {x:Option (V×List Blk)} {p:V×List Blk} (hx:x=some p) (hr:MR T ow k d base i ss deps live rs K st fp (IN h new ids bor (some p))=some r):MR T ow k d base i ss deps live rs K st fp (IN h new ids bor x)=some r:=by
 rw [hx];exact hr
theorem b9L (b:Int):nn b=decide (0≤b):=rfl
theorem b96 (b:Int):nz b=decide (b≠0):=rfl
theorem b77 (i:Int) (n:Nat):inb i n=(decide (0≤i)&&decide (i.toNat<n)):=rfl
end
end
section
variable {ow:dI} {ev:Opd→V} {h:al} {α:Type} {e:En α} {l:List α}
theorem c04 (x:Opd):gj ow (.mv x) ev h=[]:=rfl
theorem b92 (x:Opd):(AOp.mv x).opds=[x]:=rfl
theorem b4J (c a b:Opd):gj ow (.pick c a b) ev h=((AOp.pick c a b).opds.map ev).flatMap fX:=rfl
theorem b3b (c a b:Opd):(AOp.pick c a b).opds=[c,a,b]:=rfl
theorem b0L (z:List Value):gj ow (.alloc z) ev h=((AOp.alloc z).opds.map ev).flatMap fX:=rfl
theorem a6T (z:List Value):(AOp.alloc z).opds=[]:=rfl
theorem b73 (m:Nat) (x:Opd):gj ow (.box m x) ev h=((AOp.box m x).opds.map ev).flatMap fX:=rfl
theorem b7T (m:Nat) (x:Opd):(AOp.box m x).opds=[x]:=rfl
theorem a7N (z:List Value) (ps:List (Nat×Nat×Opd)):gj ow (.build z ps) ev h=((AOp.build z ps).opds.map ev).flatMap fX:=rfl
theorem a7q (z:List Value) (ps:List (Nat×Nat×Opd)):(AOp.build z ps).opds=ps.map (·.2.2):=rfl
theorem RC (m:Nat) (z:List Value) (l:Nat) (ps:List (Nat×Opd)):gj ow (.buildSlice m z l ps) ev h=((AOp.buildSlice m z l ps).opds.map ev).flatMap fX:=rfl
theorem RL (m:Nat) (z:List Value) (l:Nat) (ps:List (Nat×Opd)):(AOp.buildSlice m z l ps).opds=ps.map (·.2):=rfl
theorem b3y (g:Option Nat) (x:Opd):gj ow (.load g x) ev h=((AOp.load g x).opds.map ev).flatMap fX:=rfl
theorem b1F (g:Option Nat) (x:Opd):(AOp.load g x).opds=[x]:=rfl
theorem a9h (m:Nat) (x y:Opd):gj ow (.store m x y) ev h=((AOp.store m x y).opds.map ev).flatMap fX:=rfl
theorem b0N (m:Nat) (x y:Opd):(AOp.store m x y).opds=[x,y]:=rfl
theorem Xy (x:Opd):gj ow (.nilCheck x) ev h=((AOp.nilCheck x).opds.map ev).flatMap fX:=rfl
theorem Ye (x:Opd):(AOp.nilCheck x).opds=[x]:=rfl
theorem b7m (op:BinOp) (x y:Opd):gj ow (.bin op x y) ev h=((AOp.bin op x y).opds.map ev).flatMap fX:=rfl
theorem b67 (op:BinOp) (x y:Opd):(AOp.bin op x y).opds=[x,y]:=rfl
theorem a9a (b:Bool) (ks:List Bool) (x y:Opd):gj ow (.eqAgg b ks x y) ev h=((AOp.eqAgg b ks x y).opds.map ev).flatMap fX:=rfl
theorem a7W (b:Bool) (ks:List Bool) (x y:Opd):(AOp.eqAgg b ks x y).opds=[x,y]:=rfl
theorem b5J (b:Bool) (x y:Opd):gj ow (.beq b x y) ev h=((AOp.beq b x y).opds.map ev).flatMap fX:=rfl
theorem b8n (b:Bool) (x y:Opd):(AOp.beq b x y).opds=[x,y]:=rfl
theorem b9v (op:UnOp) (x:Opd):gj ow (.un op x) ev h=((AOp.un op x).opds.map ev).flatMap fX:=rfl
theorem b9M (op:UnOp) (x:Opd):(AOp.un op x).opds=[x]:=rfl
theorem a84 (k:IntKind) (x:Opd):gj ow (.toInt k x) ev h=((AOp.toInt k x).opds.map ev).flatMap fX:=rfl
theorem a7v (k:IntKind) (x:Opd):(AOp.toInt k x).opds=[x]:=rfl
theorem b59 (x:Opd):gj ow (.same x) ev h=((AOp.same x).opds.map ev).flatMap fX:=rfl
theorem b1L (x:Opd):(AOp.same x).opds=[x]:=rfl
theorem a2A (x:Opd):gj ow (.toBytes x) ev h=((AOp.toBytes x).opds.map ev).flatMap fX:=rfl
theorem a0X (x:Opd):(AOp.toBytes x).opds=[x]:=rfl
theorem b1r (x:Opd):gj ow (.toStr x) ev h=((AOp.toStr x).opds.map ev).flatMap fX:=rfl
theorem b0f (x:Opd):(AOp.toStr x).opds=[x]:=rfl
theorem Z2 (f:FuncId) (cs:List Opd):gj ow (.makeFunc f cs) ev h=[]:=rfl
theorem YE (f:FuncId) (cs:List Opd):(AOp.makeFunc f cs).opds=cs:=rfl
theorem UT (m b:Nat) (z:List Value) (x y:Opd):gj ow (.makeSlice m b z x y) ev h=((AOp.makeSlice m b z x y).opds.map ev).flatMap fX:=rfl
theorem WD (m b:Nat) (z:List Value) (x y:Opd):(AOp.makeSlice m b z x y).opds=[x,y]:=rfl
theorem ZB (x:Opd) (lo hi:Option Opd):gj ow (.sliceStr x lo hi) ev h=((AOp.sliceStr x lo hi).opds.map ev).flatMap fX:=rfl
theorem YC (x:Opd) (lo hi:Option Opd):(AOp.sliceStr x lo hi).opds=x::(IA lo++IA hi):=rfl
theorem b1w (m:Nat) (x:Opd) (lo hi mx:Option Opd):gj ow (.slice m x lo hi mx) ev h=((AOp.slice m x lo hi mx).opds.map ev).flatMap fX:=rfl
theorem a97 (m:Nat) (x:Opd) (lo hi mx:Option Opd):(AOp.slice m x lo hi mx).opds=x::(IA lo++(IA hi++IA mx)):=rfl
theorem b7o (m:Nat) (x:Opd):gj ow (.off m x) ev h=[]:=rfl
theorem b7D (m:Nat) (x:Opd):(AOp.off m x).opds=[x]:=rfl
theorem a7F (m:Nat) (g:Option Nat) (x:Opd):gj ow (.field m g x) ev h=((AOp.field m g x).opds.map ev).flatMap fX:=rfl
theorem a8P (m:Nat) (g:Option Nat) (x:Opd):(AOp.field m g x).opds=[x]:=rfl
theorem b6b (m:Nat) (x y:Opd):gj ow (.idx m x y) ev h=((AOp.idx m x y).opds.map ev).flatMap fX:=rfl
theorem b5L (m:Nat) (x y:Opd):(AOp.idx m x y).opds=[x,y]:=rfl
theorem a4f (m q:Nat) (x y:Opd):gj ow (.idxArr m q x y) ev h=((AOp.idxArr m q x y).opds.map ev).flatMap fX:=rfl
theorem a4F (m q:Nat) (x y:Opd):(AOp.idxArr m q x y).opds=[x,y]:=rfl
theorem b0C (x y:Opd):gj ow (.ixStr x y) ev h=((AOp.ixStr x y).opds.map ev).flatMap fX:=rfl
theorem a9y (x y:Opd):(AOp.ixStr x y).opds=[x,y]:=rfl
theorem a7G (m q:Nat) (g:Option Nat) (x y:Opd):gj ow (.ixAgg m q g x y) ev h=((AOp.ixAgg m q g x y).opds.map ev).flatMap fX:=rfl
theorem a9c (m q:Nat) (g:Option Nat) (x y:Opd):(AOp.ixAgg m q g x y).opds=[x,y]:=rfl
theorem b7L (x:Opd) (i:Nat):gj ow (.ext x i) ev h=[]:=rfl
theorem b7w (x:Opd) (i:Nat):(AOp.ext x i).opds=[x]:=rfl
theorem b7b (b:Bool) (x:Opd):gj ow (.len b x) ev h=[]:=rfl
theorem b6g (b:Bool) (x:Opd):(AOp.len b x).opds=[x]:=rfl
theorem a5x (m:Nat) (x:Opd):gj ow (.lenArr m x) ev h=((AOp.lenArr m x).opds.map ev).flatMap fX:=rfl
theorem a4N (m:Nat) (x:Opd):(AOp.lenArr m x).opds=[x]:=rfl
theorem a0I (m b:Nat) (z:List Value) (x y:Opd):gj ow (.appendN m b z x y) ev h=((AOp.appendN m b z x y).opds.map ev).flatMap fX:=rfl
theorem a2P (m b:Nat) (z:List Value) (x y:Opd):(AOp.appendN m b z x y).opds=[x,y]:=rfl
theorem a8z (b:Bool) (x:Opd):gj ow (.isNil b x) ev h=((AOp.isNil b x).opds.map ev).flatMap fX:=rfl
theorem a9e (b:Bool) (x:Opd):(AOp.isNil b x).opds=[x]:=rfl
theorem a52 (m b:Nat) (z:List Value) (x y:Opd):gj ow (.append m b z x y) ev h=((AOp.append m b z x y).opds.map ev).flatMap fX:=rfl
theorem a5C (m b:Nat) (z:List Value) (x y:Opd):(AOp.append m b z x y).opds=[x,y]:=rfl
theorem b1R (m:Nat) (x y:Opd):gj ow (.copy m x y) ev h=((AOp.copy m x y).opds.map ev).flatMap fX:=rfl
theorem b2d (m:Nat) (x y:Opd):(AOp.copy m x y).opds=[x,y]:=rfl
theorem b58 (x y:Opd):gj ow (.max2 x y) ev h=((AOp.max2 x y).opds.map ev).flatMap fX:=rfl
theorem b33 (x y:Opd):(AOp.max2 x y).opds=[x,y]:=rfl
theorem b4y (x y:Opd):gj ow (.min2 x y) ev h=((AOp.min2 x y).opds.map ev).flatMap fX:=rfl
theorem b4a (x y:Opd):(AOp.min2 x y).opds=[x,y]:=rfl
theorem ZC (x:Opd):gj ow (.bytesOwn x) ev h=((AOp.bytesOwn x).opds.map ev).flatMap fX:=rfl
theorem XC (x:Opd):(AOp.bytesOwn x).opds=[x]:=rfl
theorem a7K (m:Nat) (x:Opd):gj ow (.arrOf m x) ev h=((AOp.arrOf m x).opds.map ev).flatMap fX:=rfl
theorem a8M (m:Nat) (x:Opd):(AOp.arrOf m x).opds=[x]:=rfl
theorem b8i (x:Opd):IA (some x)=[x]:=rfl
theorem b71:IA none=[]:=rfl
def fpC:Option (List V×List Blk×List Nat×List Nat)→List Nat
 |some (_,_,ids,bor)=>ids++bor
 |none=>[]
theorem a7k (a:List V) (b:List Blk) (ids bor:List Nat):fpC (some (a,b,ids,bor))=ids++bor:=rfl
theorem b2m (f:FuncId) (args:List Opd):gj ow (.call f args) ev h=fpC (cX ow h f (args.map ev)):=by
 show Kr ow h f (args.map ev)=_
 unfold Kr fpC
 cases cX ow h f (args.map ev)<;>rfl
def fpD (ow:dI) (h:al) (args:List V):V→List Nat
 | .fn k caps=>fpC (cX ow h k (args++caps))
 |_=>[]
theorem b8c (f:Opd) (args:List Opd):gj ow (.dyn f args) ev h=fpD ow h (args.map ev) (ev f):=by
 show (match ev f with
  | .fn k caps=>Kr ow h k (args.map ev++caps)
  |_=>[])=_
 cases ev f<;>first|rfl| (simp only [fpD,Kr,fpC];cases cX ow h _ _<;>rfl)
theorem b74 (args:List V) (k:FuncId) (caps:List V):fpD ow h args (.fn k caps)=fpC (cX ow h k (args++caps)):=rfl
theorem b2a (cs:List V):fX (.agg cs)=cs.flatMap rX:=rfl
theorem b6f (f:FuncId) (cs:List V):fX (.fn f cs)=cs.flatMap rX:=rfl
theorem b3p (cs:List V):fX (.tup cs)=cs.flatMap fun| .agg cs=>cs.flatMap rX|v=>rX v:=rfl
theorem b5i (v:Value):fX (.lit v)=[]:=rfl
theorem b1H (m:Nat) (r:List (List V)):fX (.imm m r)=[]:=rfl
theorem b1l (r:List V) (o:Nat):fX (.iptr r o)=[]:=rfl
theorem b2v (b i o m:Nat):fX (.ptr b i o m)=[b]:=rfl
theorem b4m (b s q:Nat):fX (.sl b s q)=[b]:=rfl
theorem a6a:fX .undef=[]:=rfl
theorem b4P (v:Value):rX (.lit v)=[]:=rfl
theorem b2D (m:Nat) (r:List (List V)):rX (.imm m r)=[]:=rfl
theorem a9d (r:List V) (o:Nat):rX (.iptr r o)=[]:=rfl
theorem b2R (b i o m:Nat):rX (.ptr b i o m)=[b]:=rfl
theorem b42 (b s q:Nat):rX (.sl b s q)=[b]:=rfl
theorem b68 (f:FuncId) (cs:List V):rX (.fn f cs)=[]:=rfl
theorem a6L:rX .undef=[]:=rfl
theorem Yj (fp:List Nat) (b:Nat):oA h fp b=br (fp.contains b) (h b) none:=by
 unfold oA
 by_cases hb:b∈fp<;>simp [hb,br]
theorem b3R (rs:List Rec) (i:Nat) (fp wr:List Nat):a6g rs i fp wr=br (fp.isEmpty&&wr.isEmpty) rs (rs++[⟨i,fp,wr⟩]):=by
 have h:Rec.loud ⟨i,fp,wr⟩= !(fp.isEmpty&&wr.isEmpty):=rfl
 unfold a6g
 cases h1:Rec.loud ⟨i,fp,wr⟩ with
 |true=>
  rw [h1] at h
  have h2:(fp.isEmpty&&wr.isEmpty)=false:=by
   cases hx:fp.isEmpty&&wr.isEmpty with
   |false=>rfl
   |true=>rw [hx] at h;cases h
  rw [h2,aw,List.filter_cons_of_pos h1];rfl
 |false=>
  rw [h1] at h
  have h2:(fp.isEmpty&&wr.isEmpty)=true:=by
   cases hx:fp.isEmpty&&wr.isEmpty with
   |true=>rfl
   |false=>rw [hx] at h;cases h
  rw [h2,bF,List.filter_cons_of_neg (by rw [h1];decide)];simp
theorem a5V (deps:List (List Nat)):mT deps []=true:=rfl
theorem a1X (deps:List (List Nat)) (p:Rec) (r:List Rec):mT deps (p::r)=(CV deps p r&&mT deps r):=rfl
theorem b1M (deps:List (List Nat)) (p:Rec):CV deps p []=true:=rfl
theorem a8I (deps:List (List Nat)) (i j:Nat) (f g w u:List Nat) (r:List Rec):CV deps ⟨i,f,w⟩ (⟨j,g,u⟩::r)=((w.isEmpty&&u.isEmpty||(deps.getD j []).contains i|| !(w.any (fun b=>decide (b∈g)||decide (b∈u))||u.any (fun b=>decide (b∈f))))&&CV deps ⟨i,f,w⟩ r):=rfl
theorem a0N {β:Type} (a d:β) (r:List β):(a::r).getD 0 d=a:=rfl
theorem a1C {β:Type} (a d:β) (n:Nat) (r:List β):(a::r).getD (n+1) d=r.getD n d:=rfl
theorem b3M (m:Nat) (cs:List V) (n:Nat):b8x m cs h n=br (Nat.beq cs.length m&&cs.all V.cell) (frO (h n) n ⟨m,true,[cs]⟩ (.ptr n 0 0 1)) none:=rfl
theorem aa (x:Int) (h1: -9223372036854775808≤x) (h2:x<9223372036854775808):IntKind.wrap .i64 x=x:=by
 simp [IntKind.wrap,IntKind.bits,IntKind.signed];omega
theorem cN (x:Int) (h1:0≤x) (h2:x<18446744073709551616):IntKind.wrap .u64 x=x:=by
 simp [IntKind.wrap,IntKind.bits,IntKind.signed];omega
theorem a4p (n:Nat):(OfNat.ofNat n:Int)=(n:Int):=rfl
theorem a8O (n:Nat) (h:Nat.ble n 9223372036854775807=true):IntKind.wrap .i64 (no_index (OfNat.ofNat n:Int))=OfNat.ofNat n:=by
 have h1:=Nat.le_of_ble_eq_true h
 rw [a4p];exact aa _ (by omega) (by omega)
theorem b5K (a b:Nat):(a==b)=decide (a=b):=by
 by_cases h:a=b
 ·subst h;simp
 ·rw [decide_eq_false h];simpa using h
theorem b6X:List.range 0=[]:=rfl
theorem a2J (m:Nat) (vs:List V):jS true h m vs=D9 m [] ((List.range m).flatMap fun b=>a9i (h b)):=rfl
theorem a5a (m:Nat) (vs:List V):jS false h m vs=D9 m [] (vs.flatMap fX):=rfl
theorem b3N (m:Nat) (row:List V):a9i (some ⟨m,true,[row]⟩)=row.flatMap fX:=by simp [a9i]
theorem b3T (m:Nat) (r:List (List V)):a9i (some ⟨m,false,r⟩)=[]:=rfl
theorem b8o:List.range 5=[0,1,2,3,4]:=rfl
theorem b7d:List.range 6=[0,1,2,3,4,5]:=rfl
theorem b8r:List.range 7=[0,1,2,3,4,5,6]:=rfl
theorem b81:List.range 8=[0,1,2,3,4,5,6,7]:=rfl
theorem a6A (m:Nat) (acc:List Nat):D9 m acc []=acc:=rfl
theorem a1H (m b:Nat) (acc r:List Nat):D9 m acc (b::r)=D9 m (br (Nat.ble m b) (gp acc b) acc) r:=by
 simp only [D9,Mz]
 by_cases h:m≤b<;>simp [h,br]
theorem a4g (n:Nat):Int.toNat (no_index (OfNat.ofNat n:Int))=OfNat.ofNat n:=rfl
end
end Go.AI
