/- The machine's operations on values of Lean's own types: what writes, what makes, what calls; a function's end. -/
import Derived.Test.YtdmhkkcihecndaaAiTyp2
set_option linter.unusedVariables false
set_option linter.unusedSimpArgs false
namespace Go.AI
section
variable {C:am} {ow:FuncId→List Nat} {ev:Opd→V} {h:a8} {n:Nat} {α:Type} {e:En α} {l l2:List α}
def snO (k:Option Blk) (b s q:Nat):Option (V×List Nat):=match k with
 |some k=>if k.op=false∧0<k.esz∧s+q=k.rows.length then some (.imm k.esz (k.rows.drop s),[b]) else none
 |none=>none
theorem Ds (b s q:Nat):dX h (.sl b s q)=snO (h b) b s q:=rfl
theorem Ny (m b q:Nat) (h0:Nat.blt 0 m=true) (hq:l.length=q):snO (some ⟨m,false,rws e l⟩) b 0 q=some (.imm m (rws e l),[b]):=by
 rw [kI,decide_eq_true_eq] at h0
 simp [snO,rws,hq,h0]
theorem E6 (k:IntKind) (a:Int):dX h (.lit (.int k a))=some (.lit (.int k a),[]):=rfl
theorem BA (a:Bool):dX h (.lit (.bool a))=some (.lit (.bool a),[]):=rfl
theorem Dy (a:List UInt8):dX h (S a)=some (S a,[]):=rfl
theorem G6:dX h (.lit (.slice none 0 0))=some (.lit (.slice none 0 0),[]):=rfl
theorem Em (m:Nat) (r:List (List V)):dX h (.imm m r)=some (.imm m r,[]):=rfl
def snC:Option (V×List Nat)→Option (List V×List Nat)→Option (List V×List Nat)
 |some (a,bs),some (r,bs')=>some (a.cz::r,bs++bs')
 |_,_=>none
theorem Ak:da h []=some ([],[]):=rfl
theorem xG (v:V) (r:List V):da h (v::r)=snC (dX h v) (da h r):=by
 simp only [da,snC]
 cases dX h v<;>cases da h r<;>rfl
theorem GH (a:V) (bs:List Nat) (r:List V) (bs':List Nat):snC (some (a,bs)) (some (r,bs'))=some (a.cz::r,bs++bs'):=rfl
theorem M1 (k:IntKind) (a:Int):(V.lit (.int k a)).cz= .lit (.int k a):=rfl
theorem HZ (a:Bool):(V.lit (.bool a)).cz= .lit (.bool a):=rfl
theorem Nk (a:List UInt8):(S a).cz=S a:=rfl
theorem Lm (a:Array Value):(V.lit (.tuple a)).cz= .lit (.tuple a):=rfl
theorem L2:(V.lit (.slice none 0 0)).cz= .imm 1 []:=rfl
theorem MY (m:Nat):(V.imm m []).cz= .imm 1 []:=rfl
theorem MS (b i o m:Nat):(V.ptr b i o m).cz= .ptr b i o m:=rfl
theorem Lr (b s q:Nat):(V.sl b s q).cz= .sl b s q:=rfl
theorem Iz (r:List V) (o:Nat):(V.iptr r o).cz= .iptr r o:=rfl
theorem Pn (f:FuncId) (cs:List V):(V.fn f cs).cz= .fn f cs:=rfl
theorem DC:V.undef.cz= .undef:=rfl
theorem K8 (cs:List V):(V.agg cs).czA= .agg (cs.map V.cz):=rfl
theorem JS (k:IntKind) (a:Int):(V.lit (.int k a)).czA= .lit (.int k a):=rfl
theorem Er (a:Bool):(V.lit (.bool a)).czA= .lit (.bool a):=rfl
theorem Ij (a:List UInt8):(S a).czA=S a:=rfl
theorem Jf:(V.lit (.slice none 0 0)).czA= .imm 1 []:=rfl
theorem GM (m:Nat) (r:List (List V)):(V.imm m r).czA=(V.imm m r).cz:=rfl
theorem Hy (b i o m:Nat):(V.ptr b i o m).czA= .ptr b i o m:=rfl
theorem JL (b s q:Nat):(V.sl b s q).czA= .sl b s q:=rfl
theorem Gg (r:List V) (o:Nat):(V.iptr r o).czA= .iptr r o:=rfl
theorem ME (f:FuncId) (cs:List V):(V.fn f cs).czA= .fn f cs:=rfl
theorem Bm:V.undef.czA= .undef:=rfl
theorem GY (cs:List V):(V.tup cs).czR= .tup (cs.map V.czA):=rfl
theorem GK (cs:List V):(V.agg cs).czR= .agg (cs.map V.cz):=rfl
theorem GQ (k:IntKind) (a:Int):(V.lit (.int k a)).czR= .lit (.int k a):=rfl
theorem EV (a:Bool):(V.lit (.bool a)).czR= .lit (.bool a):=rfl
theorem I2 (a:List UInt8):(S a).czR=S a:=rfl
theorem IN:(V.lit (.slice none 0 0)).czR= .imm 1 []:=rfl
theorem Ir (m:Nat) (r:List (List V)):(V.imm m r).czR=(V.imm m r).cz:=rfl
theorem J7 (b i o m:Nat):(V.ptr b i o m).czR= .ptr b i o m:=rfl
theorem Ik (b s q:Nat):(V.sl b s q).czR= .sl b s q:=rfl
theorem F8 (r:List V) (o:Nat):(V.iptr r o).czR= .iptr r o:=rfl
theorem Nu (f:FuncId) (cs:List V):(V.fn f cs).czR= .fn f cs:=rfl
theorem E3 (m:Nat) (row:List V):Blk.cz ⟨m,true,[row]⟩=⟨m,true,[row.map V.cz]⟩:=rfl
theorem FC (m:Nat) (r:List (List V)):Blk.cz ⟨m,false,r⟩=⟨m,false,r⟩:=rfl
theorem L7 (k:IntKind) (a:Int):zc (.int k a)= .lit (.int k a):=rfl
theorem Hj (a:Bool):zc (.bool a)= .lit (.bool a):=rfl
theorem Lg (a:List UInt8):zc (.string ⟨⟨a⟩⟩)=S a:=rfl
theorem MM:zc (.slice none 0 0)= .imm 1 []:=rfl
def stO (k:Option Blk) (b size i o m:Nat) (x:V) (h:a8):Option (V×Upd):=match k with
 |some k=>if k.rows.length=m then (match k.rows[i]? with
  |some row=>
   if k.op then
    (if x.cells.length=size∧o+size≤row.length∧x.cells.all V.cell then
     some (.undef,[(b,{ k with rows:=k.rows.set i (row.take o++(x.cells++row.drop (o+size))) })]) else none)
   else match da h x.cells with
    |some (cs,bs)=>if cs.length=size∧o+size≤row.length∧ ¬b∈bs then
     some (.undef,bK bs++[(b,{ k with rows:=k.rows.set i (row.take o++(cs++row.drop (o+size))) })]) else none
    |none=>none
  |none=>none) else none
 |none=>none
def xD (size:Nat) (a x:V) (h:a8):Option (V×Upd):=match a with
 | .ptr b i o m=>stO (h b) b size i o m x h
 |_=>none
theorem ID (size:Nat) (a x:Opd):a6 C ow (.store size a x) ev h n=xD size (ev a) (ev x) h:=by
 simp only [a6,xD,stO]
 cases ev a with
 |ptr b i o m=>dsimp only;cases h b<;>rfl
 |_=>rfl
theorem Dk (size b i o m:Nat) (x:V):xD size (.ptr b i o m) x h=stO (h b) b size i o m x h:=rfl
theorem yY (m b size o:Nat) (row:List V) (x:V):stO (some ⟨m,true,[row]⟩) b size 0 o 1 x h=
 br (Nat.beq x.cells.length size&&(Nat.ble (o+size) row.length&&x.cells.all V.cell)) (some (.undef,[(b,⟨m,true,[row.take o++(x.cells++row.drop (o+size))]⟩)])) none:=by
 rw [nk,mL]
 by_cases h1:x.cells.length=size<;>by_cases h2:o+size≤row.length<;>cases h3:x.cells.all V.cell<;>simp [stO,h1,h2,h3,br]
def stT (r:List (List V)) (m b size i o:Nat) (row:List V):Option (List V×List Nat)→Option (V×Upd)
 |some (cs,bs)=>br (Nat.beq cs.length size&&(Nat.ble (o+size) row.length&& !bs.contains b)) (some (.undef,bK bs++[(b,⟨m,false,cG r i (row.take o++(cs++row.drop (o+size)))⟩)])) none
 |none=>none
theorem wc (r:List (List V)) (m b size i o:Nat) (row cs:List V) (bs:List Nat):stT r m b size i o row (some (cs,bs))=
 br (Nat.beq cs.length size&&(Nat.ble (o+size) row.length&& !bs.contains b)) (some (.undef,bK bs++[(b,⟨m,false,cG r i (row.take o++(cs++row.drop (o+size)))⟩)])) none:=rfl
theorem KM (m b size i o q:Nat) (x:V) (hq:l.length=q):stO (some ⟨m,false,rws e l⟩) b size i o q x h=(l[i]?).bind (fun y=>stT (rws e l) m b size i o (e.enc y) (da h x.cells)):=by
 simp only [stO]
 have:(rws e l).length=q:=by simp [rws,hq]
 rw [if_pos this]
 have h2:(rws e l)[i]? =(l[i]?).map e.enc:=by simp [rws]
 rw [h2]
 cases hl:l[i]? with
 |none=>rfl
 |some y=>
  simp only [Option.map_some,Option.bind_some]
  cases hs:da h x.cells with
  |none=>simp [stT]
  |some p=>
   obtain ⟨cs,bs⟩:=p
   rw [wc,nk,mL]
   by_cases h1:cs.length=size<;>by_cases h2:o+size≤(e.enc y).length<;>by_cases h3:b∈bs<;>simp [h1,h2,h3,br,cG]
def psC (i:Nat):Option (List V×List Nat)→Option (List (Nat×V)×List Nat)→Option (List (Nat×V)×List Nat)
 |some (cs,bs),some (r',bs')=>some ((i,.agg cs)::r',bs++bs')
 |_,_=>none
theorem rY:aS h ev []=some ([],[]):=rfl
theorem pA (i:Nat) (x:Opd) (r:List (Nat×Opd)):aS h ev ((i,x)::r)=psC i (da h (ev x).cells) (aS h ev r):=by
 simp only [aS,psC]
 cases da h (ev x).cells<;>cases aS h ev r<;>rfl
theorem Ff (i:Nat) (cs:List V) (bs:List Nat) (r:List (Nat×V)) (bs':List Nat):psC i (some (cs,bs)) (some (r,bs'))=some ((i,.agg cs)::r,bs++bs'):=rfl
def mW (esz:Nat) (rows:List (List V)):List (Nat×V)→Option (List (List V))
 |[]=>some rows
 | (i,v)::r=>br (Nat.beq v.cells.length esz&&(Nat.blt i rows.length&&v.cells.all V.cell)) (mW esz (rows.set i v.cells) r) none
theorem vJ (esz:Nat): ∀(ps:List (Nat×V)) (rows:List (List V)),pU esz rows ps=mW esz rows ps
 |[],_=>rfl
 | (i,v)::r,rows=>by
   simp only [pU,mW,nk,kI]
   rw [←vJ esz r]
   by_cases h1:v.cells.length=esz<;>by_cases h2:i<rows.length<;>cases h3:v.cells.all V.cell<;>simp [h1,h2,br]
def yc (u0:Upd):Option (V×Upd)→Option (V×Upd)
 |some (v,u)=>some (v,u0++u)
 |none=>none
theorem BQ (u0 u:Upd) (v:V):yc u0 (some (v,u))=some (v,u0++u):=rfl
theorem Kb (u0:Upd) (c:Bool) (x y:Option (V×Upd)):yc u0 (br c x y)=br c (yc u0 x) (yc u0 y):=by cases c<;>rfl
theorem C6 (u0:Upd):yc u0 none=none:=rfl
def bsR (esz len:Nat) (zero:List Value) (bs:List Nat) (h:a8) (n:Nat):Option (List (List V))→Option (V×Upd)
 |some rows=>br (Nat.beq zero.length esz&&(zero.all ag&&(Nat.ble (len*esz) 16777216&& !bs.contains n))) (yc (bK bs) (frO (h n) n ⟨esz,false,mkR n rows⟩ (.sl n 0 len))) none
 |none=>none
def bsS (esz len:Nat) (zero:List Value) (h:a8) (n:Nat):Option (List (Nat×V)×List Nat)→Option (V×Upd)
 |some (ps,bs)=>bsR esz len zero bs h n (mW esz (List.replicate len (zero.map zc)) ps)
 |none=>none
theorem uP (esz len:Nat) (zero:List Value) (ps:List (Nat×Opd)):a6 C ow (.buildSlice esz zero len ps) ev h n=bsS esz len zero h n (aS h ev ps):=by
 simp only [a6,bsS,vJ,gY]
 cases aS h ev ps with
 |none=>rfl
 |some p=>
  obtain ⟨qs,bs⟩:=p
  dsimp only
  cases mW esz (List.replicate len (zero.map zc)) qs with
  |none=>rfl
  |some rows=>
   simp only [bsR,nk,mL,mkR]
   by_cases h1:zero.length=esz<;>cases h2:zero.all ag<;>by_cases h3:len*esz≤16777216<;>by_cases h4:n∈bs<;>simp [h1,h3,h4,br]
   cases frO (h n) n ⟨esz,false,rows⟩ (.sl n 0 len)<;>rfl
theorem FH (esz len:Nat) (zero:List Value) (ps:List (Nat×V)) (bs:List Nat):bsS esz len zero h n (some (ps,bs))=bsR esz len zero bs h n (mW esz (List.replicate len (zero.map zc)) ps):=rfl
theorem D0 (esz len:Nat) (zero:List Value) (bs:List Nat) (rows:List (List V)):bsR esz len zero bs h n (some rows)=br (Nat.beq zero.length esz&&(zero.all ag&&(Nat.ble (len*esz) 16777216&& !bs.contains n))) (yc (bK bs) (frO (h n) n ⟨esz,false,mkR n rows⟩ (.sl n 0 len))) none:=rfl
def tbS (x:V) (h:a8) (n:Nat):Option (V×Upd):=match x with
 | .lit (.string s)=>if s.size≤aC then cQ h n ⟨1,false,s.data.toList.map fun b=>[.lit (.int .u8 b.toNat)]⟩ (.sl n 0 s.size) else none
 |_=>none
theorem C9 (x:Opd):a6 C ow (.toBytes x) ev h n=tbS (ev x) h n:=rfl
theorem NN (s:List UInt8):tbS (S s) h n=br (mH s.length 1) (frO (h n) n ⟨1,false,rws eU8 s⟩ (.sl n 0 s.length)) none:=by
 simp only [tbS,tu,mH,Nat.mul_one,gY]
 by_cases h1:s.length≤aC<;>simp [h1,br]
 rfl
def boS (x:V) (h:a8):Option (V×Upd):=match x with
 | .sl b s n=>match h b with
   |some k=>if k.op=false∧0<k.esz∧s+n=k.rows.length∧0<n then some (.sl b s n,[(b,k)]) else none
   |none=>none
 |_=>none
theorem yE (x:Opd):a6 C ow (.bytesOwn x) ev h n=boS (ev x) h:=rfl
def boO (k:Option Blk) (b s n:Nat):Option (V×Upd):=match k with
 |some k=>if k.op=false∧0<k.esz∧s+n=k.rows.length∧0<n then some (.sl b s n,[(b,k)]) else none
 |none=>none
theorem JW (b s q:Nat):boS (.sl b s q) h=boO (h b) b s q:=rfl
theorem Mz (b m q:Nat) (h0:Nat.blt 0 m=true) (hq:l.length=q):boO (some ⟨m,false,rws e l⟩) b 0 q=br (decide (0<q)) (some (.sl b 0 q,[(b,⟨m,false,rws e l⟩)])) none:=by
 rw [kI,decide_eq_true_eq] at h0
 by_cases h1:0<q<;>simp [boO,rws,hq,h0,h1,br]
theorem xr (l:List UInt8):a6.bytesOf (rws eU8 l)=some l:=by
 induction l with
 |nil=>rfl
 |cons b l ih=>
  simp only [rws,List.map_cons,eU8] at ih ⊢
  simp only [a6.bytesOf]
  have h1:(0:Int)≤(b.toNat:Int)∧(b.toNat:Int)<256:=⟨by omega,by have:=b.toNat_lt;omega⟩
  rw [if_pos h1,ih]
  simp
def tsR:Option (List (List V))→Option (V×Upd)
 |some rows=>match a6.bytesOf rows with
  |some l=>some (.lit (.string ⟨l.toArray⟩),[])
  |none=>none
 |none=>none
def tsS (x:V) (h:a8):Option (V×Upd):=br (zY x) none (tsR (aR h 1 x))
theorem HT (x:Opd):a6 C ow (.toStr x) ev h n=tsS (ev x) h:=by
 simp only [a6,tsS,tsR]
 cases zY (ev x)
 ·simp only [Bool.false_eq_true,if_false,aA]
  cases aR h 1 (ev x)<;>rfl
 ·rfl
theorem FA (l:List UInt8):tsR (some (rws eU8 l))=some (S l,[]):=by
 simp only [tsR,xr]
theorem N3 (l:List UInt8):tsS (sl eU8 l) h=some (S l,[]):=by
 rw [tsS,wK,aA,sT 1 rfl,FA]
def roO (k:Option Blk) (m s q:Nat):Option (List (List V)):=match k with
 |some k=>if k.op=false∧0<k.esz∧k.esz=m∧s+q=k.rows.length then some (k.rows.drop s) else none
 |none=>none
theorem z1 (m b s q:Nat):aR h m (.sl b s q)=roO (h b) m s q:=rfl
theorem KT (m q:Nat) (h0:Nat.blt 0 m=true) (hq:l.length=q):roO (some ⟨m,false,rws e l⟩) m 0 q=some (rws e l):=by
 rw [kI,decide_eq_true_eq] at h0
 simp [roO,rws,hq,h0]
theorem yQ (s:List UInt8):aR h 1 (S s)=some (rws eU8 s):=rfl
theorem IC (b s q:Nat):tsS (.sl b s q) h=tsR (roO (h b) 1 s q):=rfl
theorem Hh:tsS (.lit (.slice none 0 0)) h=some (S [],[]):=rfl
theorem IJ:tsS (.imm 1 []) h=some (S [],[]):=rfl
def Lf (esz bytes:Nat) (zero:List Value) (len cap:V) (h:a8) (n:Nat):Option (V×Upd):=match asI len,asI cap with
 |some l,some c=>if 0≤l∧l≤c∧c*bytes≤aC∧c*esz≤aC∧zero.length=esz∧zero.all ag then
  cQ h n ⟨esz,false,List.replicate l.toNat (zero.map zc)⟩ (.sl n 0 l.toNat) else none
 |_,_=>none
theorem vz (esz bytes:Nat) (zero:List Value) (len cap:Opd):a6 C ow (.makeSlice esz bytes zero len cap) ev h n=Lf esz bytes zero (ev len) (ev cap) h n:=rfl
theorem M8 (esz bytes:Nat) (zero:List Value) (k k':IntKind) (a c:Int) (hb:Nat.ble esz bytes=true) (hz:Nat.beq zero.length esz=true) (hz2:zero.all ag=true):
 Lf esz bytes zero (.lit (.int k a)) (.lit (.int k' c)) h n=br (nw a c bytes) (frO (h n) n ⟨esz,false,oN n a.toNat (zero.map zc)⟩ (.sl n 0 (zA (oN n a.toNat (zero.map zc))))) none:=by
 have hz3:=Nat.eq_of_beq_eq_true hz
 have hb2:=Nat.le_of_ble_eq_true hb
 simp only [Lf,asI,nw,hz3,hz2,gY,oN,zA,List.length_replicate]
 by_cases h1:0≤a<;>by_cases h2:a≤c<;>by_cases h3:c*bytes≤aC<;>simp [h1,h2,h3,br]
 intro h4
 exfalso
 have:c*esz≤c*bytes:=Int.mul_le_mul_of_nonneg_left (by omega) (by omega)
 omega
def slS (esz:Nat) (x:V) (lo hi mx:Option V) (h:a8):Option (V×Upd):=match mx with
 |some _=>none
 |none=>match x with
  | .lit (.slice none 0 0)=>match aH hi 0 0 with
    |some q=>match aH lo 0 q with
     |some _=>some (.lit (.slice none 0 0),[])
     |none=>none
    |none=>none
  | .sl b s n=>match h b with
    |some k=>if k.op=false∧0<k.esz∧k.esz=esz∧s+n=k.rows.length then (match aH hi n n with
     |some q=>match aH lo 0 q with
      |some p=>if q=n then some (.sl b (s+p) (n-p),[]) else some ((V.imm esz (((k.rows.drop s).take q).drop p)).cz,[(b,dK)])
      |none=>none
     |none=>none) else none
    |none=>none
  | .imm e rows=>if e=esz∨rows=[] then (match aH hi rows.length rows.length with
   |some q=>match aH lo 0 q with
    |some p=>some ((V.imm e ((rows.take q).drop p)).cz,[])
    |none=>none
   |none=>none) else none
  |_=>none
theorem J9 (esz:Nat) (x:Opd) (lo hi:Option Opd):a6 C ow (.slice esz x lo hi none) ev h n=slS esz (ev x) (lo.map ev) (hi.map ev) none h:=rfl
theorem gU (d m:Nat):aH none d m=some d:=rfl
theorem iV (k:IntKind) (i:Int) (d m:Nat):aH (some (.lit (.int k i))) d m=if 0≤i∧i≤m then some i.toNat else none:=rfl
theorem pd (m:Nat) (hm:e.esz=m) (lo hi:Option V):slS m (sl e l) lo hi none h=(match aH hi l.length l.length with
 |some q=>match aH lo 0 q with
  |some p=>some (sl e ((l.take q).drop p),[])
  |none=>none
 |none=>none):=by
 subst hm
 rcases cF e l with ⟨rfl,hs⟩|⟨hne,hs⟩
 ·rw [hs]
  simp only [slS,List.length_nil,or_true,if_true]
  cases aH hi 0 0 with
  |none=>rfl
  |some q=>cases aH lo 0 q<;>simp [N2,V.cz]
 ·rw [hs]
  simp only [slS,true_or,if_true,rws,List.length_map]
  cases aH hi l.length l.length with
  |none=>rfl
  |some q=>cases aH lo 0 q<;>simp [sl,rws, ←List.map_take, ←List.map_drop]
theorem Mr (m:Nat) (hm:e.esz=m):slS m (sl e l) none none none h=some (sl e l,[]):=by
 rw [pd m hm];simp [gU]
theorem LC (m:Nat) (hm:e.esz=m) (k:IntKind) (a:Int):slS m (sl e l) (some (.lit (.int k a))) none none h=(oH l a l.length).bind (fun l'=>some (sl e l',[])):=by
 rw [pd m hm]
 simp only [gU,iV,oH]
 by_cases h1:0≤a<;>by_cases h2:a≤(l.length:Int)<;>simp [h1,h2]
theorem MW (m:Nat) (hm:e.esz=m) (k:IntKind) (b:Int):slS m (sl e l) none (some (.lit (.int k b))) none h=(oH l 0 b).bind (fun l'=>some (sl e l',[])):=by
 rw [pd m hm]
 simp only [gU,iV,oH]
 by_cases h1:0≤b<;>by_cases h2:b≤(l.length:Int)<;>simp [h1,h2]
theorem L5 (m:Nat) (hm:e.esz=m) (k k':IntKind) (a b:Int):slS m (sl e l) (some (.lit (.int k a))) (some (.lit (.int k' b))) none h=(oH l a b).bind (fun l'=>some (sl e l',[])):=by
 rw [pd m hm]
 simp only [iV,oH]
 by_cases h1:0≤b<;>by_cases h2:b≤(l.length:Int)<;>by_cases h3:0≤a<;>by_cases h4:a≤b
 all_goals (have e1:((b.toNat:Nat):Int)=b∨ ¬0≤b:=by omega)
 all_goals (rcases e1 with e1|e1)
 all_goals (first|omega| (simp [h1,h2,h3,h4,e1];try omega))
def slO (k:Option Blk) (m b s q:Nat) (a:Int):Option (V×Upd):=match k with
 |some k=>if k.op=false∧0<k.esz∧k.esz=m∧s+q=k.rows.length then (if 0≤a∧a≤q then some (.sl b (s+a.toNat) (q-a.toNat),[]) else none) else none
 |none=>none
theorem Hd (m b s q:Nat) (k:IntKind) (a:Int):slS m (.sl b s q) (some (.lit (.int k a))) none none h=slO (h b) m b s q a:=by
 simp only [slS,slO,gU,iV]
 cases h b with
 |none=>rfl
 |some k=>
  dsimp only
  split
  ·by_cases hc:0≤a∧a≤(q:Int)
   ·rw [if_pos hc,if_pos hc];simp
   ·rw [if_neg hc,if_neg hc]
  ·rfl
theorem LQ (m b s q:Nat) (a:Int) (h0:Nat.blt 0 m=true) (hq:s+q=l.length):slO (some ⟨m,false,rws e l⟩) m b s q a=br (decide (0≤a)&&decide (a≤q)) (some (.sl b (s+a.toNat) (q-a.toNat),[])) none:=by
 rw [kI,decide_eq_true_eq] at h0
 by_cases h1:0≤a<;>by_cases h2:a≤(q:Int)<;>simp [slO,rws,hq,h0,h1,h2,br]
def ssS (x:V) (lo hi:Option V):Option (V×Upd):=match x with
 | .lit (.string s)=>match aH hi s.size s.size with
   |some b=>match aH lo 0 b with
    |some a=>some (.lit (.string (s.extract a b)),[])
    |none=>none
   |none=>none
 |_=>none
theorem zn (x:Opd) (lo hi:Option Opd):a6 C ow (.sliceStr x lo hi) ev h n=ssS (ev x) (lo.map ev) (hi.map ev):=rfl
theorem zg (s:List UInt8) (a b:Nat):(⟨⟨s⟩⟩:ByteArray).extract a b=⟨⟨(s.take b).drop a⟩⟩:=by
 apply ByteArray.ext
 rw [ByteArray.data_extract]
 apply Array.ext'
 simp [List.extract_eq_take_drop,List.drop_take]
theorem p9 (s:List UInt8) (lo hi:Option V):ssS (S s) lo hi=(match aH hi s.length s.length with
 |some q=>match aH lo 0 q with
  |some p=>some (S ((s.take q).drop p),[])
  |none=>none
 |none=>none):=by
 simp only [ssS,tu,zg]
theorem Nh (s:List UInt8):ssS (S s) none none=some (S s,[]):=by rw [p9];simp [gU]
theorem Lt (s:List UInt8) (k:IntKind) (a:Int):ssS (S s) (some (.lit (.int k a))) none=(oH s a s.length).bind (fun l'=>some (S l',[])):=by
 rw [p9]
 simp only [gU,iV,oH]
 by_cases h1:0≤a<;>by_cases h2:a≤(s.length:Int)<;>simp [h1,h2]
theorem Lz (s:List UInt8) (k:IntKind) (b:Int):ssS (S s) none (some (.lit (.int k b)))=(oH s 0 b).bind (fun l'=>some (S l',[])):=by
 rw [p9]
 simp only [gU,iV,oH]
 by_cases h1:0≤b<;>by_cases h2:b≤(s.length:Int)<;>simp [h1,h2]
theorem MI (s:List UInt8) (k k':IntKind) (a b:Int):ssS (S s) (some (.lit (.int k a))) (some (.lit (.int k' b)))=(oH s a b).bind (fun l'=>some (S l',[])):=by
 rw [p9]
 simp only [iV,oH]
 by_cases h1:0≤b<;>by_cases h2:b≤(s.length:Int)<;>by_cases h3:0≤a<;>by_cases h4:a≤b
 all_goals (have e1:((b.toNat:Nat):Int)=b∨ ¬0≤b:=by omega)
 all_goals (rcases e1 with e1|e1)
 all_goals (first|omega| (simp [h1,h2,h3,h4,e1];try omega))
def apS (esz bytes:Nat) (zero:List Value) (x y:V) (h:a8) (n:Nat):Option (List (List V))→Option (V×Upd)
 |none=>none
 |some new_=>if zero.length=esz∧0<esz∧new_.length*bytes≤aC∧new_.length*esz≤aC then
  (match x with
  | .sl b 0 n=>match h b with
    |some k=>if k.op=false∧0<k.esz∧k.esz=esz∧n=k.rows.length∧(n+new_.length)*bytes≤aC∧(n+new_.length)*esz≤aC∧a6.selfOk b y then
     some (.sl b 0 (n+new_.length),[(b,{ k with rows:=k.rows++new_ })]) else none
    |none=>none
  | .lit (.slice none 0 0)=>cQ h n ⟨esz,false,new_⟩ (.sl n 0 new_.length)
  | .imm 0 []=>cQ h n ⟨esz,false,new_⟩ (.sl n 0 new_.length)
  |_=>none) else none
theorem Ge (esz bytes:Nat) (zero:List Value) (x y:Opd):a6 C ow (.append esz bytes zero x y) ev h n=apS esz bytes zero (ev x) (ev y) h n (aR h esz (ev y)):=by
 simp only [a6]
 cases aR h esz (ev y) with
 |none=>rfl
 |some r=>rfl
def np (b:Nat) (y:V):Bool:=a6.selfOk b y
theorem Ft (b:Nat):np b (sl e l)=true:=by
 rcases cF e l with ⟨_,h⟩|⟨_,h⟩<;>rw [h]<;>rfl
theorem BC (b b' s q:Nat):np b (.sl b' s q)=(b !=b'):=rfl
theorem Bo (b:Nat) (s:List UInt8):np b (S s)=true:=rfl
theorem BO (b:Nat):np b (.lit (.slice none 0 0))=true:=rfl
theorem BF (b m:Nat) (r:List (List V)):np b (.imm m r)=true:=rfl
def apO (k:Option Blk) (esz bytes:Nat) (zero:List Value) (b q:Nat) (sb:Bool) (new_:List (List V)):Option (V×Upd):=match k with
 |some k=>if zero.length=esz∧0<esz∧new_.length*bytes≤aC∧new_.length*esz≤aC then
  (if k.op=false∧0<k.esz∧k.esz=esz∧q=k.rows.length∧(q+new_.length)*bytes≤aC∧(q+new_.length)*esz≤aC∧sb=true then
        some (.sl b 0 (q+new_.length),[(b,{ k with rows:=k.rows++new_ })]) else none) else none
 |none=>none
theorem GW (esz bytes:Nat) (zero:List Value) (b q:Nat) (y:V) (new_:List (List V)):apS esz bytes zero (.sl b 0 q) y h n (some new_)=apO (h b) esz bytes zero b q (np b y) new_:=by
 simp only [apS,apO,np]
 cases h b with
 |none=>simp
 |some k=>rfl
theorem Ms (m bytes:Nat) (zero:List Value) (b q:Nat) (sb:Bool) (hz:Nat.beq zero.length m=true) (h0:Nat.blt 0 m=true) (hb:Nat.ble m bytes=true) (hq:l.length=q) (hs:sb=true):
 apO (some ⟨m,false,rws e l⟩) m bytes zero b q sb (rws e l2)=br (mH (l++l2).length bytes) (some (.sl b 0 (l++l2).length,[(b,⟨m,false,rws e (l++l2)⟩)])) none:=by
 have hz3:=Nat.eq_of_beq_eq_true hz
 have hb2:=Nat.le_of_ble_eq_true hb
 rw [kI,decide_eq_true_eq] at h0
 subst hs hq
 simp only [apO,mH,rws,List.length_map,List.length_append,List.map_append]
 have e1:(l.length+l2.length)*m≤(l.length+l2.length)*bytes:=Nat.mul_le_mul_left _ hb2
 have e2:l2.length*bytes≤(l.length+l2.length)*bytes:=Nat.mul_le_mul_right _ (by omega)
 have e3:l2.length*m≤l2.length*bytes:=Nat.mul_le_mul_left _ hb2
 by_cases hf:(l.length+l2.length)*bytes≤aC
 ·rw [if_pos ⟨hz3,h0,by omega,by omega⟩,if_pos ⟨by trivial,h0,by trivial,by trivial,hf,by omega,by trivial⟩,decide_eq_true hf,bF]
 ·rw [decide_eq_false hf,aA]
  split
  ·rw [if_neg (fun hc=>hf hc.2.2.2.2.1)]
  ·rfl
theorem JC (m bytes:Nat) (zero:List Value) (y:V) (hz:Nat.beq zero.length m=true) (h0:Nat.blt 0 m=true) (hb:Nat.ble m bytes=true):
 apS m bytes zero (.lit (.slice none 0 0)) y h n (some (rws e l2))=br (mH l2.length bytes) (frO (h n) n ⟨m,false,rws e l2⟩ (.sl n 0 l2.length)) none:=by
 have hz3:=Nat.eq_of_beq_eq_true hz
 have hb2:=Nat.le_of_ble_eq_true hb
 rw [kI,decide_eq_true_eq] at h0
 simp only [apS,mH,gY]
 have hl:(rws e l2).length=l2.length:=by simp [rws]
 rw [hl]
 have e3:l2.length*m≤l2.length*bytes:=Nat.mul_le_mul_left _ hb2
 by_cases hf:l2.length*bytes≤aC
 ·rw [if_pos ⟨hz3,h0,hf,by omega⟩,decide_eq_true hf,bF]
 ·rw [decide_eq_false hf,aA,if_neg (fun hc=>hf hc.2.2.1)]
def sq (l:List α) (s k:Nat) (l2:List α):List α:=l.take s++(l2.take k++l.drop (s+k))
def Mo (esz bytes:Nat) (zero:List Value) (x y:V) (h:a8) (n:Nat):Option (V×Upd):=match asI y with
 |some l=>if 0≤l∧l≤1099511627776∧l*bytes≤1099511627776∧zero.all ag then lT esz bytes zero x (fun _=>true) h n (List.replicate l.toNat (zero.map zc)) else none
 |none=>none
theorem Bj (esz bytes:Nat) (zero:List Value) (x y:Opd):a6 C ow (.appendN esz bytes zero x y) ev h n=Mo esz bytes zero (ev x) (ev y) h n:=rfl
theorem Dq (m bytes:Nat) (zero:List Value) (b q:Nat) (k:IntKind) (a:Int) (hz2:zero.all ag=true):
 Mo m bytes zero (.sl b 0 q) (.lit (.int k a)) h n=br (nw a a bytes&&decide (a≤1099511627776)) (apO (h b) m bytes zero b q true (oN n a.toNat (zero.map zc))) none:=by
 simp only [Mo,asI,nw,hz2,oN,aC]
 by_cases h1:0≤a<;>by_cases h2:a*bytes≤1099511627776<;>by_cases h3:a≤1099511627776<;>simp [h1,h2,h3,br]
 simp only [lT,apO]
 cases h b with
 |none=>simp
 |some kk=>rfl
def cpS (esz:Nat) (x y:V) (h:a8):Option (List (List V))→Option (V×Upd)
 |some rows=>match x with
  | .sl b s n=>match h b with
    |some k=>if k.op=false∧0<k.esz∧k.esz=esz∧s+n=k.rows.length∧a6.selfOk b y then
     some (.lit (.int .i64 (min rows.length n)),[(b,{ k with rows:=k.rows.take s++(rows.take (min rows.length n)++k.rows.drop (s+min rows.length n)) })]) else none
    |none=>none
  |_=>none
 |none=>none
theorem Li (esz:Nat) (x y:Opd):a6 C ow (.copy esz x y) ev h n=cpS esz (ev x) (ev y) h (aR h esz (ev y)):=by
 simp only [a6,cpS]
 cases aR h esz (ev y) with
 |none=>rfl
 |some r=>cases ev x<;>rfl
def cpO (k:Option Blk) (esz b s q:Nat) (sb:Bool) (rows:List (List V)):Option (V×Upd):=match k with
 |some k=>if k.op=false∧0<k.esz∧k.esz=esz∧s+q=k.rows.length∧sb=true then
  some (.lit (.int .i64 (min rows.length q)),[(b,{ k with rows:=k.rows.take s++(rows.take (min rows.length q)++k.rows.drop (s+min rows.length q)) })]) else none
 |none=>none
theorem Is (esz b s q:Nat) (y:V) (rows:List (List V)):cpS esz (.sl b s q) y h (some rows)=cpO (h b) esz b s q (np b y) rows:=by
 simp only [cpS,cpO,np]
 cases h b<;>rfl
theorem MJ (m b s q:Nat) (sb:Bool) (h0:Nat.blt 0 m=true) (hs:sb=true):cpO (some ⟨m,false,rws e l⟩) m b s q sb (rws e l2)=
 br (decide (s+q=l.length)) (some (I (min (l2.length:Int) (q:Int)),[(b,⟨m,false,rws e (sq l s (min l2.length q) l2)⟩)])) none:=by
 rw [kI,decide_eq_true_eq] at h0
 subst hs
 simp only [cpO]
 by_cases hq:s+q=l.length
 ·rw [if_pos ⟨by trivial,h0,by trivial,by simp [rws,hq],by trivial⟩,decide_eq_true hq,bF]
  simp [rws,sq,List.map_take,List.map_drop]
 ·rw [decide_eq_false hq,aA,if_neg (fun hc=>hq (by simpa [rws] using hc.2.2.2.1))]
def ncS (x:V) (h:a8):Option (V×Upd):=match x with
 | .ptr b i o n=>match h b with
   |some k=>if k.rows.length=n∧i<n then some (.ptr b i o n,[]) else none
   |none=>none
 | .iptr r o=>some (.iptr r o,[])
 | .fn f c=>some (.fn f c,[])
 |_=>none
theorem y4 (x:Opd):a6 C ow (.nilCheck x) ev h n=ncS (ev x) h:=by
 simp only [a6,ncS]
 cases ev x<;>rfl
def ncO (k:Option Blk) (b i o m:Nat):Option (V×Upd):=match k with
 |some k=>if k.rows.length=m∧i<m then some (.ptr b i o m,[]) else none
 |none=>none
theorem O4 (b i o m:Nat):ncS (.ptr b i o m) h=ncO (h b) b i o m:=rfl
theorem MB (b o m:Nat) (row:List V):ncO (some ⟨m,true,[row]⟩) b 0 o 1=some (.ptr b 0 o 1,[]):=rfl
theorem NL (r:List V) (o:Nat):ncS (.iptr r o) h=some (.iptr r o,[]):=rfl
theorem OK (f:FuncId) (c:List V):ncS (.fn f c) h=some (.fn f c,[]):=rfl
def mxS (x y:V):Option (V×Upd):=match x,y with
 | .lit (.int k a),.lit (.int _ b)=>some (.lit (.int k (if b>a then b else a)),[])
 |_,_=>none
theorem KV (x y:Opd):a6 C ow (.max2 x y) ev h n=mxS (ev x) (ev y):=by
 simp only [a6,mxS]
 cases ev x<;>cases ev y<;>rfl
theorem NX (k k':IntKind) (a b:Int):mxS (.lit (.int k a)) (.lit (.int k' b))=some (.lit (.int k (mx a b)),[]):=rfl
def mnS (x y:V):Option (V×Upd):=match x,y with
 | .lit (.int k a),.lit (.int _ b)=>some (.lit (.int k (if b<a then b else a)),[])
 |_,_=>none
theorem Ni (x y:Opd):a6 C ow (.min2 x y) ev h n=mnS (ev x) (ev y):=by
 simp only [a6,mnS]
 cases ev x<;>cases ev y<;>rfl
theorem O8 (k k':IntKind) (a b:Int):mnS (.lit (.int k a)) (.lit (.int k' b))=some (.lit (.int k (mn a b)),[]):=rfl
def mU (fl:Bool) (h:a8) (new:Nat) (ids bor:List Nat):Option (V×List Blk)→Option (V×Upd)
 |some (r,bs)=>iH fl h new ids bor r bs
 |none=>none
def mR (C:am) (ow:FuncId→List Nat) (h:a8) (new:Nat) (f:FuncId):Option (List V×List Blk×List Nat×List Nat)→Option (V×Upd)
 |some (args',blks,ids,bor)=>mU ((ow f).contains 2000) h new ids bor (C f (fy (ow f) args') (fB (ow f) blks))
 |none=>none
theorem t0 (f:FuncId) (args:List V):di C ow h n f args=mR C ow h n f (b7 ow h f args):=by
 unfold di mR mU
 cases b7 ow h f args with
 |none=>rfl
 |some p=>obtain ⟨a,b,c,d⟩:=p;dsimp only;cases C f (fy (ow f) a) (fB (ow f) b)<;>rfl
theorem Lb (f:FuncId) (args:List Opd):a6 C ow (.call f args) ev h n=mR C ow h n f (b7 ow h f (args.map ev)):=t0 _ _
def N7 (C:am) (ow:FuncId→List Nat) (h:a8) (n:Nat) (args:List V):V→Option (V×Upd)
 | .fn k caps=>mR C ow h n k (b7 ow h k (args++caps))
 |_=>none
theorem NP (f:Opd) (args:List Opd):a6 C ow (.dyn f args) ev h n=N7 C ow h n (args.map ev) (ev f):=by
 simp only [a6,N7]
 cases ev f<;>first|rfl|exact t0 _ _
theorem Jv (args:List V) (k:FuncId) (caps:List V):N7 C ow h n args (.fn k caps)=mR C ow h n k (b7 ow h k (args++caps)):=rfl
theorem yk (f:FuncId) (a:List V) (b:List Blk) (c d:List Nat):mR C ow h n f (some (a,b,c,d))=mU ((ow f).contains 2000) h n c d (C f (fy (ow f) a) (fB (ow f) b)):=rfl
theorem Eh (f:FuncId) (c:Bool) (x y:Option (List V×List Blk×List Nat×List Nat)):mR C ow h n f (br c x y)=br c (mR C ow h n f x) (mR C ow h n f y):=by cases c<;>rfl
def zG (args':List V) (bor:List Nat):Option (List Blk×List Nat)→Option (List V×List Blk×List Nat×List Nat)
 |some (blks,ids)=>br (bor.any (fun b=>decide (b∈ids))) none (some (args',blks,ids,bor))
 |none=>none
def vL (h:a8):Option (List V×List Nat×List Nat)→Option (List V×List Blk×List Nat×List Nat)
 |some (args',ids0,bor)=>zG args' bor (bi h 40 0 ids0)
 |none=>none
theorem wJ (f:FuncId) (args:List V):b7 ow h f args=vL h (bY h (ow f) 0 [] args):=by
 unfold b7 vL zG
 cases bY h (ow f) 0 [] args with
 |none=>rfl
 |some p=>
  obtain ⟨a,i,b⟩:=p
  dsimp only
  cases bi h 40 0 i with
  |none=>rfl
  |some q=>
   obtain ⟨bl,ids⟩:=q
   dsimp only
   cases hb:b.any (fun b=>decide (b∈ids))<;>simp [br]
theorem za (a:List V) (i b:List Nat):vL h (some (a,i,b))=zG a b (bi h 40 0 i):=rfl
theorem yT (a:List V) (b:List Nat) (bl:List Blk) (ids:List Nat):zG a b (some (bl,ids))=br (b.any (fun b=>decide (b∈ids))) none (some (a,bl,ids,b)):=rfl
def la2 (v':V) (bs:List Nat):Option (List V×List Nat×List Nat)→Option (List V×List Nat×List Nat)
 |some (r',ids'',bs')=>some (v'::r',ids'',bs++bs')
 |none=>none
def la1 (h:a8) (owns:List Nat) (j:Nat) (r:List V):Option (V×List Nat×List Nat)→Option (List V×List Nat×List Nat)
 |some (v',ids',bs)=>la2 v' bs (bY h owns (j+1) ids' r)
 |none=>none
theorem vV (owns:List Nat) (j:Nat) (ids:List Nat):bY h owns j ids []=some ([],ids,[]):=rfl
theorem u3 (owns:List Nat) (j:Nat) (ids:List Nat) (v:V) (r:List V):bY h owns j ids (v::r)=la1 h owns j r (be h (owns.contains j) ids v):=by
 have:decide (j∈owns)=owns.contains j:=by simp [List.contains_iff_mem,Bool.eq_iff_iff]
 simp only [bY,la1,la2,this]
 cases be h (owns.contains j) ids v with
 |none=>rfl
 |some p=>obtain ⟨a,b,c⟩:=p;dsimp only;cases bY h owns (j+1) b r<;>rfl
theorem Fs (owns:List Nat) (j:Nat) (r:List V) (v':V) (ids' bs:List Nat):la1 h owns j r (some (v',ids',bs))=la2 v' bs (bY h owns (j+1) ids' r):=rfl
theorem G3 (v':V) (bs:List Nat) (r':List V) (i b:List Nat):la2 v' bs (some (r',i,b))=some (v'::r',i,bs++b):=rfl
def lcP (k:Option Blk) (ids:List Nat) (b i o m:Nat):Option (V×List Nat×List Nat):=match k with
 |some k=>if k.rows.length=m then some (.ptr (dD b (bQ ids b)) i o m,bQ ids b,[]) else none
 |none=>none
def lcO (k:Option Blk) (own:Bool) (ids:List Nat) (b s q:Nat):Option (V×List Nat×List Nat):=match k with
 |some k=>if s+q=k.rows.length then
  (if own then some (.sl (dD b (bQ ids b)) s q,bQ ids b,[]) else if k.op=false∧0<k.esz then some (.imm k.esz (k.rows.drop s),ids,[b]) else none) else none
 |none=>none
theorem Gw (own:Bool) (ids:List Nat) (v:Value):aO h own ids (.lit v)=some (.lit v,ids,[]):=rfl
theorem LL (own:Bool) (ids:List Nat) (m:Nat) (r:List (List V)):aO h own ids (.imm m r)=some (.imm m r,ids,[]):=rfl
theorem Jz (own:Bool) (ids:List Nat) (r:List V) (o:Nat):aO h own ids (.iptr r o)=some (.iptr r o,ids,[]):=rfl
theorem OJ (own:Bool) (ids:List Nat) (f:FuncId):aO h own ids (.fn f [])=some (.fn f [],ids,[]):=rfl
theorem DB (own:Bool) (ids:List Nat):aO h own ids .undef=some (.undef,ids,[]):=rfl
theorem KA (own:Bool) (ids:List Nat) (b i o m:Nat):aO h own ids (.ptr b i o m)=lcP (h b) ids b i o m:=rfl
theorem LY (own:Bool) (ids:List Nat) (b s q:Nat):aO h own ids (.sl b s q)=lcO (h b) own ids b s q:=rfl
theorem Gb (own:Bool) (ids:List Nat) (v:Value):be h own ids (.lit v)=some (.lit v,ids,[]):=rfl
theorem LJ (own:Bool) (ids:List Nat) (m:Nat) (r:List (List V)):be h own ids (.imm m r)=some (.imm m r,ids,[]):=rfl
theorem IM (own:Bool) (ids:List Nat) (r:List V) (o:Nat):be h own ids (.iptr r o)=some (.iptr r o,ids,[]):=rfl
theorem Lc (own:Bool) (ids:List Nat) (b i o m:Nat):be h own ids (.ptr b i o m)=lcP (h b) ids b i o m:=rfl
theorem NA (own:Bool) (ids:List Nat) (b s q:Nat):be h own ids (.sl b s q)=lcO (h b) own ids b s q:=rfl
def lcA (mk:List V→V):Option (List V×List Nat×List Nat)→Option (V×List Nat×List Nat)
 |some (cs',ids',bs)=>some (mk cs',ids',bs)
 |none=>none
theorem MF (own:Bool) (ids:List Nat) (cs:List V):be h own ids (.agg cs)=lcA V.agg (aY h own ids cs):=by
 simp only [be,lcA]
 cases aY h own ids cs<;>rfl
theorem OE (own:Bool) (ids:List Nat) (f:FuncId) (cs:List V):be h own ids (.fn f cs)=lcA (V.fn f) (aY h true ids cs):=by
 simp only [be,lcA]
 cases aY h true ids cs<;>rfl
theorem FG (mk:List V→V) (cs:List V) (i b:List Nat):lcA mk (some (cs,i,b))=some (mk cs,i,b):=rfl
def Fg (h:a8) (own:Bool) (r:List V):Option (V×List Nat×List Nat)→Option (List V×List Nat×List Nat)
 |some (v',ids',bs)=>la2 v' bs (aY h own ids' r)
 |none=>none
theorem uI (own:Bool) (ids:List Nat):aY h own ids []=some ([],ids,[]):=rfl
theorem lJ (own:Bool) (ids:List Nat) (v:V) (r:List V):aY h own ids (v::r)=Fg h own r (aO h own ids v):=by
 simp only [aY,Fg,la2]
 cases aO h own ids v with
 |none=>rfl
 |some p=>obtain ⟨a,b,c⟩:=p;dsimp only;cases aY h own b r<;>rfl
theorem sK (own:Bool) (r:List V) (v':V) (ids' bs:List Nat):Fg h own r (some (v',ids',bs))=la2 v' bs (aY h own ids' r):=rfl
theorem MX (ids:List Nat) (b o m:Nat) (row:List V):lcP (some ⟨m,true,[row]⟩) ids b 0 o 1=some (.ptr (dD b (bQ ids b)) 0 o 1,bQ ids b,[]):=rfl
theorem OZ (m:Nat) (ids:List Nat) (b s q:Nat) (hq:s+q=l.length):lcO (some ⟨m,false,rws e l⟩) true ids b s q=some (.sl (dD b (bQ ids b)) s q,bQ ids b,[]):=by
 simp [lcO,rws,hq]
theorem Ko (m:Nat) (ids:List Nat) (b q:Nat) (h0:Nat.blt 0 m=true) (hq:l.length=q):lcO (some ⟨m,false,rws e l⟩) false ids b 0 q=some (.imm m (rws e l),ids,[b]):=by
 rw [kI,decide_eq_true_eq] at h0
 simp [lcO,rws,hq,h0]
def lb2 (k:Blk):Option (List Blk×List Nat)→Option (List Blk×List Nat)
 |some (r,ids')=>some (k::r,ids')
 |none=>none
def ld2 (v':V):Option (List V×List Nat)→Option (List V×List Nat)
 |some (r',i)=>some (v'::r',i)
 |none=>none
def ld1 (h:a8) (r:List V):Option (V×List Nat×List Nat)→Option (List V×List Nat)
 |some (v',ids',_)=>ld2 v' (eG h ids' r)
 |none=>none
theorem BR (ids:List Nat):eG h ids []=some ([],ids):=rfl
theorem pT (ids:List Nat) (v:V) (r:List V):eG h ids (v::r)=ld1 h r (be h true ids v):=by
 simp only [eG,ld1,ld2]
 cases be h true ids v with
 |none=>rfl
 |some p=>obtain ⟨a,b,c⟩:=p;dsimp only;cases eG h b r<;>rfl
theorem wL (r:List V) (v':V) (ids' bs:List Nat):ld1 h r (some (v',ids',bs))=ld2 v' (eG h ids' r):=rfl
theorem DF (v':V) (r':List V) (i:List Nat):ld2 v' (some (r',i))=some (v'::r',i):=rfl
def lb1 (h:a8) (fuel pos m:Nat):Option (List V×List Nat)→Option (List Blk×List Nat)
 |some (row,ids1)=>lb2 ⟨m,true,[row]⟩ (bi h fuel (pos+1) ids1)
 |none=>none
def lb0 (h:a8) (fuel pos:Nat) (ids:List Nat):Option Blk→Option (List Blk×List Nat)
 |some k=>if k.op=false then lb2 k (bi h fuel (pos+1) ids) else (match dw h ids k.rows with
  |none=>none
  |some (rows,ids1)=>lb2 { k with rows:=rows } (bi h fuel (pos+1) ids1))
 |none=>none
def lbN (h:a8) (fuel pos:Nat) (ids:List Nat):Option Nat→Option (List Blk×List Nat)
 |none=>some ([],ids)
 |some b=>lb0 h fuel pos ids (h b)
theorem y6 (fuel pos:Nat) (ids:List Nat):bi h (fuel+1) pos ids=lbN h fuel pos ids ids[pos]? :=by
 simp only [bi,lbN,lb0]
 cases ids[pos]? with
 |none=>rfl
 |some b=>
  dsimp only
  cases h b with
  |none=>rfl
  |some k=>
   dsimp only
   split
   ·cases bi h fuel (pos+1) ids<;>rfl
   ·cases dw h ids k.rows with
    |none=>rfl
    |some p=>obtain ⟨rows,ids1⟩:=p;dsimp only;cases bi h fuel (pos+1) ids1<;>rfl
theorem EC (fuel pos:Nat) (ids:List Nat):lbN h fuel pos ids none=some ([],ids):=rfl
theorem Cz (fuel pos:Nat) (ids:List Nat) (b:Nat):lbN h fuel pos ids (some b)=lb0 h fuel pos ids (h b):=rfl
theorem KD (fuel pos:Nat) (ids:List Nat) (m:Nat) (r:List (List V)):lb0 h fuel pos ids (some ⟨m,false,r⟩)=lb2 ⟨m,false,r⟩ (bi h fuel (pos+1) ids):=rfl
theorem MU (fuel pos:Nat) (ids:List Nat) (m:Nat) (row:List V):lb0 h fuel pos ids (some ⟨m,true,[row]⟩)=lb1 h fuel pos m (eG h ids row):=by
 simp only [lb0,dw,lb1]
 cases eG h ids row with
 |none=>rfl
 |some p=>obtain ⟨a,b⟩:=p;rfl
theorem Fb (fuel pos m:Nat) (row:List V) (ids1:List Nat):lb1 h fuel pos m (some (row,ids1))=lb2 ⟨m,true,[row]⟩ (bi h fuel (pos+1) ids1):=rfl
theorem DA (k:Blk) (r:List Blk) (ids:List Nat):lb2 k (some (r,ids))=some (k::r,ids):=rfl
theorem Ox (n:Nat):bo [] [] n=[]:=rfl
theorem OB (k:Blk) (r:List Blk) (n:Nat):bo [] (k::r) n=n::bo [] r (n+1000000):=rfl
theorem Oi (i:Nat) (ids:List Nat) (k:Blk) (r:List Blk) (n:Nat):bo (i::ids) (k::r) n=bo ids r n:=rfl
def cpw (fl:Bool) (new:Nat) (ids bor:List Nat) (r:V) (bs:List Blk) (ns:List Nat):Option (V×Upd):=some (jw (ids++ns) r,de (ids++ns) (bs.map (cH (ids++ns)))++br (bor.isEmpty||(fF r&&bs.all (cZ fl))) [] (bK bor))
theorem MN (fl:Bool) (new:Nat) (ids bor:List Nat) (r:V) (bs:List Blk) (ns:List Nat):cpw fl new ids bor r bs ns=some (jw (ids++ns) r,de (ids++ns) (bs.map (cH (ids++ns)))++br (bor.isEmpty||(fF r&&bs.all (cZ fl))) [] (bK bor)):=rfl
theorem zl (fl:Bool) (new:Nat) (ids bor:List Nat) (r:V) (bs:List Blk):mU fl h new ids bor (some (r,bs))=
 br (Nat.ble ids.length bs.length&&(bo ids bs new).all (fun b=>(h b).isNone)) (cpw fl new ids bor r bs (bo ids bs new)) none:=by
 simp only [mU,iH,cpw,mL]
 generalize (bo ids bs new).all (fun b=>(h b).isNone)=c3
 generalize (bor.isEmpty||(fF r&&bs.all (cZ fl)))=c4
 by_cases h1:ids.length≤bs.length
 ·rw [decide_eq_true h1];cases c3<;>cases c4<;>simp [h1,br]
 ·rw [decide_eq_false h1];cases c3<;>cases c4<;>simp [h1,br]
theorem AQ (ids:List Nat) (vs:List V):jw ids (.tup vs)= .tup (vs.map (dC ids)):=rfl
theorem AY (ids:List Nat) (vs:List V):jw ids (.agg vs)= .agg (vs.map (unV ids)):=rfl
theorem Ao (ids:List Nat) (v:Value):jw ids (.lit v)= .lit v:=rfl
theorem C7 (ids:List Nat) (m:Nat) (r:List (List V)):jw ids (.imm m r)= .imm m r:=rfl
theorem vd (ids:List Nat):jw ids .undef= .undef:=rfl
theorem Bl (ids:List Nat) (b i o m:Nat):jw ids (.ptr b i o m)= .ptr (ids.getD b 0) i o m:=rfl
theorem B0 (ids:List Nat) (b s q:Nat):jw ids (.sl b s q)= .sl (ids.getD b 0) s q:=rfl
theorem BU (ids:List Nat) (vs:List V):dC ids (.agg vs)= .agg (vs.map (unV ids)):=rfl
theorem Cg (ids:List Nat) (v:Value):dC ids (.lit v)= .lit v:=rfl
theorem Av (ids:List Nat) (m:Nat) (r:List (List V)):dC ids (.imm m r)= .imm m r:=rfl
theorem Bs (ids:List Nat) (b i o m:Nat):dC ids (.ptr b i o m)= .ptr (ids.getD b 0) i o m:=rfl
theorem B3 (ids:List Nat) (b s q:Nat):dC ids (.sl b s q)= .sl (ids.getD b 0) s q:=rfl
theorem HE (ids:List Nat) (v:Value):unV ids (.lit v)= .lit v:=rfl
theorem KX (ids:List Nat) (f:FuncId) (cs:List V):unV ids (.fn f cs)= .fn f cs:=rfl
theorem FW (ids:List Nat) (f:FuncId) (cs:List V):dC ids (.fn f cs)= .fn f (cs.map (unV ids)):=rfl
theorem Jm (ids:List Nat) (m:Nat) (r:List (List V)):unV ids (.imm m r)= .imm m r:=rfl
theorem Hf (ids:List Nat) (b i o m:Nat):unV ids (.ptr b i o m)= .ptr (ids.getD b 0) i o m:=rfl
theorem GO (ids:List Nat) (b s q:Nat):unV ids (.sl b s q)= .sl (ids.getD b 0) s q:=rfl
theorem CM (ids:List Nat) (m:Nat) (r:List (List V)):cH ids ⟨m,false,r⟩=⟨m,false,r⟩:=rfl
theorem Bg (ids:List Nat) (m:Nat) (row:List V):cH ids ⟨m,true,[row]⟩=⟨m,true,[row.map (dC ids)]⟩:=rfl
theorem Nc (v:Value):fF (.lit v)=true:=rfl
theorem EY:fF .undef=true:=rfl
theorem Ma (m:Nat) (r:List (List V)):fF (.imm m r)=false:=rfl
theorem Nd (vs:List V):fF (.agg vs)=vs.all eF:=rfl
theorem Mx (vs:List V):fF (.tup vs)=vs.all kM:=rfl
theorem Nr (b i o m:Nat):fF (.ptr b i o m)=true:=rfl
theorem L3 (b s q:Nat):fF (.sl b s q)=true:=rfl
theorem HV (v:Value):kM (.lit v)=true:=rfl
theorem K1 (m:Nat) (r:List (List V)):kM (.imm m r)=false:=rfl
theorem If (vs:List V):kM (.agg vs)=vs.all eF:=rfl
theorem Je (b i o m:Nat):kM (.ptr b i o m)=true:=rfl
theorem K5 (b s q:Nat):kM (.sl b s q)=true:=rfl
theorem JY (v:Value):eF (.lit v)=true:=rfl
theorem LF (f:FuncId) (cs:List V):eF (.fn f cs)=false:=rfl
theorem KG (f:FuncId) (cs:List V):kM (.fn f cs)=false:=rfl
theorem Pq (f:FuncId) (cs:List V):fF (.fn f cs)=false:=rfl
theorem GR (m:Nat) (r:List (List V)):eF (.imm m r)=false:=rfl
theorem It (b i o m:Nat):eF (.ptr b i o m)=true:=rfl
theorem Iu (b s q:Nat):eF (.sl b s q)=true:=rfl
theorem Lo (m:Nat) (r:List (List V)):cZ false ⟨m,false,r⟩=false:=rfl
theorem nf {α:Type} {e:En α} (he: ∀x,(e.enc x).all eF=true) (m:Nat) (l:List α):cZ true ⟨m,false,rws e l⟩=true:=by
 simp only [cZ,Bool.true_or,Bool.true_and,rws,List.all_map,List.all_eq_true]
 exact fun x _=>he x
theorem O0 (m:Nat) (l:List Int):cZ true ⟨m,false,rws eI l⟩=true:=nf (fun _=>rfl) m l
theorem OY (m:Nat) (l:List Bool):cZ true ⟨m,false,rws eB l⟩=true:=nf (fun _=>rfl) m l
theorem P9 (m:Nat) (l:List UInt8):cZ true ⟨m,false,rws eU8 l⟩=true:=nf (fun _=>rfl) m l
theorem IE (m:Nat) (l:List Int):cZ true ⟨m,false,rws wv l⟩=true:=nf (fun _=>rfl) m l
theorem OP (m:Nat) (l:List (List UInt8)):cZ true ⟨m,false,rws eS l⟩=true:=nf (fun _=>rfl) m l
theorem KO (fl:Bool) (m:Nat) (row:List V):cZ fl ⟨m,true,[row]⟩=row.all eF:=by simp [cZ]
def GV (raw:Bool) (m:Nat):Option (List V)→Option (List Blk)→Option (V×List Blk)
 |some vs',some bs=>br (Nat.ble m 1000) (some ((xH vs').czR,br raw bs (bs.map Blk.cz))) none
 |_,_=>none
def wi (keep raw:Bool) (m:Nat) (h:a8):Option (List V)→Option (V×List Blk)
 |some vs=>GV raw m (i8 h m (br keep (cX raw h m vs) []) vs) (gV h m (br keep (cX raw h m vs) []) (List.range m++(br keep (cX raw h m vs) [])))
 |none=>none
theorem zw (nt:Nat) (body:ai) (res:List nI) (keep raw:Bool) (m:Nat) (st:St) (x:au) (hx:x= .ret∨x= .normal):yn ⟨nt,body,res,keep,raw⟩ m x st=wi keep raw m st.heap (dm st res):=by
 have hk: ∀vs:List V,(if keep=true then cX raw st.heap m vs else [])=br keep (cX raw st.heap m vs) []:=fun vs=>by cases keep<;>rfl
 have:yn ⟨nt,body,res,keep,raw⟩ m x st=yn ⟨nt,body,res,keep,raw⟩ m .ret st:=by rcases hx with rfl|rfl<;>rfl
 rw [this]
 simp only [yn,e6,wi,GV,ww,hk,mL]
 cases dm st res with
 |none=>rfl
 |some vs=>
  dsimp only
  cases i8 st.heap m (br keep (cX raw st.heap m vs) []) vs with
  |none=>rfl
  |some vs'=>
   cases gV st.heap m (br keep (cX raw st.heap m vs) []) (List.range m++(br keep (cX raw st.heap m vs) [])) with
   |none=>rfl
   |some bs=>by_cases h1:m≤1000<;>cases raw<;>simp [h1,br]
theorem Du (nt:Nat) (body:ai) (res:List nI) (keep raw:Bool) (m:Nat) (st:St):yn ⟨nt,body,res,keep,raw⟩ m .ret st=wi keep raw m st.heap (dm st res):=zw _ _ _ _ _ _ _ _ (.inl rfl)
theorem vk (nt:Nat) (body:ai) (res:List nI) (keep raw:Bool) (m:Nat) (st:St):yn ⟨nt,body,res,keep,raw⟩ m .normal st=wi keep raw m st.heap (dm st res):=zw _ _ _ _ _ _ _ _ (.inr rfl)
theorem Ad (keep raw:Bool) (m:Nat) (vs:List V):wi keep raw m h (some vs)=GV raw m (i8 h m (br keep (cX raw h m vs) []) vs) (gV h m (br keep (cX raw h m vs) []) (List.range m++(br keep (cX raw h m vs) []))):=rfl
theorem Bi (raw:Bool) (m:Nat) (vs:List V) (bs:List Blk):GV raw m (some vs) (some bs)=br (Nat.ble m 1000) (some ((xH vs).czR,br raw bs (bs.map Blk.cz))) none:=rfl
def rs1:Option V→Option (List V)→Option (List V)
 |some v,some vs=>some (v::vs)
 |_,_=>none
theorem G0 (st:St):dm st []=some []:=rfl
theorem BL (st:St) (r:nI) (rs:List nI):dm st (r::rs)=rs1 (oA st r) (dm st rs):=by
 simp only [dm,rs1]
 cases oA st r<;>cases dm st rs<;>rfl
theorem ED (v:V) (vs:List V):rs1 (some v) (some vs)=some (v::vs):=rfl
theorem Ic (st:St) (t:Nat):oA st (.tmp t)=some (st.get t):=rfl
theorem CU (st:St) (t:Nat) (g:Option Nat):oA st (.cell t g)=hI g st.heap (st.get t):=rfl
def Q3:Option V→Option (List V)→Option (List V)
 |some v,some vs=>some (v::vs)
 |_,_=>none
theorem BK (m:Nat) (kp:List Nat):i8 h m kp []=some []:=rfl
theorem z3 (m:Nat) (kp:List Nat) (v:V) (r:List V):i8 h m kp (v::r)=rs1 (m7 h m kp v) (i8 h m kp r):=by
 simp only [i8,rs1]
 cases m7 h m kp v<;>cases i8 h m kp r<;>rfl
theorem C3 (m:Nat) (kp:List Nat):fZ h m kp []=some []:=rfl
theorem qE (m:Nat) (kp:List Nat) (v:V) (r:List V):fZ h m kp (v::r)=rs1 (eZ h m kp v) (fZ h m kp r):=by
 simp only [fZ,rs1]
 cases eZ h m kp v<;>cases fZ h m kp r<;>rfl
def fag:Option (List V)→Option V
 |some cs=>some (.agg cs)
 |none=>none
theorem CP (m:Nat) (kp:List Nat) (cs:List V):m7 h m kp (.agg cs)=fag (fZ h m kp cs):=by
 simp only [m7,fag]
 cases fZ h m kp cs<;>rfl
theorem Eo (cs:List V):fag (some cs)=some (.agg cs):=rfl
theorem Fe (m:Nat) (kp:List Nat) (v:Value):m7 h m kp (.lit v)=some (.lit v):=rfl
theorem EQ (m:Nat) (kp:List Nat) (q:Nat) (r:List (List V)):m7 h m kp (.imm q r)=some (.imm q r):=rfl
theorem yi (m:Nat) (kp:List Nat):m7 h m kp .undef=some .undef:=rfl
theorem HW (m:Nat) (kp:List Nat) (f:FuncId):m7 h m kp (.fn f [])=some (.fn f []):=rfl
theorem CY (m:Nat) (kp:List Nat) (v:Value):eZ h m kp (.lit v)=some (.lit v):=rfl
theorem EK (m:Nat) (kp:List Nat) (q:Nat) (r:List (List V)):eZ h m kp (.imm q r)=some (.imm q r):=rfl
theorem HL (m:Nat) (kp:List Nat) (f:FuncId):eZ h m kp (.fn f [])=some (.fn f []):=rfl
theorem xW (m:Nat) (kp:List Nat):eZ h m kp .undef=some .undef:=rfl
def JD:Option (V×List Nat)→Option V
 |some (v,_)=>some v
 |none=>none
def fcO (h:a8) (m:Nat) (kp:List Nat) (b s q:Nat):Option V:=br (Nat.blt b m) (some (.sl b s q)) (br (kp.contains b) (some (.sl (m+dD b kp) s q)) (JD (dX h (.sl b s q))))
theorem r7 (m:Nat) (kp:List Nat) (b s q:Nat):eZ h m kp (.sl b s q)=fcO h m kp b s q:=by
 simp only [eZ,fcO,kI,JD]
 by_cases h1:b<m
 ·simp [h1,br]
 ·by_cases h2:b∈kp
  ·simp [h1,h2,br]
  ·have:kp.contains b=false:=by simpa using h2
   simp only [h1,h2,this,if_false,decide_false,aA]
   cases dX h (.sl b s q)<;>rfl
theorem EF (m:Nat) (kp:List Nat) (b s q:Nat):m7 h m kp (.sl b s q)=fcO h m kp b s q:=r7 m kp b s q
theorem Nj (m:Nat) (kp:List Nat) (b s q:Nat):fcO h m kp b s q=br (Nat.blt b m) (some (.sl b s q)) (br (kp.contains b) (some (.sl (m+dD b kp) s q)) (JD (dX h (.sl b s q)))):=rfl
theorem Ay (v:V) (bs:List Nat):JD (some (v,bs))=some v:=rfl
def fcP (m:Nat) (kp:List Nat) (b i o q:Nat):Option V:=br (Nat.blt b m) (some (.ptr b i o q)) (br (kp.contains b) (some (.ptr (m+dD b kp) i o q)) none)
theorem qa (m:Nat) (kp:List Nat) (b i o q:Nat):eZ h m kp (.ptr b i o q)=fcP m kp b i o q:=by
 simp only [eZ,fcP,kI]
 by_cases h1:b<m
 ·simp [h1,br]
 ·by_cases h2:b∈kp
  ·simp [h1,h2,br]
  ·have:kp.contains b=false:=by simpa using h2
   simp [h1,h2,this,br]
theorem Ef (m:Nat) (kp:List Nat) (b i o q:Nat):m7 h m kp (.ptr b i o q)=fcP m kp b i o q:=qa (h:=h) m kp b i o q
theorem LW (m:Nat) (kp:List Nat) (b i o q:Nat):fcP m kp b i o q=br (Nat.blt b m) (some (.ptr b i o q)) (br (kp.contains b) (some (.ptr (m+dD b kp) i o q)) none):=rfl
def fb2:Option Blk→Option (List Blk)→Option (List Blk)
 |some k,some r=>some (k::r)
 |_,_=>none
def fb1 (h:a8) (m:Nat) (kp r:List Nat):Option Blk→Option (List Blk)
 |some k=>fb2 (uk h m kp k) (gV h m kp r)
 |none=>none
theorem Bf (m:Nat) (kp:List Nat):gV h m kp []=some []:=rfl
theorem ya (m:Nat) (kp:List Nat) (b:Nat) (r:List Nat):gV h m kp (b::r)=fb1 h m kp r (h b):=by
 simp only [gV,fb1,fb2]
 cases h b with
 |none=>rfl
 |some k=>dsimp only;cases uk h m kp k<;>cases gV h m kp r<;>rfl
theorem E5 (m:Nat) (kp r:List Nat) (k:Blk):fb1 h m kp r (some k)=fb2 (uk h m kp k) (gV h m kp r):=rfl
theorem FN (k:Blk) (r:List Blk):fb2 (some k) (some r)=some (k::r):=rfl
theorem H7 (m:Nat) (kp:List Nat) (q:Nat) (r:List (List V)):uk h m kp ⟨q,false,r⟩=some ⟨q,false,r⟩:=rfl
def fbO (q:Nat):Option (List V)→Option Blk
 |some row=>some ⟨q,true,[row]⟩
 |none=>none
theorem Bw (m:Nat) (kp:List Nat):iG h m kp []=some []:=rfl
theorem pZ (m:Nat) (kp:List Nat) (v:V) (r:List V):iG h m kp (v::r)=rs1 (md h m kp v) (iG h m kp r):=by
 simp only [iG,rs1]
 cases md h m kp v<;>cases iG h m kp r<;>rfl
def fnR (f:FuncId):Option (List V)→Option V
 |some cs=>some (.fn f cs)
 |none=>none
theorem G1 (f:FuncId) (cs:List V):fnR f (some cs)=some (.fn f cs):=rfl
theorem Gl (m:Nat) (kp:List Nat) (f:FuncId):md h m kp (.fn f [])=some (.fn f []):=rfl
theorem Ii (m:Nat) (kp:List Nat) (f:FuncId) (c:V) (cs:List V):md h m kp (.fn f (c::cs))=fnR f (fZ h m kp (c::cs)):=by
 simp only [md,fnR]
 cases fZ h m kp (c::cs)<;>rfl
theorem EI (m:Nat) (kp:List Nat) (v:Value):md h m kp (.lit v)=some (.lit v):=rfl
theorem Dr (m:Nat) (kp:List Nat) (q:Nat) (r:List (List V)):md h m kp (.imm q r)=some (.imm q r):=rfl
theorem ym (m:Nat) (kp:List Nat):md h m kp .undef=some .undef:=rfl
theorem Ab (m:Nat) (kp:List Nat) (r:List V) (o:Nat):md h m kp (.iptr r o)=some (.iptr r o):=rfl
theorem Fw (m:Nat) (kp:List Nat) (b s q:Nat):md h m kp (.sl b s q)=fcO h m kp b s q:=r7 m kp b s q
theorem G9 (m:Nat) (kp:List Nat) (b i o q:Nat):md h m kp (.ptr b i o q)=fcP m kp b i o q:=qa (h:=h) m kp b i o q
theorem Ie (m:Nat) (kp:List Nat) (q:Nat) (row:List V):uk h m kp ⟨q,true,[row]⟩=fbO q (iG h m kp row):=by
 simp only [uk,kS,fbO]
 cases iG h m kp row<;>rfl
theorem FU (q:Nat) (row:List V):fbO q (some row)=some ⟨q,true,[row]⟩:=rfl
theorem DU (t u:Nat) (v:V) (r:List (Nat×V)) (m:List (Nat×Blk)):St.get ⟨(u,v)::r,m⟩ t=if u=t then v else St.get ⟨r,m⟩ t:=by
 simp only [St.get,bq]
 split<;>rfl
theorem Hu (t:Nat) (m:List (Nat×Blk)):St.get ⟨[],m⟩ t= .undef:=rfl
theorem Cq (b c:Nat) (k:Blk) (r:List (Nat×Blk)) (x:List (Nat×V)):St.heap ⟨x,(c,k)::r⟩ b=if c=b then some k else St.heap ⟨x,r⟩ b:=rfl
theorem GI (b:Nat) (x:List (Nat×V)):St.heap ⟨x,[]⟩ b=none:=rfl
theorem CR (x:List (Nat×V)) (m:List (Nat×Blk)) (d:Nat) (v:V):St.put ⟨x,m⟩ (some d) v=⟨(d,v)::x,m⟩:=rfl
theorem DL (st:St) (v:V):st.put none v=st:=rfl
theorem LN (x:List (Nat×V)) (m:List (Nat×Blk)) (u:Upd):St.upd ⟨x,m⟩ u=⟨x,wV m u⟩:=rfl
theorem Iy (st:St):st.upd []=st:=rfl
theorem Cv (m:List (Nat×Blk)):wV m []=m:=rfl
theorem Be (m:List (Nat×Blk)) (b:Nat) (k:Blk) (r:Upd):wV m ((b,k)::r)=wV (bN b k m) r:=rfl
theorem Cw {β:Type} (k:Nat) (v:β):bN k v []=[(k,v)]:=rfl
theorem BE {β:Type} (k j:Nat) (v u:β) (r:List (Nat×β)):bN k v ((j,u)::r)=if j=k then (j,v)::r else (j,u)::bN k v r:=rfl
theorem PJ (st:St) (t:Nat):st.ev (.t t)=st.get t:=rfl
theorem PX (st:St) (v:Value):st.ev (.c v)= .lit v:=rfl
theorem PF (st:St) (f:FuncId):st.ev (.f f)= .fn f []:=rfl
theorem K4 (live:List Nat) (x:List (Nat×V)) (m:List (Nat×Blk)):trim live ⟨x,m⟩=⟨live.map fun t=>(t,St.get ⟨x,m⟩ t),m⟩:=rfl
theorem yI {β:Type} (n:Nat):fi n ([]:List β)=[]:=rfl
theorem wA {β:Type} (n:Nat) (x:β) (r:List β):fi n (x::r)=(n,x)::fi (n+1) r:=rfl
theorem start_eq (a:List V) (b:List Blk):start a b=⟨fi 0 a,fi 0 b⟩:=rfl
theorem wI:bI ev []=[]:=rfl
theorem uK (a b:Nat) (x:Opd) (r:List (Nat×Nat×Opd)):bI ev ((a,b,x)::r)=(a,b,ev x)::bI ev r:=rfl
theorem BN (cs:List V):oh cs []=some cs:=rfl
theorem zd (cs:List V) (off size:Nat) (v:V) (r:List (Nat×Nat×V)):oh cs ((off,size,v)::r)=br (Nat.beq v.cells.length size&&Nat.ble (off+size) cs.length&&v.cells.all V.cell) (oh (cs.take off++(v.cells++cs.drop (off+size))) r) none:=rfl
theorem Aj (m:Nat) (r:List (List V)):mW m r []=some r:=rfl
theorem y7 (m:Nat) (rows:List (List V)) (i:Nat) (v:V) (r:List (Nat×V)):mW m rows ((i,v)::r)=br (Nat.beq v.cells.length m&&(Nat.blt i rows.length&&v.cells.all V.cell)) (mW m (rows.set i v.cells) r) none:=rfl
theorem As (cs:List V):(V.agg cs).cells=cs:=rfl
theorem su (v:Value):(V.lit v).cells=[.lit v]:=rfl
theorem BX (m:Nat) (r:List (List V)):(V.imm m r).cells=[.imm m r]:=rfl
theorem AU (b s q:Nat):(V.sl b s q).cells=[.sl b s q]:=rfl
theorem BT (b i o m:Nat):(V.ptr b i o m).cells=[.ptr b i o m]:=rfl
theorem yC (r:List V) (o:Nat):(V.iptr r o).cells=[.iptr r o]:=rfl
theorem Dt (f:FuncId) (cs:List V):(V.fn f cs).cells=[.fn f cs]:=rfl
theorem vG (k:IntKind) (a:Int):(V.lit (.int k a)).cell=true:=rfl
theorem Ct (a:Bool):(V.lit (.bool a)).cell=true:=rfl
theorem G2 (a:ByteArray):(V.lit (.string a)).cell=true:=rfl
theorem Gu (a:Option Addr) (n m:Nat):(V.lit (.slice a n m)).cell=true:=rfl
theorem Gr (m:Nat) (r:List (List V)):(V.imm m r).cell=true:=rfl
theorem DR (b s q:Nat):(V.sl b s q).cell=true:=rfl
theorem Ej (b i o m:Nat):(V.ptr b i o m).cell=true:=rfl
theorem Ci (r:List V) (o:Nat):(V.iptr r o).cell=true:=rfl
theorem IR (f:FuncId) (cs:List V):(V.fn f cs).cell=true:=rfl
theorem Jl (k:IntKind) (a:Int):ag (.int k a)=true:=rfl
theorem FZ (a:Bool):ag (.bool a)=true:=rfl
theorem Jx (a:ByteArray):ag (.string a)=true:=rfl
theorem Ka (a:Option Addr) (n m:Nat):ag (.slice a n m)=true:=rfl
theorem HF (a:Option Addr):ag (.pointer a)=true:=rfl
theorem C4:bK []=[]:=rfl
theorem yJ (b:Nat) (r:List Nat):bK (b::r)=(b,dK)::bK r:=rfl
theorem J5 (ids:List Nat):de ids []=[]:=by cases ids<;>rfl
theorem Gi (i:Nat) (ids:List Nat) (k:Blk) (r:List Blk):de (i::ids) (k::r)=(i,k)::de ids r:=rfl
theorem CN (b x:Nat) (r:List Nat):dD b (x::r)=if x=b then 0 else dD b r+1:=rfl
theorem yw (b:Nat):bQ [] b=[b]:=rfl
theorem Ap (ids:List Nat) (b:Nat):bQ ids b=br (ids.contains b) ids (ids++[b]):=by
 unfold bQ
 by_cases h:b∈ids<;>simp [h,br]
theorem MD:List.range 1=[0]:=rfl
theorem M4:List.range 2=[0,1]:=rfl
theorem LA:List.range 3=[0,1,2]:=rfl
theorem Mj:List.range 4=[0,1,2,3]:=rfl
theorem Ek (v:V):xH [v]=v:=rfl
theorem Eb:xH []= .tup []:=rfl
theorem Gx (a b:V) (r:List V):xH (a::b::r)= .tup (a::b::r):=rfl
theorem xt (o:List Nat) (a:List V):fy o a=br (o.contains 1000) a (a.map V.czA):=by
 unfold fy;cases o.contains 1000<;>rfl
theorem y9 (o:List Nat) (a:List Blk):fB o a=br (o.contains 1000) a (a.map Blk.cz):=by
 unfold fB;cases o.contains 1000<;>rfl
theorem BG (a:Nat) (r:List Nat):(a::r).getD 0 0=a:=rfl
theorem B9 (a n:Nat) (r:List Nat):(a::r).getD (n+1) 0=r.getD n 0:=rfl
def yB (st:St) (bs:List Nat):St:={ e:=pw (fzA st.heap bs) st.e,m:=fzM st.heap bs st.m }
theorem Gv (st:St) (bs:List Nat):aE st (.close bs)=br (bs.all (fun b=>Nat.ble 1000 b)) (some (yB st bs)) none:=by
 simp only [aE,yB,mL]
 cases bs.all (fun b=>decide (1000≤b))<;>rfl
theorem Ac (x:List (Nat×V)) (m:List (Nat×Blk)) (bs:List Nat):yB ⟨x,m⟩ bs=⟨pw (fzA (St.heap ⟨x,m⟩) bs) x,fzM (St.heap ⟨x,m⟩) bs m⟩:=rfl
theorem Fa (g:V→V):pw g []=[]:=rfl
theorem Bu (g:V→V) (t:Nat) (v:V) (r:List (Nat×V)):pw g ((t,v)::r)=(t,g v)::pw g r:=rfl
variable {bs:List Nat}
theorem Nl (v:Value):fzA h bs (.lit v)= .lit v:=rfl
theorem LI (m:Nat) (r:List (List V)):fzA h bs (.imm m r)= .imm m r:=rfl
theorem HO (r:List V) (o:Nat):fzA h bs (.iptr r o)= .iptr r o:=rfl
theorem CG:fzA h bs .undef= .undef:=rfl
theorem Nz (vs:List V):fzA h bs (.tup vs)= .undef:=rfl
def fzO:Option (V×List Nat)→V
 |some (v,_)=>v.cz
 |none=> .undef
theorem Ep (b s q:Nat):fzA h bs (.sl b s q)=br (bs.contains b) (fzO (dX h (.sl b s q))) (.sl b s q):=by
 simp only [fzA,fzC,fzO]
 by_cases hb:b∈bs
 ·simp [hb,br];cases dX h (.sl b s q)<;>rfl
 ·simp [hb,br]
theorem Eu (b i o m:Nat):fzA h bs (.ptr b i o m)=br (bs.contains b) .undef (.ptr b i o m):=by
 simp only [fzA,fzC]
 by_cases hb:b∈bs<;>simp [hb,br]
theorem CZ (v:V) (b:List Nat):fzO (some (v,b))=v.cz:=rfl
theorem MC (cs:List V):fzA h bs (.agg cs)=br ((cs.map (fzC h bs)).all V.cell) (.agg (cs.map (fzC h bs))) .undef:=by
 simp only [fzA]
 cases (cs.map (fzC h bs)).all V.cell<;>rfl
theorem Kf (f:FuncId) (cs:List V):fzA h bs (.fn f cs)=br (cs.all okC&& !(cs.flatMap fW).any (fun b=>bs.contains b)) (.fn f cs) .undef:=by
 simp only [fzA,fzC]
 have:(fun b=>decide (b∈bs))=fun b=>bs.contains b:=by funext b;simp [Bool.eq_iff_iff]
 rw [this]
 cases (cs.all okC&& !(cs.flatMap fW).any (fun b=>bs.contains b))<;>rfl
theorem JH (v:Value):fzC h bs (.lit v)= .lit v:=rfl
theorem Hz (m:Nat) (r:List (List V)):fzC h bs (.imm m r)= .imm m r:=rfl
theorem Kt (f:FuncId) (cs:List V):fzC h bs (.fn f cs)=br (cs.all okC&& !(cs.flatMap fW).any (fun b=>bs.contains b)) (.fn f cs) .undef:=Kf (h:=h) f cs
theorem IB (b i o m:Nat):okC (.ptr b i o m)=true:=rfl
theorem JZ (b s q:Nat):okC (.sl b s q)=true:=rfl
theorem Il (v:Value):okC (.lit v)=true:=rfl
theorem HB (m:Nat) (r:List (List V)):okC (.imm m r)=true:=rfl
theorem Kx (f:FuncId):okC (.fn f [])=true:=rfl
theorem ET (r:List V) (o:Nat):fzC h bs (.iptr r o)= .iptr r o:=rfl
theorem Ju (b s q:Nat):fzC h bs (.sl b s q)=br (bs.contains b) (fzO (dX h (.sl b s q))) (.sl b s q):=Ep b s q
theorem HA (b i o m:Nat):fzC h bs (.ptr b i o m)=br (bs.contains b) .undef (.ptr b i o m):=Eu (h:=h) b i o m
theorem IW:fzM h bs []=[]:=rfl
def fzK (h:a8) (bs:List Nat) (k:Blk):Blk:=if k.op then (if (k.rows.map (·.map (fzC h bs))).all (·.all V.cell) then { k with rows:=k.rows.map (·.map (fzC h bs)) } else dK) else k
theorem FV (b:Nat) (k:Blk) (r:List (Nat×Blk)):fzM h bs ((b,k)::r)=br (bs.contains b) (fzM h bs r) ((b,fzK h bs k)::fzM h bs r):=by
 simp only [fzM,fzK]
 by_cases hb:b∈bs<;>simp [hb,br]
theorem Nx (m:Nat) (r:List (List V)):fzK h bs ⟨m,false,r⟩=⟨m,false,r⟩:=rfl
theorem Me (m:Nat) (row:List V):fzK h bs ⟨m,true,[row]⟩=br ((row.map (fzC h bs)).all V.cell) ⟨m,true,[row.map (fzC h bs)]⟩ dK:=by
 simp only [fzK,List.map_cons,List.map_nil,List.all_cons,List.all_nil,Bool.and_true,if_true]
 cases (row.map (fzC h bs)).all V.cell<;>rfl
section
variable {R:Type} {T:Tab} {ow:bm} {k:au→St→Option R} {d:Option Nat} {n:Nat} {ss:List al} {live:List Nat} {K:List Fr} {st:St} {base i:Nat} {deps:List (List Nat)} {rs:List Rec} {fp:List Nat} {r:R}
theorem pF {fl:Bool} {h:a8} {new:Nat} {ids bor:List Nat} {x:Option (V×List Blk)} {p:V×List Blk} (hx:x=some p) (hr:aft T ow k d n ss live K st (mU fl h new ids bor (some p))=some r):aft T ow k d n ss live K st (mU fl h new ids bor x)=some r:=by
 rw [hx];exact hr
theorem du {fl:Bool} {h:a8} {new:Nat} {ids bor:List Nat} {x:Option (V×List Blk)} {p:V×List Blk} (hx:x=some p) (hr:oT T ow k d base i ss deps live rs K st fp (mU fl h new ids bor (some p))=some r):oT T ow k d base i ss deps live rs K st fp (mU fl h new ids bor x)=some r:=by
 rw [hx];exact hr
theorem Ot (b:Int):nn b=decide (0≤b):=rfl
theorem O2 (b:Int):nz b=decide (b≠0):=rfl
theorem Kw (i:Int) (n:Nat):inb i n=(decide (0≤i)&&decide (i.toNat<n)):=rfl
end
end
section
variable {ow:bm} {ev:Opd→V} {h:a8} {α:Type} {e:En α} {l:List α}
theorem Pm (x:Opd):bJ ow (.mv x) ev h=[]:=rfl
theorem Pc (x:Opd):(AOp.mv x).opds=[x]:=rfl
theorem H8 (c a b:Opd):bJ ow (.pick c a b) ev h=((AOp.pick c a b).opds.map ev).flatMap bE:=rfl
theorem I7 (c a b:Opd):(AOp.pick c a b).opds=[c,a,b]:=rfl
theorem F0 (z:List Value):bJ ow (.alloc z) ev h=((AOp.alloc z).opds.map ev).flatMap bE:=rfl
theorem CL (z:List Value):(AOp.alloc z).opds=[]:=rfl
theorem Kv (m:Nat) (x:Opd):bJ ow (.box m x) ev h=((AOp.box m x).opds.map ev).flatMap bE:=rfl
theorem Mg (m:Nat) (x:Opd):(AOp.box m x).opds=[x]:=rfl
theorem vA (z:List Value) (ps:List (Nat×Nat×Opd)):bJ ow (.build z ps) ev h=((AOp.build z ps).opds.map ev).flatMap bE:=rfl
theorem wd (z:List Value) (ps:List (Nat×Nat×Opd)):(AOp.build z ps).opds=ps.map (·.2.2):=rfl
theorem rV (m:Nat) (z:List Value) (l:Nat) (ps:List (Nat×Opd)):bJ ow (.buildSlice m z l ps) ev h=((AOp.buildSlice m z l ps).opds.map ev).flatMap bE:=rfl
theorem rU (m:Nat) (z:List Value) (l:Nat) (ps:List (Nat×Opd)):(AOp.buildSlice m z l ps).opds=ps.map (·.2):=rfl
theorem Ip (g:Option Nat) (x:Opd):bJ ow (.load g x) ev h=((AOp.load g x).opds.map ev).flatMap bE:=rfl
theorem I6 (g:Option Nat) (x:Opd):(AOp.load g x).opds=[x]:=rfl
theorem F4 (m:Nat) (x y:Opd):bJ ow (.store m x y) ev h=((AOp.store m x y).opds.map ev).flatMap bE:=rfl
theorem G5 (m:Nat) (x y:Opd):(AOp.store m x y).opds=[x,y]:=rfl
theorem xp (x:Opd):bJ ow (.nilCheck x) ev h=((AOp.nilCheck x).opds.map ev).flatMap bE:=rfl
theorem wz (x:Opd):(AOp.nilCheck x).opds=[x]:=rfl
theorem LH (op:BinOp) (x y:Opd):bJ ow (.bin op x y) ev h=((AOp.bin op x y).opds.map ev).flatMap bE:=rfl
theorem Lv (op:BinOp) (x y:Opd):(AOp.bin op x y).opds=[x,y]:=rfl
theorem Ev (b:Bool) (ks:List Bool) (x y:Opd):bJ ow (.eqAgg b ks x y) ev h=((AOp.eqAgg b ks x y).opds.map ev).flatMap bE:=rfl
theorem De (b:Bool) (ks:List Bool) (x y:Opd):(AOp.eqAgg b ks x y).opds=[x,y]:=rfl
theorem Ln (b:Bool) (x y:Opd):bJ ow (.beq b x y) ev h=((AOp.beq b x y).opds.map ev).flatMap bE:=rfl
theorem Ng (b:Bool) (x y:Opd):(AOp.beq b x y).opds=[x,y]:=rfl
theorem P0 (op:UnOp) (x:Opd):bJ ow (.un op x) ev h=((AOp.un op x).opds.map ev).flatMap bE:=rfl
theorem OF (op:UnOp) (x:Opd):(AOp.un op x).opds=[x]:=rfl
theorem Gc (k:IntKind) (x:Opd):bJ ow (.toInt k x) ev h=((AOp.toInt k x).opds.map ev).flatMap bE:=rfl
theorem EN (k:IntKind) (x:Opd):(AOp.toInt k x).opds=[x]:=rfl
theorem JQ (x:Opd):bJ ow (.same x) ev h=((AOp.same x).opds.map ev).flatMap bE:=rfl
theorem JF (x:Opd):(AOp.same x).opds=[x]:=rfl
theorem z6 (x:Opd):bJ ow (.toBytes x) ev h=((AOp.toBytes x).opds.map ev).flatMap bE:=rfl
theorem z7 (x:Opd):(AOp.toBytes x).opds=[x]:=rfl
theorem Gj (x:Opd):bJ ow (.toStr x) ev h=((AOp.toStr x).opds.map ev).flatMap bE:=rfl
theorem Gh (x:Opd):(AOp.toStr x).opds=[x]:=rfl
theorem vN (f:FuncId) (cs:List Opd):bJ ow (.makeFunc f cs) ev h=[]:=rfl
theorem xh (f:FuncId) (cs:List Opd):(AOp.makeFunc f cs).opds=cs:=rfl
theorem tx (m b:Nat) (z:List Value) (x y:Opd):bJ ow (.makeSlice m b z x y) ev h=((AOp.makeSlice m b z x y).opds.map ev).flatMap bE:=rfl
theorem u9 (m b:Nat) (z:List Value) (x y:Opd):(AOp.makeSlice m b z x y).opds=[x,y]:=rfl
theorem vY (x:Opd) (lo hi:Option Opd):bJ ow (.sliceStr x lo hi) ev h=((AOp.sliceStr x lo hi).opds.map ev).flatMap bE:=rfl
theorem wC (x:Opd) (lo hi:Option Opd):(AOp.sliceStr x lo hi).opds=x::(ny lo++ny hi):=rfl
theorem DH (m:Nat) (x:Opd) (lo hi mx:Option Opd):bJ ow (.slice m x lo hi mx) ev h=((AOp.slice m x lo hi mx).opds.map ev).flatMap bE:=rfl
theorem E0 (m:Nat) (x:Opd) (lo hi mx:Option Opd):(AOp.slice m x lo hi mx).opds=x::(ny lo++(ny hi++ny mx)):=rfl
theorem NC (m:Nat) (x:Opd):bJ ow (.off m x) ev h=[]:=rfl
theorem LU (m:Nat) (x:Opd):(AOp.off m x).opds=[x]:=rfl
theorem DT (m:Nat) (g:Option Nat) (x:Opd):bJ ow (.field m g x) ev h=((AOp.field m g x).opds.map ev).flatMap bE:=rfl
theorem DM (m:Nat) (g:Option Nat) (x:Opd):(AOp.field m g x).opds=[x]:=rfl
theorem Mt (m:Nat) (x y:Opd):bJ ow (.idx m x y) ev h=((AOp.idx m x y).opds.map ev).flatMap bE:=rfl
theorem Mw (m:Nat) (x y:Opd):(AOp.idx m x y).opds=[x,y]:=rfl
theorem Ae (m q:Nat) (x y:Opd):bJ ow (.idxArr m q x y) ev h=((AOp.idxArr m q x y).opds.map ev).flatMap bE:=rfl
theorem AD (m q:Nat) (x y:Opd):(AOp.idxArr m q x y).opds=[x,y]:=rfl
theorem D2 (x y:Opd):bJ ow (.ixStr x y) ev h=((AOp.ixStr x y).opds.map ev).flatMap bE:=rfl
theorem F3 (x y:Opd):(AOp.ixStr x y).opds=[x,y]:=rfl
theorem Ey (m q:Nat) (g:Option Nat) (x y:Opd):bJ ow (.ixAgg m q g x y) ev h=((AOp.ixAgg m q g x y).opds.map ev).flatMap bE:=rfl
theorem Gt (m q:Nat) (g:Option Nat) (x y:Opd):(AOp.ixAgg m q g x y).opds=[x,y]:=rfl
theorem Nf (x:Opd) (i:Nat):bJ ow (.ext x i) ev h=[]:=rfl
theorem N9 (x:Opd) (i:Nat):(AOp.ext x i).opds=[x]:=rfl
theorem Na (b:Bool) (x:Opd):bJ ow (.len b x) ev h=[]:=rfl
theorem Lj (b:Bool) (x:Opd):(AOp.len b x).opds=[x]:=rfl
theorem Cj (m:Nat) (x:Opd):bJ ow (.lenArr m x) ev h=((AOp.lenArr m x).opds.map ev).flatMap bE:=rfl
theorem BV (m:Nat) (x:Opd):(AOp.lenArr m x).opds=[x]:=rfl
theorem yf (m b:Nat) (z:List Value) (x y:Opd):bJ ow (.appendN m b z x y) ev h=((AOp.appendN m b z x y).opds.map ev).flatMap bE:=rfl
theorem y0 (m b:Nat) (z:List Value) (x y:Opd):(AOp.appendN m b z x y).opds=[x,y]:=rfl
theorem Cx (b:Bool) (x:Opd):bJ ow (.isNil b x) ev h=((AOp.isNil b x).opds.map ev).flatMap bE:=rfl
theorem FB (b:Bool) (x:Opd):(AOp.isNil b x).opds=[x]:=rfl
theorem Co (m b:Nat) (z:List Value) (x y:Opd):bJ ow (.append m b z x y) ev h=((AOp.append m b z x y).opds.map ev).flatMap bE:=rfl
theorem Ar (m b:Nat) (z:List Value) (x y:Opd):(AOp.append m b z x y).opds=[x,y]:=rfl
theorem JR (m:Nat) (x y:Opd):bJ ow (.copy m x y) ev h=((AOp.copy m x y).opds.map ev).flatMap bE:=rfl
theorem HG (m:Nat) (x y:Opd):(AOp.copy m x y).opds=[x,y]:=rfl
theorem HJ (x y:Opd):bJ ow (.max2 x y) ev h=((AOp.max2 x y).opds.map ev).flatMap bE:=rfl
theorem I4 (x y:Opd):(AOp.max2 x y).opds=[x,y]:=rfl
theorem IU (x y:Opd):bJ ow (.min2 x y) ev h=((AOp.min2 x y).opds.map ev).flatMap bE:=rfl
theorem JG (x y:Opd):(AOp.min2 x y).opds=[x,y]:=rfl
theorem wy (x:Opd):bJ ow (.bytesOwn x) ev h=((AOp.bytesOwn x).opds.map ev).flatMap bE:=rfl
theorem vt (x:Opd):(AOp.bytesOwn x).opds=[x]:=rfl
theorem FX (m:Nat) (x:Opd):bJ ow (.arrOf m x) ev h=((AOp.arrOf m x).opds.map ev).flatMap bE:=rfl
theorem Gd (m:Nat) (x:Opd):(AOp.arrOf m x).opds=[x]:=rfl
theorem Mq (x:Opd):ny (some x)=[x]:=rfl
theorem KY:ny none=[]:=rfl
def fpC:Option (List V×List Blk×List Nat×List Nat)→List Nat
 |some (_,_,ids,bor)=>ids++bor
 |none=>[]
theorem E2 (a:List V) (b:List Blk) (ids bor:List Nat):fpC (some (a,b,ids,bor))=ids++bor:=rfl
theorem IY (f:FuncId) (args:List Opd):bJ ow (.call f args) ev h=fpC (b7 ow h f (args.map ev)):=by
 show nS ow h f (args.map ev)=_
 unfold nS fpC
 cases b7 ow h f (args.map ev)<;>rfl
def fpD (ow:bm) (h:a8) (args:List V):V→List Nat
 | .fn k caps=>fpC (b7 ow h k (args++caps))
 |_=>[]
theorem No (f:Opd) (args:List Opd):bJ ow (.dyn f args) ev h=fpD ow h (args.map ev) (ev f):=by
 show (match ev f with
  | .fn k caps=>nS ow h k (args.map ev++caps)
  |_=>[])=_
 cases ev f<;>first|rfl| (simp only [fpD,nS,fpC];cases b7 ow h _ _<;>rfl)
theorem MK (args:List V) (k:FuncId) (caps:List V):fpD ow h args (.fn k caps)=fpC (b7 ow h k (args++caps)):=rfl
theorem IX (cs:List V):bE (.agg cs)=cs.flatMap fW:=rfl
theorem KN (f:FuncId) (cs:List V):bE (.fn f cs)=cs.flatMap fW:=rfl
theorem Hk (cs:List V):bE (.tup cs)=cs.flatMap fun| .agg cs=>cs.flatMap fW|v=>fW v:=rfl
theorem HI (v:Value):bE (.lit v)=[]:=rfl
theorem IL (m:Nat) (r:List (List V)):bE (.imm m r)=[]:=rfl
theorem CD (r:List V) (o:Nat):bE (.iptr r o)=[]:=rfl
theorem J8 (b i o m:Nat):bE (.ptr b i o m)=[b]:=rfl
theorem Jc (b s q:Nat):bE (.sl b s q)=[b]:=rfl
theorem B8:bE .undef=[]:=rfl
theorem IA (v:Value):fW (.lit v)=[]:=rfl
theorem GZ (m:Nat) (r:List (List V)):fW (.imm m r)=[]:=rfl
theorem Eg (r:List V) (o:Nat):fW (.iptr r o)=[]:=rfl
theorem H0 (b i o m:Nat):fW (.ptr b i o m)=[b]:=rfl
theorem Io (b s q:Nat):fW (.sl b s q)=[b]:=rfl
theorem Mp (f:FuncId) (cs:List V):fW (.fn f cs)=[]:=rfl
theorem C8:fW .undef=[]:=rfl
theorem wa (fp:List Nat) (b:Nat):eR h fp b=br (fp.contains b) (h b) none:=by
 unfold eR
 by_cases hb:b∈fp<;>simp [hb,br]
theorem He (rs:List Rec) (i:Nat) (fp wr:List Nat):AX rs i fp wr=br (fp.isEmpty&&wr.isEmpty) rs (rs++[⟨i,fp,wr⟩]):=by
 have h:Rec.loud ⟨i,fp,wr⟩= !(fp.isEmpty&&wr.isEmpty):=rfl
 unfold AX
 cases h1:Rec.loud ⟨i,fp,wr⟩ with
 |true=>
  rw [h1] at h
  have h2:(fp.isEmpty&&wr.isEmpty)=false:=by
   cases hx:fp.isEmpty&&wr.isEmpty with
   |false=>rfl
   |true=>rw [hx] at h;cases h
  rw [h2,aA,List.filter_cons_of_pos h1];rfl
 |false=>
  rw [h1] at h
  have h2:(fp.isEmpty&&wr.isEmpty)=true:=by
   cases hx:fp.isEmpty&&wr.isEmpty with
   |true=>rfl
   |false=>rw [hx] at h;cases h
  rw [h2,bF,List.filter_cons_of_neg (by rw [h1];decide)];simp
theorem BJ (deps:List (List Nat)):dN deps []=true:=rfl
theorem xw (deps:List (List Nat)) (p:Rec) (r:List Rec):dN deps (p::r)=(kG deps p r&&dN deps r):=rfl
theorem Ho (deps:List (List Nat)) (p:Rec):kG deps p []=true:=rfl
theorem Da (deps:List (List Nat)) (i j:Nat) (f g w u:List Nat) (r:List Rec):kG deps ⟨i,f,w⟩ (⟨j,g,u⟩::r)=((w.isEmpty&&u.isEmpty||(deps.getD j []).contains i|| !(w.any (fun b=>decide (b∈g)||decide (b∈u))||u.any (fun b=>decide (b∈f))))&&kG deps ⟨i,f,w⟩ r):=rfl
theorem xy {β:Type} (a d:β) (r:List β):(a::r).getD 0 d=a:=rfl
theorem yv {β:Type} (a d:β) (n:Nat) (r:List β):(a::r).getD (n+1) d=r.getD n d:=rfl
theorem JK (m:Nat) (cs:List V) (n:Nat):MP m cs h n=br (Nat.beq cs.length m&&cs.all V.cell) (frO (h n) n ⟨m,true,[cs]⟩ (.ptr n 0 0 1)) none:=rfl
theorem ae (x:Int) (h1: -9223372036854775808≤x) (h2:x<9223372036854775808):IntKind.wrap .i64 x=x:=by
 simp [IntKind.wrap,IntKind.bits,IntKind.signed];omega
theorem jG (x:Int) (h1:0≤x) (h2:x<18446744073709551616):IntKind.wrap .u64 x=x:=by
 simp [IntKind.wrap,IntKind.bits,IntKind.signed];omega
theorem H5 (x:Int) (h1:0≤x) (h2:x<256):IntKind.wrap .u8 x=x:=by
 simp [IntKind.wrap,IntKind.bits,IntKind.signed];omega
theorem nQ (n:Nat):(OfNat.ofNat n:Int)=(n:Int):=rfl
theorem Ed (n:Nat) (h:Nat.ble n 9223372036854775807=true):IntKind.wrap .i64 (no_index (OfNat.ofNat n:Int))=OfNat.ofNat n:=by
 have h1:=Nat.le_of_ble_eq_true h
 rw [nQ];exact ae _ (by omega) (by omega)
theorem B7 (n:Nat) (h:Nat.ble n 18446744073709551615=true):IntKind.wrap .u64 (no_index (OfNat.ofNat n:Int))=OfNat.ofNat n:=by
 have h1:=Nat.le_of_ble_eq_true h
 rw [nQ];exact jG _ (by omega) (by omega)
theorem BW (n:Nat) (h:Nat.ble n 255=true):IntKind.wrap .u8 (no_index (OfNat.ofNat n:Int))=OfNat.ofNat n:=by
 have h1:=Nat.le_of_ble_eq_true h
 rw [nQ];exact H5 _ (by omega) (by omega)
theorem ND (a b:Nat):(a==b)=decide (a=b):=by
 by_cases h:a=b
 ·subst h;simp
 ·rw [decide_eq_false h];simpa using h
theorem Nv:List.range 0=[]:=rfl
theorem xB (m:Nat) (vs:List V):cX true h m vs=jZ m [] ((List.range m).flatMap fun b=>yD (h b)):=rfl
theorem Bn (m:Nat) (vs:List V):cX false h m vs=jZ m [] (vs.flatMap bE):=rfl
theorem JV (m:Nat) (row:List V):yD (some ⟨m,true,[row]⟩)=row.flatMap bE:=by simp [yD]
theorem GL (m:Nat) (r:List (List V)):yD (some ⟨m,false,r⟩)=[]:=rfl
theorem MH:List.range 5=[0,1,2,3,4]:=rfl
theorem Ns:List.range 6=[0,1,2,3,4,5]:=rfl
theorem N5:List.range 7=[0,1,2,3,4,5,6]:=rfl
theorem MG:List.range 8=[0,1,2,3,4,5,6,7]:=rfl
theorem AV (m:Nat) (acc:List Nat):jZ m acc []=acc:=rfl
theorem zk (m b:Nat) (acc r:List Nat):jZ m acc (b::r)=jZ m (br (Nat.ble m b) (bQ acc b) acc) r:=by
 simp only [jZ,mL]
 by_cases h:m≤b<;>simp [h,br]
theorem Br (n:Nat):Int.toNat (no_index (OfNat.ofNat n:Int))=OfNat.ofNat n:=rfl
end
end Go.AI
