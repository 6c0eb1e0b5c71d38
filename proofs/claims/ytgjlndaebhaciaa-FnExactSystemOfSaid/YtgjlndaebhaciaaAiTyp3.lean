/- The machine's operations on values of Lean's own types: what writes, what makes, what calls; a function's end. -/
import Derived.Test.YtgjlndaebhaciaaAiTyp2
set_option linter.unusedVariables false
set_option linter.unusedSimpArgs false
namespace Go.AI
section
variable {C:aB} {ow:FuncId→List Nat} {ev:Opd→V} {h:ah} {n:Nat} {α:Type} {e:En α} {l l2:List α}
def snO (k:Option Blk) (b s q:Nat):Option (V×List Nat):=match k with
 |some k=>if k.op=false∧0<k.esz∧s+q=k.rows.length then some (.imm k.esz (k.rows.drop s),[b]) else none
 |none=>none
theorem GE (b s q:Nat):ep h (.sl b s q)=snO (h b) b s q:=rfl
theorem Pu (m b q:Nat) (h0:Nat.blt 0 m=true) (hq:l.length=q):snO (some ⟨m,false,rws e l⟩) b 0 q=some (.imm m (rws e l),[b]):=by
 rw [lI,decide_eq_true_eq] at h0
 simp [snO,rws,hq,h0]
theorem Im (k:IntKind) (a:Int):ep h (.lit (.int k a))=some (.lit (.int k a),[]):=rfl
theorem Ce (a:Bool):ep h (.lit (.bool a))=some (.lit (.bool a),[]):=rfl
theorem FL (a:List UInt8):ep h (S a)=some (S a,[]):=rfl
theorem Ev:ep h (.lit (.slice none 0 0))=some (.lit (.slice none 0 0),[]):=rfl
theorem IZ (m:Nat) (r:List (List V)):ep h (.imm m r)=some (.imm m r,[]):=rfl
def snC:Option (V×List Nat)→Option (List V×List Nat)→Option (List V×List Nat)
 |some (a,bs),some (r,bs')=>some (a.cz::r,bs++bs')
 |_,_=>none
theorem Ci:dI h []=some ([],[]):=rfl
theorem A3 (v:V) (r:List V):dI h (v::r)=snC (ep h v) (dI h r):=by
 simp only [dI,snC]
 cases ep h v<;>cases dI h r<;>rfl
theorem EQ (a:V) (bs:List Nat) (r:List V) (bs':List Nat):snC (some (a,bs)) (some (r,bs'))=some (a.cz::r,bs++bs'):=rfl
theorem NH (k:IntKind) (a:Int):(V.lit (.int k a)).cz= .lit (.int k a):=rfl
theorem L4 (a:Bool):(V.lit (.bool a)).cz= .lit (.bool a):=rfl
theorem NV (a:List UInt8):(S a).cz=S a:=rfl
theorem OL (a:Array Value):(V.lit (.tuple a)).cz= .lit (.tuple a):=rfl
theorem NF:(V.lit (.slice none 0 0)).cz= .imm 1 []:=rfl
theorem OZ (m:Nat):(V.imm m []).cz= .imm 1 []:=rfl
theorem Oa (b i o m:Nat):(V.ptr b i o m).cz= .ptr b i o m:=rfl
theorem NZ (b s q:Nat):(V.sl b s q).cz= .sl b s q:=rfl
theorem K6 (r:List V) (o:Nat):(V.iptr r o).cz= .iptr r o:=rfl
theorem QK (f:FuncId) (cs:List V):(V.fn f cs).cz= .fn f cs:=rfl
theorem HW:V.undef.cz= .undef:=rfl
theorem Mv (cs:List V):(V.agg cs).czA= .agg (cs.map V.cz):=rfl
theorem Je (k:IntKind) (a:Int):(V.lit (.int k a)).czA= .lit (.int k a):=rfl
theorem IS (a:Bool):(V.lit (.bool a)).czA= .lit (.bool a):=rfl
theorem JR (a:List UInt8):(S a).czA=S a:=rfl
theorem Lz:(V.lit (.slice none 0 0)).czA= .imm 1 []:=rfl
theorem K7 (m:Nat) (r:List (List V)):(V.imm m r).czA=(V.imm m r).cz:=rfl
theorem JB (b i o m:Nat):(V.ptr b i o m).czA= .ptr b i o m:=rfl
theorem JD (b s q:Nat):(V.sl b s q).czA= .sl b s q:=rfl
theorem J8 (r:List V) (o:Nat):(V.iptr r o).czA= .iptr r o:=rfl
theorem OO (f:FuncId) (cs:List V):(V.fn f cs).czA= .fn f cs:=rfl
theorem E7:V.undef.czA= .undef:=rfl
theorem KJ (cs:List V):(V.tup cs).czR= .tup (cs.map V.czA):=rfl
theorem Lj (cs:List V):(V.agg cs).czR= .agg (cs.map V.cz):=rfl
theorem L9 (k:IntKind) (a:Int):(V.lit (.int k a)).czR= .lit (.int k a):=rfl
theorem Gj (a:Bool):(V.lit (.bool a)).czR= .lit (.bool a):=rfl
theorem Lt (a:List UInt8):(S a).czR=S a:=rfl
theorem Ka:(V.lit (.slice none 0 0)).czR= .imm 1 []:=rfl
theorem KV (m:Nat) (r:List (List V)):(V.imm m r).czR=(V.imm m r).cz:=rfl
theorem Mc (b i o m:Nat):(V.ptr b i o m).czR= .ptr b i o m:=rfl
theorem JA (b s q:Nat):(V.sl b s q).czR= .sl b s q:=rfl
theorem J7 (r:List V) (o:Nat):(V.iptr r o).czR= .iptr r o:=rfl
theorem Qi (f:FuncId) (cs:List V):(V.fn f cs).czR= .fn f cs:=rfl
theorem Iy (m:Nat) (row:List V):Blk.cz ⟨m,true,[row]⟩=⟨m,true,[row.map V.cz]⟩:=rfl
theorem J4 (m:Nat) (r:List (List V)):Blk.cz ⟨m,false,r⟩=⟨m,false,r⟩:=rfl
theorem OU (k:IntKind) (a:Int):zc (.int k a)= .lit (.int k a):=rfl
theorem Mh (a:Bool):zc (.bool a)= .lit (.bool a):=rfl
theorem Pb (a:List UInt8):zc (.string ⟨⟨a⟩⟩)=S a:=rfl
theorem Ol:zc (.slice none 0 0)= .imm 1 []:=rfl
def stO (k:Option Blk) (b size i o m:Nat) (x:V) (h:ah):Option (V×Upd):=match k with
 |some k=>if k.rows.length=m then (match k.rows[i]? with
  |some row=>
   if k.op then
    (if x.cells.length=size∧o+size≤row.length∧x.cells.all V.cell then
     some (.undef,[(b,{ k with rows:=k.rows.set i (row.take o++(x.cells++row.drop (o+size))) })]) else none)
   else match dI h x.cells with
    |some (cs,bs)=>if cs.length=size∧o+size≤row.length∧ ¬b∈bs then
     some (.undef,cf bs++[(b,{ k with rows:=k.rows.set i (row.take o++(cs++row.drop (o+size))) })]) else none
    |none=>none
  |none=>none) else none
 |none=>none
def zA (size:Nat) (a x:V) (h:ah):Option (V×Upd):=match a with
 | .ptr b i o m=>stO (h b) b size i o m x h
 |_=>none
theorem MI (size:Nat) (a x:Opd):ae C ow (.store size a x) ev h n=zA size (ev a) (ev x) h:=by
 simp only [ae,zA,stO]
 cases ev a with
 |ptr b i o m=>dsimp only;cases h b<;>rfl
 |_=>rfl
theorem Fb (size b i o m:Nat) (x:V):zA size (.ptr b i o m) x h=stO (h b) b size i o m x h:=rfl
theorem zJ (m b size o:Nat) (row:List V) (x:V):stO (some ⟨m,true,[row]⟩) b size 0 o 1 x h=
 br (Nat.beq x.cells.length size&&(Nat.ble (o+size) row.length&&x.cells.all V.cell)) (some (.undef,[(b,⟨m,true,[row.take o++(x.cells++row.drop (o+size))]⟩)])) none:=by
 rw [oQ,oY]
 by_cases h1:x.cells.length=size<;>by_cases h2:o+size≤row.length<;>cases h3:x.cells.all V.cell<;>simp [stO,h1,h2,h3,br]
def stT (r:List (List V)) (m b size i o:Nat) (row:List V):Option (List V×List Nat)→Option (V×Upd)
 |some (cs,bs)=>br (Nat.beq cs.length size&&(Nat.ble (o+size) row.length&& !bs.contains b)) (some (.undef,cf bs++[(b,⟨m,false,cI r i (row.take o++(cs++row.drop (o+size)))⟩)])) none
 |none=>none
theorem wE (r:List (List V)) (m b size i o:Nat) (row cs:List V) (bs:List Nat):stT r m b size i o row (some (cs,bs))=
 br (Nat.beq cs.length size&&(Nat.ble (o+size) row.length&& !bs.contains b)) (some (.undef,cf bs++[(b,⟨m,false,cI r i (row.take o++(cs++row.drop (o+size)))⟩)])) none:=rfl
theorem ND (m b size i o q:Nat) (x:V) (hq:l.length=q):stO (some ⟨m,false,rws e l⟩) b size i o q x h=(l[i]?).bind (fun y=>stT (rws e l) m b size i o (e.enc y) (dI h x.cells)):=by
 simp only [stO]
 have:(rws e l).length=q:=by simp [rws,hq]
 rw [if_pos this]
 have h2:(rws e l)[i]? =(l[i]?).map e.enc:=by simp [rws]
 rw [h2]
 cases hl:l[i]? with
 |none=>rfl
 |some y=>
  simp only [Option.map_some,Option.bind_some]
  cases hs:dI h x.cells with
  |none=>simp [stT]
  |some p=>
   obtain ⟨cs,bs⟩:=p
   rw [wE,oQ,oY]
   by_cases h1:cs.length=size<;>by_cases h2:o+size≤(e.enc y).length<;>by_cases h3:b∈bs<;>simp [h1,h2,h3,br,cI]
def psC (i:Nat):Option (List V×List Nat)→Option (List (Nat×V)×List Nat)→Option (List (Nat×V)×List Nat)
 |some (cs,bs),some (r',bs')=>some ((i,.agg cs)::r',bs++bs')
 |_,_=>none
theorem tQ:bj h ev []=some ([],[]):=rfl
theorem sn (i:Nat) (x:Opd) (r:List (Nat×Opd)):bj h ev ((i,x)::r)=psC i (dI h (ev x).cells) (bj h ev r):=by
 simp only [bj,psC]
 cases dI h (ev x).cells<;>cases bj h ev r<;>rfl
theorem Hf (i:Nat) (cs:List V) (bs:List Nat) (r:List (Nat×V)) (bs':List Nat):psC i (some (cs,bs)) (some (r,bs'))=some ((i,.agg cs)::r,bs++bs'):=rfl
def pa (esz:Nat) (rows:List (List V)):List (Nat×V)→Option (List (List V))
 |[]=>some rows
 | (i,v)::r=>br (Nat.beq v.cells.length esz&&(Nat.blt i rows.length&&v.cells.all V.cell)) (pa esz (rows.set i v.cells) r) none
theorem yf (esz:Nat): ∀(ps:List (Nat×V)) (rows:List (List V)),rB esz rows ps=pa esz rows ps
 |[],_=>rfl
 | (i,v)::r,rows=>by
   simp only [rB,pa,oQ,lI]
   rw [←yf esz r]
   by_cases h1:v.cells.length=esz<;>by_cases h2:i<rows.length<;>cases h3:v.cells.all V.cell<;>simp [h1,h2,br]
def zd (u0:Upd):Option (V×Upd)→Option (V×Upd)
 |some (v,u)=>some (v,u0++u)
 |none=>none
theorem Dg (u0 u:Upd) (v:V):zd u0 (some (v,u))=some (v,u0++u):=rfl
theorem Mk (u0:Upd) (c:Bool) (x y:Option (V×Upd)):zd u0 (br c x y)=br c (zd u0 x) (zd u0 y):=by cases c<;>rfl
theorem BI (u0:Upd):zd u0 none=none:=rfl
def bsR (esz len:Nat) (zero:List Value) (bs:List Nat) (h:ah) (n:Nat):Option (List (List V))→Option (V×Upd)
 |some rows=>br (Nat.beq zero.length esz&&(zero.all aC&&(Nat.ble (len*esz) 16777216&& !bs.contains n))) (zd (cf bs) (frO (h n) n ⟨esz,false,mkR n rows⟩ (.sl n 0 len))) none
 |none=>none
def bsS (esz len:Nat) (zero:List Value) (h:ah) (n:Nat):Option (List (Nat×V)×List Nat)→Option (V×Upd)
 |some (ps,bs)=>bsR esz len zero bs h n (pa esz (List.replicate len (zero.map zc)) ps)
 |none=>none
theorem vK (esz len:Nat) (zero:List Value) (ps:List (Nat×Opd)):ae C ow (.buildSlice esz zero len ps) ev h n=bsS esz len zero h n (bj h ev ps):=by
 simp only [ae,bsS,yf,iV]
 cases bj h ev ps with
 |none=>rfl
 |some p=>
  obtain ⟨qs,bs⟩:=p
  dsimp only
  cases pa esz (List.replicate len (zero.map zc)) qs with
  |none=>rfl
  |some rows=>
   simp only [bsR,oQ,oY,mkR]
   by_cases h1:zero.length=esz<;>cases h2:zero.all aC<;>by_cases h3:len*esz≤16777216<;>by_cases h4:n∈bs<;>simp [h1,h3,h4,br]
   cases frO (h n) n ⟨esz,false,rows⟩ (.sl n 0 len)<;>rfl
theorem IK (esz len:Nat) (zero:List Value) (ps:List (Nat×V)) (bs:List Nat):bsS esz len zero h n (some (ps,bs))=bsR esz len zero bs h n (pa esz (List.replicate len (zero.map zc)) ps):=rfl
theorem H3 (esz len:Nat) (zero:List Value) (bs:List Nat) (rows:List (List V)):bsR esz len zero bs h n (some rows)=br (Nat.beq zero.length esz&&(zero.all aC&&(Nat.ble (len*esz) 16777216&& !bs.contains n))) (zd (cf bs) (frO (h n) n ⟨esz,false,mkR n rows⟩ (.sl n 0 len))) none:=rfl
def tbS (x:V) (h:ah) (n:Nat):Option (V×Upd):=match x with
 | .lit (.string s)=>if s.size≤aK then dn h n ⟨1,false,s.data.toList.map fun b=>[.lit (.int .u8 b.toNat)]⟩ (.sl n 0 s.size) else none
 |_=>none
theorem El (x:Opd):ae C ow (.toBytes x) ev h n=tbS (ev x) h n:=rfl
theorem RR (s:List UInt8):tbS (S s) h n=br (dP s.length 1) (frO (h n) n ⟨1,false,rws eU8 s⟩ (.sl n 0 s.length)) none:=by
 simp only [tbS,vz,dP,Nat.mul_one,iV]
 by_cases h1:s.length≤aK<;>simp [h1,br]
 rfl
def boS (x:V) (h:ah):Option (V×Upd):=match x with
 | .sl b s n=>match h b with
   |some k=>if k.op=false∧0<k.esz∧s+n=k.rows.length∧0<n then some (.sl b s n,[(b,k)]) else none
   |none=>none
 |_=>none
theorem B0 (x:Opd):ae C ow (.bytesOwn x) ev h n=boS (ev x) h:=rfl
def boO (k:Option Blk) (b s n:Nat):Option (V×Upd):=match k with
 |some k=>if k.op=false∧0<k.esz∧s+n=k.rows.length∧0<n then some (.sl b s n,[(b,k)]) else none
 |none=>none
theorem Kx (b s q:Nat):boS (.sl b s q) h=boO (h b) b s q:=rfl
theorem PR (b m q:Nat) (h0:Nat.blt 0 m=true) (hq:l.length=q):boO (some ⟨m,false,rws e l⟩) b 0 q=br (decide (0<q)) (some (.sl b 0 q,[(b,⟨m,false,rws e l⟩)])) none:=by
 rw [lI,decide_eq_true_eq] at h0
 by_cases h1:0<q<;>simp [boO,rws,hq,h0,h1,br]
theorem xu (l:List UInt8):ae.bytesOf (rws eU8 l)=some l:=by
 induction l with
 |nil=>rfl
 |cons b l ih=>
  simp only [rws,List.map_cons,eU8] at ih ⊢
  simp only [ae.bytesOf]
  have h1:(0:Int)≤(b.toNat:Int)∧(b.toNat:Int)<256:=⟨by omega,by have:=b.toNat_lt;omega⟩
  rw [if_pos h1,ih]
  simp
noncomputable def tsR:Option (List (List V))→Option (V×Upd)
 |some rows=>match ae.bytesOf rows with
  |some l=>some (.lit (.string ⟨l.toArray⟩),[])
  |none=>none
 |none=>none
noncomputable def tsS (x:V) (h:ah):Option (V×Upd):=br (Bj x) none (tsR (bg h 1 x))
theorem JF (x:Opd):ae C ow (.toStr x) ev h n=tsS (ev x) h:=by
 simp only [ae,tsS,tsR]
 cases Bj (ev x)
 ·simp only [Bool.false_eq_true,if_false,aX]
  cases bg h 1 (ev x)<;>rfl
 ·rfl
theorem FY (l:List UInt8):tsR (some (rws eU8 l))=some (S l,[]):=by
 simp only [tsR,xu]
theorem OY (l:List UInt8):tsS (sl eU8 l) h=some (S l,[]):=by
 rw [tsS,xk,aX,uf 1 rfl,FY]
def roO (k:Option Blk) (m s q:Nat):Option (List (List V)):=match k with
 |some k=>if k.op=false∧0<k.esz∧k.esz=m∧s+q=k.rows.length then some (k.rows.drop s) else none
 |none=>none
theorem Ah (m b s q:Nat):bg h m (.sl b s q)=roO (h b) m s q:=rfl
theorem Of (m q:Nat) (h0:Nat.blt 0 m=true) (hq:l.length=q):roO (some ⟨m,false,rws e l⟩) m 0 q=some (rws e l):=by
 rw [lI,decide_eq_true_eq] at h0
 simp [roO,rws,hq,h0]
theorem zF (s:List UInt8):bg h 1 (S s)=some (rws eU8 s):=rfl
theorem Lw (b s q:Nat):tsS (.sl b s q) h=tsR (roO (h b) 1 s q):=rfl
theorem LI:tsS (.lit (.slice none 0 0)) h=some (S [],[]):=rfl
theorem L5:tsS (.imm 1 []) h=some (S [],[]):=rfl
def OQ (esz bytes:Nat) (zero:List Value) (len cap:V) (h:ah) (n:Nat):Option (V×Upd):=match asI len,asI cap with
 |some l,some c=>if 0≤l∧l≤c∧c*bytes≤aK∧c*esz≤aK∧zero.length=esz∧zero.all aC then
  dn h n ⟨esz,false,List.replicate l.toNat (zero.map zc)⟩ (.sl n 0 l.toNat) else none
 |_,_=>none
theorem ya (esz bytes:Nat) (zero:List Value) (len cap:Opd):ae C ow (.makeSlice esz bytes zero len cap) ev h n=OQ esz bytes zero (ev len) (ev cap) h n:=rfl
theorem O8 (esz bytes:Nat) (zero:List Value) (k k':IntKind) (a c:Int) (hb:Nat.ble esz bytes=true) (hz:Nat.beq zero.length esz=true) (hz2:zero.all aC=true):
 OQ esz bytes zero (.lit (.int k a)) (.lit (.int k' c)) h n=br (Ay a c bytes) (frO (h n) n ⟨esz,false,yF n a.toNat (zero.map zc)⟩ (.sl n 0 (BA (yF n a.toNat (zero.map zc))))) none:=by
 have hz3:=Nat.eq_of_beq_eq_true hz
 have hb2:=Nat.le_of_ble_eq_true hb
 simp only [OQ,asI,Ay,hz3,hz2,iV,yF,BA,List.length_replicate]
 by_cases h1:0≤a<;>by_cases h2:a≤c<;>by_cases h3:c*bytes≤aK<;>simp [h1,h2,h3,br]
 intro h4
 exfalso
 have:c*esz≤c*bytes:=Int.mul_le_mul_of_nonneg_left (by omega) (by omega)
 omega
def slS (esz:Nat) (x:V) (lo hi mx:Option V) (h:ah):Option (V×Upd):=match mx with
 |some _=>none
 |none=>match x with
  | .lit (.slice none 0 0)=>match aP hi 0 0 with
    |some q=>match aP lo 0 q with
     |some _=>some (.lit (.slice none 0 0),[])
     |none=>none
    |none=>none
  | .sl b s n=>match h b with
    |some k=>if k.op=false∧0<k.esz∧k.esz=esz∧s+n=k.rows.length then (match aP hi n n with
     |some q=>match aP lo 0 q with
      |some p=>if q=n then some (.sl b (s+p) (n-p),[]) else some ((V.imm esz (((k.rows.drop s).take q).drop p)).cz,[(b,eD)])
      |none=>none
     |none=>none) else none
    |none=>none
  | .imm e rows=>if e=esz∨rows=[] then (match aP hi rows.length rows.length with
   |some q=>match aP lo 0 q with
    |some p=>some ((V.imm e ((rows.take q).drop p)).cz,[])
    |none=>none
   |none=>none) else none
  |_=>none
theorem KP (esz:Nat) (x:Opd) (lo hi:Option Opd):ae C ow (.slice esz x lo hi none) ev h n=slS esz (ev x) (lo.map ev) (hi.map ev) none h:=rfl
theorem iP (d m:Nat):aP none d m=some d:=rfl
theorem kw (k:IntKind) (i:Int) (d m:Nat):aP (some (.lit (.int k i))) d m=if 0≤i∧i≤m then some i.toNat else none:=rfl
theorem qZ (m:Nat) (hm:e.esz=m) (lo hi:Option V):slS m (sl e l) lo hi none h=(match aP hi l.length l.length with
 |some q=>match aP lo 0 q with
  |some p=>some (sl e ((l.take q).drop p),[])
  |none=>none
 |none=>none):=by
 subst hm
 rcases cX e l with ⟨rfl,hs⟩|⟨hne,hs⟩
 ·rw [hs]
  simp only [slS,List.length_nil,or_true,if_true]
  cases aP hi 0 0 with
  |none=>rfl
  |some q=>cases aP lo 0 q<;>simp [Qv,V.cz]
 ·rw [hs]
  simp only [slS,true_or,if_true,rws,List.length_map]
  cases aP hi l.length l.length with
  |none=>rfl
  |some q=>cases aP lo 0 q<;>simp [sl,rws, ←List.map_take, ←List.map_drop]
theorem OT (m:Nat) (hm:e.esz=m):slS m (sl e l) none none none h=some (sl e l,[]):=by
 rw [qZ m hm];simp [iP]
theorem Og (m:Nat) (hm:e.esz=m) (k:IntKind) (a:Int):slS m (sl e l) (some (.lit (.int k a))) none none h=(fT l a l.length).bind (fun l'=>some (sl e l',[])):=by
 rw [qZ m hm]
 simp only [iP,kw,fT]
 by_cases h1:0≤a<;>by_cases h2:a≤(l.length:Int)<;>simp [h1,h2]
theorem Qo (m:Nat) (hm:e.esz=m) (k:IntKind) (b:Int):slS m (sl e l) none (some (.lit (.int k b))) none h=(fT l 0 b).bind (fun l'=>some (sl e l',[])):=by
 rw [qZ m hm]
 simp only [iP,kw,fT]
 by_cases h1:0≤b<;>by_cases h2:b≤(l.length:Int)<;>simp [h1,h2]
theorem NT (m:Nat) (hm:e.esz=m) (k k':IntKind) (a b:Int):slS m (sl e l) (some (.lit (.int k a))) (some (.lit (.int k' b))) none h=(fT l a b).bind (fun l'=>some (sl e l',[])):=by
 rw [qZ m hm]
 simp only [kw,fT]
 by_cases h1:0≤b<;>by_cases h2:b≤(l.length:Int)<;>by_cases h3:0≤a<;>by_cases h4:a≤b
 all_goals (have e1:((b.toNat:Nat):Int)=b∨ ¬0≤b:=by omega)
 all_goals (rcases e1 with e1|e1)
 all_goals (first|omega| (simp [h1,h2,h3,h4,e1];try omega))
def slO (k:Option Blk) (m b s q:Nat) (a:Int):Option (V×Upd):=match k with
 |some k=>if k.op=false∧0<k.esz∧k.esz=m∧s+q=k.rows.length then (if 0≤a∧a≤q then some (.sl b (s+a.toNat) (q-a.toNat),[]) else none) else none
 |none=>none
theorem LK (m b s q:Nat) (k:IntKind) (a:Int):slS m (.sl b s q) (some (.lit (.int k a))) none none h=slO (h b) m b s q a:=by
 simp only [slS,slO,iP,kw]
 cases h b with
 |none=>rfl
 |some k=>
  dsimp only
  split
  ·by_cases hc:0≤a∧a≤(q:Int)
   ·rw [if_pos hc,if_pos hc];simp
   ·rw [if_neg hc,if_neg hc]
  ·rfl
theorem Pp (m b s q:Nat) (a:Int) (h0:Nat.blt 0 m=true) (hq:s+q=l.length):slO (some ⟨m,false,rws e l⟩) m b s q a=br (decide (0≤a)&&decide (a≤q)) (some (.sl b (s+a.toNat) (q-a.toNat),[])) none:=by
 rw [lI,decide_eq_true_eq] at h0
 by_cases h1:0≤a<;>by_cases h2:a≤(q:Int)<;>simp [slO,rws,hq,h0,h1,h2,br]
def ssS (x:V) (lo hi:Option V):Option (V×Upd):=match x with
 | .lit (.string s)=>match aP hi s.size s.size with
   |some b=>match aP lo 0 b with
    |some a=>some (.lit (.string (s.extract a b)),[])
    |none=>none
   |none=>none
 |_=>none
theorem Aa (x:Opd) (lo hi:Option Opd):ae C ow (.sliceStr x lo hi) ev h n=ssS (ev x) (lo.map ev) (hi.map ev):=rfl
theorem zS (s:List UInt8) (a b:Nat):(⟨⟨s⟩⟩:ByteArray).extract a b=⟨⟨(s.take b).drop a⟩⟩:=by
 apply ByteArray.ext
 rw [ByteArray.data_extract]
 apply Array.ext'
 simp [List.extract_eq_take_drop,List.drop_take]
theorem qY (s:List UInt8) (lo hi:Option V):ssS (S s) lo hi=(match aP hi s.length s.length with
 |some q=>match aP lo 0 q with
  |some p=>some (S ((s.take q).drop p),[])
  |none=>none
 |none=>none):=by
 simp only [ssS,vz,zS]
theorem Nm (s:List UInt8):ssS (S s) none none=some (S s,[]):=by rw [qY];simp [iP]
theorem Pq (s:List UInt8) (k:IntKind) (a:Int):ssS (S s) (some (.lit (.int k a))) none=(fT s a s.length).bind (fun l'=>some (S l',[])):=by
 rw [qY]
 simp only [iP,kw,fT]
 by_cases h1:0≤a<;>by_cases h2:a≤(s.length:Int)<;>simp [h1,h2]
theorem Pf (s:List UInt8) (k:IntKind) (b:Int):ssS (S s) none (some (.lit (.int k b)))=(fT s 0 b).bind (fun l'=>some (S l',[])):=by
 rw [qY]
 simp only [iP,kw,fT]
 by_cases h1:0≤b<;>by_cases h2:b≤(s.length:Int)<;>simp [h1,h2]
theorem OS (s:List UInt8) (k k':IntKind) (a b:Int):ssS (S s) (some (.lit (.int k a))) (some (.lit (.int k' b)))=(fT s a b).bind (fun l'=>some (S l',[])):=by
 rw [qY]
 simp only [kw,fT]
 by_cases h1:0≤b<;>by_cases h2:b≤(s.length:Int)<;>by_cases h3:0≤a<;>by_cases h4:a≤b
 all_goals (have e1:((b.toNat:Nat):Int)=b∨ ¬0≤b:=by omega)
 all_goals (rcases e1 with e1|e1)
 all_goals (first|omega| (simp [h1,h2,h3,h4,e1];try omega))
noncomputable def apS (esz bytes:Nat) (zero:List Value) (x y:V) (h:ah) (n:Nat):Option (List (List V))→Option (V×Upd)
 |none=>none
 |some new_=>if zero.length=esz∧0<esz∧new_.length*bytes≤aK∧new_.length*esz≤aK then
  (match x with
  | .sl b 0 n=>match h b with
    |some k=>if k.op=false∧0<k.esz∧k.esz=esz∧n=k.rows.length∧(n+new_.length)*bytes≤aK∧(n+new_.length)*esz≤aK∧ae.selfOk b y then
     some (.sl b 0 (n+new_.length),[(b,{ k with rows:=k.rows++new_ })]) else none
    |none=>none
  | .lit (.slice none 0 0)=>dn h n ⟨esz,false,new_⟩ (.sl n 0 new_.length)
  | .imm 0 []=>dn h n ⟨esz,false,new_⟩ (.sl n 0 new_.length)
  |_=>none) else none
theorem Ih (esz bytes:Nat) (zero:List Value) (x y:Opd):ae C ow (.append esz bytes zero x y) ev h n=apS esz bytes zero (ev x) (ev y) h n (bg h esz (ev y)):=by
 simp only [ae]
 cases bg h esz (ev y) with
 |none=>rfl
 |some r=>rfl
noncomputable def ox (b:Nat) (y:V):Bool:=ae.selfOk b y
theorem GK (b:Nat):ox b (sl e l)=true:=by
 rcases cX e l with ⟨_,h⟩|⟨_,h⟩<;>rw [h]<;>rfl
theorem Ej (b b' s q:Nat):ox b (.sl b' s q)=(b !=b'):=rfl
theorem DS (b:Nat) (s:List UInt8):ox b (S s)=true:=rfl
theorem Ct (b:Nat):ox b (.lit (.slice none 0 0))=true:=rfl
theorem Cs (b m:Nat) (r:List (List V)):ox b (.imm m r)=true:=rfl
def apO (k:Option Blk) (esz bytes:Nat) (zero:List Value) (b q:Nat) (sb:Bool) (new_:List (List V)):Option (V×Upd):=match k with
 |some k=>if zero.length=esz∧0<esz∧new_.length*bytes≤aK∧new_.length*esz≤aK then
  (if k.op=false∧0<k.esz∧k.esz=esz∧q=k.rows.length∧(q+new_.length)*bytes≤aK∧(q+new_.length)*esz≤aK∧sb=true then
        some (.sl b 0 (q+new_.length),[(b,{ k with rows:=k.rows++new_ })]) else none) else none
 |none=>none
theorem Jx (esz bytes:Nat) (zero:List Value) (b q:Nat) (y:V) (new_:List (List V)):apS esz bytes zero (.sl b 0 q) y h n (some new_)=apO (h b) esz bytes zero b q (ox b y) new_:=by
 simp only [apS,apO,ox]
 cases h b with
 |none=>simp
 |some k=>rfl
theorem Nk (m bytes:Nat) (zero:List Value) (b q:Nat) (sb:Bool) (hz:Nat.beq zero.length m=true) (h0:Nat.blt 0 m=true) (hb:Nat.ble m bytes=true) (hq:l.length=q) (hs:sb=true):
 apO (some ⟨m,false,rws e l⟩) m bytes zero b q sb (rws e l2)=br (dP (l++l2).length bytes) (some (.sl b 0 (l++l2).length,[(b,⟨m,false,rws e (l++l2)⟩)])) none:=by
 have hz3:=Nat.eq_of_beq_eq_true hz
 have hb2:=Nat.le_of_ble_eq_true hb
 rw [lI,decide_eq_true_eq] at h0
 subst hs hq
 simp only [apO,dP,rws,List.length_map,List.length_append,List.map_append]
 have e1:(l.length+l2.length)*m≤(l.length+l2.length)*bytes:=Nat.mul_le_mul_left _ hb2
 have e2:l2.length*bytes≤(l.length+l2.length)*bytes:=Nat.mul_le_mul_right _ (by omega)
 have e3:l2.length*m≤l2.length*bytes:=Nat.mul_le_mul_left _ hb2
 by_cases hf:(l.length+l2.length)*bytes≤aK
 ·rw [if_pos ⟨hz3,h0,by omega,by omega⟩,if_pos ⟨by trivial,h0,by trivial,by trivial,hf,by omega,by trivial⟩,decide_eq_true hf,bH]
 ·rw [decide_eq_false hf,aX]
  split
  ·rw [if_neg (fun hc=>hf hc.2.2.2.2.1)]
  ·rfl
theorem Kr (m bytes:Nat) (zero:List Value) (y:V) (hz:Nat.beq zero.length m=true) (h0:Nat.blt 0 m=true) (hb:Nat.ble m bytes=true):
 apS m bytes zero (.lit (.slice none 0 0)) y h n (some (rws e l2))=br (dP l2.length bytes) (frO (h n) n ⟨m,false,rws e l2⟩ (.sl n 0 l2.length)) none:=by
 have hz3:=Nat.eq_of_beq_eq_true hz
 have hb2:=Nat.le_of_ble_eq_true hb
 rw [lI,decide_eq_true_eq] at h0
 simp only [apS,dP,iV]
 have hl:(rws e l2).length=l2.length:=by simp [rws]
 rw [hl]
 have e3:l2.length*m≤l2.length*bytes:=Nat.mul_le_mul_left _ hb2
 by_cases hf:l2.length*bytes≤aK
 ·rw [if_pos ⟨hz3,h0,hf,by omega⟩,decide_eq_true hf,bH]
 ·rw [decide_eq_false hf,aX,if_neg (fun hc=>hf hc.2.2.1)]
def ub (l:List α) (s k:Nat) (l2:List α):List α:=l.take s++(l2.take k++l.drop (s+k))
def Qe (esz bytes:Nat) (zero:List Value) (x y:V) (h:ah) (n:Nat):Option (V×Upd):=match asI y with
 |some l=>if 0≤l∧l≤1099511627776∧l*bytes≤1099511627776∧zero.all aC then oc esz bytes zero x (fun _=>true) h n (List.replicate l.toNat (zero.map zc)) else none
 |none=>none
theorem Cb (esz bytes:Nat) (zero:List Value) (x y:Opd):ae C ow (.appendN esz bytes zero x y) ev h n=Qe esz bytes zero (ev x) (ev y) h n:=rfl
theorem J3 (m bytes:Nat) (zero:List Value) (b q:Nat) (k:IntKind) (a:Int) (hz2:zero.all aC=true):
 Qe m bytes zero (.sl b 0 q) (.lit (.int k a)) h n=br (Ay a a bytes&&decide (a≤1099511627776)) (apO (h b) m bytes zero b q true (yF n a.toNat (zero.map zc))) none:=by
 simp only [Qe,asI,Ay,hz2,yF,aK]
 by_cases h1:0≤a<;>by_cases h2:a*bytes≤1099511627776<;>by_cases h3:a≤1099511627776<;>simp [h1,h2,h3,br]
 simp only [oc,apO]
 cases h b with
 |none=>simp
 |some kk=>rfl
noncomputable def cpS (esz:Nat) (x y:V) (h:ah):Option (List (List V))→Option (V×Upd)
 |some rows=>match x with
  | .sl b s n=>match h b with
    |some k=>if k.op=false∧0<k.esz∧k.esz=esz∧s+n=k.rows.length∧ae.selfOk b y then
     some (.lit (.int .i64 (min rows.length n)),[(b,{ k with rows:=k.rows.take s++(rows.take (min rows.length n)++k.rows.drop (s+min rows.length n)) })]) else none
    |none=>none
  |_=>none
 |none=>none
theorem N2 (esz:Nat) (x y:Opd):ae C ow (.copy esz x y) ev h n=cpS esz (ev x) (ev y) h (bg h esz (ev y)):=by
 simp only [ae,cpS]
 cases bg h esz (ev y) with
 |none=>rfl
 |some r=>cases ev x<;>rfl
def cpO (k:Option Blk) (esz b s q:Nat) (sb:Bool) (rows:List (List V)):Option (V×Upd):=match k with
 |some k=>if k.op=false∧0<k.esz∧k.esz=esz∧s+q=k.rows.length∧sb=true then
  some (.lit (.int .i64 (min rows.length q)),[(b,{ k with rows:=k.rows.take s++(rows.take (min rows.length q)++k.rows.drop (s+min rows.length q)) })]) else none
 |none=>none
theorem LL (esz b s q:Nat) (y:V) (rows:List (List V)):cpS esz (.sl b s q) y h (some rows)=cpO (h b) esz b s q (ox b y) rows:=by
 simp only [cpS,cpO,ox]
 cases h b<;>rfl
theorem Pz (m b s q:Nat) (sb:Bool) (h0:Nat.blt 0 m=true) (hs:sb=true):cpO (some ⟨m,false,rws e l⟩) m b s q sb (rws e l2)=
 br (decide (s+q=l.length)) (some (I (min (l2.length:Int) (q:Int)),[(b,⟨m,false,rws e (ub l s (min l2.length q) l2)⟩)])) none:=by
 rw [lI,decide_eq_true_eq] at h0
 subst hs
 simp only [cpO]
 by_cases hq:s+q=l.length
 ·rw [if_pos ⟨by trivial,h0,by trivial,by simp [rws,hq],by trivial⟩,decide_eq_true hq,bH]
  simp [rws,ub,List.map_take,List.map_drop]
 ·rw [decide_eq_false hq,aX,if_neg (fun hc=>hq (by simpa [rws] using hc.2.2.2.1))]
def ncS (x:V) (h:ah):Option (V×Upd):=match x with
 | .ptr b i o n=>match h b with
   |some k=>if k.rows.length=n∧i<n then some (.ptr b i o n,[]) else none
   |none=>none
 | .iptr r o=>some (.iptr r o,[])
 | .fn f c=>some (.fn f c,[])
 |_=>none
theorem zg (x:Opd):ae C ow (.nilCheck x) ev h n=ncS (ev x) h:=by
 simp only [ae,ncS]
 cases ev x<;>rfl
def ncO (k:Option Blk) (b i o m:Nat):Option (V×Upd):=match k with
 |some k=>if k.rows.length=m∧i<m then some (.ptr b i o m,[]) else none
 |none=>none
theorem RZ (b i o m:Nat):ncS (.ptr b i o m) h=ncO (h b) b i o m:=rfl
theorem P2 (b o m:Nat) (row:List V):ncO (some ⟨m,true,[row]⟩) b 0 o 1=some (.ptr b 0 o 1,[]):=rfl
theorem Ru (r:List V) (o:Nat):ncS (.iptr r o) h=some (.iptr r o,[]):=rfl
theorem Ro (f:FuncId) (c:List V):ncS (.fn f c) h=some (.fn f c,[]):=rfl
def mxS (x y:V):Option (V×Upd):=match x,y with
 | .lit (.int k a),.lit (.int _ b)=>some (.lit (.int k (if b>a then b else a)),[])
 |_,_=>none
theorem P1 (x y:Opd):ae C ow (.max2 x y) ev h n=mxS (ev x) (ev y):=by
 simp only [ae,mxS]
 cases ev x<;>cases ev y<;>rfl
theorem QS (k k':IntKind) (a b:Int):mxS (.lit (.int k a)) (.lit (.int k' b))=some (.lit (.int k (mx a b)),[]):=rfl
def mnS (x y:V):Option (V×Upd):=match x,y with
 | .lit (.int k a),.lit (.int _ b)=>some (.lit (.int k (if b<a then b else a)),[])
 |_,_=>none
theorem N3 (x y:Opd):ae C ow (.min2 x y) ev h n=mnS (ev x) (ev y):=by
 simp only [ae,mnS]
 cases ev x<;>cases ev y<;>rfl
theorem Sk (k k':IntKind) (a b:Int):mnS (.lit (.int k a)) (.lit (.int k' b))=some (.lit (.int k (mn a b)),[]):=rfl
noncomputable def qj (fl ro:Bool) (h:ah) (new:Nat) (ids bor:List Nat):Option (V×List Blk)→Option (V×Upd)
 |some (r,bs)=>roW ro h (iN fl h new ids bor r bs)
 |none=>none
noncomputable def roX (k':Option Blk) (b:Nat) (k:Blk) (x:Option Upd):Option Upd:=match k' with
 |none=>x.map ((b,k):: ·)
 |some k'=>open Classical in if k'=k then x else none
def roE (v:V):Option Upd→Option (V×Upd)
 |some u=>some (v,u)
 |none=>none
theorem Lg:roU h []=some []:=rfl
theorem Hg (b:Nat) (k:Blk) (r:Upd):roU h ((b,k)::r)=roX (h b) b k (roU h r):=by
 simp only [roU,roX];cases h b<;>rfl
theorem J1 (b:Nat) (k:Blk) (x:Option Upd):roX (some k) b k x=x:=by simp [roX]
theorem Hs (b:Nat) (k:Blk) (u:Upd):roX none b k (some u)=some ((b,k)::u):=rfl
theorem FA (v:V) (u:Upd):roE v (some u)=some (v,u):=rfl
theorem RA (x:Option (V×Upd)):roW false h x=x:=by cases x<;>rfl
theorem Qj (c:Bool) (x y:Option (V×Upd)):roW true h (br c x y)=br c (roW true h x) (roW true h y):=by cases c<;>rfl
theorem F3:roW true h none=none:=rfl
theorem Hb (v:V) (u:Upd):roW true h (some (v,u))=roE v (roU h u):=by
 simp only [roW,if_true,roE];cases roU h u<;>rfl
noncomputable def oD (C:aB) (ow:FuncId→List Nat) (h:ah) (new:Nat) (f:FuncId):Option (List V×List Blk×List Nat×List Nat)→Option (V×Upd)
 |some (args',blks,ids,bor)=>qj ((ow f).contains 2000) ((ow f).contains 3000) h new ids bor (C f (gX (ow f) args') (gK (ow f) blks))
 |none=>none
theorem u3 (f:FuncId) (args:List V):dR C ow h n f args=oD C ow h n f (bo ow h f args):=by
 unfold dR oD qj
 cases bo ow h f args with
 |none=>rfl
 |some p=>obtain ⟨a,b,c,d⟩:=p;dsimp only;cases C f (gX (ow f) a) (gK (ow f) b)<;>rfl
theorem P3 (f:FuncId) (args:List Opd):ae C ow (.call f args) ev h n=oD C ow h n f (bo ow h f (args.map ev)):=u3 _ _
noncomputable def N6 (C:aB) (ow:FuncId→List Nat) (h:ah) (n:Nat) (args:List V):V→Option (V×Upd)
 | .fn k caps=>oD C ow h n k (bo ow h k (args++caps))
 |_=>none
theorem Sj (f:Opd) (args:List Opd):ae C ow (.dyn f args) ev h n=N6 C ow h n (args.map ev) (ev f):=by
 simp only [ae,N6]
 cases ev f<;>first|rfl|exact u3 _ _
theorem Kz (args:List V) (k:FuncId) (caps:List V):N6 C ow h n args (.fn k caps)=oD C ow h n k (bo ow h k (args++caps)):=rfl
theorem zT (f:FuncId) (a:List V) (b:List Blk) (c d:List Nat):oD C ow h n f (some (a,b,c,d))=qj ((ow f).contains 2000) ((ow f).contains 3000) h n c d (C f (gX (ow f) a) (gK (ow f) b)):=rfl
theorem I5 (f:FuncId) (c:Bool) (x y:Option (List V×List Blk×List Nat×List Nat)):oD C ow h n f (br c x y)=br c (oD C ow h n f x) (oD C ow h n f y):=by cases c<;>rfl
def B2 (args':List V) (bor:List Nat):Option (List Blk×List Nat)→Option (List V×List Blk×List Nat×List Nat)
 |some (blks,ids)=>br (bor.any (fun b=>decide (b∈ids))) none (some (args',blks,ids,bor))
 |none=>none
def xY (h:ah):Option (List V×List Nat×List Nat)→Option (List V×List Blk×List Nat×List Nat)
 |some (args',ids0,bor)=>B2 args' bor (bz h 40 0 ids0)
 |none=>none
theorem yz (f:FuncId) (args:List V):bo ow h f args=xY h (ct h (ow f) 0 [] args):=by
 unfold bo xY B2
 cases ct h (ow f) 0 [] args with
 |none=>rfl
 |some p=>
  obtain ⟨a,i,b⟩:=p
  dsimp only
  cases bz h 40 0 i with
  |none=>rfl
  |some q=>
   obtain ⟨bl,ids⟩:=q
   dsimp only
   cases hb:b.any (fun b=>decide (b∈ids))<;>simp [br]
theorem AU (a:List V) (i b:List Nat):xY h (some (a,i,b))=B2 a b (bz h 40 0 i):=rfl
theorem Am (a:List V) (b:List Nat) (bl:List Blk) (ids:List Nat):B2 a b (some (bl,ids))=br (b.any (fun b=>decide (b∈ids))) none (some (a,bl,ids,b)):=rfl
def la2 (v':V) (bs:List Nat):Option (List V×List Nat×List Nat)→Option (List V×List Nat×List Nat)
 |some (r',ids'',bs')=>some (v'::r',ids'',bs++bs')
 |none=>none
def la1 (h:ah) (owns:List Nat) (j:Nat) (r:List V):Option (V×List Nat×List Nat)→Option (List V×List Nat×List Nat)
 |some (v',ids',bs)=>la2 v' bs (ct h owns (j+1) ids' r)
 |none=>none
theorem yj (owns:List Nat) (j:Nat) (ids:List Nat):ct h owns j ids []=some ([],ids,[]):=rfl
theorem uI (owns:List Nat) (j:Nat) (ids:List Nat) (v:V) (r:List V):ct h owns j ids (v::r)=la1 h owns j r (bp h (owns.contains j) ids v):=by
 have:decide (j∈owns)=owns.contains j:=by simp [List.contains_iff_mem,Bool.eq_iff_iff]
 simp only [ct,la1,la2,this]
 cases bp h (owns.contains j) ids v with
 |none=>rfl
 |some p=>obtain ⟨a,b,c⟩:=p;dsimp only;cases ct h owns (j+1) b r<;>rfl
theorem GW (owns:List Nat) (j:Nat) (r:List V) (v':V) (ids' bs:List Nat):la1 h owns j r (some (v',ids',bs))=la2 v' bs (ct h owns (j+1) ids' r):=rfl
theorem Fq (v':V) (bs:List Nat) (r':List V) (i b:List Nat):la2 v' bs (some (r',i,b))=some (v'::r',i,bs++b):=rfl
def lcP (k:Option Blk) (ids:List Nat) (b i o m:Nat):Option (V×List Nat×List Nat):=match k with
 |some k=>if k.rows.length=m then some (.ptr (cM b (bK ids b)) i o m,bK ids b,[]) else none
 |none=>none
def lcO (k:Option Blk) (own:Bool) (ids:List Nat) (b s q:Nat):Option (V×List Nat×List Nat):=match k with
 |some k=>if s+q=k.rows.length then
  (if own then some (.sl (cM b (bK ids b)) s q,bK ids b,[]) else if k.op=false∧0<k.esz then some (.imm k.esz (k.rows.drop s),ids,[b]) else none) else none
 |none=>none
theorem J2 (own:Bool) (ids:List Nat) (v:Value):aU h own ids (.lit v)=some (.lit v,ids,[]):=rfl
theorem Q4 (own:Bool) (ids:List Nat) (m:Nat) (r:List (List V)):aU h own ids (.imm m r)=some (.imm m r,ids,[]):=rfl
theorem M3 (own:Bool) (ids:List Nat) (r:List V) (o:Nat):aU h own ids (.iptr r o)=some (.iptr r o,ids,[]):=rfl
theorem Sb (own:Bool) (ids:List Nat) (f:FuncId):aU h own ids (.fn f [])=some (.fn f [],ids,[]):=rfl
theorem Ex (own:Bool) (ids:List Nat):aU h own ids .undef=some (.undef,ids,[]):=rfl
theorem OK (own:Bool) (ids:List Nat) (b i o m:Nat):aU h own ids (.ptr b i o m)=lcP (h b) ids b i o m:=rfl
theorem OM (own:Bool) (ids:List Nat) (b s q:Nat):aU h own ids (.sl b s q)=lcO (h b) own ids b s q:=rfl
theorem sE (own:Bool) (ids:List Nat) (v:Value):bp h own ids (.lit v)=some (.lit v,ids,[]):=rfl
theorem NY (own:Bool) (ids:List Nat) (m:Nat) (r:List (List V)):bp h own ids (.imm m r)=some (.imm m r,ids,[]):=rfl
theorem LJ (own:Bool) (ids:List Nat) (r:List V) (o:Nat):bp h own ids (.iptr r o)=some (.iptr r o,ids,[]):=rfl
theorem Q8 (own:Bool) (ids:List Nat) (b i o m:Nat):bp h own ids (.ptr b i o m)=lcP (h b) ids b i o m:=rfl
theorem P0 (own:Bool) (ids:List Nat) (b s q:Nat):bp h own ids (.sl b s q)=lcO (h b) own ids b s q:=rfl
def lcA (mk:List V→V):Option (List V×List Nat×List Nat)→Option (V×List Nat×List Nat)
 |some (cs',ids',bs)=>some (mk cs',ids',bs)
 |none=>none
theorem PS (own:Bool) (ids:List Nat) (cs:List V):bp h own ids (.agg cs)=lcA V.agg (bm h own ids cs):=by
 simp only [bp,lcA]
 cases bm h own ids cs<;>rfl
theorem RC (own:Bool) (ids:List Nat) (f:FuncId) (cs:List V):bp h own ids (.fn f cs)=lcA (V.fn f) (bm h true ids cs):=by
 simp only [bp,lcA]
 cases bm h true ids cs<;>rfl
theorem Gh (mk:List V→V) (cs:List V) (i b:List Nat):lcA mk (some (cs,i,b))=some (mk cs,i,b):=rfl
def Ho (h:ah) (own:Bool) (r:List V):Option (V×List Nat×List Nat)→Option (List V×List Nat×List Nat)
 |some (v',ids',bs)=>la2 v' bs (bm h own ids' r)
 |none=>none
theorem vS (own:Bool) (ids:List Nat):bm h own ids []=some ([],ids,[]):=rfl
theorem nH (own:Bool) (ids:List Nat) (v:V) (r:List V):bm h own ids (v::r)=Ho h own r (aU h own ids v):=by
 simp only [bm,Ho,la2]
 cases aU h own ids v with
 |none=>rfl
 |some p=>obtain ⟨a,b,c⟩:=p;dsimp only;cases bm h own b r<;>rfl
theorem uk (own:Bool) (r:List V) (v':V) (ids' bs:List Nat):Ho h own r (some (v',ids',bs))=la2 v' bs (bm h own ids' r):=rfl
theorem Qq (ids:List Nat) (b o m:Nat) (row:List V):lcP (some ⟨m,true,[row]⟩) ids b 0 o 1=some (.ptr (cM b (bK ids b)) 0 o 1,bK ids b,[]):=rfl
theorem Rw (m:Nat) (ids:List Nat) (b s q:Nat) (hq:s+q=l.length):lcO (some ⟨m,false,rws e l⟩) true ids b s q=some (.sl (cM b (bK ids b)) s q,bK ids b,[]):=by
 simp [lcO,rws,hq]
theorem MV (m:Nat) (ids:List Nat) (b q:Nat) (h0:Nat.blt 0 m=true) (hq:l.length=q):lcO (some ⟨m,false,rws e l⟩) false ids b 0 q=some (.imm m (rws e l),ids,[b]):=by
 rw [lI,decide_eq_true_eq] at h0
 simp [lcO,rws,hq,h0]
def lb2 (k:Blk):Option (List Blk×List Nat)→Option (List Blk×List Nat)
 |some (r,ids')=>some (k::r,ids')
 |none=>none
def ld2 (v':V):Option (List V×List Nat)→Option (List V×List Nat)
 |some (r',i)=>some (v'::r',i)
 |none=>none
def ld1 (h:ah) (r:List V):Option (V×List Nat×List Nat)→Option (List V×List Nat)
 |some (v',ids',_)=>ld2 v' (fk h ids' r)
 |none=>none
theorem BV (ids:List Nat):fk h ids []=some ([],ids):=rfl
theorem j4 (ids:List Nat) (v:V) (r:List V):fk h ids (v::r)=ld1 h r (bp h true ids v):=by
 simp only [fk,ld1,ld2]
 cases bp h true ids v with
 |none=>rfl
 |some p=>obtain ⟨a,b,c⟩:=p;dsimp only;cases fk h b r<;>rfl
theorem lW (r:List V) (v':V) (ids' bs:List Nat):ld1 h r (some (v',ids',bs))=ld2 v' (fk h ids' r):=rfl
theorem FC (v':V) (r':List V) (i:List Nat):ld2 v' (some (r',i))=some (v'::r',i):=rfl
def lb1 (h:ah) (fuel pos m:Nat):Option (List V×List Nat)→Option (List Blk×List Nat)
 |some (row,ids1)=>lb2 ⟨m,true,[row]⟩ (bz h fuel (pos+1) ids1)
 |none=>none
def lb0 (h:ah) (fuel pos:Nat) (ids:List Nat):Option Blk→Option (List Blk×List Nat)
 |some k=>if k.op=false then lb2 k (bz h fuel (pos+1) ids) else (match dW h ids k.rows with
  |none=>none
  |some (rows,ids1)=>lb2 { k with rows:=rows } (bz h fuel (pos+1) ids1))
 |none=>none
def lbN (h:ah) (fuel pos:Nat) (ids:List Nat):Option Nat→Option (List Blk×List Nat)
 |none=>some ([],ids)
 |some b=>lb0 h fuel pos ids (h b)
theorem An (fuel pos:Nat) (ids:List Nat):bz h (fuel+1) pos ids=lbN h fuel pos ids ids[pos]? :=by
 simp only [bz,lbN,lb0]
 cases ids[pos]? with
 |none=>rfl
 |some b=>
  dsimp only
  cases h b with
  |none=>rfl
  |some k=>
   dsimp only
   split
   ·cases bz h fuel (pos+1) ids<;>rfl
   ·cases dW h ids k.rows with
    |none=>rfl
    |some p=>obtain ⟨rows,ids1⟩:=p;dsimp only;cases bz h fuel (pos+1) ids1<;>rfl
theorem Ip (fuel pos:Nat) (ids:List Nat):lbN h fuel pos ids none=some ([],ids):=rfl
theorem FW (fuel pos:Nat) (ids:List Nat) (b:Nat):lbN h fuel pos ids (some b)=lb0 h fuel pos ids (h b):=rfl
theorem OB (fuel pos:Nat) (ids:List Nat) (m:Nat) (r:List (List V)):lb0 h fuel pos ids (some ⟨m,false,r⟩)=lb2 ⟨m,false,r⟩ (bz h fuel (pos+1) ids):=rfl
theorem O4 (fuel pos:Nat) (ids:List Nat) (m:Nat) (row:List V):lb0 h fuel pos ids (some ⟨m,true,[row]⟩)=lb1 h fuel pos m (fk h ids row):=by
 simp only [lb0,dW,lb1]
 cases fk h ids row with
 |none=>rfl
 |some p=>obtain ⟨a,b⟩:=p;rfl
theorem EF (fuel pos m:Nat) (row:List V) (ids1:List Nat):lb1 h fuel pos m (some (row,ids1))=lb2 ⟨m,true,[row]⟩ (bz h fuel (pos+1) ids1):=rfl
theorem Gk (k:Blk) (r:List Blk) (ids:List Nat):lb2 k (some (r,ids))=some (k::r,ids):=rfl
theorem Rc (n:Nat):bI [] [] n=[]:=rfl
theorem RE (k:Blk) (r:List Blk) (n:Nat):bI [] (k::r) n=n::bI [] r (n+1000000):=rfl
theorem Rq (i:Nat) (ids:List Nat) (k:Blk) (r:List Blk) (n:Nat):bI (i::ids) (k::r) n=bI ids r n:=rfl
def cpw (fl:Bool) (new:Nat) (ids bor:List Nat) (r:V) (bs:List Blk) (ns:List Nat):Option (V×Upd):=some (jR (ids++ns) r,dT (ids++ns) (bs.map (cC (ids++ns)))++br (bor.isEmpty||(gj r&&bs.all (dH fl))) [] (cf bor))
theorem Q0 (fl:Bool) (new:Nat) (ids bor:List Nat) (r:V) (bs:List Blk) (ns:List Nat):cpw fl new ids bor r bs ns=some (jR (ids++ns) r,dT (ids++ns) (bs.map (cC (ids++ns)))++br (bor.isEmpty||(gj r&&bs.all (dH fl))) [] (cf bor)):=rfl
theorem zi (fl ro:Bool) (new:Nat) (ids bor:List Nat) (r:V) (bs:List Blk):qj fl ro h new ids bor (some (r,bs))=
 roW ro h (br (Nat.ble ids.length bs.length&&(bI ids bs new).all (fun b=>(h b).isNone)) (cpw fl new ids bor r bs (bI ids bs new)) none):=by
 refine congrArg (roW ro h) ?_
 simp only [iN,cpw,oY]
 generalize (bI ids bs new).all (fun b=>(h b).isNone)=c3
 generalize (bor.isEmpty||(gj r&&bs.all (dH fl)))=c4
 by_cases h1:ids.length≤bs.length
 ·rw [decide_eq_true h1];cases c3<;>cases c4<;>simp [h1,br]
 ·rw [decide_eq_false h1];cases c3<;>cases c4<;>simp [h1,br]
theorem Dz (ids:List Nat) (vs:List V):jR ids (.tup vs)= .tup (vs.map (du ids)):=rfl
theorem De (ids:List Nat) (vs:List V):jR ids (.agg vs)= .agg (vs.map (unV ids)):=rfl
theorem Ek (ids:List Nat) (v:Value):jR ids (.lit v)= .lit v:=rfl
theorem Ca (ids:List Nat) (m:Nat) (r:List (List V)):jR ids (.imm m r)= .imm m r:=rfl
theorem xZ (ids:List Nat):jR ids .undef= .undef:=rfl
theorem Dy (ids:List Nat) (b i o m:Nat):jR ids (.ptr b i o m)= .ptr (ids.getD b 0) i o m:=rfl
theorem CU (ids:List Nat) (b s q:Nat):jR ids (.sl b s q)= .sl (ids.getD b 0) s q:=rfl
theorem DG (ids:List Nat) (vs:List V):du ids (.agg vs)= .agg (vs.map (unV ids)):=rfl
theorem D8 (ids:List Nat) (v:Value):du ids (.lit v)= .lit v:=rfl
theorem Dj (ids:List Nat) (m:Nat) (r:List (List V)):du ids (.imm m r)= .imm m r:=rfl
theorem DX (ids:List Nat) (b i o m:Nat):du ids (.ptr b i o m)= .ptr (ids.getD b 0) i o m:=rfl
theorem Ed (ids:List Nat) (b s q:Nat):du ids (.sl b s q)= .sl (ids.getD b 0) s q:=rfl
theorem Jl (ids:List Nat) (v:Value):unV ids (.lit v)= .lit v:=rfl
theorem Qt (ids:List Nat) (f:FuncId) (cs:List V):unV ids (.fn f cs)= .fn f cs:=rfl
theorem IL (ids:List Nat) (f:FuncId) (cs:List V):du ids (.fn f cs)= .fn f (cs.map (unV ids)):=rfl
theorem MN (ids:List Nat) (m:Nat) (r:List (List V)):unV ids (.imm m r)= .imm m r:=rfl
theorem K8 (ids:List Nat) (b i o m:Nat):unV ids (.ptr b i o m)= .ptr (ids.getD b 0) i o m:=rfl
theorem Mm (ids:List Nat) (b s q:Nat):unV ids (.sl b s q)= .sl (ids.getD b 0) s q:=rfl
theorem IY (ids:List Nat) (m:Nat) (r:List (List V)):cC ids ⟨m,false,r⟩=⟨m,false,r⟩:=rfl
theorem Dq (ids:List Nat) (m:Nat) (row:List V):cC ids ⟨m,true,[row]⟩=⟨m,true,[row.map (du ids)]⟩:=rfl
theorem PK (v:Value):gj (.lit v)=true:=rfl
theorem GQ:gj .undef=true:=rfl
theorem Pv (m:Nat) (r:List (List V)):gj (.imm m r)=false:=rfl
theorem OJ (vs:List V):gj (.agg vs)=vs.all eK:=rfl
theorem OC (vs:List V):gj (.tup vs)=vs.all lj:=rfl
theorem Qw (b i o m:Nat):gj (.ptr b i o m)=true:=rfl
theorem Q9 (b s q:Nat):gj (.sl b s q)=true:=rfl
theorem Mn (v:Value):lj (.lit v)=true:=rfl
theorem Jq (m:Nat) (r:List (List V)):lj (.imm m r)=false:=rfl
theorem KC (vs:List V):lj (.agg vs)=vs.all eK:=rfl
theorem Ko (b i o m:Nat):lj (.ptr b i o m)=true:=rfl
theorem KU (b s q:Nat):lj (.sl b s q)=true:=rfl
theorem Ks (v:Value):eK (.lit v)=true:=rfl
theorem Om (f:FuncId) (cs:List V):eK (.fn f cs)=false:=rfl
theorem NL (f:FuncId) (cs:List V):lj (.fn f cs)=false:=rfl
theorem QO (f:FuncId) (cs:List V):gj (.fn f cs)=false:=rfl
theorem Kh (m:Nat) (r:List (List V)):eK (.imm m r)=false:=rfl
theorem Lo (b i o m:Nat):eK (.ptr b i o m)=true:=rfl
theorem LB (b s q:Nat):eK (.sl b s q)=true:=rfl
theorem NX (m:Nat) (r:List (List V)):dH false ⟨m,false,r⟩=false:=rfl
theorem oN {α:Type} {e:En α} (he: ∀x,(e.enc x).all eK=true) (m:Nat) (l:List α):dH true ⟨m,false,rws e l⟩=true:=by
 simp only [dH,Bool.true_or,Bool.true_and,rws,List.all_map,List.all_eq_true]
 exact fun x _=>he x
theorem Rl (m:Nat) (l:List Int):dH true ⟨m,false,rws eI l⟩=true:=oN (fun _=>rfl) m l
theorem QA (m:Nat) (l:List Bool):dH true ⟨m,false,rws eB l⟩=true:=oN (fun _=>rfl) m l
theorem Rx (m:Nat) (l:List UInt8):dH true ⟨m,false,rws eU8 l⟩=true:=oN (fun _=>rfl) m l
theorem Li (m:Nat) (l:List Int):dH true ⟨m,false,rws yN l⟩=true:=oN (fun _=>rfl) m l
theorem QB (m:Nat) (l:List (List UInt8)):dH true ⟨m,false,rws eS l⟩=true:=oN (fun _=>rfl) m l
theorem Qa (fl:Bool) (m:Nat) (row:List V):dH fl ⟨m,true,[row]⟩=row.all eK:=by simp [dH]
def JN (raw:Bool) (m:Nat):Option (List V)→Option (List Blk)→Option (V×List Blk)
 |some vs',some bs=>br (Nat.ble m 1000) (some ((wm vs').czR,br raw bs (bs.map Blk.cz))) none
 |_,_=>none
def wL (keep raw:Bool) (m:Nat) (h:ah):Option (List V)→Option (V×List Blk)
 |some vs=>JN raw m (ik h m (br keep (de raw h m vs) []) vs) (hZ h m (br keep (de raw h m vs) []) (List.range m++(br keep (de raw h m vs) [])))
 |none=>none
theorem Bi (nt:Nat) (body:aw) (res:List oU) (keep raw:Bool) (m:Nat) (st:St) (x:aH) (hx:x= .ret∨x= .normal):AT ⟨nt,body,res,keep,raw⟩ m x st=wL keep raw m st.heap (dd st res):=by
 have hk: ∀vs:List V,(if keep=true then de raw st.heap m vs else [])=br keep (de raw st.heap m vs) []:=fun vs=>by cases keep<;>rfl
 have:AT ⟨nt,body,res,keep,raw⟩ m x st=AT ⟨nt,body,res,keep,raw⟩ m .ret st:=by rcases hx with rfl|rfl<;>rfl
 rw [this]
 simp only [AT,cP,wL,JN,wI,hk,oY]
 cases dd st res with
 |none=>rfl
 |some vs=>
  dsimp only
  cases ik st.heap m (br keep (de raw st.heap m vs) []) vs with
  |none=>rfl
  |some vs'=>
   cases hZ st.heap m (br keep (de raw st.heap m vs) []) (List.range m++(br keep (de raw st.heap m vs) [])) with
   |none=>rfl
   |some bs=>by_cases h1:m≤1000<;>cases raw<;>simp [h1,br]
theorem Gm (nt:Nat) (body:aw) (res:List oU) (keep raw:Bool) (m:Nat) (st:St):AT ⟨nt,body,res,keep,raw⟩ m .ret st=wL keep raw m st.heap (dd st res):=Bi _ _ _ _ _ _ _ _ (.inl rfl)
theorem yD (nt:Nat) (body:aw) (res:List oU) (keep raw:Bool) (m:Nat) (st:St):AT ⟨nt,body,res,keep,raw⟩ m .normal st=wL keep raw m st.heap (dd st res):=Bi _ _ _ _ _ _ _ _ (.inr rfl)
theorem CX (keep raw:Bool) (m:Nat) (vs:List V):wL keep raw m h (some vs)=JN raw m (ik h m (br keep (de raw h m vs) []) vs) (hZ h m (br keep (de raw h m vs) []) (List.range m++(br keep (de raw h m vs) []))):=rfl
theorem DQ (raw:Bool) (m:Nat) (vs:List V) (bs:List Blk):JN raw m (some vs) (some bs)=br (Nat.ble m 1000) (some ((wm vs).czR,br raw bs (bs.map Blk.cz))) none:=rfl
def rs1:Option V→Option (List V)→Option (List V)
 |some v,some vs=>some (v::vs)
 |_,_=>none
theorem Ir (st:St):dd st []=some []:=rfl
theorem CV (st:St) (r:oU) (rs:List oU):dd st (r::rs)=rs1 (nw st r) (dd st rs):=by
 simp only [dd,rs1]
 cases nw st r<;>cases dd st rs<;>rfl
theorem FN (v:V) (vs:List V):rs1 (some v) (some vs)=some (v::vs):=rfl
theorem K2 (st:St) (t:Nat):nw st (.tmp t)=some (st.get t):=rfl
theorem EE (st:St) (t:Nat) (g:Option Nat):nw st (.cell t g)=iY g st.heap (st.get t):=rfl
def Tb:Option V→Option (List V)→Option (List V)
 |some v,some vs=>some (v::vs)
 |_,_=>none
theorem BN (m:Nat) (kp:List Nat):ik h m kp []=some []:=rfl
theorem A6 (m:Nat) (kp:List Nat) (v:V) (r:List V):ik h m kp (v::r)=rs1 (lK h m kp v) (ik h m kp r):=by
 simp only [ik,rs1]
 cases lK h m kp v<;>cases ik h m kp r<;>rfl
theorem E6 (m:Nat) (kp:List Nat):il h m kp []=some []:=rfl
theorem tg (m:Nat) (kp:List Nat) (v:V) (r:List V):il h m kp (v::r)=rs1 (eO h m kp v) (il h m kp r):=by
 simp only [il,rs1]
 cases eO h m kp v<;>cases il h m kp r<;>rfl
def fag:Option (List V)→Option V
 |some cs=>some (.agg cs)
 |none=>none
theorem Gz (m:Nat) (kp:List Nat) (cs:List V):lK h m kp (.agg cs)=fag (il h m kp cs):=by
 simp only [lK,fag]
 cases il h m kp cs<;>rfl
theorem Hm (cs:List V):fag (some cs)=some (.agg cs):=rfl
theorem Gu (m:Nat) (kp:List Nat) (v:Value):lK h m kp (.lit v)=some (.lit v):=rfl
theorem EU (m:Nat) (kp:List Nat) (q:Nat) (r:List (List V)):lK h m kp (.imm q r)=some (.imm q r):=rfl
theorem zw (m:Nat) (kp:List Nat):lK h m kp .undef=some .undef:=rfl
theorem K4 (m:Nat) (kp:List Nat) (f:FuncId):lK h m kp (.fn f [])=some (.fn f []):=rfl
theorem G8 (m:Nat) (kp:List Nat) (v:Value):eO h m kp (.lit v)=some (.lit v):=rfl
theorem Fh (m:Nat) (kp:List Nat) (q:Nat) (r:List (List V)):eO h m kp (.imm q r)=some (.imm q r):=rfl
theorem Jv (m:Nat) (kp:List Nat) (f:FuncId):eO h m kp (.fn f [])=some (.fn f []):=rfl
theorem zh (m:Nat) (kp:List Nat):eO h m kp .undef=some .undef:=rfl
def JY:Option (V×List Nat)→Option V
 |some (v,_)=>some v
 |none=>none
def fcO (h:ah) (m:Nat) (kp:List Nat) (b s q:Nat):Option V:=br (Nat.blt b m) (some (.sl b s q)) (br (kp.contains b) (some (.sl (m+cM b kp) s q)) (JY (ep h (.sl b s q))))
theorem tc (m:Nat) (kp:List Nat) (b s q:Nat):eO h m kp (.sl b s q)=fcO h m kp b s q:=by
 simp only [eO,fcO,lI,JY]
 by_cases h1:b<m
 ·simp [h1,br]
 ·by_cases h2:b∈kp
  ·simp [h1,h2,br]
  ·have:kp.contains b=false:=by simpa using h2
   simp only [h1,h2,this,if_false,decide_false,aX]
   cases ep h (.sl b s q)<;>rfl
theorem FM (m:Nat) (kp:List Nat) (b s q:Nat):lK h m kp (.sl b s q)=fcO h m kp b s q:=tc m kp b s q
theorem Qh (m:Nat) (kp:List Nat) (b s q:Nat):fcO h m kp b s q=br (Nat.blt b m) (some (.sl b s q)) (br (kp.contains b) (some (.sl (m+cM b kp) s q)) (JY (ep h (.sl b s q)))):=rfl
theorem Dp (v:V) (bs:List Nat):JY (some (v,bs))=some v:=rfl
def fcP (m:Nat) (kp:List Nat) (b i o q:Nat):Option V:=br (Nat.blt b m) (some (.ptr b i o q)) (br (kp.contains b) (some (.ptr (m+cM b kp) i o q)) none)
theorem rE (m:Nat) (kp:List Nat) (b i o q:Nat):eO h m kp (.ptr b i o q)=fcP m kp b i o q:=by
 simp only [eO,fcP,lI]
 by_cases h1:b<m
 ·simp [h1,br]
 ·by_cases h2:b∈kp
  ·simp [h1,h2,br]
  ·have:kp.contains b=false:=by simpa using h2
   simp [h1,h2,this,br]
theorem G2 (m:Nat) (kp:List Nat) (b i o q:Nat):lK h m kp (.ptr b i o q)=fcP m kp b i o q:=rE (h:=h) m kp b i o q
theorem Ov (m:Nat) (kp:List Nat) (b i o q:Nat):fcP m kp b i o q=br (Nat.blt b m) (some (.ptr b i o q)) (br (kp.contains b) (some (.ptr (m+cM b kp) i o q)) none):=rfl
def fb2:Option Blk→Option (List Blk)→Option (List Blk)
 |some k,some r=>some (k::r)
 |_,_=>none
def fb1 (h:ah) (m:Nat) (kp r:List Nat):Option Blk→Option (List Blk)
 |some k=>fb2 (rJ h m kp k) (hZ h m kp r)
 |none=>none
theorem DV (m:Nat) (kp:List Nat):hZ h m kp []=some []:=rfl
theorem Av (m:Nat) (kp:List Nat) (b:Nat) (r:List Nat):hZ h m kp (b::r)=fb1 h m kp r (h b):=by
 simp only [hZ,fb1,fb2]
 cases h b with
 |none=>rfl
 |some k=>dsimp only;cases rJ h m kp k<;>cases hZ h m kp r<;>rfl
theorem HC (m:Nat) (kp r:List Nat) (k:Blk):fb1 h m kp r (some k)=fb2 (rJ h m kp k) (hZ h m kp r):=rfl
theorem H6 (k:Blk) (r:List Blk):fb2 (some k) (some r)=some (k::r):=rfl
theorem KO (m:Nat) (kp:List Nat) (q:Nat) (r:List (List V)):rJ h m kp ⟨q,false,r⟩=some ⟨q,false,r⟩:=rfl
def fbO (q:Nat):Option (List V)→Option Blk
 |some row=>some ⟨q,true,[row]⟩
 |none=>none
theorem DW (m:Nat) (kp:List Nat):jj h m kp []=some []:=rfl
theorem j0 (m:Nat) (kp:List Nat) (v:V) (r:List V):jj h m kp (v::r)=rs1 (nm h m kp v) (jj h m kp r):=by
 simp only [jj,rs1]
 cases nm h m kp v<;>cases jj h m kp r<;>rfl
def fnR (f:FuncId):Option (List V)→Option V
 |some cs=>some (.fn f cs)
 |none=>none
theorem IM (f:FuncId) (cs:List V):fnR f (some cs)=some (.fn f cs):=rfl
theorem HQ (m:Nat) (kp:List Nat) (f:FuncId):nm h m kp (.fn f [])=some (.fn f []):=rfl
theorem M5 (m:Nat) (kp:List Nat) (f:FuncId) (c:V) (cs:List V):nm h m kp (.fn f (c::cs))=fnR f (il h m kp (c::cs)):=by
 simp only [nm,fnR]
 cases il h m kp (c::cs)<;>rfl
theorem I6 (m:Nat) (kp:List Nat) (v:Value):nm h m kp (.lit v)=some (.lit v):=rfl
theorem F8 (m:Nat) (kp:List Nat) (q:Nat) (r:List (List V)):nm h m kp (.imm q r)=some (.imm q r):=rfl
theorem zU (m:Nat) (kp:List Nat):nm h m kp .undef=some .undef:=rfl
theorem DD (m:Nat) (kp:List Nat) (r:List V) (o:Nat):nm h m kp (.iptr r o)=some (.iptr r o):=rfl
theorem Ft (m:Nat) (kp:List Nat) (b s q:Nat):nm h m kp (.sl b s q)=fcO h m kp b s q:=tc m kp b s q
theorem HM (m:Nat) (kp:List Nat) (b i o q:Nat):nm h m kp (.ptr b i o q)=fcP m kp b i o q:=rE (h:=h) m kp b i o q
theorem LG (m:Nat) (kp:List Nat) (q:Nat) (row:List V):rJ h m kp ⟨q,true,[row]⟩=fbO q (jj h m kp row):=by
 simp only [rJ,gS,fbO]
 cases jj h m kp row<;>rfl
theorem Io (q:Nat) (row:List V):fbO q (some row)=some ⟨q,true,[row]⟩:=rfl
theorem H8 (t u:Nat) (v:V) (r:List (Nat×V)) (m:List (Nat×Blk)):St.get ⟨(u,v)::r,m⟩ t=if u=t then v else St.get ⟨r,m⟩ t:=by
 simp only [St.get,b7]
 split<;>rfl
theorem Ke (t:Nat) (m:List (Nat×Blk)):St.get ⟨[],m⟩ t= .undef:=rfl
theorem Em (b c:Nat) (k:Blk) (r:List (Nat×Blk)) (x:List (Nat×V)):St.heap ⟨x,(c,k)::r⟩ b=if c=b then some k else St.heap ⟨x,r⟩ b:=rfl
theorem G7 (b:Nat) (x:List (Nat×V)):St.heap ⟨x,[]⟩ b=none:=rfl
theorem IV (x:List (Nat×V)) (m:List (Nat×Blk)) (d:Nat) (v:V):St.put ⟨x,m⟩ (some d) v=⟨(d,v)::x,m⟩:=rfl
theorem Fi (st:St) (v:V):st.put none v=st:=rfl
theorem PU (x:List (Nat×V)) (m:List (Nat×Blk)) (u:Upd):St.upd ⟨x,m⟩ u=⟨x,yt m u⟩:=rfl
theorem KB (st:St):st.upd []=st:=rfl
theorem HE (m:List (Nat×Blk)):yt m []=m:=rfl
theorem D1 (m:List (Nat×Blk)) (b:Nat) (k:Blk) (r:Upd):yt m ((b,k)::r)=yt (ci b k m) r:=rfl
theorem G1 {β:Type} (k:Nat) (v:β):ci k v []=[(k,v)]:=rfl
theorem DP {β:Type} (k j:Nat) (v u:β) (r:List (Nat×β)):ci k v ((j,u)::r)=if j=k then (j,v)::r else (j,u)::ci k v r:=rfl
theorem SU (st:St) (t:Nat):st.ev (.t t)=st.get t:=rfl
theorem SM (st:St) (v:Value):st.ev (.c v)= .lit v:=rfl
theorem SG (st:St) (f:FuncId):st.ev (.f f)= .fn f []:=rfl
theorem KI (live:List Nat) (x:List (Nat×V)) (m:List (Nat×Blk)):trim live ⟨x,m⟩=⟨live.map fun t=>(t,St.get ⟨x,m⟩ t),m⟩:=rfl
theorem Ak {β:Type} (n:Nat):fe n ([]:List β)=[]:=rfl
theorem wF {β:Type} (n:Nat) (x:β) (r:List β):fe n (x::r)=(n,x)::fe (n+1) r:=rfl
theorem start_eq (a:List V) (b:List Blk):start a b=⟨fe 0 a,fe 0 b⟩:=rfl
theorem wN:ca ev []=[]:=rfl
theorem vb (a b:Nat) (x:Opd) (r:List (Nat×Nat×Opd)):ca ev ((a,b,x)::r)=(a,b,ev x)::ca ev r:=rfl
theorem DL (cs:List V):pQ cs []=some cs:=rfl
theorem zr (cs:List V) (off size:Nat) (v:V) (r:List (Nat×Nat×V)):pQ cs ((off,size,v)::r)=br (Nat.beq v.cells.length size&&Nat.ble (off+size) cs.length&&v.cells.all V.cell) (pQ (cs.take off++(v.cells++cs.drop (off+size))) r) none:=rfl
theorem CG (m:Nat) (r:List (List V)):pa m r []=some r:=rfl
theorem A2 (m:Nat) (rows:List (List V)) (i:Nat) (v:V) (r:List (Nat×V)):pa m rows ((i,v)::r)=br (Nat.beq v.cells.length m&&(Nat.blt i rows.length&&v.cells.all V.cell)) (pa m (rows.set i v.cells) r) none:=rfl
theorem Eg (cs:List V):(V.agg cs).cells=cs:=rfl
theorem ur (v:Value):(V.lit v).cells=[.lit v]:=rfl
theorem C0 (m:Nat) (r:List (List V)):(V.imm m r).cells=[.imm m r]:=rfl
theorem C8 (b s q:Nat):(V.sl b s q).cells=[.sl b s q]:=rfl
theorem E1 (b i o m:Nat):(V.ptr b i o m).cells=[.ptr b i o m]:=rfl
theorem Ap (r:List V) (o:Nat):(V.iptr r o).cells=[.iptr r o]:=rfl
theorem HH (f:FuncId) (cs:List V):(V.fn f cs).cells=[.fn f cs]:=rfl
theorem yG (k:IntKind) (a:Int):(V.lit (.int k a)).cell=true:=rfl
theorem Cc (a:Bool):(V.lit (.bool a)).cell=true:=rfl
theorem GR (a:ByteArray):(V.lit (.string a)).cell=true:=rfl
theorem HD (a:Option Addr) (n m:Nat):(V.lit (.slice a n m)).cell=true:=rfl
theorem IN (m:Nat) (r:List (List V)):(V.imm m r).cell=true:=rfl
theorem F6 (b s q:Nat):(V.sl b s q).cell=true:=rfl
theorem G6 (b i o m:Nat):(V.ptr b i o m).cell=true:=rfl
theorem DC (r:List V) (o:Nat):(V.iptr r o).cell=true:=rfl
theorem Jy (f:FuncId) (cs:List V):(V.fn f cs).cell=true:=rfl
theorem JU (k:IntKind) (a:Int):aC (.int k a)=true:=rfl
theorem GD (a:Bool):aC (.bool a)=true:=rfl
theorem Lf (a:ByteArray):aC (.string a)=true:=rfl
theorem KF (a:Option Addr) (n m:Nat):aC (.slice a n m)=true:=rfl
theorem Mp (a:Option Addr):aC (.pointer a)=true:=rfl
theorem Dl:cf []=[]:=rfl
theorem Ai (b:Nat) (r:List Nat):cf (b::r)=(b,eD)::cf r:=rfl
theorem Jk (ids:List Nat):dT ids []=[]:=by cases ids<;>rfl
theorem FD (i:Nat) (ids:List Nat) (k:Blk) (r:List Blk):dT (i::ids) (k::r)=(i,k)::dT ids r:=rfl
theorem IP (b x:Nat) (r:List Nat):cM b (x::r)=if x=b then 0 else cM b r+1:=rfl
theorem AE (b:Nat):bK [] b=[b]:=rfl
theorem CA (ids:List Nat) (b:Nat):bK ids b=br (ids.contains b) ids (ids++[b]):=by
 unfold bK
 by_cases h:b∈ids<;>simp [h,br]
theorem Nd:List.range 1=[0]:=rfl
theorem Nf:List.range 2=[0,1]:=rfl
theorem PW:List.range 3=[0,1,2]:=rfl
theorem PJ:List.range 4=[0,1,2,3]:=rfl
theorem ER (v:V):wm [v]=v:=rfl
theorem Hn:wm []= .tup []:=rfl
theorem Hc (a b:V) (r:List V):wm (a::b::r)= .tup (a::b::r):=rfl
theorem A5 (o:List Nat) (a:List V):gX o a=br (o.contains 1000) a (a.map V.czA):=by
 unfold gX;cases o.contains 1000<;>rfl
theorem zx (o:List Nat) (a:List Blk):gK o a=br (o.contains 1000) a (a.map Blk.cz):=by
 unfold gK;cases o.contains 1000<;>rfl
theorem Dt (a:Nat) (r:List Nat):(a::r).getD 0 0=a:=rfl
theorem E5 (a n:Nat) (r:List Nat):(a::r).getD (n+1) 0=r.getD n 0:=rfl
def zG (st:St) (bs:List Nat):St:={ e:=rL (fzA st.heap bs) st.e,m:=fzM st.heap bs st.m }
theorem FT (st:St) (bs:List Nat):aL st (.close bs)=br (bs.all (fun b=>Nat.ble 1000 b)) (some (zG st bs)) none:=by
 simp only [aL,zG,oY]
 cases bs.all (fun b=>decide (1000≤b))<;>rfl
theorem Cl (x:List (Nat×V)) (m:List (Nat×Blk)) (bs:List Nat):zG ⟨x,m⟩ bs=⟨rL (fzA (St.heap ⟨x,m⟩) bs) x,fzM (St.heap ⟨x,m⟩) bs m⟩:=rfl
theorem EG (g:V→V):rL g []=[]:=rfl
theorem CO (g:V→V) (t:Nat) (v:V) (r:List (Nat×V)):rL g ((t,v)::r)=(t,g v)::rL g r:=rfl
variable {bs:List Nat}
theorem PY (v:Value):fzA h bs (.lit v)= .lit v:=rfl
theorem Oe (m:Nat) (r:List (List V)):fzA h bs (.imm m r)= .imm m r:=rfl
theorem LX (r:List V) (o:Nat):fzA h bs (.iptr r o)= .iptr r o:=rfl
theorem HL:fzA h bs .undef= .undef:=rfl
theorem Oq (vs:List V):fzA h bs (.tup vs)= .undef:=rfl
def fzO:Option (V×List Nat)→V
 |some (v,_)=>v.cz
 |none=> .undef
theorem Hu (b s q:Nat):fzA h bs (.sl b s q)=br (bs.contains b) (fzO (ep h (.sl b s q))) (.sl b s q):=by
 simp only [fzA,fzC,fzO]
 by_cases hb:b∈bs
 ·simp [hb,br];cases ep h (.sl b s q)<;>rfl
 ·simp [hb,br]
theorem GL (b i o m:Nat):fzA h bs (.ptr b i o m)=br (bs.contains b) .undef (.ptr b i o m):=by
 simp only [fzA,fzC]
 by_cases hb:b∈bs<;>simp [hb,br]
theorem Er (v:V) (b:List Nat):fzO (some (v,b))=v.cz:=rfl
theorem Qr (cs:List V):fzA h bs (.agg cs)=br ((cs.map (fzC h bs)).all V.cell) (.agg (cs.map (fzC h bs))) .undef:=by
 simp only [fzA]
 cases (cs.map (fzC h bs)).all V.cell<;>rfl
theorem MY (f:FuncId) (cs:List V):fzA h bs (.fn f cs)=br (cs.all okC&& !(cs.flatMap ft).any (fun b=>bs.contains b)) (.fn f cs) .undef:=by
 simp only [fzA,fzC]
 have:(fun b=>decide (b∈bs))=fun b=>bs.contains b:=by funext b;simp [Bool.eq_iff_iff]
 rw [this]
 cases (cs.all okC&& !(cs.flatMap ft).any (fun b=>bs.contains b))<;>rfl
theorem Kw (v:Value):fzC h bs (.lit v)= .lit v:=rfl
theorem LW (m:Nat) (r:List (List V)):fzC h bs (.imm m r)= .imm m r:=rfl
theorem Nj (f:FuncId) (cs:List V):fzC h bs (.fn f cs)=br (cs.all okC&& !(cs.flatMap ft).any (fun b=>bs.contains b)) (.fn f cs) .undef:=MY (h:=h) f cs
theorem Mq (b i o m:Nat):okC (.ptr b i o m)=true:=rfl
theorem K0 (b s q:Nat):okC (.sl b s q)=true:=rfl
theorem L7 (v:Value):okC (.lit v)=true:=rfl
theorem LR (m:Nat) (r:List (List V)):okC (.imm m r)=true:=rfl
theorem Nx (f:FuncId):okC (.fn f [])=true:=rfl
theorem Gy (r:List V) (o:Nat):fzC h bs (.iptr r o)= .iptr r o:=rfl
theorem Md (b s q:Nat):fzC h bs (.sl b s q)=br (bs.contains b) (fzO (ep h (.sl b s q))) (.sl b s q):=Hu b s q
theorem Ml (b i o m:Nat):fzC h bs (.ptr b i o m)=br (bs.contains b) .undef (.ptr b i o m):=GL (h:=h) b i o m
theorem Mo:fzM h bs []=[]:=rfl
def fzK (h:ah) (bs:List Nat) (k:Blk):Blk:=if k.op then (if (k.rows.map (·.map (fzC h bs))).all (·.all V.cell) then { k with rows:=k.rows.map (·.map (fzC h bs)) } else eD) else k
theorem II (b:Nat) (k:Blk) (r:List (Nat×Blk)):fzM h bs ((b,k)::r)=br (bs.contains b) (fzM h bs r) ((b,fzK h bs k)::fzM h bs r):=by
 simp only [fzM,fzK]
 by_cases hb:b∈bs<;>simp [hb,br]
theorem PF (m:Nat) (r:List (List V)):fzK h bs ⟨m,false,r⟩=⟨m,false,r⟩:=rfl
theorem O3 (m:Nat) (row:List V):fzK h bs ⟨m,true,[row]⟩=br ((row.map (fzC h bs)).all V.cell) ⟨m,true,[row.map (fzC h bs)]⟩ eD:=by
 simp only [fzK,List.map_cons,List.map_nil,List.all_cons,List.all_nil,Bool.and_true,if_true]
 cases (row.map (fzC h bs)).all V.cell<;>rfl
section
variable {R:Type} {T:Tab} {ow:be} {k:aH→St→Option R} {d:Option Nat} {n:Nat} {ss:List aD} {live:List Nat} {K:List Fr} {st:St} {base i:Nat} {deps:List (List Nat)} {rs:List Rec} {fp:List Nat} {r:R}
theorem Hv {fl ro:Bool} {h:ah} {new:Nat} {ids bor:List Nat} {x:Option (V×List Blk)} {p:V×List Blk} (hx:x=some p) (hr:aft T ow k d n ss live K st (qj fl ro h new ids bor (some p))=some r):aft T ow k d n ss live K st (qj fl ro h new ids bor x)=some r:=by
 rw [hx];exact hr
theorem Da {fl ro:Bool} {h:ah} {new:Nat} {ids bor:List Nat} {x:Option (V×List Blk)} {p:V×List Blk} (hx:x=some p) (hr:qK T ow k d base i ss deps live rs K st fp (qj fl ro h new ids bor (some p))=some r):qK T ow k d base i ss deps live rs K st fp (qj fl ro h new ids bor x)=some r:=by
 rw [hx];exact hr
theorem QU (b:Int):nn b=decide (0≤b):=rfl
theorem Sd (b:Int):nz b=decide (b≠0):=rfl
theorem OE (i:Int) (n:Nat):inb i n=(decide (0≤i)&&decide (i.toNat<n)):=rfl
end
end
section
variable {ow:be} {ev:Opd→V} {h:ah} {α:Type} {e:En α} {l:List α}
theorem Rf (x:Opd):bS ow (.mv x) ev h=[]:=rfl
theorem RM (x:Opd):(AOp.mv x).opds=[x]:=rfl
theorem KL (c a b:Opd):bS ow (.pick c a b) ev h=((AOp.pick c a b).opds.map ev).flatMap bL:=rfl
theorem Km (c a b:Opd):(AOp.pick c a b).opds=[c,a,b]:=rfl
theorem HS (z:List Value):bS ow (.alloc z) ev h=((AOp.alloc z).opds.map ev).flatMap bL:=rfl
theorem HA (z:List Value):(AOp.alloc z).opds=[]:=rfl
theorem Oz (m:Nat) (x:Opd):bS ow (.box m x) ev h=((AOp.box m x).opds.map ev).flatMap bL:=rfl
theorem Qu (m:Nat) (x:Opd):(AOp.box m x).opds=[x]:=rfl
theorem xI (z:List Value) (ps:List (Nat×Nat×Opd)):bS ow (.build z ps) ev h=((AOp.build z ps).opds.map ev).flatMap bL:=rfl
theorem xm (z:List Value) (ps:List (Nat×Nat×Opd)):(AOp.build z ps).opds=ps.map (·.2.2):=rfl
theorem tv (m:Nat) (z:List Value) (l:Nat) (ps:List (Nat×Opd)):bS ow (.buildSlice m z l ps) ev h=((AOp.buildSlice m z l ps).opds.map ev).flatMap bL:=rfl
theorem tV (m:Nat) (z:List Value) (l:Nat) (ps:List (Nat×Opd)):(AOp.buildSlice m z l ps).opds=ps.map (·.2):=rfl
theorem JQ (g:Option Nat) (x:Opd):bS ow (.load g x) ev h=((AOp.load g x).opds.map ev).flatMap bL:=rfl
theorem LP (g:Option Nat) (x:Opd):(AOp.load g x).opds=[x]:=rfl
theorem Gg (m:Nat) (x y:Opd):bS ow (.store m x y) ev h=((AOp.store m x y).opds.map ev).flatMap bL:=rfl
theorem HP (m:Nat) (x y:Opd):(AOp.store m x y).opds=[x,y]:=rfl
theorem yM (x:Opd):bS ow (.nilCheck x) ev h=((AOp.nilCheck x).opds.map ev).flatMap bL:=rfl
theorem wB (x:Opd):(AOp.nilCheck x).opds=[x]:=rfl
theorem Oy (op:BinOp) (x y:Opd):bS ow (.bin op x y) ev h=((AOp.bin op x y).opds.map ev).flatMap bL:=rfl
theorem OX (op:BinOp) (x y:Opd):(AOp.bin op x y).opds=[x,y]:=rfl
theorem Et (b:Bool) (ks:List Bool) (x y:Opd):bS ow (.eqAgg b ks x y) ev h=((AOp.eqAgg b ks x y).opds.map ev).flatMap bL:=rfl
theorem GT (b:Bool) (ks:List Bool) (x y:Opd):(AOp.eqAgg b ks x y).opds=[x,y]:=rfl
theorem NI (b:Bool) (x y:Opd):bS ow (.beq b x y) ev h=((AOp.beq b x y).opds.map ev).flatMap bL:=rfl
theorem NG (b:Bool) (x y:Opd):(AOp.beq b x y).opds=[x,y]:=rfl
theorem Rt (op:UnOp) (x:Opd):bS ow (.un op x) ev h=((AOp.un op x).opds.map ev).flatMap bL:=rfl
theorem Rb (op:UnOp) (x:Opd):(AOp.un op x).opds=[x]:=rfl
theorem FG (k:IntKind) (x:Opd):bS ow (.toInt k x) ev h=((AOp.toInt k x).opds.map ev).flatMap bL:=rfl
theorem GH (k:IntKind) (x:Opd):(AOp.toInt k x).opds=[x]:=rfl
theorem Kg (x:Opd):bS ow (.same x) ev h=((AOp.same x).opds.map ev).flatMap bL:=rfl
theorem MB (x:Opd):(AOp.same x).opds=[x]:=rfl
theorem zt (x:Opd):bS ow (.toBytes x) ev h=((AOp.toBytes x).opds.map ev).flatMap bL:=rfl
theorem A1 (x:Opd):(AOp.toBytes x).opds=[x]:=rfl
theorem FU (x:Opd):bS ow (.toStr x) ev h=((AOp.toStr x).opds.map ev).flatMap bL:=rfl
theorem F5 (x:Opd):(AOp.toStr x).opds=[x]:=rfl
theorem z1 (f:FuncId) (cs:List Opd):bS ow (.makeFunc f cs) ev h=[]:=rfl
theorem wO (f:FuncId) (cs:List Opd):(AOp.makeFunc f cs).opds=cs:=rfl
theorem uR (m b:Nat) (z:List Value) (x y:Opd):bS ow (.makeSlice m b z x y) ev h=((AOp.makeSlice m b z x y).opds.map ev).flatMap bL:=rfl
theorem wi (m b:Nat) (z:List Value) (x y:Opd):(AOp.makeSlice m b z x y).opds=[x,y]:=rfl
theorem yV (x:Opd) (lo hi:Option Opd):bS ow (.sliceStr x lo hi) ev h=((AOp.sliceStr x lo hi).opds.map ev).flatMap bL:=rfl
theorem wH (x:Opd) (lo hi:Option Opd):(AOp.sliceStr x lo hi).opds=x::(p8 lo++p8 hi):=rfl
theorem EN (m:Nat) (x:Opd) (lo hi mx:Option Opd):bS ow (.slice m x lo hi mx) ev h=((AOp.slice m x lo hi mx).opds.map ev).flatMap bL:=rfl
theorem Hr (m:Nat) (x:Opd) (lo hi mx:Option Opd):(AOp.slice m x lo hi mx).opds=x::(p8 lo++(p8 hi++p8 mx)):=rfl
theorem Px (m:Nat) (x:Opd):bS ow (.off m x) ev h=[]:=rfl
theorem PT (m:Nat) (x:Opd):(AOp.off m x).opds=[x]:=rfl
theorem GC (m:Nat) (g:Option Nat) (x:Opd):bS ow (.field m g x) ev h=((AOp.field m g x).opds.map ev).flatMap bL:=rfl
theorem Fe (m:Nat) (g:Option Nat) (x:Opd):(AOp.field m g x).opds=[x]:=rfl
theorem NM (m:Nat) (x y:Opd):bS ow (.idx m x y) ev h=((AOp.idx m x y).opds.map ev).flatMap bL:=rfl
theorem N8 (m:Nat) (x y:Opd):(AOp.idx m x y).opds=[x,y]:=rfl
theorem Cp (m q:Nat) (x y:Opd):bS ow (.idxArr m q x y) ev h=((AOp.idxArr m q x y).opds.map ev).flatMap bL:=rfl
theorem Cv (m q:Nat) (x y:Opd):(AOp.idxArr m q x y).opds=[x,y]:=rfl
theorem Ik (x y:Opd):bS ow (.ixStr x y) ev h=((AOp.ixStr x y).opds.map ev).flatMap bL:=rfl
theorem F4 (x y:Opd):(AOp.ixStr x y).opds=[x,y]:=rfl
theorem Ga (m q:Nat) (g:Option Nat) (x y:Opd):bS ow (.ixAgg m q g x y) ev h=((AOp.ixAgg m q g x y).opds.map ev).flatMap bL:=rfl
theorem It (m q:Nat) (g:Option Nat) (x y:Opd):(AOp.ixAgg m q g x y).opds=[x,y]:=rfl
theorem O5 (x:Opd) (i:Nat):bS ow (.ext x i) ev h=[]:=rfl
theorem Qp (x:Opd) (i:Nat):(AOp.ext x i).opds=[x]:=rfl
theorem Nl (b:Bool) (x:Opd):bS ow (.len b x) ev h=[]:=rfl
theorem O9 (b:Bool) (x:Opd):(AOp.len b x).opds=[x]:=rfl
theorem CD (m:Nat) (x:Opd):bS ow (.lenArr m x) ev h=((AOp.lenArr m x).opds.map ev).flatMap bL:=rfl
theorem BT (m:Nat) (x:Opd):(AOp.lenArr m x).opds=[x]:=rfl
theorem Aj (m b:Nat) (z:List Value) (x y:Opd):bS ow (.appendN m b z x y) ev h=((AOp.appendN m b z x y).opds.map ev).flatMap bL:=rfl
theorem z7 (m b:Nat) (z:List Value) (x y:Opd):(AOp.appendN m b z x y).opds=[x,y]:=rfl
theorem Hq (b:Bool) (x:Opd):bS ow (.isNil b x) ev h=((AOp.isNil b x).opds.map ev).flatMap bL:=rfl
theorem Gr (b:Bool) (x:Opd):(AOp.isNil b x).opds=[x]:=rfl
theorem CM (m b:Nat) (z:List Value) (x y:Opd):bS ow (.append m b z x y) ev h=((AOp.append m b z x y).opds.map ev).flatMap bL:=rfl
theorem DA (m b:Nat) (z:List Value) (x y:Opd):(AOp.append m b z x y).opds=[x,y]:=rfl
theorem JW (m:Nat) (x y:Opd):bS ow (.copy m x y) ev h=((AOp.copy m x y).opds.map ev).flatMap bL:=rfl
theorem Mw (m:Nat) (x y:Opd):(AOp.copy m x y).opds=[x,y]:=rfl
theorem KA (x y:Opd):bS ow (.max2 x y) ev h=((AOp.max2 x y).opds.map ev).flatMap bL:=rfl
theorem JC (x y:Opd):(AOp.max2 x y).opds=[x,y]:=rfl
theorem KH (x y:Opd):bS ow (.min2 x y) ev h=((AOp.min2 x y).opds.map ev).flatMap bL:=rfl
theorem KG (x y:Opd):(AOp.min2 x y).opds=[x,y]:=rfl
theorem wD (x:Opd):bS ow (.bytesOwn x) ev h=((AOp.bytesOwn x).opds.map ev).flatMap bL:=rfl
theorem xQ (x:Opd):(AOp.bytesOwn x).opds=[x]:=rfl
theorem H0 (m:Nat) (x:Opd):bS ow (.arrOf m x) ev h=((AOp.arrOf m x).opds.map ev).flatMap bL:=rfl
theorem Iq (m:Nat) (x:Opd):(AOp.arrOf m x).opds=[x]:=rfl
theorem Q6 (x:Opd):p8 (some x)=[x]:=rfl
theorem Oh:p8 none=[]:=rfl
def fpC:Option (List V×List Blk×List Nat×List Nat)→List Nat
 |some (_,_,ids,bor)=>ids++bor
 |none=>[]
theorem EC (a:List V) (b:List Blk) (ids bor:List Nat):fpC (some (a,b,ids,bor))=ids++bor:=rfl
theorem Kc (f:FuncId) (args:List Opd):bS ow (.call f args) ev h=fpC (bo ow h f (args.map ev)):=by
 show pw ow h f (args.map ev)=_
 unfold pw fpC
 cases bo ow h f (args.map ev)<;>rfl
def fpD (ow:be) (h:ah) (args:List V):V→List Nat
 | .fn k caps=>fpC (bo ow h k (args++caps))
 |_=>[]
theorem Pi (f:Opd) (args:List Opd):bS ow (.dyn f args) ev h=fpD ow h (args.map ev) (ev f):=by
 show (match ev f with
  | .fn k caps=>pw ow h k (args.map ev++caps)
  |_=>[])=_
 cases ev f<;>first|rfl| (simp only [fpD,pw,fpC];cases bo ow h _ _<;>rfl)
theorem Oi (args:List V) (k:FuncId) (caps:List V):fpD ow h args (.fn k caps)=fpC (bo ow h k (args++caps)):=rfl
theorem MK (cs:List V):bL (.agg cs)=cs.flatMap ft:=rfl
theorem Qx (f:FuncId) (cs:List V):bL (.fn f cs)=cs.flatMap ft:=rfl
theorem Kn (cs:List V):bL (.tup cs)=cs.flatMap fun| .agg cs=>cs.flatMap ft|v=>ft v:=rfl
theorem Ki (v:Value):bL (.lit v)=[]:=rfl
theorem Ji (m:Nat) (r:List (List V)):bL (.imm m r)=[]:=rfl
theorem Ij (r:List V) (o:Nat):bL (.iptr r o)=[]:=rfl
theorem Kj (b i o m:Nat):bL (.ptr b i o m)=[b]:=rfl
theorem ME (b s q:Nat):bL (.sl b s q)=[b]:=rfl
theorem Ep:bL .undef=[]:=rfl
theorem KT (v:Value):ft (.lit v)=[]:=rfl
theorem M8 (m:Nat) (r:List (List V)):ft (.imm m r)=[]:=rfl
theorem EA (r:List V) (o:Nat):ft (.iptr r o)=[]:=rfl
theorem Js (b i o m:Nat):ft (.ptr b i o m)=[b]:=rfl
theorem Jo (b s q:Nat):ft (.sl b s q)=[b]:=rfl
theorem PB (f:FuncId) (cs:List V):ft (.fn f cs)=[]:=rfl
theorem Dk:ft .undef=[]:=rfl
theorem xx (fp:List Nat) (b:Nat):fu h fp b=br (fp.contains b) (h b) none:=by
 unfold fu
 by_cases hb:b∈fp<;>simp [hb,br]
theorem Kb (rs:List Rec) (i:Nat) (fp wr:List Nat):CB rs i fp wr=br (fp.isEmpty&&wr.isEmpty) rs (rs++[⟨i,fp,wr⟩]):=by
 have h:Rec.loud ⟨i,fp,wr⟩= !(fp.isEmpty&&wr.isEmpty):=rfl
 unfold CB
 cases h1:Rec.loud ⟨i,fp,wr⟩ with
 |true=>
  rw [h1] at h
  have h2:(fp.isEmpty&&wr.isEmpty)=false:=by
   cases hx:fp.isEmpty&&wr.isEmpty with
   |false=>rfl
   |true=>rw [hx] at h;cases h
  rw [h2,aX,List.filter_cons_of_pos h1];rfl
 |false=>
  rw [h1] at h
  have h2:(fp.isEmpty&&wr.isEmpty)=true:=by
   cases hx:fp.isEmpty&&wr.isEmpty with
   |true=>rfl
   |false=>rw [hx] at h;cases h
  rw [h2,bH,List.filter_cons_of_neg (by rw [h1];decide)];simp
theorem BK (deps:List (List Nat)):eW deps []=true:=rfl
theorem zX (deps:List (List Nat)) (p:Rec) (r:List Rec):eW deps (p::r)=(ml deps p r&&eW deps r):=rfl
theorem Kt (deps:List (List Nat)) (p:Rec):ml deps p []=true:=rfl
theorem GJ (deps:List (List Nat)) (i j:Nat) (f g w u:List Nat) (r:List Rec):ml deps ⟨i,f,w⟩ (⟨j,g,u⟩::r)=((w.isEmpty&&u.isEmpty||(deps.getD j []).contains i|| !(w.any (fun b=>decide (b∈g)||decide (b∈u))||u.any (fun b=>decide (b∈f))))&&ml deps ⟨i,f,w⟩ r):=rfl
theorem Ae {β:Type} (a d:β) (r:List β):(a::r).getD 0 d=a:=rfl
theorem AF {β:Type} (a d:β) (n:Nat) (r:List β):(a::r).getD (n+1) d=r.getD n d:=rfl
theorem L1 (m:Nat) (cs:List V) (n:Nat):Nt m cs h n=br (Nat.beq cs.length m&&cs.all V.cell) (frO (h n) n ⟨m,true,[cs]⟩ (.ptr n 0 0 1)) none:=rfl
theorem aj (x:Int) (h1: -9223372036854775808≤x) (h2:x<9223372036854775808):IntKind.wrap .i64 x=x:=by
 simp [IntKind.wrap,IntKind.bits,IntKind.signed];omega
theorem FX (x:Int) (h1:0≤x) (h2:x<18446744073709551616):IntKind.wrap .u64 x=x:=by
 simp [IntKind.wrap,IntKind.bits,IntKind.signed];omega
theorem K3 (x:Int) (h1:0≤x) (h2:x<256):IntKind.wrap .u8 x=x:=by
 simp [IntKind.wrap,IntKind.bits,IntKind.signed];omega
theorem pj (n:Nat):(OfNat.ofNat n:Int)=(n:Int):=rfl
theorem Ha (n:Nat) (h:Nat.ble n 9223372036854775807=true):IntKind.wrap .i64 (no_index (OfNat.ofNat n:Int))=OfNat.ofNat n:=by
 have h1:=Nat.le_of_ble_eq_true h
 rw [pj];exact aj _ (by omega) (by omega)
theorem Cd (n:Nat) (h:Nat.ble n 18446744073709551615=true):IntKind.wrap .u64 (no_index (OfNat.ofNat n:Int))=OfNat.ofNat n:=by
 have h1:=Nat.le_of_ble_eq_true h
 rw [pj];exact FX _ (by omega) (by omega)
theorem C6 (n:Nat) (h:Nat.ble n 255=true):IntKind.wrap .u8 (no_index (OfNat.ofNat n:Int))=OfNat.ofNat n:=by
 have h1:=Nat.le_of_ble_eq_true h
 rw [pj];exact K3 _ (by omega) (by omega)
theorem N5 (a b:Nat):(a==b)=decide (a=b):=by
 by_cases h:a=b
 ·subst h;simp
 ·rw [decide_eq_false h];simpa using h
theorem Ow:List.range 0=[]:=rfl
theorem zm (m:Nat) (vs:List V):de true h m vs=kZ m [] ((List.range m).flatMap fun b=>A0 (h b)):=rfl
theorem D3 (m:Nat) (vs:List V):de false h m vs=kZ m [] (vs.flatMap bL):=rfl
theorem JJ (m:Nat) (row:List V):A0 (some ⟨m,true,[row]⟩)=row.flatMap bL:=by simp [A0]
theorem KD (m:Nat) (r:List (List V)):A0 (some ⟨m,false,r⟩)=[]:=rfl
theorem NA:List.range 5=[0,1,2,3,4]:=rfl
theorem PM:List.range 6=[0,1,2,3,4,5]:=rfl
theorem P6:List.range 7=[0,1,2,3,4,5,6]:=rfl
theorem O2:List.range 8=[0,1,2,3,4,5,6,7]:=rfl
theorem E9 (m:Nat) (acc:List Nat):kZ m acc []=acc:=rfl
theorem AW (m b:Nat) (acc r:List Nat):kZ m acc (b::r)=kZ m (br (Nat.ble m b) (bK acc b) acc) r:=by
 simp only [kZ,oY]
 by_cases h:m≤b<;>simp [h,br]
theorem Eb (n:Nat):Int.toNat (no_index (OfNat.ofNat n:Int))=OfNat.ofNat n:=rfl
end
end Go.AI
