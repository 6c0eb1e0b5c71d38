/- The machine's operations on values of Lean's own types: what writes, what makes, what calls; a function's end. -/
import Derived.Test.YtdmhkkcihecndaaAiTyp2
set_option linter.unusedVariables false
set_option linter.unusedSimpArgs false
namespace Go.AI
section
variable {C:aA} {ow:FuncId→List Nat} {ev:Opd→V} {h:ag} {n:Nat} {α:Type} {e:En α} {l l2:List α}
def snO (k:Option Blk) (b s q:Nat):Option (V×List Nat):=match k with
 |some k=>if k.op=false∧0<k.esz∧s+q=k.rows.length then some (.imm k.esz (k.rows.drop s),[b]) else none
 |none=>none
theorem JX (b s q:Nat):g9 h (.sl b s q)=snO (h b) b s q:=rfl
theorem SU (m b q:Nat) (h0:Nat.blt 0 m=true) (hq:l.length=q):snO (some ⟨m,false,rws e l⟩) b 0 q=some (.imm m (rws e l),[b]):=by
 rw [p5,decide_eq_true_eq] at h0
 simp [snO,rws,hq,h0]
theorem Kf (k:IntKind) (a:Int):g9 h (.lit (.int k a))=some (.lit (.int k a),[]):=rfl
theorem IV (a:Bool):g9 h (.lit (.bool a))=some (.lit (.bool a),[]):=rfl
theorem MK (a:List UInt8):g9 h (S a)=some (S a,[]):=rfl
theorem LZ:g9 h (.lit (.slice none 0 0))=some (.lit (.slice none 0 0),[]):=rfl
theorem JE (m:Nat) (r:List (List V)):g9 h (.imm m r)=some (.imm m r,[]):=rfl
def snC:Option (V×List Nat)→Option (List V×List Nat)→Option (List V×List Nat)
 |some (a,bs),some (r,bs')=>some (a.cz::r,bs++bs')
 |_,_=>none
theorem I5:eH h []=some ([],[]):=rfl
theorem ER (v:V) (r:List V):eH h (v::r)=snC (g9 h v) (eH h r):=by
 simp only [eH,snC]
 cases g9 h v<;>cases eH h r<;>rfl
theorem KB (a:V) (bs:List Nat) (r:List V) (bs':List Nat):snC (some (a,bs)) (some (r,bs'))=some (a.cz::r,bs++bs'):=rfl
theorem Sd (k:IntKind) (a:Int):(V.lit (.int k a)).cz= .lit (.int k a):=rfl
theorem OR (a:Bool):(V.lit (.bool a)).cz= .lit (.bool a):=rfl
theorem Sy (a:List UInt8):(S a).cz=S a:=rfl
theorem Ts (a:Array Value):(V.lit (.tuple a)).cz= .lit (.tuple a):=rfl
theorem SL:(V.lit (.slice none 0 0)).cz= .imm 1 []:=rfl
theorem Sp (m:Nat):(V.imm m []).cz= .imm 1 []:=rfl
theorem TZ (b i o m:Nat):(V.ptr b i o m).cz= .ptr b i o m:=rfl
theorem SX (b s q:Nat):(V.sl b s q).cz= .sl b s q:=rfl
theorem P6 (r:List V) (o:Nat):(V.iptr r o).cz= .iptr r o:=rfl
theorem VD (f:FuncId) (cs:List V):(V.fn f cs).cz= .fn f cs:=rfl
theorem Kq:V.undef.cz= .undef:=rfl
theorem Og (cs:List V):(V.agg cs).czA= .agg (cs.map V.cz):=rfl
theorem OA (k:IntKind) (a:Int):(V.lit (.int k a)).czA= .lit (.int k a):=rfl
theorem Je (a:Bool):(V.lit (.bool a)).czA= .lit (.bool a):=rfl
theorem Pt (a:List UInt8):(S a).czA=S a:=rfl
theorem NE:(V.lit (.slice none 0 0)).czA= .imm 1 []:=rfl
theorem P2 (m:Nat) (r:List (List V)):(V.imm m r).czA=(V.imm m r).cz:=rfl
theorem NL (b i o m:Nat):(V.ptr b i o m).czA= .ptr b i o m:=rfl
theorem PK (b s q:Nat):(V.sl b s q).czA= .sl b s q:=rfl
theorem K8 (r:List V) (o:Nat):(V.iptr r o).czA= .iptr r o:=rfl
theorem RN (f:FuncId) (cs:List V):(V.fn f cs).czA= .fn f cs:=rfl
theorem Is:V.undef.czA= .undef:=rfl
theorem Pv (cs:List V):(V.tup cs).czR= .tup (cs.map V.czA):=rfl
theorem Pa (cs:List V):(V.agg cs).czR= .agg (cs.map V.cz):=rfl
theorem NP (k:IntKind) (a:Int):(V.lit (.int k a)).czR= .lit (.int k a):=rfl
theorem Jl (a:Bool):(V.lit (.bool a)).czR= .lit (.bool a):=rfl
theorem QH (a:List UInt8):(S a).czR=S a:=rfl
theorem Pk:(V.lit (.slice none 0 0)).czR= .imm 1 []:=rfl
theorem Pg (m:Nat) (r:List (List V)):(V.imm m r).czR=(V.imm m r).cz:=rfl
theorem PU (b i o m:Nat):(V.ptr b i o m).czR= .ptr b i o m:=rfl
theorem Q5 (b s q:Nat):(V.sl b s q).czR= .sl b s q:=rfl
theorem Mr (r:List V) (o:Nat):(V.iptr r o).czR= .iptr r o:=rfl
theorem U9 (f:FuncId) (cs:List V):(V.fn f cs).czR= .fn f cs:=rfl
theorem K2 (m:Nat) (row:List V):Blk.cz ⟨m,true,[row]⟩=⟨m,true,[row.map V.cz]⟩:=rfl
theorem MT (m:Nat) (r:List (List V)):Blk.cz ⟨m,false,r⟩=⟨m,false,r⟩:=rfl
theorem SJ (k:IntKind) (a:Int):zc (.int k a)= .lit (.int k a):=rfl
theorem QR (a:Bool):zc (.bool a)= .lit (.bool a):=rfl
theorem T8 (a:List UInt8):zc (.string ⟨⟨a⟩⟩)=S a:=rfl
theorem SE:zc (.slice none 0 0)= .imm 1 []:=rfl
def stO (k:Option Blk) (b size i o m:Nat) (x:V) (h:ag):Option (V×Upd):=match k with
 |some k=>if k.rows.length=m then (match k.rows[i]? with
  |some row=>
   if k.op then
    (if x.cells.length=size∧o+size≤row.length∧x.cells.all V.cell then
     some (.undef,[(b,{ k with rows:=k.rows.set i (row.take o++(x.cells++row.drop (o+size))) })]) else none)
   else match eH h x.cells with
    |some (cs,bs)=>if cs.length=size∧o+size≤row.length∧ ¬b∈bs then
     some (.undef,cF bs++[(b,{ k with rows:=k.rows.set i (row.take o++(cs++row.drop (o+size))) })]) else none
    |none=>none
  |none=>none) else none
 |none=>none
def EZ (size:Nat) (a x:V) (h:ag):Option (V×Upd):=match a with
 | .ptr b i o m=>stO (h b) b size i o m x h
 |_=>none
theorem Q2 (size:Nat) (a x:Opd):aa C ow (.store size a x) ev h n=EZ size (ev a) (ev x) h:=by
 simp only [aa,EZ,stO]
 cases ev a with
 |ptr b i o m=>dsimp only;cases h b<;>rfl
 |_=>rfl
theorem LU (size b i o m:Nat) (x:V):EZ size (.ptr b i o m) x h=stO (h b) b size i o m x h:=rfl
theorem Fm (m b size o:Nat) (row:List V) (x:V):stO (some ⟨m,true,[row]⟩) b size 0 o 1 x h=
 br (Nat.beq x.cells.length size&&(Nat.ble (o+size) row.length&&x.cells.all V.cell)) (some (.undef,[(b,⟨m,true,[row.take o++(x.cells++row.drop (o+size))]⟩)])) none:=by
 rw [sN,tr]
 by_cases h1:x.cells.length=size<;>by_cases h2:o+size≤row.length<;>cases h3:x.cells.all V.cell<;>simp [stO,h1,h2,h3,br]
def stT (r:List (List V)) (m b size i o:Nat) (row:List V):Option (List V×List Nat)→Option (V×Upd)
 |some (cs,bs)=>br (Nat.beq cs.length size&&(Nat.ble (o+size) row.length&& !bs.contains b)) (some (.undef,cF bs++[(b,⟨m,false,dS r i (row.take o++(cs++row.drop (o+size)))⟩)])) none
 |none=>none
theorem Dn (r:List (List V)) (m b size i o:Nat) (row cs:List V) (bs:List Nat):stT r m b size i o row (some (cs,bs))=
 br (Nat.beq cs.length size&&(Nat.ble (o+size) row.length&& !bs.contains b)) (some (.undef,cF bs++[(b,⟨m,false,dS r i (row.take o++(cs++row.drop (o+size)))⟩)])) none:=rfl
theorem Sn (m b size i o q:Nat) (x:V) (hq:l.length=q):stO (some ⟨m,false,rws e l⟩) b size i o q x h=(l[i]?).bind (fun y=>stT (rws e l) m b size i o (e.enc y) (eH h x.cells)):=by
 simp only [stO]
 have:(rws e l).length=q:=by simp [rws,hq]
 rw [if_pos this]
 have h2:(rws e l)[i]? =(l[i]?).map e.enc:=by simp [rws]
 rw [h2]
 cases hl:l[i]? with
 |none=>rfl
 |some y=>
  simp only [Option.map_some,Option.bind_some]
  cases hs:eH h x.cells with
  |none=>simp [stT]
  |some p=>
   obtain ⟨cs,bs⟩:=p
   rw [Dn,sN,tr]
   by_cases h1:cs.length=size<;>by_cases h2:o+size≤(e.enc y).length<;>by_cases h3:b∈bs<;>simp [h1,h2,h3,br,dS]
def psC (i:Nat):Option (List V×List Nat)→Option (List (Nat×V)×List Nat)→Option (List (Nat×V)×List Nat)
 |some (cs,bs),some (r',bs')=>some ((i,.agg cs)::r',bs++bs')
 |_,_=>none
theorem yo:bm h ev []=some ([],[]):=rfl
theorem vT (i:Nat) (x:Opd) (r:List (Nat×Opd)):bm h ev ((i,x)::r)=psC i (eH h (ev x).cells) (bm h ev r):=by
 simp only [bm,psC]
 cases eH h (ev x).cells<;>cases bm h ev r<;>rfl
theorem Mx (i:Nat) (cs:List V) (bs:List Nat) (r:List (Nat×V)) (bs':List Nat):psC i (some (cs,bs)) (some (r,bs'))=some ((i,.agg cs)::r,bs++bs'):=rfl
def sG (esz:Nat) (rows:List (List V)):List (Nat×V)→Option (List (List V))
 |[]=>some rows
 | (i,v)::r=>br (Nat.beq v.cells.length esz&&(Nat.blt i rows.length&&v.cells.all V.cell)) (sG esz (rows.set i v.cells) r) none
theorem Dc (esz:Nat): ∀(ps:List (Nat×V)) (rows:List (List V)),wZ esz rows ps=sG esz rows ps
 |[],_=>rfl
 | (i,v)::r,rows=>by
   simp only [wZ,sG,sN,p5]
   rw [←Dc esz r]
   by_cases h1:v.cells.length=esz<;>by_cases h2:i<rows.length<;>cases h3:v.cells.all V.cell<;>simp [h1,h2,br]
def FZ (u0:Upd):Option (V×Upd)→Option (V×Upd)
 |some (v,u)=>some (v,u0++u)
 |none=>none
theorem Ib (u0 u:Upd) (v:V):FZ u0 (some (v,u))=some (v,u0++u):=rfl
theorem P4 (u0:Upd) (c:Bool) (x y:Option (V×Upd)):FZ u0 (br c x y)=br c (FZ u0 x) (FZ u0 y):=by cases c<;>rfl
theorem IR (u0:Upd):FZ u0 none=none:=rfl
def bsR (esz len:Nat) (zero:List Value) (bs:List Nat) (h:ag) (n:Nat):Option (List (List V))→Option (V×Upd)
 |some rows=>br (Nat.beq zero.length esz&&(zero.all aq&&(Nat.ble (len*esz) 16777216&& !bs.contains n))) (FZ (cF bs) (frO (h n) n ⟨esz,false,mkR n rows⟩ (.sl n 0 len))) none
 |none=>none
def bsS (esz len:Nat) (zero:List Value) (h:ag) (n:Nat):Option (List (Nat×V)×List Nat)→Option (V×Upd)
 |some (ps,bs)=>bsR esz len zero bs h n (sG esz (List.replicate len (zero.map zc)) ps)
 |none=>none
theorem AR (esz len:Nat) (zero:List Value) (ps:List (Nat×Opd)):aa C ow (.buildSlice esz zero len ps) ev h n=bsS esz len zero h n (bm h ev ps):=by
 simp only [aa,bsS,Dc,kD]
 cases bm h ev ps with
 |none=>rfl
 |some p=>
  obtain ⟨qs,bs⟩:=p
  dsimp only
  cases sG esz (List.replicate len (zero.map zc)) qs with
  |none=>rfl
  |some rows=>
   simp only [bsR,sN,tr,mkR]
   by_cases h1:zero.length=esz<;>cases h2:zero.all aq<;>by_cases h3:len*esz≤16777216<;>by_cases h4:n∈bs<;>simp [h1,h3,h4,br]
   cases frO (h n) n ⟨esz,false,rows⟩ (.sl n 0 len)<;>rfl
theorem Ke (esz len:Nat) (zero:List Value) (ps:List (Nat×V)) (bs:List Nat):bsS esz len zero h n (some (ps,bs))=bsR esz len zero bs h n (sG esz (List.replicate len (zero.map zc)) ps):=rfl
theorem JH (esz len:Nat) (zero:List Value) (bs:List Nat) (rows:List (List V)):bsR esz len zero bs h n (some rows)=br (Nat.beq zero.length esz&&(zero.all aq&&(Nat.ble (len*esz) 16777216&& !bs.contains n))) (FZ (cF bs) (frO (h n) n ⟨esz,false,mkR n rows⟩ (.sl n 0 len))) none:=rfl
def tbS (x:V) (h:ag) (n:Nat):Option (V×Upd):=match x with
 | .lit (.string s)=>if s.size≤aM then er h n ⟨1,false,s.data.toList.map fun b=>[.lit (.int .u8 b.toNat)]⟩ (.sl n 0 s.size) else none
 |_=>none
theorem Hx (x:Opd):aa C ow (.toBytes x) ev h n=tbS (ev x) h n:=rfl
theorem Vk (s:List UInt8):tbS (S s) h n=br (dC s.length 1) (frO (h n) n ⟨1,false,rws eU8 s⟩ (.sl n 0 s.length)) none:=by
 simp only [tbS,AD,dC,Nat.mul_one,kD]
 by_cases h1:s.length≤aM<;>simp [h1,br]
 rfl
def boS (x:V) (h:ag):Option (V×Upd):=match x with
 | .sl b s n=>match h b with
   |some k=>if k.op=false∧0<k.esz∧s+n=k.rows.length∧0<n then some (.sl b s n,[(b,k)]) else none
   |none=>none
 |_=>none
theorem EK (x:Opd):aa C ow (.bytesOwn x) ev h n=boS (ev x) h:=rfl
def boO (k:Option Blk) (b s n:Nat):Option (V×Upd):=match k with
 |some k=>if k.op=false∧0<k.esz∧s+n=k.rows.length∧0<n then some (.sl b s n,[(b,k)]) else none
 |none=>none
theorem QB (b s q:Nat):boS (.sl b s q) h=boO (h b) b s q:=rfl
theorem TX (b m q:Nat) (h0:Nat.blt 0 m=true) (hq:l.length=q):boO (some ⟨m,false,rws e l⟩) b 0 q=br (decide (0<q)) (some (.sl b 0 q,[(b,⟨m,false,rws e l⟩)])) none:=by
 rw [p5,decide_eq_true_eq] at h0
 by_cases h1:0<q<;>simp [boO,rws,hq,h0,h1,br]
theorem C8 (l:List UInt8):aa.bytesOf (rws eU8 l)=some l:=by
 induction l with
 |nil=>rfl
 |cons b l ih=>
  simp only [rws,List.map_cons,eU8] at ih ⊢
  simp only [aa.bytesOf]
  have h1:(0:Int)≤(b.toNat:Int)∧(b.toNat:Int)<256:=⟨by omega,by have:=b.toNat_lt;omega⟩
  rw [if_pos h1,ih]
  simp
def tsR:Option (List (List V))→Option (V×Upd)
 |some rows=>match aa.bytesOf rows with
  |some l=>some (.lit (.string ⟨l.toArray⟩),[])
  |none=>none
 |none=>none
def tsS (x:V) (h:ag):Option (V×Upd):=br (GE x) none (tsR (bg h 1 x))
theorem Px (x:Opd):aa C ow (.toStr x) ev h n=tsS (ev x) h:=by
 simp only [aa,tsS,tsR]
 cases GE (ev x)
 ·simp only [Bool.false_eq_true,if_false,aH]
  cases bg h 1 (ev x)<;>rfl
 ·rfl
theorem MO (l:List UInt8):tsR (some (rws eU8 l))=some (S l,[]):=by
 simp only [tsR,C8]
theorem Rc (l:List UInt8):tsS (sl eU8 l) h=some (S l,[]):=by
 rw [tsS,C0,aH,zi 1 rfl,MO]
def roO (k:Option Blk) (m s q:Nat):Option (List (List V)):=match k with
 |some k=>if k.op=false∧0<k.esz∧k.esz=m∧s+q=k.rows.length then some (k.rows.drop s) else none
 |none=>none
theorem Fs (m b s q:Nat):bg h m (.sl b s q)=roO (h b) m s q:=rfl
theorem U4 (m q:Nat) (h0:Nat.blt 0 m=true) (hq:l.length=q):roO (some ⟨m,false,rws e l⟩) m 0 q=some (rws e l):=by
 rw [p5,decide_eq_true_eq] at h0
 simp [roO,rws,hq,h0]
theorem EH (s:List UInt8):bg h 1 (S s)=some (rws eU8 s):=rfl
theorem PD (b s q:Nat):tsS (.sl b s q) h=tsR (roO (h b) 1 s q):=rfl
theorem Ov:tsS (.lit (.slice none 0 0)) h=some (S [],[]):=rfl
theorem O8:tsS (.imm 1 []) h=some (S [],[]):=rfl
def Rk (esz bytes:Nat) (zero:List Value) (len cap:V) (h:ag) (n:Nat):Option (V×Upd):=match asI len,asI cap with
 |some l,some c=>if 0≤l∧l≤c∧c*bytes≤aM∧c*esz≤aM∧zero.length=esz∧zero.all aq then
  er h n ⟨esz,false,List.replicate l.toNat (zero.map zc)⟩ (.sl n 0 l.toNat) else none
 |_,_=>none
theorem Dg (esz bytes:Nat) (zero:List Value) (len cap:Opd):aa C ow (.makeSlice esz bytes zero len cap) ev h n=Rk esz bytes zero (ev len) (ev cap) h n:=rfl
theorem TB (esz bytes:Nat) (zero:List Value) (k k':IntKind) (a c:Int) (hb:Nat.ble esz bytes=true) (hz:Nat.beq zero.length esz=true) (hz2:zero.all aq=true):
 Rk esz bytes zero (.lit (.int k a)) (.lit (.int k' c)) h n=br (vt a c bytes) (frO (h n) n ⟨esz,false,yx n a.toNat (zero.map zc)⟩ (.sl n 0 (Gb (yx n a.toNat (zero.map zc))))) none:=by
 have hz3:=Nat.eq_of_beq_eq_true hz
 have hb2:=Nat.le_of_ble_eq_true hb
 simp only [Rk,asI,vt,hz3,hz2,kD,yx,Gb,List.length_replicate]
 by_cases h1:0≤a<;>by_cases h2:a≤c<;>by_cases h3:c*bytes≤aM<;>simp [h1,h2,h3,br]
 intro h4
 exfalso
 have:c*esz≤c*bytes:=Int.mul_le_mul_of_nonneg_left (by omega) (by omega)
 omega
def slS (esz:Nat) (x:V) (lo hi mx:Option V) (h:ag):Option (V×Upd):=match mx with
 |some _=>none
 |none=>match x with
  | .lit (.slice none 0 0)=>match aT hi 0 0 with
    |some q=>match aT lo 0 q with
     |some _=>some (.lit (.slice none 0 0),[])
     |none=>none
    |none=>none
  | .sl b s n=>match h b with
    |some k=>if k.op=false∧0<k.esz∧k.esz=esz∧s+n=k.rows.length then (match aT hi n n with
     |some q=>match aT lo 0 q with
      |some p=>if q=n then some (.sl b (s+p) (n-p),[]) else some ((V.imm esz (((k.rows.drop s).take q).drop p)).cz,[(b,fN)])
      |none=>none
     |none=>none) else none
    |none=>none
  | .imm e rows=>if e=esz∨rows=[] then (match aT hi rows.length rows.length with
   |some q=>match aT lo 0 q with
    |some p=>some ((V.imm e ((rows.take q).drop p)).cz,[])
    |none=>none
   |none=>none) else none
  |_=>none
theorem Qx (esz:Nat) (x:Opd) (lo hi:Option Opd):aa C ow (.slice esz x lo hi none) ev h n=slS esz (ev x) (lo.map ev) (hi.map ev) none h:=rfl
theorem l0 (d m:Nat):aT none d m=some d:=rfl
theorem mU (k:IntKind) (i:Int) (d m:Nat):aT (some (.lit (.int k i))) d m=if 0≤i∧i≤m then some i.toNat else none:=rfl
theorem vB (m:Nat) (hm:e.esz=m) (lo hi:Option V):slS m (sl e l) lo hi none h=(match aT hi l.length l.length with
 |some q=>match aT lo 0 q with
  |some p=>some (sl e ((l.take q).drop p),[])
  |none=>none
 |none=>none):=by
 subst hm
 rcases dQ e l with ⟨rfl,hs⟩|⟨hne,hs⟩
 ·rw [hs]
  simp only [slS,List.length_nil,or_true,if_true]
  cases aT hi 0 0 with
  |none=>rfl
  |some q=>cases aT lo 0 q<;>simp [SB,V.cz]
 ·rw [hs]
  simp only [slS,true_or,if_true,rws,List.length_map]
  cases aT hi l.length l.length with
  |none=>rfl
  |some q=>cases aT lo 0 q<;>simp [sl,rws, ←List.map_take, ←List.map_drop]
theorem S3 (m:Nat) (hm:e.esz=m):slS m (sl e l) none none none h=some (sl e l,[]):=by
 rw [vB m hm];simp [l0]
theorem RY (m:Nat) (hm:e.esz=m) (k:IntKind) (a:Int):slS m (sl e l) (some (.lit (.int k a))) none none h=(ox l a l.length).bind (fun l'=>some (sl e l',[])):=by
 rw [vB m hm]
 simp only [l0,mU,ox]
 by_cases h1:0≤a<;>by_cases h2:a≤(l.length:Int)<;>simp [h1,h2]
theorem Te (m:Nat) (hm:e.esz=m) (k:IntKind) (b:Int):slS m (sl e l) none (some (.lit (.int k b))) none h=(ox l 0 b).bind (fun l'=>some (sl e l',[])):=by
 rw [vB m hm]
 simp only [l0,mU,ox]
 by_cases h1:0≤b<;>by_cases h2:b≤(l.length:Int)<;>simp [h1,h2]
theorem T5 (m:Nat) (hm:e.esz=m) (k k':IntKind) (a b:Int):slS m (sl e l) (some (.lit (.int k a))) (some (.lit (.int k' b))) none h=(ox l a b).bind (fun l'=>some (sl e l',[])):=by
 rw [vB m hm]
 simp only [mU,ox]
 by_cases h1:0≤b<;>by_cases h2:b≤(l.length:Int)<;>by_cases h3:0≤a<;>by_cases h4:a≤b
 all_goals (have e1:((b.toNat:Nat):Int)=b∨ ¬0≤b:=by omega)
 all_goals (rcases e1 with e1|e1)
 all_goals (first|omega| (simp [h1,h2,h3,h4,e1];try omega))
def slO (k:Option Blk) (m b s q:Nat) (a:Int):Option (V×Upd):=match k with
 |some k=>if k.op=false∧0<k.esz∧k.esz=m∧s+q=k.rows.length then (if 0≤a∧a≤q then some (.sl b (s+a.toNat) (q-a.toNat),[]) else none) else none
 |none=>none
theorem Qs (m b s q:Nat) (k:IntKind) (a:Int):slS m (.sl b s q) (some (.lit (.int k a))) none none h=slO (h b) m b s q a:=by
 simp only [slS,slO,l0,mU]
 cases h b with
 |none=>rfl
 |some k=>
  dsimp only
  split
  ·by_cases hc:0≤a∧a≤(q:Int)
   ·rw [if_pos hc,if_pos hc];simp
   ·rw [if_neg hc,if_neg hc]
  ·rfl
theorem RG (m b s q:Nat) (a:Int) (h0:Nat.blt 0 m=true) (hq:s+q=l.length):slO (some ⟨m,false,rws e l⟩) m b s q a=br (decide (0≤a)&&decide (a≤q)) (some (.sl b (s+a.toNat) (q-a.toNat),[])) none:=by
 rw [p5,decide_eq_true_eq] at h0
 by_cases h1:0≤a<;>by_cases h2:a≤(q:Int)<;>simp [slO,rws,hq,h0,h1,h2,br]
def ssS (x:V) (lo hi:Option V):Option (V×Upd):=match x with
 | .lit (.string s)=>match aT hi s.size s.size with
   |some b=>match aT lo 0 b with
    |some a=>some (.lit (.string (s.extract a b)),[])
    |none=>none
   |none=>none
 |_=>none
theorem Ed (x:Opd) (lo hi:Option Opd):aa C ow (.sliceStr x lo hi) ev h n=ssS (ev x) (lo.map ev) (hi.map ev):=rfl
theorem E6 (s:List UInt8) (a b:Nat):(⟨⟨s⟩⟩:ByteArray).extract a b=⟨⟨(s.take b).drop a⟩⟩:=by
 apply ByteArray.ext
 rw [ByteArray.data_extract]
 apply Array.ext'
 simp [List.extract_eq_take_drop,List.drop_take]
theorem vH (s:List UInt8) (lo hi:Option V):ssS (S s) lo hi=(match aT hi s.length s.length with
 |some q=>match aT lo 0 q with
  |some p=>some (S ((s.take q).drop p),[])
  |none=>none
 |none=>none):=by
 simp only [ssS,AD,E6]
theorem T2 (s:List UInt8):ssS (S s) none none=some (S s,[]):=by rw [vH];simp [l0]
theorem TE (s:List UInt8) (k:IntKind) (a:Int):ssS (S s) (some (.lit (.int k a))) none=(ox s a s.length).bind (fun l'=>some (S l',[])):=by
 rw [vH]
 simp only [l0,mU,ox]
 by_cases h1:0≤a<;>by_cases h2:a≤(s.length:Int)<;>simp [h1,h2]
theorem RJ (s:List UInt8) (k:IntKind) (b:Int):ssS (S s) none (some (.lit (.int k b)))=(ox s 0 b).bind (fun l'=>some (S l',[])):=by
 rw [vH]
 simp only [l0,mU,ox]
 by_cases h1:0≤b<;>by_cases h2:b≤(s.length:Int)<;>simp [h1,h2]
theorem Rg (s:List UInt8) (k k':IntKind) (a b:Int):ssS (S s) (some (.lit (.int k a))) (some (.lit (.int k' b)))=(ox s a b).bind (fun l'=>some (S l',[])):=by
 rw [vH]
 simp only [mU,ox]
 by_cases h1:0≤b<;>by_cases h2:b≤(s.length:Int)<;>by_cases h3:0≤a<;>by_cases h4:a≤b
 all_goals (have e1:((b.toNat:Nat):Int)=b∨ ¬0≤b:=by omega)
 all_goals (rcases e1 with e1|e1)
 all_goals (first|omega| (simp [h1,h2,h3,h4,e1];try omega))
def apS (esz bytes:Nat) (zero:List Value) (x y:V) (h:ag) (n:Nat):Option (List (List V))→Option (V×Upd)
 |none=>none
 |some new_=>if zero.length=esz∧0<esz∧new_.length*bytes≤aM∧new_.length*esz≤aM then
  (match x with
  | .sl b 0 n=>match h b with
    |some k=>if k.op=false∧0<k.esz∧k.esz=esz∧n=k.rows.length∧(n+new_.length)*bytes≤aM∧(n+new_.length)*esz≤aM∧aa.selfOk b y then
     some (.sl b 0 (n+new_.length),[(b,{ k with rows:=k.rows++new_ })]) else none
    |none=>none
  | .lit (.slice none 0 0)=>er h n ⟨esz,false,new_⟩ (.sl n 0 new_.length)
  | .imm 0 []=>er h n ⟨esz,false,new_⟩ (.sl n 0 new_.length)
  |_=>none) else none
theorem LQ (esz bytes:Nat) (zero:List Value) (x y:Opd):aa C ow (.append esz bytes zero x y) ev h n=apS esz bytes zero (ev x) (ev y) h n (bg h esz (ev y)):=by
 simp only [aa]
 cases bg h esz (ev y) with
 |none=>rfl
 |some r=>rfl
def ra (b:Nat) (y:V):Bool:=aa.selfOk b y
theorem Lz (b:Nat):ra b (sl e l)=true:=by
 rcases dQ e l with ⟨_,h⟩|⟨_,h⟩<;>rw [h]<;>rfl
theorem H5 (b b' s q:Nat):ra b (.sl b' s q)=(b !=b'):=rfl
theorem J3 (b:Nat) (s:List UInt8):ra b (S s)=true:=rfl
theorem GY (b:Nat):ra b (.lit (.slice none 0 0))=true:=rfl
theorem Jb (b m:Nat) (r:List (List V)):ra b (.imm m r)=true:=rfl
def apO (k:Option Blk) (esz bytes:Nat) (zero:List Value) (b q:Nat) (sb:Bool) (new_:List (List V)):Option (V×Upd):=match k with
 |some k=>if zero.length=esz∧0<esz∧new_.length*bytes≤aM∧new_.length*esz≤aM then
  (if k.op=false∧0<k.esz∧k.esz=esz∧q=k.rows.length∧(q+new_.length)*bytes≤aM∧(q+new_.length)*esz≤aM∧sb=true then
        some (.sl b 0 (q+new_.length),[(b,{ k with rows:=k.rows++new_ })]) else none) else none
 |none=>none
theorem O7 (esz bytes:Nat) (zero:List Value) (b q:Nat) (y:V) (new_:List (List V)):apS esz bytes zero (.sl b 0 q) y h n (some new_)=apO (h b) esz bytes zero b q (ra b y) new_:=by
 simp only [apS,apO,ra]
 cases h b with
 |none=>simp
 |some k=>rfl
theorem Rh (m bytes:Nat) (zero:List Value) (b q:Nat) (sb:Bool) (hz:Nat.beq zero.length m=true) (h0:Nat.blt 0 m=true) (hb:Nat.ble m bytes=true) (hq:l.length=q) (hs:sb=true):
 apO (some ⟨m,false,rws e l⟩) m bytes zero b q sb (rws e l2)=br (dC (l++l2).length bytes) (some (.sl b 0 (l++l2).length,[(b,⟨m,false,rws e (l++l2)⟩)])) none:=by
 have hz3:=Nat.eq_of_beq_eq_true hz
 have hb2:=Nat.le_of_ble_eq_true hb
 rw [p5,decide_eq_true_eq] at h0
 subst hs hq
 simp only [apO,dC,rws,List.length_map,List.length_append,List.map_append]
 have e1:(l.length+l2.length)*m≤(l.length+l2.length)*bytes:=Nat.mul_le_mul_left _ hb2
 have e2:l2.length*bytes≤(l.length+l2.length)*bytes:=Nat.mul_le_mul_right _ (by omega)
 have e3:l2.length*m≤l2.length*bytes:=Nat.mul_le_mul_left _ hb2
 by_cases hf:(l.length+l2.length)*bytes≤aM
 ·rw [if_pos ⟨hz3,h0,by omega,by omega⟩,if_pos ⟨by trivial,h0,by trivial,by trivial,hf,by omega,by trivial⟩,decide_eq_true hf,bK]
 ·rw [decide_eq_false hf,aH]
  split
  ·rw [if_neg (fun hc=>hf hc.2.2.2.2.1)]
  ·rfl
theorem P1 (m bytes:Nat) (zero:List Value) (y:V) (hz:Nat.beq zero.length m=true) (h0:Nat.blt 0 m=true) (hb:Nat.ble m bytes=true):
 apS m bytes zero (.lit (.slice none 0 0)) y h n (some (rws e l2))=br (dC l2.length bytes) (frO (h n) n ⟨m,false,rws e l2⟩ (.sl n 0 l2.length)) none:=by
 have hz3:=Nat.eq_of_beq_eq_true hz
 have hb2:=Nat.le_of_ble_eq_true hb
 rw [p5,decide_eq_true_eq] at h0
 simp only [apS,dC,kD]
 have hl:(rws e l2).length=l2.length:=by simp [rws]
 rw [hl]
 have e3:l2.length*m≤l2.length*bytes:=Nat.mul_le_mul_left _ hb2
 by_cases hf:l2.length*bytes≤aM
 ·rw [if_pos ⟨hz3,h0,hf,by omega⟩,decide_eq_true hf,bK]
 ·rw [decide_eq_false hf,aH,if_neg (fun hc=>hf hc.2.2.1)]
def zm (l:List α) (s k:Nat) (l2:List α):List α:=l.take s++(l2.take k++l.drop (s+k))
def SS (esz bytes:Nat) (zero:List Value) (x y:V) (h:ag) (n:Nat):Option (V×Upd):=match asI y with
 |some l=>if 0≤l∧l≤1099511627776∧l*bytes≤1099511627776∧zero.all aq then rS esz bytes zero x (fun _=>true) h n (List.replicate l.toNat (zero.map zc)) else none
 |none=>none
theorem GT (esz bytes:Nat) (zero:List Value) (x y:Opd):aa C ow (.appendN esz bytes zero x y) ev h n=SS esz bytes zero (ev x) (ev y) h n:=rfl
theorem MD (m bytes:Nat) (zero:List Value) (b q:Nat) (k:IntKind) (a:Int) (hz2:zero.all aq=true):
 SS m bytes zero (.sl b 0 q) (.lit (.int k a)) h n=br (vt a a bytes&&decide (a≤1099511627776)) (apO (h b) m bytes zero b q true (yx n a.toNat (zero.map zc))) none:=by
 simp only [SS,asI,vt,hz2,yx,aM]
 by_cases h1:0≤a<;>by_cases h2:a*bytes≤1099511627776<;>by_cases h3:a≤1099511627776<;>simp [h1,h2,h3,br]
 simp only [rS,apO]
 cases h b with
 |none=>simp
 |some kk=>rfl
def cpS (esz:Nat) (x y:V) (h:ag):Option (List (List V))→Option (V×Upd)
 |some rows=>match x with
  | .sl b s n=>match h b with
    |some k=>if k.op=false∧0<k.esz∧k.esz=esz∧s+n=k.rows.length∧aa.selfOk b y then
     some (.lit (.int .i64 (min rows.length n)),[(b,{ k with rows:=k.rows.take s++(rows.take (min rows.length n)++k.rows.drop (s+min rows.length n)) })]) else none
    |none=>none
  |_=>none
 |none=>none
theorem SV (esz:Nat) (x y:Opd):aa C ow (.copy esz x y) ev h n=cpS esz (ev x) (ev y) h (bg h esz (ev y)):=by
 simp only [aa,cpS]
 cases bg h esz (ev y) with
 |none=>rfl
 |some r=>cases ev x<;>rfl
def cpO (k:Option Blk) (esz b s q:Nat) (sb:Bool) (rows:List (List V)):Option (V×Upd):=match k with
 |some k=>if k.op=false∧0<k.esz∧k.esz=esz∧s+q=k.rows.length∧sb=true then
  some (.lit (.int .i64 (min rows.length q)),[(b,{ k with rows:=k.rows.take s++(rows.take (min rows.length q)++k.rows.drop (s+min rows.length q)) })]) else none
 |none=>none
theorem Qz (esz b s q:Nat) (y:V) (rows:List (List V)):cpS esz (.sl b s q) y h (some rows)=cpO (h b) esz b s q (ra b y) rows:=by
 simp only [cpS,cpO,ra]
 cases h b<;>rfl
theorem U8 (m b s q:Nat) (sb:Bool) (h0:Nat.blt 0 m=true) (hs:sb=true):cpO (some ⟨m,false,rws e l⟩) m b s q sb (rws e l2)=
 br (decide (s+q=l.length)) (some (I (min (l2.length:Int) (q:Int)),[(b,⟨m,false,rws e (zm l s (min l2.length q) l2)⟩)])) none:=by
 rw [p5,decide_eq_true_eq] at h0
 subst hs
 simp only [cpO]
 by_cases hq:s+q=l.length
 ·rw [if_pos ⟨by trivial,h0,by trivial,by simp [rws,hq],by trivial⟩,decide_eq_true hq,bK]
  simp [rws,zm,List.map_take,List.map_drop]
 ·rw [decide_eq_false hq,aH,if_neg (fun hc=>hq (by simpa [rws] using hc.2.2.2.1))]
def ncS (x:V) (h:ag):Option (V×Upd):=match x with
 | .ptr b i o n=>match h b with
   |some k=>if k.rows.length=n∧i<n then some (.ptr b i o n,[]) else none
   |none=>none
 | .iptr r o=>some (.iptr r o,[])
 | .fn f c=>some (.fn f c,[])
 |_=>none
theorem EG (x:Opd):aa C ow (.nilCheck x) ev h n=ncS (ev x) h:=by
 simp only [aa,ncS]
 cases ev x<;>rfl
def ncO (k:Option Blk) (b i o m:Nat):Option (V×Upd):=match k with
 |some k=>if k.rows.length=m∧i<m then some (.ptr b i o m,[]) else none
 |none=>none
theorem Vb (b i o m:Nat):ncS (.ptr b i o m) h=ncO (h b) b i o m:=rfl
theorem U1 (b o m:Nat) (row:List V):ncO (some ⟨m,true,[row]⟩) b 0 o 1=some (.ptr b 0 o 1,[]):=rfl
theorem UG (r:List V) (o:Nat):ncS (.iptr r o) h=some (.iptr r o,[]):=rfl
theorem Vz (f:FuncId) (c:List V):ncS (.fn f c) h=some (.fn f c,[]):=rfl
def mxS (x y:V):Option (V×Upd):=match x,y with
 | .lit (.int k a),.lit (.int _ b)=>some (.lit (.int k (if b>a then b else a)),[])
 |_,_=>none
theorem Rv (x y:Opd):aa C ow (.max2 x y) ev h n=mxS (ev x) (ev y):=by
 simp only [aa,mxS]
 cases ev x<;>cases ev y<;>rfl
theorem Uy (k k':IntKind) (a b:Int):mxS (.lit (.int k a)) (.lit (.int k' b))=some (.lit (.int k (mx a b)),[]):=rfl
def mnS (x y:V):Option (V×Upd):=match x,y with
 | .lit (.int k a),.lit (.int _ b)=>some (.lit (.int k (if b<a then b else a)),[])
 |_,_=>none
theorem Tv (x y:Opd):aa C ow (.min2 x y) ev h n=mnS (ev x) (ev y):=by
 simp only [aa,mnS]
 cases ev x<;>cases ev y<;>rfl
theorem UD (k k':IntKind) (a b:Int):mnS (.lit (.int k a)) (.lit (.int k' b))=some (.lit (.int k (mn a b)),[]):=rfl
def sg (fl:Bool) (h:ag) (new:Nat) (ids bor:List Nat):Option (V×List Blk)→Option (V×Upd)
 |some (r,bs)=>mM fl h new ids bor r bs
 |none=>none
def tl (C:aA) (ow:FuncId→List Nat) (h:ag) (new:Nat) (f:FuncId):Option (List V×List Blk×List Nat×List Nat)→Option (V×Upd)
 |some (args',blks,ids,bor)=>sg ((ow f).contains 2000) h new ids bor (C f (iO (ow f) args') (iQ (ow f) blks))
 |none=>none
theorem zo (f:FuncId) (args:List V):eR C ow h n f args=tl C ow h n f (bB ow h f args):=by
 unfold eR tl sg
 cases bB ow h f args with
 |none=>rfl
 |some p=>obtain ⟨a,b,c,d⟩:=p;dsimp only;cases C f (iO (ow f) a) (iQ (ow f) b)<;>rfl
theorem Ua (f:FuncId) (args:List Opd):aa C ow (.call f args) ev h n=tl C ow h n f (bB ow h f (args.map ev)):=zo _ _
def Rx (C:aA) (ow:FuncId→List Nat) (h:ag) (n:Nat) (args:List V):V→Option (V×Upd)
 | .fn k caps=>tl C ow h n k (bB ow h k (args++caps))
 |_=>none
theorem Up (f:Opd) (args:List Opd):aa C ow (.dyn f args) ev h n=Rx C ow h n (args.map ev) (ev f):=by
 simp only [aa,Rx]
 cases ev f<;>first|rfl|exact zo _ _
theorem Q1 (args:List V) (k:FuncId) (caps:List V):Rx C ow h n args (.fn k caps)=tl C ow h n k (bB ow h k (args++caps)):=rfl
theorem Er (f:FuncId) (a:List V) (b:List Blk) (c d:List Nat):tl C ow h n f (some (a,b,c,d))=sg ((ow f).contains 2000) h n c d (C f (iO (ow f) a) (iQ (ow f) b)):=rfl
theorem Lm (f:FuncId) (c:Bool) (x y:Option (List V×List Blk×List Nat×List Nat)):tl C ow h n f (br c x y)=br c (tl C ow h n f x) (tl C ow h n f y):=by cases c<;>rfl
def G6 (args':List V) (bor:List Nat):Option (List Blk×List Nat)→Option (List V×List Blk×List Nat×List Nat)
 |some (blks,ids)=>br (bor.any (fun b=>decide (b∈ids))) none (some (args',blks,ids,bor))
 |none=>none
def Cy (h:ag):Option (List V×List Nat×List Nat)→Option (List V×List Blk×List Nat×List Nat)
 |some (args',ids0,bor)=>G6 args' bor (bM h 40 0 ids0)
 |none=>none
theorem BQ (f:FuncId) (args:List V):bB ow h f args=Cy h (de h (ow f) 0 [] args):=by
 unfold bB Cy G6
 cases de h (ow f) 0 [] args with
 |none=>rfl
 |some p=>
  obtain ⟨a,i,b⟩:=p
  dsimp only
  cases bM h 40 0 i with
  |none=>rfl
  |some q=>
   obtain ⟨bl,ids⟩:=q
   dsimp only
   cases hb:b.any (fun b=>decide (b∈ids))<;>simp [br]
theorem Ef (a:List V) (i b:List Nat):Cy h (some (a,i,b))=G6 a b (bM h 40 0 i):=rfl
theorem E8 (a:List V) (b:List Nat) (bl:List Blk) (ids:List Nat):G6 a b (some (bl,ids))=br (b.any (fun b=>decide (b∈ids))) none (some (a,bl,ids,b)):=rfl
def la2 (v':V) (bs:List Nat):Option (List V×List Nat×List Nat)→Option (List V×List Nat×List Nat)
 |some (r',ids'',bs')=>some (v'::r',ids'',bs++bs')
 |none=>none
def la1 (h:ag) (owns:List Nat) (j:Nat) (r:List V):Option (V×List Nat×List Nat)→Option (List V×List Nat×List Nat)
 |some (v',ids',bs)=>la2 v' bs (de h owns (j+1) ids' r)
 |none=>none
theorem Dy (owns:List Nat) (j:Nat) (ids:List Nat):de h owns j ids []=some ([],ids,[]):=rfl
theorem zX (owns:List Nat) (j:Nat) (ids:List Nat) (v:V) (r:List V):de h owns j ids (v::r)=la1 h owns j r (bI h (owns.contains j) ids v):=by
 have:decide (j∈owns)=owns.contains j:=by simp [List.contains_iff_mem,Bool.eq_iff_iff]
 simp only [de,la1,la2,this]
 cases bI h (owns.contains j) ids v with
 |none=>rfl
 |some p=>obtain ⟨a,b,c⟩:=p;dsimp only;cases de h owns (j+1) b r<;>rfl
theorem Lq (owns:List Nat) (j:Nat) (r:List V) (v':V) (ids' bs:List Nat):la1 h owns j r (some (v',ids',bs))=la2 v' bs (de h owns (j+1) ids' r):=rfl
theorem Ka (v':V) (bs:List Nat) (r':List V) (i b:List Nat):la2 v' bs (some (r',i,b))=some (v'::r',i,bs++b):=rfl
def lcP (k:Option Blk) (ids:List Nat) (b i o m:Nat):Option (V×List Nat×List Nat):=match k with
 |some k=>if k.rows.length=m then some (.ptr (fG b (cX ids b)) i o m,cX ids b,[]) else none
 |none=>none
def lcO (k:Option Blk) (own:Bool) (ids:List Nat) (b s q:Nat):Option (V×List Nat×List Nat):=match k with
 |some k=>if s+q=k.rows.length then
  (if own then some (.sl (fG b (cX ids b)) s q,cX ids b,[]) else if k.op=false∧0<k.esz then some (.imm k.esz (k.rows.drop s),ids,[b]) else none) else none
 |none=>none
theorem JV (own:Bool) (ids:List Nat) (v:Value):be h own ids (.lit v)=some (.lit v,ids,[]):=rfl
theorem Sf (own:Bool) (ids:List Nat) (m:Nat) (r:List (List V)):be h own ids (.imm m r)=some (.imm m r,ids,[]):=rfl
theorem OI (own:Bool) (ids:List Nat) (r:List V) (o:Nat):be h own ids (.iptr r o)=some (.iptr r o,ids,[]):=rfl
theorem V5 (own:Bool) (ids:List Nat) (f:FuncId):be h own ids (.fn f [])=some (.fn f [],ids,[]):=rfl
theorem KH (own:Bool) (ids:List Nat):be h own ids .undef=some (.undef,ids,[]):=rfl
theorem TU (own:Bool) (ids:List Nat) (b i o m:Nat):be h own ids (.ptr b i o m)=lcP (h b) ids b i o m:=rfl
theorem R8 (own:Bool) (ids:List Nat) (b s q:Nat):be h own ids (.sl b s q)=lcO (h b) own ids b s q:=rfl
theorem Kg (own:Bool) (ids:List Nat) (v:Value):bI h own ids (.lit v)=some (.lit v,ids,[]):=rfl
theorem RL (own:Bool) (ids:List Nat) (m:Nat) (r:List (List V)):bI h own ids (.imm m r)=some (.imm m r,ids,[]):=rfl
theorem Qn (own:Bool) (ids:List Nat) (r:List V) (o:Nat):bI h own ids (.iptr r o)=some (.iptr r o,ids,[]):=rfl
theorem SH (own:Bool) (ids:List Nat) (b i o m:Nat):bI h own ids (.ptr b i o m)=lcP (h b) ids b i o m:=rfl
theorem Tu (own:Bool) (ids:List Nat) (b s q:Nat):bI h own ids (.sl b s q)=lcO (h b) own ids b s q:=rfl
def lcA (mk:List V→V):Option (List V×List Nat×List Nat)→Option (V×List Nat×List Nat)
 |some (cs',ids',bs)=>some (mk cs',ids',bs)
 |none=>none
theorem T7 (own:Bool) (ids:List Nat) (cs:List V):bI h own ids (.agg cs)=lcA V.agg (bq h own ids cs):=by
 simp only [bI,lcA]
 cases bq h own ids cs<;>rfl
theorem Vg (own:Bool) (ids:List Nat) (f:FuncId) (cs:List V):bI h own ids (.fn f cs)=lcA (V.fn f) (bq h true ids cs):=by
 simp only [bI,lcA]
 cases bq h true ids cs<;>rfl
theorem L2 (mk:List V→V) (cs:List V) (i b:List Nat):lcA mk (some (cs,i,b))=some (mk cs,i,b):=rfl
def Nh (h:ag) (own:Bool) (r:List V):Option (V×List Nat×List Nat)→Option (List V×List Nat×List Nat)
 |some (v',ids',bs)=>la2 v' bs (bq h own ids' r)
 |none=>none
theorem AZ (own:Bool) (ids:List Nat):bq h own ids []=some ([],ids,[]):=rfl
theorem rv (own:Bool) (ids:List Nat) (v:V) (r:List V):bq h own ids (v::r)=Nh h own r (be h own ids v):=by
 simp only [bq,Nh,la2]
 cases be h own ids v with
 |none=>rfl
 |some p=>obtain ⟨a,b,c⟩:=p;dsimp only;cases bq h own b r<;>rfl
theorem zC (own:Bool) (r:List V) (v':V) (ids' bs:List Nat):Nh h own r (some (v',ids',bs))=la2 v' bs (bq h own ids' r):=rfl
theorem RT (ids:List Nat) (b o m:Nat) (row:List V):lcP (some ⟨m,true,[row]⟩) ids b 0 o 1=some (.ptr (fG b (cX ids b)) 0 o 1,cX ids b,[]):=rfl
theorem Vm (m:Nat) (ids:List Nat) (b s q:Nat) (hq:s+q=l.length):lcO (some ⟨m,false,rws e l⟩) true ids b s q=some (.sl (fG b (cX ids b)) s q,cX ids b,[]):=by
 simp [lcO,rws,hq]
theorem QV (m:Nat) (ids:List Nat) (b q:Nat) (h0:Nat.blt 0 m=true) (hq:l.length=q):lcO (some ⟨m,false,rws e l⟩) false ids b 0 q=some (.imm m (rws e l),ids,[b]):=by
 rw [p5,decide_eq_true_eq] at h0
 simp [lcO,rws,hq,h0]
def lb2 (k:Blk):Option (List Blk×List Nat)→Option (List Blk×List Nat)
 |some (r,ids')=>some (k::r,ids')
 |none=>none
def ld2 (v':V):Option (List V×List Nat)→Option (List V×List Nat)
 |some (r',i)=>some (v'::r',i)
 |none=>none
def ld1 (h:ag) (r:List V):Option (V×List Nat×List Nat)→Option (List V×List Nat)
 |some (v',ids',_)=>ld2 v' (gU h ids' r)
 |none=>none
theorem Hr (ids:List Nat):gU h ids []=some ([],ids):=rfl
theorem wS (ids:List Nat) (v:V) (r:List V):gU h ids (v::r)=ld1 h r (bI h true ids v):=by
 simp only [gU,ld1,ld2]
 cases bI h true ids v with
 |none=>rfl
 |some p=>obtain ⟨a,b,c⟩:=p;dsimp only;cases gU h b r<;>rfl
theorem Cn (r:List V) (v':V) (ids' bs:List Nat):ld1 h r (some (v',ids',bs))=ld2 v' (gU h ids' r):=rfl
theorem M3 (v':V) (r':List V) (i:List Nat):ld2 v' (some (r',i))=some (v'::r',i):=rfl
def lb1 (h:ag) (fuel pos m:Nat):Option (List V×List Nat)→Option (List Blk×List Nat)
 |some (row,ids1)=>lb2 ⟨m,true,[row]⟩ (bM h fuel (pos+1) ids1)
 |none=>none
def lb0 (h:ag) (fuel pos:Nat) (ids:List Nat):Option Blk→Option (List Blk×List Nat)
 |some k=>if k.op=false then lb2 k (bM h fuel (pos+1) ids) else (match fg h ids k.rows with
  |none=>none
  |some (rows,ids1)=>lb2 { k with rows:=rows } (bM h fuel (pos+1) ids1))
 |none=>none
def lbN (h:ag) (fuel pos:Nat) (ids:List Nat):Option Nat→Option (List Blk×List Nat)
 |none=>some ([],ids)
 |some b=>lb0 h fuel pos ids (h b)
theorem FX (fuel pos:Nat) (ids:List Nat):bM h (fuel+1) pos ids=lbN h fuel pos ids ids[pos]? :=by
 simp only [bM,lbN,lb0]
 cases ids[pos]? with
 |none=>rfl
 |some b=>
  dsimp only
  cases h b with
  |none=>rfl
  |some k=>
   dsimp only
   split
   ·cases bM h fuel (pos+1) ids<;>rfl
   ·cases fg h ids k.rows with
    |none=>rfl
    |some p=>obtain ⟨rows,ids1⟩:=p;dsimp only;cases bM h fuel (pos+1) ids1<;>rfl
theorem Kp (fuel pos:Nat) (ids:List Nat):lbN h fuel pos ids none=some ([],ids):=rfl
theorem MF (fuel pos:Nat) (ids:List Nat) (b:Nat):lbN h fuel pos ids (some b)=lb0 h fuel pos ids (h b):=rfl
theorem Tp (fuel pos:Nat) (ids:List Nat) (m:Nat) (r:List (List V)):lb0 h fuel pos ids (some ⟨m,false,r⟩)=lb2 ⟨m,false,r⟩ (bM h fuel (pos+1) ids):=rfl
theorem Ud (fuel pos:Nat) (ids:List Nat) (m:Nat) (row:List V):lb0 h fuel pos ids (some ⟨m,true,[row]⟩)=lb1 h fuel pos m (gU h ids row):=by
 simp only [lb0,fg,lb1]
 cases gU h ids row with
 |none=>rfl
 |some p=>obtain ⟨a,b⟩:=p;rfl
theorem Kv (fuel pos m:Nat) (row:List V) (ids1:List Nat):lb1 h fuel pos m (some (row,ids1))=lb2 ⟨m,true,[row]⟩ (bM h fuel (pos+1) ids1):=rfl
theorem M0 (k:Blk) (r:List Blk) (ids:List Nat):lb2 k (some (r,ids))=some (k::r,ids):=rfl
theorem Ve (n:Nat):bS [] [] n=[]:=rfl
theorem VS (k:Blk) (r:List Blk) (n:Nat):bS [] (k::r) n=n::bS [] r (n+1000000):=rfl
theorem VR (i:Nat) (ids:List Nat) (k:Blk) (r:List Blk) (n:Nat):bS (i::ids) (k::r) n=bS ids r n:=rfl
def cpw (fl:Bool) (new:Nat) (ids bor:List Nat) (r:V) (bs:List Blk) (ns:List Nat):Option (V×Upd):=some (oi (ids++ns) r,eY (ids++ns) (bs.map (dX (ids++ns)))++br (bor.isEmpty||(ja r&&bs.all (eK fl))) [] (cF bor))
theorem SP (fl:Bool) (new:Nat) (ids bor:List Nat) (r:V) (bs:List Blk) (ns:List Nat):cpw fl new ids bor r bs ns=some (oi (ids++ns) r,eY (ids++ns) (bs.map (dX (ids++ns)))++br (bor.isEmpty||(ja r&&bs.all (eK fl))) [] (cF bor)):=rfl
theorem EV (fl:Bool) (new:Nat) (ids bor:List Nat) (r:V) (bs:List Blk):sg fl h new ids bor (some (r,bs))=
 br (Nat.ble ids.length bs.length&&(bS ids bs new).all (fun b=>(h b).isNone)) (cpw fl new ids bor r bs (bS ids bs new)) none:=by
 simp only [sg,mM,cpw,tr]
 generalize (bS ids bs new).all (fun b=>(h b).isNone)=c3
 generalize (bor.isEmpty||(ja r&&bs.all (eK fl)))=c4
 by_cases h1:ids.length≤bs.length
 ·rw [decide_eq_true h1];cases c3<;>cases c4<;>simp [h1,br]
 ·rw [decide_eq_false h1];cases c3<;>cases c4<;>simp [h1,br]
theorem GV (ids:List Nat) (vs:List V):oi ids (.tup vs)= .tup (vs.map (fQ ids)):=rfl
theorem Ho (ids:List Nat) (vs:List V):oi ids (.agg vs)= .agg (vs.map (unV ids)):=rfl
theorem Iw (ids:List Nat) (v:Value):oi ids (.lit v)= .lit v:=rfl
theorem Hp (ids:List Nat) (m:Nat) (r:List (List V)):oi ids (.imm m r)= .imm m r:=rfl
theorem CX (ids:List Nat):oi ids .undef= .undef:=rfl
theorem HH (ids:List Nat) (b i o m:Nat):oi ids (.ptr b i o m)= .ptr (ids.getD b 0) i o m:=rfl
theorem J6 (ids:List Nat) (b s q:Nat):oi ids (.sl b s q)= .sl (ids.getD b 0) s q:=rfl
theorem HM (ids:List Nat) (vs:List V):fQ ids (.agg vs)= .agg (vs.map (unV ids)):=rfl
theorem HG (ids:List Nat) (v:Value):fQ ids (.lit v)= .lit v:=rfl
theorem Hu (ids:List Nat) (m:Nat) (r:List (List V)):fQ ids (.imm m r)= .imm m r:=rfl
theorem HI (ids:List Nat) (b i o m:Nat):fQ ids (.ptr b i o m)= .ptr (ids.getD b 0) i o m:=rfl
theorem HP (ids:List Nat) (b s q:Nat):fQ ids (.sl b s q)= .sl (ids.getD b 0) s q:=rfl
theorem PJ (ids:List Nat) (v:Value):unV ids (.lit v)= .lit v:=rfl
theorem Sr (ids:List Nat) (f:FuncId) (cs:List V):unV ids (.fn f cs)= .fn f cs:=rfl
theorem M2 (ids:List Nat) (f:FuncId) (cs:List V):fQ ids (.fn f cs)= .fn f (cs.map (unV ids)):=rfl
theorem Qq (ids:List Nat) (m:Nat) (r:List (List V)):unV ids (.imm m r)= .imm m r:=rfl
theorem QL (ids:List Nat) (b i o m:Nat):unV ids (.ptr b i o m)= .ptr (ids.getD b 0) i o m:=rfl
theorem Qa (ids:List Nat) (b s q:Nat):unV ids (.sl b s q)= .sl (ids.getD b 0) s q:=rfl
theorem KM (ids:List Nat) (m:Nat) (r:List (List V)):dX ids ⟨m,false,r⟩=⟨m,false,r⟩:=rfl
theorem GS (ids:List Nat) (m:Nat) (row:List V):dX ids ⟨m,true,[row]⟩=⟨m,true,[row.map (fQ ids)]⟩:=rfl
theorem TD (v:Value):ja (.lit v)=true:=rfl
theorem N7:ja .undef=true:=rfl
theorem Tj (m:Nat) (r:List (List V)):ja (.imm m r)=false:=rfl
theorem SZ (vs:List V):ja (.agg vs)=vs.all hK:=rfl
theorem TW (vs:List V):ja (.tup vs)=vs.all oQ:=rfl
theorem RO (b i o m:Nat):ja (.ptr b i o m)=true:=rfl
theorem To (b s q:Nat):ja (.sl b s q)=true:=rfl
theorem Qg (v:Value):oQ (.lit v)=true:=rfl
theorem Pe (m:Nat) (r:List (List V)):oQ (.imm m r)=false:=rfl
theorem PX (vs:List V):oQ (.agg vs)=vs.all hK:=rfl
theorem NO (b i o m:Nat):oQ (.ptr b i o m)=true:=rfl
theorem Pd (b s q:Nat):oQ (.sl b s q)=true:=rfl
theorem NU (v:Value):hK (.lit v)=true:=rfl
theorem RM (f:FuncId) (cs:List V):hK (.fn f cs)=false:=rfl
theorem Rj (f:FuncId) (cs:List V):oQ (.fn f cs)=false:=rfl
theorem UJ (f:FuncId) (cs:List V):ja (.fn f cs)=false:=rfl
theorem Qt (m:Nat) (r:List (List V)):hK (.imm m r)=false:=rfl
theorem O3 (b i o m:Nat):hK (.ptr b i o m)=true:=rfl
theorem O5 (b s q:Nat):hK (.sl b s q)=true:=rfl
theorem SM (m:Nat) (r:List (List V)):eK false ⟨m,false,r⟩=false:=rfl
theorem sA {α:Type} {e:En α} (he: ∀x,(e.enc x).all hK=true) (m:Nat) (l:List α):eK true ⟨m,false,rws e l⟩=true:=by
 simp only [eK,Bool.true_or,Bool.true_and,rws,List.all_map,List.all_eq_true]
 exact fun x _=>he x
theorem V3 (m:Nat) (l:List Int):eK true ⟨m,false,rws eI l⟩=true:=sA (fun _=>rfl) m l
theorem UR (m:Nat) (l:List Bool):eK true ⟨m,false,rws eB l⟩=true:=sA (fun _=>rfl) m l
theorem V7 (m:Nat) (l:List UInt8):eK true ⟨m,false,rws eU8 l⟩=true:=sA (fun _=>rfl) m l
theorem Oo (m:Nat) (l:List Int):eK true ⟨m,false,rws D5 l⟩=true:=sA (fun _=>rfl) m l
theorem VO (m:Nat) (l:List (List UInt8)):eK true ⟨m,false,rws eS l⟩=true:=sA (fun _=>rfl) m l
theorem TT (fl:Bool) (m:Nat) (row:List V):eK fl ⟨m,true,[row]⟩=row.all hK:=by simp [eK]
def NK (raw:Bool) (m:Nat):Option (List V)→Option (List Blk)→Option (V×List Blk)
 |some vs',some bs=>br (Nat.ble m 1000) (some ((F7 vs').czR,br raw bs (bs.map Blk.cz))) none
 |_,_=>none
def D8 (keep raw:Bool) (m:Nat) (h:ag):Option (List V)→Option (V×List Blk)
 |some vs=>NK raw m (li h m (br keep (eC raw h m vs) []) vs) (kF h m (br keep (eC raw h m vs) []) (List.range m++(br keep (eC raw h m vs) [])))
 |none=>none
theorem Gi (nt:Nat) (body:ai) (res:List ub) (keep raw:Bool) (m:Nat) (st:St) (x:al) (hx:x= .ret∨x= .normal):Ec ⟨nt,body,res,keep,raw⟩ m x st=D8 keep raw m st.heap (eV st res):=by
 have hk: ∀vs:List V,(if keep=true then eC raw st.heap m vs else [])=br keep (eC raw st.heap m vs) []:=fun vs=>by cases keep<;>rfl
 have:Ec ⟨nt,body,res,keep,raw⟩ m x st=Ec ⟨nt,body,res,keep,raw⟩ m .ret st:=by rcases hx with rfl|rfl<;>rfl
 rw [this]
 simp only [Ec,fA,D8,NK,BV,hk,tr]
 cases eV st res with
 |none=>rfl
 |some vs=>
  dsimp only
  cases li st.heap m (br keep (eC raw st.heap m vs) []) vs with
  |none=>rfl
  |some vs'=>
   cases kF st.heap m (br keep (eC raw st.heap m vs) []) (List.range m++(br keep (eC raw st.heap m vs) [])) with
   |none=>rfl
   |some bs=>by_cases h1:m≤1000<;>cases raw<;>simp [h1,br]
theorem LL (nt:Nat) (body:ai) (res:List ub) (keep raw:Bool) (m:Nat) (st:St):Ec ⟨nt,body,res,keep,raw⟩ m .ret st=D8 keep raw m st.heap (eV st res):=Gi _ _ _ _ _ _ _ _ (.inl rfl)
theorem Cq (nt:Nat) (body:ai) (res:List ub) (keep raw:Bool) (m:Nat) (st:St):Ec ⟨nt,body,res,keep,raw⟩ m .normal st=D8 keep raw m st.heap (eV st res):=Gi _ _ _ _ _ _ _ _ (.inr rfl)
theorem IN (keep raw:Bool) (m:Nat) (vs:List V):D8 keep raw m h (some vs)=NK raw m (li h m (br keep (eC raw h m vs) []) vs) (kF h m (br keep (eC raw h m vs) []) (List.range m++(br keep (eC raw h m vs) []))):=rfl
theorem Ir (raw:Bool) (m:Nat) (vs:List V) (bs:List Blk):NK raw m (some vs) (some bs)=br (Nat.ble m 1000) (some ((F7 vs).czR,br raw bs (bs.map Blk.cz))) none:=rfl
def rs1:Option V→Option (List V)→Option (List V)
 |some v,some vs=>some (v::vs)
 |_,_=>none
theorem Mf (st:St):eV st []=some []:=rfl
theorem HX (st:St) (r:ub) (rs:List ub):eV st (r::rs)=rs1 (uw st r) (eV st rs):=by
 simp only [eV,rs1]
 cases uw st r<;>cases eV st rs<;>rfl
theorem M8 (v:V) (vs:List V):rs1 (some v) (some vs)=some (v::vs):=rfl
theorem Pw (st:St) (t:Nat):uw st (.tmp t)=some (st.get t):=rfl
theorem K3 (st:St) (t:Nat) (g:Option Nat):uw st (.cell t g)=kV g st.heap (st.get t):=rfl
def Wt:Option V→Option (List V)→Option (List V)
 |some v,some vs=>some (v::vs)
 |_,_=>none
theorem IK (m:Nat) (kp:List Nat):li h m kp []=some []:=rfl
theorem EF (m:Nat) (kp:List Nat) (v:V) (r:List V):li h m kp (v::r)=rs1 (s5 h m kp v) (li h m kp r):=by
 simp only [li,rs1]
 cases s5 h m kp v<;>cases li h m kp r<;>rfl
theorem Ic (m:Nat) (kp:List Nat):jz h m kp []=some []:=rfl
theorem ws (m:Nat) (kp:List Nat) (v:V) (r:List V):jz h m kp (v::r)=rs1 (ik h m kp v) (jz h m kp r):=by
 simp only [jz,rs1]
 cases ik h m kp v<;>cases jz h m kp r<;>rfl
def fag:Option (List V)→Option V
 |some cs=>some (.agg cs)
 |none=>none
theorem K9 (m:Nat) (kp:List Nat) (cs:List V):s5 h m kp (.agg cs)=fag (jz h m kp cs):=by
 simp only [s5,fag]
 cases jz h m kp cs<;>rfl
theorem Kx (cs:List V):fag (some cs)=some (.agg cs):=rfl
theorem Mw (m:Nat) (kp:List Nat) (v:Value):s5 h m kp (.lit v)=some (.lit v):=rfl
theorem Ng (m:Nat) (kp:List Nat) (q:Nat) (r:List (List V)):s5 h m kp (.imm q r)=some (.imm q r):=rfl
theorem Fi (m:Nat) (kp:List Nat):s5 h m kp .undef=some .undef:=rfl
theorem Nw (m:Nat) (kp:List Nat) (f:FuncId):s5 h m kp (.fn f [])=some (.fn f []):=rfl
theorem JP (m:Nat) (kp:List Nat) (v:Value):ik h m kp (.lit v)=some (.lit v):=rfl
theorem KF (m:Nat) (kp:List Nat) (q:Nat) (r:List (List V)):ik h m kp (.imm q r)=some (.imm q r):=rfl
theorem NV (m:Nat) (kp:List Nat) (f:FuncId):ik h m kp (.fn f [])=some (.fn f []):=rfl
theorem FK (m:Nat) (kp:List Nat):ik h m kp .undef=some .undef:=rfl
def NT:Option (V×List Nat)→Option V
 |some (v,_)=>some v
 |none=>none
def fcO (h:ag) (m:Nat) (kp:List Nat) (b s q:Nat):Option V:=br (Nat.blt b m) (some (.sl b s q)) (br (kp.contains b) (some (.sl (m+fG b kp) s q)) (NT (g9 h (.sl b s q))))
theorem wL (m:Nat) (kp:List Nat) (b s q:Nat):ik h m kp (.sl b s q)=fcO h m kp b s q:=by
 simp only [ik,fcO,p5,NT]
 by_cases h1:b<m
 ·simp [h1,br]
 ·by_cases h2:b∈kp
  ·simp [h1,h2,br]
  ·have:kp.contains b=false:=by simpa using h2
   simp only [h1,h2,this,if_false,decide_false,aH]
   cases g9 h (.sl b s q)<;>rfl
theorem MN (m:Nat) (kp:List Nat) (b s q:Nat):s5 h m kp (.sl b s q)=fcO h m kp b s q:=wL m kp b s q
theorem RI (m:Nat) (kp:List Nat) (b s q:Nat):fcO h m kp b s q=br (Nat.blt b m) (some (.sl b s q)) (br (kp.contains b) (some (.sl (m+fG b kp) s q)) (NT (g9 h (.sl b s q)))):=rfl
theorem IE (v:V) (bs:List Nat):NT (some (v,bs))=some v:=rfl
def fcP (m:Nat) (kp:List Nat) (b i o q:Nat):Option V:=br (Nat.blt b m) (some (.ptr b i o q)) (br (kp.contains b) (some (.ptr (m+fG b kp) i o q)) none)
theorem wj (m:Nat) (kp:List Nat) (b i o q:Nat):ik h m kp (.ptr b i o q)=fcP m kp b i o q:=by
 simp only [ik,fcP,p5]
 by_cases h1:b<m
 ·simp [h1,br]
 ·by_cases h2:b∈kp
  ·simp [h1,h2,br]
  ·have:kp.contains b=false:=by simpa using h2
   simp [h1,h2,this,br]
theorem Jm (m:Nat) (kp:List Nat) (b i o q:Nat):s5 h m kp (.ptr b i o q)=fcP m kp b i o q:=wj (h:=h) m kp b i o q
theorem Tw (m:Nat) (kp:List Nat) (b i o q:Nat):fcP m kp b i o q=br (Nat.blt b m) (some (.ptr b i o q)) (br (kp.contains b) (some (.ptr (m+fG b kp) i o q)) none):=rfl
def fb2:Option Blk→Option (List Blk)→Option (List Blk)
 |some k,some r=>some (k::r)
 |_,_=>none
def fb1 (h:ag) (m:Nat) (kp r:List Nat):Option Blk→Option (List Blk)
 |some k=>fb2 (Ar h m kp k) (kF h m kp r)
 |none=>none
theorem IS (m:Nat) (kp:List Nat):kF h m kp []=some []:=rfl
theorem EY (m:Nat) (kp:List Nat) (b:Nat) (r:List Nat):kF h m kp (b::r)=fb1 h m kp r (h b):=by
 simp only [kF,fb1,fb2]
 cases h b with
 |none=>rfl
 |some k=>dsimp only;cases Ar h m kp k<;>cases kF h m kp r<;>rfl
theorem N8 (m:Nat) (kp r:List Nat) (k:Blk):fb1 h m kp r (some k)=fb2 (Ar h m kp k) (kF h m kp r):=rfl
theorem Mp (k:Blk) (r:List Blk):fb2 (some k) (some r)=some (k::r):=rfl
theorem PG (m:Nat) (kp:List Nat) (q:Nat) (r:List (List V)):Ar h m kp ⟨q,false,r⟩=some ⟨q,false,r⟩:=rfl
def fbO (q:Nat):Option (List V)→Option Blk
 |some row=>some ⟨q,true,[row]⟩
 |none=>none
theorem Ii (m:Nat) (kp:List Nat):lX h m kp []=some []:=rfl
theorem vX (m:Nat) (kp:List Nat) (v:V) (r:List V):lX h m kp (v::r)=rs1 (rZ h m kp v) (lX h m kp r):=by
 simp only [lX,rs1]
 cases rZ h m kp v<;>cases lX h m kp r<;>rfl
def fnR (f:FuncId):Option (List V)→Option V
 |some cs=>some (.fn f cs)
 |none=>none
theorem Jh (f:FuncId) (cs:List V):fnR f (some cs)=some (.fn f cs):=rfl
theorem MU (m:Nat) (kp:List Nat) (f:FuncId):rZ h m kp (.fn f [])=some (.fn f []):=rfl
theorem Py (m:Nat) (kp:List Nat) (f:FuncId) (c:V) (cs:List V):rZ h m kp (.fn f (c::cs))=fnR f (jz h m kp (c::cs)):=by
 simp only [rZ,fnR]
 cases jz h m kp (c::cs)<;>rfl
theorem KJ (m:Nat) (kp:List Nat) (v:Value):rZ h m kp (.lit v)=some (.lit v):=rfl
theorem My (m:Nat) (kp:List Nat) (q:Nat) (r:List (List V)):rZ h m kp (.imm q r)=some (.imm q r):=rfl
theorem FD (m:Nat) (kp:List Nat):rZ h m kp .undef=some .undef:=rfl
theorem IB (m:Nat) (kp:List Nat) (r:List V) (o:Nat):rZ h m kp (.iptr r o)=some (.iptr r o):=rfl
theorem La (m:Nat) (kp:List Nat) (b s q:Nat):rZ h m kp (.sl b s q)=fcO h m kp b s q:=wL m kp b s q
theorem LG (m:Nat) (kp:List Nat) (b i o q:Nat):rZ h m kp (.ptr b i o q)=fcP m kp b i o q:=wj (h:=h) m kp b i o q
theorem Qo (m:Nat) (kp:List Nat) (q:Nat) (row:List V):Ar h m kp ⟨q,true,[row]⟩=fbO q (lX h m kp row):=by
 simp only [Ar,qd,fbO]
 cases lX h m kp row<;>rfl
theorem Ma (q:Nat) (row:List V):fbO q (some row)=some ⟨q,true,[row]⟩:=rfl
theorem Lb (t u:Nat) (v:V) (r:List (Nat×V)) (m:List (Nat×Blk)):St.get ⟨(u,v)::r,m⟩ t=if u=t then v else St.get ⟨r,m⟩ t:=by
 simp only [St.get,bT]
 split<;>rfl
theorem NR (t:Nat) (m:List (Nat×Blk)):St.get ⟨[],m⟩ t= .undef:=rfl
theorem Ij (b c:Nat) (k:Blk) (r:List (Nat×Blk)) (x:List (Nat×V)):St.heap ⟨x,(c,k)::r⟩ b=if c=b then some k else St.heap ⟨x,r⟩ b:=rfl
theorem Ji (b:Nat) (x:List (Nat×V)):St.heap ⟨x,[]⟩ b=none:=rfl
theorem KZ (x:List (Nat×V)) (m:List (Nat×Blk)) (d:Nat) (v:V):St.put ⟨x,m⟩ (some d) v=⟨(d,v)::x,m⟩:=rfl
theorem Ky (st:St) (v:V):st.put none v=st:=rfl
theorem T4 (x:List (Nat×V)) (m:List (Nat×Blk)) (u:Upd):St.upd ⟨x,m⟩ u=⟨x,Dw m u⟩:=rfl
theorem Qv (st:St):st.upd []=st:=rfl
theorem LC (m:List (Nat×Blk)):Dw m []=m:=rfl
theorem GJ (m:List (Nat×Blk)) (b:Nat) (k:Blk) (r:Upd):Dw m ((b,k)::r)=Dw (cI b k m) r:=rfl
theorem JZ {β:Type} (k:Nat) (v:β):cI k v []=[(k,v)]:=rfl
theorem IZ {β:Type} (k j:Nat) (v u:β) (r:List (Nat×β)):cI k v ((j,u)::r)=if j=k then (j,v)::r else (j,u)::cI k v r:=rfl
theorem Wp (st:St) (t:Nat):st.ev (.t t)=st.get t:=rfl
theorem Wh (st:St) (v:Value):st.ev (.c v)= .lit v:=rfl
theorem Wk (st:St) (f:FuncId):st.ev (.f f)= .fn f []:=rfl
theorem Ol (live:List Nat) (x:List (Nat×V)) (m:List (Nat×Blk)):trim live ⟨x,m⟩=⟨live.map fun t=>(t,St.get ⟨x,m⟩ t),m⟩:=rfl
theorem EO {β:Type} (n:Nat):im n ([]:List β)=[]:=rfl
theorem D0 {β:Type} (n:Nat) (x:β) (r:List β):im n (x::r)=(n,x)::im (n+1) r:=rfl
theorem start_eq (a:List V) (b:List Blk):start a b=⟨im 0 a,im 0 b⟩:=rfl
theorem C7:cx ev []=[]:=rfl
theorem zZ (a b:Nat) (x:Opd) (r:List (Nat×Nat×Opd)):cx ev ((a,b,x)::r)=(a,b,ev x)::cx ev r:=rfl
theorem Im (cs:List V):ut cs []=some cs:=rfl
theorem Fv (cs:List V) (off size:Nat) (v:V) (r:List (Nat×Nat×V)):ut cs ((off,size,v)::r)=br (Nat.beq v.cells.length size&&Nat.ble (off+size) cs.length&&v.cells.all V.cell) (ut (cs.take off++(v.cells++cs.drop (off+size))) r) none:=rfl
theorem Hz (m:Nat) (r:List (List V)):sG m r []=some r:=rfl
theorem G0 (m:Nat) (rows:List (List V)) (i:Nat) (v:V) (r:List (Nat×V)):sG m rows ((i,v)::r)=br (Nat.beq v.cells.length m&&(Nat.blt i rows.length&&v.cells.all V.cell)) (sG m (rows.set i v.cells) r) none:=rfl
theorem I3 (cs:List V):(V.agg cs).cells=cs:=rfl
theorem zL (v:Value):(V.lit v).cells=[.lit v]:=rfl
theorem HW (m:Nat) (r:List (List V)):(V.imm m r).cells=[.imm m r]:=rfl
theorem Iv (b s q:Nat):(V.sl b s q).cells=[.sl b s q]:=rfl
theorem HT (b i o m:Nat):(V.ptr b i o m).cells=[.ptr b i o m]:=rfl
theorem Eo (r:List V) (o:Nat):(V.iptr r o).cells=[.iptr r o]:=rfl
theorem KC (f:FuncId) (cs:List V):(V.fn f cs).cells=[.fn f cs]:=rfl
theorem BT (k:IntKind) (a:Int):(V.lit (.int k a)).cell=true:=rfl
theorem Hj (a:Bool):(V.lit (.bool a)).cell=true:=rfl
theorem JI (a:ByteArray):(V.lit (.string a)).cell=true:=rfl
theorem Ni (a:Option Addr) (n m:Nat):(V.lit (.slice a n m)).cell=true:=rfl
theorem Ko (m:Nat) (r:List (List V)):(V.imm m r).cell=true:=rfl
theorem LO (b s q:Nat):(V.sl b s q).cell=true:=rfl
theorem N0 (b i o m:Nat):(V.ptr b i o m).cell=true:=rfl
theorem GP (r:List V) (o:Nat):(V.iptr r o).cell=true:=rfl
theorem NG (f:FuncId) (cs:List V):(V.fn f cs).cell=true:=rfl
theorem NJ (k:IntKind) (a:Int):aq (.int k a)=true:=rfl
theorem KT (a:Bool):aq (.bool a)=true:=rfl
theorem Qm (a:ByteArray):aq (.string a)=true:=rfl
theorem Qb (a:Option Addr) (n m:Nat):aq (.slice a n m)=true:=rfl
theorem Ox (a:Option Addr):aq (.pointer a)=true:=rfl
theorem Hm:cF []=[]:=rfl
theorem Fh (b:Nat) (r:List Nat):cF (b::r)=(b,fN)::cF r:=rfl
theorem QP (ids:List Nat):eY ids []=[]:=by cases ids<;>rfl
theorem Mv (i:Nat) (ids:List Nat) (k:Blk) (r:List Blk):eY (i::ids) (k::r)=(i,k)::eY ids r:=rfl
theorem MY (b x:Nat) (r:List Nat):fG b (x::r)=if x=b then 0 else fG b r+1:=rfl
theorem Ej (b:Nat):cX [] b=[b]:=rfl
theorem Hl (ids:List Nat) (b:Nat):cX ids b=br (ids.contains b) ids (ids++[b]):=by
 unfold cX
 by_cases h:b∈ids<;>simp [h,br]
theorem Sw:List.range 1=[0]:=rfl
theorem Rs:List.range 2=[0,1]:=rfl
theorem Ue:List.range 3=[0,1,2]:=rfl
theorem RR:List.range 4=[0,1,2,3]:=rfl
theorem Lf (v:V):F7 [v]=v:=rfl
theorem KK:F7 []= .tup []:=rfl
theorem N3 (a b:V) (r:List V):F7 (a::b::r)= .tup (a::b::r):=rfl
theorem G1 (o:List Nat) (a:List V):iO o a=br (o.contains 1000) a (a.map V.czA):=by
 unfold iO;cases o.contains 1000<;>rfl
theorem Eh (o:List Nat) (a:List Blk):iQ o a=br (o.contains 1000) a (a.map Blk.cz):=by
 unfold iQ;cases o.contains 1000<;>rfl
theorem I0 (a:Nat) (r:List Nat):(a::r).getD 0 0=a:=rfl
theorem IQ (a n:Nat) (r:List Nat):(a::r).getD (n+1) 0=r.getD n 0:=rfl
def E0 (st:St) (bs:List Nat):St:={ e:=xj (fzA st.heap bs) st.e,m:=fzM st.heap bs st.m }
theorem MQ (st:St) (bs:List Nat):aR st (.close bs)=br (bs.all (fun b=>Nat.ble 1000 b)) (some (E0 st bs)) none:=by
 simp only [aR,E0,tr]
 cases bs.all (fun b=>decide (1000≤b))<;>rfl
theorem ID (x:List (Nat×V)) (m:List (Nat×Blk)) (bs:List Nat):E0 ⟨x,m⟩ bs=⟨xj (fzA (St.heap ⟨x,m⟩) bs) x,fzM (St.heap ⟨x,m⟩) bs m⟩:=rfl
theorem Mj (g:V→V):xj g []=[]:=rfl
theorem J2 (g:V→V) (t:Nat) (v:V) (r:List (Nat×V)):xj g ((t,v)::r)=(t,g v)::xj g r:=rfl
variable {bs:List Nat}
theorem Uh (v:Value):fzA h bs (.lit v)= .lit v:=rfl
theorem Ru (m:Nat) (r:List (List V)):fzA h bs (.imm m r)= .imm m r:=rfl
theorem Oz (r:List V) (o:Nat):fzA h bs (.iptr r o)= .iptr r o:=rfl
theorem LW:fzA h bs .undef= .undef:=rfl
theorem SI (vs:List V):fzA h bs (.tup vs)= .undef:=rfl
def fzO:Option (V×List Nat)→V
 |some (v,_)=>v.cz
 |none=> .undef
theorem K0 (b s q:Nat):fzA h bs (.sl b s q)=br (bs.contains b) (fzO (g9 h (.sl b s q))) (.sl b s q):=by
 simp only [fzA,fzC,fzO]
 by_cases hb:b∈bs
 ·simp [hb,br];cases g9 h (.sl b s q)<;>rfl
 ·simp [hb,br]
theorem Ks (b i o m:Nat):fzA h bs (.ptr b i o m)=br (bs.contains b) .undef (.ptr b i o m):=by
 simp only [fzA,fzC]
 by_cases hb:b∈bs<;>simp [hb,br]
theorem Ld (v:V) (b:List Nat):fzO (some (v,b))=v.cz:=rfl
theorem S7 (cs:List V):fzA h bs (.agg cs)=br ((cs.map (fzC h bs)).all V.cell) (.agg (cs.map (fzC h bs))) .undef:=by
 simp only [fzA]
 cases (cs.map (fzC h bs)).all V.cell<;>rfl
theorem R1 (f:FuncId) (cs:List V):fzA h bs (.fn f cs)=br (cs.all okC&& !(cs.flatMap jm).any (fun b=>bs.contains b)) (.fn f cs) .undef:=by
 simp only [fzA,fzC]
 have:(fun b=>decide (b∈bs))=fun b=>bs.contains b:=by funext b;simp [Bool.eq_iff_iff]
 rw [this]
 cases (cs.all okC&& !(cs.flatMap jm).any (fun b=>bs.contains b))<;>rfl
theorem QI (v:Value):fzC h bs (.lit v)= .lit v:=rfl
theorem Pz (m:Nat) (r:List (List V)):fzC h bs (.imm m r)= .imm m r:=rfl
theorem TS (f:FuncId) (cs:List V):fzC h bs (.fn f cs)=br (cs.all okC&& !(cs.flatMap jm).any (fun b=>bs.contains b)) (.fn f cs) .undef:=R1 (h:=h) f cs
theorem Om (b i o m:Nat):okC (.ptr b i o m)=true:=rfl
theorem OB (b s q:Nat):okC (.sl b s q)=true:=rfl
theorem Nr (v:Value):okC (.lit v)=true:=rfl
theorem OT (m:Nat) (r:List (List V)):okC (.imm m r)=true:=rfl
theorem Tr (f:FuncId):okC (.fn f [])=true:=rfl
theorem Jw (r:List V) (o:Nat):fzC h bs (.iptr r o)= .iptr r o:=rfl
theorem Oc (b s q:Nat):fzC h bs (.sl b s q)=br (bs.contains b) (fzO (g9 h (.sl b s q))) (.sl b s q):=K0 b s q
theorem Qj (b i o m:Nat):fzC h bs (.ptr b i o m)=br (bs.contains b) .undef (.ptr b i o m):=Ks (h:=h) b i o m
theorem NX:fzM h bs []=[]:=rfl
def fzK (h:ag) (bs:List Nat) (k:Blk):Blk:=if k.op then (if (k.rows.map (·.map (fzC h bs))).all (·.all V.cell) then { k with rows:=k.rows.map (·.map (fzC h bs)) } else fN) else k
theorem MM (b:Nat) (k:Blk) (r:List (Nat×Blk)):fzM h bs ((b,k)::r)=br (bs.contains b) (fzM h bs r) ((b,fzK h bs k)::fzM h bs r):=by
 simp only [fzM,fzK]
 by_cases hb:b∈bs<;>simp [hb,br]
theorem RQ (m:Nat) (r:List (List V)):fzK h bs ⟨m,false,r⟩=⟨m,false,r⟩:=rfl
theorem S4 (m:Nat) (row:List V):fzK h bs ⟨m,true,[row]⟩=br ((row.map (fzC h bs)).all V.cell) ⟨m,true,[row.map (fzC h bs)]⟩ fN:=by
 simp only [fzK,List.map_cons,List.map_nil,List.all_cons,List.all_nil,Bool.and_true,if_true]
 cases (row.map (fzC h bs)).all V.cell<;>rfl
section
variable {R:Type} {T:Tab} {ow:bP} {k:al→St→Option R} {d:Option Nat} {n:Nat} {ss:List aC} {live:List Nat} {K:List Fr} {st:St} {base i:Nat} {deps:List (List Nat)} {rs:List Rec} {fp:List Nat} {r:R}
theorem mL {fl:Bool} {h:ag} {new:Nat} {ids bor:List Nat} {x:Option (V×List Blk)} {p:V×List Blk} (hx:x=some p) (hr:aft T ow k d n ss live K st (sg fl h new ids bor (some p))=some r):aft T ow k d n ss live K st (sg fl h new ids bor x)=some r:=by
 rw [hx];exact hr
theorem gn {fl:Bool} {h:ag} {new:Nat} {ids bor:List Nat} {x:Option (V×List Blk)} {p:V×List Blk} (hx:x=some p) (hr:v5 T ow k d base i ss deps live rs K st fp (sg fl h new ids bor (some p))=some r):v5 T ow k d base i ss deps live rs K st fp (sg fl h new ids bor x)=some r:=by
 rw [hx];exact hr
theorem Ux (b:Int):nn b=decide (0≤b):=rfl
theorem UC (b:Int):nz b=decide (b≠0):=rfl
theorem R9 (i:Int) (n:Nat):inb i n=(decide (0≤i)&&decide (i.toNat<n)):=rfl
end
end
section
variable {ow:bP} {ev:Opd→V} {h:ag} {α:Type} {e:En α} {l:List α}
theorem VW (x:Opd):cA ow (.mv x) ev h=[]:=rfl
theorem Vp (x:Opd):(AOp.mv x).opds=[x]:=rfl
theorem Od (c a b:Opd):cA ow (.pick c a b) ev h=((AOp.pick c a b).opds.map ev).flatMap cn:=rfl
theorem NY (c a b:Opd):(AOp.pick c a b).opds=[c,a,b]:=rfl
theorem Mk (z:List Value):cA ow (.alloc z) ev h=((AOp.alloc z).opds.map ev).flatMap cn:=rfl
theorem N2 (z:List Value):(AOp.alloc z).opds=[]:=rfl
theorem TO (m:Nat) (x:Opd):cA ow (.box m x) ev h=((AOp.box m x).opds.map ev).flatMap cn:=rfl
theorem R6 (m:Nat) (x:Opd):(AOp.box m x).opds=[x]:=rfl
theorem Do (z:List Value) (ps:List (Nat×Nat×Opd)):cA ow (.build z ps) ev h=((AOp.build z ps).opds.map ev).flatMap cn:=rfl
theorem BW (z:List Value) (ps:List (Nat×Nat×Opd)):(AOp.build z ps).opds=ps.map (·.2.2):=rfl
theorem xW (m:Nat) (z:List Value) (l:Nat) (ps:List (Nat×Opd)):cA ow (.buildSlice m z l ps) ev h=((AOp.buildSlice m z l ps).opds.map ev).flatMap cn:=rfl
theorem yz (m:Nat) (z:List Value) (l:Nat) (ps:List (Nat×Opd)):(AOp.buildSlice m z l ps).opds=ps.map (·.2):=rfl
theorem On (g:Option Nat) (x:Opd):cA ow (.load g x) ev h=((AOp.load g x).opds.map ev).flatMap cn:=rfl
theorem PP (g:Option Nat) (x:Opd):(AOp.load g x).opds=[x]:=rfl
theorem Jk (m:Nat) (x y:Opd):cA ow (.store m x y) ev h=((AOp.store m x y).opds.map ev).flatMap cn:=rfl
theorem MZ (m:Nat) (x y:Opd):(AOp.store m x y).opds=[x,y]:=rfl
theorem Du (x:Opd):cA ow (.nilCheck x) ev h=((AOp.nilCheck x).opds.map ev).flatMap cn:=rfl
theorem DJ (x:Opd):(AOp.nilCheck x).opds=[x]:=rfl
theorem Rt (op:BinOp) (x y:Opd):cA ow (.bin op x y) ev h=((AOp.bin op x y).opds.map ev).flatMap cn:=rfl
theorem TH (op:BinOp) (x y:Opd):(AOp.bin op x y).opds=[x,y]:=rfl
theorem Jv (b:Bool) (ks:List Bool) (x y:Opd):cA ow (.eqAgg b ks x y) ev h=((AOp.eqAgg b ks x y).opds.map ev).flatMap cn:=rfl
theorem Ml (b:Bool) (ks:List Bool) (x y:Opd):(AOp.eqAgg b ks x y).opds=[x,y]:=rfl
theorem Tm (b:Bool) (x y:Opd):cA ow (.beq b x y) ev h=((AOp.beq b x y).opds.map ev).flatMap cn:=rfl
theorem SW (b:Bool) (x y:Opd):(AOp.beq b x y).opds=[x,y]:=rfl
theorem Vv (op:UnOp) (x:Opd):cA ow (.un op x) ev h=((AOp.un op x).opds.map ev).flatMap cn:=rfl
theorem Ut (op:UnOp) (x:Opd):(AOp.un op x).opds=[x]:=rfl
theorem Mi (k:IntKind) (x:Opd):cA ow (.toInt k x) ev h=((AOp.toInt k x).opds.map ev).flatMap cn:=rfl
theorem MG (k:IntKind) (x:Opd):(AOp.toInt k x).opds=[x]:=rfl
theorem OQ (x:Opd):cA ow (.same x) ev h=((AOp.same x).opds.map ev).flatMap cn:=rfl
theorem Pb (x:Opd):(AOp.same x).opds=[x]:=rfl
theorem ES (x:Opd):cA ow (.toBytes x) ev h=((AOp.toBytes x).opds.map ev).flatMap cn:=rfl
theorem FR (x:Opd):(AOp.toBytes x).opds=[x]:=rfl
theorem L4 (x:Opd):cA ow (.toStr x) ev h=((AOp.toStr x).opds.map ev).flatMap cn:=rfl
theorem Ju (x:Opd):(AOp.toStr x).opds=[x]:=rfl
theorem C5 (f:FuncId) (cs:List Opd):cA ow (.makeFunc f cs) ev h=[]:=rfl
theorem DO (f:FuncId) (cs:List Opd):(AOp.makeFunc f cs).opds=cs:=rfl
theorem Bt (m b:Nat) (z:List Value) (x y:Opd):cA ow (.makeSlice m b z x y) ev h=((AOp.makeSlice m b z x y).opds.map ev).flatMap cn:=rfl
theorem A9 (m b:Nat) (z:List Value) (x y:Opd):(AOp.makeSlice m b z x y).opds=[x,y]:=rfl
theorem BK (x:Opd) (lo hi:Option Opd):cA ow (.sliceStr x lo hi) ev h=((AOp.sliceStr x lo hi).opds.map ev).flatMap cn:=rfl
theorem CK (x:Opd) (lo hi:Option Opd):(AOp.sliceStr x lo hi).opds=x::(t0 lo++t0 hi):=rfl
theorem Nk (m:Nat) (x:Opd) (lo hi mx:Option Opd):cA ow (.slice m x lo hi mx) ev h=((AOp.slice m x lo hi mx).opds.map ev).flatMap cn:=rfl
theorem Nd (m:Nat) (x:Opd) (lo hi mx:Option Opd):(AOp.slice m x lo hi mx).opds=x::(t0 lo++(t0 hi++t0 mx)):=rfl
theorem RD (m:Nat) (x:Opd):cA ow (.off m x) ev h=[]:=rfl
theorem Tb (m:Nat) (x:Opd):(AOp.off m x).opds=[x]:=rfl
theorem Kn (m:Nat) (g:Option Nat) (x:Opd):cA ow (.field m g x) ev h=((AOp.field m g x).opds.map ev).flatMap cn:=rfl
theorem KU (m:Nat) (g:Option Nat) (x:Opd):(AOp.field m g x).opds=[x]:=rfl
theorem Tn (m:Nat) (x y:Opd):cA ow (.idx m x y) ev h=((AOp.idx m x y).opds.map ev).flatMap cn:=rfl
theorem Sc (m:Nat) (x y:Opd):(AOp.idx m x y).opds=[x,y]:=rfl
theorem IM (m q:Nat) (x y:Opd):cA ow (.idxArr m q x y) ev h=((AOp.idxArr m q x y).opds.map ev).flatMap cn:=rfl
theorem GK (m q:Nat) (x y:Opd):(AOp.idxArr m q x y).opds=[x,y]:=rfl
theorem KV (x y:Opd):cA ow (.ixStr x y) ev h=((AOp.ixStr x y).opds.map ev).flatMap cn:=rfl
theorem Ki (x y:Opd):(AOp.ixStr x y).opds=[x,y]:=rfl
theorem Jg (m q:Nat) (g:Option Nat) (x y:Opd):cA ow (.ixAgg m q g x y) ev h=((AOp.ixAgg m q g x y).opds.map ev).flatMap cn:=rfl
theorem JU (m q:Nat) (g:Option Nat) (x y:Opd):(AOp.ixAgg m q g x y).opds=[x,y]:=rfl
theorem T6 (x:Opd) (i:Nat):cA ow (.ext x i) ev h=[]:=rfl
theorem RP (x:Opd) (i:Nat):(AOp.ext x i).opds=[x]:=rfl
theorem Sq (b:Bool) (x:Opd):cA ow (.len b x) ev h=[]:=rfl
theorem TA (b:Bool) (x:Opd):(AOp.len b x).opds=[x]:=rfl
theorem GR (m:Nat) (x:Opd):cA ow (.lenArr m x) ev h=((AOp.lenArr m x).opds.map ev).flatMap cn:=rfl
theorem IF (m:Nat) (x:Opd):(AOp.lenArr m x).opds=[x]:=rfl
theorem EE (m b:Nat) (z:List Value) (x y:Opd):cA ow (.appendN m b z x y) ev h=((AOp.appendN m b z x y).opds.map ev).flatMap cn:=rfl
theorem FE (m b:Nat) (z:List Value) (x y:Opd):(AOp.appendN m b z x y).opds=[x,y]:=rfl
theorem Nm (b:Bool) (x:Opd):cA ow (.isNil b x) ev h=((AOp.isNil b x).opds.map ev).flatMap cn:=rfl
theorem M5 (b:Bool) (x:Opd):(AOp.isNil b x).opds=[x]:=rfl
theorem I9 (m b:Nat) (z:List Value) (x y:Opd):cA ow (.append m b z x y) ev h=((AOp.append m b z x y).opds.map ev).flatMap cn:=rfl
theorem HY (m b:Nat) (z:List Value) (x y:Opd):(AOp.append m b z x y).opds=[x,y]:=rfl
theorem Pn (m:Nat) (x y:Opd):cA ow (.copy m x y) ev h=((AOp.copy m x y).opds.map ev).flatMap cn:=rfl
theorem OD (m:Nat) (x y:Opd):(AOp.copy m x y).opds=[x,y]:=rfl
theorem Of (x y:Opd):cA ow (.max2 x y) ev h=((AOp.max2 x y).opds.map ev).flatMap cn:=rfl
theorem P0 (x y:Opd):(AOp.max2 x y).opds=[x,y]:=rfl
theorem PC (x y:Opd):cA ow (.min2 x y) ev h=((AOp.min2 x y).opds.map ev).flatMap cn:=rfl
theorem Pi (x y:Opd):(AOp.min2 x y).opds=[x,y]:=rfl
theorem Db (x:Opd):cA ow (.bytesOwn x) ev h=((AOp.bytesOwn x).opds.map ev).flatMap cn:=rfl
theorem Cv (x:Opd):(AOp.bytesOwn x).opds=[x]:=rfl
theorem Jt (m:Nat) (x:Opd):cA ow (.arrOf m x) ev h=((AOp.arrOf m x).opds.map ev).flatMap cn:=rfl
theorem MC (m:Nat) (x:Opd):(AOp.arrOf m x).opds=[x]:=rfl
theorem SG (x:Opd):t0 (some x)=[x]:=rfl
theorem TL:t0 none=[]:=rfl
def fpC:Option (List V×List Blk×List Nat×List Nat)→List Nat
 |some (_,_,ids,bor)=>ids++bor
 |none=>[]
theorem Nj (a:List V) (b:List Blk) (ids bor:List Nat):fpC (some (a,b,ids,bor))=ids++bor:=rfl
theorem Qw (f:FuncId) (args:List Opd):cA ow (.call f args) ev h=fpC (bB ow h f (args.map ev)):=by
 show tO ow h f (args.map ev)=_
 unfold tO fpC
 cases bB ow h f (args.map ev)<;>rfl
def fpD (ow:bP) (h:ag) (args:List V):V→List Nat
 | .fn k caps=>fpC (bB ow h k (args++caps))
 |_=>[]
theorem Ry (f:Opd) (args:List Opd):cA ow (.dyn f args) ev h=fpD ow h (args.map ev) (ev f):=by
 show (match ev f with
  | .fn k caps=>tO ow h k (args.map ev++caps)
  |_=>[])=_
 cases ev f<;>first|rfl| (simp only [fpD,tO,fpC];cases bB ow h _ _<;>rfl)
theorem Sv (args:List V) (k:FuncId) (caps:List V):fpD ow h args (.fn k caps)=fpC (bB ow h k (args++caps)):=rfl
theorem PH (cs:List V):cn (.agg cs)=cs.flatMap jm:=rfl
theorem RH (f:FuncId) (cs:List V):cn (.fn f cs)=cs.flatMap jm:=rfl
theorem OP (cs:List V):cn (.tup cs)=cs.flatMap fun| .agg cs=>cs.flatMap jm|v=>jm v:=rfl
theorem Ou (v:Value):cn (.lit v)=[]:=rfl
theorem OJ (m:Nat) (r:List (List V)):cn (.imm m r)=[]:=rfl
theorem Lu (r:List V) (o:Nat):cn (.iptr r o)=[]:=rfl
theorem Qu (b i o m:Nat):cn (.ptr b i o m)=[b]:=rfl
theorem OM (b s q:Nat):cn (.sl b s q)=[b]:=rfl
theorem HA:cn .undef=[]:=rfl
theorem OW (v:Value):jm (.lit v)=[]:=rfl
theorem PB (m:Nat) (r:List (List V)):jm (.imm m r)=[]:=rfl
theorem MW (r:List V) (o:Nat):jm (.iptr r o)=[]:=rfl
theorem O9 (b i o m:Nat):jm (.ptr b i o m)=[b]:=rfl
theorem OE (b s q:Nat):jm (.sl b s q)=[b]:=rfl
theorem Ui (f:FuncId) (cs:List V):jm (.fn f cs)=[]:=rfl
theorem Hq:jm .undef=[]:=rfl
theorem Cw (fp:List Nat) (b:Nat):gS h fp b=br (fp.contains b) (h b) none:=by
 unfold gS
 by_cases hb:b∈fp<;>simp [hb,br]
theorem OS (rs:List Rec) (i:Nat) (fp wr:List Nat):J0 rs i fp wr=br (fp.isEmpty&&wr.isEmpty) rs (rs++[⟨i,fp,wr⟩]):=by
 have h:Rec.loud ⟨i,fp,wr⟩= !(fp.isEmpty&&wr.isEmpty):=rfl
 unfold J0
 cases h1:Rec.loud ⟨i,fp,wr⟩ with
 |true=>
  rw [h1] at h
  have h2:(fp.isEmpty&&wr.isEmpty)=false:=by
   cases hx:fp.isEmpty&&wr.isEmpty with
   |false=>rfl
   |true=>rw [hx] at h;cases h
  rw [h2,aH,List.filter_cons_of_pos h1];rfl
 |false=>
  rw [h1] at h
  have h2:(fp.isEmpty&&wr.isEmpty)=true:=by
   cases hx:fp.isEmpty&&wr.isEmpty with
   |true=>rfl
   |false=>rw [hx] at h;cases h
  rw [h2,bK,List.filter_cons_of_neg (by rw [h1];decide)];simp
theorem In (deps:List (List Nat)):fY deps []=true:=rfl
theorem Fj (deps:List (List Nat)) (p:Rec) (r:List Rec):fY deps (p::r)=(pH deps p r&&fY deps r):=rfl
theorem OG (deps:List (List Nat)) (p:Rec):pH deps p []=true:=rfl
theorem LI (deps:List (List Nat)) (i j:Nat) (f g w u:List Nat) (r:List Rec):pH deps ⟨i,f,w⟩ (⟨j,g,u⟩::r)=((w.isEmpty&&u.isEmpty||(deps.getD j []).contains i|| !(w.any (fun b=>decide (b∈g)||decide (b∈u))||u.any (fun b=>decide (b∈f))))&&pH deps ⟨i,f,w⟩ r):=rfl
theorem FT {β:Type} (a d:β) (r:List β):(a::r).getD 0 d=a:=rfl
theorem Ep {β:Type} (a d:β) (n:Nat) (r:List β):(a::r).getD (n+1) d=r.getD n d:=rfl
theorem Qd (m:Nat) (cs:List V) (n:Nat):TJ m cs h n=br (Nat.beq cs.length m&&cs.all V.cell) (frO (h n) n ⟨m,true,[cs]⟩ (.ptr n 0 0 1)) none:=rfl
theorem ah (x:Int) (h1: -9223372036854775808≤x) (h2:x<9223372036854775808):IntKind.wrap .i64 x=x:=by
 simp [IntKind.wrap,IntKind.bits,IntKind.signed];omega
theorem eo (x:Int) (h1:0≤x) (h2:x<18446744073709551616):IntKind.wrap .u64 x=x:=by
 simp [IntKind.wrap,IntKind.bits,IntKind.signed];omega
theorem Oy (x:Int) (h1:0≤x) (h2:x<256):IntKind.wrap .u8 x=x:=by
 simp [IntKind.wrap,IntKind.bits,IntKind.signed];omega
theorem ui (n:Nat):(OfNat.ofNat n:Int)=(n:Int):=rfl
theorem KW (n:Nat) (h:Nat.ble n 9223372036854775807=true):IntKind.wrap .i64 (no_index (OfNat.ofNat n:Int))=OfNat.ofNat n:=by
 have h1:=Nat.le_of_ble_eq_true h
 rw [ui];exact ah _ (by omega) (by omega)
theorem Hn (n:Nat) (h:Nat.ble n 18446744073709551615=true):IntKind.wrap .u64 (no_index (OfNat.ofNat n:Int))=OfNat.ofNat n:=by
 have h1:=Nat.le_of_ble_eq_true h
 rw [ui];exact eo _ (by omega) (by omega)
theorem IX (n:Nat) (h:Nat.ble n 255=true):IntKind.wrap .u8 (no_index (OfNat.ofNat n:Int))=OfNat.ofNat n:=by
 have h1:=Nat.le_of_ble_eq_true h
 rw [ui];exact Oy _ (by omega) (by omega)
theorem Rr (a b:Nat):(a==b)=decide (a=b):=by
 by_cases h:a=b
 ·subst h;simp
 ·rw [decide_eq_false h];simpa using h
theorem TQ:List.range 0=[]:=rfl
theorem FN (m:Nat) (vs:List V):eC true h m vs=oZ m [] ((List.range m).flatMap fun b=>F4 (h b)):=rfl
theorem IC (m:Nat) (vs:List V):eC false h m vs=oZ m [] (vs.flatMap cn):=rfl
theorem PE (m:Nat) (row:List V):F4 (some ⟨m,true,[row]⟩)=row.flatMap cn:=by simp [F4]
theorem Q4 (m:Nat) (r:List (List V)):F4 (some ⟨m,false,r⟩)=[]:=rfl
theorem RZ:List.range 5=[0,1,2,3,4]:=rfl
theorem Rf:List.range 6=[0,1,2,3,4,5]:=rfl
theorem SN:List.range 7=[0,1,2,3,4,5,6]:=rfl
theorem Tl:List.range 8=[0,1,2,3,4,5,6,7]:=rfl
theorem HS (m:Nat) (acc:List Nat):oZ m acc []=acc:=rfl
theorem Fa (m b:Nat) (acc r:List Nat):oZ m acc (b::r)=oZ m (br (Nat.ble m b) (cX acc b) acc) r:=by
 simp only [oZ,tr]
 by_cases h:m≤b<;>simp [h,br]
theorem GZ (n:Nat):Int.toNat (no_index (OfNat.ofNat n:Int))=OfNat.ofNat n:=rfl
end
end Go.AI
