/- The machine's operations on values of Lean's own types: what writes, what makes, what calls; a function's end. -/
import Derived.Test.YtgjlndaebhaciaaAiTyp2
set_option linter.unusedVariables false
set_option linter.unusedSimpArgs false
namespace Go.AI
section
variable {C:aM} {ow:FuncId→List Nat} {ev:Opd→V} {h:ak} {n:Nat} {α:Type} {e:En α} {l l2:List α}
def snO (k:Option Blk) (b s q:Nat):Option (V×List Nat):=match k with
 |some k=>if k.op=false∧0<k.esz∧s+q=k.rows.length then some (.imm k.esz (k.rows.drop s),[b]) else none
 |none=>none
theorem Nx (b s q:Nat):gN h (.sl b s q)=snO (h b) b s q:=rfl
theorem U2 (m b q:Nat) (h0:Nat.blt 0 m=true) (hq:l.length=q):snO (some ⟨m,false,rws e l⟩) b 0 q=some (.imm m (rws e l),[b]):=by
 rw [pE,decide_eq_true_eq] at h0
 simp [snO,rws,hq,h0]
theorem Ng (k:IntKind) (a:Int):gN h (.lit (.int k a))=some (.lit (.int k a),[]):=rfl
theorem IT (a:Bool):gN h (.lit (.bool a))=some (.lit (.bool a),[]):=rfl
theorem KV (a:List UInt8):gN h (S a)=some (S a,[]):=rfl
theorem MA:gN h (.lit (.slice none 0 0))=some (.lit (.slice none 0 0),[]):=rfl
theorem KB (m:Nat) (r:List (List V)):gN h (.imm m r)=some (.imm m r,[]):=rfl
def snC:Option (V×List Nat)→Option (List V×List Nat)→Option (List V×List Nat)
 |some (a,bs),some (r,bs')=>some (a.cz::r,bs++bs')
 |_,_=>none
theorem J9:fQ h []=some ([],[]):=rfl
theorem EK (v:V) (r:List V):fQ h (v::r)=snC (gN h v) (fQ h r):=by
 simp only [fQ,snC]
 cases gN h v<;>cases fQ h r<;>rfl
theorem MU (a:V) (bs:List Nat) (r:List V) (bs':List Nat):snC (some (a,bs)) (some (r,bs'))=some (a.cz::r,bs++bs'):=rfl
theorem Wm (k:IntKind) (a:Int):(V.lit (.int k a)).cz= .lit (.int k a):=rfl
theorem Sc (a:Bool):(V.lit (.bool a)).cz= .lit (.bool a):=rfl
theorem VV (a:List UInt8):(S a).cz=S a:=rfl
theorem Uz (a:Array Value):(V.lit (.tuple a)).cz= .lit (.tuple a):=rfl
theorem UJ:(V.lit (.slice none 0 0)).cz= .imm 1 []:=rfl
theorem Wg (m:Nat):(V.imm m []).cz= .imm 1 []:=rfl
theorem UO (b i o m:Nat):(V.ptr b i o m).cz= .ptr b i o m:=rfl
theorem W4 (b s q:Nat):(V.sl b s q).cz= .sl b s q:=rfl
theorem RA (r:List V) (o:Nat):(V.iptr r o).cz= .iptr r o:=rfl
theorem XN (f:FuncId) (cs:List V):(V.fn f cs).cz= .fn f cs:=rfl
theorem Pb:V.undef.cz= .undef:=rfl
theorem Sq (cs:List V):(V.agg cs).czA= .agg (cs.map V.cz):=rfl
theorem Px (k:IntKind) (a:Int):(V.lit (.int k a)).czA= .lit (.int k a):=rfl
theorem OE (a:Bool):(V.lit (.bool a)).czA= .lit (.bool a):=rfl
theorem Q4 (a:List UInt8):(S a).czA=S a:=rfl
theorem SG:(V.lit (.slice none 0 0)).czA= .imm 1 []:=rfl
theorem Sa (m:Nat) (r:List (List V)):(V.imm m r).czA=(V.imm m r).cz:=rfl
theorem PM (b i o m:Nat):(V.ptr b i o m).czA= .ptr b i o m:=rfl
theorem QI (b s q:Nat):(V.sl b s q).czA= .sl b s q:=rfl
theorem Lv (r:List V) (o:Nat):(V.iptr r o).czA= .iptr r o:=rfl
theorem Ut (f:FuncId) (cs:List V):(V.fn f cs).czA= .fn f cs:=rfl
theorem JP:V.undef.czA= .undef:=rfl
theorem S6 (cs:List V):(V.tup cs).czR= .tup (cs.map V.czA):=rfl
theorem Qn (cs:List V):(V.agg cs).czR= .agg (cs.map V.cz):=rfl
theorem PF (k:IntKind) (a:Int):(V.lit (.int k a)).czR= .lit (.int k a):=rfl
theorem NT (a:Bool):(V.lit (.bool a)).czR= .lit (.bool a):=rfl
theorem Rg (a:List UInt8):(S a).czR=S a:=rfl
theorem T2:(V.lit (.slice none 0 0)).czR= .imm 1 []:=rfl
theorem Rf (m:Nat) (r:List (List V)):(V.imm m r).czR=(V.imm m r).cz:=rfl
theorem S9 (b i o m:Nat):(V.ptr b i o m).czR= .ptr b i o m:=rfl
theorem R4 (b s q:Nat):(V.sl b s q).czR= .sl b s q:=rfl
theorem Kv (r:List V) (o:Nat):(V.iptr r o).czR= .iptr r o:=rfl
theorem Wv (f:FuncId) (cs:List V):(V.fn f cs).czR= .fn f cs:=rfl
theorem Mt (m:Nat) (row:List V):Blk.cz ⟨m,true,[row]⟩=⟨m,true,[row.map V.cz]⟩:=rfl
theorem OG (m:Nat) (r:List (List V)):Blk.cz ⟨m,false,r⟩=⟨m,false,r⟩:=rfl
theorem TN (k:IntKind) (a:Int):zc (.int k a)= .lit (.int k a):=rfl
theorem Q9 (a:Bool):zc (.bool a)= .lit (.bool a):=rfl
theorem Wd (a:List UInt8):zc (.string ⟨⟨a⟩⟩)=S a:=rfl
theorem Wk:zc (.slice none 0 0)= .imm 1 []:=rfl
def stO (k:Option Blk) (b size i o m:Nat) (x:V) (h:ak):Option (V×Upd):=match k with
 |some k=>if k.rows.length=m then (match k.rows[i]? with
  |some row=>
   if k.op then
    (if x.cells.length=size∧o+size≤row.length∧x.cells.all V.cell then
     some (.undef,[(b,{ k with rows:=k.rows.set i (row.take o++(x.cells++row.drop (o+size))) })]) else none)
   else match fQ h x.cells with
    |some (cs,bs)=>if cs.length=size∧o+size≤row.length∧ ¬b∈bs then
     some (.undef,de bs++[(b,{ k with rows:=k.rows.set i (row.take o++(cs++row.drop (o+size))) })]) else none
    |none=>none
  |none=>none) else none
 |none=>none
def ER (size:Nat) (a x:V) (h:ak):Option (V×Upd):=match a with
 | .ptr b i o m=>stO (h b) b size i o m x h
 |_=>none
theorem Ry (size:Nat) (a x:Opd):ah C ow (.store size a x) ev h n=ER size (ev a) (ev x) h:=by
 simp only [ah,ER,stO]
 cases ev a with
 |ptr b i o m=>dsimp only;cases h b<;>rfl
 |_=>rfl
theorem OR (size b i o m:Nat) (x:V):ER size (.ptr b i o m) x h=stO (h b) b size i o m x h:=rfl
theorem EW (m b size o:Nat) (row:List V) (x:V):stO (some ⟨m,true,[row]⟩) b size 0 o 1 x h=
 br (Nat.beq x.cells.length size&&(Nat.ble (o+size) row.length&&x.cells.all V.cell)) (some (.undef,[(b,⟨m,true,[row.take o++(x.cells++row.drop (o+size))]⟩)])) none:=by
 rw [tX,u3]
 by_cases h1:x.cells.length=size<;>by_cases h2:o+size≤row.length<;>cases h3:x.cells.all V.cell<;>simp [stO,h1,h2,h3,br]
def stT (r:List (List V)) (m b size i o:Nat) (row:List V):Option (List V×List Nat)→Option (V×Upd)
 |some (cs,bs)=>br (Nat.beq cs.length size&&(Nat.ble (o+size) row.length&& !bs.contains b)) (some (.undef,de bs++[(b,⟨m,false,dS r i (row.take o++(cs++row.drop (o+size)))⟩)])) none
 |none=>none
theorem Eb (r:List (List V)) (m b size i o:Nat) (row cs:List V) (bs:List Nat):stT r m b size i o row (some (cs,bs))=
 br (Nat.beq cs.length size&&(Nat.ble (o+size) row.length&& !bs.contains b)) (some (.undef,de bs++[(b,⟨m,false,dS r i (row.take o++(cs++row.drop (o+size)))⟩)])) none:=rfl
theorem Uk (m b size i o q:Nat) (x:V) (hq:l.length=q):stO (some ⟨m,false,rws e l⟩) b size i o q x h=(l[i]?).bind (fun y=>stT (rws e l) m b size i o (e.enc y) (fQ h x.cells)):=by
 simp only [stO]
 have:(rws e l).length=q:=by simp [rws,hq]
 rw [if_pos this]
 have h2:(rws e l)[i]? =(l[i]?).map e.enc:=by simp [rws]
 rw [h2]
 cases hl:l[i]? with
 |none=>rfl
 |some y=>
  simp only [Option.map_some,Option.bind_some]
  cases hs:fQ h x.cells with
  |none=>simp [stT]
  |some p=>
   obtain ⟨cs,bs⟩:=p
   rw [Eb,tX,u3]
   by_cases h1:cs.length=size<;>by_cases h2:o+size≤(e.enc y).length<;>by_cases h3:b∈bs<;>simp [h1,h2,h3,br,dS]
def psC (i:Nat):Option (List V×List Nat)→Option (List (Nat×V)×List Nat)→Option (List (Nat×V)×List Nat)
 |some (cs,bs),some (r',bs')=>some ((i,.agg cs)::r',bs++bs')
 |_,_=>none
theorem yX:bJ h ev []=some ([],[]):=rfl
theorem wW (i:Nat) (x:Opd) (r:List (Nat×Opd)):bJ h ev ((i,x)::r)=psC i (fQ h (ev x).cells) (bJ h ev r):=by
 simp only [bJ,psC]
 cases fQ h (ev x).cells<;>cases bJ h ev r<;>rfl
theorem KT (i:Nat) (cs:List V) (bs:List Nat) (r:List (Nat×V)) (bs':List Nat):psC i (some (cs,bs)) (some (r,bs'))=some ((i,.agg cs)::r,bs++bs'):=rfl
def uu (esz:Nat) (rows:List (List V)):List (Nat×V)→Option (List (List V))
 |[]=>some rows
 | (i,v)::r=>br (Nat.beq v.cells.length esz&&(Nat.blt i rows.length&&v.cells.all V.cell)) (uu esz (rows.set i v.cells) r) none
theorem D0 (esz:Nat): ∀(ps:List (Nat×V)) (rows:List (List V)),xE esz rows ps=uu esz rows ps
 |[],_=>rfl
 | (i,v)::r,rows=>by
   simp only [xE,uu,tX,pE]
   rw [←D0 esz r]
   by_cases h1:v.cells.length=esz<;>by_cases h2:i<rows.length<;>cases h3:v.cells.all V.cell<;>simp [h1,h2,br]
def Gj (u0:Upd):Option (V×Upd)→Option (V×Upd)
 |some (v,u)=>some (v,u0++u)
 |none=>none
theorem J6 (u0 u:Upd) (v:V):Gj u0 (some (v,u))=some (v,u0++u):=rfl
theorem Se (u0:Upd) (c:Bool) (x y:Option (V×Upd)):Gj u0 (br c x y)=br c (Gj u0 x) (Gj u0 y):=by cases c<;>rfl
theorem HG (u0:Upd):Gj u0 none=none:=rfl
def bsR (esz len:Nat) (zero:List Value) (bs:List Nat) (h:ak) (n:Nat):Option (List (List V))→Option (V×Upd)
 |some rows=>br (Nat.beq zero.length esz&&(zero.all aN&&(Nat.ble (len*esz) 16777216&& !bs.contains n))) (Gj (de bs) (frO (h n) n ⟨esz,false,mkR n rows⟩ (.sl n 0 len))) none
 |none=>none
def bsS (esz len:Nat) (zero:List Value) (h:ak) (n:Nat):Option (List (Nat×V)×List Nat)→Option (V×Upd)
 |some (ps,bs)=>bsR esz len zero bs h n (uu esz (List.replicate len (zero.map zc)) ps)
 |none=>none
theorem Bi (esz len:Nat) (zero:List Value) (ps:List (Nat×Opd)):ah C ow (.buildSlice esz zero len ps) ev h n=bsS esz len zero h n (bJ h ev ps):=by
 simp only [ah,bsS,D0,lQ]
 cases bJ h ev ps with
 |none=>rfl
 |some p=>
  obtain ⟨qs,bs⟩:=p
  dsimp only
  cases uu esz (List.replicate len (zero.map zc)) qs with
  |none=>rfl
  |some rows=>
   simp only [bsR,tX,u3,mkR]
   by_cases h1:zero.length=esz<;>cases h2:zero.all aN<;>by_cases h3:len*esz≤16777216<;>by_cases h4:n∈bs<;>simp [h1,h3,h4,br]
   cases frO (h n) n ⟨esz,false,rows⟩ (.sl n 0 len)<;>rfl
theorem Kx (esz len:Nat) (zero:List Value) (ps:List (Nat×V)) (bs:List Nat):bsS esz len zero h n (some (ps,bs))=bsR esz len zero bs h n (uu esz (List.replicate len (zero.map zc)) ps):=rfl
theorem Mz (esz len:Nat) (zero:List Value) (bs:List Nat) (rows:List (List V)):bsR esz len zero bs h n (some rows)=br (Nat.beq zero.length esz&&(zero.all aN&&(Nat.ble (len*esz) 16777216&& !bs.contains n))) (Gj (de bs) (frO (h n) n ⟨esz,false,mkR n rows⟩ (.sl n 0 len))) none:=rfl
def tbS (x:V) (h:ak) (n:Nat):Option (V×Upd):=match x with
 | .lit (.string s)=>if s.size≤b9 then fE h n ⟨1,false,s.data.toList.map fun b=>[.lit (.int .u8 b.toNat)]⟩ (.sl n 0 s.size) else none
 |_=>none
theorem Jc (x:Opd):ah C ow (.toBytes x) ev h n=tbS (ev x) h n:=rfl
theorem Yt (s:List UInt8):tbS (S s) h n=br (aK s.length 1) (frO (h n) n ⟨1,false,rws eU8 s⟩ (.sl n 0 s.length)) none:=by
 simp only [tbS,AM,aK,Nat.mul_one,lQ]
 by_cases h1:s.length≤b9<;>simp [h1,br]
 rfl
def boS (x:V) (h:ak):Option (V×Upd):=match x with
 | .sl b s n=>match h b with
   |some k=>if k.op=false∧0<k.esz∧s+n=k.rows.length∧0<n then some (.sl b s n,[(b,k)]) else none
   |none=>none
 |_=>none
theorem EZ (x:Opd):ah C ow (.bytesOwn x) ev h n=boS (ev x) h:=rfl
def boO (k:Option Blk) (b s n:Nat):Option (V×Upd):=match k with
 |some k=>if k.op=false∧0<k.esz∧s+n=k.rows.length∧0<n then some (.sl b s n,[(b,k)]) else none
 |none=>none
theorem Pg (b s q:Nat):boS (.sl b s q) h=boO (h b) b s q:=rfl
theorem Uw (b m q:Nat) (h0:Nat.blt 0 m=true) (hq:l.length=q):boO (some ⟨m,false,rws e l⟩) b 0 q=br (decide (0<q)) (some (.sl b 0 q,[(b,⟨m,false,rws e l⟩)])) none:=by
 rw [pE,decide_eq_true_eq] at h0
 by_cases h1:0<q<;>simp [boO,rws,hq,h0,h1,br]
theorem Ef (l:List UInt8):ah.bytesOf (rws eU8 l)=some l:=by
 induction l with
 |nil=>rfl
 |cons b l ih=>
  simp only [rws,List.map_cons,eU8] at ih ⊢
  simp only [ah.bytesOf]
  have h1:(0:Int)≤(b.toNat:Int)∧(b.toNat:Int)<256:=⟨by omega,by have:=b.toNat_lt;omega⟩
  rw [if_pos h1,ih]
  simp
noncomputable def tsR:Option (List (List V))→Option (V×Upd)
 |some rows=>match ah.bytesOf rows with
  |some l=>some (.lit (.string ⟨l.toArray⟩),[])
  |none=>none
 |none=>none
noncomputable def tsS (x:V) (h:ak):Option (V×Upd):=br (Hl x) none (tsR (bA h 1 x))
theorem Qq (x:Opd):ah C ow (.toStr x) ev h n=tsS (ev x) h:=by
 simp only [ah,tsS,tsR]
 cases Hl (ev x)
 ·simp only [Bool.false_eq_true,if_false,aC]
  cases bA h 1 (ev x)<;>rfl
 ·rfl
theorem LC (l:List UInt8):tsR (some (rws eU8 l))=some (S l,[]):=by
 simp only [tsR,Ef]
theorem Tu (l:List UInt8):tsS (sl eU8 l) h=some (S l,[]):=by
 rw [tsS,D5,aC,zD 1 rfl,LC]
def roO (k:Option Blk) (m s q:Nat):Option (List (List V)):=match k with
 |some k=>if k.op=false∧0<k.esz∧k.esz=m∧s+q=k.rows.length then some (k.rows.drop s) else none
 |none=>none
theorem Fl (m b s q:Nat):bA h m (.sl b s q)=roO (h b) m s q:=rfl
theorem W5 (m q:Nat) (h0:Nat.blt 0 m=true) (hq:l.length=q):roO (some ⟨m,false,rws e l⟩) m 0 q=some (rws e l):=by
 rw [pE,decide_eq_true_eq] at h0
 simp [roO,rws,hq,h0]
theorem G0 (s:List UInt8):bA h 1 (S s)=some (rws eU8 s):=rfl
theorem Pf (b s q:Nat):tsS (.sl b s q) h=tsR (roO (h b) 1 s q):=rfl
theorem Ro:tsS (.lit (.slice none 0 0)) h=some (S [],[]):=rfl
theorem PY:tsS (.imm 1 []) h=some (S [],[]):=rfl
def Tr (esz bytes:Nat) (zero:List Value) (len cap:V) (h:ak) (n:Nat):Option (V×Upd):=match asI len,asI cap with
 |some l,some c=>if 0≤l∧l≤c∧c*bytes≤b9∧c*esz≤b9∧zero.length=esz∧zero.all aN then
  fE h n ⟨esz,false,List.replicate l.toNat (zero.map zc)⟩ (.sl n 0 l.toNat) else none
 |_,_=>none
theorem De (esz bytes:Nat) (zero:List Value) (len cap:Opd):ah C ow (.makeSlice esz bytes zero len cap) ev h n=Tr esz bytes zero (ev len) (ev cap) h n:=rfl
theorem V7 (esz bytes:Nat) (zero:List Value) (k k':IntKind) (a c:Int) (hb:Nat.ble esz bytes=true) (hz:Nat.beq zero.length esz=true) (hz2:zero.all aN=true):
 Tr esz bytes zero (.lit (.int k a)) (.lit (.int k' c)) h n=br (BG a c bytes) (frO (h n) n ⟨esz,false,B3 n a.toNat (zero.map zc)⟩ (.sl n 0 (H9 (B3 n a.toNat (zero.map zc))))) none:=by
 have hz3:=Nat.eq_of_beq_eq_true hz
 have hb2:=Nat.le_of_ble_eq_true hb
 simp only [Tr,asI,BG,hz3,hz2,lQ,B3,H9,List.length_replicate]
 by_cases h1:0≤a<;>by_cases h2:a≤c<;>by_cases h3:c*bytes≤b9<;>simp [h1,h2,h3,br]
 intro h4
 exfalso
 have:c*esz≤c*bytes:=Int.mul_le_mul_of_nonneg_left (by omega) (by omega)
 omega
def slS (esz:Nat) (x:V) (lo hi mx:Option V) (h:ak):Option (V×Upd):=match mx with
 |some _=>none
 |none=>match x with
  | .lit (.slice none 0 0)=>match bi hi 0 0 with
    |some q=>match bi lo 0 q with
     |some _=>some (.lit (.slice none 0 0),[])
     |none=>none
    |none=>none
  | .sl b s n=>match h b with
    |some k=>if k.op=false∧0<k.esz∧k.esz=esz∧s+n=k.rows.length then (match bi hi n n with
     |some q=>match bi lo 0 q with
      |some p=>if q=n then some (.sl b (s+p) (n-p),[]) else some ((V.imm esz (((k.rows.drop s).take q).drop p)).cz,[(b,gX)])
      |none=>none
     |none=>none) else none
    |none=>none
  | .imm e rows=>if e=esz∨rows=[] then (match bi hi rows.length rows.length with
   |some q=>match bi lo 0 q with
    |some p=>some ((V.imm e ((rows.take q).drop p)).cz,[])
    |none=>none
   |none=>none) else none
  |_=>none
theorem QG (esz:Nat) (x:Opd) (lo hi:Option Opd):ah C ow (.slice esz x lo hi none) ev h n=slS esz (ev x) (lo.map ev) (hi.map ev) none h:=rfl
theorem ml (d m:Nat):bi none d m=some d:=rfl
theorem oi (k:IntKind) (i:Int) (d m:Nat):bi (some (.lit (.int k i))) d m=if 0≤i∧i≤m then some i.toNat else none:=rfl
theorem wu (m:Nat) (hm:e.esz=m) (lo hi:Option V):slS m (sl e l) lo hi none h=(match bi hi l.length l.length with
 |some q=>match bi lo 0 q with
  |some p=>some (sl e ((l.take q).drop p),[])
  |none=>none
 |none=>none):=by
 subst hm
 rcases eK e l with ⟨rfl,hs⟩|⟨hne,hs⟩
 ·rw [hs]
  simp only [slS,List.length_nil,or_true,if_true]
  cases bi hi 0 0 with
  |none=>rfl
  |some q=>cases bi lo 0 q<;>simp [NS,V.cz]
 ·rw [hs]
  simp only [slS,true_or,if_true,rws,List.length_map]
  cases bi hi l.length l.length with
  |none=>rfl
  |some q=>cases bi lo 0 q<;>simp [sl,rws, ←List.map_take, ←List.map_drop]
theorem U8 (m:Nat) (hm:e.esz=m):slS m (sl e l) none none none h=some (sl e l,[]):=by
 rw [wu m hm];simp [ml]
theorem Uv (m:Nat) (hm:e.esz=m) (k:IntKind) (a:Int):slS m (sl e l) (some (.lit (.int k a))) none none h=(ik l a l.length).bind (fun l'=>some (sl e l',[])):=by
 rw [wu m hm]
 simp only [ml,oi,ik]
 by_cases h1:0≤a<;>by_cases h2:a≤(l.length:Int)<;>simp [h1,h2]
theorem We (m:Nat) (hm:e.esz=m) (k:IntKind) (b:Int):slS m (sl e l) none (some (.lit (.int k b))) none h=(ik l 0 b).bind (fun l'=>some (sl e l',[])):=by
 rw [wu m hm]
 simp only [ml,oi,ik]
 by_cases h1:0≤b<;>by_cases h2:b≤(l.length:Int)<;>simp [h1,h2]
theorem Vf (m:Nat) (hm:e.esz=m) (k k':IntKind) (a b:Int):slS m (sl e l) (some (.lit (.int k a))) (some (.lit (.int k' b))) none h=(ik l a b).bind (fun l'=>some (sl e l',[])):=by
 rw [wu m hm]
 simp only [oi,ik]
 by_cases h1:0≤b<;>by_cases h2:b≤(l.length:Int)<;>by_cases h3:0≤a<;>by_cases h4:a≤b
 all_goals (have e1:((b.toNat:Nat):Int)=b∨ ¬0≤b:=by omega)
 all_goals (rcases e1 with e1|e1)
 all_goals (first|omega| (simp [h1,h2,h3,h4,e1];try omega))
def slO (k:Option Blk) (m b s q:Nat) (a:Int):Option (V×Upd):=match k with
 |some k=>if k.op=false∧0<k.esz∧k.esz=m∧s+q=k.rows.length then (if 0≤a∧a≤q then some (.sl b (s+a.toNat) (q-a.toNat),[]) else none) else none
 |none=>none
theorem RW (m b s q:Nat) (k:IntKind) (a:Int):slS m (.sl b s q) (some (.lit (.int k a))) none none h=slO (h b) m b s q a:=by
 simp only [slS,slO,ml,oi]
 cases h b with
 |none=>rfl
 |some k=>
  dsimp only
  split
  ·by_cases hc:0≤a∧a≤(q:Int)
   ·rw [if_pos hc,if_pos hc];simp
   ·rw [if_neg hc,if_neg hc]
  ·rfl
theorem Ug (m b s q:Nat) (a:Int) (h0:Nat.blt 0 m=true) (hq:s+q=l.length):slO (some ⟨m,false,rws e l⟩) m b s q a=br (decide (0≤a)&&decide (a≤q)) (some (.sl b (s+a.toNat) (q-a.toNat),[])) none:=by
 rw [pE,decide_eq_true_eq] at h0
 by_cases h1:0≤a<;>by_cases h2:a≤(q:Int)<;>simp [slO,rws,hq,h0,h1,h2,br]
def ssS (x:V) (lo hi:Option V):Option (V×Upd):=match x with
 | .lit (.string s)=>match bi hi s.size s.size with
   |some b=>match bi lo 0 b with
    |some a=>some (.lit (.string (s.extract a b)),[])
    |none=>none
   |none=>none
 |_=>none
theorem F5 (x:Opd) (lo hi:Option Opd):ah C ow (.sliceStr x lo hi) ev h n=ssS (ev x) (lo.map ev) (hi.map ev):=rfl
theorem Fc (s:List UInt8) (a b:Nat):(⟨⟨s⟩⟩:ByteArray).extract a b=⟨⟨(s.take b).drop a⟩⟩:=by
 apply ByteArray.ext
 rw [ByteArray.data_extract]
 apply Array.ext'
 simp [List.extract_eq_take_drop,List.drop_take]
theorem wh (s:List UInt8) (lo hi:Option V):ssS (S s) lo hi=(match bi hi s.length s.length with
 |some q=>match bi lo 0 q with
  |some p=>some (S ((s.take q).drop p),[])
  |none=>none
 |none=>none):=by
 simp only [ssS,AM,Fc]
theorem VH (s:List UInt8):ssS (S s) none none=some (S s,[]):=by rw [wh];simp [ml]
theorem Wi (s:List UInt8) (k:IntKind) (a:Int):ssS (S s) (some (.lit (.int k a))) none=(ik s a s.length).bind (fun l'=>some (S l',[])):=by
 rw [wh]
 simp only [ml,oi,ik]
 by_cases h1:0≤a<;>by_cases h2:a≤(s.length:Int)<;>simp [h1,h2]
theorem TE (s:List UInt8) (k:IntKind) (b:Int):ssS (S s) none (some (.lit (.int k b)))=(ik s 0 b).bind (fun l'=>some (S l',[])):=by
 rw [wh]
 simp only [ml,oi,ik]
 by_cases h1:0≤b<;>by_cases h2:b≤(s.length:Int)<;>simp [h1,h2]
theorem W8 (s:List UInt8) (k k':IntKind) (a b:Int):ssS (S s) (some (.lit (.int k a))) (some (.lit (.int k' b)))=(ik s a b).bind (fun l'=>some (S l',[])):=by
 rw [wh]
 simp only [oi,ik]
 by_cases h1:0≤b<;>by_cases h2:b≤(s.length:Int)<;>by_cases h3:0≤a<;>by_cases h4:a≤b
 all_goals (have e1:((b.toNat:Nat):Int)=b∨ ¬0≤b:=by omega)
 all_goals (rcases e1 with e1|e1)
 all_goals (first|omega| (simp [h1,h2,h3,h4,e1];try omega))
noncomputable def apS (esz bytes:Nat) (zero:List Value) (x y:V) (h:ak) (n:Nat):Option (List (List V))→Option (V×Upd)
 |none=>none
 |some new_=>if zero.length=esz∧0<esz∧new_.length*bytes≤b9∧new_.length*esz≤b9 then
  (match x with
  | .sl b 0 n=>match h b with
    |some k=>if k.op=false∧0<k.esz∧k.esz=esz∧n=k.rows.length∧(n+new_.length)*bytes≤b9∧(n+new_.length)*esz≤b9∧ah.selfOk b y then
     some (.sl b 0 (n+new_.length),[(b,{ k with rows:=k.rows++new_ })]) else none
    |none=>none
  | .lit (.slice none 0 0)=>fE h n ⟨esz,false,new_⟩ (.sl n 0 new_.length)
  | .imm 0 []=>fE h n ⟨esz,false,new_⟩ (.sl n 0 new_.length)
  |_=>none) else none
theorem Kq (esz bytes:Nat) (zero:List Value) (x y:Opd):ah C ow (.append esz bytes zero x y) ev h n=apS esz bytes zero (ev x) (ev y) h n (bA h esz (ev y)):=by
 simp only [ah]
 cases bA h esz (ev y) with
 |none=>rfl
 |some r=>rfl
noncomputable def sr (b:Nat) (y:V):Bool:=ah.selfOk b y
theorem Ok (b:Nat):sr b (sl e l)=true:=by
 rcases eK e l with ⟨_,h⟩|⟨_,h⟩<;>rw [h]<;>rfl
theorem Jd (b b' s q:Nat):sr b (.sl b' s q)=(b !=b'):=rfl
theorem HU (b:Nat) (s:List UInt8):sr b (S s)=true:=rfl
theorem JR (b:Nat):sr b (.lit (.slice none 0 0))=true:=rfl
theorem JI (b m:Nat) (r:List (List V)):sr b (.imm m r)=true:=rfl
def apO (k:Option Blk) (esz bytes:Nat) (zero:List Value) (b q:Nat) (sb:Bool) (new_:List (List V)):Option (V×Upd):=match k with
 |some k=>if zero.length=esz∧0<esz∧new_.length*bytes≤b9∧new_.length*esz≤b9 then
  (if k.op=false∧0<k.esz∧k.esz=esz∧q=k.rows.length∧(q+new_.length)*bytes≤b9∧(q+new_.length)*esz≤b9∧sb=true then
        some (.sl b 0 (q+new_.length),[(b,{ k with rows:=k.rows++new_ })]) else none) else none
 |none=>none
theorem SZ (esz bytes:Nat) (zero:List Value) (b q:Nat) (y:V) (new_:List (List V)):apS esz bytes zero (.sl b 0 q) y h n (some new_)=apO (h b) esz bytes zero b q (sr b y) new_:=by
 simp only [apS,apO,sr]
 cases h b with
 |none=>simp
 |some k=>rfl
theorem Vt (m bytes:Nat) (zero:List Value) (b q:Nat) (sb:Bool) (hz:Nat.beq zero.length m=true) (h0:Nat.blt 0 m=true) (hb:Nat.ble m bytes=true) (hq:l.length=q) (hs:sb=true):
 apO (some ⟨m,false,rws e l⟩) m bytes zero b q sb (rws e l2)=br (aK (l++l2).length bytes) (some (.sl b 0 (l++l2).length,[(b,⟨m,false,rws e (l++l2)⟩)])) none:=by
 have hz3:=Nat.eq_of_beq_eq_true hz
 have hb2:=Nat.le_of_ble_eq_true hb
 rw [pE,decide_eq_true_eq] at h0
 subst hs hq
 simp only [apO,aK,rws,List.length_map,List.length_append,List.map_append]
 have e1:(l.length+l2.length)*m≤(l.length+l2.length)*bytes:=Nat.mul_le_mul_left _ hb2
 have e2:l2.length*bytes≤(l.length+l2.length)*bytes:=Nat.mul_le_mul_right _ (by omega)
 have e3:l2.length*m≤l2.length*bytes:=Nat.mul_le_mul_left _ hb2
 by_cases hf:(l.length+l2.length)*bytes≤b9
 ·rw [if_pos ⟨hz3,h0,by omega,by omega⟩,if_pos ⟨by trivial,h0,by trivial,by trivial,hf,by omega,by trivial⟩,decide_eq_true hf,bC]
 ·rw [decide_eq_false hf,aC]
  split
  ·rw [if_neg (fun hc=>hf hc.2.2.2.2.1)]
  ·rfl
theorem Rq (m bytes:Nat) (zero:List Value) (y:V) (hz:Nat.beq zero.length m=true) (h0:Nat.blt 0 m=true) (hb:Nat.ble m bytes=true):
 apS m bytes zero (.lit (.slice none 0 0)) y h n (some (rws e l2))=br (aK l2.length bytes) (frO (h n) n ⟨m,false,rws e l2⟩ (.sl n 0 l2.length)) none:=by
 have hz3:=Nat.eq_of_beq_eq_true hz
 have hb2:=Nat.le_of_ble_eq_true hb
 rw [pE,decide_eq_true_eq] at h0
 simp only [apS,aK,lQ]
 have hl:(rws e l2).length=l2.length:=by simp [rws]
 rw [hl]
 have e3:l2.length*m≤l2.length*bytes:=Nat.mul_le_mul_left _ hb2
 by_cases hf:l2.length*bytes≤b9
 ·rw [if_pos ⟨hz3,h0,hf,by omega⟩,decide_eq_true hf,bC]
 ·rw [decide_eq_false hf,aC,if_neg (fun hc=>hf hc.2.2.1)]
def nW (l:List α) (s k:Nat) (l2:List α):List α:=l.take s++(l2.take k++l.drop (s+k))
def Vw (esz bytes:Nat) (zero:List Value) (x y:V) (h:ak) (n:Nat):Option (V×Upd):=match asI y with
 |some l=>if 0≤l∧l≤1099511627776∧l*bytes≤1099511627776∧zero.all aN then sS esz bytes zero x (fun _=>true) h n (List.replicate l.toNat (zero.map zc)) else none
 |none=>none
theorem J1 (esz bytes:Nat) (zero:List Value) (x y:Opd):ah C ow (.appendN esz bytes zero x y) ev h n=Vw esz bytes zero (ev x) (ev y) h n:=rfl
theorem Ou (m bytes:Nat) (zero:List Value) (b q:Nat) (k:IntKind) (a:Int) (hz2:zero.all aN=true):
 Vw m bytes zero (.sl b 0 q) (.lit (.int k a)) h n=br (BG a a bytes&&decide (a≤1099511627776)) (apO (h b) m bytes zero b q true (B3 n a.toNat (zero.map zc))) none:=by
 simp only [Vw,asI,BG,hz2,B3,b9]
 by_cases h1:0≤a<;>by_cases h2:a*bytes≤1099511627776<;>by_cases h3:a≤1099511627776<;>simp [h1,h2,h3,br]
 simp only [sS,apO]
 cases h b with
 |none=>simp
 |some kk=>rfl
noncomputable def cpS (esz:Nat) (x y:V) (h:ak):Option (List (List V))→Option (V×Upd)
 |some rows=>match x with
  | .sl b s n=>match h b with
    |some k=>if k.op=false∧0<k.esz∧k.esz=esz∧s+n=k.rows.length∧ah.selfOk b y then
     some (.lit (.int .i64 (min rows.length n)),[(b,{ k with rows:=k.rows.take s++(rows.take (min rows.length n)++k.rows.drop (s+min rows.length n)) })]) else none
    |none=>none
  |_=>none
 |none=>none
theorem Vs (esz:Nat) (x y:Opd):ah C ow (.copy esz x y) ev h n=cpS esz (ev x) (ev y) h (bA h esz (ev y)):=by
 simp only [ah,cpS]
 cases bA h esz (ev y) with
 |none=>rfl
 |some r=>cases ev x<;>rfl
def cpO (k:Option Blk) (esz b s q:Nat) (sb:Bool) (rows:List (List V)):Option (V×Upd):=match k with
 |some k=>if k.op=false∧0<k.esz∧k.esz=esz∧s+q=k.rows.length∧sb=true then
  some (.lit (.int .i64 (min rows.length q)),[(b,{ k with rows:=k.rows.take s++(rows.take (min rows.length q)++k.rows.drop (s+min rows.length q)) })]) else none
 |none=>none
theorem Qa (esz b s q:Nat) (y:V) (rows:List (List V)):cpS esz (.sl b s q) y h (some rows)=cpO (h b) esz b s q (sr b y) rows:=by
 simp only [cpS,cpO,sr]
 cases h b<;>rfl
theorem TB (m b s q:Nat) (sb:Bool) (h0:Nat.blt 0 m=true) (hs:sb=true):cpO (some ⟨m,false,rws e l⟩) m b s q sb (rws e l2)=
 br (decide (s+q=l.length)) (some (I (min (l2.length:Int) (q:Int)),[(b,⟨m,false,rws e (nW l s (min l2.length q) l2)⟩)])) none:=by
 rw [pE,decide_eq_true_eq] at h0
 subst hs
 simp only [cpO]
 by_cases hq:s+q=l.length
 ·rw [if_pos ⟨by trivial,h0,by trivial,by simp [rws,hq],by trivial⟩,decide_eq_true hq,bC]
  simp [rws,nW,List.map_take,List.map_drop]
 ·rw [decide_eq_false hq,aC,if_neg (fun hc=>hq (by simpa [rws] using hc.2.2.2.1))]
def ncS (x:V) (h:ak):Option (V×Upd):=match x with
 | .ptr b i o n=>match h b with
   |some k=>if k.rows.length=n∧i<n then some (.ptr b i o n,[]) else none
   |none=>none
 | .iptr r o=>some (.iptr r o,[])
 | .fn f c=>some (.fn f c,[])
 |_=>none
theorem Fp (x:Opd):ah C ow (.nilCheck x) ev h n=ncS (ev x) h:=by
 simp only [ah,ncS]
 cases ev x<;>rfl
def ncO (k:Option Blk) (b i o m:Nat):Option (V×Upd):=match k with
 |some k=>if k.rows.length=m∧i<m then some (.ptr b i o m,[]) else none
 |none=>none
theorem Xb (b i o m:Nat):ncS (.ptr b i o m) h=ncO (h b) b i o m:=rfl
theorem UQ (b o m:Nat) (row:List V):ncO (some ⟨m,true,[row]⟩) b 0 o 1=some (.ptr b 0 o 1,[]):=rfl
theorem XK (r:List V) (o:Nat):ncS (.iptr r o) h=some (.iptr r o,[]):=rfl
theorem Ym (f:FuncId) (c:List V):ncS (.fn f c) h=some (.fn f c,[]):=rfl
def mxS (x y:V):Option (V×Upd):=match x,y with
 | .lit (.int k a),.lit (.int _ b)=>some (.lit (.int k (if b>a then b else a)),[])
 |_,_=>none
theorem WD (x y:Opd):ah C ow (.max2 x y) ev h n=mxS (ev x) (ev y):=by
 simp only [ah,mxS]
 cases ev x<;>cases ev y<;>rfl
theorem WX (k k':IntKind) (a b:Int):mxS (.lit (.int k a)) (.lit (.int k' b))=some (.lit (.int k (mx a b)),[]):=rfl
def mnS (x y:V):Option (V×Upd):=match x,y with
 | .lit (.int k a),.lit (.int _ b)=>some (.lit (.int k (if b<a then b else a)),[])
 |_,_=>none
theorem V2 (x y:Opd):ah C ow (.min2 x y) ev h n=mnS (ev x) (ev y):=by
 simp only [ah,mnS]
 cases ev x<;>cases ev y<;>rfl
theorem Ye (k k':IntKind) (a b:Int):mnS (.lit (.int k a)) (.lit (.int k' b))=some (.lit (.int k (mn a b)),[]):=rfl
noncomputable def vr (fl ro:Bool) (h:ak) (new:Nat) (ids bor:List Nat):Option (V×List Blk)→Option (V×Upd)
 |some (r,bs)=>roW ro h (mr fl h new ids bor r bs)
 |none=>none
noncomputable def roX (k':Option Blk) (b:Nat) (k:Blk) (x:Option Upd):Option Upd:=match k' with
 |none=>x.map ((b,k):: ·)
 |some k'=>open Classical in if k'=k then x else none
def roE (v:V):Option Upd→Option (V×Upd)
 |some u=>some (v,u)
 |none=>none
theorem QM:roU h []=some []:=rfl
theorem O3 (b:Nat) (k:Blk) (r:Upd):roU h ((b,k)::r)=roX (h b) b k (roU h r):=by
 simp only [roU,roX];cases h b<;>rfl
theorem OT (b:Nat) (k:Blk) (x:Option Upd):roX (some k) b k x=x:=by simp [roX]
theorem ML (b:Nat) (k:Blk) (u:Upd):roX none b k (some u)=some ((b,k)::u):=rfl
theorem M8 (v:V) (u:Upd):roE v (some u)=some (v,u):=rfl
theorem Yl (x:Option (V×Upd)):roW false h x=x:=by cases x<;>rfl
theorem UI (c:Bool) (x y:Option (V×Upd)):roW true h (br c x y)=br c (roW true h x) (roW true h y):=by cases c<;>rfl
theorem KQ:roW true h none=none:=rfl
theorem NL (v:V) (u:Upd):roW true h (some (v,u))=roE v (roU h u):=by
 simp only [roW,if_true,roE];cases roU h u<;>rfl
noncomputable def tC (C:aM) (ow:FuncId→List Nat) (h:ak) (new:Nat) (f:FuncId):Option (List V×List Blk×List Nat×List Nat)→Option (V×Upd)
 |some (args',blks,ids,bor)=>vr ((ow f).contains 2000) ((ow f).contains 3000) h new ids bor (C f (jx (ow f) args') (jI (ow f) blks))
 |none=>none
theorem zW (f:FuncId) (args:List V):gn C ow h n f args=tC C ow h n f (bQ ow h f args):=by
 unfold gn tC vr
 cases bQ ow h f args with
 |none=>rfl
 |some p=>obtain ⟨a,b,c,d⟩:=p;dsimp only;cases C f (jx (ow f) a) (jI (ow f) b)<;>rfl
theorem VG (f:FuncId) (args:List Opd):ah C ow (.call f args) ev h n=tC C ow h n f (bQ ow h f (args.map ev)):=zW _ _
noncomputable def TR (C:aM) (ow:FuncId→List Nat) (h:ak) (n:Nat) (args:List V):V→Option (V×Upd)
 | .fn k caps=>tC C ow h n k (bQ ow h k (args++caps))
 |_=>none
theorem WY (f:Opd) (args:List Opd):ah C ow (.dyn f args) ev h n=TR C ow h n (args.map ev) (ev f):=by
 simp only [ah,TR]
 cases ev f<;>first|rfl|exact zW _ _
theorem R7 (args:List V) (k:FuncId) (caps:List V):TR C ow h n args (.fn k caps)=tC C ow h n k (bQ ow h k (args++caps)):=rfl
theorem Fu (f:FuncId) (a:List V) (b:List Blk) (c d:List Nat):tC C ow h n f (some (a,b,c,d))=vr ((ow f).contains 2000) ((ow f).contains 3000) h n c d (C f (jx (ow f) a) (jI (ow f) b)):=rfl
theorem Ot (f:FuncId) (c:Bool) (x y:Option (List V×List Blk×List Nat×List Nat)):tC C ow h n f (br c x y)=br c (tC C ow h n f x) (tC C ow h n f y):=by cases c<;>rfl
def GV (args':List V) (bor:List Nat):Option (List Blk×List Nat)→Option (List V×List Blk×List Nat×List Nat)
 |some (blks,ids)=>br (bor.any (fun b=>decide (b∈ids))) none (some (args',blks,ids,bor))
 |none=>none
def Eu (h:ak):Option (List V×List Nat×List Nat)→Option (List V×List Blk×List Nat×List Nat)
 |some (args',ids0,bor)=>GV args' bor (cg h 40 0 ids0)
 |none=>none
theorem Ej (f:FuncId) (args:List V):bQ ow h f args=Eu h (dD h (ow f) 0 [] args):=by
 unfold bQ Eu GV
 cases dD h (ow f) 0 [] args with
 |none=>rfl
 |some p=>
  obtain ⟨a,i,b⟩:=p
  dsimp only
  cases cg h 40 0 i with
  |none=>rfl
  |some q=>
   obtain ⟨bl,ids⟩:=q
   dsimp only
   cases hb:b.any (fun b=>decide (b∈ids))<;>simp [br]
theorem Gb (a:List V) (i b:List Nat):Eu h (some (a,i,b))=GV a b (cg h 40 0 i):=rfl
theorem Fe (a:List V) (b:List Nat) (bl:List Blk) (ids:List Nat):GV a b (some (bl,ids))=br (b.any (fun b=>decide (b∈ids))) none (some (a,bl,ids,b)):=rfl
def la2 (v':V) (bs:List Nat):Option (List V×List Nat×List Nat)→Option (List V×List Nat×List Nat)
 |some (r',ids'',bs')=>some (v'::r',ids'',bs++bs')
 |none=>none
def la1 (h:ak) (owns:List Nat) (j:Nat) (r:List V):Option (V×List Nat×List Nat)→Option (List V×List Nat×List Nat)
 |some (v',ids',bs)=>la2 v' bs (dD h owns (j+1) ids' r)
 |none=>none
theorem E2 (owns:List Nat) (j:Nat) (ids:List Nat):dD h owns j ids []=some ([],ids,[]):=rfl
theorem BJ (owns:List Nat) (j:Nat) (ids:List Nat) (v:V) (r:List V):dD h owns j ids (v::r)=la1 h owns j r (bS h (owns.contains j) ids v):=by
 have:decide (j∈owns)=owns.contains j:=by simp [List.contains_iff_mem,Bool.eq_iff_iff]
 simp only [dD,la1,la2,this]
 cases bS h (owns.contains j) ids v with
 |none=>rfl
 |some p=>obtain ⟨a,b,c⟩:=p;dsimp only;cases dD h owns (j+1) b r<;>rfl
theorem OL (owns:List Nat) (j:Nat) (r:List V) (v':V) (ids' bs:List Nat):la1 h owns j r (some (v',ids',bs))=la2 v' bs (dD h owns (j+1) ids' r):=rfl
theorem LB (v':V) (bs:List Nat) (r':List V) (i b:List Nat):la2 v' bs (some (r',i,b))=some (v'::r',i,bs++b):=rfl
def lcP (k:Option Blk) (ids:List Nat) (b i o m:Nat):Option (V×List Nat×List Nat):=match k with
 |some k=>if k.rows.length=m then some (.ptr (dZ b (cu ids b)) i o m,cu ids b,[]) else none
 |none=>none
def lcO (k:Option Blk) (own:Bool) (ids:List Nat) (b s q:Nat):Option (V×List Nat×List Nat):=match k with
 |some k=>if s+q=k.rows.length then
  (if own then some (.sl (dZ b (cu ids b)) s q,cu ids b,[]) else if k.op=false∧0<k.esz then some (.imm k.esz (k.rows.drop s),ids,[b]) else none) else none
 |none=>none
theorem MT (own:Bool) (ids:List Nat) (v:Value):bk h own ids (.lit v)=some (.lit v,ids,[]):=rfl
theorem W7 (own:Bool) (ids:List Nat) (m:Nat) (r:List (List V)):bk h own ids (.imm m r)=some (.imm m r,ids,[]):=rfl
theorem SF (own:Bool) (ids:List Nat) (r:List V) (o:Nat):bk h own ids (.iptr r o)=some (.iptr r o,ids,[]):=rfl
theorem Yh (own:Bool) (ids:List Nat) (f:FuncId):bk h own ids (.fn f [])=some (.fn f [],ids,[]):=rfl
theorem OH (own:Bool) (ids:List Nat):bk h own ids .undef=some (.undef,ids,[]):=rfl
theorem VX (own:Bool) (ids:List Nat) (b i o m:Nat):bk h own ids (.ptr b i o m)=lcP (h b) ids b i o m:=rfl
theorem Vv (own:Bool) (ids:List Nat) (b s q:Nat):bk h own ids (.sl b s q)=lcO (h b) own ids b s q:=rfl
theorem yh (own:Bool) (ids:List Nat) (v:Value):bS h own ids (.lit v)=some (.lit v,ids,[]):=rfl
theorem VR (own:Bool) (ids:List Nat) (m:Nat) (r:List (List V)):bS h own ids (.imm m r)=some (.imm m r,ids,[]):=rfl
theorem RP (own:Bool) (ids:List Nat) (r:List V) (o:Nat):bS h own ids (.iptr r o)=some (.iptr r o,ids,[]):=rfl
theorem VY (own:Bool) (ids:List Nat) (b i o m:Nat):bS h own ids (.ptr b i o m)=lcP (h b) ids b i o m:=rfl
theorem VP (own:Bool) (ids:List Nat) (b s q:Nat):bS h own ids (.sl b s q)=lcO (h b) own ids b s q:=rfl
def lcA (mk:List V→V):Option (List V×List Nat×List Nat)→Option (V×List Nat×List Nat)
 |some (cs',ids',bs)=>some (mk cs',ids',bs)
 |none=>none
theorem UM (own:Bool) (ids:List Nat) (cs:List V):bS h own ids (.agg cs)=lcA V.agg (bN h own ids cs):=by
 simp only [bS,lcA]
 cases bN h own ids cs<;>rfl
theorem Yd (own:Bool) (ids:List Nat) (f:FuncId) (cs:List V):bS h own ids (.fn f cs)=lcA (V.fn f) (bN h true ids cs):=by
 simp only [bS,lcA]
 cases bN h true ids cs<;>rfl
theorem Oc (mk:List V→V) (cs:List V) (i b:List Nat):lcA mk (some (cs,i,b))=some (mk cs,i,b):=rfl
def ON (h:ak) (own:Bool) (r:List V):Option (V×List Nat×List Nat)→Option (List V×List Nat×List Nat)
 |some (v',ids',bs)=>la2 v' bs (bN h own ids' r)
 |none=>none
theorem Am (own:Bool) (ids:List Nat):bN h own ids []=some ([],ids,[]):=rfl
theorem sm (own:Bool) (ids:List Nat) (v:V) (r:List V):bN h own ids (v::r)=ON h own r (bk h own ids v):=by
 simp only [bN,ON,la2]
 cases bk h own ids v with
 |none=>rfl
 |some p=>obtain ⟨a,b,c⟩:=p;dsimp only;cases bN h own b r<;>rfl
theorem zQ (own:Bool) (r:List V) (v':V) (ids' bs:List Nat):ON h own r (some (v',ids',bs))=la2 v' bs (bN h own ids' r):=rfl
theorem Wy (ids:List Nat) (b o m:Nat) (row:List V):lcP (some ⟨m,true,[row]⟩) ids b 0 o 1=some (.ptr (dZ b (cu ids b)) 0 o 1,cu ids b,[]):=rfl
theorem Xi (m:Nat) (ids:List Nat) (b s q:Nat) (hq:s+q=l.length):lcO (some ⟨m,false,rws e l⟩) true ids b s q=some (.sl (dZ b (cu ids b)) s q,cu ids b,[]):=by
 simp [lcO,rws,hq]
theorem Tb (m:Nat) (ids:List Nat) (b q:Nat) (h0:Nat.blt 0 m=true) (hq:l.length=q):lcO (some ⟨m,false,rws e l⟩) false ids b 0 q=some (.imm m (rws e l),ids,[b]):=by
 rw [pE,decide_eq_true_eq] at h0
 simp [lcO,rws,hq,h0]
def lb2 (k:Blk):Option (List Blk×List Nat)→Option (List Blk×List Nat)
 |some (r,ids')=>some (k::r,ids')
 |none=>none
def ld2 (v':V):Option (List V×List Nat)→Option (List V×List Nat)
 |some (r',i)=>some (v'::r',i)
 |none=>none
def ld1 (h:ak) (r:List V):Option (V×List Nat×List Nat)→Option (List V×List Nat)
 |some (v',ids',_)=>ld2 v' (iz h ids' r)
 |none=>none
theorem JX (ids:List Nat):iz h ids []=some ([],ids):=rfl
theorem md (ids:List Nat) (v:V) (r:List V):iz h ids (v::r)=ld1 h r (bS h true ids v):=by
 simp only [iz,ld1,ld2]
 cases bS h true ids v with
 |none=>rfl
 |some p=>obtain ⟨a,b,c⟩:=p;dsimp only;cases iz h b r<;>rfl
theorem q6 (r:List V) (v':V) (ids' bs:List Nat):ld1 h r (some (v',ids',bs))=ld2 v' (iz h ids' r):=rfl
theorem MV (v':V) (r':List V) (i:List Nat):ld2 v' (some (r',i))=some (v'::r',i):=rfl
def lb1 (h:ak) (fuel pos m:Nat):Option (List V×List Nat)→Option (List Blk×List Nat)
 |some (row,ids1)=>lb2 ⟨m,true,[row]⟩ (cg h fuel (pos+1) ids1)
 |none=>none
def lb0 (h:ak) (fuel pos:Nat) (ids:List Nat):Option Blk→Option (List Blk×List Nat)
 |some k=>if k.op=false then lb2 k (cg h fuel (pos+1) ids) else (match gu h ids k.rows with
  |none=>none
  |some (rows,ids1)=>lb2 { k with rows:=rows } (cg h fuel (pos+1) ids1))
 |none=>none
def lbN (h:ak) (fuel pos:Nat) (ids:List Nat):Option Nat→Option (List Blk×List Nat)
 |none=>some ([],ids)
 |some b=>lb0 h fuel pos ids (h b)
theorem F6 (fuel pos:Nat) (ids:List Nat):cg h (fuel+1) pos ids=lbN h fuel pos ids ids[pos]? :=by
 simp only [cg,lbN,lb0]
 cases ids[pos]? with
 |none=>rfl
 |some b=>
  dsimp only
  cases h b with
  |none=>rfl
  |some k=>
   dsimp only
   split
   ·cases cg h fuel (pos+1) ids<;>rfl
   ·cases gu h ids k.rows with
    |none=>rfl
    |some p=>obtain ⟨rows,ids1⟩:=p;dsimp only;cases cg h fuel (pos+1) ids1<;>rfl
theorem Ld (fuel pos:Nat) (ids:List Nat):lbN h fuel pos ids none=some ([],ids):=rfl
theorem Ov (fuel pos:Nat) (ids:List Nat) (b:Nat):lbN h fuel pos ids (some b)=lb0 h fuel pos ids (h b):=rfl
theorem Vj (fuel pos:Nat) (ids:List Nat) (m:Nat) (r:List (List V)):lb0 h fuel pos ids (some ⟨m,false,r⟩)=lb2 ⟨m,false,r⟩ (cg h fuel (pos+1) ids):=rfl
theorem UK (fuel pos:Nat) (ids:List Nat) (m:Nat) (row:List V):lb0 h fuel pos ids (some ⟨m,true,[row]⟩)=lb1 h fuel pos m (iz h ids row):=by
 simp only [lb0,gu,lb1]
 cases iz h ids row with
 |none=>rfl
 |some p=>obtain ⟨a,b⟩:=p;rfl
theorem Nh (fuel pos m:Nat) (row:List V) (ids1:List Nat):lb1 h fuel pos m (some (row,ids1))=lb2 ⟨m,true,[row]⟩ (cg h fuel (pos+1) ids1):=rfl
theorem KH (k:Blk) (r:List Blk) (ids:List Nat):lb2 k (some (r,ids))=some (k::r,ids):=rfl
theorem XF (n:Nat):cq [] [] n=[]:=rfl
theorem Xs (k:Blk) (r:List Blk) (n:Nat):cq [] (k::r) n=n::cq [] r (n+1000000):=rfl
theorem Xg (i:Nat) (ids:List Nat) (k:Blk) (r:List Blk) (n:Nat):cq (i::ids) (k::r) n=cq ids r n:=rfl
def cpw (fl:Bool) (new:Nat) (ids bor:List Nat) (r:V) (bs:List Blk) (ns:List Nat):Option (V×Upd):=some (nX (ids++ns) r,gp (ids++ns) (bs.map (dP (ids++ns)))++br (bor.isEmpty||(ja r&&bs.all (iy fl))) [] (de bor))
theorem WO (fl:Bool) (new:Nat) (ids bor:List Nat) (r:V) (bs:List Blk) (ns:List Nat):cpw fl new ids bor r bs ns=some (nX (ids++ns) r,gp (ids++ns) (bs.map (dP (ids++ns)))++br (bor.isEmpty||(ja r&&bs.all (iy fl))) [] (de bor)):=rfl
theorem ET (fl ro:Bool) (new:Nat) (ids bor:List Nat) (r:V) (bs:List Blk):vr fl ro h new ids bor (some (r,bs))=
 roW ro h (br (Nat.ble ids.length bs.length&&(cq ids bs new).all (fun b=>(h b).isNone)) (cpw fl new ids bor r bs (cq ids bs new)) none):=by
 refine congrArg (roW ro h) ?_
 simp only [mr,cpw,u3]
 generalize (cq ids bs new).all (fun b=>(h b).isNone)=c3
 generalize (bor.isEmpty||(ja r&&bs.all (iy fl)))=c4
 by_cases h1:ids.length≤bs.length
 ·rw [decide_eq_true h1];cases c3<;>cases c4<;>simp [h1,br]
 ·rw [decide_eq_false h1];cases c3<;>cases c4<;>simp [h1,br]
theorem JN (ids:List Nat) (vs:List V):nX ids (.tup vs)= .tup (vs.map (fA ids)):=rfl
theorem Kb (ids:List Nat) (vs:List V):nX ids (.agg vs)= .agg (vs.map (unV ids)):=rfl
theorem Hz (ids:List Nat) (v:Value):nX ids (.lit v)= .lit v:=rfl
theorem IY (ids:List Nat) (m:Nat) (r:List (List V)):nX ids (.imm m r)= .imm m r:=rfl
theorem DO (ids:List Nat):nX ids .undef= .undef:=rfl
theorem Jn (ids:List Nat) (b i o m:Nat):nX ids (.ptr b i o m)= .ptr (ids.getD b 0) i o m:=rfl
theorem J4 (ids:List Nat) (b s q:Nat):nX ids (.sl b s q)= .sl (ids.getD b 0) s q:=rfl
theorem Kl (ids:List Nat) (vs:List V):fA ids (.agg vs)= .agg (vs.map (unV ids)):=rfl
theorem J2 (ids:List Nat) (v:Value):fA ids (.lit v)= .lit v:=rfl
theorem Io (ids:List Nat) (m:Nat) (r:List (List V)):fA ids (.imm m r)= .imm m r:=rfl
theorem Ir (ids:List Nat) (b i o m:Nat):fA ids (.ptr b i o m)= .ptr (ids.getD b 0) i o m:=rfl
theorem Ia (ids:List Nat) (b s q:Nat):fA ids (.sl b s q)= .sl (ids.getD b 0) s q:=rfl
theorem SA (ids:List Nat) (v:Value):unV ids (.lit v)= .lit v:=rfl
theorem VN (ids:List Nat) (f:FuncId) (cs:List V):unV ids (.fn f cs)= .fn f cs:=rfl
theorem Ly (ids:List Nat) (f:FuncId) (cs:List V):fA ids (.fn f cs)= .fn f (cs.map (unV ids)):=rfl
theorem Rt (ids:List Nat) (m:Nat) (r:List (List V)):unV ids (.imm m r)= .imm m r:=rfl
theorem PI (ids:List Nat) (b i o m:Nat):unV ids (.ptr b i o m)= .ptr (ids.getD b 0) i o m:=rfl
theorem Rp (ids:List Nat) (b s q:Nat):unV ids (.sl b s q)= .sl (ids.getD b 0) s q:=rfl
theorem OB (ids:List Nat) (m:Nat) (r:List (List V)):dP ids ⟨m,false,r⟩=⟨m,false,r⟩:=rfl
theorem HC (ids:List Nat) (m:Nat) (row:List V):dP ids ⟨m,true,[row]⟩=⟨m,true,[row.map (fA ids)]⟩:=rfl
theorem Va (v:Value):ja (.lit v)=true:=rfl
theorem Lk:ja .undef=true:=rfl
theorem Ww (m:Nat) (r:List (List V)):ja (.imm m r)=false:=rfl
theorem Vl (vs:List V):ja (.agg vs)=vs.all hJ:=rfl
theorem WM (vs:List V):ja (.tup vs)=vs.all pa:=rfl
theorem Ub (b i o m:Nat):ja (.ptr b i o m)=true:=rfl
theorem VM (b s q:Nat):ja (.sl b s q)=true:=rfl
theorem Qp (v:Value):pa (.lit v)=true:=rfl
theorem Ph (m:Nat) (r:List (List V)):pa (.imm m r)=false:=rfl
theorem Pp (vs:List V):pa (.agg vs)=vs.all hJ:=rfl
theorem QO (b i o m:Nat):pa (.ptr b i o m)=true:=rfl
theorem Qe (b s q:Nat):pa (.sl b s q)=true:=rfl
theorem RR (v:Value):hJ (.lit v)=true:=rfl
theorem Wz (f:FuncId) (cs:List V):hJ (.fn f cs)=false:=rfl
theorem W3 (f:FuncId) (cs:List V):pa (.fn f cs)=false:=rfl
theorem XM (f:FuncId) (cs:List V):ja (.fn f cs)=false:=rfl
theorem PG (m:Nat) (r:List (List V)):hJ (.imm m r)=false:=rfl
theorem SH (b i o m:Nat):hJ (.ptr b i o m)=true:=rfl
theorem Q1 (b s q:Nat):hJ (.sl b s q)=true:=rfl
theorem WH (m:Nat) (r:List (List V)):iy false ⟨m,false,r⟩=false:=rfl
theorem Eh {α:Type} {e:En α} (he: ∀x,(e.enc x).all hJ=true) (m:Nat) (l:List α):iy true ⟨m,false,rws e l⟩=true:=by
 simp only [iy,Bool.true_or,Bool.true_and,rws,List.all_map,List.all_eq_true]
 exact fun x _=>he x
theorem Ya (m:Nat) (l:List Int):iy true ⟨m,false,rws eI l⟩=true:=Eh (fun _=>rfl) m l
theorem Xp (m:Nat) (l:List Bool):iy true ⟨m,false,rws eB l⟩=true:=Eh (fun _=>rfl) m l
theorem Y3 (m:Nat) (l:List UInt8):iy true ⟨m,false,rws eU8 l⟩=true:=Eh (fun _=>rfl) m l
theorem QY (m:Nat) (l:List Int):iy true ⟨m,false,rws CU l⟩=true:=Eh (fun _=>rfl) m l
theorem X8 (m:Nat) (l:List (List UInt8)):iy true ⟨m,false,rws eS l⟩=true:=Eh (fun _=>rfl) m l
theorem TP (fl:Bool) (m:Nat) (row:List V):iy fl ⟨m,true,[row]⟩=row.all hJ:=by simp [iy]
def Py (raw:Bool) (m:Nat):Option (List V)→Option (List Blk)→Option (V×List Blk)
 |some vs',some bs=>br (Nat.ble m 1000) (some ((Ay vs').czR,br raw bs (bs.map Blk.cz))) none
 |_,_=>none
def Cz (keep raw:Bool) (m:Nat) (h:ak):Option (List V)→Option (V×List Blk)
 |some vs=>Py raw m (kV h m (br keep (fq raw h m vs) []) vs) (jZ h m (br keep (fq raw h m vs) []) (List.range m++(br keep (fq raw h m vs) [])))
 |none=>none
theorem Hj (nt:Nat) (body:aB) (res:List tV) (keep raw:Bool) (m:Nat) (st:St) (x:aJ) (hx:x= .ret∨x= .normal):Ft ⟨nt,body,res,keep,raw⟩ m x st=Cz keep raw m st.heap (fc st res):=by
 have hk: ∀vs:List V,(if keep=true then fq raw st.heap m vs else [])=br keep (fq raw st.heap m vs) []:=fun vs=>by cases keep<;>rfl
 have:Ft ⟨nt,body,res,keep,raw⟩ m x st=Ft ⟨nt,body,res,keep,raw⟩ m .ret st:=by rcases hx with rfl|rfl<;>rfl
 rw [this]
 simp only [Ft,eD,Cz,Py,Du,hk,u3]
 cases fc st res with
 |none=>rfl
 |some vs=>
  dsimp only
  cases kV st.heap m (br keep (fq raw st.heap m vs) []) vs with
  |none=>rfl
  |some vs'=>
   cases jZ st.heap m (br keep (fq raw st.heap m vs) []) (List.range m++(br keep (fq raw st.heap m vs) [])) with
   |none=>rfl
   |some bs=>by_cases h1:m≤1000<;>cases raw<;>simp [h1,br]
theorem N5 (nt:Nat) (body:aB) (res:List tV) (keep raw:Bool) (m:Nat) (st:St):Ft ⟨nt,body,res,keep,raw⟩ m .ret st=Cz keep raw m st.heap (fc st res):=Hj _ _ _ _ _ _ _ _ (.inl rfl)
theorem Cs (nt:Nat) (body:aB) (res:List tV) (keep raw:Bool) (m:Nat) (st:St):Ft ⟨nt,body,res,keep,raw⟩ m .normal st=Cz keep raw m st.heap (fc st res):=Hj _ _ _ _ _ _ _ _ (.inr rfl)
theorem Kk (keep raw:Bool) (m:Nat) (vs:List V):Cz keep raw m h (some vs)=Py raw m (kV h m (br keep (fq raw h m vs) []) vs) (jZ h m (br keep (fq raw h m vs) []) (List.range m++(br keep (fq raw h m vs) []))):=rfl
theorem Ih (raw:Bool) (m:Nat) (vs:List V) (bs:List Blk):Py raw m (some vs) (some bs)=br (Nat.ble m 1000) (some ((Ay vs).czR,br raw bs (bs.map Blk.cz))) none:=rfl
def rs1:Option V→Option (List V)→Option (List V)
 |some v,some vs=>some (v::vs)
 |_,_=>none
theorem Oo (st:St):fc st []=some []:=rfl
theorem If (st:St) (r:tV) (rs:List tV):fc st (r::rs)=rs1 (s6 st r) (fc st rs):=by
 simp only [fc,rs1]
 cases s6 st r<;>cases fc st rs<;>rfl
theorem L0 (v:V) (vs:List V):rs1 (some v) (some vs)=some (v::vs):=rfl
theorem S5 (st:St) (t:Nat):s6 st (.tmp t)=some (st.get t):=rfl
theorem MN (st:St) (t:Nat) (g:Option Nat):s6 st (.cell t g)=mo g st.heap (st.get t):=rfl
def Zl:Option V→Option (List V)→Option (List V)
 |some v,some vs=>some (v::vs)
 |_,_=>none
theorem HV (m:Nat) (kp:List Nat):kV h m kp []=some []:=rfl
theorem G4 (m:Nat) (kp:List Nat) (v:V) (r:List V):kV h m kp (v::r)=rs1 (pD h m kp v) (kV h m kp r):=by
 simp only [kV,rs1]
 cases pD h m kp v<;>cases kV h m kp r<;>rfl
theorem Jw (m:Nat) (kp:List Nat):kU h m kp []=some []:=rfl
theorem yr (m:Nat) (kp:List Nat) (v:V) (r:List V):kU h m kp (v::r)=rs1 (gU h m kp v) (kU h m kp r):=by
 simp only [kU,rs1]
 cases gU h m kp v<;>cases kU h m kp r<;>rfl
def fag:Option (List V)→Option V
 |some cs=>some (.agg cs)
 |none=>none
theorem Oz (m:Nat) (kp:List Nat) (cs:List V):pD h m kp (.agg cs)=fag (kU h m kp cs):=by
 simp only [pD,fag]
 cases kU h m kp cs<;>rfl
theorem OO (cs:List V):fag (some cs)=some (.agg cs):=rfl
theorem Mj (m:Nat) (kp:List Nat) (v:Value):pD h m kp (.lit v)=some (.lit v):=rfl
theorem Od (m:Nat) (kp:List Nat) (q:Nat) (r:List (List V)):pD h m kp (.imm q r)=some (.imm q r):=rfl
theorem FR (m:Nat) (kp:List Nat):pD h m kp .undef=some .undef:=rfl
theorem Pm (m:Nat) (kp:List Nat) (f:FuncId):pD h m kp (.fn f [])=some (.fn f []):=rfl
theorem Mk (m:Nat) (kp:List Nat) (v:Value):gU h m kp (.lit v)=some (.lit v):=rfl
theorem O7 (m:Nat) (kp:List Nat) (q:Nat) (r:List (List V)):gU h m kp (.imm q r)=some (.imm q r):=rfl
theorem R8 (m:Nat) (kp:List Nat) (f:FuncId):gU h m kp (.fn f [])=some (.fn f []):=rfl
theorem Fw (m:Nat) (kp:List Nat):gU h m kp .undef=some .undef:=rfl
def PU:Option (V×List Nat)→Option V
 |some (v,_)=>some v
 |none=>none
def fcO (h:ak) (m:Nat) (kp:List Nat) (b s q:Nat):Option V:=br (Nat.blt b m) (some (.sl b s q)) (br (kp.contains b) (some (.sl (m+dZ b kp) s q)) (PU (gN h (.sl b s q))))
theorem xG (m:Nat) (kp:List Nat) (b s q:Nat):gU h m kp (.sl b s q)=fcO h m kp b s q:=by
 simp only [gU,fcO,pE,PU]
 by_cases h1:b<m
 ·simp [h1,br]
 ·by_cases h2:b∈kp
  ·simp [h1,h2,br]
  ·have:kp.contains b=false:=by simpa using h2
   simp only [h1,h2,this,if_false,decide_false,aC]
   cases gN h (.sl b s q)<;>rfl
theorem Lj (m:Nat) (kp:List Nat) (b s q:Nat):pD h m kp (.sl b s q)=fcO h m kp b s q:=xG m kp b s q
theorem WQ (m:Nat) (kp:List Nat) (b s q:Nat):fcO h m kp b s q=br (Nat.blt b m) (some (.sl b s q)) (br (kp.contains b) (some (.sl (m+dZ b kp) s q)) (PU (gN h (.sl b s q)))):=rfl
theorem JA (v:V) (bs:List Nat):PU (some (v,bs))=some v:=rfl
def fcP (m:Nat) (kp:List Nat) (b i o q:Nat):Option V:=br (Nat.blt b m) (some (.ptr b i o q)) (br (kp.contains b) (some (.ptr (m+dZ b kp) i o q)) none)
theorem yJ (m:Nat) (kp:List Nat) (b i o q:Nat):gU h m kp (.ptr b i o q)=fcP m kp b i o q:=by
 simp only [gU,fcP,pE]
 by_cases h1:b<m
 ·simp [h1,br]
 ·by_cases h2:b∈kp
  ·simp [h1,h2,br]
  ·have:kp.contains b=false:=by simpa using h2
   simp [h1,h2,this,br]
theorem Mq (m:Nat) (kp:List Nat) (b i o q:Nat):pD h m kp (.ptr b i o q)=fcP m kp b i o q:=yJ (h:=h) m kp b i o q
theorem U7 (m:Nat) (kp:List Nat) (b i o q:Nat):fcP m kp b i o q=br (Nat.blt b m) (some (.ptr b i o q)) (br (kp.contains b) (some (.ptr (m+dZ b kp) i o q)) none):=rfl
def fb2:Option Blk→Option (List Blk)→Option (List Blk)
 |some k,some r=>some (k::r)
 |_,_=>none
def fb1 (h:ak) (m:Nat) (kp r:List Nat):Option Blk→Option (List Blk)
 |some k=>fb2 (xP h m kp k) (jZ h m kp r)
 |none=>none
theorem HA (m:Nat) (kp:List Nat):jZ h m kp []=some []:=rfl
theorem EY (m:Nat) (kp:List Nat) (b:Nat) (r:List Nat):jZ h m kp (b::r)=fb1 h m kp r (h b):=by
 simp only [jZ,fb1,fb2]
 cases h b with
 |none=>rfl
 |some k=>dsimp only;cases xP h m kp k<;>cases jZ h m kp r<;>rfl
theorem Ll (m:Nat) (kp r:List Nat) (k:Blk):fb1 h m kp r (some k)=fb2 (xP h m kp k) (jZ h m kp r):=rfl
theorem On (k:Blk) (r:List Blk):fb2 (some k) (some r)=some (k::r):=rfl
theorem QH (m:Nat) (kp:List Nat) (q:Nat) (r:List (List V)):xP h m kp ⟨q,false,r⟩=some ⟨q,false,r⟩:=rfl
def fbO (q:Nat):Option (List V)→Option Blk
 |some row=>some ⟨q,true,[row]⟩
 |none=>none
theorem JM (m:Nat) (kp:List Nat):nh h m kp []=some []:=rfl
theorem lZ (m:Nat) (kp:List Nat) (v:V) (r:List V):nh h m kp (v::r)=rs1 (rL h m kp v) (nh h m kp r):=by
 simp only [nh,rs1]
 cases rL h m kp v<;>cases nh h m kp r<;>rfl
def fnR (f:FuncId):Option (List V)→Option V
 |some cs=>some (.fn f cs)
 |none=>none
theorem MI (f:FuncId) (cs:List V):fnR f (some cs)=some (.fn f cs):=rfl
theorem No (m:Nat) (kp:List Nat) (f:FuncId):rL h m kp (.fn f [])=some (.fn f []):=rfl
theorem Q7 (m:Nat) (kp:List Nat) (f:FuncId) (c:V) (cs:List V):rL h m kp (.fn f (c::cs))=fnR f (kU h m kp (c::cs)):=by
 simp only [rL,fnR]
 cases kU h m kp (c::cs)<;>rfl
theorem Nz (m:Nat) (kp:List Nat) (v:Value):rL h m kp (.lit v)=some (.lit v):=rfl
theorem OW (m:Nat) (kp:List Nat) (q:Nat) (r:List (List V)):rL h m kp (.imm q r)=some (.imm q r):=rfl
theorem EM (m:Nat) (kp:List Nat):rL h m kp .undef=some .undef:=rfl
theorem Jl (m:Nat) (kp:List Nat) (r:List V) (o:Nat):rL h m kp (.iptr r o)=some (.iptr r o):=rfl
theorem M0 (m:Nat) (kp:List Nat) (b s q:Nat):rL h m kp (.sl b s q)=fcO h m kp b s q:=xG m kp b s q
theorem O8 (m:Nat) (kp:List Nat) (b i o q:Nat):rL h m kp (.ptr b i o q)=fcP m kp b i o q:=yJ (h:=h) m kp b i o q
theorem Rb (m:Nat) (kp:List Nat) (q:Nat) (row:List V):xP h m kp ⟨q,true,[row]⟩=fbO q (nh h m kp row):=by
 simp only [xP,jE,fbO]
 cases nh h m kp row<;>rfl
theorem Ko (q:Nat) (row:List V):fbO q (some row)=some ⟨q,true,[row]⟩:=rfl
theorem M1 (t u:Nat) (v:V) (r:List (Nat×V)) (m:List (Nat×Blk)):St.get ⟨(u,v)::r,m⟩ t=if u=t then v else St.get ⟨r,m⟩ t:=by
 simp only [St.get,bt]
 split<;>rfl
theorem SE (t:Nat) (m:List (Nat×Blk)):St.get ⟨[],m⟩ t= .undef:=rfl
theorem Im (b c:Nat) (k:Blk) (r:List (Nat×Blk)) (x:List (Nat×V)):St.heap ⟨x,(c,k)::r⟩ b=if c=b then some k else St.heap ⟨x,r⟩ b:=rfl
theorem MM (b:Nat) (x:List (Nat×V)):St.heap ⟨x,[]⟩ b=none:=rfl
theorem OJ (x:List (Nat×V)) (m:List (Nat×Blk)) (d:Nat) (v:V):St.put ⟨x,m⟩ (some d) v=⟨(d,v)::x,m⟩:=rfl
theorem Mr (st:St) (v:V):st.put none v=st:=rfl
theorem TW (x:List (Nat×V)) (m:List (Nat×Blk)) (u:Upd):St.upd ⟨x,m⟩ u=⟨x,Cl m u⟩:=rfl
theorem QF (st:St):st.upd []=st:=rfl
theorem L4 (m:List (Nat×Blk)):Cl m []=m:=rfl
theorem JD (m:List (Nat×Blk)) (b:Nat) (k:Blk) (r:Upd):Cl m ((b,k)::r)=Cl (dj b k m) r:=rfl
theorem L9 {β:Type} (k:Nat) (v:β):dj k v []=[(k,v)]:=rfl
theorem JQ {β:Type} (k j:Nat) (v u:β) (r:List (Nat×β)):dj k v ((j,u)::r)=if j=k then (j,v)::r else (j,u)::dj k v r:=rfl
theorem Z2 (st:St) (t:Nat):st.ev (.t t)=st.get t:=rfl
theorem YU (st:St) (v:Value):st.ev (.c v)= .lit v:=rfl
theorem YV (st:St) (f:FuncId):st.ev (.f f)= .fn f []:=rfl
theorem Sx (live:List Nat) (x:List (Nat×V)) (m:List (Nat×Blk)):trim live ⟨x,m⟩=⟨live.map fun t=>(t,St.get ⟨x,m⟩ t),m⟩:=rfl
theorem FD {β:Type} (n:Nat):ij n ([]:List β)=[]:=rfl
theorem Co {β:Type} (n:Nat) (x:β) (r:List β):ij n (x::r)=(n,x)::ij (n+1) r:=rfl
theorem start_eq (a:List V) (b:List Blk):start a b=⟨ij 0 a,ij 0 b⟩:=rfl
theorem Dp:da ev []=[]:=rfl
theorem Av (a b:Nat) (x:Opd) (r:List (Nat×Nat×Opd)):da ev ((a,b,x)::r)=(a,b,ev x)::da ev r:=rfl
theorem IF (cs:List V):vH cs []=some cs:=rfl
theorem FF (cs:List V) (off size:Nat) (v:V) (r:List (Nat×Nat×V)):vH cs ((off,size,v)::r)=br (Nat.beq v.cells.length size&&Nat.ble (off+size) cs.length&&v.cells.all V.cell) (vH (cs.take off++(v.cells++cs.drop (off+size))) r) none:=rfl
theorem IS (m:Nat) (r:List (List V)):uu m r []=some r:=rfl
theorem Fm (m:Nat) (rows:List (List V)) (i:Nat) (v:V) (r:List (Nat×V)):uu m rows ((i,v)::r)=br (Nat.beq v.cells.length m&&(Nat.blt i rows.length&&v.cells.all V.cell)) (uu m (rows.set i v.cells) r) none:=rfl
theorem Hx (cs:List V):(V.agg cs).cells=cs:=rfl
theorem Ab (v:Value):(V.lit v).cells=[.lit v]:=rfl
theorem Jp (m:Nat) (r:List (List V)):(V.imm m r).cells=[.imm m r]:=rfl
theorem Kd (b s q:Nat):(V.sl b s q).cells=[.sl b s q]:=rfl
theorem K5 (b i o m:Nat):(V.ptr b i o m).cells=[.ptr b i o m]:=rfl
theorem G9 (r:List V) (o:Nat):(V.iptr r o).cells=[.iptr r o]:=rfl
theorem LK (f:FuncId) (cs:List V):(V.fn f cs).cells=[.fn f cs]:=rfl
theorem Do (k:IntKind) (a:Int):(V.lit (.int k a)).cell=true:=rfl
theorem Iv (a:Bool):(V.lit (.bool a)).cell=true:=rfl
theorem Oq (a:ByteArray):(V.lit (.string a)).cell=true:=rfl
theorem OK (a:Option Addr) (n m:Nat):(V.lit (.slice a n m)).cell=true:=rfl
theorem Ns (m:Nat) (r:List (List V)):(V.imm m r).cell=true:=rfl
theorem KA (b s q:Nat):(V.sl b s q).cell=true:=rfl
theorem Nv (b i o m:Nat):(V.ptr b i o m).cell=true:=rfl
theorem JC (r:List V) (o:Nat):(V.iptr r o).cell=true:=rfl
theorem QD (f:FuncId) (cs:List V):(V.fn f cs).cell=true:=rfl
theorem S7 (k:IntKind) (a:Int):aN (.int k a)=true:=rfl
theorem O4 (a:Bool):aN (.bool a)=true:=rfl
theorem QR (a:ByteArray):aN (.string a)=true:=rfl
theorem Ru (a:Option Addr) (n m:Nat):aN (.slice a n m)=true:=rfl
theorem Rx (a:Option Addr):aN (.pointer a)=true:=rfl
theorem II:de []=[]:=rfl
theorem FX (b:Nat) (r:List Nat):de (b::r)=(b,gX)::de r:=rfl
theorem PN (ids:List Nat):gp ids []=[]:=by cases ids<;>rfl
theorem LA (i:Nat) (ids:List Nat) (k:Blk) (r:List Blk):gp (i::ids) (k::r)=(i,k)::gp ids r:=rfl
theorem MD (b x:Nat) (r:List Nat):dZ b (x::r)=if x=b then 0 else dZ b r+1:=rfl
theorem Gx (b:Nat):cu [] b=[b]:=rfl
theorem Kf (ids:List Nat) (b:Nat):cu ids b=br (ids.contains b) ids (ids++[b]):=by
 unfold cu
 by_cases h:b∈ids<;>simp [h,br]
theorem WL:List.range 1=[0]:=rfl
theorem WJ:List.range 2=[0,1]:=rfl
theorem Wb:List.range 3=[0,1,2]:=rfl
theorem Vd:List.range 4=[0,1,2,3]:=rfl
theorem Oi (v:V):Ay [v]=v:=rfl
theorem Mm:Ay []= .tup []:=rfl
theorem M4 (a b:V) (r:List V):Ay (a::b::r)= .tup (a::b::r):=rfl
theorem ES (o:List Nat) (a:List V):jx o a=br (o.contains 1000) a (a.map V.czA):=by
 unfold jx;cases o.contains 1000<;>rfl
theorem EH (o:List Nat) (a:List Blk):jI o a=br (o.contains 1000) a (a.map Blk.cz):=by
 unfold jI;cases o.contains 1000<;>rfl
theorem Jk (a:Nat) (r:List Nat):(a::r).getD 0 0=a:=rfl
theorem HQ (a n:Nat) (r:List Nat):(a::r).getD (n+1) 0=r.getD n 0:=rfl
def FB (st:St) (bs:List Nat):St:={ e:=yf (fzA st.heap bs) st.e,m:=fzM st.heap bs st.m }
theorem NW (st:St) (bs:List Nat):ba st (.close bs)=br (bs.all (fun b=>Nat.ble 1000 b)) (some (FB st bs)) none:=by
 simp only [ba,FB,u3]
 cases bs.all (fun b=>decide (1000≤b))<;>rfl
theorem Kn (x:List (Nat×V)) (m:List (Nat×Blk)) (bs:List Nat):FB ⟨x,m⟩ bs=⟨yf (fzA (St.heap ⟨x,m⟩) bs) x,fzM (St.heap ⟨x,m⟩) bs m⟩:=rfl
theorem L2 (g:V→V):yf g []=[]:=rfl
theorem K7 (g:V→V) (t:Nat) (v:V) (r:List (Nat×V)):yf g ((t,v)::r)=(t,g v)::yf g r:=rfl
variable {bs:List Nat}
theorem Ur (v:Value):fzA h bs (.lit v)= .lit v:=rfl
theorem Wc (m:Nat) (r:List (List V)):fzA h bs (.imm m r)= .imm m r:=rfl
theorem PL (r:List V) (o:Nat):fzA h bs (.iptr r o)= .iptr r o:=rfl
theorem Lt:fzA h bs .undef= .undef:=rfl
theorem Uq (vs:List V):fzA h bs (.tup vs)= .undef:=rfl
def fzO:Option (V×List Nat)→V
 |some (v,_)=>v.cz
 |none=> .undef
theorem P1 (b s q:Nat):fzA h bs (.sl b s q)=br (bs.contains b) (fzO (gN h (.sl b s q))) (.sl b s q):=by
 simp only [fzA,fzC,fzO]
 by_cases hb:b∈bs
 ·simp [hb,br];cases gN h (.sl b s q)<;>rfl
 ·simp [hb,br]
theorem N2 (b i o m:Nat):fzA h bs (.ptr b i o m)=br (bs.contains b) .undef (.ptr b i o m):=by
 simp only [fzA,fzC]
 by_cases hb:b∈bs<;>simp [hb,br]
theorem Ow (v:V) (b:List Nat):fzO (some (v,b))=v.cz:=rfl
theorem Ws (cs:List V):fzA h bs (.agg cs)=br ((cs.map (fzC h bs)).all V.cell) (.agg (cs.map (fzC h bs))) .undef:=by
 simp only [fzA]
 cases (cs.map (fzC h bs)).all V.cell<;>rfl
theorem To (f:FuncId) (cs:List V):fzA h bs (.fn f cs)=br (cs.all okC&& !(cs.flatMap iS).any (fun b=>bs.contains b)) (.fn f cs) .undef:=by
 simp only [fzA,fzC]
 have:(fun b=>decide (b∈bs))=fun b=>bs.contains b:=by funext b;simp [Bool.eq_iff_iff]
 rw [this]
 cases (cs.all okC&& !(cs.flatMap iS).any (fun b=>bs.contains b))<;>rfl
theorem Sz (v:Value):fzC h bs (.lit v)= .lit v:=rfl
theorem RF (m:Nat) (r:List (List V)):fzC h bs (.imm m r)= .imm m r:=rfl
theorem Wx (f:FuncId) (cs:List V):fzC h bs (.fn f cs)=br (cs.all okC&& !(cs.flatMap iS).any (fun b=>bs.contains b)) (.fn f cs) .undef:=To (h:=h) f cs
theorem SK (b i o m:Nat):okC (.ptr b i o m)=true:=rfl
theorem Qj (b s q:Nat):okC (.sl b s q)=true:=rfl
theorem QK (v:Value):okC (.lit v)=true:=rfl
theorem Qg (m:Nat) (r:List (List V)):okC (.imm m r)=true:=rfl
theorem WI (f:FuncId):okC (.fn f [])=true:=rfl
theorem LP (r:List V) (o:Nat):fzC h bs (.iptr r o)= .iptr r o:=rfl
theorem Qz (b s q:Nat):fzC h bs (.sl b s q)=br (bs.contains b) (fzO (gN h (.sl b s q))) (.sl b s q):=P1 b s q
theorem Rd (b i o m:Nat):fzC h bs (.ptr b i o m)=br (bs.contains b) .undef (.ptr b i o m):=N2 (h:=h) b i o m
theorem T7:fzM h bs []=[]:=rfl
def fzK (h:ak) (bs:List Nat) (k:Blk):Blk:=if k.op then (if (k.rows.map (·.map (fzC h bs))).all (·.all V.cell) then { k with rows:=k.rows.map (·.map (fzC h bs)) } else gX) else k
theorem P8 (b:Nat) (k:Blk) (r:List (Nat×Blk)):fzM h bs ((b,k)::r)=br (bs.contains b) (fzM h bs r) ((b,fzK h bs k)::fzM h bs r):=by
 simp only [fzM,fzK]
 by_cases hb:b∈bs<;>simp [hb,br]
theorem VZ (m:Nat) (r:List (List V)):fzK h bs ⟨m,false,r⟩=⟨m,false,r⟩:=rfl
theorem U1 (m:Nat) (row:List V):fzK h bs ⟨m,true,[row]⟩=br ((row.map (fzC h bs)).all V.cell) ⟨m,true,[row.map (fzC h bs)]⟩ gX:=by
 simp only [fzK,List.map_cons,List.map_nil,List.all_cons,List.all_nil,Bool.and_true,if_true]
 cases (row.map (fzC h bs)).all V.cell<;>rfl
section
variable {R:Type} {T:Tab} {ow:bB} {k:aJ→St→Option R} {d:Option Nat} {n:Nat} {ss:List aQ} {live:List Nat} {K:List Fr} {st:St} {base i:Nat} {deps:List (List Nat)} {rs:List Rec} {fp:List Nat} {r:R}
theorem uk {fl ro:Bool} {h:ak} {new:Nat} {ids bor:List Nat} {x:Option (V×List Blk)} {p:V×List Blk} (hx:x=some p) (hr:aft T ow k d n ss live K st (vr fl ro h new ids bor (some p))=some r):aft T ow k d n ss live K st (vr fl ro h new ids bor x)=some r:=by
 rw [hx];exact hr
theorem is {fl ro:Bool} {h:ak} {new:Nat} {ids bor:List Nat} {x:Option (V×List Blk)} {p:V×List Blk} (hx:x=some p) (hr:vJ T ow k d base i ss deps live rs K st fp (vr fl ro h new ids bor (some p))=some r):vJ T ow k d base i ss deps live rs K st fp (vr fl ro h new ids bor x)=some r:=by
 rw [hx];exact hr
theorem XY (b:Int):nn b=decide (0≤b):=rfl
theorem Yb (b:Int):nz b=decide (b≠0):=rfl
theorem Vo (i:Int) (n:Nat):inb i n=(decide (0≤i)&&decide (i.toNat<n)):=rfl
end
end
section
variable {ow:bB} {ev:Opd→V} {h:ak} {α:Type} {e:En α} {l:List α}
theorem Y9 (x:Opd):cL ow (.mv x) ev h=[]:=rfl
theorem Xt (x:Opd):(AOp.mv x).opds=[x]:=rfl
theorem Qo (c a b:Opd):cL ow (.pick c a b) ev h=((AOp.pick c a b).opds.map ev).flatMap cw:=rfl
theorem Pu (c a b:Opd):(AOp.pick c a b).opds=[c,a,b]:=rfl
theorem Oy (z:List Value):cL ow (.alloc z) ev h=((AOp.alloc z).opds.map ev).flatMap cw:=rfl
theorem KF (z:List Value):(AOp.alloc z).opds=[]:=rfl
theorem U9 (m:Nat) (x:Opd):cL ow (.box m x) ev h=((AOp.box m x).opds.map ev).flatMap cw:=rfl
theorem W1 (m:Nat) (x:Opd):(AOp.box m x).opds=[x]:=rfl
theorem CV (z:List Value) (ps:List (Nat×Nat×Opd)):cL ow (.build z ps) ev h=((AOp.build z ps).opds.map ev).flatMap cw:=rfl
theorem DV (z:List Value) (ps:List (Nat×Nat×Opd)):(AOp.build z ps).opds=ps.map (·.2.2):=rfl
theorem zj (m:Nat) (z:List Value) (l:Nat) (ps:List (Nat×Opd)):cL ow (.buildSlice m z l ps) ev h=((AOp.buildSlice m z l ps).opds.map ev).flatMap cw:=rfl
theorem zy (m:Nat) (z:List Value) (l:Nat) (ps:List (Nat×Opd)):(AOp.buildSlice m z l ps).opds=ps.map (·.2):=rfl
theorem SW (g:Option Nat) (x:Opd):cL ow (.load g x) ev h=((AOp.load g x).opds.map ev).flatMap cw:=rfl
theorem SD (g:Option Nat) (x:Opd):(AOp.load g x).opds=[x]:=rfl
theorem P6 (m:Nat) (x y:Opd):cL ow (.store m x y) ev h=((AOp.store m x y).opds.map ev).flatMap cw:=rfl
theorem OA (m:Nat) (x y:Opd):(AOp.store m x y).opds=[x,y]:=rfl
theorem Ec (x:Opd):cL ow (.nilCheck x) ev h=((AOp.nilCheck x).opds.map ev).flatMap cw:=rfl
theorem Cr (x:Opd):(AOp.nilCheck x).opds=[x]:=rfl
theorem Vx (op:BinOp) (x y:Opd):cL ow (.bin op x y) ev h=((AOp.bin op x y).opds.map ev).flatMap cw:=rfl
theorem WT (op:BinOp) (x y:Opd):(AOp.bin op x y).opds=[x,y]:=rfl
theorem OU (b:Bool) (ks:List Bool) (x y:Opd):cL ow (.eqAgg b ks x y) ev h=((AOp.eqAgg b ks x y).opds.map ev).flatMap cw:=rfl
theorem Ol (b:Bool) (ks:List Bool) (x y:Opd):(AOp.eqAgg b ks x y).opds=[x,y]:=rfl
theorem TQ (b:Bool) (x y:Opd):cL ow (.beq b x y) ev h=((AOp.beq b x y).opds.map ev).flatMap cw:=rfl
theorem VC (b:Bool) (x y:Opd):(AOp.beq b x y).opds=[x,y]:=rfl
theorem Yp (op:UnOp) (x:Opd):cL ow (.un op x) ev h=((AOp.un op x).opds.map ev).flatMap cw:=rfl
theorem YA (op:UnOp) (x:Opd):(AOp.un op x).opds=[x]:=rfl
theorem Mg (k:IntKind) (x:Opd):cL ow (.toInt k x) ev h=((AOp.toInt k x).opds.map ev).flatMap cw:=rfl
theorem Md (k:IntKind) (x:Opd):(AOp.toInt k x).opds=[x]:=rfl
theorem Sv (x:Opd):cL ow (.same x) ev h=((AOp.same x).opds.map ev).flatMap cw:=rfl
theorem Rz (x:Opd):(AOp.same x).opds=[x]:=rfl
theorem FE (x:Opd):cL ow (.toBytes x) ev h=((AOp.toBytes x).opds.map ev).flatMap cw:=rfl
theorem EG (x:Opd):(AOp.toBytes x).opds=[x]:=rfl
theorem Mw (x:Opd):cL ow (.toStr x) ev h=((AOp.toStr x).opds.map ev).flatMap cw:=rfl
theorem Lh (x:Opd):(AOp.toStr x).opds=[x]:=rfl
theorem DF (f:FuncId) (cs:List Opd):cL ow (.makeFunc f cs) ev h=[]:=rfl
theorem CN (f:FuncId) (cs:List Opd):(AOp.makeFunc f cs).opds=cs:=rfl
theorem Ag (m b:Nat) (z:List Value) (x y:Opd):cL ow (.makeSlice m b z x y) ev h=((AOp.makeSlice m b z x y).opds.map ev).flatMap cw:=rfl
theorem Az (m b:Nat) (z:List Value) (x y:Opd):(AOp.makeSlice m b z x y).opds=[x,y]:=rfl
theorem E6 (x:Opd) (lo hi:Option Opd):cL ow (.sliceStr x lo hi) ev h=((AOp.sliceStr x lo hi).opds.map ev).flatMap cw:=rfl
theorem DM (x:Opd) (lo hi:Option Opd):(AOp.sliceStr x lo hi).opds=x::(ub lo++ub hi):=rfl
theorem Kr (m:Nat) (x:Opd) (lo hi mx:Option Opd):cL ow (.slice m x lo hi mx) ev h=((AOp.slice m x lo hi mx).opds.map ev).flatMap cw:=rfl
theorem N4 (m:Nat) (x:Opd) (lo hi mx:Option Opd):(AOp.slice m x lo hi mx).opds=x::(ub lo++(ub hi++ub mx)):=rfl
theorem Tv (m:Nat) (x:Opd):cL ow (.off m x) ev h=[]:=rfl
theorem UT (m:Nat) (x:Opd):(AOp.off m x).opds=[x]:=rfl
theorem La (m:Nat) (g:Option Nat) (x:Opd):cL ow (.field m g x) ev h=((AOp.field m g x).opds.map ev).flatMap cw:=rfl
theorem Lu (m:Nat) (g:Option Nat) (x:Opd):(AOp.field m g x).opds=[x]:=rfl
theorem Us (m:Nat) (x y:Opd):cL ow (.idx m x y) ev h=((AOp.idx m x y).opds.map ev).flatMap cw:=rfl
theorem Ui (m:Nat) (x y:Opd):(AOp.idx m x y).opds=[x,y]:=rfl
theorem Ik (m q:Nat) (x y:Opd):cL ow (.idxArr m q x y) ev h=((AOp.idxArr m q x y).opds.map ev).flatMap cw:=rfl
theorem Km (m q:Nat) (x y:Opd):(AOp.idxArr m q x y).opds=[x,y]:=rfl
theorem LU (x y:Opd):cL ow (.ixStr x y) ev h=((AOp.ixStr x y).opds.map ev).flatMap cw:=rfl
theorem KW (x y:Opd):(AOp.ixStr x y).opds=[x,y]:=rfl
theorem Nn (m q:Nat) (g:Option Nat) (x y:Opd):cL ow (.ixAgg m q g x y) ev h=((AOp.ixAgg m q g x y).opds.map ev).flatMap cw:=rfl
theorem Ku (m q:Nat) (g:Option Nat) (x y:Opd):(AOp.ixAgg m q g x y).opds=[x,y]:=rfl
theorem UL (x:Opd) (i:Nat):cL ow (.ext x i) ev h=[]:=rfl
theorem Uu (x:Opd) (i:Nat):(AOp.ext x i).opds=[x]:=rfl
theorem Vq (b:Bool) (x:Opd):cL ow (.len b x) ev h=[]:=rfl
theorem UW (b:Bool) (x:Opd):(AOp.len b x).opds=[x]:=rfl
theorem Iw (m:Nat) (x:Opd):cL ow (.lenArr m x) ev h=((AOp.lenArr m x).opds.map ev).flatMap cw:=rfl
theorem Jh (m:Nat) (x:Opd):(AOp.lenArr m x).opds=[x]:=rfl
theorem Fg (m b:Nat) (z:List Value) (x y:Opd):cL ow (.appendN m b z x y) ev h=((AOp.appendN m b z x y).opds.map ev).flatMap cw:=rfl
theorem Fh (m b:Nat) (z:List Value) (x y:Opd):(AOp.appendN m b z x y).opds=[x,y]:=rfl
theorem NE (b:Bool) (x:Opd):cL ow (.isNil b x) ev h=((AOp.isNil b x).opds.map ev).flatMap cw:=rfl
theorem LH (b:Bool) (x:Opd):(AOp.isNil b x).opds=[x]:=rfl
theorem HS (m b:Nat) (z:List Value) (x y:Opd):cL ow (.append m b z x y) ev h=((AOp.append m b z x y).opds.map ev).flatMap cw:=rfl
theorem HL (m b:Nat) (z:List Value) (x y:Opd):(AOp.append m b z x y).opds=[x,y]:=rfl
theorem Q3 (m:Nat) (x y:Opd):cL ow (.copy m x y) ev h=((AOp.copy m x y).opds.map ev).flatMap cw:=rfl
theorem T4 (m:Nat) (x y:Opd):(AOp.copy m x y).opds=[x,y]:=rfl
theorem Q5 (x y:Opd):cL ow (.max2 x y) ev h=((AOp.max2 x y).opds.map ev).flatMap cw:=rfl
theorem Pi (x y:Opd):(AOp.max2 x y).opds=[x,y]:=rfl
theorem Pv (x y:Opd):cL ow (.min2 x y) ev h=((AOp.min2 x y).opds.map ev).flatMap cw:=rfl
theorem SM (x y:Opd):(AOp.min2 x y).opds=[x,y]:=rfl
theorem CX (x:Opd):cL ow (.bytesOwn x) ev h=((AOp.bytesOwn x).opds.map ev).flatMap cw:=rfl
theorem D3 (x:Opd):(AOp.bytesOwn x).opds=[x]:=rfl
theorem MZ (m:Nat) (x:Opd):cL ow (.arrOf m x) ev h=((AOp.arrOf m x).opds.map ev).flatMap cw:=rfl
theorem Nr (m:Nat) (x:Opd):(AOp.arrOf m x).opds=[x]:=rfl
theorem UV (x:Opd):ub (some x)=[x]:=rfl
theorem UU:ub none=[]:=rfl
def fpC:Option (List V×List Blk×List Nat×List Nat)→List Nat
 |some (_,_,ids,bor)=>ids++bor
 |none=>[]
theorem NH (a:List V) (b:List Blk) (ids bor:List Nat):fpC (some (a,b,ids,bor))=ids++bor:=rfl
theorem Rk (f:FuncId) (args:List Opd):cL ow (.call f args) ev h=fpC (bQ ow h f (args.map ev)):=by
 show uF ow h f (args.map ev)=_
 unfold uF fpC
 cases bQ ow h f (args.map ev)<;>rfl
def fpD (ow:bB) (h:ak) (args:List V):V→List Nat
 | .fn k caps=>fpC (bQ ow h k (args++caps))
 |_=>[]
theorem Vm (f:Opd) (args:List Opd):cL ow (.dyn f args) ev h=fpD ow h (args.map ev) (ev f):=by
 show (match ev f with
  | .fn k caps=>uF ow h k (args.map ev++caps)
  |_=>[])=_
 cases ev f<;>first|rfl| (simp only [fpD,uF,fpC];cases bQ ow h _ _<;>rfl)
theorem WC (args:List V) (k:FuncId) (caps:List V):fpD ow h args (.fn k caps)=fpC (bQ ow h k (args++caps)):=rfl
theorem Q2 (cs:List V):cw (.agg cs)=cs.flatMap iS:=rfl
theorem Vg (f:FuncId) (cs:List V):cw (.fn f cs)=cs.flatMap iS:=rfl
theorem RX (cs:List V):cw (.tup cs)=cs.flatMap fun| .agg cs=>cs.flatMap iS|v=>iS v:=rfl
theorem PE (v:Value):cw (.lit v)=[]:=rfl
theorem Ri (m:Nat) (r:List (List V)):cw (.imm m r)=[]:=rfl
theorem LY (r:List V) (o:Nat):cw (.iptr r o)=[]:=rfl
theorem RK (b i o m:Nat):cw (.ptr b i o m)=[b]:=rfl
theorem SV (b s q:Nat):cw (.sl b s q)=[b]:=rfl
theorem Jt:cw .undef=[]:=rfl
theorem SS (v:Value):iS (.lit v)=[]:=rfl
theorem RS (m:Nat) (r:List (List V)):iS (.imm m r)=[]:=rfl
theorem Lo (r:List V) (o:Nat):iS (.iptr r o)=[]:=rfl
theorem Rw (b i o m:Nat):iS (.ptr b i o m)=[b]:=rfl
theorem Qx (b s q:Nat):iS (.sl b s q)=[b]:=rfl
theorem Up (f:FuncId) (cs:List V):iS (.fn f cs)=[]:=rfl
theorem HB:iS .undef=[]:=rfl
theorem Ci (fp:List Nat) (b:Nat):iZ h fp b=br (fp.contains b) (h b) none:=by
 unfold iZ
 by_cases hb:b∈fp<;>simp [hb,br]
theorem RL (rs:List Rec) (i:Nat) (fp wr:List Nat):HI rs i fp wr=br (fp.isEmpty&&wr.isEmpty) rs (rs++[⟨i,fp,wr⟩]):=by
 have h:Rec.loud ⟨i,fp,wr⟩= !(fp.isEmpty&&wr.isEmpty):=rfl
 unfold HI
 cases h1:Rec.loud ⟨i,fp,wr⟩ with
 |true=>
  rw [h1] at h
  have h2:(fp.isEmpty&&wr.isEmpty)=false:=by
   cases hx:fp.isEmpty&&wr.isEmpty with
   |false=>rfl
   |true=>rw [hx] at h;cases h
  rw [h2,aC,List.filter_cons_of_pos h1];rfl
 |false=>
  rw [h1] at h
  have h2:(fp.isEmpty&&wr.isEmpty)=true:=by
   cases hx:fp.isEmpty&&wr.isEmpty with
   |true=>rfl
   |false=>rw [hx] at h;cases h
  rw [h2,bC,List.filter_cons_of_neg (by rw [h1];decide)];simp
theorem Ix (deps:List (List Nat)):hU deps []=true:=rfl
theorem EC (deps:List (List Nat)) (p:Rec) (r:List Rec):hU deps (p::r)=(qp deps p r&&hU deps r):=rfl
theorem Qu (deps:List (List Nat)) (p:Rec):qp deps p []=true:=rfl
theorem Lb (deps:List (List Nat)) (i j:Nat) (f g w u:List Nat) (r:List Rec):qp deps ⟨i,f,w⟩ (⟨j,g,u⟩::r)=((w.isEmpty&&u.isEmpty||(deps.getD j []).contains i|| !(w.any (fun b=>decide (b∈g)||decide (b∈u))||u.any (fun b=>decide (b∈f))))&&qp deps ⟨i,f,w⟩ r):=rfl
theorem Gn {β:Type} (a d:β) (r:List β):(a::r).getD 0 d=a:=rfl
theorem Fx {β:Type} (a d:β) (n:Nat) (r:List β):(a::r).getD (n+1) d=r.getD n d:=rfl
theorem RQ (m:Nat) (cs:List V) (n:Nat):Wf m cs h n=br (Nat.beq cs.length m&&cs.all V.cell) (frO (h n) n ⟨m,true,[cs]⟩ (.ptr n 0 0 1)) none:=rfl
theorem ai (x:Int) (h1: -9223372036854775808≤x) (h2:x<9223372036854775808):IntKind.wrap .i64 x=x:=by
 simp [IntKind.wrap,IntKind.bits,IntKind.signed];omega
theorem Nd (x:Int) (h1:0≤x) (h2:x<18446744073709551616):IntKind.wrap .u64 x=x:=by
 simp [IntKind.wrap,IntKind.bits,IntKind.signed];omega
theorem PR (x:Int) (h1:0≤x) (h2:x<256):IntKind.wrap .u8 x=x:=by
 simp [IntKind.wrap,IntKind.bits,IntKind.signed];omega
theorem uZ (n:Nat):(OfNat.ofNat n:Int)=(n:Int):=rfl
theorem N0 (n:Nat) (h:Nat.ble n 9223372036854775807=true):IntKind.wrap .i64 (no_index (OfNat.ofNat n:Int))=OfNat.ofNat n:=by
 have h1:=Nat.le_of_ble_eq_true h
 rw [uZ];exact ai _ (by omega) (by omega)
theorem In (n:Nat) (h:Nat.ble n 18446744073709551615=true):IntKind.wrap .u64 (no_index (OfNat.ofNat n:Int))=OfNat.ofNat n:=by
 have h1:=Nat.le_of_ble_eq_true h
 rw [uZ];exact Nd _ (by omega) (by omega)
theorem IG (n:Nat) (h:Nat.ble n 255=true):IntKind.wrap .u8 (no_index (OfNat.ofNat n:Int))=OfNat.ofNat n:=by
 have h1:=Nat.le_of_ble_eq_true h
 rw [uZ];exact PR _ (by omega) (by omega)
theorem Wn (a b:Nat):(a==b)=decide (a=b):=by
 by_cases h:a=b
 ·subst h;simp
 ·rw [decide_eq_false h];simpa using h
theorem U5:List.range 0=[]:=rfl
theorem Gd (m:Nat) (vs:List V):fq true h m vs=pd m [] ((List.range m).flatMap fun b=>FA (h b)):=rfl
theorem Je (m:Nat) (vs:List V):fq false h m vs=pd m [] (vs.flatMap cw):=rfl
theorem Pe (m:Nat) (row:List V):FA (some ⟨m,true,[row]⟩)=row.flatMap cw:=by simp [FA]
theorem Sf (m:Nat) (r:List (List V)):FA (some ⟨m,false,r⟩)=[]:=rfl
theorem WB:List.range 5=[0,1,2,3,4]:=rfl
theorem WS:List.range 6=[0,1,2,3,4,5]:=rfl
theorem UD:List.range 7=[0,1,2,3,4,5,6]:=rfl
theorem Ue:List.range 8=[0,1,2,3,4,5,6,7]:=rfl
theorem K9 (m:Nat) (acc:List Nat):pd m acc []=acc:=rfl
theorem Gc (m b:Nat) (acc r:List Nat):pd m acc (b::r)=pd m (br (Nat.ble m b) (cu acc b) acc) r:=by
 simp only [pd,u3]
 by_cases h:m≤b<;>simp [h,br]
theorem Jq (n:Nat):Int.toNat (no_index (OfNat.ofNat n:Int))=OfNat.ofNat n:=rfl
end
end Go.AI
