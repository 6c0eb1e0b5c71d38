/- The machine's operations on values of Lean's own types: what writes, what makes, what calls; a function's end. -/
import Derived.Test.YtgjlndaebhaciaaAiTyp2
set_option linter.unusedVariables false
set_option linter.unusedSimpArgs false
namespace Go.AI
section
variable {C:aM} {ow:FuncId→List Nat} {ev:Opd→V} {h:ak} {n:Nat} {α:Type} {e:En α} {l l2:List α}
def snO (k:Option Blk) (b s q:Nat):Option (V×List Nat):=match k with
 |some k=>if k.op=false∧0<k.esz∧s+q=k.rows.length then some (.imm k.esz (k.rows.drop s),[b]) else none
 |none=>none
theorem OJ (b s q:Nat):ic h (.sl b s q)=snO (h b) b s q:=rfl
theorem Xc (m b q:Nat) (h0:Nat.blt 0 m=true) (hq:l.length=q):snO (some ⟨m,false,rws e l⟩) b 0 q=some (.imm m (rws e l),[b]):=by
 rw [ru,decide_eq_true_eq] at h0
 simp [snO,rws,hq,h0]
theorem MK (k:IntKind) (a:Int):ic h (.lit (.int k a))=some (.lit (.int k a),[]):=rfl
theorem Km (a:Bool):ic h (.lit (.bool a))=some (.lit (.bool a),[]):=rfl
theorem MR (a:List UInt8):ic h (S a)=some (S a,[]):=rfl
theorem O8:ic h (.lit (.slice none 0 0))=some (.lit (.slice none 0 0),[]):=rfl
theorem QK (m:Nat) (r:List (List V)):ic h (.imm m r)=some (.imm m r,[]):=rfl
def snC:Option (V×List Nat)→Option (List V×List Nat)→Option (List V×List Nat)
 |some (a,bs),some (r,bs')=>some (a.cz::r,bs++bs')
 |_,_=>none
theorem Ms:gg h []=some ([],[]):=rfl
theorem GE (v:V) (r:List V):gg h (v::r)=snC (ic h v) (gg h r):=by
 simp only [gg,snC]
 cases ic h v<;>cases gg h r<;>rfl
theorem O1 (a:V) (bs:List Nat) (r:List V) (bs':List Nat):snC (some (a,bs)) (some (r,bs'))=some (a.cz::r,bs++bs'):=rfl
theorem Xd (k:IntKind) (a:Int):(V.lit (.int k a)).cz= .lit (.int k a):=rfl
theorem UD (a:Bool):(V.lit (.bool a)).cz= .lit (.bool a):=rfl
theorem XP (a:List UInt8):(S a).cz=S a:=rfl
theorem Zn (a:Array Value):(V.lit (.tuple a)).cz= .lit (.tuple a):=rfl
theorem Xp:(V.lit (.slice none 0 0)).cz= .imm 1 []:=rfl
theorem Y6 (m:Nat):(V.imm m []).cz= .imm 1 []:=rfl
theorem XL (b i o m:Nat):(V.ptr b i o m).cz= .ptr b i o m:=rfl
theorem Yw (b s q:Nat):(V.sl b s q).cz= .sl b s q:=rfl
theorem Vk (r:List V) (o:Nat):(V.iptr r o).cz= .iptr r o:=rfl
theorem a0z (f:FuncId) (cs:List V):(V.fn f cs).cz= .fn f cs:=rfl
theorem Ng:V.undef.cz= .undef:=rfl
theorem V3 (cs:List V):(V.agg cs).czA= .agg (cs.map V.cz):=rfl
theorem TW (k:IntKind) (a:Int):(V.lit (.int k a)).czA= .lit (.int k a):=rfl
theorem OD (a:Bool):(V.lit (.bool a)).czA= .lit (.bool a):=rfl
theorem RY (a:List UInt8):(S a).czA=S a:=rfl
theorem UF:(V.lit (.slice none 0 0)).czA= .imm 1 []:=rfl
theorem UI (m:Nat) (r:List (List V)):(V.imm m r).czA=(V.imm m r).cz:=rfl
theorem UZ (b i o m:Nat):(V.ptr b i o m).czA= .ptr b i o m:=rfl
theorem Uk (b s q:Nat):(V.sl b s q).czA= .sl b s q:=rfl
theorem Ox (r:List V) (o:Nat):(V.iptr r o).czA= .iptr r o:=rfl
theorem Zj (f:FuncId) (cs:List V):(V.fn f cs).czA= .fn f cs:=rfl
theorem M6:V.undef.czA= .undef:=rfl
theorem UN (cs:List V):(V.tup cs).czR= .tup (cs.map V.czA):=rfl
theorem Sl (cs:List V):(V.agg cs).czR= .agg (cs.map V.cz):=rfl
theorem Tj (k:IntKind) (a:Int):(V.lit (.int k a)).czR= .lit (.int k a):=rfl
theorem NB (a:Bool):(V.lit (.bool a)).czR= .lit (.bool a):=rfl
theorem Sg (a:List UInt8):(S a).czR=S a:=rfl
theorem VG:(V.lit (.slice none 0 0)).czR= .imm 1 []:=rfl
theorem U8 (m:Nat) (r:List (List V)):(V.imm m r).czR=(V.imm m r).cz:=rfl
theorem VW (b i o m:Nat):(V.ptr b i o m).czR= .ptr b i o m:=rfl
theorem UR (b s q:Nat):(V.sl b s q).czR= .sl b s q:=rfl
theorem QE (r:List V) (o:Nat):(V.iptr r o).czR= .iptr r o:=rfl
theorem Z6 (f:FuncId) (cs:List V):(V.fn f cs).czR= .fn f cs:=rfl
theorem Ql (m:Nat) (row:List V):Blk.cz ⟨m,true,[row]⟩=⟨m,true,[row.map V.cz]⟩:=rfl
theorem Qk (m:Nat) (r:List (List V)):Blk.cz ⟨m,false,r⟩=⟨m,false,r⟩:=rfl
theorem Xl (k:IntKind) (a:Int):zc (.int k a)= .lit (.int k a):=rfl
theorem Vw (a:Bool):zc (.bool a)= .lit (.bool a):=rfl
theorem ZG (a:List UInt8):zc (.string ⟨⟨a⟩⟩)=S a:=rfl
theorem Zd:zc (.slice none 0 0)= .imm 1 []:=rfl
def stO (k:Option Blk) (b size i o m:Nat) (x:V) (h:ak):Option (V×Upd):=match k with
 |some k=>if k.rows.length=m then (match k.rows[i]? with
  |some row=>
   if k.op then
    (if x.cells.length=size∧o+size≤row.length∧x.cells.all V.cell then
     some (.undef,[(b,{ k with rows:=k.rows.set i (row.take o++(x.cells++row.drop (o+size))) })]) else none)
   else match gg h x.cells with
    |some (cs,bs)=>if cs.length=size∧o+size≤row.length∧ ¬b∈bs then
     some (.undef,dm bs++[(b,{ k with rows:=k.rows.set i (row.take o++(cs++row.drop (o+size))) })]) else none
    |none=>none
  |none=>none) else none
 |none=>none
def HR (size:Nat) (a x:V) (h:ak):Option (V×Upd):=match a with
 | .ptr b i o m=>stO (h b) b size i o m x h
 |_=>none
theorem V5 (size:Nat) (a x:Opd):ag C ow (.store size a x) ev h n=HR size (ev a) (ev x) h:=by
 simp only [ag,HR,stO]
 cases ev a with
 |ptr b i o m=>dsimp only;cases h b<;>rfl
 |_=>rfl
theorem RI (size b i o m:Nat) (x:V):HR size (.ptr b i o m) x h=stO (h b) b size i o m x h:=rfl
theorem GD (m b size o:Nat) (row:List V) (x:V):stO (some ⟨m,true,[row]⟩) b size 0 o 1 x h=
 br (Nat.beq x.cells.length size&&(Nat.ble (o+size) row.length&&x.cells.all V.cell)) (some (.undef,[(b,⟨m,true,[row.take o++(x.cells++row.drop (o+size))]⟩)])) none:=by
 rw [vV,w7]
 by_cases h1:x.cells.length=size<;>by_cases h2:o+size≤row.length<;>cases h3:x.cells.all V.cell<;>simp [stO,h1,h2,h3,br]
def stT (r:List (List V)) (m b size i o:Nat) (row:List V):Option (List V×List Nat)→Option (V×Upd)
 |some (cs,bs)=>br (Nat.beq cs.length size&&(Nat.ble (o+size) row.length&& !bs.contains b)) (some (.undef,dm bs++[(b,⟨m,false,eo r i (row.take o++(cs++row.drop (o+size)))⟩)])) none
 |none=>none
theorem Ft (r:List (List V)) (m b size i o:Nat) (row cs:List V) (bs:List Nat):stT r m b size i o row (some (cs,bs))=
 br (Nat.beq cs.length size&&(Nat.ble (o+size) row.length&& !bs.contains b)) (some (.undef,dm bs++[(b,⟨m,false,eo r i (row.take o++(cs++row.drop (o+size)))⟩)])) none:=rfl
theorem Yh (m b size i o q:Nat) (x:V) (hq:l.length=q):stO (some ⟨m,false,rws e l⟩) b size i o q x h=(l[i]?).bind (fun y=>stT (rws e l) m b size i o (e.enc y) (gg h x.cells)):=by
 simp only [stO]
 have:(rws e l).length=q:=by simp [rws,hq]
 rw [if_pos this]
 have h2:(rws e l)[i]? =(l[i]?).map e.enc:=by simp [rws]
 rw [h2]
 cases hl:l[i]? with
 |none=>rfl
 |some y=>
  simp only [Option.map_some,Option.bind_some]
  cases hs:gg h x.cells with
  |none=>simp [stT]
  |some p=>
   obtain ⟨cs,bs⟩:=p
   rw [Ft,vV,w7]
   by_cases h1:cs.length=size<;>by_cases h2:o+size≤(e.enc y).length<;>by_cases h3:b∈bs<;>simp [h1,h2,h3,br,eo]
def psC (i:Nat):Option (List V×List Nat)→Option (List (Nat×V)×List Nat)→Option (List (Nat×V)×List Nat)
 |some (cs,bs),some (r',bs')=>some ((i,.agg cs)::r',bs++bs')
 |_,_=>none
theorem B8:bP h ev []=some ([],[]):=rfl
theorem zF (i:Nat) (x:Opd) (r:List (Nat×Opd)):bP h ev ((i,x)::r)=psC i (gg h (ev x).cells) (bP h ev r):=by
 simp only [bP,psC]
 cases gg h (ev x).cells<;>cases bP h ev r<;>rfl
theorem OA (i:Nat) (cs:List V) (bs:List Nat) (r:List (Nat×V)) (bs':List Nat):psC i (some (cs,bs)) (some (r,bs'))=some ((i,.agg cs)::r,bs++bs'):=rfl
def wd (esz:Nat) (rows:List (List V)):List (Nat×V)→Option (List (List V))
 |[]=>some rows
 | (i,v)::r=>br (Nat.beq v.cells.length esz&&(Nat.blt i rows.length&&v.cells.all V.cell)) (wd esz (rows.set i v.cells) r) none
theorem Er (esz:Nat): ∀(ps:List (Nat×V)) (rows:List (List V)),yR esz rows ps=wd esz rows ps
 |[],_=>rfl
 | (i,v)::r,rows=>by
   simp only [yR,wd,vV,ru]
   rw [←Er esz r]
   by_cases h1:v.cells.length=esz<;>by_cases h2:i<rows.length<;>cases h3:v.cells.all V.cell<;>simp [h1,h2,br]
def GG (u0:Upd):Option (V×Upd)→Option (V×Upd)
 |some (v,u)=>some (v,u0++u)
 |none=>none
theorem Mq (u0 u:Upd) (v:V):GG u0 (some (v,u))=some (v,u0++u):=rfl
theorem SV (u0:Upd) (c:Bool) (x y:Option (V×Upd)):GG u0 (br c x y)=br c (GG u0 x) (GG u0 y):=by cases c<;>rfl
theorem Mw (u0:Upd):GG u0 none=none:=rfl
def bsR (esz len:Nat) (zero:List Value) (bs:List Nat) (h:ak) (n:Nat):Option (List (List V))→Option (V×Upd)
 |some rows=>br (Nat.beq zero.length esz&&(zero.all aN&&(Nat.ble (len*esz) 16777216&& !bs.contains n))) (GG (dm bs) (frO (h n) n ⟨esz,false,mkR n rows⟩ (.sl n 0 len))) none
 |none=>none
def bsS (esz len:Nat) (zero:List Value) (h:ak) (n:Nat):Option (List (Nat×V)×List Nat)→Option (V×Upd)
 |some (ps,bs)=>bsR esz len zero bs h n (wd esz (List.replicate len (zero.map zc)) ps)
 |none=>none
theorem Cn (esz len:Nat) (zero:List Value) (ps:List (Nat×Opd)):ag C ow (.buildSlice esz zero len ps) ev h n=bsS esz len zero h n (bP h ev ps):=by
 simp only [ag,bsS,Er,nK]
 cases bP h ev ps with
 |none=>rfl
 |some p=>
  obtain ⟨qs,bs⟩:=p
  dsimp only
  cases wd esz (List.replicate len (zero.map zc)) qs with
  |none=>rfl
  |some rows=>
   simp only [bsR,vV,w7,mkR]
   by_cases h1:zero.length=esz<;>cases h2:zero.all aN<;>by_cases h3:len*esz≤16777216<;>by_cases h4:n∈bs<;>simp [h1,h3,h4,br]
   cases frO (h n) n ⟨esz,false,rows⟩ (.sl n 0 len)<;>rfl
theorem NL (esz len:Nat) (zero:List Value) (ps:List (Nat×V)) (bs:List Nat):bsS esz len zero h n (some (ps,bs))=bsR esz len zero bs h n (wd esz (List.replicate len (zero.map zc)) ps):=rfl
theorem Oz (esz len:Nat) (zero:List Value) (bs:List Nat) (rows:List (List V)):bsR esz len zero bs h n (some rows)=br (Nat.beq zero.length esz&&(zero.all aN&&(Nat.ble (len*esz) 16777216&& !bs.contains n))) (GG (dm bs) (frO (h n) n ⟨esz,false,mkR n rows⟩ (.sl n 0 len))) none:=rfl
def tbS (x:V) (h:ak) (n:Nat):Option (V×Upd):=match x with
 | .lit (.string s)=>if s.size≤bf then fK h n ⟨1,false,s.data.toList.map fun b=>[.lit (.int .u8 b.toNat)]⟩ (.sl n 0 s.size) else none
 |_=>none
theorem LW (x:Opd):ag C ow (.toBytes x) ev h n=tbS (ev x) h n:=rfl
theorem a1F (s:List UInt8):tbS (S s) h n=br (aK s.length 1) (frO (h n) n ⟨1,false,rws eU8 s⟩ (.sl n 0 s.length)) none:=by
 simp only [tbS,D6,aK,Nat.mul_one,nK]
 by_cases h1:s.length≤bf<;>simp [h1,br]
 rfl
def boS (x:V) (h:ak):Option (V×Upd):=match x with
 | .sl b s n=>match h b with
   |some k=>if k.op=false∧0<k.esz∧s+n=k.rows.length∧0<n then some (.sl b s n,[(b,k)]) else none
   |none=>none
 |_=>none
theorem Hx (x:Opd):ag C ow (.bytesOwn x) ev h n=boS (ev x) h:=rfl
def boO (k:Option Blk) (b s n:Nat):Option (V×Upd):=match k with
 |some k=>if k.op=false∧0<k.esz∧s+n=k.rows.length∧0<n then some (.sl b s n,[(b,k)]) else none
 |none=>none
theorem TJ (b s q:Nat):boS (.sl b s q) h=boO (h b) b s q:=rfl
theorem Ww (b m q:Nat) (h0:Nat.blt 0 m=true) (hq:l.length=q):boO (some ⟨m,false,rws e l⟩) b 0 q=br (decide (0<q)) (some (.sl b 0 q,[(b,⟨m,false,rws e l⟩)])) none:=by
 rw [ru,decide_eq_true_eq] at h0
 by_cases h1:0<q<;>simp [boO,rws,hq,h0,h1,br]
theorem ED (l:List UInt8):ag.bytesOf (rws eU8 l)=some l:=by
 induction l with
 |nil=>rfl
 |cons b l ih=>
  simp only [rws,List.map_cons,eU8] at ih ⊢
  simp only [ag.bytesOf]
  have h1:(0:Int)≤(b.toNat:Int)∧(b.toNat:Int)<256:=⟨by omega,by have:=b.toNat_lt;omega⟩
  rw [if_pos h1,ih]
  simp
noncomputable def tsR:Option (List (List V))→Option (V×Upd)
 |some rows=>match ag.bytesOf rows with
  |some l=>some (.lit (.string ⟨l.toArray⟩),[])
  |none=>none
 |none=>none
noncomputable def tsS (x:V) (h:ak):Option (V×Upd):=br (JI x) none (tsR (bI h 1 x))
theorem Ud (x:Opd):ag C ow (.toStr x) ev h n=tsS (ev x) h:=by
 simp only [ag,tsS,tsR]
 cases JI (ev x)
 ·simp only [Bool.false_eq_true,if_false,aO]
  cases bI h 1 (ev x)<;>rfl
 ·rfl
theorem RF (l:List UInt8):tsR (some (rws eU8 l))=some (S l,[]):=by
 simp only [tsR,ED]
theorem XM (l:List UInt8):tsS (sl eU8 l) h=some (S l,[]):=by
 rw [tsS,Eu,aO,Bx 1 rfl,RF]
def roO (k:Option Blk) (m s q:Nat):Option (List (List V)):=match k with
 |some k=>if k.op=false∧0<k.esz∧k.esz=m∧s+q=k.rows.length then some (k.rows.drop s) else none
 |none=>none
theorem GS (m b s q:Nat):bI h m (.sl b s q)=roO (h b) m s q:=rfl
theorem Zb (m q:Nat) (h0:Nat.blt 0 m=true) (hq:l.length=q):roO (some ⟨m,false,rws e l⟩) m 0 q=some (rws e l):=by
 rw [ru,decide_eq_true_eq] at h0
 simp [roO,rws,hq,h0]
theorem GL (s:List UInt8):bI h 1 (S s)=some (rws eU8 s):=rfl
theorem Sa (b s q:Nat):tsS (.sl b s q) h=tsR (roO (h b) 1 s q):=rfl
theorem VP:tsS (.lit (.slice none 0 0)) h=some (S [],[]):=rfl
theorem SM:tsS (.imm 1 []) h=some (S [],[]):=rfl
def Zr (esz bytes:Nat) (zero:List Value) (len cap:V) (h:ak) (n:Nat):Option (V×Upd):=match asI len,asI cap with
 |some l,some c=>if 0≤l∧l≤c∧c*bytes≤bf∧c*esz≤bf∧zero.length=esz∧zero.all aN then
  fK h n ⟨esz,false,List.replicate l.toNat (zero.map zc)⟩ (.sl n 0 l.toNat) else none
 |_,_=>none
theorem Fw (esz bytes:Nat) (zero:List Value) (len cap:Opd):ag C ow (.makeSlice esz bytes zero len cap) ev h n=Zr esz bytes zero (ev len) (ev cap) h n:=rfl
theorem Y2 (esz bytes:Nat) (zero:List Value) (k k':IntKind) (a c:Int) (hb:Nat.ble esz bytes=true) (hz:Nat.beq zero.length esz=true) (hz2:zero.all aN=true):
 Zr esz bytes zero (.lit (.int k a)) (.lit (.int k' c)) h n=br (DC a c bytes) (frO (h n) n ⟨esz,false,Cg n a.toNat (zero.map zc)⟩ (.sl n 0 (Ja (Cg n a.toNat (zero.map zc))))) none:=by
 have hz3:=Nat.eq_of_beq_eq_true hz
 have hb2:=Nat.le_of_ble_eq_true hb
 simp only [Zr,asI,DC,hz3,hz2,nK,Cg,Ja,List.length_replicate]
 by_cases h1:0≤a<;>by_cases h2:a≤c<;>by_cases h3:c*bytes≤bf<;>simp [h1,h2,h3,br]
 intro h4
 exfalso
 have:c*esz≤c*bytes:=Int.mul_le_mul_of_nonneg_left (by omega) (by omega)
 omega
def slS (esz:Nat) (x:V) (lo hi mx:Option V) (h:ak):Option (V×Upd):=match mx with
 |some _=>none
 |none=>match x with
  | .lit (.slice none 0 0)=>match bp hi 0 0 with
    |some q=>match bp lo 0 q with
     |some _=>some (.lit (.slice none 0 0),[])
     |none=>none
    |none=>none
  | .sl b s n=>match h b with
    |some k=>if k.op=false∧0<k.esz∧k.esz=esz∧s+n=k.rows.length then (match bp hi n n with
     |some q=>match bp lo 0 q with
      |some p=>if q=n then some (.sl b (s+p) (n-p),[]) else some ((V.imm esz (((k.rows.drop s).take q).drop p)).cz,[(b,gu)])
      |none=>none
     |none=>none) else none
    |none=>none
  | .imm e rows=>if e=esz∨rows=[] then (match bp hi rows.length rows.length with
   |some q=>match bp lo 0 q with
    |some p=>some ((V.imm e ((rows.take q).drop p)).cz,[])
    |none=>none
   |none=>none) else none
  |_=>none
theorem Tv (esz:Nat) (x:Opd) (lo hi:Option Opd):ag C ow (.slice esz x lo hi none) ev h n=slS esz (ev x) (lo.map ev) (hi.map ev) none h:=rfl
theorem na (d m:Nat):bp none d m=some d:=rfl
theorem qC (k:IntKind) (i:Int) (d m:Nat):bp (some (.lit (.int k i))) d m=if 0≤i∧i≤m then some i.toNat else none:=rfl
theorem ye (m:Nat) (hm:e.esz=m) (lo hi:Option V):slS m (sl e l) lo hi none h=(match bp hi l.length l.length with
 |some q=>match bp lo 0 q with
  |some p=>some (sl e ((l.take q).drop p),[])
  |none=>none
 |none=>none):=by
 subst hm
 rcases ff e l with ⟨rfl,hs⟩|⟨hne,hs⟩
 ·rw [hs]
  simp only [slS,List.length_nil,or_true,if_true]
  cases bp hi 0 0 with
  |none=>rfl
  |some q=>cases bp lo 0 q<;>simp [PO,V.cz]
 ·rw [hs]
  simp only [slS,true_or,if_true,rws,List.length_map]
  cases bp hi l.length l.length with
  |none=>rfl
  |some q=>cases bp lo 0 q<;>simp [sl,rws, ←List.map_take, ←List.map_drop]
theorem Xh (m:Nat) (hm:e.esz=m):slS m (sl e l) none none none h=some (sl e l,[]):=by
 rw [ye m hm];simp [na]
theorem Wm (m:Nat) (hm:e.esz=m) (k:IntKind) (a:Int):slS m (sl e l) (some (.lit (.int k a))) none none h=(oZ l a l.length).bind (fun l'=>some (sl e l',[])):=by
 rw [ye m hm]
 simp only [na,qC,oZ]
 by_cases h1:0≤a<;>by_cases h2:a≤(l.length:Int)<;>simp [h1,h2]
theorem Wl (m:Nat) (hm:e.esz=m) (k:IntKind) (b:Int):slS m (sl e l) none (some (.lit (.int k b))) none h=(oZ l 0 b).bind (fun l'=>some (sl e l',[])):=by
 rw [ye m hm]
 simp only [na,qC,oZ]
 by_cases h1:0≤b<;>by_cases h2:b≤(l.length:Int)<;>simp [h1,h2]
theorem Wv (m:Nat) (hm:e.esz=m) (k k':IntKind) (a b:Int):slS m (sl e l) (some (.lit (.int k a))) (some (.lit (.int k' b))) none h=(oZ l a b).bind (fun l'=>some (sl e l',[])):=by
 rw [ye m hm]
 simp only [qC,oZ]
 by_cases h1:0≤b<;>by_cases h2:b≤(l.length:Int)<;>by_cases h3:0≤a<;>by_cases h4:a≤b
 all_goals (have e1:((b.toNat:Nat):Int)=b∨ ¬0≤b:=by omega)
 all_goals (rcases e1 with e1|e1)
 all_goals (first|omega| (simp [h1,h2,h3,h4,e1];try omega))
def slO (k:Option Blk) (m b s q:Nat) (a:Int):Option (V×Upd):=match k with
 |some k=>if k.op=false∧0<k.esz∧k.esz=m∧s+q=k.rows.length then (if 0≤a∧a≤q then some (.sl b (s+a.toNat) (q-a.toNat),[]) else none) else none
 |none=>none
theorem Vo (m b s q:Nat) (k:IntKind) (a:Int):slS m (.sl b s q) (some (.lit (.int k a))) none none h=slO (h b) m b s q a:=by
 simp only [slS,slO,na,qC]
 cases h b with
 |none=>rfl
 |some k=>
  dsimp only
  split
  ·by_cases hc:0≤a∧a≤(q:Int)
   ·rw [if_pos hc,if_pos hc];simp
   ·rw [if_neg hc,if_neg hc]
  ·rfl
theorem Zw (m b s q:Nat) (a:Int) (h0:Nat.blt 0 m=true) (hq:s+q=l.length):slO (some ⟨m,false,rws e l⟩) m b s q a=br (decide (0≤a)&&decide (a≤q)) (some (.sl b (s+a.toNat) (q-a.toNat),[])) none:=by
 rw [ru,decide_eq_true_eq] at h0
 by_cases h1:0≤a<;>by_cases h2:a≤(q:Int)<;>simp [slO,rws,hq,h0,h1,h2,br]
def ssS (x:V) (lo hi:Option V):Option (V×Upd):=match x with
 | .lit (.string s)=>match bp hi s.size s.size with
   |some b=>match bp lo 0 b with
    |some a=>some (.lit (.string (s.extract a b)),[])
    |none=>none
   |none=>none
 |_=>none
theorem GJ (x:Opd) (lo hi:Option Opd):ag C ow (.sliceStr x lo hi) ev h n=ssS (ev x) (lo.map ev) (hi.map ev):=rfl
theorem Hr (s:List UInt8) (a b:Nat):(⟨⟨s⟩⟩:ByteArray).extract a b=⟨⟨(s.take b).drop a⟩⟩:=by
 apply ByteArray.ext
 rw [ByteArray.data_extract]
 apply Array.ext'
 simp [List.extract_eq_take_drop,List.drop_take]
theorem y9 (s:List UInt8) (lo hi:Option V):ssS (S s) lo hi=(match bp hi s.length s.length with
 |some q=>match bp lo 0 q with
  |some p=>some (S ((s.take q).drop p),[])
  |none=>none
 |none=>none):=by
 simp only [ssS,D6,Hr]
theorem XA (s:List UInt8):ssS (S s) none none=some (S s,[]):=by rw [y9];simp [na]
theorem YH (s:List UInt8) (k:IntKind) (a:Int):ssS (S s) (some (.lit (.int k a))) none=(oZ s a s.length).bind (fun l'=>some (S l',[])):=by
 rw [y9]
 simp only [na,qC,oZ]
 by_cases h1:0≤a<;>by_cases h2:a≤(s.length:Int)<;>simp [h1,h2]
theorem Xz (s:List UInt8) (k:IntKind) (b:Int):ssS (S s) none (some (.lit (.int k b)))=(oZ s 0 b).bind (fun l'=>some (S l',[])):=by
 rw [y9]
 simp only [na,qC,oZ]
 by_cases h1:0≤b<;>by_cases h2:b≤(s.length:Int)<;>simp [h1,h2]
theorem Xj (s:List UInt8) (k k':IntKind) (a b:Int):ssS (S s) (some (.lit (.int k a))) (some (.lit (.int k' b)))=(oZ s a b).bind (fun l'=>some (S l',[])):=by
 rw [y9]
 simp only [qC,oZ]
 by_cases h1:0≤b<;>by_cases h2:b≤(s.length:Int)<;>by_cases h3:0≤a<;>by_cases h4:a≤b
 all_goals (have e1:((b.toNat:Nat):Int)=b∨ ¬0≤b:=by omega)
 all_goals (rcases e1 with e1|e1)
 all_goals (first|omega| (simp [h1,h2,h3,h4,e1];try omega))
noncomputable def apS (esz bytes:Nat) (zero:List Value) (x y:V) (h:ak) (n:Nat):Option (List (List V))→Option (V×Upd)
 |none=>none
 |some new_=>if zero.length=esz∧0<esz∧new_.length*bytes≤bf∧new_.length*esz≤bf then
  (match x with
  | .sl b 0 n=>match h b with
    |some k=>if k.op=false∧0<k.esz∧k.esz=esz∧n=k.rows.length∧(n+new_.length)*bytes≤bf∧(n+new_.length)*esz≤bf∧ag.selfOk b y then
     some (.sl b 0 (n+new_.length),[(b,{ k with rows:=k.rows++new_ })]) else none
    |none=>none
  | .lit (.slice none 0 0)=>fK h n ⟨esz,false,new_⟩ (.sl n 0 new_.length)
  | .imm 0 []=>fK h n ⟨esz,false,new_⟩ (.sl n 0 new_.length)
  |_=>none) else none
theorem NK (esz bytes:Nat) (zero:List Value) (x y:Opd):ag C ow (.append esz bytes zero x y) ev h n=apS esz bytes zero (ev x) (ev y) h n (bI h esz (ev y)):=by
 simp only [ag]
 cases bI h esz (ev y) with
 |none=>rfl
 |some r=>rfl
noncomputable def ud (b:Nat) (y:V):Bool:=ag.selfOk b y
theorem Pr (b:Nat):ud b (sl e l)=true:=by
 rcases ff e l with ⟨_,h⟩|⟨_,h⟩<;>rw [h]<;>rfl
theorem Mo (b b' s q:Nat):ud b (.sl b' s q)=(b !=b'):=rfl
theorem JT (b:Nat) (s:List UInt8):ud b (S s)=true:=rfl
theorem Kz (b:Nat):ud b (.lit (.slice none 0 0))=true:=rfl
theorem M9 (b m:Nat) (r:List (List V)):ud b (.imm m r)=true:=rfl
def apO (k:Option Blk) (esz bytes:Nat) (zero:List Value) (b q:Nat) (sb:Bool) (new_:List (List V)):Option (V×Upd):=match k with
 |some k=>if zero.length=esz∧0<esz∧new_.length*bytes≤bf∧new_.length*esz≤bf then
  (if k.op=false∧0<k.esz∧k.esz=esz∧q=k.rows.length∧(q+new_.length)*bytes≤bf∧(q+new_.length)*esz≤bf∧sb=true then
        some (.sl b 0 (q+new_.length),[(b,{ k with rows:=k.rows++new_ })]) else none) else none
 |none=>none
theorem UU (esz bytes:Nat) (zero:List Value) (b q:Nat) (y:V) (new_:List (List V)):apS esz bytes zero (.sl b 0 q) y h n (some new_)=apO (h b) esz bytes zero b q (ud b y) new_:=by
 simp only [apS,apO,ud]
 cases h b with
 |none=>simp
 |some k=>rfl
theorem Xn (m bytes:Nat) (zero:List Value) (b q:Nat) (sb:Bool) (hz:Nat.beq zero.length m=true) (h0:Nat.blt 0 m=true) (hb:Nat.ble m bytes=true) (hq:l.length=q) (hs:sb=true):
 apO (some ⟨m,false,rws e l⟩) m bytes zero b q sb (rws e l2)=br (aK (l++l2).length bytes) (some (.sl b 0 (l++l2).length,[(b,⟨m,false,rws e (l++l2)⟩)])) none:=by
 have hz3:=Nat.eq_of_beq_eq_true hz
 have hb2:=Nat.le_of_ble_eq_true hb
 rw [ru,decide_eq_true_eq] at h0
 subst hs hq
 simp only [apO,aK,rws,List.length_map,List.length_append,List.map_append]
 have e1:(l.length+l2.length)*m≤(l.length+l2.length)*bytes:=Nat.mul_le_mul_left _ hb2
 have e2:l2.length*bytes≤(l.length+l2.length)*bytes:=Nat.mul_le_mul_right _ (by omega)
 have e3:l2.length*m≤l2.length*bytes:=Nat.mul_le_mul_left _ hb2
 by_cases hf:(l.length+l2.length)*bytes≤bf
 ·rw [if_pos ⟨hz3,h0,by omega,by omega⟩,if_pos ⟨by trivial,h0,by trivial,by trivial,hf,by omega,by trivial⟩,decide_eq_true hf,bR]
 ·rw [decide_eq_false hf,aO]
  split
  ·rw [if_neg (fun hc=>hf hc.2.2.2.2.1)]
  ·rfl
theorem Un (m bytes:Nat) (zero:List Value) (y:V) (hz:Nat.beq zero.length m=true) (h0:Nat.blt 0 m=true) (hb:Nat.ble m bytes=true):
 apS m bytes zero (.lit (.slice none 0 0)) y h n (some (rws e l2))=br (aK l2.length bytes) (frO (h n) n ⟨m,false,rws e l2⟩ (.sl n 0 l2.length)) none:=by
 have hz3:=Nat.eq_of_beq_eq_true hz
 have hb2:=Nat.le_of_ble_eq_true hb
 rw [ru,decide_eq_true_eq] at h0
 simp only [apS,aK,nK]
 have hl:(rws e l2).length=l2.length:=by simp [rws]
 rw [hl]
 have e3:l2.length*m≤l2.length*bytes:=Nat.mul_le_mul_left _ hb2
 by_cases hf:l2.length*bytes≤bf
 ·rw [if_pos ⟨hz3,h0,hf,by omega⟩,decide_eq_true hf,bR]
 ·rw [decide_eq_false hf,aO,if_neg (fun hc=>hf hc.2.2.1)]
def pl (l:List α) (s k:Nat) (l2:List α):List α:=l.take s++(l2.take k++l.drop (s+k))
def XU (esz bytes:Nat) (zero:List Value) (x y:V) (h:ak) (n:Nat):Option (V×Upd):=match asI y with
 |some l=>if 0≤l∧l≤1099511627776∧l*bytes≤1099511627776∧zero.all aN then ur esz bytes zero x (fun _=>true) h n (List.replicate l.toNat (zero.map zc)) else none
 |none=>none
theorem M1 (esz bytes:Nat) (zero:List Value) (x y:Opd):ag C ow (.appendN esz bytes zero x y) ev h n=XU esz bytes zero (ev x) (ev y) h n:=rfl
theorem ON (m bytes:Nat) (zero:List Value) (b q:Nat) (k:IntKind) (a:Int) (hz2:zero.all aN=true):
 XU m bytes zero (.sl b 0 q) (.lit (.int k a)) h n=br (DC a a bytes&&decide (a≤1099511627776)) (apO (h b) m bytes zero b q true (Cg n a.toNat (zero.map zc))) none:=by
 simp only [XU,asI,DC,hz2,Cg,bf]
 by_cases h1:0≤a<;>by_cases h2:a*bytes≤1099511627776<;>by_cases h3:a≤1099511627776<;>simp [h1,h2,h3,br]
 simp only [ur,apO]
 cases h b with
 |none=>simp
 |some kk=>rfl
noncomputable def cpS (esz:Nat) (x y:V) (h:ak):Option (List (List V))→Option (V×Upd)
 |some rows=>match x with
  | .sl b s n=>match h b with
    |some k=>if k.op=false∧0<k.esz∧k.esz=esz∧s+n=k.rows.length∧ag.selfOk b y then
     some (.lit (.int .i64 (min rows.length n)),[(b,{ k with rows:=k.rows.take s++(rows.take (min rows.length n)++k.rows.drop (s+min rows.length n)) })]) else none
    |none=>none
  |_=>none
 |none=>none
theorem YE (esz:Nat) (x y:Opd):ag C ow (.copy esz x y) ev h n=cpS esz (ev x) (ev y) h (bI h esz (ev y)):=by
 simp only [ag,cpS]
 cases bI h esz (ev y) with
 |none=>rfl
 |some r=>cases ev x<;>rfl
def cpO (k:Option Blk) (esz b s q:Nat) (sb:Bool) (rows:List (List V)):Option (V×Upd):=match k with
 |some k=>if k.op=false∧0<k.esz∧k.esz=esz∧s+q=k.rows.length∧sb=true then
  some (.lit (.int .i64 (min rows.length q)),[(b,{ k with rows:=k.rows.take s++(rows.take (min rows.length q)++k.rows.drop (s+min rows.length q)) })]) else none
 |none=>none
theorem Tz (esz b s q:Nat) (y:V) (rows:List (List V)):cpS esz (.sl b s q) y h (some rows)=cpO (h b) esz b s q (ud b y) rows:=by
 simp only [cpS,cpO,ud]
 cases h b<;>rfl
theorem YG (m b s q:Nat) (sb:Bool) (h0:Nat.blt 0 m=true) (hs:sb=true):cpO (some ⟨m,false,rws e l⟩) m b s q sb (rws e l2)=
 br (decide (s+q=l.length)) (some (I (min (l2.length:Int) (q:Int)),[(b,⟨m,false,rws e (pl l s (min l2.length q) l2)⟩)])) none:=by
 rw [ru,decide_eq_true_eq] at h0
 subst hs
 simp only [cpO]
 by_cases hq:s+q=l.length
 ·rw [if_pos ⟨by trivial,h0,by trivial,by simp [rws,hq],by trivial⟩,decide_eq_true hq,bR]
  simp [rws,pl,List.map_take,List.map_drop]
 ·rw [decide_eq_false hq,aO,if_neg (fun hc=>hq (by simpa [rws] using hc.2.2.2.1))]
def ncS (x:V) (h:ak):Option (V×Upd):=match x with
 | .ptr b i o n=>match h b with
   |some k=>if k.rows.length=n∧i<n then some (.ptr b i o n,[]) else none
   |none=>none
 | .iptr r o=>some (.iptr r o,[])
 | .fn f c=>some (.fn f c,[])
 |_=>none
theorem GT (x:Opd):ag C ow (.nilCheck x) ev h n=ncS (ev x) h:=by
 simp only [ag,ncS]
 cases ev x<;>rfl
def ncO (k:Option Blk) (b i o m:Nat):Option (V×Upd):=match k with
 |some k=>if k.rows.length=m∧i<m then some (.ptr b i o m,[]) else none
 |none=>none
theorem a0k (b i o m:Nat):ncS (.ptr b i o m) h=ncO (h b) b i o m:=rfl
theorem WT (b o m:Nat) (row:List V):ncO (some ⟨m,true,[row]⟩) b 0 o 1=some (.ptr b 0 o 1,[]):=rfl
theorem a0t (r:List V) (o:Nat):ncS (.iptr r o) h=some (.iptr r o,[]):=rfl
theorem a0s (f:FuncId) (c:List V):ncS (.fn f c) h=some (.fn f c,[]):=rfl
def mxS (x y:V):Option (V×Upd):=match x,y with
 | .lit (.int k a),.lit (.int _ b)=>some (.lit (.int k (if b>a then b else a)),[])
 |_,_=>none
theorem WU (x y:Opd):ag C ow (.max2 x y) ev h n=mxS (ev x) (ev y):=by
 simp only [ag,mxS]
 cases ev x<;>cases ev y<;>rfl
theorem a0N (k k':IntKind) (a b:Int):mxS (.lit (.int k a)) (.lit (.int k' b))=some (.lit (.int k (mx a b)),[]):=rfl
def mnS (x y:V):Option (V×Upd):=match x,y with
 | .lit (.int k a),.lit (.int _ b)=>some (.lit (.int k (if b<a then b else a)),[])
 |_,_=>none
theorem WK (x y:Opd):ag C ow (.min2 x y) ev h n=mnS (ev x) (ev y):=by
 simp only [ag,mnS]
 cases ev x<;>cases ev y<;>rfl
theorem a1y (k k':IntKind) (a b:Int):mnS (.lit (.int k a)) (.lit (.int k' b))=some (.lit (.int k (mn a b)),[]):=rfl
noncomputable def xI (fl ro:Bool) (h:ak) (new:Nat) (ids bor:List Nat):Option (V×List Blk)→Option (V×Upd)
 |some (r,bs)=>roW ro h (nj fl h new ids bor r bs)
 |none=>none
noncomputable def roX (k':Option Blk) (b:Nat) (k:Blk) (x:Option Upd):Option Upd:=match k' with
 |none=>x.map ((b,k):: ·)
 |some k'=>open Classical in if k'=k then x else none
def roE (v:V):Option Upd→Option (V×Upd)
 |some u=>some (v,u)
 |none=>none
theorem Ty:roU h []=some []:=rfl
theorem Nz (b:Nat) (k:Blk) (r:Upd):roU h ((b,k)::r)=roX (h b) b k (roU h r):=by
 simp only [roU,roX];cases h b<;>rfl
theorem Ns (b:Nat) (k:Blk) (x:Option Upd):roX (some k) b k x=x:=by simp [roX]
theorem Pm (b:Nat) (k:Blk) (u:Upd):roX none b k (some u)=some ((b,k)::u):=rfl
theorem Qs (v:V) (u:Upd):roE v (some u)=some (v,u):=rfl
theorem a1I (x:Option (V×Upd)):roW false h x=x:=by cases x<;>rfl
theorem Y9 (c:Bool) (x y:Option (V×Upd)):roW true h (br c x y)=br c (roW true h x) (roW true h y):=by cases c<;>rfl
theorem Qz:roW true h none=none:=rfl
theorem PV (v:V) (u:Upd):roW true h (some (v,u))=roE v (roU h u):=by
 simp only [roW,if_true,roE];cases roU h u<;>rfl
noncomputable def vK (C:aM) (ow:FuncId→List Nat) (h:ak) (new:Nat) (f:FuncId):Option (List V×List Blk×List Nat×List Nat)→Option (V×Upd)
 |some (args',blks,ids,bor)=>xI ((ow f).contains 2000) ((ow f).contains 3000) h new ids bor (C f (kD (ow f) args') (kw (ow f) blks))
 |none=>none
theorem Bl (f:FuncId) (args:List V):gZ C ow h n f args=vK C ow h n f (ca ow h f args):=by
 unfold gZ vK xI
 cases ca ow h f args with
 |none=>rfl
 |some p=>obtain ⟨a,b,c,d⟩:=p;dsimp only;cases C f (kD (ow f) a) (kw (ow f) b)<;>rfl
theorem Xq (f:FuncId) (args:List Opd):ag C ow (.call f args) ev h n=vK C ow h n f (ca ow h f (args.map ev)):=Bl _ _
noncomputable def XW (C:aM) (ow:FuncId→List Nat) (h:ak) (n:Nat) (args:List V):V→Option (V×Upd)
 | .fn k caps=>vK C ow h n k (ca ow h k (args++caps))
 |_=>none
theorem a1b (f:Opd) (args:List Opd):ag C ow (.dyn f args) ev h n=XW C ow h n (args.map ev) (ev f):=by
 simp only [ag,XW]
 cases ev f<;>first|rfl|exact Bl _ _
theorem VY (args:List V) (k:FuncId) (caps:List V):XW C ow h n args (.fn k caps)=vK C ow h n k (ca ow h k (args++caps)):=rfl
theorem Hf (f:FuncId) (a:List V) (b:List Blk) (c d:List Nat):vK C ow h n f (some (a,b,c,d))=xI ((ow f).contains 2000) ((ow f).contains 3000) h n c d (C f (kD (ow f) a) (kw (ow f) b)):=rfl
theorem QS (f:FuncId) (c:Bool) (x y:Option (List V×List Blk×List Nat×List Nat)):vK C ow h n f (br c x y)=br c (vK C ow h n f x) (vK C ow h n f y):=by cases c<;>rfl
def J5 (args':List V) (bor:List Nat):Option (List Blk×List Nat)→Option (List V×List Blk×List Nat×List Nat)
 |some (blks,ids)=>br (bor.any (fun b=>decide (b∈ids))) none (some (args',blks,ids,bor))
 |none=>none
def Gt (h:ak):Option (List V×List Nat×List Nat)→Option (List V×List Blk×List Nat×List Nat)
 |some (args',ids0,bor)=>J5 args' bor (cw h 40 0 ids0)
 |none=>none
theorem F4 (f:FuncId) (args:List V):ca ow h f args=Gt h (dP h (ow f) 0 [] args):=by
 unfold ca Gt J5
 cases dP h (ow f) 0 [] args with
 |none=>rfl
 |some p=>
  obtain ⟨a,i,b⟩:=p
  dsimp only
  cases cw h 40 0 i with
  |none=>rfl
  |some q=>
   obtain ⟨bl,ids⟩:=q
   dsimp only
   cases hb:b.any (fun b=>decide (b∈ids))<;>simp [br]
theorem Iz (a:List V) (i b:List Nat):Gt h (some (a,i,b))=J5 a b (cw h 40 0 i):=rfl
theorem H0 (a:List V) (b:List Nat) (bl:List Blk) (ids:List Nat):J5 a b (some (bl,ids))=br (b.any (fun b=>decide (b∈ids))) none (some (a,bl,ids,b)):=rfl
def la2 (v':V) (bs:List Nat):Option (List V×List Nat×List Nat)→Option (List V×List Nat×List Nat)
 |some (r',ids'',bs')=>some (v'::r',ids'',bs++bs')
 |none=>none
def la1 (h:ak) (owns:List Nat) (j:Nat) (r:List V):Option (V×List Nat×List Nat)→Option (List V×List Nat×List Nat)
 |some (v',ids',bs)=>la2 v' bs (dP h owns (j+1) ids' r)
 |none=>none
theorem Eh (owns:List Nat) (j:Nat) (ids:List Nat):dP h owns j ids []=some ([],ids,[]):=rfl
theorem Du (owns:List Nat) (j:Nat) (ids:List Nat) (v:V) (r:List V):dP h owns j ids (v::r)=la1 h owns j r (cc h (owns.contains j) ids v):=by
 have:decide (j∈owns)=owns.contains j:=by simp [List.contains_iff_mem,Bool.eq_iff_iff]
 simp only [dP,la1,la2,this]
 cases cc h (owns.contains j) ids v with
 |none=>rfl
 |some p=>obtain ⟨a,b,c⟩:=p;dsimp only;cases dP h owns (j+1) b r<;>rfl
theorem PK (owns:List Nat) (j:Nat) (r:List V) (v':V) (ids' bs:List Nat):la1 h owns j r (some (v',ids',bs))=la2 v' bs (dP h owns (j+1) ids' r):=rfl
theorem PN (v':V) (bs:List Nat) (r':List V) (i b:List Nat):la2 v' bs (some (r',i,b))=some (v'::r',i,bs++b):=rfl
def lcP (k:Option Blk) (ids:List Nat) (b i o m:Nat):Option (V×List Nat×List Nat):=match k with
 |some k=>if k.rows.length=m then some (.ptr (eD b (cG ids b)) i o m,cG ids b,[]) else none
 |none=>none
def lcO (k:Option Blk) (own:Bool) (ids:List Nat) (b s q:Nat):Option (V×List Nat×List Nat):=match k with
 |some k=>if s+q=k.rows.length then
  (if own then some (.sl (eD b (cG ids b)) s q,cG ids b,[]) else if k.op=false∧0<k.esz then some (.imm k.esz (k.rows.drop s),ids,[b]) else none) else none
 |none=>none
theorem OP (own:Bool) (ids:List Nat) (v:Value):bq h own ids (.lit v)=some (.lit v,ids,[]):=rfl
theorem XG (own:Bool) (ids:List Nat) (m:Nat) (r:List (List V)):bq h own ids (.imm m r)=some (.imm m r,ids,[]):=rfl
theorem Up (own:Bool) (ids:List Nat) (r:List V) (o:Nat):bq h own ids (.iptr r o)=some (.iptr r o,ids,[]):=rfl
theorem a1s (own:Bool) (ids:List Nat) (f:FuncId):bq h own ids (.fn f [])=some (.fn f [],ids,[]):=rfl
theorem MW (own:Bool) (ids:List Nat):bq h own ids .undef=some (.undef,ids,[]):=rfl
theorem ZO (own:Bool) (ids:List Nat) (b i o m:Nat):bq h own ids (.ptr b i o m)=lcP (h b) ids b i o m:=rfl
theorem XI (own:Bool) (ids:List Nat) (b s q:Nat):bq h own ids (.sl b s q)=lcO (h b) own ids b s q:=rfl
theorem Ad (own:Bool) (ids:List Nat) (v:Value):cc h own ids (.lit v)=some (.lit v,ids,[]):=rfl
theorem Z0 (own:Bool) (ids:List Nat) (m:Nat) (r:List (List V)):cc h own ids (.imm m r)=some (.imm m r,ids,[]):=rfl
theorem Vj (own:Bool) (ids:List Nat) (r:List V) (o:Nat):cc h own ids (.iptr r o)=some (.iptr r o,ids,[]):=rfl
theorem ZD (own:Bool) (ids:List Nat) (b i o m:Nat):cc h own ids (.ptr b i o m)=lcP (h b) ids b i o m:=rfl
theorem YK (own:Bool) (ids:List Nat) (b s q:Nat):cc h own ids (.sl b s q)=lcO (h b) own ids b s q:=rfl
def lcA (mk:List V→V):Option (List V×List Nat×List Nat)→Option (V×List Nat×List Nat)
 |some (cs',ids',bs)=>some (mk cs',ids',bs)
 |none=>none
theorem WR (own:Bool) (ids:List Nat) (cs:List V):cc h own ids (.agg cs)=lcA V.agg (bS h own ids cs):=by
 simp only [cc,lcA]
 cases bS h own ids cs<;>rfl
theorem a1z (own:Bool) (ids:List Nat) (f:FuncId) (cs:List V):cc h own ids (.fn f cs)=lcA (V.fn f) (bS h true ids cs):=by
 simp only [cc,lcA]
 cases bS h true ids cs<;>rfl
theorem MY (mk:List V→V) (cs:List V) (i b:List Nat):lcA mk (some (cs,i,b))=some (mk cs,i,b):=rfl
def Q0 (h:ak) (own:Bool) (r:List V):Option (V×List Nat×List Nat)→Option (List V×List Nat×List Nat)
 |some (v',ids',bs)=>la2 v' bs (bS h own ids' r)
 |none=>none
theorem Dt (own:Bool) (ids:List Nat):bS h own ids []=some ([],ids,[]):=rfl
theorem tN (own:Bool) (ids:List Nat) (v:V) (r:List V):bS h own ids (v::r)=Q0 h own r (bq h own ids v):=by
 simp only [bS,Q0,la2]
 cases bq h own ids v with
 |none=>rfl
 |some p=>obtain ⟨a,b,c⟩:=p;dsimp only;cases bS h own b r<;>rfl
theorem Bi (own:Bool) (r:List V) (v':V) (ids' bs:List Nat):Q0 h own r (some (v',ids',bs))=la2 v' bs (bS h own ids' r):=rfl
theorem WZ (ids:List Nat) (b o m:Nat) (row:List V):lcP (some ⟨m,true,[row]⟩) ids b 0 o 1=some (.ptr (eD b (cG ids b)) 0 o 1,cG ids b,[]):=rfl
theorem a0v (m:Nat) (ids:List Nat) (b s q:Nat) (hq:s+q=l.length):lcO (some ⟨m,false,rws e l⟩) true ids b s q=some (.sl (eD b (cG ids b)) s q,cG ids b,[]):=by
 simp [lcO,rws,hq]
theorem W8 (m:Nat) (ids:List Nat) (b q:Nat) (h0:Nat.blt 0 m=true) (hq:l.length=q):lcO (some ⟨m,false,rws e l⟩) false ids b 0 q=some (.imm m (rws e l),ids,[b]):=by
 rw [ru,decide_eq_true_eq] at h0
 simp [lcO,rws,hq,h0]
def lb2 (k:Blk):Option (List Blk×List Nat)→Option (List Blk×List Nat)
 |some (r,ids')=>some (k::r,ids')
 |none=>none
def ld2 (v':V):Option (List V×List Nat)→Option (List V×List Nat)
 |some (r',i)=>some (v'::r',i)
 |none=>none
def ld1 (h:ak) (r:List V):Option (V×List Nat×List Nat)→Option (List V×List Nat)
 |some (v',ids',_)=>ld2 v' (j3 h ids' r)
 |none=>none
theorem Lj (ids:List Nat):j3 h ids []=some ([],ids):=rfl
theorem nL (ids:List Nat) (v:V) (r:List V):j3 h ids (v::r)=ld1 h r (cc h true ids v):=by
 simp only [j3,ld1,ld2]
 cases cc h true ids v with
 |none=>rfl
 |some p=>obtain ⟨a,b,c⟩:=p;dsimp only;cases j3 h b r<;>rfl
theorem sN (r:List V) (v':V) (ids' bs:List Nat):ld1 h r (some (v',ids',bs))=ld2 v' (j3 h ids' r):=rfl
theorem ML (v':V) (r':List V) (i:List Nat):ld2 v' (some (r',i))=some (v'::r',i):=rfl
def lb1 (h:ak) (fuel pos m:Nat):Option (List V×List Nat)→Option (List Blk×List Nat)
 |some (row,ids1)=>lb2 ⟨m,true,[row]⟩ (cw h fuel (pos+1) ids1)
 |none=>none
def lb0 (h:ak) (fuel pos:Nat) (ids:List Nat):Option Blk→Option (List Blk×List Nat)
 |some k=>if k.op=false then lb2 k (cw h fuel (pos+1) ids) else (match hQ h ids k.rows with
  |none=>none
  |some (rows,ids1)=>lb2 { k with rows:=rows } (cw h fuel (pos+1) ids1))
 |none=>none
def lbN (h:ak) (fuel pos:Nat) (ids:List Nat):Option Nat→Option (List Blk×List Nat)
 |none=>some ([],ids)
 |some b=>lb0 h fuel pos ids (h b)
theorem Hw (fuel pos:Nat) (ids:List Nat):cw h (fuel+1) pos ids=lbN h fuel pos ids ids[pos]? :=by
 simp only [cw,lbN,lb0]
 cases ids[pos]? with
 |none=>rfl
 |some b=>
  dsimp only
  cases h b with
  |none=>rfl
  |some k=>
   dsimp only
   split
   ·cases cw h fuel (pos+1) ids<;>rfl
   ·cases hQ h ids k.rows with
    |none=>rfl
    |some p=>obtain ⟨rows,ids1⟩:=p;dsimp only;cases cw h fuel (pos+1) ids1<;>rfl
theorem NI (fuel pos:Nat) (ids:List Nat):lbN h fuel pos ids none=some ([],ids):=rfl
theorem N6 (fuel pos:Nat) (ids:List Nat) (b:Nat):lbN h fuel pos ids (some b)=lb0 h fuel pos ids (h b):=rfl
theorem ZA (fuel pos:Nat) (ids:List Nat) (m:Nat) (r:List (List V)):lb0 h fuel pos ids (some ⟨m,false,r⟩)=lb2 ⟨m,false,r⟩ (cw h fuel (pos+1) ids):=rfl
theorem XJ (fuel pos:Nat) (ids:List Nat) (m:Nat) (row:List V):lb0 h fuel pos ids (some ⟨m,true,[row]⟩)=lb1 h fuel pos m (j3 h ids row):=by
 simp only [lb0,hQ,lb1]
 cases j3 h ids row with
 |none=>rfl
 |some p=>obtain ⟨a,b⟩:=p;rfl
theorem Rz (fuel pos m:Nat) (row:List V) (ids1:List Nat):lb1 h fuel pos m (some (row,ids1))=lb2 ⟨m,true,[row]⟩ (cw h fuel (pos+1) ids1):=rfl
theorem OR (k:Blk) (r:List Blk) (ids:List Nat):lb2 k (some (r,ids))=some (k::r,ids):=rfl
theorem a0f (n:Nat):cD [] [] n=[]:=rfl
theorem a0R (k:Blk) (r:List Blk) (n:Nat):cD [] (k::r) n=n::cD [] r (n+1000000):=rfl
theorem a0V (i:Nat) (ids:List Nat) (k:Blk) (r:List Blk) (n:Nat):cD (i::ids) (k::r) n=cD ids r n:=rfl
def cpw (fl:Bool) (new:Nat) (ids bor:List Nat) (r:V) (bs:List Blk) (ns:List Nat):Option (V×Upd):=some (pg (ids++ns) r,gz (ids++ns) (bs.map (dU (ids++ns)))++br (bor.isEmpty||(jG r&&bs.all (iX fl))) [] (dm bor))
theorem WM (fl:Bool) (new:Nat) (ids bor:List Nat) (r:V) (bs:List Blk) (ns:List Nat):cpw fl new ids bor r bs ns=some (pg (ids++ns) r,gz (ids++ns) (bs.map (dU (ids++ns)))++br (bor.isEmpty||(jG r&&bs.all (iX fl))) [] (dm bor)):=rfl
theorem Iw (fl ro:Bool) (new:Nat) (ids bor:List Nat) (r:V) (bs:List Blk):xI fl ro h new ids bor (some (r,bs))=
 roW ro h (br (Nat.ble ids.length bs.length&&(cD ids bs new).all (fun b=>(h b).isNone)) (cpw fl new ids bor r bs (cD ids bs new)) none):=by
 refine congrArg (roW ro h) ?_
 simp only [nj,cpw,w7]
 generalize (cD ids bs new).all (fun b=>(h b).isNone)=c3
 generalize (bor.isEmpty||(jG r&&bs.all (iX fl)))=c4
 by_cases h1:ids.length≤bs.length
 ·rw [decide_eq_true h1];cases c3<;>cases c4<;>simp [h1,br]
 ·rw [decide_eq_false h1];cases c3<;>cases c4<;>simp [h1,br]
theorem Lr (ids:List Nat) (vs:List V):pg ids (.tup vs)= .tup (vs.map (fR ids)):=rfl
theorem KK (ids:List Nat) (vs:List V):pg ids (.agg vs)= .agg (vs.map (unV ids)):=rfl
theorem KH (ids:List Nat) (v:Value):pg ids (.lit v)= .lit v:=rfl
theorem Mh (ids:List Nat) (m:Nat) (r:List (List V)):pg ids (.imm m r)= .imm m r:=rfl
theorem E2 (ids:List Nat):pg ids .undef= .undef:=rfl
theorem LY (ids:List Nat) (b i o m:Nat):pg ids (.ptr b i o m)= .ptr (ids.getD b 0) i o m:=rfl
theorem Kx (ids:List Nat) (b s q:Nat):pg ids (.sl b s q)= .sl (ids.getD b 0) s q:=rfl
theorem KU (ids:List Nat) (vs:List V):fR ids (.agg vs)= .agg (vs.map (unV ids)):=rfl
theorem JY (ids:List Nat) (v:Value):fR ids (.lit v)= .lit v:=rfl
theorem Kl (ids:List Nat) (m:Nat) (r:List (List V)):fR ids (.imm m r)= .imm m r:=rfl
theorem LU (ids:List Nat) (b i o m:Nat):fR ids (.ptr b i o m)= .ptr (ids.getD b 0) i o m:=rfl
theorem Ko (ids:List Nat) (b s q:Nat):fR ids (.sl b s q)= .sl (ids.getD b 0) s q:=rfl
theorem TH (ids:List Nat) (v:Value):unV ids (.lit v)= .lit v:=rfl
theorem YS (ids:List Nat) (f:FuncId) (cs:List V):unV ids (.fn f cs)= .fn f cs:=rfl
theorem QG (ids:List Nat) (f:FuncId) (cs:List V):fR ids (.fn f cs)= .fn f (cs.map (unV ids)):=rfl
theorem Ui (ids:List Nat) (m:Nat) (r:List (List V)):unV ids (.imm m r)= .imm m r:=rfl
theorem T9 (ids:List Nat) (b i o m:Nat):unV ids (.ptr b i o m)= .ptr (ids.getD b 0) i o m:=rfl
theorem Sb (ids:List Nat) (b s q:Nat):unV ids (.sl b s q)= .sl (ids.getD b 0) s q:=rfl
theorem RM (ids:List Nat) (m:Nat) (r:List (List V)):dU ids ⟨m,false,r⟩=⟨m,false,r⟩:=rfl
theorem K0 (ids:List Nat) (m:Nat) (row:List V):dU ids ⟨m,true,[row]⟩=⟨m,true,[row.map (fR ids)]⟩:=rfl
theorem YI (v:Value):jG (.lit v)=true:=rfl
theorem Nc:jG .undef=true:=rfl
theorem Xi (m:Nat) (r:List (List V)):jG (.imm m r)=false:=rfl
theorem Wu (vs:List V):jG (.agg vs)=vs.all ir:=rfl
theorem ZQ (vs:List V):jG (.tup vs)=vs.all rg:=rfl
theorem XB (b i o m:Nat):jG (.ptr b i o m)=true:=rfl
theorem WF (b s q:Nat):jG (.sl b s q)=true:=rfl
theorem SN (v:Value):rg (.lit v)=true:=rfl
theorem SO (m:Nat) (r:List (List V)):rg (.imm m r)=false:=rfl
theorem T5 (vs:List V):rg (.agg vs)=vs.all ir:=rfl
theorem V4 (b i o m:Nat):rg (.ptr b i o m)=true:=rfl
theorem TP (b s q:Nat):rg (.sl b s q)=true:=rfl
theorem Sn (v:Value):ir (.lit v)=true:=rfl
theorem ZT (f:FuncId) (cs:List V):ir (.fn f cs)=false:=rfl
theorem Zg (f:FuncId) (cs:List V):rg (.fn f cs)=false:=rfl
theorem a02 (f:FuncId) (cs:List V):jG (.fn f cs)=false:=rfl
theorem RV (m:Nat) (r:List (List V)):ir (.imm m r)=false:=rfl
theorem Sh (b i o m:Nat):ir (.ptr b i o m)=true:=rfl
theorem S8 (b s q:Nat):ir (.sl b s q)=true:=rfl
theorem Zo (m:Nat) (r:List (List V)):iX false ⟨m,false,r⟩=false:=rfl
theorem F7 {α:Type} {e:En α} (he: ∀x,(e.enc x).all ir=true) (m:Nat) (l:List α):iX true ⟨m,false,rws e l⟩=true:=by
 simp only [iX,Bool.true_or,Bool.true_and,rws,List.all_map,List.all_eq_true]
 exact fun x _=>he x
theorem a1C (m:Nat) (l:List Int):iX true ⟨m,false,rws eI l⟩=true:=F7 (fun _=>rfl) m l
theorem a1g (m:Nat) (l:List Bool):iX true ⟨m,false,rws eB l⟩=true:=F7 (fun _=>rfl) m l
theorem a1q (m:Nat) (l:List UInt8):iX true ⟨m,false,rws eU8 l⟩=true:=F7 (fun _=>rfl) m l
theorem T8 (m:Nat) (l:List Int):iX true ⟨m,false,rws FB l⟩=true:=F7 (fun _=>rfl) m l
theorem a0h (m:Nat) (l:List (List UInt8)):iX true ⟨m,false,rws eS l⟩=true:=F7 (fun _=>rfl) m l
theorem Yy (fl:Bool) (m:Nat) (row:List V):iX fl ⟨m,true,[row]⟩=row.all ir:=by simp [iX]
def UJ (raw:Bool) (m:Nat):Option (List V)→Option (List Blk)→Option (V×List Blk)
 |some vs',some bs=>br (Nat.ble m 1000) (some ((CD vs').czR,br raw bs (bs.map Blk.cz))) none
 |_,_=>none
def E9 (keep raw:Bool) (m:Nat) (h:ak):Option (List V)→Option (V×List Blk)
 |some vs=>UJ raw m (lZ h m (br keep (fC raw h m vs) []) vs) (kO h m (br keep (fC raw h m vs) []) (List.range m++(br keep (fC raw h m vs) [])))
 |none=>none
theorem J2 (nt:Nat) (body:au) (res:List vb) (keep raw:Bool) (m:Nat) (st:St) (x:aH) (hx:x= .ret∨x= .normal):H5 ⟨nt,body,res,keep,raw⟩ m x st=E9 keep raw m st.heap (fI st res):=by
 have hk: ∀vs:List V,(if keep=true then fC raw st.heap m vs else [])=br keep (fC raw st.heap m vs) []:=fun vs=>by cases keep<;>rfl
 have:H5 ⟨nt,body,res,keep,raw⟩ m x st=H5 ⟨nt,body,res,keep,raw⟩ m .ret st:=by rcases hx with rfl|rfl<;>rfl
 rw [this]
 simp only [H5,fa,E9,UJ,EP,hk,w7]
 cases fI st res with
 |none=>rfl
 |some vs=>
  dsimp only
  cases lZ st.heap m (br keep (fC raw st.heap m vs) []) vs with
  |none=>rfl
  |some vs'=>
   cases kO st.heap m (br keep (fC raw st.heap m vs) []) (List.range m++(br keep (fC raw st.heap m vs) [])) with
   |none=>rfl
   |some bs=>by_cases h1:m≤1000<;>cases raw<;>simp [h1,br]
theorem QM (nt:Nat) (body:au) (res:List vb) (keep raw:Bool) (m:Nat) (st:St):H5 ⟨nt,body,res,keep,raw⟩ m .ret st=E9 keep raw m st.heap (fI st res):=J2 _ _ _ _ _ _ _ _ (.inl rfl)
theorem G6 (nt:Nat) (body:au) (res:List vb) (keep raw:Bool) (m:Nat) (st:St):H5 ⟨nt,body,res,keep,raw⟩ m .normal st=E9 keep raw m st.heap (fI st res):=J2 _ _ _ _ _ _ _ _ (.inr rfl)
theorem KB (keep raw:Bool) (m:Nat) (vs:List V):E9 keep raw m h (some vs)=UJ raw m (lZ h m (br keep (fC raw h m vs) []) vs) (kO h m (br keep (fC raw h m vs) []) (List.range m++(br keep (fC raw h m vs) []))):=rfl
theorem M2 (raw:Bool) (m:Nat) (vs:List V) (bs:List Blk):UJ raw m (some vs) (some bs)=br (Nat.ble m 1000) (some ((CD vs).czR,br raw bs (bs.map Blk.cz))) none:=rfl
def rs1:Option V→Option (List V)→Option (List V)
 |some v,some vs=>some (v::vs)
 |_,_=>none
theorem R1 (st:St):fI st []=some []:=rfl
theorem KT (st:St) (r:vb) (rs:List vb):fI st (r::rs)=rs1 (tF st r) (fI st rs):=by
 simp only [fI,rs1]
 cases tF st r<;>cases fI st rs<;>rfl
theorem Q9 (v:V) (vs:List V):rs1 (some v) (some vs)=some (v::vs):=rfl
theorem Ti (st:St) (t:Nat):tF st (.tmp t)=some (st.get t):=rfl
theorem QL (st:St) (t:Nat) (g:Option Nat):tF st (.cell t g)=ny g st.heap (st.get t):=rfl
def a2v:Option V→Option (List V)→Option (List V)
 |some v,some vs=>some (v::vs)
 |_,_=>none
theorem Lw (m:Nat) (kp:List Nat):lZ h m kp []=some []:=rfl
theorem GX (m:Nat) (kp:List Nat) (v:V) (r:List V):lZ h m kp (v::r)=rs1 (rq h m kp v) (lZ h m kp r):=by
 simp only [lZ,rs1]
 cases rq h m kp v<;>cases lZ h m kp r<;>rfl
theorem K2 (m:Nat) (kp:List Nat):lX h m kp []=some []:=rfl
theorem yx (m:Nat) (kp:List Nat) (v:V) (r:List V):lX h m kp (v::r)=rs1 (iu h m kp v) (lX h m kp r):=by
 simp only [lX,rs1]
 cases iu h m kp v<;>cases lX h m kp r<;>rfl
def fag:Option (List V)→Option V
 |some cs=>some (.agg cs)
 |none=>none
theorem Ob (m:Nat) (kp:List Nat) (cs:List V):rq h m kp (.agg cs)=fag (lX h m kp cs):=by
 simp only [rq,fag]
 cases lX h m kp cs<;>rfl
theorem NZ (cs:List V):fag (some cs)=some (.agg cs):=rfl
theorem OB (m:Nat) (kp:List Nat) (v:Value):rq h m kp (.lit v)=some (.lit v):=rfl
theorem RK (m:Nat) (kp:List Nat) (q:Nat) (r:List (List V)):rq h m kp (.imm q r)=some (.imm q r):=rfl
theorem Hb (m:Nat) (kp:List Nat):rq h m kp .undef=some .undef:=rfl
theorem RS (m:Nat) (kp:List Nat) (f:FuncId):rq h m kp (.fn f [])=some (.fn f []):=rfl
theorem Ps (m:Nat) (kp:List Nat) (v:Value):iu h m kp (.lit v)=some (.lit v):=rfl
theorem NP (m:Nat) (kp:List Nat) (q:Nat) (r:List (List V)):iu h m kp (.imm q r)=some (.imm q r):=rfl
theorem Sx (m:Nat) (kp:List Nat) (f:FuncId):iu h m kp (.fn f [])=some (.fn f []):=rfl
theorem Hs (m:Nat) (kp:List Nat):iu h m kp .undef=some .undef:=rfl
def S6:Option (V×List Nat)→Option V
 |some (v,_)=>some v
 |none=>none
def fcO (h:ak) (m:Nat) (kp:List Nat) (b s q:Nat):Option V:=br (Nat.blt b m) (some (.sl b s q)) (br (kp.contains b) (some (.sl (m+eD b kp) s q)) (S6 (ic h (.sl b s q))))
theorem z7 (m:Nat) (kp:List Nat) (b s q:Nat):iu h m kp (.sl b s q)=fcO h m kp b s q:=by
 simp only [iu,fcO,ru,S6]
 by_cases h1:b<m
 ·simp [h1,br]
 ·by_cases h2:b∈kp
  ·simp [h1,h2,br]
  ·have:kp.contains b=false:=by simpa using h2
   simp only [h1,h2,this,if_false,decide_false,aO]
   cases ic h (.sl b s q)<;>rfl
theorem R9 (m:Nat) (kp:List Nat) (b s q:Nat):rq h m kp (.sl b s q)=fcO h m kp b s q:=z7 m kp b s q
theorem Yc (m:Nat) (kp:List Nat) (b s q:Nat):fcO h m kp b s q=br (Nat.blt b m) (some (.sl b s q)) (br (kp.contains b) (some (.sl (m+eD b kp) s q)) (S6 (ic h (.sl b s q)))):=rfl
theorem Lz (v:V) (bs:List Nat):S6 (some (v,bs))=some v:=rfl
def fcP (m:Nat) (kp:List Nat) (b i o q:Nat):Option V:=br (Nat.blt b m) (some (.ptr b i o q)) (br (kp.contains b) (some (.ptr (m+eD b kp) i o q)) none)
theorem zY (m:Nat) (kp:List Nat) (b i o q:Nat):iu h m kp (.ptr b i o q)=fcP m kp b i o q:=by
 simp only [iu,fcP,ru]
 by_cases h1:b<m
 ·simp [h1,br]
 ·by_cases h2:b∈kp
  ·simp [h1,h2,br]
  ·have:kp.contains b=false:=by simpa using h2
   simp [h1,h2,this,br]
theorem OY (m:Nat) (kp:List Nat) (b i o q:Nat):rq h m kp (.ptr b i o q)=fcP m kp b i o q:=zY (h:=h) m kp b i o q
theorem ZM (m:Nat) (kp:List Nat) (b i o q:Nat):fcP m kp b i o q=br (Nat.blt b m) (some (.ptr b i o q)) (br (kp.contains b) (some (.ptr (m+eD b kp) i o q)) none):=rfl
def fb2:Option Blk→Option (List Blk)→Option (List Blk)
 |some k,some r=>some (k::r)
 |_,_=>none
def fb1 (h:ak) (m:Nat) (kp r:List Nat):Option Blk→Option (List Blk)
 |some k=>fb2 (A2 h m kp k) (kO h m kp r)
 |none=>none
theorem KV (m:Nat) (kp:List Nat):kO h m kp []=some []:=rfl
theorem I5 (m:Nat) (kp:List Nat) (b:Nat) (r:List Nat):kO h m kp (b::r)=fb1 h m kp r (h b):=by
 simp only [kO,fb1,fb2]
 cases h b with
 |none=>rfl
 |some k=>dsimp only;cases A2 h m kp k<;>cases kO h m kp r<;>rfl
theorem RH (m:Nat) (kp r:List Nat) (k:Blk):fb1 h m kp r (some k)=fb2 (A2 h m kp k) (kO h m kp r):=rfl
theorem Ru (k:Blk) (r:List Blk):fb2 (some k) (some r)=some (k::r):=rfl
theorem TO (m:Nat) (kp:List Nat) (q:Nat) (r:List (List V)):A2 h m kp ⟨q,false,r⟩=some ⟨q,false,r⟩:=rfl
def fbO (q:Nat):Option (List V)→Option Blk
 |some row=>some ⟨q,true,[row]⟩
 |none=>none
theorem Mg (m:Nat) (kp:List Nat):o9 h m kp []=some []:=rfl
theorem nf (m:Nat) (kp:List Nat) (v:V) (r:List V):o9 h m kp (v::r)=rs1 (tj h m kp v) (o9 h m kp r):=by
 simp only [o9,rs1]
 cases tj h m kp v<;>cases o9 h m kp r<;>rfl
def fnR (f:FuncId):Option (List V)→Option V
 |some cs=>some (.fn f cs)
 |none=>none
theorem P8 (f:FuncId) (cs:List V):fnR f (some cs)=some (.fn f cs):=rfl
theorem QI (m:Nat) (kp:List Nat) (f:FuncId):tj h m kp (.fn f [])=some (.fn f []):=rfl
theorem Td (m:Nat) (kp:List Nat) (f:FuncId) (c:V) (cs:List V):tj h m kp (.fn f (c::cs))=fnR f (lX h m kp (c::cs)):=by
 simp only [tj,fnR]
 cases lX h m kp (c::cs)<;>rfl
theorem R8 (m:Nat) (kp:List Nat) (v:Value):tj h m kp (.lit v)=some (.lit v):=rfl
theorem Of (m:Nat) (kp:List Nat) (q:Nat) (r:List (List V)):tj h m kp (.imm q r)=some (.imm q r):=rfl
theorem HA (m:Nat) (kp:List Nat):tj h m kp .undef=some .undef:=rfl
theorem K8 (m:Nat) (kp:List Nat) (r:List V) (o:Nat):tj h m kp (.iptr r o)=some (.iptr r o):=rfl
theorem NN (m:Nat) (kp:List Nat) (b s q:Nat):tj h m kp (.sl b s q)=fcO h m kp b s q:=z7 m kp b s q
theorem PP (m:Nat) (kp:List Nat) (b i o q:Nat):tj h m kp (.ptr b i o q)=fcP m kp b i o q:=zY (h:=h) m kp b i o q
theorem Ua (m:Nat) (kp:List Nat) (q:Nat) (row:List V):A2 h m kp ⟨q,true,[row]⟩=fbO q (o9 h m kp row):=by
 simp only [A2,kC,fbO]
 cases o9 h m kp row<;>rfl
theorem R0 (q:Nat) (row:List V):fbO q (some row)=some ⟨q,true,[row]⟩:=rfl
theorem O4 (t u:Nat) (v:V) (r:List (Nat×V)) (m:List (Nat×Blk)):St.get ⟨(u,v)::r,m⟩ t=if u=t then v else St.get ⟨r,m⟩ t:=by
 simp only [St.get,bC]
 split<;>rfl
theorem Ve (t:Nat) (m:List (Nat×Blk)):St.get ⟨[],m⟩ t= .undef:=rfl
theorem KP (b c:Nat) (k:Blk) (r:List (Nat×Blk)) (x:List (Nat×V)):St.heap ⟨x,(c,k)::r⟩ b=if c=b then some k else St.heap ⟨x,r⟩ b:=rfl
theorem Nh (b:Nat) (x:List (Nat×V)):St.heap ⟨x,[]⟩ b=none:=rfl
theorem Rj (x:List (Nat×V)) (m:List (Nat×Blk)) (d:Nat) (v:V):St.put ⟨x,m⟩ (some d) v=⟨(d,v)::x,m⟩:=rfl
theorem Qb (st:St) (v:V):st.put none v=st:=rfl
theorem Z7 (x:List (Nat×V)) (m:List (Nat×Blk)) (u:Upd):St.upd ⟨x,m⟩ u=⟨x,Ez m u⟩:=rfl
theorem SZ (st:St):st.upd []=st:=rfl
theorem MU (m:List (Nat×Blk)):Ez m []=m:=rfl
theorem JR (m:List (Nat×Blk)) (b:Nat) (k:Blk) (r:Upd):Ez m ((b,k)::r)=Ez (dv b k m) r:=rfl
theorem Nr {β:Type} (k:Nat) (v:β):dv k v []=[(k,v)]:=rfl
theorem Lg {β:Type} (k j:Nat) (v u:β) (r:List (Nat×β)):dv k v ((j,u)::r)=if j=k then (j,v)::r else (j,u)::dv k v r:=rfl
theorem a2o (st:St) (t:Nat):st.ev (.t t)=st.get t:=rfl
theorem a2m (st:St) (v:Value):st.ev (.c v)= .lit v:=rfl
theorem a1Y (st:St) (f:FuncId):st.ev (.f f)= .fn f []:=rfl
theorem SD (live:List Nat) (x:List (Nat×V)) (m:List (Nat×Blk)):trim live ⟨x,m⟩=⟨live.map fun t=>(t,St.get ⟨x,m⟩ t),m⟩:=rfl
theorem HN {β:Type} (n:Nat):iJ n ([]:List β)=[]:=rfl
theorem Gf {β:Type} (n:Nat) (x:β) (r:List β):iJ n (x::r)=(n,x)::iJ (n+1) r:=rfl
theorem start_eq (a:List V) (b:List Blk):start a b=⟨iJ 0 a,iJ 0 b⟩:=rfl
theorem EC:di ev []=[]:=rfl
theorem DL (a b:Nat) (x:Opd) (r:List (Nat×Nat×Opd)):di ev ((a,b,x)::r)=(a,b,ev x)::di ev r:=rfl
theorem LD (cs:List V):xx cs []=some cs:=rfl
theorem GC (cs:List V) (off size:Nat) (v:V) (r:List (Nat×Nat×V)):xx cs ((off,size,v)::r)=br (Nat.beq v.cells.length size&&Nat.ble (off+size) cs.length&&v.cells.all V.cell) (xx (cs.take off++(v.cells++cs.drop (off+size))) r) none:=rfl
theorem KO (m:Nat) (r:List (List V)):wd m r []=some r:=rfl
theorem HM (m:Nat) (rows:List (List V)) (i:Nat) (v:V) (r:List (Nat×V)):wd m rows ((i,v)::r)=br (Nat.beq v.cells.length m&&(Nat.blt i rows.length&&v.cells.all V.cell)) (wd m (rows.set i v.cells) r) none:=rfl
theorem LC (cs:List V):(V.agg cs).cells=cs:=rfl
theorem BB (v:Value):(V.lit v).cells=[.lit v]:=rfl
theorem KY (m:Nat) (r:List (List V)):(V.imm m r).cells=[.imm m r]:=rfl
theorem M3 (b s q:Nat):(V.sl b s q).cells=[.sl b s q]:=rfl
theorem Mt (b i o m:Nat):(V.ptr b i o m).cells=[.ptr b i o m]:=rfl
theorem Ir (r:List V) (o:Nat):(V.iptr r o).cells=[.iptr r o]:=rfl
theorem QF (f:FuncId) (cs:List V):(V.fn f cs).cells=[.fn f cs]:=rfl
theorem DY (k:IntKind) (a:Int):(V.lit (.int k a)).cell=true:=rfl
theorem Mb (a:Bool):(V.lit (.bool a)).cell=true:=rfl
theorem Rv (a:ByteArray):(V.lit (.string a)).cell=true:=rfl
theorem Pq (a:Option Addr) (n m:Nat):(V.lit (.slice a n m)).cell=true:=rfl
theorem Qc (m:Nat) (r:List (List V)):(V.imm m r).cell=true:=rfl
theorem N4 (b s q:Nat):(V.sl b s q).cell=true:=rfl
theorem OG (b i o m:Nat):(V.ptr b i o m).cell=true:=rfl
theorem LF (r:List V) (o:Nat):(V.iptr r o).cell=true:=rfl
theorem RW (f:FuncId) (cs:List V):(V.fn f cs).cell=true:=rfl
theorem Tt (k:IntKind) (a:Int):aN (.int k a)=true:=rfl
theorem Ph (a:Bool):aN (.bool a)=true:=rfl
theorem Sz (a:ByteArray):aN (.string a)=true:=rfl
theorem Vq (a:Option Addr) (n m:Nat):aN (.slice a n m)=true:=rfl
theorem RR (a:Option Addr):aN (.pointer a)=true:=rfl
theorem KQ:dm []=[]:=rfl
theorem Gx (b:Nat) (r:List Nat):dm (b::r)=(b,gu)::dm r:=rfl
theorem Va (ids:List Nat):gz ids []=[]:=by cases ids<;>rfl
theorem NA (i:Nat) (ids:List Nat) (k:Blk) (r:List Blk):gz (i::ids) (k::r)=(i,k)::gz ids r:=rfl
theorem Ow (b x:Nat) (r:List Nat):eD b (x::r)=if x=b then 0 else eD b r+1:=rfl
theorem Gv (b:Nat):cG [] b=[b]:=rfl
theorem Kw (ids:List Nat) (b:Nat):cG ids b=br (ids.contains b) ids (ids++[b]):=by
 unfold cG
 by_cases h:b∈ids<;>simp [h,br]
theorem YO:List.range 1=[0]:=rfl
theorem Z3:List.range 2=[0,1]:=rfl
theorem Y5:List.range 3=[0,1,2]:=rfl
theorem Zq:List.range 4=[0,1,2,3]:=rfl
theorem MD (v:V):CD [v]=v:=rfl
theorem NH:CD []= .tup []:=rfl
theorem Q1 (a b:V) (r:List V):CD (a::b::r)= .tup (a::b::r):=rfl
theorem Gz (o:List Nat) (a:List V):kD o a=br (o.contains 1000) a (a.map V.czA):=by
 unfold kD;cases o.contains 1000<;>rfl
theorem Hk (o:List Nat) (a:List Blk):kw o a=br (o.contains 1000) a (a.map Blk.cz):=by
 unfold kw;cases o.contains 1000<;>rfl
theorem K3 (a:Nat) (r:List Nat):(a::r).getD 0 0=a:=rfl
theorem LS (a n:Nat) (r:List Nat):(a::r).getD (n+1) 0=r.getD n 0:=rfl
def Ig (st:St) (bs:List Nat):St:={ e:=yN (fzA st.heap bs) st.e,m:=fzM st.heap bs st.m }
theorem Pt (st:St) (bs:List Nat):bc st (.close bs)=br (bs.all (fun b=>Nat.ble 1000 b)) (some (Ig st bs)) none:=by
 simp only [bc,Ig,w7]
 cases bs.all (fun b=>decide (1000≤b))<;>rfl
theorem Mk (x:List (Nat×V)) (m:List (Nat×Blk)) (bs:List Nat):Ig ⟨x,m⟩ bs=⟨yN (fzA (St.heap ⟨x,m⟩) bs) x,fzM (St.heap ⟨x,m⟩) bs m⟩:=rfl
theorem On (g:V→V):yN g []=[]:=rfl
theorem Mj (g:V→V) (t:Nat) (v:V) (r:List (Nat×V)):yN g ((t,v)::r)=(t,g v)::yN g r:=rfl
variable {bs:List Nat}
theorem Yl (v:Value):fzA h bs (.lit v)= .lit v:=rfl
theorem YC (m:Nat) (r:List (List V)):fzA h bs (.imm m r)= .imm m r:=rfl
theorem TF (r:List V) (o:Nat):fzA h bs (.iptr r o)= .iptr r o:=rfl
theorem MC:fzA h bs .undef= .undef:=rfl
theorem Zl (vs:List V):fzA h bs (.tup vs)= .undef:=rfl
def fzO:Option (V×List Nat)→V
 |some (v,_)=>v.cz
 |none=> .undef
theorem MO (b s q:Nat):fzA h bs (.sl b s q)=br (bs.contains b) (fzO (ic h (.sl b s q))) (.sl b s q):=by
 simp only [fzA,fzC,fzO]
 by_cases hb:b∈bs
 ·simp [hb,br];cases ic h (.sl b s q)<;>rfl
 ·simp [hb,br]
theorem Qq (b i o m:Nat):fzA h bs (.ptr b i o m)=br (bs.contains b) .undef (.ptr b i o m):=by
 simp only [fzA,fzC]
 by_cases hb:b∈bs<;>simp [hb,br]
theorem PS (v:V) (b:List Nat):fzO (some (v,b))=v.cz:=rfl
theorem X8 (cs:List V):fzA h bs (.agg cs)=br ((cs.map (fzC h bs)).all V.cell) (.agg (cs.map (fzC h bs))) .undef:=by
 simp only [fzA]
 cases (cs.map (fzC h bs)).all V.cell<;>rfl
theorem Wj (f:FuncId) (cs:List V):fzA h bs (.fn f cs)=br (cs.all okC&& !(cs.flatMap ju).any (fun b=>bs.contains b)) (.fn f cs) .undef:=by
 simp only [fzA,fzC]
 have:(fun b=>decide (b∈bs))=fun b=>bs.contains b:=by funext b;simp [Bool.eq_iff_iff]
 rw [this]
 cases (cs.all okC&& !(cs.flatMap ju).any (fun b=>bs.contains b))<;>rfl
theorem Tb (v:Value):fzC h bs (.lit v)= .lit v:=rfl
theorem UO (m:Nat) (r:List (List V)):fzC h bs (.imm m r)= .imm m r:=rfl
theorem Xr (f:FuncId) (cs:List V):fzC h bs (.fn f cs)=br (cs.all okC&& !(cs.flatMap ju).any (fun b=>bs.contains b)) (.fn f cs) .undef:=Wj (h:=h) f cs
theorem Tf (b i o m:Nat):okC (.ptr b i o m)=true:=rfl
theorem Sp (b s q:Nat):okC (.sl b s q)=true:=rfl
theorem SF (v:Value):okC (.lit v)=true:=rfl
theorem UM (m:Nat) (r:List (List V)):okC (.imm m r)=true:=rfl
theorem Z4 (f:FuncId):okC (.fn f [])=true:=rfl
theorem Rs (r:List V) (o:Nat):fzC h bs (.iptr r o)= .iptr r o:=rfl
theorem U3 (b s q:Nat):fzC h bs (.sl b s q)=br (bs.contains b) (fzO (ic h (.sl b s q))) (.sl b s q):=MO b s q
theorem Uf (b i o m:Nat):fzC h bs (.ptr b i o m)=br (bs.contains b) .undef (.ptr b i o m):=Qq (h:=h) b i o m
theorem SK:fzM h bs []=[]:=rfl
def fzK (h:ak) (bs:List Nat) (k:Blk):Blk:=if k.op then (if (k.rows.map (·.map (fzC h bs))).all (·.all V.cell) then { k with rows:=k.rows.map (·.map (fzC h bs)) } else gu) else k
theorem Nq (b:Nat) (k:Blk) (r:List (Nat×Blk)):fzM h bs ((b,k)::r)=br (bs.contains b) (fzM h bs r) ((b,fzK h bs k)::fzM h bs r):=by
 simp only [fzM,fzK]
 by_cases hb:b∈bs<;>simp [hb,br]
theorem YY (m:Nat) (r:List (List V)):fzK h bs ⟨m,false,r⟩=⟨m,false,r⟩:=rfl
theorem Ym (m:Nat) (row:List V):fzK h bs ⟨m,true,[row]⟩=br ((row.map (fzC h bs)).all V.cell) ⟨m,true,[row.map (fzC h bs)]⟩ gu:=by
 simp only [fzK,List.map_cons,List.map_nil,List.all_cons,List.all_nil,Bool.and_true,if_true]
 cases (row.map (fzC h bs)).all V.cell<;>rfl
section
variable {R:Type} {T:Tab} {ow:bK} {k:aH→St→Option R} {d:Option Nat} {n:Nat} {ss:List aQ} {live:List Nat} {K:List Fr} {st:St} {base i:Nat} {deps:List (List Nat)} {rs:List Rec} {fp:List Nat} {r:R}
theorem we {fl ro:Bool} {h:ak} {new:Nat} {ids bor:List Nat} {x:Option (V×List Blk)} {p:V×List Blk} (hx:x=some p) (hr:aft T ow k d n ss live K st (xI fl ro h new ids bor (some p))=some r):aft T ow k d n ss live K st (xI fl ro h new ids bor x)=some r:=by
 rw [hx];exact hr
theorem iS {fl ro:Bool} {h:ak} {new:Nat} {ids bor:List Nat} {x:Option (V×List Blk)} {p:V×List Blk} (hx:x=some p) (hr:y5 T ow k d base i ss deps live rs K st fp (xI fl ro h new ids bor (some p))=some r):y5 T ow k d base i ss deps live rs K st fp (xI fl ro h new ids bor x)=some r:=by
 rw [hx];exact hr
theorem a01 (b:Int):nn b=decide (0≤b):=rfl
theorem a1e (b:Int):nz b=decide (b≠0):=rfl
theorem WL (i:Int) (n:Nat):inb i n=(decide (0≤i)&&decide (i.toNat<n)):=rfl
end
end
section
variable {ow:bK} {ev:Opd→V} {h:ak} {α:Type} {e:En α} {l:List α}
theorem a0q (x:Opd):cU ow (.mv x) ev h=[]:=rfl
theorem a06 (x:Opd):(AOp.mv x).opds=[x]:=rfl
theorem Tk (c a b:Opd):cU ow (.pick c a b) ev h=((AOp.pick c a b).opds.map ev).flatMap cH:=rfl
theorem Sr (c a b:Opd):(AOp.pick c a b).opds=[c,a,b]:=rfl
theorem Oe (z:List Value):cU ow (.alloc z) ev h=((AOp.alloc z).opds.map ev).flatMap cH:=rfl
theorem OQ (z:List Value):(AOp.alloc z).opds=[]:=rfl
theorem WH (m:Nat) (x:Opd):cU ow (.box m x) ev h=((AOp.box m x).opds.map ev).flatMap cH:=rfl
theorem ZC (m:Nat) (x:Opd):(AOp.box m x).opds=[x]:=rfl
theorem Ek (z:List Value) (ps:List (Nat×Nat×Opd)):cU ow (.build z ps) ev h=((AOp.build z ps).opds.map ev).flatMap cH:=rfl
theorem F5 (z:List Value) (ps:List (Nat×Nat×Opd)):(AOp.build z ps).opds=ps.map (·.2.2):=rfl
theorem AQ (m:Nat) (z:List Value) (l:Nat) (ps:List (Nat×Opd)):cU ow (.buildSlice m z l ps) ev h=((AOp.buildSlice m z l ps).opds.map ev).flatMap cH:=rfl
theorem AB (m:Nat) (z:List Value) (l:Nat) (ps:List (Nat×Opd)):(AOp.buildSlice m z l ps).opds=ps.map (·.2):=rfl
theorem Ts (g:Option Nat) (x:Opd):cU ow (.load g x) ev h=((AOp.load g x).opds.map ev).flatMap cH:=rfl
theorem Sk (g:Option Nat) (x:Opd):(AOp.load g x).opds=[x]:=rfl
theorem Qg (m:Nat) (x y:Opd):cU ow (.store m x y) ev h=((AOp.store m x y).opds.map ev).flatMap cH:=rfl
theorem QN (m:Nat) (x y:Opd):(AOp.store m x y).opds=[x,y]:=rfl
theorem Fe (x:Opd):cU ow (.nilCheck x) ev h=((AOp.nilCheck x).opds.map ev).flatMap cH:=rfl
theorem Fi (x:Opd):(AOp.nilCheck x).opds=[x]:=rfl
theorem WP (op:BinOp) (x y:Opd):cU ow (.bin op x y) ev h=((AOp.bin op x y).opds.map ev).flatMap cH:=rfl
theorem XV (op:BinOp) (x y:Opd):(AOp.bin op x y).opds=[x,y]:=rfl
theorem Rx (b:Bool) (ks:List Bool) (x y:Opd):cU ow (.eqAgg b ks x y) ev h=((AOp.eqAgg b ks x y).opds.map ev).flatMap cH:=rfl
theorem OM (b:Bool) (ks:List Bool) (x y:Opd):(AOp.eqAgg b ks x y).opds=[x,y]:=rfl
theorem Zv (b:Bool) (x y:Opd):cU ow (.beq b x y) ev h=((AOp.beq b x y).opds.map ev).flatMap cH:=rfl
theorem XD (b:Bool) (x y:Opd):(AOp.beq b x y).opds=[x,y]:=rfl
theorem a1A (op:UnOp) (x:Opd):cU ow (.un op x) ev h=((AOp.un op x).opds.map ev).flatMap cH:=rfl
theorem a0c (op:UnOp) (x:Opd):(AOp.un op x).opds=[x]:=rfl
theorem PZ (k:IntKind) (x:Opd):cU ow (.toInt k x) ev h=((AOp.toInt k x).opds.map ev).flatMap cH:=rfl
theorem Nf (k:IntKind) (x:Opd):(AOp.toInt k x).opds=[x]:=rfl
theorem Ta (x:Opd):cU ow (.same x) ev h=((AOp.same x).opds.map ev).flatMap cH:=rfl
theorem TZ (x:Opd):(AOp.same x).opds=[x]:=rfl
theorem IA (x:Opd):cU ow (.toBytes x) ev h=((AOp.toBytes x).opds.map ev).flatMap cH:=rfl
theorem GU (x:Opd):(AOp.toBytes x).opds=[x]:=rfl
theorem Ol (x:Opd):cU ow (.toStr x) ev h=((AOp.toStr x).opds.map ev).flatMap cH:=rfl
theorem O6 (x:Opd):(AOp.toStr x).opds=[x]:=rfl
theorem FU (f:FuncId) (cs:List Opd):cU ow (.makeFunc f cs) ev h=[]:=rfl
theorem Gr (f:FuncId) (cs:List Opd):(AOp.makeFunc f cs).opds=cs:=rfl
theorem DH (m b:Nat) (z:List Value) (x y:Opd):cU ow (.makeSlice m b z x y) ev h=((AOp.makeSlice m b z x y).opds.map ev).flatMap cH:=rfl
theorem CU (m b:Nat) (z:List Value) (x y:Opd):(AOp.makeSlice m b z x y).opds=[x,y]:=rfl
theorem Fh (x:Opd) (lo hi:Option Opd):cU ow (.sliceStr x lo hi) ev h=((AOp.sliceStr x lo hi).opds.map ev).flatMap cH:=rfl
theorem FF (x:Opd) (lo hi:Option Opd):(AOp.sliceStr x lo hi).opds=x::(vg lo++vg hi):=rfl
theorem R7 (m:Nat) (x:Opd) (lo hi mx:Option Opd):cU ow (.slice m x lo hi mx) ev h=((AOp.slice m x lo hi mx).opds.map ev).flatMap cH:=rfl
theorem Qx (m:Nat) (x:Opd) (lo hi mx:Option Opd):(AOp.slice m x lo hi mx).opds=x::(vg lo++(vg hi++vg mx)):=rfl
theorem Z1 (m:Nat) (x:Opd):cU ow (.off m x) ev h=[]:=rfl
theorem Wp (m:Nat) (x:Opd):(AOp.off m x).opds=[x]:=rfl
theorem N1 (m:Nat) (g:Option Nat) (x:Opd):cU ow (.field m g x) ev h=((AOp.field m g x).opds.map ev).flatMap cH:=rfl
theorem Ok (m:Nat) (g:Option Nat) (x:Opd):(AOp.field m g x).opds=[x]:=rfl
theorem Z9 (m:Nat) (x y:Opd):cU ow (.idx m x y) ev h=((AOp.idx m x y).opds.map ev).flatMap cH:=rfl
theorem Xk (m:Nat) (x y:Opd):(AOp.idx m x y).opds=[x,y]:=rfl
theorem MB (m q:Nat) (x y:Opd):cU ow (.idxArr m q x y) ev h=((AOp.idxArr m q x y).opds.map ev).flatMap cH:=rfl
theorem Mp (m q:Nat) (x y:Opd):(AOp.idxArr m q x y).opds=[x,y]:=rfl
theorem RB (x y:Opd):cU ow (.ixStr x y) ev h=((AOp.ixStr x y).opds.map ev).flatMap cH:=rfl
theorem NY (x y:Opd):(AOp.ixStr x y).opds=[x,y]:=rfl
theorem O2 (m q:Nat) (g:Option Nat) (x y:Opd):cU ow (.ixAgg m q g x y) ev h=((AOp.ixAgg m q g x y).opds.map ev).flatMap cH:=rfl
theorem Pl (m q:Nat) (g:Option Nat) (x y:Opd):(AOp.ixAgg m q g x y).opds=[x,y]:=rfl
theorem XH (x:Opd) (i:Nat):cU ow (.ext x i) ev h=[]:=rfl
theorem WI (x:Opd) (i:Nat):(AOp.ext x i).opds=[x]:=rfl
theorem Ys (b:Bool) (x:Opd):cU ow (.len b x) ev h=[]:=rfl
theorem Zm (b:Bool) (x:Opd):(AOp.len b x).opds=[x]:=rfl
theorem M7 (m:Nat) (x:Opd):cU ow (.lenArr m x) ev h=((AOp.lenArr m x).opds.map ev).flatMap cH:=rfl
theorem Ky (m:Nat) (x:Opd):(AOp.lenArr m x).opds=[x]:=rfl
theorem HH (m b:Nat) (z:List Value) (x y:Opd):cU ow (.appendN m b z x y) ev h=((AOp.appendN m b z x y).opds.map ev).flatMap cH:=rfl
theorem Ht (m b:Nat) (z:List Value) (x y:Opd):(AOp.appendN m b z x y).opds=[x,y]:=rfl
theorem R6 (b:Bool) (x:Opd):cU ow (.isNil b x) ev h=((AOp.isNil b x).opds.map ev).flatMap cH:=rfl
theorem PF (b:Bool) (x:Opd):(AOp.isNil b x).opds=[x]:=rfl
theorem JQ (m b:Nat) (z:List Value) (x y:Opd):cU ow (.append m b z x y) ev h=((AOp.append m b z x y).opds.map ev).flatMap cH:=rfl
theorem Kd (m b:Nat) (z:List Value) (x y:Opd):(AOp.append m b z x y).opds=[x,y]:=rfl
theorem Sy (m:Nat) (x y:Opd):cU ow (.copy m x y) ev h=((AOp.copy m x y).opds.map ev).flatMap cH:=rfl
theorem Tg (m:Nat) (x y:Opd):(AOp.copy m x y).opds=[x,y]:=rfl
theorem Sd (x y:Opd):cU ow (.max2 x y) ev h=((AOp.max2 x y).opds.map ev).flatMap cH:=rfl
theorem Se (x y:Opd):(AOp.max2 x y).opds=[x,y]:=rfl
theorem SI (x y:Opd):cU ow (.min2 x y) ev h=((AOp.min2 x y).opds.map ev).flatMap cH:=rfl
theorem Ub (x y:Opd):(AOp.min2 x y).opds=[x,y]:=rfl
theorem DV (x:Opd):cU ow (.bytesOwn x) ev h=((AOp.bytesOwn x).opds.map ev).flatMap cH:=rfl
theorem E7 (x:Opd):(AOp.bytesOwn x).opds=[x]:=rfl
theorem Oc (m:Nat) (x:Opd):cU ow (.arrOf m x) ev h=((AOp.arrOf m x).opds.map ev).flatMap cH:=rfl
theorem Qu (m:Nat) (x:Opd):(AOp.arrOf m x).opds=[x]:=rfl
theorem X9 (x:Opd):vg (some x)=[x]:=rfl
theorem YN:vg none=[]:=rfl
def fpC:Option (List V×List Blk×List Nat×List Nat)→List Nat
 |some (_,_,ids,bor)=>ids++bor
 |none=>[]
theorem QX (a:List V) (b:List Blk) (ids bor:List Nat):fpC (some (a,b,ids,bor))=ids++bor:=rfl
theorem RP (f:FuncId) (args:List Opd):cU ow (.call f args) ev h=fpC (ca ow h f (args.map ev)):=by
 show wQ ow h f (args.map ev)=_
 unfold wQ fpC
 cases ca ow h f (args.map ev)<;>rfl
def fpD (ow:bK) (h:ak) (args:List V):V→List Nat
 | .fn k caps=>fpC (ca ow h k (args++caps))
 |_=>[]
theorem WX (f:Opd) (args:List Opd):cU ow (.dyn f args) ev h=fpD ow h (args.map ev) (ev f):=by
 show (match ev f with
  | .fn k caps=>wQ ow h k (args.map ev++caps)
  |_=>[])=_
 cases ev f<;>first|rfl| (simp only [fpD,wQ,fpC];cases ca ow h _ _<;>rfl)
theorem Zy (args:List V) (k:FuncId) (caps:List V):fpD ow h args (.fn k caps)=fpC (ca ow h k (args++caps)):=rfl
theorem TE (cs:List V):cH (.agg cs)=cs.flatMap ju:=rfl
theorem YF (f:FuncId) (cs:List V):cH (.fn f cs)=cs.flatMap ju:=rfl
theorem S7 (cs:List V):cH (.tup cs)=cs.flatMap fun| .agg cs=>cs.flatMap ju|v=>ju v:=rfl
theorem Vs (v:Value):cH (.lit v)=[]:=rfl
theorem VT (m:Nat) (r:List (List V)):cH (.imm m r)=[]:=rfl
theorem Pe (r:List V) (o:Nat):cH (.iptr r o)=[]:=rfl
theorem VH (b i o m:Nat):cH (.ptr b i o m)=[b]:=rfl
theorem SU (b s q:Nat):cH (.sl b s q)=[b]:=rfl
theorem M8:cH .undef=[]:=rfl
theorem RO (v:Value):ju (.lit v)=[]:=rfl
theorem Vl (m:Nat) (r:List (List V)):ju (.imm m r)=[]:=rfl
theorem N7 (r:List V) (o:Nat):ju (.iptr r o)=[]:=rfl
theorem T2 (b i o m:Nat):ju (.ptr b i o m)=[b]:=rfl
theorem Vb (b s q:Nat):ju (.sl b s q)=[b]:=rfl
theorem XX (f:FuncId) (cs:List V):ju (.fn f cs)=[]:=rfl
theorem Lv:ju .undef=[]:=rfl
theorem EN (fp:List Nat) (b:Nat):jc h fp b=br (fp.contains b) (h b) none:=by
 unfold jc
 by_cases hb:b∈fp<;>simp [hb,br]
theorem UG (rs:List Rec) (i:Nat) (fp wr:List Nat):KL rs i fp wr=br (fp.isEmpty&&wr.isEmpty) rs (rs++[⟨i,fp,wr⟩]):=by
 have h:Rec.loud ⟨i,fp,wr⟩= !(fp.isEmpty&&wr.isEmpty):=rfl
 unfold KL
 cases h1:Rec.loud ⟨i,fp,wr⟩ with
 |true=>
  rw [h1] at h
  have h2:(fp.isEmpty&&wr.isEmpty)=false:=by
   cases hx:fp.isEmpty&&wr.isEmpty with
   |false=>rfl
   |true=>rw [hx] at h;cases h
  rw [h2,aO,List.filter_cons_of_pos h1];rfl
 |false=>
  rw [h1] at h
  have h2:(fp.isEmpty&&wr.isEmpty)=true:=by
   cases hx:fp.isEmpty&&wr.isEmpty with
   |true=>rfl
   |false=>rw [hx] at h;cases h
  rw [h2,bR,List.filter_cons_of_neg (by rw [h1];decide)];simp
theorem Li (deps:List (List Nat)):iG deps []=true:=rfl
theorem GZ (deps:List (List Nat)) (p:Rec) (r:List Rec):iG deps (p::r)=(rN deps p r&&iG deps r):=rfl
theorem UH (deps:List (List Nat)) (p:Rec):rN deps p []=true:=rfl
theorem Nd (deps:List (List Nat)) (i j:Nat) (f g w u:List Nat) (r:List Rec):rN deps ⟨i,f,w⟩ (⟨j,g,u⟩::r)=((w.isEmpty&&u.isEmpty||(deps.getD j []).contains i|| !(w.any (fun b=>decide (b∈g)||decide (b∈u))||u.any (fun b=>decide (b∈f))))&&rN deps ⟨i,f,w⟩ r):=rfl
theorem GV {β:Type} (a d:β) (r:List β):(a::r).getD 0 d=a:=rfl
theorem Hn {β:Type} (a d:β) (n:Nat) (r:List β):(a::r).getD (n+1) d=r.getD n d:=rfl
theorem TQ (m:Nat) (cs:List V) (n:Nat):YQ m cs h n=br (Nat.beq cs.length m&&cs.all V.cell) (frO (h n) n ⟨m,true,[cs]⟩ (.ptr n 0 0 1)) none:=rfl
theorem ae (x:Int) (h1: -9223372036854775808≤x) (h2:x<9223372036854775808):IntKind.wrap .i64 x=x:=by
 simp [IntKind.wrap,IntKind.bits,IntKind.signed];omega
theorem pF (x:Int) (h1:0≤x) (h2:x<18446744073709551616):IntKind.wrap .u64 x=x:=by
 simp [IntKind.wrap,IntKind.bits,IntKind.signed];omega
theorem TB (x:Int) (h1:0≤x) (h2:x<256):IntKind.wrap .u8 x=x:=by
 simp [IntKind.wrap,IntKind.bits,IntKind.signed];omega
theorem wV (n:Nat):(OfNat.ofNat n:Int)=(n:Int):=rfl
theorem PL (n:Nat) (h:Nat.ble n 9223372036854775807=true):IntKind.wrap .i64 (no_index (OfNat.ofNat n:Int))=OfNat.ofNat n:=by
 have h1:=Nat.le_of_ble_eq_true h
 rw [wV];exact ae _ (by omega) (by omega)
theorem Kj (n:Nat) (h:Nat.ble n 18446744073709551615=true):IntKind.wrap .u64 (no_index (OfNat.ofNat n:Int))=OfNat.ofNat n:=by
 have h1:=Nat.le_of_ble_eq_true h
 rw [wV];exact pF _ (by omega) (by omega)
theorem KJ (n:Nat) (h:Nat.ble n 255=true):IntKind.wrap .u8 (no_index (OfNat.ofNat n:Int))=OfNat.ofNat n:=by
 have h1:=Nat.le_of_ble_eq_true h
 rw [wV];exact TB _ (by omega) (by omega)
theorem YA (a b:Nat):(a==b)=decide (a=b):=by
 by_cases h:a=b
 ·subst h;simp
 ·rw [decide_eq_false h];simpa using h
theorem Zu:List.range 0=[]:=rfl
theorem H6 (m:Nat) (vs:List V):fC true h m vs=qY m [] ((List.range m).flatMap fun b=>IF (h b)):=rfl
theorem K9 (m:Nat) (vs:List V):fC false h m vs=qY m [] (vs.flatMap cH):=rfl
theorem U7 (m:Nat) (row:List V):IF (some ⟨m,true,[row]⟩)=row.flatMap cH:=by simp [IF]
theorem Tp (m:Nat) (r:List (List V)):IF (some ⟨m,false,r⟩)=[]:=rfl
theorem YD:List.range 5=[0,1,2,3,4]:=rfl
theorem Ye:List.range 6=[0,1,2,3,4,5]:=rfl
theorem WD:List.range 7=[0,1,2,3,4,5,6]:=rfl
theorem Yr:List.range 8=[0,1,2,3,4,5,6,7]:=rfl
theorem JU (m:Nat) (acc:List Nat):qY m acc []=acc:=rfl
theorem HU (m b:Nat) (acc r:List Nat):qY m acc (b::r)=qY m (br (Nat.ble m b) (cG acc b) acc) r:=by
 simp only [qY,w7]
 by_cases h:m≤b<;>simp [h,br]
theorem KI (n:Nat):Int.toNat (no_index (OfNat.ofNat n:Int))=OfNat.ofNat n:=rfl
end
end Go.AI
