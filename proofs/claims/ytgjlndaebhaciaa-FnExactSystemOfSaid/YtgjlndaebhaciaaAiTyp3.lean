/- The machine's operations on values of Lean's own types: what writes, what makes, what calls; a function's end. -/
import Derived.Test.YtgjlndaebhaciaaAiTyp2
set_option linter.unusedVariables false
set_option linter.unusedSimpArgs false
namespace Go.AI
section
variable {C:aB} {ow:FuncId→List Nat} {ev:Opd→V} {h:ah} {n:Nat} {α:Type} {e:En α} {l l2:List α}
def snO (k:Option Blk) (b s q:Nat):Option (V×List Nat):=match k with
 |some k=>if k.op=false∧0<k.esz∧s+q=k.rows.length then some (.imm k.esz (k.rows.drop s),[b]) else none
 |none=>none
theorem J4 (b s q:Nat):eo h (.sl b s q)=snO (h b) b s q:=rfl
theorem PG (m b q:Nat) (h0:Nat.blt 0 m=true) (hq:l.length=q):snO (some ⟨m,false,rws e l⟩) b 0 q=some (.imm m (rws e l),[b]):=by
 rw [lH,decide_eq_true_eq] at h0
 simp [snO,rws,hq,h0]
theorem Et (k:IntKind) (a:Int):eo h (.lit (.int k a))=some (.lit (.int k a),[]):=rfl
theorem Ce (a:Bool):eo h (.lit (.bool a))=some (.lit (.bool a),[]):=rfl
theorem EQ (a:List UInt8):eo h (S a)=some (S a,[]):=rfl
theorem Hy:eo h (.lit (.slice none 0 0))=some (.lit (.slice none 0 0),[]):=rfl
theorem HP (m:Nat) (r:List (List V)):eo h (.imm m r)=some (.imm m r,[]):=rfl
def snC:Option (V×List Nat)→Option (List V×List Nat)→Option (List V×List Nat)
 |some (a,bs),some (r,bs')=>some (a.cz::r,bs++bs')
 |_,_=>none
theorem CQ:dH h []=some ([],[]):=rfl
theorem zW (v:V) (r:List V):dH h (v::r)=snC (eo h v) (dH h r):=by
 simp only [dH,snC]
 cases eo h v<;>cases dH h r<;>rfl
theorem HY (a:V) (bs:List Nat) (r:List V) (bs':List Nat):snC (some (a,bs)) (some (r,bs'))=some (a.cz::r,bs++bs'):=rfl
theorem ON (k:IntKind) (a:Int):(V.lit (.int k a)).cz= .lit (.int k a):=rfl
theorem Mk (a:Bool):(V.lit (.bool a)).cz= .lit (.bool a):=rfl
theorem OG (a:List UInt8):(S a).cz=S a:=rfl
theorem Om (a:Array Value):(V.lit (.tuple a)).cz= .lit (.tuple a):=rfl
theorem Qn:(V.lit (.slice none 0 0)).cz= .imm 1 []:=rfl
theorem Nh (m:Nat):(V.imm m []).cz= .imm 1 []:=rfl
theorem Nv (b i o m:Nat):(V.ptr b i o m).cz= .ptr b i o m:=rfl
theorem Q4 (b s q:Nat):(V.sl b s q).cz= .sl b s q:=rfl
theorem Lr (r:List V) (o:Nat):(V.iptr r o).cz= .iptr r o:=rfl
theorem Ry (f:FuncId) (cs:List V):(V.fn f cs).cz= .fn f cs:=rfl
theorem H4:V.undef.cz= .undef:=rfl
theorem KG (cs:List V):(V.agg cs).czA= .agg (cs.map V.cz):=rfl
theorem Ly (k:IntKind) (a:Int):(V.lit (.int k a)).czA= .lit (.int k a):=rfl
theorem HJ (a:Bool):(V.lit (.bool a)).czA= .lit (.bool a):=rfl
theorem L0 (a:List UInt8):(S a).czA=S a:=rfl
theorem Mg:(V.lit (.slice none 0 0)).czA= .imm 1 []:=rfl
theorem L1 (m:Nat) (r:List (List V)):(V.imm m r).czA=(V.imm m r).cz:=rfl
theorem M5 (b i o m:Nat):(V.ptr b i o m).czA= .ptr b i o m:=rfl
theorem Jz (b s q:Nat):(V.sl b s q).czA= .sl b s q:=rfl
theorem Hl (r:List V) (o:Nat):(V.iptr r o).czA= .iptr r o:=rfl
theorem Nl (f:FuncId) (cs:List V):(V.fn f cs).czA= .fn f cs:=rfl
theorem Dj:V.undef.czA= .undef:=rfl
theorem LJ (cs:List V):(V.tup cs).czR= .tup (cs.map V.czA):=rfl
theorem Kf (cs:List V):(V.agg cs).czR= .agg (cs.map V.cz):=rfl
theorem JV (k:IntKind) (a:Int):(V.lit (.int k a)).czR= .lit (.int k a):=rfl
theorem Fs (a:Bool):(V.lit (.bool a)).czR= .lit (.bool a):=rfl
theorem Km (a:List UInt8):(S a).czR=S a:=rfl
theorem KC:(V.lit (.slice none 0 0)).czR= .imm 1 []:=rfl
theorem Kn (m:Nat) (r:List (List V)):(V.imm m r).czR=(V.imm m r).cz:=rfl
theorem Ks (b i o m:Nat):(V.ptr b i o m).czR= .ptr b i o m:=rfl
theorem My (b s q:Nat):(V.sl b s q).czR= .sl b s q:=rfl
theorem Fy (r:List V) (o:Nat):(V.iptr r o).czR= .iptr r o:=rfl
theorem P7 (f:FuncId) (cs:List V):(V.fn f cs).czR= .fn f cs:=rfl
theorem G0 (m:Nat) (row:List V):Blk.cz ⟨m,true,[row]⟩=⟨m,true,[row.map V.cz]⟩:=rfl
theorem EB (m:Nat) (r:List (List V)):Blk.cz ⟨m,false,r⟩=⟨m,false,r⟩:=rfl
theorem Nk (k:IntKind) (a:Int):zc (.int k a)= .lit (.int k a):=rfl
theorem LR (a:Bool):zc (.bool a)= .lit (.bool a):=rfl
theorem Nr (a:List UInt8):zc (.string ⟨⟨a⟩⟩)=S a:=rfl
theorem Qb:zc (.slice none 0 0)= .imm 1 []:=rfl
def stO (k:Option Blk) (b size i o m:Nat) (x:V) (h:ah):Option (V×Upd):=match k with
 |some k=>if k.rows.length=m then (match k.rows[i]? with
  |some row=>
   if k.op then
    (if x.cells.length=size∧o+size≤row.length∧x.cells.all V.cell then
     some (.undef,[(b,{ k with rows:=k.rows.set i (row.take o++(x.cells++row.drop (o+size))) })]) else none)
   else match dH h x.cells with
    |some (cs,bs)=>if cs.length=size∧o+size≤row.length∧ ¬b∈bs then
     some (.undef,cf bs++[(b,{ k with rows:=k.rows.set i (row.take o++(cs++row.drop (o+size))) })]) else none
    |none=>none
  |none=>none) else none
 |none=>none
def AJ (size:Nat) (a x:V) (h:ah):Option (V×Upd):=match a with
 | .ptr b i o m=>stO (h b) b size i o m x h
 |_=>none
theorem Lz (size:Nat) (a x:Opd):ae C ow (.store size a x) ev h n=AJ size (ev a) (ev x) h:=by
 simp only [ae,AJ,stO]
 cases ev a with
 |ptr b i o m=>dsimp only;cases h b<;>rfl
 |_=>rfl
theorem Fe (size b i o m:Nat) (x:V):AJ size (.ptr b i o m) x h=stO (h b) b size i o m x h:=rfl
theorem Au (m b size o:Nat) (row:List V) (x:V):stO (some ⟨m,true,[row]⟩) b size 0 o 1 x h=
 br (Nat.beq x.cells.length size&&(Nat.ble (o+size) row.length&&x.cells.all V.cell)) (some (.undef,[(b,⟨m,true,[row.take o++(x.cells++row.drop (o+size))]⟩)])) none:=by
 rw [p6,oJ]
 by_cases h1:x.cells.length=size<;>by_cases h2:o+size≤row.length<;>cases h3:x.cells.all V.cell<;>simp [stO,h1,h2,h3,br]
def stT (r:List (List V)) (m b size i o:Nat) (row:List V):Option (List V×List Nat)→Option (V×Upd)
 |some (cs,bs)=>br (Nat.beq cs.length size&&(Nat.ble (o+size) row.length&& !bs.contains b)) (some (.undef,cf bs++[(b,⟨m,false,cD r i (row.take o++(cs++row.drop (o+size)))⟩)])) none
 |none=>none
theorem xq (r:List (List V)) (m b size i o:Nat) (row cs:List V) (bs:List Nat):stT r m b size i o row (some (cs,bs))=
 br (Nat.beq cs.length size&&(Nat.ble (o+size) row.length&& !bs.contains b)) (some (.undef,cf bs++[(b,⟨m,false,cD r i (row.take o++(cs++row.drop (o+size)))⟩)])) none:=rfl
theorem NV (m b size i o q:Nat) (x:V) (hq:l.length=q):stO (some ⟨m,false,rws e l⟩) b size i o q x h=(l[i]?).bind (fun y=>stT (rws e l) m b size i o (e.enc y) (dH h x.cells)):=by
 simp only [stO]
 have:(rws e l).length=q:=by simp [rws,hq]
 rw [if_pos this]
 have h2:(rws e l)[i]? =(l[i]?).map e.enc:=by simp [rws]
 rw [h2]
 cases hl:l[i]? with
 |none=>rfl
 |some y=>
  simp only [Option.map_some,Option.bind_some]
  cases hs:dH h x.cells with
  |none=>simp [stT]
  |some p=>
   obtain ⟨cs,bs⟩:=p
   rw [xq,p6,oJ]
   by_cases h1:cs.length=size<;>by_cases h2:o+size≤(e.enc y).length<;>by_cases h3:b∈bs<;>simp [h1,h2,h3,br,cD]
def psC (i:Nat):Option (List V×List Nat)→Option (List (Nat×V)×List Nat)→Option (List (Nat×V)×List Nat)
 |some (cs,bs),some (r',bs')=>some ((i,.agg cs)::r',bs++bs')
 |_,_=>none
theorem tq:bj h ev []=some ([],[]):=rfl
theorem rk (i:Nat) (x:Opd) (r:List (Nat×Opd)):bj h ev ((i,x)::r)=psC i (dH h (ev x).cells) (bj h ev r):=by
 simp only [bj,psC]
 cases dH h (ev x).cells<;>cases bj h ev r<;>rfl
theorem H7 (i:Nat) (cs:List V) (bs:List Nat) (r:List (Nat×V)) (bs':List Nat):psC i (some (cs,bs)) (some (r,bs'))=some ((i,.agg cs)::r,bs++bs'):=rfl
def oM (esz:Nat) (rows:List (List V)):List (Nat×V)→Option (List (List V))
 |[]=>some rows
 | (i,v)::r=>br (Nat.beq v.cells.length esz&&(Nat.blt i rows.length&&v.cells.all V.cell)) (oM esz (rows.set i v.cells) r) none
theorem wG (esz:Nat): ∀(ps:List (Nat×V)) (rows:List (List V)),rz esz rows ps=oM esz rows ps
 |[],_=>rfl
 | (i,v)::r,rows=>by
   simp only [rz,oM,p6,lH]
   rw [←wG esz r]
   by_cases h1:v.cells.length=esz<;>by_cases h2:i<rows.length<;>cases h3:v.cells.all V.cell<;>simp [h1,h2,br]
def Ao (u0:Upd):Option (V×Upd)→Option (V×Upd)
 |some (v,u)=>some (v,u0++u)
 |none=>none
theorem DX (u0 u:Upd) (v:V):Ao u0 (some (v,u))=some (v,u0++u):=rfl
theorem J8 (u0:Upd) (c:Bool) (x y:Option (V×Upd)):Ao u0 (br c x y)=br c (Ao u0 x) (Ao u0 y):=by cases c<;>rfl
theorem E1 (u0:Upd):Ao u0 none=none:=rfl
def bsR (esz len:Nat) (zero:List Value) (bs:List Nat) (h:ah) (n:Nat):Option (List (List V))→Option (V×Upd)
 |some rows=>br (Nat.beq zero.length esz&&(zero.all aC&&(Nat.ble (len*esz) 16777216&& !bs.contains n))) (Ao (cf bs) (frO (h n) n ⟨esz,false,mkR n rows⟩ (.sl n 0 len))) none
 |none=>none
def bsS (esz len:Nat) (zero:List Value) (h:ah) (n:Nat):Option (List (Nat×V)×List Nat)→Option (V×Upd)
 |some (ps,bs)=>bsR esz len zero bs h n (oM esz (List.replicate len (zero.map zc)) ps)
 |none=>none
theorem vU (esz len:Nat) (zero:List Value) (ps:List (Nat×Opd)):ae C ow (.buildSlice esz zero len ps) ev h n=bsS esz len zero h n (bj h ev ps):=by
 simp only [ae,bsS,wG,iX]
 cases bj h ev ps with
 |none=>rfl
 |some p=>
  obtain ⟨qs,bs⟩:=p
  dsimp only
  cases oM esz (List.replicate len (zero.map zc)) qs with
  |none=>rfl
  |some rows=>
   simp only [bsR,p6,oJ,mkR]
   by_cases h1:zero.length=esz<;>cases h2:zero.all aC<;>by_cases h3:len*esz≤16777216<;>by_cases h4:n∈bs<;>simp [h1,h3,h4,br]
   cases frO (h n) n ⟨esz,false,rows⟩ (.sl n 0 len)<;>rfl
theorem HM (esz len:Nat) (zero:List Value) (ps:List (Nat×V)) (bs:List Nat):bsS esz len zero h n (some (ps,bs))=bsR esz len zero bs h n (oM esz (List.replicate len (zero.map zc)) ps):=rfl
theorem Ew (esz len:Nat) (zero:List Value) (bs:List Nat) (rows:List (List V)):bsR esz len zero bs h n (some rows)=br (Nat.beq zero.length esz&&(zero.all aC&&(Nat.ble (len*esz) 16777216&& !bs.contains n))) (Ao (cf bs) (frO (h n) n ⟨esz,false,mkR n rows⟩ (.sl n 0 len))) none:=rfl
def tbS (x:V) (h:ah) (n:Nat):Option (V×Upd):=match x with
 | .lit (.string s)=>if s.size≤aK then dq h n ⟨1,false,s.data.toList.map fun b=>[.lit (.int .u8 b.toNat)]⟩ (.sl n 0 s.size) else none
 |_=>none
theorem CI (x:Opd):ae C ow (.toBytes x) ev h n=tbS (ev x) h n:=rfl
theorem QG (s:List UInt8):tbS (S s) h n=br (dM s.length 1) (frO (h n) n ⟨1,false,rws eU8 s⟩ (.sl n 0 s.length)) none:=by
 simp only [tbS,vT,dM,Nat.mul_one,iX]
 by_cases h1:s.length≤aK<;>simp [h1,br]
 rfl
def boS (x:V) (h:ah):Option (V×Upd):=match x with
 | .sl b s n=>match h b with
   |some k=>if k.op=false∧0<k.esz∧s+n=k.rows.length∧0<n then some (.sl b s n,[(b,k)]) else none
   |none=>none
 |_=>none
theorem zj (x:Opd):ae C ow (.bytesOwn x) ev h n=boS (ev x) h:=rfl
def boO (k:Option Blk) (b s n:Nat):Option (V×Upd):=match k with
 |some k=>if k.op=false∧0<k.esz∧s+n=k.rows.length∧0<n then some (.sl b s n,[(b,k)]) else none
 |none=>none
theorem KM (b s q:Nat):boS (.sl b s q) h=boO (h b) b s q:=rfl
theorem OC (b m q:Nat) (h0:Nat.blt 0 m=true) (hq:l.length=q):boO (some ⟨m,false,rws e l⟩) b 0 q=br (decide (0<q)) (some (.sl b 0 q,[(b,⟨m,false,rws e l⟩)])) none:=by
 rw [lH,decide_eq_true_eq] at h0
 by_cases h1:0<q<;>simp [boO,rws,hq,h0,h1,br]
theorem yo (l:List UInt8):ae.bytesOf (rws eU8 l)=some l:=by
 induction l with
 |nil=>rfl
 |cons b l ih=>
  simp only [rws,List.map_cons,eU8] at ih ⊢
  simp only [ae.bytesOf]
  have h1:(0:Int)≤(b.toNat:Int)∧(b.toNat:Int)<256:=⟨by omega,by have:=b.toNat_lt;omega⟩
  rw [if_pos h1,ih]
  simp
noncomputable def tsR:Option (List (List V))→Option (V×Upd)
 |some rows=>match ae.bytesOf rows with
  |some l=>some (.lit (.string ⟨l.toArray⟩),[])
  |none=>none
 |none=>none
noncomputable def tsS (x:V) (h:ah):Option (V×Upd):=br (B4 x) none (tsR (bg h 1 x))
theorem Jd (x:Opd):ae C ow (.toStr x) ev h n=tsS (ev x) h:=by
 simp only [ae,tsS,tsR]
 cases B4 (ev x)
 ·simp only [Bool.false_eq_true,if_false,aZ]
  cases bg h 1 (ev x)<;>rfl
 ·rfl
theorem HS (l:List UInt8):tsR (some (rws eU8 l))=some (S l,[]):=by
 simp only [tsR,yo]
theorem Qa (l:List UInt8):tsS (sl eU8 l) h=some (S l,[]):=by
 rw [tsS,ya,aZ,ub 1 rfl,HS]
def roO (k:Option Blk) (m s q:Nat):Option (List (List V)):=match k with
 |some k=>if k.op=false∧0<k.esz∧k.esz=m∧s+q=k.rows.length then some (k.rows.drop s) else none
 |none=>none
theorem A4 (m b s q:Nat):bg h m (.sl b s q)=roO (h b) m s q:=rfl
theorem OJ (m q:Nat) (h0:Nat.blt 0 m=true) (hq:l.length=q):roO (some ⟨m,false,rws e l⟩) m 0 q=some (rws e l):=by
 rw [lH,decide_eq_true_eq] at h0
 simp [roO,rws,hq,h0]
theorem zZ (s:List UInt8):bg h 1 (S s)=some (rws eU8 s):=rfl
theorem JO (b s q:Nat):tsS (.sl b s q) h=tsR (roO (h b) 1 s q):=rfl
theorem Jy:tsS (.lit (.slice none 0 0)) h=some (S [],[]):=rfl
theorem JW:tsS (.imm 1 []) h=some (S [],[]):=rfl
def OT (esz bytes:Nat) (zero:List Value) (len cap:V) (h:ah) (n:Nat):Option (V×Upd):=match asI len,asI cap with
 |some l,some c=>if 0≤l∧l≤c∧c*bytes≤aK∧c*esz≤aK∧zero.length=esz∧zero.all aC then
  dq h n ⟨esz,false,List.replicate l.toNat (zero.map zc)⟩ (.sl n 0 l.toNat) else none
 |_,_=>none
theorem yr (esz bytes:Nat) (zero:List Value) (len cap:Opd):ae C ow (.makeSlice esz bytes zero len cap) ev h n=OT esz bytes zero (ev len) (ev cap) h n:=rfl
theorem OA (esz bytes:Nat) (zero:List Value) (k k':IntKind) (a c:Int) (hb:Nat.ble esz bytes=true) (hz:Nat.beq zero.length esz=true) (hz2:zero.all aC=true):
 OT esz bytes zero (.lit (.int k a)) (.lit (.int k' c)) h n=br (zO a c bytes) (frO (h n) n ⟨esz,false,xS n a.toNat (zero.map zc)⟩ (.sl n 0 (B5 (xS n a.toNat (zero.map zc))))) none:=by
 have hz3:=Nat.eq_of_beq_eq_true hz
 have hb2:=Nat.le_of_ble_eq_true hb
 simp only [OT,asI,zO,hz3,hz2,iX,xS,B5,List.length_replicate]
 by_cases h1:0≤a<;>by_cases h2:a≤c<;>by_cases h3:c*bytes≤aK<;>simp [h1,h2,h3,br]
 intro h4
 exfalso
 have:c*esz≤c*bytes:=Int.mul_le_mul_of_nonneg_left (by omega) (by omega)
 omega
def slS (esz:Nat) (x:V) (lo hi mx:Option V) (h:ah):Option (V×Upd):=match mx with
 |some _=>none
 |none=>match x with
  | .lit (.slice none 0 0)=>match aQ hi 0 0 with
    |some q=>match aQ lo 0 q with
     |some _=>some (.lit (.slice none 0 0),[])
     |none=>none
    |none=>none
  | .sl b s n=>match h b with
    |some k=>if k.op=false∧0<k.esz∧k.esz=esz∧s+n=k.rows.length then (match aQ hi n n with
     |some q=>match aQ lo 0 q with
      |some p=>if q=n then some (.sl b (s+p) (n-p),[]) else some ((V.imm esz (((k.rows.drop s).take q).drop p)).cz,[(b,ez)])
      |none=>none
     |none=>none) else none
    |none=>none
  | .imm e rows=>if e=esz∨rows=[] then (match aQ hi rows.length rows.length with
   |some q=>match aQ lo 0 q with
    |some p=>some ((V.imm e ((rows.take q).drop p)).cz,[])
    |none=>none
   |none=>none) else none
  |_=>none
theorem Mq (esz:Nat) (x:Opd) (lo hi:Option Opd):ae C ow (.slice esz x lo hi none) ev h n=slS esz (ev x) (lo.map ev) (hi.map ev) none h:=rfl
theorem iV (d m:Nat):aQ none d m=some d:=rfl
theorem kI (k:IntKind) (i:Int) (d m:Nat):aQ (some (.lit (.int k i))) d m=if 0≤i∧i≤m then some i.toNat else none:=rfl
theorem r6 (m:Nat) (hm:e.esz=m) (lo hi:Option V):slS m (sl e l) lo hi none h=(match aQ hi l.length l.length with
 |some q=>match aQ lo 0 q with
  |some p=>some (sl e ((l.take q).drop p),[])
  |none=>none
 |none=>none):=by
 subst hm
 rcases cQ e l with ⟨rfl,hs⟩|⟨hne,hs⟩
 ·rw [hs]
  simp only [slS,List.length_nil,or_true,if_true]
  cases aQ hi 0 0 with
  |none=>rfl
  |some q=>cases aQ lo 0 q<;>simp [P5,V.cz]
 ·rw [hs]
  simp only [slS,true_or,if_true,rws,List.length_map]
  cases aQ hi l.length l.length with
  |none=>rfl
  |some q=>cases aQ lo 0 q<;>simp [sl,rws, ←List.map_take, ←List.map_drop]
theorem On (m:Nat) (hm:e.esz=m):slS m (sl e l) none none none h=some (sl e l,[]):=by
 rw [r6 m hm];simp [iV]
theorem OY (m:Nat) (hm:e.esz=m) (k:IntKind) (a:Int):slS m (sl e l) (some (.lit (.int k a))) none none h=(fT l a l.length).bind (fun l'=>some (sl e l',[])):=by
 rw [r6 m hm]
 simp only [iV,kI,fT]
 by_cases h1:0≤a<;>by_cases h2:a≤(l.length:Int)<;>simp [h1,h2]
theorem OS (m:Nat) (hm:e.esz=m) (k:IntKind) (b:Int):slS m (sl e l) none (some (.lit (.int k b))) none h=(fT l 0 b).bind (fun l'=>some (sl e l',[])):=by
 rw [r6 m hm]
 simp only [iV,kI,fT]
 by_cases h1:0≤b<;>by_cases h2:b≤(l.length:Int)<;>simp [h1,h2]
theorem Pv (m:Nat) (hm:e.esz=m) (k k':IntKind) (a b:Int):slS m (sl e l) (some (.lit (.int k a))) (some (.lit (.int k' b))) none h=(fT l a b).bind (fun l'=>some (sl e l',[])):=by
 rw [r6 m hm]
 simp only [kI,fT]
 by_cases h1:0≤b<;>by_cases h2:b≤(l.length:Int)<;>by_cases h3:0≤a<;>by_cases h4:a≤b
 all_goals (have e1:((b.toNat:Nat):Int)=b∨ ¬0≤b:=by omega)
 all_goals (rcases e1 with e1|e1)
 all_goals (first|omega| (simp [h1,h2,h3,h4,e1];try omega))
def slO (k:Option Blk) (m b s q:Nat) (a:Int):Option (V×Upd):=match k with
 |some k=>if k.op=false∧0<k.esz∧k.esz=m∧s+q=k.rows.length then (if 0≤a∧a≤q then some (.sl b (s+a.toNat) (q-a.toNat),[]) else none) else none
 |none=>none
theorem Md (m b s q:Nat) (k:IntKind) (a:Int):slS m (.sl b s q) (some (.lit (.int k a))) none none h=slO (h b) m b s q a:=by
 simp only [slS,slO,iV,kI]
 cases h b with
 |none=>rfl
 |some k=>
  dsimp only
  split
  ·by_cases hc:0≤a∧a≤(q:Int)
   ·rw [if_pos hc,if_pos hc];simp
   ·rw [if_neg hc,if_neg hc]
  ·rfl
theorem NP (m b s q:Nat) (a:Int) (h0:Nat.blt 0 m=true) (hq:s+q=l.length):slO (some ⟨m,false,rws e l⟩) m b s q a=br (decide (0≤a)&&decide (a≤q)) (some (.sl b (s+a.toNat) (q-a.toNat),[])) none:=by
 rw [lH,decide_eq_true_eq] at h0
 by_cases h1:0≤a<;>by_cases h2:a≤(q:Int)<;>simp [slO,rws,hq,h0,h1,h2,br]
def ssS (x:V) (lo hi:Option V):Option (V×Upd):=match x with
 | .lit (.string s)=>match aQ hi s.size s.size with
   |some b=>match aQ lo 0 b with
    |some a=>some (.lit (.string (s.extract a b)),[])
    |none=>none
   |none=>none
 |_=>none
theorem zC (x:Opd) (lo hi:Option Opd):ae C ow (.sliceStr x lo hi) ev h n=ssS (ev x) (lo.map ev) (hi.map ev):=rfl
theorem zL (s:List UInt8) (a b:Nat):(⟨⟨s⟩⟩:ByteArray).extract a b=⟨⟨(s.take b).drop a⟩⟩:=by
 apply ByteArray.ext
 rw [ByteArray.data_extract]
 apply Array.ext'
 simp [List.extract_eq_take_drop,List.drop_take]
theorem qZ (s:List UInt8) (lo hi:Option V):ssS (S s) lo hi=(match aQ hi s.length s.length with
 |some q=>match aQ lo 0 q with
  |some p=>some (S ((s.take q).drop p),[])
  |none=>none
 |none=>none):=by
 simp only [ssS,vT,zL]
theorem Oz (s:List UInt8):ssS (S s) none none=some (S s,[]):=by rw [qZ];simp [iV]
theorem PB (s:List UInt8) (k:IntKind) (a:Int):ssS (S s) (some (.lit (.int k a))) none=(fT s a s.length).bind (fun l'=>some (S l',[])):=by
 rw [qZ]
 simp only [iV,kI,fT]
 by_cases h1:0≤a<;>by_cases h2:a≤(s.length:Int)<;>simp [h1,h2]
theorem Qt (s:List UInt8) (k:IntKind) (b:Int):ssS (S s) none (some (.lit (.int k b)))=(fT s 0 b).bind (fun l'=>some (S l',[])):=by
 rw [qZ]
 simp only [iV,kI,fT]
 by_cases h1:0≤b<;>by_cases h2:b≤(s.length:Int)<;>simp [h1,h2]
theorem Of (s:List UInt8) (k k':IntKind) (a b:Int):ssS (S s) (some (.lit (.int k a))) (some (.lit (.int k' b)))=(fT s a b).bind (fun l'=>some (S l',[])):=by
 rw [qZ]
 simp only [kI,fT]
 by_cases h1:0≤b<;>by_cases h2:b≤(s.length:Int)<;>by_cases h3:0≤a<;>by_cases h4:a≤b
 all_goals (have e1:((b.toNat:Nat):Int)=b∨ ¬0≤b:=by omega)
 all_goals (rcases e1 with e1|e1)
 all_goals (first|omega| (simp [h1,h2,h3,h4,e1];try omega))
noncomputable def apS (esz bytes:Nat) (zero:List Value) (x y:V) (h:ah) (n:Nat):Option (List (List V))→Option (V×Upd)
 |none=>none
 |some new_=>if zero.length=esz∧0<esz∧new_.length*bytes≤aK∧new_.length*esz≤aK then
  (match x with
  | .sl b 0 n=>match h b with
    |some k=>if k.op=false∧0<k.esz∧k.esz=esz∧n=k.rows.length∧(n+new_.length)*bytes≤aK∧(n+new_.length)*esz≤aK∧ae.selfOk b y then
     some (.sl b 0 (n+new_.length),[(b,{ k with rows:=k.rows++new_ })]) else none
    |none=>none
  | .lit (.slice none 0 0)=>dq h n ⟨esz,false,new_⟩ (.sl n 0 new_.length)
  | .imm 0 []=>dq h n ⟨esz,false,new_⟩ (.sl n 0 new_.length)
  |_=>none) else none
theorem G2 (esz bytes:Nat) (zero:List Value) (x y:Opd):ae C ow (.append esz bytes zero x y) ev h n=apS esz bytes zero (ev x) (ev y) h n (bg h esz (ev y)):=by
 simp only [ae]
 cases bg h esz (ev y) with
 |none=>rfl
 |some r=>rfl
noncomputable def oT (b:Nat) (y:V):Bool:=ae.selfOk b y
theorem HO (b:Nat):oT b (sl e l)=true:=by
 rcases cQ e l with ⟨_,h⟩|⟨_,h⟩<;>rw [h]<;>rfl
theorem Cb (b b' s q:Nat):oT b (.sl b' s q)=(b !=b'):=rfl
theorem DH (b:Nat) (s:List UInt8):oT b (S s)=true:=rfl
theorem Cy (b:Nat):oT b (.lit (.slice none 0 0))=true:=rfl
theorem CZ (b m:Nat) (r:List (List V)):oT b (.imm m r)=true:=rfl
def apO (k:Option Blk) (esz bytes:Nat) (zero:List Value) (b q:Nat) (sb:Bool) (new_:List (List V)):Option (V×Upd):=match k with
 |some k=>if zero.length=esz∧0<esz∧new_.length*bytes≤aK∧new_.length*esz≤aK then
  (if k.op=false∧0<k.esz∧k.esz=esz∧q=k.rows.length∧(q+new_.length)*bytes≤aK∧(q+new_.length)*esz≤aK∧sb=true then
        some (.sl b 0 (q+new_.length),[(b,{ k with rows:=k.rows++new_ })]) else none) else none
 |none=>none
theorem Js (esz bytes:Nat) (zero:List Value) (b q:Nat) (y:V) (new_:List (List V)):apS esz bytes zero (.sl b 0 q) y h n (some new_)=apO (h b) esz bytes zero b q (oT b y) new_:=by
 simp only [apS,apO,oT]
 cases h b with
 |none=>simp
 |some k=>rfl
theorem OZ (m bytes:Nat) (zero:List Value) (b q:Nat) (sb:Bool) (hz:Nat.beq zero.length m=true) (h0:Nat.blt 0 m=true) (hb:Nat.ble m bytes=true) (hq:l.length=q) (hs:sb=true):
 apO (some ⟨m,false,rws e l⟩) m bytes zero b q sb (rws e l2)=br (dM (l++l2).length bytes) (some (.sl b 0 (l++l2).length,[(b,⟨m,false,rws e (l++l2)⟩)])) none:=by
 have hz3:=Nat.eq_of_beq_eq_true hz
 have hb2:=Nat.le_of_ble_eq_true hb
 rw [lH,decide_eq_true_eq] at h0
 subst hs hq
 simp only [apO,dM,rws,List.length_map,List.length_append,List.map_append]
 have e1:(l.length+l2.length)*m≤(l.length+l2.length)*bytes:=Nat.mul_le_mul_left _ hb2
 have e2:l2.length*bytes≤(l.length+l2.length)*bytes:=Nat.mul_le_mul_right _ (by omega)
 have e3:l2.length*m≤l2.length*bytes:=Nat.mul_le_mul_left _ hb2
 by_cases hf:(l.length+l2.length)*bytes≤aK
 ·rw [if_pos ⟨hz3,h0,by omega,by omega⟩,if_pos ⟨by trivial,h0,by trivial,by trivial,hf,by omega,by trivial⟩,decide_eq_true hf,bI]
 ·rw [decide_eq_false hf,aZ]
  split
  ·rw [if_neg (fun hc=>hf hc.2.2.2.2.1)]
  ·rfl
theorem Kl (m bytes:Nat) (zero:List Value) (y:V) (hz:Nat.beq zero.length m=true) (h0:Nat.blt 0 m=true) (hb:Nat.ble m bytes=true):
 apS m bytes zero (.lit (.slice none 0 0)) y h n (some (rws e l2))=br (dM l2.length bytes) (frO (h n) n ⟨m,false,rws e l2⟩ (.sl n 0 l2.length)) none:=by
 have hz3:=Nat.eq_of_beq_eq_true hz
 have hb2:=Nat.le_of_ble_eq_true hb
 rw [lH,decide_eq_true_eq] at h0
 simp only [apS,dM,iX]
 have hl:(rws e l2).length=l2.length:=by simp [rws]
 rw [hl]
 have e3:l2.length*m≤l2.length*bytes:=Nat.mul_le_mul_left _ hb2
 by_cases hf:l2.length*bytes≤aK
 ·rw [if_pos ⟨hz3,h0,hf,by omega⟩,decide_eq_true hf,bI]
 ·rw [decide_eq_false hf,aZ,if_neg (fun hc=>hf hc.2.2.1)]
def ui (l:List α) (s k:Nat) (l2:List α):List α:=l.take s++(l2.take k++l.drop (s+k))
def P6 (esz bytes:Nat) (zero:List Value) (x y:V) (h:ah) (n:Nat):Option (V×Upd):=match asI y with
 |some l=>if 0≤l∧l≤1099511627776∧l*bytes≤1099511627776∧zero.all aC then nW esz bytes zero x (fun _=>true) h n (List.replicate l.toNat (zero.map zc)) else none
 |none=>none
theorem CL (esz bytes:Nat) (zero:List Value) (x y:Opd):ae C ow (.appendN esz bytes zero x y) ev h n=P6 esz bytes zero (ev x) (ev y) h n:=rfl
theorem Hf (m bytes:Nat) (zero:List Value) (b q:Nat) (k:IntKind) (a:Int) (hz2:zero.all aC=true):
 P6 m bytes zero (.sl b 0 q) (.lit (.int k a)) h n=br (zO a a bytes&&decide (a≤1099511627776)) (apO (h b) m bytes zero b q true (xS n a.toNat (zero.map zc))) none:=by
 simp only [P6,asI,zO,hz2,xS,aK]
 by_cases h1:0≤a<;>by_cases h2:a*bytes≤1099511627776<;>by_cases h3:a≤1099511627776<;>simp [h1,h2,h3,br]
 simp only [nW,apO]
 cases h b with
 |none=>simp
 |some kk=>rfl
noncomputable def cpS (esz:Nat) (x y:V) (h:ah):Option (List (List V))→Option (V×Upd)
 |some rows=>match x with
  | .sl b s n=>match h b with
    |some k=>if k.op=false∧0<k.esz∧k.esz=esz∧s+n=k.rows.length∧ae.selfOk b y then
     some (.lit (.int .i64 (min rows.length n)),[(b,{ k with rows:=k.rows.take s++(rows.take (min rows.length n)++k.rows.drop (s+min rows.length n)) })]) else none
    |none=>none
  |_=>none
 |none=>none
theorem O1 (esz:Nat) (x y:Opd):ae C ow (.copy esz x y) ev h n=cpS esz (ev x) (ev y) h (bg h esz (ev y)):=by
 simp only [ae,cpS]
 cases bg h esz (ev y) with
 |none=>rfl
 |some r=>cases ev x<;>rfl
def cpO (k:Option Blk) (esz b s q:Nat) (sb:Bool) (rows:List (List V)):Option (V×Upd):=match k with
 |some k=>if k.op=false∧0<k.esz∧k.esz=esz∧s+q=k.rows.length∧sb=true then
  some (.lit (.int .i64 (min rows.length q)),[(b,{ k with rows:=k.rows.take s++(rows.take (min rows.length q)++k.rows.drop (s+min rows.length q)) })]) else none
 |none=>none
theorem M7 (esz b s q:Nat) (y:V) (rows:List (List V)):cpS esz (.sl b s q) y h (some rows)=cpO (h b) esz b s q (oT b y) rows:=by
 simp only [cpS,cpO,oT]
 cases h b<;>rfl
theorem N0 (m b s q:Nat) (sb:Bool) (h0:Nat.blt 0 m=true) (hs:sb=true):cpO (some ⟨m,false,rws e l⟩) m b s q sb (rws e l2)=
 br (decide (s+q=l.length)) (some (I (min (l2.length:Int) (q:Int)),[(b,⟨m,false,rws e (ui l s (min l2.length q) l2)⟩)])) none:=by
 rw [lH,decide_eq_true_eq] at h0
 subst hs
 simp only [cpO]
 by_cases hq:s+q=l.length
 ·rw [if_pos ⟨by trivial,h0,by trivial,by simp [rws,hq],by trivial⟩,decide_eq_true hq,bI]
  simp [rws,ui,List.map_take,List.map_drop]
 ·rw [decide_eq_false hq,aZ,if_neg (fun hc=>hq (by simpa [rws] using hc.2.2.2.1))]
def ncS (x:V) (h:ah):Option (V×Upd):=match x with
 | .ptr b i o n=>match h b with
   |some k=>if k.rows.length=n∧i<n then some (.ptr b i o n,[]) else none
   |none=>none
 | .iptr r o=>some (.iptr r o,[])
 | .fn f c=>some (.fn f c,[])
 |_=>none
theorem A3 (x:Opd):ae C ow (.nilCheck x) ev h n=ncS (ev x) h:=by
 simp only [ae,ncS]
 cases ev x<;>rfl
def ncO (k:Option Blk) (b i o m:Nat):Option (V×Upd):=match k with
 |some k=>if k.rows.length=m∧i<m then some (.ptr b i o m,[]) else none
 |none=>none
theorem Rw (b i o m:Nat):ncS (.ptr b i o m) h=ncO (h b) b i o m:=rfl
theorem Qk (b o m:Nat) (row:List V):ncO (some ⟨m,true,[row]⟩) b 0 o 1=some (.ptr b 0 o 1,[]):=rfl
theorem RC (r:List V) (o:Nat):ncS (.iptr r o) h=some (.iptr r o,[]):=rfl
theorem QZ (f:FuncId) (c:List V):ncS (.fn f c) h=some (.fn f c,[]):=rfl
def mxS (x y:V):Option (V×Upd):=match x,y with
 | .lit (.int k a),.lit (.int _ b)=>some (.lit (.int k (if b>a then b else a)),[])
 |_,_=>none
theorem NR (x y:Opd):ae C ow (.max2 x y) ev h n=mxS (ev x) (ev y):=by
 simp only [ae,mxS]
 cases ev x<;>cases ev y<;>rfl
theorem Rf (k k':IntKind) (a b:Int):mxS (.lit (.int k a)) (.lit (.int k' b))=some (.lit (.int k (mx a b)),[]):=rfl
def mnS (x y:V):Option (V×Upd):=match x,y with
 | .lit (.int k a),.lit (.int _ b)=>some (.lit (.int k (if b<a then b else a)),[])
 |_,_=>none
theorem Np (x y:Opd):ae C ow (.min2 x y) ev h n=mnS (ev x) (ev y):=by
 simp only [ae,mnS]
 cases ev x<;>cases ev y<;>rfl
theorem RQ (k k':IntKind) (a b:Int):mnS (.lit (.int k a)) (.lit (.int k' b))=some (.lit (.int k (mn a b)),[]):=rfl
noncomputable def pY (fl ro:Bool) (h:ah) (new:Nat) (ids bor:List Nat):Option (V×List Blk)→Option (V×Upd)
 |some (r,bs)=>roW ro h (iI fl h new ids bor r bs)
 |none=>none
noncomputable def roX (k':Option Blk) (b:Nat) (k:Blk) (x:Option Upd):Option Upd:=match k' with
 |none=>x.map ((b,k):: ·)
 |some k'=>open Classical in if k'=k then x else none
def roE (v:V):Option Upd→Option (V×Upd)
 |some u=>some (v,u)
 |none=>none
theorem Jr:roU h []=some []:=rfl
theorem FS (b:Nat) (k:Blk) (r:Upd):roU h ((b,k)::r)=roX (h b) b k (roU h r):=by
 simp only [roU,roX];cases h b<;>rfl
theorem Gy (b:Nat) (k:Blk) (x:Option Upd):roX (some k) b k x=x:=by simp [roX]
theorem FR (b:Nat) (k:Blk) (u:Upd):roX none b k (some u)=some ((b,k)::u):=rfl
theorem H9 (v:V) (u:Upd):roE v (some u)=some (v,u):=rfl
theorem R9 (x:Option (V×Upd)):roW false h x=x:=by cases x<;>rfl
theorem PX (c:Bool) (x y:Option (V×Upd)):roW true h (br c x y)=br c (roW true h x) (roW true h y):=by cases c<;>rfl
theorem Gw:roW true h none=none:=rfl
theorem Ez (v:V) (u:Upd):roW true h (some (v,u))=roE v (roU h u):=by
 simp only [roW,if_true,roE];cases roU h u<;>rfl
noncomputable def p9 (C:aB) (ow:FuncId→List Nat) (h:ah) (new:Nat) (f:FuncId):Option (List V×List Blk×List Nat×List Nat)→Option (V×Upd)
 |some (args',blks,ids,bor)=>pY ((ow f).contains 2000) ((ow f).contains 3000) h new ids bor (C f (gH (ow f) args') (gS (ow f) blks))
 |none=>none
theorem uu (f:FuncId) (args:List V):dN C ow h n f args=p9 C ow h n f (bn ow h f args):=by
 unfold dN p9 pY
 cases bn ow h f args with
 |none=>rfl
 |some p=>obtain ⟨a,b,c,d⟩:=p;dsimp only;cases C f (gH (ow f) a) (gS (ow f) b)<;>rfl
theorem N2 (f:FuncId) (args:List Opd):ae C ow (.call f args) ev h n=p9 C ow h n f (bn ow h f (args.map ev)):=uu _ _
noncomputable def Q3 (C:aB) (ow:FuncId→List Nat) (h:ah) (n:Nat) (args:List V):V→Option (V×Upd)
 | .fn k caps=>p9 C ow h n k (bn ow h k (args++caps))
 |_=>none
theorem RE (f:Opd) (args:List Opd):ae C ow (.dyn f args) ev h n=Q3 C ow h n (args.map ev) (ev f):=by
 simp only [ae,Q3]
 cases ev f<;>first|rfl|exact uu _ _
theorem LB (args:List V) (k:FuncId) (caps:List V):Q3 C ow h n args (.fn k caps)=p9 C ow h n k (bn ow h k (args++caps)):=rfl
theorem A5 (f:FuncId) (a:List V) (b:List Blk) (c d:List Nat):p9 C ow h n f (some (a,b,c,d))=pY ((ow f).contains 2000) ((ow f).contains 3000) h n c d (C f (gH (ow f) a) (gS (ow f) b)):=rfl
theorem GG (f:FuncId) (c:Bool) (x y:Option (List V×List Blk×List Nat×List Nat)):p9 C ow h n f (br c x y)=br c (p9 C ow h n f x) (p9 C ow h n f y):=by cases c<;>rfl
def BC (args':List V) (bor:List Nat):Option (List Blk×List Nat)→Option (List V×List Blk×List Nat×List Nat)
 |some (blks,ids)=>br (bor.any (fun b=>decide (b∈ids))) none (some (args',blks,ids,bor))
 |none=>none
def wN (h:ah):Option (List V×List Nat×List Nat)→Option (List V×List Blk×List Nat×List Nat)
 |some (args',ids0,bor)=>BC args' bor (bz h 40 0 ids0)
 |none=>none
theorem xp (f:FuncId) (args:List V):bn ow h f args=wN h (ct h (ow f) 0 [] args):=by
 unfold bn wN BC
 cases ct h (ow f) 0 [] args with
 |none=>rfl
 |some p=>
  obtain ⟨a,i,b⟩:=p
  dsimp only
  cases bz h 40 0 i with
  |none=>rfl
  |some q=>
   obtain ⟨bl,ids⟩:=q
   dsimp only
   cases hb:b.any (fun b=>decide (b∈ids))<;>simp [br]
theorem z8 (a:List V) (i b:List Nat):wN h (some (a,i,b))=BC a b (bz h 40 0 i):=rfl
theorem AG (a:List V) (b:List Nat) (bl:List Blk) (ids:List Nat):BC a b (some (bl,ids))=br (b.any (fun b=>decide (b∈ids))) none (some (a,bl,ids,b)):=rfl
def la2 (v':V) (bs:List Nat):Option (List V×List Nat×List Nat)→Option (List V×List Nat×List Nat)
 |some (r',ids'',bs')=>some (v'::r',ids'',bs++bs')
 |none=>none
def la1 (h:ah) (owns:List Nat) (j:Nat) (r:List V):Option (V×List Nat×List Nat)→Option (List V×List Nat×List Nat)
 |some (v',ids',bs)=>la2 v' bs (ct h owns (j+1) ids' r)
 |none=>none
theorem yF (owns:List Nat) (j:Nat) (ids:List Nat):ct h owns j ids []=some ([],ids,[]):=rfl
theorem uZ (owns:List Nat) (j:Nat) (ids:List Nat) (v:V) (r:List V):ct h owns j ids (v::r)=la1 h owns j r (bp h (owns.contains j) ids v):=by
 have:decide (j∈owns)=owns.contains j:=by simp [List.contains_iff_mem,Bool.eq_iff_iff]
 simp only [ct,la1,la2,this]
 cases bp h (owns.contains j) ids v with
 |none=>rfl
 |some p=>obtain ⟨a,b,c⟩:=p;dsimp only;cases ct h owns (j+1) b r<;>rfl
theorem EO (owns:List Nat) (j:Nat) (r:List V) (v':V) (ids' bs:List Nat):la1 h owns j r (some (v',ids',bs))=la2 v' bs (ct h owns (j+1) ids' r):=rfl
theorem GH (v':V) (bs:List Nat) (r':List V) (i b:List Nat):la2 v' bs (some (r',i,b))=some (v'::r',i,bs++b):=rfl
def lcP (k:Option Blk) (ids:List Nat) (b i o m:Nat):Option (V×List Nat×List Nat):=match k with
 |some k=>if k.rows.length=m then some (.ptr (cM b (bK ids b)) i o m,bK ids b,[]) else none
 |none=>none
def lcO (k:Option Blk) (own:Bool) (ids:List Nat) (b s q:Nat):Option (V×List Nat×List Nat):=match k with
 |some k=>if s+q=k.rows.length then
  (if own then some (.sl (cM b (bK ids b)) s q,bK ids b,[]) else if k.op=false∧0<k.esz then some (.imm k.esz (k.rows.drop s),ids,[b]) else none) else none
 |none=>none
theorem F5 (own:Bool) (ids:List Nat) (v:Value):aU h own ids (.lit v)=some (.lit v,ids,[]):=rfl
theorem Qv (own:Bool) (ids:List Nat) (m:Nat) (r:List (List V)):aU h own ids (.imm m r)=some (.imm m r,ids,[]):=rfl
theorem Mi (own:Bool) (ids:List Nat) (r:List V) (o:Nat):aU h own ids (.iptr r o)=some (.iptr r o,ids,[]):=rfl
theorem Rg (own:Bool) (ids:List Nat) (f:FuncId):aU h own ids (.fn f [])=some (.fn f [],ids,[]):=rfl
theorem G9 (own:Bool) (ids:List Nat):aU h own ids .undef=some (.undef,ids,[]):=rfl
theorem OP (own:Bool) (ids:List Nat) (b i o m:Nat):aU h own ids (.ptr b i o m)=lcP (h b) ids b i o m:=rfl
theorem Qu (own:Bool) (ids:List Nat) (b s q:Nat):aU h own ids (.sl b s q)=lcO (h b) own ids b s q:=rfl
theorem rg (own:Bool) (ids:List Nat) (v:Value):bp h own ids (.lit v)=some (.lit v,ids,[]):=rfl
theorem Ng (own:Bool) (ids:List Nat) (m:Nat) (r:List (List V)):bp h own ids (.imm m r)=some (.imm m r,ids,[]):=rfl
theorem MI (own:Bool) (ids:List Nat) (r:List V) (o:Nat):bp h own ids (.iptr r o)=some (.iptr r o,ids,[]):=rfl
theorem NN (own:Bool) (ids:List Nat) (b i o m:Nat):bp h own ids (.ptr b i o m)=lcP (h b) ids b i o m:=rfl
theorem NK (own:Bool) (ids:List Nat) (b s q:Nat):bp h own ids (.sl b s q)=lcO (h b) own ids b s q:=rfl
def lcA (mk:List V→V):Option (List V×List Nat×List Nat)→Option (V×List Nat×List Nat)
 |some (cs',ids',bs)=>some (mk cs',ids',bs)
 |none=>none
theorem PH (own:Bool) (ids:List Nat) (cs:List V):bp h own ids (.agg cs)=lcA V.agg (bk h own ids cs):=by
 simp only [bp,lcA]
 cases bk h own ids cs<;>rfl
theorem Sa (own:Bool) (ids:List Nat) (f:FuncId) (cs:List V):bp h own ids (.fn f cs)=lcA (V.fn f) (bk h true ids cs):=by
 simp only [bp,lcA]
 cases bk h true ids cs<;>rfl
theorem Gk (mk:List V→V) (cs:List V) (i b:List Nat):lcA mk (some (cs,i,b))=some (mk cs,i,b):=rfl
def Fm (h:ah) (own:Bool) (r:List V):Option (V×List Nat×List Nat)→Option (List V×List Nat×List Nat)
 |some (v',ids',bs)=>la2 v' bs (bk h own ids' r)
 |none=>none
theorem vG (own:Bool) (ids:List Nat):bk h own ids []=some ([],ids,[]):=rfl
theorem nL (own:Bool) (ids:List Nat) (v:V) (r:List V):bk h own ids (v::r)=Fm h own r (aU h own ids v):=by
 simp only [bk,Fm,la2]
 cases aU h own ids v with
 |none=>rfl
 |some p=>obtain ⟨a,b,c⟩:=p;dsimp only;cases bk h own b r<;>rfl
theorem um (own:Bool) (r:List V) (v':V) (ids' bs:List Nat):Fm h own r (some (v',ids',bs))=la2 v' bs (bk h own ids' r):=rfl
theorem Qh (ids:List Nat) (b o m:Nat) (row:List V):lcP (some ⟨m,true,[row]⟩) ids b 0 o 1=some (.ptr (cM b (bK ids b)) 0 o 1,bK ids b,[]):=rfl
theorem Sk (m:Nat) (ids:List Nat) (b s q:Nat) (hq:s+q=l.length):lcO (some ⟨m,false,rws e l⟩) true ids b s q=some (.sl (cM b (bK ids b)) s q,bK ids b,[]):=by
 simp [lcO,rws,hq]
theorem MY (m:Nat) (ids:List Nat) (b q:Nat) (h0:Nat.blt 0 m=true) (hq:l.length=q):lcO (some ⟨m,false,rws e l⟩) false ids b 0 q=some (.imm m (rws e l),ids,[b]):=by
 rw [lH,decide_eq_true_eq] at h0
 simp [lcO,rws,hq,h0]
def lb2 (k:Blk):Option (List Blk×List Nat)→Option (List Blk×List Nat)
 |some (r,ids')=>some (k::r,ids')
 |none=>none
def ld2 (v':V):Option (List V×List Nat)→Option (List V×List Nat)
 |some (r',i)=>some (v'::r',i)
 |none=>none
def ld1 (h:ah) (r:List V):Option (V×List Nat×List Nat)→Option (List V×List Nat)
 |some (v',ids',_)=>ld2 v' (fg h ids' r)
 |none=>none
theorem BS (ids:List Nat):fg h ids []=some ([],ids):=rfl
theorem j1 (ids:List Nat) (v:V) (r:List V):fg h ids (v::r)=ld1 h r (bp h true ids v):=by
 simp only [fg,ld1,ld2]
 cases bp h true ids v with
 |none=>rfl
 |some p=>obtain ⟨a,b,c⟩:=p;dsimp only;cases fg h b r<;>rfl
theorem mS (r:List V) (v':V) (ids' bs:List Nat):ld1 h r (some (v',ids',bs))=ld2 v' (fg h ids' r):=rfl
theorem FJ (v':V) (r':List V) (i:List Nat):ld2 v' (some (r',i))=some (v'::r',i):=rfl
def lb1 (h:ah) (fuel pos m:Nat):Option (List V×List Nat)→Option (List Blk×List Nat)
 |some (row,ids1)=>lb2 ⟨m,true,[row]⟩ (bz h fuel (pos+1) ids1)
 |none=>none
def lb0 (h:ah) (fuel pos:Nat) (ids:List Nat):Option Blk→Option (List Blk×List Nat)
 |some k=>if k.op=false then lb2 k (bz h fuel (pos+1) ids) else (match dW h ids k.rows with
  |none=>none
  |some (rows,ids1)=>lb2 { k with rows:=rows } (bz h fuel (pos+1) ids1))
 |none=>none
def lbN (h:ah) (fuel pos:Nat) (ids:List Nat):Option Nat→Option (List Blk×List Nat)
 |none=>some ([],ids)
 |some b=>lb0 h fuel pos ids (h b)
theorem Ad (fuel pos:Nat) (ids:List Nat):bz h (fuel+1) pos ids=lbN h fuel pos ids ids[pos]? :=by
 simp only [bz,lbN,lb0]
 cases ids[pos]? with
 |none=>rfl
 |some b=>
  dsimp only
  cases h b with
  |none=>rfl
  |some k=>
   dsimp only
   split
   ·cases bz h fuel (pos+1) ids<;>rfl
   ·cases dW h ids k.rows with
    |none=>rfl
    |some p=>obtain ⟨rows,ids1⟩:=p;dsimp only;cases bz h fuel (pos+1) ids1<;>rfl
theorem EV (fuel pos:Nat) (ids:List Nat):lbN h fuel pos ids none=some ([],ids):=rfl
theorem IX (fuel pos:Nat) (ids:List Nat) (b:Nat):lbN h fuel pos ids (some b)=lb0 h fuel pos ids (h b):=rfl
theorem PC (fuel pos:Nat) (ids:List Nat) (m:Nat) (r:List (List V)):lb0 h fuel pos ids (some ⟨m,false,r⟩)=lb2 ⟨m,false,r⟩ (bz h fuel (pos+1) ids):=rfl
theorem Ow (fuel pos:Nat) (ids:List Nat) (m:Nat) (row:List V):lb0 h fuel pos ids (some ⟨m,true,[row]⟩)=lb1 h fuel pos m (fg h ids row):=by
 simp only [lb0,dW,lb1]
 cases fg h ids row with
 |none=>rfl
 |some p=>obtain ⟨a,b⟩:=p;rfl
theorem G1 (fuel pos m:Nat) (row:List V) (ids1:List Nat):lb1 h fuel pos m (some (row,ids1))=lb2 ⟨m,true,[row]⟩ (bz h fuel (pos+1) ids1):=rfl
theorem Fi (k:Blk) (r:List Blk) (ids:List Nat):lb2 k (some (r,ids))=some (k::r,ids):=rfl
theorem RI (n:Nat):bH [] [] n=[]:=rfl
theorem R4 (k:Blk) (r:List Blk) (n:Nat):bH [] (k::r) n=n::bH [] r (n+1000000):=rfl
theorem S6 (i:Nat) (ids:List Nat) (k:Blk) (r:List Blk) (n:Nat):bH (i::ids) (k::r) n=bH ids r n:=rfl
def cpw (fl:Bool) (new:Nat) (ids bor:List Nat) (r:V) (bs:List Blk) (ns:List Nat):Option (V×Upd):=some (kj (ids++ns) r,dS (ids++ns) (bs.map (cE (ids++ns)))++br (bor.isEmpty||(fU r&&bs.all (dG fl))) [] (cf bor))
theorem NF (fl:Bool) (new:Nat) (ids bor:List Nat) (r:V) (bs:List Blk) (ns:List Nat):cpw fl new ids bor r bs ns=some (kj (ids++ns) r,dS (ids++ns) (bs.map (cE (ids++ns)))++br (bor.isEmpty||(fU r&&bs.all (dG fl))) [] (cf bor)):=rfl
theorem Ab (fl ro:Bool) (new:Nat) (ids bor:List Nat) (r:V) (bs:List Blk):pY fl ro h new ids bor (some (r,bs))=
 roW ro h (br (Nat.ble ids.length bs.length&&(bH ids bs new).all (fun b=>(h b).isNone)) (cpw fl new ids bor r bs (bH ids bs new)) none):=by
 refine congrArg (roW ro h) ?_
 simp only [iI,cpw,oJ]
 generalize (bH ids bs new).all (fun b=>(h b).isNone)=c3
 generalize (bor.isEmpty||(fU r&&bs.all (dG fl)))=c4
 by_cases h1:ids.length≤bs.length
 ·rw [decide_eq_true h1];cases c3<;>cases c4<;>simp [h1,br]
 ·rw [decide_eq_false h1];cases c3<;>cases c4<;>simp [h1,br]
theorem DT (ids:List Nat) (vs:List V):kj ids (.tup vs)= .tup (vs.map (dt ids)):=rfl
theorem Eb (ids:List Nat) (vs:List V):kj ids (.agg vs)= .agg (vs.map (unV ids)):=rfl
theorem DR (ids:List Nat) (v:Value):kj ids (.lit v)= .lit v:=rfl
theorem D4 (ids:List Nat) (m:Nat) (r:List (List V)):kj ids (.imm m r)= .imm m r:=rfl
theorem yf (ids:List Nat):kj ids .undef= .undef:=rfl
theorem Ch (ids:List Nat) (b i o m:Nat):kj ids (.ptr b i o m)= .ptr (ids.getD b 0) i o m:=rfl
theorem Cm (ids:List Nat) (b s q:Nat):kj ids (.sl b s q)= .sl (ids.getD b 0) s q:=rfl
theorem D1 (ids:List Nat) (vs:List V):dt ids (.agg vs)= .agg (vs.map (unV ids)):=rfl
theorem De (ids:List Nat) (v:Value):dt ids (.lit v)= .lit v:=rfl
theorem C7 (ids:List Nat) (m:Nat) (r:List (List V)):dt ids (.imm m r)= .imm m r:=rfl
theorem BT (ids:List Nat) (b i o m:Nat):dt ids (.ptr b i o m)= .ptr (ids.getD b 0) i o m:=rfl
theorem C4 (ids:List Nat) (b s q:Nat):dt ids (.sl b s q)= .sl (ids.getD b 0) s q:=rfl
theorem Lk (ids:List Nat) (v:Value):unV ids (.lit v)= .lit v:=rfl
theorem Py (ids:List Nat) (f:FuncId) (cs:List V):unV ids (.fn f cs)= .fn f cs:=rfl
theorem Hb (ids:List Nat) (f:FuncId) (cs:List V):dt ids (.fn f cs)= .fn f (cs.map (unV ids)):=rfl
theorem Ju (ids:List Nat) (m:Nat) (r:List (List V)):unV ids (.imm m r)= .imm m r:=rfl
theorem Mh (ids:List Nat) (b i o m:Nat):unV ids (.ptr b i o m)= .ptr (ids.getD b 0) i o m:=rfl
theorem JF (ids:List Nat) (b s q:Nat):unV ids (.sl b s q)= .sl (ids.getD b 0) s q:=rfl
theorem Ia (ids:List Nat) (m:Nat) (r:List (List V)):cE ids ⟨m,false,r⟩=⟨m,false,r⟩:=rfl
theorem DA (ids:List Nat) (m:Nat) (row:List V):cE ids ⟨m,true,[row]⟩=⟨m,true,[row.map (dt ids)]⟩:=rfl
theorem Q6 (v:Value):fU (.lit v)=true:=rfl
theorem FX:fU .undef=true:=rfl
theorem N4 (m:Nat) (r:List (List V)):fU (.imm m r)=false:=rfl
theorem Oo (vs:List V):fU (.agg vs)=vs.all eO:=rfl
theorem NC (vs:List V):fU (.tup vs)=vs.all l9:=rfl
theorem ND (b i o m:Nat):fU (.ptr b i o m)=true:=rfl
theorem Qq (b s q:Nat):fU (.sl b s q)=true:=rfl
theorem Ji (v:Value):l9 (.lit v)=true:=rfl
theorem Ky (m:Nat) (r:List (List V)):l9 (.imm m r)=false:=rfl
theorem JN (vs:List V):l9 (.agg vs)=vs.all eO:=rfl
theorem LO (b i o m:Nat):l9 (.ptr b i o m)=true:=rfl
theorem KW (b s q:Nat):l9 (.sl b s q)=true:=rfl
theorem MA (v:Value):eO (.lit v)=true:=rfl
theorem Nf (f:FuncId) (cs:List V):eO (.fn f cs)=false:=rfl
theorem OH (f:FuncId) (cs:List V):l9 (.fn f cs)=false:=rfl
theorem S8 (f:FuncId) (cs:List V):fU (.fn f cs)=false:=rfl
theorem JP (m:Nat) (r:List (List V)):eO (.imm m r)=false:=rfl
theorem K3 (b i o m:Nat):eO (.ptr b i o m)=true:=rfl
theorem KH (b s q:Nat):eO (.sl b s q)=true:=rfl
theorem Q1 (m:Nat) (r:List (List V)):dG false ⟨m,false,r⟩=false:=rfl
theorem oy {α:Type} {e:En α} (he: ∀x,(e.enc x).all eO=true) (m:Nat) (l:List α):dG true ⟨m,false,rws e l⟩=true:=by
 simp only [dG,Bool.true_or,Bool.true_and,rws,List.all_map,List.all_eq_true]
 exact fun x _=>he x
theorem S9 (m:Nat) (l:List Int):dG true ⟨m,false,rws eI l⟩=true:=oy (fun _=>rfl) m l
theorem R1 (m:Nat) (l:List Bool):dG true ⟨m,false,rws eB l⟩=true:=oy (fun _=>rfl) m l
theorem QX (m:Nat) (l:List UInt8):dG true ⟨m,false,rws eU8 l⟩=true:=oy (fun _=>rfl) m l
theorem L5 (m:Nat) (l:List Int):dG true ⟨m,false,rws wS l⟩=true:=oy (fun _=>rfl) m l
theorem QP (m:Nat) (l:List (List UInt8)):dG true ⟨m,false,rws eS l⟩=true:=oy (fun _=>rfl) m l
theorem OI (fl:Bool) (m:Nat) (row:List V):dG fl ⟨m,true,[row]⟩=row.all eO:=by simp [dG]
def J7 (raw:Bool) (m:Nat):Option (List V)→Option (List Blk)→Option (V×List Blk)
 |some vs',some bs=>br (Nat.ble m 1000) (some ((vO vs').czR,br raw bs (bs.map Blk.cz))) none
 |_,_=>none
def xj (keep raw:Bool) (m:Nat) (h:ah):Option (List V)→Option (V×List Blk)
 |some vs=>J7 raw m (io h m (br keep (dg raw h m vs) []) vs) (gZ h m (br keep (dg raw h m vs) []) (List.range m++(br keep (dg raw h m vs) [])))
 |none=>none
theorem Bd (nt:Nat) (body:aA) (res:List oB) (keep raw:Bool) (m:Nat) (st:St) (x:aH) (hx:x= .ret∨x= .normal):A7 ⟨nt,body,res,keep,raw⟩ m x st=xj keep raw m st.heap (di st res):=by
 have hk: ∀vs:List V,(if keep=true then dg raw st.heap m vs else [])=br keep (dg raw st.heap m vs) []:=fun vs=>by cases keep<;>rfl
 have:A7 ⟨nt,body,res,keep,raw⟩ m x st=A7 ⟨nt,body,res,keep,raw⟩ m .ret st:=by rcases hx with rfl|rfl<;>rfl
 rw [this]
 simp only [A7,cU,xj,J7,yl,hk,oJ]
 cases di st res with
 |none=>rfl
 |some vs=>
  dsimp only
  cases io st.heap m (br keep (dg raw st.heap m vs) []) vs with
  |none=>rfl
  |some vs'=>
   cases gZ st.heap m (br keep (dg raw st.heap m vs) []) (List.range m++(br keep (dg raw st.heap m vs) [])) with
   |none=>rfl
   |some bs=>by_cases h1:m≤1000<;>cases raw<;>simp [h1,br]
theorem Ir (nt:Nat) (body:aA) (res:List oB) (keep raw:Bool) (m:Nat) (st:St):A7 ⟨nt,body,res,keep,raw⟩ m .ret st=xj keep raw m st.heap (di st res):=Bd _ _ _ _ _ _ _ _ (.inl rfl)
theorem yc (nt:Nat) (body:aA) (res:List oB) (keep raw:Bool) (m:Nat) (st:St):A7 ⟨nt,body,res,keep,raw⟩ m .normal st=xj keep raw m st.heap (di st res):=Bd _ _ _ _ _ _ _ _ (.inr rfl)
theorem Di (keep raw:Bool) (m:Nat) (vs:List V):xj keep raw m h (some vs)=J7 raw m (io h m (br keep (dg raw h m vs) []) vs) (gZ h m (br keep (dg raw h m vs) []) (List.range m++(br keep (dg raw h m vs) []))):=rfl
theorem Cx (raw:Bool) (m:Nat) (vs:List V) (bs:List Blk):J7 raw m (some vs) (some bs)=br (Nat.ble m 1000) (some ((vO vs).czR,br raw bs (bs.map Blk.cz))) none:=rfl
def rs1:Option V→Option (List V)→Option (List V)
 |some v,some vs=>some (v::vs)
 |_,_=>none
theorem FN (st:St):di st []=some []:=rfl
theorem E5 (st:St) (r:oB) (rs:List oB):di st (r::rs)=rs1 (nM st r) (di st rs):=by
 simp only [di,rs1]
 cases nM st r<;>cases di st rs<;>rfl
theorem Fh (v:V) (vs:List V):rs1 (some v) (some vs)=some (v::vs):=rfl
theorem Lv (st:St) (t:Nat):nM st (.tmp t)=some (st.get t):=rfl
theorem H3 (st:St) (t:Nat) (g:Option Nat):nM st (.cell t g)=j4 g st.heap (st.get t):=rfl
def Ta:Option V→Option (List V)→Option (List V)
 |some v,some vs=>some (v::vs)
 |_,_=>none
theorem C0 (m:Nat) (kp:List Nat):io h m kp []=some []:=rfl
theorem zg (m:Nat) (kp:List Nat) (v:V) (r:List V):io h m kp (v::r)=rs1 (lJ h m kp v) (io h m kp r):=by
 simp only [io,rs1]
 cases lJ h m kp v<;>cases io h m kp r<;>rfl
theorem CB (m:Nat) (kp:List Nat):il h m kp []=some []:=rfl
theorem si (m:Nat) (kp:List Nat) (v:V) (r:List V):il h m kp (v::r)=rs1 (eG h m kp v) (il h m kp r):=by
 simp only [il,rs1]
 cases eG h m kp v<;>cases il h m kp r<;>rfl
def fag:Option (List V)→Option V
 |some cs=>some (.agg cs)
 |none=>none
theorem J0 (m:Nat) (kp:List Nat) (cs:List V):lJ h m kp (.agg cs)=fag (il h m kp cs):=by
 simp only [lJ,fag]
 cases il h m kp cs<;>rfl
theorem HT (cs:List V):fag (some cs)=some (.agg cs):=rfl
theorem Fc (m:Nat) (kp:List Nat) (v:Value):lJ h m kp (.lit v)=some (.lit v):=rfl
theorem FP (m:Nat) (kp:List Nat) (q:Nat) (r:List (List V)):lJ h m kp (.imm q r)=some (.imm q r):=rfl
theorem zJ (m:Nat) (kp:List Nat):lJ h m kp .undef=some .undef:=rfl
theorem Jp (m:Nat) (kp:List Nat) (f:FuncId):lJ h m kp (.fn f [])=some (.fn f []):=rfl
theorem H8 (m:Nat) (kp:List Nat) (v:Value):eG h m kp (.lit v)=some (.lit v):=rfl
theorem Eo (m:Nat) (kp:List Nat) (q:Nat) (r:List (List V)):eG h m kp (.imm q r)=some (.imm q r):=rfl
theorem LC (m:Nat) (kp:List Nat) (f:FuncId):eG h m kp (.fn f [])=some (.fn f []):=rfl
theorem Aa (m:Nat) (kp:List Nat):eG h m kp .undef=some .undef:=rfl
def M2:Option (V×List Nat)→Option V
 |some (v,_)=>some v
 |none=>none
def fcO (h:ah) (m:Nat) (kp:List Nat) (b s q:Nat):Option V:=br (Nat.blt b m) (some (.sl b s q)) (br (kp.contains b) (some (.sl (m+cM b kp) s q)) (M2 (eo h (.sl b s q))))
theorem rM (m:Nat) (kp:List Nat) (b s q:Nat):eG h m kp (.sl b s q)=fcO h m kp b s q:=by
 simp only [eG,fcO,lH,M2]
 by_cases h1:b<m
 ·simp [h1,br]
 ·by_cases h2:b∈kp
  ·simp [h1,h2,br]
  ·have:kp.contains b=false:=by simpa using h2
   simp only [h1,h2,this,if_false,decide_false,aZ]
   cases eo h (.sl b s q)<;>rfl
theorem Er (m:Nat) (kp:List Nat) (b s q:Nat):lJ h m kp (.sl b s q)=fcO h m kp b s q:=rM m kp b s q
theorem Po (m:Nat) (kp:List Nat) (b s q:Nat):fcO h m kp b s q=br (Nat.blt b m) (some (.sl b s q)) (br (kp.contains b) (some (.sl (m+cM b kp) s q)) (M2 (eo h (.sl b s q)))):=rfl
theorem DY (v:V) (bs:List Nat):M2 (some (v,bs))=some v:=rfl
def fcP (m:Nat) (kp:List Nat) (b i o q:Nat):Option V:=br (Nat.blt b m) (some (.ptr b i o q)) (br (kp.contains b) (some (.ptr (m+cM b kp) i o q)) none)
theorem rF (m:Nat) (kp:List Nat) (b i o q:Nat):eG h m kp (.ptr b i o q)=fcP m kp b i o q:=by
 simp only [eG,fcP,lH]
 by_cases h1:b<m
 ·simp [h1,br]
 ·by_cases h2:b∈kp
  ·simp [h1,h2,br]
  ·have:kp.contains b=false:=by simpa using h2
   simp [h1,h2,this,br]
theorem HG (m:Nat) (kp:List Nat) (b i o q:Nat):lJ h m kp (.ptr b i o q)=fcP m kp b i o q:=rF (h:=h) m kp b i o q
theorem O3 (m:Nat) (kp:List Nat) (b i o q:Nat):fcP m kp b i o q=br (Nat.blt b m) (some (.ptr b i o q)) (br (kp.contains b) (some (.ptr (m+cM b kp) i o q)) none):=rfl
def fb2:Option Blk→Option (List Blk)→Option (List Blk)
 |some k,some r=>some (k::r)
 |_,_=>none
def fb1 (h:ah) (m:Nat) (kp r:List Nat):Option Blk→Option (List Blk)
 |some k=>fb2 (sM h m kp k) (gZ h m kp r)
 |none=>none
theorem D0 (m:Nat) (kp:List Nat):gZ h m kp []=some []:=rfl
theorem A9 (m:Nat) (kp:List Nat) (b:Nat) (r:List Nat):gZ h m kp (b::r)=fb1 h m kp r (h b):=by
 simp only [gZ,fb1,fb2]
 cases h b with
 |none=>rfl
 |some k=>dsimp only;cases sM h m kp k<;>cases gZ h m kp r<;>rfl
theorem Iz (m:Nat) (kp r:List Nat) (k:Blk):fb1 h m kp r (some k)=fb2 (sM h m kp k) (gZ h m kp r):=rfl
theorem HA (k:Blk) (r:List Blk):fb2 (some k) (some r)=some (k::r):=rfl
theorem LD (m:Nat) (kp:List Nat) (q:Nat) (r:List (List V)):sM h m kp ⟨q,false,r⟩=some ⟨q,false,r⟩:=rfl
def fbO (q:Nat):Option (List V)→Option Blk
 |some row=>some ⟨q,true,[row]⟩
 |none=>none
theorem DD (m:Nat) (kp:List Nat):ji h m kp []=some []:=rfl
theorem iQ (m:Nat) (kp:List Nat) (v:V) (r:List V):ji h m kp (v::r)=rs1 (nm h m kp v) (ji h m kp r):=by
 simp only [ji,rs1]
 cases nm h m kp v<;>cases ji h m kp r<;>rfl
def fnR (f:FuncId):Option (List V)→Option V
 |some cs=>some (.fn f cs)
 |none=>none
theorem IT (f:FuncId) (cs:List V):fnR f (some cs)=some (.fn f cs):=rfl
theorem Gu (m:Nat) (kp:List Nat) (f:FuncId):nm h m kp (.fn f [])=some (.fn f []):=rfl
theorem Jh (m:Nat) (kp:List Nat) (f:FuncId) (c:V) (cs:List V):nm h m kp (.fn f (c::cs))=fnR f (il h m kp (c::cs)):=by
 simp only [nm,fnR]
 cases il h m kp (c::cs)<;>rfl
theorem FZ (m:Nat) (kp:List Nat) (v:Value):nm h m kp (.lit v)=some (.lit v):=rfl
theorem H6 (m:Nat) (kp:List Nat) (q:Nat) (r:List (List V)):nm h m kp (.imm q r)=some (.imm q r):=rfl
theorem Ak (m:Nat) (kp:List Nat):nm h m kp .undef=some .undef:=rfl
theorem Dh (m:Nat) (kp:List Nat) (r:List V) (o:Nat):nm h m kp (.iptr r o)=some (.iptr r o):=rfl
theorem GE (m:Nat) (kp:List Nat) (b s q:Nat):nm h m kp (.sl b s q)=fcO h m kp b s q:=rM m kp b s q
theorem FT (m:Nat) (kp:List Nat) (b i o q:Nat):nm h m kp (.ptr b i o q)=fcP m kp b i o q:=rF (h:=h) m kp b i o q
theorem Kr (m:Nat) (kp:List Nat) (q:Nat) (row:List V):sM h m kp ⟨q,true,[row]⟩=fbO q (ji h m kp row):=by
 simp only [sM,gM,fbO]
 cases ji h m kp row<;>rfl
theorem GU (q:Nat) (row:List V):fbO q (some row)=some ⟨q,true,[row]⟩:=rfl
theorem GA (t u:Nat) (v:V) (r:List (Nat×V)) (m:List (Nat×Blk)):St.get ⟨(u,v)::r,m⟩ t=if u=t then v else St.get ⟨r,m⟩ t:=by
 simp only [St.get,b7]
 split<;>rfl
theorem K4 (t:Nat) (m:List (Nat×Blk)):St.get ⟨[],m⟩ t= .undef:=rfl
theorem BI (b c:Nat) (k:Blk) (r:List (Nat×Blk)) (x:List (Nat×V)):St.heap ⟨x,(c,k)::r⟩ b=if c=b then some k else St.heap ⟨x,r⟩ b:=rfl
theorem Iu (b:Nat) (x:List (Nat×V)):St.heap ⟨x,[]⟩ b=none:=rfl
theorem EL (x:List (Nat×V)) (m:List (Nat×Blk)) (d:Nat) (v:V):St.put ⟨x,m⟩ (some d) v=⟨(d,v)::x,m⟩:=rfl
theorem HW (st:St) (v:V):st.put none v=st:=rfl
theorem Q8 (x:List (Nat×V)) (m:List (Nat×Blk)) (u:Upd):St.upd ⟨x,m⟩ u=⟨x,yU m u⟩:=rfl
theorem Kb (st:St):st.upd []=st:=rfl
theorem J6 (m:List (Nat×Blk)):yU m []=m:=rfl
theorem Ek (m:List (Nat×Blk)) (b:Nat) (k:Blk) (r:Upd):yU m ((b,k)::r)=yU (ci b k m) r:=rfl
theorem FM {β:Type} (k:Nat) (v:β):ci k v []=[(k,v)]:=rfl
theorem E0 {β:Type} (k j:Nat) (v u:β) (r:List (Nat×β)):ci k v ((j,u)::r)=if j=k then (j,v)::r else (j,u)::ci k v r:=rfl
theorem SN (st:St) (t:Nat):st.ev (.t t)=st.get t:=rfl
theorem SY (st:St) (v:Value):st.ev (.c v)= .lit v:=rfl
theorem SO (st:St) (f:FuncId):st.ev (.f f)= .fn f []:=rfl
theorem L3 (live:List Nat) (x:List (Nat×V)) (m:List (Nat×Blk)):trim live ⟨x,m⟩=⟨live.map fun t=>(t,St.get ⟨x,m⟩ t),m⟩:=rfl
theorem Ac {β:Type} (n:Nat):eY n ([]:List β)=[]:=rfl
theorem wC {β:Type} (n:Nat) (x:β) (r:List β):eY n (x::r)=(n,x)::eY (n+1) r:=rfl
theorem start_eq (a:List V) (b:List Blk):start a b=⟨eY 0 a,eY 0 b⟩:=rfl
theorem xX:ca ev []=[]:=rfl
theorem uW (a b:Nat) (x:Opd) (r:List (Nat×Nat×Opd)):ca ev ((a,b,x)::r)=(a,b,ev x)::ca ev r:=rfl
theorem CD (cs:List V):pW cs []=some cs:=rfl
theorem AH (cs:List V) (off size:Nat) (v:V) (r:List (Nat×Nat×V)):pW cs ((off,size,v)::r)=br (Nat.beq v.cells.length size&&Nat.ble (off+size) cs.length&&v.cells.all V.cell) (pW (cs.take off++(v.cells++cs.drop (off+size))) r) none:=rfl
theorem Eg (m:Nat) (r:List (List V)):oM m r []=some r:=rfl
theorem Aj (m:Nat) (rows:List (List V)) (i:Nat) (v:V) (r:List (Nat×V)):oM m rows ((i,v)::r)=br (Nat.beq v.cells.length m&&(Nat.blt i rows.length&&v.cells.all V.cell)) (oM m (rows.set i v.cells) r) none:=rfl
theorem CG (cs:List V):(V.agg cs).cells=cs:=rfl
theorem uA (v:Value):(V.lit v).cells=[.lit v]:=rfl
theorem Cr (m:Nat) (r:List (List V)):(V.imm m r).cells=[.imm m r]:=rfl
theorem DB (b s q:Nat):(V.sl b s q).cells=[.sl b s q]:=rfl
theorem D2 (b i o m:Nat):(V.ptr b i o m).cells=[.ptr b i o m]:=rfl
theorem ze (r:List V) (o:Nat):(V.iptr r o).cells=[.iptr r o]:=rfl
theorem IP (f:FuncId) (cs:List V):(V.fn f cs).cells=[.fn f cs]:=rfl
theorem yd (k:IntKind) (a:Int):(V.lit (.int k a)).cell=true:=rfl
theorem C6 (a:Bool):(V.lit (.bool a)).cell=true:=rfl
theorem HC (a:ByteArray):(V.lit (.string a)).cell=true:=rfl
theorem GX (a:Option Addr) (n m:Nat):(V.lit (.slice a n m)).cell=true:=rfl
theorem Gb (m:Nat) (r:List (List V)):(V.imm m r).cell=true:=rfl
theorem IJ (b s q:Nat):(V.sl b s q).cell=true:=rfl
theorem Ge (b i o m:Nat):(V.ptr b i o m).cell=true:=rfl
theorem DP (r:List V) (o:Nat):(V.iptr r o).cell=true:=rfl
theorem LN (f:FuncId) (cs:List V):(V.fn f cs).cell=true:=rfl
theorem K1 (k:IntKind) (a:Int):aC (.int k a)=true:=rfl
theorem Gj (a:Bool):aC (.bool a)=true:=rfl
theorem Kp (a:ByteArray):aC (.string a)=true:=rfl
theorem Mm (a:Option Addr) (n m:Nat):aC (.slice a n m)=true:=rfl
theorem JH (a:Option Addr):aC (.pointer a)=true:=rfl
theorem Ca:cf []=[]:=rfl
theorem zV (b:Nat) (r:List Nat):cf (b::r)=(b,ez)::cf r:=rfl
theorem LK (ids:List Nat):dS ids []=[]:=by cases ids<;>rfl
theorem EW (i:Nat) (ids:List Nat) (k:Blk) (r:List Blk):dS (i::ids) (k::r)=(i,k)::dS ids r:=rfl
theorem IW (b x:Nat) (r:List Nat):cM b (x::r)=if x=b then 0 else cM b r+1:=rfl
theorem zo (b:Nat):bK [] b=[b]:=rfl
theorem D6 (ids:List Nat) (b:Nat):bK ids b=br (ids.contains b) ids (ids++[b]):=by
 unfold bK
 by_cases h:b∈ids<;>simp [h,br]
theorem N9:List.range 1=[0]:=rfl
theorem PZ:List.range 2=[0,1]:=rfl
theorem NY:List.range 3=[0,1,2]:=rfl
theorem PK:List.range 4=[0,1,2,3]:=rfl
theorem GC (v:V):vO [v]=v:=rfl
theorem GF:vO []= .tup []:=rfl
theorem FQ (a b:V) (r:List V):vO (a::b::r)= .tup (a::b::r):=rfl
theorem A8 (o:List Nat) (a:List V):gH o a=br (o.contains 1000) a (a.map V.czA):=by
 unfold gH;cases o.contains 1000<;>rfl
theorem zM (o:List Nat) (a:List Blk):gS o a=br (o.contains 1000) a (a.map Blk.cz):=by
 unfold gS;cases o.contains 1000<;>rfl
theorem Da (a:Nat) (r:List Nat):(a::r).getD 0 0=a:=rfl
theorem Du (a n:Nat) (r:List Nat):(a::r).getD (n+1) 0=r.getD n 0:=rfl
def Aw (st:St) (bs:List Nat):St:={ e:=sv (fzA st.heap bs) st.e,m:=fzM st.heap bs st.m }
theorem EM (st:St) (bs:List Nat):aM st (.close bs)=br (bs.all (fun b=>Nat.ble 1000 b)) (some (Aw st bs)) none:=by
 simp only [aM,Aw,oJ]
 cases bs.all (fun b=>decide (1000≤b))<;>rfl
theorem Df (x:List (Nat×V)) (m:List (Nat×Blk)) (bs:List Nat):Aw ⟨x,m⟩ bs=⟨sv (fzA (St.heap ⟨x,m⟩) bs) x,fzM (St.heap ⟨x,m⟩) bs m⟩:=rfl
theorem Fj (g:V→V):sv g []=[]:=rfl
theorem BY (g:V→V) (t:Nat) (v:V) (r:List (Nat×V)):sv g ((t,v)::r)=(t,g v)::sv g r:=rfl
variable {bs:List Nat}
theorem Qo (v:Value):fzA h bs (.lit v)= .lit v:=rfl
theorem NT (m:Nat) (r:List (List V)):fzA h bs (.imm m r)= .imm m r:=rfl
theorem ML (r:List V) (o:Nat):fzA h bs (.iptr r o)= .iptr r o:=rfl
theorem Iy:fzA h bs .undef= .undef:=rfl
theorem Px (vs:List V):fzA h bs (.tup vs)= .undef:=rfl
def fzO:Option (V×List Nat)→V
 |some (v,_)=>v.cz
 |none=> .undef
theorem J2 (b s q:Nat):fzA h bs (.sl b s q)=br (bs.contains b) (fzO (eo h (.sl b s q))) (.sl b s q):=by
 simp only [fzA,fzC,fzO]
 by_cases hb:b∈bs
 ·simp [hb,br];cases eo h (.sl b s q)<;>rfl
 ·simp [hb,br]
theorem Hu (b i o m:Nat):fzA h bs (.ptr b i o m)=br (bs.contains b) .undef (.ptr b i o m):=by
 simp only [fzA,fzC]
 by_cases hb:b∈bs<;>simp [hb,br]
theorem Ih (v:V) (b:List Nat):fzO (some (v,b))=v.cz:=rfl
theorem Pe (cs:List V):fzA h bs (.agg cs)=br ((cs.map (fzC h bs)).all V.cell) (.agg (cs.map (fzC h bs))) .undef:=by
 simp only [fzA]
 cases (cs.map (fzC h bs)).all V.cell<;>rfl
theorem MT (f:FuncId) (cs:List V):fzA h bs (.fn f cs)=br (cs.all okC&& !(cs.flatMap ft).any (fun b=>bs.contains b)) (.fn f cs) .undef:=by
 simp only [fzA,fzC]
 have:(fun b=>decide (b∈bs))=fun b=>bs.contains b:=by funext b;simp [Bool.eq_iff_iff]
 rw [this]
 cases (cs.all okC&& !(cs.flatMap ft).any (fun b=>bs.contains b))<;>rfl
theorem Kh (v:Value):fzC h bs (.lit v)= .lit v:=rfl
theorem JK (m:Nat) (r:List (List V)):fzC h bs (.imm m r)= .imm m r:=rfl
theorem Qj (f:FuncId) (cs:List V):fzC h bs (.fn f cs)=br (cs.all okC&& !(cs.flatMap ft).any (fun b=>bs.contains b)) (.fn f cs) .undef:=MT (h:=h) f cs
theorem Jl (b i o m:Nat):okC (.ptr b i o m)=true:=rfl
theorem JS (b s q:Nat):okC (.sl b s q)=true:=rfl
theorem Mr (v:Value):okC (.lit v)=true:=rfl
theorem M9 (m:Nat) (r:List (List V)):okC (.imm m r)=true:=rfl
theorem Q0 (f:FuncId):okC (.fn f [])=true:=rfl
theorem EU (r:List V) (o:Nat):fzC h bs (.iptr r o)= .iptr r o:=rfl
theorem JX (b s q:Nat):fzC h bs (.sl b s q)=br (bs.contains b) (fzO (eo h (.sl b s q))) (.sl b s q):=J2 b s q
theorem JA (b i o m:Nat):fzC h bs (.ptr b i o m)=br (bs.contains b) .undef (.ptr b i o m):=Hu (h:=h) b i o m
theorem Ja:fzM h bs []=[]:=rfl
def fzK (h:ah) (bs:List Nat) (k:Blk):Blk:=if k.op then (if (k.rows.map (·.map (fzC h bs))).all (·.all V.cell) then { k with rows:=k.rows.map (·.map (fzC h bs)) } else ez) else k
theorem Fq (b:Nat) (k:Blk) (r:List (Nat×Blk)):fzM h bs ((b,k)::r)=br (bs.contains b) (fzM h bs r) ((b,fzK h bs k)::fzM h bs r):=by
 simp only [fzM,fzK]
 by_cases hb:b∈bs<;>simp [hb,br]
theorem Q9 (m:Nat) (r:List (List V)):fzK h bs ⟨m,false,r⟩=⟨m,false,r⟩:=rfl
theorem Nc (m:Nat) (row:List V):fzK h bs ⟨m,true,[row]⟩=br ((row.map (fzC h bs)).all V.cell) ⟨m,true,[row.map (fzC h bs)]⟩ ez:=by
 simp only [fzK,List.map_cons,List.map_nil,List.all_cons,List.all_nil,Bool.and_true,if_true]
 cases (row.map (fzC h bs)).all V.cell<;>rfl
section
variable {R:Type} {T:Tab} {ow:bf} {k:aH→St→Option R} {d:Option Nat} {n:Nat} {ss:List aD} {live:List Nat} {K:List Fr} {st:St} {base i:Nat} {deps:List (List Nat)} {rs:List Rec} {fp:List Nat} {r:R}
theorem HZ {fl ro:Bool} {h:ah} {new:Nat} {ids bor:List Nat} {x:Option (V×List Blk)} {p:V×List Blk} (hx:x=some p) (hr:aft T ow k d n ss live K st (pY fl ro h new ids bor (some p))=some r):aft T ow k d n ss live K st (pY fl ro h new ids bor x)=some r:=by
 rw [hx];exact hr
theorem BK {fl ro:Bool} {h:ah} {new:Nat} {ids bor:List Nat} {x:Option (V×List Blk)} {p:V×List Blk} (hx:x=some p) (hr:qO T ow k d base i ss deps live rs K st fp (pY fl ro h new ids bor (some p))=some r):qO T ow k d base i ss deps live rs K st fp (pY fl ro h new ids bor x)=some r:=by
 rw [hx];exact hr
theorem QA (b:Int):nn b=decide (0≤b):=rfl
theorem Sf (b:Int):nz b=decide (b≠0):=rfl
theorem PQ (i:Int) (n:Nat):inb i n=(decide (0≤i)&&decide (i.toNat<n)):=rfl
end
end
section
variable {ow:bf} {ev:Opd→V} {h:ah} {α:Type} {e:En α} {l:List α}
theorem Rt (x:Opd):bS ow (.mv x) ev h=[]:=rfl
theorem RN (x:Opd):(AOp.mv x).opds=[x]:=rfl
theorem Lo (c a b:Opd):bS ow (.pick c a b) ev h=((AOp.pick c a b).opds.map ev).flatMap bL:=rfl
theorem KN (c a b:Opd):(AOp.pick c a b).opds=[c,a,b]:=rfl
theorem Iv (z:List Value):bS ow (.alloc z) ev h=((AOp.alloc z).opds.map ev).flatMap bL:=rfl
theorem GM (z:List Value):(AOp.alloc z).opds=[]:=rfl
theorem O4 (m:Nat) (x:Opd):bS ow (.box m x) ev h=((AOp.box m x).opds.map ev).flatMap bL:=rfl
theorem OO (m:Nat) (x:Opd):(AOp.box m x).opds=[x]:=rfl
theorem xh (z:List Value) (ps:List (Nat×Nat×Opd)):bS ow (.build z ps) ev h=((AOp.build z ps).opds.map ev).flatMap bL:=rfl
theorem wQ (z:List Value) (ps:List (Nat×Nat×Opd)):(AOp.build z ps).opds=ps.map (·.2.2):=rfl
theorem tO (m:Nat) (z:List Value) (l:Nat) (ps:List (Nat×Opd)):bS ow (.buildSlice m z l ps) ev h=((AOp.buildSlice m z l ps).opds.map ev).flatMap bL:=rfl
theorem tK (m:Nat) (z:List Value) (l:Nat) (ps:List (Nat×Opd)):(AOp.buildSlice m z l ps).opds=ps.map (·.2):=rfl
theorem M1 (g:Option Nat) (x:Opd):bS ow (.load g x) ev h=((AOp.load g x).opds.map ev).flatMap bL:=rfl
theorem JL (g:Option Nat) (x:Opd):(AOp.load g x).opds=[x]:=rfl
theorem Ho (m:Nat) (x y:Opd):bS ow (.store m x y) ev h=((AOp.store m x y).opds.map ev).flatMap bL:=rfl
theorem HF (m:Nat) (x y:Opd):(AOp.store m x y).opds=[x,y]:=rfl
theorem yV (x:Opd):bS ow (.nilCheck x) ev h=((AOp.nilCheck x).opds.map ev).flatMap bL:=rfl
theorem xa (x:Opd):(AOp.nilCheck x).opds=[x]:=rfl
theorem N7 (op:BinOp) (x y:Opd):bS ow (.bin op x y) ev h=((AOp.bin op x y).opds.map ev).flatMap bL:=rfl
theorem Oq (op:BinOp) (x y:Opd):(AOp.bin op x y).opds=[x,y]:=rfl
theorem G7 (b:Bool) (ks:List Bool) (x y:Opd):bS ow (.eqAgg b ks x y) ev h=((AOp.eqAgg b ks x y).opds.map ev).flatMap bL:=rfl
theorem FL (b:Bool) (ks:List Bool) (x y:Opd):(AOp.eqAgg b ks x y).opds=[x,y]:=rfl
theorem NE (b:Bool) (x y:Opd):bS ow (.beq b x y) ev h=((AOp.beq b x y).opds.map ev).flatMap bL:=rfl
theorem NS (b:Bool) (x y:Opd):(AOp.beq b x y).opds=[x,y]:=rfl
theorem Rb (op:UnOp) (x:Opd):bS ow (.un op x) ev h=((AOp.un op x).opds.map ev).flatMap bL:=rfl
theorem QN (op:UnOp) (x:Opd):(AOp.un op x).opds=[x]:=rfl
theorem Eu (k:IntKind) (x:Opd):bS ow (.toInt k x) ev h=((AOp.toInt k x).opds.map ev).flatMap bL:=rfl
theorem GR (k:IntKind) (x:Opd):(AOp.toInt k x).opds=[x]:=rfl
theorem MM (x:Opd):bS ow (.same x) ev h=((AOp.same x).opds.map ev).flatMap bL:=rfl
theorem Jj (x:Opd):(AOp.same x).opds=[x]:=rfl
theorem AE (x:Opd):bS ow (.toBytes x) ev h=((AOp.toBytes x).opds.map ev).flatMap bL:=rfl
theorem Ar (x:Opd):(AOp.toBytes x).opds=[x]:=rfl
theorem GW (x:Opd):bS ow (.toStr x) ev h=((AOp.toStr x).opds.map ev).flatMap bL:=rfl
theorem EH (x:Opd):(AOp.toStr x).opds=[x]:=rfl
theorem yZ (f:FuncId) (cs:List Opd):bS ow (.makeFunc f cs) ev h=[]:=rfl
theorem yh (f:FuncId) (cs:List Opd):(AOp.makeFunc f cs).opds=cs:=rfl
theorem ve (m b:Nat) (z:List Value) (x y:Opd):bS ow (.makeSlice m b z x y) ev h=((AOp.makeSlice m b z x y).opds.map ev).flatMap bL:=rfl
theorem vM (m b:Nat) (z:List Value) (x y:Opd):(AOp.makeSlice m b z x y).opds=[x,y]:=rfl
theorem ym (x:Opd) (lo hi:Option Opd):bS ow (.sliceStr x lo hi) ev h=((AOp.sliceStr x lo hi).opds.map ev).flatMap bL:=rfl
theorem yb (x:Opd) (lo hi:Option Opd):(AOp.sliceStr x lo hi).opds=x::(oX lo++oX hi):=rfl
theorem Ij (m:Nat) (x:Opd) (lo hi mx:Option Opd):bS ow (.slice m x lo hi mx) ev h=((AOp.slice m x lo hi mx).opds.map ev).flatMap bL:=rfl
theorem J5 (m:Nat) (x:Opd) (lo hi mx:Option Opd):(AOp.slice m x lo hi mx).opds=x::(oX lo++(oX hi++oX mx)):=rfl
theorem OE (m:Nat) (x:Opd):bS ow (.off m x) ev h=[]:=rfl
theorem P3 (m:Nat) (x:Opd):(AOp.off m x).opds=[x]:=rfl
theorem GI (m:Nat) (g:Option Nat) (x:Opd):bS ow (.field m g x) ev h=((AOp.field m g x).opds.map ev).flatMap bL:=rfl
theorem IU (m:Nat) (g:Option Nat) (x:Opd):(AOp.field m g x).opds=[x]:=rfl
theorem N1 (m:Nat) (x y:Opd):bS ow (.idx m x y) ev h=((AOp.idx m x y).opds.map ev).flatMap bL:=rfl
theorem Qm (m:Nat) (x y:Opd):(AOp.idx m x y).opds=[x,y]:=rfl
theorem BN (m q:Nat) (x y:Opd):bS ow (.idxArr m q x y) ev h=((AOp.idxArr m q x y).opds.map ev).flatMap bL:=rfl
theorem CW (m q:Nat) (x y:Opd):(AOp.idxArr m q x y).opds=[x,y]:=rfl
theorem Gg (x y:Opd):bS ow (.ixStr x y) ev h=((AOp.ixStr x y).opds.map ev).flatMap bL:=rfl
theorem Fg (x y:Opd):(AOp.ixStr x y).opds=[x,y]:=rfl
theorem ES (m q:Nat) (g:Option Nat) (x y:Opd):bS ow (.ixAgg m q g x y) ev h=((AOp.ixAgg m q g x y).opds.map ev).flatMap bL:=rfl
theorem GD (m q:Nat) (g:Option Nat) (x y:Opd):(AOp.ixAgg m q g x y).opds=[x,y]:=rfl
theorem Oj (x:Opd) (i:Nat):bS ow (.ext x i) ev h=[]:=rfl
theorem P1 (x:Opd) (i:Nat):(AOp.ext x i).opds=[x]:=rfl
theorem Q5 (b:Bool) (x:Opd):bS ow (.len b x) ev h=[]:=rfl
theorem Pk (b:Bool) (x:Opd):(AOp.len b x).opds=[x]:=rfl
theorem Cc (m:Nat) (x:Opd):bS ow (.lenArr m x) ev h=((AOp.lenArr m x).opds.map ev).flatMap bL:=rfl
theorem DM (m:Nat) (x:Opd):(AOp.lenArr m x).opds=[x]:=rfl
theorem zd (m b:Nat) (z:List Value) (x y:Opd):bS ow (.appendN m b z x y) ev h=((AOp.appendN m b z x y).opds.map ev).flatMap bL:=rfl
theorem Av (m b:Nat) (z:List Value) (x y:Opd):(AOp.appendN m b z x y).opds=[x,y]:=rfl
theorem Ex (b:Bool) (x:Opd):bS ow (.isNil b x) ev h=((AOp.isNil b x).opds.map ev).flatMap bL:=rfl
theorem HB (b:Bool) (x:Opd):(AOp.isNil b x).opds=[x]:=rfl
theorem Dx (m b:Nat) (z:List Value) (x y:Opd):bS ow (.append m b z x y) ev h=((AOp.append m b z x y).opds.map ev).flatMap bL:=rfl
theorem Dr (m b:Nat) (z:List Value) (x y:Opd):(AOp.append m b z x y).opds=[x,y]:=rfl
theorem Jc (m:Nat) (x y:Opd):bS ow (.copy m x y) ev h=((AOp.copy m x y).opds.map ev).flatMap bL:=rfl
theorem Lc (m:Nat) (x y:Opd):(AOp.copy m x y).opds=[x,y]:=rfl
theorem Lg (x y:Opd):bS ow (.max2 x y) ev h=((AOp.max2 x y).opds.map ev).flatMap bL:=rfl
theorem LU (x y:Opd):(AOp.max2 x y).opds=[x,y]:=rfl
theorem Lp (x y:Opd):bS ow (.min2 x y) ev h=((AOp.min2 x y).opds.map ev).flatMap bL:=rfl
theorem K5 (x y:Opd):(AOp.min2 x y).opds=[x,y]:=rfl
theorem xH (x:Opd):bS ow (.bytesOwn x) ev h=((AOp.bytesOwn x).opds.map ev).flatMap bL:=rfl
theorem xr (x:Opd):(AOp.bytesOwn x).opds=[x]:=rfl
theorem Hh (m:Nat) (x:Opd):bS ow (.arrOf m x) ev h=((AOp.arrOf m x).opds.map ev).flatMap bL:=rfl
theorem Gx (m:Nat) (x:Opd):(AOp.arrOf m x).opds=[x]:=rfl
theorem Oy (x:Opd):oX (some x)=[x]:=rfl
theorem Pa:oX none=[]:=rfl
def fpC:Option (List V×List Blk×List Nat×List Nat)→List Nat
 |some (_,_,ids,bor)=>ids++bor
 |none=>[]
theorem H5 (a:List V) (b:List Blk) (ids bor:List Nat):fpC (some (a,b,ids,bor))=ids++bor:=rfl
theorem KO (f:FuncId) (args:List Opd):bS ow (.call f args) ev h=fpC (bn ow h f (args.map ev)):=by
 show pC ow h f (args.map ev)=_
 unfold pC fpC
 cases bn ow h f (args.map ev)<;>rfl
def fpD (ow:bf) (h:ah) (args:List V):V→List Nat
 | .fn k caps=>fpC (bn ow h k (args++caps))
 |_=>[]
theorem Nw (f:Opd) (args:List Opd):bS ow (.dyn f args) ev h=fpD ow h (args.map ev) (ev f):=by
 show (match ev f with
  | .fn k caps=>pC ow h k (args.map ev++caps)
  |_=>[])=_
 cases ev f<;>first|rfl| (simp only [fpD,pC,fpC];cases bn ow h _ _<;>rfl)
theorem PR (args:List V) (k:FuncId) (caps:List V):fpD ow h args (.fn k caps)=fpC (bn ow h k (args++caps)):=rfl
theorem JG (cs:List V):bL (.agg cs)=cs.flatMap ft:=rfl
theorem NX (f:FuncId) (cs:List V):bL (.fn f cs)=cs.flatMap ft:=rfl
theorem Jw (cs:List V):bL (.tup cs)=cs.flatMap fun| .agg cs=>cs.flatMap ft|v=>ft v:=rfl
theorem JQ (v:Value):bL (.lit v)=[]:=rfl
theorem K8 (m:Nat) (r:List (List V)):bL (.imm m r)=[]:=rfl
theorem Fa (r:List V) (o:Nat):bL (.iptr r o)=[]:=rfl
theorem Ki (b i o m:Nat):bL (.ptr b i o m)=[b]:=rfl
theorem Mw (b s q:Nat):bL (.sl b s q)=[b]:=rfl
theorem E2:bL .undef=[]:=rfl
theorem Lu (v:Value):ft (.lit v)=[]:=rfl
theorem Mz (m:Nat) (r:List (List V)):ft (.imm m r)=[]:=rfl
theorem IA (r:List V) (o:Nat):ft (.iptr r o)=[]:=rfl
theorem Ku (b i o m:Nat):ft (.ptr b i o m)=[b]:=rfl
theorem Mn (b s q:Nat):ft (.sl b s q)=[b]:=rfl
theorem OQ (f:FuncId) (cs:List V):ft (.fn f cs)=[]:=rfl
theorem D7:ft .undef=[]:=rfl
theorem xd (fp:List Nat) (b:Nat):fG h fp b=br (fp.contains b) (h b) none:=by
 unfold fG
 by_cases hb:b∈fp<;>simp [hb,br]
theorem Jb (rs:List Rec) (i:Nat) (fp wr:List Nat):DZ rs i fp wr=br (fp.isEmpty&&wr.isEmpty) rs (rs++[⟨i,fp,wr⟩]):=by
 have h:Rec.loud ⟨i,fp,wr⟩= !(fp.isEmpty&&wr.isEmpty):=rfl
 unfold DZ
 cases h1:Rec.loud ⟨i,fp,wr⟩ with
 |true=>
  rw [h1] at h
  have h2:(fp.isEmpty&&wr.isEmpty)=false:=by
   cases hx:fp.isEmpty&&wr.isEmpty with
   |false=>rfl
   |true=>rw [hx] at h;cases h
  rw [h2,aZ,List.filter_cons_of_pos h1];rfl
 |false=>
  rw [h1] at h
  have h2:(fp.isEmpty&&wr.isEmpty)=true:=by
   cases hx:fp.isEmpty&&wr.isEmpty with
   |true=>rfl
   |false=>rw [hx] at h;cases h
  rw [h2,bI,List.filter_cons_of_neg (by rw [h1];decide)];simp
theorem DC (deps:List (List Nat)):eR deps []=true:=rfl
theorem zP (deps:List (List Nat)) (p:Rec) (r:List Rec):eR deps (p::r)=(mL deps p r&&eR deps r):=rfl
theorem K9 (deps:List (List Nat)) (p:Rec):mL deps p []=true:=rfl
theorem Ie (deps:List (List Nat)) (i j:Nat) (f g w u:List Nat) (r:List Rec):mL deps ⟨i,f,w⟩ (⟨j,g,u⟩::r)=((w.isEmpty&&u.isEmpty||(deps.getD j []).contains i|| !(w.any (fun b=>decide (b∈g)||decide (b∈u))||u.any (fun b=>decide (b∈f))))&&mL deps ⟨i,f,w⟩ r):=rfl
theorem zw {β:Type} (a d:β) (r:List β):(a::r).getD 0 d=a:=rfl
theorem zI {β:Type} (a d:β) (n:Nat) (r:List β):(a::r).getD (n+1) d=r.getD n d:=rfl
theorem Lj (m:Nat) (cs:List V) (n:Nat):Nm m cs h n=br (Nat.beq cs.length m&&cs.all V.cell) (frO (h n) n ⟨m,true,[cs]⟩ (.ptr n 0 0 1)) none:=rfl
theorem aj (x:Int) (h1: -9223372036854775808≤x) (h2:x<9223372036854775808):IntKind.wrap .i64 x=x:=by
 simp [IntKind.wrap,IntKind.bits,IntKind.signed];omega
theorem HH (x:Int) (h1:0≤x) (h2:x<18446744073709551616):IntKind.wrap .u64 x=x:=by
 simp [IntKind.wrap,IntKind.bits,IntKind.signed];omega
theorem KA (x:Int) (h1:0≤x) (h2:x<256):IntKind.wrap .u8 x=x:=by
 simp [IntKind.wrap,IntKind.bits,IntKind.signed];omega
theorem pw (n:Nat):(OfNat.ofNat n:Int)=(n:Int):=rfl
theorem I6 (n:Nat) (h:Nat.ble n 9223372036854775807=true):IntKind.wrap .i64 (no_index (OfNat.ofNat n:Int))=OfNat.ofNat n:=by
 have h1:=Nat.le_of_ble_eq_true h
 rw [pw];exact aj _ (by omega) (by omega)
theorem D3 (n:Nat) (h:Nat.ble n 18446744073709551615=true):IntKind.wrap .u64 (no_index (OfNat.ofNat n:Int))=OfNat.ofNat n:=by
 have h1:=Nat.le_of_ble_eq_true h
 rw [pw];exact HH _ (by omega) (by omega)
theorem Cp (n:Nat) (h:Nat.ble n 255=true):IntKind.wrap .u8 (no_index (OfNat.ofNat n:Int))=OfNat.ofNat n:=by
 have h1:=Nat.le_of_ble_eq_true h
 rw [pw];exact KA _ (by omega) (by omega)
theorem Ob (a b:Nat):(a==b)=decide (a=b):=by
 by_cases h:a=b
 ·subst h;simp
 ·rw [decide_eq_false h];simpa using h
theorem OK:List.range 0=[]:=rfl
theorem z2 (m:Nat) (vs:List V):dg true h m vs=kW m [] ((List.range m).flatMap fun b=>AK (h b)):=rfl
theorem DO (m:Nat) (vs:List V):dg false h m vs=kW m [] (vs.flatMap bL):=rfl
theorem LH (m:Nat) (row:List V):AK (some ⟨m,true,[row]⟩)=row.flatMap bL:=by simp [AK]
theorem LQ (m:Nat) (r:List (List V)):AK (some ⟨m,false,r⟩)=[]:=rfl
theorem O9:List.range 5=[0,1,2,3,4]:=rfl
theorem Qg:List.range 6=[0,1,2,3,4,5]:=rfl
theorem Q2:List.range 7=[0,1,2,3,4,5,6]:=rfl
theorem Nz:List.range 8=[0,1,2,3,4,5,6,7]:=rfl
theorem BV (m:Nat) (acc:List Nat):kW m acc []=acc:=rfl
theorem zm (m b:Nat) (acc r:List Nat):kW m acc (b::r)=kW m (br (Nat.ble m b) (bK acc b) acc) r:=by
 simp only [kW,oJ]
 by_cases h:m≤b<;>simp [h,br]
theorem BR (n:Nat):Int.toNat (no_index (OfNat.ofNat n:Int))=OfNat.ofNat n:=rfl
end
end Go.AI
