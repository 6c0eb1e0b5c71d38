/- The machine's operations on values of Lean's own types: what writes, what makes, what calls; a function's end. -/
import Derived.Test.YtdnkignjanfikaaGreatAiTyp2
set_option linter.unusedVariables false
set_option linter.unusedSimpArgs false
namespace Go.AI
section
variable {C:aY} {ow:FuncId→List Nat} {ev:Opd→V} {h:au} {n:Nat} {α:Type} {e:En α} {l l2:List α}
def snO (k:Option Blk) (b s q:Nat):Option (V×List Nat):=match k with
 |some k=>if k.op=false∧0<k.esz∧s+q=k.rows.length then some (.imm k.esz (k.rows.drop s),[b]) else none
 |none=>none
theorem a7Q (b s q:Nat):ma h (.sl b s q)=snO (h b) b s q:=rfl
theorem b7m (m b q:Nat) (h0:Nat.blt 0 m=true) (hq:l.length=q):snO (some ⟨m,false,rws e l⟩) b 0 q=some (.imm m (rws e l),[b]):=by
 rw [Bm,decide_eq_true_eq] at h0
 simp [snO,rws,hq,h0]
theorem a6F (k:IntKind) (a:Int):ma h (.lit (.int k a))=some (.lit (.int k a),[]):=rfl
theorem a4Y (a:Bool):ma h (.lit (.bool a))=some (.lit (.bool a),[]):=rfl
theorem b0h (a:List UInt8):ma h (S a)=some (S a,[]):=rfl
theorem a74:ma h (.lit (.slice none 0 0))=some (.lit (.slice none 0 0),[]):=rfl
theorem a8b (m:Nat) (r:List (List V)):ma h (.imm m r)=some (.imm m r,[]):=rfl
def snC:Option (V×List Nat)→Option (List V×List Nat)→Option (List V×List Nat)
 |some (a,bs),some (r,bs')=>some (a.cz::r,bs++bs')
 |_,_=>none
theorem a2Q:jZ h []=some ([],[]):=rfl
theorem a0l (v:V) (r:List V):jZ h (v::r)=snC (ma h v) (jZ h r):=by
 simp only [jZ,snC]
 cases ma h v<;>cases jZ h r<;>rfl
theorem a8k (a:V) (bs:List Nat) (r:List V) (bs':List Nat):snC (some (a,bs)) (some (r,bs'))=some (a.cz::r,bs++bs'):=rfl
theorem c0o (k:IntKind) (a:Int):(V.lit (.int k a)).cz= .lit (.int k a):=rfl
theorem b4A (a:Bool):(V.lit (.bool a)).cz= .lit (.bool a):=rfl
theorem b7C (a:List UInt8):(S a).cz=S a:=rfl
theorem c0q (a:Array Value):(V.lit (.tuple a)).cz= .lit (.tuple a):=rfl
theorem b9t:(V.lit (.slice none 0 0)).cz= .imm 1 []:=rfl
theorem b9X (m:Nat):(V.imm m []).cz= .imm 1 []:=rfl
theorem b8A (b i o m:Nat):(V.ptr b i o m).cz= .ptr b i o m:=rfl
theorem c09 (b s q:Nat):(V.sl b s q).cz= .sl b s q:=rfl
theorem b3X (r:List V) (o:Nat):(V.iptr r o).cz= .iptr r o:=rfl
theorem c1T (f:FuncId) (cs:List V):(V.fn f cs).cz= .fn f cs:=rfl
theorem a8J:V.undef.cz= .undef:=rfl
theorem b3Y (cs:List V):(V.agg cs).czA= .agg (cs.map V.cz):=rfl
theorem b5S (k:IntKind) (a:Int):(V.lit (.int k a)).czA= .lit (.int k a):=rfl
theorem a6i (a:Bool):(V.lit (.bool a)).czA= .lit (.bool a):=rfl
theorem b4r (a:List UInt8):(S a).czA=S a:=rfl
theorem b2K:(V.lit (.slice none 0 0)).czA= .imm 1 []:=rfl
theorem b5x (m:Nat) (r:List (List V)):(V.imm m r).czA=(V.imm m r).cz:=rfl
theorem b2F (b i o m:Nat):(V.ptr b i o m).czA= .ptr b i o m:=rfl
theorem b5n (b s q:Nat):(V.sl b s q).czA= .sl b s q:=rfl
theorem a86 (r:List V) (o:Nat):(V.iptr r o).czA= .iptr r o:=rfl
theorem b9q (f:FuncId) (cs:List V):(V.fn f cs).czA= .fn f cs:=rfl
theorem a4Q:V.undef.czA= .undef:=rfl
theorem b2A (cs:List V):(V.tup cs).czR= .tup (cs.map V.czA):=rfl
theorem b2e (cs:List V):(V.agg cs).czR= .agg (cs.map V.cz):=rfl
theorem b4n (k:IntKind) (a:Int):(V.lit (.int k a)).czR= .lit (.int k a):=rfl
theorem a8n (a:Bool):(V.lit (.bool a)).czR= .lit (.bool a):=rfl
theorem b32 (a:List UInt8):(S a).czR=S a:=rfl
theorem b4F:(V.lit (.slice none 0 0)).czR= .imm 1 []:=rfl
theorem b5X (m:Nat) (r:List (List V)):(V.imm m r).czR=(V.imm m r).cz:=rfl
theorem b2r (b i o m:Nat):(V.ptr b i o m).czR= .ptr b i o m:=rfl
theorem b5o (b s q:Nat):(V.sl b s q).czR= .sl b s q:=rfl
theorem a6d (r:List V) (o:Nat):(V.iptr r o).czR= .iptr r o:=rfl
theorem b8H (f:FuncId) (cs:List V):(V.fn f cs).czR= .fn f cs:=rfl
theorem a6R (m:Nat) (row:List V):Blk.cz ⟨m,true,[row]⟩=⟨m,true,[row.map V.cz]⟩:=rfl
theorem a8F (m:Nat) (r:List (List V)):Blk.cz ⟨m,false,r⟩=⟨m,false,r⟩:=rfl
theorem b8j (k:IntKind) (a:Int):zc (.int k a)= .lit (.int k a):=rfl
theorem b6y (a:Bool):zc (.bool a)= .lit (.bool a):=rfl
theorem b91 (a:List UInt8):zc (.string ⟨⟨a⟩⟩)=S a:=rfl
theorem b8w:zc (.slice none 0 0)= .imm 1 []:=rfl
def stO (k:Option Blk) (b size i o m:Nat) (x:V) (h:au):Option (V×Upd):=match k with
 |some k=>if k.rows.length=m then (match k.rows[i]? with
  |some row=>
   if k.op then
    (if x.cells.length=size∧o+size≤row.length∧x.cells.all V.cell then
     some (.undef,[(b,{ k with rows:=k.rows.set i (row.take o++(x.cells++row.drop (o+size))) })]) else none)
   else match jZ h x.cells with
    |some (cs,bs)=>if cs.length=size∧o+size≤row.length∧ ¬b∈bs then
     some (.undef,fm bs++[(b,{ k with rows:=k.rows.set i (row.take o++(cs++row.drop (o+size))) })]) else none
    |none=>none
  |none=>none) else none
 |none=>none
def a0y (size:Nat) (a x:V) (h:au):Option (V×Upd):=match a with
 | .ptr b i o m=>stO (h b) b size i o m x h
 |_=>none
theorem b6L (size:Nat) (a x:Opd):aj C ow (.store size a x) ev h n=a0y size (ev a) (ev x) h:=by
 simp only [aj,a0y,stO]
 cases ev a with
 |ptr b i o m=>dsimp only;cases h b<;>rfl
 |_=>rfl
theorem a7X (size b i o m:Nat) (x:V):a0y size (.ptr b i o m) x h=stO (h b) b size i o m x h:=rfl
theorem a0B (m b size o:Nat) (row:List V) (x:V):stO (some ⟨m,true,[row]⟩) b size 0 o 1 x h=
 br (Nat.beq x.cells.length size&&(Nat.ble (o+size) row.length&&x.cells.all V.cell)) (some (.undef,[(b,⟨m,true,[row.take o++(x.cells++row.drop (o+size))]⟩)])) none:=by
 rw [Iq,Im]
 by_cases h1:x.cells.length=size<;>by_cases h2:o+size≤row.length<;>cases h3:x.cells.all V.cell<;>simp [stO,h1,h2,h3,br]
def stT (r:List (List V)) (m b size i o:Nat) (row:List V):Option (List V×List Nat)→Option (V×Upd)
 |some (cs,bs)=>br (Nat.beq cs.length size&&(Nat.ble (o+size) row.length&& !bs.contains b)) (some (.undef,fm bs++[(b,⟨m,false,dZ r i (row.take o++(cs++row.drop (o+size)))⟩)])) none
 |none=>none
theorem UT (r:List (List V)) (m b size i o:Nat) (row cs:List V) (bs:List Nat):stT r m b size i o row (some (cs,bs))=
 br (Nat.beq cs.length size&&(Nat.ble (o+size) row.length&& !bs.contains b)) (some (.undef,fm bs++[(b,⟨m,false,dZ r i (row.take o++(cs++row.drop (o+size)))⟩)])) none:=rfl
theorem b7t (m b size i o q:Nat) (x:V) (hq:l.length=q):stO (some ⟨m,false,rws e l⟩) b size i o q x h=(l[i]?).bind (fun y=>stT (rws e l) m b size i o (e.enc y) (jZ h x.cells)):=by
 simp only [stO]
 have:(rws e l).length=q:=by simp [rws,hq]
 rw [if_pos this]
 have h2:(rws e l)[i]? =(l[i]?).map e.enc:=by simp [rws]
 rw [h2]
 cases hl:l[i]? with
 |none=>rfl
 |some y=>
  simp only [Option.map_some,Option.bind_some]
  cases hs:jZ h x.cells with
  |none=>simp [stT]
  |some p=>
   obtain ⟨cs,bs⟩:=p
   rw [UT,Iq,Im]
   by_cases h1:cs.length=size<;>by_cases h2:o+size≤(e.enc y).length<;>by_cases h3:b∈bs<;>simp [h1,h2,h3,br,dZ]
def psC (i:Nat):Option (List V×List Nat)→Option (List (Nat×V)×List Nat)→Option (List (Nat×V)×List Nat)
 |some (cs,bs),some (r',bs')=>some ((i,.agg cs)::r',bs++bs')
 |_,_=>none
theorem Q5:cG h ev []=some ([],[]):=rfl
theorem N0 (i:Nat) (x:Opd) (r:List (Nat×Opd)):cG h ev ((i,x)::r)=psC i (jZ h (ev x).cells) (cG h ev r):=by
 simp only [cG,psC]
 cases jZ h (ev x).cells<;>cases cG h ev r<;>rfl
theorem a6x (i:Nat) (cs:List V) (bs:List Nat) (r:List (Nat×V)) (bs':List Nat):psC i (some (cs,bs)) (some (r,bs'))=some ((i,.agg cs)::r,bs++bs'):=rfl
def GJ (esz:Nat) (rows:List (List V)):List (Nat×V)→Option (List (List V))
 |[]=>some rows
 | (i,v)::r=>br (Nat.beq v.cells.length esz&&(Nat.blt i rows.length&&v.cells.all V.cell)) (GJ esz (rows.set i v.cells) r) none
theorem UP (esz:Nat): ∀(ps:List (Nat×V)) (rows:List (List V)),NZ esz rows ps=GJ esz rows ps
 |[],_=>rfl
 | (i,v)::r,rows=>by
   simp only [NZ,GJ,Iq,Bm]
   rw [←UP esz r]
   by_cases h1:v.cells.length=esz<;>by_cases h2:i<rows.length<;>cases h3:v.cells.all V.cell<;>simp [h1,h2,br]
def YQ (u0:Upd):Option (V×Upd)→Option (V×Upd)
 |some (v,u)=>some (v,u0++u)
 |none=>none
theorem a3h (u0 u:Upd) (v:V):YQ u0 (some (v,u))=some (v,u0++u):=rfl
theorem b6E (u0:Upd) (c:Bool) (x y:Option (V×Upd)):YQ u0 (br c x y)=br c (YQ u0 x) (YQ u0 y):=by cases c<;>rfl
theorem a4C (u0:Upd):YQ u0 none=none:=rfl
def bsR (esz len:Nat) (zero:List Value) (bs:List Nat) (h:au) (n:Nat):Option (List (List V))→Option (V×Upd)
 |some rows=>br (Nat.beq zero.length esz&&(zero.all ba&&(Nat.ble (len*esz) 16777216&& !bs.contains n))) (YQ (fm bs) (frO (h n) n ⟨esz,false,mkR n rows⟩ (.sl n 0 len))) none
 |none=>none
def bsS (esz len:Nat) (zero:List Value) (h:au) (n:Nat):Option (List (Nat×V)×List Nat)→Option (V×Upd)
 |some (ps,bs)=>bsR esz len zero bs h n (GJ esz (List.replicate len (zero.map zc)) ps)
 |none=>none
theorem TH (esz len:Nat) (zero:List Value) (ps:List (Nat×Opd)):aj C ow (.buildSlice esz zero len ps) ev h n=bsS esz len zero h n (cG h ev ps):=by
 simp only [aj,bsS,UP,vy]
 cases cG h ev ps with
 |none=>rfl
 |some p=>
  obtain ⟨qs,bs⟩:=p
  dsimp only
  cases GJ esz (List.replicate len (zero.map zc)) qs with
  |none=>rfl
  |some rows=>
   simp only [bsR,Iq,Im,mkR]
   by_cases h1:zero.length=esz<;>cases h2:zero.all ba<;>by_cases h3:len*esz≤16777216<;>by_cases h4:n∈bs<;>simp [h1,h3,h4,br]
   cases frO (h n) n ⟨esz,false,rows⟩ (.sl n 0 len)<;>rfl
theorem a9B (esz len:Nat) (zero:List Value) (ps:List (Nat×V)) (bs:List Nat):bsS esz len zero h n (some (ps,bs))=bsR esz len zero bs h n (GJ esz (List.replicate len (zero.map zc)) ps):=rfl
theorem a9z (esz len:Nat) (zero:List Value) (bs:List Nat) (rows:List (List V)):bsR esz len zero bs h n (some rows)=br (Nat.beq zero.length esz&&(zero.all ba&&(Nat.ble (len*esz) 16777216&& !bs.contains n))) (YQ (fm bs) (frO (h n) n ⟨esz,false,mkR n rows⟩ (.sl n 0 len))) none:=rfl
def tbS (x:V) (h:au) (n:Nat):Option (V×Upd):=match x with
 | .lit (.string s)=>if s.size≤bH then jH h n ⟨1,false,s.data.toList.map fun b=>[.lit (.int .u8 b.toNat)]⟩ (.sl n 0 s.size) else none
 |_=>none
theorem a3Z (x:Opd):aj C ow (.toBytes x) ev h n=tbS (ev x) h n:=rfl
theorem c2Q (s:List UInt8):tbS (S s) h n=br (aB s.length 1) (frO (h n) n ⟨1,false,rws eU8 s⟩ (.sl n 0 s.length)) none:=by
 simp only [tbS,To,aB,Nat.mul_one,vy]
 by_cases h1:s.length≤bH<;>simp [h1,br]
 rfl
def boS (x:V) (h:au):Option (V×Upd):=match x with
 | .sl b s n=>match h b with
   |some k=>if k.op=false∧0<k.esz∧s+n=k.rows.length∧0<n then some (.sl b s n,[(b,k)]) else none
   |none=>none
 |_=>none
theorem Zn (x:Opd):aj C ow (.bytesOwn x) ev h n=boS (ev x) h:=rfl
def boO (k:Option Blk) (b s n:Nat):Option (V×Upd):=match k with
 |some k=>if k.op=false∧0<k.esz∧s+n=k.rows.length∧0<n then some (.sl b s n,[(b,k)]) else none
 |none=>none
theorem b4h (b s q:Nat):boS (.sl b s q) h=boO (h b) b s q:=rfl
theorem b7L (b m q:Nat) (h0:Nat.blt 0 m=true) (hq:l.length=q):boO (some ⟨m,false,rws e l⟩) b 0 q=br (decide (0<q)) (some (.sl b 0 q,[(b,⟨m,false,rws e l⟩)])) none:=by
 rw [Bm,decide_eq_true_eq] at h0
 by_cases h1:0<q<;>simp [boO,rws,hq,h0,h1,br]
theorem Yf (l:List UInt8):aj.bytesOf (rws eU8 l)=some l:=by
 induction l with
 |nil=>rfl
 |cons b l ih=>
  simp only [rws,List.map_cons,eU8] at ih ⊢
  simp only [aj.bytesOf]
  have h1:(0:Int)≤(b.toNat:Int)∧(b.toNat:Int)<256:=⟨by omega,by have:=b.toNat_lt;omega⟩
  rw [if_pos h1,ih]
  simp
noncomputable def tsR:Option (List (List V))→Option (V×Upd)
 |some rows=>match aj.bytesOf rows with
  |some l=>some (.lit (.string ⟨l.toArray⟩),[])
  |none=>none
 |none=>none
noncomputable def tsS (x:V) (h:au):Option (V×Upd):=br (a1t x) none (tsR (cx h 1 x))
theorem b4U (x:Opd):aj C ow (.toStr x) ev h n=tsS (ev x) h:=by
 simp only [aj,tsS,tsR]
 cases a1t (ev x)
 ·simp only [Bool.false_eq_true,if_false,aK]
  cases cx h 1 (ev x)<;>rfl
 ·rfl
theorem b1I (l:List UInt8):tsR (some (rws eU8 l))=some (S l,[]):=by
 simp only [tsR,Yf]
theorem b7V (l:List UInt8):tsS (sl eU8 l) h=some (S l,[]):=by
 rw [tsS,W3,aK,QW 1 rfl,b1I]
def roO (k:Option Blk) (m s q:Nat):Option (List (List V)):=match k with
 |some k=>if k.op=false∧0<k.esz∧k.esz=m∧s+q=k.rows.length then some (k.rows.drop s) else none
 |none=>none
theorem ZN (m b s q:Nat):cx h m (.sl b s q)=roO (h b) m s q:=rfl
theorem b7e (m q:Nat) (h0:Nat.blt 0 m=true) (hq:l.length=q):roO (some ⟨m,false,rws e l⟩) m 0 q=some (rws e l):=by
 rw [Bm,decide_eq_true_eq] at h0
 simp [roO,rws,hq,h0]
theorem ZF (s:List UInt8):cx h 1 (S s)=some (rws eU8 s):=rfl
theorem b4j (b s q:Nat):tsS (.sl b s q) h=tsR (roO (h b) 1 s q):=rfl
theorem b2T:tsS (.lit (.slice none 0 0)) h=some (S [],[]):=rfl
theorem b2Q:tsS (.imm 1 []) h=some (S [],[]):=rfl
def b8u (esz bytes:Nat) (zero:List Value) (len cap:V) (h:au) (n:Nat):Option (V×Upd):=match asI len,asI cap with
 |some l,some c=>if 0≤l∧l≤c∧c*bytes≤bH∧c*esz≤bH∧zero.length=esz∧zero.all ba then
  jH h n ⟨esz,false,List.replicate l.toNat (zero.map zc)⟩ (.sl n 0 l.toNat) else none
 |_,_=>none
theorem Vq (esz bytes:Nat) (zero:List Value) (len cap:Opd):aj C ow (.makeSlice esz bytes zero len cap) ev h n=b8u esz bytes zero (ev len) (ev cap) h n:=rfl
theorem b95 (esz bytes:Nat) (zero:List Value) (k k':IntKind) (a c:Int) (hb:Nat.ble esz bytes=true) (hz:Nat.beq zero.length esz=true) (hz2:zero.all ba=true):
 b8u esz bytes zero (.lit (.int k a)) (.lit (.int k' c)) h n=br (LR a c bytes) (frO (h n) n ⟨esz,false,Lt n a.toNat (zero.map zc)⟩ (.sl n 0 (a1M (Lt n a.toNat (zero.map zc))))) none:=by
 have hz3:=Nat.eq_of_beq_eq_true hz
 have hb2:=Nat.le_of_ble_eq_true hb
 simp only [b8u,asI,LR,hz3,hz2,vy,Lt,a1M,List.length_replicate]
 by_cases h1:0≤a<;>by_cases h2:a≤c<;>by_cases h3:c*bytes≤bH<;>simp [h1,h2,h3,br]
 intro h4
 exfalso
 have:c*esz≤c*bytes:=Int.mul_le_mul_of_nonneg_left (by omega) (by omega)
 omega
def slS (esz:Nat) (x:V) (lo hi mx:Option V) (h:au):Option (V×Upd):=match mx with
 |some _=>none
 |none=>match x with
  | .lit (.slice none 0 0)=>match bR hi 0 0 with
    |some q=>match bR lo 0 q with
     |some _=>some (.lit (.slice none 0 0),[])
     |none=>none
    |none=>none
  | .sl b s n=>match h b with
    |some k=>if k.op=false∧0<k.esz∧k.esz=esz∧s+n=k.rows.length then (match bR hi n n with
     |some q=>match bR lo 0 q with
      |some p=>if q=n then some (.sl b (s+p) (n-p),[]) else some ((V.imm esz (((k.rows.drop s).take q).drop p)).cz,[(b,ip)])
      |none=>none
     |none=>none) else none
    |none=>none
  | .imm e rows=>if e=esz∨rows=[] then (match bR hi rows.length rows.length with
   |some q=>match bR lo 0 q with
    |some p=>some ((V.imm e ((rows.take q).drop p)).cz,[])
    |none=>none
   |none=>none) else none
  |_=>none
theorem b48 (esz:Nat) (x:Opd) (lo hi:Option Opd):aj C ow (.slice esz x lo hi none) ev h n=slS esz (ev x) (lo.map ev) (hi.map ev) none h:=rfl
theorem w9 (d m:Nat):bR none d m=some d:=rfl
theorem zS (k:IntKind) (i:Int) (d m:Nat):bR (some (.lit (.int k i))) d m=if 0≤i∧i≤m then some i.toNat else none:=rfl
theorem Mb (m:Nat) (hm:e.esz=m) (lo hi:Option V):slS m (sl e l) lo hi none h=(match bR hi l.length l.length with
 |some q=>match bR lo 0 q with
  |some p=>some (sl e ((l.take q).drop p),[])
  |none=>none
 |none=>none):=by
 subst hm
 rcases iN e l with ⟨rfl,hs⟩|⟨hne,hs⟩
 ·rw [hs]
  simp only [slS,List.length_nil,or_true,if_true]
  cases bR hi 0 0 with
  |none=>rfl
  |some q=>cases bR lo 0 q<;>simp [b9D,V.cz]
 ·rw [hs]
  simp only [slS,true_or,if_true,rws,List.length_map]
  cases bR hi l.length l.length with
  |none=>rfl
  |some q=>cases bR lo 0 q<;>simp [sl,rws, ←List.map_take, ←List.map_drop]
theorem b8X (m:Nat) (hm:e.esz=m):slS m (sl e l) none none none h=some (sl e l,[]):=by
 rw [Mb m hm];simp [w9]
theorem c0e (m:Nat) (hm:e.esz=m) (k:IntKind) (a:Int):slS m (sl e l) (some (.lit (.int k a))) none none h=(nL l a l.length).bind (fun l'=>some (sl e l',[])):=by
 rw [Mb m hm]
 simp only [w9,zS,nL]
 by_cases h1:0≤a<;>by_cases h2:a≤(l.length:Int)<;>simp [h1,h2]
theorem b7k (m:Nat) (hm:e.esz=m) (k:IntKind) (b:Int):slS m (sl e l) none (some (.lit (.int k b))) none h=(nL l 0 b).bind (fun l'=>some (sl e l',[])):=by
 rw [Mb m hm]
 simp only [w9,zS,nL]
 by_cases h1:0≤b<;>by_cases h2:b≤(l.length:Int)<;>simp [h1,h2]
theorem b9g (m:Nat) (hm:e.esz=m) (k k':IntKind) (a b:Int):slS m (sl e l) (some (.lit (.int k a))) (some (.lit (.int k' b))) none h=(nL l a b).bind (fun l'=>some (sl e l',[])):=by
 rw [Mb m hm]
 simp only [zS,nL]
 by_cases h1:0≤b<;>by_cases h2:b≤(l.length:Int)<;>by_cases h3:0≤a<;>by_cases h4:a≤b
 all_goals (have e1:((b.toNat:Nat):Int)=b∨ ¬0≤b:=by omega)
 all_goals (rcases e1 with e1|e1)
 all_goals (first|omega| (simp [h1,h2,h3,h4,e1];try omega))
def slO (k:Option Blk) (m b s q:Nat) (a:Int):Option (V×Upd):=match k with
 |some k=>if k.op=false∧0<k.esz∧k.esz=m∧s+q=k.rows.length then (if 0≤a∧a≤q then some (.sl b (s+a.toNat) (q-a.toNat),[]) else none) else none
 |none=>none
theorem b3B (m b s q:Nat) (k:IntKind) (a:Int):slS m (.sl b s q) (some (.lit (.int k a))) none none h=slO (h b) m b s q a:=by
 simp only [slS,slO,w9,zS]
 cases h b with
 |none=>rfl
 |some k=>
  dsimp only
  split
  ·by_cases hc:0≤a∧a≤(q:Int)
   ·rw [if_pos hc,if_pos hc];simp
   ·rw [if_neg hc,if_neg hc]
  ·rfl
theorem b7c (m b s q:Nat) (a:Int) (h0:Nat.blt 0 m=true) (hq:s+q=l.length):slO (some ⟨m,false,rws e l⟩) m b s q a=br (decide (0≤a)&&decide (a≤q)) (some (.sl b (s+a.toNat) (q-a.toNat),[])) none:=by
 rw [Bm,decide_eq_true_eq] at h0
 by_cases h1:0≤a<;>by_cases h2:a≤(q:Int)<;>simp [slO,rws,hq,h0,h1,h2,br]
def ssS (x:V) (lo hi:Option V):Option (V×Upd):=match x with
 | .lit (.string s)=>match bR hi s.size s.size with
   |some b=>match bR lo 0 b with
    |some a=>some (.lit (.string (s.extract a b)),[])
    |none=>none
   |none=>none
 |_=>none
theorem ZB (x:Opd) (lo hi:Option Opd):aj C ow (.sliceStr x lo hi) ev h n=ssS (ev x) (lo.map ev) (hi.map ev):=rfl
theorem a0L (s:List UInt8) (a b:Nat):(⟨⟨s⟩⟩:ByteArray).extract a b=⟨⟨(s.take b).drop a⟩⟩:=by
 apply ByteArray.ext
 rw [ByteArray.data_extract]
 apply Array.ext'
 simp [List.extract_eq_take_drop,List.drop_take]
theorem Md (s:List UInt8) (lo hi:Option V):ssS (S s) lo hi=(match bR hi s.length s.length with
 |some q=>match bR lo 0 q with
  |some p=>some (S ((s.take q).drop p),[])
  |none=>none
 |none=>none):=by
 simp only [ssS,To,a0L]
theorem b82 (s:List UInt8):ssS (S s) none none=some (S s,[]):=by rw [Md];simp [w9]
theorem b9o (s:List UInt8) (k:IntKind) (a:Int):ssS (S s) (some (.lit (.int k a))) none=(nL s a s.length).bind (fun l'=>some (S l',[])):=by
 rw [Md]
 simp only [w9,zS,nL]
 by_cases h1:0≤a<;>by_cases h2:a≤(s.length:Int)<;>simp [h1,h2]
theorem b8k (s:List UInt8) (k:IntKind) (b:Int):ssS (S s) none (some (.lit (.int k b)))=(nL s 0 b).bind (fun l'=>some (S l',[])):=by
 rw [Md]
 simp only [w9,zS,nL]
 by_cases h1:0≤b<;>by_cases h2:b≤(s.length:Int)<;>simp [h1,h2]
theorem b89 (s:List UInt8) (k k':IntKind) (a b:Int):ssS (S s) (some (.lit (.int k a))) (some (.lit (.int k' b)))=(nL s a b).bind (fun l'=>some (S l',[])):=by
 rw [Md]
 simp only [zS,nL]
 by_cases h1:0≤b<;>by_cases h2:b≤(s.length:Int)<;>by_cases h3:0≤a<;>by_cases h4:a≤b
 all_goals (have e1:((b.toNat:Nat):Int)=b∨ ¬0≤b:=by omega)
 all_goals (rcases e1 with e1|e1)
 all_goals (first|omega| (simp [h1,h2,h3,h4,e1];try omega))
noncomputable def apS (esz bytes:Nat) (zero:List Value) (x y:V) (h:au) (n:Nat):Option (List (List V))→Option (V×Upd)
 |none=>none
 |some new_=>if zero.length=esz∧0<esz∧new_.length*bytes≤bH∧new_.length*esz≤bH then
  (match x with
  | .sl b 0 n=>match h b with
    |some k=>if k.op=false∧0<k.esz∧k.esz=esz∧n=k.rows.length∧(n+new_.length)*bytes≤bH∧(n+new_.length)*esz≤bH∧aj.selfOk b y then
     some (.sl b 0 (n+new_.length),[(b,{ k with rows:=k.rows++new_ })]) else none
    |none=>none
  | .lit (.slice none 0 0)=>jH h n ⟨esz,false,new_⟩ (.sl n 0 new_.length)
  | .imm 0 []=>jH h n ⟨esz,false,new_⟩ (.sl n 0 new_.length)
  |_=>none) else none
theorem b1U (esz bytes:Nat) (zero:List Value) (x y:Opd):aj C ow (.append esz bytes zero x y) ev h n=apS esz bytes zero (ev x) (ev y) h n (cx h esz (ev y)):=by
 simp only [aj]
 cases cx h esz (ev y) with
 |none=>rfl
 |some r=>rfl
noncomputable def Eb (b:Nat) (y:V):Bool:=aj.selfOk b y
theorem a8X (b:Nat):Eb b (sl e l)=true:=by
 rcases iN e l with ⟨_,h⟩|⟨_,h⟩<;>rw [h]<;>rfl
theorem a60 (b b' s q:Nat):Eb b (.sl b' s q)=(b !=b'):=rfl
theorem a4m (b:Nat) (s:List UInt8):Eb b (S s)=true:=rfl
theorem a4y (b:Nat):Eb b (.lit (.slice none 0 0))=true:=rfl
theorem a5I (b m:Nat) (r:List (List V)):Eb b (.imm m r)=true:=rfl
def apO (k:Option Blk) (esz bytes:Nat) (zero:List Value) (b q:Nat) (sb:Bool) (new_:List (List V)):Option (V×Upd):=match k with
 |some k=>if zero.length=esz∧0<esz∧new_.length*bytes≤bH∧new_.length*esz≤bH then
  (if k.op=false∧0<k.esz∧k.esz=esz∧q=k.rows.length∧(q+new_.length)*bytes≤bH∧(q+new_.length)*esz≤bH∧sb=true then
        some (.sl b 0 (q+new_.length),[(b,{ k with rows:=k.rows++new_ })]) else none) else none
 |none=>none
theorem b69 (esz bytes:Nat) (zero:List Value) (b q:Nat) (y:V) (new_:List (List V)):apS esz bytes zero (.sl b 0 q) y h n (some new_)=apO (h b) esz bytes zero b q (Eb b y) new_:=by
 simp only [apS,apO,Eb]
 cases h b with
 |none=>simp
 |some k=>rfl
theorem b8T (m bytes:Nat) (zero:List Value) (b q:Nat) (sb:Bool) (hz:Nat.beq zero.length m=true) (h0:Nat.blt 0 m=true) (hb:Nat.ble m bytes=true) (hq:l.length=q) (hs:sb=true):
 apO (some ⟨m,false,rws e l⟩) m bytes zero b q sb (rws e l2)=br (aB (l++l2).length bytes) (some (.sl b 0 (l++l2).length,[(b,⟨m,false,rws e (l++l2)⟩)])) none:=by
 have hz3:=Nat.eq_of_beq_eq_true hz
 have hb2:=Nat.le_of_ble_eq_true hb
 rw [Bm,decide_eq_true_eq] at h0
 subst hs hq
 simp only [apO,aB,rws,List.length_map,List.length_append,List.map_append]
 have e1:(l.length+l2.length)*m≤(l.length+l2.length)*bytes:=Nat.mul_le_mul_left _ hb2
 have e2:l2.length*bytes≤(l.length+l2.length)*bytes:=Nat.mul_le_mul_right _ (by omega)
 have e3:l2.length*m≤l2.length*bytes:=Nat.mul_le_mul_left _ hb2
 by_cases hf:(l.length+l2.length)*bytes≤bH
 ·rw [if_pos ⟨hz3,h0,by omega,by omega⟩,if_pos ⟨by trivial,h0,by trivial,by trivial,hf,by omega,by trivial⟩,decide_eq_true hf,bM]
 ·rw [decide_eq_false hf,aK]
  split
  ·rw [if_neg (fun hc=>hf hc.2.2.2.2.1)]
  ·rfl
theorem b4i (m bytes:Nat) (zero:List Value) (y:V) (hz:Nat.beq zero.length m=true) (h0:Nat.blt 0 m=true) (hb:Nat.ble m bytes=true):
 apS m bytes zero (.lit (.slice none 0 0)) y h n (some (rws e l2))=br (aB l2.length bytes) (frO (h n) n ⟨m,false,rws e l2⟩ (.sl n 0 l2.length)) none:=by
 have hz3:=Nat.eq_of_beq_eq_true hz
 have hb2:=Nat.le_of_ble_eq_true hb
 rw [Bm,decide_eq_true_eq] at h0
 simp only [apS,aB,vy]
 have hl:(rws e l2).length=l2.length:=by simp [rws]
 rw [hl]
 have e3:l2.length*m≤l2.length*bytes:=Nat.mul_le_mul_left _ hb2
 by_cases hf:l2.length*bytes≤bH
 ·rw [if_pos ⟨hz3,h0,hf,by omega⟩,decide_eq_true hf,bM]
 ·rw [decide_eq_false hf,aK,if_neg (fun hc=>hf hc.2.2.1)]
def tK (l:List α) (s k:Nat) (l2:List α):List α:=l.take s++(l2.take k++l.drop (s+k))
def c02 (esz bytes:Nat) (zero:List Value) (x y:V) (h:au) (n:Nat):Option (V×Upd):=match asI y with
 |some l=>if 0≤l∧l≤1099511627776∧l*bytes≤1099511627776∧zero.all ba then FV esz bytes zero x (fun _=>true) h n (List.replicate l.toNat (zero.map zc)) else none
 |none=>none
theorem a2W (esz bytes:Nat) (zero:List Value) (x y:Opd):aj C ow (.appendN esz bytes zero x y) ev h n=c02 esz bytes zero (ev x) (ev y) h n:=rfl
theorem a8I (m bytes:Nat) (zero:List Value) (b q:Nat) (k:IntKind) (a:Int) (hz2:zero.all ba=true):
 c02 m bytes zero (.sl b 0 q) (.lit (.int k a)) h n=br (LR a a bytes&&decide (a≤1099511627776)) (apO (h b) m bytes zero b q true (Lt n a.toNat (zero.map zc))) none:=by
 simp only [c02,asI,LR,hz2,Lt,bH]
 by_cases h1:0≤a<;>by_cases h2:a*bytes≤1099511627776<;>by_cases h3:a≤1099511627776<;>simp [h1,h2,h3,br]
 simp only [FV,apO]
 cases h b with
 |none=>simp
 |some kk=>rfl
noncomputable def cpS (esz:Nat) (x y:V) (h:au):Option (List (List V))→Option (V×Upd)
 |some rows=>match x with
  | .sl b s n=>match h b with
    |some k=>if k.op=false∧0<k.esz∧k.esz=esz∧s+n=k.rows.length∧aj.selfOk b y then
     some (.lit (.int .i64 (min rows.length n)),[(b,{ k with rows:=k.rows.take s++(rows.take (min rows.length n)++k.rows.drop (s+min rows.length n)) })]) else none
    |none=>none
  |_=>none
 |none=>none
theorem c0J (esz:Nat) (x y:Opd):aj C ow (.copy esz x y) ev h n=cpS esz (ev x) (ev y) h (cx h esz (ev y)):=by
 simp only [aj,cpS]
 cases cx h esz (ev y) with
 |none=>rfl
 |some r=>cases ev x<;>rfl
def cpO (k:Option Blk) (esz b s q:Nat) (sb:Bool) (rows:List (List V)):Option (V×Upd):=match k with
 |some k=>if k.op=false∧0<k.esz∧k.esz=esz∧s+q=k.rows.length∧sb=true then
  some (.lit (.int .i64 (min rows.length q)),[(b,{ k with rows:=k.rows.take s++(rows.take (min rows.length q)++k.rows.drop (s+min rows.length q)) })]) else none
 |none=>none
theorem b54 (esz b s q:Nat) (y:V) (rows:List (List V)):cpS esz (.sl b s q) y h (some rows)=cpO (h b) esz b s q (Eb b y) rows:=by
 simp only [cpS,cpO,Eb]
 cases h b<;>rfl
theorem c0j (m b s q:Nat) (sb:Bool) (h0:Nat.blt 0 m=true) (hs:sb=true):cpO (some ⟨m,false,rws e l⟩) m b s q sb (rws e l2)=
 br (decide (s+q=l.length)) (some (I (min (l2.length:Int) (q:Int)),[(b,⟨m,false,rws e (tK l s (min l2.length q) l2)⟩)])) none:=by
 rw [Bm,decide_eq_true_eq] at h0
 subst hs
 simp only [cpO]
 by_cases hq:s+q=l.length
 ·rw [if_pos ⟨by trivial,h0,by trivial,by simp [rws,hq],by trivial⟩,decide_eq_true hq,bM]
  simp [rws,tK,List.map_take,List.map_drop]
 ·rw [decide_eq_false hq,aK,if_neg (fun hc=>hq (by simpa [rws] using hc.2.2.2.1))]
def ncS (x:V) (h:au):Option (V×Upd):=match x with
 | .ptr b i o n=>match h b with
   |some k=>if k.rows.length=n∧i<n then some (.ptr b i o n,[]) else none
   |none=>none
 | .iptr r o=>some (.iptr r o,[])
 | .fn f c=>some (.fn f c,[])
 |_=>none
theorem Zc (x:Opd):aj C ow (.nilCheck x) ev h n=ncS (ev x) h:=by
 simp only [aj,ncS]
 cases ev x<;>rfl
def ncO (k:Option Blk) (b i o m:Nat):Option (V×Upd):=match k with
 |some k=>if k.rows.length=m∧i<m then some (.ptr b i o m,[]) else none
 |none=>none
theorem c1J (b i o m:Nat):ncS (.ptr b i o m) h=ncO (h b) b i o m:=rfl
theorem b8F (b o m:Nat) (row:List V):ncO (some ⟨m,true,[row]⟩) b 0 o 1=some (.ptr b 0 o 1,[]):=rfl
theorem c3m (r:List V) (o:Nat):ncS (.iptr r o) h=some (.iptr r o,[]):=rfl
theorem c2D (f:FuncId) (c:List V):ncS (.fn f c) h=some (.fn f c,[]):=rfl
def mxS (x y:V):Option (V×Upd):=match x,y with
 | .lit (.int k a),.lit (.int _ b)=>some (.lit (.int k (if b>a then b else a)),[])
 |_,_=>none
theorem b86 (x y:Opd):aj C ow (.max2 x y) ev h n=mxS (ev x) (ev y):=by
 simp only [aj,mxS]
 cases ev x<;>cases ev y<;>rfl
theorem c2j (k k':IntKind) (a b:Int):mxS (.lit (.int k a)) (.lit (.int k' b))=some (.lit (.int k (mx a b)),[]):=rfl
def mnS (x y:V):Option (V×Upd):=match x,y with
 | .lit (.int k a),.lit (.int _ b)=>some (.lit (.int k (if b<a then b else a)),[])
 |_,_=>none
theorem c0A (x y:Opd):aj C ow (.min2 x y) ev h n=mnS (ev x) (ev y):=by
 simp only [aj,mnS]
 cases ev x<;>cases ev y<;>rfl
theorem c1Q (k k':IntKind) (a b:Int):mnS (.lit (.int k a)) (.lit (.int k' b))=some (.lit (.int k (mn a b)),[]):=rfl
noncomputable def L8 (fl ro:Bool) (h:au) (new:Nat) (ids bor:List Nat):Option (V×List Blk)→Option (V×Upd)
 |some (r,bs)=>roW ro h (wa fl h new ids bor r bs)
 |none=>none
noncomputable def roX (k':Option Blk) (b:Nat) (k:Blk) (x:Option Upd):Option Upd:=match k' with
 |none=>x.map ((b,k):: ·)
 |some k'=>open Classical in if k'=k then x else none
def roE (v:V):Option Upd→Option (V×Upd)
 |some u=>some (v,u)
 |none=>none
theorem b5U:roU h []=some []:=rfl
theorem a8q (b:Nat) (k:Blk) (r:Upd):roU h ((b,k)::r)=roX (h b) b k (roU h r):=by
 simp only [roU,roX];cases h b<;>rfl
theorem a8M (b:Nat) (k:Blk) (x:Option Upd):roX (some k) b k x=x:=by simp [roX]
theorem a7E (b:Nat) (k:Blk) (u:Upd):roX none b k (some u)=some ((b,k)::u):=rfl
theorem a7I (v:V) (u:Upd):roE v (some u)=some (v,u):=rfl
theorem c2f (x:Option (V×Upd)):roW false h x=x:=by cases x<;>rfl
theorem b9b (c:Bool) (x y:Option (V×Upd)):roW true h (br c x y)=br c (roW true h x) (roW true h y):=by cases c<;>rfl
theorem a6u:roW true h none=none:=rfl
theorem a9V (v:V) (u:Upd):roW true h (some (v,u))=roE v (roU h u):=by
 simp only [roW,if_true,roE];cases roU h u<;>rfl
noncomputable def Ii (C:aY) (ow:FuncId→List Nat) (h:au) (new:Nat) (f:FuncId):Option (List V×List Blk×List Nat×List Nat)→Option (V×Upd)
 |some (args',blks,ids,bor)=>L8 ((ow f).contains 2000) ((ow f).contains 3000) h new ids bor (C f (ra (ow f) args') (qZ (ow f) blks))
 |none=>none
theorem QQ (f:FuncId) (args:List V):kx C ow h n f args=Ii C ow h n f (cV ow h f args):=by
 unfold kx Ii L8
 cases cV ow h f args with
 |none=>rfl
 |some p=>obtain ⟨a,b,c,d⟩:=p;dsimp only;cases C f (ra (ow f) a) (qZ (ow f) b)<;>rfl
theorem b7l (f:FuncId) (args:List Opd):aj C ow (.call f args) ev h n=Ii C ow h n f (cV ow h f (args.map ev)):=QQ _ _
noncomputable def c0r (C:aY) (ow:FuncId→List Nat) (h:au) (n:Nat) (args:List V):V→Option (V×Upd)
 | .fn k caps=>Ii C ow h n k (cV ow h k (args++caps))
 |_=>none
theorem c2J (f:Opd) (args:List Opd):aj C ow (.dyn f args) ev h n=c0r C ow h n (args.map ev) (ev f):=by
 simp only [aj,c0r]
 cases ev f<;>first|rfl|exact QQ _ _
theorem b5u (args:List V) (k:FuncId) (caps:List V):c0r C ow h n args (.fn k caps)=Ii C ow h n k (cV ow h k (args++caps)):=rfl
theorem a0F (f:FuncId) (a:List V) (b:List Blk) (c d:List Nat):Ii C ow h n f (some (a,b,c,d))=L8 ((ow f).contains 2000) ((ow f).contains 3000) h n c d (C f (ra (ow f) a) (qZ (ow f) b)):=rfl
theorem b1A (f:FuncId) (c:Bool) (x y:Option (List V×List Blk×List Nat×List Nat)):Ii C ow h n f (br c x y)=br c (Ii C ow h n f x) (Ii C ow h n f y):=by cases c<;>rfl
def a1Q (args':List V) (bor:List Nat):Option (List Blk×List Nat)→Option (List V×List Blk×List Nat×List Nat)
 |some (blks,ids)=>br (bor.any (fun b=>decide (b∈ids))) none (some (args',blks,ids,bor))
 |none=>none
def UK (h:au):Option (List V×List Nat×List Nat)→Option (List V×List Blk×List Nat×List Nat)
 |some (args',ids0,bor)=>a1Q args' bor (dq h 40 0 ids0)
 |none=>none
theorem Yk (f:FuncId) (args:List V):cV ow h f args=UK h (gx h (ow f) 0 [] args):=by
 unfold cV UK a1Q
 cases gx h (ow f) 0 [] args with
 |none=>rfl
 |some p=>
  obtain ⟨a,i,b⟩:=p
  dsimp only
  cases dq h 40 0 i with
  |none=>rfl
  |some q=>
   obtain ⟨bl,ids⟩:=q
   dsimp only
   cases hb:b.any (fun b=>decide (b∈ids))<;>simp [br]
theorem Ys (a:List V) (i b:List Nat):UK h (some (a,i,b))=a1Q a b (dq h 40 0 i):=rfl
theorem YG (a:List V) (b:List Nat) (bl:List Blk) (ids:List Nat):a1Q a b (some (bl,ids))=br (b.any (fun b=>decide (b∈ids))) none (some (a,bl,ids,b)):=rfl
def la2 (v':V) (bs:List Nat):Option (List V×List Nat×List Nat)→Option (List V×List Nat×List Nat)
 |some (r',ids'',bs')=>some (v'::r',ids'',bs++bs')
 |none=>none
def la1 (h:au) (owns:List Nat) (j:Nat) (r:List V):Option (V×List Nat×List Nat)→Option (List V×List Nat×List Nat)
 |some (v',ids',bs)=>la2 v' bs (gx h owns (j+1) ids' r)
 |none=>none
theorem Xr (owns:List Nat) (j:Nat) (ids:List Nat):gx h owns j ids []=some ([],ids,[]):=rfl
theorem Sl (owns:List Nat) (j:Nat) (ids:List Nat) (v:V) (r:List V):gx h owns j ids (v::r)=la1 h owns j r (cW h (owns.contains j) ids v):=by
 have:decide (j∈owns)=owns.contains j:=by simp [List.contains_iff_mem,Bool.eq_iff_iff]
 simp only [gx,la1,la2,this]
 cases cW h (owns.contains j) ids v with
 |none=>rfl
 |some p=>obtain ⟨a,b,c⟩:=p;dsimp only;cases gx h owns (j+1) b r<;>rfl
theorem a8S (owns:List Nat) (j:Nat) (r:List V) (v':V) (ids' bs:List Nat):la1 h owns j r (some (v',ids',bs))=la2 v' bs (gx h owns (j+1) ids' r):=rfl
theorem a6m (v':V) (bs:List Nat) (r':List V) (i b:List Nat):la2 v' bs (some (r',i,b))=some (v'::r',i,bs++b):=rfl
def lcP (k:Option Blk) (ids:List Nat) (b i o m:Nat):Option (V×List Nat×List Nat):=match k with
 |some k=>if k.rows.length=m then some (.ptr (im b (dH ids b)) i o m,dH ids b,[]) else none
 |none=>none
def lcO (k:Option Blk) (own:Bool) (ids:List Nat) (b s q:Nat):Option (V×List Nat×List Nat):=match k with
 |some k=>if s+q=k.rows.length then
  (if own then some (.sl (im b (dH ids b)) s q,dH ids b,[]) else if k.op=false∧0<k.esz then some (.imm k.esz (k.rows.drop s),ids,[b]) else none) else none
 |none=>none
theorem b0A (own:Bool) (ids:List Nat) (v:Value):bU h own ids (.lit v)=some (.lit v,ids,[]):=rfl
theorem b9a (own:Bool) (ids:List Nat) (m:Nat) (r:List (List V)):bU h own ids (.imm m r)=some (.imm m r,ids,[]):=rfl
theorem b4W (own:Bool) (ids:List Nat) (r:List V) (o:Nat):bU h own ids (.iptr r o)=some (.iptr r o,ids,[]):=rfl
theorem c1x (own:Bool) (ids:List Nat) (f:FuncId):bU h own ids (.fn f [])=some (.fn f [],ids,[]):=rfl
theorem b1Q (own:Bool) (ids:List Nat):bU h own ids .undef=some (.undef,ids,[]):=rfl
theorem c0U (own:Bool) (ids:List Nat) (b i o m:Nat):bU h own ids (.ptr b i o m)=lcP (h b) ids b i o m:=rfl
theorem b7B (own:Bool) (ids:List Nat) (b s q:Nat):bU h own ids (.sl b s q)=lcO (h b) own ids b s q:=rfl
theorem NQ (own:Bool) (ids:List Nat) (v:Value):cW h own ids (.lit v)=some (.lit v,ids,[]):=rfl
theorem b9P (own:Bool) (ids:List Nat) (m:Nat) (r:List (List V)):cW h own ids (.imm m r)=some (.imm m r,ids,[]):=rfl
theorem b2x (own:Bool) (ids:List Nat) (r:List V) (o:Nat):cW h own ids (.iptr r o)=some (.iptr r o,ids,[]):=rfl
theorem c0a (own:Bool) (ids:List Nat) (b i o m:Nat):cW h own ids (.ptr b i o m)=lcP (h b) ids b i o m:=rfl
theorem b9G (own:Bool) (ids:List Nat) (b s q:Nat):cW h own ids (.sl b s q)=lcO (h b) own ids b s q:=rfl
def lcA (mk:List V→V):Option (List V×List Nat×List Nat)→Option (V×List Nat×List Nat)
 |some (cs',ids',bs)=>some (mk cs',ids',bs)
 |none=>none
theorem b8t (own:Bool) (ids:List Nat) (cs:List V):cW h own ids (.agg cs)=lcA V.agg (cL h own ids cs):=by
 simp only [cW,lcA]
 cases cL h own ids cs<;>rfl
theorem c1s (own:Bool) (ids:List Nat) (f:FuncId) (cs:List V):cW h own ids (.fn f cs)=lcA (V.fn f) (cL h true ids cs):=by
 simp only [cW,lcA]
 cases cL h true ids cs<;>rfl
theorem a9F (mk:List V→V) (cs:List V) (i b:List Nat):lcA mk (some (cs,i,b))=some (mk cs,i,b):=rfl
def a7T (h:au) (own:Bool) (r:List V):Option (V×List Nat×List Nat)→Option (List V×List Nat×List Nat)
 |some (v',ids',bs)=>la2 v' bs (cL h own ids' r)
 |none=>none
theorem RA (own:Bool) (ids:List Nat):cL h own ids []=some ([],ids,[]):=rfl
theorem F9 (own:Bool) (ids:List Nat) (v:V) (r:List V):cL h own ids (v::r)=a7T h own r (bU h own ids v):=by
 simp only [cL,a7T,la2]
 cases bU h own ids v with
 |none=>rfl
 |some p=>obtain ⟨a,b,c⟩:=p;dsimp only;cases cL h own b r<;>rfl
theorem QY (own:Bool) (r:List V) (v':V) (ids' bs:List Nat):a7T h own r (some (v',ids',bs))=la2 v' bs (cL h own ids' r):=rfl
theorem b7N (ids:List Nat) (b o m:Nat) (row:List V):lcP (some ⟨m,true,[row]⟩) ids b 0 o 1=some (.ptr (im b (dH ids b)) 0 o 1,dH ids b,[]):=rfl
theorem c2b (m:Nat) (ids:List Nat) (b s q:Nat) (hq:s+q=l.length):lcO (some ⟨m,false,rws e l⟩) true ids b s q=some (.sl (im b (dH ids b)) s q,dH ids b,[]):=by
 simp [lcO,rws,hq]
theorem b75 (m:Nat) (ids:List Nat) (b q:Nat) (h0:Nat.blt 0 m=true) (hq:l.length=q):lcO (some ⟨m,false,rws e l⟩) false ids b 0 q=some (.imm m (rws e l),ids,[b]):=by
 rw [Bm,decide_eq_true_eq] at h0
 simp [lcO,rws,hq,h0]
def lb2 (k:Blk):Option (List Blk×List Nat)→Option (List Blk×List Nat)
 |some (r,ids')=>some (k::r,ids')
 |none=>none
def ld2 (v':V):Option (List V×List Nat)→Option (List V×List Nat)
 |some (r',i)=>some (v'::r',i)
 |none=>none
def ld1 (h:au) (r:List V):Option (V×List Nat×List Nat)→Option (List V×List Nat)
 |some (v',ids',_)=>ld2 v' (od h ids' r)
 |none=>none
theorem a4T (ids:List Nat):od h ids []=some ([],ids):=rfl
theorem w8 (ids:List Nat) (v:V) (r:List V):od h ids (v::r)=ld1 h r (cW h true ids v):=by
 simp only [od,ld1,ld2]
 cases cW h true ids v with
 |none=>rfl
 |some p=>obtain ⟨a,b,c⟩:=p;dsimp only;cases od h b r<;>rfl
theorem BR (r:List V) (v':V) (ids' bs:List Nat):ld1 h r (some (v',ids',bs))=ld2 v' (od h ids' r):=rfl
theorem b0d (v':V) (r':List V) (i:List Nat):ld2 v' (some (r',i))=some (v'::r',i):=rfl
def lb1 (h:au) (fuel pos m:Nat):Option (List V×List Nat)→Option (List Blk×List Nat)
 |some (row,ids1)=>lb2 ⟨m,true,[row]⟩ (dq h fuel (pos+1) ids1)
 |none=>none
def lb0 (h:au) (fuel pos:Nat) (ids:List Nat):Option Blk→Option (List Blk×List Nat)
 |some k=>if k.op=false then lb2 k (dq h fuel (pos+1) ids) else (match lK h ids k.rows with
  |none=>none
  |some (rows,ids1)=>lb2 { k with rows:=rows } (dq h fuel (pos+1) ids1))
 |none=>none
def lbN (h:au) (fuel pos:Nat) (ids:List Nat):Option Nat→Option (List Blk×List Nat)
 |none=>some ([],ids)
 |some b=>lb0 h fuel pos ids (h b)
theorem a0r (fuel pos:Nat) (ids:List Nat):dq h (fuel+1) pos ids=lbN h fuel pos ids ids[pos]? :=by
 simp only [dq,lbN,lb0]
 cases ids[pos]? with
 |none=>rfl
 |some b=>
  dsimp only
  cases h b with
  |none=>rfl
  |some k=>
   dsimp only
   split
   ·cases dq h fuel (pos+1) ids<;>rfl
   ·cases lK h ids k.rows with
    |none=>rfl
    |some p=>obtain ⟨rows,ids1⟩:=p;dsimp only;cases dq h fuel (pos+1) ids1<;>rfl
theorem a6C (fuel pos:Nat) (ids:List Nat):lbN h fuel pos ids none=some ([],ids):=rfl
theorem a9R (fuel pos:Nat) (ids:List Nat) (b:Nat):lbN h fuel pos ids (some b)=lb0 h fuel pos ids (h b):=rfl
theorem c06 (fuel pos:Nat) (ids:List Nat) (m:Nat) (r:List (List V)):lb0 h fuel pos ids (some ⟨m,false,r⟩)=lb2 ⟨m,false,r⟩ (dq h fuel (pos+1) ids):=rfl
theorem c0F (fuel pos:Nat) (ids:List Nat) (m:Nat) (row:List V):lb0 h fuel pos ids (some ⟨m,true,[row]⟩)=lb1 h fuel pos m (od h ids row):=by
 simp only [lb0,lK,lb1]
 cases od h ids row with
 |none=>rfl
 |some p=>obtain ⟨a,b⟩:=p;rfl
theorem a9m (fuel pos m:Nat) (row:List V) (ids1:List Nat):lb1 h fuel pos m (some (row,ids1))=lb2 ⟨m,true,[row]⟩ (dq h fuel (pos+1) ids1):=rfl
theorem b0o (k:Blk) (r:List Blk) (ids:List Nat):lb2 k (some (r,ids))=some (k::r,ids):=rfl
theorem c1o (n:Nat):dD [] [] n=[]:=rfl
theorem c3c (k:Blk) (r:List Blk) (n:Nat):dD [] (k::r) n=n::dD [] r (n+1000000):=rfl
theorem c1G (i:Nat) (ids:List Nat) (k:Blk) (r:List Blk) (n:Nat):dD (i::ids) (k::r) n=dD ids r n:=rfl
def cpw (fl:Bool) (new:Nat) (ids bor:List Nat) (r:V) (bs:List Blk) (ns:List Nat):Option (V×Upd):=some (yg (ids++ns) r,kU (ids++ns) (bs.map (hQ (ids++ns)))++br (bor.isEmpty||(pz r&&bs.all (oj fl))) [] (fm bor))
theorem b9I (fl:Bool) (new:Nat) (ids bor:List Nat) (r:V) (bs:List Blk) (ns:List Nat):cpw fl new ids bor r bs ns=some (yg (ids++ns) r,kU (ids++ns) (bs.map (hQ (ids++ns)))++br (bor.isEmpty||(pz r&&bs.all (oj fl))) [] (fm bor)):=rfl
theorem YM (fl ro:Bool) (new:Nat) (ids bor:List Nat) (r:V) (bs:List Blk):L8 fl ro h new ids bor (some (r,bs))=
 roW ro h (br (Nat.ble ids.length bs.length&&(dD ids bs new).all (fun b=>(h b).isNone)) (cpw fl new ids bor r bs (dD ids bs new)) none):=by
 refine congrArg (roW ro h) ?_
 simp only [wa,cpw,Im]
 generalize (dD ids bs new).all (fun b=>(h b).isNone)=c3
 generalize (bor.isEmpty||(pz r&&bs.all (oj fl)))=c4
 by_cases h1:ids.length≤bs.length
 ·rw [decide_eq_true h1];cases c3<;>cases c4<;>simp [h1,br]
 ·rw [decide_eq_false h1];cases c3<;>cases c4<;>simp [h1,br]
theorem a4e (ids:List Nat) (vs:List V):yg ids (.tup vs)= .tup (vs.map (jE ids)):=rfl
theorem a52 (ids:List Nat) (vs:List V):yg ids (.agg vs)= .agg (vs.map (unV ids)):=rfl
theorem a5H (ids:List Nat) (v:Value):yg ids (.lit v)= .lit v:=rfl
theorem a3P (ids:List Nat) (m:Nat) (r:List (List V)):yg ids (.imm m r)= .imm m r:=rfl
theorem Xn (ids:List Nat):yg ids .undef= .undef:=rfl
theorem a2T (ids:List Nat) (b i o m:Nat):yg ids (.ptr b i o m)= .ptr (ids.getD b 0) i o m:=rfl
theorem a3K (ids:List Nat) (b s q:Nat):yg ids (.sl b s q)= .sl (ids.getD b 0) s q:=rfl
theorem a4I (ids:List Nat) (vs:List V):jE ids (.agg vs)= .agg (vs.map (unV ids)):=rfl
theorem a4l (ids:List Nat) (v:Value):jE ids (.lit v)= .lit v:=rfl
theorem a5x (ids:List Nat) (m:Nat) (r:List (List V)):jE ids (.imm m r)= .imm m r:=rfl
theorem a3F (ids:List Nat) (b i o m:Nat):jE ids (.ptr b i o m)= .ptr (ids.getD b 0) i o m:=rfl
theorem a3g (ids:List Nat) (b s q:Nat):jE ids (.sl b s q)= .sl (ids.getD b 0) s q:=rfl
theorem b3a (ids:List Nat) (v:Value):unV ids (.lit v)= .lit v:=rfl
theorem b80 (ids:List Nat) (f:FuncId) (cs:List V):unV ids (.fn f cs)= .fn f cs:=rfl
theorem a7Y (ids:List Nat) (f:FuncId) (cs:List V):jE ids (.fn f cs)= .fn f (cs.map (unV ids)):=rfl
theorem b31 (ids:List Nat) (m:Nat) (r:List (List V)):unV ids (.imm m r)= .imm m r:=rfl
theorem b5c (ids:List Nat) (b i o m:Nat):unV ids (.ptr b i o m)= .ptr (ids.getD b 0) i o m:=rfl
theorem b5I (ids:List Nat) (b s q:Nat):unV ids (.sl b s q)= .sl (ids.getD b 0) s q:=rfl
theorem a7A (ids:List Nat) (m:Nat) (r:List (List V)):hQ ids ⟨m,false,r⟩=⟨m,false,r⟩:=rfl
theorem a4R (ids:List Nat) (m:Nat) (row:List V):hQ ids ⟨m,true,[row]⟩=⟨m,true,[row.map (jE ids)]⟩:=rfl
theorem b9V (v:Value):pz (.lit v)=true:=rfl
theorem b1z:pz .undef=true:=rfl
theorem b7p (m:Nat) (r:List (List V)):pz (.imm m r)=false:=rfl
theorem c0t (vs:List V):pz (.agg vs)=vs.all mT:=rfl
theorem b8g (vs:List V):pz (.tup vs)=vs.all B0:=rfl
theorem b8O (b i o m:Nat):pz (.ptr b i o m)=true:=rfl
theorem c00 (b s q:Nat):pz (.sl b s q)=true:=rfl
theorem b3b (v:Value):B0 (.lit v)=true:=rfl
theorem b68 (m:Nat) (r:List (List V)):B0 (.imm m r)=false:=rfl
theorem b4K (vs:List V):B0 (.agg vs)=vs.all mT:=rfl
theorem b4I (b i o m:Nat):B0 (.ptr b i o m)=true:=rfl
theorem b2Z (b s q:Nat):B0 (.sl b s q)=true:=rfl
theorem b66 (v:Value):mT (.lit v)=true:=rfl
theorem b7d (f:FuncId) (cs:List V):mT (.fn f cs)=false:=rfl
theorem b8b (f:FuncId) (cs:List V):B0 (.fn f cs)=false:=rfl
theorem c2F (f:FuncId) (cs:List V):pz (.fn f cs)=false:=rfl
theorem b4B (m:Nat) (r:List (List V)):mT (.imm m r)=false:=rfl
theorem b2l (b i o m:Nat):mT (.ptr b i o m)=true:=rfl
theorem b6D (b s q:Nat):mT (.sl b s q)=true:=rfl
theorem b9m (m:Nat) (r:List (List V)):oj false ⟨m,false,r⟩=false:=rfl
theorem UQ {α:Type} {e:En α} (he: ∀x,(e.enc x).all mT=true) (m:Nat) (l:List α):oj true ⟨m,false,rws e l⟩=true:=by
 simp only [oj,Bool.true_or,Bool.true_and,rws,List.all_map,List.all_eq_true]
 exact fun x _=>he x
theorem c2R (m:Nat) (l:List Int):oj true ⟨m,false,rws eI l⟩=true:=UQ (fun _=>rfl) m l
theorem c2k (m:Nat) (l:List Bool):oj true ⟨m,false,rws eB l⟩=true:=UQ (fun _=>rfl) m l
theorem c2N (m:Nat) (l:List UInt8):oj true ⟨m,false,rws eU8 l⟩=true:=UQ (fun _=>rfl) m l
theorem b49 (m:Nat) (l:List Int):oj true ⟨m,false,rws Xp l⟩=true:=UQ (fun _=>rfl) m l
theorem c2a (m:Nat) (l:List (List UInt8)):oj true ⟨m,false,rws eS l⟩=true:=UQ (fun _=>rfl) m l
theorem b7i (fl:Bool) (m:Nat) (row:List V):oj fl ⟨m,true,[row]⟩=row.all mT:=by simp [oj]
def b65 (raw:Bool) (m:Nat):Option (List V)→Option (List Blk)→Option (V×List Blk)
 |some vs',some bs=>br (Nat.ble m 1000) (some ((Uz vs').czR,br raw bs (bs.map Blk.cz))) none
 |_,_=>none
def Xe (keep raw:Bool) (m:Nat) (h:au):Option (List V)→Option (V×List Blk)
 |some vs=>b65 raw m (tD h m (br keep (jq raw h m vs) []) vs) (sM h m (br keep (jq raw h m vs) []) (List.range m++(br keep (jq raw h m vs) [])))
 |none=>none
theorem a2s (nt:Nat) (body:aq) (res:List H5) (keep raw:Bool) (m:Nat) (st:St) (x:aw) (hx:x= .ret∨x= .normal):Zh ⟨nt,body,res,keep,raw⟩ m x st=Xe keep raw m st.heap (jt st res):=by
 have hk: ∀vs:List V,(if keep=true then jq raw st.heap m vs else [])=br keep (jq raw st.heap m vs) []:=fun vs=>by cases keep<;>rfl
 have:Zh ⟨nt,body,res,keep,raw⟩ m x st=Zh ⟨nt,body,res,keep,raw⟩ m .ret st:=by rcases hx with rfl|rfl<;>rfl
 rw [this]
 simp only [Zh,ik,Xe,b65,XR,hk,Im]
 cases jt st res with
 |none=>rfl
 |some vs=>
  dsimp only
  cases tD st.heap m (br keep (jq raw st.heap m vs) []) vs with
  |none=>rfl
  |some vs'=>
   cases sM st.heap m (br keep (jq raw st.heap m vs) []) (List.range m++(br keep (jq raw st.heap m vs) [])) with
   |none=>rfl
   |some bs=>by_cases h1:m≤1000<;>cases raw<;>simp [h1,br]
theorem b1d (nt:Nat) (body:aq) (res:List H5) (keep raw:Bool) (m:Nat) (st:St):Zh ⟨nt,body,res,keep,raw⟩ m .ret st=Xe keep raw m st.heap (jt st res):=a2s _ _ _ _ _ _ _ _ (.inl rfl)
theorem XI (nt:Nat) (body:aq) (res:List H5) (keep raw:Bool) (m:Nat) (st:St):Zh ⟨nt,body,res,keep,raw⟩ m .normal st=Xe keep raw m st.heap (jt st res):=a2s _ _ _ _ _ _ _ _ (.inr rfl)
theorem a3u (keep raw:Bool) (m:Nat) (vs:List V):Xe keep raw m h (some vs)=b65 raw m (tD h m (br keep (jq raw h m vs) []) vs) (sM h m (br keep (jq raw h m vs) []) (List.range m++(br keep (jq raw h m vs) []))):=rfl
theorem a4K (raw:Bool) (m:Nat) (vs:List V) (bs:List Blk):b65 raw m (some vs) (some bs)=br (Nat.ble m 1000) (some ((Uz vs).czR,br raw bs (bs.map Blk.cz))) none:=rfl
def rs1:Option V→Option (List V)→Option (List V)
 |some v,some vs=>some (v::vs)
 |_,_=>none
theorem b0a (st:St):jt st []=some []:=rfl
theorem a3z (st:St) (r:H5) (rs:List H5):jt st (r::rs)=rs1 (ER st r) (jt st rs):=by
 simp only [jt,rs1]
 cases ER st r<;>cases jt st rs<;>rfl
theorem a7u (v:V) (vs:List V):rs1 (some v) (some vs)=some (v::vs):=rfl
theorem b4g (st:St) (t:Nat):ER st (.tmp t)=some (st.get t):=rfl
theorem b1K (st:St) (t:Nat) (g:Option Nat):ER st (.cell t g)=vZ g st.heap (st.get t):=rfl
def c4e:Option V→Option (List V)→Option (List V)
 |some v,some vs=>some (v::vs)
 |_,_=>none
theorem a3W (m:Nat) (kp:List Nat):tD h m kp []=some []:=rfl
theorem Z1 (m:Nat) (kp:List Nat) (v:V) (r:List V):tD h m kp (v::r)=rs1 (Br h m kp v) (tD h m kp r):=by
 simp only [tD,rs1]
 cases Br h m kp v<;>cases tD h m kp r<;>rfl
theorem a3J (m:Nat) (kp:List Nat):tV h m kp []=some []:=rfl
theorem OK (m:Nat) (kp:List Nat) (v:V) (r:List V):tV h m kp (v::r)=rs1 (mL h m kp v) (tV h m kp r):=by
 simp only [tV,rs1]
 cases mL h m kp v<;>cases tV h m kp r<;>rfl
def fag:Option (List V)→Option V
 |some cs=>some (.agg cs)
 |none=>none
theorem a9u (m:Nat) (kp:List Nat) (cs:List V):Br h m kp (.agg cs)=fag (tV h m kp cs):=by
 simp only [Br,fag]
 cases tV h m kp cs<;>rfl
theorem b1D (cs:List V):fag (some cs)=some (.agg cs):=rfl
theorem a82 (m:Nat) (kp:List Nat) (v:Value):Br h m kp (.lit v)=some (.lit v):=rfl
theorem a97 (m:Nat) (kp:List Nat) (q:Nat) (r:List (List V)):Br h m kp (.imm q r)=some (.imm q r):=rfl
theorem YC (m:Nat) (kp:List Nat):Br h m kp .undef=some .undef:=rfl
theorem b3P (m:Nat) (kp:List Nat) (f:FuncId):Br h m kp (.fn f [])=some (.fn f []):=rfl
theorem b0Z (m:Nat) (kp:List Nat) (v:Value):mL h m kp (.lit v)=some (.lit v):=rfl
theorem b1e (m:Nat) (kp:List Nat) (q:Nat) (r:List (List V)):mL h m kp (.imm q r)=some (.imm q r):=rfl
theorem b3d (m:Nat) (kp:List Nat) (f:FuncId):mL h m kp (.fn f [])=some (.fn f []):=rfl
theorem YN (m:Nat) (kp:List Nat):mL h m kp .undef=some .undef:=rfl
def b4T:Option (V×List Nat)→Option V
 |some (v,_)=>some v
 |none=>none
def fcO (h:au) (m:Nat) (kp:List Nat) (b s q:Nat):Option V:=br (Nat.blt b m) (some (.sl b s q)) (br (kp.contains b) (some (.sl (m+im b kp) s q)) (b4T (ma h (.sl b s q))))
theorem NY (m:Nat) (kp:List Nat) (b s q:Nat):mL h m kp (.sl b s q)=fcO h m kp b s q:=by
 simp only [mL,fcO,Bm,b4T]
 by_cases h1:b<m
 ·simp [h1,br]
 ·by_cases h2:b∈kp
  ·simp [h1,h2,br]
  ·have:kp.contains b=false:=by simpa using h2
   simp only [h1,h2,this,if_false,decide_false,aK]
   cases ma h (.sl b s q)<;>rfl
theorem b0v (m:Nat) (kp:List Nat) (b s q:Nat):Br h m kp (.sl b s q)=fcO h m kp b s q:=NY m kp b s q
theorem b9r (m:Nat) (kp:List Nat) (b s q:Nat):fcO h m kp b s q=br (Nat.blt b m) (some (.sl b s q)) (br (kp.contains b) (some (.sl (m+im b kp) s q)) (b4T (ma h (.sl b s q)))):=rfl
theorem a3L (v:V) (bs:List Nat):b4T (some (v,bs))=some v:=rfl
def fcP (m:Nat) (kp:List Nat) (b i o q:Nat):Option V:=br (Nat.blt b m) (some (.ptr b i o q)) (br (kp.contains b) (some (.ptr (m+im b kp) i o q)) none)
theorem NJ (m:Nat) (kp:List Nat) (b i o q:Nat):mL h m kp (.ptr b i o q)=fcP m kp b i o q:=by
 simp only [mL,fcP,Bm]
 by_cases h1:b<m
 ·simp [h1,br]
 ·by_cases h2:b∈kp
  ·simp [h1,h2,br]
  ·have:kp.contains b=false:=by simpa using h2
   simp [h1,h2,this,br]
theorem b27 (m:Nat) (kp:List Nat) (b i o q:Nat):Br h m kp (.ptr b i o q)=fcP m kp b i o q:=NJ (h:=h) m kp b i o q
theorem b7R (m:Nat) (kp:List Nat) (b i o q:Nat):fcP m kp b i o q=br (Nat.blt b m) (some (.ptr b i o q)) (br (kp.contains b) (some (.ptr (m+im b kp) i o q)) none):=rfl
def fb2:Option Blk→Option (List Blk)→Option (List Blk)
 |some k,some r=>some (k::r)
 |_,_=>none
def fb1 (h:au) (m:Nat) (kp r:List Nat):Option Blk→Option (List Blk)
 |some k=>fb2 (Pa h m kp k) (sM h m kp r)
 |none=>none
theorem a3q (m:Nat) (kp:List Nat):sM h m kp []=some []:=rfl
theorem Ze (m:Nat) (kp:List Nat) (b:Nat) (r:List Nat):sM h m kp (b::r)=fb1 h m kp r (h b):=by
 simp only [sM,fb1,fb2]
 cases h b with
 |none=>rfl
 |some k=>dsimp only;cases Pa h m kp k<;>cases sM h m kp r<;>rfl
theorem b0e (m:Nat) (kp r:List Nat) (k:Blk):fb1 h m kp r (some k)=fb2 (Pa h m kp k) (sM h m kp r):=rfl
theorem b04 (k:Blk) (r:List Blk):fb2 (some k) (some r)=some (k::r):=rfl
theorem b67 (m:Nat) (kp:List Nat) (q:Nat) (r:List (List V)):Pa h m kp ⟨q,false,r⟩=some ⟨q,false,r⟩:=rfl
def fbO (q:Nat):Option (List V)→Option Blk
 |some row=>some ⟨q,true,[row]⟩
 |none=>none
theorem a3t (m:Nat) (kp:List Nat):wI h m kp []=some []:=rfl
theorem vj (m:Nat) (kp:List Nat) (v:V) (r:List V):wI h m kp (v::r)=rs1 (DI h m kp v) (wI h m kp r):=by
 simp only [wI,rs1]
 cases DI h m kp v<;>cases wI h m kp r<;>rfl
def fnR (f:FuncId):Option (List V)→Option V
 |some cs=>some (.fn f cs)
 |none=>none
theorem b1V (f:FuncId) (cs:List V):fnR f (some cs)=some (.fn f cs):=rfl
theorem a6M (m:Nat) (kp:List Nat) (f:FuncId):DI h m kp (.fn f [])=some (.fn f []):=rfl
theorem b5m (m:Nat) (kp:List Nat) (f:FuncId) (c:V) (cs:List V):DI h m kp (.fn f (c::cs))=fnR f (tV h m kp (c::cs)):=by
 simp only [DI,fnR]
 cases tV h m kp (c::cs)<;>rfl
theorem b0U (m:Nat) (kp:List Nat) (v:Value):DI h m kp (.lit v)=some (.lit v):=rfl
theorem b26 (m:Nat) (kp:List Nat) (q:Nat) (r:List (List V)):DI h m kp (.imm q r)=some (.imm q r):=rfl
theorem Z4 (m:Nat) (kp:List Nat):DI h m kp .undef=some .undef:=rfl
theorem a3A (m:Nat) (kp:List Nat) (r:List V) (o:Nat):DI h m kp (.iptr r o)=some (.iptr r o):=rfl
theorem a8r (m:Nat) (kp:List Nat) (b s q:Nat):DI h m kp (.sl b s q)=fcO h m kp b s q:=NY m kp b s q
theorem a9W (m:Nat) (kp:List Nat) (b i o q:Nat):DI h m kp (.ptr b i o q)=fcP m kp b i o q:=NJ (h:=h) m kp b i o q
theorem b6p (m:Nat) (kp:List Nat) (q:Nat) (row:List V):Pa h m kp ⟨q,true,[row]⟩=fbO q (wI h m kp row):=by
 simp only [Pa,rg,fbO]
 cases wI h m kp row<;>rfl
theorem a98 (q:Nat) (row:List V):fbO q (some row)=some ⟨q,true,[row]⟩:=rfl
theorem a8Q (t u:Nat) (v:V) (r:List (Nat×V)) (m:List (Nat×Blk)):St.get ⟨(u,v)::r,m⟩ t=if u=t then v else St.get ⟨r,m⟩ t:=by
 simp only [St.get,cj]
 split<;>rfl
theorem b4x (t:Nat) (m:List (Nat×Blk)):St.get ⟨[],m⟩ t= .undef:=rfl
theorem a5f (b c:Nat) (k:Blk) (r:List (Nat×Blk)) (x:List (Nat×V)):St.heap ⟨x,(c,k)::r⟩ b=if c=b then some k else St.heap ⟨x,r⟩ b:=rfl
theorem b0S (b:Nat) (x:List (Nat×V)):St.heap ⟨x,[]⟩ b=none:=rfl
theorem b0W (x:List (Nat×V)) (m:List (Nat×Blk)) (d:Nat) (v:V):St.put ⟨x,m⟩ (some d) v=⟨(d,v)::x,m⟩:=rfl
theorem b0F (st:St) (v:V):st.put none v=st:=rfl
theorem c04 (x:List (Nat×V)) (m:List (Nat×Blk)) (u:Upd):St.upd ⟨x,m⟩ u=⟨x,Xb m u⟩:=rfl
theorem b6v (st:St):st.upd []=st:=rfl
theorem b1X (m:List (Nat×Blk)):Xb m []=m:=rfl
theorem a4h (m:List (Nat×Blk)) (b:Nat) (k:Blk) (r:Upd):Xb m ((b,k)::r)=Xb (fx b k m) r:=rfl
theorem a9c {β:Type} (k:Nat) (v:β):fx k v []=[(k,v)]:=rfl
theorem a5J {β:Type} (k j:Nat) (v u:β) (r:List (Nat×β)):fx k v ((j,u)::r)=if j=k then (j,v)::r else (j,u)::fx k v r:=rfl
theorem c48 (st:St) (t:Nat):st.ev (.t t)=st.get t:=rfl
theorem c3I (st:St) (v:Value):st.ev (.c v)= .lit v:=rfl
theorem c3D (st:St) (f:FuncId):st.ev (.f f)= .fn f []:=rfl
theorem b3Z (live:List Nat) (x:List (Nat×V)) (m:List (Nat×Blk)):trim live ⟨x,m⟩=⟨live.map fun t=>(t,St.get ⟨x,m⟩ t),m⟩:=rfl
theorem YV {β:Type} (n:Nat):nD n ([]:List β)=[]:=rfl
theorem Xm {β:Type} (n:Nat) (x:β) (r:List β):nD n (x::r)=(n,x)::nD (n+1) r:=rfl
theorem start_eq (a:List V) (b:List Blk):start a b=⟨nD 0 a,nD 0 b⟩:=rfl
theorem WQ:fa ev []=[]:=rfl
theorem Tc (a b:Nat) (x:Opd) (r:List (Nat×Nat×Opd)):fa ev ((a,b,x)::r)=(a,b,ev x)::fa ev r:=rfl
theorem a2Y (cs:List V):Kx cs []=some cs:=rfl
theorem Z8 (cs:List V) (off size:Nat) (v:V) (r:List (Nat×Nat×V)):Kx cs ((off,size,v)::r)=br (Nat.beq v.cells.length size&&Nat.ble (off+size) cs.length&&v.cells.all V.cell) (Kx (cs.take off++(v.cells++cs.drop (off+size))) r) none:=rfl
theorem a3i (m:Nat) (r:List (List V)):GJ m r []=some r:=rfl
theorem a0V (m:Nat) (rows:List (List V)) (i:Nat) (v:V) (r:List (Nat×V)):GJ m rows ((i,v)::r)=br (Nat.beq v.cells.length m&&(Nat.blt i rows.length&&v.cells.all V.cell)) (GJ m (rows.set i v.cells) r) none:=rfl
theorem a4M (cs:List V):(V.agg cs).cells=cs:=rfl
theorem QT (v:Value):(V.lit v).cells=[.lit v]:=rfl
theorem a4f (m:Nat) (r:List (List V)):(V.imm m r).cells=[.imm m r]:=rfl
theorem a3U (b s q:Nat):(V.sl b s q).cells=[.sl b s q]:=rfl
theorem a41 (b i o m:Nat):(V.ptr b i o m).cells=[.ptr b i o m]:=rfl
theorem Z2 (r:List V) (o:Nat):(V.iptr r o).cells=[.iptr r o]:=rfl
theorem a8g (f:FuncId) (cs:List V):(V.fn f cs).cells=[.fn f cs]:=rfl
theorem V8 (k:IntKind) (a:Int):(V.lit (.int k a)).cell=true:=rfl
theorem a4X (a:Bool):(V.lit (.bool a)).cell=true:=rfl
theorem a7v (a:ByteArray):(V.lit (.string a)).cell=true:=rfl
theorem a6s (a:Option Addr) (n m:Nat):(V.lit (.slice a n m)).cell=true:=rfl
theorem a88 (m:Nat) (r:List (List V)):(V.imm m r).cell=true:=rfl
theorem a8V (b s q:Nat):(V.sl b s q).cell=true:=rfl
theorem b0f (b i o m:Nat):(V.ptr b i o m).cell=true:=rfl
theorem a40 (r:List V) (o:Nat):(V.iptr r o).cell=true:=rfl
theorem b5a (f:FuncId) (cs:List V):(V.fn f cs).cell=true:=rfl
theorem b4t (k:IntKind) (a:Int):ba (.int k a)=true:=rfl
theorem a7s (a:Bool):ba (.bool a)=true:=rfl
theorem b5q (a:ByteArray):ba (.string a)=true:=rfl
theorem b6r (a:Option Addr) (n m:Nat):ba (.slice a n m)=true:=rfl
theorem b6k (a:Option Addr):ba (.pointer a)=true:=rfl
theorem a5A:fm []=[]:=rfl
theorem a0h (b:Nat) (r:List Nat):fm (b::r)=(b,ip)::fm r:=rfl
theorem b6f (ids:List Nat):kU ids []=[]:=by cases ids<;>rfl
theorem a9e (i:Nat) (ids:List Nat) (k:Blk) (r:List Blk):kU (i::ids) (k::r)=(i,k)::kU ids r:=rfl
theorem a7C (b x:Nat) (r:List Nat):im b (x::r)=if x=b then 0 else im b r+1:=rfl
theorem Zt (b:Nat):dH [] b=[b]:=rfl
theorem a2K (ids:List Nat) (b:Nat):dH ids b=br (ids.contains b) ids (ids++[b]):=by
 unfold dH
 by_cases h:b∈ids<;>simp [h,br]
theorem c05:List.range 1=[0]:=rfl
theorem b8P:List.range 2=[0,1]:=rfl
theorem c1a:List.range 3=[0,1,2]:=rfl
theorem b7A:List.range 4=[0,1,2,3]:=rfl
theorem a73 (v:V):Uz [v]=v:=rfl
theorem b0p:Uz []= .tup []:=rfl
theorem b1i (a b:V) (r:List V):Uz (a::b::r)= .tup (a::b::r):=rfl
theorem a0D (o:List Nat) (a:List V):ra o a=br (o.contains 1000) a (a.map V.czA):=by
 unfold ra;cases o.contains 1000<;>rfl
theorem YD (o:List Nat) (a:List Blk):qZ o a=br (o.contains 1000) a (a.map Blk.cz):=by
 unfold qZ;cases o.contains 1000<;>rfl
theorem a4n (a:Nat) (r:List Nat):(a::r).getD 0 0=a:=rfl
theorem a4Z (a n:Nat) (r:List Nat):(a::r).getD (n+1) 0=r.getD n 0:=rfl
def a00 (st:St) (bs:List Nat):St:={ e:=OT (fzA st.heap bs) st.e,m:=fzM st.heap bs st.m }
theorem a7m (st:St) (bs:List Nat):bG st (.close bs)=br (bs.all (fun b=>Nat.ble 1000 b)) (some (a00 st bs)) none:=by
 simp only [bG,a00,Im]
 cases bs.all (fun b=>decide (1000≤b))<;>rfl
theorem a4o (x:List (Nat×V)) (m:List (Nat×Blk)) (bs:List Nat):a00 ⟨x,m⟩ bs=⟨OT (fzA (St.heap ⟨x,m⟩) bs) x,fzM (St.heap ⟨x,m⟩) bs m⟩:=rfl
theorem a6T (g:V→V):OT g []=[]:=rfl
theorem a5h (g:V→V) (t:Nat) (v:V) (r:List (Nat×V)):OT g ((t,v)::r)=(t,g v)::OT g r:=rfl
variable {bs:List Nat}
theorem b9k (v:Value):fzA h bs (.lit v)= .lit v:=rfl
theorem c0x (m:Nat) (r:List (List V)):fzA h bs (.imm m r)= .imm m r:=rfl
theorem b33 (r:List V) (o:Nat):fzA h bs (.iptr r o)= .iptr r o:=rfl
theorem a96:fzA h bs .undef= .undef:=rfl
theorem b9B (vs:List V):fzA h bs (.tup vs)= .undef:=rfl
def fzO:Option (V×List Nat)→V
 |some (v,_)=>v.cz
 |none=> .undef
theorem b0k (b s q:Nat):fzA h bs (.sl b s q)=br (bs.contains b) (fzO (ma h (.sl b s q))) (.sl b s q):=by
 simp only [fzA,fzC,fzO]
 by_cases hb:b∈bs
 ·simp [hb,br];cases ma h (.sl b s q)<;>rfl
 ·simp [hb,br]
theorem a8D (b i o m:Nat):fzA h bs (.ptr b i o m)=br (bs.contains b) .undef (.ptr b i o m):=by
 simp only [fzA,fzC]
 by_cases hb:b∈bs<;>simp [hb,br]
theorem b1q (v:V) (b:List Nat):fzO (some (v,b))=v.cz:=rfl
theorem c0u (cs:List V):fzA h bs (.agg cs)=br ((cs.map (fzC h bs)).all V.cell) (.agg (cs.map (fzC h bs))) .undef:=by
 simp only [fzA]
 cases (cs.map (fzC h bs)).all V.cell<;>rfl
theorem b6W (f:FuncId) (cs:List V):fzA h bs (.fn f cs)=br (cs.all okC&& !(cs.flatMap oF).any (fun b=>bs.contains b)) (.fn f cs) .undef:=by
 simp only [fzA,fzC]
 have:(fun b=>decide (b∈bs))=fun b=>bs.contains b:=by funext b;simp [Bool.eq_iff_iff]
 rw [this]
 cases (cs.all okC&& !(cs.flatMap oF).any (fun b=>bs.contains b))<;>rfl
theorem b3x (v:Value):fzC h bs (.lit v)= .lit v:=rfl
theorem b4e (m:Nat) (r:List (List V)):fzC h bs (.imm m r)= .imm m r:=rfl
theorem b8h (f:FuncId) (cs:List V):fzC h bs (.fn f cs)=br (cs.all okC&& !(cs.flatMap oF).any (fun b=>bs.contains b)) (.fn f cs) .undef:=b6W (h:=h) f cs
theorem b2L (b i o m:Nat):okC (.ptr b i o m)=true:=rfl
theorem b2O (b s q:Nat):okC (.sl b s q)=true:=rfl
theorem b6K (v:Value):okC (.lit v)=true:=rfl
theorem b5t (m:Nat) (r:List (List V)):okC (.imm m r)=true:=rfl
theorem c0N (f:FuncId):okC (.fn f [])=true:=rfl
theorem a6l (r:List V) (o:Nat):fzC h bs (.iptr r o)= .iptr r o:=rfl
theorem b2k (b s q:Nat):fzC h bs (.sl b s q)=br (bs.contains b) (fzO (ma h (.sl b s q))) (.sl b s q):=b0k b s q
theorem b5g (b i o m:Nat):fzC h bs (.ptr b i o m)=br (bs.contains b) .undef (.ptr b i o m):=a8D (h:=h) b i o m
theorem b51:fzM h bs []=[]:=rfl
def fzK (h:au) (bs:List Nat) (k:Blk):Blk:=if k.op then (if (k.rows.map (·.map (fzC h bs))).all (·.all V.cell) then { k with rows:=k.rows.map (·.map (fzC h bs)) } else ip) else k
theorem b1R (b:Nat) (k:Blk) (r:List (Nat×Blk)):fzM h bs ((b,k)::r)=br (bs.contains b) (fzM h bs r) ((b,fzK h bs k)::fzM h bs r):=by
 simp only [fzM,fzK]
 by_cases hb:b∈bs<;>simp [hb,br]
theorem b83 (m:Nat) (r:List (List V)):fzK h bs ⟨m,false,r⟩=⟨m,false,r⟩:=rfl
theorem b8L (m:Nat) (row:List V):fzK h bs ⟨m,true,[row]⟩=br ((row.map (fzC h bs)).all V.cell) ⟨m,true,[row.map (fzC h bs)]⟩ ip:=by
 simp only [fzK,List.map_cons,List.map_nil,List.all_cons,List.all_nil,Bool.and_true,if_true]
 cases (row.map (fzC h bs)).all V.cell<;>rfl
section
variable {R:Type} {T:Tab} {ow:cy} {k:aw→St→Option R} {d:Option Nat} {n:Nat} {ss:List bf} {live:List Nat} {K:List Fr} {st:St} {base i:Nat} {deps:List (List Nat)} {rs:List Rec} {fp:List Nat} {r:R}
theorem bC {fl ro:Bool} {h:au} {new:Nat} {ids bor:List Nat} {x:Option (V×List Blk)} {p:V×List Blk} (hx:x=some p) (hr:aft T ow k d n ss live K st (L8 fl ro h new ids bor (some p))=some r):aft T ow k d n ss live K st (L8 fl ro h new ids bor x)=some r:=by
 rw [hx];exact hr
theorem fU {fl ro:Bool} {h:au} {new:Nat} {ids bor:List Nat} {x:Option (V×List Blk)} {p:V×List Blk} (hx:x=some p) (hr:LS T ow k d base i ss deps live rs K st fp (L8 fl ro h new ids bor (some p))=some r):LS T ow k d base i ss deps live rs K st fp (L8 fl ro h new ids bor x)=some r:=by
 rw [hx];exact hr
theorem c1R (b:Int):nn b=decide (0≤b):=rfl
theorem c2o (b:Int):nz b=decide (b≠0):=rfl
theorem b8l (i:Int) (n:Nat):inb i n=(decide (0≤i)&&decide (i.toNat<n)):=rfl
end
end
section
variable {ow:cy} {ev:Opd→V} {h:au} {α:Type} {e:En α} {l:List α}
theorem c1M (x:Opd):ec ow (.mv x) ev h=[]:=rfl
theorem c2V (x:Opd):(AOp.mv x).opds=[x]:=rfl
theorem b3m (c a b:Opd):ec ow (.pick c a b) ev h=((AOp.pick c a b).opds.map ev).flatMap dG:=rfl
theorem b5L (c a b:Opd):(AOp.pick c a b).opds=[c,a,b]:=rfl
theorem a6e (z:List Value):ec ow (.alloc z) ev h=((AOp.alloc z).opds.map ev).flatMap dG:=rfl
theorem b0I (z:List Value):(AOp.alloc z).opds=[]:=rfl
theorem b9Q (m:Nat) (x:Opd):ec ow (.box m x) ev h=((AOp.box m x).opds.map ev).flatMap dG:=rfl
theorem c1c (m:Nat) (x:Opd):(AOp.box m x).opds=[x]:=rfl
theorem UH (z:List Value) (ps:List (Nat×Nat×Opd)):ec ow (.build z ps) ev h=((AOp.build z ps).opds.map ev).flatMap dG:=rfl
theorem Vr (z:List Value) (ps:List (Nat×Nat×Opd)):(AOp.build z ps).opds=ps.map (·.2.2):=rfl
theorem PU (m:Nat) (z:List Value) (l:Nat) (ps:List (Nat×Opd)):ec ow (.buildSlice m z l ps) ev h=((AOp.buildSlice m z l ps).opds.map ev).flatMap dG:=rfl
theorem PQ (m:Nat) (z:List Value) (l:Nat) (ps:List (Nat×Opd)):(AOp.buildSlice m z l ps).opds=ps.map (·.2):=rfl
theorem b3z (g:Option Nat) (x:Opd):ec ow (.load g x) ev h=((AOp.load g x).opds.map ev).flatMap dG:=rfl
theorem b3o (g:Option Nat) (x:Opd):(AOp.load g x).opds=[x]:=rfl
theorem a6g (m:Nat) (x y:Opd):ec ow (.store m x y) ev h=((AOp.store m x y).opds.map ev).flatMap dG:=rfl
theorem a7K (m:Nat) (x y:Opd):(AOp.store m x y).opds=[x,y]:=rfl
theorem Xq (x:Opd):ec ow (.nilCheck x) ev h=((AOp.nilCheck x).opds.map ev).flatMap dG:=rfl
theorem Xw (x:Opd):(AOp.nilCheck x).opds=[x]:=rfl
theorem b7s (op:BinOp) (x y:Opd):ec ow (.bin op x y) ev h=((AOp.bin op x y).opds.map ev).flatMap dG:=rfl
theorem b9c (op:BinOp) (x y:Opd):(AOp.bin op x y).opds=[x,y]:=rfl
theorem a8x (b:Bool) (ks:List Bool) (x y:Opd):ec ow (.eqAgg b ks x y) ev h=((AOp.eqAgg b ks x y).opds.map ev).flatMap dG:=rfl
theorem b1o (b:Bool) (ks:List Bool) (x y:Opd):(AOp.eqAgg b ks x y).opds=[x,y]:=rfl
theorem b7W (b:Bool) (x y:Opd):ec ow (.beq b x y) ev h=((AOp.beq b x y).opds.map ev).flatMap dG:=rfl
theorem b7q (b:Bool) (x y:Opd):(AOp.beq b x y).opds=[x,y]:=rfl
theorem c1z (op:UnOp) (x:Opd):ec ow (.un op x) ev h=((AOp.un op x).opds.map ev).flatMap dG:=rfl
theorem c3l (op:UnOp) (x:Opd):(AOp.un op x).opds=[x]:=rfl
theorem a7y (k:IntKind) (x:Opd):ec ow (.toInt k x) ev h=((AOp.toInt k x).opds.map ev).flatMap dG:=rfl
theorem a99 (k:IntKind) (x:Opd):(AOp.toInt k x).opds=[x]:=rfl
theorem b42 (x:Opd):ec ow (.same x) ev h=((AOp.same x).opds.map ev).flatMap dG:=rfl
theorem b3G (x:Opd):(AOp.same x).opds=[x]:=rfl
theorem a0e (x:Opd):ec ow (.toBytes x) ev h=((AOp.toBytes x).opds.map ev).flatMap dG:=rfl
theorem YE (x:Opd):(AOp.toBytes x).opds=[x]:=rfl
theorem a7R (x:Opd):ec ow (.toStr x) ev h=((AOp.toStr x).opds.map ev).flatMap dG:=rfl
theorem a7t (x:Opd):(AOp.toStr x).opds=[x]:=rfl
theorem UL (f:FuncId) (cs:List Opd):ec ow (.makeFunc f cs) ev h=[]:=rfl
theorem Wf (f:FuncId) (cs:List Opd):(AOp.makeFunc f cs).opds=cs:=rfl
theorem UB (m b:Nat) (z:List Value) (x y:Opd):ec ow (.makeSlice m b z x y) ev h=((AOp.makeSlice m b z x y).opds.map ev).flatMap dG:=rfl
theorem TJ (m b:Nat) (z:List Value) (x y:Opd):(AOp.makeSlice m b z x y).opds=[x,y]:=rfl
theorem Yc (x:Opd) (lo hi:Option Opd):ec ow (.sliceStr x lo hi) ev h=((AOp.sliceStr x lo hi).opds.map ev).flatMap dG:=rfl
theorem WK (x:Opd) (lo hi:Option Opd):(AOp.sliceStr x lo hi).opds=x::(Ie lo++Ie hi):=rfl
theorem a7G (m:Nat) (x:Opd) (lo hi mx:Option Opd):ec ow (.slice m x lo hi mx) ev h=((AOp.slice m x lo hi mx).opds.map ev).flatMap dG:=rfl
theorem a9Q (m:Nat) (x:Opd) (lo hi mx:Option Opd):(AOp.slice m x lo hi mx).opds=x::(Ie lo++(Ie hi++Ie mx)):=rfl
theorem c0T (m:Nat) (x:Opd):ec ow (.off m x) ev h=[]:=rfl
theorem b8f (m:Nat) (x:Opd):(AOp.off m x).opds=[x]:=rfl
theorem b02 (m:Nat) (g:Option Nat) (x:Opd):ec ow (.field m g x) ev h=((AOp.field m g x).opds.map ev).flatMap dG:=rfl
theorem a6Z (m:Nat) (g:Option Nat) (x:Opd):(AOp.field m g x).opds=[x]:=rfl
theorem b7y (m:Nat) (x y:Opd):ec ow (.idx m x y) ev h=((AOp.idx m x y).opds.map ev).flatMap dG:=rfl
theorem c0Y (m:Nat) (x y:Opd):(AOp.idx m x y).opds=[x,y]:=rfl
theorem a5w (m q:Nat) (x y:Opd):ec ow (.idxArr m q x y) ev h=((AOp.idxArr m q x y).opds.map ev).flatMap dG:=rfl
theorem a4J (m q:Nat) (x y:Opd):(AOp.idxArr m q x y).opds=[x,y]:=rfl
theorem b29 (x y:Opd):ec ow (.ixStr x y) ev h=((AOp.ixStr x y).opds.map ev).flatMap dG:=rfl
theorem b0b (x y:Opd):(AOp.ixStr x y).opds=[x,y]:=rfl
theorem b1G (m q:Nat) (g:Option Nat) (x y:Opd):ec ow (.ixAgg m q g x y) ev h=((AOp.ixAgg m q g x y).opds.map ev).flatMap dG:=rfl
theorem a6H (m q:Nat) (g:Option Nat) (x y:Opd):(AOp.ixAgg m q g x y).opds=[x,y]:=rfl
theorem b8a (x:Opd) (i:Nat):ec ow (.ext x i) ev h=[]:=rfl
theorem b97 (x:Opd) (i:Nat):(AOp.ext x i).opds=[x]:=rfl
theorem c07 (b:Bool) (x:Opd):ec ow (.len b x) ev h=[]:=rfl
theorem b8N (b:Bool) (x:Opd):(AOp.len b x).opds=[x]:=rfl
theorem a3s (m:Nat) (x:Opd):ec ow (.lenArr m x) ev h=((AOp.lenArr m x).opds.map ev).flatMap dG:=rfl
theorem a4j (m:Nat) (x:Opd):(AOp.lenArr m x).opds=[x]:=rfl
theorem ZZ (m b:Nat) (z:List Value) (x y:Opd):ec ow (.appendN m b z x y) ev h=((AOp.appendN m b z x y).opds.map ev).flatMap dG:=rfl
theorem Yr (m b:Nat) (z:List Value) (x y:Opd):(AOp.appendN m b z x y).opds=[x,y]:=rfl
theorem b1T (b:Bool) (x:Opd):ec ow (.isNil b x) ev h=((AOp.isNil b x).opds.map ev).flatMap dG:=rfl
theorem b0c (b:Bool) (x:Opd):(AOp.isNil b x).opds=[x]:=rfl
theorem a5d (m b:Nat) (z:List Value) (x y:Opd):ec ow (.append m b z x y) ev h=((AOp.append m b z x y).opds.map ev).flatMap dG:=rfl
theorem a3p (m b:Nat) (z:List Value) (x y:Opd):(AOp.append m b z x y).opds=[x,y]:=rfl
theorem b2w (m:Nat) (x y:Opd):ec ow (.copy m x y) ev h=((AOp.copy m x y).opds.map ev).flatMap dG:=rfl
theorem b4y (m:Nat) (x y:Opd):(AOp.copy m x y).opds=[x,y]:=rfl
theorem b3p (x y:Opd):ec ow (.max2 x y) ev h=((AOp.max2 x y).opds.map ev).flatMap dG:=rfl
theorem b2p (x y:Opd):(AOp.max2 x y).opds=[x,y]:=rfl
theorem b4V (x y:Opd):ec ow (.min2 x y) ev h=((AOp.min2 x y).opds.map ev).flatMap dG:=rfl
theorem b2P (x y:Opd):(AOp.min2 x y).opds=[x,y]:=rfl
theorem Y8 (x:Opd):ec ow (.bytesOwn x) ev h=((AOp.bytesOwn x).opds.map ev).flatMap dG:=rfl
theorem XA (x:Opd):(AOp.bytesOwn x).opds=[x]:=rfl
theorem b1r (m:Nat) (x:Opd):ec ow (.arrOf m x) ev h=((AOp.arrOf m x).opds.map ev).flatMap dG:=rfl
theorem b1k (m:Nat) (x:Opd):(AOp.arrOf m x).opds=[x]:=rfl
theorem c0V (x:Opd):Ie (some x)=[x]:=rfl
theorem b93:Ie none=[]:=rfl
def fpC:Option (List V×List Blk×List Nat×List Nat)→List Nat
 |some (_,_,ids,bor)=>ids++bor
 |none=>[]
theorem a6o (a:List V) (b:List Blk) (ids bor:List Nat):fpC (some (a,b,ids,bor))=ids++bor:=rfl
theorem b52 (f:FuncId) (args:List Opd):ec ow (.call f args) ev h=fpC (cV ow h f (args.map ev)):=by
 show Jd ow h f (args.map ev)=_
 unfold Jd fpC
 cases cV ow h f (args.map ev)<;>rfl
def fpD (ow:cy) (h:au) (args:List V):V→List Nat
 | .fn k caps=>fpC (cV ow h k (args++caps))
 |_=>[]
theorem b84 (f:Opd) (args:List Opd):ec ow (.dyn f args) ev h=fpD ow h (args.map ev) (ev f):=by
 show (match ev f with
  | .fn k caps=>Jd ow h k (args.map ev++caps)
  |_=>[])=_
 cases ev f<;>first|rfl| (simp only [fpD,Jd,fpC];cases cV ow h _ _<;>rfl)
theorem b8W (args:List V) (k:FuncId) (caps:List V):fpD ow h args (.fn k caps)=fpC (cV ow h k (args++caps)):=rfl
theorem b3c (cs:List V):dG (.agg cs)=cs.flatMap oF:=rfl
theorem b8Z (f:FuncId) (cs:List V):dG (.fn f cs)=cs.flatMap oF:=rfl
theorem b3C (cs:List V):dG (.tup cs)=cs.flatMap fun| .agg cs=>cs.flatMap oF|v=>oF v:=rfl
theorem b6H (v:Value):dG (.lit v)=[]:=rfl
theorem b5r (m:Nat) (r:List (List V)):dG (.imm m r)=[]:=rfl
theorem a6L (r:List V) (o:Nat):dG (.iptr r o)=[]:=rfl
theorem b3t (b i o m:Nat):dG (.ptr b i o m)=[b]:=rfl
theorem b5M (b s q:Nat):dG (.sl b s q)=[b]:=rfl
theorem a3j:dG .undef=[]:=rfl
theorem b2h (v:Value):oF (.lit v)=[]:=rfl
theorem b6t (m:Nat) (r:List (List V)):oF (.imm m r)=[]:=rfl
theorem a9O (r:List V) (o:Nat):oF (.iptr r o)=[]:=rfl
theorem b3N (b i o m:Nat):oF (.ptr b i o m)=[b]:=rfl
theorem b5f (b s q:Nat):oF (.sl b s q)=[b]:=rfl
theorem b9U (f:FuncId) (cs:List V):oF (.fn f cs)=[]:=rfl
theorem a2M:oF .undef=[]:=rfl
theorem Vd (fp:List Nat) (b:Nat):oM h fp b=br (fp.contains b) (h b) none:=by
 unfold oM
 by_cases hb:b∈fp<;>simp [hb,br]
theorem b6g (rs:List Rec) (i:Nat) (fp wr:List Nat):a43 rs i fp wr=br (fp.isEmpty&&wr.isEmpty) rs (rs++[⟨i,fp,wr⟩]):=by
 have h:Rec.loud ⟨i,fp,wr⟩= !(fp.isEmpty&&wr.isEmpty):=rfl
 unfold a43
 cases h1:Rec.loud ⟨i,fp,wr⟩ with
 |true=>
  rw [h1] at h
  have h2:(fp.isEmpty&&wr.isEmpty)=false:=by
   cases hx:fp.isEmpty&&wr.isEmpty with
   |false=>rfl
   |true=>rw [hx] at h;cases h
  rw [h2,aK,List.filter_cons_of_pos h1];rfl
 |false=>
  rw [h1] at h
  have h2:(fp.isEmpty&&wr.isEmpty)=true:=by
   cases hx:fp.isEmpty&&wr.isEmpty with
   |true=>rfl
   |false=>rw [hx] at h;cases h
  rw [h2,bM,List.filter_cons_of_neg (by rw [h1];decide)];simp
theorem a5s (deps:List (List Nat)):nf deps []=true:=rfl
theorem ZJ (deps:List (List Nat)) (p:Rec) (r:List Rec):nf deps (p::r)=(CA deps p r&&nf deps r):=rfl
theorem b3L (deps:List (List Nat)) (p:Rec):CA deps p []=true:=rfl
theorem b0n (deps:List (List Nat)) (i j:Nat) (f g w u:List Nat) (r:List Rec):CA deps ⟨i,f,w⟩ (⟨j,g,u⟩::r)=((w.isEmpty&&u.isEmpty||(deps.getD j []).contains i|| !(w.any (fun b=>decide (b∈g)||decide (b∈u))||u.any (fun b=>decide (b∈f))))&&CA deps ⟨i,f,w⟩ r):=rfl
theorem a0X {β:Type} (a d:β) (r:List β):(a::r).getD 0 d=a:=rfl
theorem a0v {β:Type} (a d:β) (n:Nat) (r:List β):(a::r).getD (n+1) d=r.getD n d:=rfl
theorem b2D (m:Nat) (cs:List V) (n:Nat):b8K m cs h n=br (Nat.beq cs.length m&&cs.all V.cell) (frO (h n) n ⟨m,true,[cs]⟩ (.ptr n 0 0 1)) none:=rfl
theorem aa (x:Int) (h1: -9223372036854775808≤x) (h2:x<9223372036854775808):IntKind.wrap .i64 x=x:=by
 simp [IntKind.wrap,IntKind.bits,IntKind.signed];omega
theorem ga (x:Int) (h1:0≤x) (h2:x<18446744073709551616):IntKind.wrap .u64 x=x:=by
 simp [IntKind.wrap,IntKind.bits,IntKind.signed];omega
theorem b3A (x:Int) (h1:0≤x) (h2:x<256):IntKind.wrap .u8 x=x:=by
 simp [IntKind.wrap,IntKind.bits,IntKind.signed];omega
theorem J3 (n:Nat):(OfNat.ofNat n:Int)=(n:Int):=rfl
theorem a8i (n:Nat) (h:Nat.ble n 9223372036854775807=true):IntKind.wrap .i64 (no_index (OfNat.ofNat n:Int))=OfNat.ofNat n:=by
 have h1:=Nat.le_of_ble_eq_true h
 rw [J3];exact aa _ (by omega) (by omega)
theorem a5Y (n:Nat) (h:Nat.ble n 18446744073709551615=true):IntKind.wrap .u64 (no_index (OfNat.ofNat n:Int))=OfNat.ofNat n:=by
 have h1:=Nat.le_of_ble_eq_true h
 rw [J3];exact ga _ (by omega) (by omega)
theorem a4c (n:Nat) (h:Nat.ble n 255=true):IntKind.wrap .u8 (no_index (OfNat.ofNat n:Int))=OfNat.ofNat n:=by
 have h1:=Nat.le_of_ble_eq_true h
 rw [J3];exact b3A _ (by omega) (by omega)
theorem b8q (a b:Nat):(a==b)=decide (a=b):=by
 by_cases h:a=b
 ·subst h;simp
 ·rw [decide_eq_false h];simpa using h
theorem b9w:List.range 0=[]:=rfl
theorem a0A (m:Nat) (vs:List V):jq true h m vs=Aw m [] ((List.range m).flatMap fun b=>Zu (h b)):=rfl
theorem a42 (m:Nat) (vs:List V):jq false h m vs=Aw m [] (vs.flatMap dG):=rfl
theorem b4z (m:Nat) (row:List V):Zu (some ⟨m,true,[row]⟩)=row.flatMap dG:=by simp [Zu]
theorem b6B (m:Nat) (r:List (List V)):Zu (some ⟨m,false,r⟩)=[]:=rfl
theorem b7P:List.range 5=[0,1,2,3,4]:=rfl
theorem c0P:List.range 6=[0,1,2,3,4,5]:=rfl
theorem b8e:List.range 7=[0,1,2,3,4,5,6]:=rfl
theorem b87:List.range 8=[0,1,2,3,4,5,6,7]:=rfl
theorem a65 (m:Nat) (acc:List Nat):Aw m acc []=acc:=rfl
theorem Zb (m b:Nat) (acc r:List Nat):Aw m acc (b::r)=Aw m (br (Nat.ble m b) (dH acc b) acc) r:=by
 simp only [Aw,Im]
 by_cases h:m≤b<;>simp [h,br]
theorem a3X (n:Nat):Int.toNat (no_index (OfNat.ofNat n:Int))=OfNat.ofNat n:=rfl
end
end Go.AI
