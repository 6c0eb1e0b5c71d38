/- The machine's operations on values of Lean's own types: what writes, what makes, what calls; a function's end. -/
import Derived.Test.YtdmhkkcihecndaaGreatAiTyp2
set_option linter.unusedVariables false
set_option linter.unusedSimpArgs false
namespace Go.AI
section
variable {C:aU} {ow:FuncId→List Nat} {ev:Opd→V} {h:ak} {n:Nat} {α:Type} {e:En α} {l l2:List α}
def snO (k:Option Blk) (b s q:Nat):Option (V×List Nat):=match k with
 |some k=>if k.op=false∧0<k.esz∧s+q=k.rows.length then some (.imm k.esz (k.rows.drop s),[b]) else none
 |none=>none
theorem a5H (b s q:Nat):kP h (.sl b s q)=snO (h b) b s q:=rfl
theorem b49 (m b q:Nat) (h0:Nat.blt 0 m=true) (hq:l.length=q):snO (some ⟨m,false,rws e l⟩) b 0 q=some (.imm m (rws e l),[b]):=by
 rw [Dz,decide_eq_true_eq] at h0
 simp [snO,rws,hq,h0]
theorem a5e (k:IntKind) (a:Int):kP h (.lit (.int k a))=some (.lit (.int k a),[]):=rfl
theorem a1a (a:Bool):kP h (.lit (.bool a))=some (.lit (.bool a),[]):=rfl
theorem a4c (a:List UInt8):kP h (S a)=some (S a,[]):=rfl
theorem a6A:kP h (.lit (.slice none 0 0))=some (.lit (.slice none 0 0),[]):=rfl
theorem a72 (m:Nat) (r:List (List V)):kP h (.imm m r)=some (.imm m r,[]):=rfl
def snC:Option (V×List Nat)→Option (List V×List Nat)→Option (List V×List Nat)
 |some (a,bs),some (r,bs')=>some (a.cz::r,bs++bs')
 |_,_=>none
theorem a2F:iw h []=some ([],[]):=rfl
theorem Yu (v:V) (r:List V):iw h (v::r)=snC (kP h v) (iw h r):=by
 simp only [iw,snC]
 cases kP h v<;>cases iw h r<;>rfl
theorem a47 (a:V) (bs:List Nat) (r:List V) (bs':List Nat):snC (some (a,bs)) (some (r,bs'))=some (a.cz::r,bs++bs'):=rfl
theorem b4g (k:IntKind) (a:Int):(V.lit (.int k a)).cz= .lit (.int k a):=rfl
theorem a86 (a:Bool):(V.lit (.bool a)).cz= .lit (.bool a):=rfl
theorem b3e (a:List UInt8):(S a).cz=S a:=rfl
theorem b2s (a:Array Value):(V.lit (.tuple a)).cz= .lit (.tuple a):=rfl
theorem b1P:(V.lit (.slice none 0 0)).cz= .imm 1 []:=rfl
theorem b2D (m:Nat):(V.imm m []).cz= .imm 1 []:=rfl
theorem b4I (b i o m:Nat):(V.ptr b i o m).cz= .ptr b i o m:=rfl
theorem b3I (b s q:Nat):(V.sl b s q).cz= .sl b s q:=rfl
theorem a8W (r:List V) (o:Nat):(V.iptr r o).cz= .iptr r o:=rfl
theorem b5v (f:FuncId) (cs:List V):(V.fn f cs).cz= .fn f cs:=rfl
theorem a5p:V.undef.cz= .undef:=rfl
theorem b1r (cs:List V):(V.agg cs).czA= .agg (cs.map V.cz):=rfl
theorem a9P (k:IntKind) (a:Int):(V.lit (.int k a)).czA= .lit (.int k a):=rfl
theorem a7u (a:Bool):(V.lit (.bool a)).czA= .lit (.bool a):=rfl
theorem b05 (a:List UInt8):(S a).czA=S a:=rfl
theorem a93:(V.lit (.slice none 0 0)).czA= .imm 1 []:=rfl
theorem a7W (m:Nat) (r:List (List V)):(V.imm m r).czA=(V.imm m r).cz:=rfl
theorem a9w (b i o m:Nat):(V.ptr b i o m).czA= .ptr b i o m:=rfl
theorem a8A (b s q:Nat):(V.sl b s q).czA= .sl b s q:=rfl
theorem a7Q (r:List V) (o:Nat):(V.iptr r o).czA= .iptr r o:=rfl
theorem b2H (f:FuncId) (cs:List V):(V.fn f cs).czA= .fn f cs:=rfl
theorem a2K:V.undef.czA= .undef:=rfl
theorem b0Q (cs:List V):(V.tup cs).czR= .tup (cs.map V.czA):=rfl
theorem a9t (cs:List V):(V.agg cs).czR= .agg (cs.map V.cz):=rfl
theorem b1g (k:IntKind) (a:Int):(V.lit (.int k a)).czR= .lit (.int k a):=rfl
theorem a4y (a:Bool):(V.lit (.bool a)).czR= .lit (.bool a):=rfl
theorem a8Q (a:List UInt8):(S a).czR=S a:=rfl
theorem a8U:(V.lit (.slice none 0 0)).czR= .imm 1 []:=rfl
theorem a8E (m:Nat) (r:List (List V)):(V.imm m r).czR=(V.imm m r).cz:=rfl
theorem b1e (b i o m:Nat):(V.ptr b i o m).czR= .ptr b i o m:=rfl
theorem a9L (b s q:Nat):(V.sl b s q).czR= .sl b s q:=rfl
theorem a6Q (r:List V) (o:Nat):(V.iptr r o).czR= .iptr r o:=rfl
theorem b3V (f:FuncId) (cs:List V):(V.fn f cs).czR= .fn f cs:=rfl
theorem a4J (m:Nat) (row:List V):Blk.cz ⟨m,true,[row]⟩=⟨m,true,[row.map V.cz]⟩:=rfl
theorem a5u (m:Nat) (r:List (List V)):Blk.cz ⟨m,false,r⟩=⟨m,false,r⟩:=rfl
theorem b50 (k:IntKind) (a:Int):zc (.int k a)= .lit (.int k a):=rfl
theorem a8d (a:Bool):zc (.bool a)= .lit (.bool a):=rfl
theorem b2f (a:List UInt8):zc (.string ⟨⟨a⟩⟩)=S a:=rfl
theorem b3h:zc (.slice none 0 0)= .imm 1 []:=rfl
def stO (k:Option Blk) (b size i o m:Nat) (x:V) (h:ak):Option (V×Upd):=match k with
 |some k=>if k.rows.length=m then (match k.rows[i]? with
  |some row=>
   if k.op then
    (if x.cells.length=size∧o+size≤row.length∧x.cells.all V.cell then
     some (.undef,[(b,{ k with rows:=k.rows.set i (row.take o++(x.cells++row.drop (o+size))) })]) else none)
   else match iw h x.cells with
    |some (cs,bs)=>if cs.length=size∧o+size≤row.length∧ ¬b∈bs then
     some (.undef,eO bs++[(b,{ k with rows:=k.rows.set i (row.take o++(cs++row.drop (o+size))) })]) else none
    |none=>none
  |none=>none) else none
 |none=>none
def YD (size:Nat) (a x:V) (h:ak):Option (V×Upd):=match a with
 | .ptr b i o m=>stO (h b) b size i o m x h
 |_=>none
theorem a9y (size:Nat) (a x:Opd):ai C ow (.store size a x) ev h n=YD size (ev a) (ev x) h:=by
 simp only [ai,YD,stO]
 cases ev a with
 |ptr b i o m=>dsimp only;cases h b<;>rfl
 |_=>rfl
theorem a6k (size b i o m:Nat) (x:V):YD size (.ptr b i o m) x h=stO (h b) b size i o m x h:=rfl
theorem Xh (m b size o:Nat) (row:List V) (x:V):stO (some ⟨m,true,[row]⟩) b size 0 o 1 x h=
 br (Nat.beq x.cells.length size&&(Nat.ble (o+size) row.length&&x.cells.all V.cell)) (some (.undef,[(b,⟨m,true,[row.take o++(x.cells++row.drop (o+size))]⟩)])) none:=by
 rw [J5,JM]
 by_cases h1:x.cells.length=size<;>by_cases h2:o+size≤row.length<;>cases h3:x.cells.all V.cell<;>simp [stO,h1,h2,h3,br]
def stT (r:List (List V)) (m b size i o:Nat) (row:List V):Option (List V×List Nat)→Option (V×Upd)
 |some (cs,bs)=>br (Nat.beq cs.length size&&(Nat.ble (o+size) row.length&& !bs.contains b)) (some (.undef,eO bs++[(b,⟨m,false,vk r i (row.take o++(cs++row.drop (o+size)))⟩)])) none
 |none=>none
theorem Ug (r:List (List V)) (m b size i o:Nat) (row cs:List V) (bs:List Nat):stT r m b size i o row (some (cs,bs))=
 br (Nat.beq cs.length size&&(Nat.ble (o+size) row.length&& !bs.contains b)) (some (.undef,eO bs++[(b,⟨m,false,vk r i (row.take o++(cs++row.drop (o+size)))⟩)])) none:=rfl
theorem b2h (m b size i o q:Nat) (x:V) (hq:l.length=q):stO (some ⟨m,false,rws e l⟩) b size i o q x h=(l[i]?).bind (fun y=>stT (rws e l) m b size i o (e.enc y) (iw h x.cells)):=by
 simp only [stO]
 have:(rws e l).length=q:=by simp [rws,hq]
 rw [if_pos this]
 have h2:(rws e l)[i]? =(l[i]?).map e.enc:=by simp [rws]
 rw [h2]
 cases hl:l[i]? with
 |none=>rfl
 |some y=>
  simp only [Option.map_some,Option.bind_some]
  cases hs:iw h x.cells with
  |none=>simp [stT]
  |some p=>
   obtain ⟨cs,bs⟩:=p
   rw [Ug,J5,JM]
   by_cases h1:cs.length=size<;>by_cases h2:o+size≤(e.enc y).length<;>by_cases h3:b∈bs<;>simp [h1,h2,h3,br,vk]
def psC (i:Nat):Option (List V×List Nat)→Option (List (Nat×V)×List Nat)→Option (List (Nat×V)×List Nat)
 |some (cs,bs),some (r',bs')=>some ((i,.agg cs)::r',bs++bs')
 |_,_=>none
theorem Ps:cq h ev []=some ([],[]):=rfl
theorem KT (i:Nat) (x:Opd) (r:List (Nat×Opd)):cq h ev ((i,x)::r)=psC i (iw h (ev x).cells) (cq h ev r):=by
 simp only [cq,psC]
 cases iw h (ev x).cells<;>cases cq h ev r<;>rfl
theorem a78 (i:Nat) (cs:List V) (bs:List Nat) (r:List (Nat×V)) (bs':List Nat):psC i (some (cs,bs)) (some (r,bs'))=some ((i,.agg cs)::r,bs++bs'):=rfl
def FF (esz:Nat) (rows:List (List V)):List (Nat×V)→Option (List (List V))
 |[]=>some rows
 | (i,v)::r=>br (Nat.beq v.cells.length esz&&(Nat.blt i rows.length&&v.cells.all V.cell)) (FF esz (rows.set i v.cells) r) none
theorem Wx (esz:Nat): ∀(ps:List (Nat×V)) (rows:List (List V)),N5 esz rows ps=FF esz rows ps
 |[],_=>rfl
 | (i,v)::r,rows=>by
   simp only [N5,FF,J5,Dz]
   rw [←Wx esz r]
   by_cases h1:v.cells.length=esz<;>by_cases h2:i<rows.length<;>cases h3:v.cells.all V.cell<;>simp [h1,h2,br]
def YX (u0:Upd):Option (V×Upd)→Option (V×Upd)
 |some (v,u)=>some (v,u0++u)
 |none=>none
theorem a1Y (u0 u:Upd) (v:V):YX u0 (some (v,u))=some (v,u0++u):=rfl
theorem a8I (u0:Upd) (c:Bool) (x y:Option (V×Upd)):YX u0 (br c x y)=br c (YX u0 x) (YX u0 y):=by cases c<;>rfl
theorem a1Z (u0:Upd):YX u0 none=none:=rfl
def bsR (esz len:Nat) (zero:List Value) (bs:List Nat) (h:ak) (n:Nat):Option (List (List V))→Option (V×Upd)
 |some rows=>br (Nat.beq zero.length esz&&(zero.all aN&&(Nat.ble (len*esz) 16777216&& !bs.contains n))) (YX (eO bs) (frO (h n) n ⟨esz,false,mkR n rows⟩ (.sl n 0 len))) none
 |none=>none
def bsS (esz len:Nat) (zero:List Value) (h:ak) (n:Nat):Option (List (Nat×V)×List Nat)→Option (V×Upd)
 |some (ps,bs)=>bsR esz len zero bs h n (FF esz (List.replicate len (zero.map zc)) ps)
 |none=>none
theorem TY (esz len:Nat) (zero:List Value) (ps:List (Nat×Opd)):ai C ow (.buildSlice esz zero len ps) ev h n=bsS esz len zero h n (cq h ev ps):=by
 simp only [ai,bsS,Wx,w6]
 cases cq h ev ps with
 |none=>rfl
 |some p=>
  obtain ⟨qs,bs⟩:=p
  dsimp only
  cases FF esz (List.replicate len (zero.map zc)) qs with
  |none=>rfl
  |some rows=>
   simp only [bsR,J5,JM,mkR]
   by_cases h1:zero.length=esz<;>cases h2:zero.all aN<;>by_cases h3:len*esz≤16777216<;>by_cases h4:n∈bs<;>simp [h1,h3,h4,br]
   cases frO (h n) n ⟨esz,false,rows⟩ (.sl n 0 len)<;>rfl
theorem a4p (esz len:Nat) (zero:List Value) (ps:List (Nat×V)) (bs:List Nat):bsS esz len zero h n (some (ps,bs))=bsR esz len zero bs h n (FF esz (List.replicate len (zero.map zc)) ps):=rfl
theorem a7e (esz len:Nat) (zero:List Value) (bs:List Nat) (rows:List (List V)):bsR esz len zero bs h n (some rows)=br (Nat.beq zero.length esz&&(zero.all aN&&(Nat.ble (len*esz) 16777216&& !bs.contains n))) (YX (eO bs) (frO (h n) n ⟨esz,false,mkR n rows⟩ (.sl n 0 len))) none:=rfl
def tbS (x:V) (h:ak) (n:Nat):Option (V×Upd):=match x with
 | .lit (.string s)=>if s.size≤bq then iW h n ⟨1,false,s.data.toList.map fun b=>[.lit (.int .u8 b.toNat)]⟩ (.sl n 0 s.size) else none
 |_=>none
theorem a0I (x:Opd):ai C ow (.toBytes x) ev h n=tbS (ev x) h n:=rfl
theorem b6n (s:List UInt8):tbS (S s) h n=br (bW s.length 1) (frO (h n) n ⟨1,false,rws eU8 s⟩ (.sl n 0 s.length)) none:=by
 simp only [tbS,RK,bW,Nat.mul_one,w6]
 by_cases h1:s.length≤bq<;>simp [h1,br]
 rfl
def boS (x:V) (h:ak):Option (V×Upd):=match x with
 | .sl b s n=>match h b with
   |some k=>if k.op=false∧0<k.esz∧s+n=k.rows.length∧0<n then some (.sl b s n,[(b,k)]) else none
   |none=>none
 |_=>none
theorem XE (x:Opd):ai C ow (.bytesOwn x) ev h n=boS (ev x) h:=rfl
def boO (k:Option Blk) (b s n:Nat):Option (V×Upd):=match k with
 |some k=>if k.op=false∧0<k.esz∧s+n=k.rows.length∧0<n then some (.sl b s n,[(b,k)]) else none
 |none=>none
theorem a8Z (b s q:Nat):boS (.sl b s q) h=boO (h b) b s q:=rfl
theorem b3u (b m q:Nat) (h0:Nat.blt 0 m=true) (hq:l.length=q):boO (some ⟨m,false,rws e l⟩) b 0 q=br (decide (0<q)) (some (.sl b 0 q,[(b,⟨m,false,rws e l⟩)])) none:=by
 rw [Dz,decide_eq_true_eq] at h0
 by_cases h1:0<q<;>simp [boO,rws,hq,h0,h1,br]
theorem Uc (l:List UInt8):ai.bytesOf (rws eU8 l)=some l:=by
 induction l with
 |nil=>rfl
 |cons b l ih=>
  simp only [rws,List.map_cons,eU8] at ih ⊢
  simp only [ai.bytesOf]
  have h1:(0:Int)≤(b.toNat:Int)∧(b.toNat:Int)<256:=⟨by omega,by have:=b.toNat_lt;omega⟩
  rw [if_pos h1,ih]
  simp
def tsR:Option (List (List V))→Option (V×Upd)
 |some rows=>match ai.bytesOf rows with
  |some l=>some (.lit (.string ⟨l.toArray⟩),[])
  |none=>none
 |none=>none
def tsS (x:V) (h:ak):Option (V×Upd):=br (a0t x) none (tsR (ck h 1 x))
theorem a9m (x:Opd):ai C ow (.toStr x) ev h n=tsS (ev x) h:=by
 simp only [ai,tsS,tsR]
 cases a0t (ev x)
 ·simp only [Bool.false_eq_true,if_false,an]
  cases ck h 1 (ev x)<;>rfl
 ·rfl
theorem a4K (l:List UInt8):tsR (some (rws eU8 l))=some (S l,[]):=by
 simp only [tsR,Uc]
theorem b4J (l:List UInt8):tsS (sl eU8 l) h=some (S l,[]):=by
 rw [tsS,Vc,an,Qv 1 rfl,a4K]
def roO (k:Option Blk) (m s q:Nat):Option (List (List V)):=match k with
 |some k=>if k.op=false∧0<k.esz∧k.esz=m∧s+q=k.rows.length then some (k.rows.drop s) else none
 |none=>none
theorem Xi (m b s q:Nat):ck h m (.sl b s q)=roO (h b) m s q:=rfl
theorem b46 (m q:Nat) (h0:Nat.blt 0 m=true) (hq:l.length=q):roO (some ⟨m,false,rws e l⟩) m 0 q=some (rws e l):=by
 rw [Dz,decide_eq_true_eq] at h0
 simp [roO,rws,hq,h0]
theorem Y6 (s:List UInt8):ck h 1 (S s)=some (rws eU8 s):=rfl
theorem a85 (b s q:Nat):tsS (.sl b s q) h=tsR (roO (h b) 1 s q):=rfl
theorem b0e:tsS (.lit (.slice none 0 0)) h=some (S [],[]):=rfl
theorem b0y:tsS (.imm 1 []) h=some (S [],[]):=rfl
def b2Z (esz bytes:Nat) (zero:List Value) (len cap:V) (h:ak) (n:Nat):Option (V×Upd):=match asI len,asI cap with
 |some l,some c=>if 0≤l∧l≤c∧c*bytes≤bq∧c*esz≤bq∧zero.length=esz∧zero.all aN then
  iW h n ⟨esz,false,List.replicate l.toNat (zero.map zc)⟩ (.sl n 0 l.toNat) else none
 |_,_=>none
theorem Uv (esz bytes:Nat) (zero:List Value) (len cap:Opd):ai C ow (.makeSlice esz bytes zero len cap) ev h n=b2Z esz bytes zero (ev len) (ev cap) h n:=rfl
theorem b1R (esz bytes:Nat) (zero:List Value) (k k':IntKind) (a c:Int) (hb:Nat.ble esz bytes=true) (hz:Nat.beq zero.length esz=true) (hz2:zero.all aN=true):
 b2Z esz bytes zero (.lit (.int k a)) (.lit (.int k' c)) h n=br (tF a c bytes) (frO (h n) n ⟨esz,false,wi n a.toNat (zero.map zc)⟩ (.sl n 0 (a09 (wi n a.toNat (zero.map zc))))) none:=by
 have hz3:=Nat.eq_of_beq_eq_true hz
 have hb2:=Nat.le_of_ble_eq_true hb
 simp only [b2Z,asI,tF,hz3,hz2,w6,wi,a09,List.length_replicate]
 by_cases h1:0≤a<;>by_cases h2:a≤c<;>by_cases h3:c*bytes≤bq<;>simp [h1,h2,h3,br]
 intro h4
 exfalso
 have:c*esz≤c*bytes:=Int.mul_le_mul_of_nonneg_left (by omega) (by omega)
 omega
def slS (esz:Nat) (x:V) (lo hi mx:Option V) (h:ak):Option (V×Upd):=match mx with
 |some _=>none
 |none=>match x with
  | .lit (.slice none 0 0)=>match bJ hi 0 0 with
    |some q=>match bJ lo 0 q with
     |some _=>some (.lit (.slice none 0 0),[])
     |none=>none
    |none=>none
  | .sl b s n=>match h b with
    |some k=>if k.op=false∧0<k.esz∧k.esz=esz∧s+n=k.rows.length then (match bJ hi n n with
     |some q=>match bJ lo 0 q with
      |some p=>if q=n then some (.sl b (s+p) (n-p),[]) else some ((V.imm esz (((k.rows.drop s).take q).drop p)).cz,[(b,is)])
      |none=>none
     |none=>none) else none
    |none=>none
  | .imm e rows=>if e=esz∨rows=[] then (match bJ hi rows.length rows.length with
   |some q=>match bJ lo 0 q with
    |some p=>some ((V.imm e ((rows.take q).drop p)).cz,[])
    |none=>none
   |none=>none) else none
  |_=>none
theorem a8T (esz:Nat) (x:Opd) (lo hi:Option Opd):ai C ow (.slice esz x lo hi none) ev h n=slS esz (ev x) (lo.map ev) (hi.map ev) none h:=rfl
theorem Aw (d m:Nat):bJ none d m=some d:=rfl
theorem xz (k:IntKind) (i:Int) (d m:Nat):bJ (some (.lit (.int k i))) d m=if 0≤i∧i≤m then some i.toNat else none:=rfl
theorem Th (m:Nat) (hm:e.esz=m) (lo hi:Option V):slS m (sl e l) lo hi none h=(match bJ hi l.length l.length with
 |some q=>match bJ lo 0 q with
  |some p=>some (sl e ((l.take q).drop p),[])
  |none=>none
 |none=>none):=by
 subst hm
 rcases gw e l with ⟨rfl,hs⟩|⟨hne,hs⟩
 ·rw [hs]
  simp only [slS,List.length_nil,or_true,if_true]
  cases bJ hi 0 0 with
  |none=>rfl
  |some q=>cases bJ lo 0 q<;>simp [b2k,V.cz]
 ·rw [hs]
  simp only [slS,true_or,if_true,rws,List.length_map]
  cases bJ hi l.length l.length with
  |none=>rfl
  |some q=>cases bJ lo 0 q<;>simp [sl,rws, ←List.map_take, ←List.map_drop]
theorem b2G (m:Nat) (hm:e.esz=m) (k:IntKind) (a:Int):slS m (sl e l) (some (.lit (.int k a))) none none h=(ny l a l.length).bind (fun l'=>some (sl e l',[])):=by
 rw [Th m hm]
 simp only [Aw,xz,ny]
 by_cases h1:0≤a<;>by_cases h2:a≤(l.length:Int)<;>simp [h1,h2]
theorem b2K (m:Nat) (hm:e.esz=m) (k:IntKind) (b:Int):slS m (sl e l) none (some (.lit (.int k b))) none h=(ny l 0 b).bind (fun l'=>some (sl e l',[])):=by
 rw [Th m hm]
 simp only [Aw,xz,ny]
 by_cases h1:0≤b<;>by_cases h2:b≤(l.length:Int)<;>simp [h1,h2]
theorem b1O (m:Nat) (hm:e.esz=m) (k k':IntKind) (a b:Int):slS m (sl e l) (some (.lit (.int k a))) (some (.lit (.int k' b))) none h=(ny l a b).bind (fun l'=>some (sl e l',[])):=by
 rw [Th m hm]
 simp only [xz,ny]
 by_cases h1:0≤b<;>by_cases h2:b≤(l.length:Int)<;>by_cases h3:0≤a<;>by_cases h4:a≤b
 all_goals (have e1:((b.toNat:Nat):Int)=b∨ ¬0≤b:=by omega)
 all_goals (rcases e1 with e1|e1)
 all_goals (first|omega| (simp [h1,h2,h3,h4,e1];try omega))
def slO (k:Option Blk) (m b s q:Nat) (a:Int):Option (V×Upd):=match k with
 |some k=>if k.op=false∧0<k.esz∧k.esz=m∧s+q=k.rows.length then (if 0≤a∧a≤q then some (.sl b (s+a.toNat) (q-a.toNat),[]) else none) else none
 |none=>none
theorem b0m (m b s q:Nat) (k:IntKind) (a:Int):slS m (.sl b s q) (some (.lit (.int k a))) none none h=slO (h b) m b s q a:=by
 simp only [slS,slO,Aw,xz]
 cases h b with
 |none=>rfl
 |some k=>
  dsimp only
  split
  ·by_cases hc:0≤a∧a≤(q:Int)
   ·rw [if_pos hc,if_pos hc];simp
   ·rw [if_neg hc,if_neg hc]
  ·rfl
theorem b2M (m b s q:Nat) (a:Int) (h0:Nat.blt 0 m=true) (hq:s+q=l.length):slO (some ⟨m,false,rws e l⟩) m b s q a=br (decide (0≤a)&&decide (a≤q)) (some (.sl b (s+a.toNat) (q-a.toNat),[])) none:=by
 rw [Dz,decide_eq_true_eq] at h0
 by_cases h1:0≤a<;>by_cases h2:a≤(q:Int)<;>simp [slO,rws,hq,h0,h1,h2,br]
def ssS (x:V) (lo hi:Option V):Option (V×Upd):=match x with
 | .lit (.string s)=>match bJ hi s.size s.size with
   |some b=>match bJ lo 0 b with
    |some a=>some (.lit (.string (s.extract a b)),[])
    |none=>none
   |none=>none
 |_=>none
theorem YV (x:Opd) (lo hi:Option Opd):ai C ow (.sliceStr x lo hi) ev h n=ssS (ev x) (lo.map ev) (hi.map ev):=rfl
theorem Z0 (s:List UInt8) (a b:Nat):(⟨⟨s⟩⟩:ByteArray).extract a b=⟨⟨(s.take b).drop a⟩⟩:=by
 apply ByteArray.ext
 rw [ByteArray.data_extract]
 apply Array.ext'
 simp [List.extract_eq_take_drop,List.drop_take]
theorem TM (s:List UInt8) (lo hi:Option V):ssS (S s) lo hi=(match bJ hi s.length s.length with
 |some q=>match bJ lo 0 q with
  |some p=>some (S ((s.take q).drop p),[])
  |none=>none
 |none=>none):=by
 simp only [ssS,RK,Z0]
theorem b1Z (s:List UInt8) (k:IntKind) (a:Int):ssS (S s) (some (.lit (.int k a))) none=(ny s a s.length).bind (fun l'=>some (S l',[])):=by
 rw [TM]
 simp only [Aw,xz,ny]
 by_cases h1:0≤a<;>by_cases h2:a≤(s.length:Int)<;>simp [h1,h2]
theorem b3d (s:List UInt8) (k:IntKind) (b:Int):ssS (S s) none (some (.lit (.int k b)))=(ny s 0 b).bind (fun l'=>some (S l',[])):=by
 rw [TM]
 simp only [Aw,xz,ny]
 by_cases h1:0≤b<;>by_cases h2:b≤(s.length:Int)<;>simp [h1,h2]
theorem b2x (s:List UInt8) (k k':IntKind) (a b:Int):ssS (S s) (some (.lit (.int k a))) (some (.lit (.int k' b)))=(ny s a b).bind (fun l'=>some (S l',[])):=by
 rw [TM]
 simp only [xz,ny]
 by_cases h1:0≤b<;>by_cases h2:b≤(s.length:Int)<;>by_cases h3:0≤a<;>by_cases h4:a≤b
 all_goals (have e1:((b.toNat:Nat):Int)=b∨ ¬0≤b:=by omega)
 all_goals (rcases e1 with e1|e1)
 all_goals (first|omega| (simp [h1,h2,h3,h4,e1];try omega))
def apS (esz bytes:Nat) (zero:List Value) (x y:V) (h:ak) (n:Nat):Option (List (List V))→Option (V×Upd)
 |none=>none
 |some new_=>if zero.length=esz∧0<esz∧new_.length*bytes≤bq∧new_.length*esz≤bq then
  (match x with
  | .sl b 0 n=>match h b with
    |some k=>if k.op=false∧0<k.esz∧k.esz=esz∧n=k.rows.length∧(n+new_.length)*bytes≤bq∧(n+new_.length)*esz≤bq∧ai.selfOk b y then
     some (.sl b 0 (n+new_.length),[(b,{ k with rows:=k.rows++new_ })]) else none
    |none=>none
  | .lit (.slice none 0 0)=>iW h n ⟨esz,false,new_⟩ (.sl n 0 new_.length)
  | .imm 0 []=>iW h n ⟨esz,false,new_⟩ (.sl n 0 new_.length)
  |_=>none) else none
theorem a5m (esz bytes:Nat) (zero:List Value) (x y:Opd):ai C ow (.append esz bytes zero x y) ev h n=apS esz bytes zero (ev x) (ev y) h n (ck h esz (ev y)):=by
 simp only [ai]
 cases ck h esz (ev y) with
 |none=>rfl
 |some r=>rfl
def D0 (b:Nat) (y:V):Bool:=ai.selfOk b y
theorem a3v (b:Nat):D0 b (sl e l)=true:=by
 rcases gw e l with ⟨_,h⟩|⟨_,h⟩<;>rw [h]<;>rfl
theorem a2B (b b' s q:Nat):D0 b (.sl b' s q)=(b !=b'):=rfl
theorem a0L (b:Nat) (s:List UInt8):D0 b (S s)=true:=rfl
theorem a1K (b:Nat):D0 b (.lit (.slice none 0 0))=true:=rfl
theorem a35 (b m:Nat) (r:List (List V)):D0 b (.imm m r)=true:=rfl
def apO (k:Option Blk) (esz bytes:Nat) (zero:List Value) (b q:Nat) (sb:Bool) (new_:List (List V)):Option (V×Upd):=match k with
 |some k=>if zero.length=esz∧0<esz∧new_.length*bytes≤bq∧new_.length*esz≤bq then
  (if k.op=false∧0<k.esz∧k.esz=esz∧q=k.rows.length∧(q+new_.length)*bytes≤bq∧(q+new_.length)*esz≤bq∧sb=true then
        some (.sl b 0 (q+new_.length),[(b,{ k with rows:=k.rows++new_ })]) else none) else none
 |none=>none
theorem a8c (esz bytes:Nat) (zero:List Value) (b q:Nat) (y:V) (new_:List (List V)):apS esz bytes zero (.sl b 0 q) y h n (some new_)=apO (h b) esz bytes zero b q (D0 b y) new_:=by
 simp only [apS,apO,D0]
 cases h b with
 |none=>simp
 |some k=>rfl
theorem b3N (m bytes:Nat) (zero:List Value) (b q:Nat) (sb:Bool) (hz:Nat.beq zero.length m=true) (h0:Nat.blt 0 m=true) (hb:Nat.ble m bytes=true) (hq:l.length=q) (hs:sb=true):
 apO (some ⟨m,false,rws e l⟩) m bytes zero b q sb (rws e l2)=br (bW (l++l2).length bytes) (some (.sl b 0 (l++l2).length,[(b,⟨m,false,rws e (l++l2)⟩)])) none:=by
 have hz3:=Nat.eq_of_beq_eq_true hz
 have hb2:=Nat.le_of_ble_eq_true hb
 rw [Dz,decide_eq_true_eq] at h0
 subst hs hq
 simp only [apO,bW,rws,List.length_map,List.length_append,List.map_append]
 have e1:(l.length+l2.length)*m≤(l.length+l2.length)*bytes:=Nat.mul_le_mul_left _ hb2
 have e2:l2.length*bytes≤(l.length+l2.length)*bytes:=Nat.mul_le_mul_right _ (by omega)
 have e3:l2.length*m≤l2.length*bytes:=Nat.mul_le_mul_left _ hb2
 by_cases hf:(l.length+l2.length)*bytes≤bq
 ·rw [if_pos ⟨hz3,h0,by omega,by omega⟩,if_pos ⟨by trivial,h0,by trivial,by trivial,hf,by omega,by trivial⟩,decide_eq_true hf,bz]
 ·rw [decide_eq_false hf,an]
  split
  ·rw [if_neg (fun hc=>hf hc.2.2.2.2.1)]
  ·rfl
theorem b04 (m bytes:Nat) (zero:List Value) (y:V) (hz:Nat.beq zero.length m=true) (h0:Nat.blt 0 m=true) (hb:Nat.ble m bytes=true):
 apS m bytes zero (.lit (.slice none 0 0)) y h n (some (rws e l2))=br (bW l2.length bytes) (frO (h n) n ⟨m,false,rws e l2⟩ (.sl n 0 l2.length)) none:=by
 have hz3:=Nat.eq_of_beq_eq_true hz
 have hb2:=Nat.le_of_ble_eq_true hb
 rw [Dz,decide_eq_true_eq] at h0
 simp only [apS,bW,w6]
 have hl:(rws e l2).length=l2.length:=by simp [rws]
 rw [hl]
 have e3:l2.length*m≤l2.length*bytes:=Nat.mul_le_mul_left _ hb2
 by_cases hf:l2.length*bytes≤bq
 ·rw [if_pos ⟨hz3,h0,hf,by omega⟩,decide_eq_true hf,bz]
 ·rw [decide_eq_false hf,an,if_neg (fun hc=>hf hc.2.2.1)]
def wx (l:List α) (s k:Nat) (l2:List α):List α:=l.take s++(l2.take k++l.drop (s+k))
def b3z (esz bytes:Nat) (zero:List Value) (x y:V) (h:ak) (n:Nat):Option (V×Upd):=match asI y with
 |some l=>if 0≤l∧l≤1099511627776∧l*bytes≤1099511627776∧zero.all aN then DV esz bytes zero x (fun _=>true) h n (List.replicate l.toNat (zero.map zc)) else none
 |none=>none
theorem a1n (esz bytes:Nat) (zero:List Value) (x y:Opd):ai C ow (.appendN esz bytes zero x y) ev h n=b3z esz bytes zero (ev x) (ev y) h n:=rfl
theorem a42 (m bytes:Nat) (zero:List Value) (b q:Nat) (k:IntKind) (a:Int) (hz2:zero.all aN=true):
 b3z m bytes zero (.sl b 0 q) (.lit (.int k a)) h n=br (tF a a bytes&&decide (a≤1099511627776)) (apO (h b) m bytes zero b q true (wi n a.toNat (zero.map zc))) none:=by
 simp only [b3z,asI,tF,hz2,wi,bq]
 by_cases h1:0≤a<;>by_cases h2:a*bytes≤1099511627776<;>by_cases h3:a≤1099511627776<;>simp [h1,h2,h3,br]
 simp only [DV,apO]
 cases h b with
 |none=>simp
 |some kk=>rfl
def cpS (esz:Nat) (x y:V) (h:ak):Option (List (List V))→Option (V×Upd)
 |some rows=>match x with
  | .sl b s n=>match h b with
    |some k=>if k.op=false∧0<k.esz∧k.esz=esz∧s+n=k.rows.length∧ai.selfOk b y then
     some (.lit (.int .i64 (min rows.length n)),[(b,{ k with rows:=k.rows.take s++(rows.take (min rows.length n)++k.rows.drop (s+min rows.length n)) })]) else none
    |none=>none
  |_=>none
 |none=>none
theorem b2O (esz:Nat) (x y:Opd):ai C ow (.copy esz x y) ev h n=cpS esz (ev x) (ev y) h (ck h esz (ev y)):=by
 simp only [ai,cpS]
 cases ck h esz (ev y) with
 |none=>rfl
 |some r=>cases ev x<;>rfl
def cpO (k:Option Blk) (esz b s q:Nat) (sb:Bool) (rows:List (List V)):Option (V×Upd):=match k with
 |some k=>if k.op=false∧0<k.esz∧k.esz=esz∧s+q=k.rows.length∧sb=true then
  some (.lit (.int .i64 (min rows.length q)),[(b,{ k with rows:=k.rows.take s++(rows.take (min rows.length q)++k.rows.drop (s+min rows.length q)) })]) else none
 |none=>none
theorem a9Q (esz b s q:Nat) (y:V) (rows:List (List V)):cpS esz (.sl b s q) y h (some rows)=cpO (h b) esz b s q (D0 b y) rows:=by
 simp only [cpS,cpO,D0]
 cases h b<;>rfl
theorem b3W (m b s q:Nat) (sb:Bool) (h0:Nat.blt 0 m=true) (hs:sb=true):cpO (some ⟨m,false,rws e l⟩) m b s q sb (rws e l2)=
 br (decide (s+q=l.length)) (some (I (min (l2.length:Int) (q:Int)),[(b,⟨m,false,rws e (wx l s (min l2.length q) l2)⟩)])) none:=by
 rw [Dz,decide_eq_true_eq] at h0
 subst hs
 simp only [cpO]
 by_cases hq:s+q=l.length
 ·rw [if_pos ⟨by trivial,h0,by trivial,by simp [rws,hq],by trivial⟩,decide_eq_true hq,bz]
  simp [rws,wx,List.map_take,List.map_drop]
 ·rw [decide_eq_false hq,an,if_neg (fun hc=>hq (by simpa [rws] using hc.2.2.2.1))]
def ncS (x:V) (h:ak):Option (V×Upd):=match x with
 | .ptr b i o n=>match h b with
   |some k=>if k.rows.length=n∧i<n then some (.ptr b i o n,[]) else none
   |none=>none
 | .iptr r o=>some (.iptr r o,[])
 | .fn f c=>some (.fn f c,[])
 |_=>none
theorem Yl (x:Opd):ai C ow (.nilCheck x) ev h n=ncS (ev x) h:=by
 simp only [ai,ncS]
 cases ev x<;>rfl
def ncO (k:Option Blk) (b i o m:Nat):Option (V×Upd):=match k with
 |some k=>if k.rows.length=m∧i<m then some (.ptr b i o m,[]) else none
 |none=>none
theorem b5z (b i o m:Nat):ncS (.ptr b i o m) h=ncO (h b) b i o m:=rfl
theorem b4C (b o m:Nat) (row:List V):ncO (some ⟨m,true,[row]⟩) b 0 o 1=some (.ptr b 0 o 1,[]):=rfl
theorem b5t (r:List V) (o:Nat):ncS (.iptr r o) h=some (.iptr r o,[]):=rfl
theorem b6c (f:FuncId) (c:List V):ncS (.fn f c) h=some (.fn f c,[]):=rfl
def mxS (x y:V):Option (V×Upd):=match x,y with
 | .lit (.int k a),.lit (.int _ b)=>some (.lit (.int k (if b>a then b else a)),[])
 |_,_=>none
theorem b4V (x y:Opd):ai C ow (.max2 x y) ev h n=mxS (ev x) (ev y):=by
 simp only [ai,mxS]
 cases ev x<;>cases ev y<;>rfl
theorem b5Y (k k':IntKind) (a b:Int):mxS (.lit (.int k a)) (.lit (.int k' b))=some (.lit (.int k (mx a b)),[]):=rfl
def mnS (x y:V):Option (V×Upd):=match x,y with
 | .lit (.int k a),.lit (.int _ b)=>some (.lit (.int k (if b<a then b else a)),[])
 |_,_=>none
theorem b3J (x y:Opd):ai C ow (.min2 x y) ev h n=mnS (ev x) (ev y):=by
 simp only [ai,mnS]
 cases ev x<;>cases ev y<;>rfl
theorem b6q (k k':IntKind) (a b:Int):mnS (.lit (.int k a)) (.lit (.int k' b))=some (.lit (.int k (mn a b)),[]):=rfl
def FY (h:ak) (new:Nat) (ids bor:List Nat):Option (V×List Blk)→Option (V×Upd)
 |some (r,bs)=>wU h new ids bor r bs
 |none=>none
def FS (C:aU) (ow:FuncId→List Nat) (h:ak) (new:Nat) (f:FuncId):Option (List V×List Blk×List Nat×List Nat)→Option (V×Upd)
 |some (args',blks,ids,bor)=>FY h new ids bor (C f (oh (ow f) args') (nL (ow f) blks))
 |none=>none
theorem Q9 (f:FuncId) (args:List V):iJ C ow h n f args=FS C ow h n f (cK ow h f args):=by
 unfold iJ FS FY
 cases cK ow h f args with
 |none=>rfl
 |some p=>obtain ⟨a,b,c,d⟩:=p;dsimp only;cases C f (oh (ow f) a) (nL (ow f) b)<;>rfl
theorem b4f (f:FuncId) (args:List Opd):ai C ow (.call f args) ev h n=FS C ow h n f (cK ow h f (args.map ev)):=Q9 _ _
def b4r (C:aU) (ow:FuncId→List Nat) (h:ak) (n:Nat) (args:List V):V→Option (V×Upd)
 | .fn k caps=>FS C ow h n k (cK ow h k (args++caps))
 |_=>none
theorem b6l (f:Opd) (args:List Opd):ai C ow (.dyn f args) ev h n=b4r C ow h n (args.map ev) (ev f):=by
 simp only [ai,b4r]
 cases ev f<;>first|rfl|exact Q9 _ _
theorem a8r (args:List V) (k:FuncId) (caps:List V):b4r C ow h n args (.fn k caps)=FS C ow h n k (cK ow h k (args++caps)):=rfl
theorem YJ (f:FuncId) (a:List V) (b:List Blk) (c d:List Nat):FS C ow h n f (some (a,b,c,d))=FY h n c d (C f (oh (ow f) a) (nL (ow f) b)):=rfl
theorem a60 (f:FuncId) (c:Bool) (x y:Option (List V×List Blk×List Nat×List Nat)):FS C ow h n f (br c x y)=br c (FS C ow h n f x) (FS C ow h n f y):=by cases c<;>rfl
def a0b (args':List V) (bor:List Nat):Option (List Blk×List Nat)→Option (List V×List Blk×List Nat×List Nat)
 |some (blks,ids)=>br (bor.any (fun b=>decide (b∈ids))) none (some (args',blks,ids,bor))
 |none=>none
def a6P (h:ak):Option (List V×List Nat×List Nat)→Option (List V×List Blk×List Nat×List Nat)
 |some (args',ids0,bor)=>a0b args' bor (cY h 40 0 ids0)
 |none=>none
theorem VL (f:FuncId) (args:List V):cK ow h f args=a6P h (fA h (ow f) 0 [] args):=by
 unfold cK a6P a0b
 cases fA h (ow f) 0 [] args with
 |none=>rfl
 |some p=>
  obtain ⟨a,i,b⟩:=p
  dsimp only
  cases cY h 40 0 i with
  |none=>rfl
  |some q=>
   obtain ⟨bl,ids⟩:=q
   dsimp only
   cases hb:b.any (fun b=>decide (b∈ids))<;>simp [br]
theorem Y3 (a:List V) (i b:List Nat):a6P h (some (a,i,b))=a0b a b (cY h 40 0 i):=rfl
theorem Yx (a:List V) (b:List Nat) (bl:List Blk) (ids:List Nat):a0b a b (some (bl,ids))=br (b.any (fun b=>decide (b∈ids))) none (some (a,bl,ids,b)):=rfl
def la2 (v':V) (bs:List Nat):Option (List V×List Nat×List Nat)→Option (List V×List Nat×List Nat)
 |some (r',ids'',bs')=>some (v'::r',ids'',bs++bs')
 |none=>none
def la1 (h:ak) (owns:List Nat) (j:Nat) (r:List V):Option (V×List Nat×List Nat)→Option (List V×List Nat×List Nat)
 |some (v',ids',bs)=>la2 v' bs (fA h owns (j+1) ids' r)
 |none=>none
theorem WN (owns:List Nat) (j:Nat) (ids:List Nat):fA h owns j ids []=some ([],ids,[]):=rfl
theorem SW (owns:List Nat) (j:Nat) (ids:List Nat) (v:V) (r:List V):fA h owns j ids (v::r)=la1 h owns j r (cW h (owns.contains j) ids v):=by
 have:decide (j∈owns)=owns.contains j:=by simp [List.contains_iff_mem,Bool.eq_iff_iff]
 simp only [fA,la1,la2,this]
 cases cW h (owns.contains j) ids v with
 |none=>rfl
 |some p=>obtain ⟨a,b,c⟩:=p;dsimp only;cases fA h owns (j+1) b r<;>rfl
theorem a4I (owns:List Nat) (j:Nat) (r:List V) (v':V) (ids' bs:List Nat):la1 h owns j r (some (v',ids',bs))=la2 v' bs (fA h owns (j+1) ids' r):=rfl
theorem a7C (v':V) (bs:List Nat) (r':List V) (i b:List Nat):la2 v' bs (some (r',i,b))=some (v'::r',i,bs++b):=rfl
def lcP (k:Option Blk) (ids:List Nat) (b i o m:Nat):Option (V×List Nat×List Nat):=match k with
 |some k=>if k.rows.length=m then some (.ptr (jV b (ft ids b)) i o m,ft ids b,[]) else none
 |none=>none
def lcO (k:Option Blk) (own:Bool) (ids:List Nat) (b s q:Nat):Option (V×List Nat×List Nat):=match k with
 |some k=>if s+q=k.rows.length then
  (if own then some (.sl (jV b (ft ids b)) s q,ft ids b,[]) else if k.op=false∧0<k.esz then some (.imm k.esz (k.rows.drop s),ids,[b]) else none) else none
 |none=>none
theorem a4T (own:Bool) (ids:List Nat) (v:Value):bY h own ids (.lit v)=some (.lit v,ids,[]):=rfl
theorem b3k (own:Bool) (ids:List Nat) (m:Nat) (r:List (List V)):bY h own ids (.imm m r)=some (.imm m r,ids,[]):=rfl
theorem a91 (own:Bool) (ids:List Nat) (r:List V) (o:Nat):bY h own ids (.iptr r o)=some (.iptr r o,ids,[]):=rfl
theorem b6a (own:Bool) (ids:List Nat) (f:FuncId):bY h own ids (.fn f [])=some (.fn f [],ids,[]):=rfl
theorem a51 (own:Bool) (ids:List Nat):bY h own ids .undef=some (.undef,ids,[]):=rfl
theorem b2n (own:Bool) (ids:List Nat) (b i o m:Nat):bY h own ids (.ptr b i o m)=lcP (h b) ids b i o m:=rfl
theorem b42 (own:Bool) (ids:List Nat) (b s q:Nat):bY h own ids (.sl b s q)=lcO (h b) own ids b s q:=rfl
theorem a6f (own:Bool) (ids:List Nat) (v:Value):cW h own ids (.lit v)=some (.lit v,ids,[]):=rfl
theorem b1Y (own:Bool) (ids:List Nat) (m:Nat) (r:List (List V)):cW h own ids (.imm m r)=some (.imm m r,ids,[]):=rfl
theorem b1a (own:Bool) (ids:List Nat) (r:List V) (o:Nat):cW h own ids (.iptr r o)=some (.iptr r o,ids,[]):=rfl
theorem b4h (own:Bool) (ids:List Nat) (b i o m:Nat):cW h own ids (.ptr b i o m)=lcP (h b) ids b i o m:=rfl
theorem b3Y (own:Bool) (ids:List Nat) (b s q:Nat):cW h own ids (.sl b s q)=lcO (h b) own ids b s q:=rfl
def lcA (mk:List V→V):Option (List V×List Nat×List Nat)→Option (V×List Nat×List Nat)
 |some (cs',ids',bs)=>some (mk cs',ids',bs)
 |none=>none
theorem b4O (own:Bool) (ids:List Nat) (cs:List V):cW h own ids (.agg cs)=lcA V.agg (cy h own ids cs):=by
 simp only [cW,lcA]
 cases cy h own ids cs<;>rfl
theorem b6g (own:Bool) (ids:List Nat) (f:FuncId) (cs:List V):cW h own ids (.fn f cs)=lcA (V.fn f) (cy h true ids cs):=by
 simp only [cW,lcA]
 cases cy h true ids cs<;>rfl
theorem a6M (mk:List V→V) (cs:List V) (i b:List Nat):lcA mk (some (cs,i,b))=some (mk cs,i,b):=rfl
def b2c (h:ak) (own:Bool) (r:List V):Option (V×List Nat×List Nat)→Option (List V×List Nat×List Nat)
 |some (v',ids',bs)=>la2 v' bs (cy h own ids' r)
 |none=>none
theorem TN (own:Bool) (ids:List Nat):cy h own ids []=some ([],ids,[]):=rfl
theorem CF (own:Bool) (ids:List Nat) (v:V) (r:List V):cy h own ids (v::r)=b2c h own r (bY h own ids v):=by
 simp only [cy,b2c,la2]
 cases bY h own ids v with
 |none=>rfl
 |some p=>obtain ⟨a,b,c⟩:=p;dsimp only;cases cy h own b r<;>rfl
theorem Qi (own:Bool) (r:List V) (v':V) (ids' bs:List Nat):b2c h own r (some (v',ids',bs))=la2 v' bs (cy h own ids' r):=rfl
theorem b4S (ids:List Nat) (b o m:Nat) (row:List V):lcP (some ⟨m,true,[row]⟩) ids b 0 o 1=some (.ptr (jV b (ft ids b)) 0 o 1,ft ids b,[]):=rfl
theorem b58 (m:Nat) (ids:List Nat) (b s q:Nat) (hq:s+q=l.length):lcO (some ⟨m,false,rws e l⟩) true ids b s q=some (.sl (jV b (ft ids b)) s q,ft ids b,[]):=by
 simp [lcO,rws,hq]
theorem b6v (m:Nat) (ids:List Nat) (b q:Nat) (h0:Nat.blt 0 m=true) (hq:l.length=q):lcO (some ⟨m,false,rws e l⟩) false ids b 0 q=some (.imm m (rws e l),ids,[b]):=by
 rw [Dz,decide_eq_true_eq] at h0
 simp [lcO,rws,hq,h0]
def lb2 (k:Blk):Option (List Blk×List Nat)→Option (List Blk×List Nat)
 |some (r,ids')=>some (k::r,ids')
 |none=>none
def ld2 (v':V):Option (List V×List Nat)→Option (List V×List Nat)
 |some (r',i)=>some (v'::r',i)
 |none=>none
def ld1 (h:ak) (r:List V):Option (V×List Nat×List Nat)→Option (List V×List Nat)
 |some (v',ids',_)=>ld2 v' (lK h ids' r)
 |none=>none
theorem a1f (ids:List Nat):lK h ids []=some ([],ids):=rfl
theorem No (ids:List Nat) (v:V) (r:List V):lK h ids (v::r)=ld1 h r (cW h true ids v):=by
 simp only [lK,ld1,ld2]
 cases cW h true ids v with
 |none=>rfl
 |some p=>obtain ⟨a,b,c⟩:=p;dsimp only;cases lK h b r<;>rfl
theorem Wa (r:List V) (v':V) (ids' bs:List Nat):ld1 h r (some (v',ids',bs))=ld2 v' (lK h ids' r):=rfl
theorem a5S (v':V) (r':List V) (i:List Nat):ld2 v' (some (r',i))=some (v'::r',i):=rfl
def lb1 (h:ak) (fuel pos m:Nat):Option (List V×List Nat)→Option (List Blk×List Nat)
 |some (row,ids1)=>lb2 ⟨m,true,[row]⟩ (cY h fuel (pos+1) ids1)
 |none=>none
def lb0 (h:ak) (fuel pos:Nat) (ids:List Nat):Option Blk→Option (List Blk×List Nat)
 |some k=>if k.op=false then lb2 k (cY h fuel (pos+1) ids) else (match jh h ids k.rows with
  |none=>none
  |some (rows,ids1)=>lb2 { k with rows:=rows } (cY h fuel (pos+1) ids1))
 |none=>none
def lbN (h:ak) (fuel pos:Nat) (ids:List Nat):Option Nat→Option (List Blk×List Nat)
 |none=>some ([],ids)
 |some b=>lb0 h fuel pos ids (h b)
theorem Zj (fuel pos:Nat) (ids:List Nat):cY h (fuel+1) pos ids=lbN h fuel pos ids ids[pos]? :=by
 simp only [cY,lbN,lb0]
 cases ids[pos]? with
 |none=>rfl
 |some b=>
  dsimp only
  cases h b with
  |none=>rfl
  |some k=>
   dsimp only
   split
   ·cases cY h fuel (pos+1) ids<;>rfl
   ·cases jh h ids k.rows with
    |none=>rfl
    |some p=>obtain ⟨rows,ids1⟩:=p;dsimp only;cases cY h fuel (pos+1) ids1<;>rfl
theorem a6g (fuel pos:Nat) (ids:List Nat):lbN h fuel pos ids none=some ([],ids):=rfl
theorem a4n (fuel pos:Nat) (ids:List Nat) (b:Nat):lbN h fuel pos ids (some b)=lb0 h fuel pos ids (h b):=rfl
theorem b2v (fuel pos:Nat) (ids:List Nat) (m:Nat) (r:List (List V)):lb0 h fuel pos ids (some ⟨m,false,r⟩)=lb2 ⟨m,false,r⟩ (cY h fuel (pos+1) ids):=rfl
theorem b2Q (fuel pos:Nat) (ids:List Nat) (m:Nat) (row:List V):lb0 h fuel pos ids (some ⟨m,true,[row]⟩)=lb1 h fuel pos m (lK h ids row):=by
 simp only [lb0,jh,lb1]
 cases lK h ids row with
 |none=>rfl
 |some p=>obtain ⟨a,b⟩:=p;rfl
theorem a3K (fuel pos m:Nat) (row:List V) (ids1:List Nat):lb1 h fuel pos m (some (row,ids1))=lb2 ⟨m,true,[row]⟩ (cY h fuel (pos+1) ids1):=rfl
theorem a3z (k:Blk) (r:List Blk) (ids:List Nat):lb2 k (some (r,ids))=some (k::r,ids):=rfl
theorem b5e (n:Nat):di [] [] n=[]:=rfl
theorem b64 (k:Blk) (r:List Blk) (n:Nat):di [] (k::r) n=n::di [] r (n+1000000):=rfl
theorem b5a (i:Nat) (ids:List Nat) (k:Blk) (r:List Blk) (n:Nat):di (i::ids) (k::r) n=di ids r n:=rfl
def cpw (new:Nat) (ids bor:List Nat) (r:V) (bs:List Blk) (ns:List Nat):Option (V×Upd):=some (yG (ids++ns) r,iK (ids++ns) (bs.map (gQ (ids++ns)))++br (bor.isEmpty||(oQ r&&bs.all wE)) [] (eO bor))
theorem b32 (new:Nat) (ids bor:List Nat) (r:V) (bs:List Blk) (ns:List Nat):cpw new ids bor r bs ns=some (yG (ids++ns) r,iK (ids++ns) (bs.map (gQ (ids++ns)))++br (bor.isEmpty||(oQ r&&bs.all wE)) [] (eO bor)):=rfl
theorem XR (new:Nat) (ids bor:List Nat) (r:V) (bs:List Blk):FY h new ids bor (some (r,bs))=
 br (Nat.ble ids.length bs.length&&(di ids bs new).all (fun b=>(h b).isNone)) (cpw new ids bor r bs (di ids bs new)) none:=by
 simp only [FY,wU,cpw,JM]
 generalize (di ids bs new).all (fun b=>(h b).isNone)=c3
 generalize (bor.isEmpty||(oQ r&&bs.all wE))=c4
 by_cases h1:ids.length≤bs.length
 ·rw [decide_eq_true h1];cases c3<;>cases c4<;>simp [h1,br]
 ·rw [decide_eq_false h1];cases c3<;>cases c4<;>simp [h1,br]
theorem a0P (ids:List Nat) (vs:List V):yG ids (.tup vs)= .tup (vs.map (k9 ids)):=rfl
theorem a1v (ids:List Nat) (vs:List V):yG ids (.agg vs)= .agg (vs.map (unV ids)):=rfl
theorem a1E (ids:List Nat) (v:Value):yG ids (.lit v)= .lit v:=rfl
theorem a1X (ids:List Nat) (m:Nat) (r:List (List V)):yG ids (.imm m r)= .imm m r:=rfl
theorem Wb (ids:List Nat):yG ids .undef= .undef:=rfl
theorem a1h (ids:List Nat) (b i o m:Nat):yG ids (.ptr b i o m)= .ptr (ids.getD b 0) i o m:=rfl
theorem a0U (ids:List Nat) (b s q:Nat):yG ids (.sl b s q)= .sl (ids.getD b 0) s q:=rfl
theorem a1m (ids:List Nat) (vs:List V):k9 ids (.agg vs)= .agg (vs.map (unV ids)):=rfl
theorem a1G (ids:List Nat) (v:Value):k9 ids (.lit v)= .lit v:=rfl
theorem a1q (ids:List Nat) (m:Nat) (r:List (List V)):k9 ids (.imm m r)= .imm m r:=rfl
theorem a0A (ids:List Nat) (b i o m:Nat):k9 ids (.ptr b i o m)= .ptr (ids.getD b 0) i o m:=rfl
theorem a2p (ids:List Nat) (b s q:Nat):k9 ids (.sl b s q)= .sl (ids.getD b 0) s q:=rfl
theorem b1o (ids:List Nat) (v:Value):unV ids (.lit v)= .lit v:=rfl
theorem b4t (ids:List Nat) (f:FuncId) (cs:List V):unV ids (.fn f cs)= .fn f cs:=rfl
theorem a6U (ids:List Nat) (f:FuncId) (cs:List V):k9 ids (.fn f cs)= .fn f (cs.map (unV ids)):=rfl
theorem b1q (ids:List Nat) (m:Nat) (r:List (List V)):unV ids (.imm m r)= .imm m r:=rfl
theorem b0w (ids:List Nat) (b i o m:Nat):unV ids (.ptr b i o m)= .ptr (ids.getD b 0) i o m:=rfl
theorem a8v (ids:List Nat) (b s q:Nat):unV ids (.sl b s q)= .sl (ids.getD b 0) s q:=rfl
theorem a7a (ids:List Nat) (m:Nat) (r:List (List V)):gQ ids ⟨m,false,r⟩=⟨m,false,r⟩:=rfl
theorem a2M (ids:List Nat) (m:Nat) (row:List V):gQ ids ⟨m,true,[row]⟩=⟨m,true,[row.map (k9 ids)]⟩:=rfl
theorem b4L (v:Value):oQ (.lit v)=true:=rfl
theorem a64:oQ .undef=true:=rfl
theorem b4G (m:Nat) (r:List (List V)):oQ (.imm m r)=false:=rfl
theorem b4A (vs:List V):oQ (.agg vs)=vs.all mu:=rfl
theorem b3s (vs:List V):oQ (.tup vs)=vs.all B4:=rfl
theorem b29 (b i o m:Nat):oQ (.ptr b i o m)=true:=rfl
theorem b34 (b s q:Nat):oQ (.sl b s q)=true:=rfl
theorem a9x (v:Value):B4 (.lit v)=true:=rfl
theorem a98 (m:Nat) (r:List (List V)):B4 (.imm m r)=false:=rfl
theorem b0Z (vs:List V):B4 (.agg vs)=vs.all mu:=rfl
theorem a8f (b i o m:Nat):B4 (.ptr b i o m)=true:=rfl
theorem a8L (b s q:Nat):B4 (.sl b s q)=true:=rfl
theorem a9A (v:Value):mu (.lit v)=true:=rfl
theorem b2a (f:FuncId) (cs:List V):mu (.fn f cs)=false:=rfl
theorem b31 (f:FuncId) (cs:List V):B4 (.fn f cs)=false:=rfl
theorem b68 (f:FuncId) (cs:List V):oQ (.fn f cs)=false:=rfl
theorem b0M (m:Nat) (r:List (List V)):mu (.imm m r)=false:=rfl
theorem a97 (b i o m:Nat):mu (.ptr b i o m)=true:=rfl
theorem a9n (b s q:Nat):mu (.sl b s q)=true:=rfl
theorem b3D (m:Nat) (r:List (List V)):wE ⟨m,false,r⟩=false:=rfl
theorem b3i (m:Nat) (row:List V):wE ⟨m,true,[row]⟩=row.all mu:=by simp [wE]
def b0P (raw:Bool) (m:Nat):Option (List V)→Option (List Blk)→Option (V×List Blk)
 |some vs',some bs=>br (Nat.ble m 1000) (some ((Zi vs').czR,br raw bs (bs.map Blk.cz))) none
 |_,_=>none
def W7 (keep raw:Bool) (m:Nat) (h:ak):Option (List V)→Option (V×List Blk)
 |some vs=>b0P raw m (ug h m (br keep (ip raw h m vs) []) vs) (tl h m (br keep (ip raw h m vs) []) (List.range m++(br keep (ip raw h m vs) [])))
 |none=>none
theorem ZL (nt:Nat) (body:ae) (res:List GE) (keep raw:Bool) (m:Nat) (st:St) (x:ah) (hx:x= .ret∨x= .normal):Z1 ⟨nt,body,res,keep,raw⟩ m x st=W7 keep raw m st.heap (iN st res):=by
 have hk: ∀vs:List V,(if keep=true then ip raw st.heap m vs else [])=br keep (ip raw st.heap m vs) []:=fun vs=>by cases keep<;>rfl
 have:Z1 ⟨nt,body,res,keep,raw⟩ m x st=Z1 ⟨nt,body,res,keep,raw⟩ m .ret st:=by rcases hx with rfl|rfl<;>rfl
 rw [this]
 simp only [Z1,jN,W7,b0P,UP,hk,JM]
 cases iN st res with
 |none=>rfl
 |some vs=>
  dsimp only
  cases ug st.heap m (br keep (ip raw st.heap m vs) []) vs with
  |none=>rfl
  |some vs'=>
   cases tl st.heap m (br keep (ip raw st.heap m vs) []) (List.range m++(br keep (ip raw st.heap m vs) [])) with
   |none=>rfl
   |some bs=>by_cases h1:m≤1000<;>cases raw<;>simp [h1,br]
theorem a56 (nt:Nat) (body:ae) (res:List GE) (keep raw:Bool) (m:Nat) (st:St):Z1 ⟨nt,body,res,keep,raw⟩ m .ret st=W7 keep raw m st.heap (iN st res):=ZL _ _ _ _ _ _ _ _ (.inl rfl)
theorem UN (nt:Nat) (body:ae) (res:List GE) (keep raw:Bool) (m:Nat) (st:St):Z1 ⟨nt,body,res,keep,raw⟩ m .normal st=W7 keep raw m st.heap (iN st res):=ZL _ _ _ _ _ _ _ _ (.inr rfl)
theorem a1S (keep raw:Bool) (m:Nat) (vs:List V):W7 keep raw m h (some vs)=b0P raw m (ug h m (br keep (ip raw h m vs) []) vs) (tl h m (br keep (ip raw h m vs) []) (List.range m++(br keep (ip raw h m vs) []))):=rfl
theorem a0K (raw:Bool) (m:Nat) (vs:List V) (bs:List Blk):b0P raw m (some vs) (some bs)=br (Nat.ble m 1000) (some ((Zi vs).czR,br raw bs (bs.map Blk.cz))) none:=rfl
def rs1:Option V→Option (List V)→Option (List V)
 |some v,some vs=>some (v::vs)
 |_,_=>none
theorem a5h (st:St):iN st []=some []:=rfl
theorem a0W (st:St) (r:GE) (rs:List GE):iN st (r::rs)=rs1 (IE st r) (iN st rs):=by
 simp only [iN,rs1]
 cases IE st r<;>cases iN st rs<;>rfl
theorem a4r (v:V) (vs:List V):rs1 (some v) (some vs)=some (v::vs):=rfl
theorem a90 (st:St) (t:Nat):IE st (.tmp t)=some (st.get t):=rfl
theorem a6y (st:St) (t:Nat) (g:Option Nat):IE st (.cell t g)=sn g st.heap (st.get t):=rfl
def b70:Option V→Option (List V)→Option (List V)
 |some v,some vs=>some (v::vs)
 |_,_=>none
theorem a2G (m:Nat) (kp:List Nat):ug h m kp []=some []:=rfl
theorem Xc (m:Nat) (kp:List Nat) (v:V) (r:List V):ug h m kp (v::r)=rs1 (Du h m kp v) (ug h m kp r):=by
 simp only [ug,rs1]
 cases Du h m kp v<;>cases ug h m kp r<;>rfl
theorem a0N (m:Nat) (kp:List Nat):q8 h m kp []=some []:=rfl
theorem KQ (m:Nat) (kp:List Nat) (v:V) (r:List V):q8 h m kp (v::r)=rs1 (ni h m kp v) (q8 h m kp r):=by
 simp only [q8,rs1]
 cases ni h m kp v<;>cases q8 h m kp r<;>rfl
def fag:Option (List V)→Option V
 |some cs=>some (.agg cs)
 |none=>none
theorem a7f (m:Nat) (kp:List Nat) (cs:List V):Du h m kp (.agg cs)=fag (q8 h m kp cs):=by
 simp only [Du,fag]
 cases q8 h m kp cs<;>rfl
theorem a7k (cs:List V):fag (some cs)=some (.agg cs):=rfl
theorem a5R (m:Nat) (kp:List Nat) (v:Value):Du h m kp (.lit v)=some (.lit v):=rfl
theorem a4w (m:Nat) (kp:List Nat) (q:Nat) (r:List (List V)):Du h m kp (.imm q r)=some (.imm q r):=rfl
theorem Y5 (m:Nat) (kp:List Nat):Du h m kp .undef=some .undef:=rfl
theorem a8h (m:Nat) (kp:List Nat) (f:FuncId):Du h m kp (.fn f [])=some (.fn f []):=rfl
theorem a7v (m:Nat) (kp:List Nat) (v:Value):ni h m kp (.lit v)=some (.lit v):=rfl
theorem a7E (m:Nat) (kp:List Nat) (q:Nat) (r:List (List V)):ni h m kp (.imm q r)=some (.imm q r):=rfl
theorem a7U (m:Nat) (kp:List Nat) (f:FuncId):ni h m kp (.fn f [])=some (.fn f []):=rfl
theorem Yb (m:Nat) (kp:List Nat):ni h m kp .undef=some .undef:=rfl
def a7Y:Option (V×List Nat)→Option V
 |some (v,_)=>some v
 |none=>none
def fcO (h:ak) (m:Nat) (kp:List Nat) (b s q:Nat):Option V:=br (Nat.blt b m) (some (.sl b s q)) (br (kp.contains b) (some (.sl (m+jV b kp) s q)) (a7Y (kP h (.sl b s q))))
theorem Ma (m:Nat) (kp:List Nat) (b s q:Nat):ni h m kp (.sl b s q)=fcO h m kp b s q:=by
 simp only [ni,fcO,Dz,a7Y]
 by_cases h1:b<m
 ·simp [h1,br]
 ·by_cases h2:b∈kp
  ·simp [h1,h2,br]
  ·have:kp.contains b=false:=by simpa using h2
   simp only [h1,h2,this,if_false,decide_false,an]
   cases kP h (.sl b s q)<;>rfl
theorem a71 (m:Nat) (kp:List Nat) (b s q:Nat):Du h m kp (.sl b s q)=fcO h m kp b s q:=Ma m kp b s q
theorem b3Z (m:Nat) (kp:List Nat) (b s q:Nat):fcO h m kp b s q=br (Nat.blt b m) (some (.sl b s q)) (br (kp.contains b) (some (.sl (m+jV b kp) s q)) (a7Y (kP h (.sl b s q)))):=rfl
theorem a1U (v:V) (bs:List Nat):a7Y (some (v,bs))=some v:=rfl
def fcP (m:Nat) (kp:List Nat) (b i o q:Nat):Option V:=br (Nat.blt b m) (some (.ptr b i o q)) (br (kp.contains b) (some (.ptr (m+jV b kp) i o q)) none)
theorem Lq (m:Nat) (kp:List Nat) (b i o q:Nat):ni h m kp (.ptr b i o q)=fcP m kp b i o q:=by
 simp only [ni,fcP,Dz]
 by_cases h1:b<m
 ·simp [h1,br]
 ·by_cases h2:b∈kp
  ·simp [h1,h2,br]
  ·have:kp.contains b=false:=by simpa using h2
   simp [h1,h2,this,br]
theorem a4x (m:Nat) (kp:List Nat) (b i o q:Nat):Du h m kp (.ptr b i o q)=fcP m kp b i o q:=Lq (h:=h) m kp b i o q
theorem b2u (m:Nat) (kp:List Nat) (b i o q:Nat):fcP m kp b i o q=br (Nat.blt b m) (some (.ptr b i o q)) (br (kp.contains b) (some (.ptr (m+jV b kp) i o q)) none):=rfl
def fb2:Option Blk→Option (List Blk)→Option (List Blk)
 |some k,some r=>some (k::r)
 |_,_=>none
def fb1 (h:ak) (m:Nat) (kp r:List Nat):Option Blk→Option (List Blk)
 |some k=>fb2 (SP h m kp k) (tl h m kp r)
 |none=>none
theorem a0E (m:Nat) (kp:List Nat):tl h m kp []=some []:=rfl
theorem Xm (m:Nat) (kp:List Nat) (b:Nat) (r:List Nat):tl h m kp (b::r)=fb1 h m kp r (h b):=by
 simp only [tl,fb1,fb2]
 cases h b with
 |none=>rfl
 |some k=>dsimp only;cases SP h m kp k<;>cases tl h m kp r<;>rfl
theorem a4O (m:Nat) (kp r:List Nat) (k:Blk):fb1 h m kp r (some k)=fb2 (SP h m kp k) (tl h m kp r):=rfl
theorem a4H (k:Blk) (r:List Blk):fb2 (some k) (some r)=some (k::r):=rfl
theorem a96 (m:Nat) (kp:List Nat) (q:Nat) (r:List (List V)):SP h m kp ⟨q,false,r⟩=some ⟨q,false,r⟩:=rfl
def fbO (q:Nat):Option (List V)→Option Blk
 |some row=>some ⟨q,true,[row]⟩
 |none=>none
theorem a1o (m:Nat) (kp:List Nat):vW h m kp []=some []:=rfl
theorem Mq (m:Nat) (kp:List Nat) (v:V) (r:List V):vW h m kp (v::r)=rs1 (DG h m kp v) (vW h m kp r):=by
 simp only [vW,rs1]
 cases DG h m kp v<;>cases vW h m kp r<;>rfl
def fnR (f:FuncId):Option (List V)→Option V
 |some cs=>some (.fn f cs)
 |none=>none
theorem a75 (f:FuncId) (cs:List V):fnR f (some cs)=some (.fn f cs):=rfl
theorem a5n (m:Nat) (kp:List Nat) (f:FuncId):DG h m kp (.fn f [])=some (.fn f []):=rfl
theorem a8G (m:Nat) (kp:List Nat) (f:FuncId) (c:V) (cs:List V):DG h m kp (.fn f (c::cs))=fnR f (q8 h m kp (c::cs)):=by
 simp only [DG,fnR]
 cases q8 h m kp (c::cs)<;>rfl
theorem a7J (m:Nat) (kp:List Nat) (v:Value):DG h m kp (.lit v)=some (.lit v):=rfl
theorem a4b (m:Nat) (kp:List Nat) (q:Nat) (r:List (List V)):DG h m kp (.imm q r)=some (.imm q r):=rfl
theorem YB (m:Nat) (kp:List Nat):DG h m kp .undef=some .undef:=rfl
theorem a1b (m:Nat) (kp:List Nat) (r:List V) (o:Nat):DG h m kp (.iptr r o)=some (.iptr r o):=rfl
theorem a3B (m:Nat) (kp:List Nat) (b s q:Nat):DG h m kp (.sl b s q)=fcO h m kp b s q:=Ma m kp b s q
theorem a4M (m:Nat) (kp:List Nat) (b i o q:Nat):DG h m kp (.ptr b i o q)=fcP m kp b i o q:=Lq (h:=h) m kp b i o q
theorem a8O (m:Nat) (kp:List Nat) (q:Nat) (row:List V):SP h m kp ⟨q,true,[row]⟩=fbO q (vW h m kp row):=by
 simp only [SP,Bm,fbO]
 cases vW h m kp row<;>rfl
theorem a7s (q:Nat) (row:List V):fbO q (some row)=some ⟨q,true,[row]⟩:=rfl
theorem a4f (t u:Nat) (v:V) (r:List (Nat×V)) (m:List (Nat×Blk)):St.get ⟨(u,v)::r,m⟩ t=if u=t then v else St.get ⟨r,m⟩ t:=by
 simp only [St.get,dv]
 split<;>rfl
theorem a9k (t:Nat) (m:List (Nat×Blk)):St.get ⟨[],m⟩ t= .undef:=rfl
theorem a0Y (b c:Nat) (k:Blk) (r:List (Nat×Blk)) (x:List (Nat×V)):St.heap ⟨x,(c,k)::r⟩ b=if c=b then some k else St.heap ⟨x,r⟩ b:=rfl
theorem a6l (b:Nat) (x:List (Nat×V)):St.heap ⟨x,[]⟩ b=none:=rfl
theorem a5s (x:List (Nat×V)) (m:List (Nat×Blk)) (d:Nat) (v:V):St.put ⟨x,m⟩ (some d) v=⟨(d,v)::x,m⟩:=rfl
theorem a6d (st:St) (v:V):st.put none v=st:=rfl
theorem b2q (x:List (Nat×V)) (m:List (Nat×Blk)) (u:Upd):St.upd ⟨x,m⟩ u=⟨x,Vv m u⟩:=rfl
theorem b0r (st:St):st.upd []=st:=rfl
theorem a4s (m:List (Nat×Blk)):Vv m []=m:=rfl
theorem a0V (m:List (Nat×Blk)) (b:Nat) (k:Blk) (r:Upd):Vv m ((b,k)::r)=Vv (eU b k m) r:=rfl
theorem a77 {β:Type} (k:Nat) (v:β):eU k v []=[(k,v)]:=rfl
theorem a2P {β:Type} (k j:Nat) (v u:β) (r:List (Nat×β)):eU k v ((j,u)::r)=if j=k then (j,v)::r else (j,u)::eU k v r:=rfl
theorem b6L (st:St) (t:Nat):st.ev (.t t)=st.get t:=rfl
theorem b6S (st:St) (v:Value):st.ev (.c v)= .lit v:=rfl
theorem b6P (st:St) (f:FuncId):st.ev (.f f)= .fn f []:=rfl
theorem a8w (live:List Nat) (x:List (Nat×V)) (m:List (Nat×Blk)):trim live ⟨x,m⟩=⟨live.map fun t=>(t,St.get ⟨x,m⟩ t),m⟩:=rfl
theorem YI {β:Type} (n:Nat):nh n ([]:List β)=[]:=rfl
theorem V6 {β:Type} (n:Nat) (x:β) (r:List β):nh n (x::r)=(n,x)::nh (n+1) r:=rfl
theorem start_eq (a:List V) (b:List Blk):start a b=⟨nh 0 a,nh 0 b⟩:=rfl
theorem V7:ej ev []=[]:=rfl
theorem T3 (a b:Nat) (x:Opd) (r:List (Nat×Nat×Opd)):ej ev ((a,b,x)::r)=(a,b,ev x)::ej ev r:=rfl
theorem a3p (cs:List V):I6 cs []=some cs:=rfl
theorem XX (cs:List V) (off size:Nat) (v:V) (r:List (Nat×Nat×V)):I6 cs ((off,size,v)::r)=br (Nat.beq v.cells.length size&&Nat.ble (off+size) cs.length&&v.cells.all V.cell) (I6 (cs.take off++(v.cells++cs.drop (off+size))) r) none:=rfl
theorem a2h (m:Nat) (r:List (List V)):FF m r []=some r:=rfl
theorem Z6 (m:Nat) (rows:List (List V)) (i:Nat) (v:V) (r:List (Nat×V)):FF m rows ((i,v)::r)=br (Nat.beq v.cells.length m&&(Nat.blt i rows.length&&v.cells.all V.cell)) (FF m (rows.set i v.cells) r) none:=rfl
theorem a39 (cs:List V):(V.agg cs).cells=cs:=rfl
theorem Qd (v:Value):(V.lit v).cells=[.lit v]:=rfl
theorem a32 (m:Nat) (r:List (List V)):(V.imm m r).cells=[.imm m r]:=rfl
theorem a2J (b s q:Nat):(V.sl b s q).cells=[.sl b s q]:=rfl
theorem a2D (b i o m:Nat):(V.ptr b i o m).cells=[.ptr b i o m]:=rfl
theorem Xo (r:List V) (o:Nat):(V.iptr r o).cells=[.iptr r o]:=rfl
theorem a5A (f:FuncId) (cs:List V):(V.fn f cs).cells=[.fn f cs]:=rfl
theorem Vf (k:IntKind) (a:Int):(V.lit (.int k a)).cell=true:=rfl
theorem a2x (a:Bool):(V.lit (.bool a)).cell=true:=rfl
theorem a4Q (a:ByteArray):(V.lit (.string a)).cell=true:=rfl
theorem a7q (a:Option Addr) (n m:Nat):(V.lit (.slice a n m)).cell=true:=rfl
theorem a7O (m:Nat) (r:List (List V)):(V.imm m r).cell=true:=rfl
theorem a6u (b s q:Nat):(V.sl b s q).cell=true:=rfl
theorem a6h (b i o m:Nat):(V.ptr b i o m).cell=true:=rfl
theorem a1N (r:List V) (o:Nat):(V.iptr r o).cell=true:=rfl
theorem b0q (f:FuncId) (cs:List V):(V.fn f cs).cell=true:=rfl
theorem b0a (k:IntKind) (a:Int):aN (.int k a)=true:=rfl
theorem a5N (a:Bool):aN (.bool a)=true:=rfl
theorem b1s (a:ByteArray):aN (.string a)=true:=rfl
theorem b0Y (a:Option Addr) (n m:Nat):aN (.slice a n m)=true:=rfl
theorem a95 (a:Option Addr):aN (.pointer a)=true:=rfl
theorem a2V:eO []=[]:=rfl
theorem Yg (b:Nat) (r:List Nat):eO (b::r)=(b,is)::eO r:=rfl
theorem b0A (ids:List Nat):iK ids []=[]:=by cases ids<;>rfl
theorem a3w (i:Nat) (ids:List Nat) (k:Blk) (r:List Blk):iK (i::ids) (k::r)=(i,k)::iK ids r:=rfl
theorem a65 (b x:Nat) (r:List Nat):jV b (x::r)=if x=b then 0 else jV b r+1:=rfl
theorem Xp (b:Nat):ft [] b=[b]:=rfl
theorem a27 (ids:List Nat) (b:Nat):ft ids b=br (ids.contains b) ids (ids++[b]):=by
 unfold ft
 by_cases h:b∈ids<;>simp [h,br]
theorem b4y:List.range 1=[0]:=rfl
theorem b43:List.range 2=[0,1]:=rfl
theorem b3y:List.range 3=[0,1,2]:=rfl
theorem b30:List.range 4=[0,1,2,3]:=rfl
theorem a5L (v:V):Zi [v]=v:=rfl
theorem a4z:Zi []= .tup []:=rfl
theorem a58 (a b:V) (r:List V):Zi (a::b::r)= .tup (a::b::r):=rfl
theorem Yc (o:List Nat) (a:List V):oh o a=br (o.contains 1000) a (a.map V.czA):=by
 unfold oh;cases o.contains 1000<;>rfl
theorem Yj (o:List Nat) (a:List Blk):nL o a=br (o.contains 1000) a (a.map Blk.cz):=by
 unfold nL;cases o.contains 1000<;>rfl
theorem a1J (a:Nat) (r:List Nat):(a::r).getD 0 0=a:=rfl
theorem a1i (a n:Nat) (r:List Nat):(a::r).getD (n+1) 0=r.getD n 0:=rfl
def Z3 (st:St) (bs:List Nat):St:={ e:=NC (fzA st.heap bs) st.e,m:=fzM st.heap bs st.m }
theorem a3G (st:St) (bs:List Nat):bB st (.close bs)=br (bs.all (fun b=>Nat.ble 1000 b)) (some (Z3 st bs)) none:=by
 simp only [bB,Z3,JM]
 cases bs.all (fun b=>decide (1000≤b))<;>rfl
theorem a2N (x:List (Nat×V)) (m:List (Nat×Blk)) (bs:List Nat):Z3 ⟨x,m⟩ bs=⟨NC (fzA (St.heap ⟨x,m⟩) bs) x,fzM (St.heap ⟨x,m⟩) bs m⟩:=rfl
theorem a68 (g:V→V):NC g []=[]:=rfl
theorem a37 (g:V→V) (t:Nat) (v:V) (r:List (Nat×V)):NC g ((t,v)::r)=(t,g v)::NC g r:=rfl
variable {bs:List Nat}
theorem b4z (v:Value):fzA h bs (.lit v)= .lit v:=rfl
theorem b2t (m:Nat) (r:List (List V)):fzA h bs (.imm m r)= .imm m r:=rfl
theorem a9O (r:List V) (o:Nat):fzA h bs (.iptr r o)= .iptr r o:=rfl
theorem a7M:fzA h bs .undef= .undef:=rfl
theorem b4l (vs:List V):fzA h bs (.tup vs)= .undef:=rfl
def fzO:Option (V×List Nat)→V
 |some (v,_)=>v.cz
 |none=> .undef
theorem a6m (b s q:Nat):fzA h bs (.sl b s q)=br (bs.contains b) (fzO (kP h (.sl b s q))) (.sl b s q):=by
 simp only [fzA,fzC,fzO]
 by_cases hb:b∈bs
 ·simp [hb,br];cases kP h (.sl b s q)<;>rfl
 ·simp [hb,br]
theorem a6H (b i o m:Nat):fzA h bs (.ptr b i o m)=br (bs.contains b) .undef (.ptr b i o m):=by
 simp only [fzA,fzC]
 by_cases hb:b∈bs<;>simp [hb,br]
theorem a70 (v:V) (b:List Nat):fzO (some (v,b))=v.cz:=rfl
theorem b3o (cs:List V):fzA h bs (.agg cs)=br ((cs.map (fzC h bs)).all V.cell) (.agg (cs.map (fzC h bs))) .undef:=by
 simp only [fzA]
 cases (cs.map (fzC h bs)).all V.cell<;>rfl
theorem b1C (f:FuncId) (cs:List V):fzA h bs (.fn f cs)=br (cs.all okC&& !(cs.flatMap pp).any (fun b=>bs.contains b)) (.fn f cs) .undef:=by
 simp only [fzA,fzC]
 have:(fun b=>decide (b∈bs))=fun b=>bs.contains b:=by funext b;simp [Bool.eq_iff_iff]
 rw [this]
 cases (cs.all okC&& !(cs.flatMap pp).any (fun b=>bs.contains b))<;>rfl
theorem b0K (v:Value):fzC h bs (.lit v)= .lit v:=rfl
theorem a8x (m:Nat) (r:List (List V)):fzC h bs (.imm m r)= .imm m r:=rfl
theorem b33 (f:FuncId) (cs:List V):fzC h bs (.fn f cs)=br (cs.all okC&& !(cs.flatMap pp).any (fun b=>bs.contains b)) (.fn f cs) .undef:=b1C (h:=h) f cs
theorem a92 (b i o m:Nat):okC (.ptr b i o m)=true:=rfl
theorem a9I (b s q:Nat):okC (.sl b s q)=true:=rfl
theorem a8J (v:Value):okC (.lit v)=true:=rfl
theorem a9c (m:Nat) (r:List (List V)):okC (.imm m r)=true:=rfl
theorem b4Z (f:FuncId):okC (.fn f [])=true:=rfl
theorem a7I (r:List V) (o:Nat):fzC h bs (.iptr r o)= .iptr r o:=rfl
theorem a9E (b s q:Nat):fzC h bs (.sl b s q)=br (bs.contains b) (fzO (kP h (.sl b s q))) (.sl b s q):=a6m b s q
theorem a7T (b i o m:Nat):fzC h bs (.ptr b i o m)=br (bs.contains b) .undef (.ptr b i o m):=a6H (h:=h) b i o m
theorem b0v:fzM h bs []=[]:=rfl
def fzK (h:ak) (bs:List Nat) (k:Blk):Blk:=if k.op then (if (k.rows.map (·.map (fzC h bs))).all (·.all V.cell) then { k with rows:=k.rows.map (·.map (fzC h bs)) } else is) else k
theorem a55 (b:Nat) (k:Blk) (r:List (Nat×Blk)):fzM h bs ((b,k)::r)=br (bs.contains b) (fzM h bs r) ((b,fzK h bs k)::fzM h bs r):=by
 simp only [fzM,fzK]
 by_cases hb:b∈bs<;>simp [hb,br]
theorem b4w (m:Nat) (r:List (List V)):fzK h bs ⟨m,false,r⟩=⟨m,false,r⟩:=rfl
theorem b4B (m:Nat) (row:List V):fzK h bs ⟨m,true,[row]⟩=br ((row.map (fzC h bs)).all V.cell) ⟨m,true,[row.map (fzC h bs)]⟩ is:=by
 simp only [fzK,List.map_cons,List.map_nil,List.all_cons,List.all_nil,Bool.and_true,if_true]
 cases (row.map (fzC h bs)).all V.cell<;>rfl
section
variable {R:Type} {T:Tab} {ow:dl} {k:ah→St→Option R} {d:Option Nat} {n:Nat} {ss:List aY} {live:List Nat} {K:List Fr} {st:St} {base i:Nat} {deps:List (List Nat)} {rs:List Rec} {fp:List Nat} {r:R}
theorem tu {h:ak} {new:Nat} {ids bor:List Nat} {x:Option (V×List Blk)} {p:V×List Blk} (hx:x=some p) (hr:aft T ow k d n ss live K st (FY h new ids bor (some p))=some r):aft T ow k d n ss live K st (FY h new ids bor x)=some r:=by
 rw [hx];exact hr
theorem jt {h:ak} {new:Nat} {ids bor:List Nat} {x:Option (V×List Blk)} {p:V×List Blk} (hx:x=some p) (hr:JD T ow k d base i ss deps live rs K st fp (FY h new ids bor (some p))=some r):JD T ow k d base i ss deps live rs K st fp (FY h new ids bor x)=some r:=by
 rw [hx];exact hr
theorem b5W (b:Int):nn b=decide (0≤b):=rfl
theorem b5B (b:Int):nz b=decide (b≠0):=rfl
theorem b3Q (i:Int) (n:Nat):inb i n=(decide (0≤i)&&decide (i.toNat<n)):=rfl
end
end
section
variable {ow:dl} {ev:Opd→V} {h:ak} {α:Type} {e:En α} {l:List α}
theorem b5C (x:Opd):fh ow (.mv x) ev h=[]:=rfl
theorem b5u (x:Opd):(AOp.mv x).opds=[x]:=rfl
theorem b0V (c a b:Opd):fh ow (.pick c a b) ev h=((AOp.pick c a b).opds.map ev).flatMap fa:=rfl
theorem a9h (c a b:Opd):(AOp.pick c a b).opds=[c,a,b]:=rfl
theorem a6X (z:List Value):fh ow (.alloc z) ev h=((AOp.alloc z).opds.map ev).flatMap fa:=rfl
theorem a5t (z:List Value):(AOp.alloc z).opds=[]:=rfl
theorem b4Q (m:Nat) (x:Opd):fh ow (.box m x) ev h=((AOp.box m x).opds.map ev).flatMap fa:=rfl
theorem b2P (m:Nat) (x:Opd):(AOp.box m x).opds=[x]:=rfl
theorem a6r (z:List Value) (ps:List (Nat×Nat×Opd)):fh ow (.build z ps) ev h=((AOp.build z ps).opds.map ev).flatMap fa:=rfl
theorem a5f (z:List Value) (ps:List (Nat×Nat×Opd)):(AOp.build z ps).opds=ps.map (·.2.2):=rfl
theorem On (m:Nat) (z:List Value) (l:Nat) (ps:List (Nat×Opd)):fh ow (.buildSlice m z l ps) ev h=((AOp.buildSlice m z l ps).opds.map ev).flatMap fa:=rfl
theorem Ov (m:Nat) (z:List Value) (l:Nat) (ps:List (Nat×Opd)):(AOp.buildSlice m z l ps).opds=ps.map (·.2):=rfl
theorem b1k (g:Option Nat) (x:Opd):fh ow (.load g x) ev h=((AOp.load g x).opds.map ev).flatMap fa:=rfl
theorem b1h (g:Option Nat) (x:Opd):(AOp.load g x).opds=[x]:=rfl
theorem a5Z (m:Nat) (x y:Opd):fh ow (.store m x y) ev h=((AOp.store m x y).opds.map ev).flatMap fa:=rfl
theorem a76 (m:Nat) (x y:Opd):(AOp.store m x y).opds=[x,y]:=rfl
theorem W2 (x:Opd):fh ow (.nilCheck x) ev h=((AOp.nilCheck x).opds.map ev).flatMap fa:=rfl
theorem We (x:Opd):(AOp.nilCheck x).opds=[x]:=rfl
theorem b2g (op:BinOp) (x y:Opd):fh ow (.bin op x y) ev h=((AOp.bin op x y).opds.map ev).flatMap fa:=rfl
theorem b35 (op:BinOp) (x y:Opd):(AOp.bin op x y).opds=[x,y]:=rfl
theorem a7w (b:Bool) (ks:List Bool) (x y:Opd):fh ow (.eqAgg b ks x y) ev h=((AOp.eqAgg b ks x y).opds.map ev).flatMap fa:=rfl
theorem a6j (b:Bool) (ks:List Bool) (x y:Opd):(AOp.eqAgg b ks x y).opds=[x,y]:=rfl
theorem b3w (b:Bool) (x y:Opd):fh ow (.beq b x y) ev h=((AOp.beq b x y).opds.map ev).flatMap fa:=rfl
theorem b3v (b:Bool) (x y:Opd):(AOp.beq b x y).opds=[x,y]:=rfl
theorem b69 (op:UnOp) (x:Opd):fh ow (.un op x) ev h=((AOp.un op x).opds.map ev).flatMap fa:=rfl
theorem b5J (op:UnOp) (x:Opd):(AOp.un op x).opds=[x]:=rfl
theorem a6F (k:IntKind) (x:Opd):fh ow (.toInt k x) ev h=((AOp.toInt k x).opds.map ev).flatMap fa:=rfl
theorem a4U (k:IntKind) (x:Opd):(AOp.toInt k x).opds=[x]:=rfl
theorem b1p (x:Opd):fh ow (.same x) ev h=((AOp.same x).opds.map ev).flatMap fa:=rfl
theorem b1m (x:Opd):(AOp.same x).opds=[x]:=rfl
theorem Yf (x:Opd):fh ow (.toBytes x) ev h=((AOp.toBytes x).opds.map ev).flatMap fa:=rfl
theorem XY (x:Opd):(AOp.toBytes x).opds=[x]:=rfl
theorem a4E (x:Opd):fh ow (.toStr x) ev h=((AOp.toStr x).opds.map ev).flatMap fa:=rfl
theorem a5w (x:Opd):(AOp.toStr x).opds=[x]:=rfl
theorem U7 (f:FuncId) (cs:List Opd):fh ow (.makeFunc f cs) ev h=[]:=rfl
theorem Vz (f:FuncId) (cs:List Opd):(AOp.makeFunc f cs).opds=cs:=rfl
theorem Ta (m b:Nat) (z:List Value) (x y:Opd):fh ow (.makeSlice m b z x y) ev h=((AOp.makeSlice m b z x y).opds.map ev).flatMap fa:=rfl
theorem TT (m b:Nat) (z:List Value) (x y:Opd):(AOp.makeSlice m b z x y).opds=[x,y]:=rfl
theorem WI (x:Opd) (lo hi:Option Opd):fh ow (.sliceStr x lo hi) ev h=((AOp.sliceStr x lo hi).opds.map ev).flatMap fa:=rfl
theorem W6 (x:Opd) (lo hi:Option Opd):(AOp.sliceStr x lo hi).opds=x::(EU lo++EU hi):=rfl
theorem a5O (m:Nat) (x:Opd) (lo hi mx:Option Opd):fh ow (.slice m x lo hi mx) ev h=((AOp.slice m x lo hi mx).opds.map ev).flatMap fa:=rfl
theorem a4d (m:Nat) (x:Opd) (lo hi mx:Option Opd):(AOp.slice m x lo hi mx).opds=x::(EU lo++(EU hi++EU mx)):=rfl
theorem b4E (m:Nat) (x:Opd):fh ow (.off m x) ev h=[]:=rfl
theorem b3t (m:Nat) (x:Opd):(AOp.off m x).opds=[x]:=rfl
theorem a5V (m:Nat) (g:Option Nat) (x:Opd):fh ow (.field m g x) ev h=((AOp.field m g x).opds.map ev).flatMap fa:=rfl
theorem a7g (m:Nat) (g:Option Nat) (x:Opd):(AOp.field m g x).opds=[x]:=rfl
theorem b2L (m:Nat) (x y:Opd):fh ow (.idx m x y) ev h=((AOp.idx m x y).opds.map ev).flatMap fa:=rfl
theorem b3O (m:Nat) (x y:Opd):(AOp.idx m x y).opds=[x,y]:=rfl
theorem a3g (m q:Nat) (x y:Opd):fh ow (.idxArr m q x y) ev h=((AOp.idxArr m q x y).opds.map ev).flatMap fa:=rfl
theorem a0T (m q:Nat) (x y:Opd):(AOp.idxArr m q x y).opds=[x,y]:=rfl
theorem a5q (x y:Opd):fh ow (.ixStr x y) ev h=((AOp.ixStr x y).opds.map ev).flatMap fa:=rfl
theorem a7o (x y:Opd):(AOp.ixStr x y).opds=[x,y]:=rfl
theorem a41 (m q:Nat) (g:Option Nat) (x y:Opd):fh ow (.ixAgg m q g x y) ev h=((AOp.ixAgg m q g x y).opds.map ev).flatMap fa:=rfl
theorem a5P (m q:Nat) (g:Option Nat) (x y:Opd):(AOp.ixAgg m q g x y).opds=[x,y]:=rfl
theorem b1W (x:Opd) (i:Nat):fh ow (.ext x i) ev h=[]:=rfl
theorem b4P (x:Opd) (i:Nat):(AOp.ext x i).opds=[x]:=rfl
theorem b3q (b:Bool) (x:Opd):fh ow (.len b x) ev h=[]:=rfl
theorem b2Y (b:Bool) (x:Opd):(AOp.len b x).opds=[x]:=rfl
theorem a3h (m:Nat) (x:Opd):fh ow (.lenArr m x) ev h=((AOp.lenArr m x).opds.map ev).flatMap fa:=rfl
theorem a3d (m:Nat) (x:Opd):(AOp.lenArr m x).opds=[x]:=rfl
theorem Xe (m b:Nat) (z:List Value) (x y:Opd):fh ow (.appendN m b z x y) ev h=((AOp.appendN m b z x y).opds.map ev).flatMap fa:=rfl
theorem Zh (m b:Nat) (z:List Value) (x y:Opd):(AOp.appendN m b z x y).opds=[x,y]:=rfl
theorem a4D (b:Bool) (x:Opd):fh ow (.isNil b x) ev h=((AOp.isNil b x).opds.map ev).flatMap fa:=rfl
theorem a6Y (b:Bool) (x:Opd):(AOp.isNil b x).opds=[x]:=rfl
theorem a1A (m b:Nat) (z:List Value) (x y:Opd):fh ow (.append m b z x y) ev h=((AOp.append m b z x y).opds.map ev).flatMap fa:=rfl
theorem a0D (m b:Nat) (z:List Value) (x y:Opd):(AOp.append m b z x y).opds=[x,y]:=rfl
theorem b0B (m:Nat) (x y:Opd):fh ow (.copy m x y) ev h=((AOp.copy m x y).opds.map ev).flatMap fa:=rfl
theorem b08 (m:Nat) (x y:Opd):(AOp.copy m x y).opds=[x,y]:=rfl
theorem a9V (x y:Opd):fh ow (.max2 x y) ev h=((AOp.max2 x y).opds.map ev).flatMap fa:=rfl
theorem a8R (x y:Opd):(AOp.max2 x y).opds=[x,y]:=rfl
theorem a7X (x y:Opd):fh ow (.min2 x y) ev h=((AOp.min2 x y).opds.map ev).flatMap fa:=rfl
theorem b0J (x y:Opd):(AOp.min2 x y).opds=[x,y]:=rfl
theorem Uz (x:Opd):fh ow (.bytesOwn x) ev h=((AOp.bytesOwn x).opds.map ev).flatMap fa:=rfl
theorem VJ (x:Opd):(AOp.bytesOwn x).opds=[x]:=rfl
theorem a6q (m:Nat) (x:Opd):fh ow (.arrOf m x) ev h=((AOp.arrOf m x).opds.map ev).flatMap fa:=rfl
theorem a4R (m:Nat) (x:Opd):(AOp.arrOf m x).opds=[x]:=rfl
theorem b3l (x:Opd):EU (some x)=[x]:=rfl
theorem b4s:EU none=[]:=rfl
def fpC:Option (List V×List Blk×List Nat×List Nat)→List Nat
 |some (_,_,ids,bor)=>ids++bor
 |none=>[]
theorem a7m (a:List V) (b:List Blk) (ids bor:List Nat):fpC (some (a,b,ids,bor))=ids++bor:=rfl
theorem b09 (f:FuncId) (args:List Opd):fh ow (.call f args) ev h=fpC (cK ow h f (args.map ev)):=by
 show Gu ow h f (args.map ev)=_
 unfold Gu fpC
 cases cK ow h f (args.map ev)<;>rfl
def fpD (ow:dl) (h:ak) (args:List V):V→List Nat
 | .fn k caps=>fpC (cK ow h k (args++caps))
 |_=>[]
theorem b2F (f:Opd) (args:List Opd):fh ow (.dyn f args) ev h=fpD ow h (args.map ev) (ev f):=by
 show (match ev f with
  | .fn k caps=>Gu ow h k (args.map ev++caps)
  |_=>[])=_
 cases ev f<;>first|rfl| (simp only [fpD,Gu,fpC];cases cK ow h _ _<;>rfl)
theorem b4R (args:List V) (k:FuncId) (caps:List V):fpD ow h args (.fn k caps)=fpC (cK ow h k (args++caps)):=rfl
theorem b0f (cs:List V):fa (.agg cs)=cs.flatMap pp:=rfl
theorem b2T (f:FuncId) (cs:List V):fa (.fn f cs)=cs.flatMap pp:=rfl
theorem b0u (cs:List V):fa (.tup cs)=cs.flatMap fun| .agg cs=>cs.flatMap pp|v=>pp v:=rfl
theorem a9W (v:Value):fa (.lit v)=[]:=rfl
theorem a9R (m:Nat) (r:List (List V)):fa (.imm m r)=[]:=rfl
theorem a4A (r:List V) (o:Nat):fa (.iptr r o)=[]:=rfl
theorem a9Z (b i o m:Nat):fa (.ptr b i o m)=[b]:=rfl
theorem b1i (b s q:Nat):fa (.sl b s q)=[b]:=rfl
theorem a1M:fa .undef=[]:=rfl
theorem a9B (v:Value):pp (.lit v)=[]:=rfl
theorem b0p (m:Nat) (r:List (List V)):pp (.imm m r)=[]:=rfl
theorem a4e (r:List V) (o:Nat):pp (.iptr r o)=[]:=rfl
theorem a8k (b i o m:Nat):pp (.ptr b i o m)=[b]:=rfl
theorem a9H (b s q:Nat):pp (.sl b s q)=[b]:=rfl
theorem b39 (f:FuncId) (cs:List V):pp (.fn f cs)=[]:=rfl
theorem a1I:pp .undef=[]:=rfl
theorem UU (fp:List Nat) (b:Nat):lT h fp b=br (fp.contains b) (h b) none:=by
 unfold lT
 by_cases hb:b∈fp<;>simp [hb,br]
theorem a8l (rs:List Rec) (i:Nat) (fp wr:List Nat):a3b rs i fp wr=br (fp.isEmpty&&wr.isEmpty) rs (rs++[⟨i,fp,wr⟩]):=by
 have h:Rec.loud ⟨i,fp,wr⟩= !(fp.isEmpty&&wr.isEmpty):=rfl
 unfold a3b
 cases h1:Rec.loud ⟨i,fp,wr⟩ with
 |true=>
  rw [h1] at h
  have h2:(fp.isEmpty&&wr.isEmpty)=false:=by
   cases hx:fp.isEmpty&&wr.isEmpty with
   |false=>rfl
   |true=>rw [hx] at h;cases h
  rw [h2,an,List.filter_cons_of_pos h1];rfl
 |false=>
  rw [h1] at h
  have h2:(fp.isEmpty&&wr.isEmpty)=true:=by
   cases hx:fp.isEmpty&&wr.isEmpty with
   |true=>rfl
   |false=>rw [hx] at h;cases h
  rw [h2,bz,List.filter_cons_of_neg (by rw [h1];decide)];simp
theorem a0M (deps:List (List Nat)):kK deps []=true:=rfl
theorem YA (deps:List (List Nat)) (p:Rec) (r:List Rec):kK deps (p::r)=(AE deps p r&&kK deps r):=rfl
theorem b01 (deps:List (List Nat)) (p:Rec):AE deps p []=true:=rfl
theorem a5v (deps:List (List Nat)) (i j:Nat) (f g w u:List Nat) (r:List Rec):AE deps ⟨i,f,w⟩ (⟨j,g,u⟩::r)=((w.isEmpty&&u.isEmpty||(deps.getD j []).contains i|| !(w.any (fun b=>decide (b∈g)||decide (b∈u))||u.any (fun b=>decide (b∈f))))&&AE deps ⟨i,f,w⟩ r):=rfl
theorem Zn {β:Type} (a d:β) (r:List β):(a::r).getD 0 d=a:=rfl
theorem YL {β:Type} (a d:β) (n:Nat) (r:List β):(a::r).getD (n+1) d=r.getD n d:=rfl
theorem a8P (m:Nat) (cs:List V) (n:Nat):b3L m cs h n=br (Nat.beq cs.length m&&cs.all V.cell) (frO (h n) n ⟨m,true,[cs]⟩ (.ptr n 0 0 1)) none:=rfl
theorem ab (x:Int) (h1: -9223372036854775808≤x) (h2:x<9223372036854775808):IntKind.wrap .i64 x=x:=by
 simp [IntKind.wrap,IntKind.bits,IntKind.signed];omega
theorem cw (x:Int) (h1:0≤x) (h2:x<18446744073709551616):IntKind.wrap .u64 x=x:=by
 simp [IntKind.wrap,IntKind.bits,IntKind.signed];omega
theorem a3j (n:Nat):(OfNat.ofNat n:Int)=(n:Int):=rfl
theorem a74 (n:Nat) (h:Nat.ble n 9223372036854775807=true):IntKind.wrap .i64 (no_index (OfNat.ofNat n:Int))=OfNat.ofNat n:=by
 have h1:=Nat.le_of_ble_eq_true h
 rw [a3j];exact ab _ (by omega) (by omega)
theorem b3B (a b:Nat):(a==b)=decide (a=b):=by
 by_cases h:a=b
 ·subst h;simp
 ·rw [decide_eq_false h];simpa using h
theorem b26:List.range 0=[]:=rfl
theorem Xk (m:Nat) (vs:List V):ip true h m vs=zV m [] ((List.range m).flatMap fun b=>a6w (h b)):=rfl
theorem a1k (m:Nat) (vs:List V):ip false h m vs=zV m [] (vs.flatMap fa):=rfl
theorem b0k (m:Nat) (row:List V):a6w (some ⟨m,true,[row]⟩)=row.flatMap fa:=by simp [a6w]
theorem a8t (m:Nat) (r:List (List V)):a6w (some ⟨m,false,r⟩)=[]:=rfl
theorem b3F:List.range 5=[0,1,2,3,4]:=rfl
theorem b4v:List.range 6=[0,1,2,3,4,5]:=rfl
theorem b2V:List.range 7=[0,1,2,3,4,5,6]:=rfl
theorem b3g:List.range 8=[0,1,2,3,4,5,6,7]:=rfl
theorem a1W (m:Nat) (acc:List Nat):zV m acc []=acc:=rfl
theorem Ze (m b:Nat) (acc r:List Nat):zV m acc (b::r)=zV m (br (Nat.ble m b) (ft acc b) acc) r:=by
 simp only [zV,JM]
 by_cases h:m≤b<;>simp [h,br]
theorem a1l (n:Nat):Int.toNat (no_index (OfNat.ofNat n:Int))=OfNat.ofNat n:=rfl
end
end Go.AI
