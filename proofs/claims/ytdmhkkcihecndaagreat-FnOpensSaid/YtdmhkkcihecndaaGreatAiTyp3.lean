/- The machine's operations on values of Lean's own types: what writes, what makes, what calls; a function's end. -/
import Derived.Test.YtdmhkkcihecndaaGreatAiTyp2
set_option linter.unusedVariables false
set_option linter.unusedSimpArgs false
namespace Go.AI
section
variable {C:ba} {ow:FuncId→List Nat} {ev:Opd→V} {h:aw} {n:Nat} {α:Type} {e:En α} {l l2:List α}
def snO (k:Option Blk) (b s q:Nat):Option (V×List Nat):=match k with
 |some k=>if k.op=false∧0<k.esz∧s+q=k.rows.length then some (.imm k.esz (k.rows.drop s),[b]) else none
 |none=>none
theorem a8r (b s q:Nat):nu h (.sl b s q)=snO (h b) b s q:=rfl
theorem b3C (m b q:Nat) (h0:Nat.blt 0 m=true) (hq:l.length=q):snO (some ⟨m,false,rws e l⟩) b 0 q=some (.imm m (rws e l),[b]):=by
 rw [KM,decide_eq_true_eq] at h0
 simp [snO,rws,hq,h0]
theorem a5W (k:IntKind) (a:Int):nu h (.lit (.int k a))=some (.lit (.int k a),[]):=rfl
theorem a5Q (a:List UInt8):nu h (S a)=some (S a,[]):=rfl
def snC:Option (V×List Nat)→Option (List V×List Nat)→Option (List V×List Nat)
 |some (a,bs),some (r,bs')=>some (a.cz::r,bs++bs')
 |_,_=>none
theorem a3T:jh h []=some ([],[]):=rfl
theorem a0r (v:V) (r:List V):jh h (v::r)=snC (nu h v) (jh h r):=by
 simp only [jh,snC]
 cases nu h v<;>cases jh h r<;>rfl
theorem a82 (a:V) (bs:List Nat) (r:List V) (bs':List Nat):snC (some (a,bs)) (some (r,bs'))=some (a.cz::r,bs++bs'):=rfl
theorem b2I (k:IntKind) (a:Int):(V.lit (.int k a)).cz= .lit (.int k a):=rfl
theorem b1u (a:Bool):(V.lit (.bool a)).cz= .lit (.bool a):=rfl
theorem b4o (a:List UInt8):(S a).cz=S a:=rfl
theorem b3b:(V.lit (.slice none 0 0)).cz= .imm 1 []:=rfl
theorem b3j (b i o m:Nat):(V.ptr b i o m).cz= .ptr b i o m:=rfl
theorem b4P (b s q:Nat):(V.sl b s q).cz= .sl b s q:=rfl
theorem b5B (f:FuncId) (cs:List V):(V.fn f cs).cz= .fn f cs:=rfl
theorem a9d (cs:List V):(V.agg cs).czA= .agg (cs.map V.cz):=rfl
theorem a8R (k:IntKind) (a:Int):(V.lit (.int k a)).czA= .lit (.int k a):=rfl
theorem a5I (a:Bool):(V.lit (.bool a)).czA= .lit (.bool a):=rfl
theorem b05 (a:List UInt8):(S a).czA=S a:=rfl
theorem b1s:(V.lit (.slice none 0 0)).czA= .imm 1 []:=rfl
theorem a9z (m:Nat) (r:List (List V)):(V.imm m r).czA=(V.imm m r).cz:=rfl
theorem b0W (b i o m:Nat):(V.ptr b i o m).czA= .ptr b i o m:=rfl
theorem b0g (b s q:Nat):(V.sl b s q).czA= .sl b s q:=rfl
theorem b4L (f:FuncId) (cs:List V):(V.fn f cs).czA= .fn f cs:=rfl
theorem b1M (cs:List V):(V.tup cs).czR= .tup (cs.map V.czA):=rfl
theorem b1F (cs:List V):(V.agg cs).czR= .agg (cs.map V.cz):=rfl
theorem b1T (k:IntKind) (a:Int):(V.lit (.int k a)).czR= .lit (.int k a):=rfl
theorem a5N (a:Bool):(V.lit (.bool a)).czR= .lit (.bool a):=rfl
theorem a8U (a:List UInt8):(S a).czR=S a:=rfl
theorem b09 (m:Nat) (r:List (List V)):(V.imm m r).czR=(V.imm m r).cz:=rfl
theorem a8J (b i o m:Nat):(V.ptr b i o m).czR= .ptr b i o m:=rfl
theorem b1t (b s q:Nat):(V.sl b s q).czR= .sl b s q:=rfl
theorem a5K (m:Nat) (row:List V):Blk.cz ⟨m,true,[row]⟩=⟨m,true,[row.map V.cz]⟩:=rfl
theorem a7u (m:Nat) (r:List (List V)):Blk.cz ⟨m,false,r⟩=⟨m,false,r⟩:=rfl
theorem b3V (k:IntKind) (a:Int):zc (.int k a)= .lit (.int k a):=rfl
theorem b2Y (a:List UInt8):zc (.string ⟨⟨a⟩⟩)=S a:=rfl
theorem b5g:zc (.slice none 0 0)= .imm 1 []:=rfl
def stO (k:Option Blk) (b size i o m:Nat) (x:V) (h:aw):Option (V×Upd):=match k with
 |some k=>if k.rows.length=m then (match k.rows[i]? with
  |some row=>
   if k.op then
    (if x.cells.length=size∧o+size≤row.length∧x.cells.all V.cell then
     some (.undef,[(b,{ k with rows:=k.rows.set i (row.take o++(x.cells++row.drop (o+size))) })]) else none)
   else match jh h x.cells with
    |some (cs,bs)=>if cs.length=size∧o+size≤row.length∧ ¬b∈bs then
     some (.undef,f8 bs++[(b,{ k with rows:=k.rows.set i (row.take o++(cs++row.drop (o+size))) })]) else none
    |none=>none
  |none=>none) else none
 |none=>none
def Z1 (size:Nat) (a x:V) (h:aw):Option (V×Upd):=match a with
 | .ptr b i o m=>stO (h b) b size i o m x h
 |_=>none
theorem a9t (size:Nat) (a x:Opd):aj C ow (.store size a x) ev h n=Z1 size (ev a) (ev x) h:=by
 simp only [aj,Z1,stO]
 cases ev a with
 |ptr b i o m=>dsimp only;cases h b<;>rfl
 |_=>rfl
theorem a7Q (size b i o m:Nat) (x:V):Z1 size (.ptr b i o m) x h=stO (h b) b size i o m x h:=rfl
theorem YC (m b size o:Nat) (row:List V) (x:V):stO (some ⟨m,true,[row]⟩) b size 0 o 1 x h=
 br (Nat.beq x.cells.length size&&(Nat.ble (o+size) row.length&&x.cells.all V.cell)) (some (.undef,[(b,⟨m,true,[row.take o++(x.cells++row.drop (o+size))]⟩)])) none:=by
 rw [Ns,KE]
 by_cases h1:x.cells.length=size<;>by_cases h2:o+size≤row.length<;>cases h3:x.cells.all V.cell<;>simp [stO,h1,h2,h3,br]
def stT (r:List (List V)) (m b size i o:Nat) (row:List V):Option (List V×List Nat)→Option (V×Upd)
 |some (cs,bs)=>br (Nat.beq cs.length size&&(Nat.ble (o+size) row.length&& !bs.contains b)) (some (.undef,f8 bs++[(b,⟨m,false,vz r i (row.take o++(cs++row.drop (o+size)))⟩)])) none
 |none=>none
theorem UX (r:List (List V)) (m b size i o:Nat) (row cs:List V) (bs:List Nat):stT r m b size i o row (some (cs,bs))=
 br (Nat.beq cs.length size&&(Nat.ble (o+size) row.length&& !bs.contains b)) (some (.undef,f8 bs++[(b,⟨m,false,vz r i (row.take o++(cs++row.drop (o+size)))⟩)])) none:=rfl
theorem b4w (m b size i o q:Nat) (x:V) (hq:l.length=q):stO (some ⟨m,false,rws e l⟩) b size i o q x h=(l[i]?).bind (fun y=>stT (rws e l) m b size i o (e.enc y) (jh h x.cells)):=by
 simp only [stO]
 have:(rws e l).length=q:=by simp [rws,hq]
 rw [if_pos this]
 have h2:(rws e l)[i]? =(l[i]?).map e.enc:=by simp [rws]
 rw [h2]
 cases hl:l[i]? with
 |none=>rfl
 |some y=>
  simp only [Option.map_some,Option.bind_some]
  cases hs:jh h x.cells with
  |none=>simp [stT]
  |some p=>
   obtain ⟨cs,bs⟩:=p
   rw [UX,Ns,KE]
   by_cases h1:cs.length=size<;>by_cases h2:o+size≤(e.enc y).length<;>by_cases h3:b∈bs<;>simp [h1,h2,h3,br,vz]
def psC (i:Nat):Option (List V×List Nat)→Option (List (Nat×V)×List Nat)→Option (List (Nat×V)×List Nat)
 |some (cs,bs),some (r',bs')=>some ((i,.agg cs)::r',bs++bs')
 |_,_=>none
theorem Q8:ct h ev []=some ([],[]):=rfl
theorem N5 (i:Nat) (x:Opd) (r:List (Nat×Opd)):ct h ev ((i,x)::r)=psC i (jh h (ev x).cells) (ct h ev r):=by
 simp only [ct,psC]
 cases jh h (ev x).cells<;>cases ct h ev r<;>rfl
theorem a59 (i:Nat) (cs:List V) (bs:List Nat) (r:List (Nat×V)) (bs':List Nat):psC i (some (cs,bs)) (some (r,bs'))=some ((i,.agg cs)::r,bs++bs'):=rfl
def H5 (esz:Nat) (rows:List (List V)):List (Nat×V)→Option (List (List V))
 |[]=>some rows
 | (i,v)::r=>br (Nat.beq v.cells.length esz&&(Nat.blt i rows.length&&v.cells.all V.cell)) (H5 esz (rows.set i v.cells) r) none
theorem XO (esz:Nat): ∀(ps:List (Nat×V)) (rows:List (List V)),Mx esz rows ps=H5 esz rows ps
 |[],_=>rfl
 | (i,v)::r,rows=>by
   simp only [Mx,H5,Ns,KM]
   rw [←XO esz r]
   by_cases h1:v.cells.length=esz<;>by_cases h2:i<rows.length<;>cases h3:v.cells.all V.cell<;>simp [h1,h2,br]
def b2W (u0:Upd):Option (V×Upd)→Option (V×Upd)
 |some (v,u)=>some (v,u0++u)
 |none=>none
theorem a27 (u0 u:Upd) (v:V):b2W u0 (some (v,u))=some (v,u0++u):=rfl
def bsR (esz len:Nat) (zero:List Value) (bs:List Nat) (h:aw) (n:Nat):Option (List (List V))→Option (V×Upd)
 |some rows=>br (Nat.beq zero.length esz&&(zero.all aS&&(Nat.ble (len*esz) 16777216&& !bs.contains n))) (b2W (f8 bs) (frO (h n) n ⟨esz,false,mkR n rows⟩ (.sl n 0 len))) none
 |none=>none
def bsS (esz len:Nat) (zero:List Value) (h:aw) (n:Nat):Option (List (Nat×V)×List Nat)→Option (V×Upd)
 |some (ps,bs)=>bsR esz len zero bs h n (H5 esz (List.replicate len (zero.map zc)) ps)
 |none=>none
theorem SQ (esz len:Nat) (zero:List Value) (ps:List (Nat×Opd)):aj C ow (.buildSlice esz zero len ps) ev h n=bsS esz len zero h n (ct h ev ps):=by
 simp only [aj,bsS,XO,wv]
 cases ct h ev ps with
 |none=>rfl
 |some p=>
  obtain ⟨qs,bs⟩:=p
  dsimp only
  cases H5 esz (List.replicate len (zero.map zc)) qs with
  |none=>rfl
  |some rows=>
   simp only [bsR,Ns,KE,mkR]
   by_cases h1:zero.length=esz<;>cases h2:zero.all aS<;>by_cases h3:len*esz≤16777216<;>by_cases h4:n∈bs<;>simp [h1,h3,h4,br]
   cases frO (h n) n ⟨esz,false,rows⟩ (.sl n 0 len)<;>rfl
theorem a6z (esz len:Nat) (zero:List Value) (ps:List (Nat×V)) (bs:List Nat):bsS esz len zero h n (some (ps,bs))=bsR esz len zero bs h n (H5 esz (List.replicate len (zero.map zc)) ps):=rfl
theorem a8y (esz len:Nat) (zero:List Value) (bs:List Nat) (rows:List (List V)):bsR esz len zero bs h n (some rows)=br (Nat.beq zero.length esz&&(zero.all aS&&(Nat.ble (len*esz) 16777216&& !bs.contains n))) (b2W (f8 bs) (frO (h n) n ⟨esz,false,mkR n rows⟩ (.sl n 0 len))) none:=rfl
def tbS (x:V) (h:aw) (n:Nat):Option (V×Upd):=match x with
 | .lit (.string s)=>if s.size≤bC then jH h n ⟨1,false,s.data.toList.map fun b=>[.lit (.int .u8 b.toNat)]⟩ (.sl n 0 s.size) else none
 |_=>none
theorem a3q (x:Opd):aj C ow (.toBytes x) ev h n=tbS (ev x) h n:=rfl
theorem b6k (s:List UInt8):tbS (S s) h n=br (bc s.length 1) (frO (h n) n ⟨1,false,rws eU8 s⟩ (.sl n 0 s.length)) none:=by
 simp only [tbS,Sf,bc,Nat.mul_one,wv]
 by_cases h1:s.length≤bC<;>simp [h1,br]
 rfl
def boS (x:V) (h:aw):Option (V×Upd):=match x with
 | .sl b s n=>match h b with
   |some k=>if k.op=false∧0<k.esz∧s+n=k.rows.length∧0<n then some (.sl b s n,[(b,k)]) else none
   |none=>none
 |_=>none
theorem ZP (x:Opd):aj C ow (.bytesOwn x) ev h n=boS (ev x) h:=rfl
def boO (k:Option Blk) (b s n:Nat):Option (V×Upd):=match k with
 |some k=>if k.op=false∧0<k.esz∧s+n=k.rows.length∧0<n then some (.sl b s n,[(b,k)]) else none
 |none=>none
theorem b1A (b s q:Nat):boS (.sl b s q) h=boO (h b) b s q:=rfl
theorem b4H (b m q:Nat) (h0:Nat.blt 0 m=true) (hq:l.length=q):boO (some ⟨m,false,rws e l⟩) b 0 q=br (decide (0<q)) (some (.sl b 0 q,[(b,⟨m,false,rws e l⟩)])) none:=by
 rw [KM,decide_eq_true_eq] at h0
 by_cases h1:0<q<;>simp [boO,rws,hq,h0,h1,br]
theorem X9 (l:List UInt8):aj.bytesOf (rws eU8 l)=some l:=by
 induction l with
 |nil=>rfl
 |cons b l ih=>
  simp only [rws,List.map_cons,eU8] at ih ⊢
  simp only [aj.bytesOf]
  have h1:(0:Int)≤(b.toNat:Int)∧(b.toNat:Int)<256:=⟨by omega,by have:=b.toNat_lt;omega⟩
  rw [if_pos h1,ih]
  simp
def tsR:Option (List (List V))→Option (V×Upd)
 |some rows=>match aj.bytesOf rows with
  |some l=>some (.lit (.string ⟨l.toArray⟩),[])
  |none=>none
 |none=>none
def tsS (x:V) (h:aw):Option (V×Upd):=br (a0E x) none (tsR (co h 1 x))
theorem a9O (x:Opd):aj C ow (.toStr x) ev h n=tsS (ev x) h:=by
 simp only [aj,tsS,tsR]
 cases a0E (ev x)
 ·simp only [Bool.false_eq_true,if_false,ak]
  cases co h 1 (ev x)<;>rfl
 ·rfl
theorem a80 (l:List UInt8):tsR (some (rws eU8 l))=some (S l,[]):=by
 simp only [tsR,X9]
theorem b3u (l:List UInt8):tsS (sl eU8 l) h=some (S l,[]):=by
 rw [tsS,Wm,ak,Rk 1 rfl,a80]
def roO (k:Option Blk) (m s q:Nat):Option (List (List V)):=match k with
 |some k=>if k.op=false∧0<k.esz∧k.esz=m∧s+q=k.rows.length then some (k.rows.drop s) else none
 |none=>none
theorem Z8 (m b s q:Nat):co h m (.sl b s q)=roO (h b) m s q:=rfl
theorem b4N (m q:Nat) (h0:Nat.blt 0 m=true) (hq:l.length=q):roO (some ⟨m,false,rws e l⟩) m 0 q=some (rws e l):=by
 rw [KM,decide_eq_true_eq] at h0
 simp [roO,rws,hq,h0]
theorem b0a (b s q:Nat):tsS (.sl b s q) h=tsR (roO (h b) 1 s q):=rfl
def b2K (esz bytes:Nat) (zero:List Value) (len cap:V) (h:aw) (n:Nat):Option (V×Upd):=match asI len,asI cap with
 |some l,some c=>if 0≤l∧l≤c∧c*bytes≤bC∧c*esz≤bC∧zero.length=esz∧zero.all aS then
  jH h n ⟨esz,false,List.replicate l.toNat (zero.map zc)⟩ (.sl n 0 l.toNat) else none
 |_,_=>none
theorem W7 (esz bytes:Nat) (zero:List Value) (len cap:Opd):aj C ow (.makeSlice esz bytes zero len cap) ev h n=b2K esz bytes zero (ev len) (ev cap) h n:=rfl
theorem b2M (esz bytes:Nat) (zero:List Value) (k k':IntKind) (a c:Int) (hb:Nat.ble esz bytes=true) (hz:Nat.beq zero.length esz=true) (hz2:zero.all aS=true):
 b2K esz bytes zero (.lit (.int k a)) (.lit (.int k' c)) h n=br (KS a c bytes) (frO (h n) n ⟨esz,false,KZ n a.toNat (zero.map zc)⟩ (.sl n 0 (a0A (KZ n a.toNat (zero.map zc))))) none:=by
 have hz3:=Nat.eq_of_beq_eq_true hz
 have hb2:=Nat.le_of_ble_eq_true hb
 simp only [b2K,asI,KS,hz3,hz2,wv,KZ,a0A,List.length_replicate]
 by_cases h1:0≤a<;>by_cases h2:a≤c<;>by_cases h3:c*bytes≤bC<;>simp [h1,h2,h3,br]
 intro h4
 exfalso
 have:c*esz≤c*bytes:=Int.mul_le_mul_of_nonneg_left (by omega) (by omega)
 omega
def slS (esz:Nat) (x:V) (lo hi mx:Option V) (h:aw):Option (V×Upd):=match mx with
 |some _=>none
 |none=>match x with
  | .lit (.slice none 0 0)=>match bK hi 0 0 with
    |some q=>match bK lo 0 q with
     |some _=>some (.lit (.slice none 0 0),[])
     |none=>none
    |none=>none
  | .sl b s n=>match h b with
    |some k=>if k.op=false∧0<k.esz∧k.esz=esz∧s+n=k.rows.length then (match bK hi n n with
     |some q=>match bK lo 0 q with
      |some p=>if q=n then some (.sl b (s+p) (n-p),[]) else some ((V.imm esz (((k.rows.drop s).take q).drop p)).cz,[(b,dR)])
      |none=>none
     |none=>none) else none
    |none=>none
  | .imm e rows=>if e=esz∨rows=[] then (match bK hi rows.length rows.length with
   |some q=>match bK lo 0 q with
    |some p=>some ((V.imm e ((rows.take q).drop p)).cz,[])
    |none=>none
   |none=>none) else none
  |_=>none
theorem a9K (esz:Nat) (x:Opd) (lo hi:Option Opd):aj C ow (.slice esz x lo hi none) ev h n=slS esz (ev x) (lo.map ev) (hi.map ev) none h:=rfl
theorem Fa (d m:Nat):bK none d m=some d:=rfl
theorem BT (k:IntKind) (i:Int) (d m:Nat):bK (some (.lit (.int k i))) d m=if 0≤i∧i≤m then some i.toNat else none:=rfl
theorem Tz (m:Nat) (hm:e.esz=m) (lo hi:Option V):slS m (sl e l) lo hi none h=(match bK hi l.length l.length with
 |some q=>match bK lo 0 q with
  |some p=>some (sl e ((l.take q).drop p),[])
  |none=>none
 |none=>none):=by
 subst hm
 rcases jm e l with ⟨rfl,hs⟩|⟨hne,hs⟩
 ·rw [hs]
  simp only [slS,List.length_nil,or_true,if_true]
  cases bK hi 0 0 with
  |none=>rfl
  |some q=>cases bK lo 0 q<;>simp [b45,V.cz]
 ·rw [hs]
  simp only [slS,true_or,if_true,rws,List.length_map]
  cases bK hi l.length l.length with
  |none=>rfl
  |some q=>cases bK lo 0 q<;>simp [sl,rws, ←List.map_take, ←List.map_drop]
theorem b3v (m:Nat) (hm:e.esz=m) (k:IntKind) (a:Int):slS m (sl e l) (some (.lit (.int k a))) none none h=(rL l a l.length).bind (fun l'=>some (sl e l',[])):=by
 rw [Tz m hm]
 simp only [Fa,BT,rL]
 by_cases h1:0≤a<;>by_cases h2:a≤(l.length:Int)<;>simp [h1,h2]
theorem b48 (m:Nat) (hm:e.esz=m) (k:IntKind) (b:Int):slS m (sl e l) none (some (.lit (.int k b))) none h=(rL l 0 b).bind (fun l'=>some (sl e l',[])):=by
 rw [Tz m hm]
 simp only [Fa,BT,rL]
 by_cases h1:0≤b<;>by_cases h2:b≤(l.length:Int)<;>simp [h1,h2]
theorem b3B (m:Nat) (hm:e.esz=m) (k k':IntKind) (a b:Int):slS m (sl e l) (some (.lit (.int k a))) (some (.lit (.int k' b))) none h=(rL l a b).bind (fun l'=>some (sl e l',[])):=by
 rw [Tz m hm]
 simp only [BT,rL]
 by_cases h1:0≤b<;>by_cases h2:b≤(l.length:Int)<;>by_cases h3:0≤a<;>by_cases h4:a≤b
 all_goals (have e1:((b.toNat:Nat):Int)=b∨ ¬0≤b:=by omega)
 all_goals (rcases e1 with e1|e1)
 all_goals (first|omega| (simp [h1,h2,h3,h4,e1];try omega))
def slO (k:Option Blk) (m b s q:Nat) (a:Int):Option (V×Upd):=match k with
 |some k=>if k.op=false∧0<k.esz∧k.esz=m∧s+q=k.rows.length then (if 0≤a∧a≤q then some (.sl b (s+a.toNat) (q-a.toNat),[]) else none) else none
 |none=>none
def ssS (x:V) (lo hi:Option V):Option (V×Upd):=match x with
 | .lit (.string s)=>match bK hi s.size s.size with
   |some b=>match bK lo 0 b with
    |some a=>some (.lit (.string (s.extract a b)),[])
    |none=>none
   |none=>none
 |_=>none
theorem Yi (x:Opd) (lo hi:Option Opd):aj C ow (.sliceStr x lo hi) ev h n=ssS (ev x) (lo.map ev) (hi.map ev):=rfl
theorem ZS (s:List UInt8) (a b:Nat):(⟨⟨s⟩⟩:ByteArray).extract a b=⟨⟨(s.take b).drop a⟩⟩:=by
 apply ByteArray.ext
 rw [ByteArray.data_extract]
 apply Array.ext'
 simp [List.extract_eq_take_drop,List.drop_take]
theorem Ud (s:List UInt8) (lo hi:Option V):ssS (S s) lo hi=(match bK hi s.length s.length with
 |some q=>match bK lo 0 q with
  |some p=>some (S ((s.take q).drop p),[])
  |none=>none
 |none=>none):=by
 simp only [ssS,Sf,ZS]
theorem b3J (s:List UInt8) (k:IntKind) (a:Int):ssS (S s) (some (.lit (.int k a))) none=(rL s a s.length).bind (fun l'=>some (S l',[])):=by
 rw [Ud]
 simp only [Fa,BT,rL]
 by_cases h1:0≤a<;>by_cases h2:a≤(s.length:Int)<;>simp [h1,h2]
theorem b39 (s:List UInt8) (k:IntKind) (b:Int):ssS (S s) none (some (.lit (.int k b)))=(rL s 0 b).bind (fun l'=>some (S l',[])):=by
 rw [Ud]
 simp only [Fa,BT,rL]
 by_cases h1:0≤b<;>by_cases h2:b≤(s.length:Int)<;>simp [h1,h2]
theorem b4i (s:List UInt8) (k k':IntKind) (a b:Int):ssS (S s) (some (.lit (.int k a))) (some (.lit (.int k' b)))=(rL s a b).bind (fun l'=>some (S l',[])):=by
 rw [Ud]
 simp only [BT,rL]
 by_cases h1:0≤b<;>by_cases h2:b≤(s.length:Int)<;>by_cases h3:0≤a<;>by_cases h4:a≤b
 all_goals (have e1:((b.toNat:Nat):Int)=b∨ ¬0≤b:=by omega)
 all_goals (rcases e1 with e1|e1)
 all_goals (first|omega| (simp [h1,h2,h3,h4,e1];try omega))
def apS (esz bytes:Nat) (zero:List Value) (x y:V) (h:aw) (n:Nat):Option (List (List V))→Option (V×Upd)
 |none=>none
 |some new_=>if zero.length=esz∧0<esz∧new_.length*bytes≤bC∧new_.length*esz≤bC then
  (match x with
  | .sl b 0 n=>match h b with
    |some k=>if k.op=false∧0<k.esz∧k.esz=esz∧n=k.rows.length∧(n+new_.length)*bytes≤bC∧(n+new_.length)*esz≤bC∧aj.selfOk b y then
     some (.sl b 0 (n+new_.length),[(b,{ k with rows:=k.rows++new_ })]) else none
    |none=>none
  | .lit (.slice none 0 0)=>jH h n ⟨esz,false,new_⟩ (.sl n 0 new_.length)
  | .imm 0 []=>jH h n ⟨esz,false,new_⟩ (.sl n 0 new_.length)
  |_=>none) else none
theorem a5g (esz bytes:Nat) (zero:List Value) (x y:Opd):aj C ow (.append esz bytes zero x y) ev h n=apS esz bytes zero (ev x) (ev y) h n (co h esz (ev y)):=by
 simp only [aj]
 cases co h esz (ev y) with
 |none=>rfl
 |some r=>rfl
def Ow (b:Nat) (y:V):Bool:=aj.selfOk b y
theorem a7l (b:Nat):Ow b (sl e l)=true:=by
 rcases jm e l with ⟨_,h⟩|⟨_,h⟩<;>rw [h]<;>rfl
theorem a2V (b b' s q:Nat):Ow b (.sl b' s q)=(b !=b'):=rfl
def apO (k:Option Blk) (esz bytes:Nat) (zero:List Value) (b q:Nat) (sb:Bool) (new_:List (List V)):Option (V×Upd):=match k with
 |some k=>if zero.length=esz∧0<esz∧new_.length*bytes≤bC∧new_.length*esz≤bC then
  (if k.op=false∧0<k.esz∧k.esz=esz∧q=k.rows.length∧(q+new_.length)*bytes≤bC∧(q+new_.length)*esz≤bC∧sb=true then
        some (.sl b 0 (q+new_.length),[(b,{ k with rows:=k.rows++new_ })]) else none) else none
 |none=>none
theorem b0u (esz bytes:Nat) (zero:List Value) (b q:Nat) (y:V) (new_:List (List V)):apS esz bytes zero (.sl b 0 q) y h n (some new_)=apO (h b) esz bytes zero b q (Ow b y) new_:=by
 simp only [apS,apO,Ow]
 cases h b with
 |none=>simp
 |some k=>rfl
theorem b5c (m bytes:Nat) (zero:List Value) (b q:Nat) (sb:Bool) (hz:Nat.beq zero.length m=true) (h0:Nat.blt 0 m=true) (hb:Nat.ble m bytes=true) (hq:l.length=q) (hs:sb=true):
 apO (some ⟨m,false,rws e l⟩) m bytes zero b q sb (rws e l2)=br (bc (l++l2).length bytes) (some (.sl b 0 (l++l2).length,[(b,⟨m,false,rws e (l++l2)⟩)])) none:=by
 have hz3:=Nat.eq_of_beq_eq_true hz
 have hb2:=Nat.le_of_ble_eq_true hb
 rw [KM,decide_eq_true_eq] at h0
 subst hs hq
 simp only [apO,bc,rws,List.length_map,List.length_append,List.map_append]
 have e1:(l.length+l2.length)*m≤(l.length+l2.length)*bytes:=Nat.mul_le_mul_left _ hb2
 have e2:l2.length*bytes≤(l.length+l2.length)*bytes:=Nat.mul_le_mul_right _ (by omega)
 have e3:l2.length*m≤l2.length*bytes:=Nat.mul_le_mul_left _ hb2
 by_cases hf:(l.length+l2.length)*bytes≤bC
 ·rw [if_pos ⟨hz3,h0,by omega,by omega⟩,if_pos ⟨by trivial,h0,by trivial,by trivial,hf,by omega,by trivial⟩,decide_eq_true hf,aR]
 ·rw [decide_eq_false hf,ak]
  split
  ·rw [if_neg (fun hc=>hf hc.2.2.2.2.1)]
  ·rfl
theorem b0I (m bytes:Nat) (zero:List Value) (y:V) (hz:Nat.beq zero.length m=true) (h0:Nat.blt 0 m=true) (hb:Nat.ble m bytes=true):
 apS m bytes zero (.lit (.slice none 0 0)) y h n (some (rws e l2))=br (bc l2.length bytes) (frO (h n) n ⟨m,false,rws e l2⟩ (.sl n 0 l2.length)) none:=by
 have hz3:=Nat.eq_of_beq_eq_true hz
 have hb2:=Nat.le_of_ble_eq_true hb
 rw [KM,decide_eq_true_eq] at h0
 simp only [apS,bc,wv]
 have hl:(rws e l2).length=l2.length:=by simp [rws]
 rw [hl]
 have e3:l2.length*m≤l2.length*bytes:=Nat.mul_le_mul_left _ hb2
 by_cases hf:l2.length*bytes≤bC
 ·rw [if_pos ⟨hz3,h0,hf,by omega⟩,decide_eq_true hf,aR]
 ·rw [decide_eq_false hf,ak,if_neg (fun hc=>hf hc.2.2.1)]
def OG (l:List α) (s k:Nat) (l2:List α):List α:=l.take s++(l2.take k++l.drop (s+k))
def b4e (esz bytes:Nat) (zero:List Value) (x y:V) (h:aw) (n:Nat):Option (V×Upd):=match asI y with
 |some l=>if 0≤l∧l≤1099511627776∧l*bytes≤1099511627776∧zero.all aS then Ea esz bytes zero x (fun _=>true) h n (List.replicate l.toNat (zero.map zc)) else none
 |none=>none
theorem a3A (esz bytes:Nat) (zero:List Value) (x y:Opd):aj C ow (.appendN esz bytes zero x y) ev h n=b4e esz bytes zero (ev x) (ev y) h n:=rfl
theorem a8l (m bytes:Nat) (zero:List Value) (b q:Nat) (k:IntKind) (a:Int) (hz2:zero.all aS=true):
 b4e m bytes zero (.sl b 0 q) (.lit (.int k a)) h n=br (KS a a bytes&&decide (a≤1099511627776)) (apO (h b) m bytes zero b q true (KZ n a.toNat (zero.map zc))) none:=by
 simp only [b4e,asI,KS,hz2,KZ,bC]
 by_cases h1:0≤a<;>by_cases h2:a*bytes≤1099511627776<;>by_cases h3:a≤1099511627776<;>simp [h1,h2,h3,br]
 simp only [Ea,apO]
 cases h b with
 |none=>simp
 |some kk=>rfl
def cpS (esz:Nat) (x y:V) (h:aw):Option (List (List V))→Option (V×Upd)
 |some rows=>match x with
  | .sl b s n=>match h b with
    |some k=>if k.op=false∧0<k.esz∧k.esz=esz∧s+n=k.rows.length∧aj.selfOk b y then
     some (.lit (.int .i64 (min rows.length n)),[(b,{ k with rows:=k.rows.take s++(rows.take (min rows.length n)++k.rows.drop (s+min rows.length n)) })]) else none
    |none=>none
  |_=>none
 |none=>none
theorem b51 (esz:Nat) (x y:Opd):aj C ow (.copy esz x y) ev h n=cpS esz (ev x) (ev y) h (co h esz (ev y)):=by
 simp only [aj,cpS]
 cases co h esz (ev y) with
 |none=>rfl
 |some r=>cases ev x<;>rfl
def cpO (k:Option Blk) (esz b s q:Nat) (sb:Bool) (rows:List (List V)):Option (V×Upd):=match k with
 |some k=>if k.op=false∧0<k.esz∧k.esz=esz∧s+q=k.rows.length∧sb=true then
  some (.lit (.int .i64 (min rows.length q)),[(b,{ k with rows:=k.rows.take s++(rows.take (min rows.length q)++k.rows.drop (s+min rows.length q)) })]) else none
 |none=>none
theorem b0k (esz b s q:Nat) (y:V) (rows:List (List V)):cpS esz (.sl b s q) y h (some rows)=cpO (h b) esz b s q (Ow b y) rows:=by
 simp only [cpS,cpO,Ow]
 cases h b<;>rfl
theorem b50 (m b s q:Nat) (sb:Bool) (h0:Nat.blt 0 m=true) (hs:sb=true):cpO (some ⟨m,false,rws e l⟩) m b s q sb (rws e l2)=
 br (decide (s+q=l.length)) (some (I (min (l2.length:Int) (q:Int)),[(b,⟨m,false,rws e (OG l s (min l2.length q) l2)⟩)])) none:=by
 rw [KM,decide_eq_true_eq] at h0
 subst hs
 simp only [cpO]
 by_cases hq:s+q=l.length
 ·rw [if_pos ⟨by trivial,h0,by trivial,by simp [rws,hq],by trivial⟩,decide_eq_true hq,aR]
  simp [rws,OG,List.map_take,List.map_drop]
 ·rw [decide_eq_false hq,ak,if_neg (fun hc=>hq (by simpa [rws] using hc.2.2.2.1))]
def ncS (x:V) (h:aw):Option (V×Upd):=match x with
 | .ptr b i o n=>match h b with
   |some k=>if k.rows.length=n∧i<n then some (.ptr b i o n,[]) else none
   |none=>none
 | .iptr r o=>some (.iptr r o,[])
 | .fn f c=>some (.fn f c,[])
 |_=>none
theorem Yw (x:Opd):aj C ow (.nilCheck x) ev h n=ncS (ev x) h:=by
 simp only [aj,ncS]
 cases ev x<;>rfl
def ncO (k:Option Blk) (b i o m:Nat):Option (V×Upd):=match k with
 |some k=>if k.rows.length=m∧i<m then some (.ptr b i o m,[]) else none
 |none=>none
theorem b62 (b i o m:Nat):ncS (.ptr b i o m) h=ncO (h b) b i o m:=rfl
theorem b4U (b o m:Nat) (row:List V):ncO (some ⟨m,true,[row]⟩) b 0 o 1=some (.ptr b 0 o 1,[]):=rfl
def mxS (x y:V):Option (V×Upd):=match x,y with
 | .lit (.int k a),.lit (.int _ b)=>some (.lit (.int k (if b>a then b else a)),[])
 |_,_=>none
theorem b3P (x y:Opd):aj C ow (.max2 x y) ev h n=mxS (ev x) (ev y):=by
 simp only [aj,mxS]
 cases ev x<;>cases ev y<;>rfl
theorem b6N (k k':IntKind) (a b:Int):mxS (.lit (.int k a)) (.lit (.int k' b))=some (.lit (.int k (mx a b)),[]):=rfl
def mnS (x y:V):Option (V×Upd):=match x,y with
 | .lit (.int k a),.lit (.int _ b)=>some (.lit (.int k (if b<a then b else a)),[])
 |_,_=>none
theorem b3Y (x y:Opd):aj C ow (.min2 x y) ev h n=mnS (ev x) (ev y):=by
 simp only [aj,mnS]
 cases ev x<;>cases ev y<;>rfl
theorem b61 (k k':IntKind) (a b:Int):mnS (.lit (.int k a)) (.lit (.int k' b))=some (.lit (.int k (mn a b)),[]):=rfl
def EY (h:aw) (new:Nat) (ids bor:List Nat):Option (V×List Blk)→Option (V×Upd)
 |some (r,bs)=>wO h new ids bor r bs
 |none=>none
def QK (C:ba) (ow:FuncId→List Nat) (h:aw) (new:Nat) (f:FuncId):Option (List V×List Blk×List Nat×List Nat)→Option (V×Upd)
 |some (args',blks,ids,bor)=>EY h new ids bor (C f (oC (ow f) args') (oV (ow f) blks))
 |none=>none
theorem QO (f:FuncId) (args:List V):jM C ow h n f args=QK C ow h n f (cI ow h f args):=by
 unfold jM QK EY
 cases cI ow h f args with
 |none=>rfl
 |some p=>obtain ⟨a,b,c,d⟩:=p;dsimp only;cases C f (oC (ow f) a) (oV (ow f) b)<;>rfl
theorem b3h (f:FuncId) (args:List Opd):aj C ow (.call f args) ev h n=QK C ow h n f (cI ow h f (args.map ev)):=QO _ _
def b2X (C:ba) (ow:FuncId→List Nat) (h:aw) (n:Nat) (args:List V):V→Option (V×Upd)
 | .fn k caps=>QK C ow h n k (cI ow h k (args++caps))
 |_=>none
theorem b5C (f:Opd) (args:List Opd):aj C ow (.dyn f args) ev h n=b2X C ow h n (args.map ev) (ev f):=by
 simp only [aj,b2X]
 cases ev f<;>first|rfl|exact QO _ _
theorem b1q (args:List V) (k:FuncId) (caps:List V):b2X C ow h n args (.fn k caps)=QK C ow h n k (cI ow h k (args++caps)):=rfl
theorem a0d (f:FuncId) (a:List V) (b:List Blk) (c d:List Nat):QK C ow h n f (some (a,b,c,d))=EY h n c d (C f (oC (ow f) a) (oV (ow f) b)):=rfl
def a0H (args':List V) (bor:List Nat):Option (List Blk×List Nat)→Option (List V×List Blk×List Nat×List Nat)
 |some (blks,ids)=>br (bor.any (fun b=>decide (b∈ids))) none (some (args',blks,ids,bor))
 |none=>none
def a5V (h:aw):Option (List V×List Nat×List Nat)→Option (List V×List Blk×List Nat×List Nat)
 |some (args',ids0,bor)=>a0H args' bor (cT h 40 0 ids0)
 |none=>none
theorem Vz (f:FuncId) (args:List V):cI ow h f args=a5V h (fM h (ow f) 0 [] args):=by
 unfold cI a5V a0H
 cases fM h (ow f) 0 [] args with
 |none=>rfl
 |some p=>
  obtain ⟨a,i,b⟩:=p
  dsimp only
  cases cT h 40 0 i with
  |none=>rfl
  |some q=>
   obtain ⟨bl,ids⟩:=q
   dsimp only
   cases hb:b.any (fun b=>decide (b∈ids))<;>simp [br]
theorem ZW (a:List V) (i b:List Nat):a5V h (some (a,i,b))=a0H a b (cT h 40 0 i):=rfl
theorem a07 (a:List V) (b:List Nat) (bl:List Blk) (ids:List Nat):a0H a b (some (bl,ids))=br (b.any (fun b=>decide (b∈ids))) none (some (a,bl,ids,b)):=rfl
def la2 (v':V) (bs:List Nat):Option (List V×List Nat×List Nat)→Option (List V×List Nat×List Nat)
 |some (r',ids'',bs')=>some (v'::r',ids'',bs++bs')
 |none=>none
def la1 (h:aw) (owns:List Nat) (j:Nat) (r:List V):Option (V×List Nat×List Nat)→Option (List V×List Nat×List Nat)
 |some (v',ids',bs)=>la2 v' bs (fM h owns (j+1) ids' r)
 |none=>none
theorem Yd (owns:List Nat) (j:Nat) (ids:List Nat):fM h owns j ids []=some ([],ids,[]):=rfl
theorem T0 (owns:List Nat) (j:Nat) (ids:List Nat) (v:V) (r:List V):fM h owns j ids (v::r)=la1 h owns j r (de h (owns.contains j) ids v):=by
 have:decide (j∈owns)=owns.contains j:=by simp [List.contains_iff_mem,Bool.eq_iff_iff]
 simp only [fM,la1,la2,this]
 cases de h (owns.contains j) ids v with
 |none=>rfl
 |some p=>obtain ⟨a,b,c⟩:=p;dsimp only;cases fM h owns (j+1) b r<;>rfl
theorem a7m (owns:List Nat) (j:Nat) (r:List V) (v':V) (ids' bs:List Nat):la1 h owns j r (some (v',ids',bs))=la2 v' bs (fM h owns (j+1) ids' r):=rfl
theorem a6D (v':V) (bs:List Nat) (r':List V) (i b:List Nat):la2 v' bs (some (r',i,b))=some (v'::r',i,bs++b):=rfl
def lcP (k:Option Blk) (ids:List Nat) (b i o m:Nat):Option (V×List Nat×List Nat):=match k with
 |some k=>if k.rows.length=m then some (.ptr (kT b (fS ids b)) i o m,fS ids b,[]) else none
 |none=>none
def lcO (k:Option Blk) (own:Bool) (ids:List Nat) (b s q:Nat):Option (V×List Nat×List Nat):=match k with
 |some k=>if s+q=k.rows.length then
  (if own then some (.sl (kT b (fS ids b)) s q,fS ids b,[]) else if k.op=false∧0<k.esz then some (.imm k.esz (k.rows.drop s),ids,[b]) else none) else none
 |none=>none
theorem a4W (own:Bool) (ids:List Nat) (v:Value):cF h own ids (.lit v)=some (.lit v,ids,[]):=rfl
theorem b2S (own:Bool) (ids:List Nat) (b i o m:Nat):cF h own ids (.ptr b i o m)=lcP (h b) ids b i o m:=rfl
theorem b3S (own:Bool) (ids:List Nat) (b s q:Nat):cF h own ids (.sl b s q)=lcO (h b) own ids b s q:=rfl
theorem a7o (own:Bool) (ids:List Nat) (v:Value):de h own ids (.lit v)=some (.lit v,ids,[]):=rfl
theorem b4q (own:Bool) (ids:List Nat) (b i o m:Nat):de h own ids (.ptr b i o m)=lcP (h b) ids b i o m:=rfl
theorem b32 (own:Bool) (ids:List Nat) (b s q:Nat):de h own ids (.sl b s q)=lcO (h b) own ids b s q:=rfl
def lcA (mk:List V→V):Option (List V×List Nat×List Nat)→Option (V×List Nat×List Nat)
 |some (cs',ids',bs)=>some (mk cs',ids',bs)
 |none=>none
theorem b4E (own:Bool) (ids:List Nat) (cs:List V):de h own ids (.agg cs)=lcA V.agg (cB h own ids cs):=by
 simp only [de,lcA]
 cases cB h own ids cs<;>rfl
theorem b5u (own:Bool) (ids:List Nat) (f:FuncId) (cs:List V):de h own ids (.fn f cs)=lcA (V.fn f) (cB h true ids cs):=by
 simp only [de,lcA]
 cases cB h true ids cs<;>rfl
theorem a63 (mk:List V→V) (cs:List V) (i b:List Nat):lcA mk (some (cs,i,b))=some (mk cs,i,b):=rfl
def b3H (h:aw) (own:Bool) (r:List V):Option (V×List Nat×List Nat)→Option (List V×List Nat×List Nat)
 |some (v',ids',bs)=>la2 v' bs (cB h own ids' r)
 |none=>none
theorem Tg (own:Bool) (ids:List Nat):cB h own ids []=some ([],ids,[]):=rfl
theorem Dw (own:Bool) (ids:List Nat) (v:V) (r:List V):cB h own ids (v::r)=b3H h own r (cF h own ids v):=by
 simp only [cB,b3H,la2]
 cases cF h own ids v with
 |none=>rfl
 |some p=>obtain ⟨a,b,c⟩:=p;dsimp only;cases cB h own b r<;>rfl
theorem QR (own:Bool) (r:List V) (v':V) (ids' bs:List Nat):b3H h own r (some (v',ids',bs))=la2 v' bs (cB h own ids' r):=rfl
theorem b4b (ids:List Nat) (b o m:Nat) (row:List V):lcP (some ⟨m,true,[row]⟩) ids b 0 o 1=some (.ptr (kT b (fS ids b)) 0 o 1,fS ids b,[]):=rfl
theorem b5v (m:Nat) (ids:List Nat) (b s q:Nat) (hq:s+q=l.length):lcO (some ⟨m,false,rws e l⟩) true ids b s q=some (.sl (kT b (fS ids b)) s q,fS ids b,[]):=by
 simp [lcO,rws,hq]
theorem b6T (m:Nat) (ids:List Nat) (b q:Nat) (h0:Nat.blt 0 m=true) (hq:l.length=q):lcO (some ⟨m,false,rws e l⟩) false ids b 0 q=some (.imm m (rws e l),ids,[b]):=by
 rw [KM,decide_eq_true_eq] at h0
 simp [lcO,rws,hq,h0]
def lb2 (k:Blk):Option (List Blk×List Nat)→Option (List Blk×List Nat)
 |some (r,ids')=>some (k::r,ids')
 |none=>none
def ld2 (v':V):Option (List V×List Nat)→Option (List V×List Nat)
 |some (r',i)=>some (v'::r',i)
 |none=>none
def ld1 (h:aw) (r:List V):Option (V×List Nat×List Nat)→Option (List V×List Nat)
 |some (v',ids',_)=>ld2 v' (mP h ids' r)
 |none=>none
theorem a2G (ids:List Nat):mP h ids []=some ([],ids):=rfl
theorem Mb (ids:List Nat) (v:V) (r:List V):mP h ids (v::r)=ld1 h r (de h true ids v):=by
 simp only [mP,ld1,ld2]
 cases de h true ids v with
 |none=>rfl
 |some p=>obtain ⟨a,b,c⟩:=p;dsimp only;cases mP h b r<;>rfl
theorem Vw (r:List V) (v':V) (ids' bs:List Nat):ld1 h r (some (v',ids',bs))=ld2 v' (mP h ids' r):=rfl
theorem a6P (v':V) (r':List V) (i:List Nat):ld2 v' (some (r',i))=some (v'::r',i):=rfl
def lb1 (h:aw) (fuel pos m:Nat):Option (List V×List Nat)→Option (List Blk×List Nat)
 |some (row,ids1)=>lb2 ⟨m,true,[row]⟩ (cT h fuel (pos+1) ids1)
 |none=>none
def lb0 (h:aw) (fuel pos:Nat) (ids:List Nat):Option Blk→Option (List Blk×List Nat)
 |some k=>if k.op=false then lb2 k (cT h fuel (pos+1) ids) else (match kh h ids k.rows with
  |none=>none
  |some (rows,ids1)=>lb2 { k with rows:=rows } (cT h fuel (pos+1) ids1))
 |none=>none
def lbN (h:aw) (fuel pos:Nat) (ids:List Nat):Option Nat→Option (List Blk×List Nat)
 |none=>some ([],ids)
 |some b=>lb0 h fuel pos ids (h b)
theorem Zf (fuel pos:Nat) (ids:List Nat):cT h (fuel+1) pos ids=lbN h fuel pos ids ids[pos]? :=by
 simp only [cT,lbN,lb0]
 cases ids[pos]? with
 |none=>rfl
 |some b=>
  dsimp only
  cases h b with
  |none=>rfl
  |some k=>
   dsimp only
   split
   ·cases cT h fuel (pos+1) ids<;>rfl
   ·cases kh h ids k.rows with
    |none=>rfl
    |some p=>obtain ⟨rows,ids1⟩:=p;dsimp only;cases cT h fuel (pos+1) ids1<;>rfl
theorem a8A (fuel pos:Nat) (ids:List Nat):lbN h fuel pos ids none=some ([],ids):=rfl
theorem a6b (fuel pos:Nat) (ids:List Nat) (b:Nat):lbN h fuel pos ids (some b)=lb0 h fuel pos ids (h b):=rfl
theorem b4Y (fuel pos:Nat) (ids:List Nat) (m:Nat) (r:List (List V)):lb0 h fuel pos ids (some ⟨m,false,r⟩)=lb2 ⟨m,false,r⟩ (cT h fuel (pos+1) ids):=rfl
theorem b4X (fuel pos:Nat) (ids:List Nat) (m:Nat) (row:List V):lb0 h fuel pos ids (some ⟨m,true,[row]⟩)=lb1 h fuel pos m (mP h ids row):=by
 simp only [lb0,kh,lb1]
 cases mP h ids row with
 |none=>rfl
 |some p=>obtain ⟨a,b⟩:=p;rfl
theorem a4Z (fuel pos m:Nat) (row:List V) (ids1:List Nat):lb1 h fuel pos m (some (row,ids1))=lb2 ⟨m,true,[row]⟩ (cT h fuel (pos+1) ids1):=rfl
theorem a7I (k:Blk) (r:List Blk) (ids:List Nat):lb2 k (some (r,ids))=some (k::r,ids):=rfl
theorem b6l (n:Nat):dc [] [] n=[]:=rfl
theorem b6i (k:Blk) (r:List Blk) (n:Nat):dc [] (k::r) n=n::dc [] r (n+1000000):=rfl
theorem b6e (i:Nat) (ids:List Nat) (k:Blk) (r:List Blk) (n:Nat):dc (i::ids) (k::r) n=dc ids r n:=rfl
def cpw (new:Nat) (ids bor:List Nat) (r:V) (bs:List Blk) (ns:List Nat):Option (V×Upd):=some (DF (ids++ns) r,jP (ids++ns) (bs.map (hU (ids++ns)))++br (bor.isEmpty||(uD r&&bs.all xd)) [] (f8 bor))
theorem b4I (new:Nat) (ids bor:List Nat) (r:V) (bs:List Blk) (ns:List Nat):cpw new ids bor r bs ns=some (DF (ids++ns) r,jP (ids++ns) (bs.map (hU (ids++ns)))++br (bor.isEmpty||(uD r&&bs.all xd)) [] (f8 bor)):=rfl
theorem YA (new:Nat) (ids bor:List Nat) (r:V) (bs:List Blk):EY h new ids bor (some (r,bs))=
 br (Nat.ble ids.length bs.length&&(dc ids bs new).all (fun b=>(h b).isNone)) (cpw new ids bor r bs (dc ids bs new)) none:=by
 simp only [EY,wO,cpw,KE]
 generalize (dc ids bs new).all (fun b=>(h b).isNone)=c3
 generalize (bor.isEmpty||(uD r&&bs.all xd))=c4
 by_cases h1:ids.length≤bs.length
 ·rw [decide_eq_true h1];cases c3<;>cases c4<;>simp [h1,br]
 ·rw [decide_eq_false h1];cases c3<;>cases c4<;>simp [h1,br]
theorem a2y (ids:List Nat) (vs:List V):DF ids (.tup vs)= .tup (vs.map (mm ids)):=rfl
theorem a2F (ids:List Nat) (vs:List V):DF ids (.agg vs)= .agg (vs.map (unV ids)):=rfl
theorem a3U (ids:List Nat) (v:Value):DF ids (.lit v)= .lit v:=rfl
theorem a3t (ids:List Nat) (b i o m:Nat):DF ids (.ptr b i o m)= .ptr (ids.getD b 0) i o m:=rfl
theorem a2I (ids:List Nat) (b s q:Nat):DF ids (.sl b s q)= .sl (ids.getD b 0) s q:=rfl
theorem a3z (ids:List Nat) (vs:List V):mm ids (.agg vs)= .agg (vs.map (unV ids)):=rfl
theorem a43 (ids:List Nat) (v:Value):mm ids (.lit v)= .lit v:=rfl
theorem a2P (ids:List Nat) (b i o m:Nat):mm ids (.ptr b i o m)= .ptr (ids.getD b 0) i o m:=rfl
theorem a39 (ids:List Nat) (b s q:Nat):mm ids (.sl b s q)= .sl (ids.getD b 0) s q:=rfl
theorem a9X (ids:List Nat) (v:Value):unV ids (.lit v)= .lit v:=rfl
theorem a4K (ids:List Nat) (f:FuncId) (cs:List V):mm ids (.fn f cs)= .fn f (cs.map (unV ids)):=rfl
theorem b0b (ids:List Nat) (b i o m:Nat):unV ids (.ptr b i o m)= .ptr (ids.getD b 0) i o m:=rfl
theorem a5t (ids:List Nat) (m:Nat) (r:List (List V)):hU ids ⟨m,false,r⟩=⟨m,false,r⟩:=rfl
theorem a48 (ids:List Nat) (m:Nat) (row:List V):hU ids ⟨m,true,[row]⟩=⟨m,true,[row.map (mm ids)]⟩:=rfl
theorem b4c (v:Value):uD (.lit v)=true:=rfl
theorem b2Q (vs:List V):uD (.agg vs)=vs.all py:=rfl
theorem b2T (vs:List V):uD (.tup vs)=vs.all Mg:=rfl
theorem b3c (b i o m:Nat):uD (.ptr b i o m)=true:=rfl
theorem b4G (b s q:Nat):uD (.sl b s q)=true:=rfl
theorem a9m (v:Value):Mg (.lit v)=true:=rfl
theorem a8S (vs:List V):Mg (.agg vs)=vs.all py:=rfl
theorem b1z (v:Value):py (.lit v)=true:=rfl
theorem b4s (f:FuncId) (cs:List V):py (.fn f cs)=false:=rfl
theorem b0Q (b i o m:Nat):py (.ptr b i o m)=true:=rfl
theorem a8B (b s q:Nat):py (.sl b s q)=true:=rfl
theorem b3d (m:Nat) (r:List (List V)):xd ⟨m,false,r⟩=false:=rfl
theorem b4R (m:Nat) (row:List V):xd ⟨m,true,[row]⟩=row.all py:=by simp [xd]
def a8W (raw:Bool) (m:Nat):Option (List V)→Option (List Blk)→Option (V×List Blk)
 |some vs',some bs=>br (Nat.ble m 1000) (some ((a04 vs').czR,br raw bs (bs.map Blk.cz))) none
 |_,_=>none
def UU (keep raw:Bool) (m:Nat) (h:aw):Option (List V)→Option (V×List Blk)
 |some vs=>a8W raw m (ux h m (br keep (j4 raw h m vs) []) vs) (sN h m (br keep (j4 raw h m vs) []) (List.range m++(br keep (j4 raw h m vs) [])))
 |none=>none
theorem a1U (nt:Nat) (body:ae) (res:List Hy) (keep raw:Bool) (m:Nat) (st:St) (x:ai) (hx:x= .ret∨x= .normal):a08 ⟨nt,body,res,keep,raw⟩ m x st=UU keep raw m st.heap (jE st res):=by
 have hk: ∀vs:List V,(if keep=true then j4 raw st.heap m vs else [])=br keep (j4 raw st.heap m vs) []:=fun vs=>by cases keep<;>rfl
 have:a08 ⟨nt,body,res,keep,raw⟩ m x st=a08 ⟨nt,body,res,keep,raw⟩ m .ret st:=by rcases hx with rfl|rfl<;>rfl
 rw [this]
 simp only [a08,kM,UU,a8W,W2,hk,KE]
 cases jE st res with
 |none=>rfl
 |some vs=>
  dsimp only
  cases ux st.heap m (br keep (j4 raw st.heap m vs) []) vs with
  |none=>rfl
  |some vs'=>
   cases sN st.heap m (br keep (j4 raw st.heap m vs) []) (List.range m++(br keep (j4 raw st.heap m vs) [])) with
   |none=>rfl
   |some bs=>by_cases h1:m≤1000<;>cases raw<;>simp [h1,br]
theorem a7j (nt:Nat) (body:ae) (res:List Hy) (keep raw:Bool) (m:Nat) (st:St):a08 ⟨nt,body,res,keep,raw⟩ m .ret st=UU keep raw m st.heap (jE st res):=a1U _ _ _ _ _ _ _ _ (.inl rfl)
theorem WA (nt:Nat) (body:ae) (res:List Hy) (keep raw:Bool) (m:Nat) (st:St):a08 ⟨nt,body,res,keep,raw⟩ m .normal st=UU keep raw m st.heap (jE st res):=a1U _ _ _ _ _ _ _ _ (.inr rfl)
theorem a3g (keep raw:Bool) (m:Nat) (vs:List V):UU keep raw m h (some vs)=a8W raw m (ux h m (br keep (j4 raw h m vs) []) vs) (sN h m (br keep (j4 raw h m vs) []) (List.range m++(br keep (j4 raw h m vs) []))):=rfl
theorem a3c (raw:Bool) (m:Nat) (vs:List V) (bs:List Blk):a8W raw m (some vs) (some bs)=br (Nat.ble m 1000) (some ((a04 vs).czR,br raw bs (bs.map Blk.cz))) none:=rfl
def rs1:Option V→Option (List V)→Option (List V)
 |some v,some vs=>some (v::vs)
 |_,_=>none
theorem a6j (st:St):jE st []=some []:=rfl
theorem a2E (st:St) (r:Hy) (rs:List Hy):jE st (r::rs)=rs1 (J7 st r) (jE st rs):=by
 simp only [jE,rs1]
 cases J7 st r<;>cases jE st rs<;>rfl
theorem a6H (v:V) (vs:List V):rs1 (some v) (some vs)=some (v::vs):=rfl
theorem b0T (st:St) (t:Nat):J7 st (.tmp t)=some (st.get t):=rfl
theorem a6J (st:St) (t:Nat) (g:Option Nat):J7 st (.cell t g)=sX g st.heap (st.get t):=rfl
def b7M:Option V→Option (List V)→Option (List V)
 |some v,some vs=>some (v::vs)
 |_,_=>none
theorem a44 (m:Nat) (kp:List Nat):ux h m kp []=some []:=rfl
theorem a0j (m:Nat) (kp:List Nat) (v:V) (r:List V):ux h m kp (v::r)=rs1 (KK h m kp v) (ux h m kp r):=by
 simp only [ux,rs1]
 cases KK h m kp v<;>cases ux h m kp r<;>rfl
theorem a3O (m:Nat) (kp:List Nat):qA h m kp []=some []:=rfl
theorem Nl (m:Nat) (kp:List Nat) (v:V) (r:List V):qA h m kp (v::r)=rs1 (rA h m kp v) (qA h m kp r):=by
 simp only [qA,rs1]
 cases rA h m kp v<;>cases qA h m kp r<;>rfl
def fag:Option (List V)→Option V
 |some cs=>some (.agg cs)
 |none=>none
theorem a7W (m:Nat) (kp:List Nat) (cs:List V):KK h m kp (.agg cs)=fag (qA h m kp cs):=by
 simp only [KK,fag]
 cases qA h m kp cs<;>rfl
theorem a8d (cs:List V):fag (some cs)=some (.agg cs):=rfl
theorem a6C (m:Nat) (kp:List Nat) (v:Value):KK h m kp (.lit v)=some (.lit v):=rfl
theorem a5Y (m:Nat) (kp:List Nat) (v:Value):rA h m kp (.lit v)=some (.lit v):=rfl
def b0v:Option (V×List Nat)→Option V
 |some (v,_)=>some v
 |none=>none
def fcO (h:aw) (m:Nat) (kp:List Nat) (b s q:Nat):Option V:=br (Nat.blt b m) (some (.sl b s q)) (br (kp.contains b) (some (.sl (m+kT b kp) s q)) (b0v (nu h (.sl b s q))))
theorem Mt (m:Nat) (kp:List Nat) (b s q:Nat):rA h m kp (.sl b s q)=fcO h m kp b s q:=by
 simp only [rA,fcO,KM,b0v]
 by_cases h1:b<m
 ·simp [h1,br]
 ·by_cases h2:b∈kp
  ·simp [h1,h2,br]
  ·have:kp.contains b=false:=by simpa using h2
   simp only [h1,h2,this,if_false,decide_false,ak]
   cases nu h (.sl b s q)<;>rfl
theorem a5j (m:Nat) (kp:List Nat) (b s q:Nat):KK h m kp (.sl b s q)=fcO h m kp b s q:=Mt m kp b s q
theorem b5m (m:Nat) (kp:List Nat) (b s q:Nat):fcO h m kp b s q=br (Nat.blt b m) (some (.sl b s q)) (br (kp.contains b) (some (.sl (m+kT b kp) s q)) (b0v (nu h (.sl b s q)))):=rfl
theorem a1X (v:V) (bs:List Nat):b0v (some (v,bs))=some v:=rfl
def fcP (m:Nat) (kp:List Nat) (b i o q:Nat):Option V:=br (Nat.blt b m) (some (.ptr b i o q)) (br (kp.contains b) (some (.ptr (m+kT b kp) i o q)) none)
theorem NN (m:Nat) (kp:List Nat) (b i o q:Nat):rA h m kp (.ptr b i o q)=fcP m kp b i o q:=by
 simp only [rA,fcP,KM]
 by_cases h1:b<m
 ·simp [h1,br]
 ·by_cases h2:b∈kp
  ·simp [h1,h2,br]
  ·have:kp.contains b=false:=by simpa using h2
   simp [h1,h2,this,br]
theorem a4h (m:Nat) (kp:List Nat) (b i o q:Nat):KK h m kp (.ptr b i o q)=fcP m kp b i o q:=NN (h:=h) m kp b i o q
theorem b3k (m:Nat) (kp:List Nat) (b i o q:Nat):fcP m kp b i o q=br (Nat.blt b m) (some (.ptr b i o q)) (br (kp.contains b) (some (.ptr (m+kT b kp) i o q)) none):=rfl
def fb2:Option Blk→Option (List Blk)→Option (List Blk)
 |some k,some r=>some (k::r)
 |_,_=>none
def fb1 (h:aw) (m:Nat) (kp r:List Nat):Option Blk→Option (List Blk)
 |some k=>fb2 (TV h m kp k) (sN h m kp r)
 |none=>none
theorem a26 (m:Nat) (kp:List Nat):sN h m kp []=some []:=rfl
theorem a0k (m:Nat) (kp:List Nat) (b:Nat) (r:List Nat):sN h m kp (b::r)=fb1 h m kp r (h b):=by
 simp only [sN,fb1,fb2]
 cases h b with
 |none=>rfl
 |some k=>dsimp only;cases TV h m kp k<;>cases sN h m kp r<;>rfl
theorem a8h (m:Nat) (kp r:List Nat) (k:Blk):fb1 h m kp r (some k)=fb2 (TV h m kp k) (sN h m kp r):=rfl
theorem a6e (k:Blk) (r:List Blk):fb2 (some k) (some r)=some (k::r):=rfl
theorem b04 (m:Nat) (kp:List Nat) (q:Nat) (r:List (List V)):TV h m kp ⟨q,false,r⟩=some ⟨q,false,r⟩:=rfl
def fbO (q:Nat):Option (List V)→Option Blk
 |some row=>some ⟨q,true,[row]⟩
 |none=>none
theorem a3f (m:Nat) (kp:List Nat):xk h m kp []=some []:=rfl
theorem OX (m:Nat) (kp:List Nat) (v:V) (r:List V):xk h m kp (v::r)=rs1 (KU h m kp v) (xk h m kp r):=by
 simp only [xk,rs1]
 cases KU h m kp v<;>cases xk h m kp r<;>rfl
def fnR (f:FuncId):Option (List V)→Option V
 |some cs=>some (.fn f cs)
 |none=>none
theorem a7k (f:FuncId) (cs:List V):fnR f (some cs)=some (.fn f cs):=rfl
theorem a4R (m:Nat) (kp:List Nat) (f:FuncId):KU h m kp (.fn f [])=some (.fn f []):=rfl
theorem b1l (m:Nat) (kp:List Nat) (f:FuncId) (c:V) (cs:List V):KU h m kp (.fn f (c::cs))=fnR f (qA h m kp (c::cs)):=by
 simp only [KU,fnR]
 cases qA h m kp (c::cs)<;>rfl
theorem a7S (m:Nat) (kp:List Nat) (v:Value):KU h m kp (.lit v)=some (.lit v):=rfl
theorem a53 (m:Nat) (kp:List Nat) (b s q:Nat):KU h m kp (.sl b s q)=fcO h m kp b s q:=Mt m kp b s q
theorem a88 (m:Nat) (kp:List Nat) (b i o q:Nat):KU h m kp (.ptr b i o q)=fcP m kp b i o q:=NN (h:=h) m kp b i o q
theorem b0N (m:Nat) (kp:List Nat) (q:Nat) (row:List V):TV h m kp ⟨q,true,[row]⟩=fbO q (xk h m kp row):=by
 simp only [TV,BY,fbO]
 cases xk h m kp row<;>rfl
theorem a5v (q:Nat) (row:List V):fbO q (some row)=some ⟨q,true,[row]⟩:=rfl
theorem a5U (t u:Nat) (v:V) (r:List (Nat×V)) (m:List (Nat×Blk)):St.get ⟨(u,v)::r,m⟩ t=if u=t then v else St.get ⟨r,m⟩ t:=by
 simp only [St.get,dn]
 split<;>rfl
theorem b1i (t:Nat) (m:List (Nat×Blk)):St.get ⟨[],m⟩ t= .undef:=rfl
theorem a3j (b c:Nat) (k:Blk) (r:List (Nat×Blk)) (x:List (Nat×V)):St.heap ⟨x,(c,k)::r⟩ b=if c=b then some k else St.heap ⟨x,r⟩ b:=rfl
theorem a7e (b:Nat) (x:List (Nat×V)):St.heap ⟨x,[]⟩ b=none:=rfl
theorem a6t (x:List (Nat×V)) (m:List (Nat×Blk)) (d:Nat) (v:V):St.put ⟨x,m⟩ (some d) v=⟨(d,v)::x,m⟩:=rfl
theorem a4D (st:St) (v:V):st.put none v=st:=rfl
theorem b40 (x:List (Nat×V)) (m:List (Nat×Blk)) (u:Upd):St.upd ⟨x,m⟩ u=⟨x,V2 m u⟩:=rfl
theorem b1f (st:St):st.upd []=st:=rfl
theorem a5O (m:List (Nat×Blk)):V2 m []=m:=rfl
theorem a3I (m:List (Nat×Blk)) (b:Nat) (k:Blk) (r:Upd):V2 m ((b,k)::r)=V2 (fu b k m) r:=rfl
theorem a7K {β:Type} (k:Nat) (v:β):fu k v []=[(k,v)]:=rfl
theorem a32 {β:Type} (k j:Nat) (v u:β) (r:List (Nat×β)):fu k v ((j,u)::r)=if j=k then (j,v)::r else (j,u)::fu k v r:=rfl
theorem b7H (st:St) (t:Nat):st.ev (.t t)=st.get t:=rfl
theorem b7F (st:St) (v:Value):st.ev (.c v)= .lit v:=rfl
theorem b7z (st:St) (f:FuncId):st.ev (.f f)= .fn f []:=rfl
theorem b08 (live:List Nat) (x:List (Nat×V)) (m:List (Nat×Blk)):trim live ⟨x,m⟩=⟨live.map fun t=>(t,St.get ⟨x,m⟩ t),m⟩:=rfl
theorem a0c {β:Type} (n:Nat):o8 n ([]:List β)=[]:=rfl
theorem XZ {β:Type} (n:Nat) (x:β) (r:List β):o8 n (x::r)=(n,x)::o8 (n+1) r:=rfl
theorem start_eq (a:List V) (b:List Blk):start a b=⟨o8 0 a,o8 0 b⟩:=rfl
theorem Xv:en ev []=[]:=rfl
theorem Tq (a b:Nat) (x:Opd) (r:List (Nat×Nat×Opd)):en ev ((a,b,x)::r)=(a,b,ev x)::en ev r:=rfl
theorem a3o (cs:List V):JY cs []=some cs:=rfl
theorem a0n (cs:List V) (off size:Nat) (v:V) (r:List (Nat×Nat×V)):JY cs ((off,size,v)::r)=br (Nat.beq v.cells.length size&&Nat.ble (off+size) cs.length&&v.cells.all V.cell) (JY (cs.take off++(v.cells++cs.drop (off+size))) r) none:=rfl
theorem a2W (m:Nat) (r:List (List V)):H5 m r []=some r:=rfl
theorem a0p (m:Nat) (rows:List (List V)) (i:Nat) (v:V) (r:List (Nat×V)):H5 m rows ((i,v)::r)=br (Nat.beq v.cells.length m&&(Nat.blt i rows.length&&v.cells.all V.cell)) (H5 m (rows.set i v.cells) r) none:=rfl
theorem a4e (cs:List V):(V.agg cs).cells=cs:=rfl
theorem QL (v:Value):(V.lit v).cells=[.lit v]:=rfl
theorem a2v (b s q:Nat):(V.sl b s q).cells=[.sl b s q]:=rfl
theorem a4a (b i o m:Nat):(V.ptr b i o m).cells=[.ptr b i o m]:=rfl
theorem a5h (f:FuncId) (cs:List V):(V.fn f cs).cells=[.fn f cs]:=rfl
theorem XM (k:IntKind) (a:Int):(V.lit (.int k a)).cell=true:=rfl
theorem a2g (a:Bool):(V.lit (.bool a)).cell=true:=rfl
theorem a8b (a:ByteArray):(V.lit (.string a)).cell=true:=rfl
theorem a4k (a:Option Addr) (n m:Nat):(V.lit (.slice a n m)).cell=true:=rfl
theorem a6G (b s q:Nat):(V.sl b s q).cell=true:=rfl
theorem a4A (b i o m:Nat):(V.ptr b i o m).cell=true:=rfl
theorem b0t (f:FuncId) (cs:List V):(V.fn f cs).cell=true:=rfl
theorem a95 (k:IntKind) (a:Int):aS (.int k a)=true:=rfl
theorem a50 (a:Bool):aS (.bool a)=true:=rfl
theorem b0H (a:ByteArray):aS (.string a)=true:=rfl
theorem b0O (a:Option Addr) (n m:Nat):aS (.slice a n m)=true:=rfl
theorem a3s:f8 []=[]:=rfl
theorem ZA (b:Nat) (r:List Nat):f8 (b::r)=(b,dR)::f8 r:=rfl
theorem b0Z (ids:List Nat):jP ids []=[]:=by cases ids<;>rfl
theorem a5M (i:Nat) (ids:List Nat) (k:Blk) (r:List Blk):jP (i::ids) (k::r)=(i,k)::jP ids r:=rfl
theorem a8s (b x:Nat) (r:List Nat):kT b (x::r)=if x=b then 0 else kT b r+1:=rfl
theorem a42 (ids:List Nat) (b:Nat):fS ids b=br (ids.contains b) ids (ids++[b]):=by
 unfold fS
 by_cases h:b∈ids<;>simp [h,br]
theorem a8w (v:V):a04 [v]=v:=rfl
theorem a6A:a04 []= .tup []:=rfl
theorem a4C (a b:V) (r:List V):a04 (a::b::r)= .tup (a::b::r):=rfl
theorem Zq (o:List Nat) (a:List V):oC o a=br (o.contains 1000) a (a.map V.czA):=by
 unfold oC;cases o.contains 1000<;>rfl
theorem Zb (o:List Nat) (a:List Blk):oV o a=br (o.contains 1000) a (a.map Blk.cz):=by
 unfold oV;cases o.contains 1000<;>rfl
def Zk (st:St) (bs:List Nat):St:={ e:=Nr (fzA st.heap bs) st.e,m:=fzM st.heap bs st.m }
theorem a62 (st:St) (bs:List Nat):bN st (.close bs)=br (bs.all (fun b=>Nat.ble 1000 b)) (some (Zk st bs)) none:=by
 simp only [bN,Zk,KE]
 cases bs.all (fun b=>decide (1000≤b))<;>rfl
theorem a3H (x:List (Nat×V)) (m:List (Nat×Blk)) (bs:List Nat):Zk ⟨x,m⟩ bs=⟨Nr (fzA (St.heap ⟨x,m⟩) bs) x,fzM (St.heap ⟨x,m⟩) bs m⟩:=rfl
theorem a6h (g:V→V):Nr g []=[]:=rfl
theorem a3d (g:V→V) (t:Nat) (v:V) (r:List (Nat×V)):Nr g ((t,v)::r)=(t,g v)::Nr g r:=rfl
variable {bs:List Nat}
theorem b5j (v:Value):fzA h bs (.lit v)= .lit v:=rfl
theorem a60:fzA h bs .undef= .undef:=rfl
def fzO:Option (V×List Nat)→V
 |some (v,_)=>v.cz
 |none=> .undef
theorem a6g (b s q:Nat):fzA h bs (.sl b s q)=br (bs.contains b) (fzO (nu h (.sl b s q))) (.sl b s q):=by
 simp only [fzA,fzC,fzO]
 by_cases hb:b∈bs
 ·simp [hb,br];cases nu h (.sl b s q)<;>rfl
 ·simp [hb,br]
theorem a4o (b i o m:Nat):fzA h bs (.ptr b i o m)=br (bs.contains b) .undef (.ptr b i o m):=by
 simp only [fzA,fzC]
 by_cases hb:b∈bs<;>simp [hb,br]
theorem a7g (v:V) (b:List Nat):fzO (some (v,b))=v.cz:=rfl
theorem b3F (cs:List V):fzA h bs (.agg cs)=br ((cs.map (fzC h bs)).all V.cell) (.agg (cs.map (fzC h bs))) .undef:=by
 simp only [fzA]
 cases (cs.map (fzC h bs)).all V.cell<;>rfl
theorem b2l (f:FuncId) (cs:List V):fzA h bs (.fn f cs)=br (cs.all okC&& !(cs.flatMap A9).any (fun b=>bs.contains b)) (.fn f cs) .undef:=by
 simp only [fzA,fzC]
 have:(fun b=>decide (b∈bs))=fun b=>bs.contains b:=by funext b;simp [Bool.eq_iff_iff]
 rw [this]
 cases (cs.all okC&& !(cs.flatMap A9).any (fun b=>bs.contains b))<;>rfl
theorem a8D (v:Value):fzC h bs (.lit v)= .lit v:=rfl
theorem b3t (f:FuncId) (cs:List V):fzC h bs (.fn f cs)=br (cs.all okC&& !(cs.flatMap A9).any (fun b=>bs.contains b)) (.fn f cs) .undef:=b2l (h:=h) f cs
theorem b1c (b i o m:Nat):okC (.ptr b i o m)=true:=rfl
theorem b0E (b s q:Nat):fzC h bs (.sl b s q)=br (bs.contains b) (fzO (nu h (.sl b s q))) (.sl b s q):=a6g b s q
theorem b0e (b i o m:Nat):fzC h bs (.ptr b i o m)=br (bs.contains b) .undef (.ptr b i o m):=a4o (h:=h) b i o m
theorem a9C:fzM h bs []=[]:=rfl
def fzK (h:aw) (bs:List Nat) (k:Blk):Blk:=if k.op then (if (k.rows.map (·.map (fzC h bs))).all (·.all V.cell) then { k with rows:=k.rows.map (·.map (fzC h bs)) } else dR) else k
theorem a7a (b:Nat) (k:Blk) (r:List (Nat×Blk)):fzM h bs ((b,k)::r)=br (bs.contains b) (fzM h bs r) ((b,fzK h bs k)::fzM h bs r):=by
 simp only [fzM,fzK]
 by_cases hb:b∈bs<;>simp [hb,br]
theorem b2O (m:Nat) (r:List (List V)):fzK h bs ⟨m,false,r⟩=⟨m,false,r⟩:=rfl
theorem b4W (m:Nat) (row:List V):fzK h bs ⟨m,true,[row]⟩=br ((row.map (fzC h bs)).all V.cell) ⟨m,true,[row.map (fzC h bs)]⟩ dR:=by
 simp only [fzK,List.map_cons,List.map_nil,List.all_cons,List.all_nil,Bool.and_true,if_true]
 cases (row.map (fzC h bs)).all V.cell<;>rfl
section
variable {R:Type} {T:Tab} {ow:dg} {k:ai→St→Option R} {d:Option Nat} {n:Nat} {ss:List bi} {live:List Nat} {K:List Fr} {st:St} {base i:Nat} {deps:List (List Nat)} {rs:List Rec} {fp:List Nat} {r:R}
theorem a5m {h:aw} {new:Nat} {ids bor:List Nat} {x:Option (V×List Blk)} {p:V×List Blk} (hx:x=some p) (hr:aft T ow k d n ss live K st (EY h new ids bor (some p))=some r):aft T ow k d n ss live K st (EY h new ids bor x)=some r:=by
 rw [hx];exact hr
theorem a2H {h:aw} {new:Nat} {ids bor:List Nat} {x:Option (V×List Blk)} {p:V×List Blk} (hx:x=some p) (hr:MN T ow k d base i ss deps live rs K st fp (EY h new ids bor (some p))=some r):MN T ow k d base i ss deps live rs K st fp (EY h new ids bor x)=some r:=by
 rw [hx];exact hr
theorem b6A (b:Int):nn b=decide (0≤b):=rfl
theorem b6y (b:Int):nz b=decide (b≠0):=rfl
theorem b3E (i:Int) (n:Nat):inb i n=(decide (0≤i)&&decide (i.toNat<n)):=rfl
end
end
section
variable {ow:dg} {ev:Opd→V} {h:aw} {α:Type} {e:En α} {l:List α}
theorem b66 (x:Opd):jK ow (.mv x) ev h=[]:=rfl
theorem a9U (c a b:Opd):jK ow (.pick c a b) ev h=((AOp.pick c a b).opds.map ev).flatMap md:=rfl
theorem a9x (c a b:Opd):(AOp.pick c a b).opds=[c,a,b]:=rfl
theorem a5J (z:List Value):jK ow (.alloc z) ev h=((AOp.alloc z).opds.map ev).flatMap md:=rfl
theorem a7O (z:List Value):(AOp.alloc z).opds=[]:=rfl
theorem a7r (z:List Value) (ps:List (Nat×Nat×Opd)):jK ow (.build z ps) ev h=((AOp.build z ps).opds.map ev).flatMap md:=rfl
theorem a4p (z:List Value) (ps:List (Nat×Nat×Opd)):(AOp.build z ps).opds=ps.map (·.2.2):=rfl
theorem Q9 (m:Nat) (z:List Value) (l:Nat) (ps:List (Nat×Opd)):jK ow (.buildSlice m z l ps) ev h=((AOp.buildSlice m z l ps).opds.map ev).flatMap md:=rfl
theorem Qm (m:Nat) (z:List Value) (l:Nat) (ps:List (Nat×Opd)):(AOp.buildSlice m z l ps).opds=ps.map (·.2):=rfl
theorem b1V (g:Option Nat) (x:Opd):jK ow (.load g x) ev h=((AOp.load g x).opds.map ev).flatMap md:=rfl
theorem b28 (g:Option Nat) (x:Opd):(AOp.load g x).opds=[x]:=rfl
theorem a6U (m:Nat) (x y:Opd):jK ow (.store m x y) ev h=((AOp.store m x y).opds.map ev).flatMap md:=rfl
theorem a7T (m:Nat) (x y:Opd):(AOp.store m x y).opds=[x,y]:=rfl
theorem UW (x:Opd):jK ow (.nilCheck x) ev h=((AOp.nilCheck x).opds.map ev).flatMap md:=rfl
theorem X2 (x:Opd):(AOp.nilCheck x).opds=[x]:=rfl
theorem b4u (op:BinOp) (x y:Opd):jK ow (.bin op x y) ev h=((AOp.bin op x y).opds.map ev).flatMap md:=rfl
theorem b3p (op:BinOp) (x y:Opd):(AOp.bin op x y).opds=[x,y]:=rfl
theorem a52 (b:Bool) (ks:List Bool) (x y:Opd):jK ow (.eqAgg b ks x y) ev h=((AOp.eqAgg b ks x y).opds.map ev).flatMap md:=rfl
theorem a5l (b:Bool) (ks:List Bool) (x y:Opd):(AOp.eqAgg b ks x y).opds=[x,y]:=rfl
theorem b5X (op:UnOp) (x:Opd):jK ow (.un op x) ev h=((AOp.un op x).opds.map ev).flatMap md:=rfl
theorem b6z (op:UnOp) (x:Opd):(AOp.un op x).opds=[x]:=rfl
theorem a5i (k:IntKind) (x:Opd):jK ow (.toInt k x) ev h=((AOp.toInt k x).opds.map ev).flatMap md:=rfl
theorem a6B (k:IntKind) (x:Opd):(AOp.toInt k x).opds=[x]:=rfl
theorem Yr (x:Opd):jK ow (.toBytes x) ev h=((AOp.toBytes x).opds.map ev).flatMap md:=rfl
theorem Yp (x:Opd):(AOp.toBytes x).opds=[x]:=rfl
theorem a5b (x:Opd):jK ow (.toStr x) ev h=((AOp.toStr x).opds.map ev).flatMap md:=rfl
theorem a7U (x:Opd):(AOp.toStr x).opds=[x]:=rfl
theorem XV (f:FuncId) (cs:List Opd):jK ow (.makeFunc f cs) ev h=[]:=rfl
theorem VU (x:Opd) (lo hi:Option Opd):jK ow (.sliceStr x lo hi) ev h=((AOp.sliceStr x lo hi).opds.map ev).flatMap md:=rfl
theorem XB (x:Opd) (lo hi:Option Opd):(AOp.sliceStr x lo hi).opds=x::(Fc lo++Fc hi):=rfl
theorem a4T (m:Nat) (x:Opd) (lo hi mx:Option Opd):jK ow (.slice m x lo hi mx) ev h=((AOp.slice m x lo hi mx).opds.map ev).flatMap md:=rfl
theorem a7M (m:Nat) (x:Opd) (lo hi mx:Option Opd):(AOp.slice m x lo hi mx).opds=x::(Fc lo++(Fc hi++Fc mx)):=rfl
theorem b4B (m:Nat) (x:Opd):jK ow (.off m x) ev h=[]:=rfl
theorem b4T (m:Nat) (x y:Opd):jK ow (.idx m x y) ev h=((AOp.idx m x y).opds.map ev).flatMap md:=rfl
theorem b42 (m:Nat) (x y:Opd):(AOp.idx m x y).opds=[x,y]:=rfl
theorem a37 (m q:Nat) (x y:Opd):jK ow (.idxArr m q x y) ev h=((AOp.idxArr m q x y).opds.map ev).flatMap md:=rfl
theorem a3m (m q:Nat) (x y:Opd):(AOp.idxArr m q x y).opds=[x,y]:=rfl
theorem a54 (x y:Opd):jK ow (.ixStr x y) ev h=((AOp.ixStr x y).opds.map ev).flatMap md:=rfl
theorem a6p (x y:Opd):(AOp.ixStr x y).opds=[x,y]:=rfl
theorem b3r (x:Opd) (i:Nat):jK ow (.ext x i) ev h=[]:=rfl
theorem b47 (b:Bool) (x:Opd):jK ow (.len b x) ev h=[]:=rfl
theorem a2B (m b:Nat) (z:List Value) (x y:Opd):jK ow (.append m b z x y) ev h=((AOp.append m b z x y).opds.map ev).flatMap md:=rfl
theorem a4b (m b:Nat) (z:List Value) (x y:Opd):(AOp.append m b z x y).opds=[x,y]:=rfl
theorem W9 (x:Opd):jK ow (.bytesOwn x) ev h=((AOp.bytesOwn x).opds.map ev).flatMap md:=rfl
theorem Xf (x:Opd):(AOp.bytesOwn x).opds=[x]:=rfl
theorem b2V (x:Opd):Fc (some x)=[x]:=rfl
theorem b4l:Fc none=[]:=rfl
def fpC:Option (List V×List Blk×List Nat×List Nat)→List Nat
 |some (_,_,ids,bor)=>ids++bor
 |none=>[]
theorem a73 (a:List V) (b:List Blk) (ids bor:List Nat):fpC (some (a,b,ids,bor))=ids++bor:=rfl
theorem b06 (f:FuncId) (args:List Opd):jK ow (.call f args) ev h=fpC (cI ow h f (args.map ev)):=by
 show Ig ow h f (args.map ev)=_
 unfold Ig fpC
 cases cI ow h f (args.map ev)<;>rfl
def fpD (ow:dg) (h:aw) (args:List V):V→List Nat
 | .fn k caps=>fpC (cI ow h k (args++caps))
 |_=>[]
theorem b5l (f:Opd) (args:List Opd):jK ow (.dyn f args) ev h=fpD ow h (args.map ev) (ev f):=by
 show (match ev f with
  | .fn k caps=>Ig ow h k (args.map ev++caps)
  |_=>[])=_
 cases ev f<;>first|rfl| (simp only [fpD,Ig,fpC];cases cI ow h _ _<;>rfl)
theorem b2Z (args:List V) (k:FuncId) (caps:List V):fpD ow h args (.fn k caps)=fpC (cI ow h k (args++caps)):=rfl
theorem a9N (cs:List V):md (.agg cs)=cs.flatMap A9:=rfl
theorem b1h (v:Value):md (.lit v)=[]:=rfl
theorem a6s (r:List V) (o:Nat):md (.iptr r o)=[]:=rfl
theorem a9l (b i o m:Nat):md (.ptr b i o m)=[b]:=rfl
theorem b1Z (b s q:Nat):md (.sl b s q)=[b]:=rfl
theorem b0G (v:Value):A9 (.lit v)=[]:=rfl
theorem b1o (b i o m:Nat):A9 (.ptr b i o m)=[b]:=rfl
theorem a8N (b s q:Nat):A9 (.sl b s q)=[b]:=rfl
theorem WW (fp:List Nat) (b:Nat):mU h fp b=br (fp.contains b) (h b) none:=by
 unfold mU
 by_cases hb:b∈fp<;>simp [hb,br]
theorem a9W (rs:List Rec) (i:Nat) (fp wr:List Nat):a86 rs i fp wr=br (fp.isEmpty&&wr.isEmpty) rs (rs++[⟨i,fp,wr⟩]):=by
 have h:Rec.loud ⟨i,fp,wr⟩= !(fp.isEmpty&&wr.isEmpty):=rfl
 unfold a86
 cases h1:Rec.loud ⟨i,fp,wr⟩ with
 |true=>
  rw [h1] at h
  have h2:(fp.isEmpty&&wr.isEmpty)=false:=by
   cases hx:fp.isEmpty&&wr.isEmpty with
   |false=>rfl
   |true=>rw [hx] at h;cases h
  rw [h2,ak,List.filter_cons_of_pos h1];rfl
 |false=>
  rw [h1] at h
  have h2:(fp.isEmpty&&wr.isEmpty)=true:=by
   cases hx:fp.isEmpty&&wr.isEmpty with
   |true=>rfl
   |false=>rw [hx] at h;cases h
  rw [h2,aR,List.filter_cons_of_neg (by rw [h1];decide)];simp
theorem a2Z (deps:List (List Nat)):lg deps []=true:=rfl
theorem ZV (deps:List (List Nat)) (p:Rec) (r:List Rec):lg deps (p::r)=(Bm deps p r&&lg deps r):=rfl
theorem a8O (deps:List (List Nat)) (p:Rec):Bm deps p []=true:=rfl
theorem a6Z (deps:List (List Nat)) (i j:Nat) (f g w u:List Nat) (r:List Rec):Bm deps ⟨i,f,w⟩ (⟨j,g,u⟩::r)=((w.isEmpty&&u.isEmpty||(deps.getD j []).contains i|| !(w.any (fun b=>decide (b∈g)||decide (b∈u))||u.any (fun b=>decide (b∈f))))&&Bm deps ⟨i,f,w⟩ r):=rfl
theorem ZX {β:Type} (a d:β) (r:List β):(a::r).getD 0 d=a:=rfl
theorem ZQ {β:Type} (a d:β) (n:Nat) (r:List β):(a::r).getD (n+1) d=r.getD n d:=rfl
theorem b0d (m:Nat) (cs:List V) (n:Nat):b3g m cs h n=br (Nat.beq cs.length m&&cs.all V.cell) (frO (h n) n ⟨m,true,[cs]⟩ (.ptr n 0 0 1)) none:=rfl
theorem aa (x:Int) (h1: -9223372036854775808≤x) (h2:x<9223372036854775808):IntKind.wrap .i64 x=x:=by
 simp [IntKind.wrap,IntKind.bits,IntKind.signed];omega
theorem cX (x:Int) (h1:0≤x) (h2:x<18446744073709551616):IntKind.wrap .u64 x=x:=by
 simp [IntKind.wrap,IntKind.bits,IntKind.signed];omega
theorem a2C (n:Nat):(OfNat.ofNat n:Int)=(n:Int):=rfl
theorem a4v (n:Nat) (h:Nat.ble n 9223372036854775807=true):IntKind.wrap .i64 (no_index (OfNat.ofNat n:Int))=OfNat.ofNat n:=by
 have h1:=Nat.le_of_ble_eq_true h
 rw [a2C];exact aa _ (by omega) (by omega)
theorem b5o (a b:Nat):(a==b)=decide (a=b):=by
 by_cases h:a=b
 ·subst h;simp
 ·rw [decide_eq_false h];simpa using h
theorem b4D:List.range 0=[]:=rfl
theorem YT (m:Nat) (vs:List V):j4 true h m vs=Bi m [] ((List.range m).flatMap fun b=>a7Y (h b)):=rfl
theorem a3r (m:Nat) (vs:List V):j4 false h m vs=Bi m [] (vs.flatMap md):=rfl
theorem b0o (m:Nat) (row:List V):a7Y (some ⟨m,true,[row]⟩)=row.flatMap md:=by simp [a7Y]
theorem b1D (m:Nat) (r:List (List V)):a7Y (some ⟨m,false,r⟩)=[]:=rfl
theorem a3R (m:Nat) (acc:List Nat):Bi m acc []=acc:=rfl
theorem ZK (m b:Nat) (acc r:List Nat):Bi m acc (b::r)=Bi m (br (Nat.ble m b) (fS acc b) acc) r:=by
 simp only [Bi,KE]
 by_cases h:m≤b<;>simp [h,br]
theorem a2U (n:Nat):Int.toNat (no_index (OfNat.ofNat n:Int))=OfNat.ofNat n:=rfl
end
end Go.AI
