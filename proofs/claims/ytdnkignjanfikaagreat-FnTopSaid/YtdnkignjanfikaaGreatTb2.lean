/- Part. -/
import Derived.Test.YtdnkignjanfikaaGreatTb1
import Derived.Test.YtdnkignjanfikaaGreatSo6
set_option maxRecDepth 100000
namespace Go.AI.Fn
def Qd:List (Nat×Sw)→Prop
 |[]=>True
 |p::r=>((∃a,p.2= .code a∧OkF p.1 a)∨(∃g,p.2= .ext g∧Iy Proofs.Tryz.prog p.1 g))∧Qd r
theorem okc {k:Nat} {a:j4} (h:OkF k a):(∃b,Sw.code a= .code b∧OkF k b)∨(∃g,Sw.code a= .ext g∧Iy Proofs.Tryz.prog k g):= .inl ⟨_,rfl,h⟩
theorem a1q:Qd b2n:=⟨okc a35,okc TQ,okc a0n,okc b9D,okc R1,okc a0W,okc Kq,okc TC,okc Pm,okc Rh,okc Nr,okc Qy,okc Tn,okc Ur,okc Pk,okc QW,okc Sv,okc Wi,okc T9,okc Kc,okc b8C,okc Ib,okc YN,okc SL,okc a4i,.inr ⟨_,rfl,a8S yA zw zM⟩,okc TZ,okc Nq,okc XE,okc Tp,okc U2,okc MJ,okc N2,okc Ii,okc a0m,okc JA,okc Ie,okc Nk,okc Up,okc Qn,okc Rq,okc Ts,okc U1,okc I5,okc Ju,okc HV,okc Kk,okc Zh,okc Zz,okc X8,okc W5,okc b2G,okc W7,okc Zn,okc Ke,okc Lg,okc a2c,okc Sy,okc Pg,okc a0z,okc N8,okc NI,okc WX,okc Zf,okc XQ,okc Zo,okc Gl,okc Y7,okc WP,okc NL,okc b4P,okc M6,okc ta,okc Nx,okc a1G,okc Pv,okc b2A,okc b4T,okc Pq,.inr ⟨_,rfl,So.entOK false⟩,okc Kp,okc U0,okc Kj,okc G6,okc Uo,okc Nm,okc H4,okc Ew,okc Hf,okc D9,okc Jw,okc NK,okc JZ,okc TX,okc VO,okc a0I,okc Nz,okc Qf,okc XZ,okc ZI,okc Uw,okc b2M,okc a0e,okc Ss,okc TL,okc Ta,okc b42,okc SW,okc XD,okc FB,okc Im,okc Kb,okc a9b,okc DC,okc MQ,okc a8M,okc a0h,okc LG,okc Po,okc si,okc MP,okc rL,okc My,okc qz,okc JR,okc Z8,okc a01,okc ZT,okc vW,okc QJ,okc XG,okc vG,okc YI,okc KH,okc R6,okc wU,okc a6K,okc Rv,okc GH,okc Xt,okc Pj,okc MO,okc Gd,okc TR,okc a0s,okc VV,okc Ww,okc Yq,okc TF,okc Nb,okc ZR,okc Us,okc Uj,okc TJ,okc a0D,okc a7a,okc a36,okc TG,okc Pz,okc Wg,okc Um,okc Nt,okc YX,okc a3v,okc TW,okc ue,okc ud,okc sQ,okc yB,okc W0,okc JI,okc Pe,okc NV,okc Ct,okc uf,okc Eo,okc Wb,okc a4n,okc Px,okc Ki,okc Uv,okc Lv,okc YO,okc b1f,okc Sg,okc QZ,okc Wu,okc ZN,okc XJ,okc WG,okc a2h,okc B7,okc K3,okc wT,okc a1Y,okc Qo,trivial⟩
theorem okL: ∀{l:List (Nat×Sw)},Qd l→ ∀p∈l,(∃a,p.2= .code a∧OkF p.1 a)∨(∃g,p.2= .ext g∧Iy Proofs.Tryz.prog p.1 g)
 |[],_,p,hp=>by cases hp
 |q::r,h,p,hp=>by
  rcases List.mem_cons.1 hp with rfl|hp
  ·exact h.1
  ·exact okL h.2 p hp
theorem DG {α:Type}: ∀{l:List (Nat×α)} {k:Nat} {v:α},eH l k=some v→(k,v)∈l
 |[],_,_,h=>by cases h
 | (j,u)::r,k,v,h=>by
   simp only [eH] at h
   split at h
   ·rename_i e;cases h;subst e;simp
   ·exact List.mem_cons_of_mem _ (DG h)
theorem tabOK:Bn Proofs.Tryz.prog tab:=by
 refine ⟨fun f af h=> ?_,fun f g h=> ?_⟩
 ·obtain ⟨a,h1,h2⟩|⟨a,h1,h2⟩:=okL a1q _ (DG h)
  ·cases h1;exact h2
  ·cases h1
 ·obtain ⟨a,h1,h2⟩|⟨a,h1,h2⟩:=okL a1q _ (DG h)
  ·cases h1
  ·cases h1;exact h2
end Go.AI.Fn
