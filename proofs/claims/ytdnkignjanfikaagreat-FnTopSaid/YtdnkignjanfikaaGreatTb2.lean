/- Part. -/
import Derived.Test.YtdnkignjanfikaaGreatTb1
import Derived.Test.YtdnkignjanfikaaGreatSo6
set_option maxRecDepth 100000
namespace Go.AI.Fn
def Rx:List (Nat×RL)→Prop
 |[]=>True
 |p::r=>((∃a,p.2= .code a∧OkF p.1 a)∨(∃g,p.2= .ext g∧Jb Proofs.Tryz.prog p.1 g))∧Rx r
theorem okc {k:Nat} {a:j4} (h:OkF k a):(∃b,RL.code a= .code b∧OkF k b)∨(∃g,RL.code a= .ext g∧Jb Proofs.Tryz.prog k g):= .inl ⟨_,rfl,h⟩
theorem a1l:Rx b4z:=⟨okc a3G,okc Uw,okc Zs,okc b7z,okc Ss,okc a1g,okc KW,okc U0,okc Py,okc Sq,okc NA,okc QQ,okc Rz,okc U3,okc Pv,okc Qr,okc R7,okc WH,okc Tw,okc Ka,okc b8M,okc HY,okc a1e,okc RQ,okc a2u,.inr ⟨_,rfl,a9e yJ zo zp⟩,okc TH,okc Nb,okc VT,okc Sm,okc U4,okc NO,okc N1,okc Ih,okc a02,okc Ke,okc Ik,okc NX,okc TB,okc RV,okc Rj,okc QO,okc U8,okc HX,okc JW,okc Im,okc K9,okc a0z,okc a0h,okc XJ,okc Yq,okc b3m,okc W9,okc Zh,okc JT,okc Mg,okc a2Q,okc Qd,okc Pc,okc a0I,okc MP,okc MS,okc Xc,okc Zr,okc Yx,okc Ze,okc GC,okc XZ,okc XO,okc Ng,okc b48,okc Lm,okc tf,okc Nx,okc Z1,okc Pg,okc b39,okc b1y,okc P9,.inr ⟨_,rfl,So.entOK false⟩,okc LB,okc TN,okc Ju,okc FF,okc U7,okc NG,okc GE,okc DB,okc H9,okc D9,okc K6,okc Nc,okc JH,okc U2,okc Wy,okc ZD,okc NQ,okc Tk,okc Yv,okc a0q,okc Up,okc b0r,okc YJ,okc Sj,okc Ue,okc Th,okc b3V,okc T5,okc Wd,okc FE,okc Il,okc K3,okc a7C,okc DE,okc Nf,okc a7H,okc ZS,okc LD,okc Pl,okc rR,okc NF,okc rN,okc L5,okc qz,okc JO,okc a0f,okc ZL,okc a0U,okc vX,okc Qj,okc XE,okc vT,okc YR,okc LH,okc Qu,okc wv,okc a8i,okc S8,okc GV,okc Y8,okc Pi,okc MR,okc Gi,okc TG,okc a0g,okc Yh,okc Wg,okc Y9,okc Tz,okc N4,okc a0n,okc U6,okc TA,okc TC,okc Zn,okc a88,okc a3x,okc Uf,okc Po,okc Xb,okc TZ,okc NB,okc YW,okc a29,okc TW,okc uh,okc uk,okc sQ,okc yK,okc Xn,okc Km,okc P8,okc Nz,okc CD,okc u7,okc EL,okc Wk,okc a3O,okc Pp,okc Jx,okc U9,okc KI,okc ZY,okc b1B,okc Rl,okc Tc,okc Wj,okc YB,okc XX,okc XY,okc a2F,okc B6,okc JD,okc wV,okc a1X,okc Sr,trivial⟩
theorem okL: ∀{l:List (Nat×RL)},Rx l→ ∀p∈l,(∃a,p.2= .code a∧OkF p.1 a)∨(∃g,p.2= .ext g∧Jb Proofs.Tryz.prog p.1 g)
 |[],_,p,hp=>by cases hp
 |q::r,h,p,hp=>by
  rcases List.mem_cons.1 hp with rfl|hp
  ·exact h.1
  ·exact okL h.2 p hp
theorem E3 {α:Type}: ∀{l:List (Nat×α)} {k:Nat} {v:α},eH l k=some v→(k,v)∈l
 |[],_,_,h=>by cases h
 | (j,u)::r,k,v,h=>by
   simp only [eH] at h
   split at h
   ·rename_i e;cases h;subst e;simp
   ·exact List.mem_cons_of_mem _ (E3 h)
theorem tabOK:Bd Proofs.Tryz.prog tab:=by
 refine ⟨fun f af h=> ?_,fun f g h=> ?_⟩
 ·obtain ⟨a,h1,h2⟩|⟨a,h1,h2⟩:=okL a1l _ (E3 h)
  ·cases h1;exact h2
  ·cases h1
 ·obtain ⟨a,h1,h2⟩|⟨a,h1,h2⟩:=okL a1l _ (E3 h)
  ·cases h1
  ·cases h1;exact h2
end Go.AI.Fn
