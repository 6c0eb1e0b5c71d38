/- The words by which runs are walked through, as one set. -/
import Derived.Test.YtgjlndaebhaciaaAiTyp4
import Derived.Attr
namespace Go.AI
attribute [go_sem ↓] bR aO
attribute [go_sem] RT TX QW Q8 TT SJ L9 Pk GI KR MX GB
attribute [go_sem] NG Um U5 Nk Uv Hz Ld AL Lq Ny Xa PB
attribute [go_sem] Kc VZ Pd MV Im WG HO Sf Lt D2 Qd JW
attribute [go_sem] M4 L0 QP DX LP MI R4 KM NS Kv Xx Yi
attribute [go_sem] UW T3 Rh QD Zz YX Ws YL WS Y1 My UA
attribute [go_sem] MP a0I a0J a1K Xv a1p SY Io V8 vS a2e ZP setB
attribute [go_sem] Yo a1Z Wh A1 Jj a1P Zt Xo SX a1l Nb VI
attribute [go_sem] SA IU H7 LB ZK Rf Nn MH RD OS Yd ZR
attribute [go_sem] V6 VC Zk Bx Eu w7 ru vV a26 XN U2 ZZ
attribute [go_sem] a0F a1i a1D a1L a1J a1o a2j a1r XF a0G a1m a09
attribute [go_sem] a08 a0r a0m a1u a1t XS Yq Xs RU Tm a0g a1G
attribute [go_sem] Y7 TR ZY a0O a0o Yb Y3 a2d a0Z a0S a0w VJ
attribute [go_sem] a0W WA Uj GK a0T VV PJ OF Oq RC O0 a1n
attribute [go_sem] ZL Wn a0j Xm Zf MN No Vd VR Wx TS QZ
attribute [go_sem] T6 Xe X5 SR SP SH Uh a0X UQ P9 VB S5
attribute [go_sem] Nm V7 Vr UX Xf Rt JA a0p DN Kg OJ Xc
attribute [go_sem] MK Km MR O8 QK Ms GE O1 Xd UD XP Zn
attribute [go_sem] Xp Y6 XL Yw Vk a0z Ng V3 TW OD RY UF
attribute [go_sem] UI UZ Uk Ox Zj M6 UN Sl Tj NB Sg VG
attribute [go_sem] U8 VW UR QE Z6 Ql Qk Xl Vw ZG Zd V5
attribute [go_sem] RI GD Ft Yh B8 zF OA Mq SV Mw Cn NL
attribute [go_sem] HH Ht M1 ON
attribute [go_sem] R6 PF Uo Jz IP DW
attribute [go_sem] Hx TJ Ww DV E7
attribute [go_sem] Oz LW a1F Ud RF XM GS GL Sa VP SM Fw
attribute [go_sem] Y2 Tv Xh Wm Wl Wv Vo Zw GJ XA YH Xz
attribute [go_sem] Xj NK Pr Mo JT Kz M9 UU Xn Un YE Tz
attribute [go_sem] YG GT a0k WT a0t a0s WU a0N WK a1y Xq a1b
attribute [go_sem] Ty Nz Ns Pm Qs a1I Y9 Qz PV VY Hf QS F4 Iz H0 Eh Du PK PN OP XG
attribute [go_sem] Up MW ZO XI Ad Z0 Vj ZD YK WR a1z MY
attribute [go_sem] Dt tN Bi WZ a0v W8 Hw NI N6 ZA XJ Rz
attribute [go_sem] OR Iw Lr KK KH Mh E2 LY Kx KU JY Kl
attribute [go_sem] LU Ko TH Ui T9 Sb RM K0 YI Nc Xi Wu
attribute [go_sem] ZQ XB WF SN SO T5 V4 TP Sn RV Sh S8
attribute [go_sem] Zo Yy a1C a1g a1q T8 a0h QM G6 KB M2 R1 KT Q9 Ti QL Lw
attribute [go_sem] GX K2 yx Ob NZ OB RK Hb RS Ps NP Hs
attribute [go_sem] z7 R9 Yc Lz zY OY ZM KV I5 RH Ru TO
attribute [go_sem] Ua R0 O4 Ve KP Nh Rj Qb Z7 SZ MU JR
attribute [go_sem] Nr Lg a2o a2m a1Y SD HN Gf start_eq EC DL LD
attribute [go_sem] GC KO HM LC BB KY M3 Mt Ir QF DY Mb
attribute [go_sem] Rv Pq Qc N4 OG LF RW Tt Ph Sz Vq RR
attribute [go_sem] KQ Gx Va NA Ow Gv Kw YO Z3 Y5 Zq MD
attribute [go_sem] NH Q1 Gz Hk K3 LS Pt Mk On Mj Yl YC
attribute [go_sem] TF MC Zl MO Qq PS X8 Wj Tb UO Rs U3
attribute [go_sem] Uf SK Nq YY Ym a01 a1e WL Zb Zs
attribute [go_sem] List.map_cons List.map_nil List.all_cons List.all_nil Bool.and_true Bool.true_and Bool.and_false Bool.false_and Bool.or_true Bool.true_or Bool.or_false Bool.false_or
attribute [go_sem] List.length_cons List.length_nil List.nil_append List.cons_append List.append_nil List.drop_zero List.drop_succ_cons List.take_succ_cons List.take_zero List.take_nil List.drop_nil List.getElem?_cons_zero
attribute [go_sem] List.getElem?_cons_succ List.getElem?_nil Option.bind_some Option.bind_assoc List.contains_cons List.contains_nil List.any_cons List.any_nil List.isEmpty_nil List.isEmpty_cons Option.isNone_none Option.isNone_some
attribute [go_sem] Option.toList_none Option.toList_some List.flatMap_cons List.flatMap_nil List.find?_cons List.find?_nil List.set_cons_zero List.set_cons_succ Bool.not_true Bool.not_false decide_true decide_false
attribute [go_sem] Option.map_some Option.map_none ne_eq not_false_eq_true not_true_eq_false Nat.zero_add Nat.add_zero Nat.zero_mul Nat.mul_one Nat.mul_zero Option.none_beq_some Option.some_beq_some
attribute [go_sem] List.filter_cons List.filter_nil beq_self_eq_true and_self and_true true_and
attribute [go_sem] a0q a06 Tk Sr Oe OQ WH ZC Ek F5 AQ AB
attribute [go_sem] Ts Sk Qg QN Fe Fi WP XV Rx OM Zv XD
attribute [go_sem] a1A a0c PZ Nf Ta TZ IA GU Ol O6 FU Gr
attribute [go_sem] DH CU Fh FF R7 Qx Z1 Wp N1 Ok Z9 Xk
attribute [go_sem] MB Mp RB NY O2 Pl XH WI Ys Zm M7 Ky
attribute [go_sem] JQ Kd Sy Tg Sd Se SI Ub Oc Qu X9 YN
attribute [go_sem] QX RP WX Zy TE YF S7 Vs VT Pe VH SU
attribute [go_sem] M8 RO Vl N7 T2 Vb XX Lv EN UG Li GZ
attribute [go_sem] UH Nd GV Hn TQ Zu KI
attribute [go_sem] List.length_set a1s Sx YS QG ZT Zg a02 Xr Tf Sp SF UM Z4 PL Kj KJ YA K9 H6 U7 Tp YD Ye WD Yr JU HU a0f a0R a0V WM Lj nL sN ML Mg nf P8 QI Td R8 Of HA K8 NN PP SQ PC SS List.replicate_succ List.replicate_zero
attribute [go_sem high] Oo LZ OL Me WB Ut RX P7
attribute [go_sem] Lx HW Hl EI If FP Hh EH YR SG UE Qf Ma GF uE a1a ZI Qa ZN IT ME Uz Qm YW XC
end Go.AI
