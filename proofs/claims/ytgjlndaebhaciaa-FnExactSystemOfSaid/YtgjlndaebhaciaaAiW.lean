/- The words by which runs are walked through, as one set. -/
import Derived.Test.YtgjlndaebhaciaaAiTyp4
import Derived.Attr
namespace Go.AI
attribute [go_sem ↓] bI aZ
attribute [go_sem] JR MC EZ GV Kt Jf E4 HQ zt DJ Gr zK
attribute [go_sem] GL L7 Jn Ft Ls zl E3 tC BX EA Q7 FU
attribute [go_sem] DK Kk Hj EG zF PV AP Mt D8 v6 EP Dk
attribute [go_sem] CN BZ Ik wE DE IY Im CK F6 DL Ns Ps
attribute [go_sem] MB KJ Hp Il P2 OL Ov Qf OM Qp BW Jo
attribute [go_sem] EI QM R8 QT Qs Sh KT z6 KB oU SF OU setB
attribute [go_sem] Nd SA MP te RP RY P0 Nq M4 Rx G3 K0
attribute [go_sem] Lf Bp Al BO Nb IG IZ Hz Io Gv Pr PT
attribute [go_sem] ME K2 Ni ub ya oJ lH p6 SI NO JU RF
attribute [go_sem] S5 RD Ru Rp Se Rz SE Rc Ol RL S7 QS
attribute [go_sem] Sg QY QK Rq Rk PI PY P8 Ka KY Ro Ri
attribute [go_sem] NG LM Rl RV QF NL O6 SZ Sm RB RZ Kx
attribute [go_sem] QW Pw Mv zy RH Jg It Ff FO ER Gh Qy
attribute [go_sem] Oa OB QB Nu Pq FY J1 Mp Ma OV LY Ey
attribute [go_sem] LA OD Qd L2 KE Jk KR Rd JE Fk Mc KP
attribute [go_sem] Ic Kv Jt L9 PJ Iw B3 Sl v8 CV J4 PG
attribute [go_sem] Et Ce EQ Hy HP CQ zW HY ON Mk OG Om
attribute [go_sem] Qn Nh Nv Q4 Lr Ry H4 KG Ly HJ L0 Mg
attribute [go_sem] L1 M5 Jz Hl Nl Dj LJ Kf JV Fs Km KC
attribute [go_sem] Kn Ks My Fy P7 G0 EB Nk LR Nr Qb Lz
attribute [go_sem] Fe Au xq NV tq rk H7 DX J8 E1 vU HM
attribute [go_sem] zd Av CL Hf
attribute [go_sem] Ex HB Ld Ms Kz ET
attribute [go_sem] zj KM OC xH xr
attribute [go_sem] Ew CI QG Jd HS Qa A4 zZ JO Jy JW yr
attribute [go_sem] OA Mq On OY OS Pv Md NP zC Oz PB Qt
attribute [go_sem] Of G2 HO Cb DH Cy CZ Js OZ Kl O1 M7
attribute [go_sem] N0 A3 Rw Qk RC QZ NR Rf Np RQ N2 RE
attribute [go_sem] Jr FS Gy FR H9 R9 PX Gw Ez LB A5 GG xp z8 AG yF uZ EO GH F5 Qv
attribute [go_sem] Mi G9 OP Qu rg Ng MI NN NK PH Sa Gk
attribute [go_sem] vG nL um Qh Sk MY Ad EV IX PC Ow G1
attribute [go_sem] Fi Ab DT Eb DR D4 yf Ch Cm D1 De C7
attribute [go_sem] BT C4 Lk Ju Mh JF Ia DA Q6 FX N4 Oo
attribute [go_sem] NC ND Qq Ji Ky JN LO KW MA JP K3 KH
attribute [go_sem] Q1 OI S9 R1 QX L5 QP Ir yc Di Cx FN E5 Fh Lv H3 C0
attribute [go_sem] zg CB si J0 HT Fc FP zJ Jp H8 Eo Aa
attribute [go_sem] rM Er Po DY rF HG O3 D0 A9 Iz HA LD
attribute [go_sem] Kr GU GA K4 BI Iu EL HW Q8 Kb J6 Ek
attribute [go_sem] FM E0 SN SY SO L3 Ac wC start_eq xX uW CD
attribute [go_sem] AH Eg Aj CG uA Cr DB D2 ze IP yd C6
attribute [go_sem] HC GX Gb IJ Ge DP LN K1 Gj Kp Mm JH
attribute [go_sem] Ca zV LK EW IW zo D6 N9 PZ NY PK GC
attribute [go_sem] GF FQ A8 zM Da Du EM Df Fj BY Qo NT
attribute [go_sem] ML Iy Px J2 Hu Ih Pe MT Kh JK EU JX
attribute [go_sem] JA Ja Fq Q9 Nc QA Sf PQ OJ NU
attribute [go_sem] List.map_cons List.map_nil List.all_cons List.all_nil Bool.and_true Bool.true_and Bool.and_false Bool.false_and Bool.or_true Bool.true_or Bool.or_false Bool.false_or
attribute [go_sem] List.length_cons List.length_nil List.nil_append List.cons_append List.append_nil List.drop_zero List.drop_succ_cons List.take_succ_cons List.take_zero List.take_nil List.drop_nil List.getElem?_cons_zero
attribute [go_sem] List.getElem?_cons_succ List.getElem?_nil Option.bind_some Option.bind_assoc List.contains_cons List.contains_nil List.any_cons List.any_nil List.isEmpty_nil List.isEmpty_cons Option.isNone_none Option.isNone_some
attribute [go_sem] Option.toList_none Option.toList_some List.flatMap_cons List.flatMap_nil List.find?_cons List.find?_nil List.set_cons_zero List.set_cons_succ Bool.not_true Bool.not_false decide_true decide_false
attribute [go_sem] Option.map_some Option.map_none ne_eq not_false_eq_true not_true_eq_false Nat.zero_add Nat.add_zero Nat.zero_mul Nat.mul_one Nat.mul_zero Option.none_beq_some Option.some_beq_some
attribute [go_sem] List.filter_cons List.filter_nil beq_self_eq_true and_self and_true true_and
attribute [go_sem] Rt RN Lo KN Iv GM O4 OO xh wQ tO tK
attribute [go_sem] M1 JL Ho HF yV xa N7 Oq G7 FL NE NS
attribute [go_sem] Rb QN Eu GR MM Jj AE Ar GW EH yZ yh
attribute [go_sem] ve vM ym yb Ij J5 OE P3 GI IU N1 Qm
attribute [go_sem] BN CW Gg Fg ES GD Oj P1 Q5 Pk Cc DM
attribute [go_sem] Dx Dr Jc Lc Lg LU Lp K5 Hh Gx Oy Pa
attribute [go_sem] H5 KO Nw PR JG NX Jw JQ K8 Fa Ki Mw
attribute [go_sem] E2 Lu Mz IA Ku Mn OQ D7 xd Jb DC zP
attribute [go_sem] K9 Ie zw zI Lj OK BR
attribute [go_sem] List.length_set Rg LC Py Hb Nf OH S8 Qj Jl JS Mr M9 Q0 I6 D3 Cp Ob DO z2 LH LQ O9 Qg Q2 Nz BV zm RI R4 S6 NF BS j1 mS FJ DD iQ IT Gu Jh FZ H6 Ak Dh GE FT Mo EY LW List.replicate_succ List.replicate_zero
attribute [go_sem high] FF Co Ep CY Pn K6 JI HE
attribute [go_sem] Do Ai AD wB An yq AR yD Pp K7 Li FW DF AS oi Sn Na EE P4 Bi F4 KS HU Pl PW
end Go.AI
