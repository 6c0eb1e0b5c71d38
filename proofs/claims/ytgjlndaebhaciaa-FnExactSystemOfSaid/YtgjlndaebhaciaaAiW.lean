/- The words by which runs are walked through, as one set. -/
import Derived.Test.YtgjlndaebhaciaaAiTyp4
import Derived.Attr
namespace Go.AI
attribute [go_sem ↓] bH aZ
attribute [go_sem] Mx Jj Fh GT MB LC DT IS AV BT IQ AF
attribute [go_sem] GX M3 K1 Hi K6 Ap CP tA BR Ez Nl EU
attribute [go_sem] Co JY Ip FN Ay OT zP Lk C9 wv EK BO
attribute [go_sem] Dm DC Hu xe Eb HH Gj BK Fu C7 PK N4
attribute [go_sem] Ll JW IZ F7 Nx NK OV Nm NN PC Ee Jz
attribute [go_sem] FZ QB RY Se OQ QY Mi zr LL pc SH OX setB
attribute [go_sem] OS Sy MX sB QW R9 Pr Oy L6 QH Gs KK
attribute [go_sem] LU B4 zn CO PQ HC FK Fw Gz GL Q4 Ph
attribute [go_sem] MJ Kv PF ub xl ov lK oF SP NA Jv Ri
attribute [go_sem] Ra QR Ru QE Sa R2 Sv Sk Qo RE RH R5
attribute [go_sem] RS Rs Sm Rd S5 Ng NU Q9 KZ Lu Rq R1
attribute [go_sem] On KH Rz Re Rg Nk NJ SN Rh Sc QV Ly
attribute [go_sem] QT Q1 LB Aw QU JK Hr G9 Fa J6 GU RQ
attribute [go_sem] Qr OP Rv Pm Ny Hs Io KS JH PM M0 HW
attribute [go_sem] KM OA Od Ln MK Js Kn RN JB EA Lg Kt
attribute [go_sem] GN Kc La LR NX GA Bk Sf uO DV GQ Nt
attribute [go_sem] Ir D3 FQ Hb Ix DI zU J0 Nv Ka O3 NO
attribute [go_sem] Qd O5 Pd PP Mq QI FA LZ Kk Gy L9 Jx
attribute [go_sem] Mh MI Kz Ev Oe BQ Ls Je MN H4 KW Ks
attribute [go_sem] Ld M5 KD IP P5 Ik FU OW Lq Nd PY K0
attribute [go_sem] Hc Ac yt O7 tu sn G8 Ca Lf D6 wz F0
attribute [go_sem] zB Ak CN GI
attribute [go_sem] If ER LV KI Me FO
attribute [go_sem] AN Ku P7 yG xG
attribute [go_sem] Ih Cz S6 Ki Gc PH zd zO JR Ja L7 xh
attribute [go_sem] NR Jh Pc Pe Nn NL L5 Ox AP Q7 N3 Oq
attribute [go_sem] N9 EP J5 CL CU Da DE Ma OH Ko PO LG
attribute [go_sem] Oa zm S8 OG QD RB Qj Ro Ns RC Pv Qz
attribute [go_sem] KP I6 Ic Ia EE QO OR Il Is LX A4 It wP zq Av xi uS Es Hj Hv P6
attribute [go_sem] KR IC Qh NM su O6 Mk Ok NB OJ RG Hp
attribute [go_sem] vG nO um NZ Rr MV Am Gn GJ PD P4 Gt
attribute [go_sem] Hq zW CQ Df Ch Ds xg Ci Cq BY E2 BJ
attribute [go_sem] E7 DY JL Lc K7 MD Hg Cd O9 HG PZ P2
attribute [go_sem] Nb OC NI Kh ME Mf Kx KC ML JS JP Mb
attribute [go_sem] Pt Qc Rb RZ QA JN RR Fp xw DD Dl J2 CB Ig Kb FB CI
attribute [go_sem] zV BV sv Gu Gk HU HO zf M7 HN EY AU
attribute [go_sem] tf Gg Qe D2 tm HM PT CJ zZ F8 G3 Jy
attribute [go_sem] LO ET FX My BS Gq EX GF Px Mv Eu Eg
attribute [go_sem] Hd E1 Sw Sz SE LD zJ wY start_eq xS vP Ed
attribute [go_sem] Aa BP zG CY ut DR Cl E4 Ai Hz yp Cx
attribute [go_sem] IA Ht EO FY Hh DL L8 KA Hl Lm JE Jb
attribute [go_sem] D4 Aj KX Gi FC Af D1 Pp Qs PN Pa IG
attribute [go_sem] HV IX zl AL CH Em HB Dx Iz BU P1 Qn
attribute [go_sem] JX GO Ob H5 Ex FW OY MU JF Mo EV Kr
attribute [go_sem] Lb Lj IW OU Oh RL Ry Pi Po Qp
attribute [go_sem] List.map_cons List.map_nil List.all_cons List.all_nil Bool.and_true Bool.true_and Bool.and_false Bool.false_and Bool.or_true Bool.true_or Bool.or_false Bool.false_or
attribute [go_sem] List.length_cons List.length_nil List.nil_append List.cons_append List.append_nil List.drop_zero List.drop_succ_cons List.take_succ_cons List.take_zero List.take_nil List.drop_nil List.getElem?_cons_zero
attribute [go_sem] List.getElem?_cons_succ List.getElem?_nil Option.bind_some Option.bind_assoc List.contains_cons List.contains_nil List.any_cons List.any_nil List.isEmpty_nil List.isEmpty_cons Option.isNone_none Option.isNone_some
attribute [go_sem] Option.toList_none Option.toList_some List.flatMap_cons List.flatMap_nil List.find?_cons List.find?_nil List.set_cons_zero List.set_cons_succ Bool.not_true Bool.not_false decide_true decide_false
attribute [go_sem] Option.map_some Option.map_none ne_eq not_false_eq_true not_true_eq_false Nat.zero_add Nat.add_zero Nat.zero_mul Nat.mul_one Nat.mul_zero Option.none_beq_some Option.some_beq_some
attribute [go_sem] List.filter_cons List.filter_nil beq_self_eq_true and_self and_true true_and
attribute [go_sem] Rf QG Jn Km EQ IU P9 Ps ya yK tq tX
attribute [go_sem] Mg Mj Fb Fx xR xy Pb O4 IN F5 OD NQ
attribute [go_sem] QN RW Gh HD Li L0 Al zp Gb Fo yd xj
attribute [go_sem] vx wo xQ yv Gp Ga Qi Oi HR H3 O8 Pw
attribute [go_sem] BM CD EW Iy IJ FG OZ N7 Py Pk E3 D0
attribute [go_sem] Cc Dv JC MH L4 MM Ji JZ Iw Hw OB PV
attribute [go_sem] HI Jf OL PI MG Nz Ke Mp LJ EC Lp M8
attribute [go_sem] Ej LK M9 Gr Jp L2 Qb C6 yL Mw CK zy
attribute [go_sem] Md Hy AB Aq Jl Oo D5
attribute [go_sem] List.length_set QJ Jr Qm Fi PL N8 Rk PE L3 JO LY M1 NE IY Du Dg Q0 CA zF MA Kw Pl NP Oj Np DJ zs Rl QM Sn Q8 CG iR lP HJ CR iJ J4 Gl MF H0 J1 Az Dn GC Fl Lt Iq Mc List.replicate_succ List.replicate_zero
attribute [go_sem high] Fq Cu HF Cw NW Mr Kj HZ
attribute [go_sem] DS zS Ao yS AG yT AW xf NV Kl Jg EN Dc A0 oh QQ Q3 HT Qw Bz Hx KU HS Nu PG
end Go.AI
