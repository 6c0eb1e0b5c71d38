/- The words by which runs are walked through, as one set. -/
import Derived.Test.YtdmhkkcihecndaaAiTyp4
import Derived.Attr
namespace Go.AI
attribute [go_sem ↓] bK aH
attribute [go_sem] P9 Qi Lo LN O1 ON HJ JK FY GN Ll FH
attribute [go_sem] Lj PA Nv Mo PQ Et HE yG GL KY RK Kb
attribute [go_sem] HB QA LF MV FJ Rl EB Ns Ja Bc M1 Hg
attribute [go_sem] Iy II MP DM GW KS Jn Ie L3 H9 Sb TC
attribute [go_sem] PI PV L6 L1 SR Rq RA RE Tk Se Hb Pc
attribute [go_sem] Kk VI UX US Tg Vc Q8 EP OX tm Wj Sj setB
attribute [go_sem] Sa W6 QT xI VE Vx So TG Qp Va JR PM
attribute [go_sem] NZ Gv E4 HN Tc L5 JO Jx Lh LD Sm U2
attribute [go_sem] NB PF RC zi C0 tr p5 sN Wl Tt Nq VB
attribute [go_sem] UK Vw UI VC VF VA W7 Uo Tf UM Us Vd
attribute [go_sem] Vq Vo VG UP Un Ta S5 Sk Nu O0 UU Vl
attribute [go_sem] T3 PL VN VK VU S0 Sl Wa UH UF Uv PR
attribute [go_sem] Uw Tq P3 EA UO OL Jj MA N9 Ls Kc V4
attribute [go_sem] Rw T1 VT Ug RX L0 L9 Q6 P7 SF NQ N4
attribute [go_sem] Oi Td Rm QO Ql QM Pq UL OY L7 NM Np
attribute [go_sem] JW Ny Qr Oe Th MH Gr UW Bf H3 JX SU
attribute [go_sem] Kf IV MK LZ JE I5 ER KB Sd OR Sy Ts
attribute [go_sem] SL Sp TZ SX P6 VD Kq Og OA Je Pt NE
attribute [go_sem] P2 NL PK K8 RN Is Pv Pa NP Jl QH Pk
attribute [go_sem] Pg PU Q5 Mr U9 K2 MT SJ QR T8 SE Q2
attribute [go_sem] LU Fm Dn Sn yo vT Mx Ib P4 IR AR Ke
attribute [go_sem] EE FE GT MD
attribute [go_sem] Nm M5 Ob Ps GD DQ
attribute [go_sem] EK QB TX Db Cv
attribute [go_sem] JH Hx Vk Px MO Rc Fs EH PD Ov O8 Dg
attribute [go_sem] TB Qx S3 RY Te T5 Qs RG Ed T2 TE RJ
attribute [go_sem] Rg LQ Lz H5 J3 GY Jb O7 Rh P1 SV Qz
attribute [go_sem] U8 EG Vb U1 UG Vz Rv Uy Tv UD Ua Up
attribute [go_sem] Q1 Er Lm BQ Ef E8 Dy zX Lq Ka JV Sf
attribute [go_sem] OI KH TU R8 Kg RL Qn SH Tu T7 Vg L2
attribute [go_sem] AZ rv zC RT Vm QV FX Kp MF Tp Ud Kv
attribute [go_sem] M0 EV GV Ho Iw Hp CX HH J6 HM HG Hu
attribute [go_sem] HI HP PJ Qq QL Qa KM GS TD N7 Tj SZ
attribute [go_sem] TW RO To Qg Pe PX NO Pd NU Qt O3 O5
attribute [go_sem] SM TT V3 UR V7 Oo VO LL Cq IN Ir Mf HX M8 Pw K3 IK
attribute [go_sem] EF Ic ws K9 Kx Mw Ng Fi Nw JP KF FK
attribute [go_sem] wL MN RI IE wj Jm Tw IS EY N8 Mp PG
attribute [go_sem] Qo Ma Lb NR Ij Ji KZ Ky T4 Qv LC GJ
attribute [go_sem] JZ IZ Wp Wh Wk Ol EO D0 start_eq C7 zZ Im
attribute [go_sem] Fv Hz G0 I3 zL HW Iv HT Eo KC BT Hj
attribute [go_sem] JI Ni Ko LO N0 GP NG NJ KT Qm Qb Ox
attribute [go_sem] Hm Fh QP Mv MY Ej Hl Sw Rs Ue RR Lf
attribute [go_sem] KK N3 G1 Eh I0 IQ MQ ID Mj J2 Uh Ru
attribute [go_sem] Oz LW SI K0 Ks Ld S7 R1 QI Pz Jw Oc
attribute [go_sem] Qj NX MM RQ S4 Ux UC R9 U4 SQ
attribute [go_sem] List.map_cons List.map_nil List.all_cons List.all_nil Bool.and_true Bool.true_and Bool.and_false Bool.false_and Bool.or_true Bool.true_or Bool.or_false Bool.false_or
attribute [go_sem] List.length_cons List.length_nil List.nil_append List.cons_append List.append_nil List.drop_zero List.drop_succ_cons List.take_succ_cons List.take_zero List.take_nil List.drop_nil List.getElem?_cons_zero
attribute [go_sem] List.getElem?_cons_succ List.getElem?_nil Option.bind_some Option.bind_assoc List.contains_cons List.contains_nil List.any_cons List.any_nil List.isEmpty_nil List.isEmpty_cons Option.isNone_none Option.isNone_some
attribute [go_sem] Option.toList_none Option.toList_some List.flatMap_cons List.flatMap_nil List.find?_cons List.find?_nil List.set_cons_zero List.set_cons_succ Bool.not_true Bool.not_false decide_true decide_false
attribute [go_sem] Option.map_some Option.map_none ne_eq not_false_eq_true not_true_eq_false Nat.zero_add Nat.add_zero Nat.zero_mul Nat.mul_one Nat.mul_zero Option.none_beq_some Option.some_beq_some
attribute [go_sem] List.filter_cons List.filter_nil beq_self_eq_true and_self and_true true_and
attribute [go_sem] VW Vp Od NY Mk N2 TO R6 Do BW xW yz
attribute [go_sem] On PP Jk MZ Du DJ Rt TH Jv Ml Tm SW
attribute [go_sem] Vv Ut Mi MG OQ Pb ES FR L4 Ju C5 DO
attribute [go_sem] Bt A9 BK CK Nk Nd RD Tb Kn KU Tn Sc
attribute [go_sem] IM GK KV Ki Jg JU T6 RP Sq TA GR IF
attribute [go_sem] I9 HY Pn OD Of P0 PC Pi Jt MC SG TL
attribute [go_sem] Nj Qw Ry Sv PH RH OP Ou OJ Lu Qu OM
attribute [go_sem] HA OW PB MW O9 OE Ui Hq Cw OS In Fj
attribute [go_sem] OG LI FT Ep Qd TQ GZ
attribute [go_sem] List.length_set V5 NV Sr M2 RM Rj UJ TS Om OB Nr OT Tr KW Hn IX Rr IC FN PE Q4 RZ Rf SN Tl HS Fa Ve VS VR SP Hr wS Cn M3 Ii vX Jh MU Py KJ My FD IB La LG QJ Js QS List.replicate_succ List.replicate_zero
attribute [go_sem high] Mh IU LV IA S9 PZ P8 LY
attribute [go_sem] HZ E2 G2 CP EM Dx FB Cr U7 NC NH LJ I8 ED rM UT U0 L8 Ri Gg JB Ok KG RU Su
end Go.AI
