/- The words by which runs are walked through, as one set. -/
import Derived.Test.YtgjlndaebhaciaaAiTyp4
import Derived.Attr
namespace Go.AI
attribute [go_sem ↓] bH aX
attribute [go_sem] Mb M9 Fw EV Jr JS Du HR zj Df ED zu
attribute [go_sem] ID LD M0 Ht Ja zy Dn tJ BZ IX Q1 GV
attribute [go_sem] BM MM FK J0 AN On Aq Ln DF uX EJ Dx
attribute [go_sem] CP CY F9 xJ Ck Fy Es Ea Ez DK Po Od
attribute [go_sem] Jj Lk Ib HJ P9 NJ Qf No Pm PL C5 Lv
attribute [go_sem] GO RD R7 Ra Qk RX Ms AP LN oI SL Pe setB
attribute [go_sem] OR SP MT sH S8 Sg O7 Nb KM Rs Gi Jw
attribute [go_sem] M2 BB zC C9 P8 HF Gf J5 Hl Hi Np NQ
attribute [go_sem] Ju JZ NP uf xk oY lI oQ SK Ns JP R9
attribute [go_sem] RT Ri QN R4 S6 QH SF R2 OP RI QI RQ
attribute [go_sem] QJ R5 Sn RF QR Oj Pt Nh LC La Ry Sq
attribute [go_sem] N9 Lm Rr Sh Rj NB Q2 SH QD R8 RP LQ
attribute [go_sem] QX PC MA zL RY Lq GY Hk FS EK Gn RW
attribute [go_sem] Ou PA Rg PN OW IG HX Ll Kq Nr JV IA
attribute [go_sem] Mj Ql P7 MO Ma KK Lb S7 LF GA JI JH
attribute [go_sem] EW Mx LZ J9 PE HZ Bs S9 uQ E4 GE Pu
attribute [go_sem] Im Ce FL Ev IZ Ci A3 EQ NH L4 NV OL
attribute [go_sem] NF OZ Oa NZ K6 QK HW Mv Je IS JR Lz
attribute [go_sem] K7 JB JD J8 OO E7 KJ Lj L9 Gj Lt Ka
attribute [go_sem] KV Mc JA J7 Qi Iy J4 OU Mh Pb Ol MI
attribute [go_sem] Fb zJ wE ND tQ sn Hf Dg Mk BI vK IK
attribute [go_sem] Aj z7 Cb J3
attribute [go_sem] Hq Gr JK Lx MD IJ
attribute [go_sem] B0 Kx PR wD xQ
attribute [go_sem] H3 El RR JF FY OY Ah zF Lw LI L5 ya
attribute [go_sem] O8 KP OT Og Qo NT LK Pp Aa Nm Pq Pf
attribute [go_sem] OS Ih GK Ej DS Ct Cs Jx Nk Kr N2 LL
attribute [go_sem] Pz zg RZ P2 Ru Ro P1 QS N3 Sk P3 Sj
attribute [go_sem] Lg Hg J1 Hs FA RA Qj F3 Hb Kz zT I5 yz AU Am yj uI GW Fq J2 Q4
attribute [go_sem] M3 Ex OK OM sE NY LJ Q8 P0 PS RC Gh
attribute [go_sem] vS nH uk Qq Rw MV An Ip FW OB O4 EF
attribute [go_sem] Gk zi Dz De Ek Ca xZ Dy CU DG D8 Dj
attribute [go_sem] DX Ed Jl MN K8 Mm IY Dq PK GQ Pv OJ
attribute [go_sem] OC Qw Q9 Mn Jq KC Ko KU Ks Kh Lo LB
attribute [go_sem] NX Qa Rl QA Rx Li QB Gm yD CX DQ Ir CV FN K2 EE BN
attribute [go_sem] A6 E6 tg Gz Hm Gu EU zw K4 G8 Fh zh
attribute [go_sem] tc FM Qh Dp rE G2 Ov DV Av HC H6 KO
attribute [go_sem] LG Io H8 Ke Em G7 IV Fi PU KB HE D1
attribute [go_sem] G1 DP SU SM SG KI Ak wF start_eq wN vb DL
attribute [go_sem] zr CG A2 Eg ur C0 C8 E1 Ap HH yG Cc
attribute [go_sem] GR HD IN F6 G6 DC Jy JU GD Lf KF Mp
attribute [go_sem] Dl Ai Jk FD IP AE CA Nd Nf PW PJ ER
attribute [go_sem] Hn Hc A5 zx Dt E5 FT Cl EG CO PY Oe
attribute [go_sem] LX HL Oq Hu GL Er Qr MY Kw LW Gy Md
attribute [go_sem] Ml Mo II PF O3 QU Sd OE Of Oo
attribute [go_sem] List.map_cons List.map_nil List.all_cons List.all_nil Bool.and_true Bool.true_and Bool.and_false Bool.false_and Bool.or_true Bool.true_or Bool.or_false Bool.false_or
attribute [go_sem] List.length_cons List.length_nil List.nil_append List.cons_append List.append_nil List.drop_zero List.drop_succ_cons List.take_succ_cons List.take_zero List.take_nil List.drop_nil List.getElem?_cons_zero
attribute [go_sem] List.getElem?_cons_succ List.getElem?_nil Option.bind_some Option.bind_assoc List.contains_cons List.contains_nil List.any_cons List.any_nil List.isEmpty_nil List.isEmpty_cons Option.isNone_none Option.isNone_some
attribute [go_sem] Option.toList_none Option.toList_some List.flatMap_cons List.flatMap_nil List.find?_cons List.find?_nil List.set_cons_zero List.set_cons_succ Bool.not_true Bool.not_false decide_true decide_false
attribute [go_sem] Option.map_some Option.map_none ne_eq not_false_eq_true not_true_eq_false Nat.zero_add Nat.add_zero Nat.zero_mul Nat.mul_one Nat.mul_zero Option.none_beq_some Option.some_beq_some
attribute [go_sem] List.filter_cons List.filter_nil beq_self_eq_true and_self and_true true_and
attribute [go_sem] Rf RM KL Km HS HA Oz Qu xI xm tv tV
attribute [go_sem] JQ LP Gg HP yM wB Oy OX Et GT NI NG
attribute [go_sem] Rt Rb FG GH Kg MB zt A1 FU F5 z1 wO
attribute [go_sem] uR wi yV wH EN Hr Px PT GC Fe NM N8
attribute [go_sem] Cp Cv Ik F4 Ga It O5 Qp Nl O9 CD BT
attribute [go_sem] CM DA JW Mw KA JC KH KG H0 Iq Q6 Oh
attribute [go_sem] EC Kc Pi Oi MK Qx Kn Ki Ji Ij Kj ME
attribute [go_sem] Ep KT M8 EA Js Jo PB Dk xx Kb BK zX
attribute [go_sem] Kt GJ Ae AF L1 Ow Eb
attribute [go_sem] List.length_set Sb Jv Qt IL Om NL QO Nj Mq K0 L7 LR Nx Ha Cd C6 N5 D3 zm JJ KD NA PM P6 O2 E9 AW Rc RE Rq Q0 BV j4 lW FC DW j0 IM HQ M5 I6 F8 zU DD Ft HM KR Gt Jc List.replicate_succ List.replicate_zero
attribute [go_sem high] FH Dh IQ Dc Na KE Ls GI
attribute [go_sem] Cy AS zH yP zn xt AZ xA PH L8 KX Gx CH A8 od R1 N4 HT PI Bw He Jd FV OD Qm
end Go.AI
