/- The words by which runs are walked through, as one set. -/
import Derived.Test.YtgjlndaebhaciaaAiTyp4
import Derived.Attr
namespace Go.AI
attribute [go_sem ↓] bC aC
attribute [go_sem] Sh QV OI KG QX SN J0 Ln Gv IN Ob EE
attribute [go_sem] Oa R0 Qd LL T9 Fb K6 zf J3 MJ Ts P9
attribute [go_sem] Is Sn Mh P5 Gi WN G6 Pl Hw Bh L1 Ii
attribute [go_sem] Ju JJ OZ CG JO L6 ME JW NK HH UX VO
attribute [go_sem] S8 Qi KX Lx W2 TA WK V9 VE V4 IQ Q0
attribute [go_sem] Oh YB Xu Yk TD YD PD G2 RM u4 Z4 WA setB
attribute [go_sem] W0 Zc Tc wD Hs XZ Um V0 SL Xj Kt Rr
attribute [go_sem] RI GX FH HW VS Ms NX Li Mv NQ VU Vz
attribute [go_sem] Qv Re VT zD D5 u3 pE tX YO TU Pn Xq
attribute [go_sem] XG XO Xk Yi Yw XX YP WW V8 X7 XU Yq
attribute [go_sem] XW X6 XE Xz Ys U3 Uj TH Su Rs YF Yc
attribute [go_sem] Vp Qt XL XA Yr U0 TF Za XC Xx Yf R1
attribute [go_sem] Yo Ul Qh Gm X9 RE KI OM MS O1 P0 Xo
attribute [go_sem] Vc Vr Yy Ud VF Na M7 Sg T5 Vb SO NY
attribute [go_sem] PX Wa WG Pw QS SJ RN XB QN Ox Sw RV
attribute [go_sem] Nm PH QW T8 VW L3 GK Y6 Bp Ib Nx U2
attribute [go_sem] Ng IT KV MA KB J9 EK MU Wm Sc VV Uz
attribute [go_sem] UJ Wg UO W4 RA XN Pb Sq Px OE Q4 SG
attribute [go_sem] Sa PM QI Lv Ut JP S6 Qn PF NT Rg T2
attribute [go_sem] Rf S9 R4 Kv Wv Mt OG TN Q9 Wd Wk Ry
attribute [go_sem] OR EW Eb Uk yX wW KT J6 Se HG Bi Kx
attribute [go_sem] Fg Fh J1 Ou
attribute [go_sem] NE LH QJ GZ GI CE
attribute [go_sem] EZ Pg Uw CX D3
attribute [go_sem] Mz Jc Yt Qq LC Tu Fl G0 Pf Ro PY De
attribute [go_sem] V7 QG U8 Uv We Vf RW Ug F5 VH Wi TE
attribute [go_sem] W8 Kq Ok Jd HU JR JI SZ Vt Rq Vs Qa
attribute [go_sem] TB Fp Xb UQ XK Ym WD WX V2 Ye VG WY
attribute [go_sem] QM O3 OT ML M8 Yl UI KQ NL R7 Fu Ot Ej Gb Fe E2 BJ OL LB MT W7
attribute [go_sem] SF OH VX Vv yh VR RP VY VP UM Yd Oc
attribute [go_sem] Am sm zQ Wy Xi Tb F6 Ld Ov Vj UK Nh
attribute [go_sem] KH ET JN Kb Hz IY DO Jn J4 Kl J2 Io
attribute [go_sem] Ir Ia SA Rt PI Rp OB HC Va Lk Ww Vl
attribute [go_sem] WM Ub VM Qp Ph Pp QO Qe RR PG SH Q1
attribute [go_sem] WH TP Ya Xp Y3 QY X8 N5 Cs Kk Ih Oo If L0 S5 MN HV
attribute [go_sem] G4 Jw yr Oz OO Mj Od FR Pm Mk O7 Fw
attribute [go_sem] xG Lj WQ JA yJ Mq U7 HA EY Ll On QH
attribute [go_sem] Rb Ko M1 SE Im MM OJ Mr TW QF L4 JD
attribute [go_sem] L9 JQ Z2 YU YV Sx FD Co start_eq Dp Av IF
attribute [go_sem] FF IS Fm Hx Ab Jp Kd K5 G9 LK Do Iv
attribute [go_sem] Oq OK Ns KA Nv JC QD S7 O4 QR Ru Rx
attribute [go_sem] II FX PN LA MD Gx Kf WL WJ Wb Vd Oi
attribute [go_sem] Mm M4 ES EH Jk HQ NW Kn L2 K7 Ur Wc
attribute [go_sem] PL Lt Uq P1 N2 Ow Ws To Sz RF LP Qz
attribute [go_sem] Rd T7 P8 VZ U1 XY Yb Vo W5 Ty
attribute [go_sem] List.map_cons List.map_nil List.all_cons List.all_nil Bool.and_true Bool.true_and Bool.and_false Bool.false_and Bool.or_true Bool.true_or Bool.or_false Bool.false_or
attribute [go_sem] List.length_cons List.length_nil List.nil_append List.cons_append List.append_nil List.drop_zero List.drop_succ_cons List.take_succ_cons List.take_zero List.take_nil List.drop_nil List.getElem?_cons_zero
attribute [go_sem] List.getElem?_cons_succ List.getElem?_nil Option.bind_some Option.bind_assoc List.contains_cons List.contains_nil List.any_cons List.any_nil List.isEmpty_nil List.isEmpty_cons Option.isNone_none Option.isNone_some
attribute [go_sem] Option.toList_none Option.toList_some List.flatMap_cons List.flatMap_nil List.find?_cons List.find?_nil List.set_cons_zero List.set_cons_succ Bool.not_true Bool.not_false decide_true decide_false
attribute [go_sem] Option.map_some Option.map_none ne_eq not_false_eq_true not_true_eq_false Nat.zero_add Nat.add_zero Nat.zero_mul Nat.mul_one Nat.mul_zero Option.none_beq_some Option.some_beq_some
attribute [go_sem] List.filter_cons List.filter_nil beq_self_eq_true and_self and_true true_and
attribute [go_sem] Y9 Xt Qo Pu Oy KF U9 W1 CV DV zj zy
attribute [go_sem] SW SD P6 OA Ec Cr Vx WT OU Ol TQ VC
attribute [go_sem] Yp YA Mg Md Sv Rz FE EG Mw Lh DF CN
attribute [go_sem] Ag Az E6 DM Kr N4 Tv UT La Lu Us Ui
attribute [go_sem] Ik Km LU KW Nn Ku UL Uu Vq UW Iw Jh
attribute [go_sem] HS HL Q3 T4 Q5 Pi Pv SM MZ Nr UV UU
attribute [go_sem] NH Rk Vm WC Q2 Vg RX PE Ri LY RK SV
attribute [go_sem] Jt SS RS Lo Rw Qx Up HB Ci RL Ix EC
attribute [go_sem] Qu Lb Gn Fx RQ U5 Jq
attribute [go_sem] List.length_set Yh R8 VN Ly Wz W3 XM Wx SK Qj QK Qg WI N0 In IG Wn Je Gd Pe Sf WB WS UD Ue K9 Gc XF Xs Xg WO JX md q6 MV JM lZ MI No Q7 Nz OW EM Jl M0 O8 Pc Oe Ps List.replicate_succ List.replicate_zero
attribute [go_sem high] Lm Jb MX HY TT Sj PV LJ
attribute [go_sem] JB Fi FG D1 EO Ee FM Eo UN QA Sb NB Iq Ga sV XD Tt N8 TO H5 OV Rl P7 Uo Wt
end Go.AI
