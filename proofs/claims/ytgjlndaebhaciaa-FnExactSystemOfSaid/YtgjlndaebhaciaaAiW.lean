/- The words by which runs are walked through, as one set. -/
import Derived.Test.YtgjlndaebhaciaaAiTyp4
import Derived.Attr
namespace Go.AI
attribute [go_sem ↓] bG b6
attribute [go_sem] Je ME If HQ MM Kw BS Fb A8 BZ Eu Az
attribute [go_sem] Hm L5 JK H8 L0 AC Cq tC CW Hl Q5 GE
attribute [go_sem] Dr Jr IU HI zm Qc A4 Jv DW vL H5 Dv
attribute [go_sem] Dy C7 Gf yA Ef G5 FF E0 GM DY O1 Qn
attribute [go_sem] Ld KJ F8 HF Nq Nn PX OB Ql Qg CA LX
attribute [go_sem] GT RW QS Ru NV Rc L6 AR JE pe SF OE setB
attribute [go_sem] Og Sv MS sX RZ Rs Pd Pw Kp QX EQ Kt
attribute [go_sem] Kv BF zr Do O0 FA GQ Hn Gj Iq Nb P8
attribute [go_sem] KV Lj PV uD xl oB lK oI SJ OI Lu QR
attribute [go_sem] QQ R5 QY RF Sj Rh SQ R4 Pl Se RY Ra
attribute [go_sem] Ro S8 R1 Sc RL Pf Q8 Oa Mn Jz QN RS
attribute [go_sem] Q7 MK Sd R0 QJ PW Pp SL QB Rz QO LG
attribute [go_sem] Rj N3 JG Ad S6 MC Gh EI Hb Hy ET QF
attribute [go_sem] Np Qr RT Ot Q3 Fy Ir Mg M2 Qo M0 FS
attribute [go_sem] Js Ny O8 LW JI Kh Ka Sh Kb F5 Jd Lh
attribute [go_sem] ED Ju Jm LJ N9 Ig B8 Sm vz Cg H6 Pz
attribute [go_sem] Gd DG Hi Ia G9 E2 zF FC N2 LC PR Qj
attribute [go_sem] NU O2 Pe Oy Lz R2 HJ Ke JX Im Ky LL
attribute [go_sem] Jc Lv L4 IR PZ DA Jk Jj JS FW Lw Jh
attribute [go_sem] Mw Lx LA IT OC Fv FP Pm KD OH NG M1
attribute [go_sem] EW B0 yD Ns tz rR Hv BJ JZ Dg vc FM
attribute [go_sem] AF Af BW GS
attribute [go_sem] IW Ep Mj Mc KL EZ
attribute [go_sem] zu Lp Ok yR yd
attribute [go_sem] Gb Cm Rb JB GB Qi AY zq Lq Ln Mt xC
attribute [go_sem] OJ Jf NF Nf PB Qh KC Pj As OS Nm N8
attribute [go_sem] Ph H4 GJ Dm BY Cl D7 LU PU KB Nw Ms
attribute [go_sem] Nh zG Rq PM Rp RR NC RE PQ QL Nt RX
attribute [go_sem] KM EB GN J3 Ie Ri Om Gt Fl MA zX Ft yL zM zH yj wo IZ HO IK OD
attribute [go_sem] Kk FE Qb Oz rE No Mv Pk Ox N5 RM Fg
attribute [go_sem] wx nu uh Na QW MV Ar GY GP Q1 Q6 Ic
attribute [go_sem] GA AK Em Dq DU Dx xV Eb DE Eo BN Dw
attribute [go_sem] Dp CF JY KF MJ KH H0 E9 Pa F7 O5 P0
attribute [go_sem] NB PH NN LP KS MN K1 Li Mq M6 Mz L9
attribute [go_sem] NK PP Rv RB R6 LI Rl ES xR BH C4 HX DR GK Jl FG CO
attribute [go_sem] Al CQ sH Gk J6 EJ HS A3 LR Ev Es AW
attribute [go_sem] sC Ii Qa Cx rp Iy NH Cd zI Fu EU MD
attribute [go_sem] JD Hg Gv KQ CG H9 Ga F9 Qf K0 HU DP
attribute [go_sem] HA Cw SU SH Sz My Ag xJ start_eq xZ vX Dz
attribute [go_sem] zY Ec Av C6 uC BQ De DT A7 FD xj Dd
attribute [go_sem] J1 Hw Gx IV FR Dl Mf JH FU JO Lt JW
attribute [go_sem] E5 A9 Md Gz Ip zP DL Oi P4 Oh Qq IL
attribute [go_sem] Gr GR zx AJ Ch BL HH E4 FZ Ee Nl Po
attribute [go_sem] KY IC Qu Fc FH GX OK MO LV Jq H7 Jy
attribute [go_sem] KA LM HB OM PK Rf Sn Oc P5 N7
attribute [go_sem] List.map_cons List.map_nil List.all_cons List.all_nil Bool.and_true Bool.true_and Bool.and_false Bool.false_and Bool.or_true Bool.true_or Bool.or_false Bool.false_or
attribute [go_sem] List.length_cons List.length_nil List.nil_append List.cons_append List.append_nil List.drop_zero List.drop_succ_cons List.take_succ_cons List.take_zero List.take_nil List.drop_nil List.getElem?_cons_zero
attribute [go_sem] List.getElem?_cons_succ List.getElem?_nil Option.bind_some Option.bind_assoc List.contains_cons List.contains_nil List.any_cons List.any_nil List.isEmpty_nil List.isEmpty_cons Option.isNone_none Option.isNone_some
attribute [go_sem] Option.toList_none Option.toList_some List.flatMap_cons List.flatMap_nil List.find?_cons List.find?_nil List.set_cons_zero List.set_cons_succ Bool.not_true Bool.not_false decide_true decide_false
attribute [go_sem] Option.map_some Option.map_none ne_eq not_false_eq_true not_true_eq_false Nat.zero_add Nat.add_zero Nat.zero_mul Nat.mul_one Nat.mul_zero Option.none_beq_some Option.some_beq_some
attribute [go_sem] List.filter_cons List.filter_nil beq_self_eq_true and_self and_true true_and
attribute [go_sem] QP QV LN K2 FV Gm Ow Nz yn xY tO tu
attribute [go_sem] Kq K7 F4 I5 yG xv Pc Qm IG GW PE Ng
attribute [go_sem] RH QH Iw Gq Ki Kn zU zl ID Fx wH z1
attribute [go_sem] uK ve wD yq FT Fe Q2 Pb Ha G6 OA P6
attribute [go_sem] E6 Df Fp Gi Fq EV Oe O6 Pr Q4 BO Ek
attribute [go_sem] CB BG Ks MI MF KN Mk KG EM HD NO Ol
attribute [go_sem] F3 Ma NS OG KZ OF M4 Kc KU F0 Mo JL
attribute [go_sem] Da Lk J9 Ih Ku LO P3 CD yY L3 CY zD
attribute [go_sem] LS Gp Aq zW Kd OQ Eh
attribute [go_sem] List.length_set QK Kl NX FB PT N1 RP Ni K6 JU LQ Kz Qd GF CX C8 PC Dh zd M5 Mp Ob Nr NR N4 Dc zA Rx Rr Sk Q9 E3 j1 mK HL DD j0 Gw Hh ML It Gs Ap Di Hx HN Jn Iv Ls List.replicate_succ List.replicate_zero
attribute [go_sem high] Il DZ Ew D6 OV L8 LY Hr
attribute [go_sem] E7 Aa AT xP AL wT zh yZ Nk JA JJ HC Ck zn o6 Sf Ov Fw NP Bi GD M3 I6 NI NA
end Go.AI
