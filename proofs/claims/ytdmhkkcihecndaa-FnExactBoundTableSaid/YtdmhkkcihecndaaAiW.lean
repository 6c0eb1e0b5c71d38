/- The words by which runs are walked through, as one set. -/
import Derived.Test.YtdmhkkcihecndaaAiTyp4
import Derived.Attr
namespace Go.AI
attribute [go_sem ↓] bF aA
attribute [go_sem] I5 Hp Fi DZ GX JJ An FJ z0 C5 Gm yh
attribute [go_sem] EW I9 Ha DJ J0 xF Aw rI Cc Ei NF CI
attribute [go_sem] Ai Jg Dp G8 xJ MV yd Im Ax tA DE Ck
attribute [go_sem] Af Cf GG vH AK DK Dd Al Dw AR Mi Nm
attribute [go_sem] K2 Jj CF Dg Mb N8 KC KE Ld LG BZ IQ
attribute [go_sem] F6 Pj Oy NQ L8 Og II xQ Jo mz PM Ky setB
attribute [go_sem] NB PC Kj pH OV O3 Lw L1 HP Od EE IG
attribute [go_sem] Hg A2 z8 BI Nw Fu D1 D9 D6 FF Mf Lx
attribute [go_sem] JO Jd MZ sT wK mL kI nk PN L6 HM Ob
attribute [go_sem] P8 Ow P7 Oc NO OC PP P4 Ml O7 OU Oz
attribute [go_sem] Oq On OT OR Oe KP M9 NE HS Hm Ol O5
attribute [go_sem] N4 JX P3 O6 O1 L4 LX PQ Oh Pg P1 Jt
attribute [go_sem] Om KZ Jy xN Pr Jh Fq CA DW Di Db NV
attribute [go_sem] Mk KR OI Md LZ CO FD HR Ix MT IP EP
attribute [go_sem] K0 KL KH Jb GT HN Js P6 J6 GB J3 Ig
attribute [go_sem] EH Jw GU Jp Ly Gq zD NT tm Cm Ds Ny
attribute [go_sem] E6 BA Dy G6 Em Ak xG GH M1 HZ Nk Lm
attribute [go_sem] L2 MY MS Lr Iz Pn DC K8 JS Er Ij Jf
attribute [go_sem] GM Hy JL Gg ME Bm GY GK GQ EV I2 IN
attribute [go_sem] Ir J7 Ik F8 Nu E3 FC L7 Hj Lg MM ID
attribute [go_sem] Dk yY wc KM rY pA Ff BQ Kb C6 uP FH
attribute [go_sem] yf y0 Bj Dq
attribute [go_sem] Cx FB Hw K6 IZ GD
attribute [go_sem] yE JW Mz wy vt
attribute [go_sem] D0 C9 NN HT FA N3 z1 yQ IC Hh IJ vz
attribute [go_sem] M8 J9 Mr LC MW L5 Hd LQ zn Nh Lt Lz
attribute [go_sem] MI Ge Ft BC Bo BO BF GW Ms JC Li Is
attribute [go_sem] MJ y4 O4 MB NL OK KV NX Ni O8 Lb NP
attribute [go_sem] Jv yk Eh wJ za yT vV u3 Fs G3 Gw LL
attribute [go_sem] Jz DB KA LY Gb LJ IM Lc NA MF OE FG
attribute [go_sem] uI lJ sK MX OZ Ko y6 EC Cz KD MU Fb
attribute [go_sem] DA zl AQ AY Ao C7 vd Bl B0 BU Cg Av
attribute [go_sem] Bs B3 HE Jm Hf GO CM Bg Nc EY Ma Nd
attribute [go_sem] Mx Nr L3 HV K1 If Je K5 JY GR It Iu
attribute [go_sem] Lo KO O0 OY P9 IE OP Du vk Ad Bi G0 BL ED Ic CU BK
attribute [go_sem] z3 C3 qE CP Eo Fe EQ yi HW CY EK xW
attribute [go_sem] r7 EF Nj Ay qa Ef LW Bf ya E5 FN H7
attribute [go_sem] Ie FU DU Hu Cq GI CR DL LN Iy Cv Be
attribute [go_sem] Cw BE PJ PX PF K4 yI wA start_eq wI uK BN
attribute [go_sem] zd Aj y7 As su BX AU BT yC Dt vG Ct
attribute [go_sem] G2 Gu Gr DR Ej Ci IR Jl FZ Jx Ka HF
attribute [go_sem] C4 yJ J5 Gi CN yw Ap MD M4 LA Mj Ek
attribute [go_sem] Eb Gx xt y9 BG B9 Gv Ac Fa Bu Nl LI
attribute [go_sem] HO CG Nz Ep Eu CZ MC Kf JH Hz ET Ju
attribute [go_sem] HA IW FV Nx Me Ot O2 Kw KT N1
attribute [go_sem] List.map_cons List.map_nil List.all_cons List.all_nil Bool.and_true Bool.true_and Bool.and_false Bool.false_and Bool.or_true Bool.true_or Bool.or_false Bool.false_or
attribute [go_sem] List.length_cons List.length_nil List.nil_append List.cons_append List.append_nil List.drop_zero List.drop_succ_cons List.take_succ_cons List.take_zero List.take_nil List.drop_nil List.getElem?_cons_zero
attribute [go_sem] List.getElem?_cons_succ List.getElem?_nil Option.bind_some Option.bind_assoc List.contains_cons List.contains_nil List.any_cons List.any_nil List.isEmpty_nil List.isEmpty_cons Option.isNone_none Option.isNone_some
attribute [go_sem] Option.toList_none Option.toList_some List.flatMap_cons List.flatMap_nil List.find?_cons List.find?_nil List.set_cons_zero List.set_cons_succ Bool.not_true Bool.not_false decide_true decide_false
attribute [go_sem] Option.map_some Option.map_none ne_eq not_false_eq_true not_true_eq_false Nat.zero_add Nat.add_zero Nat.zero_mul Nat.mul_one Nat.mul_zero Option.none_beq_some Option.some_beq_some
attribute [go_sem] List.filter_cons List.filter_nil beq_self_eq_true and_self and_true true_and
attribute [go_sem] Pm Pc H8 I7 F0 CL Kv Mg vA wd rV rU
attribute [go_sem] Ip I6 F4 G5 xp wz LH Lv Ev De Ln Ng
attribute [go_sem] P0 OF Gc EN JQ JF z6 z7 Gj Gh vN xh
attribute [go_sem] tx u9 vY wC DH E0 NC LU DT DM Mt Mw
attribute [go_sem] Ae AD D2 F3 Ey Gt Nf N9 Na Lj Cj BV
attribute [go_sem] Co Ar JR HG HJ I4 IU JG FX Gd Mq KY
attribute [go_sem] E2 IY No MK IX KN Hk HI IL CD J8 Jc
attribute [go_sem] B8 IA GZ Eg H0 Io Mp C8 wa He BJ xw
attribute [go_sem] Ho Da xy yv JK Nv Br
attribute [go_sem] List.length_set OJ HL KX FW LF KG Pq Kt IB JZ Il HB Kx Ed B7 BW ND Bn xB JV GL MH Ns N5 MG AV zk Ox OB Oi MN BR pT wL DF Bw pZ G1 Gl Ii EI Dr ym Ab Fw G9 Hc Fk Hi List.replicate_succ List.replicate_zero
attribute [go_sem high] Et AG FE Ch Nn HQ Hn Fv
attribute [go_sem] Ag xz yx wk xR wX yA wH Lk HY JP CE AM yN lW OX MR CV KB zM G7 IK DI KS LS
end Go.AI
