/- The words by which runs are walked through, as one set. -/
import Derived.Test.YtdmhkkcihecndaaGreatAiTyp4
import Derived.Attr
namespace Go.AI
attribute [go_sem ↓] aQ aj
attribute [go_sem] a1h a0y a2H a33 Xw a1u YJ
attribute [go_sem] Us Yh Y8 a5e a04
attribute [go_sem] XZ a2e a0C Vi a4V a1J Xt
attribute [go_sem] Yp a4G
attribute [go_sem] a3g a5o a54 YD
attribute [go_sem] a0M a2g a28 setB
attribute [go_sem] a4m Zu a6h a5r a4N a34 a1b a1X
attribute [go_sem] a29 a2E V3 XK a5D Z9 ZA a0n ZO a0c a5E a5H
attribute [go_sem] a1L a2Y OZ SV IF Iz L5 a51
attribute [go_sem] a7w a7q a78 a7F a75 a6U a82 a6x a5m a7r a7a a7b
attribute [go_sem] a6V a7d a7y a6J a6j a5n a5v a53 a3O
attribute [go_sem] a4t a7B
attribute [go_sem] a2N
attribute [go_sem] Ze a50
attribute [go_sem] a4P a2u a7v a3l a1v a2L
attribute [go_sem] a2k a5h Wp a6R PV a5S
attribute [go_sem] Vl
attribute [go_sem] a2O
attribute [go_sem] Ux S7 a4F JC R1
attribute [go_sem] ZQ
attribute [go_sem] a1T Wj RH
attribute [go_sem] a5R
attribute [go_sem] a6K a2w a0G a5L
attribute [go_sem] a5I a60 a5Q a5O a5k
attribute [go_sem] a4X a0Q a1C a3k a5T a32 a69 a2l
attribute [go_sem] a57 VT a63 a4C a5p a72
attribute [go_sem] TV PW a07
attribute [go_sem] a09 a5l a7i
attribute [go_sem] BO Oq a6y a6n Vh a5B
attribute [go_sem] VM
attribute [go_sem] a68 a0x Se Yx
attribute [go_sem] UF KG a1r
attribute [go_sem] KP a0u JG a0i UN
attribute [go_sem] a3x a02
attribute [go_sem] OQ Ug
attribute [go_sem] a2q XN
attribute [go_sem] UL VX a0T
attribute [go_sem] Zw a0F a4L a3V a2Z
attribute [go_sem] a2X a1z a5t a4A a5P
attribute [go_sem] List.map_cons List.map_nil List.all_cons List.all_nil Bool.and_true Bool.true_and Bool.and_false Bool.false_and Bool.or_true Bool.true_or Bool.or_false Bool.false_or
attribute [go_sem] List.length_cons List.length_nil List.nil_append List.cons_append List.append_nil List.drop_zero List.drop_succ_cons List.take_succ_cons List.take_zero List.take_nil List.drop_nil List.getElem?_cons_zero
attribute [go_sem] List.getElem?_cons_succ List.getElem?_nil Option.bind_some Option.bind_assoc List.contains_cons List.contains_nil List.any_cons List.any_nil List.isEmpty_nil List.isEmpty_cons Option.isNone_none Option.isNone_some
attribute [go_sem] Option.toList_none Option.toList_some List.flatMap_cons List.flatMap_nil List.find?_cons List.find?_nil List.set_cons_zero List.set_cons_succ Bool.not_true Bool.not_false decide_true decide_false
attribute [go_sem] Option.map_some Option.map_none ne_eq not_false_eq_true not_true_eq_false Nat.zero_add Nat.add_zero Nat.zero_mul Nat.mul_one Nat.mul_zero Option.none_beq_some Option.some_beq_some
attribute [go_sem] List.filter_cons List.filter_nil beq_self_eq_true and_self and_true true_and
attribute [go_sem] a1V a5U
attribute [go_sem] RA a2r
attribute [go_sem] List.length_set a5f a5A a3m Uo Mj To JB a3r a0J a0R a3H a0g a31 List.replicate_succ List.replicate_zero
attribute [go_sem high] a0k XY a0Y a58 a2b a2y a0l
attribute [go_sem] XW a4Q a3N UO CM a7j a59 a0I a5K X3 a1j ZR a5q a67
end Go.AI
