/- The words by which runs are walked through, as one set. -/
import Derived.Test.YtdmhkkcihecndaaGreatAiTyp4
import Derived.Attr
namespace Go.AI
attribute [go_sem ↓] aR ak
attribute [go_sem] a9f a8Z a4Y a76 b1k b1E a2T a6F ZN a2Y a5E
attribute [go_sem] a6r b1K b0J a6x b1n a0b a31 Pi a1Z a7Z b54 a8e
attribute [go_sem] a4c b0Y a6X a5w Zl b30 b0A a3h SR a75 a2X
attribute [go_sem] a2a a3x a6N X8 a2m a4i a7w a3E a6K a1W b4t b53
attribute [go_sem] b0r a9H b3m b31 b4h b5f a2t
attribute [go_sem] a65 b73 b6H b5z a6d a8G b1r b7w setB
attribute [go_sem] b5a b7h b2w a8k b5F b3X b59 a92 a6m a9G
attribute [go_sem] b1L a9c Yy a2f b3l a8t a4U a58 a8o a4n b2N b2F
attribute [go_sem] a9r a91 Rk Wm KE KM Ns b7e b4F a94 b6K
attribute [go_sem] b6Q b5R b70 b5M b75 b5J b7J b6C b3A b6t b76 b6L
attribute [go_sem] b6Y b6h b5w b72 b5I b4k b4S b3O a8F a9y b6F
attribute [go_sem] b4g b1w b6x b63 b3e b7n b5s b6V a93
attribute [go_sem] b65 Z0 b67 b0K a8v a5G b6M
attribute [go_sem] b3Z b4x b6o b5h b38 a8f a4l b0U a8M b41 b1Q a5Z
attribute [go_sem] b1C b3I b55 b1x b1R a9h b1P b74 b1O a4J b0y
attribute [go_sem] a4L a9s b0p b3z a4I a0U b5K U5 a3k a8r b3C
attribute [go_sem] a5W a5Q a3T a0r a82 b2I b1u b4o
attribute [go_sem] b3b b3j b4P b5B a9d a8R a5I b05 b1s
attribute [go_sem] a9z b0W b0g b4L b1M b1F b1T a5N a8U
attribute [go_sem] b09 a8J b1t a5K a7u b3V b2Y b5g a9t
attribute [go_sem] a7Q YC UX b4w Q8 N5 a59 a27 SQ a6z
attribute [go_sem] a3A a8l
attribute [go_sem] a9g a0D We
attribute [go_sem] ZP b1A b4H W9 Xf
attribute [go_sem] a8y a3q b6k a9O a80 b3u Z8 b0a W7
attribute [go_sem] b2M a9K b3v b48 b3B Yi b3J b39
attribute [go_sem] b4i a5g a7l a2V b0u b5c b0I b51 b0k
attribute [go_sem] b50 Yw b62 b4U b3P b6N b3Y b61 b3h b5C
attribute [go_sem] b1q a0d Vz ZW a07 Yd T0 a7m a6D a4W
attribute [go_sem] b2S b3S a7o b4q b32 b4E b5u a63
attribute [go_sem] Tg Dw QR b4b b5v b6T Zf a8A a6b b4Y b4X a4Z
attribute [go_sem] a7I YA a2y a2F a3U a3t a2I a3z a43
attribute [go_sem] a2P a39 a9X b0b a5t a48 b4c b2Q
attribute [go_sem] b2T b3c b4G a9m a8S b1z b0Q a8B
attribute [go_sem] b3d b4R a7j WA a3g a3c a6j a2E a6H b0T a6J a44
attribute [go_sem] a0j a3O Nl a7W a8d a6C a5Y
attribute [go_sem] Mt a5j b5m a1X NN a4h b3k a26 a0k a8h a6e b04
attribute [go_sem] b0N a5v a5U b1i a3j a7e a6t a4D b40 b1f a5O a3I
attribute [go_sem] a7K a32 b7H b7F b7z b08 a0c XZ start_eq Xv Tq a3o
attribute [go_sem] a0n a2W a0p a4e QL a2v a4a a5h XM a2g
attribute [go_sem] a8b a4k a6G a4A b0t a95 a50 b0H b0O
attribute [go_sem] a3s ZA b0Z a5M a8s a42 a8w
attribute [go_sem] a6A a4C Zq Zb a62 a3H a6h a3d b5j
attribute [go_sem] a60 a6g a4o a7g b3F b2l a8D b0E
attribute [go_sem] b0e a9C a7a b2O b4W b6A b6y b3E b4N b2R
attribute [go_sem] List.map_cons List.map_nil List.all_cons List.all_nil Bool.and_true Bool.true_and Bool.and_false Bool.false_and Bool.or_true Bool.true_or Bool.or_false Bool.false_or
attribute [go_sem] List.length_cons List.length_nil List.nil_append List.cons_append List.append_nil List.drop_zero List.drop_succ_cons List.take_succ_cons List.take_zero List.take_nil List.drop_nil List.getElem?_cons_zero
attribute [go_sem] List.getElem?_cons_succ List.getElem?_nil Option.bind_some Option.bind_assoc List.contains_cons List.contains_nil List.any_cons List.any_nil List.isEmpty_nil List.isEmpty_cons Option.isNone_none Option.isNone_some
attribute [go_sem] Option.toList_none Option.toList_some List.flatMap_cons List.flatMap_nil List.find?_cons List.find?_nil List.set_cons_zero List.set_cons_succ Bool.not_true Bool.not_false decide_true decide_false
attribute [go_sem] Option.map_some Option.map_none ne_eq not_false_eq_true not_true_eq_false Nat.zero_add Nat.add_zero Nat.zero_mul Nat.mul_one Nat.mul_zero Option.none_beq_some Option.some_beq_some
attribute [go_sem] List.filter_cons List.filter_nil beq_self_eq_true and_self and_true true_and
attribute [go_sem] b66 a9U a9x a5J a7O a7r a4p Q9 Qm
attribute [go_sem] b1V b28 a6U a7T UW X2 b4u b3p a52 a5l
attribute [go_sem] b5X b6z a5i a6B Yr Yp a5b a7U XV
attribute [go_sem] VU XB a4T a7M b4B b4T b42
attribute [go_sem] a37 a3m a54 a6p b3r b47
attribute [go_sem] a2B a4b b2V b4l
attribute [go_sem] a73 b06 b5l b2Z a9N b1h a6s a9l b1Z
attribute [go_sem] b0G b1o a8N WW a9W a2Z ZV
attribute [go_sem] a8O a6Z ZX ZQ b0d b4D a2U
attribute [go_sem] List.length_set a4K b4s b3t b1c a4v b5o a3r YT b0o b1D a3R ZK b6l b6i b6e b4I a2G Mb Vw a6P a3f OX a7k a4R b1l a7S a53 a88 b0B a7B a9R List.replicate_succ List.replicate_zero
attribute [go_sem high] a5P a2N a8n b4p a8H b1g a4w
attribute [go_sem] a2R b3w b1G a7s ZR Em b6j b4m a7R b4A a1c a5d a7c b5i b3y
end Go.AI
