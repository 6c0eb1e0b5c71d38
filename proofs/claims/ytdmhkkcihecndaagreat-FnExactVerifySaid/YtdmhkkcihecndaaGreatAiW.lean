/- The words by which runs are walked through, as one set. -/
import Derived.Test.YtdmhkkcihecndaaGreatAiTyp4
import Derived.Attr
namespace Go.AI
attribute [go_sem ↓] bz an
attribute [go_sem] b0n a9S a4L a4Y a99 b0I a3l a3L Xw a28 a4m Yp
attribute [go_sem] a6Z a8i a81 a7i a9N Yd a2S NX a2W a6V b2N a5i
attribute [go_sem] a36 b0L a3S a3A XK b3r Yt a9g a33 Rs a6t a2R
attribute [go_sem] a1y a1r a7b V0 a2d a4h a3y a29 a53 a1g b4U b44
attribute [go_sem] a9U a8D a7K b4k b2W b2i b4K b48 a0Z
attribute [go_sem] a4S b5A b5X b66 b4X b5q a8m a7j a8g b0F b6C setB
attribute [go_sem] b1S b6T b1A a5I b6s b6k b2S b4j a9f b5V a3T a9X
attribute [go_sem] b06 ZA Zl a2Q b4d a6I a6W a69 a4X a3N b3S b3K
attribute [go_sem] a9J a8B b1U Qv Vc JM Dz J5 b6O b3C a9K b5o
attribute [go_sem] b5F b5O b5k b5d b5b b5D b6H b55 b1X b6x b56 b5x
attribute [go_sem] b5y b6d b5c b6u b61 b4Y b2d b3a a7Z b0t b6f b5G
attribute [go_sem] b2l b03 b6w b5S b3T b4a b6I b6j b60 b6t a9G
attribute [go_sem] b5Q b3U b0s Z7 b57 a9v a6C a3M a4V a5G a5a b5f
attribute [go_sem] b2m b3c b5s b4c b4W a61 a4v b1b a7R b2J b0H a7n
attribute [go_sem] a8F b2w b2e b0x a82 b1d a8b b6o a9b a43 b0c
attribute [go_sem] a3D a8M b02 b2y a3H ZU b5U SD a1u a5H b49
attribute [go_sem] a5e a1a a4c a6A a72 a2F Yu a47 b4g a86 b3e b2s
attribute [go_sem] b1P b2D b4I b3I a8W b5v a5p b1r a9P a7u b05 a93
attribute [go_sem] a7W a9w a8A a7Q b2H a2K b0Q a9t b1g a4y a8Q a8U
attribute [go_sem] a8E b1e a9L a6Q b3V a4J a5u b50 a8d b2f b3h a9y
attribute [go_sem] a6k Xh Ug b2h Ps KT a78 a1Y a8I a1Z TY a4p
attribute [go_sem] Xe Zh a1n a42
attribute [go_sem] a4D a6Y a8N a8V a00 Wl
attribute [go_sem] XE a8Z b3u Uz VJ
attribute [go_sem] a7e a0I b6n a9m a4K b4J Xi Y6 a85 b0e b0y Uv
attribute [go_sem] b1R a8T b2G b2K b1O b0m b2M YV b1Z b3d
attribute [go_sem] b2x a5m a3v a2B a0L a1K a35 a8c b3N b04 b2O a9Q
attribute [go_sem] b3W Yl b5z b4C b5t b6c b4V b5Y b3J b6q b4f b6l
attribute [go_sem] a8r YJ a60 VL Y3 Yx WN SW a4I a7C a4T b3k
attribute [go_sem] a91 a51 b2n b42 a6f b1Y b1a b4h b3Y b4O b6g a6M
attribute [go_sem] TN CF Qi b4S b58 b6v Zj a6g a4n b2v b2Q a3K
attribute [go_sem] a3z XR a0P a1v a1E a1X Wb a1h a0U a1m a1G a1q
attribute [go_sem] a0A a2p b1o b1q b0w a8v a7a a2M b4L a64 b4G b4A
attribute [go_sem] b3s b29 b34 a9x a98 b0Z a8f a8L a9A b0M a97 a9n
attribute [go_sem] b3D b3i a56 UN a1S a0K a5h a0W a4r a90 a6y a2G
attribute [go_sem] Xc a0N KQ a7f a7k a5R a4w Y5 a8h a7v a7E Yb
attribute [go_sem] Ma a71 b3Z a1U Lq a4x b2u a0E Xm a4O a4H a96
attribute [go_sem] a8O a7s a4f a9k a0Y a6l a5s a6d b2q b0r a4s a0V
attribute [go_sem] a77 a2P b6L b6S b6P a8w YI V6 start_eq V7 T3 a3p
attribute [go_sem] XX a2h Z6 a39 Qd a32 a2J a2D Xo a5A Vf a2x
attribute [go_sem] a4Q a7q a7O a6u a6h a1N b0q b0a a5N b1s b0Y a95
attribute [go_sem] a2V Yg b0A a3w a65 Xp a27 b4y b43 b3y b30 a5L
attribute [go_sem] a4z a58 Yc Yj a1J a1i a3G a2N a68 a37 b4z b2t
attribute [go_sem] a9O a7M b4l a6m a6H a70 b3o b1C b0K a8x a7I a9E
attribute [go_sem] a7T b0v a55 b4w b4B b5W b5B b3Q b46 b4u
attribute [go_sem] List.map_cons List.map_nil List.all_cons List.all_nil Bool.and_true Bool.true_and Bool.and_false Bool.false_and Bool.or_true Bool.true_or Bool.or_false Bool.false_or
attribute [go_sem] List.length_cons List.length_nil List.nil_append List.cons_append List.append_nil List.drop_zero List.drop_succ_cons List.take_succ_cons List.take_zero List.take_nil List.drop_nil List.getElem?_cons_zero
attribute [go_sem] List.getElem?_cons_succ List.getElem?_nil Option.bind_some Option.bind_assoc List.contains_cons List.contains_nil List.any_cons List.any_nil List.isEmpty_nil List.isEmpty_cons Option.isNone_none Option.isNone_some
attribute [go_sem] Option.toList_none Option.toList_some List.flatMap_cons List.flatMap_nil List.find?_cons List.find?_nil List.set_cons_zero List.set_cons_succ Bool.not_true Bool.not_false decide_true decide_false
attribute [go_sem] Option.map_some Option.map_none ne_eq not_false_eq_true not_true_eq_false Nat.zero_add Nat.add_zero Nat.zero_mul Nat.mul_one Nat.mul_zero Option.none_beq_some Option.some_beq_some
attribute [go_sem] List.filter_cons List.filter_nil beq_self_eq_true and_self and_true true_and
attribute [go_sem] b5C b5u b0V a9h a6X a5t b4Q b2P a6r a5f On Ov
attribute [go_sem] b1k b1h a5Z a76 W2 We b2g b35 a7w a6j b3w b3v
attribute [go_sem] b69 b5J a6F a4U b1p b1m Yf XY a4E a5w U7 Vz
attribute [go_sem] Ta TT WI W6 a5O a4d b4E b3t a5V a7g b2L b3O
attribute [go_sem] a3g a0T a5q a7o a41 a5P b1W b4P b3q b2Y a3h a3d
attribute [go_sem] a1A a0D b0B b08 a9V a8R a7X b0J a6q a4R b3l b4s
attribute [go_sem] a7m b09 b2F b4R b0f b2T b0u a9W a9R a4A a9Z b1i
attribute [go_sem] a1M a9B b0p a4e a8k a9H b39 a1I UU a8l a0M YA
attribute [go_sem] b01 a5v Zn YL a8P b26 a1l
attribute [go_sem] List.length_set b6a a7U b4t a6U b2a b31 b68 b33 a92 a9I a8J a9c b4Z a74 b3B a1k Xk b0k a8t b3F b4v b2V b3g a1W Ze b5e b64 b5a b32 a1f No Wa a5S a1o Mq a75 a5n a8G a7J a4b YB a1b a3B a4M b0D a6D a8K List.replicate_succ List.replicate_zero
attribute [go_sem high] a50 a1t a45 b2z b0G b0i a5c
attribute [go_sem] a2c b4o a8a a8o a7c a2y XG Dv b6h b4T a73 b3R a0n a66 b1l a63 b2b b2C
end Go.AI
