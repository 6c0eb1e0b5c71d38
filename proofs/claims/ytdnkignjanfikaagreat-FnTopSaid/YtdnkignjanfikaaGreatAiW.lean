/- Part. -/
import Derived.Test.YtdnkignjanfikaaGreatAiTyp4
import Derived.Attr
namespace Go.AI
attribute [go_sem ↓] dj bu
attribute [go_sem] b9V b83 b2Q b0G b6p b6U a6C b54 a27 a9h b0q
attribute [go_sem] b2E b8V b6z b3V b5T a1W a9i TY a7e b3N c3h b5j
attribute [go_sem] a8o b9C b0F b0E a4t c3v b7V a7n Xz b5h a8t
attribute [go_sem] a8V a93 b0R Zu a6Z b3a b0A a9n a9K a6S c2b c0R
attribute [go_sem] b8Y b7U c0O c3C c2F c1D a9e
attribute [go_sem] b4R c4X c6i c5L b48 b75 b7P c6Q setB
attribute [go_sem] c0p b0l a5T c51 c33 c3f b7d b2L b9M
attribute [go_sem] b9d a51 a2V a7R c32 b46 b4o b4a b0Z b3C c2I c4e
attribute [go_sem] b9K b6c Vq YY KX Gq L0 c6S c3P b7o c4s
attribute [go_sem] c5D c5F c4R c5f c4z c6s c6U c6g c3i c5K c4y c5I
attribute [go_sem] c5T c6x c6l c4D c4q c2K c2E b6f b8v c59
attribute [go_sem] c3N b7n c5q c79 c6f c5k b7E
attribute [go_sem] c5j a2u c62 b8O b0O b4y c68
attribute [go_sem] c4h c2P c5U c1e c1U b3q b38 b5Y b5P c1G b7T b55
attribute [go_sem] b7B c1r c3c b5N b97 b6Q b9s c5e b8q b03 b72
attribute [go_sem] b2R b9T b7Z c3E b5c a4O c4x XR a8b b0e c2B
attribute [go_sem] b4O b1X a8q a3x b31 c2W c3I
attribute [go_sem] c1w c3g c2L c55 b7l b8E b1c b8y b9x
attribute [go_sem] b8F b7h b7I c44 b7N b7Q b78 b5y b8A
attribute [go_sem] b6s b6y b7t b52 b2P c1F c4a c3e b9f
attribute [go_sem] b1K a2k Zs c4m TN Tv b1d a80 X5 b0c
attribute [go_sem] b7j a5K Z4
attribute [go_sem] a2f b8i c2l a00 a02
attribute [go_sem] b4h a9t c6q b96 b4k c4j a2y a3L b6W a0f
attribute [go_sem] c1d b9h c31 c2g c2z b6L c2M a4b c0V
attribute [go_sem] c3n b2h b2w a6x a7k b8n c2y b6i c2q b8U
attribute [go_sem] c1s a2X c5m c2i c4b c52 c3D c5Y
attribute [go_sem] b8c b5g b1V b3j b2d c6m b1m b8M a3a a0T a2F a2L a1d WU b2c b2t b3o
attribute [go_sem] c3u c2f SN c2o c2v c4n c6j b2K
attribute [go_sem] Yg Io Vu c1R c6a c6h a4j b2p b3p c3o c3B b4r
attribute [go_sem] b2T a28 a8i a8U a7i a9d a73 a78 a8Y
attribute [go_sem] a8h a9v b6v b6N b1A a8n c38 c1P
attribute [go_sem] c1n c3s c40 b87 b9W b7G b94 b7F
attribute [go_sem] c0W c3T b0X a03 a8Q a8m b01 a9q b0a b7v b58 a8X
attribute [go_sem] a2Y a6V Qv b2V b3Q b37 b0w
attribute [go_sem] SM b2I c1p a8Z Q9 b0s c1h a7h a2R b4m b3z b7e
attribute [go_sem] b7C b4X b3K b8w a74 b2j b3l b0M c3y b7M b2r a8C
attribute [go_sem] b0m a6T c6L c6I c7f b7x a3T a0q start_eq a1u WY a6R
attribute [go_sem] a2P a97 a2a a9r VH a8a a6D b0r ZK
attribute [go_sem] b2y a9S b3x a9X b5R b7s b9L b68
attribute [go_sem] a6M a3W b7r b1x b0x a8B b1o
attribute [go_sem] b27 b2C a3R a2m b45 a95 b5p a9a c1E
attribute [go_sem] b1S b2N b1W b4f c1H c0l b6P b8p
attribute [go_sem] b7u b79 b1t c1k c3F c4r c5r c2N c1j c1g
attribute [go_sem] aM eu cC List.all_nil dO bm Bool.and_false ub Bool.or_true Bool.true_or Bool.or_false Bool.false_or
attribute [go_sem] ab ah bA hO bM hK List.drop_succ_cons jE uh List.take_nil List.drop_nil ky
attribute [go_sem] i6 List.getElem?_nil qP Option.bind_assoc List.contains_cons List.contains_nil List.any_cons List.any_nil List.isEmpty_nil List.isEmpty_cons Option.isNone_none Option.isNone_some
attribute [go_sem] Option.toList_none Option.toList_some dA List.flatMap_nil List.find?_cons List.find?_nil vp vn aQ lF decide_true decide_false
attribute [go_sem] fj Option.map_none ne_eq not_false_eq_true not_true_eq_false ce cH nW tR Nat.mul_zero Option.none_beq_some Option.some_beq_some
attribute [go_sem] mD sO beq_self_eq_true and_self and_true true_and
attribute [go_sem] c5H b6j b5J b2X b3h b2J a9T TT U7
attribute [go_sem] b91 b6q b51 b0U Ze a1I c3X c1S b2g b0S
attribute [go_sem] c5g c6k b4q b0j a2s a2W b4M b4E YT
attribute [go_sem] Wc WW a1C a0X b04 a9R c2p a9O b4v c1A c1v
attribute [go_sem] a7K a9o b3b b3I c2X c2e
attribute [go_sem] a7s a75 b6R b8l b1I b0C c2R c0F
attribute [go_sem] b2F b95 c3k c3G b9b b6h b1U b7J b64
attribute [go_sem] b90 b85 b5I a0V b9g a6B a2I
attribute [go_sem] b7f b1D a26 a4e b9Q c4k a92
attribute [go_sem] aO a9Y c3x c3L b7Y b02 c1b a6Y a2E b8I b6A a9m a3D c5c c4p c5V c36 a7C AU GP b5z a72 Aq b0T b1g b5W b4e b5m b3f b84 b5l b6O nR ut
attribute [go_sem high] b2a a82 b1v c3q b8j b8L b3u
attribute [go_sem] a6X c1i b7S b3Y a8A a2x JU c5x c2n b50 c2G a5B b26 b1L c2D c45
end Go.AI
