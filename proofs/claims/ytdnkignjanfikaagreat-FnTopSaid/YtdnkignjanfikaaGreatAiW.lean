/- Part. -/
import Derived.Test.YtdnkignjanfikaaGreatAiTyp4
import Derived.Attr
namespace Go.AI
attribute [go_sem ↓] dj bu
attribute [go_sem] b8H b9k b2B b0S b7n b8p a83 b1G a2O a8m b2d
attribute [go_sem] b4A b78 b8I b4J b9q a3g a9m U1 a8W b5d c2U b3Y
attribute [go_sem] a8f b8S b58 b5y a43 c2Y b7m a8l Yy b4U a8v
attribute [go_sem] a9A a7y b2N a1E a8H b3n b07 a9b b4Q a6Z c1T c2o
attribute [go_sem] b8O b9Q c32 c2b c2J c2Q a6G
attribute [go_sem] b0o c4x c4P c5h b0e b9w b7Y c7g setB
attribute [go_sem] c0t b0h a5E c5U c36 c3P b7J b2P b9n
attribute [go_sem] b6H a4v a27 a80 c2d b3C b4Y b0B b1f b4v c3z c4g
attribute [go_sem] b6K b9F V2 a1c Ku H0 KA c72 c3n b95 c68
attribute [go_sem] c4s c6s c67 c64 c6u c5f c6I c5G c2S c4Z c6l c4L
attribute [go_sem] c6e c4K c6x c5X c5a c4a c4j b8J b90 c5y
attribute [go_sem] c0Z b8F c5v c6R c5H c5k b8q
attribute [go_sem] c6y a3c c4Y b7P b04 b3R c66
attribute [go_sem] c3w c0G c6k c1g c2R b2O b09 b9a b9K c1y b6w b47
attribute [go_sem] b5X c1r c3M b8v b6T b8c b7c c5O b6X b2Q b7p
attribute [go_sem] b0p b5T b6f c1S b0n a5Z c4y Yp a6E b4R c3Q
attribute [go_sem] b4c b3A a7e a2n b0K c37 c4m
attribute [go_sem] c1v c3m c3b c5x b8b b9H b1e b8U b99
attribute [go_sem] b8P b7a b9x c2I b9h b9T b6e b5a b9f
attribute [go_sem] b6J b7e b6r b4V b2C c1J c3j c1j b9S
attribute [go_sem] b0a a1U a1b c3I Ub QX b2z a6L XW b2y
attribute [go_sem] b8n a6n ZB
attribute [go_sem] a4r b73 c4k a0R YZ
attribute [go_sem] b1p a9v c5P b8s a9Q c1c a3o a2g b9I Zp
attribute [go_sem] c3N b68 c3C c3H c1m b6U c2u a48 c2c
attribute [go_sem] c4f b1V b1w a7X a6J b94 c4d b8D c2a b65
attribute [go_sem] c3k a2T c4E c40 c0M c5o c33 c5V
attribute [go_sem] b77 b2Z b4e b1I b2U c5s b1N b9A a4l a1w a1W a3p Z7 Yt b41 b5k b2D
attribute [go_sem] c2G c2w Q4 c3y c0H c1E c5g b3T
attribute [go_sem] WR Ix Vw c3h c5J c5A a3E b3w b27 c44 c0U b4S
attribute [go_sem] b2x a4t a73 a87 a6z a7L a6y a6R a7p
attribute [go_sem] a8y a8S b9u b6y b4l a98 c2g c1a
attribute [go_sem] c1Z c3R c39 b8V b6Z b6h b7l b8r
attribute [go_sem] c1n c2v b5r a0l a7c a7w b4T a8c b3a b9G b4j a7u
attribute [go_sem] a42 a8j Rh b01 b0P b2w b3O
attribute [go_sem] Qs b02 c3i a8n Q8 b5f c0E a8w a3R b4k b0G b5F
attribute [go_sem] b6p b1O b1E b6u a6V b3h b3y a9P c2D b8B b03 a6Q
attribute [go_sem] b5b a8e c78 c7b c74 b9C a3u YP start_eq a1B YA a85
attribute [go_sem] a2b a8B a2l a7q Vt a7r a8T b3F ZK
attribute [go_sem] b3k b0V b2k a9Y b5G b9W b7O b74
attribute [go_sem] a8g a4q b7o b1g b1X a9q b28
attribute [go_sem] b2s b4g a44 a2V b31 a71 b26 a8o c4c
attribute [go_sem] b5n b5e b0f b2l c2L c05 b8X b8A
attribute [go_sem] b5Q b85 a9F c3B c2V c5p c58 c43 c1e c2f
attribute [go_sem] aM eu cC List.all_nil dO bk Bool.and_false u6 Bool.or_true Bool.true_or Bool.or_false Bool.false_or
attribute [go_sem] ab ah bA i5 bL hJ List.drop_succ_cons jJ u9 List.take_nil List.drop_nil kh
attribute [go_sem] i6 List.getElem?_nil rp Option.bind_assoc List.contains_cons List.contains_nil List.any_cons List.any_nil List.isEmpty_nil List.isEmpty_cons Option.isNone_none Option.isNone_some
attribute [go_sem] Option.toList_none Option.toList_some dA List.flatMap_nil List.find?_cons List.find?_nil uY vC aQ lF decide_true decide_false
attribute [go_sem] fj Option.map_none ne_eq not_false_eq_true not_true_eq_false ce cH nD tK Nat.mul_zero Option.none_beq_some Option.some_beq_some
attribute [go_sem] mM sW beq_self_eq_true and_self and_true true_and
attribute [go_sem] c53 b9b b5Y b3x b2R a9E b2o Ua UC
attribute [go_sem] b6R b79 b2b b5q Zx a0B c2Z c2j b1L b0W
attribute [go_sem] c6i c55 b1A b0Z a28 a2d b5g b43 a0x
attribute [go_sem] Ym Xi Z9 a00 b3v b3e c1O b2m b1z c3T c3o
attribute [go_sem] a9w a8Z b4B b2g c3s c0J
attribute [go_sem] a9n a7s b8y b6M b1r b08 c2K c1Y
attribute [go_sem] a9O b8m c0D c3x b7r b9t b30 b5M b8a
attribute [go_sem] b6S b6W b6L ZZ b72 a9y a3N
attribute [go_sem] b7H b35 a3m a32 b8C c3p a8L
attribute [go_sem] aO b1n c4n c0K b7E b1M c0V a6S a3y b6t b7S a8J a2W c5T c4N c52 c3f a84 AG GT b1C a9h AK b05 b0s b7D b0c b5z b29 b67 b1d b6Q nY uu
attribute [go_sem high] b1H a7n b0d c3t b5Z b80 b1a
attribute [go_sem] a9p c34 b9i b2A a8G a47 K4 c61 c2m b4p c1q a5m b0x b2F c38 c2z
end Go.AI
