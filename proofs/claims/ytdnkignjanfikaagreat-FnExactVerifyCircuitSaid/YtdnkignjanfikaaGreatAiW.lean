/- Part. -/
import Derived.Test.YtdnkignjanfikaaGreatAiTyp4
import Derived.Attr
namespace Go.AI
attribute [go_sem ↓] cK ba
attribute [go_sem] b7n c0j b5U b4R b8o c03 b0u b3f a4z a9a b6t a42
attribute [go_sem] b5s b7g b8w b4Y b9D a48 b0z Vc a92 b3w c4l b52
attribute [go_sem] a8r c1r b6H b4l a41 c5j a4u b7P a9Z WG b5Q a8X
attribute [go_sem] a9c b1a b2J a1B b1i b4i b2E a8d b3n a9u c3v c3U
attribute [go_sem] b89 c1H b5h b4Q c4N c3V c6j c2B c53 c4A b01 c0E
attribute [go_sem] b54 c7I c6F c7U c2M c7z b7C b4A b8a L9 c8p c5A setB
attribute [go_sem] c3l c8L c1P QQ c80 c71 c5b c6m b8q c6R b3c b9H
attribute [go_sem] c0a a6A a5m b0C c6f b49 b5X b3x b6z b3S c3r c4R
attribute [go_sem] c1w b8S c3E VU a3n KD EU LD c8k c2O c0q c7u
attribute [go_sem] c6B c7n c8e c7l c74 c6x c8i c86 c3C c85 c7M c88
attribute [go_sem] c6A c6O c7v c6T c7A c5x c6n c56 c0h c1j c7T c8b
attribute [go_sem] c3u b7h c8d c6z c7e c3M c6c c8h c6V c79 c7J b95
attribute [go_sem] c7y c51 b9g a5K c7C b9F b2y b2A b60 b2u b3m c6M
attribute [go_sem] c5R c2X c6G c2H c2C b3h b3r b98 b9o c5U c0g b32
attribute [go_sem] b9i c3d c2E b91 b97 b9C b90 c7G b7w b2U c0d b8L
attribute [go_sem] b1D b8D b8c c0T c5F b4B a6P c7h WP a9i b2Z c2F
attribute [go_sem] b6m a9S b4X b1y b2F b0d a6e b6J c5d b8R c5c c5o
attribute [go_sem] c66 c6q c4D c5s b8b c7w b4G b80 b8l b6Q c1c b92
attribute [go_sem] c0B c0R c0F b4o c3j b0U b7s b7K b7i b2q c0O c08
attribute [go_sem] b8h b9t c0W b3j c43 b6O b3a c5z c1d c5J c4t b9x
attribute [go_sem] b6c a4d a0g c4i Tw Sa b2v a9d c1y a82 ZI b1V
attribute [go_sem] a6p a5U a8v b31
attribute [go_sem] b3H b3D b84 b8N a7N a3k
attribute [go_sem] a6d b7f c2D a1p a0f
attribute [go_sem] b4O a9z c75 b9j b2x c69 a6s a6j b9p b7e b78 a28
attribute [go_sem] c4j c1u c46 c3P c4w c4F b7O c5n a65 c4Y c4o c6p
attribute [go_sem] c4z b3q b5Y a9X a9w b00 b0P c0e c4a c0o c2T b8H
attribute [go_sem] c5K a3V c7x c4g c7H c6S c5a c89 c4v c6E c3D c7r
attribute [go_sem] c1z b1Q b1C b3t b2L c7p c4O b4P b2R b9L a6b b4u a2K a6l a5T a0w Zc b1R b5c b4g c4m
attribute [go_sem] b9y b3E c42 c5Z R5 c3J c0u c3i c47 c6g c8f b4d
attribute [go_sem] Z3 HX VI c2N c7N c7s a4G b3T b2M c3o c5e b6E
attribute [go_sem] b4W a4v a8u a8n a7X a8L a30 a8f b0T b0Z b09 b0l
attribute [go_sem] a83 b0X b9r b8f b8s c1D b5B a7Y c3s b5x c3q c48
attribute [go_sem] c5y c3y c4k b9J b9P b8z c1J b9A b8k c0H b8g c0I
attribute [go_sem] c3Z c5m c72 c6L c7Q b7J c6D b5O a35 a87 a88 b3V a85 b1z b9m b29 b0S
attribute [go_sem] a5O b1e QM b1T b4f b3s b1w a4Q b8E b45 b4J a5c
attribute [go_sem] Sf b4w c4b a7T PJ b6N c5D b0v a4s b6h b28 c0Y
attribute [go_sem] b9w b4s b46 c07 a9Q b69 b1v b1S c4r b7G b36 a8y
attribute [go_sem] b3P b1d c8m c8n c8C c1l a5p a2H start_eq a3D X5 a8Q
attribute [go_sem] a6a a9o a4m b04 Wd a95 a9I b02 a5n b2C a0l b0b
attribute [go_sem] b44 b4e b48 b41 b2o a9l b7m b7k b4z b7q b9c b8p
attribute [go_sem] b0p a4K c0P b25 b3X a4g a8R c3X c68 c4c c2t b61
attribute [go_sem] b6y b6A a4x a68 a7W b0O b3Z a8e b1A a9k c2x c3I
attribute [go_sem] c1E b4V c4e b66 b1L b5I c5g c2m c1n c0s b4n b9K
attribute [go_sem] b8i c1o b6M c4J c4Q c7m c7g c55 c4d c62
attribute [go_sem] aP dM cj oC fx aN Bool.and_false jJ Bool.or_true Bool.true_or Bool.or_false Bool.false_or
attribute [go_sem] ah ai bg eO bU fP List.drop_succ_cons lL List.take_zero List.take_nil List.drop_nil j8
attribute [go_sem] j3 List.getElem?_nil nI Option.bind_assoc List.contains_cons List.contains_nil List.any_cons List.any_nil List.isEmpty_nil List.isEmpty_cons Option.isNone_none Option.isNone_some
attribute [go_sem] Option.toList_none Option.toList_some cm List.flatMap_nil List.find?_cons List.find?_nil List.set_cons_zero List.set_cons_succ aH du decide_true decide_false
attribute [go_sem] ea Option.map_none ne_eq not_false_eq_true not_true_eq_false cy cQ lJ pT Nat.mul_zero Option.none_beq_some Option.some_beq_some
attribute [go_sem] kh ph beq_self_eq_true and_self and_true true_and
attribute [go_sem] c7S c7K b8I b9q b3b b4j c54 c67 b1p b6K Uq Tq
attribute [go_sem] c0G b8M b5p b34 a2k a1A c2K c5O b3U b3e c3z c6i
attribute [go_sem] c6I c87 b5b b6w b8Y b8Q a5u a5h b47 b3y a0q a0Q
attribute [go_sem] WJ Yh a1t a1H b3I b43 c3c c4Z b3A b6C c4f c4S
attribute [go_sem] a8o a84 b5n b40 b6P b5C c4p c2A c4C c4n b07 a90
attribute [go_sem] a8K a7V b9Q c0k b8v b8W c1K b9l b1s b1F c5T c3p
attribute [go_sem] b4I b85 c2s c5G b9I c5L c1M b7F c0i b4T b86 b7H
attribute [go_sem] a9A c00 b7p b3J b8T c09 c3W a8i a0d b8F a9g a5W
attribute [go_sem] b7D b5k a4q a59 b9U c5h a8g
attribute [go_sem] bf c7F b9R c5v b2s c5B c2L c73 c3a c1b b9S b82 c0r c6k b1O b0Q a99 c4I b0N a4A b7o b9e c5I c5H c3R c3t a9y a5L c7B c7c c7t c4s b0E yd Fh b6v b0F yf b3u b30 b8y b5w b6n a4Y a9v b3C b5D c1e b27 b96 lD lf
attribute [go_sem high] b57 b0I b4N c2p c0Q b8r b4E
attribute [go_sem] a9G a69 a5N a2g a6r a3u a4p a3J c3G c0L c1i b5e b0h a4R Jv c7Y c2Q b6B c4K a7p b3v c1h b3O c5r c3b
end Go.AI
