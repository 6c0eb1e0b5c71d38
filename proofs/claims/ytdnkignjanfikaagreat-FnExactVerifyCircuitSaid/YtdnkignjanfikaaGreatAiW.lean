/- Part. -/
import Derived.Test.YtdnkignjanfikaaGreatAiTyp4
import Derived.Attr
namespace Go.AI
attribute [go_sem ↓] cL ba
attribute [go_sem] b7J c1B b4i b2N b7Q b86 b0n b2j a4C a9U b64 a5s
attribute [go_sem] b4q c0Q c0u b3Z b9g a58 b0J U0 a9u b3f c6i b6M
attribute [go_sem] a89 c1y b3B b36 a5e c4r a3N c1J a8i ZE b67 b0M
attribute [go_sem] a9w a9O b4k a3g a8C b5S b6i b1i b2x b0I c3w c2Z
attribute [go_sem] c1I b9H b6I b1N c4U c2E c4f c58 c5J c54 a85 b9i
attribute [go_sem] b6w c7B c6M c78 c5x c6U b8O b6F b8j KH c8o c4l setB
attribute [go_sem] c3p c8L c1R RE c7c c80 c4Z c5N c1e c7V b2c b7L
attribute [go_sem] b8s a7j a69 a8I c3d b5A b1I b3x b5w b2G c4V c5u
attribute [go_sem] b7H b8W c4C Vr ZV Ki EV LU c8q c3i c0I c75
attribute [go_sem] c82 c6R c70 c6H c6K c6v c8G c7v c5c c6Q c89 c7M
attribute [go_sem] c6z c7x c7o c7r c7k c2G c4F c2S c1d b9E c7l c7n
attribute [go_sem] c5o b7v c6B c7z c7q c3N c3F c8p c7i c7h c7C b9K
attribute [go_sem] c7y c6c b7K a6j c6I b87 b2C b4V b3W b5T b3w c6V
attribute [go_sem] c2P c3L c6F c4N c6d b1K b6g c1g c04 c5s b8H b3V
attribute [go_sem] c05 c5E c5Q b7x c0l c1z b8I c7J c1q b39 b9a c0K
attribute [go_sem] b2e b8S b8p b7V c2D b4z a7x c71 Yi a96 b5q c5O
attribute [go_sem] b25 a8E b2o b3T b3a b0u a4q b4p c6e b8q c5p c67
attribute [go_sem] c3o c5B c6m c2o b8B c8d b2l b90 c1l b3j b9l b8C
attribute [go_sem] b8i c0g b9w b6z c2V a7V b7h b7a c1v b4x b7I b7e
attribute [go_sem] b9Q c0P b9S b47 c4P b6n b34 c49 b8Z c50 c4I c02
attribute [go_sem] b5y a3W a0u c2L TB Q5 b6l b0i b8t a8D Yn b2a
attribute [go_sem] a3U a5j b0V b5f
attribute [go_sem] b4t b3D b7D c0C a6Q a31
attribute [go_sem] a3P c06 c4p ZX a1I
attribute [go_sem] b4U b1g c85 b88 b2U c68 a3X a5K b7u c1C b7n a1H
attribute [go_sem] c4A b8V c3e c5d c5P c6a b7M c3v a3T c5L c3r c3B
attribute [go_sem] c3Z b5P b26 a8Q a8j b0h b0H c0z c3k c0d c5A b8J
attribute [go_sem] c3I a68 c86 c66 c84 c7L c4n c7p c4L c6x c53 c7U
attribute [go_sem] c1s b3l b2k b5N b41 c7T c5y b4B b5d c1x a6t b52 a1r a4f a47 a3C Xp b2F b3t b6e c2x
attribute [go_sem] c0r b3k c3a c5D PA c4G b7l c59 c4q c4c c7a b40
attribute [go_sem] Y9 IP Vx c2X c7u c76 a5C b5M b5E c5T c3q b6v
attribute [go_sem] b2W a5F a8R a9T b1c b04 a2w a8k b1a b1d b0p b0L
attribute [go_sem] a9l a8Z b9r b9G b8c b8X b6a a8x c5w b4I c3T c4H
attribute [go_sem] c2B c4b c3c b9A b76 b7P b8w b7i b96 c0O c0j b98
attribute [go_sem] c6l c2R c6L c7m c6u b8D c74 b3u a2E b0q a80 b4y a9H b3X b8k b4E b0N
attribute [go_sem] a4T b0k Rp b4W b1Q b5a b1H a4H b8M b4l b3b a54
attribute [go_sem] PI b5B c5g a9S PX b6h c4Y a9a a4h b62 b3O c1m
attribute [go_sem] b7z b6c b2v b9c a8z b5Q b3F b2u c46 b9s b1Z a8T
attribute [go_sem] b1t a8q c8j c8k c8v b82 a5k a2B start_eq a2I Zk a8X
attribute [go_sem] a6o a9t a5T a8m Wi a8c a83 b0l a5u b5U a1g a7T
attribute [go_sem] b1T b6B b28 b1G b3e b0m c07 c0c b5C c1o b81 c0p
attribute [go_sem] b0S a4X b7Y b37 b54 a6r a8K c56 c4W c4S c3u b6d
attribute [go_sem] b6k b35 a5D a4b a9V b0A b30 a9J b33 a9f c4E c2J
attribute [go_sem] b77 b6q c3C b2I b4T b6A c6b c1M c0m c0S b61 c0J
attribute [go_sem] b7E b9b b1u c3s c5m c6Z c7I c2z c3A c5e
attribute [go_sem] aP dL cj ox fy aN Bool.and_false jA Bool.or_true Bool.true_or Bool.or_false Bool.false_or
attribute [go_sem] ah ai bg eH bV fR List.drop_succ_cons ly List.take_zero List.take_nil List.drop_nil ja
attribute [go_sem] j2 List.getElem?_nil nY Option.bind_assoc List.contains_cons List.contains_nil List.any_cons List.any_nil List.isEmpty_nil List.isEmpty_cons Option.isNone_none Option.isNone_some
attribute [go_sem] Option.toList_none Option.toList_some cm List.flatMap_nil List.find?_cons List.find?_nil List.set_cons_zero List.set_cons_succ aH du decide_true decide_false
attribute [go_sem] ea Option.map_none ne_eq not_false_eq_true not_true_eq_false cy cQ lF pQ Nat.mul_zero Option.none_beq_some Option.some_beq_some
attribute [go_sem] kf p6 beq_self_eq_true and_self and_true true_and
attribute [go_sem] c87 c6y b7Z b9N b5c b4f c5K c4D b1E b2O U9 TH
attribute [go_sem] b7s b7g b4v b55 a1e a0l c2u c5M b1q b63 c3l c5W
attribute [go_sem] c6G c6E b5r b2J b9k b8U a4R a5Q b2n b5J a2P a2e
attribute [go_sem] XG XX a0h a2A b6r b3C c3z c5Z b1y b4w c4g c5t
attribute [go_sem] a7Z b0D b1Y b50 b3n b3Q c2p c5k c44 c3Q a9k b0B
attribute [go_sem] a91 a93 b9C c0H b8R b7A c1G b7U b2p b4K c57 c52
attribute [go_sem] b1L b7F c2H c6k b7O c6j b9T c0s b7j b1A b7o b8a
attribute [go_sem] a7U b9I b8A b65 c1a b9h c4j a7X a2m b8y b06 a44
attribute [go_sem] b8r b5h a5r a6e b8P c3y a8L
attribute [go_sem] bf c7W b9O c2s b57 c2Q c4k c8c c3J c1b b8l c1p b83 c3R b2i b1f a9j c5z a8N a3Z c0L b9q c3h c2r c3X c2C a9g a3S c6Y c81 c88 c5j b02 y0 Gu b5W b0z ye b4e b4A b7q b4a b5g a4m a9z b5Y b3h b9v b6E b7G lO ld
attribute [go_sem high] b5m a9h b43 c3x b7w c0n b2P
attribute [go_sem] a8A a4i a4v a2D a5q a2x a61 a1M c5r b9M b9y b3z a9B a5m Jm c7A c45 b2b c4X a7a b6s b9V b2D c47 c4z
end Go.AI
