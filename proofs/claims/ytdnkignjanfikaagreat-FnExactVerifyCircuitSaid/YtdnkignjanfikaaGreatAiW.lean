/- The words by which runs are walked through, as one set. -/
import Derived.Test.YtdnkignjanfikaaGreatAiTyp4
import Derived.Attr
namespace Go.AI
attribute [go_sem ↓] cO bf
attribute [go_sem] b7m b9S b3a b43 b9D b9U a9H b2n a5M b0R b68
attribute [go_sem] b3T b6Y b96 b4B b7j a64 b09 UV a9Y b47 c2t b5K
attribute [go_sem] b1I b8Q b40 b52 a6n c3p b7L b0K a08 b3l b2a
attribute [go_sem] b0r b0c b5n a4q b1Z b5L b31 b1P b5p a9J c0T c3c
attribute [go_sem] b7J b99 c2z c1a c3k c2m b0y
attribute [go_sem] b3U c4p c41 c4b b5z c02 b6L c5A setB
attribute [go_sem] c1e c5X c0p b5Q c5d c2i c2P b85 b4J b6S
attribute [go_sem] b7t b8X a6Q b0d c2A b3E b32 b3r b2Q b2m c1s c3J
attribute [go_sem] b8S b9A Xd a3K Pa MZ TM c5H c1p b7x c4Y
attribute [go_sem] c5w c4S c4T c58 c4D c3Z c5N c4s c0S c4J c4j c4n
attribute [go_sem] c4B c5p c4Q c5n c4Z c3D c3m c1N b8e b9e c4V
attribute [go_sem] c2U b8F c4y c4h c2h c5z c5c c4A b6P
attribute [go_sem] c4o a6J c5h b6K b2d b6h c44
attribute [go_sem] c0x c3r c3W c0P c1B b4n b5q b7N b7s c1j b8O b4g
attribute [go_sem] b76 c2q c2u b9b b8v b6V b7e c4k b9d b4X b7i
attribute [go_sem] b4b c08 b8n c3e b2U a8S c4C a0F b1n b53 c0H
attribute [go_sem] b2V b5w b0D a6h b5I c1x b7d c1F
attribute [go_sem] c3I c1i c2o c4H b7b b8T b4c b7G b8D
attribute [go_sem] b9o b7v b8w c1y b9N b8W b7k b6C b8s
attribute [go_sem] b8d b8z b9r b3b b2A c0V c2M c3d b7K
attribute [go_sem] b5A a67 a3I c3T W4 Su b3f b0E YF b62
attribute [go_sem] a9k b5o
attribute [go_sem] b9V a7W a57
attribute [go_sem] a5R b7T c2d a49 a4b
attribute [go_sem] b6x b0v c4M b74 b3Q c1T a6T b89 a3f
attribute [go_sem] c3f b7W c3E c1z c1Y a7I c1I c1G
attribute [go_sem] c1Q b2i b61 b1k b8k c2I b78 c0F b8h
attribute [go_sem] c1k a5q c4w c2v c2X c56 c1W c4E c0u c4l
attribute [go_sem] b7V a7n a3H a6i a7b a47 Yl b5R b3B b5v
attribute [go_sem] c2r c1P Sf c2x c1m c0O c4P b69
attribute [go_sem] a1C IK XF c29 c5s c4W a6N b3u b46 c3v c3a b3G
attribute [go_sem] b2c a7c b0G b1N b1d a9N b0n a9F b1A
attribute [go_sem] a9W b0e c01 b9j b5S a9n c1S c3s
attribute [go_sem] c0z c0N c2Q b6M b72 b9t c03 b77
attribute [go_sem] c0Z c1X b3p a3x b0L b1K b4K b0I b2Y b92 b5a a9O
attribute [go_sem] a5u b0t R7 b3R b6s b3W b6d
attribute [go_sem] U5 b64 c3l b1M QZ b3t c2V b0z a7j b2G b6u b7D
attribute [go_sem] b8J b4u b5U b98 a9Z b3j b4T b4e c3y b79 b54 b0Y
attribute [go_sem] b37 b26 c5F c5W c5C b8b a7e a1R start_eq a2a Z1 b1b
attribute [go_sem] a63 b0W a74 b1C Xg a9y b1u b6j a36 b0B
attribute [go_sem] b39 b2y b4L b4N b9k b9c b5i c00 b9x
attribute [go_sem] b1F a6l b9Z b6m b2H b0J b3D
attribute [go_sem] b4w b6e a62 a5B b58 b0Z b2k b1X c2e
attribute [go_sem] b6t b44 b3k b3H c0t c0r b8B b9L
attribute [go_sem] b75 b9H b49 c1f c2Z c5i c5a c1H c1C c3P
attribute [go_sem] aS ee cr List.all_nil gt aO Bool.and_false jO Bool.or_true Bool.true_or Bool.or_false Bool.false_or
attribute [go_sem] ah ai bj eV bW io List.drop_succ_cons lv List.take_zero List.take_nil List.drop_nil ji
attribute [go_sem] jg List.getElem?_nil Option.bind_some Option.bind_assoc List.contains_cons List.contains_nil List.any_cons List.any_nil List.isEmpty_nil List.isEmpty_cons Option.isNone_none Option.isNone_some
attribute [go_sem] Option.toList_none Option.toList_some cD List.flatMap_nil List.find?_cons List.find?_nil List.set_cons_zero List.set_cons_succ aH dv decide_true decide_false
attribute [go_sem] ej Option.map_none ne_eq not_false_eq_true not_true_eq_false cI cQ lR qE Nat.mul_zero Option.none_beq_some Option.some_beq_some
attribute [go_sem] kn pM beq_self_eq_true and_self and_true true_and
attribute [go_sem] c54 b6I b8j b3J b6y b6o b4R W1 Wt
attribute [go_sem] b95 b7P b2e b3V a2D a1I c3q c2J b5W b51
attribute [go_sem] c52 c4X b5H b41 a6X a73 b2z b2v a4l
attribute [go_sem] a59 a4V b4r b5P c2F c3L c0y
attribute [go_sem] b1m b0s b4f b3c c2c c2B
attribute [go_sem] a9x b1t c3O c1L
attribute [go_sem] b67 b8a c0M c1w b6H b7a b2K b9n b8G
attribute [go_sem] b7g b8V b8A a3S b9F a9h a6b
attribute [go_sem] b7U b2q a5x a6H b8P c3F b0P
attribute [go_sem] bg b34 c2b c3n b9p b4a c0v a9R a5Z b8l b7Y b0S a7w c5t c5g c4K c2T b1B zs FC b6f a9z yT b2l b4E b7R b56 b4o b5m b93 b2L b7y lw lk
attribute [go_sem high] b6a a9U b55 c1q b6J b7o b5c
attribute [go_sem] a9I c1K c07 b4U a5F JH c53 c0U b4O c3g a8t b2x b5J c2k c0I
end Go.AI
