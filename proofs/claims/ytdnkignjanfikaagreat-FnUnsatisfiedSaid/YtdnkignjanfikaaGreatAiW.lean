/- The words by which runs are walked through, as one set. -/
import Derived.Test.YtdnkignjanfikaaGreatAiTyp4
import Derived.Attr
namespace Go.AI
attribute [go_sem ↓] bM aK
attribute [go_sem] b6e b6F a7S b0q b43 b5V a5z a92 Yo a2L a6U Zl
attribute [go_sem] a7n b56 b3r b0R b3R YS a3C Q7 a5L b1a b9K a75
attribute [go_sem] a3T b41 a9J a7L Zw c0Q Zy b3q a64 U2 b0K a5F
attribute [go_sem] a35 a4N a85 Ve a30 a8B a8e a5E b0M a3I b7r b8Q
attribute [go_sem] b3l b39 a8U b1f b9N b9i c1d c0z b8v b8E a3o b4f
attribute [go_sem] a9x c1K c2s c1U b8n c2x b4C a0E b3h Gg c3O c0w setB
attribute [go_sem] b7T c3L b71 P4 a2r c3j b8D c0W b2H c2L a7l b47
attribute [go_sem] b6c a1S YO a2Z b9E a9t a9b b1Y b1P b1w b9n b8m
attribute [go_sem] b5w b2y c0B QW W3 Im Bm Iq c3M b9u b57 c2l
attribute [go_sem] c2r c3q c2S c2n c1A c1I c3X c2e c0k c3h c2H c2C
attribute [go_sem] c2G c1E c3d c2Y c1N b7w b8U b7Y b4P b4Z c1t c2T
attribute [go_sem] b9C b2V c2E c2z c2P b7O b9S c3R c2p c1D c3a b45
attribute [go_sem] c2i b9s b5i a0k c37 b2s a93 a71 b0N b0T b03 c1C
attribute [go_sem] c0p c0m c1X b9L b94 a6O a79 b5l b5G b7S b3I b1b
attribute [go_sem] b4Y b7U c1b b3j b5J b4J b5R c1H b6G a8c b5K b2g
attribute [go_sem] a9E b4k b4s b2d c0v b1v a2h c2y Up a4V a7Q b7m
attribute [go_sem] a6F a4Y b0h a74 a8b a2Q a0l a8k c0o b4A b7C c0q
attribute [go_sem] b9t b9X b8A c09 b3X c1T a8J b3Y b5S a6i b4r b2K
attribute [go_sem] b5x b2F b5n a86 b9q a4Q b2A b2e b4n a8n b32 b4F
attribute [go_sem] b5X b2r b5o a6d b8H a6R a8F b8j b6y b91 b8w b6L
attribute [go_sem] a7X a0B UT b7t Q5 N0 a6x a3h b6E a4C TH a9B
attribute [go_sem] ZZ Yr a2W a8I
attribute [go_sem] b1T b0c b6N b5k a1v Vx
attribute [go_sem] Zn b4h b7L Y8 XA
attribute [go_sem] a9z a3Z c2Q b4U b1I b7V ZN ZF b4j b2T b2Q Vq
attribute [go_sem] b95 b48 b8X c0e b7k b9g b3B b7c ZB b82 b9o b8k
attribute [go_sem] b89 b1U a8X a60 a4m a4y a5I b69 b8T b4i c0J b54
attribute [go_sem] c0j Zc c1J b8F c3m c2D b86 c2j c0A c1Q b7l c2J
attribute [go_sem] b5U a8q a8M a7E a7I c2f b9b a6u a9V b5u a0F b1A Yk Ys YG Xr Sl a8S a6m b0A b9a
attribute [go_sem] b4W b1Q c0U b7B NQ b9P b2x c0a b9G b8t c1s a9F
attribute [go_sem] RA F9 QY b7N c2b b75 a0r a6C a9R c06 c0F a9m
attribute [go_sem] b0o YM a4e a52 a5H a3P Xn a2T a3K a4I a4l a5x
attribute [go_sem] a3F a3g b3a b31 b5c b5I a7A a4R b9V b1z b7p c0t
attribute [go_sem] b8g b8O c00 b3b b68 b4K b4I b2Z b66 b4B b2l b6D
attribute [go_sem] b9m b7i c2R c2k c2N b49 c2a b1d XI a3u a4K b0a a3z a7u b4g b1K a3W
attribute [go_sem] Z1 a3J OK a9u b1D a82 a97 YC b3P b0Z b1e YN
attribute [go_sem] NY b0v b9r a3L NJ b27 b7R a3q Ze b0e b04 b67
attribute [go_sem] b6p a98 a8Q b4x a5f b0S b0W b0F c04 b6v b1X a4h
attribute [go_sem] a9c a5J c48 c3I c3D b3Z YV Xm start_eq WQ Tc a2Y
attribute [go_sem] Z8 a3i a0V a4M QT a4f a3U a41 Z2 a8g V8 a4X
attribute [go_sem] a7v a6s a88 a8V b0f a40 b5a b4t a7s b5q b6r b6k
attribute [go_sem] a5A a0h b6f a9e a7C Zt a2K c05 b8P c1a b7A a73
attribute [go_sem] b0p b1i a0D YD a4n a4Z a7m a4o a6T a5h b9k c0x
attribute [go_sem] b33 a96 b9B b0k a8D b1q c0u b6W b3x b4e a6l b2k
attribute [go_sem] b5g b51 b1R b83 b8L c1R c2o b8l b7e b9A
attribute [go_sem] List.map_cons List.map_nil List.all_cons List.all_nil Bool.and_true Bool.true_and Bool.and_false Bool.false_and Bool.or_true Bool.true_or Bool.or_false Bool.false_or
attribute [go_sem] List.length_cons List.length_nil List.nil_append List.cons_append List.append_nil List.drop_zero List.drop_succ_cons List.take_succ_cons List.take_zero List.take_nil List.drop_nil List.getElem?_cons_zero
attribute [go_sem] List.getElem?_cons_succ List.getElem?_nil Option.bind_some Option.bind_assoc List.contains_cons List.contains_nil List.any_cons List.any_nil List.isEmpty_nil List.isEmpty_cons Option.isNone_none Option.isNone_some
attribute [go_sem] Option.toList_none Option.toList_some List.flatMap_cons List.flatMap_nil List.find?_cons List.find?_nil List.set_cons_zero List.set_cons_succ Bool.not_true Bool.not_false decide_true decide_false
attribute [go_sem] Option.map_some Option.map_none ne_eq not_false_eq_true not_true_eq_false Nat.zero_add Nat.add_zero Nat.zero_mul Nat.mul_one Nat.mul_zero Option.none_beq_some Option.some_beq_some
attribute [go_sem] List.filter_cons List.filter_nil beq_self_eq_true and_self and_true true_and
attribute [go_sem] c1M c2V b3m b5L a6e b0I b9Q c1c UH Vr PU PQ
attribute [go_sem] b3z b3o a6g a7K Xq Xw b7s b9c a8x b1o b7W b7q
attribute [go_sem] c1z c3l a7y a99 b42 b3G a0e YE a7R a7t UL Wf
attribute [go_sem] UB TJ Yc WK a7G a9Q c0T b8f b02 a6Z b7y c0Y
attribute [go_sem] a5w a4J b29 b0b b1G a6H b8a b97 c07 b8N a3s a4j
attribute [go_sem] a5d a3p b2w b4y b3p b2p b4V b2P b1r b1k c0V b93
attribute [go_sem] a6o b52 b84 b8W b3c b8Z b3C b6H b5r a6L b3t b5M
attribute [go_sem] a3j b2h b6t a9O b3N b5f b9U a2M Vd b6g a5s ZJ
attribute [go_sem] b3L b0n a0X a0v b2D b9w a3X
attribute [go_sem] List.length_set c1x b3d b80 a7Y b7d b8b c2F b8h b2L b2O b6K b5t c0N a8i a5Y a4c b8q a42 a0A b4z b6B b7P c0P b8e b87 a65 Zb c1o c3c c1G b9I a4T w8 BR b0d a3t vj b1V a6M b5m b0U b26 Z4 a3A a8r a9W b4D a9C b6u List.replicate_succ List.replicate_zero
attribute [go_sem high] a8m a4F a89 a3k b7F b2J b3n a8z
attribute [go_sem] a4L Z9 Za XJ a0J X4 a0Y US b7J b5D b3v a8p a5Z Z0 FO c1B b9z b0V b9h a1p b1B b3w a90 b7E c0M
end Go.AI
