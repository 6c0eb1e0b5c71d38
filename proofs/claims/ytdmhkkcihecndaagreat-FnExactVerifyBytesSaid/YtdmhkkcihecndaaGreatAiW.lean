/- The words by which runs are walked through, as one set. -/
import Derived.Test.YtdmhkkcihecndaaGreatAiTyp4
import Derived.Attr
namespace Go.AI
attribute [go_sem ↓] bF aw
attribute [go_sem] b4D b4v b0Q a7t b2i b3h a6v b1f a1J a4Q a9r a2t
attribute [go_sem] a89 b47 b3q a7y b57 a0P a5J QV a5I b1t b6k a8F
attribute [go_sem] a5d b1Y b0U a7c a1V b7E a0y b5h a55 UG b0A a6R
attribute [go_sem] a4U a5A b0q a07 a5q a8b a71 a4X a9G a4B b5H b7I
attribute [go_sem] b4I b3m b1q b6y b64 b7n b75 b8p a5T
attribute [go_sem] b05 b9l c0m c06 b8g c0r b2C a8G b1G b51 c0z setB
attribute [go_sem] b5X c0w b5k a80 c0g b9U b63 b5Q b2B b9s a8Y b5e
attribute [go_sem] b4G a3c a2C a4H b70 a8e a90 b1a b0w a7H b8w b7M
attribute [go_sem] b2f b37 b8m T3 Zk Mz Hm Mg c0D b8v b4k b9B
attribute [go_sem] b9d b9r b8W b9f b9w c0l c0K b9K b76 b98 b9n b9j
attribute [go_sem] b9m b9q b9H c0o b8X b62 b7W b8E b5c b2E b9i b9Y
attribute [go_sem] b6d b4X c09 b9E b5W b6F c0M b91 b9X b8Q b3k
attribute [go_sem] b8S b6N b4h a0x c0s b5g a7O b0u b1c a8p a7x c02
attribute [go_sem] b8j b6Y c0h b80 b7P a8R b0r b2w b3O b6r b3s a8g
attribute [go_sem] b27 b7j b7S b3a b2r b3j b4L b9p b3I a7j b36
attribute [go_sem] a8m b3H b56 b5Y a7U a3T c0d W3 a5z b0t b6O
attribute [go_sem] a8A a6N a8K a86 b1o a4m a28 b1A b89 b3u b8z b5R
attribute [go_sem] b8G b7r b8s b6W b2Y b9P a7B b40 b3V a7z b3C b38
attribute [go_sem] b3Y b2j b1V a9N b85 a6G b3J b4T b2x a8D b29 b4N
attribute [go_sem] b2e b41 b30 a87 b86 a70 a9B b8a b4Q b5P b6z b4d
attribute [go_sem] a8j a30 ZO b7A QP OX a7b a61 b43 a6J Ur a9W
attribute [go_sem] a0I a2P a4J a9t
attribute [go_sem] a8z a9e b1U b50 a3Q XL
attribute [go_sem] a26 b55 b8J ZC XC
attribute [go_sem] a7g a6M b9u b2h a8x b72 a1N a2R b2W b4R b1T a0n
attribute [go_sem] b6q b3l b65 b5N b6j b2J b6w a1i b7H b84
attribute [go_sem] b69 b0h b0i a5i a5Y a60 a4a b2H b5G b4b b7h b2M
attribute [go_sem] b8l a0V b9b b6S b9z c0k b6K b9Q b6a b8R b6C b9o
attribute [go_sem] b4c a0W b1C a0o a2F a1M YM TZ a8v a7u a9Y b7c
attribute [go_sem] b2T b0S b6n b8O b1i b6e b2I b6c b8C b6s b9e a73
attribute [go_sem] Ux Fv SS b7e b9R c0j a1W a77 a8h b6u b6v a7l
attribute [go_sem] a9m a1l a6F a6y a4Y a5m Zy a4r a5n a5N a6E a5h
attribute [go_sem] a6j a5o b3L b2s b3f b3P a9w a6e b6T a7h b7p b6x
attribute [go_sem] b7i b6Q b87 b1P b2p b3E b3S b2Z b2z b2V b2y b2n
attribute [go_sem] b6G b8f a9I ZZ a4x a5p b0s a5v b0n b3Q a9O a59
attribute [go_sem] a1Q a6p On a8Z a8n a7D a7M a2N b2o b0c a7R a0H
attribute [go_sem] PR b0b b6Z a5e Qs b01 b7V a6l a1S a6Y a7T b4i
attribute [go_sem] b4W a8H a8k b4A a68 a8L a8i b0m b8h b3v a9v a6K
attribute [go_sem] b1k a5Z c0P c0y c0F b2t a2Y Y3 start_eq a00 X3 a4y
attribute [go_sem] a0Z a5D a0O a4D Tz a6c a4v a4s a0B a8q a0e a4l
attribute [go_sem] a7s a9M a78 b0O a92 a63 b2P b2L a74 b1J b1N b4g
attribute [go_sem] a4T a2D b2Q a7Z a98 a1b a4z b7k b7g b6m b7f a9S
attribute [go_sem] a9R a9J a0G a1w a5b a6k b0v a57 b0R a66 b7l b7F
attribute [go_sem] b35 a8c b6h a8N a8U b0P b6M b5r b5a b4f b1u b4j
attribute [go_sem] b53 b3B a8V b7O b7y b9L b96 b77 b7N b5Z
attribute [go_sem] List.map_cons List.map_nil List.all_cons List.all_nil Bool.and_true Bool.true_and Bool.and_false Bool.false_and Bool.or_true Bool.true_or Bool.or_false Bool.false_or
attribute [go_sem] List.length_cons List.length_nil List.nil_append List.cons_append List.append_nil List.drop_zero List.drop_succ_cons List.take_succ_cons List.take_zero List.take_nil List.drop_nil List.getElem?_cons_zero
attribute [go_sem] List.getElem?_cons_succ List.getElem?_nil Option.bind_some Option.bind_assoc List.contains_cons List.contains_nil List.any_cons List.any_nil List.isEmpty_nil List.isEmpty_cons Option.isNone_none Option.isNone_some
attribute [go_sem] Option.toList_none Option.toList_some List.flatMap_cons List.flatMap_nil List.find?_cons List.find?_nil List.set_cons_zero List.set_cons_succ Bool.not_true Bool.not_false decide_true decide_false
attribute [go_sem] Option.map_some Option.map_none ne_eq not_false_eq_true not_true_eq_false Nat.zero_add Nat.add_zero Nat.zero_mul Nat.mul_one Nat.mul_zero Option.none_beq_some Option.some_beq_some
attribute [go_sem] List.filter_cons List.filter_nil beq_self_eq_true and_self and_true true_and
attribute [go_sem] c04 b92 b4J b3b b0L a6T b73 b7T a7N a7q RC RL
attribute [go_sem] b3y b1F a9h b0N Xy Ye b7m b67 a9a a7W b5J b8n
attribute [go_sem] b9v b9M a84 a7v b59 b1L a2A a0X b1r b0f Z2 YE
attribute [go_sem] UT WD ZB YC b1w a97 b7o b7D a7F a8P b6b b5L
attribute [go_sem] a4f a4F b0C a9y a7G a9c b7L b7w b7b b6g a5x a4N
attribute [go_sem] a52 a5C b1R b2d b58 b33 b4y b4a a7K a8M b8i b71
attribute [go_sem] a7k b2m b8c b74 b2a b6f b3p b5i b1H b1l b2v b4m
attribute [go_sem] a6a b4P b2D a9d b2R b42 b68 a6L Yj b3R a5V a1X
attribute [go_sem] b1M a8I a0N a1C b3M b6X a4g
attribute [go_sem] List.length_set b9k b4H b88 b1h b8d b82 b9D b8A b3U b3n b3e b4r b7z a8O b5K a5a a2J b3N b3T b8o b7d b8r b81 a6A a1H b90 b8Z b9t b6J a6b Pt Yg b1E a6h PH b0a a75 b1I a9p a9b a2k a5H b0I b1e b48 a82 b1S List.replicate_succ List.replicate_zero
attribute [go_sem high] a7i a5Q a7V b8k b2U b31 b08
attribute [go_sem] a5y b8b b3w b4C a94 a5E a0D GR b9C b7U a7f b7G a3S a7d b3G a9q b6R b7s
end Go.AI
