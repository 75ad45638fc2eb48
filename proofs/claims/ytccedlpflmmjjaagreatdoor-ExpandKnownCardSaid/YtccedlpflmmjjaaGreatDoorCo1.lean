/- The compiled texts of the functions, first part. -/
import Derived.Test.YtccedlpflmmjjaaGreatDoorLc1
namespace Go.Am.K19
open Go Go.Am Go.Am.L
def f3 : LF := ⟨0,
 o (call 4 []) <|
 ret [(T 0)], false, [none]⟩
def f4 : LF := ⟨0,
 o (call 5 [(.c (.str [120]))]) <|
 o (call 5 [(.c (.str [121]))]) <|
 o (call 5 [(.c (.str [122]))]) <|
 o (call 5 [(.c (.str [102]))]) <|
 o (call 5 [(.c (.str [103]))]) <|
 o (call 5 [(.c (.str [116]))]) <|
 o (call 5 [(.c (.str [100, 101, 102, 105, 110, 101]))]) <|
 o (call 5 [(.c (.str [105, 102]))]) <|
 o (.build [(I 0), (I 0), (I 0), S0, S0, (I 0), (I 0), (I 0)] [(0, 1, (K 2))]) <|
 o (.bsl true [(I 0), (I 0), (I 0), S0, S0, (I 0), (I 0), (I 0)] 1 [(0, (T 0))]) <|
 o (call 5 [(.c (.str [108, 97, 109, 98, 100, 97]))]) <|
 o (.bsl true [(.list .nil [])] 1 [(0, (T 10))]) <|
 o (call 8 [(T 0)]) <|
 o (.bsl true [(.list .nil [])] 3 [(0, (T 2)), (1, (T 0)), (2, (T 12))]) <|
 o (call 8 [(T 0)]) <|
 o (call 9 [(K 5)]) <|
 o (.bsl true [(.list .nil [])] 2 [(0, (T 1)), (1, (T 0))]) <|
 o (call 8 [(T 0)]) <|
 o (.bsl true [(.list .nil [])] 1 [(0, (T 0))]) <|
 o (call 7 [(T 0)]) <|
 o (call 6 [(T 0), (.c (.str [40, 40, 108, 97, 109, 98, 100, 97, 32, 40, 120, 46, 48, 41, 32, 120, 46, 48, 41, 32, 53, 41]))]) <|
 o (.un .not (T 0)) <|
 og (T 0) false (call 10 []) <|
 og (T 1) false (call 5 [(.c (.str [108, 101, 116]))]) <|
 og (T 2) false (.mov (T 18)) <|
 og (T 3) false (call 9 [(K 1)]) <|
 og (T 4) false (.bsl true [(.list .nil [])] 2 [(0, (T 1)), (1, (T 0))]) <|
 og (T 5) false (call 8 [(T 0)]) <|
 og (T 6) false (.bsl true [(.list .nil [])] 1 [(0, (T 0))]) <|
 og (T 7) false (call 8 [(T 0)]) <|
 og (T 8) false (call 5 [(.c (.str [109, 121, 45, 111, 114]))]) <|
 og (T 9) false (.mov (T 21)) <|
 og (T 10) false (.mov (T 26)) <|
 og (T 11) false (.bsl true [(.list .nil [])] 3 [(0, (T 2)), (1, (T 1)), (2, (T 0))]) <|
 og (T 12) false (call 8 [(T 0)]) <|
 og (T 13) false (.bsl true [(.list .nil [])] 3 [(0, (T 11)), (1, (T 5)), (2, (T 0))]) <|
 og (T 14) false (call 8 [(T 0)]) <|
 og (T 15) false (.bsl true [(.list .nil [])] 2 [(0, (T 14)), (1, (T 0))]) <|
 og (T 16) false (call 7 [(T 0)]) <|
 og (T 17) false (call 6 [(T 0), (.c (.str [40, 108, 101, 116, 32, 40, 40, 116, 46, 48, 32, 49, 41, 41, 32, 40, 108, 101, 116, 32, 40, 40, 116, 46, 49, 32, 35, 102, 41, 41, 32, 40, 105, 102, 32, 116, 46, 49, 32, 116, 46, 49, 32, 116, 46, 48, 41, 41, 41]))]) <|
 og (T 18) false (.un .not (T 0)) <|
 o (.pick (T 19) (.c (.bool true)) (T 0)) <|
 .cond (T 0)
  (ret [(.c (.bool false))])
  (o (.bsl true [(.list .nil [])] 2 [(0, (T 38)), (1, (T 41))]) <|
  o (call 8 [(T 0)]) <|
  o (.bsl true [(.list .nil [])] 2 [(0, (T 39)), (1, (T 43))]) <|
  o (call 8 [(T 0)]) <|
  o (.bsl true [(.list .nil [])] 3 [(0, (T 39)), (1, (T 2)), (2, (T 0))]) <|
  o (call 8 [(T 0)]) <|
  o (.bsl true [(.list .nil [])] 2 [(0, (T 43)), (1, (T 46))]) <|
  o (call 8 [(T 0)]) <|
  o (.bsl true [(.list .nil [])] 3 [(0, (T 43)), (1, (T 0)), (2, (T 48))]) <|
  o (call 8 [(T 0)]) <|
  o (call 9 [(K 1)]) <|
  o (.bsl true [(.list .nil [])] 3 [(0, (T 46)), (1, (T 50)), (2, (T 0))]) <|
  o (call 8 [(T 0)]) <|
  o (.bsl true [(.list .nil [])] 2 [(0, (T 51)), (1, (T 52))]) <|
  o (call 8 [(T 0)]) <|
  o (.bsl true [(.list .nil [])] 4 [(0, (T 9)), (1, (T 5)), (2, (T 2)), (3, (T 0))]) <|
  o (call 7 [(T 0)]) <|
  o (call 6 [(T 0), (.c (.str [40, 108, 101, 116, 114, 101, 99, 32, 40, 40, 102, 46, 48, 32, 40, 108, 97, 109, 98, 100, 97, 32, 40, 120, 46, 51, 41, 32, 40, 103, 46, 49, 32, 120, 46, 51, 41, 41, 41, 32, 40, 103, 46, 49, 32, 40, 108, 97, 109, 98, 100, 97, 32, 40, 121, 46, 52, 41, 32, 121, 46, 52, 41, 41, 41, 32, 40, 108, 101, 116, 32, 40, 40, 122, 46, 50, 32, 49, 41, 41, 32, 40, 102, 46, 48, 32, 122, 46, 50, 41, 41, 41]))]) <|
  o (.un .not (T 0)) <|
  .cond (T 0)
   (ret [(.c (.bool false))])
   (o (.bsl true [(.list .nil [])] 1 [(0, (T 60))]) <|
   o (call 7 [(T 0)]) <|
   o (call 11 [(T 0), (K 10)]) <|
   og (T 0) true (.mov (T 56)) <|
   og (T 1) true (call 9 [(K 1)]) <|
   og (T 2) true (call 9 [(K 2)]) <|
   og (T 3) true (.bsl true [(.list .nil [])] 3 [(0, (T 2)), (1, (T 1)), (2, (T 0))]) <|
   og (T 4) true (call 8 [(T 0)]) <|
   og (T 5) true (.bsl true [(.list .nil [])] 1 [(0, (T 0))]) <|
   og (T 6) true (call 7 [(T 0)]) <|
   og (T 7) true (call 11 [(T 0), (K 170)]) <|
   o (.pick (T 8) (T 0) (.c (.bool false))) <|
   og (T 0) true (.mov (T 66)) <|
   og (T 1) true (.mov (T 73)) <|
   og (T 2) true (call 9 [(K 1)]) <|
   og (T 3) true (.bsl true [(.list .nil [])] 3 [(0, (T 2)), (1, (T 1)), (2, (T 0))]) <|
   og (T 4) true (call 8 [(T 0)]) <|
   og (T 5) true (.bsl true [(.list .nil [])] 1 [(0, (T 0))]) <|
   og (T 6) true (call 7 [(T 0)]) <|
   og (T 7) true (call 11 [(T 0), (K 6)]) <|
   o (.pick (T 8) (T 0) (.c (.bool false))) <|
   og (T 0) true (call 5 [(.c (.str [108, 101, 116]))]) <|
   og (T 1) true (.mov (T 75)) <|
   og (T 2) true (call 9 [(K 1)]) <|
   og (T 3) true (.bsl true [(.list .nil [])] 2 [(0, (T 1)), (1, (T 0))]) <|
   og (T 4) true (call 8 [(T 0)]) <|
   og (T 5) true (.bsl true [(.list .nil [])] 1 [(0, (T 0))]) <|
   og (T 6) true (call 8 [(T 0)]) <|
   og (T 7) true (.mov (T 81)) <|
   og (T 8) true (.mov (T 82)) <|
   og (T 9) true (.mov (T 83)) <|
   og (T 10) true (.bsl true [(.list .nil [])] 3 [(0, (T 2)), (1, (T 1)), (2, (T 0))]) <|
   og (T 11) true (call 8 [(T 0)]) <|
   og (T 12) true (.bsl true [(.list .nil [])] 3 [(0, (T 11)), (1, (T 5)), (2, (T 0))]) <|
   og (T 13) true (call 8 [(T 0)]) <|
   og (T 14) true (.bsl true [(.list .nil [])] 1 [(0, (T 0))]) <|
   og (T 15) true (call 7 [(T 0)]) <|
   og (T 16) true (call 6 [(T 0), (.c (.str [40, 108, 101, 116, 32, 40, 40, 105, 102, 46, 48, 32, 49, 41, 41, 32, 40, 105, 102, 46, 48, 32, 105, 102, 46, 48, 32, 105, 102, 46, 48, 41, 41]))]) <|
   o (.pick (T 17) (T 0) (.c (.bool false))) <|
   ret [(T 0)])), false, [none]⟩
def f5 : LF := ⟨1,
 o (call 12 [(T 0)]) <|
 ret [(T 0)], false, [none]⟩
def f6 : LF := ⟨2,
 o (.box 4 (T 1)) <|
 o (ldn 4 (T 0)) <|
 o (call 13 [(T 0)]) <|
 o (.extract (T 0) 0) <|
 o (.extract (T 1) 1) <|
 o (.extract (T 2) 2) <|
 o (.alloc [(.list .nil []), (.list .nil []), (.list .nil []), (I 0)]) <|
 o (.alloc [(I 0), (I 0), (I 0)]) <|
 o (.store 4 (T 1) (T 4)) <|
 o (.store 3 (T 1) (T 4)) <|
 o (.faddr 0 (T 3)) <|
 o (ld (T 0)) <|
 o (call 14 [(T 0)]) <|
 o (.extract (T 0) 0) <|
 o (.extract (T 1) 1) <|
 o (eq (T 9) (K 0)) <|
 og (T 0) true (.mov (T 1)) <|
 og (T 1) true (eq (T 0) (K 0)) <|
 o (.pick (T 2) (T 0) (.c (.bool false))) <|
 og (T 0) true (.mov (T 5)) <|
 og (T 1) true (.mov (T 20)) <|
 og (T 2) true (eq (T 1) (T 0)) <|
 o (.pick (T 3) (T 0) (.c (.bool false))) <|
 ret [(T 0)], false, [none]⟩
def f7 : LF := ⟨1,
 o (.alloc [(.list .nil []), (.list .nil []), (.list .nil []), (I 0)]) <|
 o (call 8 [(T 1)]) <|
 o (call 15 []) <|
 o (call 16 []) <|
 o (.build [(.list .nil []), (.list .nil []), (.list .nil []), (I 0)] [(0, 1, (T 2)), (1, 1, (T 1)), (2, 1, (T 0)), (3, 1, (K 100))]) <|
 o (.store 4 (T 4) (T 0)) <|
 ret [(T 5)], false, [some (true, 4)]⟩
def f8 : LF := ⟨1,
 o (call 17 [(T 0)]) <|
 ret [(T 0)], false, [none]⟩
def f9 : LF := ⟨1,
 o (call 18 [(T 0)]) <|
 ret [(T 0)], false, [none]⟩
def f10 : LF := ⟨0,
 o (call 5 [(.c (.str [116]))]) <|
 o (call 5 [(.c (.str [97]))]) <|
 o (call 5 [(.c (.str [98]))]) <|
 o (call 5 [(.c (.str [100, 101, 102, 105, 110, 101, 45, 115, 121, 110, 116, 97, 120]))]) <|
 o (call 5 [(.c (.str [109, 121, 45, 111, 114]))]) <|
 o (call 5 [(.c (.str [115, 121, 110, 116, 97, 120, 45, 114, 117, 108, 101, 115]))]) <|
 o (call 8 [(.c (.list .nil []))]) <|
 o (call 5 [(.c (.str [95]))]) <|
 o (.bsl true [(.list .nil [])] 3 [(0, (T 0)), (1, (T 6)), (2, (T 5))]) <|
 o (call 8 [(T 0)]) <|
 o (call 5 [(.c (.str [108, 101, 116]))]) <|
 o (.bsl true [(.list .nil [])] 2 [(0, (T 10)), (1, (T 9))]) <|
 o (call 8 [(T 0)]) <|
 o (.bsl true [(.list .nil [])] 1 [(0, (T 0))]) <|
 o (call 8 [(T 0)]) <|
 o (call 5 [(.c (.str [105, 102]))]) <|
 o (.bsl true [(.list .nil [])] 4 [(0, (T 0)), (1, (T 15)), (2, (T 15)), (3, (T 13))]) <|
 o (call 8 [(T 0)]) <|
 o (.bsl true [(.list .nil [])] 3 [(0, (T 7)), (1, (T 3)), (2, (T 0))]) <|
 o (call 8 [(T 0)]) <|
 o (.bsl true [(.list .nil [])] 2 [(0, (T 10)), (1, (T 0))]) <|
 o (call 8 [(T 0)]) <|
 o (.bsl true [(.list .nil [])] 3 [(0, (T 16)), (1, (T 15)), (2, (T 0))]) <|
 o (call 8 [(T 0)]) <|
 o (.bsl true [(.list .nil [])] 3 [(0, (T 20)), (1, (T 19)), (2, (T 0))]) <|
 o (call 8 [(T 0)]) <|
 ret [(T 0)], false, [none]⟩
def f11 : LF := ⟨2,
 o (.box 4 (T 1)) <|
 o (ldn 4 (T 0)) <|
 o (call 13 [(T 0)]) <|
 o (.extract (T 0) 0) <|
 o (.extract (T 1) 1) <|
 o (.extract (T 2) 2) <|
 o (.alloc [(.list .nil []), (.list .nil []), (.list .nil []), (I 0)]) <|
 o (.alloc [(I 0), (I 0), (I 0)]) <|
 o (.store 4 (T 1) (T 4)) <|
 o (.store 3 (T 1) (T 4)) <|
 o (eq (T 4) (T 10)) <|
 ret [(T 0)], false, [none]⟩
def f12 : LF := ⟨1,
 o (.build [(I 0), (I 0), (I 0), S0, S0, (I 0), (I 0), (I 0)] [(0, 1, (K 3)), (3, 1, (T 0))]) <|
 o (.bsl true [(I 0), (I 0), (I 0), S0, S0, (I 0), (I 0), (I 0)] 1 [(0, (T 0))]) <|
 ret [(T 0)], false, [none]⟩
def f13 : LF := ⟨1,
 o (.box 4 (T 0)) <|
 o (.alloc [(.list .nil []), (.list .nil []), (.list .nil []), (I 0)]) <|
 o (.alloc [(I 0), (I 0), (I 0)]) <|
 o (ldn 4 (T 2)) <|
 o (call 19 [(T 0)]) <|
 o (.extract (T 0) 0) <|
 o (.extract (T 1) 1) <|
 o (.extract (T 2) 2) <|
 o (.store 3 (T 5) (T 1)) <|
 o (ne (T 1) (K 0)) <|
 .cond (T 0)
  (o (ldn 4 (T 8)) <|
  o (ldn 3 (T 8)) <|
  ck (ldn 4 (T 10)) (T 1) <|
  ck (ldn 3 (T 9)) (T 0) <|
  ck (.mov (T 4)) (T 4) <|
  o (.store 4 (T 10) (T 1)) <|
  ck (ldn 3 (T 10)) (T 1) <|
  ck (.mov (T 5)) (T 5) <|
  o (.store 3 (T 10) (T 1)) <|
  ck (.mov (T 6)) (T 6) <|
  ret [(T 12), (T 11), (T 6)])
  (o (.faddr 0 (T 9)) <|
  o (ld (T 0)) <|
  o (call 20 [(T 6), (T 0)]) <|
  o (.extract (T 0) 0) <|
  o (.extract (T 1) 1) <|
  o (.store 3 (T 12) (T 1)) <|
  o (ne (T 1) (K 0)) <|
  .cond (T 0)
   (o (ldn 4 (T 15)) <|
   o (ldn 3 (T 15)) <|
   ck (ldn 4 (T 17)) (T 1) <|
   ck (ldn 3 (T 16)) (T 0) <|
   ck (.mov (T 4)) (T 4) <|
   o (.store 4 (T 17) (T 1)) <|
   ck (ldn 3 (T 17)) (T 1) <|
   ck (.mov (T 5)) (T 5) <|
   o (.store 3 (T 17) (T 1)) <|
   ck (.mov (T 6)) (T 6) <|
   ret [(T 19), (T 18), (T 6)])
   (o (.nilchk (T 11)) <|
   o (.faddr 6 (T 0)) <|
   o (ldn 4 (T 0)) <|
   o (ldn 3 (T 17)) <|
   ck (.mov (T 15)) (T 15) <|
   ck (ldn 4 (T 2)) (T 1) <|
   ck (ldn 3 (T 18)) (T 0) <|
   o (.store 4 (T 19) (T 1)) <|
   ck (ldn 3 (T 19)) (T 1) <|
   o (.store 3 (T 19) (T 1)) <|
   ret [(T 21), (T 20), (K 0)])), false, [some (true, 4), some (true, 3), none]⟩
def f14 : LF := ⟨1,
 o (call 21 [(T 0)]) <|
 o (.extract (T 0) 0) <|
 o (.extract (T 1) 1) <|
 o (ne (T 0) (K 0)) <|
 .cond (T 0)
  (ret [(.c S0), (T 1)])
  (o (call 23 [(T 4), (K 0), (.c (.bool true))]) <|
  o (call 22 [(T 0), (K 0)]) <|
  o (.extract (T 0) 0) <|
  o (.extract (T 1) 1) <|
  ret [(T 1), (K 0)]), false, [none, none]⟩
def f15 : LF := ⟨0,
 bl 0 [1]
  (.loop [1, 2] [(.c (.list .nil [])), (K 1)] <|
  o (.bin .leq (T 1) (K 18)) <|
  .cond (T 0)
   (bl 1 [1]
    (o (.bsl false [(I 0)] 1 [(0, (T 2))]) <|
    o (.append 1 8 (T 2) (T 0)) <|
    nrm [(T 0)]) <|
   o (ad (T 3) (K 1)) <|
   nrm [(T 1), (T 0)])
   (ex 0 [(T 1)])) <|
 ret [(T 0)], false, [none]⟩
def f16 : LF := ⟨0,
 o (.bsl true [S0] 2 [(0, (.c (.str [43]))), (1, (.c (.str [99, 111, 110, 115])))]) <|
 ret [(T 0)], false, [none]⟩
def f17 : LF := ⟨1,
 o (.len .slice (T 0)) <|
 o (.build [(I 0), (I 0), (I 0), S0, S0, (I 0), (I 0), (I 0)] [(0, 1, (K 4)), (1, 1, (T 0))]) <|
 o (.bsl true [(I 0), (I 0), (I 0), S0, S0, (I 0), (I 0), (I 0)] 1 [(0, (T 0))]) <|
 bl 0 [3]
  (.loop [3, 4] [(T 0), (K 0)] <|
  o (.len .slice (T 5)) <|
  o (lt (T 2) (T 0)) <|
  .cond (T 0)
   (bl 1 [3]
    (o (ix 1 (T 7) (T 3)) <|
    o (ld (T 0)) <|
    o (.append 8 80 (T 4) (T 0)) <|
    nrm [(T 0)]) <|
   o (ad (T 4) (K 1)) <|
   nrm [(T 1), (T 0)])
   (ex 0 [(T 2)])) <|
 ret [(T 0)], false, [none]⟩
def f18 : LF := ⟨1,
 o (.build [(I 0), (I 0), (I 0), S0, S0, (I 0), (I 0), (I 0)] [(0, 1, (K 1)), (2, 1, (T 0))]) <|
 o (.bsl true [(I 0), (I 0), (I 0), S0, S0, (I 0), (I 0), (I 0)] 1 [(0, (T 0))]) <|
 ret [(T 0)], false, [none]⟩
def f19 : LF := ⟨1,
 o (.box 4 (T 0)) <|
 o (.alloc [(I 0), (I 0), (I 0)]) <|
 o (.faddr 3 (T 1)) <|
 o (ld (T 0)) <|
 o (lt (T 0) (K 0)) <|
 og (T 0) false (.faddr 3 (T 4)) <|
 og (T 1) false (ld (T 0)) <|
 og (T 2) false (.bin .gtr (T 0) (K 5000)) <|
 o (.pick (T 3) (.c (.bool true)) (T 0)) <|
 .cond (T 0)
  (o (ldn 3 (T 7)) <|
  ck (ldn 3 (T 8)) (T 0) <|
  ck (ldn 3 (T 8)) (T 0) <|
  o (.store 3 (T 8) (T 0)) <|
  ret [(.c .nilp), (T 9), (K 7)])
  (o (.faddr 1 (T 8)) <|
  o (ld (T 0)) <|
  o (.faddr 2 (T 10)) <|
  o (ld (T 0)) <|
  o (call 24 [(T 2), (T 0)]) <|
  o (.extract (T 0) 0) <|
  o (.extract (T 1) 1) <|
  o (ne (T 0) (K 0)) <|
  .cond (T 0)
   (o (ldn 3 (T 15)) <|
   ck (ldn 3 (T 16)) (T 0) <|
   ck (.mov (T 2)) (T 2) <|
   ck (ldn 3 (T 16)) (T 0) <|
   ck (.mov (T 2)) (T 2) <|
   o (.store 3 (T 16) (T 0)) <|
   ck (.mov (T 3)) (T 3) <|
   ret [(.c .nilp), (T 17), (T 3)])
   (o (.faddr 0 (T 16)) <|
   o (ld (T 0)) <|
   o (call 25 [(T 0)]) <|
   o (.extract (T 0) 0) <|
   o (.extract (T 1) 1) <|
   o (eq (T 0) (K 0)) <|
   jn [4, 6]
    (.cond (T 0)
     (o (.faddr 0 (T 22)) <|
     o (ld (T 0)) <|
     o (call 26 [(T 0)]) <|
     o (.extract (T 0) 0) <|
     o (.extract (T 1) 1) <|
     nrm [(T 0), (T 1)])
     (nrm [(T 1), (T 2)])) <|
   o (ne (T 0) (K 0)) <|
   .cond (T 0)
    (o (.faddr 0 (T 25)) <|
    o (ld (T 0)) <|
    o (.len .slice (T 0)) <|
    o (lt (T 5) (T 0)) <|
    jn []
     (.cond (T 0)
      (o (.faddr 0 (T 29)) <|
      o (ld (T 0)) <|
      o (ix 8 (T 0) (T 8)) <|
      o (.faddr 5 (T 0)) <|
      o (ldn 2 (T 0)) <|
      o (.faddr 0 (T 34)) <|
      o (ld (T 0)) <|
      o (ix 8 (T 0) (T 13)) <|
      o (.faddr 7 (T 0)) <|
      o (ld (T 0)) <|
      o (.build [(I 0), (I 0), (I 0)] [(0, 2, (T 5)), (2, 1, (T 0))]) <|
      ck (ld (T 10)) (T 9) <|
      ck (.mov (T 17)) (T 17) <|
      ck (ix 8 (T 9) (T 17)) (T 8) <|
      ck (ldn 2 (T 7)) (T 6) <|
      ck (ld (T 5)) (T 4) <|
      ck (.mov (T 17)) (T 17) <|
      ck (ix 8 (T 4) (T 17)) (T 3) <|
      ck (ld (T 2)) (T 1) <|
      o (.store 3 (T 39) (T 0)) <|
      nrm [])
      (nrm [])) <|
    o (ldn 3 (T 28)) <|
    ck (ldn 3 (T 29)) (T 0) <|
    ck (.mov (T 6)) (T 6) <|
    ck (ldn 3 (T 29)) (T 0) <|
    ck (.mov (T 6)) (T 6) <|
    o (.store 3 (T 29) (T 0)) <|
    ck (.mov (T 7)) (T 7) <|
    ret [(.c .nilp), (T 30), (T 7)])
    (o (.faddr 3 (T 25)) <|
    o (ld (T 0)) <|
    o (call 27 [(T 0)]) <|
    o (.extract (T 0) 0) <|
    o (.extract (T 1) 1) <|
    o (.alloc [(I 0), (.list .nil [])]) <|
    o (.store 2 (T 0) (T 2)) <|
    o (ldn 2 (T 1)) <|
    o (.build [(.list .nil []), (I 0), (I 0), (.list .nil []), (I 0), (.list .nil []), (.list .nil []), (.list .nil []), (.list .nil []), (I 0)] [(0, 1, (T 19)), (1, 1, (K 2)), (4, 2, (T 0))]) <|
    o (.box 10 (T 0)) <|
    o (ldn 3 (T 34)) <|
    ck (.mov (T 22)) (T 22) <|
    ck (ldn 2 (T 5)) (T 3) <|
    ck (ldn 3 (T 35)) (T 0) <|
    ck (.mov (T 6)) (T 6) <|
    ck (ldn 3 (T 35)) (T 0) <|
    ck (.mov (T 6)) (T 6) <|
    o (.store 3 (T 35) (T 0)) <|
    ck (.mov (T 7)) (T 7) <|
    ret [(T 2), (T 36), (T 7)]))), false, [none, some (true, 3), none]⟩
def f20 : LF := ⟨2,
 o (.box 1 (T 1)) <|
 o (.alloc [(I 0), (I 0), (I 0)]) <|
 o (.alloc [(I 0)]) <|
 o (.mkfn (.func 28) [] [(T 2), (T 1), (T 0)]) <|
 .tryp [(T 2), (T 1)] <|
 o (.defer (T 0) []) <|
 o (call 29 [(T 5)]) <|
 o (.alloc [(.list .nil [])]) <|
 o (.store 1 (T 0) (T 1)) <|
 o (ld (T 7)) <|
 o (.bsl true [.nilp] 1 [(0, (T 2))]) <|
 o (call 30 [(T 1), (K 0), (T 0)]) <|
 o (ld (T 10)) <|
 o (.bsl true [.nilp] 1 [(0, (T 5))]) <|
 o (call 30 [(T 1), (K 1), (T 0)]) <|
 o (ld (T 13)) <|
 o (ld (T 14)) <|
 o (ix 8 (T 16) (K 0)) <|
 o (ldn 8 (T 0)) <|
 o (ld (T 11)) <|
 ck (ld (T 18)) (T 4) <|
 ck (ld (T 18)) (T 3) <|
 ck (.mov (T 19)) (T 19) <|
 ck (ix 8 (T 19) (K 0)) (T 2) <|
 ck (ldn 8 (T 2)) (T 1) <|
 ck (ld (T 12)) (T 0) <|
 o (call 31 [(T 3), (T 1), (T 0)]) <|
 o (.nilchk (T 5)) <|
 o (.faddr 6 (T 0)) <|
 o (.faddr 0 (T 0)) <|
 ck (ld (T 22)) (T 8) <|
 o (.store 1 (T 0) (T 3)) <|
 o (ld (T 23)) <|
 o (.nilchk (T 0)) <|
 o (.faddr 6 (T 0)) <|
 o (.faddr 0 (T 0)) <|
 o (ld (T 0)) <|
 o (call 32 [(T 0)]) <|
 o (.extract (T 0) 0) <|
 o (.extract (T 1) 1) <|
 o (ne (T 0) (K 0)) <|
 .cond (T 0)
  (o (ld (T 32)) <|
  o (.nilchk (T 0)) <|
  o (.faddr 6 (T 0)) <|
  o (.faddr 0 (T 0)) <|
  o (ld (T 0)) <|
  o (.len .slice (T 0)) <|
  o (lt (T 8) (T 0)) <|
  jn []
   (.cond (T 0)
    (o (ld (T 39)) <|
    o (.nilchk (T 0)) <|
    o (.faddr 6 (T 0)) <|
    o (.faddr 0 (T 0)) <|
    o (ld (T 0)) <|
    o (ix 7 (T 0) (T 14)) <|
    o (.faddr 4 (T 0)) <|
    o (ldn 2 (T 0)) <|
    o (ld (T 47)) <|
    o (.nilchk (T 0)) <|
    o (.faddr 6 (T 0)) <|
    o (.faddr 0 (T 0)) <|
    o (ld (T 0)) <|
    o (ix 7 (T 0) (T 22)) <|
    o (.faddr 6 (T 0)) <|
    o (ld (T 0)) <|
    o (.build [(I 0), (I 0), (I 0)] [(0, 2, (T 8)), (2, 1, (T 0))]) <|
    ck (ld (T 56)) (T 16) <|
    ck (ld (T 13)) (T 12) <|
    ck (.mov (T 26)) (T 26) <|
    ck (ix 7 (T 12) (T 26)) (T 11) <|
    ck (ldn 2 (T 10)) (T 9) <|
    ck (ld (T 56)) (T 8) <|
    ck (ld (T 5)) (T 4) <|
    ck (.mov (T 26)) (T 26) <|
    ck (ix 7 (T 4) (T 26)) (T 3) <|
    ck (ld (T 2)) (T 1) <|
    o (.store 3 (T 55) (T 0)) <|
    nrm [])
    (nrm [])) <|
  o (ldn 3 (T 38)) <|
  o (.store 3 (T 39) (T 0)) <|
  o (.store 1 (T 39) (T 10)) <|
  ret [(T 41), (T 40)])
  (o (ldn 3 (T 31)) <|
  o (.store 3 (T 32) (T 0)) <|
  o (.store 1 (T 32) (K 0)) <|
  ret [(T 34), (T 33)]), true, [some (true, 3), some (false, 1)]⟩
def f21 : LF := ⟨1,
 o (call 33 [(T 0)]) <|
 o (.extract (T 0) 0) <|
 o (.extract (T 1) 1) <|
 o (.extract (T 2) 2) <|
 ret [(T 2), (T 0)], false, [none, none]⟩
def f22 : LF := ⟨2,
 o (ix 4 (T 1) (T 0)) <|
 o (ldn 4 (T 0)) <|
 o (.alloc [(I 0), (I 0), (I 0), S0]) <|
 o (.store 4 (T 0) (T 1)) <|
 o (ad (T 4) (K 1)) <|
 o (.faddr 0 (T 2)) <|
 o (ld (T 0)) <|
 bl 0 []
  (o (eq (T 0) (K 1)) <|
  .cond (T 0)
   (o (.faddr 2 (T 5)) <|
   o (ld (T 0)) <|
   o (call 34 [(T 0)]) <|
   ret [(T 0), (T 6)])
   (o (eq (T 1) (K 2)) <|
   .cond (T 0)
    (o (.bsl true [S0] 2 [(0, (.c (.str [35, 102]))), (1, (.c (.str [35, 116])))]) <|
    o (.faddr 2 (T 7)) <|
    o (ld (T 0)) <|
    o (ix 1 (T 2) (T 0)) <|
    o (ld (T 0)) <|
    ret [(T 0), (T 9)])
    (o (eq (T 2) (K 3)) <|
    .cond (T 0)
     (o (.faddr 3 (T 7)) <|
     o (ld (T 0)) <|
     ret [(T 0), (T 7)])
     (nrm [])))) <|
 bl 1 [1, 7]
  (.loop [1, 7, 8] [(T 2), (.c (.str [40])), (K 0)] <|
  o (.faddr 1 (T 7)) <|
  o (ld (T 0)) <|
  o (lt (T 4) (T 0)) <|
  .cond (T 0)
   (bl 2 [1, 7]
    (o (.bin .gtr (T 5) (K 0)) <|
    jn [7]
     (.cond (T 0)
      (o (ad (T 5) (.c (.str [32]))) <|
      nrm [(T 0)])
      (nrm [(T 5)])) <|
    o (call 22 [(T 16), (T 5)]) <|
    o (.extract (T 0) 0) <|
    o (.extract (T 1) 1) <|
    o (ad (T 3) (T 1)) <|
    nrm [(T 1), (T 0)]) <|
   o (ad (T 7) (K 1)) <|
   nrm [(T 1), (T 2), (T 0)])
   (ex 1 [(T 3), (T 4)])) <|
 o (ad (T 1) (.c (.str [41]))) <|
 ret [(T 0), (T 1)], false, [none, none]⟩
def f23 : LF := ⟨3,
 o (ix 7 (T 2) (T 1)) <|
 o (ldn 7 (T 0)) <|
 o (.alloc [(I 0), (I 0), (I 0), S0, (I 0), (I 0), (I 0)]) <|
 o (.store 7 (T 0) (T 1)) <|
 o (.faddr 0 (T 1)) <|
 o (ld (T 0)) <|
 bl 0 []
  (o (eq (T 0) (K 1)) <|
  .cond (T 0)
   (o (.faddr 2 (T 4)) <|
   o (ld (T 0)) <|
   o (.build [(I 0), (I 0), (I 0), S0] [(0, 1, (K 1)), (2, 1, (T 0))]) <|
   o (.bsl true [(I 0), (I 0), (I 0), S0] 1 [(0, (T 0))]) <|
   ret [(T 0)])
   (o (eq (T 1) (K 2)) <|
   .cond (T 0)
    (o (.faddr 2 (T 5)) <|
    o (ld (T 0)) <|
    o (.build [(I 0), (I 0), (I 0), S0] [(0, 1, (K 2)), (2, 1, (T 0))]) <|
    o (.bsl true [(I 0), (I 0), (I 0), S0] 1 [(0, (T 0))]) <|
    ret [(T 0)])
    (o (eq (T 2) (K 4)) <|
    jn [32]
     (.cond (T 0)
      (nrm [(T 0)])
      (o (eq (T 3) (K 7)) <|
      nrm [(T 0)])) <|
    .cond (T 0)
     (o (.faddr 3 (T 7)) <|
     o (ld (T 0)) <|
     o (call 35 [(T 0)]) <|
     ret [(T 0)])
     (o (eq (T 4) (K 6)) <|
     jn [38]
      (.cond (T 0)
       (nrm [(T 0)])
       (o (eq (T 5) (K 9)) <|
       nrm [(T 0)])) <|
     .cond (T 0)
      (.cond (T 12)
       (o (.faddr 3 (T 9)) <|
       o (ld (T 0)) <|
       o (ad (T 0) (.c (.str [46]))) <|
       o (.faddr 2 (T 12)) <|
       o (ld (T 0)) <|
       ck (ld (T 4)) (T 3) <|
       ck (ld (T 1)) (T 0) <|
       o (call 34 [(T 0)]) <|
       o (ad (T 3) (T 0)) <|
       ck (ld (T 6)) (T 5) <|
       o (call 35 [(T 0)]) <|
       ret [(T 0)])
       (o (.faddr 2 (T 9)) <|
       o (ld (T 0)) <|
       o (call 34 [(T 0)]) <|
       o (ad (.c (.str [118, 46])) (T 0)) <|
       o (call 35 [(T 0)]) <|
       ret [(T 0)]))
      (nrm []))))) <|
 o (call 36 [(T 8), (T 7)]) <|
 bl 1 [8]
  (.loop [8, 10] [(.c (.list .nil [])), (K 0)] <|
  o (.len .slice (T 2)) <|
  o (lt (T 2) (T 0)) <|
  .cond (T 0)
   (bl 2 [8]
    (o (ix 1 (T 4) (T 3)) <|
    o (ld (T 0)) <|
    o (call 23 [(T 15), (T 0), (T 13)]) <|
    o (.bsl false [(.list .nil [])] 1 [(0, (T 0))]) <|
    o (.append 1 24 (T 6) (T 0)) <|
    nrm [(T 0)]) <|
   o (ad (T 4) (K 1)) <|
   nrm [(T 1), (T 0)])
   (ex 1 [(T 2)])) <|
 o (.faddr 0 (T 5)) <|
 o (ld (T 0)) <|
 bl 3 []
  (o (eq (T 0) (K 10)) <|
  jn [76]
   (.cond (T 0)
    (nrm [(T 0)])
    (o (eq (T 1) (K 5)) <|
    .cond (T 0)
     (nrm [(T 0)])
     (o (eq (T 2) (K 16)) <|
     nrm [(T 0)]))) <|
  .cond (T 0)
   (o (call 37 [(T 4)]) <|
   ret [(T 0)])
   (o (eq (T 2) (K 8)) <|
   .cond (T 0)
    (o (.len .slice (T 5)) <|
    o (sb (T 0) (K 1)) <|
    o (.faddr 0 (T 12)) <|
    o (ld (T 0)) <|
    o (.slice false 1 (T 9) none (some (T 2)) none) <|
    o (ix 1 (T 10) (T 3)) <|
    o (ld (T 0)) <|
    ck (ld (T 4)) (T 3) <|
    ck (.mov (T 12)) (T 12) <|
    ck (.mov (T 5)) (T 5) <|
    ck (.slice false 1 (T 12) none (some (T 5)) none) (T 2) <|
    ck (.mov (T 12)) (T 12) <|
    ck (.mov (T 5)) (T 5) <|
    ck (ix 1 (T 12) (T 5)) (T 1) <|
    ck (ld (T 1)) (T 0) <|
    o (call 38 [(T 3)]) <|
    ck (.mov (T 13)) (T 13) <|
    ck (.mov (T 6)) (T 6) <|
    ck (.slice false 1 (T 13) none (some (T 6)) none) (T 3) <|
    ck (.mov (T 13)) (T 13) <|
    ck (.mov (T 6)) (T 6) <|
    ck (ix 1 (T 13) (T 6)) (T 2) <|
    ck (ld (T 2)) (T 1) <|
    o (call 35 [(T 0)]) <|
    ck (.mov (T 14)) (T 14) <|
    ck (.mov (T 7)) (T 7) <|
    ck (.slice false 1 (T 14) none (some (T 7)) none) (T 4) <|
    ck (.mov (T 14)) (T 14) <|
    ck (.mov (T 7)) (T 7) <|
    ck (ix 1 (T 14) (T 7)) (T 3) <|
    ck (ld (T 3)) (T 2) <|
    o (call 37 [(T 4)]) <|
    o (.bsl false [(.list .nil [])] 3 [(0, (T 1)), (1, (T 0)), (2, (T 3))]) <|
    ck (.mov (T 16)) (T 16) <|
    ck (.mov (T 9)) (T 9) <|
    ck (ix 1 (T 16) (T 9)) (T 5) <|
    ck (ld (T 5)) (T 4) <|
    o (call 37 [(T 0)]) <|
    ret [(T 0)])
    (o (eq (T 3) (K 12)) <|
    jn [101]
     (.cond (T 0)
      (nrm [(T 0)])
      (o (eq (T 4) (K 13)) <|
      .cond (T 0)
       (nrm [(T 0)])
       (o (eq (T 5) (K 14)) <|
       nrm [(T 0)]))) <|
    .cond (T 0)
     (bl 4 [12]
      (.loop [12, 13] [(.c (.list .nil [])), (K 0)] <|
      o (ad (T 1) (K 1)) <|
      o (.len .slice (T 10)) <|
      o (lt (T 1) (T 0)) <|
      .cond (T 0)
       (bl 5 [12]
        (o (ad (T 4) (K 2)) <|
        o (.slice false 1 (T 13) (some (T 5)) (some (T 0)) none) <|
        o (call 37 [(T 0)]) <|
        o (.bsl false [(.list .nil [])] 1 [(0, (T 0))]) <|
        o (.append 1 24 (T 7) (T 0)) <|
        nrm [(T 0)]) <|
       o (ad (T 5) (K 2)) <|
       nrm [(T 1), (T 0)])
       (ex 4 [(T 3)])) <|
     o (.faddr 0 (T 13)) <|
     o (ld (T 0)) <|
     o (.len .slice (T 10)) <|
     o (sb (T 0) (K 1)) <|
     o (ix 1 (T 12) (T 0)) <|
     o (ld (T 0)) <|
     ck (ld (T 5)) (T 4) <|
     ck (.mov (T 6)) (T 6) <|
     ck (.mov (T 14)) (T 14) <|
     ck (.mov (T 14)) (T 14) <|
     ck (.len .slice (T 14)) (T 3) <|
     ck (ix 1 (T 14) (T 2)) (T 1) <|
     ck (ld (T 1)) (T 0) <|
     o (call 38 [(T 4)]) <|
     ck (.mov (T 7)) (T 7) <|
     ck (.mov (T 15)) (T 15) <|
     ck (.mov (T 15)) (T 15) <|
     ck (.len .slice (T 15)) (T 4) <|
     ck (ix 1 (T 15) (T 3)) (T 2) <|
     ck (ld (T 2)) (T 1) <|
     o (call 35 [(T 0)]) <|
     ck (.mov (T 8)) (T 8) <|
     ck (.mov (T 16)) (T 16) <|
     ck (.mov (T 16)) (T 16) <|
     ck (.len .slice (T 16)) (T 5) <|
     ck (ix 1 (T 16) (T 4)) (T 3) <|
     ck (ld (T 3)) (T 2) <|
     o (call 37 [(T 8)]) <|
     o (.bsl false [(.list .nil [])] 3 [(0, (T 1)), (1, (T 0)), (2, (T 3))]) <|
     ck (.mov (T 18)) (T 18) <|
     ck (.mov (T 18)) (T 18) <|
     ck (.len .slice (T 18)) (T 7) <|
     ck (ix 1 (T 18) (T 6)) (T 5) <|
     ck (ld (T 5)) (T 4) <|
     o (call 37 [(T 0)]) <|
     ret [(T 0)])
     (nrm [])))) <|
 o (.faddr 0 (T 7)) <|
 o (ld (T 0)) <|
 o (call 38 [(T 0)]) <|
 o (call 35 [(T 0)]) <|
 o (.bsl true [(.list .nil [])] 1 [(0, (T 0))]) <|
 o (.append 1 24 (T 0) (T 7)) <|
 o (call 37 [(T 0)]) <|
 ret [(T 0)], false, [none]⟩
def f24 : LF := ⟨2,
 o (.bsl true [(I 0)] 1 [(0, (K 0))]) <|
 o (call 39 [(T 0)]) <|
 o (.extract (T 0) 0) <|
 o (.extract (T 1) 1) <|
 o (ne (T 0) (K 0)) <|
 .cond (T 0)
  (ret [(.c (.list .nil [])), (T 1)])
  (o (.len .slice (T 6)) <|
  bl 0 [8]
   (.loop [8, 25] [(.c (.list .nil [])), (K 0)] <|
   o (lt (T 1) (T 2)) <|
   .cond (T 0)
    (bl 1 [8]
     (o (ix 1 (T 10) (T 2)) <|
     o (ld (T 0)) <|
     o (call 40 [(T 0)]) <|
     o (.extract (T 0) 0) <|
     o (.extract (T 1) 1) <|
     o (ne (T 0) (K 0)) <|
     .cond (T 0)
      (ret [(.c (.list .nil [])), (K 2)])
      (o (.build [S0, S0, (I 0), (I 0)] [(0, 1, (T 2)), (1, 1, (T 12)), (2, 1, (K 3)), (3, 1, (T 4))]) <|
      o (call 41 [(T 8), (T 0)]) <|
      o (.extract (T 0) 0) <|
      o (.extract (T 1) 1) <|
      o (ne (T 0) (K 0)) <|
      .cond (T 0)
       (ret [(.c (.list .nil [])), (T 1)])
       (nrm [(T 2)]))) <|
    o (ad (T 3) (K 1)) <|
    nrm [(T 1), (T 0)])
    (ex 0 [(T 1)])) <|
  o (.len .slice (T 7)) <|
  bl 2 [8]
   (.loop [8, 51] [(T 1), (K 0)] <|
   o (lt (T 1) (T 2)) <|
   .cond (T 0)
    (bl 3 [8]
     (o (ix 1 (T 11) (T 2)) <|
     o (ld (T 0)) <|
     o (.build [S0, S0, (I 0), (I 0)] [(0, 1, (T 0)), (1, 1, (T 10)), (2, 1, (K 4)), (3, 1, (T 4))]) <|
     o (call 41 [(T 4), (T 0)]) <|
     o (.extract (T 0) 0) <|
     o (.extract (T 1) 1) <|
     o (ne (T 0) (K 0)) <|
     .cond (T 0)
      (ret [(.c (.list .nil [])), (T 1)])
      (nrm [(T 2)])) <|
    o (ad (T 3) (K 1)) <|
    nrm [(T 1), (T 0)])
    (ex 2 [(T 1)])) <|
  ret [(T 0), (K 0)]), false, [none, none]⟩
def f25 : LF := ⟨1,
 bl 0 []
  (o (.len .slice (T 0)) <|
  o (eq (T 0) (K 0)) <|
  .cond (T 0)
   (ret [(K 0), (K 6)])
   (o (.len .slice (T 2)) <|
   o (.bin .gtr (T 0) (K 2000)) <|
   .cond (T 0)
    (ret [(K 0), (K 3)])
    (nrm []))) <|
 o (.bsl true [(I 0)] 1 [(0, (K 1))]) <|
 o (.build [(.list .nil [])] [(0, 1, (T 0))]) <|
 o (.alloc [(.list .nil [])]) <|
 o (.store 1 (T 0) (T 1)) <|
 o (.mkfn (.func 42) [(T 1)] []) <|
 o (.len .slice (T 5)) <|
 bl 1 []
  (.loop [24] [(K 0)] <|
  o (lt (T 0) (T 1)) <|
  .cond (T 0)
   (bl 2 []
    (o (ix 8 (T 8) (T 1)) <|
    o (ldn 8 (T 0)) <|
    o (.alloc [(I 0), (I 0), (I 0), S0, S0, (I 0), (I 0), (I 0)]) <|
    o (.store 8 (T 0) (T 1)) <|
    o (ldn 8 (T 1)) <|
    o (.callv (T 8) [(T 0)]) <|
    o (ne (T 0) (K 0)) <|
    .cond (T 0)
     (ret [(T 8), (T 1)])
     (nrm [])) <|
   o (ad (T 1) (K 1)) <|
   nrm [(T 0)])
   (ex 1 [])) <|
 o (.faddr 0 (T 3)) <|
 o (ld (T 0)) <|
 o (.len .slice (T 0)) <|
 bl 3 []
  (.loop [40] [(K 0)] <|
  o (lt (T 0) (T 1)) <|
  .cond (T 0)
   (bl 4 []
    (o (ix 1 (T 3) (T 1)) <|
    o (ld (T 0)) <|
    o (.bin .gtr (T 0) (K 0)) <|
    .cond (T 0)
     (o (.len .slice (T 14)) <|
     ret [(T 0), (K 6)])
     (nrm [])) <|
   o (ad (T 1) (K 1)) <|
   nrm [(T 0)])
   (ex 3 [])) <|
 ret [(K 0), (K 0)], false, [none, none]⟩
def f26 : LF := ⟨1,
 o (ix 8 (T 0) (K 0)) <|
 o (.faddr 0 (T 0)) <|
 o (ld (T 0)) <|
 o (ne (T 0) (K 4)) <|
 .cond (T 0)
  (ret [(K 0), (K 6)])
  (o (.len .slice (T 4)) <|
  bl 0 []
   (.loop [13] [(K 0)] <|
   o (lt (T 0) (T 1)) <|
   .cond (T 0)
    (bl 1 []
     (o (ix 8 (T 7) (T 1)) <|
     o (ldn 8 (T 0)) <|
     o (.alloc [(I 0), (I 0), (I 0), S0, S0, (I 0), (I 0), (I 0)]) <|
     o (.store 8 (T 0) (T 1)) <|
     o (.faddr 4 (T 1)) <|
     o (ld (T 0)) <|
     o (ne (T 0) (.c S0)) <|
     og (T 0) false (.faddr 7 (T 4)) <|
     og (T 1) false (ld (T 0)) <|
     og (T 2) false (ne (T 0) (K 0)) <|
     o (.pick (T 3) (.c (.bool true)) (T 0)) <|
     .cond (T 0)
      (ret [(T 12), (K 2)])
      (nrm [])) <|
    o (ad (T 1) (K 1)) <|
    nrm [(T 0)])
    (ex 0 [])) <|
  ret [(K 0), (K 0)]), false, [none, none]⟩
def f27 : LF := ⟨1,
 o (.alloc [(I 0), (.list .nil [])]) <|
 o (call 43 [(T 1), (K 0), (K 1000000000)]) <|
 o (.un .not (T 0)) <|
 .cond (T 0)
  (o (.build [(I 0), (.list .nil [])] []) <|
  o (.store 2 (T 3) (T 0)) <|
  ret [(T 4), (K 7)])
  (o (.bsl true [(I 0)] 1 [(0, (T 3))]) <|
  o (.build [(I 0), (.list .nil [])] [(1, 1, (T 0))]) <|
  o (.store 2 (T 4) (T 0)) <|
  ret [(T 5), (K 0)]), false, [some (true, 2), none]⟩
def f28 : LF := ⟨3,
 o (ld (T 2)) <|
 o (ld (T 3)) <|
 o (.nilchk (T 0)) <|
 o (.faddr 4 (T 0)) <|
 o (.faddr 0 (T 0)) <|
 o (ld (T 0)) <|
 o (.nilchk (T 5)) <|
 o (.faddr 6 (T 0)) <|
 o (.faddr 3 (T 0)) <|
 ck (ld (T 11)) (T 8) <|
 ck (ld (T 11)) (T 7) <|
 ck (ld (T 4)) (T 3) <|
 o (.store 1 (T 0) (T 3)) <|
 o (.recover) <|
 bl 0 []
  (o (.eqv .iface false true (T 0) (.c .nili)) <|
  .cond (T 0)
   (nrm [])
   (o (.tassert 82 (.agg [(I 0), (I 0), (I 0), (I 0)]) true (T 1)) <|
   o (.extract (T 0) 1) <|
   o (.extract (T 1) 0) <|
   .cond (T 1)
    (o (.alloc [(I 0), (I 0), (I 0), (I 0)]) <|
    o (.store 4 (T 0) (T 1)) <|
    o (.faddr 0 (T 1)) <|
    o (ldn 3 (T 0)) <|
    o (.faddr 3 (T 3)) <|
    o (ld (T 0)) <|
    ck (ldn 3 (T 3)) (T 2) <|
    ck (ld (T 1)) (T 0) <|
    o (.store 3 (T 22) (T 2)) <|
    ck (ld (T 2)) (T 1) <|
    o (.store 1 (T 22) (T 1)) <|
    nrm [])
    (o (.panic (T 4)) <|
    nrm []))) <|
 nrm [], false, []⟩
def f29 : LF := ⟨1,
 o (call 44 [(T 0)]) <|
 bl 0 [4]
  (.loop [4, 5] [(.c (.list .nil [])), (K 1)] <|
  o (.len .slice (T 3)) <|
  o (lt (T 2) (T 0)) <|
  .cond (T 0)
   (bl 1 [4]
    (o (ix 1 (T 4) (T 3)) <|
    o (ld (T 0)) <|
    o (.slice false 8 (T 7) (some (T 5)) (some (T 0)) none) <|
    o (.bsl false [(.list .nil [])] 1 [(0, (T 0))]) <|
    o (.append 1 24 (T 6) (T 0)) <|
    nrm [(T 0)]) <|
   o (ix 1 (T 5) (T 4)) <|
   o (ld (T 0)) <|
   nrm [(T 2), (T 0)])
   (ex 0 [(T 2)])) <|
 ret [(T 0)], false, [none]⟩
def f30 : LF := ⟨3,
 o (.len .slice (T 0)) <|
 bl 0 []
  (.loop [15] [(K 0)] <|
  o (lt (T 0) (T 1)) <|
  .cond (T 0)
   (bl 1 []
    (o (ix 1 (T 3) (T 1)) <|
    o (ld (T 0)) <|
    o (.nilchk (T 0)) <|
    o (ld (T 0)) <|
    o (.len .slice (T 0)) <|
    o (.mksl [(.list .nil [])] 24 (T 0) (T 0)) <|
    o (.nilchk (T 4)) <|
    o (ld (T 0)) <|
    o (.len .slice (T 0)) <|
    bl 2 []
     (.loop [28] [(K 0)] <|
     o (lt (T 0) (T 1)) <|
     .cond (T 0)
      (bl 3 []
       (o (ix 1 (T 3) (T 1)) <|
       o (ld (T 0)) <|
       o (call 45 [(T 0), (T 17)]) <|
       o (.extract (T 0) 0) <|
       o (.extract (T 1) 1) <|
       o (ne (T 0) (K 0)) <|
       jn []
        (.cond (T 0)
         (o (ix 8 (T 4) (K 0)) <|
         o (ldn 8 (T 0)) <|
         o (call 46 [(T 0), (T 3)]) <|
         nrm [])
         (nrm [])) <|
       o (ix 1 (T 11) (T 7)) <|
       o (.store 1 (T 0) (T 3)) <|
       nrm []) <|
      o (ad (T 1) (K 1)) <|
      nrm [(T 0)])
      (ex 2 [])) <|
    o (.nilchk (T 7)) <|
    o (.store 1 (T 0) (T 4)) <|
    nrm []) <|
   o (ad (T 1) (K 1)) <|
   nrm [(T 0)])
   (ex 0 [])) <|
 nrm [], false, []⟩
def f31 : LF := ⟨3,
 o (.box 8 (T 1)) <|
 o (.box 1 (T 1)) <|
 o (ld (T 0)) <|
 o (.len .slice (T 0)) <|
 o (.mksl [(I 0)] 8 (T 0) (T 0)) <|
 o (ld (T 3)) <|
 o (.len .slice (T 0)) <|
 bl 0 []
  (.loop [36] [(K 0)] <|
  o (lt (T 0) (T 1)) <|
  .cond (T 0)
   (bl 1 []
    (o (ix 1 (T 3) (T 1)) <|
    o (ld (T 0)) <|
    o (call 47 [(T 13), (T 0)]) <|
    bl 2 []
     (o (eq (T 0) (K 15)) <|
     .cond (T 0)
      (o (ix 1 (T 8) (T 5)) <|
      o (.store 1 (T 0) (K 1)) <|
      nrm [])
      (o (eq (T 1) (K 16)) <|
      .cond (T 0)
       (o (ix 1 (T 9) (T 6)) <|
       o (.store 1 (T 0) (K 2)) <|
       nrm [])
       (nrm []))) <|
    nrm []) <|
   o (ad (T 1) (K 1)) <|
   nrm [(T 0)])
   (ex 0 [])) <|
 o (call 48 [(T 2)]) <|
 o (.extract (T 0) 0) <|
 o (.extract (T 1) 1) <|
 o (.extract (T 2) 2) <|
 bl 3 []
  (o (eq (T 0) (K 12)) <|
  .cond (T 0)
   (o (ld (T 10)) <|
   o (ix 1 (T 0) (T 3)) <|
   o (ld (T 0)) <|
   o (ix 8 (T 0) (K 0)) <|
   o (ldn 8 (T 0)) <|
   o (call 46 [(T 0), (T 6)]) <|
   nrm [])
   (o (ne (T 1) (K 0)) <|
   .cond (T 0)
    (o (ldn 8 (T 12)) <|
    o (call 46 [(T 0), (T 3)]) <|
    nrm [])
    (o (eq (T 4) (K 0)) <|
    .cond (T 0)
     (o (ldn 8 (T 13)) <|
     o (ld (T 13)) <|
     o (call 49 [(T 18), (T 1), (T 0)]) <|
     ret [(T 0)])
     (nrm [])))) <|
 o (.bsl true [.nilp] 1 [(0, (T 9))]) <|
 o (call 50 [(T 14), (T 0)]) <|
 o (ld (T 11)) <|
 o (.slice false 1 (T 0) none (some (T 5)) none) <|
 o (.len .slice (T 0)) <|
 bl 4 [13, 14]
  (.loop [13, 14, 92] [(.c (.list .nil [])), (.c (.list .nil [])), (K 0)] <|
  o (lt (T 2) (T 3)) <|
  .cond (T 0)
   (bl 5 [13, 14]
    (o (ix 1 (T 5) (T 3)) <|
    o (ld (T 0)) <|
    o (ix 1 (T 17) (T 5)) <|
    o (ld (T 0)) <|
    o (eq (T 0) (K 2)) <|
    jn [17]
     (.cond (T 0)
      (nrm [(K 16)])
      (nrm [(K 15)])) <|
    o (call 51 [(T 4), (T 0)]) <|
    bl 6 [13, 14]
     (o (.tassert 124 (.agg [(.list .nil []), (.list .nil [])]) true (T 0)) <|
     o (.extract (T 0) 1) <|
     o (.extract (T 1) 0) <|
     .cond (T 1)
      (o (.alloc [(.list .nil []), (.list .nil [])]) <|
      o (.store 2 (T 0) (T 1)) <|
      o (.faddr 0 (T 1)) <|
      o (ld (T 0)) <|
      o (.faddr 1 (T 3)) <|
      o (ld (T 0)) <|
      ck (.mov (T 38)) (T 38) <|
      ck (ld (T 3)) (T 2) <|
      ck (.mov (T 38)) (T 38) <|
      ck (ld (T 1)) (T 0) <|
      o (call 53 [(T 38), (T 0)]) <|
      ck (.mov (T 39)) (T 39) <|
      ck (ld (T 4)) (T 3) <|
      o (call 52 [(T 39), (T 3), (T 0)]) <|
      nrm [(T 19), (T 20)])
      (o (.tassert 132 (.agg [(.list .nil []), (.list .nil []), (.list .nil []), (.list .nil []), (.list .nil [])]) true (T 3)) <|
      o (.extract (T 0) 1) <|
      o (.extract (T 1) 0) <|
      .cond (T 1)
       (o (.alloc [(.list .nil []), (.list .nil []), (.list .nil []), (.list .nil []), (.list .nil [])]) <|
       o (.store 5 (T 0) (T 1)) <|
       o (ldn 5 (T 1)) <|
       o (.bsl false [(.list .nil []), (.list .nil []), (.list .nil []), (.list .nil []), (.list .nil [])] 1 [(0, (T 0))]) <|
       o (.append 5 120 (T 18) (T 0)) <|
       o (.faddr 1 (T 4)) <|
       o (ld (T 0)) <|
       o (call 54 [(T 42), (T 0)]) <|
       o (.bsl false [(.list .nil [])] 1 [(0, (T 0))]) <|
       o (.append 1 24 (T 24) (T 0)) <|
       nrm [(T 5), (T 0)])
       (nrm [(T 14), (T 15)]))) <|
    nrm [(T 0), (T 1)]) <|
   o (ad (T 5) (K 1)) <|
   nrm [(T 1), (T 2), (T 0)])
   (ex 4 [(T 1), (T 2)])) <|
 o (.len .slice (T 0)) <|
 bl 7 [20, 21]
  (.loop [20, 21, 133] [(.c (.list .nil [])), (.c (.list .nil [])), (K 0)] <|
  o (lt (T 2) (T 3)) <|
  .cond (T 0)
   (bl 8 [20, 21]
    (o (ix 5 (T 5) (T 3)) <|
    o (ldn 5 (T 0)) <|
    o (.alloc [(.list .nil []), (.list .nil []), (.list .nil []), (.list .nil []), (.list .nil [])]) <|
    o (.store 5 (T 0) (T 1)) <|
    o (.faddr 2 (T 1)) <|
    o (ld (T 0)) <|
    o (.eqv .slice true true (T 0) (.c (.list .nil []))) <|
    jn [24]
     (.cond (T 0)
      (o (.faddr 2 (T 4)) <|
      o (ld (T 0)) <|
      o (call 55 [(T 34), (T 0)]) <|
      nrm [(T 0)])
      (o (.faddr 3 (T 4)) <|
      o (ld (T 0)) <|
      o (.faddr 4 (T 6)) <|
      o (ld (T 0)) <|
      o (.build [(I 0), (.list .nil []), (.list .nil []), (.list .nil [])] [(0, 1, (K 8)), (1, 1, (T 2)), (3, 1, (T 0))]) <|
      o (.faddr 0 (T 9)) <|
      o (ld (T 0)) <|
      o (ix 8 (T 0) (K 0)) <|
      o (ldn 8 (T 0)) <|
      ck (ld (T 8)) (T 7) <|
      ck (ld (T 6)) (T 5) <|
      ck (.mov (T 41)) (T 41) <|
      ck (ld (T 3)) (T 2) <|
      ck (ix 8 (T 2) (K 0)) (T 1) <|
      ck (ldn 8 (T 1)) (T 0) <|
      o (call 56 [(T 4), (T 41), (T 0)]) <|
      nrm [(T 0)])) <|
    o (.bsl false [(.list .nil [])] 1 [(0, (T 0))]) <|
    o (ix 7 (T 1) (K 0)) <|
    o (.faddr 0 (T 0)) <|
    o (ld (T 0)) <|
    o (eq (T 0) (K 8)) <|
    o (.bsl false [(.bool false)] 1 [(0, (T 0))]) <|
    ck (.mov (T 15)) (T 15) <|
    ck (.mov (T 6)) (T 6) <|
    ck (.mov (T 16)) (T 16) <|
    ck (.mov (T 6)) (T 6) <|
    ck (ix 7 (T 6) (K 0)) (T 4) <|
    ck (ld (T 3)) (T 2) <|
    o (.append 1 24 (T 15) (T 5)) <|
    ck (.mov (T 17)) (T 17) <|
    ck (.mov (T 7)) (T 7) <|
    ck (ix 7 (T 7) (K 0)) (T 5) <|
    ck (ld (T 4)) (T 3) <|
    o (.append 1 1 (T 17) (T 1)) <|
    nrm [(T 1), (T 0)]) <|
   o (ad (T 5) (K 1)) <|
   nrm [(T 1), (T 2), (T 0)])
   (ex 7 [(T 1), (T 2)])) <|
 o (ldn 8 (T 20)) <|
 o (ld (T 20)) <|
 o (.slice false 1 (T 0) (some (T 14)) none none) <|
 ck (.mov (T 26)) (T 26) <|
 ck (ldn 8 (T 23)) (T 2) <|
 ck (ld (T 22)) (T 1) <|
 ck (.mov (T 15)) (T 15) <|
 ck (.slice false 1 (T 1) (some (T 15)) none none) (T 0) <|
 o (call 49 [(T 26), (T 2), (T 0)]) <|
 o (call 57 [(T 5)]) <|
 o (.extract (T 0) 0) <|
 o (.extract (T 1) 1) <|
 o (ne (T 0) (K 0)) <|
 jn []
  (.cond (T 0)
   (o (ldn 8 (T 28)) <|
   o (call 46 [(T 0), (T 2)]) <|
   nrm [])
   (nrm [])) <|
 o (.len .slice (T 2)) <|
 o (sb (T 0) (K 1)) <|
 bl 9 [25]
  (.loop [25, 27] [(T 6), (T 0)] <|
  o (.bin .geq (T 1) (K 0)) <|
  .cond (T 0)
   (bl 10 [25]
    (o (ix 3 (T 7) (T 2)) <|
    o (.faddr 2 (T 0)) <|
    o (ld (T 0)) <|
    jn [28]
     (.cond (T 0)
      (nrm [(K 14)])
      (nrm [(K 12)])) <|
    o (ix 3 (T 11) (T 6)) <|
    o (.faddr 1 (T 0)) <|
    o (ld (T 0)) <|
    bl 11 [29]
     (.loop [29, 201] [(.c (.list .nil [])), (K 0)] <|
     o (lt (T 1) (T 2)) <|
     .cond (T 0)
      (bl 12 [29]
       (o (ix 3 (T 17) (T 12)) <|
       o (.faddr 0 (T 0)) <|
       o (ld (T 0)) <|
       o (ad (T 0) (T 5)) <|
       o (ix 1 (T 31) (T 0)) <|
       o (ld (T 0)) <|
       o (ix 3 (T 23) (T 18)) <|
       o (.faddr 0 (T 0)) <|
       o (ld (T 0)) <|
       o (ad (T 0) (T 11)) <|
       o (ix 1 (T 33) (T 0)) <|
       o (ld (T 0)) <|
       o (.bsl false [(.list .nil [])] 2 [(0, (T 6)), (1, (T 0))]) <|
       ck (.mov (T 14)) (T 14) <|
       ck (.mov (T 40)) (T 40) <|
       ck (.mov (T 30)) (T 30) <|
       ck (.mov (T 25)) (T 25) <|
       ck (ix 3 (T 30) (T 25)) (T 12) <|
       ck (ld (T 11)) (T 10) <|
       ck (.mov (T 15)) (T 15) <|
       ck (ix 1 (T 40) (T 9)) (T 8) <|
       ck (ld (T 8)) (T 7) <|
       ck (.mov (T 36)) (T 36) <|
       ck (.mov (T 30)) (T 30) <|
       ck (.mov (T 25)) (T 25) <|
       ck (ix 3 (T 30) (T 25)) (T 6) <|
       ck (ld (T 5)) (T 4) <|
       ck (.mov (T 15)) (T 15) <|
       ck (ix 1 (T 36) (T 3)) (T 2) <|
       ck (ld (T 2)) (T 1) <|
       o (.append 1 24 (T 14) (T 0)) <|
       nrm [(T 0)]) <|
      o (ad (T 3) (K 1)) <|
      nrm [(T 1), (T 0)])
      (ex 11 [(T 1)])) <|
    o (ix 3 (T 15) (T 10)) <|
    o (.faddr 0 (T 0)) <|
    o (ld (T 0)) <|
    o (ix 5 (T 27) (T 0)) <|
    o (.faddr 0 (T 0)) <|
    o (ld (T 0)) <|
    o (ix 8 (T 0) (K 0)) <|
    o (ldn 8 (T 0)) <|
    o (.bsl false [(.list .nil [])] 1 [(0, (T 17))]) <|
    ck (.mov (T 13)) (T 13) <|
    ck (.mov (T 33)) (T 33) <|
    ck (.mov (T 24)) (T 24) <|
    ck (.mov (T 19)) (T 19) <|
    ck (ix 3 (T 24) (T 19)) (T 8) <|
    ck (ld (T 7)) (T 6) <|
    ck (ix 5 (T 33) (T 6)) (T 5) <|
    ck (ld (T 4)) (T 3) <|
    ck (ix 8 (T 3) (K 0)) (T 2) <|
    ck (ldn 8 (T 2)) (T 1) <|
    ck (.mov (T 9)) (T 9) <|
    ck (.mov (T 18)) (T 18) <|
    o (.append 1 24 (T 9) (T 0)) <|
    ck (.mov (T 14)) (T 14) <|
    ck (.mov (T 34)) (T 34) <|
    ck (.mov (T 25)) (T 25) <|
    ck (.mov (T 20)) (T 20) <|
    ck (ix 3 (T 25) (T 20)) (T 9) <|
    ck (ld (T 8)) (T 7) <|
    ck (ix 5 (T 34) (T 7)) (T 6) <|
    ck (ld (T 5)) (T 4) <|
    ck (ix 8 (T 4) (K 0)) (T 3) <|
    ck (ldn 8 (T 3)) (T 2) <|
    o (call 58 [(T 14), (T 2), (T 0)]) <|
    nrm [(T 0)]) <|
   o (sb (T 3) (K 1)) <|
   nrm [(T 1), (T 0)])
   (ex 9 [(T 1)])) <|
 ret [(T 0)], false, [none]⟩
def f32 : LF := ⟨1,
 o (call 59 [(T 0)]) <|
 o (.extract (T 0) 0) <|
 o (.extract (T 1) 1) <|
 o (.extract (T 2) 2) <|
 ret [(T 1), (T 0)], false, [none, none]⟩
def f33 : LF := ⟨1,
 o (.len .slice (T 0)) <|
 o (eq (T 0) (K 0)) <|
 .cond (T 0)
  (ret [(.c (.list .nil [])), (K 0), (K 6)])
  (o (.len .slice (T 2)) <|
  o (.bin .gtr (T 0) (K 2000)) <|
  .cond (T 0)
   (ret [(.c (.list .nil [])), (K 0), (K 3)])
   (o (.build [(I 0), (I 0), (I 0)] [(0, 1, (K (-1)))]) <|
   o (.alloc [(I 0), (I 0), (I 0)]) <|
   o (.store 3 (T 0) (T 1)) <|
   bl 0 [5]
    (.loop [5, 7] [(.c (.list .nil [])), (K 0)] <|
    o (.len .slice (T 9)) <|
    o (lt (T 2) (T 0)) <|
    .cond (T 0)
     (bl 1 [5]
      (o (.faddr 2 (T 5)) <|
      o (ld (T 0)) <|
      o (lt (T 0) (K 0)) <|
      .cond (T 0)
       (ret [(.c (.list .nil [])), (T 6), (K 6)])
       (o (ix 7 (T 14) (T 6)) <|
       o (ldn 7 (T 0)) <|
       o (.faddr 2 (T 10)) <|
       o (ld (T 0)) <|
       ck (.mov (T 18)) (T 18) <|
       ck (.mov (T 10)) (T 10) <|
       ck (ix 7 (T 18) (T 10)) (T 3) <|
       ck (ldn 7 (T 3)) (T 2) <|
       ck (ld (T 1)) (T 0) <|
       o (call 60 [(T 2), (T 0)]) <|
       o (ldn 3 (T 13)) <|
       o (.bsl false [(I 0), (I 0), (I 0)] 1 [(0, (T 0))]) <|
       o (.append 3 24 (T 12) (T 0)) <|
       o (eq (T 3) (K 0)) <|
       jn [8]
        (.cond (T 0)
         (o (ldn 3 (T 17)) <|
         o (call 61 [(T 24), (T 16), (T 0)]) <|
         nrm [(T 0)])
         (nrm [(T 4)])) <|
       o (ne (T 0) (K 0)) <|
       .cond (T 0)
        (ret [(.c (.list .nil [])), (T 17), (T 1)])
        (o (call 62 [(T 25), (T 3), (T 17)]) <|
        o (.store 3 (T 20) (T 0)) <|
        nrm [(T 5)]))) <|
     o (ad (T 4) (K 1)) <|
     nrm [(T 1), (T 0)])
     (ex 0 [(T 2)])) <|
   o (.faddr 2 (T 2)) <|
   o (ld (T 0)) <|
   o (.bin .geq (T 0) (K 0)) <|
   .cond (T 0)
    (o (.len .slice (T 11)) <|
    ret [(.c (.list .nil [])), (T 0), (K 6)])
    (bl 2 []
     (.loop [9] [(K 0)] <|
     o (.len .slice (T 12)) <|
     o (lt (T 1) (T 0)) <|
     .cond (T 0)
      (bl 3 []
       (o (call 63 [(T 14), (T 6), (T 2)]) <|
       o (ne (T 0) (K 0)) <|
       .cond (T 0)
        (ret [(.c (.list .nil [])), (T 4), (T 1)])
        (nrm [])) <|
      o (ad (T 2) (K 1)) <|
      nrm [(T 0)])
      (ex 2 [])) <|
    ret [(T 3), (K 0), (K 0)]))), false, [none, none, none]⟩
def f34 : LF := ⟨1,
 o (.bin .gtr (T 0) (K 9)) <|
 og (T 0) false (.mov (T 1)) <|
 og (T 1) false (lt (T 0) (K (-9))) <|
 o (.pick (T 2) (.c (.bool true)) (T 0)) <|
 .cond (T 0)
  (o (.bin .rem (T 4) (K 10)) <|
  o (lt (T 0) (K 0)) <|
  jn [3]
   (.cond (T 0)
    (o (.un .neg (T 1)) <|
    nrm [(T 0)])
    (nrm [(T 1)])) <|
  o (.bin .quo (T 7) (K 10)) <|
  o (ad (K 48) (T 1)) <|
  o (.cint .u8 (T 0)) <|
  o (.bsl false [(.int .u8 0)] 1 [(0, (T 0))]) <|
  o (.b2s (T 0)) <|
  ck (.mov (T 12)) (T 12) <|
  ck (.mov (T 5)) (T 5) <|
  ck (.b2s (T 1)) (T 0) <|
  o (call 34 [(T 4)]) <|
  o (ad (T 0) (T 1)) <|
  ck (.mov (T 7)) (T 7) <|
  ck (.b2s (T 3)) (T 2) <|
  ret [(T 0)])
  (o (lt (T 4) (K 0)) <|
  .cond (T 0)
   (o (.un .neg (T 5)) <|
   o (call 34 [(T 0)]) <|
   o (ad (.c (.str [45])) (T 0)) <|
   ret [(T 0)])
   (o (ad (K 48) (T 5)) <|
   o (.cint .u8 (T 0)) <|
   o (.bsl true [(.int .u8 0)] 1 [(0, (T 0))]) <|
   o (.b2s (T 0)) <|
   ret [(T 0)])), false, [none]⟩
def f35 : LF := ⟨1,
 o (.build [(I 0), (I 0), (I 0), S0] [(0, 1, (K 3)), (3, 1, (T 0))]) <|
 o (.bsl true [(I 0), (I 0), (I 0), S0] 1 [(0, (T 0))]) <|
 ret [(T 0)], false, [none]⟩
def f36 : LF := ⟨2,
 o (ad (T 0) (K 1)) <|
 bl 0 [5]
  (.loop [5, 6] [(.c (.list .nil [])), (T 0)] <|
  o (.len .slice (T 0)) <|
  o (ix 7 (T 5) (T 4)) <|
  o (.faddr 1 (T 0)) <|
  o (ld (T 0)) <|
  o (lt (T 3) (T 0)) <|
  .cond (T 0)
   (bl 1 [5, 6]
    (o (.bsl false [(I 0)] 1 [(0, (T 6))]) <|
    o (.append 1 8 (T 6) (T 0)) <|
    o (call 64 [(T 11), (T 8)]) <|
    nrm [(T 1), (T 0)]) <|
   nrm [(T 0), (T 1)])
   (ex 0 [(T 5)])) <|
 ret [(T 0)], false, [none]⟩
def f37 : LF := ⟨1,
 o (.len .slice (T 0)) <|
 o (.build [(I 0), (I 0), (I 0), S0] [(0, 1, (K 4)), (1, 1, (T 0))]) <|
 o (.bsl true [(I 0), (I 0), (I 0), S0] 1 [(0, (T 0))]) <|
 bl 0 [3]
  (.loop [3, 4] [(T 0), (K 0)] <|
  o (.len .slice (T 5)) <|
  o (lt (T 2) (T 0)) <|
  .cond (T 0)
   (bl 1 [3]
    (o (ix 1 (T 7) (T 3)) <|
    o (ld (T 0)) <|
    o (.append 4 40 (T 4) (T 0)) <|
    nrm [(T 0)]) <|
   o (ad (T 4) (K 1)) <|
   nrm [(T 1), (T 0)])
   (ex 0 [(T 2)])) <|
 ret [(T 0)], false, [none]⟩
def f38 : LF := ⟨1,
 o (.bsl true [S0] 25 [(11, (.c (.str [105, 102]))), (18, (.c (.str [97, 110, 100]))), (19, (.c (.str [111, 114]))), (20, (.c (.str [119, 104, 101, 110]))), (21, (.c (.str [117, 110, 108, 101, 115, 115]))), (22, (.c (.str [98, 101, 103, 105, 110]))), (23, (.c (.str [108, 105, 115, 116]))), (8, (.c (.str [108, 97, 109, 98, 100, 97]))), (12, (.c (.str [108, 101, 116]))), (13, (.c (.str [108, 101, 116, 42]))), (14, (.c (.str [108, 101, 116, 114, 101, 99]))), (15, (.c (.str [99, 111, 110, 100]))), (3, (.c (.str [113, 117, 111, 116, 101]))), (17, (.c (.str [101, 108, 115, 101]))), (24, (.c (.str [112, 97, 105, 114])))]) <|
 o (ix 1 (T 0) (T 1)) <|
 o (ld (T 0)) <|
 ret [(T 0)], false, [none]⟩
def f39 : LF := ⟨1,
 o (call 65 [(T 0)]) <|
 o (call 66 [(T 0)]) <|
 o (.len .slice (T 1)) <|
 o (.bin .gtr (T 0) (K 0)) <|
 og (T 0) true (.mov (T 3)) <|
 og (T 1) true (ix 1 (T 0) (K 0)) <|
 og (T 2) true (ld (T 0)) <|
 og (T 3) true (lt (T 0) (K 0)) <|
 og (T 4) true (.mov (T 0)) <|
 og (T 0) false (.mov (T 8)) <|
 og (T 1) false (.mov (T 9)) <|
 og (T 2) false (.len .slice (T 0)) <|
 og (T 3) false (sb (T 0) (K 1)) <|
 og (T 4) false (ix 1 (T 3) (T 0)) <|
 og (T 5) false (ld (T 0)) <|
 og (T 6) false (.bin .gtr (T 0) (K 65535)) <|
 og (T 12) true (.pick (T 7) (.c (.bool true)) (T 0)) <|
 o (.pick (T 13) (T 0) (.c (.bool false))) <|
 .cond (T 0)
  (ret [(.c S0), (K 7)])
  (o (call 68 [(T 17)]) <|
  o (call 67 [(T 0)]) <|
  o (.extract (T 0) 0) <|
  o (.extract (T 1) 1) <|
  ret [(T 1), (T 0)]), false, [none, none]⟩
def f40 : LF := ⟨1,
 o (lt (T 0) (K 1)) <|
 og (T 0) false (.mov (T 1)) <|
 og (T 1) false (.bin .gtr (T 0) (K 18)) <|
 o (.pick (T 2) (.c (.bool true)) (T 0)) <|
 .cond (T 0)
  (ret [(.c S0), (K 2)])
  (o (.iaddr (some 19) 3 (.c (.rp [S0, (I 0), (I 0), (.str [108, 97, 109, 98, 100, 97]), (I 2), (I 1073741824), (.str [108, 101, 116]), (I 2), (I 1073741824), (.str [108, 101, 116, 42]), (I 2), (I 1073741824), (.str [108, 101, 116, 114, 101, 99]), (I 2), (I 1073741824), (.str [105, 102]), (I 3), (I 3), (.str [99, 111, 110, 100]), (I 1), (I 1073741824), (.str [101, 108, 115, 101]), (I 0), (I 0), (.str [97, 110, 100]), (I 0), (I 1073741824), (.str [111, 114]), (I 0), (I 1073741824), (.str [119, 104, 101, 110]), (I 2), (I 1073741824), (.str [117, 110, 108, 101, 115, 115]), (I 2), (I 1073741824), (.str [98, 101, 103, 105, 110]), (I 1), (I 1073741824), (.str [108, 105, 115, 116]), (I 0), (I 1073741824), (.str [113, 117, 111, 116, 101]), (I 1), (I 1), (.str [100, 101, 102, 105, 110, 101]), (I 2), (I 1073741824), (.str [100, 101, 102, 105, 110, 101, 45, 115, 121, 110, 116, 97, 120]), (I 2), (I 2), (.str [108, 101, 116, 45, 115, 121, 110, 116, 97, 120]), (I 2), (I 1073741824), (.str [115, 121, 110, 116, 97, 120, 45, 114, 117, 108, 101, 115]), (I 1), (I 21)] 0)) (T 4)) <|
  o (.faddr 0 (T 0)) <|
  o (ld (T 0)) <|
  ret [(T 0), (K 0)]), false, [none, none]⟩
def f41 : LF := ⟨2,
 o (.box 4 (T 0)) <|
 o (call 69 [(T 2)]) <|
 o (.extract (T 0) 0) <|
 o (.extract (T 1) 1) <|
 o (ne (T 0) (K 0)) <|
 .cond (T 0)
  (ret [(.c (.list .nil [])), (T 1)])
  (o (ldn 4 (T 4)) <|
  o (.bsl false [S0, S0, (I 0), (I 0)] 1 [(0, (T 0))]) <|
  ck (.mov (T 8)) (T 8) <|
  ck (ldn 4 (T 6)) (T 1) <|
  o (call 70 [(T 8)]) <|
  ck (ldn 4 (T 7)) (T 2) <|
  o (.append 4 48 (T 0) (T 1)) <|
  o (call 69 [(T 0)]) <|
  o (.extract (T 0) 0) <|
  o (.extract (T 1) 1) <|
  o (ne (T 0) (K 0)) <|
  .cond (T 0)
   (ret [(.c (.list .nil [])), (T 1)])
   (ret [(T 4), (K 0)])), false, [none, none]⟩
def f42 : LF := ⟨2,
 o (.box 8 (T 0)) <|
 bl 0 []
  (.loop [] [] <|
  o (.nilchk (T 2)) <|
  o (.faddr 0 (T 0)) <|
  o (ld (T 0)) <|
  o (.len .slice (T 0)) <|
  o (.bin .gtr (T 0) (K 0)) <|
  og (T 0) true (.mov (T 7)) <|
  og (T 1) true (.nilchk (T 0)) <|
  og (T 2) true (.faddr 0 (T 0)) <|
  og (T 3) true (ld (T 0)) <|
  og (T 4) true (.mov (T 11)) <|
  og (T 5) true (.nilchk (T 0)) <|
  og (T 6) true (.faddr 0 (T 0)) <|
  og (T 7) true (ld (T 0)) <|
  og (T 8) true (.len .slice (T 0)) <|
  og (T 9) true (sb (T 0) (K 1)) <|
  og (T 10) true (ix 1 (T 6) (T 0)) <|
  og (T 11) true (ld (T 0)) <|
  og (T 12) true (eq (T 0) (K 0)) <|
  o (.pick (T 13) (T 0) (.c (.bool false))) <|
  ck (.mov (T 21)) (T 21) <|
  ck (ld (T 17)) (T 16) <|
  ck (.len .slice (T 16)) (T 15) <|
  ck (.mov (T 14)) (T 14) <|
  ckg (T 14) true (ld (T 11)) (T 10) <|
  ckg (T 14) true (ld (T 7)) (T 6) <|
  ckg (T 14) true (.len .slice (T 6)) (T 5) <|
  ckg (T 14) true (ix 1 (T 10) (T 4)) (T 3) <|
  ckg (T 14) true (ld (T 3)) (T 2) <|
  .cond (T 0)
   (bl 1 []
    (o (.nilchk (T 21)) <|
    o (.faddr 0 (T 0)) <|
    o (ld (T 0)) <|
    o (.nilchk (T 24)) <|
    o (.faddr 0 (T 0)) <|
    o (ld (T 0)) <|
    o (.len .slice (T 0)) <|
    o (sb (T 0) (K 1)) <|
    o (.slice false 1 (T 5) none (some (T 0)) none) <|
    o (.nilchk (T 30)) <|
    o (.faddr 0 (T 0)) <|
    ck (.mov (T 32)) (T 32) <|
    ck (.mov (T 32)) (T 32) <|
    ck (ld (T 9)) (T 8) <|
    ck (.mov (T 32)) (T 32) <|
    ck (ld (T 6)) (T 5) <|
    ck (.len .slice (T 5)) (T 4) <|
    ck (.slice false 1 (T 8) none (some (T 3)) none) (T 2) <|
    o (.store 1 (T 0) (T 2)) <|
    nrm []) <|
   nrm [])
   (ex 0 [])) <|
 o (.nilchk (T 2)) <|
 o (.faddr 0 (T 0)) <|
 o (ld (T 0)) <|
 o (.len .slice (T 0)) <|
 o (sb (T 0) (K 1)) <|
 bl 2 []
  (o (lt (T 0) (K 0)) <|
  og (T 0) false (ldn 8 (T 6)) <|
  og (T 1) false (call 71 [(T 0)]) <|
  o (.pick (T 2) (.c (.bool true)) (T 0)) <|
  .cond (T 0)
   (ret [(K 6)])
   (o (.bin .gtr (T 4) (K 200)) <|
   .cond (T 0)
    (ret [(K 3)])
    (o (.faddr 0 (T 10)) <|
    o (ld (T 0)) <|
    o (eq (T 0) (K 2)) <|
    og (T 0) true (.faddr 2 (T 13)) <|
    og (T 1) true (ld (T 0)) <|
    og (T 2) true (ne (T 0) (K 0)) <|
    o (.pick (T 3) (T 0) (.c (.bool false))) <|
    og (T 0) true (.faddr 2 (T 17)) <|
    og (T 1) true (ld (T 0)) <|
    og (T 2) true (ne (T 0) (K 1)) <|
    o (.pick (T 3) (T 0) (.c (.bool false))) <|
    .cond (T 0)
     (ret [(K 7)])
     (o (.faddr 0 (T 21)) <|
     o (ld (T 0)) <|
     o (eq (T 0) (K 3)) <|
     og (T 0) true (.faddr 3 (T 24)) <|
     og (T 1) true (ld (T 0)) <|
     og (T 2) true (call 72 [(T 0)]) <|
     og (T 3) true (.un .not (T 0)) <|
     o (.pick (T 4) (T 0) (.c (.bool false))) <|
     .cond (T 0)
      (ret [(K 6)])
      (nrm []))))) <|
 o (.faddr 4 (T 5)) <|
 o (ld (T 0)) <|
 o (call 73 [(T 0)]) <|
 o (ne (T 0) (K 0)) <|
 .cond (T 0)
  (ret [(T 1)])
  (bl 3 []
   (o (.faddr 5 (T 9)) <|
   o (ldn 2 (T 0)) <|
   o (call 74 [(T 0)]) <|
   .cond (T 0)
    (ret [(K 6)])
    (o (.faddr 7 (T 12)) <|
    o (ld (T 0)) <|
    o (lt (T 0) (K 0)) <|
    .cond (T 0)
     (ret [(K 7)])
     (nrm []))) <|
  o (.nilchk (T 11)) <|
  o (.faddr 0 (T 0)) <|
  o (ld (T 0)) <|
  o (ix 1 (T 0) (T 7)) <|
  o (ld (T 0)) <|
  o (sb (T 0) (K 1)) <|
  o (ix 1 (T 3) (T 10)) <|
  o (.store 1 (T 0) (T 1)) <|
  o (.nilchk (T 19)) <|
  o (.faddr 0 (T 0)) <|
  o (ld (T 0)) <|
  o (.faddr 1 (T 20)) <|
  o (ld (T 0)) <|
  o (.bsl false [(I 0)] 1 [(0, (T 0))]) <|
  ck (.mov (T 25)) (T 25) <|
  ck (.mov (T 25)) (T 25) <|
  ck (ld (T 4)) (T 3) <|
  ck (ld (T 2)) (T 1) <|
  o (.append 1 8 (T 3) (T 0)) <|
  o (.nilchk (T 26)) <|
  o (.faddr 0 (T 0)) <|
  ck (.mov (T 28)) (T 28) <|
  o (.store 1 (T 0) (T 2)) <|
  ret [(K 0)]), false, [none]⟩
def f43 : LF := ⟨3,
 o (.bin .leq (T 1) (T 2)) <|
 og (T 0) true (.mov (T 3)) <|
 og (T 1) true (.mov (T 2)) <|
 og (T 2) true (.bin .leq (T 1) (T 0)) <|
 o (.pick (T 3) (T 0) (.c (.bool false))) <|
 ret [(T 0)], false, [none]⟩
def f44 : LF := ⟨1,
 o (.len .slice (T 0)) <|
 o (.mksl [(I 0)] 8 (T 0) (T 0)) <|
 o (.len .slice (T 2)) <|
 o (sb (T 0) (K 1)) <|
 bl 0 []
  (.loop [4] [(T 0)] <|
  o (.bin .geq (T 0) (K 0)) <|
  .cond (T 0)
   (bl 1 []
    (o (ad (T 1) (K 1)) <|
    o (ix 8 (T 7) (T 2)) <|
    o (.faddr 1 (T 0)) <|
    o (ld (T 0)) <|
    bl 2 [5]
     (.loop [5, 23] [(T 3), (K 0)] <|
     o (lt (T 1) (T 2)) <|
     .cond (T 0)
      (bl 3 [5]
       (o (ix 1 (T 11) (T 1)) <|
       o (ld (T 0)) <|
       nrm [(T 0)]) <|
      o (ad (T 3) (K 1)) <|
      nrm [(T 1), (T 0)])
      (ex 2 [(T 1)])) <|
    o (ix 1 (T 9) (T 6)) <|
    o (.store 1 (T 0) (T 1)) <|
    nrm []) <|
   o (sb (T 1) (K 1)) <|
   nrm [(T 0)])
   (ex 0 [])) <|
 ret [(T 2)], false, [none]⟩
def f45 : LF := ⟨2,
 o (call 75 [(T 1), (fc 76), (T 0)]) <|
 o (.extract (T 0) 0) <|
 o (.extract (T 1) 1) <|
 ret [(T 1), (T 0)], false, [none, none]⟩
def f46 : LF := ⟨2,
 o (.box 8 (T 1)) <|
 o (.faddr 5 (T 0)) <|
 o (ldn 2 (T 0)) <|
 o (.faddr 7 (T 2)) <|
 o (ld (T 0)) <|
 o (.build [(I 0), (I 0), (I 0)] [(0, 2, (T 2)), (2, 1, (T 0))]) <|
 o (.build [(I 0), (I 0), (I 0), (I 0)] [(0, 3, (T 0)), (3, 1, (T 6))]) <|
 o (.mkif 82 (T 0)) <|
 o (.panic (T 0)) <|
 nrm [], false, []⟩
def f47 : LF := ⟨2,
 o (ix 8 (T 0) (K 0)) <|
 o (.faddr 0 (T 0)) <|
 o (ld (T 0)) <|
 o (eq (T 0) (K 4)) <|
 og (T 0) true (.mov (T 4)) <|
 og (T 1) true (.len .slice (T 0)) <|
 og (T 2) true (.bin .gtr (T 0) (K 1)) <|
 o (.pick (T 3) (T 0) (.c (.bool false))) <|
 jn []
  (.cond (T 0)
   (o (ix 8 (T 8) (K 1)) <|
   o (ldn 8 (T 0)) <|
   o (call 77 [(T 11), (T 0)]) <|
   o (.alloc [S0, S0, (I 0), (I 0)]) <|
   o (.store 4 (T 0) (T 1)) <|
   o (.faddr 2 (T 1)) <|
   o (ld (T 0)) <|
   o (eq (T 0) (K 3)) <|
   .cond (T 0)
    (o (.faddr 3 (T 4)) <|
    o (ld (T 0)) <|
    ret [(T 0)])
    (nrm []))
   (nrm [])) <|
 ret [(K 0)], false, [none]⟩
def f48 : LF := ⟨1,
 o (.len .slice (T 0)) <|
 o (.bin .gtr (T 0) (K 400)) <|
 .cond (T 0)
  (ret [(K 0), (K 0), (K 3)])
  (o (call 78 [(T 2), (fc 79)]) <|
  o (.bin .geq (T 0) (K 0)) <|
  .cond (T 0)
   (ret [(K 0), (T 1), (K 2)])
   (o (call 80 [(T 4), (K 0)]) <|
   o (lt (T 0) (K 0)) <|
   .cond (T 0)
    (o (.len .slice (T 6)) <|
    ret [(K 0), (T 0), (K 6)])
    (o (.slice false 1 (T 6) (some (T 1)) none none) <|
    o (call 78 [(T 0), (fc 81)]) <|
    o (.bin .geq (T 0) (K 0)) <|
    .cond (T 0)
     (o (ad (T 4) (T 1)) <|
     ret [(K 0), (T 0), (K 12)])
     (ret [(T 4), (K 0), (K 0)])))), false, [none, none, none]⟩
def f49 : LF := ⟨3,
 o (.box 8 (T 1)) <|
 o (call 82 [(T 3), (T 1)]) <|
 o (.len .slice (T 0)) <|
 o (eq (T 0) (K 1)) <|
 .cond (T 0)
  (o (ix 1 (T 2) (K 0)) <|
  o (ld (T 0)) <|
  ret [(T 0)])
  (o (ldn 8 (T 3)) <|
  o (call 58 [(K 22), (T 0), (T 3)]) <|
  ret [(T 0)]), false, [none]⟩
def f50 : LF := ⟨2,
 o (.nilchk (T 1)) <|
 o (.faddr 1 (T 0)) <|
 o (ld (T 0)) <|
 o (ad (T 0) (K 1)) <|
 o (.nilchk (T 5)) <|
 o (.faddr 1 (T 0)) <|
 o (.store 1 (T 0) (T 2)) <|
 o (.nilchk (T 8)) <|
 o (.faddr 1 (T 0)) <|
 o (ld (T 0)) <|
 o (sb (T 0) (K 1)) <|
 o (call 30 [(T 12), (T 0), (T 11)]) <|
 nrm [], false, []⟩
def f51 : LF := ⟨2,
 o (call 83 [(T 1)]) <|
 o (.extract (T 0) 0) <|
 o (.extract (T 1) 1) <|
 o (ne (T 0) (K 0)) <|
 jn []
  (.cond (T 0)
   (o (ix 8 (T 5) (K 0)) <|
   o (ldn 8 (T 0)) <|
   o (call 46 [(T 0), (T 3)]) <|
   nrm [])
   (nrm [])) <|
 o (call 84 [(T 2), (K 0), (T 4)]) <|
 o (.extract (T 0) 0) <|
 o (.extract (T 1) 1) <|
 o (.extract (T 2) 2) <|
 o (.alloc [(I 0), (.list .nil []), (.list .nil []), (.list .nil []), (.list .nil [])]) <|
 o (.store 5 (T 0) (T 3)) <|
 o (ne (T 2) (K 0)) <|
 jn []
  (.cond (T 0)
   (o (ix 8 (T 12) (T 4)) <|
   o (ldn 8 (T 0)) <|
   o (call 46 [(T 0), (T 5)]) <|
   nrm [])
   (nrm [])) <|
 o (.faddr 1 (T 2)) <|
 o (ld (T 0)) <|
 o (.faddr 2 (T 4)) <|
 o (ld (T 0)) <|
 o (.faddr 3 (T 6)) <|
 o (ld (T 0)) <|
 o (.faddr 4 (T 8)) <|
 o (ld (T 0)) <|
 ck (.mov (T 20)) (T 20) <|
 ck (ld (T 7)) (T 6) <|
 ck (.mov (T 20)) (T 20) <|
 ck (ld (T 5)) (T 4) <|
 ck (.mov (T 20)) (T 20) <|
 ck (ld (T 3)) (T 2) <|
 ck (.mov (T 20)) (T 20) <|
 ck (ld (T 1)) (T 0) <|
 o (call 85 [(T 20), (T 6)]) <|
 ck (.mov (T 21)) (T 21) <|
 ck (ld (T 6)) (T 5) <|
 ck (.mov (T 21)) (T 21) <|
 ck (ld (T 4)) (T 3) <|
 ck (.mov (T 21)) (T 21) <|
 ck (ld (T 2)) (T 1) <|
 o (call 85 [(T 21), (T 5)]) <|
 ck (.mov (T 22)) (T 22) <|
 ck (ld (T 5)) (T 4) <|
 ck (.mov (T 22)) (T 22) <|
 ck (ld (T 3)) (T 2) <|
 o (call 85 [(T 22), (T 4)]) <|
 ck (.mov (T 23)) (T 23) <|
 ck (ld (T 4)) (T 3) <|
 o (call 85 [(T 23), (T 3)]) <|
 o (.mkmap) <|
 o (.mapupd (.one .int) (T 0) (K 1) (K 8)) <|
 o (.mapupd (.one .int) (T 1) (K 2) (K 12)) <|
 o (.mapupd (.one .int) (T 2) (K 3) (K 13)) <|
 o (.mapupd (.one .int) (T 3) (K 4) (K 14)) <|
 o (.mapupd (.one .int) (T 4) (K 5) (K 11)) <|
 o (.mapupd (.one .int) (T 5) (K 8) (K 18)) <|
 o (.mapupd (.one .int) (T 6) (K 9) (K 19)) <|
 o (.mapupd (.one .int) (T 7) (K 13) (K 23)) <|
 o (.mapupd (.one .int) (T 8) (K 12) (K 22)) <|
 o (.mapupd (.one .int) (T 9) (K 10) (K 20)) <|
 o (.mapupd (.one .int) (T 10) (K 11) (K 21)) <|
 bl 0 []
  (o (eq (T 35) (K 1)) <|
  jn [61]
   (.cond (T 0)
    (nrm [(T 0)])
    (o (eq (T 36) (K 2)) <|
    .cond (T 0)
     (nrm [(T 0)])
     (o (eq (T 37) (K 3)) <|
     .cond (T 0)
      (nrm [(T 0)])
      (o (eq (T 38) (K 4)) <|
      nrm [(T 0)])))) <|
  .cond (T 0)
   (o (.lookup (.one .int) (I 0) false (T 13) (T 37)) <|
   o (.build [(I 0), (.list .nil []), (.list .nil []), (.list .nil [])] [(0, 1, (T 0)), (1, 1, (T 18)), (2, 1, (T 16)), (3, 1, (T 15))]) <|
   o (.mkif 136 (T 0)) <|
   ret [(T 0)])
   (o (eq (T 37) (K 17)) <|
   .cond (T 0)
    (o (.build [(.list .nil []), (.list .nil []), (.list .nil [])] [(0, 1, (T 18)), (1, 1, (T 16)), (2, 1, (T 15))]) <|
    o (.mkif 183 (T 0)) <|
    ret [(T 0)])
    (o (eq (T 38) (K 6)) <|
    .cond (T 0)
     (o (.build [(.list .nil [])] [(0, 1, (T 17))]) <|
     o (.mkif 185 (T 0)) <|
     ret [(T 0)])
     (o (eq (T 39) (K 10)) <|
     jn [86]
      (.cond (T 0)
       (nrm [(T 0)])
       (o (eq (T 40) (K 11)) <|
       nrm [(T 0)])) <|
     .cond (T 0)
      (o (.lookup (.one .int) (I 0) false (T 17) (T 41)) <|
      o (ix 1 (T 20) (K 0)) <|
      o (ld (T 0)) <|
      o (.build [(I 0), (.list .nil []), (.list .nil [])] [(0, 1, (T 2)), (1, 1, (T 0)), (2, 1, (T 21))]) <|
      o (.mkif 187 (T 0)) <|
      ck (.mov (T 22)) (T 22) <|
      ck (.mov (T 46)) (T 46) <|
      ck (.lookup (.one .int) (I 0) false (T 22) (T 46)) (T 4) <|
      ck (.mov (T 24)) (T 24) <|
      ck (ix 1 (T 24) (K 0)) (T 3) <|
      ck (ld (T 3)) (T 2) <|
      ck (.mov (T 23)) (T 23) <|
      ret [(T 0)])
      (o (eq (T 41) (K 14)) <|
      .cond (T 0)
       (o (ix 1 (T 20) (K 0)) <|
       o (ld (T 0)) <|
       o (.build [(.list .nil [])] [(0, 1, (T 0))]) <|
       o (.mkif 189 (T 0)) <|
       ret [(T 0)])
       (o (eq (T 42) (K 16)) <|
       .cond (T 0)
        (o (ix 1 (T 23) (K 0)) <|
        o (ld (T 0)) <|
        o (ix 1 (T 23) (K 0)) <|
        o (ld (T 0)) <|
        o (.build [(.list .nil []), (.list .nil [])] [(0, 1, (T 2)), (1, 1, (T 0))]) <|
        o (.mkif 124 (T 0)) <|
        ck (.mov (T 29)) (T 29) <|
        ck (ix 1 (T 29) (K 0)) (T 5) <|
        ck (ld (T 5)) (T 4) <|
        ck (.mov (T 27)) (T 27) <|
        ck (ix 1 (T 27) (K 0)) (T 3) <|
        ck (ld (T 3)) (T 2) <|
        ret [(T 0)])
        (o (eq (T 43) (K 15)) <|
        .cond (T 0)
         (o (ix 1 (T 24) (K 0)) <|
         o (ld (T 0)) <|
         o (.build [(.list .nil []), (.list .nil []), (.list .nil []), (.list .nil []), (.list .nil [])] [(0, 1, (T 47)), (1, 1, (T 0)), (3, 1, (T 25)), (4, 1, (T 23))]) <|
         o (.alloc [(.list .nil []), (.list .nil []), (.list .nil []), (.list .nil []), (.list .nil [])]) <|
         o (.store 5 (T 0) (T 1)) <|
         o (.len .slice (T 27)) <|
         o (.bin .gtr (T 0) (K 0)) <|
         jn []
          (.cond (T 0)
           (o (ix 1 (T 29) (K 0)) <|
           o (ld (T 0)) <|
           o (.faddr 2 (T 5)) <|
           o (.store 1 (T 0) (T 1)) <|
           nrm [])
           (nrm [])) <|
         o (ldn 5 (T 3)) <|
         o (.mkif 132 (T 0)) <|
         ret [(T 0)])
         (nrm [])))))))) <|
 o (.lookup (.one .int) (I 0) false (T 11) (T 35)) <|
 o (.build [(I 0), (.list .nil [])] [(0, 1, (T 0)), (1, 1, (T 14))]) <|
 o (.mkif 191 (T 0)) <|
 ret [(T 0)], false, [none]⟩
def f52 : LF := ⟨3,
 o (.box 2 (T 0)) <|
 o (ix 8 (T 2) (K 0)) <|
 o (ldn 8 (T 0)) <|
 o (.nilchk (T 5)) <|
 o (.faddr 3 (T 0)) <|
 o (ld (T 0)) <|
 o (.len .slice (T 0)) <|
 ck (.mov (T 9)) (T 9) <|
 ck (.mov (T 8)) (T 8) <|
 ck (ix 8 (T 8) (K 0)) (T 5) <|
 ck (ldn 8 (T 5)) (T 4) <|
 ck (.mov (T 9)) (T 9) <|
 ck (ld (T 2)) (T 1) <|
 ck (.len .slice (T 1)) (T 0) <|
 o (call 86 [(T 9), (T 4), (K 2), (T 0)]) <|
 o (.nilchk (T 10)) <|
 o (.faddr 3 (T 0)) <|
 o (ld (T 0)) <|
 o (ldn 2 (T 10)) <|
 o (.bsl false [(.list .nil []), (.list .nil [])] 1 [(0, (T 0))]) <|
 ck (.mov (T 15)) (T 15) <|
 ck (.mov (T 15)) (T 15) <|
 ck (ld (T 3)) (T 2) <|
 ck (ldn 2 (T 12)) (T 1) <|
 o (.append 2 48 (T 2) (T 0)) <|
 o (.nilchk (T 16)) <|
 o (.faddr 3 (T 0)) <|
 ck (.mov (T 18)) (T 18) <|
 o (.store 1 (T 0) (T 2)) <|
 nrm [], false, []⟩
def f53 : LF := ⟨2,
 o (.alloc [(.list .nil []), (.list .nil [])]) <|
 o (call 47 [(T 2), (T 1)]) <|
 o (ne (T 0) (K 18)) <|
 jn []
  (.cond (T 0)
   (o (ix 8 (T 3) (K 0)) <|
   o (ldn 8 (T 0)) <|
   o (call 46 [(T 0), (K 6)]) <|
   nrm [])
   (nrm [])) <|
 o (call 87 [(T 3)]) <|
 o (.extract (T 0) 0) <|
 o (.extract (T 1) 1) <|
 o (.extract (T 2) 2) <|
 o (.alloc [(.list .nil []), (.list .nil [])]) <|
 o (.store 2 (T 0) (T 3)) <|
 o (ne (T 2) (K 0)) <|
 jn []
  (.cond (T 0)
   (o (ix 8 (T 10) (T 4)) <|
   o (ldn 8 (T 0)) <|
   o (call 46 [(T 0), (T 5)]) <|
   nrm [])
   (nrm [])) <|
 o (ldn 2 (T 2)) <|
 o (.store 2 (T 10) (T 0)) <|
 ret [(T 11)], false, [some (true, 2)]⟩
def f54 : LF := ⟨2,
 o (ix 8 (T 0) (K 0)) <|
 o (ldn 8 (T 0)) <|
 o (.alloc [(I 0), (I 0), (I 0), S0, S0, (I 0), (I 0), (I 0)]) <|
 o (.store 8 (T 0) (T 1)) <|
 o (ldn 8 (T 1)) <|
 o (.nilchk (T 6)) <|
 o (.faddr 2 (T 0)) <|
 o (ld (T 0)) <|
 ck (.mov (T 9)) (T 9) <|
 ck (ldn 8 (T 5)) (T 3) <|
 ck (.mov (T 9)) (T 9) <|
 ck (ld (T 1)) (T 0) <|
 o (call 86 [(T 9), (T 3), (K 1), (T 0)]) <|
 o (.nilchk (T 10)) <|
 o (.faddr 2 (T 0)) <|
 o (ld (T 0)) <|
 o (ad (T 0) (K 1)) <|
 o (.nilchk (T 14)) <|
 o (.faddr 2 (T 0)) <|
 o (.store 1 (T 0) (T 2)) <|
 o (ldn 8 (T 13)) <|
 o (call 58 [(K 9), (T 0), (.c (.list .nil []))]) <|
 o (.nilchk (T 19)) <|
 o (.faddr 2 (T 0)) <|
 o (ld (T 0)) <|
 o (sb (T 0) (K 1)) <|
 o (.faddr 3 (T 19)) <|
 o (ld (T 0)) <|
 o (ix 7 (T 6) (K 0)) <|
 o (.faddr 2 (T 0)) <|
 ck (.mov (T 8)) (T 8) <|
 ck (.mov (T 8)) (T 8) <|
 ck (.mov (T 27)) (T 27) <|
 ck (ld (T 6)) (T 5) <|
 ck (ld (T 3)) (T 2) <|
 ck (ix 7 (T 8) (K 0)) (T 1) <|
 o (.store 1 (T 0) (T 4)) <|
 o (ix 7 (T 9) (K 0)) <|
 o (.faddr 3 (T 0)) <|
 ck (.mov (T 11)) (T 11) <|
 ck (ld (T 6)) (T 5) <|
 ck (ix 7 (T 11) (K 0)) (T 1) <|
 o (.store 1 (T 0) (T 5)) <|
 ret [(T 12)], false, [none]⟩
def f55 : LF := ⟨2,
 o (ix 8 (T 0) (K 0)) <|
 o (ldn 8 (T 0)) <|
 o (.alloc [(I 0), (I 0), (I 0), S0, S0, (I 0), (I 0), (I 0)]) <|
 o (.store 8 (T 0) (T 1)) <|
 o (.nilchk (T 5)) <|
 o (.faddr 4 (T 0)) <|
 o (ldn 2 (T 0)) <|
 o (call 88 [(T 0), (K 1)]) <|
 o (.extract (T 0) 0) <|
 o (.extract (T 1) 1) <|
 o (.alloc [(I 0), (.list .nil [])]) <|
 o (.store 2 (T 0) (T 2)) <|
 o (ne (T 2) (K 0)) <|
 jn []
  (.cond (T 0)
   (o (ldn 8 (T 10)) <|
   o (call 46 [(T 0), (T 4)]) <|
   nrm [])
   (nrm [])) <|
 o (ldn 2 (T 2)) <|
 o (.nilchk (T 15)) <|
 o (.faddr 4 (T 0)) <|
 o (.store 2 (T 0) (T 2)) <|
 o (ldn 8 (T 14)) <|
 o (call 58 [(K 0), (T 0), (.c (.list .nil []))]) <|
 o (.faddr 0 (T 16)) <|
 o (ld (T 0)) <|
 bl 0 []
  (o (eq (T 0) (K 3)) <|
  .cond (T 0)
   (o (ldn 8 (T 19)) <|
   o (call 89 [(T 24), (T 0)]) <|
   ret [(T 0)])
   (o (eq (T 1) (K 1)) <|
   .cond (T 0)
    (o (.faddr 2 (T 20)) <|
    o (ld (T 0)) <|
    o (ix 7 (T 6) (K 0)) <|
    o (.faddr 0 (T 0)) <|
    ck (.mov (T 8)) (T 8) <|
    ck (.mov (T 8)) (T 8) <|
    ck (ld (T 3)) (T 2) <|
    ck (ix 7 (T 8) (K 0)) (T 1) <|
    o (.store 1 (T 0) (K 1)) <|
    o (ix 7 (T 9) (K 0)) <|
    o (.faddr 2 (T 0)) <|
    ck (.mov (T 11)) (T 11) <|
    ck (ld (T 6)) (T 5) <|
    ck (ix 7 (T 11) (K 0)) (T 1) <|
    o (.store 1 (T 0) (T 5)) <|
    ret [(T 12)])
    (o (eq (T 2) (K 2)) <|
    .cond (T 0)
     (o (.faddr 2 (T 21)) <|
     o (ld (T 0)) <|
     o (ix 7 (T 7) (K 0)) <|
     o (.faddr 0 (T 0)) <|
     ck (.mov (T 9)) (T 9) <|
     ck (.mov (T 9)) (T 9) <|
     ck (ld (T 3)) (T 2) <|
     ck (ix 7 (T 9) (K 0)) (T 1) <|
     o (.store 1 (T 0) (K 2)) <|
     o (ix 7 (T 10) (K 0)) <|
     o (.faddr 2 (T 0)) <|
     ck (.mov (T 12)) (T 12) <|
     ck (ld (T 6)) (T 5) <|
     ck (ix 7 (T 12) (K 0)) (T 1) <|
     o (.store 1 (T 0) (T 5)) <|
     ret [(T 13)])
     (nrm [])))) <|
 o (.faddr 1 (T 18)) <|
 o (ld (T 0)) <|
 o (eq (T 0) (K 0)) <|
 jn []
  (.cond (T 0)
   (o (ldn 8 (T 21)) <|
   o (call 46 [(T 0), (K 6)]) <|
   nrm [])
   (nrm [])) <|
 o (ix 8 (T 24) (K 1)) <|
 o (ldn 8 (T 0)) <|
 o (call 77 [(T 27), (T 0)]) <|
 o (.alloc [S0, S0, (I 0), (I 0)]) <|
 o (.store 4 (T 0) (T 1)) <|
 o (.faddr 2 (T 1)) <|
 o (ld (T 0)) <|
 bl 1 []
  (o (eq (T 0) (K 3)) <|
  .cond (T 0)
   (o (.faddr 3 (T 4)) <|
   o (ld (T 0)) <|
   o (ldn 8 (T 31)) <|
   ck (.mov (T 36)) (T 36) <|
   ck (.mov (T 35)) (T 35) <|
   ck (ld (T 2)) (T 1) <|
   ck (.mov (T 36)) (T 36) <|
   ck (ldn 8 (T 32)) (T 0) <|
   o (call 90 [(T 36), (T 35), (T 1)]) <|
   ck (.mov (T 37)) (T 37) <|
   ck (ldn 8 (T 33)) (T 1) <|
   o (.calli (T 0) "mummer/expand.expand" [(T 37), (T 1)]) <|
   ret [(T 0)])
   (o (eq (T 1) (K 2)) <|
   .cond (T 0)
    (o (.faddr 3 (T 5)) <|
    o (ld (T 0)) <|
    o (call 91 [(T 36), (T 35), (T 0)]) <|
    ret [(T 0)])
    (nrm []))) <|
 o (ldn 8 (T 28)) <|
 ck (ldn 8 (T 29)) (T 0) <|
 ck (.mov (T 33)) (T 33) <|
 ck (.mov (T 32)) (T 32) <|
 o (call 29 [(T 32)]) <|
 ck (ldn 8 (T 30)) (T 1) <|
 ck (.mov (T 34)) (T 34) <|
 o (call 82 [(T 34), (T 0)]) <|
 ck (ldn 8 (T 31)) (T 2) <|
 o (call 58 [(K 10), (T 2), (T 0)]) <|
 ret [(T 0)], false, [none]⟩
def f56 : LF := ⟨3,
 o (.box 4 (T 2)) <|
 o (.box 8 (T 1)) <|
 o (.faddr 0 (T 1)) <|
 o (ld (T 0)) <|
 bl 0 [7]
  (o (eq (T 0) (K 8)) <|
  .cond (T 0)
   (o (.faddr 1 (T 4)) <|
   o (.faddr 3 (T 5)) <|
   o (.bsl true [.nilp] 2 [(0, (T 1)), (1, (T 0))]) <|
   o (call 50 [(T 9), (T 0)]) <|
   o (.faddr 1 (T 8)) <|
   o (ld (T 0)) <|
   o (.len .slice (T 0)) <|
   bl 1 [7]
    (.loop [7, 32] [(.c (.list .nil [])), (K 0)] <|
    o (lt (T 1) (T 2)) <|
    .cond (T 0)
     (bl 2 [7]
      (o (ix 1 (T 4) (T 2)) <|
      o (ld (T 0)) <|
      o (call 54 [(T 18), (T 0)]) <|
      o (.bsl false [(.list .nil [])] 1 [(0, (T 0))]) <|
      o (.append 1 24 (T 5) (T 0)) <|
      nrm [(T 0)]) <|
     o (ad (T 3) (K 1)) <|
     nrm [(T 1), (T 0)])
     (ex 1 [(T 1)])) <|
   nrm [(T 0)])
   (o (eq (T 1) (K 12)) <|
   .cond (T 0)
    (o (.faddr 2 (T 5)) <|
    o (ld (T 0)) <|
    o (call 82 [(T 9), (T 0)]) <|
    o (.faddr 1 (T 8)) <|
    o (.faddr 3 (T 9)) <|
    o (.bsl true [.nilp] 2 [(0, (T 1)), (1, (T 0))]) <|
    o (call 50 [(T 13), (T 0)]) <|
    o (.faddr 1 (T 12)) <|
    o (ld (T 0)) <|
    o (.len .slice (T 0)) <|
    bl 3 [7]
     (.loop [7, 57] [(.c (.list .nil [])), (K 0)] <|
     o (lt (T 1) (T 2)) <|
     .cond (T 0)
      (bl 4 [7]
       (o (ix 1 (T 4) (T 2)) <|
       o (ld (T 0)) <|
       o (ix 1 (T 12) (T 4)) <|
       o (ld (T 0)) <|
       ck (.mov (T 5)) (T 5) <|
       ck (.mov (T 24)) (T 24) <|
       ck (.mov (T 2)) (T 2) <|
       ck (.mov (T 14)) (T 14) <|
       ck (.mov (T 6)) (T 6) <|
       ck (ix 1 (T 14) (T 6)) (T 1) <|
       ck (ld (T 1)) (T 0) <|
       o (call 54 [(T 24), (T 2)]) <|
       o (.bsl false [(.list .nil [])] 2 [(0, (T 0)), (1, (T 1))]) <|
       ck (.mov (T 7)) (T 7) <|
       ck (.mov (T 16)) (T 16) <|
       ck (.mov (T 8)) (T 8) <|
       ck (ix 1 (T 16) (T 8)) (T 3) <|
       ck (ld (T 3)) (T 2) <|
       o (.append 1 24 (T 7) (T 0)) <|
       nrm [(T 0)]) <|
      o (ad (T 3) (K 1)) <|
      nrm [(T 1), (T 0)])
      (ex 3 [(T 1)])) <|
    nrm [(T 0)])
    (o (eq (T 2) (K 13)) <|
    .cond (T 0)
     (bl 5 [7]
      (.loop [7] [(.c (.list .nil []))] <|
      o (.faddr 1 (T 7)) <|
      o (ld (T 0)) <|
      o (.len .slice (T 0)) <|
      o (.bin .gtr (T 0) (K 0)) <|
      .cond (T 0)
       (bl 6 [7]
        (o (.faddr 2 (T 11)) <|
        o (ld (T 0)) <|
        o (ix 1 (T 0) (K 0)) <|
        o (ld (T 0)) <|
        o (call 55 [(T 17), (T 0)]) <|
        o (.faddr 2 (T 16)) <|
        o (ld (T 0)) <|
        o (.slice false 1 (T 0) (some (K 1)) none none) <|
        o (.faddr 2 (T 19)) <|
        o (.store 1 (T 0) (T 1)) <|
        o (.faddr 1 (T 21)) <|
        o (.faddr 2 (T 22)) <|
        o (.faddr 3 (T 23)) <|
        o (.bsl true [.nilp] 3 [(0, (T 2)), (1, (T 1)), (2, (T 0))]) <|
        o (call 50 [(T 27), (T 0)]) <|
        o (.faddr 1 (T 26)) <|
        o (ld (T 0)) <|
        o (ix 1 (T 0) (K 0)) <|
        o (ld (T 0)) <|
        o (call 54 [(T 32), (T 0)]) <|
        o (.bsl false [(.list .nil [])] 2 [(0, (T 0)), (1, (T 15))]) <|
        o (.append 1 24 (T 25) (T 0)) <|
        o (.faddr 1 (T 33)) <|
        o (ld (T 0)) <|
        o (.slice false 1 (T 0) (some (K 1)) none none) <|
        o (.faddr 1 (T 36)) <|
        o (.store 1 (T 0) (T 1)) <|
        nrm [(T 5)]) <|
       nrm [(T 0)])
       (ex 5 [(T 4)])) <|
     nrm [(T 0)])
     (o (eq (T 3) (K 14)) <|
     .cond (T 0)
      (o (.faddr 1 (T 7)) <|
      o (.faddr 2 (T 8)) <|
      o (.faddr 3 (T 9)) <|
      o (.bsl true [.nilp] 3 [(0, (T 2)), (1, (T 1)), (2, (T 0))]) <|
      o (call 50 [(T 13), (T 0)]) <|
      o (.faddr 1 (T 12)) <|
      o (ld (T 0)) <|
      o (.len .slice (T 0)) <|
      bl 7 [14]
       (.loop [14, 120] [(.c (.list .nil [])), (K 0)] <|
       o (lt (T 1) (T 2)) <|
       .cond (T 0)
        (bl 8 [14]
         (o (ix 1 (T 4) (T 2)) <|
         o (ld (T 0)) <|
         o (call 54 [(T 22), (T 0)]) <|
         o (.bsl false [(.list .nil [])] 1 [(0, (T 0))]) <|
         o (.append 1 24 (T 5) (T 0)) <|
         nrm [(T 0)]) <|
        o (ad (T 3) (K 1)) <|
        nrm [(T 1), (T 0)])
        (ex 7 [(T 1)])) <|
      o (.faddr 2 (T 16)) <|
      o (ld (T 0)) <|
      o (.len .slice (T 0)) <|
      bl 9 [7]
       (.loop [7, 134] [(.c (.list .nil [])), (K 0)] <|
       o (lt (T 1) (T 2)) <|
       .cond (T 0)
        (bl 10 [7]
         (o (ix 1 (T 4) (T 2)) <|
         o (ld (T 0)) <|
         o (call 55 [(T 26), (T 0)]) <|
         o (ix 7 (T 0) (K 0)) <|
         o (.faddr 0 (T 0)) <|
         o (ld (T 0)) <|
         o (ne (T 0) (K 8)) <|
         jn []
          (.cond (T 0)
           (o (ix 8 (T 5) (K 0)) <|
           o (ldn 8 (T 0)) <|
           o (call 46 [(T 0), (K 16)]) <|
           nrm [])
           (nrm [])) <|
         o (ix 1 (T 13) (T 9)) <|
         o (ld (T 0)) <|
         o (.bsl false [(.list .nil [])] 2 [(0, (T 0)), (1, (T 6))]) <|
         o (.append 1 24 (T 11) (T 0)) <|
         nrm [(T 0)]) <|
        o (ad (T 3) (K 1)) <|
        nrm [(T 1), (T 0)])
        (ex 9 [(T 1)])) <|
      nrm [(T 0)])
      (nrm [(.c (.list .nil []))]))))) <|
 o (.faddr 0 (T 4)) <|
 o (ld (T 0)) <|
 o (ldn 8 (T 5)) <|
 o (ldn 8 (T 6)) <|
 o (.faddr 3 (T 8)) <|
 o (ld (T 0)) <|
 ck (ld (T 5)) (T 4) <|
 ck (ldn 8 (T 9)) (T 3) <|
 ck (.mov (T 6)) (T 6) <|
 ck (.mov (T 12)) (T 12) <|
 ck (ldn 8 (T 9)) (T 2) <|
 ck (ld (T 1)) (T 0) <|
 o (call 31 [(T 12), (T 2), (T 0)]) <|
 o (.bsl false [(.list .nil [])] 1 [(0, (T 0))]) <|
 ck (ld (T 7)) (T 6) <|
 ck (ldn 8 (T 11)) (T 5) <|
 ck (.mov (T 8)) (T 8) <|
 o (.append 1 24 (T 8) (T 0)) <|
 ck (ld (T 8)) (T 7) <|
 ck (ldn 8 (T 12)) (T 6) <|
 o (call 58 [(T 7), (T 6), (T 0)]) <|
 ret [(T 0)], false, [none]⟩
def f57 : LF := ⟨1,
 o (.len .slice (T 0)) <|
 o (.bin .gtr (T 0) (K 400)) <|
 .cond (T 0)
  (ret [(.c (.list .nil [])), (K 3)])
  (o (.len .slice (T 2)) <|
  bl 0 [4]
   (.loop [4, 13] [(.c (.list .nil [])), (K 0)] <|
   o (lt (T 1) (T 2)) <|
   .cond (T 0)
    (bl 1 [4]
     (o (ix 1 (T 6) (T 2)) <|
     o (ld (T 0)) <|
     o (.len .slice (T 3)) <|
     og (T 1) true (.mov (T 0)) <|
     og (T 2) true (.bin .gtr (T 0) (K 0)) <|
     o (.pick (T 3) (T 0) (.c (.bool false))) <|
     og (T 0) true (.mov (T 7)) <|
     og (T 1) true (.mov (T 4)) <|
     og (T 2) true (sb (T 0) (K 1)) <|
     og (T 3) true (ix 3 (T 2) (T 0)) <|
     og (T 4) true (.faddr 2 (T 0)) <|
     og (T 5) true (ld (T 0)) <|
     o (.pick (T 6) (T 0) (.c (.bool false))) <|
     .cond (T 0)
      (o (sb (T 10) (K 1)) <|
      o (ix 3 (T 15) (T 0)) <|
      o (.faddr 1 (T 0)) <|
      o (ld (T 0)) <|
      o (ad (T 0) (K 1)) <|
      o (ix 3 (T 19) (T 4)) <|
      o (.faddr 1 (T 0)) <|
      o (.store 1 (T 0) (T 2)) <|
      ex 1 [(T 22)])
      (o (.build [(I 0), (I 0), (.bool false)] [(0, 1, (T 15)), (1, 1, (K 1)), (2, 1, (T 11))]) <|
      o (.bsl false [(I 0), (I 0), (.bool false)] 1 [(0, (T 0))]) <|
      o (.append 3 24 (T 16) (T 0)) <|
      nrm [(T 0)])) <|
    o (ad (T 3) (K 1)) <|
    nrm [(T 1), (T 0)])
    (ex 0 [(T 1)])) <|
  ret [(T 0), (K 0)]), false, [none, none]⟩
def f58 : LF := ⟨3,
 o (.box 8 (T 1)) <|
 o (.len .slice (T 1)) <|
 o (.faddr 5 (T 1)) <|
 o (ldn 2 (T 0)) <|
 o (.faddr 7 (T 3)) <|
 o (ld (T 0)) <|
 o (.build [(I 0), (I 0), (I 0), S0, (I 0), (I 0), (I 0)] [(0, 1, (T 8)), (1, 1, (T 4)), (4, 2, (T 2)), (6, 1, (T 0))]) <|
 o (.bsl true [(I 0), (I 0), (I 0), S0, (I 0), (I 0), (I 0)] 1 [(0, (T 0))]) <|
 o (.len .slice (T 8)) <|
 bl 0 [7]
  (.loop [7, 21] [(T 1), (K 0)] <|
  o (lt (T 1) (T 2)) <|
  .cond (T 0)
   (bl 1 [7]
    (o (ix 1 (T 12) (T 2)) <|
    o (ld (T 0)) <|
    o (.append 7 64 (T 3) (T 0)) <|
    nrm [(T 0)]) <|
   o (ad (T 3) (K 1)) <|
   nrm [(T 1), (T 0)])
   (ex 0 [(T 1)])) <|
 ret [(T 0)], false, [none]⟩
def f59 : LF := ⟨1,
 bl 0 []
  (o (.len .slice (T 0)) <|
  o (eq (T 0) (K 0)) <|
  .cond (T 0)
   (ret [(.c .nilp), (K 0), (K 6)])
   (o (.len .slice (T 2)) <|
   o (.bin .gtr (T 0) (K 2000)) <|
   .cond (T 0)
    (ret [(.c .nilp), (K 0), (K 3)])
    (nrm []))) <|
 o (call 92 []) <|
 o (.mkmap) <|
 o (.build [(.list .nil []), (.list .nil []), (I 0), (I 0), (I 0), (I 0), (.list .nil []), (I 0), (I 0), (I 0), (I 0), (.list .nil []), (I 0), (I 0), (I 0), (I 0), (.list .nil []), (I 0), (I 0), (I 0), (I 0), (.list .nil []), (I 0), (I 0), (I 0), (I 0), (.list .nil []), (I 0), (I 0), (I 0), (I 0), (.list .nil []), (I 0), (I 0), (I 0), (I 0), (.list .nil []), (I 0), (I 0), (I 0), (I 0), (.list .nil []), (I 0), (I 0), (I 0), (I 0), (.list .nil []), (I 0), (I 0), (I 0), (I 0), (.list .nil []), (I 0), (I 0), (I 0), (I 0), (.list .nil []), (I 0), (I 0), (I 0), (I 0), (.list .nil []), (I 0), (I 0), (I 0), (I 0), (.list .nil []), (I 0), (I 0), (I 0), (I 0), (.list .nil []), (I 0), (I 0), (I 0), (I 0), (.list .nil []), (I 0), (I 0), (I 0), (I 0), (.list .nil []), (I 0), (I 0), (I 0), (I 0), (.list .nil []), (I 0), (I 0), (I 0), (I 0), (.list .nil []), (I 0), (I 0), (I 0), (I 0), (.list .nil []), (I 0), (I 0), (I 0), (I 0), (.list .nil []), (I 0), (I 0), (I 0), (I 0), (.list .nil []), (I 0), (I 0), (I 0), (I 0), (.list .nil []), (I 0), (I 0), (I 0), (I 0), (.list .nil []), (I 0), (I 0), (I 0), (I 0), (.list .nil []), (I 0), (I 0), (I 0), (I 0), (.list .nil []), .nilm] [(0, 1, (T 2)), (2, 125, (T 1)), (127, 1, (T 0))]) <|
 o (.box 128 (T 0)) <|
 o (.len .slice (T 4)) <|
 bl 1 []
  (.loop [26] [(K 0)] <|
  o (lt (T 0) (T 1)) <|
  .cond (T 0)
   (bl 2 []
    (o (ix 7 (T 7) (T 1)) <|
    o (ldn 7 (T 0)) <|
    o (.alloc [(I 0), (I 0), (I 0), S0, (I 0), (I 0), (I 0)]) <|
    o (.store 7 (T 0) (T 1)) <|
    o (call 93 [(T 7)]) <|
    o (.alloc [(I 0), (I 0), (I 0)]) <|
    o (.store 3 (T 0) (T 1)) <|
    o (.faddr 2 (T 1)) <|
    o (ld (T 0)) <|
    o (lt (T 0) (K 0)) <|
    .cond (T 0)
     (ret [(.c .nilp), (T 11), (K 6)])
     (o (ldn 7 (T 7)) <|
     o (.faddr 2 (T 5)) <|
     o (ld (T 0)) <|
     o (call 94 [(T 2), (T 0)]) <|
     o (ne (T 0) (K 0)) <|
     .cond (T 0)
      (ret [(.c .nilp), (T 16), (T 1)])
      (o (ldn 7 (T 12)) <|
      o (ldn 3 (T 10)) <|
      o (call 95 [(T 20), (T 1), (T 0)]) <|
      o (ne (T 0) (K 0)) <|
      .cond (T 0)
       (ret [(.c .nilp), (T 20), (T 1)])
       (o (.nilchk (T 22)) <|
       o (.faddr 1 (T 0)) <|
       o (ld (T 0)) <|
       o (ldn 3 (T 16)) <|
       o (.bsl false [(I 0), (I 0), (I 0)] 1 [(0, (T 0))]) <|
       ck (.mov (T 27)) (T 27) <|
       ck (.mov (T 27)) (T 27) <|
       ck (ld (T 3)) (T 2) <|
       ck (ldn 3 (T 18)) (T 1) <|
       o (.append 3 24 (T 2) (T 0)) <|
       o (.nilchk (T 28)) <|
       o (.faddr 1 (T 0)) <|
       ck (.mov (T 30)) (T 30) <|
       o (.store 1 (T 0) (T 2)) <|
       nrm [])))) <|
   o (ad (T 1) (K 1)) <|
   nrm [(T 0)])
   (ex 1 [])) <|
 o (call 93 [(T 1)]) <|
 o (fld1 2 (T 0)) <|
 o (.bin .geq (T 0) (K 0)) <|
 .cond (T 0)
  (o (.len .slice (T 8)) <|
  ret [(.c .nilp), (T 0), (K 6)])
  (o (call 96 [(T 4)]) <|
  o (.extract (T 0) 0) <|
  o (.extract (T 1) 1) <|
  o (.extract (T 2) 2) <|
  ret [(T 2), (T 1), (T 0)]), false, [none, none, none]⟩
def f60 : LF := ⟨2,
 o (.box 7 (T 1)) <|
 o (.faddr 0 (T 0)) <|
 o (ld (T 0)) <|
 o (eq (T 0) (K 1)) <|
 og (T 0) false (.faddr 0 (T 3)) <|
 og (T 1) false (ld (T 0)) <|
 og (T 2) false (eq (T 0) (K 2)) <|
 o (.pick (T 3) (.c (.bool true)) (T 0)) <|
 og (T 0) false (.faddr 0 (T 7)) <|
 og (T 1) false (ld (T 0)) <|
 og (T 2) false (eq (T 0) (K 6)) <|
 o (.pick (T 3) (.c (.bool true)) (T 0)) <|
 og (T 0) false (.faddr 0 (T 11)) <|
 og (T 1) false (ld (T 0)) <|
 og (T 2) false (eq (T 0) (K 9)) <|
 o (.pick (T 3) (.c (.bool true)) (T 0)) <|
 o (.faddr 0 (T 15)) <|
 o (ld (T 0)) <|
 o (lt (T 0) (K 1)) <|
 og (T 0) false (.faddr 0 (T 18)) <|
 og (T 1) false (ld (T 0)) <|
 og (T 2) false (.bin .gtr (T 0) (K 24)) <|
 o (.pick (T 3) (.c (.bool true)) (T 0)) <|
 og (T 0) false (.faddr 1 (T 22)) <|
 og (T 1) false (ld (T 0)) <|
 og (T 2) false (lt (T 0) (K 0)) <|
 o (.pick (T 3) (.c (.bool true)) (T 0)) <|
 og (T 0) false (.mov (T 11)) <|
 og (T 1) false (.un .not (T 0)) <|
 og (T 2) false (.mov (T 0)) <|
 og (T 0) true (.faddr 2 (T 29)) <|
 og (T 1) true (ld (T 0)) <|
 og (T 2) true (ne (T 0) (K 0)) <|
 og (T 6) false (.pick (T 3) (T 0) (.c (.bool false))) <|
 o (.pick (T 7) (.c (.bool true)) (T 0)) <|
 og (T 0) false (.faddr 0 (T 34)) <|
 og (T 1) false (ld (T 0)) <|
 og (T 2) false (call 97 [(T 0)]) <|
 og (T 3) false (.un .not (T 0)) <|
 og (T 4) false (.mov (T 0)) <|
 og (T 0) true (.faddr 3 (T 39)) <|
 og (T 1) true (ld (T 0)) <|
 og (T 2) true (ne (T 0) (.c S0)) <|
 og (T 8) false (.pick (T 3) (T 0) (.c (.bool false))) <|
 o (.pick (T 9) (.c (.bool true)) (T 0)) <|
 .cond (T 0)
  (ret [(K 6)])
  (o (.bin .gtr (T 45) (K 200)) <|
  .cond (T 0)
   (ret [(K 3)])
   (o (.faddr 0 (T 45)) <|
   o (ld (T 0)) <|
   o (ne (T 0) (K 1)) <|
   og (T 0) true (.faddr 2 (T 48)) <|
   og (T 1) true (ld (T 0)) <|
   og (T 2) true (lt (T 0) (K 0)) <|
   o (.pick (T 3) (T 0) (.c (.bool false))) <|
   og (T 0) false (.faddr 0 (T 52)) <|
   og (T 1) false (ld (T 0)) <|
   og (T 2) false (eq (T 0) (K 2)) <|
   og (T 3) false (.mov (T 0)) <|
   og (T 0) true (.faddr 2 (T 56)) <|
   og (T 1) true (ld (T 0)) <|
   og (T 2) true (.bin .gtr (T 0) (K 1)) <|
   og (T 7) false (.pick (T 3) (T 0) (.c (.bool false))) <|
   o (.pick (T 8) (.c (.bool true)) (T 0)) <|
   .cond (T 0)
    (ret [(K 7)])
    (o (.faddr 0 (T 61)) <|
    o (ld (T 0)) <|
    o (call 97 [(T 0)]) <|
    og (T 0) true (.faddr 3 (T 64)) <|
    og (T 1) true (ld (T 0)) <|
    og (T 2) true (call 98 [(T 0)]) <|
    og (T 3) true (.un .not (T 0)) <|
    o (.pick (T 4) (T 0) (.c (.bool false))) <|
    og (T 0) false (.faddr 4 (T 69)) <|
    og (T 1) false (.faddr 0 (T 0)) <|
    og (T 2) false (ld (T 0)) <|
    og (T 3) false (lt (T 0) (K 0)) <|
    o (.pick (T 4) (.c (.bool true)) (T 0)) <|
    og (T 0) false (.faddr 4 (T 74)) <|
    og (T 1) false (.faddr 0 (T 0)) <|
    og (T 2) false (ld (T 0)) <|
    og (T 3) false (.faddr 4 (T 77)) <|
    og (T 4) false (.faddr 1 (T 0)) <|
    og (T 5) false (ld (T 0)) <|
    og (T 6) false (.bin .gtr (T 3) (T 0)) <|
    o (.pick (T 7) (.c (.bool true)) (T 0)) <|
    .cond (T 0)
     (ret [(K 6)])
     (o (.faddr 6 (T 82)) <|
     o (ld (T 0)) <|
     o (lt (T 0) (K 0)) <|
     .cond (T 0)
      (ret [(K 7)])
      (ret [(K 0)]))))), false, [none]⟩
def f61 : LF := ⟨3,
 o (.box 3 (T 0)) <|
 o (.faddr 0 (T 0)) <|
 o (ld (T 0)) <|
 o (.bin .geq (T 0) (K 0)) <|
 jn [7]
  (.cond (T 0)
   (o (.faddr 0 (T 3)) <|
   o (ld (T 0)) <|
   o (ix 7 (T 8) (T 0)) <|
   o (ldn 7 (T 0)) <|
   o (.faddr 1 (T 7)) <|
   o (ld (T 0)) <|
   ck (.mov (T 12)) (T 12) <|
   ck (ld (T 5)) (T 4) <|
   ck (ix 7 (T 12) (T 4)) (T 3) <|
   ck (ldn 7 (T 3)) (T 2) <|
   ck (ld (T 1)) (T 0) <|
   o (call 99 [(T 2), (T 0)]) <|
   nrm [(T 0)])
   (nrm [(K 1)])) <|
 o (ix 7 (T 7) (T 6)) <|
 o (ldn 7 (T 0)) <|
 o (.alloc [(I 0), (I 0), (I 0), S0, (I 0), (I 0), (I 0)]) <|
 o (.store 7 (T 0) (T 1)) <|
 o (.faddr 0 (T 1)) <|
 o (ld (T 0)) <|
 o (.faddr 1 (T 3)) <|
 o (ld (T 0)) <|
 o (call 100 [(T 2), (T 0)]) <|
 o (.un .not (T 0)) <|
 og (T 0) false (.faddr 0 (T 7)) <|
 og (T 1) false (ld (T 0)) <|
 og (T 2) false (.mov (T 12)) <|
 og (T 3) false (call 101 [(T 1), (T 0)]) <|
 og (T 4) false (.un .not (T 0)) <|
 o (.pick (T 5) (.c (.bool true)) (T 0)) <|
 .cond (T 0)
  (ret [(K 6)])
  (o (ldn 7 (T 13)) <|
  o (call 102 [(T 0)]) <|
  o (.bin .gtr (T 0) (K 8)) <|
  .cond (T 0)
   (ret [(K 3)])
   (o (eq (T 19) (K 7)) <|
   og (T 0) true (.faddr 0 (T 17)) <|
   og (T 1) true (ld (T 0)) <|
   og (T 2) true (ne (T 0) (K 8)) <|
   o (.pick (T 3) (T 0) (.c (.bool false))) <|
   .cond (T 0)
    (ret [(K 16)])
    (ret [(K 0)]))), false, [none]⟩
def f62 : LF := ⟨3,
 o (.alloc [(I 0), (I 0), (I 0)]) <|
 o (ix 7 (T 3) (T 1)) <|
 o (.faddr 1 (T 0)) <|
 o (ld (T 0)) <|
 o (.bin .gtr (T 0) (K 0)) <|
 .cond (T 0)
  (o (ix 3 (T 6) (T 5)) <|
  o (.faddr 2 (T 0)) <|
  o (ld (T 0)) <|
  o (ad (T 0) (K 1)) <|
  o (.build [(I 0), (I 0), (I 0)] [(0, 1, (T 9)), (1, 1, (K 0)), (2, 1, (T 0))]) <|
  o (.store 3 (T 9) (T 0)) <|
  ret [(T 10)])
  (bl 0 [2]
   (.loop [2] [(T 5)] <|
   o (.bin .geq (T 0) (K 0)) <|
   og (T 0) true (.mov (T 8)) <|
   og (T 1) true (.mov (T 2)) <|
   og (T 2) true (ix 3 (T 1) (T 0)) <|
   og (T 3) true (.faddr 0 (T 0)) <|
   og (T 4) true (ld (T 0)) <|
   og (T 5) true (lt (T 0) (K 0)) <|
   og (T 6) true (.mov (T 0)) <|
   og (T 0) false (.mov (T 15)) <|
   og (T 1) false (.mov (T 9)) <|
   og (T 2) false (ix 3 (T 1) (T 0)) <|
   og (T 3) false (.faddr 1 (T 0)) <|
   og (T 4) false (ld (T 0)) <|
   og (T 5) false (.mov (T 21)) <|
   og (T 6) false (.mov (T 21)) <|
   og (T 7) false (.mov (T 15)) <|
   og (T 8) false (ix 3 (T 1) (T 0)) <|
   og (T 9) false (.faddr 0 (T 0)) <|
   og (T 10) false (ld (T 0)) <|
   og (T 11) false (ix 7 (T 5) (T 0)) <|
   og (T 12) false (.faddr 1 (T 0)) <|
   og (T 13) false (ld (T 0)) <|
   og (T 14) false (sb (T 0) (K 1)) <|
   og (T 15) false (eq (T 10) (T 0)) <|
   og (T 23) true (.pick (T 16) (.c (.bool true)) (T 0)) <|
   o (.pick (T 24) (T 0) (.c (.bool false))) <|
   ck (.mov (T 26)) (T 26) <|
   ck (.mov (T 25)) (T 25) <|
   ckg (T 25) true (ix 3 (T 24) (T 23)) (T 22) <|
   ckg (T 25) true (ld (T 21)) (T 20) <|
   ckg (T 18) false (ix 3 (T 17) (T 16)) (T 15) <|
   ckg (T 18) false (ld (T 14)) (T 13) <|
   ckg (T 18) false (ix 3 (T 11) (T 10)) (T 9) <|
   ckg (T 18) false (ld (T 8)) (T 7) <|
   ckg (T 18) false (ix 7 (T 12) (T 7)) (T 6) <|
   ckg (T 18) false (ld (T 5)) (T 4) <|
   .cond (T 0)
    (bl 1 [2]
     (o (ix 3 (T 33) (T 26)) <|
     o (.faddr 0 (T 0)) <|
     o (ld (T 0)) <|
     nrm [(T 0)]) <|
    nrm [(T 0)])
    (ex 0 [(T 26)])) <|
  o (lt (T 0) (K 0)) <|
  .cond (T 0)
   (o (.build [(I 0), (I 0), (I 0)] [(0, 1, (K (-1))), (2, 1, (K (-1)))]) <|
   o (.store 3 (T 7) (T 0)) <|
   ret [(T 8)])
   (o (ix 3 (T 8) (T 1)) <|
   o (.faddr 0 (T 0)) <|
   o (ld (T 0)) <|
   o (ix 3 (T 11) (T 4)) <|
   o (.faddr 1 (T 0)) <|
   o (ld (T 0)) <|
   o (ad (T 0) (K 1)) <|
   o (ix 3 (T 15) (T 8)) <|
   o (.faddr 2 (T 0)) <|
   o (ld (T 0)) <|
   o (.build [(I 0), (I 0), (I 0)] [(0, 1, (T 7)), (1, 1, (T 3)), (2, 1, (T 0))]) <|
   ck (.mov (T 19)) (T 19) <|
   ck (.mov (T 12)) (T 12) <|
   ck (ix 3 (T 19) (T 12)) (T 10) <|
   ck (ld (T 9)) (T 8) <|
   ck (.mov (T 19)) (T 19) <|
   ck (.mov (T 12)) (T 12) <|
   ck (ix 3 (T 19) (T 12)) (T 7) <|
   ck (ld (T 6)) (T 5) <|
   ck (.mov (T 19)) (T 19) <|
   ck (.mov (T 12)) (T 12) <|
   ck (ix 3 (T 19) (T 12)) (T 3) <|
   ck (ld (T 2)) (T 1) <|
   o (.store 3 (T 17) (T 0)) <|
   ret [(T 18)])), false, [some (true, 3)]⟩
def f63 : LF := ⟨3,
 o (ix 7 (T 2) (T 0)) <|
 o (ldn 7 (T 0)) <|
 o (.alloc [(I 0), (I 0), (I 0), S0, (I 0), (I 0), (I 0)]) <|
 o (.store 7 (T 0) (T 1)) <|
 o (.faddr 0 (T 1)) <|
 o (ld (T 0)) <|
 o (eq (T 0) (K 9)) <|
 jn []
  (.cond (T 0)
   (bl 0 []
    (.loop [8] [(K 0)] <|
    o (lt (T 0) (T 8)) <|
    .cond (T 0)
     (bl 1 []
      (o (ix 7 (T 11) (T 1)) <|
      o (.faddr 0 (T 0)) <|
      o (ld (T 0)) <|
      o (eq (T 0) (K 9)) <|
      og (T 0) true (.mov (T 15)) <|
      og (T 1) true (.mov (T 6)) <|
      og (T 2) true (ix 7 (T 1) (T 0)) <|
      og (T 3) true (.faddr 2 (T 0)) <|
      og (T 4) true (ld (T 0)) <|
      og (T 5) true (.faddr 2 (T 15)) <|
      og (T 6) true (ld (T 0)) <|
      og (T 7) true (eq (T 2) (T 0)) <|
      o (.pick (T 8) (T 0) (.c (.bool false))) <|
      ck (.mov (T 24)) (T 24) <|
      ck (.mov (T 14)) (T 14) <|
      ck (ix 7 (T 24) (T 14)) (T 12) <|
      ck (ld (T 11)) (T 10) <|
      ck (.mov (T 9)) (T 9) <|
      ckg (T 9) true (ix 7 (T 8) (T 7)) (T 6) <|
      ckg (T 9) true (ld (T 5)) (T 4) <|
      ckg (T 9) true (ld (T 3)) (T 2) <|
      .cond (T 0)
       (ret [(K 8)])
       (nrm [])) <|
     o (ad (T 1) (K 1)) <|
     nrm [(T 0)])
     (ex 0 [])) <|
   nrm [])
   (nrm [])) <|
 o (.faddr 0 (T 4)) <|
 o (ld (T 0)) <|
 o (ne (T 0) (K 6)) <|
 .cond (T 0)
  (ret [(K 0)])
  (bl 2 [9]
   (.loop [9, 10] [(.c (.bool false)), (K 0)] <|
   o (.len .slice (T 14)) <|
   o (lt (T 2) (T 0)) <|
   .cond (T 0)
    (bl 3 [9]
     (o (ix 7 (T 16) (T 3)) <|
     o (.faddr 0 (T 0)) <|
     o (ld (T 0)) <|
     o (ne (T 0) (K 9)) <|
     og (T 0) false (.mov (T 20)) <|
     og (T 1) false (.mov (T 8)) <|
     og (T 2) false (ix 7 (T 1) (T 0)) <|
     og (T 3) false (.faddr 2 (T 0)) <|
     og (T 4) false (ld (T 0)) <|
     og (T 5) false (.faddr 2 (T 20)) <|
     og (T 6) false (ld (T 0)) <|
     og (T 7) false (ne (T 2) (T 0)) <|
     o (.pick (T 8) (.c (.bool true)) (T 0)) <|
     ck (.mov (T 29)) (T 29) <|
     ck (.mov (T 16)) (T 16) <|
     ck (ix 7 (T 29) (T 16)) (T 12) <|
     ck (ld (T 11)) (T 10) <|
     ck (.mov (T 9)) (T 9) <|
     ckg (T 9) false (ix 7 (T 8) (T 7)) (T 6) <|
     ckg (T 9) false (ld (T 5)) (T 4) <|
     ckg (T 9) false (ld (T 3)) (T 2) <|
     .cond (T 0)
      (ex 3 [(T 15)])
      (o (call 103 [(T 29), (T 28), (T 16), (T 27)]) <|
      .cond (T 0)
       (ret [(K 0)])
       (nrm [(.c (.bool true))]))) <|
    o (ad (T 4) (K 1)) <|
    nrm [(T 1), (T 0)])
    (ex 2 [(T 2)])) <|
  .cond (T 0)
   (ret [(K 15)])
   (ret [(K 10)])), false, [none]⟩
def f64 : LF := ⟨2,
 bl 0 [1]
  (.loop [1, 5] [(T 0), (K 1)] <|
  o (.bin .gtr (T 1) (K 0)) <|
  .cond (T 0)
   (bl 1 [1, 5]
    (o (sb (T 2) (K 1)) <|
    o (ix 7 (T 5) (T 2)) <|
    o (.faddr 1 (T 0)) <|
    o (ld (T 0)) <|
    o (ad (T 3) (T 0)) <|
    o (ad (T 6) (K 1)) <|
    nrm [(T 0), (T 1)]) <|
   nrm [(T 0), (T 1)])
   (ex 0 [(T 1)])) <|
 ret [(T 0)], false, [none]⟩
def f65 : LF := ⟨1,
 o (.eqv .slice false true (T 0) (.c (.list .nil []))) <|
 .cond (T 0)
  (ret [(.c (.list .nil []))])
  (o (.bsl true [(I 0)] 0 []) <|
  o (.append 1 8 (T 0) (T 2)) <|
  ret [(T 0)]), false, [none]⟩
def f66 : LF := ⟨1,
 o (.len .slice (T 0)) <|
 o (.cint .u64 (T 0)) <|
 o (call 105 [(T 0)]) <|
 o (call 104 [(T 3), (K 0), (T 2), (T 0)]) <|
 nrm [], false, []⟩
def f67 : LF := ⟨1,
 o (.len .slice (T 0)) <|
 o (.bin .gtr (T 0) (K 10000)) <|
 .cond (T 0)
  (ret [(.c S0), (K 3)])
  (o (call 106 [(T 2)]) <|
  ret [(T 0), (K 0)]), false, [none, none]⟩
def f68 : LF := ⟨1,
 o (.len .slice (T 0)) <|
 o (lt (T 0) (K 2)) <|
 .cond (T 0)
  (ret [(T 2)])
  (bl 0 []
   (.loop [3] [(K 1)] <|
   o (.len .slice (T 3)) <|
   o (lt (T 1) (T 0)) <|
   .cond (T 0)
    (bl 1 [3]
     (o (ix 1 (T 5) (T 2)) <|
     o (ld (T 0)) <|
     o (sb (T 4) (K 1)) <|
     o (ix 1 (T 8) (T 0)) <|
     o (ld (T 0)) <|
     o (eq (T 3) (T 0)) <|
     ck (.mov (T 11)) (T 11) <|
     ck (.mov (T 8)) (T 8) <|
     ck (ix 1 (T 11) (T 8)) (T 5) <|
     ck (ld (T 5)) (T 4) <|
     ck (.mov (T 11)) (T 11) <|
     ck (.mov (T 8)) (T 8) <|
     ck (ix 1 (T 11) (T 3)) (T 2) <|
     ck (ld (T 2)) (T 1) <|
     .cond (T 0)
      (o (.slice false 1 (T 11) (some (T 8)) none none) <|
      bl 2 [3]
       (.loop [3, 5] [(T 9), (K 1)] <|
       o (.len .slice (T 2)) <|
       o (lt (T 2) (T 0)) <|
       .cond (T 0)
        (bl 3 [3]
         (o (ix 1 (T 4) (T 3)) <|
         o (ld (T 0)) <|
         o (sb (T 5) (K 1)) <|
         o (ix 1 (T 7) (T 0)) <|
         o (ld (T 0)) <|
         o (ne (T 3) (T 0)) <|
         ck (.mov (T 10)) (T 10) <|
         ck (.mov (T 9)) (T 9) <|
         ck (ix 1 (T 10) (T 9)) (T 5) <|
         ck (ld (T 5)) (T 4) <|
         ck (.mov (T 10)) (T 10) <|
         ck (.mov (T 9)) (T 9) <|
         ck (ix 1 (T 10) (T 3)) (T 2) <|
         ck (ld (T 2)) (T 1) <|
         .cond (T 0)
          (o (ix 1 (T 10) (T 9)) <|
          o (ld (T 0)) <|
          o (ix 1 (T 24) (T 10)) <|
          o (.store 1 (T 0) (T 1)) <|
          o (ad (T 12) (K 1)) <|
          nrm [(T 0)])
          (nrm [(T 8)])) <|
        o (ad (T 4) (K 1)) <|
        nrm [(T 1), (T 0)])
        (ex 2 [(T 2)])) <|
      o (.slice false 1 (T 13) (some (T 0)) none none) <|
      o (.bad) <|
      o (.slice false 1 (T 15) none (some (T 2)) none) <|
      ret [(T 0)])
      (nrm [(T 8)])) <|
    o (ad (T 0) (K 1)) <|
    nrm [(T 0)])
    (ex 0 [])) <|
  ret [(T 2)]), false, [none]⟩
def f69 : LF := ⟨1,
 o (.len .slice (T 0)) <|
 o (.bin .gtr (T 0) (K 1000)) <|
 .cond (T 0)
  (ret [(K (-1)), (K 3)])
  (o (.mkmap) <|
  o (.len .slice (T 3)) <|
  bl 0 []
   (.loop [14] [(K 0)] <|
   o (lt (T 0) (T 1)) <|
   .cond (T 0)
    (bl 1 []
     (o (ix 4 (T 6) (T 1)) <|
     o (ldn 4 (T 0)) <|
     o (.alloc [S0, S0, (I 0), (I 0)]) <|
     o (.store 4 (T 0) (T 1)) <|
     o (ldn 4 (T 1)) <|
     o (call 107 [(T 0)]) <|
     o (ne (T 0) (K 0)) <|
     .cond (T 0)
      (ret [(T 8), (T 1)])
      (o (ldn 4 (T 4)) <|
      o (call 108 [(T 0)]) <|
      o (.lookup (.agg [.str, .str]) (.bool false) false (T 12) (T 0)) <|
      .cond (T 0)
       (ret [(T 11), (K 8)])
       (o (ldn 4 (T 7)) <|
       o (call 108 [(T 0)]) <|
       o (.mapupd (.agg [.str, .str]) (T 15) (T 0) (.c (.bool true))) <|
       nrm []))) <|
    o (ad (T 1) (K 1)) <|
    nrm [(T 0)])
    (ex 0 [])) <|
  ret [(K 0), (K 0)]), false, [none, none]⟩
def f70 : LF := ⟨1,
 o (.eqv .slice false true (T 0) (.c (.list .nil []))) <|
 .cond (T 0)
  (ret [(.c (.list .nil []))])
  (o (.bsl true [S0, S0, (I 0), (I 0)] 0 []) <|
  o (.append 4 48 (T 0) (T 2)) <|
  ret [(T 0)]), false, [none]⟩
def f71 : LF := ⟨1,
 o (.box 8 (T 0)) <|
 o (.faddr 0 (T 0)) <|
 o (ld (T 0)) <|
 bl 0 []
  (o (eq (T 0) (K 1)) <|
  jn [5]
   (.cond (T 0)
    (nrm [(T 0)])
    (o (eq (T 1) (K 2)) <|
    nrm [(T 0)])) <|
  .cond (T 0)
   (o (.faddr 3 (T 4)) <|
   o (ld (T 0)) <|
   o (ne (T 0) (.c S0)) <|
   og (T 0) false (.faddr 1 (T 7)) <|
   og (T 1) false (ld (T 0)) <|
   og (T 2) false (ne (T 0) (K 0)) <|
   o (.pick (T 3) (.c (.bool true)) (T 0)) <|
   ret [(T 0)])
   (o (eq (T 2) (K 3)) <|
   .cond (T 0)
    (o (.faddr 2 (T 5)) <|
    o (ld (T 0)) <|
    o (ne (T 0) (K 0)) <|
    og (T 0) false (.faddr 1 (T 8)) <|
    og (T 1) false (ld (T 0)) <|
    og (T 2) false (ne (T 0) (K 0)) <|
    o (.pick (T 3) (.c (.bool true)) (T 0)) <|
    ret [(T 0)])
    (o (eq (T 3) (K 4)) <|
    .cond (T 0)
     (o (.faddr 2 (T 6)) <|
     o (ld (T 0)) <|
     o (ne (T 0) (K 0)) <|
     og (T 0) false (.faddr 3 (T 9)) <|
     og (T 1) false (ld (T 0)) <|
     og (T 2) false (ne (T 0) (.c S0)) <|
     o (.pick (T 3) (.c (.bool true)) (T 0)) <|
     og (T 0) false (.faddr 1 (T 13)) <|
     og (T 1) false (ld (T 0)) <|
     og (T 2) false (lt (T 0) (K 0)) <|
     o (.pick (T 3) (.c (.bool true)) (T 0)) <|
     ret [(T 0)])
     (nrm [])))) <|
 ret [(.c (.bool true))], false, [none]⟩
def f72 : LF := ⟨1,
 o (eq (T 0) (.c S0)) <|
 og (T 0) false (.mov (T 1)) <|
 og (T 1) false (.len .str (T 0)) <|
 og (T 2) false (.bin .gtr (T 0) (K 24)) <|
 o (.pick (T 3) (.c (.bool true)) (T 0)) <|
 .cond (T 0)
  (ret [(.c (.bool false))])
  (o (call 110 [(T 5), (.c (.str [43]))]) <|
  o (call 110 [(T 0), (.c (.str [45]))]) <|
  o (call 109 [(T 0), (.c (.str [48, 49, 50, 51, 52, 53, 54, 55, 56, 57]))]) <|
  o (eq (T 0) (.c S0)) <|
  og (T 0) true (.mov (T 9)) <|
  og (T 1) true (call 111 [(T 0), (.c (.str [48, 49, 50, 51, 52, 53, 54, 55, 56, 57]))]) <|
  o (.pick (T 2) (T 0) (.c (.bool false))) <|
  og (T 0) true (.mov (T 12)) <|
  og (T 1) true (call 112 [(T 0), (.c (.str [43, 45]))]) <|
  og (T 2) true (.un .not (T 0)) <|
  o (.pick (T 3) (T 0) (.c (.bool false))) <|
  .cond (T 0)
   (ret [(.c (.bool false))])
   (o (.s2b (T 16)) <|
   o (call 113 [(T 0)]) <|
   o (.extract (T 0) 0) <|
   o (.extract (T 1) 1) <|
   o (ne (T 0) (K 0)) <|
   .cond (T 0)
    (ret [(.c (.bool false))])
    (o (.len .slice (T 2)) <|
    bl 0 []
     (.loop [42] [(K 0)] <|
     o (lt (T 0) (T 1)) <|
     .cond (T 0)
      (bl 1 []
       (o (ix 1 (T 5) (T 1)) <|
       o (ld (T 0)) <|
       o (call 114 [(T 0)]) <|
       o (.extract (T 0) 0) <|
       o (.extract (T 1) 1) <|
       bl 2 []
        (o (eq (T 1) (K 9)) <|
        jn [52]
         (.cond (T 0)
          (nrm [(T 0)])
          (o (eq (T 2) (K 7)) <|
          .cond (T 0)
           (nrm [(T 0)])
           (o (eq (T 3) (K 8)) <|
           nrm [(T 0)]))) <|
        .cond (T 0)
         (nrm [])
         (ret [(.c (.bool false))])) <|
       nrm []) <|
      o (ad (T 1) (K 1)) <|
      nrm [(T 0)])
      (ex 0 [])) <|
    ret [(.c (.bool true))]))), false, [none]⟩
def f74 : LF := ⟨1,
 o (.box 2 (T 0)) <|
 o (.faddr 0 (T 0)) <|
 o (ld (T 0)) <|
 o (lt (T 0) (K 0)) <|
 og (T 0) false (.faddr 0 (T 3)) <|
 og (T 1) false (ld (T 0)) <|
 og (T 2) false (.faddr 1 (T 5)) <|
 og (T 3) false (ld (T 0)) <|
 og (T 4) false (.bin .gtr (T 2) (T 0)) <|
 o (.pick (T 5) (.c (.bool true)) (T 0)) <|
 ret [(T 0)], false, [none]⟩
def f75 : LF := ⟨3,
 o (call 25 [(T 2)]) <|
 o (.extract (T 0) 0) <|
 o (.extract (T 1) 1) <|
 o (ne (T 0) (K 0)) <|
 .cond (T 0)
  (ret [(.c (.list .nil [])), (T 1)])
  (o (.bsl true [(I 0), (I 0), (I 0), S0, S0, (I 0), (I 0), (I 0)] 0 []) <|
  o (.append 8 80 (T 0) (T 7)) <|
  o (.len .slice (T 0)) <|
  bl 0 []
   (.loop [27] [(K 0)] <|
   o (lt (T 0) (T 1)) <|
   .cond (T 0)
    (bl 1 []
     (o (ix 8 (T 3) (T 1)) <|
     o (.faddr 4 (T 0)) <|
     o (ld (T 0)) <|
     o (.callv (T 13) [(T 0), (T 12)]) <|
     o (.extract (T 0) 0) <|
     o (.extract (T 1) 1) <|
     o (ne (T 0) (K 0)) <|
     .cond (T 0)
      (ret [(.c (.list .nil [])), (T 1)])
      (o (ix 8 (T 10) (T 8)) <|
      o (.faddr 4 (T 0)) <|
      o (.store 1 (T 0) (T 4)) <|
      nrm [])) <|
    o (ad (T 1) (K 1)) <|
    nrm [(T 0)])
    (ex 0 [])) <|
  ret [(T 1), (K 0)]), false, [none, none]⟩
def f76 : LF := ⟨2,
 o (call 116 [(T 1), (T 0)]) <|
 o (.extract (T 0) 0) <|
 o (.extract (T 1) 1) <|
 o (.extract (T 2) 2) <|
 o (.extract (T 3) 3) <|
 o (ne (T 0) (K 0)) <|
 .cond (T 0)
  (ret [(.c S0), (T 1)])
  (o (.un .not (T 2)) <|
  jn [6]
   (.cond (T 0)
    (o (.bsl true [(I 0)] 1 [(0, (T 7))]) <|
    o (call 117 [(T 6), (T 5), (T 0)]) <|
    nrm [(T 0)])
    (nrm [(T 5)])) <|
  o (call 67 [(T 0)]) <|
  o (.extract (T 0) 0) <|
  o (.extract (T 1) 1) <|
  ret [(T 1), (T 0)]), false, [none, none]⟩
def f77 : LF := ⟨2,
 o (.box 8 (T 0)) <|
 o (.alloc [S0, S0, (I 0), (I 0)]) <|
 o (.faddr 0 (T 1)) <|
 o (ld (T 0)) <|
 o (eq (T 0) (K 3)) <|
 jn []
  (.cond (T 0)
   (o (.nilchk (T 6)) <|
   o (.faddr 0 (T 0)) <|
   o (ld (T 0)) <|
   o (.faddr 3 (T 7)) <|
   o (ld (T 0)) <|
   o (.faddr 4 (T 9)) <|
   o (ld (T 0)) <|
   ck (.mov (T 13)) (T 13) <|
   ck (ld (T 5)) (T 4) <|
   ck (ld (T 3)) (T 2) <|
   ck (ld (T 1)) (T 0) <|
   o (call 118 [(T 4), (T 2), (T 0)]) <|
   o (.extract (T 0) 0) <|
   o (.extract (T 1) 1) <|
   ck (.mov (T 2)) (T 2) <|
   o (eq (T 0) (K 0)) <|
   .cond (T 0)
    (o (.nilchk (T 17)) <|
    o (.faddr 0 (T 0)) <|
    o (ld (T 0)) <|
    o (ix 4 (T 0) (T 5)) <|
    o (ldn 4 (T 0)) <|
    o (.store 4 (T 19) (T 0)) <|
    ret [(T 20)])
    (nrm []))
   (nrm [])) <|
 o (.build [S0, S0, (I 0), (I 0)] []) <|
 o (.store 4 (T 4) (T 0)) <|
 ret [(T 5)], false, [some (true, 4)]⟩
def f78 : LF := ⟨2,
 o (.len .slice (T 1)) <|
 bl 0 []
  (.loop [8] [(K 0)] <|
  o (lt (T 0) (T 1)) <|
  .cond (T 0)
   (bl 1 []
    (o (ix 1 (T 4) (T 1)) <|
    o (ld (T 0)) <|
    o (.callv (T 5) [(T 0)]) <|
    .cond (T 0)
     (ret [(T 4)])
     (nrm [])) <|
   o (ad (T 1) (K 1)) <|
   nrm [(T 0)])
   (ex 0 [])) <|
 ret [(K (-1))], false, [none]⟩
def f79 : LF := ⟨1,
 o (lt (T 0) (K 0)) <|
 og (T 0) false (.mov (T 1)) <|
 og (T 1) false (.bin .gtr (T 0) (K 2)) <|
 o (.pick (T 2) (.c (.bool true)) (T 0)) <|
 ret [(T 0)], false, [none]⟩
def f80 : LF := ⟨2,
 o (.len .slice (T 1)) <|
 bl 0 []
  (.loop [8] [(K 0)] <|
  o (lt (T 0) (T 1)) <|
  .cond (T 0)
   (bl 1 []
    (o (ix 1 (T 4) (T 1)) <|
    o (ld (T 0)) <|
    o (eq (T 5) (T 0)) <|
    .cond (T 0)
     (ret [(T 4)])
     (nrm [])) <|
   o (ad (T 1) (K 1)) <|
   nrm [(T 0)])
   (ex 0 [])) <|
 ret [(K (-1))], false, [none]⟩
def f81 : LF := ⟨1,
 o (ne (T 0) (K 0)) <|
 ret [(T 0)], false, [none]⟩
def f82 : LF := ⟨2,
 o (.len .slice (T 0)) <|
 bl 0 [5]
  (.loop [5, 10] [(.c (.list .nil [])), (K 0)] <|
  o (lt (T 1) (T 2)) <|
  .cond (T 0)
   (bl 1 [5]
    (o (ix 1 (T 4) (T 2)) <|
    o (ld (T 0)) <|
    o (call 55 [(T 7), (T 0)]) <|
    o (.bsl false [(.list .nil [])] 1 [(0, (T 0))]) <|
    o (.append 1 24 (T 5) (T 0)) <|
    nrm [(T 0)]) <|
   o (ad (T 3) (K 1)) <|
   nrm [(T 1), (T 0)])
   (ex 0 [(T 1)])) <|
 ret [(T 0)], false, [none]⟩
def f83 : LF := ⟨1,
 o (call 119 [(T 0), (fc 120)]) <|
 o (.extract (T 0) 0) <|
 o (.extract (T 1) 1) <|
 ret [(T 1), (T 0)], false, [none, none]⟩
def f84 : LF := ⟨3,
 o (.alloc [(I 0), (.list .nil []), (.list .nil []), (.list .nil []), (.list .nil [])]) <|
 o (call 121 [(T 3)]) <|
 o (.extract (T 0) 0) <|
 o (.extract (T 1) 1) <|
 bl 0 []
  (o (ne (T 0) (K 0)) <|
  .cond (T 0)
   (o (ldn 5 (T 4)) <|
   o (.store 5 (T 5) (T 0)) <|
   ret [(T 6), (T 4), (T 3)])
   (o (call 122 [(T 5)]) <|
   o (.un .not (T 0)) <|
   .cond (T 0)
    (o (ldn 5 (T 6)) <|
    o (.store 5 (T 7) (T 0)) <|
    ret [(T 8), (K 0), (K 2)])
    (o (lt (T 8) (K 0)) <|
    og (T 0) false (.mov (T 9)) <|
    og (T 1) false (.mov (T 11)) <|
    og (T 2) false (.len .slice (T 0)) <|
    og (T 3) false (.bin .geq (T 2) (T 0)) <|
    o (.pick (T 4) (.c (.bool true)) (T 0)) <|
    .cond (T 0)
     (o (ldn 5 (T 12)) <|
     o (.store 5 (T 13) (T 0)) <|
     ret [(T 14), (K 0), (K 4)])
     (nrm [])))) <|
 o (call 123 [(T 6), (T 5), (T 4)]) <|
 o (.extract (T 0) 0) <|
 o (.extract (T 1) 1) <|
 o (.extract (T 2) 2) <|
 o (.store 5 (T 7) (T 2)) <|
 ret [(T 8), (T 2), (T 1)], false, [some (true, 5), none, none]⟩
def f85 : LF := ⟨2,
 o (call 44 [(T 1)]) <|
 o (.len .slice (T 1)) <|
 bl 0 [6]
  (.loop [6, 13] [(.c (.list .nil [])), (K 0)] <|
  o (lt (T 1) (T 2)) <|
  .cond (T 0)
   (bl 1 [6]
    (o (ix 1 (T 5) (T 2)) <|
    o (ld (T 0)) <|
    o (ix 1 (T 6) (T 0)) <|
    o (ld (T 0)) <|
    o (.slice false 8 (T 10) (some (T 2)) (some (T 0)) none) <|
    o (.bsl false [(.list .nil [])] 1 [(0, (T 0))]) <|
    o (.append 1 24 (T 7) (T 0)) <|
    nrm [(T 0)]) <|
   o (ad (T 3) (K 1)) <|
   nrm [(T 1), (T 0)])
   (ex 0 [(T 1)])) <|
 ret [(T 0)], false, [none]⟩
def f86 : LF := ⟨4,
 o (.box 8 (T 2)) <|
 o (.nilchk (T 4)) <|
 o (.faddr 0 (T 0)) <|
 o (ld (T 0)) <|
 o (.faddr 3 (T 3)) <|
 o (ld (T 0)) <|
 o (.faddr 4 (T 5)) <|
 o (ld (T 0)) <|
 o (.build [S0, S0, (I 0), (I 0)] [(0, 1, (T 2)), (1, 1, (T 0)), (2, 1, (T 9)), (3, 1, (T 8))]) <|
 ck (.mov (T 12)) (T 12) <|
 ck (ld (T 6)) (T 5) <|
 ck (ld (T 4)) (T 3) <|
 ck (ld (T 2)) (T 1) <|
 ck (.mov (T 10)) (T 10) <|
 ck (.mov (T 9)) (T 9) <|
 o (call 41 [(T 5), (T 0)]) <|
 o (.extract (T 0) 0) <|
 o (.extract (T 1) 1) <|
 ck (.mov (T 2)) (T 2) <|
 o (ne (T 0) (K 0)) <|
 jn []
  (.cond (T 0)
   (o (ldn 8 (T 12)) <|
   o (call 46 [(T 0), (T 2)]) <|
   nrm [])
   (nrm [])) <|
 o (.nilchk (T 16)) <|
 o (.faddr 0 (T 0)) <|
 o (.store 1 (T 0) (T 4)) <|
 nrm [], false, []⟩
def f87 : LF := ⟨1,
 o (.alloc [(.list .nil []), (.list .nil [])]) <|
 o (call 124 [(T 1)]) <|
 o (.extract (T 0) 0) <|
 o (.extract (T 1) 1) <|
 o (.store 2 (T 3) (T 1)) <|
 o (.alloc [.nilp]) <|
 o (.mkif 246 (T 0)) <|
 o (call 125 [(T 3), (T 0)]) <|
 .cond (T 0)
  (o (.build [(.list .nil []), (.list .nil [])] []) <|
  o (ld (T 3)) <|
  o (.nilchk (T 0)) <|
  o (.faddr 0 (T 0)) <|
  o (ld (T 0)) <|
  o (ld (T 7)) <|
  o (.nilchk (T 0)) <|
  o (.faddr 1 (T 0)) <|
  o (ld (T 0)) <|
  ck (ld (T 11)) (T 7) <|
  ck (ld (T 5)) (T 4) <|
  ck (ld (T 11)) (T 3) <|
  ck (ld (T 1)) (T 0) <|
  o (.store 2 (T 16) (T 8)) <|
  ck (ld (T 12)) (T 8) <|
  ck (ld (T 6)) (T 5) <|
  ck (ld (T 12)) (T 4) <|
  ck (ld (T 2)) (T 1) <|
  ck (ld (T 12)) (T 4) <|
  ck (ld (T 2)) (T 1) <|
  ret [(T 17), (T 5), (T 1)])
  (o (ldn 2 (T 7)) <|
  o (.store 2 (T 8) (T 0)) <|
  ret [(T 9), (K 0), (K 0)]), false, [some (true, 2), none, none]⟩
def f88 : LF := ⟨2,
 o (.box 2 (T 1)) <|
 o (.alloc [(I 0), (.list .nil [])]) <|
 o (ldn 2 (T 1)) <|
 o (.build [(I 0), (I 0)] [(0, 1, (K 1)), (1, 1, (T 3))]) <|
 o (call 126 [(T 1), (T 0)]) <|
 o (.extract (T 0) 0) <|
 o (.extract (T 1) 1) <|
 o (.store 2 (T 5) (T 1)) <|
 ret [(T 6), (T 1)], false, [some (true, 2), none]⟩
def f89 : LF := ⟨2,
 o (.box 8 (T 0)) <|
 o (.nilchk (T 2)) <|
 o (.faddr 0 (T 0)) <|
 o (ld (T 0)) <|
 o (.faddr 3 (T 3)) <|
 o (ld (T 0)) <|
 o (.faddr 4 (T 5)) <|
 o (ld (T 0)) <|
 ck (.mov (T 9)) (T 9) <|
 ck (ld (T 5)) (T 4) <|
 ck (ld (T 3)) (T 2) <|
 ck (ld (T 1)) (T 0) <|
 o (call 118 [(T 4), (T 2), (T 0)]) <|
 o (.extract (T 0) 0) <|
 o (.extract (T 1) 1) <|
 ck (.mov (T 2)) (T 2) <|
 o (ne (T 0) (K 0)) <|
 jn []
  (.cond (T 0)
   (o (ldn 8 (T 11)) <|
   o (call 46 [(T 0), (T 2)]) <|
   nrm [])
   (nrm [])) <|
 o (ldn 8 (T 11)) <|
 o (call 58 [(K 6), (T 0), (.c (.list .nil []))]) <|
 o (.faddr 3 (T 13)) <|
 o (ld (T 0)) <|
 o (ix 7 (T 2) (K 0)) <|
 o (.faddr 3 (T 0)) <|
 o (.store 1 (T 0) (T 2)) <|
 o (.nilchk (T 20)) <|
 o (.faddr 0 (T 0)) <|
 o (ld (T 0)) <|
 o (ix 4 (T 0) (T 12)) <|
 o (ldn 4 (T 0)) <|
 o (.alloc [S0, S0, (I 0), (I 0)]) <|
 o (.store 4 (T 0) (T 1)) <|
 o (.faddr 2 (T 1)) <|
 o (ld (T 0)) <|
 bl 0 []
  (o (eq (T 0) (K 1)) <|
  .cond (T 0)
   (o (.faddr 3 (T 4)) <|
   o (ld (T 0)) <|
   o (ix 7 (T 17) (K 0)) <|
   o (.faddr 2 (T 0)) <|
   o (.store 1 (T 0) (T 2)) <|
   nrm [])
   (o (eq (T 1) (K 4)) <|
   .cond (T 0)
    (o (ix 7 (T 16) (K 0)) <|
    o (.faddr 0 (T 0)) <|
    o (.store 1 (T 0) (K 7)) <|
    nrm [])
    (o (ldn 8 (T 29)) <|
    o (call 46 [(T 0), (K 13)]) <|
    nrm []))) <|
 ret [(T 14)], false, [none]⟩
def f90 : LF := ⟨3,
 bl 0 []
  (o (eq (T 0) (K 7)) <|
  jn [8]
   (.cond (T 0)
    (nrm [(T 0)])
    (o (eq (T 1) (K 18)) <|
    nrm [(T 0)])) <|
  .cond (T 0)
   (o (.build [] []) <|
   o (.mkif 253 (T 0)) <|
   ret [(T 0)])
   (o (eq (T 2) (K 15)) <|
   jn [13]
    (.cond (T 0)
     (nrm [(T 0)])
     (o (eq (T 3) (K 16)) <|
     nrm [(T 0)])) <|
   .cond (T 0)
    (o (.build [(.list .nil []), (.list .nil []), (.list .nil []), (.list .nil []), (.list .nil [])] []) <|
    o (.mkif 132 (T 0)) <|
    ret [(T 0)])
    (nrm []))) <|
 o (call 51 [(T 1), (T 0)]) <|
 ret [(T 0)], false, [none]⟩
def f91 : LF := ⟨3,
 o (ix 8 (T 1) (K 0)) <|
 o (ldn 8 (T 0)) <|
 o (.alloc [(I 0), (I 0), (I 0), S0, S0, (I 0), (I 0), (I 0)]) <|
 o (.store 8 (T 0) (T 1)) <|
 o (.nilchk (T 6)) <|
 o (.faddr 6 (T 0)) <|
 o (.faddr 2 (T 0)) <|
 o (ld (T 0)) <|
 o (.len .slice (T 0)) <|
 o (.bin .geq (T 0) (K 300)) <|
 jn []
  (.cond (T 0)
   (o (ldn 8 (T 7)) <|
   o (call 46 [(T 0), (K 3)]) <|
   nrm [])
   (nrm [])) <|
 o (.bsl true [(.list .nil [])] 1 [(0, (T 11))]) <|
 o (.alloc [(.list .nil [])]) <|
 o (.store 1 (T 0) (T 1)) <|
 o (.bsl true [.nilp] 1 [(0, (T 1))]) <|
 o (call 50 [(T 16), (T 0)]) <|
 o (.nilchk (T 17)) <|
 o (.faddr 1 (T 0)) <|
 o (ld (T 0)) <|
 o (ad (T 0) (K 1)) <|
 o (.nilchk (T 21)) <|
 o (.faddr 1 (T 0)) <|
 o (.store 1 (T 0) (T 2)) <|
 o (.nilchk (T 24)) <|
 o (.faddr 6 (T 0)) <|
 o (.faddr 1 (T 0)) <|
 o (ld (T 0)) <|
 o (.faddr 5 (T 23)) <|
 o (ldn 2 (T 0)) <|
 o (.faddr 7 (T 25)) <|
 o (ld (T 0)) <|
 o (.build [(I 0), (I 0), (I 0), (I 0)] [(0, 1, (K 1)), (1, 2, (T 2)), (3, 1, (T 0))]) <|
 o (.bsl false [(I 0), (I 0), (I 0), (I 0)] 1 [(0, (T 0))]) <|
 ck (.mov (T 34)) (T 34) <|
 ck (.mov (T 34)) (T 34) <|
 ck (ld (T 7)) (T 6) <|
 ck (ldn 2 (T 5)) (T 4) <|
 ck (ld (T 3)) (T 2) <|
 o (.append 4 32 (T 6) (T 0)) <|
 o (.nilchk (T 35)) <|
 o (.faddr 6 (T 0)) <|
 o (.faddr 1 (T 0)) <|
 ck (.mov (T 38)) (T 38) <|
 o (.store 1 (T 0) (T 3)) <|
 o (.nilchk (T 39)) <|
 o (.faddr 0 (T 0)) <|
 o (ld (T 0)) <|
 o (.nilchk (T 42)) <|
 o (.faddr 3 (T 0)) <|
 o (ld (T 0)) <|
 o (ix 2 (T 0) (T 43)) <|
 o (ldn 2 (T 0)) <|
 o (ld (T 33)) <|
 o (ix 1 (T 0) (K 0)) <|
 o (ld (T 0)) <|
 o (.faddr 5 (T 45)) <|
 o (ldn 2 (T 0)) <|
 o (.nilchk (T 52)) <|
 o (.faddr 6 (T 0)) <|
 o (.faddr 1 (T 0)) <|
 o (ld (T 0)) <|
 o (.len .slice (T 0)) <|
 o (.nilchk (T 57)) <|
 o (.faddr 1 (T 0)) <|
 o (ld (T 0)) <|
 o (sb (T 0) (K 1)) <|
 o (.build [(I 0), (I 0), (I 0), (I 0)] [(0, 2, (T 9)), (2, 1, (T 4)), (3, 1, (T 0))]) <|
 ck (.mov (T 62)) (T 62) <|
 ck (ld (T 21)) (T 20) <|
 ck (.mov (T 62)) (T 62) <|
 ck (ld (T 18)) (T 17) <|
 ck (.mov (T 60)) (T 60) <|
 ck (ix 2 (T 17) (T 60)) (T 16) <|
 ck (ldn 2 (T 16)) (T 15) <|
 ck (ld (T 48)) (T 14) <|
 ck (ix 1 (T 14) (K 0)) (T 13) <|
 ck (ld (T 13)) (T 12) <|
 ck (ldn 2 (T 11)) (T 10) <|
 ck (.mov (T 62)) (T 62) <|
 ck (ld (T 7)) (T 6) <|
 ck (.len .slice (T 6)) (T 5) <|
 ck (.mov (T 62)) (T 62) <|
 ck (ld (T 3)) (T 2) <|
 o (call 127 [(T 20), (T 15), (T 12), (T 0)]) <|
 o (.extract (T 0) 0) <|
 o (.extract (T 1) 1) <|
 o (.extract (T 2) 2) <|
 ck (.mov (T 3)) (T 3) <|
 o (ne (T 0) (K 0)) <|
 jn []
  (.cond (T 0)
   (o (ldn 8 (T 62)) <|
   o (call 46 [(T 0), (T 2)]) <|
   nrm [])
   (nrm [])) <|
 o (.nilchk (T 67)) <|
 o (.faddr 6 (T 0)) <|
 o (.faddr 2 (T 0)) <|
 o (ld (T 0)) <|
 o (.faddr 5 (T 66)) <|
 o (ldn 2 (T 0)) <|
 o (ix 8 (T 72) (K 1)) <|
 o (.faddr 3 (T 0)) <|
 o (ld (T 0)) <|
 o (.build [(I 0), (I 0), S0, (I 0)] [(0, 2, (T 3)), (2, 1, (T 0)), (3, 1, (T 11))]) <|
 o (.bsl false [(I 0), (I 0), S0, (I 0)] 1 [(0, (T 0))]) <|
 ck (.mov (T 78)) (T 78) <|
 ck (.mov (T 78)) (T 78) <|
 ck (ld (T 8)) (T 7) <|
 ck (ldn 2 (T 6)) (T 5) <|
 ck (.mov (T 77)) (T 77) <|
 ck (ix 8 (T 77) (K 1)) (T 4) <|
 ck (ld (T 3)) (T 2) <|
 ck (.mov (T 13)) (T 13) <|
 o (.append 4 40 (T 7) (T 0)) <|
 o (.nilchk (T 79)) <|
 o (.faddr 6 (T 0)) <|
 o (.faddr 2 (T 0)) <|
 ck (.mov (T 82)) (T 82) <|
 o (.store 1 (T 0) (T 3)) <|
 o (call 55 [(T 83), (T 19)]) <|
 ret [(T 0)], false, [none]⟩
def f92 : LF := ⟨0,
 o (.alloc [(I 0), (I 0), (I 0), (I 0), (.list .nil []), (I 0), (I 0), (I 0), (I 0), (.list .nil []), (I 0), (I 0), (I 0), (I 0), (.list .nil []), (I 0), (I 0), (I 0), (I 0), (.list .nil []), (I 0), (I 0), (I 0), (I 0), (.list .nil []), (I 0), (I 0), (I 0), (I 0), (.list .nil []), (I 0), (I 0), (I 0), (I 0), (.list .nil []), (I 0), (I 0), (I 0), (I 0), (.list .nil []), (I 0), (I 0), (I 0), (I 0), (.list .nil []), (I 0), (I 0), (I 0), (I 0), (.list .nil []), (I 0), (I 0), (I 0), (I 0), (.list .nil []), (I 0), (I 0), (I 0), (I 0), (.list .nil []), (I 0), (I 0), (I 0), (I 0), (.list .nil []), (I 0), (I 0), (I 0), (I 0), (.list .nil []), (I 0), (I 0), (I 0), (I 0), (.list .nil []), (I 0), (I 0), (I 0), (I 0), (.list .nil []), (I 0), (I 0), (I 0), (I 0), (.list .nil []), (I 0), (I 0), (I 0), (I 0), (.list .nil []), (I 0), (I 0), (I 0), (I 0), (.list .nil []), (I 0), (I 0), (I 0), (I 0), (.list .nil []), (I 0), (I 0), (I 0), (I 0), (.list .nil []), (I 0), (I 0), (I 0), (I 0), (.list .nil []), (I 0), (I 0), (I 0), (I 0), (.list .nil []), (I 0), (I 0), (I 0), (I 0), (.list .nil []), (I 0), (I 0), (I 0), (I 0), (.list .nil [])]) <|
 o (.bsl true [(I 0)] 3 [(0, (K 0)), (1, (K 6)), (2, (K 5))]) <|
 o (.bsl true [(I 0)] 2 [(0, (K 0)), (1, (K 6))]) <|
 o (.bsl true [(I 0)] 4 [(0, (K 1)), (1, (K 0)), (2, (K 6)), (3, (K 5))]) <|
 o (.build [(I 0), (I 0), (I 0), (I 0), (.list .nil [])] [(0, 1, (K 0)), (1, 1, (K 0)), (2, 1, (K 0)), (3, 1, (K 0)), (4, 1, (T 0))]) <|
 o (.build [(I 0), (I 0), (I 0), (I 0), (.list .nil [])] [(0, 1, (K 0)), (1, 1, (K 0)), (2, 1, (K 0)), (3, 1, (K 0)), (4, 1, (T 1))]) <|
 o (.build [(I 0), (I 0), (I 0), (I 0), (.list .nil [])] [(0, 1, (K 1)), (1, 1, (K 1)), (2, 1, (K 1)), (3, 1, (K 1)), (4, 1, (T 4))]) <|
 o (.slice false 1 (T 3) none (some (K 1)) none) <|
 o (.build [(I 0), (I 0), (I 0), (I 0), (.list .nil [])] [(0, 1, (K 0)), (1, 1, (K 0)), (2, 1, (K 0)), (3, 1, (K 0)), (4, 1, (T 0))]) <|
 o (.slice false 1 (T 5) none (some (K 1)) none) <|
 o (.build [(I 0), (I 0), (I 0), (I 0), (.list .nil [])] [(0, 1, (K 0)), (1, 1, (K (-1))), (2, 1, (K 1)), (3, 1, (K 1)), (4, 1, (T 0))]) <|
 o (.build [(I 0), (I 0), (I 0), (I 0), (.list .nil [])] [(0, 1, (K 0)), (1, 1, (K 0)), (2, 1, (K 0)), (3, 1, (K 0)), (4, 1, (T 8))]) <|
 o (.bsl false [(I 0)] 1 [(0, (K 2))]) <|
 o (.build [(I 0), (I 0), (I 0), (I 0), (.list .nil [])] [(0, 1, (K 0)), (1, 1, (K 0)), (2, 1, (K 0)), (3, 1, (K 0)), (4, 1, (T 0))]) <|
 o (.build [(I 0), (I 0), (I 0), (I 0), (.list .nil [])] [(0, 1, (K 0)), (1, 1, (K 0)), (2, 1, (K 0)), (3, 1, (K 0)), (4, 1, (T 12))]) <|
 o (.build [(I 0), (I 0), (I 0), (I 0), (.list .nil [])] [(0, 1, (K 1)), (1, 1, (K (-1))), (2, 1, (K 2)), (3, 1, (K 0)), (4, 1, (T 13))]) <|
 o (.build [(I 0), (I 0), (I 0), (I 0), (.list .nil [])] [(0, 1, (K 1)), (1, 1, (K (-1))), (2, 1, (K 0)), (3, 1, (K 0)), (4, 1, (T 13))]) <|
 o (.build [(I 0), (I 0), (I 0), (I 0), (.list .nil [])] [(0, 1, (K 3)), (1, 1, (K 3)), (2, 1, (K 0)), (3, 1, (K 0)), (4, 1, (T 14))]) <|
 o (.build [(I 0), (I 0), (I 0), (I 0), (.list .nil [])] [(0, 1, (K 1)), (1, 1, (K (-1))), (2, 1, (K 2)), (3, 1, (K 0)), (4, 1, (T 15))]) <|
 o (.build [(I 0), (I 0), (I 0), (I 0), (.list .nil [])] [(0, 1, (K 1)), (1, 1, (K (-1))), (2, 1, (K 2)), (3, 1, (K 0)), (4, 1, (T 16))]) <|
 o (.build [(I 0), (I 0), (I 0), (I 0), (.list .nil [])] [(0, 1, (K 1)), (1, 1, (K (-1))), (2, 1, (K 2)), (3, 1, (K 0)), (4, 1, (T 17))]) <|
 o (.build [(I 0), (I 0), (I 0), (I 0), (.list .nil [])] [(0, 1, (K 1)), (1, 1, (K (-1))), (2, 1, (K 3)), (3, 1, (K 4)), (4, 1, (T 18))]) <|
 o (.bsl false [(I 0)] 1 [(0, (K 3))]) <|
 o (.build [(I 0), (I 0), (I 0), (I 0), (.list .nil [])] [(0, 1, (K 2)), (1, 1, (K 2)), (2, 1, (K 0)), (3, 1, (K 0)), (4, 1, (T 0))]) <|
 o (.bsl false [(I 0)] 1 [(0, (K 4))]) <|
 o (.build [(I 0), (I 0), (I 0), (I 0), (.list .nil [])] [(0, 1, (K 1)), (1, 1, (K 1)), (2, 1, (K 0)), (3, 1, (K 0)), (4, 1, (T 0))]) <|
 o (.build [(I 0), (I 0), (I 0), (I 0), (.list .nil [])] [(0, 1, (K 0)), (1, 1, (K (-1))), (2, 1, (K 0)), (3, 1, (K 0)), (4, 1, (T 23))]) <|
 o (.build [(I 0), (I 0), (I 0), (I 0), (.list .nil [])] [(0, 1, (K 0)), (1, 1, (K (-1))), (2, 1, (K 0)), (3, 1, (K 0)), (4, 1, (T 24))]) <|
 o (.build [(I 0), (I 0), (I 0), (I 0), (.list .nil [])] [(0, 1, (K 2)), (1, 1, (K 2)), (2, 1, (K 0)), (3, 1, (K 0)), (4, 1, (T 25))]) <|
 o (.build [(I 0), (I 0), (I 0), (I 0), (.list .nil [])] [(0, 1, (K 2)), (1, 1, (K 2)), (2, 1, (K 0)), (3, 1, (K 0)), (4, 1, (T 26))]) <|
 o (.build [(I 0), (I 0), (I 0), (I 0), (.list .nil [])] [(0, 1, (K 1)), (1, 1, (K (-1))), (2, 1, (K 0)), (3, 1, (K 0)), (4, 1, (T 27))]) <|
 o (.build [(I 0), (I 0), (I 0), (I 0), (.list .nil [])] [(0, 1, (K 0)), (1, 1, (K (-1))), (2, 1, (K 0)), (3, 1, (K 0)), (4, 1, (T 28))]) <|
 o (.build [(I 0), (I 0), (I 0), (I 0), (.list .nil [])] [(0, 1, (K 2)), (1, 1, (K 2)), (2, 1, (K 5)), (3, 1, (K 5)), (4, 1, (T 30))]) <|
 o (.build [(I 0), (I 0), (I 0), (I 0), (.list .nil []), (I 0), (I 0), (I 0), (I 0), (.list .nil []), (I 0), (I 0), (I 0), (I 0), (.list .nil []), (I 0), (I 0), (I 0), (I 0), (.list .nil []), (I 0), (I 0), (I 0), (I 0), (.list .nil []), (I 0), (I 0), (I 0), (I 0), (.list .nil []), (I 0), (I 0), (I 0), (I 0), (.list .nil []), (I 0), (I 0), (I 0), (I 0), (.list .nil []), (I 0), (I 0), (I 0), (I 0), (.list .nil []), (I 0), (I 0), (I 0), (I 0), (.list .nil []), (I 0), (I 0), (I 0), (I 0), (.list .nil []), (I 0), (I 0), (I 0), (I 0), (.list .nil []), (I 0), (I 0), (I 0), (I 0), (.list .nil []), (I 0), (I 0), (I 0), (I 0), (.list .nil []), (I 0), (I 0), (I 0), (I 0), (.list .nil []), (I 0), (I 0), (I 0), (I 0), (.list .nil []), (I 0), (I 0), (I 0), (I 0), (.list .nil []), (I 0), (I 0), (I 0), (I 0), (.list .nil []), (I 0), (I 0), (I 0), (I 0), (.list .nil []), (I 0), (I 0), (I 0), (I 0), (.list .nil []), (I 0), (I 0), (I 0), (I 0), (.list .nil []), (I 0), (I 0), (I 0), (I 0), (.list .nil []), (I 0), (I 0), (I 0), (I 0), (.list .nil []), (I 0), (I 0), (I 0), (I 0), (.list .nil []), (I 0), (I 0), (I 0), (I 0), (.list .nil [])] [(5, 5, (T 28)), (10, 5, (T 27)), (15, 5, (T 26)), (20, 5, (T 24)), (25, 5, (T 22)), (30, 5, (T 21)), (45, 5, (T 19)), (35, 5, (T 18)), (40, 5, (T 17)), (50, 5, (T 16)), (55, 5, (T 15)), (60, 5, (T 14)), (65, 5, (T 13)), (70, 5, (T 12)), (75, 5, (T 11)), (80, 5, (T 9)), (85, 5, (T 7)), (90, 5, (T 6)), (95, 5, (T 5)), (100, 5, (T 4)), (105, 5, (T 3)), (110, 5, (T 2)), (115, 5, (T 1)), (120, 5, (T 0))]) <|
 ck (.mov (T 30)) (T 30) <|
 ck (.mov (T 30)) (T 30) <|
 ck (.mov (T 32)) (T 32) <|
 ck (.mov (T 30)) (T 30) <|
 ck (.slice false 1 (T 30) none (some (K 1)) none) (T 26) <|
 ck (.mov (T 30)) (T 30) <|
 ck (.slice false 1 (T 30) none (some (K 1)) none) (T 24) <|
 ck (.mov (T 31)) (T 31) <|
 ck (.mov (T 32)) (T 32) <|
 ck (.mov (T 32)) (T 32) <|
 ck (.mov (T 31)) (T 31) <|
 ck (.mov (T 31)) (T 31) <|
 ck (.mov (T 31)) (T 31) <|
 ck (.mov (T 31)) (T 31) <|
 ck (.mov (T 31)) (T 31) <|
 ck (.mov (T 31)) (T 31) <|
 ck (.mov (T 31)) (T 31) <|
 ck (.mov (T 31)) (T 31) <|
 ck (.mov (T 31)) (T 31) <|
 ck (.mov (T 31)) (T 31) <|
 ck (.mov (T 31)) (T 31) <|
 ck (.mov (T 31)) (T 31) <|
 ck (.mov (T 32)) (T 32) <|
 o (.store 125 (T 33) (T 0)) <|
 ret [(T 34)], false, [some (true, 125)]⟩
def f93 : LF := ⟨1,
 o (.alloc [(I 0), (I 0), (I 0)]) <|
 o (.nilchk (T 1)) <|
 o (.faddr 1 (T 0)) <|
 o (ld (T 0)) <|
 o (.len .slice (T 0)) <|
 o (sb (T 0) (K 1)) <|
 o (lt (T 0) (K 0)) <|
 .cond (T 0)
  (o (.build [(I 0), (I 0), (I 0)] [(0, 1, (K (-1))), (1, 1, (K 0)), (2, 1, (K 0))]) <|
  o (.store 3 (T 7) (T 0)) <|
  ret [(T 8)])
  (o (.nilchk (T 7)) <|
  o (.faddr 0 (T 0)) <|
  o (ld (T 0)) <|
  o (ix 7 (T 0) (T 4)) <|
  o (.faddr 1 (T 0)) <|
  o (ld (T 0)) <|
  o (.bin .gtr (T 0) (K 0)) <|
  .cond (T 0)
   (o (.nilchk (T 14)) <|
   o (.faddr 1 (T 0)) <|
   o (ld (T 0)) <|
   o (ix 3 (T 0) (T 11)) <|
   o (.faddr 2 (T 0)) <|
   o (ld (T 0)) <|
   o (ad (T 0) (K 1)) <|
   o (.build [(I 0), (I 0), (I 0)] [(0, 1, (T 15)), (1, 1, (K 0)), (2, 1, (T 0))]) <|
   o (.store 3 (T 21) (T 0)) <|
   ret [(T 22)])
   (bl 0 []
    (.loop [3] [(T 8)] <|
    o (.bin .geq (T 0) (K 0)) <|
    .cond (T 0)
     (bl 1 []
      (o (.nilchk (T 16)) <|
      o (.faddr 1 (T 0)) <|
      o (ld (T 0)) <|
      o (ix 3 (T 0) (T 4)) <|
      o (ldn 3 (T 0)) <|
      o (.alloc [(I 0), (I 0), (I 0)]) <|
      o (.store 3 (T 0) (T 1)) <|
      o (.faddr 0 (T 1)) <|
      o (ld (T 0)) <|
      o (.bin .geq (T 0) (K 0)) <|
      og (T 0) true (.faddr 1 (T 4)) <|
      og (T 1) true (ld (T 0)) <|
      og (T 2) true (ad (T 0) (K 1)) <|
      og (T 3) true (.mov (T 29)) <|
      og (T 4) true (.nilchk (T 0)) <|
      og (T 5) true (.faddr 0 (T 0)) <|
      og (T 6) true (ld (T 0)) <|
      og (T 7) true (.faddr 0 (T 11)) <|
      og (T 8) true (ld (T 0)) <|
      og (T 9) true (ix 7 (T 2) (T 0)) <|
      og (T 10) true (.faddr 1 (T 0)) <|
      og (T 11) true (ld (T 0)) <|
      og (T 12) true (lt (T 9) (T 0)) <|
      o (.pick (T 13) (T 0) (.c (.bool false))) <|
      ck (ld (T 16)) (T 15) <|
      ck (.mov (T 14)) (T 14) <|
      ckg (T 14) true (ld (T 13)) (T 12) <|
      ckg (T 14) true (ld (T 8)) (T 7) <|
      ckg (T 14) true (ld (T 6)) (T 5) <|
      ckg (T 14) true (ix 7 (T 7) (T 5)) (T 4) <|
      ckg (T 14) true (ld (T 3)) (T 2) <|
      .cond (T 0)
       (o (.faddr 0 (T 18)) <|
       o (ld (T 0)) <|
       o (.faddr 1 (T 20)) <|
       o (ld (T 0)) <|
       o (ad (T 0) (K 1)) <|
       o (.faddr 2 (T 23)) <|
       o (ld (T 0)) <|
       o (.build [(I 0), (I 0), (I 0)] [(0, 1, (T 5)), (1, 1, (T 2)), (2, 1, (T 0))]) <|
       o (.store 3 (T 47) (T 0)) <|
       ret [(T 48)])
       (nrm [])) <|
     o (.nilchk (T 16)) <|
     o (.faddr 1 (T 0)) <|
     o (ld (T 0)) <|
     o (ix 3 (T 0) (T 4)) <|
     o (.faddr 0 (T 0)) <|
     o (ld (T 0)) <|
     nrm [(T 0)])
     (ex 0 [])) <|
   o (.build [(I 0), (I 0), (I 0)] [(0, 1, (K (-1))), (1, 1, (K 0)), (2, 1, (K (-1)))]) <|
   o (.store 3 (T 14) (T 0)) <|
   ret [(T 15)])), false, [some (true, 3)]⟩
def f94 : LF := ⟨2,
 o (.box 7 (T 1)) <|
 o (.faddr 0 (T 0)) <|
 o (ld (T 0)) <|
 o (eq (T 0) (K 1)) <|
 og (T 0) false (.faddr 0 (T 3)) <|
 og (T 1) false (ld (T 0)) <|
 og (T 2) false (eq (T 0) (K 2)) <|
 o (.pick (T 3) (.c (.bool true)) (T 0)) <|
 og (T 0) false (.faddr 0 (T 7)) <|
 og (T 1) false (ld (T 0)) <|
 og (T 2) false (eq (T 0) (K 6)) <|
 o (.pick (T 3) (.c (.bool true)) (T 0)) <|
 og (T 0) false (.faddr 0 (T 11)) <|
 og (T 1) false (ld (T 0)) <|
 og (T 2) false (eq (T 0) (K 9)) <|
 o (.pick (T 3) (.c (.bool true)) (T 0)) <|
 bl 0 []
  (o (.faddr 0 (T 15)) <|
  o (ld (T 0)) <|
  o (lt (T 0) (K 1)) <|
  og (T 0) false (.faddr 0 (T 18)) <|
  og (T 1) false (ld (T 0)) <|
  og (T 2) false (.bin .gtr (T 0) (K 24)) <|
  o (.pick (T 3) (.c (.bool true)) (T 0)) <|
  og (T 0) false (.faddr 1 (T 22)) <|
  og (T 1) false (ld (T 0)) <|
  og (T 2) false (lt (T 0) (K 0)) <|
  o (.pick (T 3) (.c (.bool true)) (T 0)) <|
  og (T 0) false (.mov (T 11)) <|
  og (T 1) false (.un .not (T 0)) <|
  og (T 2) false (.mov (T 0)) <|
  og (T 0) true (.faddr 2 (T 29)) <|
  og (T 1) true (ld (T 0)) <|
  og (T 2) true (ne (T 0) (K 0)) <|
  og (T 6) false (.pick (T 3) (T 0) (.c (.bool false))) <|
  o (.pick (T 7) (.c (.bool true)) (T 0)) <|
  og (T 0) false (.faddr 0 (T 34)) <|
  og (T 1) false (ld (T 0)) <|
  og (T 2) false (call 128 [(T 0)]) <|
  og (T 3) false (.un .not (T 0)) <|
  og (T 4) false (.mov (T 0)) <|
  og (T 0) true (.faddr 3 (T 39)) <|
  og (T 1) true (ld (T 0)) <|
  og (T 2) true (ne (T 0) (.c S0)) <|
  og (T 8) false (.pick (T 3) (T 0) (.c (.bool false))) <|
  o (.pick (T 9) (.c (.bool true)) (T 0)) <|
  .cond (T 0)
   (ret [(K 6)])
   (o (.bin .gtr (T 45) (K 200)) <|
   .cond (T 0)
    (ret [(K 3)])
    (o (.faddr 0 (T 45)) <|
    o (ld (T 0)) <|
    o (ne (T 0) (K 1)) <|
    og (T 0) true (.faddr 2 (T 48)) <|
    og (T 1) true (ld (T 0)) <|
    og (T 2) true (lt (T 0) (K 0)) <|
    o (.pick (T 3) (T 0) (.c (.bool false))) <|
    og (T 0) false (.faddr 0 (T 52)) <|
    og (T 1) false (ld (T 0)) <|
    og (T 2) false (eq (T 0) (K 2)) <|
    og (T 3) false (.mov (T 0)) <|
    og (T 0) true (.faddr 2 (T 56)) <|
    og (T 1) true (ld (T 0)) <|
    og (T 2) true (.bin .gtr (T 0) (K 1)) <|
    og (T 7) false (.pick (T 3) (T 0) (.c (.bool false))) <|
    o (.pick (T 8) (.c (.bool true)) (T 0)) <|
    .cond (T 0)
     (ret [(K 7)])
     (o (.faddr 0 (T 61)) <|
     o (ld (T 0)) <|
     o (call 128 [(T 0)]) <|
     og (T 0) true (.faddr 3 (T 64)) <|
     og (T 1) true (ld (T 0)) <|
     og (T 2) true (call 72 [(T 0)]) <|
     og (T 3) true (.un .not (T 0)) <|
     o (.pick (T 4) (T 0) (.c (.bool false))) <|
     og (T 0) false (.faddr 4 (T 69)) <|
     og (T 1) false (.faddr 0 (T 0)) <|
     og (T 2) false (ld (T 0)) <|
     og (T 3) false (lt (T 0) (K 0)) <|
     o (.pick (T 4) (.c (.bool true)) (T 0)) <|
     og (T 0) false (.faddr 4 (T 74)) <|
     og (T 1) false (.faddr 0 (T 0)) <|
     og (T 2) false (ld (T 0)) <|
     og (T 3) false (.faddr 4 (T 77)) <|
     og (T 4) false (.faddr 1 (T 0)) <|
     og (T 5) false (ld (T 0)) <|
     og (T 6) false (.bin .gtr (T 3) (T 0)) <|
     o (.pick (T 7) (.c (.bool true)) (T 0)) <|
     .cond (T 0)
      (ret [(K 6)])
      (o (.faddr 6 (T 82)) <|
      o (ld (T 0)) <|
      o (lt (T 0) (K 0)) <|
      .cond (T 0)
       (ret [(K 7)])
       (nrm [])))))) <|
 ret [(K 0)], false, [none]⟩
def f95 : LF := ⟨3,
 o (.box 7 (T 1)) <|
 o (.box 3 (T 1)) <|
 o (.faddr 0 (T 1)) <|
 o (ld (T 0)) <|
 o (.nilchk (T 6)) <|
 o (.faddr 2 (T 0)) <|
 o (.iaddr (some 25) 5 (T 0) (T 2)) <|
 o (ldn 5 (T 0)) <|
 o (ldn 3 (T 6)) <|
 o (.alloc [(I 0), (I 0), (I 0), (I 0), (.list .nil [])]) <|
 ck (.mov (T 12)) (T 12) <|
 ck (ld (T 7)) (T 6) <|
 ck (.iaddr (some 25) 5 (T 4) (T 6)) (T 3) <|
 ck (ldn 5 (T 3)) (T 2) <|
 ck (.mov (T 12)) (T 12) <|
 ck (ldn 3 (T 8)) (T 1) <|
 o (call 129 [(T 12), (T 1)]) <|
 ck (.mov (T 13)) (T 13) <|
 ck (ld (T 8)) (T 7) <|
 ck (.iaddr (some 25) 5 (T 5) (T 7)) (T 4) <|
 ck (ldn 5 (T 4)) (T 3) <|
 o (.store 5 (T 1) (T 3)) <|
 o (.faddr 1 (T 11)) <|
 o (ld (T 0)) <|
 o (.faddr 0 (T 4)) <|
 o (ld (T 0)) <|
 o (lt (T 2) (T 0)) <|
 og (T 0) false (.faddr 1 (T 7)) <|
 og (T 1) false (ld (T 0)) <|
 og (T 2) false (.bin .geq (T 0) (K 0)) <|
 og (T 3) false (.mov (T 0)) <|
 og (T 0) true (.faddr 1 (T 20)) <|
 og (T 1) true (ld (T 0)) <|
 og (T 2) true (.faddr 1 (T 13)) <|
 og (T 3) true (ld (T 0)) <|
 og (T 4) true (.bin .gtr (T 2) (T 0)) <|
 og (T 9) false (.pick (T 5) (T 0) (.c (.bool false))) <|
 o (.pick (T 10) (.c (.bool true)) (T 0)) <|
 og (T 0) false (.faddr 0 (T 27)) <|
 og (T 1) false (ld (T 0)) <|
 og (T 2) false (call 130 [(T 0)]) <|
 og (T 3) false (.mov (T 0)) <|
 og (T 0) true (.faddr 1 (T 31)) <|
 og (T 1) true (ld (T 0)) <|
 og (T 2) true (.bin .rem (T 0) (K 2)) <|
 og (T 3) true (eq (T 0) (K 0)) <|
 og (T 8) false (.pick (T 4) (T 0) (.c (.bool false))) <|
 o (.pick (T 9) (.c (.bool true)) (T 0)) <|
 og (T 0) false (.faddr 4 (T 28)) <|
 og (T 1) false (ld (T 0)) <|
 og (T 2) false (.mov (T 29)) <|
 og (T 3) false (call 131 [(T 1), (T 0)]) <|
 og (T 4) false (.un .not (T 0)) <|
 o (.pick (T 5) (.c (.bool true)) (T 0)) <|
 .cond (T 0)
  (ret [(K 6)])
  (o (.faddr 0 (T 43)) <|
  o (ld (T 0)) <|
  bl 0 [9]
   (o (eq (T 0) (K 8)) <|
   .cond (T 0)
    (o (.faddr 1 (T 46)) <|
    o (ld (T 0)) <|
    o (sb (T 0) (K 1)) <|
    nrm [(T 0)])
    (o (eq (T 1) (K 12)) <|
    jn [62]
     (.cond (T 0)
      (nrm [(T 0)])
      (o (eq (T 2) (K 14)) <|
      nrm [(T 0)])) <|
    .cond (T 0)
     (o (.faddr 1 (T 48)) <|
     o (ld (T 0)) <|
     o (.bin .quo (T 0) (K 2)) <|
     nrm [(T 0)])
     (nrm [(K 0)]))) <|
  o (.bin .gtr (T 0) (K 8)) <|
  .cond (T 0)
   (ret [(K 3)])
   (o (eq (T 37) (K 6)) <|
   og (T 0) true (.faddr 0 (T 48)) <|
   og (T 1) true (ld (T 0)) <|
   og (T 2) true (ne (T 0) (K 8)) <|
   o (.pick (T 3) (T 0) (.c (.bool false))) <|
   .cond (T 0)
    (ret [(K 16)])
    (ret [(K 0)]))), false, [none]⟩
def f96 : LF := ⟨1,
 o (.nilchk (T 0)) <|
 o (.faddr 0 (T 0)) <|
 o (ld (T 0)) <|
 o (.len .slice (T 0)) <|
 o (.nilchk (T 4)) <|
 o (.faddr 0 (T 0)) <|
 o (ld (T 0)) <|
 o (.len .slice (T 0)) <|
 bl 0 [5]
  (.loop [5, 24] [(T 4), (K 0)] <|
  o (lt (T 1) (T 2)) <|
  .cond (T 0)
   (bl 1 [5]
    (o (ix 7 (T 4) (T 2)) <|
    o (ldn 7 (T 0)) <|
    o (.alloc [(I 0), (I 0), (I 0), S0, (I 0), (I 0), (I 0)]) <|
    o (.store 7 (T 0) (T 1)) <|
    o (.faddr 0 (T 1)) <|
    o (ld (T 0)) <|
    o (ne (T 0) (K 9)) <|
    .cond (T 0)
     (ex 1 [(T 8)])
     (o (.nilchk (T 18)) <|
     o (.faddr 127 (T 0)) <|
     o (ld (T 0)) <|
     o (.faddr 2 (T 7)) <|
     o (ld (T 0)) <|
     o (.lookup (.one .int) (I 0) true (T 2) (T 0)) <|
     o (.extract (T 0) 0) <|
     o (.extract (T 1) 1) <|
     ck (.mov (T 26)) (T 26) <|
     ck (ld (T 6)) (T 5) <|
     ck (ld (T 4)) (T 3) <|
     ck (.lookup (.one .int) (I 0) true (T 5) (T 3)) (T 2) <|
     ck (.mov (T 2)) (T 2) <|
     .cond (T 0)
      (o (.minmax false (T 16) (T 17)) <|
      ex 1 [(T 0)])
      (o (.nilchk (T 26)) <|
      o (.faddr 127 (T 0)) <|
      o (ld (T 0)) <|
      o (.faddr 2 (T 15)) <|
      o (ld (T 0)) <|
      ck (.mov (T 31)) (T 31) <|
      ck (ld (T 3)) (T 2) <|
      ck (ld (T 1)) (T 0) <|
      ck (.mov (T 22)) (T 22) <|
      o (.mapupd (.one .int) (T 2) (T 0) (T 22)) <|
      nrm [(T 22)]))) <|
   o (ad (T 3) (K 1)) <|
   nrm [(T 1), (T 0)])
   (ex 0 [(T 1)])) <|
 o (.nilchk (T 9)) <|
 o (.faddr 0 (T 0)) <|
 o (ld (T 0)) <|
 o (.len .slice (T 0)) <|
 bl 2 []
  (.loop [59] [(K 0)] <|
  o (lt (T 0) (T 1)) <|
  .cond (T 0)
   (bl 3 []
    (o (ix 7 (T 3) (T 1)) <|
    o (ldn 7 (T 0)) <|
    o (.alloc [(I 0), (I 0), (I 0), S0, (I 0), (I 0), (I 0)]) <|
    o (.store 7 (T 0) (T 1)) <|
    o (eq (T 5) (T 10)) <|
    .cond (T 0)
     (ret [(.c .nilp), (T 6), (K 8)])
     (o (.faddr 0 (T 2)) <|
     o (ld (T 0)) <|
     o (ne (T 0) (K 6)) <|
     .cond (T 0)
      (ex 3 [])
      (o (.nilchk (T 23)) <|
      o (.faddr 127 (T 0)) <|
      o (ld (T 0)) <|
      o (.faddr 2 (T 8)) <|
      o (ld (T 0)) <|
      o (.lookup (.one .int) (I 0) true (T 2) (T 0)) <|
      o (.extract (T 0) 0) <|
      o (.extract (T 1) 1) <|
      ck (.mov (T 31)) (T 31) <|
      ck (ld (T 6)) (T 5) <|
      ck (ld (T 4)) (T 3) <|
      ck (.lookup (.one .int) (I 0) true (T 5) (T 3)) (T 2) <|
      ck (.mov (T 2)) (T 2) <|
      o (.un .not (T 0)) <|
      .cond (T 0)
       (ret [(.c .nilp), (T 18), (K 10)])
       (o (call 132 [(T 32), (T 2), (T 18)]) <|
       o (.un .not (T 0)) <|
       og (T 0) true (.mov (T 34)) <|
       og (T 1) true (.mov (T 5)) <|
       og (T 2) true (.mov (T 22)) <|
       og (T 3) true (call 133 [(T 2), (T 1), (T 0)]) <|
       og (T 4) true (.un .not (T 0)) <|
       o (.pick (T 5) (T 0) (.c (.bool false))) <|
       .cond (T 0)
        (ret [(.c .nilp), (T 26), (K 15)])
        (nrm []))))) <|
   o (ad (T 1) (K 1)) <|
   nrm [(T 0)])
   (ex 2 [])) <|
 ret [(T 13), (K 0), (K 0)], false, [none, none, none]⟩
def f97 : LF := ⟨1,
 o (eq (T 0) (K 4)) <|
 og (T 0) false (.mov (T 1)) <|
 og (T 1) false (eq (T 0) (K 6)) <|
 o (.pick (T 2) (.c (.bool true)) (T 0)) <|
 og (T 0) false (.mov (T 4)) <|
 og (T 1) false (eq (T 0) (K 9)) <|
 o (.pick (T 2) (.c (.bool true)) (T 0)) <|
 og (T 0) false (.mov (T 7)) <|
 og (T 1) false (eq (T 0) (K 7)) <|
 o (.pick (T 2) (.c (.bool true)) (T 0)) <|
 ret [(T 0)], false, [none]⟩
def f98 : LF := ⟨1,
 o (.len .str (T 0)) <|
 o (lt (T 0) (K 1)) <|
 og (T 0) false (.mov (T 2)) <|
 og (T 1) false (.len .str (T 0)) <|
 og (T 2) false (.bin .gtr (T 0) (K 24)) <|
 o (.pick (T 3) (.c (.bool true)) (T 0)) <|
 og (T 0) false (.mov (T 6)) <|
 og (T 1) false (call 134 [(T 0)]) <|
 o (.pick (T 2) (.c (.bool true)) (T 0)) <|
 .cond (T 0)
  (ret [(.c (.bool false))])
  (o (.s2b (T 9)) <|
  o (call 135 [(T 0)]) <|
  o (.extract (T 0) 0) <|
  o (.extract (T 1) 1) <|
  o (ne (T 0) (K 0)) <|
  .cond (T 0)
   (ret [(.c (.bool false))])
   (bl 0 []
    (.loop [5] [(K 0)] <|
    o (.len .slice (T 3)) <|
    o (lt (T 1) (T 0)) <|
    .cond (T 0)
     (bl 1 []
      (o (ix 1 (T 5) (T 2)) <|
      o (ld (T 0)) <|
      o (call 136 [(T 0)]) <|
      o (.extract (T 0) 0) <|
      o (.extract (T 1) 1) <|
      o (ne (T 1) (K 9)) <|
      og (T 0) true (.mov (T 2)) <|
      og (T 1) true (ne (T 0) (K 7)) <|
      o (.pick (T 2) (T 0) (.c (.bool false))) <|
      og (T 0) true (.mov (T 5)) <|
      og (T 1) true (ne (T 0) (K 8)) <|
      o (.pick (T 2) (T 0) (.c (.bool false))) <|
      .cond (T 0)
       (ret [(.c (.bool false))])
       (nrm [])) <|
     o (ad (T 2) (K 1)) <|
     nrm [(T 0)])
     (ex 0 [])) <|
   ret [(.c (.bool true))])), false, [none]⟩
def f99 : LF := ⟨2,
 o (.box 7 (T 1)) <|
 o (.faddr 1 (T 0)) <|
 o (ld (T 0)) <|
 o (sb (T 0) (K 1)) <|
 o (eq (T 4) (T 0)) <|
 o (.faddr 0 (T 4)) <|
 o (ld (T 0)) <|
 bl 0 []
  (o (eq (T 0) (K 3)) <|
  jn [13]
   (.cond (T 0)
    (nrm [(T 0)])
    (o (eq (T 1) (K 5)) <|
    nrm [(T 0)])) <|
  .cond (T 0)
   (ret [(K 2)])
   (o (eq (T 2) (K 8)) <|
   .cond (T 0)
    (o (.un .not (T 5)) <|
    .cond (T 0)
     (ret [(K 3)])
     (nrm []))
    (o (eq (T 3) (K 12)) <|
    jn [20]
     (.cond (T 0)
      (nrm [(T 0)])
      (o (eq (T 4) (K 13)) <|
      .cond (T 0)
       (nrm [(T 0)])
       (o (eq (T 5) (K 14)) <|
       nrm [(T 0)]))) <|
    .cond (T 0)
     (o (.un .not (T 7)) <|
     og (T 0) true (.mov (T 13)) <|
     og (T 1) true (.bin .rem (T 0) (K 2)) <|
     og (T 2) true (eq (T 0) (K 0)) <|
     o (.pick (T 3) (T 0) (.c (.bool false))) <|
     .cond (T 0)
      (ret [(K 3)])
      (o (.un .not (T 12)) <|
      og (T 0) true (.faddr 0 (T 17)) <|
      og (T 1) true (ld (T 0)) <|
      og (T 2) true (eq (T 0) (K 14)) <|
      o (.pick (T 3) (T 0) (.c (.bool false))) <|
      .cond (T 0)
       (ret [(K 7)])
       (nrm [])))
     (o (eq (T 5) (K 15)) <|
     .cond (T 0)
      (.cond (T 8)
       (ret [(K 5)])
       (ret [(K 4)]))
      (o (eq (T 6) (K 24)) <|
      .cond (T 0)
       (ret [(K 6)])
       (nrm [])))))) <|
 ret [(K 1)], false, [none]⟩
def f100 : LF := ⟨2,
 bl 0 []
  (o (eq (T 1) (K 1)) <|
  jn [6]
   (.cond (T 0)
    (nrm [(T 0)])
    (o (eq (T 2) (K 2)) <|
    .cond (T 0)
     (nrm [(T 0)])
     (o (eq (T 3) (K 4)) <|
     .cond (T 0)
      (nrm [(T 0)])
      (o (eq (T 4) (K 6)) <|
      .cond (T 0)
       (nrm [(T 0)])
       (o (eq (T 5) (K 9)) <|
       .cond (T 0)
        (nrm [(T 0)])
        (o (eq (T 6) (K 7)) <|
        nrm [(T 0)])))))) <|
  .cond (T 0)
   (o (eq (T 2) (K 0)) <|
   ret [(T 0)])
   (o (eq (T 3) (K 3)) <|
   jn [15]
    (.cond (T 0)
     (nrm [(T 0)])
     (o (eq (T 4) (K 17)) <|
     nrm [(T 0)])) <|
   .cond (T 0)
    (o (eq (T 4) (K 1)) <|
    ret [(T 0)])
    (o (eq (T 5) (K 16)) <|
    jn [20]
     (.cond (T 0)
      (nrm [(T 0)])
      (o (eq (T 6) (K 20)) <|
      .cond (T 0)
       (nrm [(T 0)])
       (o (eq (T 7) (K 21)) <|
       .cond (T 0)
        (nrm [(T 0)])
        (o (eq (T 8) (K 24)) <|
        nrm [(T 0)])))) <|
    .cond (T 0)
     (o (eq (T 6) (K 2)) <|
     ret [(T 0)])
     (o (eq (T 7) (K 11)) <|
     .cond (T 0)
      (o (eq (T 7) (K 3)) <|
      ret [(T 0)])
      (o (eq (T 8) (K 8)) <|
      jn [31]
       (.cond (T 0)
        (nrm [(T 0)])
        (o (eq (T 9) (K 10)) <|
        .cond (T 0)
         (nrm [(T 0)])
         (o (eq (T 10) (K 15)) <|
         .cond (T 0)
          (nrm [(T 0)])
          (o (eq (T 11) (K 22)) <|
          nrm [(T 0)])))) <|
      .cond (T 0)
       (o (.bin .geq (T 9) (K 1)) <|
       ret [(T 0)])
       (o (eq (T 10) (K 12)) <|
       jn [38]
        (.cond (T 0)
         (nrm [(T 0)])
         (o (eq (T 11) (K 13)) <|
         .cond (T 0)
          (nrm [(T 0)])
          (o (eq (T 12) (K 14)) <|
          nrm [(T 0)]))) <|
       .cond (T 0)
        (o (.bin .rem (T 11) (K 2)) <|
        o (eq (T 0) (K 1)) <|
        ret [(T 0)])
        (nrm []))))))) <|
 ret [(.c (.bool true))], false, [none]⟩
def f101 : LF := ⟨2,
 bl 0 []
  (o (eq (T 0) (K 2)) <|
  .cond (T 0)
   (o (eq (T 2) (K 1)) <|
   og (T 0) false (.mov (T 3)) <|
   og (T 1) false (eq (T 0) (K 2)) <|
   o (.pick (T 2) (.c (.bool true)) (T 0)) <|
   og (T 0) false (.mov (T 6)) <|
   og (T 1) false (eq (T 0) (K 4)) <|
   o (.pick (T 2) (.c (.bool true)) (T 0)) <|
   og (T 0) false (.mov (T 9)) <|
   og (T 1) false (eq (T 0) (K 5)) <|
   o (.pick (T 2) (.c (.bool true)) (T 0)) <|
   ret [(T 0)])
   (o (eq (T 1) (K 3)) <|
   .cond (T 0)
    (o (eq (T 3) (K 9)) <|
    ret [(T 0)])
    (o (eq (T 2) (K 4)) <|
    .cond (T 0)
     (o (eq (T 4) (K 16)) <|
     ret [(T 0)])
     (o (eq (T 3) (K 5)) <|
     .cond (T 0)
      (o (eq (T 5) (K 17)) <|
      ret [(T 0)])
      (o (eq (T 4) (K 6)) <|
      .cond (T 0)
       (o (eq (T 6) (K 1)) <|
       og (T 0) false (.mov (T 7)) <|
       og (T 1) false (eq (T 0) (K 2)) <|
       o (.pick (T 2) (.c (.bool true)) (T 0)) <|
       og (T 0) false (.mov (T 10)) <|
       og (T 1) false (eq (T 0) (K 3)) <|
       o (.pick (T 2) (.c (.bool true)) (T 0)) <|
       og (T 0) false (.mov (T 13)) <|
       og (T 1) false (eq (T 0) (K 7)) <|
       o (.pick (T 2) (.c (.bool true)) (T 0)) <|
       og (T 0) false (.mov (T 16)) <|
       og (T 1) false (eq (T 0) (K 8)) <|
       o (.pick (T 2) (.c (.bool true)) (T 0)) <|
       og (T 0) false (.mov (T 19)) <|
       og (T 1) false (eq (T 0) (K 24)) <|
       o (.pick (T 2) (.c (.bool true)) (T 0)) <|
       ret [(T 0)])
       (nrm [])))))) <|
 o (ne (T 1) (K 4)) <|
 og (T 0) true (.mov (T 2)) <|
 og (T 1) true (ne (T 0) (K 5)) <|
 o (.pick (T 2) (T 0) (.c (.bool false))) <|
 og (T 0) true (.mov (T 5)) <|
 og (T 1) true (ne (T 0) (K 9)) <|
 o (.pick (T 2) (T 0) (.c (.bool false))) <|
 og (T 0) true (.mov (T 8)) <|
 og (T 1) true (ne (T 0) (K 16)) <|
 o (.pick (T 2) (T 0) (.c (.bool false))) <|
 og (T 0) true (.mov (T 11)) <|
 og (T 1) true (ne (T 0) (K 17)) <|
 o (.pick (T 2) (T 0) (.c (.bool false))) <|
 ret [(T 0)], false, [none]⟩
def f102 : LF := ⟨1,
 o (.box 7 (T 0)) <|
 o (.faddr 0 (T 0)) <|
 o (ld (T 0)) <|
 o (eq (T 0) (K 8)) <|
 .cond (T 0)
  (o (.faddr 1 (T 3)) <|
  o (ld (T 0)) <|
  o (sb (T 0) (K 1)) <|
  ret [(T 0)])
  (o (.faddr 0 (T 3)) <|
  o (ld (T 0)) <|
  o (eq (T 0) (K 12)) <|
  og (T 0) false (.faddr 0 (T 6)) <|
  og (T 1) false (ld (T 0)) <|
  og (T 2) false (eq (T 0) (K 14)) <|
  o (.pick (T 3) (.c (.bool true)) (T 0)) <|
  .cond (T 0)
   (o (.faddr 1 (T 10)) <|
   o (ld (T 0)) <|
   o (.bin .quo (T 0) (K 2)) <|
   ret [(T 0)])
   (ret [(K 0)])), false, [none]⟩
def f103 : LF := ⟨4,
 o (ix 3 (T 2) (T 1)) <|
 o (.faddr 0 (T 0)) <|
 o (ld (T 0)) <|
 bl 0 [10]
  (.loop [10] [(T 3)] <|
  o (.bin .geq (T 0) (K 0)) <|
  og (T 0) true (.mov (T 7)) <|
  og (T 1) true (.mov (T 2)) <|
  og (T 2) true (ix 3 (T 1) (T 0)) <|
  og (T 3) true (.faddr 0 (T 0)) <|
  og (T 4) true (ld (T 0)) <|
  og (T 5) true (.mov (T 7)) <|
  og (T 6) true (ne (T 1) (T 0)) <|
  o (.pick (T 7) (T 0) (.c (.bool false))) <|
  .cond (T 0)
   (bl 1 [10]
    (o (ix 3 (T 15) (T 9)) <|
    o (.faddr 0 (T 0)) <|
    o (ld (T 0)) <|
    nrm [(T 0)]) <|
   nrm [(T 0)])
   (ex 0 [(T 9)])) <|
 o (lt (T 0) (K 0)) <|
 og (T 0) false (.mov (T 1)) <|
 og (T 1) false (.mov (T 7)) <|
 og (T 2) false (eq (T 1) (T 0)) <|
 o (.pick (T 3) (.c (.bool true)) (T 0)) <|
 .cond (T 0)
  (ret [(.c (.bool false))])
  (o (ix 3 (T 11) (T 5)) <|
  o (.faddr 1 (T 0)) <|
  o (ld (T 0)) <|
  o (ix 3 (T 14) (T 8)) <|
  o (.faddr 1 (T 0)) <|
  o (ld (T 0)) <|
  o (ix 7 (T 18) (T 12)) <|
  o (.faddr 1 (T 0)) <|
  o (ld (T 0)) <|
  o (sb (T 0) (K 1)) <|
  o (eq (T 4) (T 0)) <|
  ck (.mov (T 22)) (T 22) <|
  ck (.mov (T 16)) (T 16) <|
  ck (ix 3 (T 22) (T 16)) (T 10) <|
  ck (ld (T 9)) (T 8) <|
  ck (.mov (T 22)) (T 22) <|
  ck (.mov (T 16)) (T 16) <|
  ck (ix 3 (T 22) (T 16)) (T 7) <|
  ck (ld (T 6)) (T 5) <|
  ck (.mov (T 23)) (T 23) <|
  ck (.mov (T 17)) (T 17) <|
  ck (ix 7 (T 23) (T 17)) (T 4) <|
  ck (ld (T 3)) (T 2) <|
  ck (.mov (T 22)) (T 22) <|
  ck (.mov (T 16)) (T 16) <|
  ck (ix 3 (T 22) (T 16)) (T 7) <|
  ck (ld (T 6)) (T 5) <|
  ck (.mov (T 23)) (T 23) <|
  ck (.mov (T 17)) (T 17) <|
  ck (ix 7 (T 23) (T 17)) (T 4) <|
  ck (ld (T 3)) (T 2) <|
  o (ix 7 (T 23) (T 17)) <|
  o (.faddr 0 (T 0)) <|
  o (ld (T 0)) <|
  bl 2 []
   (o (eq (T 0) (K 8)) <|
   jn [64]
    (.cond (T 0)
     (nrm [(T 0)])
     (o (eq (T 1) (K 12)) <|
     nrm [(T 0)])) <|
   .cond (T 0)
    (ret [(T 5)])
    (o (eq (T 2) (K 13)) <|
    .cond (T 0)
     (og (T 6) false (.mov (T 14)) <|
     og (T 7) false (.bin .rem (T 0) (K 2)) <|
     og (T 8) false (eq (T 0) (K 1)) <|
     og (T 9) false (.mov (T 0)) <|
     og (T 0) true (.mov (T 18)) <|
     og (T 1) true (.mov (T 33)) <|
     og (T 2) true (.mov (T 33)) <|
     og (T 3) true (ix 3 (T 1) (T 0)) <|
     og (T 4) true (.faddr 1 (T 0)) <|
     og (T 5) true (ld (T 0)) <|
     og (T 6) true (ad (T 0) (K 1)) <|
     og (T 7) true (.bin .gtr (T 6) (T 0)) <|
     og (T 18) false (.pick (T 8) (T 0) (.c (.bool false))) <|
     o (.pick (T 19) (.c (.bool true)) (T 0)) <|
     ret [(T 0)])
     (nrm []))) <|
  og (T 3) false (.mov (T 11)) <|
  og (T 4) false (.bin .rem (T 0) (K 2)) <|
  og (T 5) false (eq (T 0) (K 1)) <|
  o (.pick (T 6) (.c (.bool true)) (T 0)) <|
  ret [(T 0)]), false, [none]⟩
def f104 : LF := ⟨4,
 bl 0 []
  (.loop [1, 2, 3, 8, 9] [(T 2), (T 1), (T 0), (.c (.bool true)), (.c (.bool true))] <|
  bl 1 [1, 2, 3, 8, 9]
   (o (sb (T 1) (T 0)) <|
   o (.bin .leq (T 0) (K 12)) <|
   .cond (T 0)
    (o (call 137 [(T 10), (T 2), (T 3)]) <|
    ret [])
    (o (eq (T 4) (K 0)) <|
    .cond (T 0)
     (o (call 138 [(T 11), (T 3), (T 4)]) <|
     ret [])
     (o (.un .not (T 6)) <|
     jn [3]
      (.cond (T 0)
       (o (call 139 [(T 12), (T 4), (T 5)]) <|
       o (sb (T 7) (K 1)) <|
       nrm [(T 0)])
       (nrm [(T 6)])) <|
     o (call 140 [(T 13), (T 5), (T 6)]) <|
     o (.extract (T 0) 0) <|
     o (.extract (T 1) 1) <|
     o (eq (T 0) (K 2)) <|
     jn [11, 12]
      (.cond (T 0)
       (o (call 141 [(T 17), (T 9), (T 10)]) <|
       o (sb (T 11) (K 1)) <|
       o (sb (T 4) (T 11)) <|
       o (sb (T 1) (T 0)) <|
       nrm [(T 0), (K 1)])
       (nrm [(T 2), (T 1)])) <|
     og (T 14) true (.mov (T 15)) <|
     o (.pick (T 15) (T 0) (.c (.bool false))) <|
     og (T 0) true (.mov (T 3)) <|
     og (T 1) true (eq (T 0) (K 1)) <|
     o (.pick (T 2) (T 0) (.c (.bool false))) <|
     jn []
      (.cond (T 0)
       (o (call 142 [(T 24), (T 16), (T 17)]) <|
       .cond (T 0)
        (ret [])
        (nrm []))
       (nrm [])) <|
     o (.bin .gtr (T 16) (K 0)) <|
     og (T 0) true (.mov (T 25)) <|
     og (T 1) true (.mov (T 18)) <|
     og (T 2) true (sb (T 0) (K 1)) <|
     og (T 3) true (ix 1 (T 2) (T 0)) <|
     og (T 4) true (ld (T 0)) <|
     og (T 5) true (.mov (T 30)) <|
     og (T 6) true (.mov (T 12)) <|
     og (T 7) true (ix 1 (T 1) (T 0)) <|
     og (T 8) true (ld (T 0)) <|
     ck (.mov (T 26)) (T 26) <|
     ck (.mov (T 9)) (T 9) <|
     ckg (T 9) true (ix 1 (T 8) (T 6)) (T 5) <|
     ckg (T 9) true (ld (T 5)) (T 4) <|
     ckg (T 9) true (ix 1 (T 3) (T 2)) (T 1) <|
     ckg (T 9) true (ld (T 1)) (T 0) <|
     og (T 9) true (call 143 [(T 4), (T 0)]) <|
     og (T 10) true (.un .not (T 0)) <|
     o (.pick (T 11) (T 0) (.c (.bool false))) <|
     .cond (T 0)
      (o (call 144 [(T 37), (T 29), (T 30), (T 18)]) <|
      ex 1 [(T 0), (T 31), (T 25), (T 33), (T 34)])
      (o (call 145 [(T 37), (T 29), (T 30), (T 18)]) <|
      o (.extract (T 0) 0) <|
      o (.extract (T 1) 1) <|
      o (sb (T 1) (T 32)) <|
      o (sb (T 34) (T 2)) <|
      o (.bin .quo (T 33) (K 8)) <|
      o (lt (T 2) (T 1)) <|
      .cond (T 0)
       (o (.bin .geq (T 3) (T 1)) <|
       o (call 104 [(T 45), (T 37), (T 6), (T 32)]) <|
       o (ad (T 7) (K 1)) <|
       nrm [(T 0), (T 40), (T 34), (T 2), (T 7)])
       (o (.bin .geq (T 2) (T 1)) <|
       o (ad (T 6) (K 1)) <|
       o (call 104 [(T 46), (T 0), (T 39), (T 33)]) <|
       nrm [(T 39), (T 8), (T 34), (T 2), (T 7)]))))) <|
  nrm [(T 0), (T 1), (T 2), (T 3), (T 4)]) <|
 nrm [], false, []⟩
def f105 : LF := ⟨1,
 .cond (.c (.bool false))
  (o (.cint .u32 (T 0)) <|
  o (call 146 [(T 0)]) <|
  ret [(T 0)])
  (o (call 147 [(T 0)]) <|
  ret [(T 0)]), false, [none]⟩
def f106 : LF := ⟨1,
 o (.len .slice (T 0)) <|
 o (.bin .mul (K 2) (T 0)) <|
 o (.mksl [(.int .u8 0)] 1 (K 0) (T 0)) <|
 o (.len .slice (T 3)) <|
 bl 0 [3]
  (.loop [3, 12] [(T 1), (K 0)] <|
  o (lt (T 1) (T 2)) <|
  .cond (T 0)
   (bl 1 [3]
    (o (ix 1 (T 7) (T 2)) <|
    o (ld (T 0)) <|
    o (.bin .shr (T 0) (.c (.int .u64 8))) <|
    o (.cint .u8 (T 0)) <|
    o (.cint .u8 (T 2)) <|
    o (.bsl false [(.int .u8 0)] 2 [(0, (T 1)), (1, (T 0))]) <|
    o (.append 1 1 (T 7) (T 0)) <|
    nrm [(T 0)]) <|
   o (ad (T 3) (K 1)) <|
   nrm [(T 1), (T 0)])
   (ex 0 [(T 1)])) <|
 o (.b2s (T 0)) <|
 ret [(T 0)], false, [none]⟩
def f107 : LF := ⟨1,
 o (.box 4 (T 0)) <|
 bl 0 []
  (o (.faddr 0 (T 0)) <|
  o (ld (T 0)) <|
  o (eq (T 0) (.c S0)) <|
  .cond (T 0)
   (ret [(K 6)])
   (o (.faddr 0 (T 3)) <|
   o (ld (T 0)) <|
   o (.len .str (T 0)) <|
   o (.bin .gtr (T 0) (K 24)) <|
   .cond (T 0)
    (ret [(K 3)])
    (nrm []))) <|
 o (.faddr 1 (T 0)) <|
 o (ld (T 0)) <|
 o (call 73 [(T 0)]) <|
 o (ne (T 0) (K 0)) <|
 .cond (T 0)
  (ret [(T 1)])
  (o (.faddr 2 (T 4)) <|
  o (ld (T 0)) <|
  o (lt (T 0) (K 1)) <|
  og (T 0) false (.faddr 2 (T 7)) <|
  og (T 1) false (ld (T 0)) <|
  og (T 2) false (.bin .gtr (T 0) (K 4)) <|
  o (.pick (T 3) (.c (.bool true)) (T 0)) <|
  og (T 0) false (.faddr 3 (T 11)) <|
  og (T 1) false (ld (T 0)) <|
  og (T 2) false (lt (T 0) (K 0)) <|
  o (.pick (T 3) (.c (.bool true)) (T 0)) <|
  .cond (T 0)
   (ret [(K 7)])
   (ret [(K 0)])), false, [none]⟩
def f108 : LF := ⟨1,
 o (.box 4 (T 0)) <|
 o (.alloc [S0, S0]) <|
 o (.faddr 0 (T 1)) <|
 o (ld (T 0)) <|
 o (.faddr 1 (T 3)) <|
 o (ld (T 0)) <|
 o (.build [S0, S0] [(0, 1, (T 2)), (1, 1, (T 0))]) <|
 o (.store 2 (T 5) (T 0)) <|
 ret [(T 6)], false, [some (true, 2)]⟩
end Go.Am.K19
