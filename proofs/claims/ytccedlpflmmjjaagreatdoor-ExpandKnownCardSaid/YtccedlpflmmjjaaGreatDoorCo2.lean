/- The compiled texts of the functions, second part. -/
import Derived.Test.YtccedlpflmmjjaaGreatDoorLc1
namespace Go.Am.K19
open Go Go.Am Go.Am.L
def f109 : LF := ⟨2,
 o (eq (T 1) (.c S0)) <|
 og (T 0) false (.mov (T 1)) <|
 og (T 1) false (eq (T 0) (.c S0)) <|
 o (.pick (T 2) (.c (.bool true)) (T 0)) <|
 .cond (T 0)
  (ret [(T 5)])
  (o (.len .str (T 4)) <|
  o (eq (T 0) (K 1)) <|
  og (T 0) true (.mov (T 6)) <|
  og (T 1) true (.idx none (T 0) (K 0)) <|
  og (T 2) true (lt (T 0) (.c (.int .u8 128))) <|
  o (.pick (T 3) (T 0) (.c (.bool false))) <|
  .cond (T 0)
   (o (.idx none (T 10) (K 0)) <|
   o (call 148 [(T 12), (T 0)]) <|
   ret [(T 0)])
   (o (call 149 [(T 10)]) <|
   o (.extract (T 0) 0) <|
   o (.extract (T 1) 1) <|
   o (.alloc [(.bool false), (.bool false), (.bool false), (.bool false), (.bool false), (.bool false), (.bool false), (.bool false), (.bool false), (.bool false), (.bool false), (.bool false), (.bool false), (.bool false), (.bool false), (.bool false), (.bool false), (.bool false), (.bool false), (.bool false), (.bool false), (.bool false), (.bool false), (.bool false), (.bool false), (.bool false), (.bool false), (.bool false), (.bool false), (.bool false), (.bool false), (.bool false), (.bool false), (.bool false), (.bool false), (.bool false), (.bool false), (.bool false), (.bool false), (.bool false), (.bool false), (.bool false), (.bool false), (.bool false), (.bool false), (.bool false), (.bool false), (.bool false), (.bool false), (.bool false), (.bool false), (.bool false), (.bool false), (.bool false), (.bool false), (.bool false), (.bool false), (.bool false), (.bool false), (.bool false), (.bool false), (.bool false), (.bool false), (.bool false), (.bool false), (.bool false), (.bool false), (.bool false), (.bool false), (.bool false), (.bool false), (.bool false), (.bool false), (.bool false), (.bool false), (.bool false), (.bool false), (.bool false), (.bool false), (.bool false), (.bool false), (.bool false), (.bool false), (.bool false), (.bool false), (.bool false), (.bool false), (.bool false), (.bool false), (.bool false), (.bool false), (.bool false), (.bool false), (.bool false), (.bool false), (.bool false), (.bool false), (.bool false), (.bool false), (.bool false), (.bool false), (.bool false), (.bool false), (.bool false), (.bool false), (.bool false), (.bool false), (.bool false), (.bool false), (.bool false), (.bool false), (.bool false), (.bool false), (.bool false), (.bool false), (.bool false), (.bool false), (.bool false), (.bool false), (.bool false), (.bool false), (.bool false), (.bool false), (.bool false), (.bool false), (.bool false), (.bool false), (.bool false), (.bool false), (.bool false), (.bool false), (.bool false), (.bool false), (.bool false), (.bool false), (.bool false), (.bool false), (.bool false), (.bool false), (.bool false), (.bool false), (.bool false), (.bool false), (.bool false), (.bool false), (.bool false), (.bool false), (.bool false), (.bool false), (.bool false), (.bool false), (.bool false), (.bool false), (.bool false), (.bool false), (.bool false), (.bool false), (.bool false), (.bool false), (.bool false), (.bool false), (.bool false), (.bool false), (.bool false), (.bool false), (.bool false), (.bool false), (.bool false), (.bool false), (.bool false), (.bool false), (.bool false), (.bool false), (.bool false), (.bool false), (.bool false), (.bool false), (.bool false), (.bool false), (.bool false), (.bool false), (.bool false), (.bool false), (.bool false), (.bool false), (.bool false), (.bool false), (.bool false), (.bool false), (.bool false), (.bool false), (.bool false), (.bool false), (.bool false), (.bool false), (.bool false), (.bool false), (.bool false), (.bool false), (.bool false), (.bool false), (.bool false), (.bool false), (.bool false), (.bool false), (.bool false), (.bool false), (.bool false), (.bool false), (.bool false), (.bool false), (.bool false), (.bool false), (.bool false), (.bool false), (.bool false), (.bool false), (.bool false), (.bool false), (.bool false), (.bool false), (.bool false), (.bool false), (.bool false), (.bool false), (.bool false), (.bool false), (.bool false), (.bool false), (.bool false), (.bool false), (.bool false), (.bool false), (.bool false), (.bool false), (.bool false), (.bool false), (.bool false), (.bool false), (.bool false), (.bool false), (.bool false), (.bool false), (.bool false), (.bool false), (.bool false), (.bool false), (.bool false), (.bool false), (.bool false), (.bool false), (.bool false), (.bool false), (.bool false), (.bool false), (.bool false)]) <|
   o (.store 256 (T 0) (T 2)) <|
   .cond (T 2)
    (o (call 150 [(T 16), (T 1)]) <|
    ret [(T 0)])
    (o (call 151 [(T 16), (T 15)]) <|
    ret [(T 0)]))), false, [none]⟩
def f110 : LF := ⟨2,
 o (call 152 [(T 1), (T 0)]) <|
 ret [(T 0)], false, [none]⟩
def f114 : LF := ⟨1,
 bl 0 []
  (o (call 157 [(T 0)]) <|
  o (.un .not (T 0)) <|
  .cond (T 0)
   (ret [(K 0), (K 7)])
   (o (.bin .geq (T 2) (.c (.int .i32 48))) <|
   og (T 0) true (.mov (T 3)) <|
   og (T 1) true (.bin .leq (T 0) (.c (.int .i32 57))) <|
   o (.pick (T 2) (T 0) (.c (.bool false))) <|
   .cond (T 0)
    (ret [(K 7), (K 0)])
    (o (.bin .geq (T 6) (.c (.int .i32 97))) <|
    og (T 0) true (.mov (T 7)) <|
    og (T 1) true (.bin .leq (T 0) (.c (.int .i32 122))) <|
    o (.pick (T 2) (T 0) (.c (.bool false))) <|
    jn [17]
     (.cond (T 0)
      (nrm [(T 0)])
      (o (.bin .geq (T 10) (.c (.int .i32 65))) <|
      og (T 0) true (.mov (T 11)) <|
      og (T 1) true (.bin .leq (T 0) (.c (.int .i32 90))) <|
      o (.pick (T 2) (T 0) (.c (.bool false))) <|
      .cond (T 0)
       (nrm [(T 0)])
       (o (.bin .gtr (T 14) (.c (.int .i32 160))) <|
       nrm [(T 0)]))) <|
    .cond (T 0)
     (ret [(K 9), (K 0)])
     (nrm [])))) <|
 o (call 158 []) <|
 bl 1 []
  (.loop [33] [(K 0)] <|
  o (lt (T 0) (K 10)) <|
  .cond (T 0)
   (bl 2 []
    (o (.idx (some (10, 1, false)) (T 2) (T 1)) <|
    o (call 159 [(T 0), (T 4)]) <|
    .cond (T 0)
     (ret [(T 3), (K 0)])
     (nrm [])) <|
   o (ad (T 1) (K 1)) <|
   nrm [(T 0)])
   (ex 1 [])) <|
 ret [(K 10), (K 0)], false, [none, none]⟩
def f115 : LF := ⟨1,
 o (.box 1 (T 0)) <|
 o (.mkfn (.func 160) [] [(T 0)]) <|
 ret [(T 0)], false, [none]⟩
def f116 : LF := ⟨2,
 o (call 161 [(T 1)]) <|
 o (.extract (T 0) 0) <|
 o (.extract (T 1) 1) <|
 o (eq (T 0) (K 0)) <|
 og (T 0) true (.mov (T 4)) <|
 og (T 1) true (lt (T 0) (K 0)) <|
 og (T 2) true (.mov (T 0)) <|
 og (T 0) false (.mov (T 7)) <|
 og (T 1) false (.bin .gtr (T 0) (K 65535)) <|
 og (T 5) true (.pick (T 2) (.c (.bool true)) (T 0)) <|
 o (.pick (T 6) (T 0) (.c (.bool false))) <|
 jn [7]
  (.cond (T 0)
   (nrm [(K 7)])
   (nrm [(T 8)])) <|
 o (ne (T 0) (K 0)) <|
 .cond (T 0)
  (ret [(.c (.list .nil [])), (K 0), (.c (.bool false)), (T 1)])
  (o (call 162 [(T 11), (T 13)]) <|
  o (.extract (T 0) 0) <|
  o (.extract (T 1) 1) <|
  ret [(T 14), (T 1), (T 0), (K 0)]), false, [none, none, none, none]⟩
def f117 : LF := ⟨3,
 o (.slice false 1 (T 2) (some (T 1)) none none) <|
 o (.len .slice (T 1)) <|
 o (eq (T 0) (K 0)) <|
 .cond (T 0)
  (ret [(T 5)])
  (o (.len .slice (T 5)) <|
  o (eq (T 5) (T 0)) <|
  .cond (T 0)
   (o (.append 1 8 (T 7) (T 5)) <|
   ret [(T 0)])
   (o (ad (T 1) (T 3)) <|
   o (.bad) <|
   o (.bin .gtr (T 1) (T 0)) <|
   .cond (T 0)
    (o (.slice false 1 (T 10) none (some (T 9)) none) <|
    o (ad (T 5) (T 7)) <|
    o (sb (T 0) (T 11)) <|
    o (.bad) <|
    o (.slice false 1 (T 0) (some (T 13)) none none) <|
    o (.copy 1 (T 0) (T 13)) <|
    o (ad (T 15) (T 12)) <|
    o (.slice false 1 (T 3) (some (T 0)) none none) <|
    o (.slice false 1 (T 18) (some (T 17)) none none) <|
    ck (.mov (T 5)) (T 5) <|
    ck (.mov (T 18)) (T 18) <|
    ck (.mov (T 15)) (T 15) <|
    ck (.slice false 1 (T 5) (some (T 2)) none none) (T 1) <|
    ck (.mov (T 19)) (T 19) <|
    ck (.mov (T 18)) (T 18) <|
    ck (.slice false 1 (T 19) (some (T 18)) none none) (T 0) <|
    o (.copy 1 (T 1) (T 0)) <|
    ret [(T 6)])
    (o (ad (T 4) (T 6)) <|
    o (.slice false 1 (T 11) none (some (T 0)) none) <|
    o (ad (T 11) (T 8)) <|
    o (.slice false 1 (T 1) (some (T 0)) none none) <|
    o (call 163 [(T 12), (T 0)]) <|
    o (.un .not (T 0)) <|
    .cond (T 0)
     (o (ad (T 15) (T 12)) <|
     o (.slice false 1 (T 5) (some (T 0)) none none) <|
     o (.slice false 1 (T 6) (some (T 17)) none none) <|
     ck (.mov (T 7)) (T 7) <|
     ck (.mov (T 18)) (T 18) <|
     ck (.mov (T 15)) (T 15) <|
     ck (.slice false 1 (T 7) (some (T 2)) none none) (T 1) <|
     ck (.mov (T 7)) (T 7) <|
     ck (.mov (T 18)) (T 18) <|
     ck (.slice false 1 (T 7) (some (T 18)) none none) (T 0) <|
     o (.copy 1 (T 1) (T 0)) <|
     o (.slice false 1 (T 8) (some (T 19)) none none) <|
     o (.copy 1 (T 0) (T 19)) <|
     ret [(T 10)])
     (o (.slice false 1 (T 4) (some (T 10)) none none) <|
     o (.copy 1 (T 0) (T 15)) <|
     o (.slice false 1 (T 6) (some (T 17)) none none) <|
     o (call 164 [(T 0), (T 15)]) <|
     ret [(T 8)])))), false, [none]⟩
def f118 : LF := ⟨3,
 o (.box 1 (T 2)) <|
 o (ld (T 0)) <|
 o (call 165 [(T 0), (T 3), (T 2)]) <|
 o (.extract (T 0) 0) <|
 o (.extract (T 1) 1) <|
 bl 0 []
  (o (ne (T 0) (K 0)) <|
  .cond (T 0)
   (ret [(K 0), (T 1)])
   (o (.len .slice (T 2)) <|
   o (eq (T 0) (K 0)) <|
   .cond (T 0)
    (ret [(K 0), (K 10)])
    (nrm []))) <|
 o (.mkfn (.func 167) [] [(T 4)]) <|
 o (call 166 [(T 2), (T 0)]) <|
 o (.extract (T 0) 0) <|
 o (.extract (T 1) 1) <|
 o (.un .not (T 0)) <|
 .cond (T 0)
  (ret [(K 0), (K 11)])
  (ret [(T 2), (K 0)]), false, [none, none]⟩
def f119 : LF := ⟨2,
 o (call 25 [(T 1)]) <|
 o (.extract (T 0) 0) <|
 o (.extract (T 1) 1) <|
 o (ne (T 0) (K 0)) <|
 .cond (T 0)
  (ret [(.c (.list .nil [])), (T 1)])
  (o (.len .slice (T 5)) <|
  o (.mksl [(I 0), (I 0), (I 0), S0] 40 (K 0) (T 0)) <|
  o (.len .slice (T 7)) <|
  bl 0 [8]
   (.loop [8, 24] [(T 1), (K 0)] <|
   o (lt (T 1) (T 2)) <|
   .cond (T 0)
    (bl 1 [8]
     (o (ix 8 (T 11) (T 2)) <|
     o (ldn 8 (T 0)) <|
     o (.alloc [(I 0), (I 0), (I 0), S0, S0, (I 0), (I 0), (I 0)]) <|
     o (.store 8 (T 0) (T 1)) <|
     o (ldn 8 (T 1)) <|
     o (.callv (T 15) [(T 0)]) <|
     o (.bsl false [(I 0), (I 0), (I 0), S0] 1 [(0, (T 0))]) <|
     o (.append 4 40 (T 8) (T 0)) <|
     nrm [(T 0)]) <|
    o (ad (T 3) (K 1)) <|
    nrm [(T 1), (T 0)])
    (ex 0 [(T 1)])) <|
  ret [(T 0), (K 0)]), false, [none, none]⟩
def f120 : LF := ⟨1,
 o (.box 8 (T 0)) <|
 o (.alloc [(I 0), (I 0), (I 0), S0]) <|
 o (.faddr 0 (T 1)) <|
 o (ld (T 0)) <|
 o (.faddr 1 (T 3)) <|
 o (ld (T 0)) <|
 o (.faddr 2 (T 5)) <|
 o (ld (T 0)) <|
 o (.faddr 3 (T 7)) <|
 o (ld (T 0)) <|
 o (.build [(I 0), (I 0), (I 0), S0] [(0, 1, (T 6)), (1, 1, (T 4)), (2, 1, (T 2)), (3, 1, (T 0))]) <|
 o (.store 4 (T 9) (T 0)) <|
 ret [(T 10)], false, [some (true, 4)]⟩
def f121 : LF := ⟨1,
 bl 0 []
  (o (.len .slice (T 0)) <|
  o (eq (T 0) (K 0)) <|
  .cond (T 0)
   (ret [(K 0), (K 6)])
   (o (.len .slice (T 2)) <|
   o (.bin .gtr (T 0) (K 400)) <|
   .cond (T 0)
    (ret [(K 0), (K 3)])
    (nrm []))) <|
 o (.bsl true [(I 0)] 1 [(0, (K 1))]) <|
 o (.len .slice (T 1)) <|
 bl 1 [4]
  (.loop [4, 20] [(T 1), (K 0)] <|
  o (lt (T 1) (T 2)) <|
  .cond (T 0)
   (bl 2 [4]
    (o (ix 4 (T 5) (T 2)) <|
    o (ldn 4 (T 0)) <|
    o (.alloc [(I 0), (I 0), (I 0), S0]) <|
    o (.store 4 (T 0) (T 1)) <|
    o (ldn 4 (T 1)) <|
    o (call 169 [(T 0)]) <|
    o (.extract (T 0) 0) <|
    o (.extract (T 1) 1) <|
    bl 3 []
     (o (.len .slice (T 9)) <|
     o (eq (T 0) (K 0)) <|
     og (T 0) false (.mov (T 3)) <|
     og (T 1) false (ne (T 0) (K 0)) <|
     o (.pick (T 2) (.c (.bool true)) (T 0)) <|
     .cond (T 0)
      (ret [(T 15), (K 6)])
      (o (.len .slice (T 14)) <|
      o (.bin .gtr (T 0) (K 33)) <|
      .cond (T 0)
       (ret [(T 17), (K 3)])
       (o (ne (T 7) (K 0)) <|
       .cond (T 0)
        (ret [(T 18), (T 8)])
        (nrm [])))) <|
    o (.len .slice (T 9)) <|
    o (sb (T 0) (K 1)) <|
    o (ix 1 (T 11) (T 0)) <|
    o (ld (T 0)) <|
    o (sb (T 0) (K 1)) <|
    o (ix 1 (T 14) (T 3)) <|
    o (.store 1 (T 0) (T 1)) <|
    o (.faddr 1 (T 12)) <|
    o (ld (T 0)) <|
    o (.bsl false [(I 0)] 1 [(0, (T 0))]) <|
    o (.append 1 8 (T 19) (T 0)) <|
    bl 4 [4]
     (.loop [4] [(T 0)] <|
     o (.len .slice (T 0)) <|
     o (.bin .gtr (T 0) (K 0)) <|
     og (T 0) true (.mov (T 2)) <|
     og (T 1) true (.mov (T 3)) <|
     og (T 2) true (.len .slice (T 0)) <|
     og (T 3) true (sb (T 0) (K 1)) <|
     og (T 4) true (ix 1 (T 3) (T 0)) <|
     og (T 5) true (ld (T 0)) <|
     og (T 6) true (eq (T 0) (K 0)) <|
     o (.pick (T 7) (T 0) (.c (.bool false))) <|
     .cond (T 0)
      (bl 5 [4]
       (o (.len .slice (T 10)) <|
       o (sb (T 0) (K 1)) <|
       o (.slice false 1 (T 12) none (some (T 0)) none) <|
       nrm [(T 0)]) <|
      nrm [(T 0)])
      (ex 4 [(T 10)])) <|
    nrm [(T 0)]) <|
   o (ad (T 3) (K 1)) <|
   nrm [(T 1), (T 0)])
   (ex 1 [(T 1)])) <|
 o (.len .slice (T 0)) <|
 o (.bin .gtr (T 0) (K 0)) <|
 .cond (T 0)
  (o (.len .slice (T 5)) <|
  ret [(T 0), (K 6)])
  (ret [(K 0), (K 0)]), false, [none, none]⟩
def f122 : LF := ⟨1,
 o (.bin .geq (T 0) (K 1)) <|
 og (T 0) true (.mov (T 1)) <|
 og (T 1) true (.bin .leq (T 0) (K 18)) <|
 o (.pick (T 2) (T 0) (.c (.bool false))) <|
 og (T 0) true (.mov (T 4)) <|
 og (T 1) true (ne (T 0) (K 7)) <|
 o (.pick (T 2) (T 0) (.c (.bool false))) <|
 ret [(T 0)], false, [none]⟩
def f123 : LF := ⟨3,
 o (.alloc [(I 0), (.list .nil []), (.list .nil []), (.list .nil []), (.list .nil [])]) <|
 o (.build [(I 0), (.list .nil []), (.list .nil []), (.list .nil []), (.list .nil [])] [(0, 1, (T 1))]) <|
 o (.build [(.list .nil []), (I 0), (.list .nil []), (.list .nil []), (.list .nil []), (.list .nil []), (I 0), (I 0)] [(0, 1, (T 4)), (1, 5, (T 0))]) <|
 o (.box 8 (T 0)) <|
 o (call 170 [(T 0), (T 5)]) <|
 o (.nilchk (T 1)) <|
 o (.faddr 7 (T 0)) <|
 o (ld (T 0)) <|
 o (ne (T 0) (K 0)) <|
 .cond (T 0)
  (o (ldn 5 (T 8)) <|
  o (.nilchk (T 6)) <|
  o (.faddr 6 (T 0)) <|
  o (ld (T 0)) <|
  o (.nilchk (T 9)) <|
  o (.faddr 7 (T 0)) <|
  o (ld (T 0)) <|
  ck (ldn 5 (T 15)) (T 6) <|
  ck (.mov (T 12)) (T 12) <|
  ck (ld (T 4)) (T 3) <|
  ck (.mov (T 12)) (T 12) <|
  ck (ld (T 1)) (T 0) <|
  o (.store 5 (T 15) (T 6)) <|
  ck (.mov (T 13)) (T 13) <|
  ck (ld (T 5)) (T 4) <|
  ck (.mov (T 13)) (T 13) <|
  ck (ld (T 2)) (T 1) <|
  ck (.mov (T 13)) (T 13) <|
  ck (ld (T 2)) (T 1) <|
  ret [(T 16), (T 4), (T 1)])
  (o (.nilchk (T 5)) <|
  o (.faddr 1 (T 0)) <|
  o (ldn 5 (T 0)) <|
  o (.store 5 (T 11) (T 0)) <|
  ret [(T 12), (K 0), (K 0)]), false, [some (true, 5), none, none]⟩
def f125 : LF := ⟨2,
 o (.eqv .iface false true (T 1) (.c .nili)) <|
 .cond (T 0)
  (ret [(.c (.bool false))])
  (o (.eqv .iface false true (T 1) (.c .nili)) <|
  jn []
   (.cond (T 0)
    (o (.mkif 9 (.c (.str [101, 114, 114, 111, 114, 115, 58, 32, 116, 97, 114, 103, 101, 116, 32, 99, 97, 110, 110, 111, 116, 32, 98, 101, 32, 110, 105, 108]))) <|
    o (.panic (T 0)) <|
    nrm [])
    (nrm [])) <|
  o (call 175 [(T 2)]) <|
  o (.alloc [.nilp, .nilp, (.int .u64 0)]) <|
  o (.store 3 (T 0) (T 1)) <|
  o (ldn 3 (T 1)) <|
  o (call 176 [(T 0)]) <|
  o (.calli (T 0) "Kind" []) <|
  o (ne (T 0) (.c (.int .u8 22))) <|
  og (T 0) false (ldn 3 (T 5)) <|
  og (T 1) false (call 177 [(T 0)]) <|
  o (.pick (T 2) (.c (.bool true)) (T 0)) <|
  jn []
   (.cond (T 0)
    (o (.mkif 9 (.c (.str [101, 114, 114, 111, 114, 115, 58, 32, 116, 97, 114, 103, 101, 116, 32, 109, 117, 115, 116, 32, 98, 101, 32, 97, 32, 110, 111, 110, 45, 110, 105, 108, 32, 112, 111, 105, 110, 116, 101, 114]))) <|
    o (.panic (T 0)) <|
    nrm [])
    (nrm [])) <|
  o (.calli (T 5) "Elem" []) <|
  o (.calli (T 0) "Kind" []) <|
  o (ne (T 0) (.c (.int .u8 20))) <|
  og (T 0) true (.mov (T 2)) <|
  og (T 1) true (ld (.c .any)) <|
  og (T 2) true (.calli (T 1) "Implements" [(T 0)]) <|
  og (T 3) true (.un .not (T 0)) <|
  o (.pick (T 4) (T 0) (.c (.bool false))) <|
  jn []
   (.cond (T 0)
    (o (.mkif 9 (.c (.str [101, 114, 114, 111, 114, 115, 58, 32, 42, 116, 97, 114, 103, 101, 116, 32, 109, 117, 115, 116, 32, 98, 101, 32, 105, 110, 116, 101, 114, 102, 97, 99, 101, 32, 111, 114, 32, 105, 109, 112, 108, 101, 109, 101, 110, 116, 32, 101, 114, 114, 111, 114]))) <|
    o (.panic (T 0)) <|
    nrm [])
    (nrm [])) <|
  o (ldn 3 (T 16)) <|
  o (call 178 [(T 22), (T 21), (T 0), (T 8)]) <|
  ret [(T 0)]), false, [none]⟩
def f126 : LF := ⟨2,
 o (.box 2 (T 1)) <|
 o (.box 2 (T 1)) <|
 o (.alloc [(I 0), (.list .nil [])]) <|
 o (ldn 2 (T 2)) <|
 o (call 179 [(T 0)]) <|
 o (ne (T 0) (K 0)) <|
 .cond (T 0)
  (o (ldn 2 (T 5)) <|
  o (.store 2 (T 4) (T 0)) <|
  ret [(T 5), (T 3)])
  (o (ldn 2 (T 5)) <|
  o (ldn 2 (T 5)) <|
  o (call 180 [(T 1), (T 0)]) <|
  o (.extract (T 0) 0) <|
  o (.extract (T 1) 1) <|
  o (.alloc [(I 0), (.list .nil [])]) <|
  o (.store 2 (T 0) (T 2)) <|
  o (ldn 2 (T 1)) <|
  o (.store 2 (T 11) (T 0)) <|
  ret [(T 12), (T 4)]), false, [some (true, 2), none]⟩
def f128 : LF := ⟨1,
 o (eq (T 0) (K 4)) <|
 og (T 0) false (.mov (T 1)) <|
 og (T 1) false (eq (T 0) (K 6)) <|
 o (.pick (T 2) (.c (.bool true)) (T 0)) <|
 og (T 0) false (.mov (T 4)) <|
 og (T 1) false (eq (T 0) (K 9)) <|
 o (.pick (T 2) (.c (.bool true)) (T 0)) <|
 og (T 0) false (.mov (T 7)) <|
 og (T 1) false (eq (T 0) (K 7)) <|
 o (.pick (T 2) (.c (.bool true)) (T 0)) <|
 ret [(T 0)], false, [none]⟩
def f129 : LF := ⟨2,
 o (.box 3 (T 0)) <|
 o (.faddr 0 (T 0)) <|
 o (ld (T 0)) <|
 o (lt (T 0) (K 0)) <|
 .cond (T 0)
  (ret [(K 0)])
  (o (.nilchk (T 5)) <|
  o (.faddr 0 (T 0)) <|
  o (ld (T 0)) <|
  o (.faddr 0 (T 6)) <|
  o (ld (T 0)) <|
  o (ix 7 (T 2) (T 0)) <|
  o (ldn 7 (T 0)) <|
  o (.alloc [(I 0), (I 0), (I 0), S0, (I 0), (I 0), (I 0)]) <|
  ck (.mov (T 13)) (T 13) <|
  ck (ld (T 6)) (T 5) <|
  ck (ld (T 4)) (T 3) <|
  ck (ix 7 (T 5) (T 3)) (T 2) <|
  ck (ldn 7 (T 2)) (T 1) <|
  o (.store 7 (T 0) (T 1)) <|
  o (.faddr 0 (T 1)) <|
  o (ld (T 0)) <|
  o (.nilchk (T 16)) <|
  o (.faddr 2 (T 0)) <|
  o (.iaddr (some 25) 5 (T 0) (T 2)) <|
  o (ldn 5 (T 0)) <|
  o (.alloc [(I 0), (I 0), (I 0), (I 0), (.list .nil [])]) <|
  ck (.mov (T 21)) (T 21) <|
  ck (ld (T 6)) (T 5) <|
  ck (.iaddr (some 25) 5 (T 3) (T 5)) (T 2) <|
  ck (ldn 5 (T 2)) (T 1) <|
  o (.store 5 (T 0) (T 1)) <|
  bl 0 []
   (o (.faddr 1 (T 20)) <|
   o (ld (T 0)) <|
   o (.faddr 1 (T 11)) <|
   o (ld (T 0)) <|
   o (sb (T 0) (K 1)) <|
   o (eq (T 3) (T 0)) <|
   .cond (T 0)
    (o (.faddr 3 (T 7)) <|
    o (ld (T 0)) <|
    ret [(T 0)])
    (o (.faddr 0 (T 15)) <|
    o (ld (T 0)) <|
    o (call 130 [(T 0)]) <|
    og (T 0) true (.faddr 1 (T 29)) <|
    og (T 1) true (ld (T 0)) <|
    og (T 2) true (.bin .rem (T 0) (K 2)) <|
    og (T 3) true (eq (T 0) (K 1)) <|
    o (.pick (T 4) (T 0) (.c (.bool false))) <|
    og (T 0) true (.faddr 0 (T 23)) <|
    og (T 1) true (ld (T 0)) <|
    og (T 2) true (eq (T 0) (K 14)) <|
    o (.pick (T 3) (T 0) (.c (.bool false))) <|
    .cond (T 0)
     (ret [(K 6)])
     (o (.faddr 0 (T 27)) <|
     o (ld (T 0)) <|
     o (call 130 [(T 0)]) <|
     og (T 0) true (.faddr 1 (T 41)) <|
     og (T 1) true (ld (T 0)) <|
     og (T 2) true (.bin .rem (T 0) (K 2)) <|
     og (T 3) true (eq (T 0) (K 1)) <|
     o (.pick (T 4) (T 0) (.c (.bool false))) <|
     .cond (T 0)
      (ret [(K 0)])
      (nrm [])))) <|
  o (.faddr 2 (T 1)) <|
  o (ld (T 0)) <|
  ret [(T 0)]), false, [none]⟩
def f130 : LF := ⟨1,
 bl 0 []
  (bl 3 []
   (bl 2 []
    (bl 1 []
     (o (eq (T 0) (K 12)) <|
     .cond (T 0)
      (ex 1 [])
      (o (eq (T 1) (K 13)) <|
      .cond (T 0)
       (ex 2 [])
       (o (eq (T 2) (K 14)) <|
       .cond (T 0)
        (ex 3 [])
        (ex 0 [])))) <|
    nrm []) <|
   nrm []) <|
  ret [(.c (.bool true))]) <|
 ret [(.c (.bool false))], false, [none]⟩
def f131 : LF := ⟨2,
 o (call 80 [(T 1), (T 0)]) <|
 o (.bin .geq (T 0) (K 0)) <|
 ret [(T 0)], false, [none]⟩
def f132 : LF := ⟨3,
 o (.nilchk (T 2)) <|
 o (.faddr 1 (T 0)) <|
 o (ld (T 0)) <|
 o (ix 3 (T 0) (T 4)) <|
 o (.faddr 0 (T 0)) <|
 o (ld (T 0)) <|
 bl 0 [8]
  (.loop [8] [(T 6)] <|
  o (.bin .geq (T 0) (K 0)) <|
  og (T 0) true (.mov (T 10)) <|
  og (T 1) true (.nilchk (T 0)) <|
  og (T 2) true (.faddr 1 (T 0)) <|
  og (T 3) true (ld (T 0)) <|
  og (T 4) true (.mov (T 5)) <|
  og (T 5) true (ix 3 (T 1) (T 0)) <|
  og (T 6) true (.faddr 0 (T 0)) <|
  og (T 7) true (ld (T 0)) <|
  og (T 8) true (.mov (T 10)) <|
  og (T 9) true (ne (T 1) (T 0)) <|
  o (.pick (T 10) (T 0) (.c (.bool false))) <|
  .cond (T 0)
   (bl 1 [8]
    (o (.nilchk (T 21)) <|
    o (.faddr 1 (T 0)) <|
    o (ld (T 0)) <|
    o (ix 3 (T 0) (T 15)) <|
    o (.faddr 0 (T 0)) <|
    o (ld (T 0)) <|
    nrm [(T 0)]) <|
   nrm [(T 0)])
   (ex 0 [(T 12)])) <|
 o (lt (T 0) (K 0)) <|
 og (T 0) false (.mov (T 1)) <|
 og (T 1) false (.mov (T 10)) <|
 og (T 2) false (eq (T 1) (T 0)) <|
 o (.pick (T 3) (.c (.bool true)) (T 0)) <|
 .cond (T 0)
  (ret [(.c (.bool false))])
  (o (.nilchk (T 14)) <|
  o (.faddr 0 (T 0)) <|
  o (ld (T 0)) <|
  o (ix 7 (T 0) (T 9)) <|
  o (ldn 7 (T 0)) <|
  o (.nilchk (T 19)) <|
  o (.faddr 1 (T 0)) <|
  o (ld (T 0)) <|
  o (ix 3 (T 0) (T 13)) <|
  o (.faddr 1 (T 0)) <|
  o (ld (T 0)) <|
  o (.alloc [(I 0), (I 0), (I 0), S0, (I 0), (I 0), (I 0)]) <|
  ck (.mov (T 26)) (T 26) <|
  ck (ld (T 10)) (T 9) <|
  ck (.mov (T 18)) (T 18) <|
  ck (ix 7 (T 9) (T 18)) (T 8) <|
  ck (ldn 7 (T 8)) (T 7) <|
  ck (.mov (T 26)) (T 26) <|
  ck (ld (T 5)) (T 4) <|
  ck (.mov (T 17)) (T 17) <|
  ck (ix 3 (T 4) (T 17)) (T 3) <|
  ck (ld (T 2)) (T 1) <|
  o (.store 7 (T 0) (T 7)) <|
  ck (.mov (T 27)) (T 27) <|
  ck (ld (T 6)) (T 5) <|
  ck (.mov (T 18)) (T 18) <|
  ck (ix 3 (T 5) (T 18)) (T 4) <|
  ck (ld (T 3)) (T 2) <|
  bl 2 []
   (o (.faddr 1 (T 1)) <|
   o (ld (T 0)) <|
   o (sb (T 0) (K 1)) <|
   o (eq (T 5) (T 0)) <|
   .cond (T 0)
    (ret [(.c (.bool true))])
    (o (.faddr 0 (T 5)) <|
    o (ld (T 0)) <|
    o (eq (T 0) (K 14)) <|
    .cond (T 0)
     (o (.bin .rem (T 9) (K 2)) <|
     o (eq (T 0) (K 1)) <|
     ret [(T 0)])
     (nrm []))) <|
  o (.faddr 0 (T 1)) <|
  o (ld (T 0)) <|
  o (eq (T 0) (K 13)) <|
  og (T 0) true (.mov (T 5)) <|
  og (T 1) true (.bin .rem (T 0) (K 2)) <|
  og (T 2) true (eq (T 0) (K 1)) <|
  o (.pick (T 3) (T 0) (.c (.bool false))) <|
  og (T 0) true (.mov (T 9)) <|
  og (T 1) true (.mov (T 35)) <|
  og (T 2) true (.nilchk (T 0)) <|
  og (T 3) true (.faddr 1 (T 0)) <|
  og (T 4) true (ld (T 0)) <|
  og (T 5) true (.mov (T 38)) <|
  og (T 6) true (ix 3 (T 1) (T 0)) <|
  og (T 7) true (.faddr 1 (T 0)) <|
  og (T 8) true (ld (T 0)) <|
  og (T 9) true (ad (T 0) (K 1)) <|
  og (T 10) true (.bin .gtr (T 9) (T 0)) <|
  o (.pick (T 11) (T 0) (.c (.bool false))) <|
  ret [(T 0)]), false, [none]⟩
def f134 : LF := ⟨1,
 o (.len .str (T 0)) <|
 o (.bin .gtr (T 0) (K 0)) <|
 og (T 0) true (.mov (T 2)) <|
 og (T 1) true (.idx none (T 0) (K 0)) <|
 og (T 2) true (eq (T 0) (.c (.int .u8 43))) <|
 og (T 3) true (.mov (T 0)) <|
 og (T 0) false (.mov (T 6)) <|
 og (T 1) false (.idx none (T 0) (K 0)) <|
 og (T 2) false (eq (T 0) (.c (.int .u8 45))) <|
 og (T 7) true (.pick (T 3) (.c (.bool true)) (T 0)) <|
 o (.pick (T 8) (T 0) (.c (.bool false))) <|
 jn [0]
  (.cond (T 0)
   (o (.slice true 0 (T 11) (some (K 1)) none none) <|
   nrm [(T 0)])
   (nrm [(T 11)])) <|
 bl 0 []
  (.loop [3] [(K 0)] <|
  o (.len .str (T 1)) <|
  o (lt (T 1) (T 0)) <|
  .cond (T 0)
   (bl 1 []
    (o (.idx none (T 3) (T 2)) <|
    o (lt (T 0) (.c (.int .u8 48))) <|
    og (T 0) false (.mov (T 5)) <|
    og (T 1) false (.mov (T 5)) <|
    og (T 2) false (.idx none (T 1) (T 0)) <|
    og (T 3) false (.bin .gtr (T 0) (.c (.int .u8 57))) <|
    o (.pick (T 4) (.c (.bool true)) (T 0)) <|
    .cond (T 0)
     (ret [(.c (.bool false))])
     (nrm [])) <|
   o (ad (T 2) (K 1)) <|
   nrm [(T 0)])
   (ex 0 [])) <|
 o (.len .str (T 0)) <|
 o (.bin .gtr (T 0) (K 0)) <|
 ret [(T 0)], false, [none]⟩
def f135 : LF := ⟨1,
 o (call 184 [(T 0)]) <|
 o (.extract (T 0) 0) <|
 o (.extract (T 1) 1) <|
 o (ne (T 0) (K 0)) <|
 .cond (T 0)
  (ret [(.c (.list .nil [])), (T 1)])
  (bl 0 [6]
   (.loop [6, 7] [(.c (.list .nil [])), (K 0)] <|
   o (.len .slice (T 6)) <|
   o (lt (T 2) (T 0)) <|
   .cond (T 0)
    (bl 1 [6, 7]
     (o (call 185 [(T 8), (T 3)]) <|
     o (.extract (T 0) 0) <|
     o (.extract (T 1) 1) <|
     o (.extract (T 2) 2) <|
     o (.bsl false [(.int .i32 0)] 1 [(0, (T 2))]) <|
     o (.append 1 4 (T 7) (T 0)) <|
     o (ad (T 9) (T 3)) <|
     nrm [(T 1), (T 0)]) <|
    nrm [(T 0), (T 1)])
    (ex 0 [(T 2)])) <|
  ret [(T 0), (K 0)]), false, [none, none]⟩
def f136 : LF := ⟨1,
 o (call 186 [(T 0)]) <|
 o (.un .not (T 0)) <|
 .cond (T 0)
  (ret [(K 0), (K 7)])
  (o (call 187 [(T 2), (.c (.str [9, 10, 13, 32]))]) <|
  .cond (T 0)
   (ret [(K 1), (K 0)])
   (o (call 187 [(T 3), (.c (.str [40, 91]))]) <|
   .cond (T 0)
    (ret [(K 2), (K 0)])
    (o (call 187 [(T 4), (.c (.str [41, 93]))]) <|
    .cond (T 0)
     (ret [(K 3), (K 0)])
     (o (eq (T 5) (.c (.int .i32 39))) <|
     .cond (T 0)
      (ret [(K 4), (K 0)])
      (o (eq (T 6) (.c (.int .i32 35))) <|
      .cond (T 0)
       (ret [(K 5), (K 0)])
       (o (eq (T 7) (.c (.int .i32 59))) <|
       .cond (T 0)
        (ret [(K 6), (K 0)])
        (o (.bin .geq (T 8) (.c (.int .i32 48))) <|
        og (T 0) true (.mov (T 9)) <|
        og (T 1) true (.bin .leq (T 0) (.c (.int .i32 57))) <|
        o (.pick (T 2) (T 0) (.c (.bool false))) <|
        .cond (T 0)
         (ret [(K 7), (K 0)])
         (o (eq (T 12) (.c (.int .i32 43))) <|
         og (T 0) false (.mov (T 13)) <|
         og (T 1) false (eq (T 0) (.c (.int .i32 45))) <|
         o (.pick (T 2) (.c (.bool true)) (T 0)) <|
         .cond (T 0)
          (ret [(K 8), (K 0)])
          (o (.bin .geq (T 16) (.c (.int .i32 97))) <|
          og (T 0) true (.mov (T 17)) <|
          og (T 1) true (.bin .leq (T 0) (.c (.int .i32 122))) <|
          o (.pick (T 2) (T 0) (.c (.bool false))) <|
          og (T 0) false (.mov (T 20)) <|
          og (T 1) false (.bin .geq (T 0) (.c (.int .i32 65))) <|
          og (T 2) false (.mov (T 0)) <|
          og (T 0) true (.mov (T 23)) <|
          og (T 1) true (.bin .leq (T 0) (.c (.int .i32 90))) <|
          og (T 5) false (.pick (T 2) (T 0) (.c (.bool false))) <|
          o (.pick (T 6) (.c (.bool true)) (T 0)) <|
          og (T 0) false (.mov (T 27)) <|
          og (T 1) false (.bin .geq (T 0) (.c (.int .i32 161))) <|
          o (.pick (T 2) (.c (.bool true)) (T 0)) <|
          og (T 0) false (.mov (T 30)) <|
          og (T 1) false (call 187 [(T 0), (.c (.str [33, 36, 37, 38, 42, 47, 58, 60, 61, 62, 63, 94, 95, 126, 46, 64]))]) <|
          o (.pick (T 2) (.c (.bool true)) (T 0)) <|
          .cond (T 0)
           (ret [(K 9), (K 0)])
           (ret [(K 10), (K 0)])))))))))), false, [none, none]⟩
def f137 : LF := ⟨3,
 o (ad (T 1) (K 1)) <|
 bl 0 []
  (.loop [6] [(T 0)] <|
  o (lt (T 0) (T 2)) <|
  .cond (T 0)
   (bl 1 []
    (bl 2 []
     (.loop [7] [(T 1)] <|
     o (.bin .gtr (T 0) (T 5)) <|
     og (T 0) true (.mov (T 7)) <|
     og (T 1) true (.mov (T 2)) <|
     og (T 2) true (ix 1 (T 1) (T 0)) <|
     og (T 3) true (ld (T 0)) <|
     og (T 4) true (.mov (T 11)) <|
     og (T 5) true (.mov (T 6)) <|
     og (T 6) true (sb (T 0) (K 1)) <|
     og (T 7) true (ix 1 (T 2) (T 0)) <|
     og (T 8) true (ld (T 0)) <|
     ck (.mov (T 10)) (T 10) <|
     ck (.mov (T 15)) (T 15) <|
     ck (.mov (T 9)) (T 9) <|
     ckg (T 9) true (ix 1 (T 8) (T 7)) (T 6) <|
     ckg (T 9) true (ld (T 6)) (T 5) <|
     ckg (T 9) true (ix 1 (T 4) (T 2)) (T 1) <|
     ckg (T 9) true (ld (T 1)) (T 0) <|
     og (T 9) true (call 143 [(T 5), (T 0)]) <|
     o (.pick (T 10) (T 0) (.c (.bool false))) <|
     .cond (T 0)
      (bl 3 []
       (o (sb (T 12) (K 1)) <|
       o (sb (T 13) (K 1)) <|
       o (ix 1 (T 20) (T 0)) <|
       o (ld (T 0)) <|
       o (ix 1 (T 22) (T 16)) <|
       o (ld (T 0)) <|
       o (ix 1 (T 24) (T 18)) <|
       ck (.mov (T 25)) (T 25) <|
       ck (.mov (T 19)) (T 19) <|
       ck (.mov (T 25)) (T 25) <|
       ck (.mov (T 19)) (T 19) <|
       ck (.mov (T 25)) (T 25) <|
       ck (.mov (T 19)) (T 19) <|
       ck (ix 1 (T 25) (T 5)) (T 4) <|
       ck (ld (T 4)) (T 3) <|
       ck (.mov (T 25)) (T 25) <|
       ck (.mov (T 19)) (T 19) <|
       ck (ix 1 (T 25) (T 19)) (T 2) <|
       ck (ld (T 2)) (T 1) <|
       ck (ix 1 (T 25) (T 19)) (T 0) <|
       o (.store 1 (T 0) (T 3)) <|
       o (ix 1 (T 26) (T 7)) <|
       ck (.mov (T 27)) (T 27) <|
       ck (.mov (T 21)) (T 21) <|
       ck (ix 1 (T 27) (T 8)) (T 0) <|
       o (.store 1 (T 0) (T 3)) <|
       nrm []) <|
      o (sb (T 12) (K 1)) <|
      nrm [(T 0)])
      (ex 2 [])) <|
    nrm []) <|
   o (ad (T 1) (K 1)) <|
   nrm [(T 0)])
   (ex 0 [])) <|
 nrm [], false, []⟩
def f143 : LF := ⟨2,
 o (call 193 [(T 1)]) <|
 og (T 0) true (.mov (T 1)) <|
 og (T 1) true (call 193 [(T 0)]) <|
 og (T 2) true (.un .not (T 0)) <|
 o (.pick (T 3) (T 0) (.c (.bool false))) <|
 og (T 0) false (.mov (T 6)) <|
 og (T 1) false (.mov (T 6)) <|
 og (T 2) false (lt (T 1) (T 0)) <|
 o (.pick (T 3) (.c (.bool true)) (T 0)) <|
 ret [(T 0)], false, [none]⟩
def f147 : LF := ⟨1,
 o (.bin .geq (T 0) (.c (.int .u64 4294967296))) <|
 jn [0, 2]
  (.cond (T 0)
   (o (.bin .shr (T 1) (.c (.int .u64 32))) <|
   nrm [(T 0), (K 32)])
   (nrm [(T 1), (K 0)])) <|
 o (.bin .geq (T 0) (.c (.int .u64 65536))) <|
 jn [0, 2]
  (.cond (T 0)
   (o (.bin .shr (T 1) (.c (.int .u64 16))) <|
   o (ad (T 3) (K 16)) <|
   nrm [(T 1), (T 0)])
   (nrm [(T 1), (T 2)])) <|
 o (.bin .geq (T 0) (.c (.int .u64 256))) <|
 jn [0, 2]
  (.cond (T 0)
   (o (.bin .shr (T 1) (.c (.int .u64 8))) <|
   o (ad (T 3) (K 8)) <|
   nrm [(T 1), (T 0)])
   (nrm [(T 1), (T 2)])) <|
 o (.cint .u8 (T 0)) <|
 o (.idx none (.c (.str [0, 1, 2, 2, 3, 3, 3, 3, 4, 4, 4, 4, 4, 4, 4, 4, 5, 5, 5, 5, 5, 5, 5, 5, 5, 5, 5, 5, 5, 5, 5, 5, 6, 6, 6, 6, 6, 6, 6, 6, 6, 6, 6, 6, 6, 6, 6, 6, 6, 6, 6, 6, 6, 6, 6, 6, 6, 6, 6, 6, 6, 6, 6, 6, 7, 7, 7, 7, 7, 7, 7, 7, 7, 7, 7, 7, 7, 7, 7, 7, 7, 7, 7, 7, 7, 7, 7, 7, 7, 7, 7, 7, 7, 7, 7, 7, 7, 7, 7, 7, 7, 7, 7, 7, 7, 7, 7, 7, 7, 7, 7, 7, 7, 7, 7, 7, 7, 7, 7, 7, 7, 7, 7, 7, 7, 7, 7, 7, 8, 8, 8, 8, 8, 8, 8, 8, 8, 8, 8, 8, 8, 8, 8, 8, 8, 8, 8, 8, 8, 8, 8, 8, 8, 8, 8, 8, 8, 8, 8, 8, 8, 8, 8, 8, 8, 8, 8, 8, 8, 8, 8, 8, 8, 8, 8, 8, 8, 8, 8, 8, 8, 8, 8, 8, 8, 8, 8, 8, 8, 8, 8, 8, 8, 8, 8, 8, 8, 8, 8, 8, 8, 8, 8, 8, 8, 8, 8, 8, 8, 8, 8, 8, 8, 8, 8, 8, 8, 8, 8, 8, 8, 8, 8, 8, 8, 8, 8, 8, 8, 8, 8, 8, 8, 8, 8, 8, 8, 8, 8, 8, 8, 8, 8, 8, 8, 8, 8, 8, 8, 8, 8, 8, 8, 8, 8, 8])) (T 0)) <|
 o (.cint .i64 (T 0)) <|
 o (ad (T 4) (T 0)) <|
 ret [(T 0)], false, [none]⟩
def f149 : LF := ⟨1,
 o (.alloc [(.bool false), (.bool false), (.bool false), (.bool false), (.bool false), (.bool false), (.bool false), (.bool false), (.bool false), (.bool false), (.bool false), (.bool false), (.bool false), (.bool false), (.bool false), (.bool false), (.bool false), (.bool false), (.bool false), (.bool false), (.bool false), (.bool false), (.bool false), (.bool false), (.bool false), (.bool false), (.bool false), (.bool false), (.bool false), (.bool false), (.bool false), (.bool false), (.bool false), (.bool false), (.bool false), (.bool false), (.bool false), (.bool false), (.bool false), (.bool false), (.bool false), (.bool false), (.bool false), (.bool false), (.bool false), (.bool false), (.bool false), (.bool false), (.bool false), (.bool false), (.bool false), (.bool false), (.bool false), (.bool false), (.bool false), (.bool false), (.bool false), (.bool false), (.bool false), (.bool false), (.bool false), (.bool false), (.bool false), (.bool false), (.bool false), (.bool false), (.bool false), (.bool false), (.bool false), (.bool false), (.bool false), (.bool false), (.bool false), (.bool false), (.bool false), (.bool false), (.bool false), (.bool false), (.bool false), (.bool false), (.bool false), (.bool false), (.bool false), (.bool false), (.bool false), (.bool false), (.bool false), (.bool false), (.bool false), (.bool false), (.bool false), (.bool false), (.bool false), (.bool false), (.bool false), (.bool false), (.bool false), (.bool false), (.bool false), (.bool false), (.bool false), (.bool false), (.bool false), (.bool false), (.bool false), (.bool false), (.bool false), (.bool false), (.bool false), (.bool false), (.bool false), (.bool false), (.bool false), (.bool false), (.bool false), (.bool false), (.bool false), (.bool false), (.bool false), (.bool false), (.bool false), (.bool false), (.bool false), (.bool false), (.bool false), (.bool false), (.bool false), (.bool false), (.bool false), (.bool false), (.bool false), (.bool false), (.bool false), (.bool false), (.bool false), (.bool false), (.bool false), (.bool false), (.bool false), (.bool false), (.bool false), (.bool false), (.bool false), (.bool false), (.bool false), (.bool false), (.bool false), (.bool false), (.bool false), (.bool false), (.bool false), (.bool false), (.bool false), (.bool false), (.bool false), (.bool false), (.bool false), (.bool false), (.bool false), (.bool false), (.bool false), (.bool false), (.bool false), (.bool false), (.bool false), (.bool false), (.bool false), (.bool false), (.bool false), (.bool false), (.bool false), (.bool false), (.bool false), (.bool false), (.bool false), (.bool false), (.bool false), (.bool false), (.bool false), (.bool false), (.bool false), (.bool false), (.bool false), (.bool false), (.bool false), (.bool false), (.bool false), (.bool false), (.bool false), (.bool false), (.bool false), (.bool false), (.bool false), (.bool false), (.bool false), (.bool false), (.bool false), (.bool false), (.bool false), (.bool false), (.bool false), (.bool false), (.bool false), (.bool false), (.bool false), (.bool false), (.bool false), (.bool false), (.bool false), (.bool false), (.bool false), (.bool false), (.bool false), (.bool false), (.bool false), (.bool false), (.bool false), (.bool false), (.bool false), (.bool false), (.bool false), (.bool false), (.bool false), (.bool false), (.bool false), (.bool false), (.bool false), (.bool false), (.bool false), (.bool false), (.bool false), (.bool false), (.bool false), (.bool false), (.bool false), (.bool false), (.bool false), (.bool false), (.bool false), (.bool false), (.bool false), (.bool false), (.bool false), (.bool false), (.bool false), (.bool false), (.bool false), (.bool false), (.bool false), (.bool false), (.bool false), (.bool false), (.bool false), (.bool false), (.bool false), (.bool false)]) <|
 bl 0 []
  (.loop [4] [(K 0)] <|
  o (.len .str (T 2)) <|
  o (lt (T 1) (T 0)) <|
  .cond (T 0)
   (bl 1 []
    (o (.idx none (T 4) (T 2)) <|
    o (.bin .geq (T 0) (.c (.int .u8 128))) <|
    .cond (T 0)
     (o (ldn 256 (T 5)) <|
     o (.store 256 (T 6) (T 0)) <|
     ret [(T 7), (.c (.bool false))])
     (o (.iaddr (some 256) 1 (T 5) (T 1)) <|
     o (.store 1 (T 0) (.c (.bool true))) <|
     nrm [])) <|
   o (ad (T 2) (K 1)) <|
   nrm [(T 0)])
   (ex 0 [])) <|
 o (ldn 256 (T 0)) <|
 o (.store 256 (T 1) (T 0)) <|
 ret [(T 2), (.c (.bool true))], false, [some (true, 256), none]⟩
def f150 : LF := ⟨2,
 bl 0 [0]
  (.loop [0] [(T 1)] <|
  o (.len .str (T 0)) <|
  o (.bin .gtr (T 0) (K 0)) <|
  .cond (T 0)
   (bl 1 [0]
    (o (.idx none (T 2) (K 0)) <|
    o (call 194 [(T 4), (T 0)]) <|
    o (.un .not (T 0)) <|
    .cond (T 0)
     (ex 0 [(T 5)])
     (o (.slice true 0 (T 5) (some (K 1)) none none) <|
     nrm [(T 0)])) <|
   nrm [(T 0)])
   (ex 0 [(T 2)])) <|
 ret [(T 0)], false, [none]⟩
def f152 : LF := ⟨2,
 o (call 154 [(T 1), (T 0)]) <|
 .cond (T 0)
  (o (.len .str (T 1)) <|
  o (.slice true 0 (T 3) (some (T 0)) none none) <|
  ret [(T 0)])
  (ret [(T 2)]), false, [none]⟩
def f154 : LF := ⟨2,
 o (.len .str (T 1)) <|
 o (.len .str (T 1)) <|
 o (.bin .geq (T 1) (T 0)) <|
 og (T 0) true (.mov (T 4)) <|
 og (T 1) true (.mov (T 4)) <|
 og (T 2) true (.len .str (T 0)) <|
 og (T 3) true (.slice true 0 (T 2) none (some (T 0)) none) <|
 og (T 4) true (.mov (T 7)) <|
 og (T 5) true (eq (T 1) (T 0)) <|
 o (.pick (T 6) (T 0) (.c (.bool false))) <|
 ret [(T 0)], false, [none]⟩
def f156 : LF := ⟨1,
 o (.box 1 (T 0)) <|
 o (.mkfn (.func 201) [] [(T 0)]) <|
 ret [(T 0)], false, [none]⟩
def f157 : LF := ⟨1,
 o (call 202 [(T 0)]) <|
 ret [(T 0)], false, [none]⟩
def f158 : LF := ⟨0,
 o (.alloc [S0, S0, S0, S0, S0, S0, S0, S0, S0, S0]) <|
 o (.build [S0, S0, S0, S0, S0, S0, S0, S0, S0, S0] [(1, 1, (.c (.str [9, 10, 13, 32]))), (2, 1, (.c (.str [40, 91]))), (3, 1, (.c (.str [41, 93]))), (4, 1, (.c (.str [39]))), (5, 1, (.c (.str [35]))), (6, 1, (.c (.str [59]))), (8, 1, (.c (.str [43, 45]))), (9, 1, (.c (.str [33, 36, 37, 38, 42, 47, 58, 60, 61, 62, 63, 94, 95, 126, 46, 64])))]) <|
 o (.store 10 (T 1) (T 0)) <|
 ret [(T 2)], false, [some (true, 10)]⟩
def f159 : LF := ⟨2,
 o (.srange (T 1)) <|
 bl 0 []
  (.loop [] [] <|
  o (.snext (T 0)) <|
  o (.extract (T 0) 0) <|
  .cond (T 0)
   (bl 1 []
    (o (.extract (T 1) 2) <|
    o (eq (T 0) (T 4)) <|
    .cond (T 0)
     (ret [(.c (.bool true))])
     (nrm [])) <|
   nrm [])
   (ex 0 [])) <|
 ret [(.c (.bool false))], false, [none]⟩
def f160 : LF := ⟨2,
 bl 0 []
  (.loop [3] [(K 0)] <|
  o (ad (T 0) (K 1)) <|
  o (ld (T 2)) <|
  o (.len .str (T 0)) <|
  o (lt (T 2) (T 0)) <|
  .cond (T 0)
   (bl 1 []
    (o (ld (T 5)) <|
    o (.idx none (T 0) (T 5)) <|
    o (.cint .i64 (T 0)) <|
    o (.bin .shl (T 0) (.c (.int .u64 8))) <|
    o (ld (T 9)) <|
    o (ad (T 9) (K 1)) <|
    o (.idx none (T 1) (T 0)) <|
    o (.cint .i64 (T 0)) <|
    o (.bin .or (T 4) (T 0)) <|
    ck (.mov (T 15)) (T 15) <|
    ck (ld (T 14)) (T 8) <|
    ck (.mov (T 13)) (T 13) <|
    ck (ld (T 14)) (T 4) <|
    ck (.mov (T 13)) (T 13) <|
    o (.callv (T 15) [(T 0)]) <|
    o (.un .not (T 0)) <|
    .cond (T 0)
     (ret [])
     (nrm [])) <|
   o (ad (T 4) (K 2)) <|
   nrm [(T 0)])
   (ex 0 [])) <|
 nrm [], false, []⟩
def f161 : LF := ⟨1,
 o (call 73 [(T 0)]) <|
 o (ne (T 0) (K 0)) <|
 .cond (T 0)
  (ret [(.c (.list .nil [])), (T 1)])
  (o (call 115 [(T 2)]) <|
  o (call 203 [(T 0)]) <|
  ret [(T 0), (K 0)]), false, [none, none]⟩
def f162 : LF := ⟨2,
 o (.len .slice (T 1)) <|
 bl 0 [7]
  (.loop [7, 8] [(K 0), (T 0)] <|
  o (lt (T 0) (T 1)) <|
  .cond (T 0)
   (bl 1 [7, 8]
    (o (ad (T 1) (T 2)) <|
    o (.cint .u64 (T 0)) <|
    o (.bin .shr (T 0) (.c (.int .u64 1))) <|
    o (.cint .i64 (T 0)) <|
    o (ix 1 (T 9) (T 0)) <|
    o (ld (T 0)) <|
    o (call 143 [(T 0), (T 10)]) <|
    .cond (T 0)
     (o (ad (T 3) (K 1)) <|
     nrm [(T 0), (T 10)])
     (nrm [(T 8), (T 3)])) <|
   nrm [(T 0), (T 1)])
   (ex 0 [(T 1)])) <|
 o (lt (T 0) (T 1)) <|
 og (T 0) true (.mov (T 4)) <|
 og (T 1) true (.mov (T 2)) <|
 og (T 2) true (ix 1 (T 1) (T 0)) <|
 og (T 3) true (ld (T 0)) <|
 og (T 4) true (.mov (T 7)) <|
 og (T 5) true (eq (T 1) (T 0)) <|
 og (T 6) true (.mov (T 0)) <|
 og (T 0) false (.mov (T 11)) <|
 og (T 1) false (.mov (T 9)) <|
 og (T 2) false (ix 1 (T 1) (T 0)) <|
 og (T 3) false (ld (T 0)) <|
 og (T 4) false (call 204 [(T 0)]) <|
 og (T 5) false (.mov (T 0)) <|
 og (T 0) true (.mov (T 16)) <|
 og (T 1) true (call 204 [(T 0)]) <|
 og (T 8) false (.pick (T 2) (T 0) (.c (.bool false))) <|
 og (T 16) true (.pick (T 9) (.c (.bool true)) (T 0)) <|
 o (.pick (T 17) (T 0) (.c (.bool false))) <|
 ret [(T 19), (T 0)], false, [none, none]⟩
def f165 : LF := ⟨3,
 o (call 69 [(T 2)]) <|
 o (.extract (T 0) 0) <|
 o (.extract (T 1) 1) <|
 o (ne (T 0) (K 0)) <|
 .cond (T 0)
  (ret [(.c (.list .nil [])), (T 1)])
  (o (call 73 [(T 4)]) <|
  o (ne (T 0) (K 0)) <|
  .cond (T 0)
   (ret [(.c (.list .nil [])), (T 1)])
   (o (.len .slice (T 8)) <|
   bl 0 [11]
    (.loop [11, 31] [(.c (.list .nil [])), (K 0)] <|
    o (lt (T 1) (T 2)) <|
    .cond (T 0)
     (bl 1 [11]
      (o (ix 4 (T 12) (T 2)) <|
      o (ldn 4 (T 0)) <|
      o (.alloc [S0, S0, (I 0), (I 0)]) <|
      o (.store 4 (T 0) (T 1)) <|
      o (.faddr 1 (T 1)) <|
      o (ld (T 0)) <|
      o (call 168 [(T 0), (T 16)]) <|
      o (.extract (T 0) 0) <|
      o (.extract (T 1) 1) <|
      o (.faddr 0 (T 6)) <|
      o (ld (T 0)) <|
      o (eq (T 0) (T 22)) <|
      og (T 0) true (.mov (T 4)) <|
      o (.pick (T 1) (T 0) (.c (.bool false))) <|
      .cond (T 0)
       (o (.bsl false [(I 0)] 1 [(0, (T 16))]) <|
       o (.append 1 8 (T 16) (T 0)) <|
       nrm [(T 0)])
       (nrm [(T 15)])) <|
     o (ad (T 3) (K 1)) <|
     nrm [(T 1), (T 0)])
     (ex 0 [(T 1)])) <|
   ret [(T 0), (K 0)])), false, [none, none]⟩
def f166 : LF := ⟨2,
 o (.len .slice (T 1)) <|
 bl 0 [4, 5]
  (.loop [4, 5, 12] [(K 0), (.c (.bool false)), (K 0)] <|
  o (lt (T 2) (T 3)) <|
  .cond (T 0)
   (bl 1 [4, 5]
    (o (ix 1 (T 6) (T 3)) <|
    o (ld (T 0)) <|
    o (.un .not (T 4)) <|
    og (T 0) false (.mov (T 8)) <|
    og (T 1) false (.mov (T 2)) <|
    og (T 2) false (.mov (T 6)) <|
    og (T 3) false (.callv (T 2) [(T 1), (T 0)]) <|
    o (.pick (T 4) (.c (.bool true)) (T 0)) <|
    .cond (T 0)
     (nrm [(T 6), (.c (.bool true))])
     (nrm [(T 9), (T 10)])) <|
   o (ad (T 5) (K 1)) <|
   nrm [(T 1), (T 2), (T 0)])
   (ex 0 [(T 1), (T 2)])) <|
 o (.len .slice (T 4)) <|
 bl 2 [5]
  (.loop [5, 28] [(T 2), (K 0)] <|
  o (lt (T 1) (T 2)) <|
  .cond (T 0)
   (bl 3 [5]
    (o (ix 1 (T 8) (T 2)) <|
    o (ld (T 0)) <|
    og (T 3) true (.mov (T 9)) <|
    og (T 4) true (.mov (T 7)) <|
    og (T 5) true (.mov (T 2)) <|
    og (T 6) true (.callv (T 2) [(T 1), (T 0)]) <|
    o (.pick (T 7) (T 0) (.c (.bool false))) <|
    nrm [(T 0)]) <|
   o (ad (T 3) (K 1)) <|
   nrm [(T 1), (T 0)])
   (ex 2 [(T 1)])) <|
 ret [(T 2), (T 0)], false, [none, none]⟩
def f167 : LF := ⟨3,
 o (ld (T 0)) <|
 o (ix 4 (T 0) (T 2)) <|
 o (.faddr 1 (T 0)) <|
 o (ld (T 0)) <|
 o (ld (T 4)) <|
 o (ix 4 (T 0) (T 7)) <|
 o (.faddr 1 (T 0)) <|
 o (ld (T 0)) <|
 ck (ld (T 8)) (T 7) <|
 ck (.mov (T 9)) (T 9) <|
 ck (ix 4 (T 7) (T 9)) (T 6) <|
 ck (ld (T 5)) (T 4) <|
 ck (ld (T 8)) (T 3) <|
 ck (.mov (T 10)) (T 10) <|
 ck (ix 4 (T 3) (T 10)) (T 2) <|
 ck (ld (T 1)) (T 0) <|
 o (call 168 [(T 4), (T 0)]) <|
 o (.extract (T 0) 0) <|
 o (.extract (T 1) 1) <|
 ck (.mov (T 2)) (T 2) <|
 ret [(T 1)], false, [none]⟩
def f168 : LF := ⟨2,
 o (call 206 [(T 1), (T 0)]) <|
 o (.extract (T 0) 0) <|
 o (.extract (T 1) 1) <|
 o (.extract (T 2) 2) <|
 o (.extract (T 3) 3) <|
 o (eq (T 0) (K 0)) <|
 og (T 0) true (.mov (T 4)) <|
 og (T 1) true (.len .slice (T 0)) <|
 og (T 2) true (eq (T 0) (K 0)) <|
 o (.pick (T 3) (T 0) (.c (.bool false))) <|
 ret [(T 0), (T 5)], false, [none, none]⟩
def f169 : LF := ⟨1,
 o (.box 4 (T 0)) <|
 o (.faddr 0 (T 0)) <|
 o (ld (T 0)) <|
 o (.build [(I 0), (I 0), (I 0), S0] [(0, 1, (T 0))]) <|
 o (.alloc [(I 0), (I 0), (I 0), S0]) <|
 o (.store 4 (T 0) (T 1)) <|
 o (.faddr 0 (T 5)) <|
 o (ld (T 0)) <|
 bl 0 [2, 3]
  (o (eq (T 0) (K 1)) <|
  .cond (T 0)
   (o (.faddr 2 (T 8)) <|
   o (ld (T 0)) <|
   o (.faddr 2 (T 6)) <|
   o (.store 1 (T 0) (T 1)) <|
   nrm [(K 0), (K 0)])
   (o (eq (T 1) (K 2)) <|
   .cond (T 0)
    (o (.faddr 2 (T 9)) <|
    o (ld (T 0)) <|
    o (.faddr 2 (T 7)) <|
    o (.store 1 (T 0) (T 1)) <|
    o (.faddr 2 (T 13)) <|
    o (ld (T 0)) <|
    o (.bin .shr (T 0) (.c (.int .u64 1))) <|
    o (ne (T 0) (K 0)) <|
    .cond (T 0)
     (nrm [(K 0), (K 7)])
     (nrm [(K 0), (K 0)]))
    (o (eq (T 2) (K 3)) <|
    .cond (T 0)
     (o (.faddr 3 (T 10)) <|
     o (ld (T 0)) <|
     o (.faddr 3 (T 8)) <|
     o (.store 1 (T 0) (T 1)) <|
     o (.faddr 3 (T 14)) <|
     o (ld (T 0)) <|
     o (call 72 [(T 0)]) <|
     o (.un .not (T 0)) <|
     .cond (T 0)
      (nrm [(K 0), (K 6)])
      (nrm [(K 0), (K 0)]))
     (o (eq (T 3) (K 4)) <|
     .cond (T 0)
      (o (.faddr 1 (T 11)) <|
      o (ld (T 0)) <|
      o (.minmax true (T 0) (K 0)) <|
      o (.faddr 1 (T 10)) <|
      o (.store 1 (T 0) (T 1)) <|
      nrm [(K 0), (K 0)])
      (ret [(K 6), (K 0)]))))) <|
 o (ldn 4 (T 9)) <|
 o (ldn 4 (T 6)) <|
 o (.eqa [.int, .int, .int, .str] true (T 1) (T 0)) <|
 jn [2]
  (.cond (T 0)
   (nrm [(K 6)])
   (nrm [(T 3)])) <|
 ret [(T 0), (T 5)], false, [none, none]⟩
def f171 : LF := ⟨2,
 o (eq (T 0) (K 0)) <|
 .cond (T 0)
  (ret [(.c .nili)])
  (o (.build [(I 0), (I 0)] [(0, 1, (T 2)), (1, 1, (T 1))]) <|
  o (.box 2 (T 0)) <|
  o (.mkif 244 (T 0)) <|
  ret [(T 0)]), false, [none]⟩
def f172 : LF := ⟨1,
 o (.box 1 (T 0)) <|
 o (.mkfn (.func 214) [] [(T 0)]) <|
 ret [(T 0)], false, [none]⟩
def f173 : LF := ⟨1,
 o (call 25 [(T 0)]) <|
 o (.extract (T 0) 0) <|
 o (.extract (T 1) 1) <|
 o (ne (T 0) (K 0)) <|
 .cond (T 0)
  (ret [(.c (.list .nil [])), (T 2), (T 1)])
  (bl 0 [2]
   (o (ix 8 (T 4) (K 0)) <|
   o (.faddr 0 (T 0)) <|
   o (ld (T 0)) <|
   o (ne (T 0) (K 4)) <|
   .cond (T 0)
    (ret [(.c (.list .nil [])), (K 0), (K 6)])
    (o (ix 8 (T 8) (K 0)) <|
    o (.faddr 1 (T 0)) <|
    o (ld (T 0)) <|
    o (.bin .gtr (T 0) (K 20)) <|
    .cond (T 0)
     (ret [(.c (.list .nil [])), (K 0), (K 3)])
     (nrm [(.c (.list .nil []))]))) <|
  o (.mkmap) <|
  o (call 216 [(T 6)]) <|
  bl 1 [2]
   (.loop [2, 9] [(T 2), (K 1)] <|
   o (.len .slice (T 9)) <|
   o (lt (T 2) (T 0)) <|
   .cond (T 0)
    (bl 2 [2]
     (o (ix 8 (T 11) (T 3)) <|
     o (ldn 8 (T 0)) <|
     o (.alloc [(I 0), (I 0), (I 0), S0, S0, (I 0), (I 0), (I 0)]) <|
     o (.store 8 (T 0) (T 1)) <|
     bl 3 [2]
      (o (.faddr 0 (T 1)) <|
      o (ld (T 0)) <|
      o (ne (T 0) (K 3)) <|
      og (T 0) false (ldn 8 (T 4)) <|
      og (T 1) false (call 217 [(T 0)]) <|
      o (.pick (T 2) (.c (.bool true)) (T 0)) <|
      og (T 0) false (ldn 8 (T 7)) <|
      og (T 1) false (call 218 [(T 0)]) <|
      o (.pick (T 2) (.c (.bool true)) (T 0)) <|
      .cond (T 0)
       (ret [(.c (.list .nil [])), (T 16), (K 6)])
       (o (ldn 8 (T 10)) <|
       o (call 219 [(T 0)]) <|
       o (.lookup (.agg [.str, .str]) (.bool false) false (T 20) (T 0)) <|
       .cond (T 0)
        (ret [(.c (.list .nil [])), (T 19), (K 8)])
        (nrm [(T 18)]))) <|
     o (ldn 8 (T 2)) <|
     o (call 219 [(T 0)]) <|
     o (.mapupd (.agg [.str, .str]) (T 12) (T 0) (.c (.bool true))) <|
     o (ldn 8 (T 5)) <|
     o (call 219 [(T 0)]) <|
     o (.bsl false [S0, S0] 1 [(0, (T 0))]) <|
     o (.append 2 32 (T 6) (T 0)) <|
     nrm [(T 0)]) <|
    o (ix 1 (T 5) (T 4)) <|
    o (ld (T 0)) <|
    nrm [(T 2), (T 0)])
    (ex 1 [(T 2)])) <|
  ret [(T 0), (K 0), (K 0)]), false, [none, none, none]⟩
def f179 : LF := ⟨1,
 o (.box 2 (T 0)) <|
 bl 0 []
  (o (.faddr 1 (T 0)) <|
  o (ld (T 0)) <|
  o (.len .slice (T 0)) <|
  o (.bin .gtr (T 0) (K 200)) <|
  .cond (T 0)
   (ret [(K 3)])
   (o (.faddr 1 (T 4)) <|
   o (ld (T 0)) <|
   o (.len .slice (T 0)) <|
   o (call 227 [(T 0), (K 1), (K 200)]) <|
   o (.un .not (T 0)) <|
   og (T 0) false (.faddr 0 (T 9)) <|
   og (T 1) false (ld (T 0)) <|
   og (T 2) false (lt (T 0) (K 0)) <|
   o (.pick (T 3) (.c (.bool true)) (T 0)) <|
   .cond (T 0)
    (ret [(K 6)])
    (nrm []))) <|
 o (.faddr 1 (T 0)) <|
 o (ld (T 0)) <|
 o (.len .slice (T 0)) <|
 bl 1 []
  (.loop [3, 25] [(K 1000000000), (K 0)] <|
  o (lt (T 1) (T 2)) <|
  .cond (T 0)
   (bl 2 [3]
    (o (ix 1 (T 4) (T 2)) <|
    o (ld (T 0)) <|
    o (.faddr 0 (T 8)) <|
    o (ld (T 0)) <|
    o (call 43 [(T 2), (T 0), (T 5)]) <|
    o (.un .not (T 0)) <|
    .cond (T 0)
     (ret [(K 6)])
     (nrm [(T 4)])) <|
   o (ad (T 3) (K 1)) <|
   nrm [(T 1), (T 0)])
   (ex 1 [])) <|
 ret [(K 0)], false, [none]⟩
def f180 : LF := ⟨2,
 o (.box 2 (T 1)) <|
 o (.box 2 (T 1)) <|
 o (.alloc [(I 0), (.list .nil [])]) <|
 o (ldn 2 (T 2)) <|
 o (.mkfn (.func 228) [(T 0)] []) <|
 o (.faddr 0 (T 3)) <|
 o (ld (T 0)) <|
 bl 0 [6]
  (o (eq (T 0) (K 1)) <|
  .cond (T 0)
   (nrm [(T 3)])
   (o (eq (T 1) (K 2)) <|
   .cond (T 0)
    (o (ldn 2 (T 8)) <|
    o (.mkfn (.func 229) [(T 0)] []) <|
    nrm [(T 0)])
    (o (eq (T 2) (K 3)) <|
    .cond (T 0)
     (o (ldn 2 (T 9)) <|
     o (.mkfn (.func 230) [(T 0)] []) <|
     nrm [(T 0)])
     (o (ldn 2 (T 9)) <|
     o (.store 2 (T 8) (T 0)) <|
     ret [(T 9), (K 2)])))) <|
 o (.faddr 1 (T 6)) <|
 o (ld (T 0)) <|
 o (.callv (T 2) [(T 0)]) <|
 o (.extract (T 0) 0) <|
 o (.extract (T 1) 1) <|
 o (.store 2 (T 10) (T 1)) <|
 ret [(T 11), (T 1)], false, [some (true, 2), none]⟩
def f181 : LF := ⟨3,
 o (.box 2 (T 1)) <|
 o (call 69 [(T 3)]) <|
 o (.extract (T 0) 0) <|
 o (.extract (T 1) 1) <|
 o (ne (T 0) (K 0)) <|
 .cond (T 0)
  (ret [(T 1)])
  (o (ldn 2 (T 4)) <|
  o (call 231 [(T 0)]) <|
  o (.extract (T 0) 0) <|
  o (.extract (T 1) 1) <|
  o (ne (T 0) (K 0)) <|
  .cond (T 0)
   (ret [(T 1)])
   (o (call 25 [(T 10)]) <|
   o (.extract (T 0) 0) <|
   o (.extract (T 1) 1) <|
   ret [(T 0)])), false, [none]⟩
def f182 : LF := ⟨3,
 o (.box 1 (T 2)) <|
 o (.box 2 (T 2)) <|
 o (.box 1 (T 2)) <|
 o (.mkfn (.func 232) [] [(T 1), (T 2), (T 0)]) <|
 ret [(T 0)], false, [none]⟩
def f183 : LF := ⟨4,
 o (.box 4 (T 0)) <|
 o (ldn 4 (T 0)) <|
 o (call 234 [(T 5), (T 4), (T 3), (T 0)]) <|
 o (.extract (T 0) 0) <|
 o (.extract (T 1) 1) <|
 o (ne (T 0) (K 0)) <|
 .cond (T 0)
  (ret [(.c (.list .nil [])), (T 1)])
  (o (.nilchk (T 2)) <|
  o (.faddr 0 (T 0)) <|
  o (ld (T 0)) <|
  ret [(T 0), (K 0)]), false, [none, none]⟩
def f184 : LF := ⟨1,
 o (.len .slice (T 0)) <|
 o (.bin .gtr (T 0) (K 8000)) <|
 .cond (T 0)
  (ret [(K 0), (K 3)])
  (bl 0 [4]
   (.loop [4] [(K 0)] <|
   o (.len .slice (T 3)) <|
   o (lt (T 1) (T 0)) <|
   .cond (T 0)
    (bl 1 [4]
     (o (call 185 [(T 5), (T 2)]) <|
     o (.extract (T 0) 0) <|
     o (.extract (T 1) 1) <|
     o (.extract (T 2) 2) <|
     o (ne (T 0) (K 0)) <|
     .cond (T 0)
      (ret [(T 7), (T 1)])
      (o (ad (T 7) (T 2)) <|
      nrm [(T 0)])) <|
    nrm [(T 0)])
    (ex 0 [(T 2)])) <|
  ret [(T 0), (K 0)]), false, [none, none]⟩
def f185 : LF := ⟨2,
 o (lt (T 0) (K 0)) <|
 og (T 0) false (.mov (T 1)) <|
 og (T 1) false (.mov (T 3)) <|
 og (T 2) false (.len .slice (T 0)) <|
 og (T 3) false (.bin .geq (T 2) (T 0)) <|
 o (.pick (T 4) (.c (.bool true)) (T 0)) <|
 .cond (T 0)
  (ret [(.c (.int .i32 0)), (K 0), (K 7)])
  (bl 0 []
   (.loop [7] [(K 1)] <|
   o (.bin .leq (T 0) (K 4)) <|
   og (T 0) true (.mov (T 8)) <|
   og (T 1) true (.mov (T 2)) <|
   og (T 2) true (ad (T 1) (T 0)) <|
   og (T 3) true (.mov (T 12)) <|
   og (T 4) true (.len .slice (T 0)) <|
   og (T 5) true (.bin .leq (T 2) (T 0)) <|
   o (.pick (T 6) (T 0) (.c (.bool false))) <|
   .cond (T 0)
    (bl 1 []
     (o (ad (T 15) (T 8)) <|
     o (.slice false 1 (T 17) (some (T 16)) (some (T 0)) none) <|
     o (call 235 [(T 0)]) <|
     o (.extract (T 0) 0) <|
     o (.extract (T 1) 1) <|
     .cond (T 0)
      (ret [(T 1), (T 13), (K 0)])
      (nrm [])) <|
    o (ad (T 8) (K 1)) <|
    nrm [(T 0)])
    (ex 0 [])) <|
  o (.len .slice (T 7)) <|
  o (sb (T 0) (T 7)) <|
  o (lt (T 0) (K 4)) <|
  og (T 0) true (.mov (T 10)) <|
  og (T 1) true (.mov (T 10)) <|
  og (T 2) true (.slice false 1 (T 1) (some (T 0)) none none) <|
  og (T 3) true (call 236 [(T 0)]) <|
  o (.pick (T 4) (T 0) (.c (.bool false))) <|
  .cond (T 0)
   (ret [(.c (.int .i32 0)), (K 0), (K 320)])
   (ret [(.c (.int .i32 0)), (K 0), (K 6)])), false, [none, none, none]⟩
def f186 : LF := ⟨1,
 o (.bin .geq (T 0) (.c (.int .i32 0))) <|
 og (T 0) true (.mov (T 1)) <|
 og (T 1) true (.bin .leq (T 0) (.c (.int .i32 1114111))) <|
 o (.pick (T 2) (T 0) (.c (.bool false))) <|
 og (T 0) true (.mov (T 4)) <|
 og (T 1) true (lt (T 0) (.c (.int .i32 55296))) <|
 og (T 2) true (.mov (T 0)) <|
 og (T 0) false (.mov (T 7)) <|
 og (T 1) false (.bin .gtr (T 0) (.c (.int .i32 57343))) <|
 og (T 5) true (.pick (T 2) (.c (.bool true)) (T 0)) <|
 o (.pick (T 6) (T 0) (.c (.bool false))) <|
 ret [(T 0)], false, [none]⟩
def f187 : LF := ⟨2,
 bl 0 []
  (.loop [5] [(K 0)] <|
  o (.len .str (T 1)) <|
  o (lt (T 1) (T 0)) <|
  .cond (T 0)
   (bl 1 []
    (o (.idx none (T 3) (T 2)) <|
    o (.cint .i32 (T 0)) <|
    o (eq (T 0) (T 6)) <|
    .cond (T 0)
     (ret [(.c (.bool true))])
     (nrm [])) <|
   o (ad (T 2) (K 1)) <|
   nrm [(T 0)])
   (ex 0 [])) <|
 ret [(.c (.bool false))], false, [none]⟩
def f193 : LF := ⟨1,
 o (ne (T 0) (T 0)) <|
 ret [(T 0)], false, [none]⟩
def f194 : LF := ⟨2,
 o (.nilchk (T 1)) <|
 o (.iaddr (some 256) 1 (T 0) (T 1)) <|
 o (ld (T 0)) <|
 ret [(T 0)], false, [none]⟩
def f199 : LF := ⟨1,
 bl 0 []
  (o (lt (T 0) (.c (.int .i32 0))) <|
  .cond (T 0)
   (ret [(K (-1))])
   (o (.bin .leq (T 1) (.c (.int .i32 127))) <|
   .cond (T 0)
    (ret [(K 1)])
    (o (.bin .leq (T 2) (.c (.int .i32 2047))) <|
    .cond (T 0)
     (ret [(K 2)])
     (o (.bin .leq (.c (.int .i32 55296)) (T 3)) <|
     og (T 0) true (.mov (T 4)) <|
     og (T 1) true (.bin .leq (T 0) (.c (.int .i32 57343))) <|
     o (.pick (T 2) (T 0) (.c (.bool false))) <|
     .cond (T 0)
      (ret [(K (-1))])
      (o (.bin .leq (T 7) (.c (.int .i32 65535))) <|
      .cond (T 0)
       (ret [(K 3)])
       (o (.bin .leq (T 8) (.c (.int .i32 1114111))) <|
       .cond (T 0)
        (ret [(K 4)])
        (nrm []))))))) <|
 ret [(K (-1))], false, [none]⟩
def f200 : LF := ⟨2,
 o (lt (T 0) (K 0)) <|
 og (T 0) false (.mov (T 1)) <|
 og (T 1) false (.mov (T 3)) <|
 og (T 2) false (.len .slice (T 0)) <|
 og (T 3) false (.bin .geq (T 2) (T 0)) <|
 o (.pick (T 4) (.c (.bool true)) (T 0)) <|
 .cond (T 0)
  (ret [(.c (.int .i32 0)), (K 0), (K 7)])
  (o (.slice false 1 (T 7) (some (T 6)) none none) <|
  o (call 242 [(T 0)]) <|
  o (.extract (T 0) 0) <|
  o (.extract (T 1) 1) <|
  bl 0 []
   (o (ne (T 1) (.c (.int .i32 65533))) <|
   og (T 0) false (.mov (T 1)) <|
   og (T 1) false (.bin .gtr (T 0) (K 1)) <|
   o (.pick (T 2) (.c (.bool true)) (T 0)) <|
   .cond (T 0)
    (ret [(T 5), (T 4), (K 0)])
    (o (.slice false 1 (T 15) (some (T 14)) none none) <|
    o (call 243 [(T 0)]) <|
    o (.un .not (T 0)) <|
    .cond (T 0)
     (ret [(.c (.int .i32 0)), (K 0), (K 320)])
     (nrm []))) <|
  ret [(.c (.int .i32 0)), (K 0), (K 6)]), false, [none, none, none]⟩
def f201 : LF := ⟨2,
 bl 0 []
  (.loop [3] [(K 0)] <|
  o (ld (T 1)) <|
  o (.len .slice (T 0)) <|
  o (lt (T 2) (T 0)) <|
  .cond (T 0)
   (bl 1 [3]
    (o (ld (T 4)) <|
    o (call 200 [(T 0), (T 4)]) <|
    o (.extract (T 0) 0) <|
    o (.extract (T 1) 1) <|
    o (.extract (T 2) 2) <|
    o (ne (T 0) (K 0)) <|
    og (T 0) false (.mov (T 11)) <|
    og (T 1) false (.mov (T 10)) <|
    og (T 2) false (.mov (T 5)) <|
    og (T 3) false (.callv (T 2) [(T 1), (T 0)]) <|
    og (T 4) false (.un .not (T 0)) <|
    o (.pick (T 5) (.c (.bool true)) (T 0)) <|
    .cond (T 0)
     (ret [])
     (o (ad (T 15) (T 8)) <|
     nrm [(T 0)])) <|
   nrm [(T 0)])
   (ex 0 [])) <|
 nrm [], false, []⟩
def f202 : LF := ⟨1,
 bl 0 []
  (o (.bin .leq (.c (.int .i32 0)) (T 0)) <|
  og (T 0) true (.mov (T 1)) <|
  og (T 1) true (lt (T 0) (.c (.int .i32 55296))) <|
  o (.pick (T 2) (T 0) (.c (.bool false))) <|
  .cond (T 0)
   (ret [(.c (.bool true))])
   (o (lt (.c (.int .i32 57343)) (T 4)) <|
   og (T 0) true (.mov (T 5)) <|
   og (T 1) true (.bin .leq (T 0) (.c (.int .i32 1114111))) <|
   o (.pick (T 2) (T 0) (.c (.bool false))) <|
   .cond (T 0)
    (ret [(.c (.bool true))])
    (nrm []))) <|
 ret [(.c (.bool false))], false, [none]⟩
def f203 : LF := ⟨1,
 o (call 244 [(.c (.list .nil [])), (T 0)]) <|
 ret [(T 0)], false, [none]⟩
def f207 : LF := ⟨3,
 o (.nilchk (T 2)) <|
 o (.faddr 0 (T 0)) <|
 o (ld (T 0)) <|
 o (ix 4 (T 0) (T 4)) <|
 o (.faddr 0 (T 0)) <|
 o (ld (T 0)) <|
 o (ne (T 0) (K 4)) <|
 o (call 208 [(T 9), (T 0), (T 8), (K 173)]) <|
 og (T 0) false (.mov (T 10)) <|
 og (T 1) false (.mov (T 11)) <|
 og (T 2) false (.nilchk (T 0)) <|
 og (T 3) false (.faddr 0 (T 0)) <|
 og (T 4) false (ld (T 0)) <|
 og (T 5) false (.mov (T 14)) <|
 og (T 6) false (ix 4 (T 1) (T 0)) <|
 og (T 7) false (.faddr 1 (T 0)) <|
 og (T 8) false (ld (T 0)) <|
 og (T 9) false (.mov (T 17)) <|
 og (T 10) false (.bin .gtr (T 1) (T 0)) <|
 og (T 11) false (.mov (T 20)) <|
 og (T 12) false (call 208 [(T 11), (T 1), (T 0), (K 171)]) <|
 o (.pick (T 13) (.c (.bool true)) (T 0)) <|
 .cond (T 0)
  (ret [(.c (.list .nil []))])
  (o (call 246 [(T 24), (T 23)]) <|
  ret [(T 0)]), false, [none]⟩
def f208 : LF := ⟨4,
 og (T 2) true (.mov (T 3)) <|
 og (T 3) true (.nilchk (T 0)) <|
 og (T 4) true (.faddr 7 (T 0)) <|
 og (T 5) true (ld (T 0)) <|
 og (T 6) true (eq (T 0) (K 0)) <|
 o (.pick (T 7) (T 0) (.c (.bool false))) <|
 jn []
  (.cond (T 0)
   (o (.nilchk (T 9)) <|
   o (.faddr 6 (T 0)) <|
   o (.store 1 (T 0) (T 9)) <|
   o (.nilchk (T 12)) <|
   o (.faddr 7 (T 0)) <|
   o (.store 1 (T 0) (T 11)) <|
   nrm [])
   (nrm [])) <|
 o (.nilchk (T 9)) <|
 o (.faddr 7 (T 0)) <|
 o (ld (T 0)) <|
 o (ne (T 0) (K 0)) <|
 ret [(T 0)], false, [none]⟩
def f209 : LF := ⟨2,
 o (.len .slice (T 0)) <|
 bl 0 []
  (.loop [9] [(K 0)] <|
  o (lt (T 0) (T 1)) <|
  .cond (T 0)
   (bl 1 []
    (o (ix 1 (T 3) (T 1)) <|
    o (ld (T 0)) <|
    o (.nilchk (T 6)) <|
    o (.faddr 0 (T 0)) <|
    o (ld (T 0)) <|
    o (ix 4 (T 0) (T 3)) <|
    o (.faddr 0 (T 0)) <|
    o (ld (T 0)) <|
    o (ne (T 0) (K 3)) <|
    o (call 208 [(T 13), (T 0), (T 7), (K 172)]) <|
    .cond (T 0)
     (ret [(.c (.list .nil []))])
     (nrm [])) <|
   o (ad (T 1) (K 1)) <|
   nrm [(T 0)])
   (ex 0 [])) <|
 ret [(T 1)], false, [none]⟩
def f210 : LF := ⟨3,
 o (.len .slice (T 1)) <|
 bl 0 []
  (.loop [11] [(K 0)] <|
  o (lt (T 0) (T 1)) <|
  .cond (T 0)
   (bl 1 []
    (o (ix 1 (T 4) (T 1)) <|
    o (ld (T 0)) <|
    o (.nilchk (T 7)) <|
    o (.faddr 0 (T 0)) <|
    o (ld (T 0)) <|
    o (ix 4 (T 0) (T 3)) <|
    o (.faddr 0 (T 0)) <|
    o (ld (T 0)) <|
    o (ne (T 0) (K 4)) <|
    og (T 0) false (.mov (T 14)) <|
    og (T 1) false (.nilchk (T 0)) <|
    og (T 2) false (.faddr 0 (T 0)) <|
    og (T 3) false (ld (T 0)) <|
    og (T 4) false (.mov (T 11)) <|
    og (T 5) false (ix 4 (T 1) (T 0)) <|
    og (T 6) false (.faddr 1 (T 0)) <|
    og (T 7) false (ld (T 0)) <|
    og (T 8) false (ne (T 0) (K 2)) <|
    o (.pick (T 9) (.c (.bool true)) (T 0)) <|
    o (call 208 [(T 24), (T 0), (T 17), (K 174)]) <|
    .cond (T 0)
     (ret [])
     (o (call 246 [(T 25), (T 18)]) <|
     o (ix 1 (T 0) (K 0)) <|
     o (ld (T 0)) <|
     o (ix 1 (T 2) (K 1)) <|
     o (ld (T 0)) <|
     ck (.mov (T 28)) (T 28) <|
     ck (.mov (T 4)) (T 4) <|
     ck (ix 1 (T 4) (K 0)) (T 3) <|
     ck (ld (T 3)) (T 2) <|
     ck (.mov (T 4)) (T 4) <|
     ck (ix 1 (T 4) (K 1)) (T 1) <|
     ck (ld (T 1)) (T 0) <|
     o (.callv (T 28) [(T 2), (T 0)]) <|
     o (.nilchk (T 31)) <|
     o (.faddr 7 (T 0)) <|
     o (ld (T 0)) <|
     o (ne (T 0) (K 0)) <|
     .cond (T 0)
      (ret [])
      (nrm []))) <|
   o (ad (T 1) (K 1)) <|
   nrm [(T 0)])
   (ex 0 [])) <|
 nrm [], false, []⟩
def f211 : LF := ⟨4,
 o (ld (T 1)) <|
 o (ld (T 2)) <|
 o (ld (T 3)) <|
 o (.nilchk (T 0)) <|
 o (.faddr 1 (T 0)) <|
 o (ld (T 0)) <|
 o (ld (T 6)) <|
 o (.bsl false [(I 0)] 1 [(0, (T 10))]) <|
 o (ld (T 9)) <|
 o (.nilchk (T 0)) <|
 o (.faddr 3 (T 0)) <|
 o (ld (T 0)) <|
 o (.bsl false [(I 0)] 1 [(0, (T 14))]) <|
 ck (ld (T 14)) (T 12) <|
 ck (ld (T 14)) (T 11) <|
 ck (ld (T 14)) (T 10) <|
 ck (ld (T 8)) (T 7) <|
 ck (ld (T 13)) (T 6) <|
 ck (.mov (T 16)) (T 16) <|
 ck (ld (T 14)) (T 4) <|
 ck (ld (T 2)) (T 1) <|
 ck (.mov (T 15)) (T 15) <|
 o (call 209 [(T 6), (T 5)]) <|
 ck (ld (T 15)) (T 13) <|
 ck (ld (T 15)) (T 12) <|
 ck (ld (T 15)) (T 11) <|
 ck (ld (T 9)) (T 8) <|
 ck (ld (T 15)) (T 5) <|
 ck (ld (T 3)) (T 2) <|
 ck (.mov (T 16)) (T 16) <|
 o (.append 1 8 (T 8) (T 0)) <|
 ck (ld (T 16)) (T 14) <|
 ck (ld (T 16)) (T 13) <|
 ck (ld (T 16)) (T 6) <|
 ck (ld (T 4)) (T 3) <|
 ck (.mov (T 17)) (T 17) <|
 o (.append 1 8 (T 3) (T 2)) <|
 o (.nilchk (T 15)) <|
 o (.faddr 1 (T 0)) <|
 ck (ld (T 19)) (T 17) <|
 ck (ld (T 19)) (T 16) <|
 o (.store 1 (T 0) (T 3)) <|
 o (.nilchk (T 17)) <|
 o (.faddr 3 (T 0)) <|
 ck (ld (T 22)) (T 19) <|
 o (.store 1 (T 0) (T 5)) <|
 nrm [], false, []⟩
def f212 : LF := ⟨3,
 o (.nilchk (T 2)) <|
 o (.faddr 1 (T 0)) <|
 o (.nilchk (T 4)) <|
 o (.faddr 0 (T 0)) <|
 o (ld (T 0)) <|
 o (ix 1 (T 5) (K 0)) <|
 o (ld (T 0)) <|
 o (ix 4 (T 2) (T 0)) <|
 o (.faddr 0 (T 0)) <|
 o (ld (T 0)) <|
 ck (.mov (T 12)) (T 12) <|
 ck (ld (T 6)) (T 5) <|
 ck (.mov (T 10)) (T 10) <|
 ck (ix 1 (T 10) (K 0)) (T 4) <|
 ck (ld (T 4)) (T 3) <|
 ck (ix 4 (T 5) (T 3)) (T 2) <|
 ck (ld (T 1)) (T 0) <|
 bl 0 []
  (o (eq (T 0) (K 3)) <|
  .cond (T 0)
   (o (.len .slice (T 11)) <|
   o (.bin .gtr (T 0) (K 2)) <|
   o (call 208 [(T 15), (T 0), (T 14), (K 171)]) <|
   o (.un .not (T 0)) <|
   .cond (T 0)
    (o (.slice false 1 (T 15) none (some (K 1)) none) <|
    o (.slice false 1 (T 16) (some (K 1)) none none) <|
    o (.nilchk (T 15)) <|
    o (.faddr 1 (T 0)) <|
    ck (.mov (T 17)) (T 17) <|
    ck (.mov (T 17)) (T 17) <|
    ck (.mov (T 19)) (T 19) <|
    ck (.slice false 1 (T 19) none (some (K 1)) none) (T 3) <|
    ck (.mov (T 19)) (T 19) <|
    ck (.slice false 1 (T 19) (some (K 1)) none none) (T 2) <|
    o (.store 1 (T 0) (T 3)) <|
    o (.nilchk (T 18)) <|
    o (.faddr 3 (T 0)) <|
    ck (.mov (T 20)) (T 20) <|
    ck (.mov (T 22)) (T 22) <|
    ck (.slice false 1 (T 22) (some (K 1)) none none) (T 5) <|
    o (.store 1 (T 0) (T 5)) <|
    nrm [])
    (nrm []))
   (o (eq (T 1) (K 4)) <|
   .cond (T 0)
    (o (ix 1 (T 12) (K 0)) <|
    o (ld (T 0)) <|
    o (call 207 [(T 16), (T 0), (K 9)]) <|
    o (call 209 [(T 17), (T 0)]) <|
    o (.len .slice (T 0)) <|
    o (eq (T 0) (K 0)) <|
    o (ix 1 (T 18) (K 0)) <|
    o (ld (T 0)) <|
    o (call 208 [(T 22), (T 2), (T 0), (K 170)]) <|
    o (.un .not (T 0)) <|
    .cond (T 0)
     (o (.slice false 1 (T 6) none (some (K 1)) none) <|
     o (.slice false 1 (T 7) (some (K 1)) none none) <|
     o (.slice false 1 (T 24) (some (K 1)) none none) <|
     o (.nilchk (T 23)) <|
     o (.faddr 1 (T 0)) <|
     ck (.mov (T 25)) (T 25) <|
     ck (.mov (T 25)) (T 25) <|
     ck (.mov (T 25)) (T 25) <|
     ck (.mov (T 11)) (T 11) <|
     ck (.slice false 1 (T 11) none (some (K 1)) none) (T 4) <|
     ck (.mov (T 11)) (T 11) <|
     ck (.slice false 1 (T 11) (some (K 1)) none none) (T 3) <|
     ck (.mov (T 27)) (T 27) <|
     ck (.slice false 1 (T 27) (some (K 1)) none none) (T 2) <|
     o (.store 1 (T 0) (T 4)) <|
     o (.nilchk (T 26)) <|
     o (.faddr 2 (T 0)) <|
     ck (.mov (T 28)) (T 28) <|
     ck (.mov (T 28)) (T 28) <|
     ck (.mov (T 14)) (T 14) <|
     ck (.slice false 1 (T 14) (some (K 1)) none none) (T 6) <|
     ck (.mov (T 30)) (T 30) <|
     ck (.slice false 1 (T 30) (some (K 1)) none none) (T 5) <|
     o (.store 1 (T 0) (T 6)) <|
     o (.nilchk (T 29)) <|
     o (.faddr 4 (T 0)) <|
     ck (.mov (T 31)) (T 31) <|
     ck (.mov (T 33)) (T 33) <|
     ck (.slice false 1 (T 33) (some (K 1)) none none) (T 8) <|
     o (.store 1 (T 0) (T 8)) <|
     nrm [])
     (nrm []))
    (o (ix 1 (T 12) (K 0)) <|
    o (ld (T 0)) <|
    o (call 208 [(T 16), (.c (.bool true)), (T 0), (K 172)]) <|
    nrm []))) <|
 nrm [], false, []⟩
def f214 : LF := ⟨2,
 bl 0 []
  (.loop [3] [(K 1)] <|
  o (ld (T 1)) <|
  o (.len .slice (T 0)) <|
  o (lt (T 2) (T 0)) <|
  .cond (T 0)
   (bl 1 [3]
    (o (ld (T 4)) <|
    o (call 215 [(T 0), (T 4)]) <|
    o (.extract (T 0) 0) <|
    o (.extract (T 1) 1) <|
    o (ne (T 0) (K 0)) <|
    og (T 0) false (.mov (T 10)) <|
    og (T 1) false (.mov (T 9)) <|
    og (T 2) false (ld (T 11)) <|
    og (T 3) false (.mov (T 11)) <|
    og (T 4) false (.mov (T 12)) <|
    og (T 5) false (.mov (T 7)) <|
    og (T 6) false (ad (T 1) (T 0)) <|
    og (T 7) false (.slice false 8 (T 4) (some (T 3)) (some (T 0)) none) <|
    og (T 8) false (.callv (T 7) [(T 6), (T 0)]) <|
    og (T 9) false (.un .not (T 0)) <|
    o (.pick (T 10) (.c (.bool true)) (T 0)) <|
    .cond (T 0)
     (ret [])
     (o (ad (T 19) (T 13)) <|
     nrm [(T 0)])) <|
   nrm [(T 0)])
   (ex 0 [])) <|
 nrm [], false, []⟩
def f215 : LF := ⟨2,
 o (call 247 [(T 1), (T 0)]) <|
 o (ne (T 0) (K 0)) <|
 .cond (T 0)
  (ret [(K 0), (T 1)])
  (o (call 248 [(T 3), (T 2)]) <|
  o (.len .slice (T 0)) <|
  ret [(T 0), (K 0)]), false, [none, none]⟩
def f216 : LF := ⟨1,
 o (.len .slice (T 0)) <|
 o (.mksl [(I 0)] 8 (T 0) (T 0)) <|
 o (.len .slice (T 2)) <|
 o (sb (T 0) (K 1)) <|
 bl 0 []
  (.loop [4] [(T 0)] <|
  o (.bin .geq (T 0) (K 0)) <|
  .cond (T 0)
   (bl 1 []
    (o (ad (T 1) (K 1)) <|
    o (ix 8 (T 7) (T 2)) <|
    o (.faddr 1 (T 0)) <|
    o (ld (T 0)) <|
    bl 2 [5]
     (.loop [5, 23] [(T 3), (K 0)] <|
     o (lt (T 1) (T 2)) <|
     .cond (T 0)
      (bl 3 [5]
       (o (ix 1 (T 11) (T 1)) <|
       o (ld (T 0)) <|
       nrm [(T 0)]) <|
      o (ad (T 3) (K 1)) <|
      nrm [(T 1), (T 0)])
      (ex 2 [(T 1)])) <|
    o (ix 1 (T 9) (T 6)) <|
    o (.store 1 (T 0) (T 1)) <|
    nrm []) <|
   o (sb (T 1) (K 1)) <|
   nrm [(T 0)])
   (ex 0 [])) <|
 ret [(T 2)], false, [none]⟩
def f217 : LF := ⟨1,
 o (.box 8 (T 0)) <|
 o (.faddr 0 (T 0)) <|
 o (ld (T 0)) <|
 o (eq (T 0) (K 3)) <|
 og (T 0) true (.faddr 3 (T 3)) <|
 og (T 1) true (ld (T 0)) <|
 og (T 2) true (eq (T 0) (.c (.str [46, 46, 46]))) <|
 o (.pick (T 3) (T 0) (.c (.bool false))) <|
 ret [(T 0)], false, [none]⟩
def f218 : LF := ⟨1,
 o (.box 8 (T 0)) <|
 o (.faddr 0 (T 0)) <|
 o (ld (T 0)) <|
 o (eq (T 0) (K 3)) <|
 og (T 0) true (.faddr 3 (T 3)) <|
 og (T 1) true (ld (T 0)) <|
 og (T 2) true (eq (T 0) (.c (.str [95]))) <|
 o (.pick (T 3) (T 0) (.c (.bool false))) <|
 ret [(T 0)], false, [none]⟩
def f219 : LF := ⟨1,
 o (.box 8 (T 0)) <|
 o (.alloc [S0, S0]) <|
 o (.faddr 3 (T 1)) <|
 o (ld (T 0)) <|
 o (.faddr 4 (T 3)) <|
 o (ld (T 0)) <|
 o (.build [S0, S0] [(0, 1, (T 2)), (1, 1, (T 0))]) <|
 o (.store 2 (T 5) (T 0)) <|
 ret [(T 6)], false, [some (true, 2)]⟩
def f220 : LF := ⟨2,
 o (call 249 [(T 1), (T 0)]) <|
 o (.extract (T 0) 0) <|
 o (.extract (T 1) 1) <|
 o (.extract (T 2) 2) <|
 ret [(T 1), (T 0)], false, [none, none]⟩
def f221 : LF := ⟨2,
 o (call 249 [(T 1), (T 0)]) <|
 o (.extract (T 0) 0) <|
 o (.extract (T 1) 1) <|
 o (.extract (T 2) 2) <|
 ret [(T 2), (T 0)], false, [none, none]⟩
def f222 : LF := ⟨2,
 o (call 250 [(T 1), (T 0)]) <|
 o (.extract (T 0) 0) <|
 o (.extract (T 1) 1) <|
 o (.extract (T 2) 2) <|
 ret [(T 1), (T 0)], false, [none, none]⟩
def f223 : LF := ⟨1,
 o (.eqv .slice false true (T 0) (.c (.list .nil []))) <|
 .cond (T 0)
  (ret [(.c (.list .nil []))])
  (o (.bsl true [(I 0), (I 0), (I 0), S0, S0, (I 0), (I 0), (I 0)] 0 []) <|
  o (.append 8 80 (T 0) (T 2)) <|
  ret [(T 0)]), false, [none]⟩
def f227 : LF := ⟨3,
 o (.bin .leq (T 1) (T 2)) <|
 og (T 0) true (.mov (T 3)) <|
 og (T 1) true (.mov (T 2)) <|
 og (T 2) true (.bin .leq (T 1) (T 0)) <|
 o (.pick (T 3) (T 0) (.c (.bool false))) <|
 ret [(T 0)], false, [none]⟩
def f228 : LF := ⟨2,
 o (.box 2 (T 1)) <|
 o (.alloc [(I 0), (.list .nil [])]) <|
 bl 0 []
  (o (call 43 [(T 2), (K 0), (K 1000000000)]) <|
  o (.un .not (T 0)) <|
  .cond (T 0)
   (o (ldn 2 (T 3)) <|
   o (.store 2 (T 3) (T 0)) <|
   ret [(T 4), (K 7)])
   (o (ldn 2 (T 3)) <|
   o (call 251 [(T 0)]) <|
   o (.bin .gtr (T 6) (T 0)) <|
   .cond (T 0)
    (o (ldn 2 (T 6)) <|
    o (.store 2 (T 6) (T 0)) <|
    ret [(T 7), (K 5)])
    (nrm []))) <|
 o (.faddr 0 (T 1)) <|
 o (ld (T 0)) <|
 o (ad (T 0) (T 4)) <|
 o (.faddr 1 (T 4)) <|
 o (ld (T 0)) <|
 ck (ld (T 4)) (T 3) <|
 ck (.mov (T 7)) (T 7) <|
 ck (ld (T 1)) (T 0) <|
 o (call 252 [(T 0)]) <|
 o (.build [(I 0), (.list .nil [])] [(0, 1, (T 3)), (1, 1, (T 0))]) <|
 ck (ld (T 6)) (T 5) <|
 ck (.mov (T 9)) (T 9) <|
 o (.store 2 (T 7) (T 0)) <|
 ret [(T 8), (K 0)], false, [some (true, 2), none]⟩
def f231 : LF := ⟨1,
 o (.box 2 (T 0)) <|
 bl 0 []
  (o (.faddr 1 (T 0)) <|
  o (ld (T 0)) <|
  o (.len .slice (T 0)) <|
  o (eq (T 0) (K 0)) <|
  .cond (T 0)
   (ret [(K (-1)), (K 6)])
   (o (.faddr 1 (T 4)) <|
   o (ld (T 0)) <|
   o (.len .slice (T 0)) <|
   o (.bin .gtr (T 0) (K 20)) <|
   og (T 0) false (.faddr 0 (T 8)) <|
   og (T 1) false (ld (T 0)) <|
   og (T 2) false (.len .slice (T 0)) <|
   og (T 3) false (.bin .gtr (T 0) (K 20)) <|
   o (.pick (T 4) (.c (.bool true)) (T 0)) <|
   .cond (T 0)
    (ret [(K (-1)), (K 3)])
    (nrm []))) <|
 o (.faddr 0 (T 0)) <|
 o (ld (T 0)) <|
 o (.len .slice (T 0)) <|
 o (.build [(I 0), (I 0), (I 0), S0, S0, (I 0), (I 0), (I 0)] [(0, 1, (K 4)), (1, 1, (T 0))]) <|
 o (.bsl true [(I 0), (I 0), (I 0), S0, S0, (I 0), (I 0), (I 0)] 1 [(0, (T 0))]) <|
 o (.faddr 0 (T 5)) <|
 o (ld (T 0)) <|
 o (.len .slice (T 0)) <|
 bl 1 [4]
  (.loop [4, 40] [(T 3), (K 0)] <|
  o (lt (T 1) (T 2)) <|
  .cond (T 0)
   (bl 2 [4]
    (o (ix 2 (T 4) (T 2)) <|
    o (ldn 2 (T 0)) <|
    o (.alloc [S0, S0]) <|
    o (.store 2 (T 0) (T 1)) <|
    o (.faddr 0 (T 1)) <|
    o (ld (T 0)) <|
    o (.faddr 1 (T 3)) <|
    o (ld (T 0)) <|
    o (.build [(I 0), (I 0), (I 0), S0, S0, (I 0), (I 0), (I 0)] [(0, 1, (K 3)), (3, 1, (T 2)), (4, 1, (T 0))]) <|
    o (.bsl false [(I 0), (I 0), (I 0), S0, S0, (I 0), (I 0), (I 0)] 1 [(0, (T 0))]) <|
    o (.append 8 80 (T 11) (T 0)) <|
    nrm [(T 0)]) <|
   o (ad (T 3) (K 1)) <|
   nrm [(T 1), (T 0)])
   (ex 1 [(T 1)])) <|
 o (call 173 [(T 0)]) <|
 o (.extract (T 0) 0) <|
 o (.extract (T 1) 1) <|
 o (.extract (T 2) 2) <|
 o (ne (T 0) (K 0)) <|
 .cond (T 0)
  (ret [(K (-1)), (T 1)])
  (o (.faddr 1 (T 14)) <|
  o (ld (T 0)) <|
  o (.len .slice (T 0)) <|
  bl 3 []
   (.loop [65] [(K 0)] <|
   o (lt (T 0) (T 1)) <|
   .cond (T 0)
    (bl 4 []
     (o (ix 2 (T 3) (T 1)) <|
     o (ldn 2 (T 0)) <|
     o (.alloc [(.list .nil []), (.list .nil [])]) <|
     o (.store 2 (T 0) (T 1)) <|
     o (.faddr 0 (T 1)) <|
     o (ld (T 0)) <|
     o (.faddr 0 (T 25)) <|
     o (ld (T 0)) <|
     o (call 221 [(T 2), (T 0)]) <|
     o (.extract (T 0) 0) <|
     o (.extract (T 1) 1) <|
     o (ne (T 0) (K 0)) <|
     .cond (T 0)
      (ret [(T 13), (T 1)])
      (o (.faddr 1 (T 9)) <|
      o (ld (T 0)) <|
      o (call 222 [(T 0), (T 4)]) <|
      o (.extract (T 0) 0) <|
      o (.extract (T 1) 1) <|
      o (ne (T 0) (K 0)) <|
      .cond (T 0)
       (ret [(T 19), (T 1)])
       (nrm []))) <|
    o (ad (T 1) (K 1)) <|
    nrm [(T 0)])
    (ex 3 [])) <|
  ret [(K 0), (K 0)]), false, [none, none]⟩
def f232 : LF := ⟨4,
 o (.faddr 1 (T 2)) <|
 o (ld (T 0)) <|
 o (.len .slice (T 0)) <|
 bl 0 []
  (.loop [12] [(K 0)] <|
  o (lt (T 0) (T 1)) <|
  .cond (T 0)
   (bl 1 []
    (o (ix 2 (T 3) (T 1)) <|
    o (ldn 2 (T 0)) <|
    o (.alloc [(.list .nil []), (.list .nil [])]) <|
    o (.store 2 (T 0) (T 1)) <|
    o (ld (T 10)) <|
    o (.faddr 0 (T 2)) <|
    o (ld (T 0)) <|
    o (.faddr 0 (T 14)) <|
    o (ld (T 0)) <|
    o (ld (T 14)) <|
    o (call 233 [(T 5), (T 3), (T 1), (T 0)]) <|
    o (.extract (T 0) 0) <|
    o (.extract (T 1) 1) <|
    o (eq (T 0) (K 0)) <|
    og (T 0) true (.mov (T 22)) <|
    og (T 1) true (.mov (T 16)) <|
    og (T 2) true (.mov (T 4)) <|
    og (T 3) true (.callv (T 2) [(T 1), (T 0)]) <|
    og (T 4) true (.un .not (T 0)) <|
    o (.pick (T 5) (T 0) (.c (.bool false))) <|
    .cond (T 0)
     (ret [])
     (nrm [])) <|
   o (ad (T 1) (K 1)) <|
   nrm [(T 0)])
   (ex 0 [])) <|
 nrm [], false, []⟩
def f233 : LF := ⟨4,
 o (call 253 [(T 3), (T 2), (T 1), (T 0)]) <|
 o (.extract (T 0) 0) <|
 o (.extract (T 1) 1) <|
 o (.extract (T 2) 2) <|
 o (ne (T 0) (K 0)) <|
 .cond (T 0)
  (ret [(.c (.list .nil [])), (T 1)])
  (o (.bin .geq (T 2) (K 0)) <|
  .cond (T 0)
   (ret [(.c (.list .nil [])), (K 14)])
   (o (call 221 [(T 8), (T 7)]) <|
   o (.extract (T 0) 0) <|
   o (.extract (T 1) 1) <|
   o (.len .slice (T 1)) <|
   bl 0 [14]
    (.loop [14, 39] [(.c (.list .nil [])), (K 0)] <|
    o (lt (T 1) (T 2)) <|
    .cond (T 0)
     (bl 1 [14]
      (o (ix 3 (T 5) (T 2)) <|
      o (ldn 3 (T 0)) <|
      o (.alloc [S0, S0, (I 0)]) <|
      o (.store 3 (T 0) (T 1)) <|
      o (.faddr 0 (T 1)) <|
      o (ldn 2 (T 0)) <|
      o (.faddr 2 (T 3)) <|
      o (ld (T 0)) <|
      o (.nilchk (T 19)) <|
      o (.faddr 6 (T 0)) <|
      o (ld (T 0)) <|
      o (.faddr 0 (T 8)) <|
      o (ldn 2 (T 0)) <|
      o (.lookup (.agg [.str, .str]) (.list .nil []) false (T 2) (T 0)) <|
      o (.build [S0, S0, (I 0), (.list .nil [])] [(0, 2, (T 8)), (2, 1, (T 6)), (3, 1, (T 0))]) <|
      o (.bsl false [S0, S0, (I 0), (.list .nil [])] 1 [(0, (T 0))]) <|
      ck (.mov (T 17)) (T 17) <|
      ck (ldn 2 (T 11)) (T 10) <|
      ck (ld (T 9)) (T 8) <|
      ck (.mov (T 27)) (T 27) <|
      ck (ld (T 6)) (T 5) <|
      ck (ldn 2 (T 4)) (T 3) <|
      ck (.lookup (.agg [.str, .str]) (.list .nil []) false (T 5) (T 3)) (T 2) <|
      o (.append 4 64 (T 17) (T 0)) <|
      nrm [(T 0)]) <|
     o (ad (T 3) (K 1)) <|
     nrm [(T 1), (T 0)])
     (ex 0 [(T 1)])) <|
   ret [(T 0), (T 2)])), false, [none, none]⟩
def f234 : LF := ⟨4,
 o (.box 4 (T 0)) <|
 o (ldn 4 (T 0)) <|
 o (call 254 [(T 5), (T 4), (T 3), (T 0)]) <|
 o (.extract (T 0) 0) <|
 o (.extract (T 1) 1) <|
 o (ne (T 0) (K 0)) <|
 .cond (T 0)
  (ret [(.c .nilp), (T 1)])
  (o (.nilchk (T 2)) <|
  o (.faddr 0 (T 0)) <|
  o (ld (T 0)) <|
  o (.len .slice (T 0)) <|
  bl 0 []
   (.loop [31] [(K 0)] <|
   o (lt (T 0) (T 1)) <|
   .cond (T 0)
    (bl 1 []
     (o (.nilchk (T 8)) <|
     o (.faddr 1 (T 0)) <|
     o (ld (T 0)) <|
     o (ix 1 (T 0) (T 4)) <|
     o (ld (T 0)) <|
     o (.un .not (T 0)) <|
     .cond (T 0)
      (ex 1 [])
      (o (.nilchk (T 14)) <|
      o (.faddr 0 (T 0)) <|
      o (ld (T 0)) <|
      o (.nilchk (T 17)) <|
      o (.faddr 0 (T 0)) <|
      o (ld (T 0)) <|
      o (ix 8 (T 0) (T 13)) <|
      o (.faddr 4 (T 0)) <|
      o (ld (T 0)) <|
      o (.faddr 3 (T 26)) <|
      o (ld (T 0)) <|
      ck (.mov (T 25)) (T 25) <|
      ck (ld (T 9)) (T 8) <|
      ck (.mov (T 18)) (T 18) <|
      ck (.mov (T 25)) (T 25) <|
      ck (ld (T 6)) (T 5) <|
      ck (.mov (T 18)) (T 18) <|
      ck (ix 8 (T 5) (T 18)) (T 4) <|
      ck (ld (T 3)) (T 2) <|
      ck (ld (T 1)) (T 0) <|
      o (call 255 [(T 2), (T 0)]) <|
      o (.extract (T 0) 0) <|
      o (.extract (T 1) 1) <|
      o (ix 8 (T 11) (T 21)) <|
      o (.faddr 4 (T 0)) <|
      ck (.mov (T 30)) (T 30) <|
      ck (ld (T 14)) (T 13) <|
      ck (.mov (T 23)) (T 23) <|
      ck (.mov (T 4)) (T 4) <|
      ck (ix 8 (T 13) (T 23)) (T 1) <|
      o (.store 1 (T 0) (T 3)) <|
      o (ne (T 3) (K 0)) <|
      .cond (T 0)
       (ret [(.c .nilp), (T 4)])
       (nrm []))) <|
    o (ad (T 1) (K 1)) <|
    nrm [(T 0)])
    (ex 0 [])) <|
  o (.nilchk (T 6)) <|
  o (.faddr 0 (T 0)) <|
  o (ld (T 0)) <|
  o (call 25 [(T 0)]) <|
  o (.extract (T 0) 0) <|
  o (.extract (T 1) 1) <|
  o (ne (T 0) (K 0)) <|
  .cond (T 0)
   (ret [(.c .nilp), (T 1)])
   (ret [(T 13), (K 0)])), false, [none, none]⟩
def f235 : LF := ⟨1,
 o (call 256 [(T 0)]) <|
 o (call 186 [(T 0)]) <|
 o (.un .not (T 0)) <|
 .cond (T 0)
  (ret [(.c (.int .i32 0)), (.c (.bool false))])
  (o (call 257 [(T 2)]) <|
  o (.extract (T 0) 0) <|
  o (.extract (T 1) 1) <|
  o (.b2s (T 6)) <|
  o (.b2s (T 2)) <|
  o (eq (T 1) (T 0)) <|
  ck (.mov (T 8)) (T 8) <|
  ck (.mov (T 9)) (T 9) <|
  ck (.b2s (T 9)) (T 2) <|
  ck (.mov (T 4)) (T 4) <|
  ck (.b2s (T 4)) (T 1) <|
  ck (.mov (T 9)) (T 9) <|
  ck (.b2s (T 9)) (T 2) <|
  ck (.mov (T 4)) (T 4) <|
  ck (.b2s (T 4)) (T 1) <|
  ret [(T 8), (T 0)]), false, [none, none]⟩
def f242 : LF := ⟨1,
 o (.len .slice (T 0)) <|
 bl 0 []
  (.loop [8] [(K 0)] <|
  o (lt (T 0) (T 1)) <|
  .cond (T 0)
   (bl 1 []
    (o (ix 1 (T 3) (T 1)) <|
    o (ld (T 0)) <|
    o (lt (T 0) (.c (.int .u8 128))) <|
    .cond (T 0)
     (o (.cint .i32 (T 1)) <|
     ret [(T 0), (K 1)])
     (ex 0 [])) <|
   o (ad (T 1) (K 1)) <|
   nrm [(T 0)])
   (ex 0 [])) <|
 o (call 259 [(T 1)]) <|
 o (.extract (T 0) 0) <|
 o (.extract (T 1) 1) <|
 ret [(T 1), (T 0)], false, [none, none]⟩
def f246 : LF := ⟨2,
 o (ad (T 0) (K 1)) <|
 o (.nilchk (T 2)) <|
 o (.faddr 0 (T 0)) <|
 o (ld (T 0)) <|
 o (ix 4 (T 0) (T 4)) <|
 o (.faddr 1 (T 0)) <|
 o (ld (T 0)) <|
 bl 0 [5]
  (.loop [5, 6, 17] [(.c (.list .nil [])), (T 6), (K 0)] <|
  o (lt (T 2) (T 3)) <|
  .cond (T 0)
   (bl 1 [5, 6]
    (o (.bsl false [(I 0)] 1 [(0, (T 2))]) <|
    o (.append 1 8 (T 2) (T 0)) <|
    o (call 260 [(T 14), (T 4)]) <|
    o (ad (T 5) (T 0)) <|
    nrm [(T 2), (T 0)]) <|
   o (ad (T 5) (K 1)) <|
   nrm [(T 1), (T 2), (T 0)])
   (ex 0 [(T 1)])) <|
 ret [(T 0)], false, [none]⟩
def f247 : LF := ⟨2,
 o (call 25 [(T 1)]) <|
 o (.extract (T 0) 0) <|
 o (.extract (T 1) 1) <|
 o (ne (T 0) (K 0)) <|
 .cond (T 0)
  (ret [(T 1)])
  (o (lt (T 4) (K 0)) <|
  og (T 0) false (.mov (T 5)) <|
  og (T 1) false (.mov (T 7)) <|
  og (T 2) false (.len .slice (T 0)) <|
  og (T 3) false (.bin .geq (T 2) (T 0)) <|
  o (.pick (T 4) (.c (.bool true)) (T 0)) <|
  .cond (T 0)
   (ret [(K 4)])
   (ret [(K 0)])), false, [none]⟩
def f248 : LF := ⟨2,
 o (call 261 [(T 1), (T 0)]) <|
 o (.slice false 8 (T 2) (some (T 1)) (some (T 0)) (some (T 0))) <|
 ret [(T 0)], false, [none]⟩
def f250 : LF := ⟨2,
 o (call 25 [(T 1)]) <|
 o (.extract (T 0) 0) <|
 o (.extract (T 1) 1) <|
 o (ne (T 0) (K 0)) <|
 .cond (T 0)
  (ret [(.c .nilp), (T 2), (T 1)])
  (o (.len .slice (T 5)) <|
  o (.mksl [(I 0)] 8 (T 0) (T 0)) <|
  o (.len .slice (T 7)) <|
  o (.mksl [(.bool false)] 1 (T 0) (T 0)) <|
  o (.len .slice (T 9)) <|
  o (.mksl [(I 0)] 8 (T 0) (T 0)) <|
  ck (.mov (T 11)) (T 11) <|
  ck (.mov (T 10)) (T 10) <|
  ck (.mov (T 11)) (T 11) <|
  ck (.mov (T 11)) (T 11) <|
  ck (.len .slice (T 11)) (T 5) <|
  ck (.mov (T 11)) (T 11) <|
  ck (.len .slice (T 11)) (T 3) <|
  ck (.mov (T 11)) (T 11) <|
  ck (.len .slice (T 11)) (T 1) <|
  o (call 263 [(T 11)]) <|
  o (.build [(.list .nil []), (.list .nil []), (.list .nil []), (.list .nil []), (.list .nil []), (.list .nil [])] [(0, 1, (T 12)), (1, 1, (T 11)), (2, 1, (T 0)), (3, 1, (T 5)), (4, 1, (T 3)), (5, 1, (T 1))]) <|
  o (.box 6 (T 0)) <|
  ck (.mov (T 14)) (T 14) <|
  ck (.mov (T 13)) (T 13) <|
  ck (.mov (T 14)) (T 14) <|
  ck (.len .slice (T 14)) (T 8) <|
  ck (.mov (T 14)) (T 14) <|
  ck (.len .slice (T 14)) (T 6) <|
  ck (.mov (T 14)) (T 14) <|
  ck (.len .slice (T 14)) (T 4) <|
  o (.mkmap) <|
  o (.len .slice (T 14)) <|
  o (sb (T 0) (K 1)) <|
  bl 0 []
   (.loop [10] [(T 0)] <|
   o (.bin .geq (T 0) (K 0)) <|
   .cond (T 0)
    (bl 1 []
     (o (ix 3 (T 18) (T 1)) <|
     o (.faddr 0 (T 0)) <|
     o (ldn 2 (T 0)) <|
     o (.mapupd (.agg [.str, .str]) (T 7) (T 0) (T 4)) <|
     nrm []) <|
    o (sb (T 1) (K 1)) <|
    nrm [(T 0)])
    (ex 0 [])) <|
  o (.len .slice (T 17)) <|
  o (.mksl [(.bool false)] 1 (T 0) (T 0)) <|
  o (ix 8 (T 19) (K 0)) <|
  o (ldn 8 (T 0)) <|
  o (call 264 [(T 0)]) <|
  o (ix 1 (T 3) (K 0)) <|
  o (.store 1 (T 0) (T 1)) <|
  o (.len .slice (T 24)) <|
  bl 2 []
   (.loop [72] [(K 0)] <|
   o (lt (T 0) (T 1)) <|
   .cond (T 0)
    (bl 3 []
     (o (ix 8 (T 27) (T 1)) <|
     o (ldn 8 (T 0)) <|
     o (.alloc [(I 0), (I 0), (I 0), S0, S0, (I 0), (I 0), (I 0)]) <|
     o (.store 8 (T 0) (T 1)) <|
     o (.nilchk (T 17)) <|
     o (.faddr 5 (T 0)) <|
     o (ld (T 0)) <|
     o (ix 1 (T 0) (T 8)) <|
     o (.store 1 (T 0) (K (-1))) <|
     o (ldn 8 (T 6)) <|
     o (call 265 [(T 0)]) <|
     o (.lookup (.agg [.str, .str]) (I 0) true (T 23) (T 0)) <|
     o (.extract (T 0) 0) <|
     o (.extract (T 1) 1) <|
     og (T 0) true (.faddr 0 (T 11)) <|
     og (T 1) true (ld (T 0)) <|
     og (T 2) true (eq (T 0) (K 3)) <|
     o (.pick (T 3) (T 0) (.c (.bool false))) <|
     og (T 0) true (ldn 8 (T 15)) <|
     og (T 1) true (call 264 [(T 0)]) <|
     og (T 2) true (.un .not (T 0)) <|
     o (.pick (T 3) (T 0) (.c (.bool false))) <|
     jn []
      (.cond (T 0)
       (o (.nilchk (T 35)) <|
       o (.faddr 5 (T 0)) <|
       o (ld (T 0)) <|
       o (ix 1 (T 0) (T 26)) <|
       o (.store 1 (T 0) (T 13)) <|
       nrm [])
       (nrm [])) <|
     o (.faddr 0 (T 19)) <|
     o (ld (T 0)) <|
     o (ne (T 0) (K 4)) <|
     .cond (T 0)
      (ex 3 [])
      (o (ad (T 26) (K 1)) <|
      bl 4 []
       (.loop [16, 17] [(T 0), (T 27)] <|
       o (.nilchk (T 41)) <|
       o (.faddr 2 (T 0)) <|
       o (ld (T 0)) <|
       o (ix 1 (T 0) (T 32)) <|
       o (ld (T 0)) <|
       o (lt (T 5) (T 0)) <|
       .cond (T 0)
        (bl 5 []
         (o (.nilchk (T 47)) <|
         o (.faddr 3 (T 0)) <|
         o (ld (T 0)) <|
         o (.nilchk (T 50)) <|
         o (.faddr 3 (T 0)) <|
         o (ld (T 0)) <|
         o (ix 1 (T 0) (T 41)) <|
         o (ld (T 0)) <|
         o (ix 1 (T 5) (T 14)) <|
         ck (.mov (T 56)) (T 56) <|
         ck (ld (T 7)) (T 6) <|
         ck (.mov (T 15)) (T 15) <|
         ck (.mov (T 56)) (T 56) <|
         ck (ld (T 4)) (T 3) <|
         ck (.mov (T 44)) (T 44) <|
         ck (ix 1 (T 3) (T 44)) (T 2) <|
         ck (ld (T 2)) (T 1) <|
         ck (ix 1 (T 6) (T 15)) (T 0) <|
         o (.store 1 (T 0) (T 1)) <|
         o (.nilchk (T 57)) <|
         o (.faddr 2 (T 0)) <|
         o (ld (T 0)) <|
         o (ix 1 (T 0) (T 19)) <|
         o (ld (T 0)) <|
         o (.nilchk (T 62)) <|
         o (.faddr 2 (T 0)) <|
         o (ld (T 0)) <|
         o (ix 1 (T 0) (T 53)) <|
         o (ld (T 0)) <|
         o (lt (T 5) (T 0)) <|
         og (T 0) true (.mov (T 82)) <|
         og (T 1) true (.mov (T 69)) <|
         og (T 2) true (.nilchk (T 0)) <|
         og (T 3) true (.faddr 2 (T 0)) <|
         og (T 4) true (ld (T 0)) <|
         og (T 5) true (.mov (T 32)) <|
         og (T 6) true (ix 1 (T 1) (T 0)) <|
         og (T 7) true (ld (T 0)) <|
         og (T 8) true (ix 8 (T 7) (T 0)) <|
         og (T 9) true (ldn 8 (T 0)) <|
         ck (.mov (T 78)) (T 78) <|
         ck (ld (T 19)) (T 18) <|
         ck (.mov (T 37)) (T 37) <|
         ck (ix 1 (T 18) (T 37)) (T 17) <|
         ck (ld (T 17)) (T 16) <|
         ck (.mov (T 78)) (T 78) <|
         ck (ld (T 14)) (T 13) <|
         ck (.mov (T 66)) (T 66) <|
         ck (ix 1 (T 13) (T 66)) (T 12) <|
         ck (ld (T 12)) (T 11) <|
         ck (.mov (T 10)) (T 10) <|
         ckg (T 10) true (ld (T 6)) (T 5) <|
         ckg (T 10) true (ix 1 (T 5) (T 4)) (T 3) <|
         ckg (T 10) true (ld (T 3)) (T 2) <|
         ckg (T 10) true (ix 8 (T 9) (T 2)) (T 1) <|
         ckg (T 10) true (ldn 8 (T 1)) (T 0) <|
         og (T 10) true (call 264 [(T 0)]) <|
         o (.pick (T 11) (T 0) (.c (.bool false))) <|
         jn []
          (.cond (T 0)
           (o (.nilchk (T 80)) <|
           o (.faddr 4 (T 0)) <|
           o (ld (T 0)) <|
           o (ix 1 (T 0) (T 42)) <|
           o (.store 1 (T 0) (.c (.bool true))) <|
           o (.nilchk (T 85)) <|
           o (.faddr 3 (T 0)) <|
           o (ld (T 0)) <|
           o (ix 1 (T 0) (T 47)) <|
           o (ld (T 0)) <|
           o (ad (T 0) (K 1)) <|
           o (ix 1 (T 3) (T 50)) <|
           o (.store 1 (T 0) (T 1)) <|
           nrm [])
           (nrm [])) <|
         o (ix 8 (T 94) (T 39)) <|
         o (ldn 8 (T 0)) <|
         o (call 264 [(T 0)]) <|
         og (T 0) true (.mov (T 43)) <|
         og (T 1) true (.mov (T 72)) <|
         og (T 2) true (eq (T 1) (T 0)) <|
         og (T 3) true (.mov (T 0)) <|
         og (T 0) false (.mov (T 101)) <|
         og (T 1) false (.mov (T 48)) <|
         og (T 2) false (ix 8 (T 1) (T 0)) <|
         og (T 3) false (ldn 8 (T 0)) <|
         og (T 4) false (call 264 [(T 0)]) <|
         og (T 9) true (.pick (T 5) (.c (.bool true)) (T 0)) <|
         o (.pick (T 10) (T 0) (.c (.bool false))) <|
         o (ix 1 (T 89) (T 53)) <|
         o (.store 1 (T 0) (T 1)) <|
         nrm []) <|
        o (.nilchk (T 47)) <|
        o (.faddr 2 (T 0)) <|
        o (ld (T 0)) <|
        o (ix 1 (T 0) (T 9)) <|
        o (ld (T 0)) <|
        ck (.mov (T 11)) (T 11) <|
        ck (.mov (T 52)) (T 52) <|
        ck (ld (T 3)) (T 2) <|
        ck (.mov (T 11)) (T 11) <|
        ck (ix 1 (T 2) (T 11)) (T 1) <|
        ck (ld (T 1)) (T 0) <|
        ck (.mov (T 52)) (T 52) <|
        ck (ld (T 3)) (T 2) <|
        ck (.mov (T 11)) (T 11) <|
        ck (ix 1 (T 2) (T 11)) (T 1) <|
        ck (ld (T 1)) (T 0) <|
        nrm [(T 0), (T 11)])
        (ex 4 [])) <|
      nrm [])) <|
    o (ad (T 1) (K 1)) <|
    nrm [(T 0)])
    (ex 2 [])) <|
  o (.len .slice (T 25)) <|
  bl 6 [4]
   (.loop [4, 210] [(T 12), (K 0)] <|
   o (lt (T 1) (T 2)) <|
   .cond (T 0)
    (bl 7 [4]
     (o (ix 8 (T 29) (T 2)) <|
     o (ldn 8 (T 0)) <|
     o (.alloc [(I 0), (I 0), (I 0), S0, S0, (I 0), (I 0), (I 0)]) <|
     o (.store 8 (T 0) (T 1)) <|
     o (.nilchk (T 5)) <|
     o (.faddr 5 (T 0)) <|
     o (ld (T 0)) <|
     o (ix 1 (T 0) (T 9)) <|
     o (ld (T 0)) <|
     bl 8 [4]
      (o (ldn 8 (T 6)) <|
      o (call 264 [(T 0)]) <|
      .cond (T 0)
       (o (ix 1 (T 21) (T 13)) <|
       o (ld (T 0)) <|
       .cond (T 0)
        (ret [(.c .nilp), (T 15), (K 6)])
        (nrm [(T 14)]))
       (o (.bin .geq (T 2) (K 0)) <|
       og (T 0) true (.mov (T 40)) <|
       og (T 1) true (.mov (T 4)) <|
       og (T 2) true (ix 3 (T 1) (T 0)) <|
       og (T 3) true (.faddr 2 (T 0)) <|
       og (T 4) true (ld (T 0)) <|
       og (T 5) true (.bin .gtr (T 0) (K 0)) <|
       o (.pick (T 6) (T 0) (.c (.bool false))) <|
       og (T 0) true (.mov (T 47)) <|
       og (T 1) true (.mov (T 11)) <|
       og (T 2) true (ix 3 (T 1) (T 0)) <|
       og (T 3) true (.faddr 2 (T 0)) <|
       og (T 4) true (ld (T 0)) <|
       og (T 5) true (.mov (T 25)) <|
       og (T 6) true (.nilchk (T 0)) <|
       og (T 7) true (.faddr 3 (T 0)) <|
       og (T 8) true (ld (T 0)) <|
       og (T 9) true (.mov (T 30)) <|
       og (T 10) true (ix 1 (T 1) (T 0)) <|
       og (T 11) true (ld (T 0)) <|
       og (T 12) true (ne (T 7) (T 0)) <|
       o (.pick (T 13) (T 0) (.c (.bool false))) <|
       ck (.mov (T 24)) (T 24) <|
       ck (.mov (T 21)) (T 21) <|
       ckg (T 21) true (ix 3 (T 20) (T 19)) (T 18) <|
       ckg (T 21) true (ld (T 17)) (T 16) <|
       ck (.mov (T 14)) (T 14) <|
       ckg (T 14) true (ix 3 (T 13) (T 12)) (T 11) <|
       ckg (T 14) true (ld (T 10)) (T 9) <|
       ckg (T 14) true (ld (T 6)) (T 5) <|
       ckg (T 14) true (ix 1 (T 5) (T 4)) (T 3) <|
       ckg (T 14) true (ld (T 3)) (T 2) <|
       .cond (T 0)
        (ret [(.c .nilp), (T 35), (K 6)])
        (o (.nilchk (T 34)) <|
        o (.faddr 3 (T 0)) <|
        o (ld (T 0)) <|
        o (ix 1 (T 0) (T 38)) <|
        o (ld (T 0)) <|
        o (.bin .gtr (T 0) (K 3)) <|
        .cond (T 0)
         (ret [(.c .nilp), (T 41), (K 3)])
         (nrm [(T 40)])))) <|
     nrm [(T 0)]) <|
    o (ad (T 3) (K 1)) <|
    nrm [(T 1), (T 0)])
    (ex 6 [(T 1)])) <|
  o (.len .slice (T 27)) <|
  bl 9 [4]
   (.loop [4, 270] [(T 1), (K 0)] <|
   o (lt (T 1) (T 2)) <|
   .cond (T 0)
    (bl 10 [4]
     (o (.nilchk (T 1)) <|
     o (.faddr 4 (T 0)) <|
     o (ld (T 0)) <|
     o (ix 1 (T 0) (T 5)) <|
     o (ld (T 0)) <|
     og (T 0) true (.mov (T 6)) <|
     og (T 1) true (.mov (T 8)) <|
     og (T 2) true (call 266 [(T 1), (T 0), (K 1)]) <|
     og (T 3) true (.len .slice (T 0)) <|
     og (T 4) true (eq (T 0) (K 0)) <|
     o (.pick (T 5) (T 0) (.c (.bool false))) <|
     .cond (T 0)
      (ret [(.c .nilp), (T 13), (K 6)])
      (nrm [(T 12)])) <|
    o (ad (T 3) (K 1)) <|
    nrm [(T 1), (T 0)])
    (ex 9 [(T 1)])) <|
  ret [(T 0), (K 0), (K 0)]), false, [none, none, none]⟩
def f251 : LF := ⟨1,
 o (.box 2 (T 0)) <|
 o (.faddr 1 (T 0)) <|
 o (ld (T 0)) <|
 o (.faddr 1 (T 2)) <|
 o (ld (T 0)) <|
 o (.len .slice (T 0)) <|
 o (sb (T 0) (K 1)) <|
 o (ix 1 (T 4) (T 0)) <|
 o (ld (T 0)) <|
 o (.faddr 0 (T 8)) <|
 o (ld (T 0)) <|
 o (sb (T 2) (T 0)) <|
 ck (ld (T 10)) (T 9) <|
 ck (ld (T 8)) (T 7) <|
 ck (.len .slice (T 7)) (T 6) <|
 ck (ix 1 (T 9) (T 5)) (T 4) <|
 ck (ld (T 4)) (T 3) <|
 ck (ld (T 2)) (T 1) <|
 ret [(T 0)], false, [none]⟩
def f252 : LF := ⟨1,
 o (.eqv .slice false true (T 0) (.c (.list .nil []))) <|
 .cond (T 0)
  (ret [(.c (.list .nil []))])
  (o (.bsl true [(I 0)] 0 []) <|
  o (.append 1 8 (T 0) (T 2)) <|
  ret [(T 0)]), false, [none]⟩
def f253 : LF := ⟨4,
 o (.alloc [(I 0)]) <|
 o (call 69 [(T 4)]) <|
 o (.extract (T 0) 0) <|
 o (.extract (T 1) 1) <|
 o (ne (T 0) (K 0)) <|
 .cond (T 0)
  (o (.store 1 (T 4) (K 0)) <|
  ret [(.c .nilp), (T 5), (T 2)])
  (o (call 220 [(T 7), (T 6)]) <|
  o (.extract (T 0) 0) <|
  o (.extract (T 1) 1) <|
  o (ne (T 0) (K 0)) <|
  .cond (T 0)
   (o (.store 1 (T 8) (K 0)) <|
   ret [(.c .nilp), (T 9), (T 2)])
   (o (call 25 [(T 9)]) <|
   o (.extract (T 0) 0) <|
   o (.extract (T 1) 1) <|
   o (ne (T 0) (K 0)) <|
   .cond (T 0)
    (o (.store 1 (T 12) (K 0)) <|
    ret [(.c .nilp), (T 13), (T 2)])
    (o (call 268 [(T 15), (fc 267)]) <|
    o (call 268 [(T 14), (fc 267)]) <|
    o (.mkmap) <|
    o (.mkmap) <|
    o (.build [(.list .nil []), (.list .nil []), (.list .nil []), (.list .nil []), (.list .nil []), .nilm, .nilm] [(0, 1, (T 20)), (1, 1, (T 19)), (2, 1, (T 17)), (3, 1, (T 3)), (4, 1, (T 2)), (5, 1, (T 1)), (6, 1, (T 0))]) <|
    o (.box 7 (T 0)) <|
    o (.len .slice (T 20)) <|
    bl 0 []
     (.loop [60] [(K 0)] <|
     o (lt (T 0) (T 1)) <|
     .cond (T 0)
      (bl 1 []
       (o (ix 2 (T 23) (T 1)) <|
       o (ldn 2 (T 0)) <|
       o (.alloc [S0, S0]) <|
       o (.store 2 (T 0) (T 1)) <|
       o (.nilchk (T 7)) <|
       o (.faddr 5 (T 0)) <|
       o (ld (T 0)) <|
       o (ldn 2 (T 4)) <|
       ck (.mov (T 11)) (T 11) <|
       ck (ld (T 2)) (T 1) <|
       ck (ldn 2 (T 5)) (T 0) <|
       o (.mapupd (.agg [.str, .str]) (T 1) (T 0) (.c (.bool true))) <|
       nrm []) <|
      o (ad (T 1) (K 1)) <|
      nrm [(T 0)])
      (ex 0 [])) <|
    o (.mkfn (.func 269) [] [(T 19)]) <|
    o (.defer (T 0) []) <|
    o (call 270 [(T 3), (K 0), (K 0), (K 1)]) <|
    o (.store 1 (T 22) (K (-1))) <|
    ret [(T 5), (T 23), (K 0)]))), false, [none, some (false, 1), none]⟩
def f254 : LF := ⟨4,
 o (.box 4 (T 0)) <|
 o (.len .slice (T 3)) <|
 bl 0 [10]
  (.loop [10, 34] [(.c (.list .nil [])), (K 0)] <|
  o (lt (T 1) (T 2)) <|
  .cond (T 0)
   (bl 1 [10]
    (o (ix 4 (T 7) (T 2)) <|
    o (ldn 4 (T 0)) <|
    o (.alloc [S0, S0, (I 0), (.list .nil [])]) <|
    o (.store 4 (T 0) (T 1)) <|
    o (.faddr 0 (T 1)) <|
    o (ldn 2 (T 0)) <|
    o (.faddr 2 (T 3)) <|
    o (ld (T 0)) <|
    o (.build [S0, S0, (I 0)] [(0, 2, (T 2)), (2, 1, (T 0))]) <|
    o (.bsl false [S0, S0, (I 0)] 1 [(0, (T 0))]) <|
    o (.append 3 40 (T 11) (T 0)) <|
    nrm [(T 0)]) <|
   o (ad (T 3) (K 1)) <|
   nrm [(T 1), (T 0)])
   (ex 0 [(T 1)])) <|
 o (call 250 [(T 6), (T 0)]) <|
 o (.extract (T 0) 0) <|
 o (.extract (T 1) 1) <|
 o (.extract (T 2) 2) <|
 o (ne (T 0) (K 0)) <|
 .cond (T 0)
  (ret [(.c .nilp), (T 1)])
  (o (call 25 [(T 9)]) <|
  o (.extract (T 0) 0) <|
  o (.extract (T 1) 1) <|
  o (ne (T 0) (K 0)) <|
  .cond (T 0)
   (ret [(.c .nilp), (T 1)])
   (o (.len .slice (T 14)) <|
   bl 2 []
    (.loop [67] [(K 0)] <|
    o (lt (T 0) (T 1)) <|
    .cond (T 0)
     (bl 3 []
      (o (ix 4 (T 17) (T 1)) <|
      o (ldn 4 (T 0)) <|
      o (.alloc [S0, S0, (I 0), (.list .nil [])]) <|
      o (.store 4 (T 0) (T 1)) <|
      o (ldn 4 (T 1)) <|
      o (call 271 [(T 0)]) <|
      o (ne (T 0) (K 0)) <|
      .cond (T 0)
       (ret [(.c .nilp), (T 1)])
       (nrm [])) <|
     o (ad (T 1) (K 1)) <|
     nrm [(T 0)])
     (ex 2 [])) <|
   o (.mkmap) <|
   o (.len .slice (T 16)) <|
   bl 4 []
    (.loop [80] [(K 0)] <|
    o (lt (T 0) (T 1)) <|
    .cond (T 0)
     (bl 5 []
      (o (ix 4 (T 19) (T 1)) <|
      o (ldn 4 (T 0)) <|
      o (.alloc [S0, S0, (I 0), (.list .nil [])]) <|
      o (.store 4 (T 0) (T 1)) <|
      o (.faddr 3 (T 1)) <|
      o (ld (T 0)) <|
      o (.len .slice (T 0)) <|
      bl 6 []
       (.loop [87] [(K 0)] <|
       o (lt (T 0) (T 1)) <|
       .cond (T 0)
        (bl 7 []
         (o (ix 2 (T 3) (T 1)) <|
         o (ldn 2 (T 0)) <|
         o (.alloc [(I 0), (I 0)]) <|
         o (.store 2 (T 0) (T 1)) <|
         o (.faddr 1 (T 1)) <|
         o (ld (T 0)) <|
         o (.len .slice (T 33)) <|
         o (.bin .geq (T 1) (T 0)) <|
         .cond (T 0)
          (ret [(.c .nilp), (K 6)])
          (nrm [])) <|
        o (ad (T 1) (K 1)) <|
        nrm [(T 0)])
        (ex 6 [])) <|
      o (.faddr 0 (T 4)) <|
      o (ldn 2 (T 0)) <|
      o (.lookup (.agg [.str, .str]) (.bool false) false (T 12) (T 0)) <|
      .cond (T 0)
       (ret [(.c .nilp), (K 6)])
       (o (.faddr 0 (T 7)) <|
       o (ldn 2 (T 0)) <|
       o (.mapupd (.agg [.str, .str]) (T 15) (T 0) (.c (.bool true))) <|
       nrm [])) <|
     o (ad (T 1) (K 1)) <|
     nrm [(T 0)])
     (ex 4 [])) <|
   o (ldn 4 (T 14)) <|
   o (call 272 [(T 11), (T 18), (T 17), (T 0)]) <|
   o (.extract (T 0) 0) <|
   o (.extract (T 1) 1) <|
   bl 8 []
    (o (.mkif 460 (K 2)) <|
    o (call 273 [(T 1), (T 0)]) <|
    .cond (T 0)
     (ret [(.c .nilp), (K 14)])
     (o (.mkif 460 (K 0)) <|
     o (call 273 [(T 3), (T 0)]) <|
     .cond (T 0)
      (ret [(.c .nilp), (K 3)])
      (nrm []))) <|
   o (.nilchk (T 1)) <|
   o (.faddr 0 (T 0)) <|
   o (ld (T 0)) <|
   o (call 263 [(T 0)]) <|
   o (.nilchk (T 5)) <|
   o (.faddr 0 (T 0)) <|
   o (ld (T 0)) <|
   o (.len .slice (T 0)) <|
   o (.mksl [(I 0)] 8 (T 0) (T 0)) <|
   o (.nilchk (T 10)) <|
   o (.faddr 0 (T 0)) <|
   o (ld (T 0)) <|
   o (.len .slice (T 0)) <|
   bl 9 []
    (.loop [137] [(K 0)] <|
    o (lt (T 0) (T 1)) <|
    .cond (T 0)
     (bl 10 []
      (o (ix 1 (T 6) (T 1)) <|
      o (ld (T 0)) <|
      o (.bin .gtr (T 0) (K 200)) <|
      .cond (T 0)
       (ret [(.c .nilp), (K 3)])
       (o (ad (T 4) (K 1)) <|
       bl 11 []
        (.loop [31] [(T 0)] <|
        o (ix 1 (T 16) (T 6)) <|
        o (ld (T 0)) <|
        o (lt (T 2) (T 0)) <|
        .cond (T 0)
         (bl 12 []
          (o (ix 1 (T 14) (T 9)) <|
          o (ld (T 0)) <|
          o (ad (T 0) (K 1)) <|
          o (ix 1 (T 17) (T 6)) <|
          o (.store 1 (T 0) (T 1)) <|
          nrm []) <|
         o (ix 1 (T 19) (T 3)) <|
         o (ld (T 0)) <|
         nrm [(T 0)])
         (ex 11 [])) <|
       nrm [])) <|
     o (ad (T 1) (K 1)) <|
     nrm [(T 0)])
     (ex 9 [])) <|
   ret [(T 14), (K 0)])), false, [none, none]⟩
def f255 : LF := ⟨2,
 o (call 274 [(T 1), (T 0)]) <|
 o (.extract (T 0) 0) <|
 o (.extract (T 1) 1) <|
 .cond (T 1)
  (o (call 275 [(T 4), (T 3)]) <|
  o (.extract (T 0) 0) <|
  o (.extract (T 1) 1) <|
  ret [(T 1), (T 0)])
  (o (call 76 [(T 4), (T 3)]) <|
  o (.extract (T 0) 0) <|
  o (.extract (T 1) 1) <|
  ret [(T 1), (T 0)]), false, [none, none]⟩
def f256 : LF := ⟨1,
 o (ix 1 (T 0) (K 0)) <|
 o (ld (T 0)) <|
 o (.cint .i32 (T 0)) <|
 o (.build [(.int .i32 0), (.int .i32 0), (.int .i32 0), (.int .i32 0), (.int .i32 0)] [(0, 1, (.c (.int .i32 0))), (1, 1, (.c (.int .i32 0))), (2, 1, (.c (.int .i32 192))), (3, 1, (.c (.int .i32 224))), (4, 1, (.c (.int .i32 240)))]) <|
 o (.alloc [(.int .i32 0), (.int .i32 0), (.int .i32 0), (.int .i32 0), (.int .i32 0)]) <|
 o (.store 5 (T 0) (T 1)) <|
 bl 0 []
  (.loop [5] [(K 2)] <|
  o (.bin .leq (T 0) (K 4)) <|
  .cond (T 0)
   (bl 1 []
    (o (.iaddr (some 5) 1 (T 3) (T 1)) <|
    o (ld (T 0)) <|
    o (.cint .u64 (T 3)) <|
    o (.bin .shr (.c (.int .i32 64)) (T 0)) <|
    o (.bin .mul (T 0) (.c (.int .i32 2))) <|
    o (ad (T 3) (T 0)) <|
    o (.len .slice (T 14)) <|
    o (ne (T 0) (T 8)) <|
    og (T 0) false (.mov (T 13)) <|
    og (T 1) false (.mov (T 10)) <|
    og (T 2) false (.iaddr (some 5) 1 (T 13) (T 0)) <|
    og (T 3) false (ld (T 0)) <|
    og (T 4) false (lt (T 3) (T 0)) <|
    o (.pick (T 5) (.c (.bool true)) (T 0)) <|
    og (T 0) false (.mov (T 19)) <|
    og (T 1) false (.mov (T 9)) <|
    og (T 2) false (.bin .geq (T 1) (T 0)) <|
    o (.pick (T 3) (.c (.bool true)) (T 0)) <|
    .cond (T 0)
     (ex 1 [])
     (o (.iaddr (some 5) 1 (T 21) (T 19)) <|
     o (ld (T 0)) <|
     o (sb (T 25) (T 0)) <|
     bl 2 [7]
      (.loop [7, 8] [(T 0), (K 1)] <|
      o (lt (T 1) (T 24)) <|
      .cond (T 0)
       (bl 3 [7]
        (o (ix 1 (T 32) (T 2)) <|
        o (ld (T 0)) <|
        o (lt (T 0) (.c (.int .u8 128))) <|
        og (T 0) false (.mov (T 35)) <|
        og (T 1) false (.mov (T 6)) <|
        og (T 2) false (ix 1 (T 1) (T 0)) <|
        og (T 3) false (ld (T 0)) <|
        og (T 4) false (.bin .geq (T 0) (.c (.int .u8 192))) <|
        o (.pick (T 5) (.c (.bool true)) (T 0)) <|
        .cond (T 0)
         (ret [(.c (.int .i32 (-1)))])
         (o (.bin .mul (.c (.int .i32 64)) (T 10)) <|
         o (ix 1 (T 42) (T 12)) <|
         o (ld (T 0)) <|
         o (.cint .i32 (T 0)) <|
         o (ad (T 3) (T 0)) <|
         o (sb (T 0) (.c (.int .i32 128))) <|
         nrm [(T 0)])) <|
       o (ad (T 3) (K 1)) <|
       nrm [(T 1), (T 0)])
       (ex 2 [(T 1)])) <|
     ret [(T 0)])) <|
   o (ad (T 1) (K 1)) <|
   nrm [(T 0)])
   (ex 0 [])) <|
 o (.len .slice (T 6)) <|
 o (eq (T 0) (K 1)) <|
 og (T 0) true (.mov (T 5)) <|
 og (T 1) true (lt (T 0) (.c (.int .i32 128))) <|
 o (.pick (T 2) (T 0) (.c (.bool false))) <|
 .cond (T 0)
  (ret [(T 8)])
  (ret [(.c (.int .i32 (-1)))]), false, [none]⟩
def f257 : LF := ⟨1,
 o (call 186 [(T 0)]) <|
 o (.un .not (T 0)) <|
 .cond (T 0)
  (ret [(.c (.list .nil [])), (K 7)])
  (o (lt (T 2) (.c (.int .i32 128))) <|
  .cond (T 0)
   (o (.cint .u8 (T 3)) <|
   o (.bsl true [(.int .u8 0)] 1 [(0, (T 0))]) <|
   ret [(T 0), (K 0)])
   (o (lt (T 3) (.c (.int .i32 2048))) <|
   .cond (T 0)
    (o (.bin .quo (T 4) (.c (.int .i32 64))) <|
    o (ad (.c (.int .i32 192)) (T 0)) <|
    o (.cint .u8 (T 0)) <|
    o (.bin .rem (T 7) (.c (.int .i32 64))) <|
    o (ad (.c (.int .i32 128)) (T 0)) <|
    o (.cint .u8 (T 0)) <|
    o (.bsl true [(.int .u8 0)] 2 [(0, (T 3)), (1, (T 0))]) <|
    ret [(T 0), (K 0)])
    (o (lt (T 4) (.c (.int .i32 65536))) <|
    .cond (T 0)
     (o (.bin .quo (T 5) (.c (.int .i32 4096))) <|
     o (ad (.c (.int .i32 224)) (T 0)) <|
     o (.cint .u8 (T 0)) <|
     o (.bin .quo (T 8) (.c (.int .i32 64))) <|
     o (.bin .rem (T 0) (.c (.int .i32 64))) <|
     o (ad (.c (.int .i32 128)) (T 0)) <|
     o (.cint .u8 (T 0)) <|
     o (.bin .rem (T 12) (.c (.int .i32 64))) <|
     o (ad (.c (.int .i32 128)) (T 0)) <|
     o (.cint .u8 (T 0)) <|
     o (.bsl true [(.int .u8 0)] 3 [(0, (T 7)), (1, (T 3)), (2, (T 0))]) <|
     ret [(T 0), (K 0)])
     (o (.bin .quo (T 5) (.c (.int .i32 262144))) <|
     o (ad (.c (.int .i32 240)) (T 0)) <|
     o (.cint .u8 (T 0)) <|
     o (.bin .quo (T 8) (.c (.int .i32 4096))) <|
     o (.bin .rem (T 0) (.c (.int .i32 64))) <|
     o (ad (.c (.int .i32 128)) (T 0)) <|
     o (.cint .u8 (T 0)) <|
     o (.bin .quo (T 12) (.c (.int .i32 64))) <|
     o (.bin .rem (T 0) (.c (.int .i32 64))) <|
     o (ad (.c (.int .i32 128)) (T 0)) <|
     o (.cint .u8 (T 0)) <|
     o (.bin .rem (T 16) (.c (.int .i32 64))) <|
     o (ad (.c (.int .i32 128)) (T 0)) <|
     o (.cint .u8 (T 0)) <|
     o (.bsl true [(.int .u8 0)] 4 [(0, (T 11)), (1, (T 7)), (2, (T 3)), (3, (T 0))]) <|
     ret [(T 0), (K 0)])))), false, [none, none]⟩
def f260 : LF := ⟨2,
 bl 0 [5]
  (.loop [5, 6] [(K 0), (K 1)] <|
  o (.bin .gtr (T 1) (K 0)) <|
  .cond (T 0)
   (bl 1 [6]
    (o (.nilchk (T 4)) <|
    o (.faddr 0 (T 0)) <|
    o (ld (T 0)) <|
    o (ad (T 6) (T 4)) <|
    o (ix 4 (T 1) (T 0)) <|
    o (.faddr 1 (T 0)) <|
    o (ld (T 0)) <|
    o (sb (T 0) (K 1)) <|
    o (ad (T 10) (T 0)) <|
    nrm [(T 0)]) <|
   o (ad (T 2) (K 1)) <|
   nrm [(T 0), (T 1)])
   (ex 0 [(T 1)])) <|
 ret [(T 0)], false, [none]⟩
def f261 : LF := ⟨2,
 bl 0 [1]
  (.loop [1, 5] [(T 0), (K 1)] <|
  o (.bin .gtr (T 1) (K 0)) <|
  .cond (T 0)
   (bl 1 [5]
    (o (ix 8 (T 4) (T 1)) <|
    o (.faddr 1 (T 0)) <|
    o (ld (T 0)) <|
    o (sb (T 0) (K 1)) <|
    o (ad (T 6) (T 0)) <|
    nrm [(T 0)]) <|
   o (ad (T 2) (K 1)) <|
   nrm [(T 0), (T 1)])
   (ex 0 [(T 1)])) <|
 ret [(T 0)], false, [none]⟩
def f262 : LF := ⟨1,
 o (.box 1 (T 0)) <|
 o (ld (T 0)) <|
 o (call 216 [(T 0)]) <|
 o (.alloc [(.list .nil [])]) <|
 o (.store 1 (T 0) (T 1)) <|
 o (.alloc [.nilf]) <|
 o (.mkfn (.func 277) [] [(T 2), (T 5), (T 0)]) <|
 o (.store 1 (T 1) (T 0)) <|
 o (.mkfn (.func 278) [] [(T 2), (T 7)]) <|
 ret [(T 0)], false, [none]⟩
def f263 : LF := ⟨1,
 o (.len .slice (T 0)) <|
 o (.mksl [(I 0)] 8 (T 0) (T 0)) <|
 o (.len .slice (T 2)) <|
 o (sb (T 0) (K 1)) <|
 bl 0 []
  (.loop [4] [(T 0)] <|
  o (.bin .geq (T 0) (K 0)) <|
  .cond (T 0)
   (bl 1 []
    (o (ad (T 1) (K 1)) <|
    o (ix 8 (T 7) (T 2)) <|
    o (.faddr 1 (T 0)) <|
    o (ld (T 0)) <|
    bl 2 [5]
     (.loop [5, 23] [(T 3), (K 0)] <|
     o (lt (T 1) (T 2)) <|
     .cond (T 0)
      (bl 3 [5]
       (o (ix 1 (T 11) (T 1)) <|
       o (ld (T 0)) <|
       nrm [(T 0)]) <|
      o (ad (T 3) (K 1)) <|
      nrm [(T 1), (T 0)])
      (ex 2 [(T 1)])) <|
    o (ix 1 (T 9) (T 6)) <|
    o (.store 1 (T 0) (T 1)) <|
    nrm []) <|
   o (sb (T 1) (K 1)) <|
   nrm [(T 0)])
   (ex 0 [])) <|
 ret [(T 2)], false, [none]⟩
def f264 : LF := ⟨1,
 o (.box 8 (T 0)) <|
 o (.faddr 0 (T 0)) <|
 o (ld (T 0)) <|
 o (eq (T 0) (K 3)) <|
 og (T 0) true (.faddr 3 (T 3)) <|
 og (T 1) true (ld (T 0)) <|
 og (T 2) true (eq (T 0) (.c (.str [46, 46, 46]))) <|
 o (.pick (T 3) (T 0) (.c (.bool false))) <|
 ret [(T 0)], false, [none]⟩
def f265 : LF := ⟨1,
 o (.box 8 (T 0)) <|
 o (.alloc [S0, S0]) <|
 o (.faddr 3 (T 1)) <|
 o (ld (T 0)) <|
 o (.faddr 4 (T 3)) <|
 o (ld (T 0)) <|
 o (.build [S0, S0] [(0, 1, (T 2)), (1, 1, (T 0))]) <|
 o (.store 2 (T 5) (T 0)) <|
 ret [(T 6)], false, [some (true, 2)]⟩
def f267 : LF := ⟨1,
 o (.box 8 (T 0)) <|
 o (.faddr 1 (T 0)) <|
 o (ld (T 0)) <|
 ret [(T 0)], false, [none]⟩
def f268 : LF := ⟨2,
 o (.len .slice (T 1)) <|
 o (.mksl [(I 0)] 8 (T 0) (T 0)) <|
 o (.len .slice (T 3)) <|
 o (sb (T 0) (K 1)) <|
 bl 0 []
  (.loop [6] [(T 0)] <|
  o (.bin .geq (T 0) (K 0)) <|
  .cond (T 0)
   (bl 1 []
    (o (ad (T 1) (K 1)) <|
    o (ix 8 (T 8) (T 2)) <|
    o (ldn 8 (T 0)) <|
    o (.callv (T 9) [(T 0)]) <|
    bl 2 [7]
     (.loop [7, 26] [(T 3), (K 0)] <|
     o (lt (T 1) (T 2)) <|
     .cond (T 0)
      (bl 3 [7]
       (o (ix 1 (T 11) (T 1)) <|
       o (ld (T 0)) <|
       nrm [(T 0)]) <|
      o (ad (T 3) (K 1)) <|
      nrm [(T 1), (T 0)])
      (ex 2 [(T 1)])) <|
    o (ix 1 (T 9) (T 6)) <|
    o (.store 1 (T 0) (T 1)) <|
    nrm []) <|
   o (sb (T 1) (K 1)) <|
   nrm [(T 0)])
   (ex 0 [])) <|
 ret [(T 2)], false, [none]⟩
def f269 : LF := ⟨1,
 o (.recover) <|
 bl 0 []
  (o (.eqv .iface false true (T 0) (.c .nili)) <|
  .cond (T 0)
   (nrm [])
   (o (.tassert 452 (I 0) true (T 1)) <|
   o (.extract (T 0) 1) <|
   o (.extract (T 1) 0) <|
   .cond (T 1)
    (o (.store 1 (T 5) (T 0)) <|
    nrm [])
    (o (.panic (T 4)) <|
    nrm []))) <|
 nrm [], false, []⟩
def f270 : LF := ⟨4,
 o (.nilchk (T 3)) <|
 o (.faddr 2 (T 0)) <|
 o (ld (T 0)) <|
 o (ix 8 (T 0) (T 4)) <|
 o (.faddr 0 (T 0)) <|
 o (ld (T 0)) <|
 o (ne (T 0) (K 4)) <|
 og (T 0) false (.mov (T 10)) <|
 og (T 1) false (.nilchk (T 0)) <|
 og (T 2) false (.faddr 2 (T 0)) <|
 og (T 3) false (ld (T 0)) <|
 og (T 4) false (.mov (T 12)) <|
 og (T 5) false (ix 8 (T 1) (T 0)) <|
 og (T 6) false (.faddr 1 (T 0)) <|
 og (T 7) false (ld (T 0)) <|
 og (T 8) false (.mov (T 15)) <|
 og (T 9) false (lt (T 1) (T 0)) <|
 o (.pick (T 10) (.c (.bool true)) (T 0)) <|
 jn []
  (.cond (T 0)
   (o (.mkif 452 (T 19)) <|
   o (.panic (T 0)) <|
   nrm [])
   (nrm [])) <|
 o (.nilchk (T 21)) <|
 o (.faddr 3 (T 0)) <|
 o (ld (T 0)) <|
 o (.nilchk (T 24)) <|
 o (.faddr 4 (T 0)) <|
 o (ld (T 0)) <|
 ck (.mov (T 27)) (T 27) <|
 ck (ld (T 4)) (T 3) <|
 ck (.mov (T 26)) (T 26) <|
 ck (.mov (T 24)) (T 24) <|
 ck (.mov (T 27)) (T 27) <|
 ck (ld (T 1)) (T 0) <|
 ck (.mov (T 25)) (T 25) <|
 ck (.mov (T 24)) (T 24) <|
 o (call 279 [(T 3), (T 26)]) <|
 o (.slice false 1 (T 0) (some (T 25)) none none) <|
 ck (.mov (T 26)) (T 26) <|
 ck (.slice false 1 (T 1) (some (T 26)) none none) (T 0) <|
 ck (.mov (T 29)) (T 29) <|
 ck (ld (T 3)) (T 2) <|
 ck (.mov (T 27)) (T 27) <|
 ck (.mov (T 26)) (T 26) <|
 o (call 279 [(T 2), (T 27)]) <|
 o (.slice false 1 (T 0) (some (T 27)) none none) <|
 ck (.mov (T 28)) (T 28) <|
 ck (.slice false 1 (T 3) (some (T 28)) none none) (T 2) <|
 ck (.mov (T 28)) (T 28) <|
 ck (.slice false 1 (T 1) (some (T 28)) none none) (T 0) <|
 ck (.mov (T 28)) (T 28) <|
 ck (.slice false 1 (T 1) (some (T 28)) none none) (T 0) <|
 o (.len .slice (T 2)) <|
 bl 0 [10]
  (.loop [10, 62] [(K (-1)), (K 0)] <|
  o (lt (T 1) (T 2)) <|
  .cond (T 0)
   (bl 1 [10]
    (o (ix 1 (T 6) (T 2)) <|
    o (ld (T 0)) <|
    o (.nilchk (T 37)) <|
    o (.faddr 1 (T 0)) <|
    o (ld (T 0)) <|
    o (ix 8 (T 0) (T 3)) <|
    o (ldn 8 (T 0)) <|
    o (call 280 [(T 0)]) <|
    .cond (T 0)
     (o (sb (T 10) (K 1)) <|
     nrm [(T 0)])
     (nrm [(T 9)])) <|
   o (ad (T 3) (K 1)) <|
   nrm [(T 1), (T 0)])
   (ex 0 [(T 1)])) <|
 o (lt (T 0) (K 0)) <|
 .cond (T 0)
  (o (.len .slice (T 5)) <|
  o (.len .slice (T 4)) <|
  o (ne (T 1) (T 0)) <|
  jn []
   (.cond (T 0)
    (o (.mkif 452 (T 35)) <|
    o (.panic (T 0)) <|
    nrm [])
    (nrm [])) <|
  o (.len .slice (T 8)) <|
  bl 2 []
   (.loop [89] [(K 0)] <|
   o (lt (T 0) (T 1)) <|
   .cond (T 0)
    (bl 3 []
     (o (ix 1 (T 11) (T 1)) <|
     o (ld (T 0)) <|
     o (ix 1 (T 11) (T 3)) <|
     o (ld (T 0)) <|
     o (call 281 [(T 44), (T 2), (T 0)]) <|
     nrm []) <|
    o (ad (T 1) (K 1)) <|
    nrm [(T 0)])
    (ex 2 [])) <|
  ret [])
  (o (ad (T 1) (K 2)) <|
  o (.slice false 1 (T 6) (some (T 0)) none none) <|
  o (.len .slice (T 5)) <|
  o (sb (T 0) (T 4)) <|
  o (.len .slice (T 2)) <|
  o (sb (T 1) (T 0)) <|
  o (lt (T 0) (K 0)) <|
  jn []
   (.cond (T 0)
    (o (.mkif 452 (T 39)) <|
    o (.panic (T 0)) <|
    nrm [])
    (nrm [])) <|
  o (.slice false 1 (T 12) none (some (T 8)) none) <|
  o (.len .slice (T 0)) <|
  bl 4 []
   (.loop [121] [(K 0)] <|
   o (lt (T 0) (T 1)) <|
   .cond (T 0)
    (bl 5 []
     (o (ix 1 (T 3) (T 1)) <|
     o (ld (T 0)) <|
     o (ix 1 (T 16) (T 3)) <|
     o (ld (T 0)) <|
     o (call 281 [(T 49), (T 2), (T 0)]) <|
     nrm []) <|
    o (ad (T 1) (K 1)) <|
    nrm [(T 0)])
    (ex 4 [])) <|
  o (ix 1 (T 14) (T 10)) <|
  o (ld (T 0)) <|
  o (ad (T 12) (T 5)) <|
  o (.slice false 1 (T 15) (some (T 13)) (some (T 0)) none) <|
  ck (.mov (T 47)) (T 47) <|
  ck (.mov (T 18)) (T 18) <|
  ck (.mov (T 14)) (T 14) <|
  ck (ix 1 (T 18) (T 14)) (T 3) <|
  ck (ld (T 3)) (T 2) <|
  ck (.mov (T 16)) (T 16) <|
  ck (.mov (T 14)) (T 14) <|
  ck (.mov (T 14)) (T 14) <|
  ck (.mov (T 7)) (T 7) <|
  ck (.slice false 1 (T 16) (some (T 14)) (some (T 1)) none) (T 0) <|
  o (call 282 [(T 47), (T 2), (T 0)]) <|
  o (.len .slice (T 12)) <|
  bl 6 []
   (.loop [148] [(K 0)] <|
   o (lt (T 0) (T 1)) <|
   .cond (T 0)
    (bl 7 []
     (o (ix 1 (T 15) (T 1)) <|
     o (ld (T 0)) <|
     o (ad (T 20) (T 13)) <|
     o (ad (T 0) (T 4)) <|
     o (ix 1 (T 24) (T 0)) <|
     o (ld (T 0)) <|
     o (call 281 [(T 57), (T 4), (T 0)]) <|
     nrm []) <|
    o (ad (T 1) (K 1)) <|
    nrm [(T 0)])
    (ex 6 [])) <|
  nrm []), false, []⟩
def f271 : LF := ⟨1,
 o (.box 4 (T 0)) <|
 o (.faddr 2 (T 0)) <|
 o (ld (T 0)) <|
 o (lt (T 0) (K 0)) <|
 og (T 0) false (.faddr 2 (T 3)) <|
 og (T 1) false (ld (T 0)) <|
 og (T 2) false (.bin .gtr (T 0) (K 3)) <|
 o (.pick (T 3) (.c (.bool true)) (T 0)) <|
 .cond (T 0)
  (ret [(K 6)])
  (o (.faddr 3 (T 7)) <|
  o (ld (T 0)) <|
  o (.faddr 2 (T 9)) <|
  o (ld (T 0)) <|
  o (call 283 [(T 2), (K 0), (T 0)]) <|
  o (.extract (T 0) 0) <|
  o (.extract (T 1) 1) <|
  o (.un .not (T 0)) <|
  og (T 0) false (.mov (T 2)) <|
  og (T 1) false (.faddr 3 (T 16)) <|
  og (T 2) false (ld (T 0)) <|
  og (T 3) false (.len .slice (T 0)) <|
  og (T 4) false (ne (T 3) (T 0)) <|
  o (.pick (T 5) (.c (.bool true)) (T 0)) <|
  .cond (T 0)
   (ret [(K 6)])
   (ret [(K 0)])), false, [none]⟩
def f272 : LF := ⟨4,
 o (.box 1 (T 3)) <|
 o (.box 1 (T 3)) <|
 o (.box 1 (T 3)) <|
 o (.box 4 (T 3)) <|
 o (.build [(.list .nil []), (.list .nil [])] []) <|
 o (.box 2 (T 0)) <|
 o (.alloc [.nilp]) <|
 o (.store 1 (T 0) (T 1)) <|
 o (ld (T 5)) <|
 o (call 263 [(T 0)]) <|
 o (.alloc [(.list .nil [])]) <|
 o (.store 1 (T 0) (T 1)) <|
 o (.alloc [.nilf]) <|
 o (.mkfn (.func 284) [] [(T 12), (T 11), (T 0)]) <|
 o (.alloc [.nilf]) <|
 o (.store 1 (T 0) (T 1)) <|
 o (.mkfn (.func 287) [] [(T 15), (T 14), (T 5), (T 9), (T 13), (T 12), (T 1), (T 3)]) <|
 o (.store 1 (T 4) (T 0)) <|
 o (ld (T 11)) <|
 o (ld (T 6)) <|
 o (ld (T 18)) <|
 o (.len .slice (T 0)) <|
 o (.mksl [(I 0)] 8 (T 0) (T 0)) <|
 ck (ld (T 16)) (T 4) <|
 ck (ld (T 10)) (T 3) <|
 ck (ld (T 21)) (T 2) <|
 ck (.len .slice (T 2)) (T 1) <|
 o (.callv (T 3) [(K 0), (T 0), (K 0)]) <|
 ck (ld (T 17)) (T 5) <|
 ret [(T 5), (T 0)], false, [none, none]⟩
def f273 : LF := ⟨2,
 o (.eqv .iface false true (T 1) (.c .nili)) <|
 og (T 0) false (.mov (T 1)) <|
 og (T 1) false (.eqv .iface false true (T 0) (.c .nili)) <|
 o (.pick (T 2) (.c (.bool true)) (T 0)) <|
 .cond (T 0)
  (o (.eqv .iface false false (T 5) (T 4)) <|
  ret [(T 0)])
  (o (call 224 [(T 4)]) <|
  o (.calli (T 0) "Comparable" []) <|
  o (call 289 [(T 7), (T 6), (T 0)]) <|
  ret [(T 0)]), false, [none]⟩
def f274 : LF := ⟨2,
 o (call 116 [(T 1), (T 0)]) <|
 o (.extract (T 0) 0) <|
 o (.extract (T 1) 1) <|
 o (.extract (T 2) 2) <|
 o (.extract (T 3) 3) <|
 ret [(T 1), (T 0)], false, [none, none]⟩
def f277 : LF := ⟨7,
 bl 0 []
  (.loop [12, 13] [(.c (.bool false)), (T 6)] <|
  o (lt (T 1) (T 7)) <|
  .cond (T 0)
   (bl 1 [12]
    (o (ld (T 5)) <|
    o (ix 1 (T 0) (T 3)) <|
    o (ld (T 0)) <|
    o (lt (T 0) (T 11)) <|
    og (T 0) true (ld (T 8)) <|
    og (T 1) true (ld (T 10)) <|
    og (T 2) true (.mov (T 8)) <|
    og (T 3) true (ix 1 (T 1) (T 0)) <|
    og (T 4) true (ld (T 0)) <|
    og (T 5) true (ix 8 (T 4) (T 0)) <|
    og (T 6) true (ldn 8 (T 0)) <|
    ck (ld (T 16)) (T 10) <|
    ck (.mov (T 13)) (T 13) <|
    ck (ix 1 (T 10) (T 13)) (T 9) <|
    ck (ld (T 9)) (T 8) <|
    ck (.mov (T 19)) (T 19) <|
    ck (.mov (T 7)) (T 7) <|
    ckg (T 7) true (ld (T 15)) (T 6) <|
    ckg (T 7) true (ld (T 16)) (T 5) <|
    ckg (T 7) true (ix 1 (T 5) (T 4)) (T 3) <|
    ckg (T 7) true (ld (T 3)) (T 2) <|
    ckg (T 7) true (ix 8 (T 6) (T 2)) (T 1) <|
    ckg (T 7) true (ldn 8 (T 1)) (T 0) <|
    og (T 7) true (call 217 [(T 0)]) <|
    o (.pick (T 8) (T 0) (.c (.bool false))) <|
    jn [14]
     (.cond (T 0)
      (o (ad (T 20) (K 1)) <|
      nrm [(T 0)])
      (nrm [(T 20)])) <|
    bl 2 [12]
     (o (ld (T 18)) <|
     o (ix 8 (T 0) (T 17)) <|
     o (ldn 8 (T 0)) <|
     o (call 217 [(T 0)]) <|
     .cond (T 0)
      (o (eq (T 20) (T 27)) <|
      og (T 0) false (.mov (T 20)) <|
      o (.pick (T 1) (.c (.bool true)) (T 0)) <|
      og (T 0) true (.mov (T 27)) <|
      og (T 1) true (.mov (T 24)) <|
      og (T 2) true (.mov (T 30)) <|
      og (T 3) true (.build [(I 0), (I 0), (.bool false)] [(0, 1, (T 1)), (1, 1, (T 0)), (2, 1, (.c (.bool true)))]) <|
      og (T 4) true (.callv (T 3) [(T 0)]) <|
      og (T 5) true (.un .not (T 0)) <|
      o (.pick (T 6) (T 0) (.c (.bool false))) <|
      .cond (T 0)
       (ret [(.c (.bool false))])
       (nrm [(.c (.bool true))]))
      (o (ld (T 22)) <|
      o (ix 8 (T 0) (T 21)) <|
      o (.faddr 0 (T 0)) <|
      o (ld (T 0)) <|
      o (eq (T 0) (K 4)) <|
      .cond (T 0)
       (o (ld (T 26)) <|
       o (ad (T 26) (K 1)) <|
       o (ld (T 30)) <|
       o (ix 1 (T 0) (T 28)) <|
       o (ld (T 0)) <|
       ck (ld (T 31)) (T 4) <|
       ck (.mov (T 30)) (T 30) <|
       ck (ld (T 33)) (T 2) <|
       ck (.mov (T 30)) (T 30) <|
       ck (ix 1 (T 2) (T 30)) (T 1) <|
       ck (ld (T 1)) (T 0) <|
       ck (.mov (T 14)) (T 14) <|
       ck (.mov (T 34)) (T 34) <|
       o (.callv (T 4) [(T 3), (T 0), (T 14), (T 34)]) <|
       o (.un .not (T 0)) <|
       .cond (T 0)
        (ret [(.c (.bool false))])
        (nrm [(T 31)]))
       (o (.build [(I 0), (I 0), (.bool false)] [(0, 1, (T 25)), (1, 1, (T 9)), (2, 1, (.c (.bool false)))]) <|
       o (.callv (T 30) [(T 0)]) <|
       o (.un .not (T 0)) <|
       .cond (T 0)
        (ret [(.c (.bool false))])
        (nrm [(T 27)])))) <|
    nrm [(T 0)]) <|
   o (ld (T 6)) <|
   o (ix 1 (T 0) (T 4)) <|
   o (ld (T 0)) <|
   nrm [(T 3), (T 0)])
   (ex 0 [])) <|
 ret [(.c (.bool true))], false, [none]⟩
def f278 : LF := ⟨3,
 o (ld (T 1)) <|
 o (ld (T 1)) <|
 o (.len .slice (T 0)) <|
 o (.callv (T 2) [(K 2), (T 0), (K 0), (T 5)]) <|
 nrm [], false, []⟩
def f279 : LF := ⟨2,
 o (ad (T 0) (K 1)) <|
 bl 0 [5]
  (.loop [5, 6] [(.c (.list .nil [])), (T 0)] <|
  o (ix 1 (T 4) (T 3)) <|
  o (ld (T 0)) <|
  o (lt (T 3) (T 0)) <|
  .cond (T 0)
   (bl 1 [5]
    (o (.bsl false [(I 0)] 1 [(0, (T 4))]) <|
    o (.append 1 8 (T 4) (T 0)) <|
    nrm [(T 0)]) <|
   o (ix 1 (T 8) (T 5)) <|
   o (ld (T 0)) <|
   nrm [(T 2), (T 0)])
   (ex 0 [(T 3)])) <|
 ret [(T 0)], false, [none]⟩
def f280 : LF := ⟨1,
 o (.box 8 (T 0)) <|
 o (.faddr 0 (T 0)) <|
 o (ld (T 0)) <|
 o (eq (T 0) (K 3)) <|
 og (T 0) true (.faddr 3 (T 3)) <|
 og (T 1) true (ld (T 0)) <|
 og (T 2) true (eq (T 0) (.c (.str [46, 46, 46]))) <|
 o (.pick (T 3) (T 0) (.c (.bool false))) <|
 ret [(T 0)], false, [none]⟩
def f281 : LF := ⟨3,
 o (.nilchk (T 2)) <|
 o (.faddr 1 (T 0)) <|
 o (ld (T 0)) <|
 o (ix 8 (T 0) (T 4)) <|
 o (ldn 8 (T 0)) <|
 o (.nilchk (T 7)) <|
 o (.faddr 2 (T 0)) <|
 o (ld (T 0)) <|
 o (ix 8 (T 0) (T 8)) <|
 o (ldn 8 (T 0)) <|
 o (.alloc [(I 0), (I 0), (I 0), S0, S0, (I 0), (I 0), (I 0)]) <|
 o (.alloc [(I 0), (I 0), (I 0), S0, S0, (I 0), (I 0), (I 0)]) <|
 ck (.mov (T 14)) (T 14) <|
 ck (ld (T 10)) (T 9) <|
 ck (.mov (T 13)) (T 13) <|
 ck (ix 8 (T 9) (T 13)) (T 8) <|
 ck (ldn 8 (T 8)) (T 7) <|
 ck (.mov (T 14)) (T 14) <|
 ck (ld (T 5)) (T 4) <|
 ck (.mov (T 12)) (T 12) <|
 ck (ix 8 (T 4) (T 12)) (T 3) <|
 ck (ldn 8 (T 3)) (T 2) <|
 o (.store 8 (T 1) (T 7)) <|
 ck (.mov (T 15)) (T 15) <|
 ck (ld (T 6)) (T 5) <|
 ck (.mov (T 13)) (T 13) <|
 ck (ix 8 (T 5) (T 13)) (T 4) <|
 ck (ldn 8 (T 4)) (T 3) <|
 o (.store 8 (T 1) (T 3)) <|
 bl 0 []
  (o (.faddr 0 (T 3)) <|
  o (ld (T 0)) <|
  o (eq (T 0) (K 4)) <|
  .cond (T 0)
   (o (call 270 [(T 19), (T 18), (T 17), (K 0)]) <|
   nrm [])
   (o (ldn 8 (T 6)) <|
   o (call 291 [(T 20), (T 0)]) <|
   .cond (T 0)
    (o (.nilchk (T 21)) <|
    o (.faddr 6 (T 0)) <|
    o (ld (T 0)) <|
    o (ldn 8 (T 11)) <|
    o (.build [(I 0), (I 0)] [(0, 1, (K (-1))), (1, 1, (T 23))]) <|
    o (.bsl false [(I 0), (I 0)] 1 [(0, (T 0))]) <|
    ck (.mov (T 27)) (T 27) <|
    ck (ld (T 4)) (T 3) <|
    ck (ldn 8 (T 14)) (T 2) <|
    ck (.mov (T 25)) (T 25) <|
    o (call 292 [(T 2)]) <|
    ck (.mov (T 28)) (T 28) <|
    ck (ld (T 5)) (T 4) <|
    ck (.mov (T 26)) (T 26) <|
    o (.mapupd (.agg [.str, .str]) (T 4) (T 0) (T 1)) <|
    nrm [])
    (o (.faddr 0 (T 8)) <|
    o (ld (T 0)) <|
    o (eq (T 0) (K 3)) <|
    .cond (T 0)
     (o (.faddr 3 (T 11)) <|
     o (ld (T 0)) <|
     o (ne (T 0) (.c (.str [95]))) <|
     og (T 0) true (.faddr 0 (T 13)) <|
     og (T 1) true (ld (T 0)) <|
     og (T 2) true (ne (T 0) (K 3)) <|
     og (T 3) true (.mov (T 0)) <|
     og (T 0) false (.mov (T 31)) <|
     og (T 1) false (.nilchk (T 0)) <|
     og (T 2) false (.faddr 0 (T 0)) <|
     og (T 3) false (ld (T 0)) <|
     og (T 4) false (ldn 8 (T 22)) <|
     og (T 5) false (ldn 8 (T 22)) <|
     ck (ld (T 12)) (T 11) <|
     ck (.mov (T 10)) (T 10) <|
     ckg (T 10) true (ld (T 9)) (T 8) <|
     ckg (T 6) false (ld (T 3)) (T 2) <|
     ckg (T 6) false (ldn 8 (T 24)) (T 1) <|
     ckg (T 6) false (ldn 8 (T 23)) (T 0) <|
     og (T 6) false (call 293 [(T 2), (T 1), (T 0)]) <|
     og (T 7) false (.un .not (T 0)) <|
     og (T 12) true (.pick (T 8) (.c (.bool true)) (T 0)) <|
     o (.pick (T 13) (T 0) (.c (.bool false))) <|
     .cond (T 0)
      (o (.mkif 452 (T 39)) <|
      o (.panic (T 0)) <|
      nrm [])
      (nrm []))
     (o (.faddr 0 (T 11)) <|
     o (ld (T 0)) <|
     o (.faddr 0 (T 12)) <|
     o (ld (T 0)) <|
     o (ne (T 2) (T 0)) <|
     og (T 0) false (.faddr 2 (T 16)) <|
     og (T 1) false (ld (T 0)) <|
     og (T 2) false (.faddr 2 (T 17)) <|
     og (T 3) false (ld (T 0)) <|
     og (T 4) false (ne (T 2) (T 0)) <|
     o (.pick (T 5) (.c (.bool true)) (T 0)) <|
     .cond (T 0)
      (o (.mkif 452 (T 33)) <|
      o (.panic (T 0)) <|
      nrm [])
      (nrm []))))) <|
 nrm [], false, []⟩
def f283 : LF := ⟨3,
 o (.len .slice (T 2)) <|
 o (.bin .geq (T 2) (T 0)) <|
 .cond (T 0)
  (ret [(K 0), (.c (.bool false))])
  (o (ix 2 (T 4) (T 3)) <|
  o (ldn 2 (T 0)) <|
  o (.alloc [(I 0), (I 0)]) <|
  o (.store 2 (T 0) (T 1)) <|
  o (ad (T 7) (K 1)) <|
  o (eq (T 7) (K 0)) <|
  .cond (T 0)
   (o (.faddr 0 (T 3)) <|
   o (ld (T 0)) <|
   o (eq (T 0) (K (-1))) <|
   og (T 0) true (.faddr 1 (T 6)) <|
   og (T 1) true (ld (T 0)) <|
   og (T 2) true (.bin .geq (T 0) (K 0)) <|
   o (.pick (T 3) (T 0) (.c (.bool false))) <|
   ck (.mov (T 8)) (T 8) <|
   ck (ld (T 6)) (T 5) <|
   ck (.mov (T 4)) (T 4) <|
   ckg (T 4) true (ld (T 3)) (T 2) <|
   ckg (T 4) true (ld (T 3)) (T 2) <|
   ret [(T 8), (T 0)])
   (o (.faddr 0 (T 3)) <|
   o (ld (T 0)) <|
   o (.bin .geq (T 0) (K 0)) <|
   og (T 0) true (.faddr 1 (T 6)) <|
   og (T 1) true (ld (T 0)) <|
   og (T 2) true (eq (T 0) (K 0)) <|
   o (.pick (T 3) (T 0) (.c (.bool false))) <|
   bl 0 [1, 9]
    (.loop [1, 9, 10] [(T 8), (T 0), (K 0)] <|
    o (.faddr 0 (T 13)) <|
    o (ld (T 0)) <|
    o (lt (T 4) (T 0)) <|
    og (T 0) true (.mov (T 4)) <|
    o (.pick (T 1) (T 0) (.c (.bool false))) <|
    .cond (T 0)
     (bl 1 [1, 9]
      (o (sb (T 23) (K 1)) <|
      o (call 283 [(T 26), (T 6), (T 0)]) <|
      o (.extract (T 0) 0) <|
      o (.extract (T 1) 1) <|
      nrm [(T 1), (T 0)]) <|
     o (ad (T 9) (K 1)) <|
     nrm [(T 1), (T 2), (T 0)])
     (ex 0 [(T 5), (T 6)])) <|
   ret [(T 0), (T 1)])), false, [none, none]⟩
def f287 : LF := ⟨11,
 o (ld (T 7)) <|
 o (.nilchk (T 0)) <|
 o (.faddr 5 (T 0)) <|
 o (ld (T 0)) <|
 o (ix 1 (T 0) (T 14)) <|
 o (ld (T 0)) <|
 o (.bin .geq (T 0) (K 0)) <|
 .cond (T 0)
  (o (ld (T 13)) <|
  o (ix 4 (T 0) (T 2)) <|
  o (.faddr 3 (T 0)) <|
  o (ld (T 0)) <|
  o (ix 1 (T 20) (T 5)) <|
  o (ld (T 0)) <|
  o (ix 2 (T 2) (T 0)) <|
  o (.faddr 1 (T 0)) <|
  o (ld (T 0)) <|
  ck (ld (T 22)) (T 8) <|
  ck (.mov (T 10)) (T 10) <|
  ck (ix 4 (T 8) (T 10)) (T 7) <|
  ck (ld (T 6)) (T 5) <|
  ck (.mov (T 25)) (T 25) <|
  ck (.mov (T 10)) (T 10) <|
  ck (ix 1 (T 25) (T 10)) (T 4) <|
  ck (ld (T 4)) (T 3) <|
  ck (ix 2 (T 5) (T 3)) (T 2) <|
  ck (ld (T 1)) (T 0) <|
  bl 0 []
   (.loop [17] [(T 0)] <|
   o (ld (T 22)) <|
   o (ix 1 (T 0) (T 2)) <|
   o (ld (T 0)) <|
   o (lt (T 3) (T 0)) <|
   .cond (T 0)
    (bl 1 []
     (o (ld (T 25)) <|
     o (ld (T 25)) <|
     o (ix 8 (T 0) (T 6)) <|
     o (ldn 8 (T 0)) <|
     ck (ld (T 29)) (T 3) <|
     ck (ld (T 28)) (T 2) <|
     ck (.mov (T 8)) (T 8) <|
     ck (ix 8 (T 2) (T 8)) (T 1) <|
     ck (ldn 8 (T 1)) (T 0) <|
     o (call 288 [(T 3), (T 0), (.c (.bool false))]) <|
     o (.eqv .iface true true (T 0) (.c .nili)) <|
     .cond (T 0)
      (ret [(T 1)])
      (nrm [])) <|
    o (ad (T 4) (K 1)) <|
    nrm [(T 0)])
    (ex 0 [])) <|
  ret [(.c .nili)])
  (o (ld (T 14)) <|
  o (.nilchk (T 0)) <|
  o (.faddr 0 (T 0)) <|
  o (ld (T 0)) <|
  o (ix 8 (T 0) (T 21)) <|
  o (ldn 8 (T 0)) <|
  o (.alloc [(I 0), (I 0), (I 0), S0, S0, (I 0), (I 0), (I 0)]) <|
  o (.store 8 (T 0) (T 1)) <|
  o (.faddr 0 (T 17)) <|
  o (ldn 2 (T 0)) <|
  o (.faddr 2 (T 19)) <|
  o (ld (T 0)) <|
  o (.faddr 5 (T 5)) <|
  ck (ldn 2 (T 4)) (T 3) <|
  ck (ld (T 2)) (T 1) <|
  o (.store 2 (T 0) (T 3)) <|
  o (.faddr 7 (T 7)) <|
  ck (ld (T 4)) (T 3) <|
  o (.store 1 (T 0) (T 3)) <|
  o (ld (T 27)) <|
  o (.nilchk (T 0)) <|
  o (.faddr 0 (T 0)) <|
  o (ld (T 0)) <|
  o (.len .slice (T 0)) <|
  o (ld (T 32)) <|
  o (ldn 8 (T 15)) <|
  o (call 288 [(T 1), (T 0), (.c (.bool true))]) <|
  o (.eqv .iface true true (T 0) (.c .nili)) <|
  og (T 0) false (.faddr 0 (T 18)) <|
  og (T 1) false (ld (T 0)) <|
  og (T 2) false (ne (T 0) (K 4)) <|
  o (.pick (T 3) (.c (.bool true)) (T 0)) <|
  .cond (T 0)
   (ret [(T 5)])
   (o (ad (T 46) (K 1)) <|
   bl 2 [22]
    (.loop [22, 23] [(K 0), (T 0)] <|
    o (ld (T 46)) <|
    o (.nilchk (T 0)) <|
    o (.faddr 2 (T 0)) <|
    o (ld (T 0)) <|
    o (ix 1 (T 0) (T 53)) <|
    o (ld (T 0)) <|
    o (lt (T 7) (T 0)) <|
    .cond (T 0)
     (bl 3 [22]
      (bl 4 [22, 24]
       (o (ld (T 53)) <|
       o (.nilchk (T 0)) <|
       o (.faddr 0 (T 0)) <|
       o (ld (T 0)) <|
       o (ix 8 (T 0) (T 12)) <|
       o (ldn 8 (T 0)) <|
       o (call 264 [(T 0)]) <|
       .cond (T 0)
        (ex 3 [(T 14)])
        (o (ld (T 60)) <|
        o (.nilchk (T 0)) <|
        o (.faddr 4 (T 0)) <|
        o (ld (T 0)) <|
        o (ix 1 (T 0) (T 19)) <|
        o (ld (T 0)) <|
        .cond (T 0)
         (o (ld (T 60)) <|
         o (ad (T 68) (K 1)) <|
         o (.callv (T 1) [(T 23), (T 70), (T 0)]) <|
         o (.extract (T 0) 0) <|
         o (.extract (T 1) 1) <|
         o (ad (T 25) (T 1)) <|
         nrm [(T 0), (T 1)])
         (o (ld (T 59)) <|
         o (.callv (T 0) [(T 22), (T 69), (T 68)]) <|
         o (ad (T 22) (K 1)) <|
         nrm [(T 0), (T 1)]))) <|
      o (.eqv .iface true true (T 1) (.c .nili)) <|
      .cond (T 0)
       (ret [(T 2)])
       (nrm [(T 1)])) <|
     o (ld (T 54)) <|
     o (.nilchk (T 0)) <|
     o (.faddr 2 (T 0)) <|
     o (ld (T 0)) <|
     o (ix 1 (T 0) (T 13)) <|
     o (ld (T 0)) <|
     nrm [(T 6), (T 0)])
     (ex 2 [(T 7)])) <|
   o (ld (T 42)) <|
   o (.nilchk (T 0)) <|
   o (.faddr 0 (T 0)) <|
   o (ld (T 0)) <|
   o (ix 8 (T 0) (T 14)) <|
   o (.faddr 1 (T 0)) <|
   o (.store 1 (T 0) (T 6)) <|
   ret [(.c .nili)])), false, [none]⟩
def f288 : LF := ⟨3,
 o (.box 8 (T 1)) <|
 o (.nilchk (T 3)) <|
 o (.faddr 0 (T 0)) <|
 o (ld (T 0)) <|
 o (.len .slice (T 0)) <|
 o (.bin .geq (T 0) (K 2000)) <|
 .cond (T 0)
  (o (call 285 [(K 1)]) <|
  ret [(T 0)])
  (o (.nilchk (T 8)) <|
  o (.faddr 0 (T 0)) <|
  o (ld (T 0)) <|
  o (ldn 8 (T 8)) <|
  o (.bsl false [(I 0), (I 0), (I 0), S0, S0, (I 0), (I 0), (I 0)] 1 [(0, (T 0))]) <|
  o (.nilchk (T 13)) <|
  o (.faddr 1 (T 0)) <|
  o (ld (T 0)) <|
  o (.bsl false [(.bool false)] 1 [(0, (T 14))]) <|
  ck (.mov (T 17)) (T 17) <|
  ck (.mov (T 17)) (T 17) <|
  ck (.mov (T 17)) (T 17) <|
  ck (ld (T 7)) (T 6) <|
  ck (ldn 8 (T 14)) (T 5) <|
  ck (.mov (T 17)) (T 17) <|
  ck (ld (T 2)) (T 1) <|
  ck (.mov (T 15)) (T 15) <|
  o (.append 8 80 (T 6) (T 4)) <|
  ck (.mov (T 18)) (T 18) <|
  ck (.mov (T 18)) (T 18) <|
  ck (.mov (T 18)) (T 18) <|
  ck (ld (T 3)) (T 2) <|
  ck (.mov (T 16)) (T 16) <|
  o (.append 1 1 (T 2) (T 1)) <|
  o (.nilchk (T 19)) <|
  o (.faddr 0 (T 0)) <|
  ck (.mov (T 21)) (T 21) <|
  ck (.mov (T 21)) (T 21) <|
  o (.store 1 (T 0) (T 3)) <|
  o (.nilchk (T 22)) <|
  o (.faddr 1 (T 0)) <|
  ck (.mov (T 24)) (T 24) <|
  o (.store 1 (T 0) (T 5)) <|
  ret [(.c .nili)]), false, [none]⟩
def f291 : LF := ⟨2,
 o (.box 8 (T 0)) <|
 o (.faddr 0 (T 0)) <|
 o (ld (T 0)) <|
 o (eq (T 0) (K 3)) <|
 og (T 0) true (.faddr 3 (T 3)) <|
 og (T 1) true (ld (T 0)) <|
 og (T 2) true (ne (T 0) (.c (.str [95]))) <|
 o (.pick (T 3) (T 0) (.c (.bool false))) <|
 og (T 0) true (.faddr 3 (T 7)) <|
 og (T 1) true (ld (T 0)) <|
 og (T 2) true (ne (T 0) (.c (.str [46, 46, 46]))) <|
 o (.pick (T 3) (T 0) (.c (.bool false))) <|
 og (T 0) true (.mov (T 13)) <|
 og (T 1) true (.nilchk (T 0)) <|
 og (T 2) true (.faddr 5 (T 0)) <|
 og (T 3) true (ld (T 0)) <|
 og (T 4) true (ldn 8 (T 15)) <|
 ck (ld (T 15)) (T 14) <|
 ck (.mov (T 13)) (T 13) <|
 ckg (T 13) true (ld (T 12)) (T 11) <|
 ck (.mov (T 9)) (T 9) <|
 ckg (T 9) true (ld (T 8)) (T 7) <|
 ck (.mov (T 5)) (T 5) <|
 ckg (T 5) true (ld (T 2)) (T 1) <|
 ckg (T 5) true (ldn 8 (T 16)) (T 0) <|
 og (T 5) true (call 292 [(T 0)]) <|
 og (T 6) true (.lookup (.agg [.str, .str]) (.bool false) false (T 2) (T 0)) <|
 og (T 7) true (.un .not (T 0)) <|
 o (.pick (T 8) (T 0) (.c (.bool false))) <|
 ckg (T 9) true (ld (T 6)) (T 5) <|
 ckg (T 9) true (.lookup (.agg [.str, .str]) (.bool false) false (T 5) (T 3)) (T 2) <|
 ret [(T 0)], false, [none]⟩
def f292 : LF := ⟨1,
 o (.box 8 (T 0)) <|
 o (.alloc [S0, S0]) <|
 o (.faddr 3 (T 1)) <|
 o (ld (T 0)) <|
 o (.faddr 4 (T 3)) <|
 o (ld (T 0)) <|
 o (.build [S0, S0] [(0, 1, (T 2)), (1, 1, (T 0))]) <|
 o (.store 2 (T 5) (T 0)) <|
 ret [(T 6)], false, [some (true, 2)]⟩
def f321 : LF := ⟨3,
 o (.box 2 (T 2)) <|
 o (.box 8 (T 1)) <|
 o (.faddr 0 (T 1)) <|
 o (ld (T 0)) <|
 o (ldn 8 (T 2)) <|
 o (.faddr 1 (T 4)) <|
 o (ld (T 0)) <|
 ck (ld (T 4)) (T 3) <|
 ck (ldn 8 (T 5)) (T 2) <|
 ck (.mov (T 8)) (T 8) <|
 ck (ld (T 1)) (T 0) <|
 o (call 82 [(T 8), (T 0)]) <|
 ck (ld (T 5)) (T 4) <|
 ck (ldn 8 (T 6)) (T 3) <|
 o (call 58 [(T 4), (T 3), (T 0)]) <|
 ret [(T 0)], false, [none]⟩
end Go.Am.K19
