/-
  The small code of the functions: all of it; library functions without a body; the table that is laid. Printed by a program of mine.
-/
import Derived.Test.YtoclmbbfdokbhaaGreatDoorHM5Aa
namespace Go.Proofs.YtoclmbbfdokbhaaGreatDoor
open Go Go.Abs
set_option maxRecDepth 100000
set_option maxHeartbeats 8000000
def ir100 : Abs.Fn := { nt := 30, res := [Res.tmp 2, Res.tmp 3], body := .seq (.reg [o_ 2 (.mov (.c (.int .i64 0))), o_ 3 (.mov (.c (.int .i64 0)))]) (.seq (.seq (.reg [o_ 8 (.mov (.t 0)), o_ 9 (.call 163 [.t 8] h_), o_ 4 (.mov (.t 9))]) (.seq (.reg [o_ 10 (.mov (.t 4)), o_ 11 (.bin .neq (.t 10) (.c (.int .i64 0)))]) (.cond (.t 11) (.seq (.reg [o_ 12 (.mov (.t 4)), o_ 2 (.mov (.c (.int .i64 0))), o_ 3 (.mov (.t 12))]) (.ret)) (.skip)))) (.seq (.reg [o_ 5 (.mov (.c (.int .i64 0)))]) (.seq (.seq (.reg [o_ 13 (.mov (.t 0)), o_ 14 (.call 164 [.t 13] h_), o_ 15 (.len 1 (.t 14)), o_ 16 (.mov (.c (.int .i64 0)))]) (.block 0 (.loop (.seq (.reg [o_ 17 (.bin .lss (.t 16) (.t 15))]) (.seq (.cond (.t 17) (.skip) (.exit 0)) (.seq (.block 1 (.seq (.reg [o_ 18 (.iadr 3 (.t 14) (.t 16)), o_ 19 (.load 3 true (.t 18)), o_ 7 (.alloc [.int .i64 0, .int .i64 0, .int .i64 0]), .op none none (.store 3 (.t 7) (.t 19))]) (.reg [o_ 20 (.mov (.t 5)), o_ 21 (.fadr 2 (.t 7)), o_ 22 (.load 1 false (.t 21)), o_ 23 (.fadr 1 (.t 7)), o_ 24 (.load 1 false (.t 23)), o_ 25 (.bin .sub (.t 22) (.t 24)), o_ 26 (.bin .add (.t 25) (.c (.int .i64 1))), o_ 27 (.bin .add (.t 20) (.t 26)), o_ 5 (.mov (.t 27))]))) (.reg [o_ 28 (.bin .add (.t 16) (.c (.int .i64 1))), o_ 16 (.mov (.t 28))]))))))) (.seq (.reg [o_ 29 (.mov (.t 5)), o_ 2 (.mov (.t 29)), o_ 3 (.mov (.c (.int .i64 0)))]) (.ret))))) }
def ir163 : Abs.Fn := { nt := 5, res := [Res.tmp 2], body := .seq (.reg [o_ 2 (.mov (.c (.int .i64 0)))]) (.seq (.reg [o_ 3 (.mov (.t 0)), o_ 4 (.call 202 [.t 3, .c (.int .i64 1)] h_), o_ 2 (.mov (.t 4))]) (.ret)) }
def ir164 : Abs.Fn := { nt := 19, res := [Res.tmp 2], body := .seq (.reg [o_ 2 (.mov (.c (.nilS)))]) (.seq (.reg [o_ 3 (.mov (.c (.nilS)))]) (.seq (.seq (.reg [o_ 6 (.mov (.t 0)), o_ 7 (.len 1 (.t 6)), o_ 8 (.mov (.c (.int .i64 0)))]) (.block 0 (.loop (.seq (.reg [o_ 9 (.bin .lss (.t 8) (.t 7))]) (.seq (.cond (.t 9) (.skip) (.exit 0)) (.seq (.block 1 (.seq (.reg [o_ 10 (.iadr 2 (.t 6) (.t 8)), o_ 11 (.load 2 true (.t 10)), o_ 5 (.alloc [.str [], .str []]), .op none none (.store 2 (.t 5) (.t 11))]) (.reg [o_ 12 (.mov (.t 3)), o_ 13 (.load 2 true (.t 5)), o_ 14 (.call 203 [.t 13] h_), o_ 15 (.bsl 3 1 [.int .i64 0, .int .i64 0, .int .i64 0] [(0, .t 14)] false), o_ 16 (.app 3 24 false (.t 12) (.t 15)), o_ 3 (.mov (.t 16))]))) (.reg [o_ 17 (.bin .add (.t 8) (.c (.int .i64 1))), o_ 8 (.mov (.t 17))]))))))) (.seq (.reg [o_ 18 (.mov (.t 3)), o_ 2 (.mov (.t 18))]) (.ret)))) }
def ir202 : Abs.Fn := { nt := 83, res := [Res.tmp 4], body := .seq (.reg [o_ 4 (.mov (.c (.int .i64 0)))]) (.seq (.seq (.reg [o_ 9 (.mov (.t 0)), o_ 10 (.len 1 (.t 9)), o_ 11 (.bin .gtr (.t 10) (.c (.int .i64 1000)))]) (.cond (.t 11) (.seq (.reg [o_ 4 (.mov (.c (.int .i64 2)))]) (.ret)) (.skip))) (.seq (.seq (.reg [o_ 12 (.mov (.t 0)), o_ 13 (.len 1 (.t 12)), o_ 14 (.mov (.c (.int .i64 0)))]) (.block 0 (.loop (.seq (.reg [o_ 15 (.bin .lss (.t 14) (.t 13))]) (.seq (.cond (.t 15) (.skip) (.exit 0)) (.seq (.block 1 (.seq (.reg [o_ 16 (.mov (.t 14)), o_ 17 (.iadr 2 (.t 12) (.t 14)), o_ 18 (.load 2 true (.t 17)), o_ 6 (.alloc [.str [], .str []]), o_ 5 (.mov (.t 16)), .op none none (.store 2 (.t 6) (.t 18))]) (.seq (.seq (.reg (o_ 19 (.fadr 0 (.t 6)) :: (o_ 20 (.load 1 false (.t 19)) :: (o_ 21 (.call 144 [.t 20] h_) :: (o_ 22 (.un .not (.t 21)) :: (o_ 23 (.mov (.t 22)) :: ([.op (some 24) (some (23, false)) (.fadr 1 (.t 6)), .op (some 25) (some (23, false)) (.load 1 false (.t 24)), .op (some 26) (some (23, false)) (.call 144 [.t 25] h_), .op (some 27) (some (23, false)) (.un .not (.t 26)), o_ 28 (.pick (.t 23) (.c (.bool true)) (.t 27))] ++ (o_ 29 (.mov (.t 28)) :: ([.op (some 30) (some (29, false)) (.fadr 0 (.t 6)), .op (some 31) (some (29, false)) (.load 1 false (.t 30)), .op (some 32) (some (29, false)) (.len 0 (.t 31)), .op (some 33) (some (29, false)) (.fadr 1 (.t 6)), .op (some 34) (some (29, false)) (.load 1 false (.t 33)), .op (some 35) (some (29, false)) (.len 0 (.t 34)), .op (some 36) (some (29, false)) (.bin .neq (.t 32) (.t 35)), o_ 37 (.pick (.t 29) (.c (.bool true)) (.t 36))] ++ (o_ 38 (.mov (.t 37)) :: ([.op (some 39) (some (38, false)) (.fadr 0 (.t 6)), .op (some 40) (some (38, false)) (.load 1 false (.t 39)), .op (some 41) (some (38, false)) (.fadr 1 (.t 6)), .op (some 42) (some (38, false)) (.load 1 false (.t 41)), .op (some 43) (some (38, false)) (.bin .gtr (.t 40) (.t 42)), o_ 44 (.pick (.t 38) (.c (.bool true)) (.t 43))] ++ []))))))))))) (.cond (.t 44) (.seq (.reg [o_ 4 (.mov (.c (.int .i64 3)))]) (.ret)) (.skip))) (.seq (.seq (.reg [o_ 45 (.mov (.t 5)), o_ 46 (.bin .eql (.t 45) (.c (.int .i64 0)))]) (.cond (.t 46) (.exit 1) (.skip))) (.seq (.ghost [.kill [7] [], .kill [8] []] (.regD [o_ 47 (.mov (.t 0)), o_ 48 (.mov (.t 5)), o_ 49 (.bin .sub (.t 48) (.c (.int .i64 1))), o_ 50 (.iadr 2 (.t 47) (.t 49)), o_ 51 (.load 2 true (.t 50)), o_ 52 (.call 203 [.t 51] h_), o_ 53 (.load 2 true (.t 6)), o_ 54 (.call 203 [.t 53] h_), .op none none (.galloc 3 7), .op none none (.galloc 3 8), o_ 7 (.gsto 3 (.t 52)), o_ 8 (.gsto 3 (.t 54))] [[], [], [1], [0, 1, 2], [0, 1, 2, 3], [0, 1, 2, 3, 4], [], [0, 1, 2, 3, 4, 5, 6], [], [], [0, 1, 2, 3, 4, 5, 6, 7, 8, 9], [0, 1, 2, 3, 4, 5, 6, 7, 8, 9, 10]])) (.seq (.seq (.regD [o_ 55 (.fadr 0 (.t 7)), o_ 56 (.load 1 false (.t 55)), o_ 57 (.fadr 0 (.t 8)), o_ 58 (.load 1 false (.t 57)), o_ 59 (.call 111 [.t 56, .t 58] h_), o_ 60 (.fadr 1 (.t 7)), o_ 61 (.load 1 false (.t 60)), o_ 62 (.fadr 1 (.t 8)), o_ 63 (.load 1 false (.t 62)), o_ 64 (.call 111 [.t 61, .t 63] h_), o_ 65 (.bsl 1 2 [.int .i64 0] [(0, .t 59), (1, .t 64)] false), o_ 66 (.call 229 [.t 65] h_), o_ 67 (.bin .geq (.t 66) (.c (.int .i64 0)))] [[], [0], [], [2], [0, 1, 2, 3], [], [5], [], [7], [0, 1, 2, 3, 4, 5, 6, 7, 8], [0, 1, 2, 3, 4, 5, 6, 7, 8, 9], [0, 1, 2, 3, 4, 5, 6, 7, 8, 9, 10], [0, 1, 2, 3, 4, 5, 6, 7, 8, 9, 10, 11]]) (.cond (.t 67) (.seq (.reg [o_ 4 (.mov (.c (.int .i64 7)))]) (.ret)) (.skip))) (.seq (.reg (o_ 68 (.fadr 0 (.t 7)) :: (o_ 69 (.load 1 false (.t 68)) :: (o_ 70 (.fadr 0 (.t 8)) :: (o_ 71 (.load 1 false (.t 70)) :: (o_ 72 (.bin .eql (.t 69) (.t 71)) :: (o_ 73 (.mov (.t 72)) :: ([.op (some 74) (some (73, true)) (.fadr 1 (.t 8)), .op (some 75) (some (73, true)) (.load 1 false (.t 74)), .op (some 76) (some (73, true)) (.fadr 2 (.t 7)), .op (some 77) (some (73, true)) (.load 1 false (.t 76)), .op (some 78) (some (73, true)) (.mov (.t 1)), .op (some 79) (some (73, true)) (.bin .add (.t 77) (.t 78)), .op (some 80) (some (73, true)) (.bin .leq (.t 75) (.t 79)), o_ 81 (.pick (.t 73) (.t 80) (.c (.bool false)))] ++ [])))))))) (.cond (.t 81) (.seq (.reg [o_ 4 (.mov (.c (.int .i64 13)))]) (.ret)) (.skip))))))))) (.reg [o_ 82 (.bin .add (.t 14) (.c (.int .i64 1))), o_ 14 (.mov (.t 82))]))))))) (.seq (.reg [o_ 4 (.mov (.c (.int .i64 0)))]) (.ret)))) }
def ir203 : Abs.Fn := { nt := 28, res := [Res.cell 2 3 true], body := .seq (.reg [o_ 1 (.box 2 (.t 0)), o_ 2 (.alloc [.int .i64 0, .int .i64 0, .int .i64 0])]) (.seq (.reg [o_ 8 (.fadr 0 (.t 1)), o_ 9 (.load 1 false (.t 8)), o_ 10 (.slcS (.t 9) (some (.c (.int .i64 1))) none), o_ 11 (.call 230 [.t 10] h_), o_ 7 (.mov (.t 11)), o_ 12 (.ext (.t 7) 0), o_ 13 (.ext (.t 7) 1), o_ 3 (.mov (.t 12)), o_ 4 (.mov (.t 13))]) (.seq (.reg [o_ 15 (.fadr 1 (.t 1)), o_ 16 (.load 1 false (.t 15)), o_ 17 (.slcS (.t 16) (some (.c (.int .i64 1))) none), o_ 18 (.call 230 [.t 17] h_), o_ 14 (.mov (.t 18)), o_ 19 (.ext (.t 14) 0), o_ 20 (.ext (.t 14) 1), o_ 5 (.mov (.t 19)), o_ 6 (.mov (.t 20))]) (.seq (.reg [o_ 21 (.fadr 0 (.t 1)), o_ 22 (.load 1 false (.t 21)), o_ 23 (.len 0 (.t 22)), o_ 24 (.bin .sub (.t 23) (.c (.int .i64 1))), o_ 25 (.mov (.t 3)), o_ 26 (.mov (.t 5)), o_ 27 (.build [.int .i64 0, .int .i64 0, .int .i64 0] [(0, 1), (1, 1), (2, 1)] [(0, .t 24), (1, .t 25), (2, .t 26)]), .op none none (.store 3 (.t 2) (.t 27))]) (.ret)))) }
def ir205 : Abs.Fn := { nt := 220, res := [], body := .seq (.seq (.reg [o_ 25 (.mov (.t 2)), o_ 26 (.mov (.t 1)), o_ 27 (.bin .sub (.t 25) (.t 26)), o_ 28 (.bin .eql (.t 27) (.c (.int .i64 1)))]) (.cond (.t 28) (.seq (.reg [o_ 29 (.mov (.t 2)), o_ 10 (.mov (.t 29))]) (.seq (.reg [o_ 30 (.mov (.t 3)), o_ 11 (.mov (.t 30))]) (.seq (.block 0 (.loop (.seq (.seq (.reg [o_ 31 (.mov (.t 10)), o_ 32 (.mov (.t 11)), o_ 33 (.bin .lss (.t 31) (.t 32))]) (.cond (.t 33) (.skip) (.exit 0))) (.block 1 (.seq (.reg [o_ 34 (.mov (.t 10)), o_ 35 (.mov (.t 11)), o_ 36 (.bin .add (.t 34) (.t 35)), o_ 37 (.cvI .u64 (.t 36)), o_ 38 (.bin .shr (.t 37) (.c (.int .u64 1))), o_ 39 (.cvI .i64 (.t 38)), o_ 12 (.mov (.t 39))]) (.seq (.regD [o_ 40 (.mov (.t 4)), o_ 41 (.mov (.t 0)), o_ 42 (.mov (.t 12)), o_ 43 (.iadr 1 (.t 41) (.t 42)), o_ 44 (.load 1 false (.t 43)), o_ 45 (.mov (.t 0)), o_ 46 (.mov (.t 1)), o_ 47 (.iadr 1 (.t 45) (.t 46)), o_ 48 (.load 1 false (.t 47)), o_ 49 (.callv (.t 40) [.t 44, .t 48] { give := [], ad := [], pure := false }), o_ 50 (.bin .lss (.t 49) (.c (.int .i64 0)))] [[], [], [], [1, 2], [1, 2, 3], [], [], [5, 6], [5, 6, 7], [0, 1, 2, 3, 4, 5, 6, 7, 8], [0, 1, 2, 3, 4, 5, 6, 7, 8, 9]]) (.cond (.t 50) (.reg [o_ 51 (.mov (.t 12)), o_ 52 (.bin .add (.t 51) (.c (.int .i64 1))), o_ 10 (.mov (.t 52))]) (.reg [o_ 53 (.mov (.t 12)), o_ 11 (.mov (.t 53))])))))))) (.seq (.seq (.reg [o_ 54 (.mov (.t 1)), o_ 13 (.mov (.t 54))]) (.block 2 (.loop (.seq (.seq (.reg [o_ 55 (.mov (.t 13)), o_ 56 (.mov (.t 10)), o_ 57 (.bin .sub (.t 56) (.c (.int .i64 1))), o_ 58 (.bin .lss (.t 55) (.t 57))]) (.cond (.t 58) (.skip) (.exit 2))) (.seq (.block 3 (.regD [o_ 61 (.mov (.t 0)), o_ 62 (.mov (.t 13)), o_ 63 (.mov (.t 0)), o_ 64 (.mov (.t 13)), o_ 65 (.bin .add (.t 64) (.c (.int .i64 1))), o_ 66 (.mov (.t 0)), o_ 67 (.mov (.t 13)), o_ 68 (.bin .add (.t 67) (.c (.int .i64 1))), o_ 69 (.iadr 1 (.t 66) (.t 68)), o_ 70 (.load 1 false (.t 69)), o_ 71 (.mov (.t 0)), o_ 72 (.mov (.t 13)), o_ 73 (.iadr 1 (.t 71) (.t 72)), o_ 74 (.load 1 false (.t 73)), o_ 75 (.iadr 1 (.t 61) (.t 62)), .op none none (.store 1 (.t 75) (.t 70)), o_ 76 (.iadr 1 (.t 63) (.t 65)), .op none none (.store 1 (.t 76) (.t 74))] [[], [], [], [], [3], [], [], [6], [5, 6, 7], [5, 6, 7, 8], [], [], [10, 11], [10, 11, 12], [0, 1, 5, 6, 7, 8, 9, 10, 11, 12, 13], [0, 1, 5, 6, 7, 8, 9, 10, 11, 12, 13, 14], [0, 1, 2, 3, 4, 5, 6, 7, 8, 9, 10, 11, 12, 13, 14, 15], [0, 1, 2, 3, 4, 5, 6, 7, 8, 9, 10, 11, 12, 13, 14, 15, 16]])) (.reg [o_ 59 (.mov (.t 13)), o_ 60 (.bin .add (.t 59) (.c (.int .i64 1))), o_ 13 (.mov (.t 60))])))))) (.ret))))) (.skip))) (.seq (.seq (.reg [o_ 77 (.mov (.t 3)), o_ 78 (.mov (.t 2)), o_ 79 (.bin .sub (.t 77) (.t 78)), o_ 80 (.bin .eql (.t 79) (.c (.int .i64 1)))]) (.cond (.t 80) (.seq (.reg [o_ 81 (.mov (.t 1)), o_ 14 (.mov (.t 81))]) (.seq (.reg [o_ 82 (.mov (.t 2)), o_ 15 (.mov (.t 82))]) (.seq (.block 4 (.loop (.seq (.seq (.reg [o_ 83 (.mov (.t 14)), o_ 84 (.mov (.t 15)), o_ 85 (.bin .lss (.t 83) (.t 84))]) (.cond (.t 85) (.skip) (.exit 4))) (.block 5 (.seq (.reg [o_ 86 (.mov (.t 14)), o_ 87 (.mov (.t 15)), o_ 88 (.bin .add (.t 86) (.t 87)), o_ 89 (.cvI .u64 (.t 88)), o_ 90 (.bin .shr (.t 89) (.c (.int .u64 1))), o_ 91 (.cvI .i64 (.t 90)), o_ 16 (.mov (.t 91))]) (.seq (.regD [o_ 92 (.mov (.t 4)), o_ 93 (.mov (.t 0)), o_ 94 (.mov (.t 2)), o_ 95 (.iadr 1 (.t 93) (.t 94)), o_ 96 (.load 1 false (.t 95)), o_ 97 (.mov (.t 0)), o_ 98 (.mov (.t 16)), o_ 99 (.iadr 1 (.t 97) (.t 98)), o_ 100 (.load 1 false (.t 99)), o_ 101 (.callv (.t 92) [.t 96, .t 100] { give := [], ad := [], pure := false }), o_ 102 (.bin .lss (.t 101) (.c (.int .i64 0))), o_ 103 (.un .not (.t 102))] [[], [], [], [1, 2], [1, 2, 3], [], [], [5, 6], [5, 6, 7], [0, 1, 2, 3, 4, 5, 6, 7, 8], [0, 1, 2, 3, 4, 5, 6, 7, 8, 9], [0, 1, 2, 3, 4, 5, 6, 7, 8, 9, 10]]) (.cond (.t 103) (.reg [o_ 104 (.mov (.t 16)), o_ 105 (.bin .add (.t 104) (.c (.int .i64 1))), o_ 14 (.mov (.t 105))]) (.reg [o_ 106 (.mov (.t 16)), o_ 15 (.mov (.t 106))])))))))) (.seq (.seq (.reg [o_ 107 (.mov (.t 2)), o_ 17 (.mov (.t 107))]) (.block 6 (.loop (.seq (.seq (.reg [o_ 108 (.mov (.t 17)), o_ 109 (.mov (.t 14)), o_ 110 (.bin .gtr (.t 108) (.t 109))]) (.cond (.t 110) (.skip) (.exit 6))) (.seq (.block 7 (.regD [o_ 113 (.mov (.t 0)), o_ 114 (.mov (.t 17)), o_ 115 (.mov (.t 0)), o_ 116 (.mov (.t 17)), o_ 117 (.bin .sub (.t 116) (.c (.int .i64 1))), o_ 118 (.mov (.t 0)), o_ 119 (.mov (.t 17)), o_ 120 (.bin .sub (.t 119) (.c (.int .i64 1))), o_ 121 (.iadr 1 (.t 118) (.t 120)), o_ 122 (.load 1 false (.t 121)), o_ 123 (.mov (.t 0)), o_ 124 (.mov (.t 17)), o_ 125 (.iadr 1 (.t 123) (.t 124)), o_ 126 (.load 1 false (.t 125)), o_ 127 (.iadr 1 (.t 113) (.t 114)), .op none none (.store 1 (.t 127) (.t 122)), o_ 128 (.iadr 1 (.t 115) (.t 117)), .op none none (.store 1 (.t 128) (.t 126))] [[], [], [], [], [3], [], [], [6], [5, 6, 7], [5, 6, 7, 8], [], [], [10, 11], [10, 11, 12], [0, 1, 5, 6, 7, 8, 9, 10, 11, 12, 13], [0, 1, 5, 6, 7, 8, 9, 10, 11, 12, 13, 14], [0, 1, 2, 3, 4, 5, 6, 7, 8, 9, 10, 11, 12, 13, 14, 15], [0, 1, 2, 3, 4, 5, 6, 7, 8, 9, 10, 11, 12, 13, 14, 15, 16]])) (.reg [o_ 111 (.mov (.t 17)), o_ 112 (.bin .sub (.t 111) (.c (.int .i64 1))), o_ 17 (.mov (.t 112))])))))) (.ret))))) (.skip))) (.seq (.reg [o_ 129 (.mov (.t 1)), o_ 130 (.mov (.t 3)), o_ 131 (.bin .add (.t 129) (.t 130)), o_ 132 (.cvI .u64 (.t 131)), o_ 133 (.bin .shr (.t 132) (.c (.int .u64 1))), o_ 134 (.cvI .i64 (.t 133)), o_ 18 (.mov (.t 134))]) (.seq (.reg [o_ 135 (.mov (.t 18)), o_ 136 (.mov (.t 2)), o_ 137 (.bin .add (.t 135) (.t 136)), o_ 19 (.mov (.t 137))]) (.seq (.reg [o_ 20 (.mov (.c (.int .i64 0))), o_ 21 (.mov (.c (.int .i64 0)))]) (.seq (.seq (.reg [o_ 138 (.mov (.t 2)), o_ 139 (.mov (.t 18)), o_ 140 (.bin .gtr (.t 138) (.t 139))]) (.cond (.t 140) (.seq (.reg [o_ 141 (.mov (.t 19)), o_ 142 (.mov (.t 3)), o_ 143 (.bin .sub (.t 141) (.t 142)), o_ 20 (.mov (.t 143))]) (.reg [o_ 144 (.mov (.t 18)), o_ 21 (.mov (.t 144))])) (.seq (.reg [o_ 145 (.mov (.t 1)), o_ 20 (.mov (.t 145))]) (.reg [o_ 146 (.mov (.t 2)), o_ 21 (.mov (.t 146))])))) (.seq (.reg [o_ 147 (.mov (.t 19)), o_ 148 (.bin .sub (.t 147) (.c (.int .i64 1))), o_ 22 (.mov (.t 148))]) (.seq (.block 8 (.loop (.seq (.seq (.reg [o_ 149 (.mov (.t 20)), o_ 150 (.mov (.t 21)), o_ 151 (.bin .lss (.t 149) (.t 150))]) (.cond (.t 151) (.skip) (.exit 8))) (.block 9 (.seq (.reg [o_ 152 (.mov (.t 20)), o_ 153 (.mov (.t 21)), o_ 154 (.bin .add (.t 152) (.t 153)), o_ 155 (.cvI .u64 (.t 154)), o_ 156 (.bin .shr (.t 155) (.c (.int .u64 1))), o_ 157 (.cvI .i64 (.t 156)), o_ 23 (.mov (.t 157))]) (.seq (.regD [o_ 158 (.mov (.t 4)), o_ 159 (.mov (.t 0)), o_ 160 (.mov (.t 22)), o_ 161 (.mov (.t 23)), o_ 162 (.bin .sub (.t 160) (.t 161)), o_ 163 (.iadr 1 (.t 159) (.t 162)), o_ 164 (.load 1 false (.t 163)), o_ 165 (.mov (.t 0)), o_ 166 (.mov (.t 23)), o_ 167 (.iadr 1 (.t 165) (.t 166)), o_ 168 (.load 1 false (.t 167)), o_ 169 (.callv (.t 158) [.t 164, .t 168] { give := [], ad := [], pure := false }), o_ 170 (.bin .lss (.t 169) (.c (.int .i64 0))), o_ 171 (.un .not (.t 170))] [[], [], [], [], [2, 3], [1, 2, 3, 4], [1, 2, 3, 4, 5], [], [], [7, 8], [7, 8, 9], [0, 1, 2, 3, 4, 5, 6, 7, 8, 9, 10], [0, 1, 2, 3, 4, 5, 6, 7, 8, 9, 10, 11], [0, 1, 2, 3, 4, 5, 6, 7, 8, 9, 10, 11, 12]]) (.cond (.t 171) (.reg [o_ 172 (.mov (.t 23)), o_ 173 (.bin .add (.t 172) (.c (.int .i64 1))), o_ 20 (.mov (.t 173))]) (.reg [o_ 174 (.mov (.t 23)), o_ 21 (.mov (.t 174))])))))))) (.seq (.reg [o_ 175 (.mov (.t 19)), o_ 176 (.mov (.t 20)), o_ 177 (.bin .sub (.t 175) (.t 176)), o_ 24 (.mov (.t 177))]) (.seq (.seq (.reg [o_ 178 (.mov (.t 20)), o_ 179 (.mov (.t 2)), o_ 180 (.bin .lss (.t 178) (.t 179)), o_ 181 (.mov (.t 180)), .op (some 182) (some (181, true)) (.mov (.t 2)), .op (some 183) (some (181, true)) (.mov (.t 24)), .op (some 184) (some (181, true)) (.bin .lss (.t 182) (.t 183)), o_ 185 (.pick (.t 181) (.t 184) (.c (.bool false)))]) (.cond (.t 185) (.reg [o_ 186 (.mov (.t 0)), o_ 187 (.mov (.t 20)), o_ 188 (.mov (.t 2)), o_ 189 (.mov (.t 24)), o_ 190 (.mov (.t 4)), o_ 191 (.call 231 [.t 186, .t 187, .t 188, .t 189, .t 190] { give := [], ad := [], pure := false })]) (.skip))) (.seq (.seq (.reg [o_ 192 (.mov (.t 1)), o_ 193 (.mov (.t 20)), o_ 194 (.bin .lss (.t 192) (.t 193)), o_ 195 (.mov (.t 194)), .op (some 196) (some (195, true)) (.mov (.t 20)), .op (some 197) (some (195, true)) (.mov (.t 18)), .op (some 198) (some (195, true)) (.bin .lss (.t 196) (.t 197)), o_ 199 (.pick (.t 195) (.t 198) (.c (.bool false)))]) (.cond (.t 199) (.reg [o_ 200 (.mov (.t 0)), o_ 201 (.mov (.t 1)), o_ 202 (.mov (.t 20)), o_ 203 (.mov (.t 18)), o_ 204 (.mov (.t 4)), o_ 205 (.call 205 [.t 200, .t 201, .t 202, .t 203, .t 204] { give := [], ad := [], pure := false })]) (.skip))) (.seq (.reg [o_ 206 (.mov (.t 18)), o_ 207 (.mov (.t 24)), o_ 208 (.bin .lss (.t 206) (.t 207)), o_ 209 (.mov (.t 208)), .op (some 210) (some (209, true)) (.mov (.t 24)), .op (some 211) (some (209, true)) (.mov (.t 3)), .op (some 212) (some (209, true)) (.bin .lss (.t 210) (.t 211)), o_ 213 (.pick (.t 209) (.t 212) (.c (.bool false)))]) (.cond (.t 213) (.reg [o_ 214 (.mov (.t 0)), o_ 215 (.mov (.t 18)), o_ 216 (.mov (.t 24)), o_ 217 (.mov (.t 3)), o_ 218 (.mov (.t 4)), o_ 219 (.call 205 [.t 214, .t 215, .t 216, .t 217, .t 218] { give := [], ad := [], pure := false })]) (.skip))))))))))))) }
def ir229 : Abs.Fn := { nt := 18, res := [Res.tmp 2], body := .seq (.reg [o_ 2 (.mov (.c (.int .i64 0)))]) (.seq (.reg [o_ 3 (.mov (.c (.int .i64 0)))]) (.seq (.seq (.reg [o_ 6 (.mov (.t 0)), o_ 7 (.len 1 (.t 6)), o_ 8 (.mov (.c (.int .i64 0)))]) (.block 0 (.loop (.seq (.reg [o_ 9 (.bin .lss (.t 8) (.t 7))]) (.seq (.cond (.t 9) (.skip) (.exit 0)) (.seq (.block 1 (.seq (.reg [o_ 10 (.iadr 1 (.t 6) (.t 8)), o_ 11 (.load 1 false (.t 10)), o_ 5 (.mov (.t 11))]) (.seq (.reg [o_ 12 (.mov (.t 5)), o_ 13 (.mov (.t 3)), o_ 14 (.bin .neq (.t 12) (.t 13))]) (.cond (.t 14) (.seq (.reg [o_ 15 (.mov (.t 5)), o_ 2 (.mov (.t 15))]) (.ret)) (.skip))))) (.reg [o_ 16 (.bin .add (.t 8) (.c (.int .i64 1))), o_ 8 (.mov (.t 16))]))))))) (.seq (.reg [o_ 17 (.mov (.t 3)), o_ 2 (.mov (.t 17))]) (.ret)))) }
def fns : Nat → Option Abs.Fn
  | 5 => some ir5
  | 25 => some ir25
  | 26 => some ir26
  | 33 => some ir33
  | 34 => some ir34
  | 35 => some ir35
  | 37 => some ir37
  | 39 => some ir39
  | 40 => some ir40
  | 41 => some ir41
  | 42 => some ir42
  | 43 => some ir43
  | 44 => some ir44
  | 48 => some ir48
  | 49 => some ir49
  | 51 => some ir51
  | 52 => some ir52
  | 53 => some ir53
  | 58 => some ir58
  | 61 => some ir61
  | 62 => some ir62
  | 63 => some ir63
  | 81 => some ir81
  | 82 => some ir82
  | 83 => some ir83
  | 85 => some ir85
  | 87 => some ir87
  | 90 => some ir90
  | 91 => some ir91
  | 93 => some ir93
  | 94 => some ir94
  | 95 => some ir95
  | 96 => some ir96
  | 97 => some ir97
  | 98 => some ir98
  | 99 => some ir99
  | 100 => some ir100
  | 101 => some ir101
  | 102 => some ir102
  | 103 => some ir103
  | 105 => some ir105
  | 106 => some ir106
  | 107 => some ir107
  | 109 => some ir109
  | 111 => some ir111
  | 112 => some ir112
  | 113 => some ir113
  | 114 => some ir114
  | 128 => some ir128
  | 144 => some ir144
  | 148 => some ir148
  | 154 => some ir154
  | 155 => some ir155
  | 156 => some ir156
  | 157 => some ir157
  | 158 => some ir158
  | 161 => some ir161
  | 162 => some ir162
  | 163 => some ir163
  | 164 => some ir164
  | 165 => some ir165
  | 166 => some ir166
  | 167 => some ir167
  | 168 => some ir168
  | 170 => some ir170
  | 171 => some ir171
  | 172 => some ir172
  | 192 => some ir192
  | 193 => some ir193
  | 202 => some ir202
  | 203 => some ir203
  | 204 => some ir204
  | 205 => some ir205
  | 229 => some ir229
  | 231 => some ir231
  | 246 => some ir246
  | _ => none
def kx : Nat → Option XK
  | 194 => some .ixb
  | 240 => some .cmp
  | 160 => some .trim
  | 230 => some .atoi
  | 86 => some .rep
  | _ => none
def tabs : Nat → List IV := tabG 0 .u8 tab32
noncomputable abbrev L := lim tabs fns (xRun kx)
end Go.Proofs.YtoclmbbfdokbhaaGreatDoor
