/-
  The small code of the functions: all of it; library functions without a body; the table that is laid. Printed by a program of mine.
-/
import Derived.Test.YtoclmbbfdokbhaaGreatDoorHM4Aa
namespace Go.Proofs.YtoclmbbfdokbhaaGreatDoor
open Go Go.Abs
set_option maxRecDepth 100000
set_option maxHeartbeats 8000000
def ir100 : Abs.Fn := { nt := 30, res := [Res.tmp 2, Res.tmp 3], body := .seq (.reg [o_ 2 (.mov (.c (.int .i64 0))), o_ 3 (.mov (.c (.int .i64 0)))]) (.seq (.seq (.reg [o_ 8 (.mov (.t 0)), o_ 9 (.call 163 [.t 8] h_), o_ 4 (.mov (.t 9))]) (.seq (.reg [o_ 10 (.mov (.t 4)), o_ 11 (.bin .neq (.t 10) (.c (.int .i64 0)))]) (.cond (.t 11) (.seq (.reg [o_ 12 (.mov (.t 4)), o_ 2 (.mov (.c (.int .i64 0))), o_ 3 (.mov (.t 12))]) (.ret)) (.skip)))) (.seq (.reg [o_ 5 (.mov (.c (.int .i64 0)))]) (.seq (.seq (.reg [o_ 13 (.mov (.t 0)), o_ 14 (.call 164 [.t 13] h_), o_ 15 (.len 1 (.t 14)), o_ 16 (.mov (.c (.int .i64 0)))]) (.block 0 (.loop (.seq (.reg [o_ 17 (.bin .lss (.t 16) (.t 15))]) (.seq (.cond (.t 17) (.skip) (.exit 0)) (.seq (.block 1 (.seq (.reg [o_ 18 (.iadr 3 (.t 14) (.t 16)), o_ 19 (.load 3 true (.t 18)), o_ 7 (.alloc [.int .i64 0, .int .i64 0, .int .i64 0]), .op none none (.store 3 (.t 7) (.t 19))]) (.reg [o_ 20 (.mov (.t 5)), o_ 21 (.fadr 2 (.t 7)), o_ 22 (.load 1 false (.t 21)), o_ 23 (.fadr 1 (.t 7)), o_ 24 (.load 1 false (.t 23)), o_ 25 (.bin .sub (.t 22) (.t 24)), o_ 26 (.bin .add (.t 25) (.c (.int .i64 1))), o_ 27 (.bin .add (.t 20) (.t 26)), o_ 5 (.mov (.t 27))]))) (.reg [o_ 28 (.bin .add (.t 16) (.c (.int .i64 1))), o_ 16 (.mov (.t 28))]))))))) (.seq (.reg [o_ 29 (.mov (.t 5)), o_ 2 (.mov (.t 29)), o_ 3 (.mov (.c (.int .i64 0)))]) (.ret))))) }
def ir111 : Abs.Fn := { nt := 20, res := [Res.tmp 4], body := .seq (.reg [o_ 4 (.mov (.c (.int .i64 0)))]) (.seq (.reg [o_ 7 (.mov (.t 0)), o_ 8 (.call 171 [.t 7] h_), o_ 5 (.mov (.t 8))]) (.seq (.reg [o_ 9 (.mov (.t 1)), o_ 10 (.call 171 [.t 9] h_), o_ 6 (.mov (.t 10))]) (.seq (.seq (.reg [o_ 11 (.mov (.t 5))]) (.cond (.t 11) (.seq (.seq (.reg [o_ 12 (.mov (.t 6))]) (.cond (.t 12) (.seq (.reg [o_ 4 (.mov (.c (.int .i64 0)))]) (.ret)) (.skip))) (.seq (.reg [o_ 4 (.mov (.c (.int .i64 (-1))))]) (.ret))) (.skip))) (.seq (.seq (.reg [o_ 13 (.mov (.t 6))]) (.cond (.t 13) (.seq (.reg [o_ 4 (.mov (.c (.int .i64 1)))]) (.ret)) (.skip))) (.seq (.seq (.reg [o_ 14 (.mov (.t 0)), o_ 15 (.mov (.t 1)), o_ 16 (.bin .lss (.t 14) (.t 15))]) (.cond (.t 16) (.seq (.reg [o_ 4 (.mov (.c (.int .i64 (-1))))]) (.ret)) (.skip))) (.seq (.seq (.reg [o_ 17 (.mov (.t 0)), o_ 18 (.mov (.t 1)), o_ 19 (.bin .gtr (.t 17) (.t 18))]) (.cond (.t 19) (.seq (.reg [o_ 4 (.mov (.c (.int .i64 1)))]) (.ret)) (.skip))) (.seq (.reg [o_ 4 (.mov (.c (.int .i64 0)))]) (.ret)))))))) }
def ir163 : Abs.Fn := { nt := 5, res := [Res.tmp 2], body := .seq (.reg [o_ 2 (.mov (.c (.int .i64 0)))]) (.seq (.reg [o_ 3 (.mov (.t 0)), o_ 4 (.call 202 [.t 3, .c (.int .i64 1)] h_), o_ 2 (.mov (.t 4))]) (.ret)) }
def ir164 : Abs.Fn := { nt := 19, res := [Res.tmp 2], body := .seq (.reg [o_ 2 (.mov (.c (.nilS)))]) (.seq (.reg [o_ 3 (.mov (.c (.nilS)))]) (.seq (.seq (.reg [o_ 6 (.mov (.t 0)), o_ 7 (.len 1 (.t 6)), o_ 8 (.mov (.c (.int .i64 0)))]) (.block 0 (.loop (.seq (.reg [o_ 9 (.bin .lss (.t 8) (.t 7))]) (.seq (.cond (.t 9) (.skip) (.exit 0)) (.seq (.block 1 (.seq (.reg [o_ 10 (.iadr 2 (.t 6) (.t 8)), o_ 11 (.load 2 true (.t 10)), o_ 5 (.alloc [.str [], .str []]), .op none none (.store 2 (.t 5) (.t 11))]) (.reg [o_ 12 (.mov (.t 3)), o_ 13 (.load 2 true (.t 5)), o_ 14 (.call 203 [.t 13] h_), o_ 15 (.bsl 3 1 [.int .i64 0, .int .i64 0, .int .i64 0] [(0, .t 14)] false), o_ 16 (.app 3 24 false (.t 12) (.t 15)), o_ 3 (.mov (.t 16))]))) (.reg [o_ 17 (.bin .add (.t 8) (.c (.int .i64 1))), o_ 8 (.mov (.t 17))]))))))) (.seq (.reg [o_ 18 (.mov (.t 3)), o_ 2 (.mov (.t 18))]) (.ret)))) }
def ir171 : Abs.Fn := { nt := 6, res := [Res.tmp 2], body := .seq (.reg [o_ 2 (.mov (.c (.bool false)))]) (.seq (.reg [o_ 3 (.mov (.t 0)), o_ 4 (.mov (.t 0)), o_ 5 (.bin .neq (.t 3) (.t 4)), o_ 2 (.mov (.t 5))]) (.ret)) }
def ir202 : Abs.Fn := { nt := 83, res := [Res.tmp 4], body := .seq (.reg [o_ 4 (.mov (.c (.int .i64 0)))]) (.seq (.seq (.reg [o_ 9 (.mov (.t 0)), o_ 10 (.len 1 (.t 9)), o_ 11 (.bin .gtr (.t 10) (.c (.int .i64 1000)))]) (.cond (.t 11) (.seq (.reg [o_ 4 (.mov (.c (.int .i64 2)))]) (.ret)) (.skip))) (.seq (.seq (.reg [o_ 12 (.mov (.t 0)), o_ 13 (.len 1 (.t 12)), o_ 14 (.mov (.c (.int .i64 0)))]) (.block 0 (.loop (.seq (.reg [o_ 15 (.bin .lss (.t 14) (.t 13))]) (.seq (.cond (.t 15) (.skip) (.exit 0)) (.seq (.block 1 (.seq (.reg [o_ 16 (.mov (.t 14)), o_ 17 (.iadr 2 (.t 12) (.t 14)), o_ 18 (.load 2 true (.t 17)), o_ 6 (.alloc [.str [], .str []]), o_ 5 (.mov (.t 16)), .op none none (.store 2 (.t 6) (.t 18))]) (.seq (.seq (.reg (o_ 19 (.fadr 0 (.t 6)) :: (o_ 20 (.load 1 false (.t 19)) :: (o_ 21 (.call 144 [.t 20] h_) :: (o_ 22 (.un .not (.t 21)) :: (o_ 23 (.mov (.t 22)) :: ([.op (some 24) (some (23, false)) (.fadr 1 (.t 6)), .op (some 25) (some (23, false)) (.load 1 false (.t 24)), .op (some 26) (some (23, false)) (.call 144 [.t 25] h_), .op (some 27) (some (23, false)) (.un .not (.t 26)), o_ 28 (.pick (.t 23) (.c (.bool true)) (.t 27))] ++ (o_ 29 (.mov (.t 28)) :: ([.op (some 30) (some (29, false)) (.fadr 0 (.t 6)), .op (some 31) (some (29, false)) (.load 1 false (.t 30)), .op (some 32) (some (29, false)) (.len 0 (.t 31)), .op (some 33) (some (29, false)) (.fadr 1 (.t 6)), .op (some 34) (some (29, false)) (.load 1 false (.t 33)), .op (some 35) (some (29, false)) (.len 0 (.t 34)), .op (some 36) (some (29, false)) (.bin .neq (.t 32) (.t 35)), o_ 37 (.pick (.t 29) (.c (.bool true)) (.t 36))] ++ (o_ 38 (.mov (.t 37)) :: ([.op (some 39) (some (38, false)) (.fadr 0 (.t 6)), .op (some 40) (some (38, false)) (.load 1 false (.t 39)), .op (some 41) (some (38, false)) (.fadr 1 (.t 6)), .op (some 42) (some (38, false)) (.load 1 false (.t 41)), .op (some 43) (some (38, false)) (.bin .gtr (.t 40) (.t 42)), o_ 44 (.pick (.t 38) (.c (.bool true)) (.t 43))] ++ []))))))))))) (.cond (.t 44) (.seq (.reg [o_ 4 (.mov (.c (.int .i64 3)))]) (.ret)) (.skip))) (.seq (.seq (.reg [o_ 45 (.mov (.t 5)), o_ 46 (.bin .eql (.t 45) (.c (.int .i64 0)))]) (.cond (.t 46) (.exit 1) (.skip))) (.seq (.ghost [.kill [7] [], .kill [8] []] (.regD [o_ 47 (.mov (.t 0)), o_ 48 (.mov (.t 5)), o_ 49 (.bin .sub (.t 48) (.c (.int .i64 1))), o_ 50 (.iadr 2 (.t 47) (.t 49)), o_ 51 (.load 2 true (.t 50)), o_ 52 (.call 203 [.t 51] h_), o_ 53 (.load 2 true (.t 6)), o_ 54 (.call 203 [.t 53] h_), .op none none (.galloc 3 7), .op none none (.galloc 3 8), o_ 7 (.gsto 3 (.t 52)), o_ 8 (.gsto 3 (.t 54))] [[], [], [1], [0, 1, 2], [0, 1, 2, 3], [0, 1, 2, 3, 4], [], [0, 1, 2, 3, 4, 5, 6], [], [], [0, 1, 2, 3, 4, 5, 6, 7, 8, 9], [0, 1, 2, 3, 4, 5, 6, 7, 8, 9, 10]])) (.seq (.seq (.regD [o_ 55 (.fadr 0 (.t 7)), o_ 56 (.load 1 false (.t 55)), o_ 57 (.fadr 0 (.t 8)), o_ 58 (.load 1 false (.t 57)), o_ 59 (.call 111 [.t 56, .t 58] h_), o_ 60 (.fadr 1 (.t 7)), o_ 61 (.load 1 false (.t 60)), o_ 62 (.fadr 1 (.t 8)), o_ 63 (.load 1 false (.t 62)), o_ 64 (.call 111 [.t 61, .t 63] h_), o_ 65 (.bsl 1 2 [.int .i64 0] [(0, .t 59), (1, .t 64)] false), o_ 66 (.call 229 [.t 65] h_), o_ 67 (.bin .geq (.t 66) (.c (.int .i64 0)))] [[], [0], [], [2], [0, 1, 2, 3], [], [5], [], [7], [0, 1, 2, 3, 4, 5, 6, 7, 8], [0, 1, 2, 3, 4, 5, 6, 7, 8, 9], [0, 1, 2, 3, 4, 5, 6, 7, 8, 9, 10], [0, 1, 2, 3, 4, 5, 6, 7, 8, 9, 10, 11]]) (.cond (.t 67) (.seq (.reg [o_ 4 (.mov (.c (.int .i64 7)))]) (.ret)) (.skip))) (.seq (.reg (o_ 68 (.fadr 0 (.t 7)) :: (o_ 69 (.load 1 false (.t 68)) :: (o_ 70 (.fadr 0 (.t 8)) :: (o_ 71 (.load 1 false (.t 70)) :: (o_ 72 (.bin .eql (.t 69) (.t 71)) :: (o_ 73 (.mov (.t 72)) :: ([.op (some 74) (some (73, true)) (.fadr 1 (.t 8)), .op (some 75) (some (73, true)) (.load 1 false (.t 74)), .op (some 76) (some (73, true)) (.fadr 2 (.t 7)), .op (some 77) (some (73, true)) (.load 1 false (.t 76)), .op (some 78) (some (73, true)) (.mov (.t 1)), .op (some 79) (some (73, true)) (.bin .add (.t 77) (.t 78)), .op (some 80) (some (73, true)) (.bin .leq (.t 75) (.t 79)), o_ 81 (.pick (.t 73) (.t 80) (.c (.bool false)))] ++ [])))))))) (.cond (.t 81) (.seq (.reg [o_ 4 (.mov (.c (.int .i64 13)))]) (.ret)) (.skip))))))))) (.reg [o_ 82 (.bin .add (.t 14) (.c (.int .i64 1))), o_ 14 (.mov (.t 82))]))))))) (.seq (.reg [o_ 4 (.mov (.c (.int .i64 0)))]) (.ret)))) }
def ir203 : Abs.Fn := { nt := 28, res := [Res.cell 2 3 true], body := .seq (.reg [o_ 1 (.box 2 (.t 0)), o_ 2 (.alloc [.int .i64 0, .int .i64 0, .int .i64 0])]) (.seq (.reg [o_ 8 (.fadr 0 (.t 1)), o_ 9 (.load 1 false (.t 8)), o_ 10 (.slcS (.t 9) (some (.c (.int .i64 1))) none), o_ 11 (.call 230 [.t 10] h_), o_ 7 (.mov (.t 11)), o_ 12 (.ext (.t 7) 0), o_ 13 (.ext (.t 7) 1), o_ 3 (.mov (.t 12)), o_ 4 (.mov (.t 13))]) (.seq (.reg [o_ 15 (.fadr 1 (.t 1)), o_ 16 (.load 1 false (.t 15)), o_ 17 (.slcS (.t 16) (some (.c (.int .i64 1))) none), o_ 18 (.call 230 [.t 17] h_), o_ 14 (.mov (.t 18)), o_ 19 (.ext (.t 14) 0), o_ 20 (.ext (.t 14) 1), o_ 5 (.mov (.t 19)), o_ 6 (.mov (.t 20))]) (.seq (.reg [o_ 21 (.fadr 0 (.t 1)), o_ 22 (.load 1 false (.t 21)), o_ 23 (.len 0 (.t 22)), o_ 24 (.bin .sub (.t 23) (.c (.int .i64 1))), o_ 25 (.mov (.t 3)), o_ 26 (.mov (.t 5)), o_ 27 (.build [.int .i64 0, .int .i64 0, .int .i64 0] [(0, 1), (1, 1), (2, 1)] [(0, .t 24), (1, .t 25), (2, .t 26)]), .op none none (.store 3 (.t 2) (.t 27))]) (.ret)))) }
def ir229 : Abs.Fn := { nt := 18, res := [Res.tmp 2], body := .seq (.reg [o_ 2 (.mov (.c (.int .i64 0)))]) (.seq (.reg [o_ 3 (.mov (.c (.int .i64 0)))]) (.seq (.seq (.reg [o_ 6 (.mov (.t 0)), o_ 7 (.len 1 (.t 6)), o_ 8 (.mov (.c (.int .i64 0)))]) (.block 0 (.loop (.seq (.reg [o_ 9 (.bin .lss (.t 8) (.t 7))]) (.seq (.cond (.t 9) (.skip) (.exit 0)) (.seq (.block 1 (.seq (.reg [o_ 10 (.iadr 1 (.t 6) (.t 8)), o_ 11 (.load 1 false (.t 10)), o_ 5 (.mov (.t 11))]) (.seq (.reg [o_ 12 (.mov (.t 5)), o_ 13 (.mov (.t 3)), o_ 14 (.bin .neq (.t 12) (.t 13))]) (.cond (.t 14) (.seq (.reg [o_ 15 (.mov (.t 5)), o_ 2 (.mov (.t 15))]) (.ret)) (.skip))))) (.reg [o_ 16 (.bin .add (.t 8) (.c (.int .i64 1))), o_ 8 (.mov (.t 16))]))))))) (.seq (.reg [o_ 17 (.mov (.t 3)), o_ 2 (.mov (.t 17))]) (.ret)))) }
def fns : Nat → Option Abs.Fn
  | 4 => some ir4
  | 25 => some ir25
  | 26 => some ir26
  | 27 => some ir27
  | 28 => some ir28
  | 29 => some ir29
  | 30 => some ir30
  | 31 => some ir31
  | 32 => some ir32
  | 33 => some ir33
  | 34 => some ir34
  | 35 => some ir35
  | 36 => some ir36
  | 37 => some ir37
  | 38 => some ir38
  | 48 => some ir48
  | 51 => some ir51
  | 52 => some ir52
  | 53 => some ir53
  | 58 => some ir58
  | 61 => some ir61
  | 62 => some ir62
  | 63 => some ir63
  | 81 => some ir81
  | 82 => some ir82
  | 83 => some ir83
  | 84 => some ir84
  | 85 => some ir85
  | 87 => some ir87
  | 88 => some ir88
  | 89 => some ir89
  | 90 => some ir90
  | 91 => some ir91
  | 92 => some ir92
  | 93 => some ir93
  | 94 => some ir94
  | 95 => some ir95
  | 96 => some ir96
  | 97 => some ir97
  | 98 => some ir98
  | 99 => some ir99
  | 100 => some ir100
  | 101 => some ir101
  | 102 => some ir102
  | 103 => some ir103
  | 104 => some ir104
  | 105 => some ir105
  | 111 => some ir111
  | 128 => some ir128
  | 144 => some ir144
  | 148 => some ir148
  | 154 => some ir154
  | 155 => some ir155
  | 156 => some ir156
  | 157 => some ir157
  | 158 => some ir158
  | 159 => some ir159
  | 161 => some ir161
  | 162 => some ir162
  | 163 => some ir163
  | 164 => some ir164
  | 165 => some ir165
  | 166 => some ir166
  | 171 => some ir171
  | 192 => some ir192
  | 193 => some ir193
  | 202 => some ir202
  | 203 => some ir203
  | 229 => some ir229
  | _ => none
def kx : Nat → Option XK
  | 194 => some .ixb
  | 240 => some .cmp
  | 160 => some .trim
  | 230 => some .atoi
  | 86 => some .rep
  | _ => none
def tabs : Nat → List IV := tabG 0 .u8 tab32
noncomputable abbrev L := lim tabs fns (xRun kx)
end Go.Proofs.YtoclmbbfdokbhaaGreatDoor
