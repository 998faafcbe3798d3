/-
  The small code of the functions: all of it; library functions without a body; the table that is laid. Printed by a program of mine.
-/
import Derived.Test.YtameabpbghichaaGreatDoorHM3Aa
namespace Go.Proofs.YtameabpbghichaaGreatDoor
open Go Go.Abs
set_option maxRecDepth 100000
set_option maxHeartbeats 8000000
def ir41 : Abs.Fn:={ nt:=30,res:=[Res.tmp 2,Res.tmp 3],body:=q_ [o_ 2 (.mov (i_ 0)),o_ 3 (.mov (i_ 0))] (.seq (q_ [o_ 8 (m_ 0),o_ 9 (.call 96 [.t 8] h_),o_ 4 (m_ 9)] (q_ [o_ 10 (m_ 4),o_ 11 (.bin .neq (.t 10) (i_ 0))] (.cond (.t 11) (q_ [o_ 12 (m_ 4),o_ 2 (.mov (i_ 0)),o_ 3 (m_ 12)] (.ret)) (.skip)))) (q_ [o_ 5 (.mov (i_ 0))] (.seq (q_ [o_ 13 (m_ 0),o_ 14 (.call 97 [.t 13] h_),o_ 15 (.len 1 (.t 14)),o_ 16 (.mov (i_ 0))] (.block 0 (.loop (q_ [o_ 17 (.bin .lss (.t 16) (.t 15))] (.seq (.cond (.t 17) (.skip) (.exit 0)) (.seq (.block 1 (q_ [o_ 18 (.iadr 3 (.t 14) (.t 16)),o_ 19 (b_ 3 18),o_ 7 (.alloc [.int .i64 0,.int .i64 0,.int .i64 0]),s_ (.store 3 (.t 7) (.t 19))] (.reg [o_ 20 (m_ 5),o_ 21 (f_ 2 7),o_ 22 (l_ 1 21),o_ 23 (f_ 1 7),o_ 24 (l_ 1 23),o_ 25 (.bin .sub (.t 22) (.t 24)),o_ 26 (.bin .add (.t 25) (i_ 1)),o_ 27 (.bin .add (.t 20) (.t 26)),o_ 5 (m_ 27)]))) (.reg [o_ 28 (.bin .add (.t 16) (i_ 1)),o_ 16 (m_ 28)]))))))) (q_ [o_ 29 (m_ 5),o_ 2 (m_ 29),o_ 3 (.mov (i_ 0))] (.ret))))) }
def ir96 : Abs.Fn:={ nt:=5,res:=[Res.tmp 2],body:=q_ [o_ 2 (.mov (i_ 0))] (q_ [o_ 3 (m_ 0),o_ 4 (.call 146 [.t 3,.c (.int .i64 1)] h_),o_ 2 (m_ 4)] (.ret)) }
def ir97 : Abs.Fn:={ nt:=19,res:=[Res.tmp 2],body:=q_ [o_ 2 (.mov (.c (.nilS)))] (q_ [o_ 3 (.mov (.c (.nilS)))] (.seq (q_ [o_ 6 (m_ 0),o_ 7 (.len 1 (.t 6)),o_ 8 (.mov (i_ 0))] (.block 0 (.loop (q_ [o_ 9 (.bin .lss (.t 8) (.t 7))] (.seq (.cond (.t 9) (.skip) (.exit 0)) (.seq (.block 1 (q_ [o_ 10 (.iadr 2 (.t 6) (.t 8)),o_ 11 (b_ 2 10),o_ 5 (.alloc [.str [],.str []]),s_ (.store 2 (.t 5) (.t 11))] (.reg [o_ 12 (m_ 3),o_ 13 (b_ 2 5),o_ 14 (.call 147 [.t 13] h_),o_ 15 (.bsl 3 1 [.int .i64 0,.int .i64 0,.int .i64 0] [(0,.t 14)] false),o_ 16 (.app 3 24 false (.t 12) (.t 15)),o_ 3 (m_ 16)]))) (.reg [o_ 17 (.bin .add (.t 8) (i_ 1)),o_ 8 (m_ 17)]))))))) (q_ [o_ 18 (m_ 3),o_ 2 (m_ 18)] (.ret)))) }
def ir124 : Abs.Fn:={ nt:=20,res:=[Res.tmp 2],body:=q_ [o_ 2 (.mov (.c (.bool false)))] (q_ [o_ 6 (m_ 0),o_ 7 (.call 175 [.t 6,.c (.str [43])] h_),o_ 5 (m_ 7),o_ 8 (.ext (.t 5) 0),o_ 9 (.ext (.t 5) 1),o_ 3 (m_ 8),o_ 4 (m_ 9)] (.seq (.reg (o_ 10 (m_ 4) :: (o_ 11 (m_ 10) :: ([.op (some 12) (some (11,true)) (m_ 3),.op (some 13) (some (11,true)) (.call 34 [.t 12,.c (.int .i64 4),.c (.int .i64 15)] h_),o_ 14 (.pick (.t 11) (.t 13) (.c (.bool false)))] ++ (o_ 15 (m_ 14) :: ([.op (some 16) (some (15,true)) (m_ 3),.op (some 17) (some (15,true)) (.idxS (.t 16) (i_ 0)),.op (some 18) (some (15,true)) (.bin .neq (.t 17) (.c (.int .u8 48))),o_ 19 (.pick (.t 15) (.t 18) (.c (.bool false)))] ++ [o_ 2 (m_ 19)])))))) (.ret))) }
def ir132 : Abs.Fn:={ nt:=18,res:=[Res.tmp 2],body:=q_ [o_ 2 (.mov (i_ 0))] (q_ [o_ 3 (.mov (i_ 0))] (.seq (q_ [o_ 6 (m_ 0),o_ 7 (.len 1 (.t 6)),o_ 8 (.mov (i_ 0))] (.block 0 (.loop (q_ [o_ 9 (.bin .lss (.t 8) (.t 7))] (.seq (.cond (.t 9) (.skip) (.exit 0)) (.seq (.block 1 (q_ [o_ 10 (.iadr 1 (.t 6) (.t 8)),o_ 11 (l_ 1 10),o_ 5 (m_ 11)] (q_ [o_ 12 (m_ 5),o_ 13 (m_ 3),o_ 14 (.bin .neq (.t 12) (.t 13))] (.cond (.t 14) (q_ [o_ 15 (m_ 5),o_ 2 (m_ 15)] (.ret)) (.skip))))) (.reg [o_ 16 (.bin .add (.t 8) (i_ 1)),o_ 8 (m_ 16)]))))))) (q_ [o_ 17 (m_ 3),o_ 2 (m_ 17)] (.ret)))) }
def ir133 : Abs.Fn:={ nt:=20,res:=[Res.tmp 4],body:=q_ [o_ 4 (.mov (i_ 0))] (q_ [o_ 7 (m_ 0),o_ 8 (.call 184 [.t 7] h_),o_ 5 (m_ 8)] (q_ [o_ 9 (m_ 1),o_ 10 (.call 184 [.t 9] h_),o_ 6 (m_ 10)] (.seq (q_ [o_ 11 (m_ 5)] (.cond (.t 11) (.seq (q_ [o_ 12 (m_ 6)] (.cond (.t 12) (q_ [o_ 4 (.mov (i_ 0))] (.ret)) (.skip))) (q_ [o_ 4 (.mov (i_ (-1)))] (.ret))) (.skip))) (.seq (q_ [o_ 13 (m_ 6)] (.cond (.t 13) (q_ [o_ 4 (.mov (i_ 1))] (.ret)) (.skip))) (.seq (q_ [o_ 14 (m_ 0),o_ 15 (m_ 1),o_ 16 (.bin .lss (.t 14) (.t 15))] (.cond (.t 16) (q_ [o_ 4 (.mov (i_ (-1)))] (.ret)) (.skip))) (.seq (q_ [o_ 17 (m_ 0),o_ 18 (m_ 1),o_ 19 (.bin .gtr (.t 17) (.t 18))] (.cond (.t 19) (q_ [o_ 4 (.mov (i_ 1))] (.ret)) (.skip))) (q_ [o_ 4 (.mov (i_ 0))] (.ret)))))))) }
def ir146 : Abs.Fn:={ nt:=83,res:=[Res.tmp 4],body:=q_ [o_ 4 (.mov (i_ 0))] (.seq (q_ [o_ 9 (m_ 0),o_ 10 (.len 1 (.t 9)),o_ 11 (.bin .gtr (.t 10) (i_ 1000))] (.cond (.t 11) (q_ [o_ 4 (.mov (i_ 2))] (.ret)) (.skip))) (.seq (q_ [o_ 12 (m_ 0),o_ 13 (.len 1 (.t 12)),o_ 14 (.mov (i_ 0))] (.block 0 (.loop (q_ [o_ 15 (.bin .lss (.t 14) (.t 13))] (.seq (.cond (.t 15) (.skip) (.exit 0)) (.seq (.block 1 (q_ [o_ 16 (m_ 14),o_ 17 (.iadr 2 (.t 12) (.t 14)),o_ 18 (b_ 2 17),o_ 6 (.alloc [.str [],.str []]),o_ 5 (m_ 16),s_ (.store 2 (.t 6) (.t 18))] (.seq (.seq (.reg (o_ 19 (f_ 0 6) :: (o_ 20 (l_ 1 19) :: (o_ 21 (.call 124 [.t 20] h_) :: (o_ 22 (.un .not (.t 21)) :: (o_ 23 (m_ 22) :: ([g_ 24 23 (f_ 1 6),g_ 25 23 (l_ 1 24),g_ 26 23 (.call 124 [.t 25] h_),g_ 27 23 (.un .not (.t 26)),o_ 28 (.pick (.t 23) (.c (.bool true)) (.t 27))] ++ (o_ 29 (m_ 28) :: ([g_ 30 29 (f_ 0 6),g_ 31 29 (l_ 1 30),g_ 32 29 (.len 0 (.t 31)),g_ 33 29 (f_ 1 6),g_ 34 29 (l_ 1 33),g_ 35 29 (.len 0 (.t 34)),g_ 36 29 (.bin .neq (.t 32) (.t 35)),o_ 37 (.pick (.t 29) (.c (.bool true)) (.t 36))] ++ (o_ 38 (m_ 37) :: ([g_ 39 38 (f_ 0 6),g_ 40 38 (l_ 1 39),g_ 41 38 (f_ 1 6),g_ 42 38 (l_ 1 41),g_ 43 38 (.bin .gtr (.t 40) (.t 42)),o_ 44 (.pick (.t 38) (.c (.bool true)) (.t 43))] ++ []))))))))))) (.cond (.t 44) (q_ [o_ 4 (.mov (i_ 3))] (.ret)) (.skip))) (.seq (q_ [o_ 45 (m_ 5),o_ 46 (.bin .eql (.t 45) (i_ 0))] (.cond (.t 46) (.exit 1) (.skip))) (.seq (.ghost [.kill [7] [],.kill [8] []] (.regD [o_ 47 (m_ 0),o_ 48 (m_ 5),o_ 49 (.bin .sub (.t 48) (i_ 1)),o_ 50 (.iadr 2 (.t 47) (.t 49)),o_ 51 (b_ 2 50),o_ 52 (.call 147 [.t 51] h_),o_ 53 (b_ 2 6),o_ 54 (.call 147 [.t 53] h_),s_ (.galloc 3 7),s_ (.galloc 3 8),o_ 7 (.gsto 3 (.t 52)),o_ 8 (.gsto 3 (.t 54))] [[],[],[1],[0,1,2],[0,1,2,3],[0,1,2,3,4],[],[0,1,2,3,4,5,6],[],[],[0,1,2,3,4,5,6,7,8,9],[0,1,2,3,4,5,6,7,8,9,10]])) (.seq (.seq (.regD [o_ 55 (f_ 0 7),o_ 56 (l_ 1 55),o_ 57 (f_ 0 8),o_ 58 (l_ 1 57),o_ 59 (.call 133 [.t 56,.t 58] h_),o_ 60 (f_ 1 7),o_ 61 (l_ 1 60),o_ 62 (f_ 1 8),o_ 63 (l_ 1 62),o_ 64 (.call 133 [.t 61,.t 63] h_),o_ 65 (.bsl 1 2 [.int .i64 0] [(0,.t 59),(1,.t 64)] false),o_ 66 (.call 132 [.t 65] h_),o_ 67 (.bin .geq (.t 66) (i_ 0))] [[],[0],[],[2],[0,1,2,3],[],[5],[],[7],[0,1,2,3,4,5,6,7,8],[0,1,2,3,4,5,6,7,8,9],[0,1,2,3,4,5,6,7,8,9,10],[0,1,2,3,4,5,6,7,8,9,10,11]]) (.cond (.t 67) (q_ [o_ 4 (.mov (i_ 7))] (.ret)) (.skip))) (.seq (.reg (o_ 68 (f_ 0 7) :: (o_ 69 (l_ 1 68) :: (o_ 70 (f_ 0 8) :: (o_ 71 (l_ 1 70) :: (o_ 72 (.bin .eql (.t 69) (.t 71)) :: (o_ 73 (m_ 72) :: ([.op (some 74) (some (73,true)) (f_ 1 8),.op (some 75) (some (73,true)) (l_ 1 74),.op (some 76) (some (73,true)) (f_ 2 7),.op (some 77) (some (73,true)) (l_ 1 76),.op (some 78) (some (73,true)) (m_ 1),.op (some 79) (some (73,true)) (.bin .add (.t 77) (.t 78)),.op (some 80) (some (73,true)) (.bin .leq (.t 75) (.t 79)),o_ 81 (.pick (.t 73) (.t 80) (.c (.bool false)))] ++ [])))))))) (.cond (.t 81) (q_ [o_ 4 (.mov (i_ 13))] (.ret)) (.skip))))))))) (.reg [o_ 82 (.bin .add (.t 14) (i_ 1)),o_ 14 (m_ 82)]))))))) (q_ [o_ 4 (.mov (i_ 0))] (.ret)))) }
def ir147 : Abs.Fn:={ nt:=28,res:=[Res.cell 2 3 true],body:=q_ [o_ 1 (.box 2 (.t 0)),o_ 2 (.alloc [.int .i64 0,.int .i64 0,.int .i64 0])] (q_ [o_ 8 (f_ 0 1),o_ 9 (l_ 1 8),o_ 10 (.slcS (.t 9) (some (i_ 1)) none),o_ 11 (.call 190 [.t 10] h_),o_ 7 (m_ 11),o_ 12 (.ext (.t 7) 0),o_ 13 (.ext (.t 7) 1),o_ 3 (m_ 12),o_ 4 (m_ 13)] (q_ [o_ 15 (f_ 1 1),o_ 16 (l_ 1 15),o_ 17 (.slcS (.t 16) (some (i_ 1)) none),o_ 18 (.call 190 [.t 17] h_),o_ 14 (m_ 18),o_ 19 (.ext (.t 14) 0),o_ 20 (.ext (.t 14) 1),o_ 5 (m_ 19),o_ 6 (m_ 20)] (q_ [o_ 21 (f_ 0 1),o_ 22 (l_ 1 21),o_ 23 (.len 0 (.t 22)),o_ 24 (.bin .sub (.t 23) (i_ 1)),o_ 25 (m_ 3),o_ 26 (m_ 5),o_ 27 (.build [.int .i64 0,.int .i64 0,.int .i64 0] [(0,1),(1,1),(2,1)] [(0,.t 24),(1,.t 25),(2,.t 26)]),s_ (.store 3 (.t 2) (.t 27))] (.ret)))) }
def ir175 : Abs.Fn:={ nt:=11,res:=[Res.tmp 4,Res.tmp 5],body:=q_ [o_ 4 (.mov (.c (.str []))),o_ 5 (.mov (.c (.bool false)))] (q_ [o_ 6 (m_ 0),o_ 7 (m_ 1),o_ 8 (.call 205 [.t 6,.t 7] h_),o_ 9 (.ext (.t 8) 0),o_ 10 (.ext (.t 8) 1),o_ 4 (m_ 9),o_ 5 (m_ 10)] (.ret)) }
def ir184 : Abs.Fn:={ nt:=6,res:=[Res.tmp 2],body:=q_ [o_ 2 (.mov (.c (.bool false)))] (q_ [o_ 3 (m_ 0),o_ 4 (m_ 0),o_ 5 (.bin .neq (.t 3) (.t 4)),o_ 2 (m_ 5)] (.ret)) }
def ir205 : Abs.Fn:={ nt:=15,res:=[Res.tmp 4,Res.tmp 5],body:=q_ [o_ 4 (.mov (.c (.str []))),o_ 5 (.mov (.c (.bool false)))] (.seq (q_ [o_ 6 (m_ 0),o_ 7 (m_ 1),o_ 8 (.call 88 [.t 6,.t 7] h_),o_ 9 (.un .not (.t 8))] (.cond (.t 9) (q_ [o_ 10 (m_ 0),o_ 4 (m_ 10),o_ 5 (.mov (.c (.bool false)))] (.ret)) (.skip))) (q_ [o_ 11 (m_ 0),o_ 12 (m_ 1),o_ 13 (.len 0 (.t 12)),o_ 14 (.slcS (.t 11) (some (.t 13)) none),o_ 4 (m_ 14),o_ 5 (.mov (.c (.bool true)))] (.ret))) }
def fns : Nat → Option Abs.Fn
  | 3=>some ir3
  | 6=>some ir6
  | 7=>some ir7
  | 8=>some ir8
  | 9=>some ir9
  | 10=>some ir10
  | 12=>some ir12
  | 31=>some ir31
  | 32=>some ir32
  | 34=>some ir34
  | 35=>some ir35
  | 36=>some ir36
  | 37=>some ir37
  | 38=>some ir38
  | 39=>some ir39
  | 41=>some ir41
  | 42=>some ir42
  | 43=>some ir43
  | 44=>some ir44
  | 80=>some ir80
  | 86=>some ir86
  | 87=>some ir87
  | 88=>some ir88
  | 96=>some ir96
  | 97=>some ir97
  | 98=>some ir98
  | 99=>some ir99
  | 115=>some ir115
  | 124=>some ir124
  | 132=>some ir132
  | 133=>some ir133
  | 146=>some ir146
  | 147=>some ir147
  | 148=>some ir148
  | 175=>some ir175
  | 184=>some ir184
  | 191=>some ir191
  | 205=>some ir205
  | _=>none
def kx : Nat → Option XK
  | 214=>some .ixb
  | 194=>some .cmp
  | 40=>some .trim
  | 190=>some .atoi
  | 33=>some .rep
  | _=>none
def tabs : Nat → List IV:=tabG 1 .u8 tab32
noncomputable abbrev L (X : Run):=lim tabs fns X
end Go.Proofs.YtameabpbghichaaGreatDoor
