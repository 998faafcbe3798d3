/-
  The small code of the functions: all of it; library functions without a body; the table that is laid. Printed by a program of mine.
-/
import Derived.Test.YtcbepglkfglclaaDoorHM3Aa
namespace Go.Proofs.YtcbepglkfglclaaDoor
open Go Go.Abs
set_option maxRecDepth 100000
set_option maxHeartbeats 1000000
/-- The functions by their numbers. -/
def fns : Nat → Option Abs.Fn
  | 3 => some ir3
  | 13 => some ir13
  | 14 => some ir14
  | 15 => some ir15
  | 16 => some ir16
  | 17 => some ir17
  | 18 => some ir18
  | 26 => some ir26
  | 31 => some ir31
  | 36 => some ir36
  | 46 => some ir46
  | 58 => some ir58
  | 59 => some ir59
  | 60 => some ir60
  | 61 => some ir61
  | 62 => some ir62
  | 63 => some ir63
  | 64 => some ir64
  | 65 => some ir65
  | 66 => some ir66
  | 82 => some ir82
  | 84 => some ir84
  | 91 => some ir91
  | 105 => some ir105
  | 108 => some ir108
  | 109 => some ir109
  | 110 => some ir110
  | 111 => some ir111
  | 112 => some ir112
  | 113 => some ir113
  | 114 => some ir114
  | 115 => some ir115
  | 116 => some ir116
  | 117 => some ir117
  | 118 => some ir118
  | 119 => some ir119
  | 120 => some ir120
  | 126 => some ir126
  | 130 => some ir130
  | 131 => some ir131
  | 133 => some ir133
  | 142 => some ir142
  | 143 => some ir143
  | 146 => some ir146
  | 147 => some ir147
  | 148 => some ir148
  | 149 => some ir149
  | 150 => some ir150
  | 151 => some ir151
  | 152 => some ir152
  | 154 => some ir154
  | 155 => some ir155
  | 167 => some ir167
  | 168 => some ir168
  | 170 => some ir170
  | 171 => some ir171
  | _ => none
def kx : Nat → Option XK
  | 169 => some .ixb
  | 166 => some .cmp
  | 132 => some .trim
  | _ => none
def tab32 : List Int := [0, 1, 28, 2, 29, 14, 24, 3, 30, 22, 20, 15, 25, 17, 4, 8, 31, 27, 13, 23, 21, 19, 16, 7, 26, 12, 18, 6, 11, 5, 10, 9]
def tabs : Nat → List IV := tabG 0 .u8 tab32
noncomputable abbrev L := lim tabs fns (xRun kx)
end Go.Proofs.YtcbepglkfglclaaDoor
