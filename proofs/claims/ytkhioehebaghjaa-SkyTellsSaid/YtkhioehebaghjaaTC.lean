/- A part of a proof about the given program: what its name says. No premise beyond the statements'. -/
import Derived.Test.YtkhioehebaghjaaGD
set_option linter.unusedSimpArgs false
set_option linter.unusedVariables false
/- The library's sort by a comparison, in the short form, general over the numbers that its functions have in a program. -/
namespace Go.AM
abbrev mm_ (d x : Nat) : LOper:=⟨some d,.mv (.t x),none⟩
abbrev oo_ (d : Nat) (op : LOp) : LOper:=⟨some d,op,none⟩
abbrev gg_ (d : Nat) (op : LOp) (x : Nat) (b : Bool) : LOper:=⟨some d,op,some (x,b)⟩
structure SK where
 ag : Bool
 sz : Nat
 srt : Nat
 pdq : Nat
 len : Nat
 len32 : Nat
 len64 : Nat
 ins : Nat
 heap : Nat
 brk : Nat
 piv : Nat
 rev : Nat
 par : Nat
 peq : Nat
 prt : Nat
 sift : Nat
 npo : Nat
 nxt : Nat
 madj : Nat
 med : Nat
 ord : Nat
def tab8 : List UInt8:=[0,1,2,2,3,3,3,3,4,4,4,4,4,4,4,4,5,5,5,5,5,5,5,5,5,5,5,5,5,5,5,5,6,6,6,6,6,6,6,6,6,6,6,6,6,6,6,6,6,6,6,6,6,6,6,6,6,6,6,6,6,6,6,6,7,7,7,7,7,7,7,7,7,7,7,7,7,7,7,7,7,7,7,7,7,7,7,7,7,7,7,7,7,7,7,7,7,7,7,7,7,7,7,7,7,7,7,7,7,7,7,7,7,7,7,7,7,7,7,7,7,7,7,7,7,7,7,7,8,8,8,8,8,8,8,8,8,8,8,8,8,8,8,8,8,8,8,8,8,8,8,8,8,8,8,8,8,8,8,8,8,8,8,8,8,8,8,8,8,8,8,8,8,8,8,8,8,8,8,8,8,8,8,8,8,8,8,8,8,8,8,8,8,8,8,8,8,8,8,8,8,8,8,8,8,8,8,8,8,8,8,8,8,8,8,8,8,8,8,8,8,8,8,8,8,8,8,8,8,8,8,8,8,8,8,8,8,8,8,8,8,8,8,8,8,8,8,8,8,8,8,8,8,8,8,8]
def tab8S : ByteArray:=⟨tab8.toArray⟩
def cSrt (K : SK) : LFunc:=⟨14,2,
 (.seq
 (.region [
mm_ 5 0,
oo_ 6 (.len .sli (.t 5)),
mm_ 4 6] false)
 (.region [
mm_ 7 0,
mm_ 8 4,
mm_ 9 4,
oo_ 10 (.conv .u64 (.t 9)),
oo_ 11 (.call false (.c (.fn K.len [] [])) [.t 10]),
mm_ 12 1,
oo_ 13 (.call false (.c (.fn K.pdq [] [])) [.t 7,.c (.int .i64 0),.t 8,.t 11,.t 12])] false)),
 []⟩
def cPdq (K : SK) : LFunc:=⟨148,5,
 (.seq
 (.region [
oo_ 10 (.mv (.c (.bool true)))] false)
 (.seq
 (.region [
oo_ 11 (.mv (.c (.bool true)))] false)
 (.block 0
 (.loop
 (.block 1
 (.seq
 (.region [
mm_ 21 2,
mm_ 22 1,
oo_ 23 (.bin .sub (.t 21) (.t 22)),
mm_ 12 23] false)
 (.seq
 (.seq
 (.region [
mm_ 24 12,
oo_ 25 (.bin .leq (.t 24) (.c (.int .i64 12)))] false)
 (.cond (.t 25)
 (.seq
 (.region [
mm_ 26 0,
mm_ 27 1,
mm_ 28 2,
mm_ 29 4,
oo_ 30 (.call false (.c (.fn K.ins [] [])) [.t 26,.t 27,.t 28,.t 29])] false)
 .ret)
 .skip))
 (.seq
 (.seq
 (.region [
mm_ 31 3,
oo_ 32 (.bin .eql (.t 31) (.c (.int .i64 0)))] false)
 (.cond (.t 32)
 (.seq
 (.region [
mm_ 33 0,
mm_ 34 1,
mm_ 35 2,
mm_ 36 4,
oo_ 37 (.call false (.c (.fn K.heap [] [])) [.t 33,.t 34,.t 35,.t 36])] false)
 .ret)
 .skip))
 (.seq
 (.seq
 (.region [
mm_ 38 10,
oo_ 39 (.not (.t 38))] false)
 (.cond (.t 39)
 (.seq
 (.region [
mm_ 40 0,
mm_ 41 1,
mm_ 42 2,
mm_ 43 4,
oo_ 44 (.call false (.c (.fn K.brk [] [])) [.t 40,.t 41,.t 42,.t 43])] false)
 (.region [
mm_ 45 3,
oo_ 46 (.bin .sub (.t 45) (.c (.int .i64 1))),
mm_ 3 46] false))
 .skip))
 (.seq
 (.region [
mm_ 48 0,
mm_ 49 1,
mm_ 50 2,
mm_ 51 4,
oo_ 52 (.call false (.c (.fn K.piv [] [])) [.t 48,.t 49,.t 50,.t 51]),
mm_ 47 52,
oo_ 53 (.extract (.t 47) 0),
oo_ 54 (.extract (.t 47) 1),
mm_ 13 53,
mm_ 14 54] false)
 (.seq
 (.seq
 (.region [
mm_ 55 14,
oo_ 56 (.bin .eql (.t 55) (.c (.int .i64 2)))] false)
 (.cond (.t 56)
 (.seq
 (.region [
mm_ 57 0,
mm_ 58 1,
mm_ 59 2,
mm_ 60 4,
oo_ 61 (.call false (.c (.fn K.rev [] [])) [.t 57,.t 58,.t 59,.t 60])] false)
 (.seq
 (.region [
mm_ 62 2,
oo_ 63 (.bin .sub (.t 62) (.c (.int .i64 1))),
mm_ 64 13,
mm_ 65 1,
oo_ 66 (.bin .sub (.t 64) (.t 65)),
oo_ 67 (.bin .sub (.t 63) (.t 66)),
mm_ 13 67] false)
 (.region [
oo_ 14 (.mv (.c (.int .i64 1)))] false)))
 .skip))
 (.seq
 (.seq
 (.region [
mm_ 68 10,
mm_ 69 68,
gg_ 70 (.mv (.t 11)) 69 true,
oo_ 71 (.pick (.t 69) (.t 70) (.c (.bool false))),
mm_ 72 71,
gg_ 73 (.mv (.t 14)) 72 true,
gg_ 74 (.bin .eql (.t 73) (.c (.int .i64 1))) 72 true,
oo_ 75 (.pick (.t 72) (.t 74) (.c (.bool false)))] false)
 (.cond (.t 75)
 (.seq
 (.region [
mm_ 76 0,
mm_ 77 1,
mm_ 78 2,
mm_ 79 4,
oo_ 80 (.call false (.c (.fn K.par [] [])) [.t 76,.t 77,.t 78,.t 79])] false)
 (.cond (.t 80)
 .ret
 .skip))
 .skip))
 (.seq
 (.seq
 (.region [
mm_ 81 1,
oo_ 82 (.bin .gtr (.t 81) (.c (.int .i64 0))),
mm_ 83 82,
gg_ 84 (.mv (.t 4)) 83 true,
gg_ 85 (.mv (.t 0)) 83 true,
gg_ 86 (.mv (.t 1)) 83 true,
gg_ 87 (.bin .sub (.t 86) (.c (.int .i64 1))) 83 true,
gg_ 88 (.idxa K.sz (.t 85) (.t 87)) 83 true,
gg_ 89 (.load K.ag K.sz (.t 88)) 83 true,
gg_ 90 (.mv (.t 0)) 83 true,
gg_ 91 (.mv (.t 13)) 83 true,
gg_ 92 (.idxa K.sz (.t 90) (.t 91)) 83 true,
gg_ 93 (.load K.ag K.sz (.t 92)) 83 true,
gg_ 94 (.call false (.t 84) [.t 89,.t 93]) 83 true,
gg_ 95 (.bin .lss (.t 94) (.c (.int .i64 0))) 83 true,
gg_ 96 (.not (.t 95)) 83 true,
oo_ 97 (.pick (.t 83) (.t 96) (.c (.bool false)))] true)
 (.cond (.t 97)
 (.seq
 (.region [
mm_ 98 0,
mm_ 99 1,
mm_ 100 2,
mm_ 101 13,
mm_ 102 4,
oo_ 103 (.call false (.c (.fn K.peq [] [])) [.t 98,.t 99,.t 100,.t 101,.t 102]),
mm_ 15 103] false)
 (.seq
 (.region [
mm_ 104 15,
mm_ 1 104] false)
 (.exit 1)))
 .skip))
 (.seq
 (.region [
mm_ 106 0,
mm_ 107 1,
mm_ 108 2,
mm_ 109 13,
mm_ 110 4,
oo_ 111 (.call false (.c (.fn K.prt [] [])) [.t 106,.t 107,.t 108,.t 109,.t 110]),
mm_ 105 111,
oo_ 112 (.extract (.t 105) 0),
oo_ 113 (.extract (.t 105) 1),
mm_ 16 112,
mm_ 17 113] false)
 (.seq
 (.region [
mm_ 114 17,
mm_ 11 114] false)
 (.seq
 (.region [
mm_ 115 16,
mm_ 116 1,
oo_ 117 (.bin .sub (.t 115) (.t 116)),
mm_ 118 2,
mm_ 119 16,
oo_ 120 (.bin .sub (.t 118) (.t 119)),
mm_ 18 117,
mm_ 19 120] false)
 (.seq
 (.region [
mm_ 121 12,
oo_ 122 (.bin .quo (.t 121) (.c (.int .i64 8))),
mm_ 20 122] false)
 (.seq
 (.region [
mm_ 123 18,
mm_ 124 19,
oo_ 125 (.bin .lss (.t 123) (.t 124))] false)
 (.cond (.t 125)
 (.seq
 (.region [
mm_ 126 18,
mm_ 127 20,
oo_ 128 (.bin .geq (.t 126) (.t 127)),
mm_ 10 128] false)
 (.seq
 (.region [
mm_ 129 0,
mm_ 130 1,
mm_ 131 16,
mm_ 132 3,
mm_ 133 4,
oo_ 134 (.call false (.c (.fn K.pdq [] [])) [.t 129,.t 130,.t 131,.t 132,.t 133])] false)
 (.region [
mm_ 135 16,
oo_ 136 (.bin .add (.t 135) (.c (.int .i64 1))),
mm_ 1 136] false)))
 (.seq
 (.region [
mm_ 137 19,
mm_ 138 20,
oo_ 139 (.bin .geq (.t 137) (.t 138)),
mm_ 10 139] false)
 (.seq
 (.region [
mm_ 140 0,
mm_ 141 16,
oo_ 142 (.bin .add (.t 141) (.c (.int .i64 1))),
mm_ 143 2,
mm_ 144 3,
mm_ 145 4,
oo_ 146 (.call false (.c (.fn K.pdq [] [])) [.t 140,.t 142,.t 143,.t 144,.t 145])] false)
 (.region [
mm_ 147 16,
mm_ 2 147] false)))))))))))))))))))))),
 []⟩
def cLen (K : SK) : LFunc:=⟨8,1,
 (.seq
 (.region [
oo_ 2 (.mv (.c (.int .i64 0)))] false)
 (.seq
 (.cond (.c (.bool false))
 (.seq
 (.region [
mm_ 3 0,
oo_ 4 (.conv .u32 (.t 3)),
oo_ 5 (.call false (.c (.fn K.len32 [] [])) [.t 4]),
mm_ 2 5] false)
 .ret)
 .skip)
 (.seq
 (.region [
mm_ 6 0,
oo_ 7 (.call false (.c (.fn K.len64 [] [])) [.t 6]),
mm_ 2 7] false)
 .ret))),
 [.t 2]⟩
def cIns (K : SK) : LFunc:=⟨53,4,
 (.seq
 (.region [
mm_ 10 1,
oo_ 11 (.bin .add (.t 10) (.c (.int .i64 1))),
mm_ 8 11] false)
 (.block 0
 (.loop
 (.seq
 (.seq
 (.region [
mm_ 12 8,
mm_ 13 2,
oo_ 14 (.bin .lss (.t 12) (.t 13))] false)
 (.cond (.t 14)
 .skip
 (.exit 0)))
 (.seq
 (.block 1
 (.seq
 (.region [
mm_ 17 8,
mm_ 9 17] false)
 (.block 2
 (.loop
 (.seq
 (.seq
 (.region [
mm_ 18 9,
mm_ 19 1,
oo_ 20 (.bin .gtr (.t 18) (.t 19)),
mm_ 21 20,
gg_ 22 (.mv (.t 3)) 21 true,
gg_ 23 (.mv (.t 0)) 21 true,
gg_ 24 (.mv (.t 9)) 21 true,
gg_ 25 (.idxa K.sz (.t 23) (.t 24)) 21 true,
gg_ 26 (.load K.ag K.sz (.t 25)) 21 true,
gg_ 27 (.mv (.t 0)) 21 true,
gg_ 28 (.mv (.t 9)) 21 true,
gg_ 29 (.bin .sub (.t 28) (.c (.int .i64 1))) 21 true,
gg_ 30 (.idxa K.sz (.t 27) (.t 29)) 21 true,
gg_ 31 (.load K.ag K.sz (.t 30)) 21 true,
gg_ 32 (.call false (.t 22) [.t 26,.t 31]) 21 true,
gg_ 33 (.bin .lss (.t 32) (.c (.int .i64 0))) 21 true,
oo_ 34 (.pick (.t 21) (.t 33) (.c (.bool false)))] true)
 (.cond (.t 34)
 .skip
 (.exit 2)))
 (.seq
 (.block 3
 (.region [
mm_ 37 0,
mm_ 38 9,
mm_ 39 0,
mm_ 40 9,
oo_ 41 (.bin .sub (.t 40) (.c (.int .i64 1))),
mm_ 42 0,
mm_ 43 9,
oo_ 44 (.bin .sub (.t 43) (.c (.int .i64 1))),
oo_ 45 (.idxa K.sz (.t 42) (.t 44)),
oo_ 46 (.load K.ag K.sz (.t 45)),
mm_ 47 0,
mm_ 48 9,
oo_ 49 (.idxa K.sz (.t 47) (.t 48)),
oo_ 50 (.load K.ag K.sz (.t 49)),
oo_ 51 (.idxa K.sz (.t 37) (.t 38)),
 ⟨none,.store K.sz (.t 51) (.t 46),none⟩,
oo_ 52 (.idxa K.sz (.t 39) (.t 41)),
 ⟨none,.store K.sz (.t 52) (.t 50),none⟩] true))
 (.region [
mm_ 35 9,
oo_ 36 (.bin .sub (.t 35) (.c (.int .i64 1))),
mm_ 9 36] false)))))))
 (.region [
mm_ 15 8,
oo_ 16 (.bin .add (.t 15) (.c (.int .i64 1))),
mm_ 8 16] false)))))),
 []⟩
def cHeap (K : SK) : LFunc:=⟨60,4,
 (.seq
 (.region [
mm_ 13 1,
mm_ 8 13] false)
 (.seq
 (.region [
oo_ 9 (.mv (.c (.int .i64 0)))] false)
 (.seq
 (.region [
mm_ 14 2,
mm_ 15 1,
oo_ 16 (.bin .sub (.t 14) (.t 15)),
mm_ 10 16] false)
 (.seq
 (.seq
 (.region [
mm_ 17 10,
oo_ 18 (.bin .sub (.t 17) (.c (.int .i64 1))),
oo_ 19 (.bin .quo (.t 18) (.c (.int .i64 2))),
mm_ 11 19] false)
 (.block 0
 (.loop
 (.seq
 (.seq
 (.region [
mm_ 20 11,
oo_ 21 (.bin .geq (.t 20) (.c (.int .i64 0)))] false)
 (.cond (.t 21)
 .skip
 (.exit 0)))
 (.seq
 (.block 1
 (.region [
mm_ 24 0,
mm_ 25 11,
mm_ 26 10,
mm_ 27 8,
mm_ 28 3,
oo_ 29 (.call false (.c (.fn K.sift [] [])) [.t 24,.t 25,.t 26,.t 27,.t 28])] false))
 (.region [
mm_ 22 11,
oo_ 23 (.bin .sub (.t 22) (.c (.int .i64 1))),
mm_ 11 23] false))))))
 (.seq
 (.region [
mm_ 30 10,
oo_ 31 (.bin .sub (.t 30) (.c (.int .i64 1))),
mm_ 12 31] false)
 (.block 2
 (.loop
 (.seq
 (.seq
 (.region [
mm_ 32 12,
oo_ 33 (.bin .geq (.t 32) (.c (.int .i64 0)))] false)
 (.cond (.t 33)
 .skip
 (.exit 2)))
 (.seq
 (.block 3
 (.seq
 (.region [
mm_ 36 0,
mm_ 37 8,
mm_ 38 0,
mm_ 39 8,
mm_ 40 12,
oo_ 41 (.bin .add (.t 39) (.t 40)),
mm_ 42 0,
mm_ 43 8,
mm_ 44 12,
oo_ 45 (.bin .add (.t 43) (.t 44)),
oo_ 46 (.idxa K.sz (.t 42) (.t 45)),
oo_ 47 (.load K.ag K.sz (.t 46)),
mm_ 48 0,
mm_ 49 8,
oo_ 50 (.idxa K.sz (.t 48) (.t 49)),
oo_ 51 (.load K.ag K.sz (.t 50)),
oo_ 52 (.idxa K.sz (.t 36) (.t 37)),
 ⟨none,.store K.sz (.t 52) (.t 47),none⟩,
oo_ 53 (.idxa K.sz (.t 38) (.t 41)),
 ⟨none,.store K.sz (.t 53) (.t 51),none⟩] true)
 (.region [
mm_ 54 0,
mm_ 55 9,
mm_ 56 12,
mm_ 57 8,
mm_ 58 3,
oo_ 59 (.call false (.c (.fn K.sift [] [])) [.t 54,.t 55,.t 56,.t 57,.t 58])] false)))
 (.region [
mm_ 34 12,
oo_ 35 (.bin .sub (.t 34) (.c (.int .i64 1))),
mm_ 12 35] false)))))))))),
 []⟩
def cBrk (K : SK) : LFunc:=⟨67,4,
 (.seq
 (.region [
mm_ 13 2,
mm_ 14 1,
oo_ 15 (.bin .sub (.t 13) (.t 14)),
mm_ 8 15] false)
 (.seq
 (.region [
mm_ 16 8,
oo_ 17 (.bin .geq (.t 16) (.c (.int .i64 8)))] false)
 (.cond (.t 17)
 (.seq
 (.region [
mm_ 18 8,
oo_ 19 (.conv .u64 (.t 18)),
oo_ 9 (.newv [.int .u64 0]),
 ⟨none,.store 1 (.t 9) (.t 19),none⟩] false)
 (.seq
 (.region [
mm_ 20 8,
oo_ 21 (.call false (.c (.fn K.npo [] [])) [.t 20]),
mm_ 10 21] false)
 (.seq
 (.region [
mm_ 22 1,
mm_ 23 8,
oo_ 24 (.bin .quo (.t 23) (.c (.int .i64 4))),
oo_ 25 (.bin .mul (.t 24) (.c (.int .i64 2))),
oo_ 26 (.bin .add (.t 22) (.t 25)),
oo_ 27 (.bin .sub (.t 26) (.c (.int .i64 1))),
mm_ 11 27] false)
 (.block 0
 (.loop
 (.seq
 (.seq
 (.region [
mm_ 28 11,
mm_ 29 1,
mm_ 30 8,
oo_ 31 (.bin .quo (.t 30) (.c (.int .i64 4))),
oo_ 32 (.bin .mul (.t 31) (.c (.int .i64 2))),
oo_ 33 (.bin .add (.t 29) (.t 32)),
oo_ 34 (.bin .add (.t 33) (.c (.int .i64 1))),
oo_ 35 (.bin .leq (.t 28) (.t 34))] false)
 (.cond (.t 35)
 .skip
 (.exit 0)))
 (.seq
 (.block 1
 (.seq
 (.region [
oo_ 38 (.call false (.c (.fn K.nxt [] [])) [.t 9]),
mm_ 39 10,
oo_ 40 (.bin .sub (.t 39) (.c (.int .u64 1))),
oo_ 41 (.bin .and (.t 38) (.t 40)),
oo_ 42 (.conv .i64 (.t 41)),
mm_ 12 42] false)
 (.seq
 (.seq
 (.region [
mm_ 43 12,
mm_ 44 8,
oo_ 45 (.bin .geq (.t 43) (.t 44))] false)
 (.cond (.t 45)
 (.region [
mm_ 46 12,
mm_ 47 8,
oo_ 48 (.bin .sub (.t 46) (.t 47)),
mm_ 12 48] false)
 .skip))
 (.region [
mm_ 49 0,
mm_ 50 11,
mm_ 51 0,
mm_ 52 1,
mm_ 53 12,
oo_ 54 (.bin .add (.t 52) (.t 53)),
mm_ 55 0,
mm_ 56 1,
mm_ 57 12,
oo_ 58 (.bin .add (.t 56) (.t 57)),
oo_ 59 (.idxa K.sz (.t 55) (.t 58)),
oo_ 60 (.load K.ag K.sz (.t 59)),
mm_ 61 0,
mm_ 62 11,
oo_ 63 (.idxa K.sz (.t 61) (.t 62)),
oo_ 64 (.load K.ag K.sz (.t 63)),
oo_ 65 (.idxa K.sz (.t 49) (.t 50)),
 ⟨none,.store K.sz (.t 65) (.t 60),none⟩,
oo_ 66 (.idxa K.sz (.t 51) (.t 54)),
 ⟨none,.store K.sz (.t 66) (.t 64),none⟩] true))))
 (.region [
mm_ 36 11,
oo_ 37 (.bin .add (.t 36) (.c (.int .i64 1))),
mm_ 11 37] false))))))))
 .skip))),
 []⟩
def cPiv (K : SK) : LFunc:=⟨63,4,
 (.seq
 (.region [
oo_ 8 (.mv (.c (.int .i64 0))),
oo_ 9 (.mv (.c (.int .i64 0)))] false)
 (.seq
 (.region [
mm_ 15 2,
mm_ 16 1,
oo_ 17 (.bin .sub (.t 15) (.t 16)),
mm_ 10 17] false)
 (.seq
 (.region [
oo_ 11 (.newv [.int .i64 0])] false)
 (.seq
 (.region [
mm_ 18 1,
mm_ 19 10,
oo_ 20 (.bin .quo (.t 19) (.c (.int .i64 4))),
oo_ 21 (.bin .mul (.t 20) (.c (.int .i64 1))),
oo_ 22 (.bin .add (.t 18) (.t 21)),
mm_ 12 22] false)
 (.seq
 (.region [
mm_ 23 1,
mm_ 24 10,
oo_ 25 (.bin .quo (.t 24) (.c (.int .i64 4))),
oo_ 26 (.bin .mul (.t 25) (.c (.int .i64 2))),
oo_ 27 (.bin .add (.t 23) (.t 26)),
mm_ 13 27] false)
 (.seq
 (.region [
mm_ 28 1,
mm_ 29 10,
oo_ 30 (.bin .quo (.t 29) (.c (.int .i64 4))),
oo_ 31 (.bin .mul (.t 30) (.c (.int .i64 3))),
oo_ 32 (.bin .add (.t 28) (.t 31)),
mm_ 14 32] false)
 (.seq
 (.seq
 (.region [
mm_ 33 10,
oo_ 34 (.bin .geq (.t 33) (.c (.int .i64 8)))] false)
 (.cond (.t 34)
 (.seq
 (.seq
 (.region [
mm_ 35 10,
oo_ 36 (.bin .geq (.t 35) (.c (.int .i64 50)))] false)
 (.cond (.t 36)
 (.seq
 (.region [
mm_ 37 0,
mm_ 38 12,
mm_ 39 3,
oo_ 40 (.call false (.c (.fn K.madj [] [])) [.t 37,.t 38,.t 11,.t 39]),
mm_ 12 40] false)
 (.seq
 (.region [
mm_ 41 0,
mm_ 42 13,
mm_ 43 3,
oo_ 44 (.call false (.c (.fn K.madj [] [])) [.t 41,.t 42,.t 11,.t 43]),
mm_ 13 44] false)
 (.region [
mm_ 45 0,
mm_ 46 14,
mm_ 47 3,
oo_ 48 (.call false (.c (.fn K.madj [] [])) [.t 45,.t 46,.t 11,.t 47]),
mm_ 14 48] false)))
 .skip))
 (.region [
mm_ 49 0,
mm_ 50 12,
mm_ 51 13,
mm_ 52 14,
mm_ 53 3,
oo_ 54 (.call false (.c (.fn K.med [] [])) [.t 49,.t 50,.t 51,.t 52,.t 11,.t 53]),
mm_ 13 54] false))
 .skip))
 (.seq
 (.region [
oo_ 55 (.load false 1 (.t 11))] false)
 (.block 0
 (.seq
 (.region [
oo_ 58 (.bin .eql (.t 55) (.c (.int .i64 0))),
mm_ 57 58] false)
 (.cond (.t 57)
 (.seq
 (.region [
mm_ 59 13,
mm_ 8 59,
oo_ 9 (.mv (.c (.int .i64 1)))] false)
 .ret)
 (.seq
 (.region [
oo_ 61 (.bin .eql (.t 55) (.c (.int .i64 12))),
mm_ 60 61] false)
 (.cond (.t 60)
 (.seq
 (.region [
mm_ 62 13,
mm_ 8 62,
oo_ 9 (.mv (.c (.int .i64 2)))] false)
 .ret)
 (.seq
 (.region [
mm_ 56 13,
mm_ 8 56,
oo_ 9 (.mv (.c (.int .i64 0)))] false)
 .ret)))))))))))))),
 [.t 8,.t 9]⟩
def cRev (K : SK) : LFunc:=⟨34,4,
 (.seq
 (.region [
mm_ 10 1,
mm_ 8 10] false)
 (.seq
 (.region [
mm_ 11 2,
oo_ 12 (.bin .sub (.t 11) (.c (.int .i64 1))),
mm_ 9 12] false)
 (.block 0
 (.loop
 (.seq
 (.seq
 (.region [
mm_ 13 8,
mm_ 14 9,
oo_ 15 (.bin .lss (.t 13) (.t 14))] false)
 (.cond (.t 15)
 .skip
 (.exit 0)))
 (.block 1
 (.seq
 (.region [
mm_ 16 0,
mm_ 17 8,
mm_ 18 0,
mm_ 19 9,
mm_ 20 0,
mm_ 21 9,
oo_ 22 (.idxa K.sz (.t 20) (.t 21)),
oo_ 23 (.load K.ag K.sz (.t 22)),
mm_ 24 0,
mm_ 25 8,
oo_ 26 (.idxa K.sz (.t 24) (.t 25)),
oo_ 27 (.load K.ag K.sz (.t 26)),
oo_ 28 (.idxa K.sz (.t 16) (.t 17)),
 ⟨none,.store K.sz (.t 28) (.t 23),none⟩,
oo_ 29 (.idxa K.sz (.t 18) (.t 19)),
 ⟨none,.store K.sz (.t 29) (.t 27),none⟩] true)
 (.seq
 (.region [
mm_ 30 8,
oo_ 31 (.bin .add (.t 30) (.c (.int .i64 1))),
mm_ 8 31] false)
 (.region [
mm_ 32 9,
oo_ 33 (.bin .sub (.t 32) (.c (.int .i64 1))),
mm_ 9 33] false))))))))),
 []⟩
def cPar (K : SK) : LFunc:=⟨141,4,
 (.seq
 (.region [
oo_ 8 (.mv (.c (.bool false)))] false)
 (.seq
 (.region [
mm_ 13 1,
oo_ 14 (.bin .add (.t 13) (.c (.int .i64 1))),
mm_ 9 14] false)
 (.seq
 (.seq
 (.region [
oo_ 10 (.mv (.c (.int .i64 0)))] false)
 (.block 0
 (.loop
 (.seq
 (.seq
 (.region [
mm_ 15 10,
oo_ 16 (.bin .lss (.t 15) (.c (.int .i64 5)))] false)
 (.cond (.t 16)
 .skip
 (.exit 0)))
 (.seq
 (.block 1
 (.seq
 (.block 2
 (.loop
 (.seq
 (.seq
 (.region [
mm_ 19 9,
mm_ 20 2,
oo_ 21 (.bin .lss (.t 19) (.t 20)),
mm_ 22 21,
gg_ 23 (.mv (.t 3)) 22 true,
gg_ 24 (.mv (.t 0)) 22 true,
gg_ 25 (.mv (.t 9)) 22 true,
gg_ 26 (.idxa K.sz (.t 24) (.t 25)) 22 true,
gg_ 27 (.load K.ag K.sz (.t 26)) 22 true,
gg_ 28 (.mv (.t 0)) 22 true,
gg_ 29 (.mv (.t 9)) 22 true,
gg_ 30 (.bin .sub (.t 29) (.c (.int .i64 1))) 22 true,
gg_ 31 (.idxa K.sz (.t 28) (.t 30)) 22 true,
gg_ 32 (.load K.ag K.sz (.t 31)) 22 true,
gg_ 33 (.call false (.t 23) [.t 27,.t 32]) 22 true,
gg_ 34 (.bin .lss (.t 33) (.c (.int .i64 0))) 22 true,
gg_ 35 (.not (.t 34)) 22 true,
oo_ 36 (.pick (.t 22) (.t 35) (.c (.bool false)))] true)
 (.cond (.t 36)
 .skip
 (.exit 2)))
 (.block 3
 (.region [
mm_ 37 9,
oo_ 38 (.bin .add (.t 37) (.c (.int .i64 1))),
mm_ 9 38] false)))))
 (.seq
 (.seq
 (.region [
mm_ 39 9,
mm_ 40 2,
oo_ 41 (.bin .eql (.t 39) (.t 40))] false)
 (.cond (.t 41)
 (.seq
 (.region [
oo_ 8 (.mv (.c (.bool true)))] false)
 .ret)
 .skip))
 (.seq
 (.seq
 (.region [
mm_ 42 2,
mm_ 43 1,
oo_ 44 (.bin .sub (.t 42) (.t 43)),
oo_ 45 (.bin .lss (.t 44) (.c (.int .i64 50)))] false)
 (.cond (.t 45)
 (.seq
 (.region [
oo_ 8 (.mv (.c (.bool false)))] false)
 .ret)
 .skip))
 (.seq
 (.region [
mm_ 46 0,
mm_ 47 9,
mm_ 48 0,
mm_ 49 9,
oo_ 50 (.bin .sub (.t 49) (.c (.int .i64 1))),
mm_ 51 0,
mm_ 52 9,
oo_ 53 (.bin .sub (.t 52) (.c (.int .i64 1))),
oo_ 54 (.idxa K.sz (.t 51) (.t 53)),
oo_ 55 (.load K.ag K.sz (.t 54)),
mm_ 56 0,
mm_ 57 9,
oo_ 58 (.idxa K.sz (.t 56) (.t 57)),
oo_ 59 (.load K.ag K.sz (.t 58)),
oo_ 60 (.idxa K.sz (.t 46) (.t 47)),
 ⟨none,.store K.sz (.t 60) (.t 55),none⟩,
oo_ 61 (.idxa K.sz (.t 48) (.t 50)),
 ⟨none,.store K.sz (.t 61) (.t 59),none⟩] true)
 (.seq
 (.seq
 (.region [
mm_ 62 9,
mm_ 63 1,
oo_ 64 (.bin .sub (.t 62) (.t 63)),
oo_ 65 (.bin .geq (.t 64) (.c (.int .i64 2)))] false)
 (.cond (.t 65)
 (.seq
 (.region [
mm_ 66 9,
oo_ 67 (.bin .sub (.t 66) (.c (.int .i64 1))),
mm_ 11 67] false)
 (.block 4
 (.loop
 (.seq
 (.seq
 (.region [
mm_ 68 11,
oo_ 69 (.bin .geq (.t 68) (.c (.int .i64 1)))] false)
 (.cond (.t 69)
 .skip
 (.exit 4)))
 (.seq
 (.block 5
 (.seq
 (.seq
 (.region [
mm_ 72 3,
mm_ 73 0,
mm_ 74 11,
oo_ 75 (.idxa K.sz (.t 73) (.t 74)),
oo_ 76 (.load K.ag K.sz (.t 75)),
mm_ 77 0,
mm_ 78 11,
oo_ 79 (.bin .sub (.t 78) (.c (.int .i64 1))),
oo_ 80 (.idxa K.sz (.t 77) (.t 79)),
oo_ 81 (.load K.ag K.sz (.t 80)),
oo_ 82 (.call false (.t 72) [.t 76,.t 81]),
oo_ 83 (.bin .lss (.t 82) (.c (.int .i64 0))),
oo_ 84 (.not (.t 83))] true)
 (.cond (.t 84)
 (.exit 4)
 .skip))
 (.region [
mm_ 85 0,
mm_ 86 11,
mm_ 87 0,
mm_ 88 11,
oo_ 89 (.bin .sub (.t 88) (.c (.int .i64 1))),
mm_ 90 0,
mm_ 91 11,
oo_ 92 (.bin .sub (.t 91) (.c (.int .i64 1))),
oo_ 93 (.idxa K.sz (.t 90) (.t 92)),
oo_ 94 (.load K.ag K.sz (.t 93)),
mm_ 95 0,
mm_ 96 11,
oo_ 97 (.idxa K.sz (.t 95) (.t 96)),
oo_ 98 (.load K.ag K.sz (.t 97)),
oo_ 99 (.idxa K.sz (.t 85) (.t 86)),
 ⟨none,.store K.sz (.t 99) (.t 94),none⟩,
oo_ 100 (.idxa K.sz (.t 87) (.t 89)),
 ⟨none,.store K.sz (.t 100) (.t 98),none⟩] true)))
 (.region [
mm_ 70 11,
oo_ 71 (.bin .sub (.t 70) (.c (.int .i64 1))),
mm_ 11 71] false))))))
 .skip))
 (.seq
 (.region [
mm_ 101 2,
mm_ 102 9,
oo_ 103 (.bin .sub (.t 101) (.t 102)),
oo_ 104 (.bin .geq (.t 103) (.c (.int .i64 2)))] false)
 (.cond (.t 104)
 (.seq
 (.region [
mm_ 105 9,
oo_ 106 (.bin .add (.t 105) (.c (.int .i64 1))),
mm_ 12 106] false)
 (.block 6
 (.loop
 (.seq
 (.seq
 (.region [
mm_ 107 12,
mm_ 108 2,
oo_ 109 (.bin .lss (.t 107) (.t 108))] false)
 (.cond (.t 109)
 .skip
 (.exit 6)))
 (.seq
 (.block 7
 (.seq
 (.seq
 (.region [
mm_ 112 3,
mm_ 113 0,
mm_ 114 12,
oo_ 115 (.idxa K.sz (.t 113) (.t 114)),
oo_ 116 (.load K.ag K.sz (.t 115)),
mm_ 117 0,
mm_ 118 12,
oo_ 119 (.bin .sub (.t 118) (.c (.int .i64 1))),
oo_ 120 (.idxa K.sz (.t 117) (.t 119)),
oo_ 121 (.load K.ag K.sz (.t 120)),
oo_ 122 (.call false (.t 112) [.t 116,.t 121]),
oo_ 123 (.bin .lss (.t 122) (.c (.int .i64 0))),
oo_ 124 (.not (.t 123))] true)
 (.cond (.t 124)
 (.exit 6)
 .skip))
 (.region [
mm_ 125 0,
mm_ 126 12,
mm_ 127 0,
mm_ 128 12,
oo_ 129 (.bin .sub (.t 128) (.c (.int .i64 1))),
mm_ 130 0,
mm_ 131 12,
oo_ 132 (.bin .sub (.t 131) (.c (.int .i64 1))),
oo_ 133 (.idxa K.sz (.t 130) (.t 132)),
oo_ 134 (.load K.ag K.sz (.t 133)),
mm_ 135 0,
mm_ 136 12,
oo_ 137 (.idxa K.sz (.t 135) (.t 136)),
oo_ 138 (.load K.ag K.sz (.t 137)),
oo_ 139 (.idxa K.sz (.t 125) (.t 126)),
 ⟨none,.store K.sz (.t 139) (.t 134),none⟩,
oo_ 140 (.idxa K.sz (.t 127) (.t 129)),
 ⟨none,.store K.sz (.t 140) (.t 138),none⟩] true)))
 (.region [
mm_ 110 12,
oo_ 111 (.bin .add (.t 110) (.c (.int .i64 1))),
mm_ 12 111] false))))))
 .skip))))))))
 (.region [
mm_ 17 10,
oo_ 18 (.bin .add (.t 17) (.c (.int .i64 1))),
mm_ 10 18] false))))))
 (.seq
 (.region [
oo_ 8 (.mv (.c (.bool false)))] false)
 .ret)))),
 [.t 8]⟩
def cPeq (K : SK) : LFunc:=⟨90,5,
 (.seq
 (.region [
oo_ 10 (.mv (.c (.int .i64 0)))] false)
 (.seq
 (.region [
mm_ 13 0,
mm_ 14 1,
mm_ 15 0,
mm_ 16 3,
mm_ 17 0,
mm_ 18 3,
oo_ 19 (.idxa K.sz (.t 17) (.t 18)),
oo_ 20 (.load K.ag K.sz (.t 19)),
mm_ 21 0,
mm_ 22 1,
oo_ 23 (.idxa K.sz (.t 21) (.t 22)),
oo_ 24 (.load K.ag K.sz (.t 23)),
oo_ 25 (.idxa K.sz (.t 13) (.t 14)),
 ⟨none,.store K.sz (.t 25) (.t 20),none⟩,
oo_ 26 (.idxa K.sz (.t 15) (.t 16)),
 ⟨none,.store K.sz (.t 26) (.t 24),none⟩] true)
 (.seq
 (.region [
mm_ 27 1,
oo_ 28 (.bin .add (.t 27) (.c (.int .i64 1))),
mm_ 29 2,
oo_ 30 (.bin .sub (.t 29) (.c (.int .i64 1))),
mm_ 11 28,
mm_ 12 30] false)
 (.seq
 (.block 0
 (.loop
 (.block 1
 (.seq
 (.block 2
 (.loop
 (.seq
 (.seq
 (.region [
mm_ 31 11,
mm_ 32 12,
oo_ 33 (.bin .leq (.t 31) (.t 32)),
mm_ 34 33,
gg_ 35 (.mv (.t 4)) 34 true,
gg_ 36 (.mv (.t 0)) 34 true,
gg_ 37 (.mv (.t 1)) 34 true,
gg_ 38 (.idxa K.sz (.t 36) (.t 37)) 34 true,
gg_ 39 (.load K.ag K.sz (.t 38)) 34 true,
gg_ 40 (.mv (.t 0)) 34 true,
gg_ 41 (.mv (.t 11)) 34 true,
gg_ 42 (.idxa K.sz (.t 40) (.t 41)) 34 true,
gg_ 43 (.load K.ag K.sz (.t 42)) 34 true,
gg_ 44 (.call false (.t 35) [.t 39,.t 43]) 34 true,
gg_ 45 (.bin .lss (.t 44) (.c (.int .i64 0))) 34 true,
gg_ 46 (.not (.t 45)) 34 true,
oo_ 47 (.pick (.t 34) (.t 46) (.c (.bool false)))] true)
 (.cond (.t 47)
 .skip
 (.exit 2)))
 (.block 3
 (.region [
mm_ 48 11,
oo_ 49 (.bin .add (.t 48) (.c (.int .i64 1))),
mm_ 11 49] false)))))
 (.seq
 (.block 4
 (.loop
 (.seq
 (.seq
 (.region [
mm_ 50 11,
mm_ 51 12,
oo_ 52 (.bin .leq (.t 50) (.t 51)),
mm_ 53 52,
gg_ 54 (.mv (.t 4)) 53 true,
gg_ 55 (.mv (.t 0)) 53 true,
gg_ 56 (.mv (.t 1)) 53 true,
gg_ 57 (.idxa K.sz (.t 55) (.t 56)) 53 true,
gg_ 58 (.load K.ag K.sz (.t 57)) 53 true,
gg_ 59 (.mv (.t 0)) 53 true,
gg_ 60 (.mv (.t 12)) 53 true,
gg_ 61 (.idxa K.sz (.t 59) (.t 60)) 53 true,
gg_ 62 (.load K.ag K.sz (.t 61)) 53 true,
gg_ 63 (.call false (.t 54) [.t 58,.t 62]) 53 true,
gg_ 64 (.bin .lss (.t 63) (.c (.int .i64 0))) 53 true,
oo_ 65 (.pick (.t 53) (.t 64) (.c (.bool false)))] true)
 (.cond (.t 65)
 .skip
 (.exit 4)))
 (.block 5
 (.region [
mm_ 66 12,
oo_ 67 (.bin .sub (.t 66) (.c (.int .i64 1))),
mm_ 12 67] false)))))
 (.seq
 (.seq
 (.region [
mm_ 68 11,
mm_ 69 12,
oo_ 70 (.bin .gtr (.t 68) (.t 69))] false)
 (.cond (.t 70)
 (.exit 0)
 .skip))
 (.seq
 (.region [
mm_ 71 0,
mm_ 72 11,
mm_ 73 0,
mm_ 74 12,
mm_ 75 0,
mm_ 76 12,
oo_ 77 (.idxa K.sz (.t 75) (.t 76)),
oo_ 78 (.load K.ag K.sz (.t 77)),
mm_ 79 0,
mm_ 80 11,
oo_ 81 (.idxa K.sz (.t 79) (.t 80)),
oo_ 82 (.load K.ag K.sz (.t 81)),
oo_ 83 (.idxa K.sz (.t 71) (.t 72)),
 ⟨none,.store K.sz (.t 83) (.t 78),none⟩,
oo_ 84 (.idxa K.sz (.t 73) (.t 74)),
 ⟨none,.store K.sz (.t 84) (.t 82),none⟩] true)
 (.seq
 (.region [
mm_ 85 11,
oo_ 86 (.bin .add (.t 85) (.c (.int .i64 1))),
mm_ 11 86] false)
 (.region [
mm_ 87 12,
oo_ 88 (.bin .sub (.t 87) (.c (.int .i64 1))),
mm_ 12 88] false)))))))))
 (.seq
 (.region [
mm_ 89 11,
mm_ 10 89] false)
 .ret))))),
 [.t 10]⟩
def cPrt (K : SK) : LFunc:=⟨178,5,
 (.seq
 (.region [
oo_ 10 (.mv (.c (.int .i64 0))),
oo_ 11 (.mv (.c (.bool false)))] false)
 (.seq
 (.region [
mm_ 14 0,
mm_ 15 1,
mm_ 16 0,
mm_ 17 3,
mm_ 18 0,
mm_ 19 3,
oo_ 20 (.idxa K.sz (.t 18) (.t 19)),
oo_ 21 (.load K.ag K.sz (.t 20)),
mm_ 22 0,
mm_ 23 1,
oo_ 24 (.idxa K.sz (.t 22) (.t 23)),
oo_ 25 (.load K.ag K.sz (.t 24)),
oo_ 26 (.idxa K.sz (.t 14) (.t 15)),
 ⟨none,.store K.sz (.t 26) (.t 21),none⟩,
oo_ 27 (.idxa K.sz (.t 16) (.t 17)),
 ⟨none,.store K.sz (.t 27) (.t 25),none⟩] true)
 (.seq
 (.region [
mm_ 28 1,
oo_ 29 (.bin .add (.t 28) (.c (.int .i64 1))),
mm_ 30 2,
oo_ 31 (.bin .sub (.t 30) (.c (.int .i64 1))),
mm_ 12 29,
mm_ 13 31] false)
 (.seq
 (.block 0
 (.loop
 (.seq
 (.seq
 (.region [
mm_ 32 12,
mm_ 33 13,
oo_ 34 (.bin .leq (.t 32) (.t 33)),
mm_ 35 34,
gg_ 36 (.mv (.t 4)) 35 true,
gg_ 37 (.mv (.t 0)) 35 true,
gg_ 38 (.mv (.t 12)) 35 true,
gg_ 39 (.idxa K.sz (.t 37) (.t 38)) 35 true,
gg_ 40 (.load K.ag K.sz (.t 39)) 35 true,
gg_ 41 (.mv (.t 0)) 35 true,
gg_ 42 (.mv (.t 1)) 35 true,
gg_ 43 (.idxa K.sz (.t 41) (.t 42)) 35 true,
gg_ 44 (.load K.ag K.sz (.t 43)) 35 true,
gg_ 45 (.call false (.t 36) [.t 40,.t 44]) 35 true,
gg_ 46 (.bin .lss (.t 45) (.c (.int .i64 0))) 35 true,
oo_ 47 (.pick (.t 35) (.t 46) (.c (.bool false)))] true)
 (.cond (.t 47)
 .skip
 (.exit 0)))
 (.block 1
 (.region [
mm_ 48 12,
oo_ 49 (.bin .add (.t 48) (.c (.int .i64 1))),
mm_ 12 49] false)))))
 (.seq
 (.block 2
 (.loop
 (.seq
 (.seq
 (.region [
mm_ 50 12,
mm_ 51 13,
oo_ 52 (.bin .leq (.t 50) (.t 51)),
mm_ 53 52,
gg_ 54 (.mv (.t 4)) 53 true,
gg_ 55 (.mv (.t 0)) 53 true,
gg_ 56 (.mv (.t 13)) 53 true,
gg_ 57 (.idxa K.sz (.t 55) (.t 56)) 53 true,
gg_ 58 (.load K.ag K.sz (.t 57)) 53 true,
gg_ 59 (.mv (.t 0)) 53 true,
gg_ 60 (.mv (.t 1)) 53 true,
gg_ 61 (.idxa K.sz (.t 59) (.t 60)) 53 true,
gg_ 62 (.load K.ag K.sz (.t 61)) 53 true,
gg_ 63 (.call false (.t 54) [.t 58,.t 62]) 53 true,
gg_ 64 (.bin .lss (.t 63) (.c (.int .i64 0))) 53 true,
gg_ 65 (.not (.t 64)) 53 true,
oo_ 66 (.pick (.t 53) (.t 65) (.c (.bool false)))] true)
 (.cond (.t 66)
 .skip
 (.exit 2)))
 (.block 3
 (.region [
mm_ 67 13,
oo_ 68 (.bin .sub (.t 67) (.c (.int .i64 1))),
mm_ 13 68] false)))))
 (.seq
 (.seq
 (.region [
mm_ 69 12,
mm_ 70 13,
oo_ 71 (.bin .gtr (.t 69) (.t 70))] false)
 (.cond (.t 71)
 (.seq
 (.region [
mm_ 72 0,
mm_ 73 13,
mm_ 74 0,
mm_ 75 1,
mm_ 76 0,
mm_ 77 1,
oo_ 78 (.idxa K.sz (.t 76) (.t 77)),
oo_ 79 (.load K.ag K.sz (.t 78)),
mm_ 80 0,
mm_ 81 13,
oo_ 82 (.idxa K.sz (.t 80) (.t 81)),
oo_ 83 (.load K.ag K.sz (.t 82)),
oo_ 84 (.idxa K.sz (.t 72) (.t 73)),
 ⟨none,.store K.sz (.t 84) (.t 79),none⟩,
oo_ 85 (.idxa K.sz (.t 74) (.t 75)),
 ⟨none,.store K.sz (.t 85) (.t 83),none⟩] true)
 (.seq
 (.region [
mm_ 86 13,
mm_ 10 86,
oo_ 11 (.mv (.c (.bool true)))] false)
 .ret))
 .skip))
 (.seq
 (.region [
mm_ 87 0,
mm_ 88 12,
mm_ 89 0,
mm_ 90 13,
mm_ 91 0,
mm_ 92 13,
oo_ 93 (.idxa K.sz (.t 91) (.t 92)),
oo_ 94 (.load K.ag K.sz (.t 93)),
mm_ 95 0,
mm_ 96 12,
oo_ 97 (.idxa K.sz (.t 95) (.t 96)),
oo_ 98 (.load K.ag K.sz (.t 97)),
oo_ 99 (.idxa K.sz (.t 87) (.t 88)),
 ⟨none,.store K.sz (.t 99) (.t 94),none⟩,
oo_ 100 (.idxa K.sz (.t 89) (.t 90)),
 ⟨none,.store K.sz (.t 100) (.t 98),none⟩] true)
 (.seq
 (.region [
mm_ 101 12,
oo_ 102 (.bin .add (.t 101) (.c (.int .i64 1))),
mm_ 12 102] false)
 (.seq
 (.region [
mm_ 103 13,
oo_ 104 (.bin .sub (.t 103) (.c (.int .i64 1))),
mm_ 13 104] false)
 (.seq
 (.block 4
 (.loop
 (.block 5
 (.seq
 (.block 6
 (.loop
 (.seq
 (.seq
 (.region [
mm_ 105 12,
mm_ 106 13,
oo_ 107 (.bin .leq (.t 105) (.t 106)),
mm_ 108 107,
gg_ 109 (.mv (.t 4)) 108 true,
gg_ 110 (.mv (.t 0)) 108 true,
gg_ 111 (.mv (.t 12)) 108 true,
gg_ 112 (.idxa K.sz (.t 110) (.t 111)) 108 true,
gg_ 113 (.load K.ag K.sz (.t 112)) 108 true,
gg_ 114 (.mv (.t 0)) 108 true,
gg_ 115 (.mv (.t 1)) 108 true,
gg_ 116 (.idxa K.sz (.t 114) (.t 115)) 108 true,
gg_ 117 (.load K.ag K.sz (.t 116)) 108 true,
gg_ 118 (.call false (.t 109) [.t 113,.t 117]) 108 true,
gg_ 119 (.bin .lss (.t 118) (.c (.int .i64 0))) 108 true,
oo_ 120 (.pick (.t 108) (.t 119) (.c (.bool false)))] true)
 (.cond (.t 120)
 .skip
 (.exit 6)))
 (.block 7
 (.region [
mm_ 121 12,
oo_ 122 (.bin .add (.t 121) (.c (.int .i64 1))),
mm_ 12 122] false)))))
 (.seq
 (.block 8
 (.loop
 (.seq
 (.seq
 (.region [
mm_ 123 12,
mm_ 124 13,
oo_ 125 (.bin .leq (.t 123) (.t 124)),
mm_ 126 125,
gg_ 127 (.mv (.t 4)) 126 true,
gg_ 128 (.mv (.t 0)) 126 true,
gg_ 129 (.mv (.t 13)) 126 true,
gg_ 130 (.idxa K.sz (.t 128) (.t 129)) 126 true,
gg_ 131 (.load K.ag K.sz (.t 130)) 126 true,
gg_ 132 (.mv (.t 0)) 126 true,
gg_ 133 (.mv (.t 1)) 126 true,
gg_ 134 (.idxa K.sz (.t 132) (.t 133)) 126 true,
gg_ 135 (.load K.ag K.sz (.t 134)) 126 true,
gg_ 136 (.call false (.t 127) [.t 131,.t 135]) 126 true,
gg_ 137 (.bin .lss (.t 136) (.c (.int .i64 0))) 126 true,
gg_ 138 (.not (.t 137)) 126 true,
oo_ 139 (.pick (.t 126) (.t 138) (.c (.bool false)))] true)
 (.cond (.t 139)
 .skip
 (.exit 8)))
 (.block 9
 (.region [
mm_ 140 13,
oo_ 141 (.bin .sub (.t 140) (.c (.int .i64 1))),
mm_ 13 141] false)))))
 (.seq
 (.seq
 (.region [
mm_ 142 12,
mm_ 143 13,
oo_ 144 (.bin .gtr (.t 142) (.t 143))] false)
 (.cond (.t 144)
 (.exit 4)
 .skip))
 (.seq
 (.region [
mm_ 145 0,
mm_ 146 12,
mm_ 147 0,
mm_ 148 13,
mm_ 149 0,
mm_ 150 13,
oo_ 151 (.idxa K.sz (.t 149) (.t 150)),
oo_ 152 (.load K.ag K.sz (.t 151)),
mm_ 153 0,
mm_ 154 12,
oo_ 155 (.idxa K.sz (.t 153) (.t 154)),
oo_ 156 (.load K.ag K.sz (.t 155)),
oo_ 157 (.idxa K.sz (.t 145) (.t 146)),
 ⟨none,.store K.sz (.t 157) (.t 152),none⟩,
oo_ 158 (.idxa K.sz (.t 147) (.t 148)),
 ⟨none,.store K.sz (.t 158) (.t 156),none⟩] true)
 (.seq
 (.region [
mm_ 159 12,
oo_ 160 (.bin .add (.t 159) (.c (.int .i64 1))),
mm_ 12 160] false)
 (.region [
mm_ 161 13,
oo_ 162 (.bin .sub (.t 161) (.c (.int .i64 1))),
mm_ 13 162] false)))))))))
 (.seq
 (.region [
mm_ 163 0,
mm_ 164 13,
mm_ 165 0,
mm_ 166 1,
mm_ 167 0,
mm_ 168 1,
oo_ 169 (.idxa K.sz (.t 167) (.t 168)),
oo_ 170 (.load K.ag K.sz (.t 169)),
mm_ 171 0,
mm_ 172 13,
oo_ 173 (.idxa K.sz (.t 171) (.t 172)),
oo_ 174 (.load K.ag K.sz (.t 173)),
oo_ 175 (.idxa K.sz (.t 163) (.t 164)),
 ⟨none,.store K.sz (.t 175) (.t 170),none⟩,
oo_ 176 (.idxa K.sz (.t 165) (.t 166)),
 ⟨none,.store K.sz (.t 176) (.t 174),none⟩] true)
 (.seq
 (.region [
mm_ 177 13,
mm_ 10 177,
oo_ 11 (.mv (.c (.bool false)))] false)
 .ret)))))))))))),
 [.t 10,.t 11]⟩
def cLen32 (K : SK) : LFunc:=⟨19,1,
 (.seq
 (.region [
oo_ 2 (.mv (.c (.int .i64 0)))] false)
 (.seq
 (.seq
 (.region [
mm_ 3 0,
oo_ 4 (.bin .geq (.t 3) (.c (.int .u32 65536)))] false)
 (.cond (.t 4)
 (.seq
 (.region [
mm_ 5 0,
oo_ 6 (.bin .shr (.t 5) (.c (.int .u64 16))),
mm_ 0 6] false)
 (.region [
oo_ 2 (.mv (.c (.int .i64 16)))] false))
 .skip))
 (.seq
 (.seq
 (.region [
mm_ 7 0,
oo_ 8 (.bin .geq (.t 7) (.c (.int .u32 256)))] false)
 (.cond (.t 8)
 (.seq
 (.region [
mm_ 9 0,
oo_ 10 (.bin .shr (.t 9) (.c (.int .u64 8))),
mm_ 0 10] false)
 (.region [
mm_ 11 2,
oo_ 12 (.bin .add (.t 11) (.c (.int .i64 8))),
mm_ 2 12] false))
 .skip))
 (.seq
 (.region [
mm_ 13 2,
mm_ 14 0,
oo_ 15 (.conv .u8 (.t 14)),
oo_ 16 (.idxs (.c (.str tab8S)) (.t 15)),
oo_ 17 (.conv .i64 (.t 16)),
oo_ 18 (.bin .add (.t 13) (.t 17)),
mm_ 2 18] false)
 .ret)))),
 [.t 2]⟩
def cLen64 (K : SK) : LFunc:=⟨25,1,
 (.seq
 (.region [
oo_ 2 (.mv (.c (.int .i64 0)))] false)
 (.seq
 (.seq
 (.region [
mm_ 3 0,
oo_ 4 (.bin .geq (.t 3) (.c (.int .u64 4294967296)))] false)
 (.cond (.t 4)
 (.seq
 (.region [
mm_ 5 0,
oo_ 6 (.bin .shr (.t 5) (.c (.int .u64 32))),
mm_ 0 6] false)
 (.region [
oo_ 2 (.mv (.c (.int .i64 32)))] false))
 .skip))
 (.seq
 (.seq
 (.region [
mm_ 7 0,
oo_ 8 (.bin .geq (.t 7) (.c (.int .u64 65536)))] false)
 (.cond (.t 8)
 (.seq
 (.region [
mm_ 9 0,
oo_ 10 (.bin .shr (.t 9) (.c (.int .u64 16))),
mm_ 0 10] false)
 (.region [
mm_ 11 2,
oo_ 12 (.bin .add (.t 11) (.c (.int .i64 16))),
mm_ 2 12] false))
 .skip))
 (.seq
 (.seq
 (.region [
mm_ 13 0,
oo_ 14 (.bin .geq (.t 13) (.c (.int .u64 256)))] false)
 (.cond (.t 14)
 (.seq
 (.region [
mm_ 15 0,
oo_ 16 (.bin .shr (.t 15) (.c (.int .u64 8))),
mm_ 0 16] false)
 (.region [
mm_ 17 2,
oo_ 18 (.bin .add (.t 17) (.c (.int .i64 8))),
mm_ 2 18] false))
 .skip))
 (.seq
 (.region [
mm_ 19 2,
mm_ 20 0,
oo_ 21 (.conv .u8 (.t 20)),
oo_ 22 (.idxs (.c (.str tab8S)) (.t 21)),
oo_ 23 (.conv .i64 (.t 22)),
oo_ 24 (.bin .add (.t 19) (.t 23)),
mm_ 2 24] false)
 .ret))))),
 [.t 2]⟩
def cSift (K : SK) : LFunc:=⟨82,5,
 (.seq
 (.region [
mm_ 12 1,
mm_ 10 12] false)
 (.block 0
 (.loop
 (.block 1
 (.seq
 (.region [
mm_ 13 10,
oo_ 14 (.bin .mul (.c (.int .i64 2)) (.t 13)),
oo_ 15 (.bin .add (.t 14) (.c (.int .i64 1))),
mm_ 11 15] false)
 (.seq
 (.seq
 (.region [
mm_ 16 11,
mm_ 17 2,
oo_ 18 (.bin .geq (.t 16) (.t 17))] false)
 (.cond (.t 18)
 (.exit 0)
 .skip))
 (.seq
 (.seq
 (.region [
mm_ 19 11,
oo_ 20 (.bin .add (.t 19) (.c (.int .i64 1))),
mm_ 21 2,
oo_ 22 (.bin .lss (.t 20) (.t 21)),
mm_ 23 22,
gg_ 24 (.mv (.t 4)) 23 true,
gg_ 25 (.mv (.t 0)) 23 true,
gg_ 26 (.mv (.t 3)) 23 true,
gg_ 27 (.mv (.t 11)) 23 true,
gg_ 28 (.bin .add (.t 26) (.t 27)) 23 true,
gg_ 29 (.idxa K.sz (.t 25) (.t 28)) 23 true,
gg_ 30 (.load K.ag K.sz (.t 29)) 23 true,
gg_ 31 (.mv (.t 0)) 23 true,
gg_ 32 (.mv (.t 3)) 23 true,
gg_ 33 (.mv (.t 11)) 23 true,
gg_ 34 (.bin .add (.t 32) (.t 33)) 23 true,
gg_ 35 (.bin .add (.t 34) (.c (.int .i64 1))) 23 true,
gg_ 36 (.idxa K.sz (.t 31) (.t 35)) 23 true,
gg_ 37 (.load K.ag K.sz (.t 36)) 23 true,
gg_ 38 (.call false (.t 24) [.t 30,.t 37]) 23 true,
gg_ 39 (.bin .lss (.t 38) (.c (.int .i64 0))) 23 true,
oo_ 40 (.pick (.t 23) (.t 39) (.c (.bool false)))] true)
 (.cond (.t 40)
 (.region [
mm_ 41 11,
oo_ 42 (.bin .add (.t 41) (.c (.int .i64 1))),
mm_ 11 42] false)
 .skip))
 (.seq
 (.seq
 (.region [
mm_ 43 4,
mm_ 44 0,
mm_ 45 3,
mm_ 46 10,
oo_ 47 (.bin .add (.t 45) (.t 46)),
oo_ 48 (.idxa K.sz (.t 44) (.t 47)),
oo_ 49 (.load K.ag K.sz (.t 48)),
mm_ 50 0,
mm_ 51 3,
mm_ 52 11,
oo_ 53 (.bin .add (.t 51) (.t 52)),
oo_ 54 (.idxa K.sz (.t 50) (.t 53)),
oo_ 55 (.load K.ag K.sz (.t 54)),
oo_ 56 (.call false (.t 43) [.t 49,.t 55]),
oo_ 57 (.bin .lss (.t 56) (.c (.int .i64 0))),
oo_ 58 (.not (.t 57))] true)
 (.cond (.t 58)
 .ret
 .skip))
 (.seq
 (.region [
mm_ 59 0,
mm_ 60 3,
mm_ 61 10,
oo_ 62 (.bin .add (.t 60) (.t 61)),
mm_ 63 0,
mm_ 64 3,
mm_ 65 11,
oo_ 66 (.bin .add (.t 64) (.t 65)),
mm_ 67 0,
mm_ 68 3,
mm_ 69 11,
oo_ 70 (.bin .add (.t 68) (.t 69)),
oo_ 71 (.idxa K.sz (.t 67) (.t 70)),
oo_ 72 (.load K.ag K.sz (.t 71)),
mm_ 73 0,
mm_ 74 3,
mm_ 75 10,
oo_ 76 (.bin .add (.t 74) (.t 75)),
oo_ 77 (.idxa K.sz (.t 73) (.t 76)),
oo_ 78 (.load K.ag K.sz (.t 77)),
oo_ 79 (.idxa K.sz (.t 59) (.t 62)),
 ⟨none,.store K.sz (.t 79) (.t 72),none⟩,
oo_ 80 (.idxa K.sz (.t 63) (.t 66)),
 ⟨none,.store K.sz (.t 80) (.t 78),none⟩] true)
 (.region [
mm_ 81 11,
mm_ 10 81] false)))))))))),
 []⟩
def cNpo (K : SK) : LFunc:=⟨7,1,
 (.seq
 (.region [
oo_ 2 (.mv (.c (.int .u64 0)))] false)
 (.seq
 (.region [
mm_ 3 0,
oo_ 4 (.conv .u64 (.t 3)),
oo_ 5 (.call false (.c (.fn K.len [] [])) [.t 4]),
oo_ 6 (.bin .shl (.c (.int .u64 1)) (.t 5)),
mm_ 2 6] false)
 .ret)),
 [.t 2]⟩
def cNxt (K : SK) : LFunc:=⟨33,1,
 (.seq
 (.region [
oo_ 2 (.mv (.c (.int .u64 0)))] false)
 (.seq
 (.region [
mm_ 3 0,
oo_ 4 (.nilck (.t 3)),
oo_ 5 (.load false 1 (.t 4)),
mm_ 6 0,
oo_ 7 (.nilck (.t 6)),
oo_ 8 (.load false 1 (.t 7)),
oo_ 9 (.bin .shl (.t 8) (.c (.int .u64 13))),
oo_ 10 (.bin .xor (.t 5) (.t 9)),
oo_ 11 (.nilck (.t 3)),
 ⟨none,.store 1 (.t 11) (.t 10),none⟩] true)
 (.seq
 (.region [
mm_ 12 0,
oo_ 13 (.nilck (.t 12)),
oo_ 14 (.load false 1 (.t 13)),
mm_ 15 0,
oo_ 16 (.nilck (.t 15)),
oo_ 17 (.load false 1 (.t 16)),
oo_ 18 (.bin .shr (.t 17) (.c (.int .u64 7))),
oo_ 19 (.bin .xor (.t 14) (.t 18)),
oo_ 20 (.nilck (.t 12)),
 ⟨none,.store 1 (.t 20) (.t 19),none⟩] true)
 (.seq
 (.region [
mm_ 21 0,
oo_ 22 (.nilck (.t 21)),
oo_ 23 (.load false 1 (.t 22)),
mm_ 24 0,
oo_ 25 (.nilck (.t 24)),
oo_ 26 (.load false 1 (.t 25)),
oo_ 27 (.bin .shl (.t 26) (.c (.int .u64 17))),
oo_ 28 (.bin .xor (.t 23) (.t 27)),
oo_ 29 (.nilck (.t 21)),
 ⟨none,.store 1 (.t 29) (.t 28),none⟩] true)
 (.seq
 (.region [
mm_ 30 0,
oo_ 31 (.nilck (.t 30)),
oo_ 32 (.load false 1 (.t 31)),
mm_ 2 32] false)
 .ret))))),
 [.t 2]⟩
def cMadj (K : SK) : LFunc:=⟨18,4,
 (.seq
 (.region [
oo_ 8 (.mv (.c (.int .i64 0)))] false)
 (.seq
 (.region [
mm_ 9 0,
mm_ 10 1,
oo_ 11 (.bin .sub (.t 10) (.c (.int .i64 1))),
mm_ 12 1,
mm_ 13 1,
oo_ 14 (.bin .add (.t 13) (.c (.int .i64 1))),
mm_ 15 2,
mm_ 16 3,
oo_ 17 (.call false (.c (.fn K.med [] [])) [.t 9,.t 11,.t 12,.t 14,.t 15,.t 16]),
mm_ 8 17] false)
 .ret)),
 [.t 8]⟩
def cMed (K : SK) : LFunc:=⟨41,6,
 (.seq
 (.region [
oo_ 12 (.mv (.c (.int .i64 0)))] false)
 (.seq
 (.region [
mm_ 14 0,
mm_ 15 1,
mm_ 16 2,
mm_ 17 4,
mm_ 18 5,
oo_ 19 (.call false (.c (.fn K.ord [] [])) [.t 14,.t 15,.t 16,.t 17,.t 18]),
mm_ 13 19,
oo_ 20 (.extract (.t 13) 0),
oo_ 21 (.extract (.t 13) 1),
mm_ 1 20,
mm_ 2 21] false)
 (.seq
 (.region [
mm_ 23 0,
mm_ 24 2,
mm_ 25 3,
mm_ 26 4,
mm_ 27 5,
oo_ 28 (.call false (.c (.fn K.ord [] [])) [.t 23,.t 24,.t 25,.t 26,.t 27]),
mm_ 22 28,
oo_ 29 (.extract (.t 22) 0),
oo_ 30 (.extract (.t 22) 1),
mm_ 2 29,
mm_ 3 30] false)
 (.seq
 (.region [
mm_ 32 0,
mm_ 33 1,
mm_ 34 2,
mm_ 35 4,
mm_ 36 5,
oo_ 37 (.call false (.c (.fn K.ord [] [])) [.t 32,.t 33,.t 34,.t 35,.t 36]),
mm_ 31 37,
oo_ 38 (.extract (.t 31) 0),
oo_ 39 (.extract (.t 31) 1),
mm_ 1 38,
mm_ 2 39] false)
 (.seq
 (.region [
mm_ 40 2,
mm_ 12 40] false)
 .ret))))),
 [.t 12]⟩
def cOrd (K : SK) : LFunc:=⟨32,5,
 (.seq
 (.region [
oo_ 10 (.mv (.c (.int .i64 0))),
oo_ 11 (.mv (.c (.int .i64 0)))] false)
 (.seq
 (.seq
 (.region [
mm_ 12 4,
mm_ 13 0,
mm_ 14 2,
oo_ 15 (.idxa K.sz (.t 13) (.t 14)),
oo_ 16 (.load K.ag K.sz (.t 15)),
mm_ 17 0,
mm_ 18 1,
oo_ 19 (.idxa K.sz (.t 17) (.t 18)),
oo_ 20 (.load K.ag K.sz (.t 19)),
oo_ 21 (.call false (.t 12) [.t 16,.t 20]),
oo_ 22 (.bin .lss (.t 21) (.c (.int .i64 0)))] true)
 (.cond (.t 22)
 (.seq
 (.region [
mm_ 23 3,
oo_ 24 (.nilck (.t 23)),
oo_ 25 (.load false 1 (.t 24)),
oo_ 26 (.bin .add (.t 25) (.c (.int .i64 1))),
oo_ 27 (.nilck (.t 23)),
 ⟨none,.store 1 (.t 27) (.t 26),none⟩] false)
 (.seq
 (.region [
mm_ 28 2,
mm_ 29 1,
mm_ 10 28,
mm_ 11 29] false)
 .ret))
 .skip))
 (.seq
 (.region [
mm_ 30 1,
mm_ 31 2,
mm_ 10 30,
mm_ 11 31] false)
 .ret))),
 [.t 10,.t 11]⟩
structure Lays (P : Program) (K : SK) : Prop where
 srt : okFunc P K.srt (cSrt K) = true
 pdq : okFunc P K.pdq (cPdq K) = true
 len : okFunc P K.len (cLen K) = true
 len64 : okFunc P K.len64 (cLen64 K) = true
 ins : okFunc P K.ins (cIns K) = true
 heap : okFunc P K.heap (cHeap K) = true
 brk : okFunc P K.brk (cBrk K) = true
 piv : okFunc P K.piv (cPiv K) = true
 rev : okFunc P K.rev (cRev K) = true
 par : okFunc P K.par (cPar K) = true
 peq : okFunc P K.peq (cPeq K) = true
 prt : okFunc P K.prt (cPrt K) = true
 sift : okFunc P K.sift (cSift K) = true
 npo : okFunc P K.npo (cNpo K) = true
 nxt : okFunc P K.nxt (cNxt K) = true
 madj : okFunc P K.madj (cMadj K) = true
 med : okFunc P K.med (cMed K) = true
 ord : okFunc P K.ord (cOrd K) = true
end Go.AM

/- The library's sort of ordered elements, in the short form, general over the numbers that its functions have in a program. -/
namespace Go.AM.Ord
open Go.AM
abbrev mm_ (d x : Nat) : LOper:=⟨some d,.mv (.t x),none⟩
abbrev oo_ (d : Nat) (op : LOp) : LOper:=⟨some d,op,none⟩
abbrev gg_ (d : Nat) (op : LOp) (x : Nat) (b : Bool) : LOper:=⟨some d,op,some (x,b)⟩
def tab8 : List UInt8:=[0,1,2,2,3,3,3,3,4,4,4,4,4,4,4,4,5,5,5,5,5,5,5,5,5,5,5,5,5,5,5,5,6,6,6,6,6,6,6,6,6,6,6,6,6,6,6,6,6,6,6,6,6,6,6,6,6,6,6,6,6,6,6,6,7,7,7,7,7,7,7,7,7,7,7,7,7,7,7,7,7,7,7,7,7,7,7,7,7,7,7,7,7,7,7,7,7,7,7,7,7,7,7,7,7,7,7,7,7,7,7,7,7,7,7,7,7,7,7,7,7,7,7,7,7,7,7,7,8,8,8,8,8,8,8,8,8,8,8,8,8,8,8,8,8,8,8,8,8,8,8,8,8,8,8,8,8,8,8,8,8,8,8,8,8,8,8,8,8,8,8,8,8,8,8,8,8,8,8,8,8,8,8,8,8,8,8,8,8,8,8,8,8,8,8,8,8,8,8,8,8,8,8,8,8,8,8,8,8,8,8,8,8,8,8,8,8,8,8,8,8,8,8,8,8,8,8,8,8,8,8,8,8,8,8,8,8,8,8,8,8,8,8,8,8,8,8,8,8,8,8,8,8,8,8,8]
def tab8S : ByteArray:=⟨tab8.toArray⟩
structure SK where
 ag : Bool
 sz : Nat
 less : Nat
 srt : Nat
 pdq : Nat
 len : Nat
 len32 : Nat
 len64 : Nat
 ins : Nat
 heap : Nat
 brk : Nat
 piv : Nat
 rev : Nat
 par : Nat
 peq : Nat
 prt : Nat
 sift : Nat
 npo : Nat
 nxt : Nat
 madj : Nat
 med : Nat
 ord : Nat
def cSrt (K : SK) : LFunc:=⟨11,1,
 (.seq
 (.region [
mm_ 3 0,
oo_ 4 (.len .sli (.t 3)),
mm_ 2 4] false)
 (.region [
mm_ 5 0,
mm_ 6 2,
mm_ 7 2,
oo_ 8 (.conv .u64 (.t 7)),
oo_ 9 (.call false (.c (.fn K.len [] [])) [.t 8]),
oo_ 10 (.call false (.c (.fn K.pdq [] [])) [.t 5,.c (.int .i64 0),.t 6,.t 9])] false)),
 []⟩
def cPdq (K : SK) : LFunc:=⟨134,4,
 (.seq
 (.region [
oo_ 8 (.mv (.c (.bool true)))] false)
 (.seq
 (.region [
oo_ 9 (.mv (.c (.bool true)))] false)
 (.block 0
 (.loop
 (.block 1
 (.seq
 (.region [
mm_ 19 2,
mm_ 20 1,
oo_ 21 (.bin .sub (.t 19) (.t 20)),
mm_ 10 21] false)
 (.seq
 (.seq
 (.region [
mm_ 22 10,
oo_ 23 (.bin .leq (.t 22) (.c (.int .i64 12)))] false)
 (.cond (.t 23)
 (.seq
 (.region [
mm_ 24 0,
mm_ 25 1,
mm_ 26 2,
oo_ 27 (.call false (.c (.fn K.ins [] [])) [.t 24,.t 25,.t 26])] false)
 .ret)
 .skip))
 (.seq
 (.seq
 (.region [
mm_ 28 3,
oo_ 29 (.bin .eql (.t 28) (.c (.int .i64 0)))] false)
 (.cond (.t 29)
 (.seq
 (.region [
mm_ 30 0,
mm_ 31 1,
mm_ 32 2,
oo_ 33 (.call false (.c (.fn K.heap [] [])) [.t 30,.t 31,.t 32])] false)
 .ret)
 .skip))
 (.seq
 (.seq
 (.region [
mm_ 34 8,
oo_ 35 (.not (.t 34))] false)
 (.cond (.t 35)
 (.seq
 (.region [
mm_ 36 0,
mm_ 37 1,
mm_ 38 2,
oo_ 39 (.call false (.c (.fn K.brk [] [])) [.t 36,.t 37,.t 38])] false)
 (.region [
mm_ 40 3,
oo_ 41 (.bin .sub (.t 40) (.c (.int .i64 1))),
mm_ 3 41] false))
 .skip))
 (.seq
 (.region [
mm_ 43 0,
mm_ 44 1,
mm_ 45 2,
oo_ 46 (.call false (.c (.fn K.piv [] [])) [.t 43,.t 44,.t 45]),
mm_ 42 46,
oo_ 47 (.extract (.t 42) 0),
oo_ 48 (.extract (.t 42) 1),
mm_ 11 47,
mm_ 12 48] false)
 (.seq
 (.seq
 (.region [
mm_ 49 12,
oo_ 50 (.bin .eql (.t 49) (.c (.int .i64 2)))] false)
 (.cond (.t 50)
 (.seq
 (.region [
mm_ 51 0,
mm_ 52 1,
mm_ 53 2,
oo_ 54 (.call false (.c (.fn K.rev [] [])) [.t 51,.t 52,.t 53])] false)
 (.seq
 (.region [
mm_ 55 2,
oo_ 56 (.bin .sub (.t 55) (.c (.int .i64 1))),
mm_ 57 11,
mm_ 58 1,
oo_ 59 (.bin .sub (.t 57) (.t 58)),
oo_ 60 (.bin .sub (.t 56) (.t 59)),
mm_ 11 60] false)
 (.region [
oo_ 12 (.mv (.c (.int .i64 1)))] false)))
 .skip))
 (.seq
 (.seq
 (.region [
mm_ 61 8,
mm_ 62 61,
gg_ 63 (.mv (.t 9)) 62 true,
oo_ 64 (.pick (.t 62) (.t 63) (.c (.bool false))),
mm_ 65 64,
gg_ 66 (.mv (.t 12)) 65 true,
gg_ 67 (.bin .eql (.t 66) (.c (.int .i64 1))) 65 true,
oo_ 68 (.pick (.t 65) (.t 67) (.c (.bool false)))] false)
 (.cond (.t 68)
 (.seq
 (.region [
mm_ 69 0,
mm_ 70 1,
mm_ 71 2,
oo_ 72 (.call false (.c (.fn K.par [] [])) [.t 69,.t 70,.t 71])] false)
 (.cond (.t 72)
 .ret
 .skip))
 .skip))
 (.seq
 (.seq
 (.region [
mm_ 73 1,
oo_ 74 (.bin .gtr (.t 73) (.c (.int .i64 0))),
mm_ 75 74,
gg_ 76 (.mv (.t 0)) 75 true,
gg_ 77 (.mv (.t 1)) 75 true,
gg_ 78 (.bin .sub (.t 77) (.c (.int .i64 1))) 75 true,
gg_ 79 (.idxa K.sz (.t 76) (.t 78)) 75 true,
gg_ 80 (.load K.ag K.sz (.t 79)) 75 true,
gg_ 81 (.mv (.t 0)) 75 true,
gg_ 82 (.mv (.t 11)) 75 true,
gg_ 83 (.idxa K.sz (.t 81) (.t 82)) 75 true,
gg_ 84 (.load K.ag K.sz (.t 83)) 75 true,
gg_ 85 (.call false (.c (.fn K.less [] [])) [.t 80,.t 84]) 75 true,
gg_ 86 (.not (.t 85)) 75 true,
oo_ 87 (.pick (.t 75) (.t 86) (.c (.bool false)))] true)
 (.cond (.t 87)
 (.seq
 (.region [
mm_ 88 0,
mm_ 89 1,
mm_ 90 2,
mm_ 91 11,
oo_ 92 (.call false (.c (.fn K.peq [] [])) [.t 88,.t 89,.t 90,.t 91]),
mm_ 13 92] false)
 (.seq
 (.region [
mm_ 93 13,
mm_ 1 93] false)
 (.exit 1)))
 .skip))
 (.seq
 (.region [
mm_ 95 0,
mm_ 96 1,
mm_ 97 2,
mm_ 98 11,
oo_ 99 (.call false (.c (.fn K.prt [] [])) [.t 95,.t 96,.t 97,.t 98]),
mm_ 94 99,
oo_ 100 (.extract (.t 94) 0),
oo_ 101 (.extract (.t 94) 1),
mm_ 14 100,
mm_ 15 101] false)
 (.seq
 (.region [
mm_ 102 15,
mm_ 9 102] false)
 (.seq
 (.region [
mm_ 103 14,
mm_ 104 1,
oo_ 105 (.bin .sub (.t 103) (.t 104)),
mm_ 106 2,
mm_ 107 14,
oo_ 108 (.bin .sub (.t 106) (.t 107)),
mm_ 16 105,
mm_ 17 108] false)
 (.seq
 (.region [
mm_ 109 10,
oo_ 110 (.bin .quo (.t 109) (.c (.int .i64 8))),
mm_ 18 110] false)
 (.seq
 (.region [
mm_ 111 16,
mm_ 112 17,
oo_ 113 (.bin .lss (.t 111) (.t 112))] false)
 (.cond (.t 113)
 (.seq
 (.region [
mm_ 114 16,
mm_ 115 18,
oo_ 116 (.bin .geq (.t 114) (.t 115)),
mm_ 8 116] false)
 (.seq
 (.region [
mm_ 117 0,
mm_ 118 1,
mm_ 119 14,
mm_ 120 3,
oo_ 121 (.call false (.c (.fn K.pdq [] [])) [.t 117,.t 118,.t 119,.t 120])] false)
 (.region [
mm_ 122 14,
oo_ 123 (.bin .add (.t 122) (.c (.int .i64 1))),
mm_ 1 123] false)))
 (.seq
 (.region [
mm_ 124 17,
mm_ 125 18,
oo_ 126 (.bin .geq (.t 124) (.t 125)),
mm_ 8 126] false)
 (.seq
 (.region [
mm_ 127 0,
mm_ 128 14,
oo_ 129 (.bin .add (.t 128) (.c (.int .i64 1))),
mm_ 130 2,
mm_ 131 3,
oo_ 132 (.call false (.c (.fn K.pdq [] [])) [.t 127,.t 129,.t 130,.t 131])] false)
 (.region [
mm_ 133 14,
mm_ 2 133] false)))))))))))))))))))))),
 []⟩
def cLen (K : SK) : LFunc:=⟨8,1,
 (.seq
 (.region [
oo_ 2 (.mv (.c (.int .i64 0)))] false)
 (.seq
 (.cond (.c (.bool false))
 (.seq
 (.region [
mm_ 3 0,
oo_ 4 (.conv .u32 (.t 3)),
oo_ 5 (.call false (.c (.fn K.len32 [] [])) [.t 4]),
mm_ 2 5] false)
 .ret)
 .skip)
 (.seq
 (.region [
mm_ 6 0,
oo_ 7 (.call false (.c (.fn K.len64 [] [])) [.t 6]),
mm_ 2 7] false)
 .ret))),
 [.t 2]⟩
def cLen32 (K : SK) : LFunc:=⟨19,1,
 (.seq
 (.region [
oo_ 2 (.mv (.c (.int .i64 0)))] false)
 (.seq
 (.seq
 (.region [
mm_ 3 0,
oo_ 4 (.bin .geq (.t 3) (.c (.int .u32 65536)))] false)
 (.cond (.t 4)
 (.seq
 (.region [
mm_ 5 0,
oo_ 6 (.bin .shr (.t 5) (.c (.int .u64 16))),
mm_ 0 6] false)
 (.region [
oo_ 2 (.mv (.c (.int .i64 16)))] false))
 .skip))
 (.seq
 (.seq
 (.region [
mm_ 7 0,
oo_ 8 (.bin .geq (.t 7) (.c (.int .u32 256)))] false)
 (.cond (.t 8)
 (.seq
 (.region [
mm_ 9 0,
oo_ 10 (.bin .shr (.t 9) (.c (.int .u64 8))),
mm_ 0 10] false)
 (.region [
mm_ 11 2,
oo_ 12 (.bin .add (.t 11) (.c (.int .i64 8))),
mm_ 2 12] false))
 .skip))
 (.seq
 (.region [
mm_ 13 2,
mm_ 14 0,
oo_ 15 (.conv .u8 (.t 14)),
oo_ 16 (.idxs (.c (.str tab8S)) (.t 15)),
oo_ 17 (.conv .i64 (.t 16)),
oo_ 18 (.bin .add (.t 13) (.t 17)),
mm_ 2 18] false)
 .ret)))),
 [.t 2]⟩
def cLen64 (K : SK) : LFunc:=⟨25,1,
 (.seq
 (.region [
oo_ 2 (.mv (.c (.int .i64 0)))] false)
 (.seq
 (.seq
 (.region [
mm_ 3 0,
oo_ 4 (.bin .geq (.t 3) (.c (.int .u64 4294967296)))] false)
 (.cond (.t 4)
 (.seq
 (.region [
mm_ 5 0,
oo_ 6 (.bin .shr (.t 5) (.c (.int .u64 32))),
mm_ 0 6] false)
 (.region [
oo_ 2 (.mv (.c (.int .i64 32)))] false))
 .skip))
 (.seq
 (.seq
 (.region [
mm_ 7 0,
oo_ 8 (.bin .geq (.t 7) (.c (.int .u64 65536)))] false)
 (.cond (.t 8)
 (.seq
 (.region [
mm_ 9 0,
oo_ 10 (.bin .shr (.t 9) (.c (.int .u64 16))),
mm_ 0 10] false)
 (.region [
mm_ 11 2,
oo_ 12 (.bin .add (.t 11) (.c (.int .i64 16))),
mm_ 2 12] false))
 .skip))
 (.seq
 (.seq
 (.region [
mm_ 13 0,
oo_ 14 (.bin .geq (.t 13) (.c (.int .u64 256)))] false)
 (.cond (.t 14)
 (.seq
 (.region [
mm_ 15 0,
oo_ 16 (.bin .shr (.t 15) (.c (.int .u64 8))),
mm_ 0 16] false)
 (.region [
mm_ 17 2,
oo_ 18 (.bin .add (.t 17) (.c (.int .i64 8))),
mm_ 2 18] false))
 .skip))
 (.seq
 (.region [
mm_ 19 2,
mm_ 20 0,
oo_ 21 (.conv .u8 (.t 20)),
oo_ 22 (.idxs (.c (.str tab8S)) (.t 21)),
oo_ 23 (.conv .i64 (.t 22)),
oo_ 24 (.bin .add (.t 19) (.t 23)),
mm_ 2 24] false)
 .ret))))),
 [.t 2]⟩
def cIns (K : SK) : LFunc:=⟨49,3,
 (.seq
 (.region [
mm_ 8 1,
oo_ 9 (.bin .add (.t 8) (.c (.int .i64 1))),
mm_ 6 9] false)
 (.block 0
 (.loop
 (.seq
 (.seq
 (.region [
mm_ 10 6,
mm_ 11 2,
oo_ 12 (.bin .lss (.t 10) (.t 11))] false)
 (.cond (.t 12)
 .skip
 (.exit 0)))
 (.seq
 (.block 1
 (.seq
 (.region [
mm_ 15 6,
mm_ 7 15] false)
 (.block 2
 (.loop
 (.seq
 (.seq
 (.region [
mm_ 16 7,
mm_ 17 1,
oo_ 18 (.bin .gtr (.t 16) (.t 17)),
mm_ 19 18,
gg_ 20 (.mv (.t 0)) 19 true,
gg_ 21 (.mv (.t 7)) 19 true,
gg_ 22 (.idxa K.sz (.t 20) (.t 21)) 19 true,
gg_ 23 (.load K.ag K.sz (.t 22)) 19 true,
gg_ 24 (.mv (.t 0)) 19 true,
gg_ 25 (.mv (.t 7)) 19 true,
gg_ 26 (.bin .sub (.t 25) (.c (.int .i64 1))) 19 true,
gg_ 27 (.idxa K.sz (.t 24) (.t 26)) 19 true,
gg_ 28 (.load K.ag K.sz (.t 27)) 19 true,
gg_ 29 (.call false (.c (.fn K.less [] [])) [.t 23,.t 28]) 19 true,
oo_ 30 (.pick (.t 19) (.t 29) (.c (.bool false)))] true)
 (.cond (.t 30)
 .skip
 (.exit 2)))
 (.seq
 (.block 3
 (.region [
mm_ 33 0,
mm_ 34 7,
mm_ 35 0,
mm_ 36 7,
oo_ 37 (.bin .sub (.t 36) (.c (.int .i64 1))),
mm_ 38 0,
mm_ 39 7,
oo_ 40 (.bin .sub (.t 39) (.c (.int .i64 1))),
oo_ 41 (.idxa K.sz (.t 38) (.t 40)),
oo_ 42 (.load K.ag K.sz (.t 41)),
mm_ 43 0,
mm_ 44 7,
oo_ 45 (.idxa K.sz (.t 43) (.t 44)),
oo_ 46 (.load K.ag K.sz (.t 45)),
oo_ 47 (.idxa K.sz (.t 33) (.t 34)),
 ⟨none,.store K.sz (.t 47) (.t 42),none⟩,
oo_ 48 (.idxa K.sz (.t 35) (.t 37)),
 ⟨none,.store K.sz (.t 48) (.t 46),none⟩] true))
 (.region [
mm_ 31 7,
oo_ 32 (.bin .sub (.t 31) (.c (.int .i64 1))),
mm_ 7 32] false)))))))
 (.region [
mm_ 13 6,
oo_ 14 (.bin .add (.t 13) (.c (.int .i64 1))),
mm_ 6 14] false)))))),
 []⟩
def cHeap (K : SK) : LFunc:=⟨56,3,
 (.seq
 (.region [
mm_ 11 1,
mm_ 6 11] false)
 (.seq
 (.region [
oo_ 7 (.mv (.c (.int .i64 0)))] false)
 (.seq
 (.region [
mm_ 12 2,
mm_ 13 1,
oo_ 14 (.bin .sub (.t 12) (.t 13)),
mm_ 8 14] false)
 (.seq
 (.seq
 (.region [
mm_ 15 8,
oo_ 16 (.bin .sub (.t 15) (.c (.int .i64 1))),
oo_ 17 (.bin .quo (.t 16) (.c (.int .i64 2))),
mm_ 9 17] false)
 (.block 0
 (.loop
 (.seq
 (.seq
 (.region [
mm_ 18 9,
oo_ 19 (.bin .geq (.t 18) (.c (.int .i64 0)))] false)
 (.cond (.t 19)
 .skip
 (.exit 0)))
 (.seq
 (.block 1
 (.region [
mm_ 22 0,
mm_ 23 9,
mm_ 24 8,
mm_ 25 6,
oo_ 26 (.call false (.c (.fn K.sift [] [])) [.t 22,.t 23,.t 24,.t 25])] false))
 (.region [
mm_ 20 9,
oo_ 21 (.bin .sub (.t 20) (.c (.int .i64 1))),
mm_ 9 21] false))))))
 (.seq
 (.region [
mm_ 27 8,
oo_ 28 (.bin .sub (.t 27) (.c (.int .i64 1))),
mm_ 10 28] false)
 (.block 2
 (.loop
 (.seq
 (.seq
 (.region [
mm_ 29 10,
oo_ 30 (.bin .geq (.t 29) (.c (.int .i64 0)))] false)
 (.cond (.t 30)
 .skip
 (.exit 2)))
 (.seq
 (.block 3
 (.seq
 (.region [
mm_ 33 0,
mm_ 34 6,
mm_ 35 0,
mm_ 36 6,
mm_ 37 10,
oo_ 38 (.bin .add (.t 36) (.t 37)),
mm_ 39 0,
mm_ 40 6,
mm_ 41 10,
oo_ 42 (.bin .add (.t 40) (.t 41)),
oo_ 43 (.idxa K.sz (.t 39) (.t 42)),
oo_ 44 (.load K.ag K.sz (.t 43)),
mm_ 45 0,
mm_ 46 6,
oo_ 47 (.idxa K.sz (.t 45) (.t 46)),
oo_ 48 (.load K.ag K.sz (.t 47)),
oo_ 49 (.idxa K.sz (.t 33) (.t 34)),
 ⟨none,.store K.sz (.t 49) (.t 44),none⟩,
oo_ 50 (.idxa K.sz (.t 35) (.t 38)),
 ⟨none,.store K.sz (.t 50) (.t 48),none⟩] true)
 (.region [
mm_ 51 0,
mm_ 52 7,
mm_ 53 10,
mm_ 54 6,
oo_ 55 (.call false (.c (.fn K.sift [] [])) [.t 51,.t 52,.t 53,.t 54])] false)))
 (.region [
mm_ 31 10,
oo_ 32 (.bin .sub (.t 31) (.c (.int .i64 1))),
mm_ 10 32] false)))))))))),
 []⟩
def cBrk (K : SK) : LFunc:=⟨65,3,
 (.seq
 (.region [
mm_ 11 2,
mm_ 12 1,
oo_ 13 (.bin .sub (.t 11) (.t 12)),
mm_ 6 13] false)
 (.seq
 (.region [
mm_ 14 6,
oo_ 15 (.bin .geq (.t 14) (.c (.int .i64 8)))] false)
 (.cond (.t 15)
 (.seq
 (.region [
mm_ 16 6,
oo_ 17 (.conv .u64 (.t 16)),
oo_ 7 (.newv [.int .u64 0]),
 ⟨none,.store 1 (.t 7) (.t 17),none⟩] false)
 (.seq
 (.region [
mm_ 18 6,
oo_ 19 (.call false (.c (.fn K.npo [] [])) [.t 18]),
mm_ 8 19] false)
 (.seq
 (.region [
mm_ 20 1,
mm_ 21 6,
oo_ 22 (.bin .quo (.t 21) (.c (.int .i64 4))),
oo_ 23 (.bin .mul (.t 22) (.c (.int .i64 2))),
oo_ 24 (.bin .add (.t 20) (.t 23)),
oo_ 25 (.bin .sub (.t 24) (.c (.int .i64 1))),
mm_ 9 25] false)
 (.block 0
 (.loop
 (.seq
 (.seq
 (.region [
mm_ 26 9,
mm_ 27 1,
mm_ 28 6,
oo_ 29 (.bin .quo (.t 28) (.c (.int .i64 4))),
oo_ 30 (.bin .mul (.t 29) (.c (.int .i64 2))),
oo_ 31 (.bin .add (.t 27) (.t 30)),
oo_ 32 (.bin .add (.t 31) (.c (.int .i64 1))),
oo_ 33 (.bin .leq (.t 26) (.t 32))] false)
 (.cond (.t 33)
 .skip
 (.exit 0)))
 (.seq
 (.block 1
 (.seq
 (.region [
oo_ 36 (.call false (.c (.fn K.nxt [] [])) [.t 7]),
mm_ 37 8,
oo_ 38 (.bin .sub (.t 37) (.c (.int .u64 1))),
oo_ 39 (.bin .and (.t 36) (.t 38)),
oo_ 40 (.conv .i64 (.t 39)),
mm_ 10 40] false)
 (.seq
 (.seq
 (.region [
mm_ 41 10,
mm_ 42 6,
oo_ 43 (.bin .geq (.t 41) (.t 42))] false)
 (.cond (.t 43)
 (.region [
mm_ 44 10,
mm_ 45 6,
oo_ 46 (.bin .sub (.t 44) (.t 45)),
mm_ 10 46] false)
 .skip))
 (.region [
mm_ 47 0,
mm_ 48 9,
mm_ 49 0,
mm_ 50 1,
mm_ 51 10,
oo_ 52 (.bin .add (.t 50) (.t 51)),
mm_ 53 0,
mm_ 54 1,
mm_ 55 10,
oo_ 56 (.bin .add (.t 54) (.t 55)),
oo_ 57 (.idxa K.sz (.t 53) (.t 56)),
oo_ 58 (.load K.ag K.sz (.t 57)),
mm_ 59 0,
mm_ 60 9,
oo_ 61 (.idxa K.sz (.t 59) (.t 60)),
oo_ 62 (.load K.ag K.sz (.t 61)),
oo_ 63 (.idxa K.sz (.t 47) (.t 48)),
 ⟨none,.store K.sz (.t 63) (.t 58),none⟩,
oo_ 64 (.idxa K.sz (.t 49) (.t 52)),
 ⟨none,.store K.sz (.t 64) (.t 62),none⟩] true))))
 (.region [
mm_ 34 9,
oo_ 35 (.bin .add (.t 34) (.c (.int .i64 1))),
mm_ 9 35] false))))))))
 .skip))),
 []⟩
def cPiv (K : SK) : LFunc:=⟨57,3,
 (.seq
 (.region [
oo_ 6 (.mv (.c (.int .i64 0))),
oo_ 7 (.mv (.c (.int .i64 0)))] false)
 (.seq
 (.region [
mm_ 13 2,
mm_ 14 1,
oo_ 15 (.bin .sub (.t 13) (.t 14)),
mm_ 8 15] false)
 (.seq
 (.region [
oo_ 9 (.newv [.int .i64 0])] false)
 (.seq
 (.region [
mm_ 16 1,
mm_ 17 8,
oo_ 18 (.bin .quo (.t 17) (.c (.int .i64 4))),
oo_ 19 (.bin .mul (.t 18) (.c (.int .i64 1))),
oo_ 20 (.bin .add (.t 16) (.t 19)),
mm_ 10 20] false)
 (.seq
 (.region [
mm_ 21 1,
mm_ 22 8,
oo_ 23 (.bin .quo (.t 22) (.c (.int .i64 4))),
oo_ 24 (.bin .mul (.t 23) (.c (.int .i64 2))),
oo_ 25 (.bin .add (.t 21) (.t 24)),
mm_ 11 25] false)
 (.seq
 (.region [
mm_ 26 1,
mm_ 27 8,
oo_ 28 (.bin .quo (.t 27) (.c (.int .i64 4))),
oo_ 29 (.bin .mul (.t 28) (.c (.int .i64 3))),
oo_ 30 (.bin .add (.t 26) (.t 29)),
mm_ 12 30] false)
 (.seq
 (.seq
 (.region [
mm_ 31 8,
oo_ 32 (.bin .geq (.t 31) (.c (.int .i64 8)))] false)
 (.cond (.t 32)
 (.seq
 (.seq
 (.region [
mm_ 33 8,
oo_ 34 (.bin .geq (.t 33) (.c (.int .i64 50)))] false)
 (.cond (.t 34)
 (.seq
 (.region [
mm_ 35 0,
mm_ 36 10,
oo_ 37 (.call false (.c (.fn K.madj [] [])) [.t 35,.t 36,.t 9]),
mm_ 10 37] false)
 (.seq
 (.region [
mm_ 38 0,
mm_ 39 11,
oo_ 40 (.call false (.c (.fn K.madj [] [])) [.t 38,.t 39,.t 9]),
mm_ 11 40] false)
 (.region [
mm_ 41 0,
mm_ 42 12,
oo_ 43 (.call false (.c (.fn K.madj [] [])) [.t 41,.t 42,.t 9]),
mm_ 12 43] false)))
 .skip))
 (.region [
mm_ 44 0,
mm_ 45 10,
mm_ 46 11,
mm_ 47 12,
oo_ 48 (.call false (.c (.fn K.med [] [])) [.t 44,.t 45,.t 46,.t 47,.t 9]),
mm_ 11 48] false))
 .skip))
 (.seq
 (.region [
oo_ 49 (.load false 1 (.t 9))] false)
 (.block 0
 (.seq
 (.region [
oo_ 52 (.bin .eql (.t 49) (.c (.int .i64 0))),
mm_ 51 52] false)
 (.cond (.t 51)
 (.seq
 (.region [
mm_ 53 11,
mm_ 6 53,
oo_ 7 (.mv (.c (.int .i64 1)))] false)
 .ret)
 (.seq
 (.region [
oo_ 55 (.bin .eql (.t 49) (.c (.int .i64 12))),
mm_ 54 55] false)
 (.cond (.t 54)
 (.seq
 (.region [
mm_ 56 11,
mm_ 6 56,
oo_ 7 (.mv (.c (.int .i64 2)))] false)
 .ret)
 (.seq
 (.region [
mm_ 50 11,
mm_ 6 50,
oo_ 7 (.mv (.c (.int .i64 0)))] false)
 .ret)))))))))))))),
 [.t 6,.t 7]⟩
def cRev (K : SK) : LFunc:=⟨32,3,
 (.seq
 (.region [
mm_ 8 1,
mm_ 6 8] false)
 (.seq
 (.region [
mm_ 9 2,
oo_ 10 (.bin .sub (.t 9) (.c (.int .i64 1))),
mm_ 7 10] false)
 (.block 0
 (.loop
 (.seq
 (.seq
 (.region [
mm_ 11 6,
mm_ 12 7,
oo_ 13 (.bin .lss (.t 11) (.t 12))] false)
 (.cond (.t 13)
 .skip
 (.exit 0)))
 (.block 1
 (.seq
 (.region [
mm_ 14 0,
mm_ 15 6,
mm_ 16 0,
mm_ 17 7,
mm_ 18 0,
mm_ 19 7,
oo_ 20 (.idxa K.sz (.t 18) (.t 19)),
oo_ 21 (.load K.ag K.sz (.t 20)),
mm_ 22 0,
mm_ 23 6,
oo_ 24 (.idxa K.sz (.t 22) (.t 23)),
oo_ 25 (.load K.ag K.sz (.t 24)),
oo_ 26 (.idxa K.sz (.t 14) (.t 15)),
 ⟨none,.store K.sz (.t 26) (.t 21),none⟩,
oo_ 27 (.idxa K.sz (.t 16) (.t 17)),
 ⟨none,.store K.sz (.t 27) (.t 25),none⟩] true)
 (.seq
 (.region [
mm_ 28 6,
oo_ 29 (.bin .add (.t 28) (.c (.int .i64 1))),
mm_ 6 29] false)
 (.region [
mm_ 30 7,
oo_ 31 (.bin .sub (.t 30) (.c (.int .i64 1))),
mm_ 7 31] false))))))))),
 []⟩
def cPar (K : SK) : LFunc:=⟨133,3,
 (.seq
 (.region [
oo_ 6 (.mv (.c (.bool false)))] false)
 (.seq
 (.region [
mm_ 11 1,
oo_ 12 (.bin .add (.t 11) (.c (.int .i64 1))),
mm_ 7 12] false)
 (.seq
 (.seq
 (.region [
oo_ 8 (.mv (.c (.int .i64 0)))] false)
 (.block 0
 (.loop
 (.seq
 (.seq
 (.region [
mm_ 13 8,
oo_ 14 (.bin .lss (.t 13) (.c (.int .i64 5)))] false)
 (.cond (.t 14)
 .skip
 (.exit 0)))
 (.seq
 (.block 1
 (.seq
 (.block 2
 (.loop
 (.seq
 (.seq
 (.region [
mm_ 17 7,
mm_ 18 2,
oo_ 19 (.bin .lss (.t 17) (.t 18)),
mm_ 20 19,
gg_ 21 (.mv (.t 0)) 20 true,
gg_ 22 (.mv (.t 7)) 20 true,
gg_ 23 (.idxa K.sz (.t 21) (.t 22)) 20 true,
gg_ 24 (.load K.ag K.sz (.t 23)) 20 true,
gg_ 25 (.mv (.t 0)) 20 true,
gg_ 26 (.mv (.t 7)) 20 true,
gg_ 27 (.bin .sub (.t 26) (.c (.int .i64 1))) 20 true,
gg_ 28 (.idxa K.sz (.t 25) (.t 27)) 20 true,
gg_ 29 (.load K.ag K.sz (.t 28)) 20 true,
gg_ 30 (.call false (.c (.fn K.less [] [])) [.t 24,.t 29]) 20 true,
gg_ 31 (.not (.t 30)) 20 true,
oo_ 32 (.pick (.t 20) (.t 31) (.c (.bool false)))] true)
 (.cond (.t 32)
 .skip
 (.exit 2)))
 (.block 3
 (.region [
mm_ 33 7,
oo_ 34 (.bin .add (.t 33) (.c (.int .i64 1))),
mm_ 7 34] false)))))
 (.seq
 (.seq
 (.region [
mm_ 35 7,
mm_ 36 2,
oo_ 37 (.bin .eql (.t 35) (.t 36))] false)
 (.cond (.t 37)
 (.seq
 (.region [
oo_ 6 (.mv (.c (.bool true)))] false)
 .ret)
 .skip))
 (.seq
 (.seq
 (.region [
mm_ 38 2,
mm_ 39 1,
oo_ 40 (.bin .sub (.t 38) (.t 39)),
oo_ 41 (.bin .lss (.t 40) (.c (.int .i64 50)))] false)
 (.cond (.t 41)
 (.seq
 (.region [
oo_ 6 (.mv (.c (.bool false)))] false)
 .ret)
 .skip))
 (.seq
 (.region [
mm_ 42 0,
mm_ 43 7,
mm_ 44 0,
mm_ 45 7,
oo_ 46 (.bin .sub (.t 45) (.c (.int .i64 1))),
mm_ 47 0,
mm_ 48 7,
oo_ 49 (.bin .sub (.t 48) (.c (.int .i64 1))),
oo_ 50 (.idxa K.sz (.t 47) (.t 49)),
oo_ 51 (.load K.ag K.sz (.t 50)),
mm_ 52 0,
mm_ 53 7,
oo_ 54 (.idxa K.sz (.t 52) (.t 53)),
oo_ 55 (.load K.ag K.sz (.t 54)),
oo_ 56 (.idxa K.sz (.t 42) (.t 43)),
 ⟨none,.store K.sz (.t 56) (.t 51),none⟩,
oo_ 57 (.idxa K.sz (.t 44) (.t 46)),
 ⟨none,.store K.sz (.t 57) (.t 55),none⟩] true)
 (.seq
 (.seq
 (.region [
mm_ 58 7,
mm_ 59 1,
oo_ 60 (.bin .sub (.t 58) (.t 59)),
oo_ 61 (.bin .geq (.t 60) (.c (.int .i64 2)))] false)
 (.cond (.t 61)
 (.seq
 (.region [
mm_ 62 7,
oo_ 63 (.bin .sub (.t 62) (.c (.int .i64 1))),
mm_ 9 63] false)
 (.block 4
 (.loop
 (.seq
 (.seq
 (.region [
mm_ 64 9,
oo_ 65 (.bin .geq (.t 64) (.c (.int .i64 1)))] false)
 (.cond (.t 65)
 .skip
 (.exit 4)))
 (.seq
 (.block 5
 (.seq
 (.seq
 (.region [
mm_ 68 0,
mm_ 69 9,
oo_ 70 (.idxa K.sz (.t 68) (.t 69)),
oo_ 71 (.load K.ag K.sz (.t 70)),
mm_ 72 0,
mm_ 73 9,
oo_ 74 (.bin .sub (.t 73) (.c (.int .i64 1))),
oo_ 75 (.idxa K.sz (.t 72) (.t 74)),
oo_ 76 (.load K.ag K.sz (.t 75)),
oo_ 77 (.call false (.c (.fn K.less [] [])) [.t 71,.t 76]),
oo_ 78 (.not (.t 77))] true)
 (.cond (.t 78)
 (.exit 4)
 .skip))
 (.region [
mm_ 79 0,
mm_ 80 9,
mm_ 81 0,
mm_ 82 9,
oo_ 83 (.bin .sub (.t 82) (.c (.int .i64 1))),
mm_ 84 0,
mm_ 85 9,
oo_ 86 (.bin .sub (.t 85) (.c (.int .i64 1))),
oo_ 87 (.idxa K.sz (.t 84) (.t 86)),
oo_ 88 (.load K.ag K.sz (.t 87)),
mm_ 89 0,
mm_ 90 9,
oo_ 91 (.idxa K.sz (.t 89) (.t 90)),
oo_ 92 (.load K.ag K.sz (.t 91)),
oo_ 93 (.idxa K.sz (.t 79) (.t 80)),
 ⟨none,.store K.sz (.t 93) (.t 88),none⟩,
oo_ 94 (.idxa K.sz (.t 81) (.t 83)),
 ⟨none,.store K.sz (.t 94) (.t 92),none⟩] true)))
 (.region [
mm_ 66 9,
oo_ 67 (.bin .sub (.t 66) (.c (.int .i64 1))),
mm_ 9 67] false))))))
 .skip))
 (.seq
 (.region [
mm_ 95 2,
mm_ 96 7,
oo_ 97 (.bin .sub (.t 95) (.t 96)),
oo_ 98 (.bin .geq (.t 97) (.c (.int .i64 2)))] false)
 (.cond (.t 98)
 (.seq
 (.region [
mm_ 99 7,
oo_ 100 (.bin .add (.t 99) (.c (.int .i64 1))),
mm_ 10 100] false)
 (.block 6
 (.loop
 (.seq
 (.seq
 (.region [
mm_ 101 10,
mm_ 102 2,
oo_ 103 (.bin .lss (.t 101) (.t 102))] false)
 (.cond (.t 103)
 .skip
 (.exit 6)))
 (.seq
 (.block 7
 (.seq
 (.seq
 (.region [
mm_ 106 0,
mm_ 107 10,
oo_ 108 (.idxa K.sz (.t 106) (.t 107)),
oo_ 109 (.load K.ag K.sz (.t 108)),
mm_ 110 0,
mm_ 111 10,
oo_ 112 (.bin .sub (.t 111) (.c (.int .i64 1))),
oo_ 113 (.idxa K.sz (.t 110) (.t 112)),
oo_ 114 (.load K.ag K.sz (.t 113)),
oo_ 115 (.call false (.c (.fn K.less [] [])) [.t 109,.t 114]),
oo_ 116 (.not (.t 115))] true)
 (.cond (.t 116)
 (.exit 6)
 .skip))
 (.region [
mm_ 117 0,
mm_ 118 10,
mm_ 119 0,
mm_ 120 10,
oo_ 121 (.bin .sub (.t 120) (.c (.int .i64 1))),
mm_ 122 0,
mm_ 123 10,
oo_ 124 (.bin .sub (.t 123) (.c (.int .i64 1))),
oo_ 125 (.idxa K.sz (.t 122) (.t 124)),
oo_ 126 (.load K.ag K.sz (.t 125)),
mm_ 127 0,
mm_ 128 10,
oo_ 129 (.idxa K.sz (.t 127) (.t 128)),
oo_ 130 (.load K.ag K.sz (.t 129)),
oo_ 131 (.idxa K.sz (.t 117) (.t 118)),
 ⟨none,.store K.sz (.t 131) (.t 126),none⟩,
oo_ 132 (.idxa K.sz (.t 119) (.t 121)),
 ⟨none,.store K.sz (.t 132) (.t 130),none⟩] true)))
 (.region [
mm_ 104 10,
oo_ 105 (.bin .add (.t 104) (.c (.int .i64 1))),
mm_ 10 105] false))))))
 .skip))))))))
 (.region [
mm_ 15 8,
oo_ 16 (.bin .add (.t 15) (.c (.int .i64 1))),
mm_ 8 16] false))))))
 (.seq
 (.region [
oo_ 6 (.mv (.c (.bool false)))] false)
 .ret)))),
 [.t 6]⟩
def cPeq (K : SK) : LFunc:=⟨84,4,
 (.seq
 (.region [
oo_ 8 (.mv (.c (.int .i64 0)))] false)
 (.seq
 (.region [
mm_ 11 0,
mm_ 12 1,
mm_ 13 0,
mm_ 14 3,
mm_ 15 0,
mm_ 16 3,
oo_ 17 (.idxa K.sz (.t 15) (.t 16)),
oo_ 18 (.load K.ag K.sz (.t 17)),
mm_ 19 0,
mm_ 20 1,
oo_ 21 (.idxa K.sz (.t 19) (.t 20)),
oo_ 22 (.load K.ag K.sz (.t 21)),
oo_ 23 (.idxa K.sz (.t 11) (.t 12)),
 ⟨none,.store K.sz (.t 23) (.t 18),none⟩,
oo_ 24 (.idxa K.sz (.t 13) (.t 14)),
 ⟨none,.store K.sz (.t 24) (.t 22),none⟩] true)
 (.seq
 (.region [
mm_ 25 1,
oo_ 26 (.bin .add (.t 25) (.c (.int .i64 1))),
mm_ 27 2,
oo_ 28 (.bin .sub (.t 27) (.c (.int .i64 1))),
mm_ 9 26,
mm_ 10 28] false)
 (.seq
 (.block 0
 (.loop
 (.block 1
 (.seq
 (.block 2
 (.loop
 (.seq
 (.seq
 (.region [
mm_ 29 9,
mm_ 30 10,
oo_ 31 (.bin .leq (.t 29) (.t 30)),
mm_ 32 31,
gg_ 33 (.mv (.t 0)) 32 true,
gg_ 34 (.mv (.t 1)) 32 true,
gg_ 35 (.idxa K.sz (.t 33) (.t 34)) 32 true,
gg_ 36 (.load K.ag K.sz (.t 35)) 32 true,
gg_ 37 (.mv (.t 0)) 32 true,
gg_ 38 (.mv (.t 9)) 32 true,
gg_ 39 (.idxa K.sz (.t 37) (.t 38)) 32 true,
gg_ 40 (.load K.ag K.sz (.t 39)) 32 true,
gg_ 41 (.call false (.c (.fn K.less [] [])) [.t 36,.t 40]) 32 true,
gg_ 42 (.not (.t 41)) 32 true,
oo_ 43 (.pick (.t 32) (.t 42) (.c (.bool false)))] true)
 (.cond (.t 43)
 .skip
 (.exit 2)))
 (.block 3
 (.region [
mm_ 44 9,
oo_ 45 (.bin .add (.t 44) (.c (.int .i64 1))),
mm_ 9 45] false)))))
 (.seq
 (.block 4
 (.loop
 (.seq
 (.seq
 (.region [
mm_ 46 9,
mm_ 47 10,
oo_ 48 (.bin .leq (.t 46) (.t 47)),
mm_ 49 48,
gg_ 50 (.mv (.t 0)) 49 true,
gg_ 51 (.mv (.t 1)) 49 true,
gg_ 52 (.idxa K.sz (.t 50) (.t 51)) 49 true,
gg_ 53 (.load K.ag K.sz (.t 52)) 49 true,
gg_ 54 (.mv (.t 0)) 49 true,
gg_ 55 (.mv (.t 10)) 49 true,
gg_ 56 (.idxa K.sz (.t 54) (.t 55)) 49 true,
gg_ 57 (.load K.ag K.sz (.t 56)) 49 true,
gg_ 58 (.call false (.c (.fn K.less [] [])) [.t 53,.t 57]) 49 true,
oo_ 59 (.pick (.t 49) (.t 58) (.c (.bool false)))] true)
 (.cond (.t 59)
 .skip
 (.exit 4)))
 (.block 5
 (.region [
mm_ 60 10,
oo_ 61 (.bin .sub (.t 60) (.c (.int .i64 1))),
mm_ 10 61] false)))))
 (.seq
 (.seq
 (.region [
mm_ 62 9,
mm_ 63 10,
oo_ 64 (.bin .gtr (.t 62) (.t 63))] false)
 (.cond (.t 64)
 (.exit 0)
 .skip))
 (.seq
 (.region [
mm_ 65 0,
mm_ 66 9,
mm_ 67 0,
mm_ 68 10,
mm_ 69 0,
mm_ 70 10,
oo_ 71 (.idxa K.sz (.t 69) (.t 70)),
oo_ 72 (.load K.ag K.sz (.t 71)),
mm_ 73 0,
mm_ 74 9,
oo_ 75 (.idxa K.sz (.t 73) (.t 74)),
oo_ 76 (.load K.ag K.sz (.t 75)),
oo_ 77 (.idxa K.sz (.t 65) (.t 66)),
 ⟨none,.store K.sz (.t 77) (.t 72),none⟩,
oo_ 78 (.idxa K.sz (.t 67) (.t 68)),
 ⟨none,.store K.sz (.t 78) (.t 76),none⟩] true)
 (.seq
 (.region [
mm_ 79 9,
oo_ 80 (.bin .add (.t 79) (.c (.int .i64 1))),
mm_ 9 80] false)
 (.region [
mm_ 81 10,
oo_ 82 (.bin .sub (.t 81) (.c (.int .i64 1))),
mm_ 10 82] false)))))))))
 (.seq
 (.region [
mm_ 83 9,
mm_ 8 83] false)
 .ret))))),
 [.t 8]⟩
def cPrt (K : SK) : LFunc:=⟨168,4,
 (.seq
 (.region [
oo_ 8 (.mv (.c (.int .i64 0))),
oo_ 9 (.mv (.c (.bool false)))] false)
 (.seq
 (.region [
mm_ 12 0,
mm_ 13 1,
mm_ 14 0,
mm_ 15 3,
mm_ 16 0,
mm_ 17 3,
oo_ 18 (.idxa K.sz (.t 16) (.t 17)),
oo_ 19 (.load K.ag K.sz (.t 18)),
mm_ 20 0,
mm_ 21 1,
oo_ 22 (.idxa K.sz (.t 20) (.t 21)),
oo_ 23 (.load K.ag K.sz (.t 22)),
oo_ 24 (.idxa K.sz (.t 12) (.t 13)),
 ⟨none,.store K.sz (.t 24) (.t 19),none⟩,
oo_ 25 (.idxa K.sz (.t 14) (.t 15)),
 ⟨none,.store K.sz (.t 25) (.t 23),none⟩] true)
 (.seq
 (.region [
mm_ 26 1,
oo_ 27 (.bin .add (.t 26) (.c (.int .i64 1))),
mm_ 28 2,
oo_ 29 (.bin .sub (.t 28) (.c (.int .i64 1))),
mm_ 10 27,
mm_ 11 29] false)
 (.seq
 (.block 0
 (.loop
 (.seq
 (.seq
 (.region [
mm_ 30 10,
mm_ 31 11,
oo_ 32 (.bin .leq (.t 30) (.t 31)),
mm_ 33 32,
gg_ 34 (.mv (.t 0)) 33 true,
gg_ 35 (.mv (.t 10)) 33 true,
gg_ 36 (.idxa K.sz (.t 34) (.t 35)) 33 true,
gg_ 37 (.load K.ag K.sz (.t 36)) 33 true,
gg_ 38 (.mv (.t 0)) 33 true,
gg_ 39 (.mv (.t 1)) 33 true,
gg_ 40 (.idxa K.sz (.t 38) (.t 39)) 33 true,
gg_ 41 (.load K.ag K.sz (.t 40)) 33 true,
gg_ 42 (.call false (.c (.fn K.less [] [])) [.t 37,.t 41]) 33 true,
oo_ 43 (.pick (.t 33) (.t 42) (.c (.bool false)))] true)
 (.cond (.t 43)
 .skip
 (.exit 0)))
 (.block 1
 (.region [
mm_ 44 10,
oo_ 45 (.bin .add (.t 44) (.c (.int .i64 1))),
mm_ 10 45] false)))))
 (.seq
 (.block 2
 (.loop
 (.seq
 (.seq
 (.region [
mm_ 46 10,
mm_ 47 11,
oo_ 48 (.bin .leq (.t 46) (.t 47)),
mm_ 49 48,
gg_ 50 (.mv (.t 0)) 49 true,
gg_ 51 (.mv (.t 11)) 49 true,
gg_ 52 (.idxa K.sz (.t 50) (.t 51)) 49 true,
gg_ 53 (.load K.ag K.sz (.t 52)) 49 true,
gg_ 54 (.mv (.t 0)) 49 true,
gg_ 55 (.mv (.t 1)) 49 true,
gg_ 56 (.idxa K.sz (.t 54) (.t 55)) 49 true,
gg_ 57 (.load K.ag K.sz (.t 56)) 49 true,
gg_ 58 (.call false (.c (.fn K.less [] [])) [.t 53,.t 57]) 49 true,
gg_ 59 (.not (.t 58)) 49 true,
oo_ 60 (.pick (.t 49) (.t 59) (.c (.bool false)))] true)
 (.cond (.t 60)
 .skip
 (.exit 2)))
 (.block 3
 (.region [
mm_ 61 11,
oo_ 62 (.bin .sub (.t 61) (.c (.int .i64 1))),
mm_ 11 62] false)))))
 (.seq
 (.seq
 (.region [
mm_ 63 10,
mm_ 64 11,
oo_ 65 (.bin .gtr (.t 63) (.t 64))] false)
 (.cond (.t 65)
 (.seq
 (.region [
mm_ 66 0,
mm_ 67 11,
mm_ 68 0,
mm_ 69 1,
mm_ 70 0,
mm_ 71 1,
oo_ 72 (.idxa K.sz (.t 70) (.t 71)),
oo_ 73 (.load K.ag K.sz (.t 72)),
mm_ 74 0,
mm_ 75 11,
oo_ 76 (.idxa K.sz (.t 74) (.t 75)),
oo_ 77 (.load K.ag K.sz (.t 76)),
oo_ 78 (.idxa K.sz (.t 66) (.t 67)),
 ⟨none,.store K.sz (.t 78) (.t 73),none⟩,
oo_ 79 (.idxa K.sz (.t 68) (.t 69)),
 ⟨none,.store K.sz (.t 79) (.t 77),none⟩] true)
 (.seq
 (.region [
mm_ 80 11,
mm_ 8 80,
oo_ 9 (.mv (.c (.bool true)))] false)
 .ret))
 .skip))
 (.seq
 (.region [
mm_ 81 0,
mm_ 82 10,
mm_ 83 0,
mm_ 84 11,
mm_ 85 0,
mm_ 86 11,
oo_ 87 (.idxa K.sz (.t 85) (.t 86)),
oo_ 88 (.load K.ag K.sz (.t 87)),
mm_ 89 0,
mm_ 90 10,
oo_ 91 (.idxa K.sz (.t 89) (.t 90)),
oo_ 92 (.load K.ag K.sz (.t 91)),
oo_ 93 (.idxa K.sz (.t 81) (.t 82)),
 ⟨none,.store K.sz (.t 93) (.t 88),none⟩,
oo_ 94 (.idxa K.sz (.t 83) (.t 84)),
 ⟨none,.store K.sz (.t 94) (.t 92),none⟩] true)
 (.seq
 (.region [
mm_ 95 10,
oo_ 96 (.bin .add (.t 95) (.c (.int .i64 1))),
mm_ 10 96] false)
 (.seq
 (.region [
mm_ 97 11,
oo_ 98 (.bin .sub (.t 97) (.c (.int .i64 1))),
mm_ 11 98] false)
 (.seq
 (.block 4
 (.loop
 (.block 5
 (.seq
 (.block 6
 (.loop
 (.seq
 (.seq
 (.region [
mm_ 99 10,
mm_ 100 11,
oo_ 101 (.bin .leq (.t 99) (.t 100)),
mm_ 102 101,
gg_ 103 (.mv (.t 0)) 102 true,
gg_ 104 (.mv (.t 10)) 102 true,
gg_ 105 (.idxa K.sz (.t 103) (.t 104)) 102 true,
gg_ 106 (.load K.ag K.sz (.t 105)) 102 true,
gg_ 107 (.mv (.t 0)) 102 true,
gg_ 108 (.mv (.t 1)) 102 true,
gg_ 109 (.idxa K.sz (.t 107) (.t 108)) 102 true,
gg_ 110 (.load K.ag K.sz (.t 109)) 102 true,
gg_ 111 (.call false (.c (.fn K.less [] [])) [.t 106,.t 110]) 102 true,
oo_ 112 (.pick (.t 102) (.t 111) (.c (.bool false)))] true)
 (.cond (.t 112)
 .skip
 (.exit 6)))
 (.block 7
 (.region [
mm_ 113 10,
oo_ 114 (.bin .add (.t 113) (.c (.int .i64 1))),
mm_ 10 114] false)))))
 (.seq
 (.block 8
 (.loop
 (.seq
 (.seq
 (.region [
mm_ 115 10,
mm_ 116 11,
oo_ 117 (.bin .leq (.t 115) (.t 116)),
mm_ 118 117,
gg_ 119 (.mv (.t 0)) 118 true,
gg_ 120 (.mv (.t 11)) 118 true,
gg_ 121 (.idxa K.sz (.t 119) (.t 120)) 118 true,
gg_ 122 (.load K.ag K.sz (.t 121)) 118 true,
gg_ 123 (.mv (.t 0)) 118 true,
gg_ 124 (.mv (.t 1)) 118 true,
gg_ 125 (.idxa K.sz (.t 123) (.t 124)) 118 true,
gg_ 126 (.load K.ag K.sz (.t 125)) 118 true,
gg_ 127 (.call false (.c (.fn K.less [] [])) [.t 122,.t 126]) 118 true,
gg_ 128 (.not (.t 127)) 118 true,
oo_ 129 (.pick (.t 118) (.t 128) (.c (.bool false)))] true)
 (.cond (.t 129)
 .skip
 (.exit 8)))
 (.block 9
 (.region [
mm_ 130 11,
oo_ 131 (.bin .sub (.t 130) (.c (.int .i64 1))),
mm_ 11 131] false)))))
 (.seq
 (.seq
 (.region [
mm_ 132 10,
mm_ 133 11,
oo_ 134 (.bin .gtr (.t 132) (.t 133))] false)
 (.cond (.t 134)
 (.exit 4)
 .skip))
 (.seq
 (.region [
mm_ 135 0,
mm_ 136 10,
mm_ 137 0,
mm_ 138 11,
mm_ 139 0,
mm_ 140 11,
oo_ 141 (.idxa K.sz (.t 139) (.t 140)),
oo_ 142 (.load K.ag K.sz (.t 141)),
mm_ 143 0,
mm_ 144 10,
oo_ 145 (.idxa K.sz (.t 143) (.t 144)),
oo_ 146 (.load K.ag K.sz (.t 145)),
oo_ 147 (.idxa K.sz (.t 135) (.t 136)),
 ⟨none,.store K.sz (.t 147) (.t 142),none⟩,
oo_ 148 (.idxa K.sz (.t 137) (.t 138)),
 ⟨none,.store K.sz (.t 148) (.t 146),none⟩] true)
 (.seq
 (.region [
mm_ 149 10,
oo_ 150 (.bin .add (.t 149) (.c (.int .i64 1))),
mm_ 10 150] false)
 (.region [
mm_ 151 11,
oo_ 152 (.bin .sub (.t 151) (.c (.int .i64 1))),
mm_ 11 152] false)))))))))
 (.seq
 (.region [
mm_ 153 0,
mm_ 154 11,
mm_ 155 0,
mm_ 156 1,
mm_ 157 0,
mm_ 158 1,
oo_ 159 (.idxa K.sz (.t 157) (.t 158)),
oo_ 160 (.load K.ag K.sz (.t 159)),
mm_ 161 0,
mm_ 162 11,
oo_ 163 (.idxa K.sz (.t 161) (.t 162)),
oo_ 164 (.load K.ag K.sz (.t 163)),
oo_ 165 (.idxa K.sz (.t 153) (.t 154)),
 ⟨none,.store K.sz (.t 165) (.t 160),none⟩,
oo_ 166 (.idxa K.sz (.t 155) (.t 156)),
 ⟨none,.store K.sz (.t 166) (.t 164),none⟩] true)
 (.seq
 (.region [
mm_ 167 11,
mm_ 8 167,
oo_ 9 (.mv (.c (.bool false)))] false)
 .ret)))))))))))),
 [.t 8,.t 9]⟩
def cSift (K : SK) : LFunc:=⟨76,4,
 (.seq
 (.region [
mm_ 10 1,
mm_ 8 10] false)
 (.block 0
 (.loop
 (.block 1
 (.seq
 (.region [
mm_ 11 8,
oo_ 12 (.bin .mul (.c (.int .i64 2)) (.t 11)),
oo_ 13 (.bin .add (.t 12) (.c (.int .i64 1))),
mm_ 9 13] false)
 (.seq
 (.seq
 (.region [
mm_ 14 9,
mm_ 15 2,
oo_ 16 (.bin .geq (.t 14) (.t 15))] false)
 (.cond (.t 16)
 (.exit 0)
 .skip))
 (.seq
 (.seq
 (.region [
mm_ 17 9,
oo_ 18 (.bin .add (.t 17) (.c (.int .i64 1))),
mm_ 19 2,
oo_ 20 (.bin .lss (.t 18) (.t 19)),
mm_ 21 20,
gg_ 22 (.mv (.t 0)) 21 true,
gg_ 23 (.mv (.t 3)) 21 true,
gg_ 24 (.mv (.t 9)) 21 true,
gg_ 25 (.bin .add (.t 23) (.t 24)) 21 true,
gg_ 26 (.idxa K.sz (.t 22) (.t 25)) 21 true,
gg_ 27 (.load K.ag K.sz (.t 26)) 21 true,
gg_ 28 (.mv (.t 0)) 21 true,
gg_ 29 (.mv (.t 3)) 21 true,
gg_ 30 (.mv (.t 9)) 21 true,
gg_ 31 (.bin .add (.t 29) (.t 30)) 21 true,
gg_ 32 (.bin .add (.t 31) (.c (.int .i64 1))) 21 true,
gg_ 33 (.idxa K.sz (.t 28) (.t 32)) 21 true,
gg_ 34 (.load K.ag K.sz (.t 33)) 21 true,
gg_ 35 (.call false (.c (.fn K.less [] [])) [.t 27,.t 34]) 21 true,
oo_ 36 (.pick (.t 21) (.t 35) (.c (.bool false)))] true)
 (.cond (.t 36)
 (.region [
mm_ 37 9,
oo_ 38 (.bin .add (.t 37) (.c (.int .i64 1))),
mm_ 9 38] false)
 .skip))
 (.seq
 (.seq
 (.region [
mm_ 39 0,
mm_ 40 3,
mm_ 41 8,
oo_ 42 (.bin .add (.t 40) (.t 41)),
oo_ 43 (.idxa K.sz (.t 39) (.t 42)),
oo_ 44 (.load K.ag K.sz (.t 43)),
mm_ 45 0,
mm_ 46 3,
mm_ 47 9,
oo_ 48 (.bin .add (.t 46) (.t 47)),
oo_ 49 (.idxa K.sz (.t 45) (.t 48)),
oo_ 50 (.load K.ag K.sz (.t 49)),
oo_ 51 (.call false (.c (.fn K.less [] [])) [.t 44,.t 50]),
oo_ 52 (.not (.t 51))] true)
 (.cond (.t 52)
 .ret
 .skip))
 (.seq
 (.region [
mm_ 53 0,
mm_ 54 3,
mm_ 55 8,
oo_ 56 (.bin .add (.t 54) (.t 55)),
mm_ 57 0,
mm_ 58 3,
mm_ 59 9,
oo_ 60 (.bin .add (.t 58) (.t 59)),
mm_ 61 0,
mm_ 62 3,
mm_ 63 9,
oo_ 64 (.bin .add (.t 62) (.t 63)),
oo_ 65 (.idxa K.sz (.t 61) (.t 64)),
oo_ 66 (.load K.ag K.sz (.t 65)),
mm_ 67 0,
mm_ 68 3,
mm_ 69 8,
oo_ 70 (.bin .add (.t 68) (.t 69)),
oo_ 71 (.idxa K.sz (.t 67) (.t 70)),
oo_ 72 (.load K.ag K.sz (.t 71)),
oo_ 73 (.idxa K.sz (.t 53) (.t 56)),
 ⟨none,.store K.sz (.t 73) (.t 66),none⟩,
oo_ 74 (.idxa K.sz (.t 57) (.t 60)),
 ⟨none,.store K.sz (.t 74) (.t 72),none⟩] true)
 (.region [
mm_ 75 9,
mm_ 8 75] false)))))))))),
 []⟩
def cNpo (K : SK) : LFunc:=⟨7,1,
 (.seq
 (.region [
oo_ 2 (.mv (.c (.int .u64 0)))] false)
 (.seq
 (.region [
mm_ 3 0,
oo_ 4 (.conv .u64 (.t 3)),
oo_ 5 (.call false (.c (.fn K.len [] [])) [.t 4]),
oo_ 6 (.bin .shl (.c (.int .u64 1)) (.t 5)),
mm_ 2 6] false)
 .ret)),
 [.t 2]⟩
def cNxt (K : SK) : LFunc:=⟨33,1,
 (.seq
 (.region [
oo_ 2 (.mv (.c (.int .u64 0)))] false)
 (.seq
 (.region [
mm_ 3 0,
oo_ 4 (.nilck (.t 3)),
oo_ 5 (.load false 1 (.t 4)),
mm_ 6 0,
oo_ 7 (.nilck (.t 6)),
oo_ 8 (.load false 1 (.t 7)),
oo_ 9 (.bin .shl (.t 8) (.c (.int .u64 13))),
oo_ 10 (.bin .xor (.t 5) (.t 9)),
oo_ 11 (.nilck (.t 3)),
 ⟨none,.store 1 (.t 11) (.t 10),none⟩] true)
 (.seq
 (.region [
mm_ 12 0,
oo_ 13 (.nilck (.t 12)),
oo_ 14 (.load false 1 (.t 13)),
mm_ 15 0,
oo_ 16 (.nilck (.t 15)),
oo_ 17 (.load false 1 (.t 16)),
oo_ 18 (.bin .shr (.t 17) (.c (.int .u64 7))),
oo_ 19 (.bin .xor (.t 14) (.t 18)),
oo_ 20 (.nilck (.t 12)),
 ⟨none,.store 1 (.t 20) (.t 19),none⟩] true)
 (.seq
 (.region [
mm_ 21 0,
oo_ 22 (.nilck (.t 21)),
oo_ 23 (.load false 1 (.t 22)),
mm_ 24 0,
oo_ 25 (.nilck (.t 24)),
oo_ 26 (.load false 1 (.t 25)),
oo_ 27 (.bin .shl (.t 26) (.c (.int .u64 17))),
oo_ 28 (.bin .xor (.t 23) (.t 27)),
oo_ 29 (.nilck (.t 21)),
 ⟨none,.store 1 (.t 29) (.t 28),none⟩] true)
 (.seq
 (.region [
mm_ 30 0,
oo_ 31 (.nilck (.t 30)),
oo_ 32 (.load false 1 (.t 31)),
mm_ 2 32] false)
 .ret))))),
 [.t 2]⟩
def cMadj (K : SK) : LFunc:=⟨15,3,
 (.seq
 (.region [
oo_ 6 (.mv (.c (.int .i64 0)))] false)
 (.seq
 (.region [
mm_ 7 0,
mm_ 8 1,
oo_ 9 (.bin .sub (.t 8) (.c (.int .i64 1))),
mm_ 10 1,
mm_ 11 1,
oo_ 12 (.bin .add (.t 11) (.c (.int .i64 1))),
mm_ 13 2,
oo_ 14 (.call false (.c (.fn K.med [] [])) [.t 7,.t 9,.t 10,.t 12,.t 13]),
mm_ 6 14] false)
 .ret)),
 [.t 6]⟩
def cMed (K : SK) : LFunc:=⟨36,5,
 (.seq
 (.region [
oo_ 10 (.mv (.c (.int .i64 0)))] false)
 (.seq
 (.region [
mm_ 12 0,
mm_ 13 1,
mm_ 14 2,
mm_ 15 4,
oo_ 16 (.call false (.c (.fn K.ord [] [])) [.t 12,.t 13,.t 14,.t 15]),
mm_ 11 16,
oo_ 17 (.extract (.t 11) 0),
oo_ 18 (.extract (.t 11) 1),
mm_ 1 17,
mm_ 2 18] false)
 (.seq
 (.region [
mm_ 20 0,
mm_ 21 2,
mm_ 22 3,
mm_ 23 4,
oo_ 24 (.call false (.c (.fn K.ord [] [])) [.t 20,.t 21,.t 22,.t 23]),
mm_ 19 24,
oo_ 25 (.extract (.t 19) 0),
oo_ 26 (.extract (.t 19) 1),
mm_ 2 25,
mm_ 3 26] false)
 (.seq
 (.region [
mm_ 28 0,
mm_ 29 1,
mm_ 30 2,
mm_ 31 4,
oo_ 32 (.call false (.c (.fn K.ord [] [])) [.t 28,.t 29,.t 30,.t 31]),
mm_ 27 32,
oo_ 33 (.extract (.t 27) 0),
oo_ 34 (.extract (.t 27) 1),
mm_ 1 33,
mm_ 2 34] false)
 (.seq
 (.region [
mm_ 35 2,
mm_ 10 35] false)
 .ret))))),
 [.t 10]⟩
def cOrd (K : SK) : LFunc:=⟨28,4,
 (.seq
 (.region [
oo_ 8 (.mv (.c (.int .i64 0))),
oo_ 9 (.mv (.c (.int .i64 0)))] false)
 (.seq
 (.seq
 (.region [
mm_ 10 0,
mm_ 11 2,
oo_ 12 (.idxa K.sz (.t 10) (.t 11)),
oo_ 13 (.load K.ag K.sz (.t 12)),
mm_ 14 0,
mm_ 15 1,
oo_ 16 (.idxa K.sz (.t 14) (.t 15)),
oo_ 17 (.load K.ag K.sz (.t 16)),
oo_ 18 (.call false (.c (.fn K.less [] [])) [.t 13,.t 17])] true)
 (.cond (.t 18)
 (.seq
 (.region [
mm_ 19 3,
oo_ 20 (.nilck (.t 19)),
oo_ 21 (.load false 1 (.t 20)),
oo_ 22 (.bin .add (.t 21) (.c (.int .i64 1))),
oo_ 23 (.nilck (.t 19)),
 ⟨none,.store 1 (.t 23) (.t 22),none⟩] false)
 (.seq
 (.region [
mm_ 24 2,
mm_ 25 1,
mm_ 8 24,
mm_ 9 25] false)
 .ret))
 .skip))
 (.seq
 (.region [
mm_ 26 1,
mm_ 27 2,
mm_ 8 26,
mm_ 9 27] false)
 .ret))),
 [.t 8,.t 9]⟩
structure Lays (P : Program) (K : SK) : Prop where
 srt : okFunc P K.srt (cSrt K) = true
 pdq : okFunc P K.pdq (cPdq K) = true
 len : okFunc P K.len (cLen K) = true
 len64 : okFunc P K.len64 (cLen64 K) = true
 ins : okFunc P K.ins (cIns K) = true
 heap : okFunc P K.heap (cHeap K) = true
 brk : okFunc P K.brk (cBrk K) = true
 piv : okFunc P K.piv (cPiv K) = true
 rev : okFunc P K.rev (cRev K) = true
 par : okFunc P K.par (cPar K) = true
 peq : okFunc P K.peq (cPeq K) = true
 prt : okFunc P K.prt (cPrt K) = true
 sift : okFunc P K.sift (cSift K) = true
 npo : okFunc P K.npo (cNpo K) = true
 nxt : okFunc P K.nxt (cNxt K) = true
 madj : okFunc P K.madj (cMadj K) = true
 med : okFunc P K.med (cMed K) = true
 ord : okFunc P K.ord (cOrd K) = true
end Go.AM.Ord
