/- A part of a proof about the given program: what its name says. No premise beyond the statements'. -/
import Derived.Test.YtjfmkhihhdhnnaaGreatDoorDzC0
set_option linter.unusedSimpArgs false
set_option linter.unusedVariables false
/- A part of the program's functions in the short form, each checked against the program. -/
namespace Go.AM.Dz
open Go.AM
def lf167 : LFunc := ⟨36, 3,
(.seq
(.region [
o_ 3 (.box 7 (.t 0)),
o_ 4 (.box 2 (.t 1)),
o_ 5 (.box 2 (.t 2)),
o_ 6 (.newv [.int .i64 0, .int .i64 0])] false)
(.seq
(.seq
(.region [
o_ 7 (.mv (.c (.int .i64 0)))] false)
(.block 0
(.loop
(.seq
(.seq
(.region [
m_ 9 7,
o_ 10 (.fadr 2 (.t 3)),
o_ 11 (.load false 1 (.t 10)),
o_ 12 (.len .sli (.t 11)),
o_ 13 (.bin .lss (.t 9) (.t 12))] false)
(.cond (.t 13)
.skip
(.exit 0)))
(.seq
(.block 1
(.seq
(.region [
o_ 16 (.fadr 2 (.t 3)),
o_ 17 (.load false 1 (.t 16)),
m_ 18 7,
o_ 19 (.idxa 18 (.t 17) (.t 18)),
o_ 20 (.load true 18 (.t 19)),
o_ 8 (.newv [.int .i64 0, .int .i64 0, .int .i64 0, .int .i64 0, .int .i64 0, .int .i64 0, .int .i64 0, .int .i64 0, .nils, .bool false, .int .i64 0, .int .i64 0, .str ⟨#[]⟩, .nils, .int .i64 0, .int .i64 0, .int .i64 0, .int .i64 0]),
⟨none, .store 18 (.t 8) (.t 20), none⟩] false)
(.seq
(.region [
o_ 21 (.fadr 0 (.t 8)),
o_ 22 (.load false 1 (.t 21)),
o_ 23 (.bin .eql (.t 22) (.c (.int .i64 11))),
m_ 24 23,
g_ 25 (.fadr 2 (.t 8)) 24 true,
g_ 26 (.load true 2 (.t 25)) 24 true,
g_ 27 (.load true 2 (.t 4)) 24 true,
g_ 28 (.eq false (.ag [.i, .i]) (.t 26) (.t 27)) 24 true,
o_ 29 (.pick (.t 24) (.t 28) (.c (.bool false)))] false)
(.cond (.t 29)
(.region [
o_ 30 (.fadr 15 (.t 8)),
o_ 31 (.load false 1 (.t 30)),
o_ 32 (.fadr 16 (.t 8)),
o_ 33 (.load false 1 (.t 32)),
o_ 34 (.build [.int .i64 0, .int .i64 0] [(0, 1, .t 31), (1, 1, .t 33)]),
⟨none, .store 2 (.t 5) (.t 34), none⟩] false)
.skip))))
(.region [
m_ 14 7,
o_ 15 (.bin .add (.t 14) (.c (.int .i64 1))),
m_ 7 15] false))))))
(.seq
(.region [
o_ 35 (.load true 2 (.t 5)),
⟨none, .store 2 (.t 6) (.t 35), none⟩] false)
.ret))),
[.cell true 2 6]⟩
theorem ok167 : okFunc Go.Proofs.Tryz.prog 167 lf167 = true := by kernel_rfl
def lf168 : LFunc := ⟨41, 1,
(.seq
(.region [
o_ 1 (.box 2 (.t 0)),
o_ 2 (.mv (.c (.bool false)))] false)
(.seq
(.region [
o_ 3 (.fadr 0 (.t 1)),
o_ 4 (.load false 1 (.t 3)),
o_ 5 (.bin .geq (.t 4) (.c (.int .i64 1))),
m_ 6 5,
g_ 7 (.fadr 0 (.t 1)) 6 true,
g_ 8 (.load false 1 (.t 7)) 6 true,
g_ 9 (.bin .leq (.t 8) (.c (.int .i64 32))) 6 true,
o_ 10 (.pick (.t 6) (.t 9) (.c (.bool false))),
m_ 11 10,
g_ 12 (.fadr 1 (.t 1)) 11 true,
g_ 13 (.load false 1 (.t 12)) 11 true,
g_ 14 (.bin .eql (.t 13) (.c (.int .i64 1))) 11 true,
g_ 15 (.mv (.t 14)) 11 true,
g_ 16 (.fadr 1 (.t 1)) 15 false,
g_ 17 (.load false 1 (.t 16)) 15 false,
g_ 18 (.bin .eql (.t 17) (.c (.int .i64 2))) 15 false,
g_ 19 (.pick (.t 15) (.c (.bool true)) (.t 18)) 11 true,
g_ 20 (.mv (.t 19)) 11 true,
g_ 21 (.fadr 1 (.t 1)) 20 false,
g_ 22 (.load false 1 (.t 21)) 20 false,
g_ 23 (.bin .eql (.t 22) (.c (.int .i64 4))) 20 false,
g_ 24 (.pick (.t 20) (.c (.bool true)) (.t 23)) 11 true,
g_ 25 (.mv (.t 24)) 11 true,
g_ 26 (.fadr 1 (.t 1)) 25 false,
g_ 27 (.load false 1 (.t 26)) 25 false,
g_ 28 (.bin .eql (.t 27) (.c (.int .i64 8))) 25 false,
g_ 29 (.pick (.t 25) (.c (.bool true)) (.t 28)) 11 true,
g_ 30 (.mv (.t 29)) 11 true,
g_ 31 (.fadr 1 (.t 1)) 30 false,
g_ 32 (.load false 1 (.t 31)) 30 false,
g_ 33 (.bin .eql (.t 32) (.c (.int .i64 16))) 30 false,
g_ 34 (.pick (.t 30) (.c (.bool true)) (.t 33)) 11 true,
g_ 35 (.mv (.t 34)) 11 true,
g_ 36 (.fadr 1 (.t 1)) 35 false,
g_ 37 (.load false 1 (.t 36)) 35 false,
g_ 38 (.bin .eql (.t 37) (.c (.int .i64 32))) 35 false,
g_ 39 (.pick (.t 35) (.c (.bool true)) (.t 38)) 11 true,
o_ 40 (.pick (.t 11) (.t 39) (.c (.bool false))),
m_ 2 40] false)
.ret)),
[.t 2]⟩
theorem ok168 : okFunc Go.Proofs.Tryz.prog 168 lf168 = true := by kernel_rfl
def lf169 : LFunc := ⟨30, 2,
(.seq
(.region [
o_ 4 (.newv [.int .i64 0, .int .i64 0]),
o_ 5 (.mv (.c (.int .i64 0)))] false)
(.seq
(.seq
(.region [
m_ 6 1,
o_ 7 (.bin .eql (.t 6) (.c (.int .i64 0))),
m_ 8 7,
g_ 9 (.mv (.t 0)) 8 false,
g_ 10 (.bin .lss (.t 9) (.c (.int .i64 (-1152921504606846976)))) 8 false,
o_ 11 (.pick (.t 8) (.c (.bool true)) (.t 10)),
m_ 12 11,
g_ 13 (.mv (.t 0)) 12 false,
g_ 14 (.bin .gtr (.t 13) (.c (.int .i64 1152921504606846976))) 12 false,
o_ 15 (.pick (.t 12) (.c (.bool true)) (.t 14)),
m_ 16 15,
g_ 17 (.mv (.t 1)) 16 false,
g_ 18 (.bin .lss (.t 17) (.c (.int .i64 (-1152921504606846976)))) 16 false,
o_ 19 (.pick (.t 16) (.c (.bool true)) (.t 18)),
m_ 20 19,
g_ 21 (.mv (.t 1)) 20 false,
g_ 22 (.bin .gtr (.t 21) (.c (.int .i64 1152921504606846976))) 20 false,
o_ 23 (.pick (.t 20) (.c (.bool true)) (.t 22))] false)
(.cond (.t 23)
(.seq
(.region [
o_ 24 (.build [.int .i64 0, .int .i64 0] []),
⟨none, .store 2 (.t 4) (.t 24), none⟩,
o_ 5 (.mv (.c (.int .i64 2)))] false)
.ret)
.skip))
(.seq
(.region [
m_ 25 0,
m_ 26 1,
o_ 27 (.call false (.c (.fn 171 [] [])) [.t 25, .t 26]),
o_ 28 (.extract (.t 27) 0),
o_ 29 (.extract (.t 27) 1),
⟨none, .store 2 (.t 4) (.t 28), none⟩,
m_ 5 29] false)
.ret))),
[.cell true 2 4, .t 5]⟩
theorem ok169 : okFunc Go.Proofs.Tryz.prog 169 lf169 = true := by kernel_rfl
def lf170 : LFunc := ⟨12, 2,
(.seq
(.region [
o_ 4 (.mv (.c (.int .i64 0)))] false)
(.seq
(.block 0
(.loop
(.seq
(.seq
(.region [
m_ 5 1,
o_ 6 (.bin .neq (.t 5) (.c (.int .i64 0)))] false)
(.cond (.t 6)
.skip
(.exit 0)))
(.block 1
(.region [
m_ 7 1,
m_ 8 0,
m_ 9 1,
o_ 10 (.bin .rem (.t 8) (.t 9)),
m_ 0 7,
m_ 1 10] true)))))
(.seq
(.region [
m_ 11 0,
m_ 4 11] false)
.ret))),
[.t 4]⟩
theorem ok170 : okFunc Go.Proofs.Tryz.prog 170 lf170 = true := by kernel_rfl
def lf171 : LFunc := ⟨36, 2,
(.seq
(.region [
o_ 4 (.newv [.int .i64 0, .int .i64 0]),
o_ 5 (.mv (.c (.int .i64 0)))] false)
(.seq
(.seq
(.region [
m_ 8 1,
o_ 9 (.bin .lss (.t 8) (.c (.int .i64 0)))] false)
(.cond (.t 9)
(.region [
m_ 10 0,
o_ 11 (.bin .sub (.c (.int .i64 0)) (.t 10)),
m_ 12 1,
o_ 13 (.bin .sub (.c (.int .i64 0)) (.t 12)),
m_ 0 11,
m_ 1 13] false)
.skip))
(.seq
(.region [
m_ 14 0,
o_ 15 (.call false (.c (.fn 172 [] [])) [.t 14]),
m_ 16 1,
o_ 17 (.call false (.c (.fn 170 [] [])) [.t 15, .t 16]),
m_ 6 17] false)
(.seq
(.region [
m_ 18 0,
m_ 19 6,
o_ 20 (.bin .quo (.t 18) (.t 19)),
m_ 21 1,
m_ 22 6,
o_ 23 (.bin .quo (.t 21) (.t 22)),
o_ 24 (.build [.int .i64 0, .int .i64 0] [(0, 1, .t 20), (1, 1, .t 23)]),
o_ 7 (.newv [.int .i64 0, .int .i64 0]),
⟨none, .store 2 (.t 7) (.t 24), none⟩] true)
(.seq
(.seq
(.region [
o_ 25 (.fadr 0 (.t 7)),
o_ 26 (.load false 1 (.t 25)),
o_ 27 (.call false (.c (.fn 172 [] [])) [.t 26]),
o_ 28 (.bin .gtr (.t 27) (.c (.int .i64 1099511627776))),
m_ 29 28,
g_ 30 (.fadr 1 (.t 7)) 29 false,
g_ 31 (.load false 1 (.t 30)) 29 false,
g_ 32 (.bin .gtr (.t 31) (.c (.int .i64 1048576))) 29 false,
o_ 33 (.pick (.t 29) (.c (.bool true)) (.t 32))] false)
(.cond (.t 33)
(.seq
(.region [
o_ 34 (.build [.int .i64 0, .int .i64 0] []),
⟨none, .store 2 (.t 4) (.t 34), none⟩,
o_ 5 (.mv (.c (.int .i64 3)))] false)
.ret)
.skip))
(.seq
(.region [
o_ 35 (.load true 2 (.t 7)),
⟨none, .store 2 (.t 4) (.t 35), none⟩,
o_ 5 (.mv (.c (.int .i64 0)))] false)
.ret)))))),
[.cell true 2 4, .t 5]⟩
theorem ok171 : okFunc Go.Proofs.Tryz.prog 171 lf171 = true := by kernel_rfl
def lf172 : LFunc := ⟨7, 1,
(.seq
(.region [
o_ 2 (.mv (.c (.int .i64 0)))] false)
(.seq
(.region [
m_ 3 0,
m_ 4 0,
o_ 5 (.bin .sub (.c (.int .i64 0)) (.t 4)),
o_ 6 (.maxs [.t 3, .t 5]),
m_ 2 6] false)
.ret)),
[.t 2]⟩
theorem ok172 : okFunc Go.Proofs.Tryz.prog 172 lf172 = true := by kernel_rfl
def lf173 : LFunc := ⟨135, 1,
(.seq
(.region [
o_ 1 (.box 7 (.t 0)),
o_ 2 (.mv (.c (.bool false)))] false)
(.seq
(.seq
(.region [
o_ 12 (.fadr 0 (.t 1)),
o_ 13 (.load false 1 (.t 12)),
o_ 14 (.bin .lss (.t 13) (.c (.int .i64 0))),
m_ 15 14,
g_ 16 (.fadr 0 (.t 1)) 15 false,
g_ 17 (.load false 1 (.t 16)) 15 false,
g_ 18 (.bin .geq (.t 17) (.c (.int .i64 16))) 15 false,
o_ 19 (.pick (.t 15) (.c (.bool true)) (.t 18)),
m_ 20 19,
g_ 21 (.fadr 1 (.t 1)) 20 false,
g_ 22 (.load false 1 (.t 21)) 20 false,
g_ 23 (.bin .lss (.t 22) (.c (.int .i64 0))) 20 false,
o_ 24 (.pick (.t 20) (.c (.bool true)) (.t 23)),
m_ 25 24,
g_ 26 (.fadr 1 (.t 1)) 25 false,
g_ 27 (.load false 1 (.t 26)) 25 false,
g_ 28 (.bin .geq (.t 27) (.c (.int .i64 4))) 25 false,
o_ 29 (.pick (.t 25) (.c (.bool true)) (.t 28)),
m_ 30 29,
g_ 31 (.fadr 2 (.t 1)) 30 false,
g_ 32 (.load false 1 (.t 31)) 30 false,
g_ 33 (.len .sli (.t 32)) 30 false,
g_ 34 (.bin .gtr (.t 33) (.c (.int .i64 4096))) 30 false,
o_ 35 (.pick (.t 30) (.c (.bool true)) (.t 34)),
m_ 36 35,
g_ 37 (.fadr 3 (.t 1)) 36 false,
g_ 38 (.load false 1 (.t 37)) 36 false,
g_ 39 (.len .sli (.t 38)) 36 false,
g_ 40 (.bin .gtr (.t 39) (.c (.int .i64 4096))) 36 false,
o_ 41 (.pick (.t 36) (.c (.bool true)) (.t 40))] false)
(.cond (.t 41)
(.seq
(.region [
o_ 2 (.mv (.c (.bool false)))] false)
.ret)
.skip))
(.seq
(.seq
(.region [
o_ 42 (.fadr 3 (.t 1)),
o_ 43 (.load false 1 (.t 42)),
o_ 44 (.len .sli (.t 43)),
o_ 45 (.mv (.c (.int .i64 0)))] false)
(.block 0
(.loop
(.seq
(.region [
o_ 46 (.bin .lss (.t 45) (.t 44))] false)
(.seq
(.cond (.t 46)
.skip
(.exit 0))
(.seq
(.block 1
(.seq
(.region [
o_ 47 (.idxa 4 (.t 43) (.t 45)),
o_ 48 (.load true 4 (.t 47)),
o_ 4 (.newv [.int .i64 0, .int .i64 0, .int .i64 0, .int .i64 0]),
⟨none, .store 4 (.t 4) (.t 48), none⟩] false)
(.seq
(.region [
o_ 49 (.load true 7 (.t 1)),
o_ 50 (.load true 4 (.t 4)),
o_ 51 (.call false (.c (.fn 238 [] [])) [.t 49, .t 50]),
o_ 52 (.not (.t 51))] false)
(.cond (.t 52)
(.seq
(.region [
o_ 2 (.mv (.c (.bool false)))] false)
.ret)
.skip))))
(.region [
o_ 53 (.bin .add (.t 45) (.c (.int .i64 1))),
m_ 45 53] false)))))))
(.seq
(.region [
o_ 54 (.call false (.c (.fn 239 [] [])) [.c (.int .i64 0)]),
o_ 5 (.newv [.int .i64 0, .int .i64 0]),
⟨none, .store 2 (.t 5) (.t 54), none⟩] false)
(.seq
(.region [
o_ 6 (.mv (.c (.int .i64 0)))] false)
(.seq
(.seq
(.region [
o_ 55 (.fadr 2 (.t 1)),
o_ 56 (.load false 1 (.t 55)),
o_ 57 (.len .sli (.t 56)),
o_ 58 (.mv (.c (.int .i64 0)))] false)
(.block 2
(.loop
(.seq
(.region [
o_ 59 (.bin .lss (.t 58) (.t 57))] false)
(.seq
(.cond (.t 59)
.skip
(.exit 2))
(.seq
(.block 3
(.seq
(.region [
m_ 60 58,
o_ 61 (.idxa 18 (.t 56) (.t 58)),
o_ 62 (.load true 18 (.t 61)),
o_ 8 (.newv [.int .i64 0, .int .i64 0, .int .i64 0, .int .i64 0, .int .i64 0, .int .i64 0, .int .i64 0, .int .i64 0, .nils, .bool false, .int .i64 0, .int .i64 0, .str ⟨#[]⟩, .nils, .int .i64 0, .int .i64 0, .int .i64 0, .int .i64 0]),
m_ 7 60,
⟨none, .store 18 (.t 8) (.t 62), none⟩] false)
(.seq
(.region [
o_ 63 (.fadr 9 (.t 8)),
o_ 64 (.load true 4 (.t 63)),
o_ 9 (.newv [.bool false, .int .i64 0, .int .i64 0, .str ⟨#[]⟩]),
⟨none, .store 4 (.t 9) (.t 64), none⟩] false)
(.seq
(.seq
(.region [
o_ 65 (.load true 7 (.t 1)),
m_ 66 7,
o_ 67 (.call false (.c (.fn 240 [] [])) [.t 65, .t 66]),
o_ 68 (.not (.t 67)),
m_ 69 68,
g_ 70 (.fadr 2 (.t 8)) 69 false,
g_ 71 (.load true 2 (.t 70)) 69 false,
g_ 72 (.load true 2 (.t 5)) 69 false,
g_ 73 (.eq true (.ag [.i, .i]) (.t 71) (.t 72)) 69 false,
o_ 74 (.pick (.t 69) (.c (.bool true)) (.t 73)),
m_ 75 74,
g_ 76 (.fadr 1 (.t 9)) 75 false,
g_ 77 (.load false 1 (.t 76)) 75 false,
g_ 78 (.bin .lss (.t 77) (.c (.int .i64 0))) 75 false,
o_ 79 (.pick (.t 75) (.c (.bool true)) (.t 78)),
m_ 80 79,
g_ 81 (.fadr 1 (.t 9)) 80 false,
g_ 82 (.load false 1 (.t 81)) 80 false,
g_ 83 (.bin .gtr (.t 82) (.c (.int .i64 4))) 80 false,
o_ 84 (.pick (.t 80) (.c (.bool true)) (.t 83)),
m_ 85 84,
g_ 86 (.fadr 2 (.t 9)) 85 false,
g_ 87 (.load false 1 (.t 86)) 85 false,
g_ 88 (.bin .lss (.t 87) (.c (.int .i64 0))) 85 false,
o_ 89 (.pick (.t 85) (.c (.bool true)) (.t 88)),
m_ 90 89,
g_ 91 (.fadr 2 (.t 9)) 90 false,
g_ 92 (.load false 1 (.t 91)) 90 false,
g_ 93 (.mv (.t 6)) 90 false,
g_ 94 (.bin .gtr (.t 92) (.t 93)) 90 false,
o_ 95 (.pick (.t 90) (.c (.bool true)) (.t 94)),
m_ 96 95,
g_ 97 (.fadr 2 (.t 1)) 96 false,
g_ 98 (.load false 1 (.t 97)) 96 false,
g_ 99 (.mv (.t 7)) 96 false,
g_ 100 (.call false (.c (.fn 241 [] [])) [.t 98, .t 99]) 96 false,
g_ 101 (.not (.t 100)) 96 false,
o_ 102 (.pick (.t 96) (.c (.bool true)) (.t 101))] false)
(.cond (.t 102)
(.seq
(.region [
o_ 2 (.mv (.c (.bool false)))] false)
.ret)
.skip))
(.seq
(.region [
m_ 103 6,
o_ 104 (.fadr 1 (.t 9)),
o_ 105 (.load false 1 (.t 104)),
o_ 106 (.fadr 2 (.t 9)),
o_ 107 (.load false 1 (.t 106)),
o_ 108 (.bin .sub (.t 105) (.t 107)),
o_ 109 (.bin .add (.t 103) (.t 108)),
m_ 6 109] false)
(.seq
(.region [
o_ 111 (.load true 2 (.t 5)),
o_ 112 (.fadr 4 (.t 8)),
o_ 113 (.load true 2 (.t 112)),
o_ 114 (.call false (.c (.fn 125 [] [])) [.t 111, .t 113]),
m_ 110 114,
o_ 115 (.extract (.t 110) 0),
o_ 116 (.extract (.t 110) 1),
o_ 10 (.newv [.int .i64 0, .int .i64 0]),
⟨none, .store 2 (.t 10) (.t 115), none⟩,
m_ 11 116] false)
(.seq
(.seq
(.region [
m_ 117 11,
o_ 118 (.bin .neq (.t 117) (.c (.int .i64 0)))] false)
(.cond (.t 118)
(.seq
(.region [
o_ 2 (.mv (.c (.bool false)))] false)
.ret)
.skip))
(.region [
o_ 119 (.load true 2 (.t 10)),
⟨none, .store 2 (.t 5) (.t 119), none⟩] false))))))))
(.region [
o_ 120 (.bin .add (.t 58) (.c (.int .i64 1))),
m_ 58 120] false)))))))
(.seq
(.region [
m_ 121 6,
o_ 122 (.bin .eql (.t 121) (.c (.int .i64 0))),
m_ 123 122,
g_ 124 (.fadr 4 (.t 1)) 123 true,
g_ 125 (.load true 2 (.t 124)) 123 true,
g_ 126 (.load true 2 (.t 5)) 123 true,
g_ 127 (.eq false (.ag [.i, .i]) (.t 125) (.t 126)) 123 true,
o_ 128 (.pick (.t 123) (.t 127) (.c (.bool false))),
m_ 129 128,
g_ 130 (.fadr 2 (.t 1)) 129 true,
g_ 131 (.load false 1 (.t 130)) 129 true,
g_ 132 (.call false (.c (.fn 242 [] [])) [.t 131]) 129 true,
g_ 133 (.bin .lss (.t 132) (.c (.int .i64 0))) 129 true,
o_ 134 (.pick (.t 129) (.t 133) (.c (.bool false))),
m_ 2 134] false)
.ret))))))),
[.t 2]⟩
theorem ok173 : okFunc Go.Proofs.Tryz.prog 173 lf173 = true := by kernel_rfl
def lf174 : LFunc := ⟨27, 2,
(.seq
(.region [
o_ 2 (.box 7 (.t 0)),
o_ 3 (.box 7 (.t 1)),
o_ 4 (.mv (.c (.bool false)))] false)
(.seq
(.seq
(.region [
o_ 5 (.fadr 0 (.t 3)),
o_ 6 (.load false 1 (.t 5)),
o_ 7 (.fadr 0 (.t 2)),
o_ 8 (.load false 1 (.t 7)),
o_ 9 (.bin .eql (.t 6) (.t 8))] false)
(.cond (.t 9)
(.seq
(.region [
o_ 10 (.fadr 1 (.t 3)),
o_ 11 (.load false 1 (.t 10)),
o_ 12 (.fadr 1 (.t 2)),
o_ 13 (.load false 1 (.t 12)),
o_ 14 (.bin .add (.t 13) (.c (.int .i64 1))),
o_ 15 (.bin .eql (.t 11) (.t 14)),
m_ 4 15] false)
.ret)
.skip))
(.seq
(.region [
o_ 16 (.fadr 0 (.t 3)),
o_ 17 (.load false 1 (.t 16)),
o_ 18 (.fadr 0 (.t 2)),
o_ 19 (.load false 1 (.t 18)),
o_ 20 (.bin .add (.t 19) (.c (.int .i64 1))),
o_ 21 (.bin .eql (.t 17) (.t 20)),
m_ 22 21,
g_ 23 (.fadr 1 (.t 3)) 22 true,
g_ 24 (.load false 1 (.t 23)) 22 true,
g_ 25 (.bin .eql (.t 24) (.c (.int .i64 0))) 22 true,
o_ 26 (.pick (.t 22) (.t 25) (.c (.bool false))),
m_ 4 26] false)
.ret))),
[.t 4]⟩
theorem ok174 : okFunc Go.Proofs.Tryz.prog 174 lf174 = true := by kernel_rfl
def lf175 : LFunc := ⟨11, 2,
(.seq
(.region [
o_ 2 (.box 2 (.t 0)),
o_ 3 (.box 2 (.t 1)),
o_ 4 (.mv (.c (.bool false)))] false)
(.seq
(.region [
o_ 5 (.load true 2 (.t 2)),
o_ 6 (.call false (.c (.fn 116 [] [])) [.t 5]),
m_ 7 6,
g_ 8 (.load true 2 (.t 3)) 7 true,
g_ 9 (.call false (.c (.fn 116 [] [])) [.t 8]) 7 true,
o_ 10 (.pick (.t 7) (.t 9) (.c (.bool false))),
m_ 4 10] false)
.ret)),
[.t 4]⟩
theorem ok175 : okFunc Go.Proofs.Tryz.prog 175 lf175 = true := by kernel_rfl
def lf176 : LFunc := ⟨27, 1,
(.seq
(.region [
o_ 1 (.box 7 (.t 0)),
o_ 2 (.mv (.c (.nilm)))] false)
(.seq
(.region [
o_ 6 (.mkmap),
m_ 3 6] false)
(.seq
(.seq
(.region [
o_ 7 (.fadr 2 (.t 1)),
o_ 8 (.load false 1 (.t 7)),
o_ 9 (.len .sli (.t 8)),
o_ 10 (.mv (.c (.int .i64 0)))] false)
(.block 0
(.loop
(.seq
(.region [
o_ 11 (.bin .lss (.t 10) (.t 9))] false)
(.seq
(.cond (.t 11)
.skip
(.exit 0))
(.seq
(.block 1
(.seq
(.region [
o_ 12 (.idxa 18 (.t 8) (.t 10)),
o_ 13 (.load true 18 (.t 12)),
o_ 5 (.newv [.int .i64 0, .int .i64 0, .int .i64 0, .int .i64 0, .int .i64 0, .int .i64 0, .int .i64 0, .int .i64 0, .nils, .bool false, .int .i64 0, .int .i64 0, .str ⟨#[]⟩, .nils, .int .i64 0, .int .i64 0, .int .i64 0, .int .i64 0]),
⟨none, .store 18 (.t 5) (.t 13), none⟩] false)
(.seq
(.region [
o_ 14 (.fadr 0 (.t 5)),
o_ 15 (.load false 1 (.t 14)),
o_ 16 (.bin .eql (.t 15) (.c (.int .i64 11)))] false)
(.cond (.t 16)
(.region [
m_ 17 3,
o_ 18 (.fadr 2 (.t 5)),
o_ 19 (.load true 2 (.t 18)),
o_ 20 (.fadr 15 (.t 5)),
o_ 21 (.load false 1 (.t 20)),
o_ 22 (.fadr 16 (.t 5)),
o_ 23 (.load false 1 (.t 22)),
o_ 24 (.build [.int .i64 0, .int .i64 0] [(0, 1, .t 21), (1, 1, .t 23)]),
⟨none, .mapupd (.ag [.i, .i]) (.t 17) (.t 19) (.t 24), none⟩] false)
.skip))))
(.region [
o_ 25 (.bin .add (.t 10) (.c (.int .i64 1))),
m_ 10 25] false)))))))
(.seq
(.region [
m_ 26 3,
m_ 2 26] false)
.ret)))),
[.t 2]⟩
theorem ok176 : okFunc Go.Proofs.Tryz.prog 176 lf176 = true := by kernel_rfl
def lf177 : LFunc := ⟨2, 0,
(.seq
(.region [
o_ 0 (.newv [.int .i64 0, .int .i64 0])] false)
(.seq
(.region [
o_ 1 (.build [.int .i64 0, .int .i64 0] [(1, 1, .c (.int .i64 1))]),
⟨none, .store 2 (.t 0) (.t 1), none⟩] false)
.ret)),
[.cell true 2 0]⟩
theorem ok177 : okFunc Go.Proofs.Tryz.prog 177 lf177 = true := by kernel_rfl
def lf178 : LFunc := ⟨21, 1,
(.seq
(.region [
o_ 1 (.box 4 (.t 0)),
o_ 2 (.newv [.int .i64 0, .int .i64 0])] false)
(.seq
(.region [
o_ 8 (.fadr 2 (.t 1)),
o_ 9 (.load true 2 (.t 8)),
o_ 10 (.call false (.c (.fn 124 [] [])) [.t 9]),
m_ 7 10,
o_ 11 (.extract (.t 7) 0),
o_ 12 (.extract (.t 7) 1),
o_ 3 (.newv [.int .i64 0, .int .i64 0]),
⟨none, .store 2 (.t 3) (.t 11), none⟩,
m_ 4 12] false)
(.seq
(.region [
o_ 14 (.fadr 0 (.t 1)),
o_ 15 (.load true 2 (.t 14)),
o_ 16 (.load true 2 (.t 3)),
o_ 17 (.call false (.c (.fn 125 [] [])) [.t 15, .t 16]),
m_ 13 17,
o_ 18 (.extract (.t 13) 0),
o_ 19 (.extract (.t 13) 1),
o_ 5 (.newv [.int .i64 0, .int .i64 0]),
⟨none, .store 2 (.t 5) (.t 18), none⟩,
m_ 6 19] false)
(.seq
(.region [
o_ 20 (.load true 2 (.t 5)),
⟨none, .store 2 (.t 2) (.t 20), none⟩] false)
.ret)))),
[.cell true 2 2]⟩
theorem ok178 : okFunc Go.Proofs.Tryz.prog 178 lf178 = true := by kernel_rfl
def lf179 : LFunc := ⟨33, 2,
(.seq
(.region [
o_ 3 (.box 2 (.t 1)),
o_ 4 (.mv (.c (.bool false)))] false)
(.seq
(.region [
m_ 6 0,
o_ 7 (.load true 2 (.t 3)),
o_ 8 (.call false (.c (.fn 117 [] [])) [.t 6, .t 7]),
m_ 5 8] false)
(.seq
(.region [
m_ 9 5,
m_ 10 0,
o_ 11 (.len .sli (.t 10)),
o_ 12 (.bin .lss (.t 9) (.t 11)),
m_ 13 12,
g_ 14 (.mv (.t 0)) 13 true,
g_ 15 (.mv (.t 5)) 13 true,
g_ 16 (.idxa 4 (.t 14) (.t 15)) 13 true,
g_ 17 (.fadr 0 (.t 16)) 13 true,
g_ 18 (.load true 2 (.t 17)) 13 true,
g_ 19 (.load true 2 (.t 3)) 13 true,
g_ 20 (.eq false (.ag [.i, .i]) (.t 18) (.t 19)) 13 true,
o_ 21 (.pick (.t 13) (.t 20) (.c (.bool false))),
m_ 22 21,
g_ 23 (.mv (.t 0)) 22 false,
g_ 24 (.mv (.t 0)) 22 false,
g_ 25 (.len .sli (.t 24)) 22 false,
g_ 26 (.bin .sub (.t 25) (.c (.int .i64 1))) 22 false,
g_ 27 (.idxa 4 (.t 23) (.t 26)) 22 false,
g_ 28 (.load true 4 (.t 27)) 22 false,
g_ 29 (.call false (.c (.fn 178 [] [])) [.t 28]) 22 false,
g_ 30 (.load true 2 (.t 3)) 22 false,
g_ 31 (.eq false (.ag [.i, .i]) (.t 29) (.t 30)) 22 false,
o_ 32 (.pick (.t 22) (.c (.bool true)) (.t 31)),
m_ 4 32] true)
.ret))),
[.t 4]⟩
theorem ok179 : okFunc Go.Proofs.Tryz.prog 179 lf179 = true := by kernel_rfl
def lf180 : LFunc := ⟨37, 2,
(.seq
(.region [
o_ 3 (.box 18 (.t 1)),
o_ 4 (.mv (.c (.bool false)))] false)
(.seq
(.region [
m_ 8 0,
o_ 9 (.fadr 2 (.t 3)),
o_ 10 (.load true 2 (.t 9)),
o_ 11 (.call false (.c (.fn 117 [] [])) [.t 8, .t 10]),
m_ 5 11] false)
(.seq
(.seq
(.region [
m_ 12 5,
m_ 13 0,
o_ 14 (.len .sli (.t 13)),
o_ 15 (.bin .eql (.t 12) (.t 14)),
m_ 16 15,
g_ 17 (.fadr 0 (.t 3)) 16 false,
g_ 18 (.load false 1 (.t 17)) 16 false,
g_ 19 (.bin .gtr (.t 18) (.c (.int .i64 4))) 16 false,
o_ 20 (.pick (.t 16) (.c (.bool true)) (.t 19))] false)
(.cond (.t 20)
(.seq
(.region [
o_ 4 (.mv (.c (.bool false)))] false)
.ret)
.skip))
(.seq
(.region [
o_ 22 (.fadr 2 (.t 3)),
o_ 23 (.load true 2 (.t 22)),
o_ 24 (.fadr 4 (.t 3)),
o_ 25 (.load true 2 (.t 24)),
o_ 26 (.call false (.c (.fn 125 [] [])) [.t 23, .t 25]),
m_ 21 26,
o_ 27 (.extract (.t 21) 0),
o_ 28 (.extract (.t 21) 1),
o_ 6 (.newv [.int .i64 0, .int .i64 0]),
⟨none, .store 2 (.t 6) (.t 27), none⟩,
m_ 7 28] false)
(.seq
(.region [
o_ 29 (.load true 2 (.t 6)),
m_ 30 0,
m_ 31 5,
o_ 32 (.idxa 4 (.t 30) (.t 31)),
o_ 33 (.load true 4 (.t 32)),
o_ 34 (.call false (.c (.fn 178 [] [])) [.t 33]),
o_ 35 (.call false (.c (.fn 112 [] [])) [.t 29, .t 34]),
o_ 36 (.bin .gtr (.t 35) (.c (.int .i64 0))),
m_ 4 36] true)
.ret))))),
[.t 4]⟩
theorem ok180 : okFunc Go.Proofs.Tryz.prog 180 lf180 = true := by kernel_rfl
def lf181 : LFunc := ⟨13, 2,
(.seq
(.region [
o_ 4 (.mv (.c (.int .i64 0)))] false)
(.seq
(.seq
(.region [
m_ 5 1,
o_ 6 (.bin .eql (.t 5) (.c (.int .i64 0)))] false)
(.cond (.t 6)
(.seq
(.region [
m_ 7 0,
m_ 4 7] false)
.ret)
.skip))
(.seq
(.region [
m_ 8 1,
m_ 9 0,
m_ 10 1,
o_ 11 (.bin .rem (.t 9) (.t 10)),
o_ 12 (.call false (.c (.fn 181 [] [])) [.t 8, .t 11]),
m_ 4 12] false)
.ret))),
[.t 4]⟩
theorem ok181 : okFunc Go.Proofs.Tryz.prog 181 lf181 = true := by kernel_rfl
def lf182 : LFunc := ⟨8, 1,
(.seq
(.region [
o_ 2 (.mv (.c (.int .i64 0)))] false)
(.seq
(.seq
(.region [
m_ 3 0,
o_ 4 (.bin .lss (.t 3) (.c (.int .i64 0)))] false)
(.cond (.t 4)
(.seq
(.region [
m_ 5 0,
o_ 6 (.neg (.t 5)),
m_ 2 6] false)
.ret)
.skip))
(.seq
(.region [
m_ 7 0,
m_ 2 7] false)
.ret))),
[.t 2]⟩
theorem ok182 : okFunc Go.Proofs.Tryz.prog 182 lf182 = true := by kernel_rfl
def lf183 : LFunc := ⟨49, 3,
(.seq
(.region [
o_ 4 (.box 2 (.t 1)),
o_ 6 (.mv (.c (.int .i64 0))),
o_ 7 (.mv (.c (.bool false)))] false)
(.seq
(.region [
m_ 12 0,
o_ 13 (.len .sli (.t 12)),
m_ 8 13] false)
(.seq
(.region [
m_ 14 8,
o_ 9 (.mv (.c (.int .i64 0))),
m_ 10 14] false)
(.seq
(.block 0
(.loop
(.seq
(.seq
(.region [
m_ 15 9,
m_ 16 10,
o_ 17 (.bin .lss (.t 15) (.t 16))] false)
(.cond (.t 17)
.skip
(.exit 0)))
(.block 1
(.seq
(.region [
m_ 18 9,
m_ 19 10,
o_ 20 (.bin .add (.t 18) (.t 19)),
o_ 21 (.conv .u64 (.t 20)),
o_ 22 (.bin .shr (.t 21) (.c (.int .u64 1))),
o_ 23 (.conv .i64 (.t 22)),
m_ 11 23] false)
(.seq
(.region [
m_ 24 2,
m_ 25 0,
m_ 26 11,
o_ 27 (.idxa 4 (.t 25) (.t 26)),
o_ 28 (.load true 4 (.t 27)),
o_ 29 (.load true 2 (.t 4)),
o_ 30 (.call false (.t 24) [.t 28, .t 29]),
o_ 31 (.bin .lss (.t 30) (.c (.int .i64 0)))] true)
(.cond (.t 31)
(.region [
m_ 32 11,
o_ 33 (.bin .add (.t 32) (.c (.int .i64 1))),
m_ 9 33] false)
(.region [
m_ 34 11,
m_ 10 34] false))))))))
(.seq
(.region [
m_ 35 9,
m_ 36 9,
m_ 37 8,
o_ 38 (.bin .lss (.t 36) (.t 37)),
m_ 39 38,
g_ 40 (.mv (.t 2)) 39 true,
g_ 41 (.mv (.t 0)) 39 true,
g_ 42 (.mv (.t 9)) 39 true,
g_ 43 (.idxa 4 (.t 41) (.t 42)) 39 true,
g_ 44 (.load true 4 (.t 43)) 39 true,
g_ 45 (.load true 2 (.t 4)) 39 true,
g_ 46 (.call false (.t 40) [.t 44, .t 45]) 39 true,
g_ 47 (.bin .eql (.t 46) (.c (.int .i64 0))) 39 true,
o_ 48 (.pick (.t 39) (.t 47) (.c (.bool false))),
m_ 6 35,
m_ 7 48] true)
.ret))))),
[.t 6, .t 7]⟩
theorem ok183 : okFunc Go.Proofs.Tryz.prog 183 lf183 = true := by kernel_rfl
def lf184 : LFunc := ⟨9, 2,
(.seq
(.region [
o_ 2 (.box 4 (.t 0)),
o_ 3 (.box 2 (.t 1)),
o_ 4 (.mv (.c (.int .i64 0)))] false)
(.seq
(.region [
o_ 5 (.fadr 0 (.t 2)),
o_ 6 (.load true 2 (.t 5)),
o_ 7 (.load true 2 (.t 3)),
o_ 8 (.call false (.c (.fn 112 [] [])) [.t 6, .t 7]),
m_ 4 8] false)
.ret)),
[.t 4]⟩
theorem ok184 : okFunc Go.Proofs.Tryz.prog 184 lf184 = true := by kernel_rfl
def lf185 : LFunc := ⟨17, 2,
(.seq
(.region [
o_ 3 (.box 1 (.t 1)),
o_ 4 (.newv [.int .i64 0, .int .i64 0, .nils, .nils, .int .i64 0, .int .i64 0, .nils]),
o_ 5 (.mv (.c (.bool false)))] false)
(.seq
(.region [
m_ 7 0,
o_ 8 (.mkfn 244 [] [.t 3]),
o_ 9 (.call false (.c (.fn 243 [] [])) [.t 7, .t 8]),
m_ 6 9] false)
(.seq
(.seq
(.region [
m_ 10 6,
o_ 11 (.bin .lss (.t 10) (.c (.int .i64 0)))] false)
(.cond (.t 11)
(.seq
(.region [
o_ 12 (.build [.int .i64 0, .int .i64 0, .nils, .nils, .int .i64 0, .int .i64 0, .nils] []),
⟨none, .store 7 (.t 4) (.t 12), none⟩,
o_ 5 (.mv (.c (.bool false)))] false)
.ret)
.skip))
(.seq
(.region [
m_ 13 0,
m_ 14 6,
o_ 15 (.idxa 7 (.t 13) (.t 14)),
o_ 16 (.load true 7 (.t 15)),
⟨none, .store 7 (.t 4) (.t 16), none⟩,
o_ 5 (.mv (.c (.bool true)))] false)
.ret)))),
[.cell true 7 4, .t 5]⟩
theorem ok185 : okFunc Go.Proofs.Tryz.prog 185 lf185 = true := by kernel_rfl
def lf186 : LFunc := ⟨11, 2,
(.seq
(.region [
o_ 3 (.box 18 (.t 1))] false)
(.region [
m_ 4 0,
m_ 5 0,
o_ 6 (.load true 18 (.t 3)),
o_ 7 (.nilck (.t 4)),
o_ 8 (.fadr 0 (.t 7)),
⟨none, .store 18 (.t 8) (.t 6), none⟩,
o_ 9 (.nilck (.t 5)),
o_ 10 (.fadr 18 (.t 9)),
⟨none, .store 1 (.t 10) (.c (.bool true)), none⟩] false)),
[]⟩
theorem ok186 : okFunc Go.Proofs.Tryz.prog 186 lf186 = true := by kernel_rfl
def lf187 : LFunc := ⟨8, 2,
(.seq
(.region [
o_ 2 (.box 2 (.t 0)),
o_ 3 (.mv (.c (.bool false)))] false)
(.seq
(.region [
o_ 4 (.load true 2 (.t 2)),
o_ 5 (.load true 2 (.t 1)),
o_ 6 (.call false (.c (.fn 112 [] [])) [.t 4, .t 5]),
o_ 7 (.bin .leq (.t 6) (.c (.int .i64 0))),
m_ 3 7] false)
.ret)),
[.t 3]⟩
theorem ok187 : okFunc Go.Proofs.Tryz.prog 187 lf187 = true := by kernel_rfl
def lf188 : LFunc := ⟨19, 2,
(.seq
(.region [
o_ 4 (.mv (.c (.int .i64 0)))] false)
(.seq
(.seq
(.region [
m_ 6 0,
o_ 7 (.len .sli (.t 6)),
o_ 8 (.mv (.c (.int .i64 0)))] false)
(.block 0
(.loop
(.seq
(.region [
o_ 9 (.bin .lss (.t 8) (.t 7))] false)
(.seq
(.cond (.t 9)
.skip
(.exit 0))
(.seq
(.block 1
(.seq
(.region [
m_ 10 8,
m_ 5 10] false)
(.seq
(.region [
m_ 11 1,
m_ 12 0,
m_ 13 5,
o_ 14 (.idxa 18 (.t 12) (.t 13)),
o_ 15 (.load true 18 (.t 14)),
o_ 16 (.call false (.t 11) [.t 15])] false)
(.cond (.t 16)
(.seq
(.region [
m_ 17 5,
m_ 4 17] false)
.ret)
.skip))))
(.region [
o_ 18 (.bin .add (.t 8) (.c (.int .i64 1))),
m_ 8 18] false)))))))
(.seq
(.region [
o_ 4 (.mv (.c (.int .i64 (-1))))] false)
.ret))),
[.t 4]⟩
theorem ok188 : okFunc Go.Proofs.Tryz.prog 188 lf188 = true := by kernel_rfl
def lf189 : LFunc := ⟨6, 1,
(.seq
(.region [
o_ 2 (.mv (.c (.nili)))] false)
(.seq
(.seq
(.region [
m_ 3 0] false)
(.cond (.t 3)
(.seq
(.region [
o_ 2 (.mv (.c (.nili)))] false)
.ret)
.skip))
(.seq
(.region [
o_ 4 (.bad),
o_ 5 (.bad),
m_ 2 5] false)
.ret))),
[.t 2]⟩
theorem ok189 : okFunc Go.Proofs.Tryz.prog 189 lf189 = true := by kernel_rfl
def lf190 : LFunc := ⟨6, 1,
(.seq
(.region [
o_ 2 (.mv (.c (.int .i64 0)))] false)
(.seq
(.seq
(.region [
m_ 3 0,
o_ 4 (.bad),
o_ 5 (.call false (.c (.fn 245 [] [])) [.t 3, .t 4])] false)
(.cond (.t 5)
(.seq
(.region [
o_ 2 (.mv (.c (.int .i64 2)))] false)
.ret)
.skip))
(.seq
(.region [
o_ 2 (.mv (.c (.int .i64 0)))] false)
.ret))),
[.t 2]⟩
theorem ok190 : okFunc Go.Proofs.Tryz.prog 190 lf190 = true := by kernel_rfl
def lf191 : LFunc := ⟨30, 2,
(.seq
(.region [
o_ 4 (.newv [.int .i64 0, .int .i64 0]),
o_ 5 (.mv (.c (.int .i64 0)))] false)
(.seq
(.seq
(.region [
m_ 6 1,
o_ 7 (.bin .eql (.t 6) (.c (.int .i64 0))),
m_ 8 7,
g_ 9 (.mv (.t 0)) 8 false,
g_ 10 (.bin .lss (.t 9) (.c (.int .i64 (-1152921504606846976)))) 8 false,
o_ 11 (.pick (.t 8) (.c (.bool true)) (.t 10)),
m_ 12 11,
g_ 13 (.mv (.t 0)) 12 false,
g_ 14 (.bin .gtr (.t 13) (.c (.int .i64 1152921504606846976))) 12 false,
o_ 15 (.pick (.t 12) (.c (.bool true)) (.t 14)),
m_ 16 15,
g_ 17 (.mv (.t 1)) 16 false,
g_ 18 (.bin .lss (.t 17) (.c (.int .i64 (-1152921504606846976)))) 16 false,
o_ 19 (.pick (.t 16) (.c (.bool true)) (.t 18)),
m_ 20 19,
g_ 21 (.mv (.t 1)) 20 false,
g_ 22 (.bin .gtr (.t 21) (.c (.int .i64 1152921504606846976))) 20 false,
o_ 23 (.pick (.t 20) (.c (.bool true)) (.t 22))] false)
(.cond (.t 23)
(.seq
(.region [
o_ 24 (.call false (.c (.fn 192 [] [])) []),
⟨none, .store 2 (.t 4) (.t 24), none⟩,
o_ 5 (.mv (.c (.int .i64 2)))] false)
.ret)
.skip))
(.seq
(.region [
m_ 25 0,
m_ 26 1,
o_ 27 (.call false (.c (.fn 193 [] [])) [.t 25, .t 26]),
o_ 28 (.extract (.t 27) 0),
o_ 29 (.extract (.t 27) 1),
⟨none, .store 2 (.t 4) (.t 28), none⟩,
m_ 5 29] false)
.ret))),
[.cell true 2 4, .t 5]⟩
theorem ok191 : okFunc Go.Proofs.Tryz.prog 191 lf191 = true := by kernel_rfl
def lf192 : LFunc := ⟨2, 0,
(.seq
(.region [
o_ 0 (.newv [.int .i64 0, .int .i64 0])] false)
(.seq
(.region [
o_ 1 (.build [.int .i64 0, .int .i64 0] []),
⟨none, .store 2 (.t 0) (.t 1), none⟩] false)
.ret)),
[.cell true 2 0]⟩
theorem ok192 : okFunc Go.Proofs.Tryz.prog 192 lf192 = true := by kernel_rfl
def lf193 : LFunc := ⟨25, 2,
(.seq
(.region [
o_ 4 (.newv [.int .i64 0, .int .i64 0]),
o_ 5 (.mv (.c (.int .i64 0)))] false)
(.seq
(.region [
m_ 7 0,
o_ 8 (.call false (.c (.fn 182 [] [])) [.t 7]),
m_ 9 1,
o_ 10 (.call false (.c (.fn 182 [] [])) [.t 9]),
o_ 11 (.call false (.c (.fn 181 [] [])) [.t 8, .t 10]),
m_ 6 11] false)
(.seq
(.seq
(.region [
m_ 12 1,
o_ 13 (.bin .lss (.t 12) (.c (.int .i64 0)))] false)
(.cond (.t 13)
(.region [
m_ 14 6,
o_ 15 (.neg (.t 14)),
m_ 6 15] false)
.skip))
(.seq
(.region [
m_ 16 0,
m_ 17 6,
o_ 18 (.bin .quo (.t 16) (.t 17)),
m_ 19 1,
m_ 20 6,
o_ 21 (.bin .quo (.t 19) (.t 20)),
o_ 22 (.call false (.c (.fn 246 [] [])) [.t 18, .t 21]),
o_ 23 (.extract (.t 22) 0),
o_ 24 (.extract (.t 22) 1),
⟨none, .store 2 (.t 4) (.t 23), none⟩,
m_ 5 24] true)
.ret)))),
[.cell true 2 4, .t 5]⟩
theorem ok193 : okFunc Go.Proofs.Tryz.prog 193 lf193 = true := by kernel_rfl
def lf194 : LFunc := ⟨19, 2,
(.seq
(.region [
o_ 4 (.mv (.c (.int .i64 0)))] false)
(.seq
(.seq
(.region [
m_ 6 0,
o_ 7 (.len .sli (.t 6)),
o_ 8 (.mv (.c (.int .i64 0)))] false)
(.block 0
(.loop
(.seq
(.region [
o_ 9 (.bin .lss (.t 8) (.t 7))] false)
(.seq
(.cond (.t 9)
.skip
(.exit 0))
(.seq
(.block 1
(.seq
(.region [
m_ 10 8,
m_ 5 10] false)
(.seq
(.region [
m_ 11 1,
m_ 12 0,
m_ 13 5,
o_ 14 (.idxa 4 (.t 12) (.t 13)),
o_ 15 (.load true 4 (.t 14)),
o_ 16 (.call false (.t 11) [.t 15])] false)
(.cond (.t 16)
(.seq
(.region [
m_ 17 5,
m_ 4 17] false)
.ret)
.skip))))
(.region [
o_ 18 (.bin .add (.t 8) (.c (.int .i64 1))),
m_ 8 18] false)))))))
(.seq
(.region [
o_ 4 (.mv (.c (.int .i64 (-1))))] false)
.ret))),
[.t 4]⟩
theorem ok194 : okFunc Go.Proofs.Tryz.prog 194 lf194 = true := by kernel_rfl
def lf195 : LFunc := ⟨20, 1,
(.seq
(.region [
o_ 2 (.mv (.c (.int .i64 0))),
o_ 3 (.mv (.c (.int .i64 0)))] false)
(.seq
(.region [
o_ 4 (.mv (.c (.int .i64 0)))] false)
(.seq
(.seq
(.region [
o_ 5 (.mv (.c (.int .i64 0)))] false)
(.block 0
(.loop
(.seq
(.seq
(.region [
m_ 6 5,
o_ 7 (.bin .leq (.t 6) (.c (.int .i64 7)))] false)
(.cond (.t 7)
.skip
(.exit 0)))
(.seq
(.block 1
(.seq
(.region [
m_ 10 0,
m_ 11 5,
o_ 12 (.call false (.c (.fn 247 [] [])) [.t 11]),
o_ 13 (.bin .geq (.t 10) (.t 12))] false)
(.cond (.t 13)
(.region [
m_ 14 5,
m_ 4 14] false)
.skip)))
(.region [
m_ 8 5,
o_ 9 (.bin .add (.t 8) (.c (.int .i64 1))),
m_ 5 9] false))))))
(.seq
(.region [
m_ 15 4,
m_ 16 0,
m_ 17 4,
o_ 18 (.call false (.c (.fn 247 [] [])) [.t 17]),
o_ 19 (.bin .sub (.t 16) (.t 18)),
m_ 2 15,
m_ 3 19] false)
.ret)))),
[.t 2, .t 3]⟩
theorem ok195 : okFunc Go.Proofs.Tryz.prog 195 lf195 = true := by kernel_rfl
def lf196 : LFunc := ⟨11, 3,
(.seq
(.region [
o_ 6 (.newv [.int .i64 0, .int .i64 0, .int .i64 0, .int .i64 0])] false)
(.seq
(.region [
m_ 7 0,
m_ 8 1,
m_ 9 2,
o_ 10 (.build [.int .i64 0, .int .i64 0, .int .i64 0, .int .i64 0] [(1, 1, .t 7), (2, 1, .t 8), (3, 1, .t 9)]),
⟨none, .store 4 (.t 6) (.t 10), none⟩] false)
.ret)),
[.cell true 4 6]⟩
theorem ok196 : okFunc Go.Proofs.Tryz.prog 196 lf196 = true := by kernel_rfl
def lf197 : LFunc := ⟨26, 1,
(.seq
(.region [
o_ 2 (.newv [.int .i64 0, .int .i64 0, .int .i64 0, .int .i64 0])] false)
(.seq
(.seq
(.region [
m_ 4 0] false)
(.block 0
(.seq
(.region [
o_ 6 (.bin .eql (.t 4) (.c (.int .i64 0))),
m_ 5 6] false)
(.cond (.t 5)
(.seq
(.region [
o_ 7 (.call false (.c (.fn 196 [] [])) [.c (.int .i64 0), .c (.int .i64 620), .c (.int .i64 1024)]),
⟨none, .store 4 (.t 2) (.t 7), none⟩] false)
.ret)
(.seq
(.region [
o_ 9 (.bin .eql (.t 4) (.c (.int .i64 1))),
m_ 8 9] false)
(.cond (.t 8)
(.seq
(.region [
o_ 10 (.call false (.c (.fn 196 [] [])) [.c (.int .i64 (-540)), .c (.int .i64 1540), .c (.int .i64 0)]),
⟨none, .store 4 (.t 2) (.t 10), none⟩] false)
.ret)
(.seq
(.region [
o_ 12 (.bin .eql (.t 4) (.c (.int .i64 2))),
m_ 11 12] false)
(.cond (.t 11)
(.seq
(.region [
o_ 13 (.call false (.c (.fn 196 [] [])) [.c (.int .i64 0), .c (.int .i64 1540), .c (.int .i64 540)]),
⟨none, .store 4 (.t 2) (.t 13), none⟩] false)
.ret)
(.seq
(.region [
o_ 15 (.bin .eql (.t 4) (.c (.int .i64 3))),
m_ 14 15] false)
(.cond (.t 14)
(.seq
(.region [
o_ 16 (.call false (.c (.fn 196 [] [])) [.c (.int .i64 (-1400)), .c (.int .i64 1120), .c (.int .i64 1500)]),
⟨none, .store 4 (.t 2) (.t 16), none⟩] false)
.ret)
.skip))))))))))
(.seq
(.region [
m_ 17 0,
o_ 18 (.bin .sub (.t 17) (.c (.int .i64 4))),
m_ 3 18] false)
(.seq
(.region [
m_ 19 3,
o_ 20 (.bin .mul (.c (.int .i64 1024)) (.t 19)),
o_ 21 (.bin .sub (.c (.int .i64 (-1000))) (.t 20)),
m_ 22 3,
o_ 23 (.bin .mul (.c (.int .i64 130)) (.t 22)),
o_ 24 (.bin .add (.c (.int .i64 1000)) (.t 23)),
o_ 25 (.call false (.c (.fn 196 [] [])) [.t 21, .t 24, .c (.int .i64 900)]),
⟨none, .store 4 (.t 2) (.t 25), none⟩] false)
.ret)))),
[.cell true 4 2]⟩
theorem ok197 : okFunc Go.Proofs.Tryz.prog 197 lf197 = true := by kernel_rfl
def lf198 : LFunc := ⟨14, 1,
(.seq
(.region [
o_ 2 (.newv [.int .i64 0, .int .i64 0, .int .i64 0, .int .i64 0])] false)
(.seq
(.region [
o_ 3 (.call false (.c (.fn 196 [] [])) [.c (.int .i64 (-200)), .c (.int .i64 400), .c (.int .i64 200)]),
o_ 4 (.call false (.c (.fn 196 [] [])) [.c (.int .i64 (-2048)), .c (.int .i64 160), .c (.int .i64 2048)]),
o_ 5 (.call false (.c (.fn 196 [] [])) [.c (.int .i64 (-2048)), .c (.int .i64 720), .c (.int .i64 2048)]),
o_ 6 (.call false (.c (.fn 196 [] [])) [.c (.int .i64 (-2048)), .c (.int .i64 1000), .c (.int .i64 2048)]),
o_ 7 (.call false (.c (.fn 196 [] [])) [.c (.int .i64 (-600)), .c (.int .i64 1500), .c (.int .i64 1200)]),
o_ 8 (.call false (.c (.fn 196 [] [])) [.c (.int .i64 0), .c (.int .i64 1900), .c (.int .i64 1100)]),
o_ 9 (.call false (.c (.fn 196 [] [])) [.c (.int .i64 (-700)), .c (.int .i64 1400), .c (.int .i64 1800)]),
o_ 10 (.build [.int .i64 0, .int .i64 0, .int .i64 0, .int .i64 0] [(0, 1, .c (.int .i64 (-1000))), (1, 1, .c (.int .i64 (-2048))), (3, 1, .c (.int .i64 2048))]),
o_ 11 (.build [.int .i64 0, .int .i64 0, .int .i64 0, .int .i64 0, .int .i64 0, .int .i64 0, .int .i64 0, .int .i64 0, .int .i64 0, .int .i64 0, .int .i64 0, .int .i64 0, .int .i64 0, .int .i64 0, .int .i64 0, .int .i64 0, .int .i64 0, .int .i64 0, .int .i64 0, .int .i64 0, .int .i64 0, .int .i64 0, .int .i64 0, .int .i64 0, .int .i64 0, .int .i64 0, .int .i64 0, .int .i64 0, .int .i64 0, .int .i64 0, .int .i64 0, .int .i64 0] [(0, 4, .t 3), (4, 4, .t 4), (8, 4, .t 5), (12, 4, .t 6), (16, 4, .t 7), (20, 4, .t 8), (24, 4, .t 9), (28, 4, .t 10)]),
m_ 12 0,
o_ 13 (.idxc true 4 8 (.t 11) (.t 12)),
⟨none, .store 4 (.t 2) (.t 13), none⟩] false)
.ret)),
[.cell true 4 2]⟩
theorem ok198 : okFunc Go.Proofs.Tryz.prog 198 lf198 = true := by kernel_rfl
def lf199 : LFunc := ⟨47, 3,
(.seq
(.region [
o_ 6 (.mv (.c (.int .i64 0))),
o_ 7 (.mv (.c (.int .i64 0)))] false)
(.seq
(.seq
(.region [
m_ 9 0,
o_ 10 (.btsl 1 1 [.int .i64 0] [(0, .t 9)]),
o_ 11 (.call false (.c (.fn 248 [] [])) [.t 10]),
m_ 8 11] false)
(.seq
(.region [
m_ 12 8,
o_ 13 (.ifnil true (.t 12))] false)
(.cond (.t 13)
(.seq
(.region [
m_ 14 8,
o_ 15 (.call false (.c (.fn 249 [] [])) [.c (.int .i64 0), .t 14]),
o_ 16 (.extract (.t 15) 0),
o_ 17 (.extract (.t 15) 1),
m_ 6 16,
m_ 7 17] false)
.ret)
.skip)))
(.seq
(.seq
(.region [
m_ 18 1,
o_ 19 (.bin .lss (.t 18) (.c (.int .i64 (-1048576)))),
m_ 20 19,
g_ 21 (.mv (.t 1)) 20 false,
g_ 22 (.bin .gtr (.t 21) (.c (.int .i64 1048576))) 20 false,
o_ 23 (.pick (.t 20) (.c (.bool true)) (.t 22)),
m_ 24 23,
g_ 25 (.mv (.t 2)) 24 false,
g_ 26 (.bin .lss (.t 25) (.c (.int .i64 1))) 24 false,
o_ 27 (.pick (.t 24) (.c (.bool true)) (.t 26)),
m_ 28 27,
g_ 29 (.mv (.t 2)) 28 false,
g_ 30 (.bin .gtr (.t 29) (.c (.int .i64 1048576))) 28 false,
o_ 31 (.pick (.t 28) (.c (.bool true)) (.t 30))] false)
(.cond (.t 31)
(.seq
(.region [
o_ 32 (.build [.int .i64 0] [(0, 1, .c (.int .i64 2))]),
o_ 33 (.box 1 (.t 32)),
o_ 34 (.bad),
o_ 35 (.call false (.c (.fn 249 [] [])) [.c (.int .i64 0), .t 34]),
o_ 36 (.extract (.t 35) 0),
o_ 37 (.extract (.t 35) 1),
m_ 6 36,
m_ 7 37] false)
.ret)
.skip))
(.seq
(.region [
m_ 38 0,
m_ 39 1,
m_ 40 2,
o_ 41 (.call false (.c (.fn 250 [] [])) [.t 38, .t 39, .t 40]),
o_ 42 (.extract (.t 41) 0),
o_ 43 (.extract (.t 41) 1),
o_ 44 (.call false (.c (.fn 249 [] [])) [.t 42, .t 43]),
o_ 45 (.extract (.t 44) 0),
o_ 46 (.extract (.t 44) 1),
m_ 6 45,
m_ 7 46] false)
.ret)))),
[.t 6, .t 7]⟩
theorem ok199 : okFunc Go.Proofs.Tryz.prog 199 lf199 = true := by kernel_rfl
def lf200 : LFunc := ⟨9, 1,
(.seq
(.region [
o_ 2 (.mv (.c (.bool false)))] false)
(.seq
(.region [
m_ 3 0,
o_ 4 (.bin .leq (.c (.int .i64 (-1099511627776))) (.t 3)),
m_ 5 4,
g_ 6 (.mv (.t 0)) 5 true,
g_ 7 (.bin .leq (.t 6) (.c (.int .i64 1099511627776))) 5 true,
o_ 8 (.pick (.t 5) (.t 7) (.c (.bool false))),
m_ 2 8] false)
.ret)),
[.t 2]⟩
theorem ok200 : okFunc Go.Proofs.Tryz.prog 200 lf200 = true := by kernel_rfl
def lf201 : LFunc := ⟨28, 2,
(.seq
(.region [
o_ 4 (.newv [.int .i64 0, .int .i64 0, .int .i64 0, .int .i64 0]),
o_ 5 (.mv (.c (.int .i64 0)))] false)
(.seq
(.seq
(.region [
m_ 7 0,
o_ 8 (.call false (.c (.fn 76 [] [])) [.t 7]),
o_ 9 (.not (.t 8))] false)
(.cond (.t 9)
(.seq
(.region [
o_ 10 (.build [.int .i64 0, .int .i64 0, .int .i64 0, .int .i64 0] []),
⟨none, .store 4 (.t 4) (.t 10), none⟩,
o_ 5 (.mv (.c (.int .i64 2)))] false)
.ret)
.skip))
(.seq
(.region [
m_ 11 0,
o_ 12 (.call false (.c (.fn 251 [] [])) [.t 11]),
o_ 6 (.newv [.int .i64 0, .int .i64 0, .int .i64 0, .int .i64 0]),
⟨none, .store 4 (.t 6) (.t 12), none⟩] false)
(.seq
(.seq
(.region [
m_ 13 1] false)
(.cond (.t 13)
(.region [
o_ 14 (.fadr 0 (.t 6)),
o_ 15 (.load false 1 (.t 14)),
o_ 16 (.call false (.c (.fn 253 [] [])) [.t 15]),
o_ 17 (.fadr 1 (.t 6)),
o_ 18 (.load false 1 (.t 17)),
o_ 19 (.call false (.c (.fn 253 [] [])) [.t 18]),
o_ 20 (.fadr 2 (.t 6)),
o_ 21 (.load false 1 (.t 20)),
o_ 22 (.call false (.c (.fn 253 [] [])) [.t 21]),
o_ 23 (.fadr 3 (.t 6)),
o_ 24 (.load false 1 (.t 23)),
o_ 25 (.call false (.c (.fn 253 [] [])) [.t 24]),
o_ 26 (.call false (.c (.fn 252 [] [])) [.t 16, .t 19, .t 22, .t 25]),
⟨none, .store 4 (.t 6) (.t 26), none⟩] true)
.skip))
(.seq
(.region [
o_ 27 (.load true 4 (.t 6)),
⟨none, .store 4 (.t 4) (.t 27), none⟩,
o_ 5 (.mv (.c (.int .i64 0)))] false)
.ret))))),
[.cell true 4 4, .t 5]⟩
theorem ok201 : okFunc Go.Proofs.Tryz.prog 201 lf201 = true := by kernel_rfl
def lf202 : LFunc := ⟨39, 2,
(.seq
(.region [
o_ 4 (.mv (.c (.int .i64 0)))] false)
(.seq
(.seq
(.region [
m_ 7 0,
m_ 8 1,
o_ 9 (.substr (.t 7) (some (.t 8)) none),
o_ 10 (.rng (.t 9))] false)
(.block 0
(.loop
(.seq
(.region [
o_ 11 (.nxt (.t 10)),
o_ 12 (.extract (.t 11) 0)] false)
(.seq
(.cond (.t 12)
.skip
(.exit 0))
(.block 1
(.seq
(.region [
o_ 13 (.extract (.t 11) 1),
o_ 14 (.extract (.t 11) 2),
m_ 5 13,
m_ 6 14] false)
(.seq
(.seq
(.region [
m_ 15 5,
o_ 16 (.bin .gtr (.t 15) (.c (.int .i64 0)))] false)
(.cond (.t 16)
(.seq
(.region [
m_ 17 5,
m_ 4 17] false)
.ret)
.skip))
(.seq
(.region [
m_ 18 6,
o_ 19 (.bin .eql (.t 18) (.c (.int .i32 65533))),
m_ 20 19,
g_ 21 (.mv (.t 0)) 20 true,
g_ 22 (.len .str (.t 21)) 20 true,
g_ 23 (.mv (.t 1)) 20 true,
g_ 24 (.bin .sub (.t 22) (.t 23)) 20 true,
g_ 25 (.bin .lss (.t 24) (.c (.int .i64 3))) 20 true,
g_ 26 (.mv (.t 25)) 20 true,
g_ 27 (.mv (.t 0)) 26 false,
g_ 28 (.mv (.t 1)) 26 false,
g_ 29 (.mv (.t 1)) 26 false,
g_ 30 (.bin .add (.t 29) (.c (.int .i64 3))) 26 false,
g_ 31 (.substr (.t 27) (some (.t 28)) (some (.t 30))) 26 false,
g_ 32 (.bin .neq (.t 31) (.c (.str ⟨#[239, 191, 189]⟩))) 26 false,
g_ 33 (.pick (.t 26) (.c (.bool true)) (.t 32)) 20 true,
o_ 34 (.pick (.t 20) (.t 33) (.c (.bool false)))] false)
(.cond (.t 34)
(.seq
(.region [
o_ 4 (.mv (.c (.int .i64 0)))] false)
.ret)
.skip))))))))))
(.seq
(.region [
m_ 35 0,
o_ 36 (.len .str (.t 35)),
m_ 37 1,
o_ 38 (.bin .sub (.t 36) (.t 37)),
m_ 4 38] false)
.ret))),
[.t 4]⟩
theorem ok202 : okFunc Go.Proofs.Tryz.prog 202 lf202 = true := by kernel_rfl
def lf203 : LFunc := ⟨35, 2,
(.seq
(.region [
o_ 4 (.mv (.c (.nils)))] false)
(.seq
(.region [
o_ 5 (.own 14)] false)
(.seq
(.block 0
(.loop
(.seq
(.seq
(.region [
m_ 7 0,
o_ 8 (.call false (.c (.fn 38 [] [])) [.t 7]),
o_ 9 (.not (.t 8))] false)
(.cond (.t 9)
.skip
(.exit 0)))
(.block 1
(.seq
(.region [
m_ 10 0,
o_ 11 (.call false (.c (.fn 254 [] [])) [.t 10]),
m_ 6 11] false)
(.seq
(.seq
(.region [
m_ 12 6,
o_ 13 (.bin .eql (.t 12) (.c (.int .i64 0)))] false)
(.cond (.t 13)
(.seq
(.region [
m_ 14 5,
m_ 4 14] false)
.ret)
.skip))
(.seq
(.seq
(.region [
m_ 15 0,
o_ 16 (.nilck (.t 15)),
o_ 17 (.fadr 4 (.t 16)),
o_ 18 (.load false 1 (.t 17)),
o_ 19 (.bin .lss (.t 18) (.c (.int .i64 4096))),
m_ 20 19,
g_ 21 (.mv (.t 6)) 20 true,
g_ 22 (.mv (.t 1)) 20 true,
g_ 23 (.call false (.c (.fn 222 [] [])) [.t 21, .t 22]) 20 true,
o_ 24 (.pick (.t 20) (.t 23) (.c (.bool false)))] false)
(.cond (.t 24)
(.seq
(.region [
m_ 25 0,
o_ 26 (.call false (.c (.fn 36 [] [])) [.t 25, .c (.int .i64 22)])] false)
(.seq
(.region [
m_ 27 5,
m_ 4 27] false)
.ret))
.skip))
(.region [
m_ 28 5,
m_ 29 0,
m_ 30 6,
o_ 31 (.call false (.c (.fn 255 [] [])) [.t 29, .t 30]),
o_ 32 (.btsl 14 1 [.int .i64 0, .int .i64 0, .nils, .bool false, .int .i64 0, .int .i64 0, .bool false, .int .i64 0, .int .i64 0, .str ⟨#[]⟩, .int .i64 0, .int .i64 0, .str ⟨#[]⟩, .nils] [(0, .t 31)]),
o_ 33 (.append 14 160 (.t 28) (.t 32)),
m_ 5 33] false))))))))
(.seq
(.region [
m_ 34 5,
m_ 4 34] false)
.ret)))),
[.t 4]⟩
theorem ok203 : okFunc Go.Proofs.Tryz.prog 203 lf203 = true := by kernel_rfl
def lf204 : LFunc := ⟨16, 1,
(.seq
(.seq
(.region [
m_ 2 0,
o_ 3 (.nilck (.t 2)),
o_ 4 (.fadr 4 (.t 3)),
o_ 5 (.load false 1 (.t 4)),
o_ 6 (.bin .eql (.t 5) (.c (.int .i64 4096)))] false)
(.cond (.t 6)
(.region [
m_ 7 0,
o_ 8 (.call false (.c (.fn 36 [] [])) [.t 7, .c (.int .i64 4)])] false)
.skip))
(.region [
m_ 9 0,
o_ 10 (.nilck (.t 9)),
o_ 11 (.fadr 4 (.t 10)),
o_ 12 (.load false 1 (.t 11)),
o_ 13 (.bin .add (.t 12) (.c (.int .i64 1))),
o_ 14 (.nilck (.t 9)),
o_ 15 (.fadr 4 (.t 14)),
⟨none, .store 1 (.t 15) (.t 13), none⟩] false)),
[]⟩
theorem ok204 : okFunc Go.Proofs.Tryz.prog 204 lf204 = true := by kernel_rfl
def lf217 : LFunc := ⟨31, 1,
(.seq
(.region [
o_ 2 (.mv (.c (.bool false)))] false)
(.seq
(.seq
(.region [
m_ 5 0,
o_ 6 (.len .str (.t 5)),
o_ 7 (.bin .gtr (.t 6) (.c (.int .i64 65534)))] false)
(.cond (.t 7)
(.seq
(.region [
o_ 2 (.mv (.c (.bool false)))] false)
.ret)
.skip))
(.seq
(.region [
m_ 9 0,
o_ 10 (.bin .add (.c (.str ⟨#[34]⟩)) (.t 9)),
o_ 11 (.bin .add (.t 10) (.c (.str ⟨#[34]⟩))),
o_ 12 (.call false (.c (.fn 33 [] [])) [.t 11]),
m_ 8 12,
o_ 13 (.extract (.t 8) 0),
o_ 14 (.extract (.t 8) 1),
o_ 4 (.newv [.int .i64 0, .int .i64 0]),
m_ 3 13,
⟨none, .store 2 (.t 4) (.t 14), none⟩] false)
(.seq
(.region [
o_ 15 (.fadr 0 (.t 4)),
o_ 16 (.load false 1 (.t 15)),
o_ 17 (.bin .eql (.t 16) (.c (.int .i64 0))),
m_ 18 17,
g_ 19 (.mv (.t 3)) 18 true,
g_ 20 (.len .sli (.t 19)) 18 true,
g_ 21 (.bin .eql (.t 20) (.c (.int .i64 2))) 18 true,
o_ 22 (.pick (.t 18) (.t 21) (.c (.bool false))),
m_ 23 22,
g_ 24 (.mv (.t 3)) 23 true,
g_ 25 (.idxa 3 (.t 24) (.c (.int .i64 0))) 23 true,
g_ 26 (.fadr 1 (.t 25)) 23 true,
g_ 27 (.load false 1 (.t 26)) 23 true,
g_ 28 (.mv (.t 0)) 23 true,
g_ 29 (.bin .eql (.t 27) (.t 28)) 23 true,
o_ 30 (.pick (.t 23) (.t 29) (.c (.bool false))),
m_ 2 30] false)
.ret)))),
[.t 2]⟩
theorem ok217 : okFunc Go.Proofs.Tryz.prog 217 lf217 = true := by kernel_rfl
def lf218 : LFunc := ⟨52, 2,
(.seq
(.region [
o_ 4 (.mv (.c (.int .i64 0)))] false)
(.seq
(.seq
(.region [
m_ 8 0,
o_ 9 (.len .sli (.t 8)),
o_ 10 (.bin .gtr (.t 9) (.c (.int .i64 4)))] false)
(.cond (.t 10)
(.seq
(.region [
o_ 4 (.mv (.c (.int .i64 (-1))))] false)
.ret)
.skip))
(.seq
(.seq
(.region [
o_ 5 (.mv (.c (.int .i64 0)))] false)
(.block 0
(.loop
(.seq
(.seq
(.region [
m_ 11 5,
m_ 12 0,
o_ 13 (.len .sli (.t 12)),
o_ 14 (.bin .lss (.t 11) (.t 13))] false)
(.cond (.t 14)
.skip
(.exit 0)))
(.seq
(.block 1
(.seq
(.region [
o_ 6 (.mv (.c (.int .i64 0)))] false)
(.block 2
(.loop
(.seq
(.seq
(.region [
m_ 17 6,
m_ 18 0,
m_ 19 5,
o_ 20 (.idxa 1 (.t 18) (.t 19)),
o_ 21 (.load false 1 (.t 20)),
o_ 22 (.len .sli (.t 21)),
o_ 23 (.bin .lss (.t 17) (.t 22))] false)
(.cond (.t 23)
.skip
(.exit 2)))
(.seq
(.block 3
(.seq
(.region [
m_ 26 0,
m_ 27 5,
o_ 28 (.idxa 1 (.t 26) (.t 27)),
o_ 29 (.load false 1 (.t 28)),
m_ 30 6,
o_ 31 (.idxa 4 (.t 29) (.t 30)),
o_ 32 (.load true 4 (.t 31)),
o_ 7 (.newv [.int .i64 0, .str ⟨#[]⟩, .bool false, .bool false]),
⟨none, .store 4 (.t 7) (.t 32), none⟩] false)
(.seq
(.seq
(.region [
m_ 33 1,
o_ 34 (.bin .eql (.t 33) (.c (.int .i64 0))),
m_ 35 34,
g_ 36 (.fadr 2 (.t 7)) 35 false,
g_ 37 (.load false 1 (.t 36)) 35 false,
g_ 38 (.mv (.t 37)) 35 false,
g_ 39 (.fadr 3 (.t 7)) 38 true,
g_ 40 (.load false 1 (.t 39)) 38 true,
g_ 41 (.pick (.t 38) (.t 40) (.c (.bool false))) 35 false,
o_ 42 (.pick (.t 35) (.c (.bool true)) (.t 41)),
m_ 43 42,
g_ 44 (.fadr 1 (.t 7)) 43 false,
g_ 45 (.load false 1 (.t 44)) 43 false,
g_ 46 (.call false (.c (.fn 217 [] [])) [.t 45]) 43 false,
g_ 47 (.not (.t 46)) 43 false,
o_ 48 (.pick (.t 43) (.c (.bool true)) (.t 47))] false)
(.cond (.t 48)
(.seq
(.region [
o_ 4 (.mv (.c (.int .i64 (-1))))] false)
.ret)
.skip))
(.region [
m_ 49 1,
o_ 50 (.bin .sub (.t 49) (.c (.int .i64 1))),
m_ 1 50] false))))
(.region [
m_ 24 6,
o_ 25 (.bin .add (.t 24) (.c (.int .i64 1))),
m_ 6 25] false)))))))
(.region [
m_ 15 5,
o_ 16 (.bin .add (.t 15) (.c (.int .i64 1))),
m_ 5 16] false))))))
(.seq
(.region [
m_ 51 1,
m_ 4 51] false)
.ret)))),
[.t 4]⟩
theorem ok218 : okFunc Go.Proofs.Tryz.prog 218 lf218 = true := by kernel_rfl
def lf219 : LFunc := ⟨38, 2,
(.seq
(.region [
o_ 3 (.box 3 (.t 1)),
o_ 4 (.newv [.int .i64 0, .int .i64 0, .int .i64 0]),
o_ 5 (.mv (.c (.bool false)))] false)
(.seq
(.seq
(.region [
m_ 8 0,
o_ 9 (.nilck (.t 8)),
o_ 10 (.fadr 0 (.t 9)),
o_ 11 (.load false 1 (.t 10)),
o_ 12 (.not (.t 11))] false)
(.cond (.t 12)
(.seq
(.region [
o_ 13 (.load true 3 (.t 3)),
o_ 14 (.call false (.c (.fn 154 [] [])) [.t 13]),
o_ 15 (.extract (.t 14) 0),
o_ 16 (.extract (.t 14) 1),
⟨none, .store 3 (.t 4) (.t 15), none⟩,
m_ 5 16] false)
.ret)
.skip))
(.seq
(.region [
m_ 18 0,
o_ 19 (.nilck (.t 18)),
o_ 20 (.fadr 1 (.t 19)),
o_ 21 (.load true 3 (.t 20)),
o_ 22 (.fadr 0 (.t 3)),
o_ 23 (.load false 1 (.t 22)),
o_ 24 (.fadr 1 (.t 3)),
o_ 25 (.load false 1 (.t 24)),
o_ 26 (.fadr 2 (.t 3)),
o_ 27 (.load false 1 (.t 26)),
o_ 28 (.call false (.c (.fn 268 [] [])) [.t 21, .t 23, .t 25, .t 27]),
m_ 17 28,
o_ 29 (.extract (.t 17) 0),
o_ 30 (.extract (.t 17) 1),
o_ 6 (.newv [.int .i64 0, .int .i64 0, .int .i64 0]),
⟨none, .store 3 (.t 6) (.t 29), none⟩,
m_ 7 30] true)
(.seq
(.region [
m_ 31 0,
o_ 32 (.load true 3 (.t 6)),
o_ 33 (.nilck (.t 31)),
o_ 34 (.fadr 1 (.t 33)),
⟨none, .store 3 (.t 34) (.t 32), none⟩] false)
(.seq
(.region [
o_ 35 (.load true 3 (.t 6)),
m_ 36 7,
o_ 37 (.bin .eql (.t 36) (.c (.int .i64 0))),
⟨none, .store 3 (.t 4) (.t 35), none⟩,
m_ 5 37] false)
.ret))))),
[.cell true 3 4, .t 5]⟩
theorem ok219 : okFunc Go.Proofs.Tryz.prog 219 lf219 = true := by kernel_rfl
def lf220 : LFunc := ⟨16, 1,
(.seq
(.region [
o_ 1 (.box 3 (.t 0)),
o_ 2 (.newv [.int .i64 0, .int .i64 0, .int .i64 0]),
o_ 3 (.mv (.c (.bool false)))] false)
(.seq
(.seq
(.region [
o_ 4 (.load true 3 (.t 1)),
o_ 5 (.call false (.c (.fn 221 [] [])) [.t 4]),
o_ 6 (.not (.t 5))] false)
(.cond (.t 6)
(.seq
(.region [
o_ 7 (.build [.int .i64 0, .int .i64 0, .int .i64 0] []),
⟨none, .store 3 (.t 2) (.t 7), none⟩,
o_ 3 (.mv (.c (.bool false)))] false)
.ret)
.skip))
(.seq
(.region [
o_ 8 (.fadr 0 (.t 1)),
o_ 9 (.load false 1 (.t 8)),
o_ 10 (.fadr 1 (.t 1)),
o_ 11 (.load false 1 (.t 10)),
o_ 12 (.fadr 2 (.t 1)),
o_ 13 (.load false 1 (.t 12)),
o_ 14 (.bin .sub (.t 13) (.c (.int .i64 3))),
o_ 15 (.build [.int .i64 0, .int .i64 0, .int .i64 0] [(0, 1, .t 9), (1, 1, .t 11), (2, 1, .t 14)]),
⟨none, .store 3 (.t 2) (.t 15), none⟩,
o_ 3 (.mv (.c (.bool true)))] false)
.ret))),
[.cell true 3 2, .t 3]⟩
theorem ok220 : okFunc Go.Proofs.Tryz.prog 220 lf220 = true := by kernel_rfl
def lf221 : LFunc := ⟨31, 1,
(.seq
(.region [
o_ 1 (.box 3 (.t 0)),
o_ 2 (.mv (.c (.bool false)))] false)
(.seq
(.region [
o_ 3 (.fadr 0 (.t 1)),
o_ 4 (.load false 1 (.t 3)),
o_ 5 (.bin .geq (.t 4) (.c (.int .i64 0))),
m_ 6 5,
g_ 7 (.fadr 0 (.t 1)) 6 true,
g_ 8 (.load false 1 (.t 7)) 6 true,
g_ 9 (.bin .leq (.t 8) (.c (.int .i64 6))) 6 true,
o_ 10 (.pick (.t 6) (.t 9) (.c (.bool false))),
m_ 11 10,
g_ 12 (.fadr 1 (.t 1)) 11 true,
g_ 13 (.load false 1 (.t 12)) 11 true,
g_ 14 (.bin .geq (.t 13) (.c (.int .i64 (-2)))) 11 true,
o_ 15 (.pick (.t 11) (.t 14) (.c (.bool false))),
m_ 16 15,
g_ 17 (.fadr 1 (.t 1)) 16 true,
g_ 18 (.load false 1 (.t 17)) 16 true,
g_ 19 (.bin .leq (.t 18) (.c (.int .i64 2))) 16 true,
o_ 20 (.pick (.t 16) (.t 19) (.c (.bool false))),
m_ 21 20,
g_ 22 (.fadr 2 (.t 1)) 21 true,
g_ 23 (.load false 1 (.t 22)) 21 true,
g_ 24 (.bin .geq (.t 23) (.c (.int .i64 0))) 21 true,
o_ 25 (.pick (.t 21) (.t 24) (.c (.bool false))),
m_ 26 25,
g_ 27 (.fadr 2 (.t 1)) 26 true,
g_ 28 (.load false 1 (.t 27)) 26 true,
g_ 29 (.bin .leq (.t 28) (.c (.int .i64 9))) 26 true,
o_ 30 (.pick (.t 26) (.t 29) (.c (.bool false))),
m_ 2 30] false)
.ret)),
[.t 2]⟩
theorem ok221 : okFunc Go.Proofs.Tryz.prog 221 lf221 = true := by kernel_rfl
def lf222 : LFunc := ⟨15, 2,
(.seq
(.region [
o_ 4 (.mv (.c (.bool false)))] false)
(.seq
(.seq
(.region [
m_ 5 1,
o_ 6 (.bin .eql (.t 5) (.c (.int .i64 2)))] false)
(.cond (.t 6)
(.seq
(.region [
m_ 7 0,
o_ 8 (.bin .gtr (.t 7) (.c (.int .i64 3))),
m_ 4 8] false)
.ret)
.skip))
(.seq
(.region [
m_ 9 1,
o_ 10 (.bin .eql (.t 9) (.c (.int .i64 1))),
m_ 11 10,
g_ 12 (.mv (.t 0)) 11 true,
g_ 13 (.bin .geq (.t 12) (.c (.int .i64 7))) 11 true,
o_ 14 (.pick (.t 11) (.t 13) (.c (.bool false))),
m_ 4 14] false)
.ret))),
[.t 4]⟩
theorem ok222 : okFunc Go.Proofs.Tryz.prog 222 lf222 = true := by kernel_rfl
def lf223 : LFunc := ⟨62, 1,
(.seq
(.region [
o_ 1 (.box 14 (.t 0)),
o_ 2 (.mv (.c (.bool false)))] false)
(.seq
(.seq
(.region [
o_ 4 (.load true 14 (.t 1)),
o_ 5 (.call false (.c (.fn 269 [] [])) [.t 4]),
o_ 6 (.not (.t 5)),
m_ 7 6,
g_ 8 (.load true 14 (.t 1)) 7 false,
g_ 9 (.call false (.c (.fn 270 [] [])) [.t 8]) 7 false,
g_ 10 (.not (.t 9)) 7 false,
o_ 11 (.pick (.t 7) (.c (.bool true)) (.t 10)),
m_ 12 11,
g_ 13 (.fadr 6 (.t 1)) 12 false,
g_ 14 (.load true 4 (.t 13)) 12 false,
g_ 15 (.call false (.c (.fn 271 [] [])) [.t 14]) 12 false,
g_ 16 (.not (.t 15)) 12 false,
o_ 17 (.pick (.t 12) (.c (.bool true)) (.t 16)),
m_ 18 17,
g_ 19 (.fadr 2 (.t 1)) 18 false,
g_ 20 (.load false 1 (.t 19)) 18 false,
g_ 21 (.len .sli (.t 20)) 18 false,
g_ 22 (.bin .gtr (.t 21) (.c (.int .i64 16))) 18 false,
o_ 23 (.pick (.t 18) (.c (.bool true)) (.t 22))] false)
(.cond (.t 23)
(.seq
(.region [
o_ 2 (.mv (.c (.bool false)))] false)
.ret)
.skip))
(.seq
(.seq
(.region [
o_ 3 (.mv (.c (.int .i64 0)))] false)
(.block 0
(.loop
(.seq
(.seq
(.region [
m_ 24 3,
o_ 25 (.fadr 2 (.t 1)),
o_ 26 (.load false 1 (.t 25)),
o_ 27 (.len .sli (.t 26)),
o_ 28 (.bin .lss (.t 24) (.t 27))] false)
(.cond (.t 28)
.skip
(.exit 0)))
(.seq
(.block 1
(.seq
(.region [
o_ 31 (.fadr 2 (.t 1)),
o_ 32 (.load false 1 (.t 31)),
m_ 33 3,
o_ 34 (.idxa 3 (.t 32) (.t 33)),
o_ 35 (.load true 3 (.t 34)),
o_ 36 (.call false (.c (.fn 272 [] [])) [.t 35]),
o_ 37 (.not (.t 36))] false)
(.cond (.t 37)
(.seq
(.region [
o_ 2 (.mv (.c (.bool false)))] false)
.ret)
.skip)))
(.region [
m_ 29 3,
o_ 30 (.bin .add (.t 29) (.c (.int .i64 1))),
m_ 3 30] false))))))
(.seq
(.seq
(.region [
o_ 38 (.fadr 0 (.t 1)),
o_ 39 (.load false 1 (.t 38))] false)
(.block 2
(.seq
(.region [
o_ 41 (.bin .eql (.t 39) (.c (.int .i64 1))),
m_ 40 41] false)
(.cond (.t 40)
(.seq
(.region [
o_ 42 (.fadr 2 (.t 1)),
o_ 43 (.load false 1 (.t 42)),
o_ 44 (.len .sli (.t 43)),
o_ 45 (.bin .eql (.t 44) (.c (.int .i64 1))),
m_ 2 45] false)
.ret)
(.seq
(.region [
o_ 47 (.bin .eql (.t 39) (.c (.int .i64 2))),
m_ 46 47] false)
(.cond (.t 46)
(.seq
(.region [
o_ 48 (.fadr 2 (.t 1)),
o_ 49 (.load false 1 (.t 48)),
o_ 50 (.len .sli (.t 49)),
o_ 51 (.bin .geq (.t 50) (.c (.int .i64 1))),
m_ 2 51] false)
.ret)
.skip))))))
(.seq
(.region [
o_ 52 (.fadr 2 (.t 1)),
o_ 53 (.load false 1 (.t 52)),
o_ 54 (.len .sli (.t 53)),
o_ 55 (.bin .eql (.t 54) (.c (.int .i64 0))),
m_ 56 55,
g_ 57 (.fadr 6 (.t 1)) 56 true,
g_ 58 (.load true 4 (.t 57)) 56 true,
g_ 59 (.build [.bool false, .int .i64 0, .int .i64 0, .str ⟨#[]⟩] []) 56 true,
g_ 60 (.eq false (.ag [.b, .i, .i, .s]) (.t 58) (.t 59)) 56 true,
o_ 61 (.pick (.t 56) (.t 60) (.c (.bool false))),
m_ 2 61] false)
.ret))))),
[.t 2]⟩
theorem ok223 : okFunc Go.Proofs.Tryz.prog 223 lf223 = true := by kernel_rfl
def lf224 : LFunc := ⟨105, 1,
(.seq
(.region [
o_ 1 (.box 14 (.t 0)),
o_ 2 (.mv (.c (.bool false)))] false)
(.seq
(.seq
(.region [
o_ 3 (.load true 14 (.t 1)),
o_ 4 (.call false (.c (.fn 273 [] [])) [.t 3]),
o_ 5 (.not (.t 4)),
m_ 6 5,
g_ 7 (.fadr 13 (.t 1)) 6 false,
g_ 8 (.load false 1 (.t 7)) 6 false,
g_ 9 (.len .sli (.t 8)) 6 false,
g_ 10 (.bin .gtr (.t 9) (.c (.int .i64 0))) 6 false,
o_ 11 (.pick (.t 6) (.c (.bool true)) (.t 10))] false)
(.cond (.t 11)
(.seq
(.region [
o_ 2 (.mv (.c (.bool false)))] false)
.ret)
.skip))
(.seq
(.seq
(.region [
o_ 12 (.fadr 0 (.t 1)),
o_ 13 (.load false 1 (.t 12))] false)
(.block 0
(.seq
(.region [
o_ 15 (.bin .eql (.t 13) (.c (.int .i64 9))),
m_ 14 15] false)
(.cond (.t 14)
(.seq
(.region [
o_ 16 (.call false (.c (.fn 275 [] [])) []),
o_ 17 (.fadr 12 (.t 1)),
o_ 18 (.load false 1 (.t 17)),
o_ 19 (.call false (.c (.fn 274 [] [])) [.t 16, .t 18]),
m_ 20 19,
g_ 21 (.fadr 2 (.t 1)) 20 true,
g_ 22 (.load false 1 (.t 21)) 20 true,
g_ 23 (.len .sli (.t 22)) 20 true,
g_ 24 (.bin .eql (.t 23) (.c (.int .i64 0))) 20 true,
o_ 25 (.pick (.t 20) (.t 24) (.c (.bool false))),
m_ 26 25,
g_ 27 (.fadr 10 (.t 1)) 26 true,
g_ 28 (.load false 1 (.t 27)) 26 true,
g_ 29 (.bin .eql (.t 28) (.c (.int .i64 0))) 26 true,
o_ 30 (.pick (.t 26) (.t 29) (.c (.bool false))),
m_ 31 30,
g_ 32 (.fadr 11 (.t 1)) 31 true,
g_ 33 (.load false 1 (.t 32)) 31 true,
g_ 34 (.bin .eql (.t 33) (.c (.int .i64 0))) 31 true,
o_ 35 (.pick (.t 31) (.t 34) (.c (.bool false))),
m_ 2 35] true)
.ret)
(.seq
(.region [
o_ 37 (.bin .eql (.t 13) (.c (.int .i64 10))),
m_ 36 37] false)
(.cond (.t 36)
(.seq
(.region [
o_ 38 (.call false (.c (.fn 276 [] [])) []),
o_ 39 (.fadr 12 (.t 1)),
o_ 40 (.load false 1 (.t 39)),
o_ 41 (.call false (.c (.fn 274 [] [])) [.t 38, .t 40]),
m_ 42 41,
g_ 43 (.fadr 2 (.t 1)) 42 true,
g_ 44 (.load false 1 (.t 43)) 42 true,
g_ 45 (.len .sli (.t 44)) 42 true,
g_ 46 (.bin .eql (.t 45) (.c (.int .i64 1))) 42 true,
o_ 47 (.pick (.t 42) (.t 46) (.c (.bool false))),
m_ 48 47,
g_ 49 (.fadr 2 (.t 1)) 48 true,
g_ 50 (.load false 1 (.t 49)) 48 true,
g_ 51 (.idxa 3 (.t 50) (.c (.int .i64 0))) 48 true,
g_ 52 (.load true 3 (.t 51)) 48 true,
g_ 53 (.call false (.c (.fn 272 [] [])) [.t 52]) 48 true,
o_ 54 (.pick (.t 48) (.t 53) (.c (.bool false))),
m_ 55 54,
g_ 56 (.fadr 2 (.t 1)) 55 true,
g_ 57 (.load false 1 (.t 56)) 55 true,
g_ 58 (.idxa 3 (.t 57) (.c (.int .i64 0))) 55 true,
g_ 59 (.fadr 2 (.t 58)) 55 true,
g_ 60 (.load false 1 (.t 59)) 55 true,
g_ 61 (.bin .eql (.t 60) (.c (.int .i64 0))) 55 true,
o_ 62 (.pick (.t 55) (.t 61) (.c (.bool false))),
m_ 63 62,
g_ 64 (.fadr 10 (.t 1)) 63 true,
g_ 65 (.load false 1 (.t 64)) 63 true,
g_ 66 (.bin .eql (.t 65) (.c (.int .i64 0))) 63 true,
o_ 67 (.pick (.t 63) (.t 66) (.c (.bool false))),
m_ 68 67,
g_ 69 (.fadr 11 (.t 1)) 68 true,
g_ 70 (.load false 1 (.t 69)) 68 true,
g_ 71 (.bin .eql (.t 70) (.c (.int .i64 0))) 68 true,
o_ 72 (.pick (.t 68) (.t 71) (.c (.bool false))),
m_ 2 72] true)
.ret)
(.seq
(.region [
o_ 74 (.bin .eql (.t 13) (.c (.int .i64 11))),
m_ 73 74] false)
(.cond (.t 73)
(.seq
(.region [
o_ 75 (.fadr 10 (.t 1)),
o_ 76 (.load false 1 (.t 75)),
o_ 77 (.fadr 11 (.t 1)),
o_ 78 (.load false 1 (.t 77)),
o_ 79 (.build [.int .i64 0, .int .i64 0] [(0, 1, .t 76), (1, 1, .t 78)]),
o_ 80 (.call false (.c (.fn 168 [] [])) [.t 79]),
m_ 81 80,
g_ 82 (.fadr 2 (.t 1)) 81 true,
g_ 83 (.load false 1 (.t 82)) 81 true,
g_ 84 (.len .sli (.t 83)) 81 true,
g_ 85 (.bin .eql (.t 84) (.c (.int .i64 0))) 81 true,
o_ 86 (.pick (.t 81) (.t 85) (.c (.bool false))),
m_ 87 86,
g_ 88 (.fadr 12 (.t 1)) 87 true,
g_ 89 (.load false 1 (.t 88)) 87 true,
g_ 90 (.bin .eql (.t 89) (.c (.str ⟨#[]⟩))) 87 true,
o_ 91 (.pick (.t 87) (.t 90) (.c (.bool false))),
m_ 2 91] false)
.ret)
.skip))))))))
(.seq
(.region [
o_ 92 (.fadr 0 (.t 1)),
o_ 93 (.load false 1 (.t 92)),
o_ 94 (.bin .eql (.t 93) (.c (.int .i64 12))),
m_ 95 94,
g_ 96 (.load true 14 (.t 1)) 95 true,
g_ 97 (.call false (.c (.fn 269 [] [])) [.t 96]) 95 true,
o_ 98 (.pick (.t 95) (.t 97) (.c (.bool false))),
m_ 99 98,
g_ 100 (.fadr 2 (.t 1)) 99 true,
g_ 101 (.load false 1 (.t 100)) 99 true,
g_ 102 (.len .sli (.t 101)) 99 true,
g_ 103 (.bin .eql (.t 102) (.c (.int .i64 0))) 99 true,
o_ 104 (.pick (.t 99) (.t 103) (.c (.bool false))),
m_ 2 104] false)
.ret)))),
[.t 2]⟩
theorem ok224 : okFunc Go.Proofs.Tryz.prog 224 lf224 = true := by kernel_rfl
def lf225 : LFunc := ⟨97, 1,
(.seq
(.region [
o_ 1 (.box 14 (.t 0)),
o_ 2 (.mv (.c (.bool false)))] false)
(.seq
(.seq
(.region [
o_ 3 (.load true 14 (.t 1)),
o_ 4 (.call false (.c (.fn 273 [] [])) [.t 3]),
o_ 5 (.not (.t 4)),
m_ 6 5,
g_ 7 (.fadr 12 (.t 1)) 6 false,
g_ 8 (.load false 1 (.t 7)) 6 false,
g_ 9 (.bin .neq (.t 8) (.c (.str ⟨#[]⟩))) 6 false,
o_ 10 (.pick (.t 6) (.c (.bool true)) (.t 9))] false)
(.cond (.t 10)
(.seq
(.region [
o_ 2 (.mv (.c (.bool false)))] false)
.ret)
.skip))
(.seq
(.seq
(.region [
o_ 11 (.fadr 0 (.t 1)),
o_ 12 (.load false 1 (.t 11))] false)
(.block 0
(.seq
(.region [
o_ 14 (.bin .eql (.t 12) (.c (.int .i64 5))),
m_ 13 14] false)
(.cond (.t 13)
(.seq
(.region [
o_ 15 (.fadr 10 (.t 1)),
o_ 16 (.load false 1 (.t 15)),
o_ 17 (.bin .geq (.t 16) (.c (.int .i64 1))),
m_ 18 17,
g_ 19 (.fadr 10 (.t 1)) 18 true,
g_ 20 (.load false 1 (.t 19)) 18 true,
g_ 21 (.bin .leq (.t 20) (.c (.int .i64 16))) 18 true,
o_ 22 (.pick (.t 18) (.t 21) (.c (.bool false))),
m_ 23 22,
g_ 24 (.fadr 11 (.t 1)) 23 true,
g_ 25 (.load false 1 (.t 24)) 23 true,
g_ 26 (.bin .geq (.t 25) (.c (.int .i64 1))) 23 true,
o_ 27 (.pick (.t 23) (.t 26) (.c (.bool false))),
m_ 28 27,
g_ 29 (.fadr 11 (.t 1)) 28 true,
g_ 30 (.load false 1 (.t 29)) 28 true,
g_ 31 (.bin .leq (.t 30) (.c (.int .i64 16))) 28 true,
o_ 32 (.pick (.t 28) (.t 31) (.c (.bool false))),
m_ 33 32,
g_ 34 (.fadr 2 (.t 1)) 33 true,
g_ 35 (.load false 1 (.t 34)) 33 true,
g_ 36 (.len .sli (.t 35)) 33 true,
g_ 37 (.bin .eql (.t 36) (.c (.int .i64 0))) 33 true,
o_ 38 (.pick (.t 33) (.t 37) (.c (.bool false))),
m_ 2 38] false)
.ret)
(.seq
(.region [
o_ 40 (.bin .eql (.t 12) (.c (.int .i64 6))),
m_ 39 40] false)
(.cond (.t 39)
(.seq
(.region [
o_ 41 (.fadr 10 (.t 1)),
o_ 42 (.load false 1 (.t 41)),
o_ 43 (.bin .eql (.t 42) (.c (.int .i64 0))),
m_ 44 43,
g_ 45 (.fadr 11 (.t 1)) 44 true,
g_ 46 (.load false 1 (.t 45)) 44 true,
g_ 47 (.bin .eql (.t 46) (.c (.int .i64 0))) 44 true,
o_ 48 (.pick (.t 44) (.t 47) (.c (.bool false))),
m_ 49 48,
g_ 50 (.fadr 2 (.t 1)) 49 true,
g_ 51 (.load false 1 (.t 50)) 49 true,
g_ 52 (.len .sli (.t 51)) 49 true,
g_ 53 (.bin .eql (.t 52) (.c (.int .i64 0))) 49 true,
o_ 54 (.pick (.t 49) (.t 53) (.c (.bool false))),
m_ 2 54] false)
.ret)
(.seq
(.region [
o_ 56 (.bin .eql (.t 12) (.c (.int .i64 7))),
m_ 55 56] false)
(.cond (.t 55)
(.seq
(.region [
o_ 57 (.fadr 10 (.t 1)),
o_ 58 (.load false 1 (.t 57)),
o_ 59 (.bin .geq (.t 58) (.c (.int .i64 1))),
m_ 60 59,
g_ 61 (.fadr 10 (.t 1)) 60 true,
g_ 62 (.load false 1 (.t 61)) 60 true,
g_ 63 (.bin .leq (.t 62) (.c (.int .i64 8))) 60 true,
o_ 64 (.pick (.t 60) (.t 63) (.c (.bool false))),
m_ 65 64,
g_ 66 (.fadr 11 (.t 1)) 65 true,
g_ 67 (.load false 1 (.t 66)) 65 true,
g_ 68 (.bin .eql (.t 67) (.c (.int .i64 0))) 65 true,
o_ 69 (.pick (.t 65) (.t 68) (.c (.bool false))),
m_ 70 69,
g_ 71 (.fadr 2 (.t 1)) 70 true,
g_ 72 (.load false 1 (.t 71)) 70 true,
g_ 73 (.len .sli (.t 72)) 70 true,
g_ 74 (.bin .eql (.t 73) (.c (.int .i64 0))) 70 true,
o_ 75 (.pick (.t 70) (.t 74) (.c (.bool false))),
m_ 2 75] false)
.ret)
.skip))))))))
(.seq
(.region [
o_ 76 (.fadr 10 (.t 1)),
o_ 77 (.load false 1 (.t 76)),
o_ 78 (.bin .eql (.t 77) (.c (.int .i64 0))),
m_ 79 78,
g_ 80 (.fadr 11 (.t 1)) 79 true,
g_ 81 (.load false 1 (.t 80)) 79 true,
g_ 82 (.bin .eql (.t 81) (.c (.int .i64 0))) 79 true,
o_ 83 (.pick (.t 79) (.t 82) (.c (.bool false))),
m_ 84 83,
g_ 85 (.fadr 2 (.t 1)) 84 true,
g_ 86 (.load false 1 (.t 85)) 84 true,
g_ 87 (.len .sli (.t 86)) 84 true,
g_ 88 (.bin .eql (.t 87) (.c (.int .i64 1))) 84 true,
o_ 89 (.pick (.t 84) (.t 88) (.c (.bool false))),
m_ 90 89,
g_ 91 (.fadr 2 (.t 1)) 90 true,
g_ 92 (.load false 1 (.t 91)) 90 true,
g_ 93 (.idxa 3 (.t 92) (.c (.int .i64 0))) 90 true,
g_ 94 (.load true 3 (.t 93)) 90 true,
g_ 95 (.call false (.c (.fn 272 [] [])) [.t 94]) 90 true,
o_ 96 (.pick (.t 90) (.t 95) (.c (.bool false))),
m_ 2 96] false)
.ret)))),
[.t 2]⟩
theorem ok225 : okFunc Go.Proofs.Tryz.prog 225 lf225 = true := by kernel_rfl
def lf226 : LFunc := ⟨8, 1,
(.seq
(.region [
o_ 2 (.mv (.c (.int .i64 0)))] false)
(.seq
(.seq
(.region [
m_ 3 0] false)
(.block 0
(.seq
(.region [
o_ 5 (.bin .eql (.t 3) (.c (.int .i64 5))),
m_ 4 5] false)
(.cond (.t 4)
(.seq
(.region [
o_ 2 (.mv (.c (.int .i64 1)))] false)
.ret)
(.seq
(.region [
o_ 7 (.bin .eql (.t 3) (.c (.int .i64 6))),
m_ 6 7] false)
(.cond (.t 6)
(.seq
(.region [
o_ 2 (.mv (.c (.int .i64 2)))] false)
.ret)
.skip))))))
(.seq
(.region [
o_ 2 (.mv (.c (.int .i64 0)))] false)
.ret))),
[.t 2]⟩
theorem ok226 : okFunc Go.Proofs.Tryz.prog 226 lf226 = true := by kernel_rfl
def lf227 : LFunc := ⟨28, 1,
(.seq
(.region [
o_ 2 (.mv (.c (.nils))),
o_ 3 (.mv (.c (.bool false)))] false)
(.seq
(.region [
o_ 4 (.mv (.c (.nils)))] false)
(.seq
(.seq
(.region [
o_ 5 (.mv (.c (.int .i64 0)))] false)
(.block 0
(.loop
(.seq
(.seq
(.region [
m_ 8 5,
m_ 9 0,
o_ 10 (.len .sli (.t 9)),
o_ 11 (.bin .lss (.t 8) (.t 10))] false)
(.cond (.t 11)
.skip
(.exit 0)))
(.seq
(.block 1
(.seq
(.region [
m_ 15 0,
m_ 16 5,
o_ 17 (.idxa 3 (.t 15) (.t 16)),
o_ 18 (.load true 3 (.t 17)),
o_ 19 (.call false (.c (.fn 154 [] [])) [.t 18]),
m_ 14 19,
o_ 20 (.extract (.t 14) 0),
o_ 21 (.extract (.t 14) 1),
o_ 6 (.newv [.int .i64 0, .int .i64 0, .int .i64 0]),
⟨none, .store 3 (.t 6) (.t 20), none⟩,
m_ 7 21] false)
(.seq
(.seq
(.region [
m_ 22 7,
o_ 23 (.not (.t 22))] false)
(.cond (.t 23)
(.seq
(.region [
o_ 2 (.mv (.c (.nils))),
o_ 3 (.mv (.c (.bool false)))] false)
.ret)
.skip))
(.region [
m_ 24 4,
o_ 25 (.load true 3 (.t 6)),
o_ 26 (.call false (.c (.fn 277 [] [])) [.t 24, .t 25]),
m_ 4 26] false))))
(.region [
m_ 12 5,
o_ 13 (.bin .add (.t 12) (.c (.int .i64 1))),
m_ 5 13] false))))))
(.seq
(.region [
m_ 27 4,
m_ 2 27,
o_ 3 (.mv (.c (.bool true)))] false)
.ret)))),
[.t 2, .t 3]⟩
theorem ok227 : okFunc Go.Proofs.Tryz.prog 227 lf227 = true := by kernel_rfl
def lf228 : LFunc := ⟨13, 1,
(.seq
(.region [
o_ 1 (.box 2 (.t 0)),
o_ 2 (.newv [.int .i64 0, .int .i64 0]),
o_ 3 (.mv (.c (.int .i64 0)))] false)
(.seq
(.seq
(.region [
o_ 4 (.load true 2 (.t 1)),
o_ 5 (.call false (.c (.fn 278 [] [])) [.t 4]),
o_ 6 (.not (.t 5))] false)
(.cond (.t 6)
(.seq
(.region [
o_ 7 (.build [.int .i64 0, .int .i64 0] []),
⟨none, .store 2 (.t 2) (.t 7), none⟩,
o_ 3 (.mv (.c (.int .i64 2)))] false)
.ret)
.skip))
(.seq
(.region [
o_ 8 (.load true 2 (.t 1)),
o_ 9 (.call false (.c (.fn 279 [] [])) [.t 8]),
o_ 10 (.call false (.c (.fn 169 [] [])) [.t 9, .c (.int .i64 1024)]),
o_ 11 (.extract (.t 10) 0),
o_ 12 (.extract (.t 10) 1),
⟨none, .store 2 (.t 2) (.t 11), none⟩,
m_ 3 12] false)
.ret))),
[.cell true 2 2, .t 3]⟩
theorem ok228 : okFunc Go.Proofs.Tryz.prog 228 lf228 = true := by kernel_rfl
def lf229 : LFunc := ⟨75, 2,
(.seq
(.region [
o_ 2 (.box 2 (.t 0)),
o_ 3 (.box 2 (.t 1)),
o_ 4 (.newv [.int .i64 0, .int .i64 0]),
o_ 5 (.mv (.c (.int .i64 0)))] false)
(.seq
(.seq
(.region [
o_ 12 (.load true 2 (.t 2)),
o_ 13 (.call false (.c (.fn 107 [] [])) [.t 12]),
o_ 14 (.not (.t 13)),
m_ 15 14,
g_ 16 (.load true 2 (.t 3)) 15 false,
g_ 17 (.call false (.c (.fn 107 [] [])) [.t 16]) 15 false,
g_ 18 (.not (.t 17)) 15 false,
o_ 19 (.pick (.t 15) (.c (.bool true)) (.t 18))] false)
(.cond (.t 19)
(.seq
(.region [
o_ 20 (.build [.int .i64 0, .int .i64 0] []),
⟨none, .store 2 (.t 4) (.t 20), none⟩,
o_ 5 (.mv (.c (.int .i64 2)))] false)
.ret)
.skip))
(.seq
(.region [
o_ 21 (.fadr 0 (.t 2)),
o_ 22 (.load false 1 (.t 21)),
o_ 23 (.call false (.c (.fn 172 [] [])) [.t 22]),
o_ 24 (.fadr 1 (.t 3)),
o_ 25 (.load false 1 (.t 24)),
o_ 26 (.call false (.c (.fn 170 [] [])) [.t 23, .t 25]),
o_ 27 (.fadr 0 (.t 3)),
o_ 28 (.load false 1 (.t 27)),
o_ 29 (.call false (.c (.fn 172 [] [])) [.t 28]),
o_ 30 (.fadr 1 (.t 2)),
o_ 31 (.load false 1 (.t 30)),
o_ 32 (.call false (.c (.fn 170 [] [])) [.t 29, .t 31]),
m_ 6 26,
m_ 7 32] true)
(.seq
(.region [
o_ 33 (.fadr 0 (.t 2)),
o_ 34 (.load false 1 (.t 33)),
m_ 35 6,
o_ 36 (.bin .quo (.t 34) (.t 35)),
o_ 37 (.fadr 0 (.t 3)),
o_ 38 (.load false 1 (.t 37)),
m_ 39 7,
o_ 40 (.bin .quo (.t 38) (.t 39)),
o_ 41 (.fadr 1 (.t 2)),
o_ 42 (.load false 1 (.t 41)),
m_ 43 7,
o_ 44 (.bin .quo (.t 42) (.t 43)),
o_ 45 (.fadr 1 (.t 3)),
o_ 46 (.load false 1 (.t 45)),
m_ 47 6,
o_ 48 (.bin .quo (.t 46) (.t 47)),
m_ 8 36,
m_ 9 40,
m_ 10 44,
m_ 11 48] true)
(.seq
(.seq
(.region [
m_ 49 9,
o_ 50 (.bin .neq (.t 49) (.c (.int .i64 0))),
m_ 51 50,
g_ 52 (.mv (.t 8)) 51 true,
g_ 53 (.call false (.c (.fn 172 [] [])) [.t 52]) 51 true,
g_ 54 (.mv (.t 9)) 51 true,
g_ 55 (.call false (.c (.fn 172 [] [])) [.t 54]) 51 true,
g_ 56 (.bin .quo (.c (.int .i64 1099511627776)) (.t 55)) 51 true,
g_ 57 (.bin .gtr (.t 53) (.t 56)) 51 true,
o_ 58 (.pick (.t 51) (.t 57) (.c (.bool false))),
m_ 59 58,
g_ 60 (.mv (.t 10)) 59 false,
g_ 61 (.mv (.t 11)) 59 false,
g_ 62 (.bin .quo (.c (.int .i64 1048576)) (.t 61)) 59 false,
g_ 63 (.bin .gtr (.t 60) (.t 62)) 59 false,
o_ 64 (.pick (.t 59) (.c (.bool true)) (.t 63))] false)
(.cond (.t 64)
(.seq
(.region [
o_ 65 (.build [.int .i64 0, .int .i64 0] []),
⟨none, .store 2 (.t 4) (.t 65), none⟩,
o_ 5 (.mv (.c (.int .i64 3)))] false)
.ret)
.skip))
(.seq
(.region [
m_ 66 8,
m_ 67 9,
o_ 68 (.bin .mul (.t 66) (.t 67)),
m_ 69 10,
m_ 70 11,
o_ 71 (.bin .mul (.t 69) (.t 70)),
o_ 72 (.call false (.c (.fn 171 [] [])) [.t 68, .t 71]),
o_ 73 (.extract (.t 72) 0),
o_ 74 (.extract (.t 72) 1),
⟨none, .store 2 (.t 4) (.t 73), none⟩,
m_ 5 74] false)
.ret)))))),
[.cell true 2 4, .t 5]⟩
theorem ok229 : okFunc Go.Proofs.Tryz.prog 229 lf229 = true := by kernel_rfl
def lf230 : LFunc := ⟨55, 2,
(.seq
(.region [
o_ 3 (.box 14 (.t 1))] false)
(.seq
(.seq
(.region [
o_ 5 (.fadr 6 (.t 3)),
o_ 6 (.fadr 2 (.t 5)),
o_ 7 (.load false 1 (.t 6)),
m_ 8 0,
o_ 9 (.nilck (.t 8)),
o_ 10 (.fadr 15 (.t 9)),
o_ 11 (.load false 1 (.t 10)),
o_ 12 (.len .sli (.t 11)),
o_ 13 (.bin .gtr (.t 7) (.t 12))] true)
(.cond (.t 13)
(.seq
(.region [
m_ 14 0,
o_ 15 (.fadr 1 (.t 3)),
o_ 16 (.load false 1 (.t 15)),
o_ 17 (.call false (.c (.fn 163 [] [])) [.t 14, .c (.int .i64 24), .t 16])] false)
.ret)
.skip))
(.seq
(.region [
m_ 18 0,
m_ 19 0,
o_ 20 (.nilck (.t 19)),
o_ 21 (.fadr 15 (.t 20)),
o_ 22 (.load false 1 (.t 21)),
m_ 23 0,
o_ 24 (.nilck (.t 23)),
o_ 25 (.fadr 15 (.t 24)),
o_ 26 (.load false 1 (.t 25)),
o_ 27 (.len .sli (.t 26)),
o_ 28 (.fadr 6 (.t 3)),
o_ 29 (.fadr 2 (.t 28)),
o_ 30 (.load false 1 (.t 29)),
o_ 31 (.bin .sub (.t 27) (.t 30)),
o_ 32 (.slice 1 (.t 22) none (some (.t 31)) none),
o_ 33 (.nilck (.t 18)),
o_ 34 (.fadr 15 (.t 33)),
⟨none, .store 1 (.t 34) (.t 32), none⟩] true)
(.seq
(.region [
o_ 4 (.mv (.c (.int .i64 0)))] false)
(.block 0
(.loop
(.seq
(.seq
(.region [
m_ 35 4,
o_ 36 (.fadr 6 (.t 3)),
o_ 37 (.fadr 1 (.t 36)),
o_ 38 (.load false 1 (.t 37)),
o_ 39 (.bin .lss (.t 35) (.t 38))] false)
(.cond (.t 39)
.skip
(.exit 0)))
(.seq
(.block 1
(.region [
m_ 42 0,
o_ 43 (.bsl 1 0 [.int .i64 0] []),
m_ 44 0,
o_ 45 (.nilck (.t 44)),
o_ 46 (.fadr 15 (.t 45)),
o_ 47 (.load false 1 (.t 46)),
o_ 48 (.appendH 1 8 (.t 43) (.t 47)),
o_ 49 (.fadr 1 (.t 3)),
o_ 50 (.load false 1 (.t 49)),
o_ 51 (.btsl 1 1 [.int .i64 0] [(0, .t 50)]),
o_ 52 (.appendH 1 8 (.t 48) (.t 51)),
o_ 53 (.nilck (.t 42)),
o_ 54 (.fadr 15 (.t 53)),
⟨none, .store 1 (.t 54) (.t 52), none⟩] true))
(.region [
m_ 40 4,
o_ 41 (.bin .add (.t 40) (.c (.int .i64 1))),
m_ 4 41] false))))))))),
[]⟩
theorem ok230 : okFunc Go.Proofs.Tryz.prog 230 lf230 = true := by kernel_rfl
def lf231 : LFunc := ⟨28, 2,
(.seq
(.region [
o_ 3 (.box 18 (.t 1))] false)
(.seq
(.region [
m_ 4 0,
o_ 5 (.nilck (.t 4)),
o_ 6 (.fadr 7 (.t 5)),
o_ 7 (.load true 2 (.t 6)),
o_ 8 (.fadr 2 (.t 3)),
⟨none, .store 2 (.t 8) (.t 7), none⟩] false)
(.seq
(.region [
o_ 9 (.bsl 1 0 [.int .i64 0] []),
m_ 10 0,
o_ 11 (.nilck (.t 10)),
o_ 12 (.fadr 11 (.t 11)),
o_ 13 (.load false 1 (.t 12)),
o_ 14 (.append 1 8 (.t 9) (.t 13)),
o_ 15 (.fadr 13 (.t 3)),
⟨none, .store 1 (.t 15) (.t 14), none⟩] false)
(.region [
m_ 16 0,
m_ 17 0,
o_ 18 (.nilck (.t 17)),
o_ 19 (.fadr 0 (.t 18)),
o_ 20 (.fadr 2 (.t 19)),
o_ 21 (.load false 1 (.t 20)),
o_ 22 (.load true 18 (.t 3)),
o_ 23 (.btsl 18 1 [.int .i64 0, .int .i64 0, .int .i64 0, .int .i64 0, .int .i64 0, .int .i64 0, .int .i64 0, .int .i64 0, .nils, .bool false, .int .i64 0, .int .i64 0, .str ⟨#[]⟩, .nils, .int .i64 0, .int .i64 0, .int .i64 0, .int .i64 0] [(0, .t 22)]),
o_ 24 (.append 18 184 (.t 21) (.t 23)),
o_ 25 (.nilck (.t 16)),
o_ 26 (.fadr 0 (.t 25)),
o_ 27 (.fadr 2 (.t 26)),
⟨none, .store 1 (.t 27) (.t 24), none⟩] true)))),
[]⟩
theorem ok231 : okFunc Go.Proofs.Tryz.prog 231 lf231 = true := by kernel_rfl
def lf232 : LFunc := ⟨14, 2,
(.seq
(.region [
o_ 4 (.newv [.int .i64 0, .int .i64 0])] false)
(.seq
(.region [
m_ 8 0,
m_ 9 1,
o_ 10 (.call false (.c (.fn 169 [] [])) [.t 8, .t 9]),
m_ 7 10,
o_ 11 (.extract (.t 7) 0),
o_ 12 (.extract (.t 7) 1),
o_ 5 (.newv [.int .i64 0, .int .i64 0]),
⟨none, .store 2 (.t 5) (.t 11), none⟩,
m_ 6 12] false)
(.seq
(.region [
o_ 13 (.load true 2 (.t 5)),
⟨none, .store 2 (.t 4) (.t 13), none⟩] false)
.ret))),
[.cell true 2 4]⟩
theorem ok232 : okFunc Go.Proofs.Tryz.prog 232 lf232 = true := by kernel_rfl
def lf233 : LFunc := ⟨21, 1,
(.seq
(.region [
o_ 2 (.mv (.c (.int .i64 0))),
o_ 3 (.mv (.c (.bool false)))] false)
(.seq
(.region [
o_ 6 (.call false (.c (.fn 280 [] [])) []),
m_ 4 6] false)
(.seq
(.seq
(.region [
o_ 5 (.mv (.c (.int .i64 0)))] false)
(.block 0
(.loop
(.seq
(.seq
(.region [
m_ 7 5,
m_ 8 4,
o_ 9 (.len .sli (.t 8)),
o_ 10 (.bin .lss (.t 7) (.t 9))] false)
(.cond (.t 10)
.skip
(.exit 0)))
(.seq
(.block 1
(.seq
(.region [
m_ 13 4,
m_ 14 5,
o_ 15 (.idxa 1 (.t 13) (.t 14)),
o_ 16 (.load false 1 (.t 15)),
m_ 17 0,
o_ 18 (.bin .eql (.t 16) (.t 17))] false)
(.cond (.t 18)
(.seq
(.region [
m_ 19 5,
o_ 20 (.bin .add (.t 19) (.c (.int .i64 1))),
m_ 2 20,
o_ 3 (.mv (.c (.bool true)))] false)
.ret)
.skip)))
(.region [
m_ 11 5,
o_ 12 (.bin .add (.t 11) (.c (.int .i64 1))),
m_ 5 12] false))))))
(.seq
(.region [
o_ 2 (.mv (.c (.int .i64 0))),
o_ 3 (.mv (.c (.bool false)))] false)
.ret)))),
[.t 2, .t 3]⟩
theorem ok233 : okFunc Go.Proofs.Tryz.prog 233 lf233 = true := by kernel_rfl
def lf234 : LFunc := ⟨40, 3,
(.seq
(.region [
o_ 6 (.mv (.c (.int .i64 0))),
o_ 7 (.mv (.c (.bool false)))] false)
(.seq
(.seq
(.region [
m_ 9 0,
o_ 10 (.bin .lss (.t 9) (.c (.int .i64 0))),
m_ 11 10,
g_ 12 (.mv (.t 0)) 11 false,
g_ 13 (.bin .gtr (.t 12) (.c (.int .i64 6))) 11 false,
o_ 14 (.pick (.t 11) (.c (.bool true)) (.t 13)),
m_ 15 14,
g_ 16 (.mv (.t 1)) 15 false,
g_ 17 (.bin .lss (.t 16) (.c (.int .i64 (-2)))) 15 false,
o_ 18 (.pick (.t 15) (.c (.bool true)) (.t 17)),
m_ 19 18,
g_ 20 (.mv (.t 1)) 19 false,
g_ 21 (.bin .gtr (.t 20) (.c (.int .i64 2))) 19 false,
o_ 22 (.pick (.t 19) (.c (.bool true)) (.t 21))] false)
(.cond (.t 22)
(.seq
(.region [
o_ 6 (.mv (.c (.int .i64 0))),
o_ 7 (.mv (.c (.bool false)))] false)
.ret)
.skip))
(.seq
(.region [
o_ 23 (.bsl 1 7 [.int .i64 0] [(0, .c (.int .i64 0)), (1, .c (.int .i64 2)), (2, .c (.int .i64 4)), (3, .c (.int .i64 (-1))), (4, .c (.int .i64 1)), (5, .c (.int .i64 3)), (6, .c (.int .i64 5))]),
m_ 24 0,
o_ 25 (.idxa 1 (.t 23) (.t 24)),
o_ 26 (.load false 1 (.t 25)),
m_ 27 1,
o_ 28 (.bin .mul (.c (.int .i64 7)) (.t 27)),
o_ 29 (.bin .add (.t 26) (.t 28)),
m_ 8 29] false)
(.seq
(.seq
(.region [
m_ 30 2] false)
(.cond (.t 30)
(.region [
m_ 31 8,
o_ 32 (.bin .sub (.t 31) (.c (.int .i64 3))),
m_ 8 32] false)
.skip))
(.seq
(.seq
(.region [
m_ 33 8,
o_ 34 (.bin .lss (.t 33) (.c (.int .i64 (-7)))),
m_ 35 34,
g_ 36 (.mv (.t 8)) 35 false,
g_ 37 (.bin .gtr (.t 36) (.c (.int .i64 7))) 35 false,
o_ 38 (.pick (.t 35) (.c (.bool true)) (.t 37))] false)
(.cond (.t 38)
(.seq
(.region [
o_ 6 (.mv (.c (.int .i64 0))),
o_ 7 (.mv (.c (.bool false)))] false)
.ret)
.skip))
(.seq
(.region [
m_ 39 8,
m_ 6 39,
o_ 7 (.mv (.c (.bool true)))] false)
.ret)))))),
[.t 6, .t 7]⟩
theorem ok234 : okFunc Go.Proofs.Tryz.prog 234 lf234 = true := by kernel_rfl
def lf235 : LFunc := ⟨43, 3,
(.seq
(.region [
o_ 5 (.box 3 (.t 2)),
o_ 6 (.mv (.c (.bool false)))] false)
(.seq
(.seq
(.region [
o_ 7 (.mv (.c (.int .i64 0)))] false)
(.block 0
(.loop
(.seq
(.seq
(.region [
m_ 8 7,
m_ 9 1,
o_ 10 (.bin .lss (.t 8) (.t 9))] false)
(.cond (.t 10)
.skip
(.exit 0)))
(.seq
(.block 1
(.seq
(.region [
m_ 13 0,
m_ 14 7,
o_ 15 (.idxa 18 (.t 13) (.t 14)),
o_ 16 (.fadr 9 (.t 15)),
o_ 17 (.fadr 0 (.t 16)),
o_ 18 (.load false 1 (.t 17)),
m_ 19 18,
g_ 20 (.mv (.t 0)) 19 true,
g_ 21 (.mv (.t 7)) 19 true,
g_ 22 (.idxa 18 (.t 20) (.t 21)) 19 true,
g_ 23 (.fadr 14 (.t 22)) 19 true,
g_ 24 (.load false 1 (.t 23)) 19 true,
g_ 25 (.bin .eql (.t 24) (.c (.int .i64 0))) 19 true,
o_ 26 (.pick (.t 19) (.t 25) (.c (.bool false))),
m_ 27 26,
g_ 28 (.mv (.t 0)) 27 true,
g_ 29 (.mv (.t 7)) 27 true,
g_ 30 (.call false (.c (.fn 161 [] [])) [.t 28, .t 29]) 27 true,
g_ 31 (.mv (.t 1)) 27 true,
g_ 32 (.bin .eql (.t 30) (.t 31)) 27 true,
o_ 33 (.pick (.t 27) (.t 32) (.c (.bool false))),
m_ 34 33,
g_ 35 (.mv (.t 0)) 34 true,
g_ 36 (.mv (.t 7)) 34 true,
g_ 37 (.idxa 18 (.t 35) (.t 36)) 34 true,
g_ 38 (.fadr 8 (.t 37)) 34 true,
g_ 39 (.load false 1 (.t 38)) 34 true,
g_ 40 (.load true 3 (.t 5)) 34 true,
g_ 41 (.call false (.c (.fn 281 [] [])) [.t 39, .t 40]) 34 true,
o_ 42 (.pick (.t 34) (.t 41) (.c (.bool false)))] true)
(.cond (.t 42)
(.seq
(.region [
o_ 6 (.mv (.c (.bool true)))] false)
.ret)
.skip)))
(.region [
m_ 11 7,
o_ 12 (.bin .add (.t 11) (.c (.int .i64 1))),
m_ 7 12] false))))))
(.seq
(.region [
o_ 6 (.mv (.c (.bool false)))] false)
.ret))),
[.t 6]⟩
theorem ok235 : okFunc Go.Proofs.Tryz.prog 235 lf235 = true := by kernel_rfl
def lf236 : LFunc := ⟨145, 2,
(.seq
(.region [
o_ 2 (.box 7 (.t 0)),
o_ 4 (.mv (.c (.bool false)))] false)
(.seq
(.region [
o_ 8 (.fadr 2 (.t 2)),
o_ 9 (.load false 1 (.t 8)),
m_ 10 1,
o_ 11 (.idxa 18 (.t 9) (.t 10)),
o_ 12 (.load true 18 (.t 11)),
o_ 5 (.newv [.int .i64 0, .int .i64 0, .int .i64 0, .int .i64 0, .int .i64 0, .int .i64 0, .int .i64 0, .int .i64 0, .nils, .bool false, .int .i64 0, .int .i64 0, .str ⟨#[]⟩, .nils, .int .i64 0, .int .i64 0, .int .i64 0, .int .i64 0]),
⟨none, .store 18 (.t 5) (.t 12), none⟩] false)
(.seq
(.seq
(.region [
o_ 13 (.fadr 0 (.t 5)),
o_ 14 (.load false 1 (.t 13)),
o_ 15 (.bin .lss (.t 14) (.c (.int .i64 1))),
m_ 16 15,
g_ 17 (.fadr 0 (.t 5)) 16 false,
g_ 18 (.load false 1 (.t 17)) 16 false,
g_ 19 (.bin .gtr (.t 18) (.c (.int .i64 12))) 16 false,
o_ 20 (.pick (.t 16) (.c (.bool true)) (.t 19)),
m_ 21 20,
g_ 22 (.fadr 2 (.t 5)) 21 false,
g_ 23 (.load true 2 (.t 22)) 21 false,
g_ 24 (.call false (.c (.fn 107 [] [])) [.t 23]) 21 false,
g_ 25 (.not (.t 24)) 21 false,
o_ 26 (.pick (.t 21) (.c (.bool true)) (.t 25)),
m_ 27 26,
g_ 28 (.fadr 4 (.t 5)) 27 false,
g_ 29 (.load true 2 (.t 28)) 27 false,
g_ 30 (.call false (.c (.fn 107 [] [])) [.t 29]) 27 false,
g_ 31 (.not (.t 30)) 27 false,
o_ 32 (.pick (.t 27) (.c (.bool true)) (.t 31)),
m_ 33 32,
g_ 34 (.fadr 4 (.t 5)) 33 false,
g_ 35 (.fadr 0 (.t 34)) 33 false,
g_ 36 (.load false 1 (.t 35)) 33 false,
g_ 37 (.bin .lss (.t 36) (.c (.int .i64 0))) 33 false,
o_ 38 (.pick (.t 33) (.c (.bool true)) (.t 37)),
m_ 39 38,
g_ 40 (.fadr 14 (.t 5)) 39 false,
g_ 41 (.load false 1 (.t 40)) 39 false,
g_ 42 (.bin .lss (.t 41) (.c (.int .i64 0))) 39 false,
o_ 43 (.pick (.t 39) (.c (.bool true)) (.t 42)),
m_ 44 43,
g_ 45 (.fadr 8 (.t 5)) 44 false,
g_ 46 (.load false 1 (.t 45)) 44 false,
g_ 47 (.call false (.c (.fn 282 [] [])) [.t 46]) 44 false,
g_ 48 (.not (.t 47)) 44 false,
o_ 49 (.pick (.t 44) (.c (.bool true)) (.t 48)),
m_ 50 49,
g_ 51 (.load true 7 (.t 2)) 50 false,
g_ 52 (.mv (.t 1)) 50 false,
g_ 53 (.call false (.c (.fn 283 [] [])) [.t 51, .t 52]) 50 false,
g_ 54 (.not (.t 53)) 50 false,
o_ 55 (.pick (.t 50) (.c (.bool true)) (.t 54))] false)
(.cond (.t 55)
(.seq
(.region [
o_ 4 (.mv (.c (.bool false)))] false)
.ret)
.skip))
(.seq
(.seq
(.region [
o_ 56 (.fadr 0 (.t 5)),
o_ 57 (.load false 1 (.t 56)),
o_ 58 (.bin .eql (.t 57) (.c (.int .i64 1))),
o_ 59 (.fadr 8 (.t 5)),
o_ 60 (.load false 1 (.t 59)),
o_ 61 (.len .sli (.t 60)),
o_ 62 (.bin .gtr (.t 61) (.c (.int .i64 0))),
o_ 63 (.eq true (.sc .b) (.t 58) (.t 62))] false)
(.cond (.t 63)
(.seq
(.region [
o_ 4 (.mv (.c (.bool false)))] false)
.ret)
.skip))
(.seq
(.seq
(.region [
o_ 64 (.fadr 0 (.t 5)),
o_ 65 (.load false 1 (.t 64)),
o_ 66 (.bin .neq (.t 65) (.c (.int .i64 1))),
m_ 67 66,
g_ 68 (.fadr 9 (.t 5)) 67 true,
g_ 69 (.load true 4 (.t 68)) 67 true,
g_ 70 (.build [.bool false, .int .i64 0, .int .i64 0, .str ⟨#[]⟩] []) 67 true,
g_ 71 (.eq true (.ag [.b, .i, .i, .s]) (.t 69) (.t 70)) 67 true,
o_ 72 (.pick (.t 67) (.t 71) (.c (.bool false)))] false)
(.cond (.t 72)
(.seq
(.region [
o_ 4 (.mv (.c (.bool false)))] false)
.ret)
.skip))
(.seq
(.seq
(.region [
o_ 73 (.load true 18 (.t 5)),
o_ 74 (.call false (.c (.fn 284 [] [])) [.t 73]),
o_ 75 (.not (.t 74))] false)
(.cond (.t 75)
(.seq
(.region [
o_ 76 (.fadr 0 (.t 5)),
o_ 77 (.load false 1 (.t 76)),
o_ 78 (.bin .geq (.t 77) (.c (.int .i64 9))),
m_ 79 78,
g_ 80 (.fadr 4 (.t 5)) 79 true,
g_ 81 (.fadr 0 (.t 80)) 79 true,
g_ 82 (.load false 1 (.t 81)) 79 true,
g_ 83 (.bin .eql (.t 82) (.c (.int .i64 0))) 79 true,
o_ 84 (.pick (.t 79) (.t 83) (.c (.bool false))),
m_ 85 84,
g_ 86 (.fadr 14 (.t 5)) 85 true,
g_ 87 (.load false 1 (.t 86)) 85 true,
g_ 88 (.bin .eql (.t 87) (.c (.int .i64 0))) 85 true,
o_ 89 (.pick (.t 85) (.t 88) (.c (.bool false))),
m_ 90 89,
g_ 91 (.fadr 6 (.t 5)) 90 true,
g_ 92 (.load true 2 (.t 91)) 90 true,
g_ 93 (.build [.int .i64 0, .int .i64 0] []) 90 true,
g_ 94 (.eq false (.ag [.i, .i]) (.t 92) (.t 93)) 90 true,
o_ 95 (.pick (.t 90) (.t 94) (.c (.bool false))),
m_ 96 95,
g_ 97 (.load true 7 (.t 2)) 96 true,
g_ 98 (.load true 18 (.t 5)) 96 true,
g_ 99 (.call false (.c (.fn 285 [] [])) [.t 97, .t 98]) 96 true,
o_ 100 (.pick (.t 96) (.t 99) (.c (.bool false))),
m_ 4 100] false)
.ret)
.skip))
(.seq
(.seq
(.region [
o_ 101 (.fadr 15 (.t 5)),
o_ 102 (.load false 1 (.t 101)),
o_ 103 (.bin .neq (.t 102) (.c (.int .i64 0))),
m_ 104 103,
g_ 105 (.fadr 16 (.t 5)) 104 false,
g_ 106 (.load false 1 (.t 105)) 104 false,
g_ 107 (.bin .neq (.t 106) (.c (.int .i64 0))) 104 false,
o_ 108 (.pick (.t 104) (.c (.bool true)) (.t 107)),
m_ 109 108,
g_ 110 (.fadr 17 (.t 5)) 109 false,
g_ 111 (.load false 1 (.t 110)) 109 false,
g_ 112 (.bin .neq (.t 111) (.c (.int .i64 0))) 109 false,
o_ 113 (.pick (.t 109) (.c (.bool true)) (.t 112)),
m_ 114 113,
g_ 115 (.fadr 6 (.t 5)) 114 false,
g_ 116 (.load true 2 (.t 115)) 114 false,
g_ 117 (.call false (.c (.fn 278 [] [])) [.t 116]) 114 false,
g_ 118 (.not (.t 117)) 114 false,
o_ 119 (.pick (.t 114) (.c (.bool true)) (.t 118))] false)
(.cond (.t 119)
(.seq
(.region [
o_ 4 (.mv (.c (.bool false)))] false)
.ret)
.skip))
(.seq
(.seq
(.region [
o_ 120 (.fadr 14 (.t 5)),
o_ 121 (.load false 1 (.t 120)),
o_ 122 (.bin .gtr (.t 121) (.c (.int .i64 0)))] false)
(.cond (.t 122)
(.seq
(.region [
o_ 123 (.fadr 4 (.t 5)),
o_ 124 (.fadr 0 (.t 123)),
o_ 125 (.load false 1 (.t 124)),
o_ 126 (.bin .eql (.t 125) (.c (.int .i64 0))),
m_ 127 126,
g_ 128 (.fadr 0 (.t 5)) 127 true,
g_ 129 (.load false 1 (.t 128)) 127 true,
g_ 130 (.bin .neq (.t 129) (.c (.int .i64 4))) 127 true,
o_ 131 (.pick (.t 127) (.t 130) (.c (.bool false))),
m_ 4 131] false)
.ret)
.skip))
(.seq
(.region [
o_ 133 (.load true 7 (.t 2)),
o_ 134 (.load true 18 (.t 5)),
o_ 135 (.call false (.c (.fn 286 [] [])) [.t 133, .t 134]),
m_ 132 135,
o_ 136 (.extract (.t 132) 0),
o_ 137 (.extract (.t 132) 1),
o_ 6 (.newv [.int .i64 0, .int .i64 0]),
⟨none, .store 2 (.t 6) (.t 136), none⟩,
m_ 7 137] false)
(.seq
(.region [
m_ 138 7,
m_ 139 138,
g_ 140 (.load true 2 (.t 6)) 139 true,
g_ 141 (.fadr 4 (.t 5)) 139 true,
g_ 142 (.load true 2 (.t 141)) 139 true,
g_ 143 (.eq false (.ag [.i, .i]) (.t 140) (.t 142)) 139 true,
o_ 144 (.pick (.t 139) (.t 143) (.c (.bool false))),
m_ 4 144] false)
.ret)))))))))),
[.t 4]⟩
theorem ok236 : okFunc Go.Proofs.Tryz.prog 236 lf236 = true := by kernel_rfl
def lf237 : LFunc := ⟨44, 1,
(.seq
(.region [
o_ 2 (.mv (.c (.bool false)))] false)
(.seq
(.seq
(.region [
o_ 3 (.mv (.c (.int .i64 0)))] false)
(.block 0
(.loop
(.seq
(.seq
(.region [
m_ 5 3,
m_ 6 0,
o_ 7 (.len .sli (.t 6)),
o_ 8 (.bin .lss (.t 5) (.t 7))] false)
(.cond (.t 8)
.skip
(.exit 0)))
(.seq
(.block 1
(.seq
(.region [
m_ 11 0,
m_ 12 3,
o_ 13 (.idxa 18 (.t 11) (.t 12)),
o_ 14 (.fadr 9 (.t 13)),
o_ 15 (.fadr 0 (.t 14)),
o_ 16 (.load false 1 (.t 15))] false)
(.cond (.t 16)
(.seq
(.region [
m_ 17 0,
m_ 18 3,
o_ 19 (.call false (.c (.fn 161 [] [])) [.t 17, .t 18]),
m_ 4 19] false)
(.seq
(.region [
m_ 20 4,
o_ 21 (.bin .lss (.t 20) (.c (.int .i64 0))),
m_ 22 21,
g_ 23 (.mv (.t 0)) 22 false,
g_ 24 (.mv (.t 4)) 22 false,
g_ 25 (.idxa 18 (.t 23) (.t 24)) 22 false,
g_ 26 (.fadr 0 (.t 25)) 22 false,
g_ 27 (.load false 1 (.t 26)) 22 false,
g_ 28 (.bin .neq (.t 27) (.c (.int .i64 1))) 22 false,
o_ 29 (.pick (.t 22) (.c (.bool true)) (.t 28)),
m_ 30 29,
g_ 31 (.mv (.t 0)) 30 false,
g_ 32 (.mv (.t 4)) 30 false,
g_ 33 (.idxa 18 (.t 31) (.t 32)) 30 false,
g_ 34 (.fadr 8 (.t 33)) 30 false,
g_ 35 (.load false 1 (.t 34)) 30 false,
g_ 36 (.mv (.t 0)) 30 false,
g_ 37 (.mv (.t 3)) 30 false,
g_ 38 (.idxa 18 (.t 36) (.t 37)) 30 false,
g_ 39 (.fadr 8 (.t 38)) 30 false,
g_ 40 (.load false 1 (.t 39)) 30 false,
g_ 41 (.call false (.c (.fn 162 [] [])) [.t 35, .t 40]) 30 false,
g_ 42 (.not (.t 41)) 30 false,
o_ 43 (.pick (.t 30) (.c (.bool true)) (.t 42))] true)
(.cond (.t 43)
(.seq
(.region [
o_ 2 (.mv (.c (.bool false)))] false)
.ret)
.skip)))
.skip)))
(.region [
m_ 9 3,
o_ 10 (.bin .add (.t 9) (.c (.int .i64 1))),
m_ 3 10] false))))))
(.seq
(.region [
o_ 2 (.mv (.c (.bool true)))] false)
.ret))),
[.t 2]⟩
theorem ok237 : okFunc Go.Proofs.Tryz.prog 237 lf237 = true := by kernel_rfl
def lf238 : LFunc := ⟨45, 2,
(.seq
(.region [
o_ 2 (.box 7 (.t 0)),
o_ 3 (.box 4 (.t 1)),
o_ 4 (.mv (.c (.bool false)))] false)
(.seq
(.region [
o_ 6 (.fadr 0 (.t 3)),
o_ 7 (.load false 1 (.t 6)),
o_ 8 (.bin .geq (.t 7) (.c (.int .i64 0))),
m_ 9 8,
g_ 10 (.fadr 0 (.t 3)) 9 true,
g_ 11 (.load false 1 (.t 10)) 9 true,
g_ 12 (.fadr 1 (.t 3)) 9 true,
g_ 13 (.load false 1 (.t 12)) 9 true,
g_ 14 (.bin .leq (.t 11) (.t 13)) 9 true,
o_ 15 (.pick (.t 9) (.t 14) (.c (.bool false))),
m_ 16 15,
g_ 17 (.fadr 1 (.t 3)) 16 true,
g_ 18 (.load false 1 (.t 17)) 16 true,
g_ 19 (.fadr 2 (.t 2)) 16 true,
g_ 20 (.load false 1 (.t 19)) 16 true,
g_ 21 (.len .sli (.t 20)) 16 true,
g_ 22 (.bin .lss (.t 18) (.t 21)) 16 true,
o_ 23 (.pick (.t 16) (.t 22) (.c (.bool false))),
m_ 5 23] false)
(.seq
(.region [
m_ 24 5,
m_ 25 24,
g_ 26 (.fadr 2 (.t 3)) 25 true,
g_ 27 (.load false 1 (.t 26)) 25 true,
g_ 28 (.bin .geq (.t 27) (.c (.int .i64 1))) 25 true,
o_ 29 (.pick (.t 25) (.t 28) (.c (.bool false))),
m_ 30 29,
g_ 31 (.fadr 2 (.t 3)) 30 true,
g_ 32 (.load false 1 (.t 31)) 30 true,
g_ 33 (.bin .leq (.t 32) (.c (.int .i64 16))) 30 true,
o_ 34 (.pick (.t 30) (.t 33) (.c (.bool false))),
m_ 35 34,
g_ 36 (.fadr 3 (.t 3)) 35 true,
g_ 37 (.load false 1 (.t 36)) 35 true,
g_ 38 (.bin .geq (.t 37) (.c (.int .i64 1))) 35 true,
o_ 39 (.pick (.t 35) (.t 38) (.c (.bool false))),
m_ 40 39,
g_ 41 (.fadr 3 (.t 3)) 40 true,
g_ 42 (.load false 1 (.t 41)) 40 true,
g_ 43 (.bin .leq (.t 42) (.c (.int .i64 16))) 40 true,
o_ 44 (.pick (.t 40) (.t 43) (.c (.bool false))),
m_ 4 44] false)
.ret))),
[.t 4]⟩
theorem ok238 : okFunc Go.Proofs.Tryz.prog 238 lf238 = true := by kernel_rfl
def lf239 : LFunc := ⟨5, 1,
(.seq
(.region [
o_ 2 (.newv [.int .i64 0, .int .i64 0])] false)
(.seq
(.region [
m_ 3 0,
o_ 4 (.build [.int .i64 0, .int .i64 0] [(0, 1, .t 3), (1, 1, .c (.int .i64 1))]),
⟨none, .store 2 (.t 2) (.t 4), none⟩] false)
.ret)),
[.cell true 2 2]⟩
theorem ok239 : okFunc Go.Proofs.Tryz.prog 239 lf239 = true := by kernel_rfl
def lf240 : LFunc := ⟨91, 2,
(.seq
(.region [
o_ 2 (.box 7 (.t 0)),
o_ 4 (.mv (.c (.bool false)))] false)
(.seq
(.region [
o_ 8 (.fadr 2 (.t 2)),
o_ 9 (.load false 1 (.t 8)),
m_ 10 1,
o_ 11 (.idxa 18 (.t 9) (.t 10)),
o_ 12 (.load true 18 (.t 11)),
o_ 5 (.newv [.int .i64 0, .int .i64 0, .int .i64 0, .int .i64 0, .int .i64 0, .int .i64 0, .int .i64 0, .int .i64 0, .nils, .bool false, .int .i64 0, .int .i64 0, .str ⟨#[]⟩, .nils, .int .i64 0, .int .i64 0, .int .i64 0, .int .i64 0]),
⟨none, .store 18 (.t 5) (.t 12), none⟩] false)
(.seq
(.region [
o_ 13 (.load true 18 (.t 5)),
o_ 14 (.call false (.c (.fn 287 [] [])) [.t 13]),
m_ 15 14,
g_ 16 (.fadr 0 (.t 5)) 15 true,
g_ 17 (.load false 1 (.t 16)) 15 true,
g_ 18 (.bin .neq (.t 17) (.c (.int .i64 2))) 15 true,
o_ 19 (.pick (.t 15) (.t 18) (.c (.bool false))),
m_ 20 19,
g_ 21 (.fadr 0 (.t 5)) 20 false,
g_ 22 (.load false 1 (.t 21)) 20 false,
g_ 23 (.bin .geq (.t 22) (.c (.int .i64 9))) 20 false,
g_ 24 (.mv (.t 23)) 20 false,
g_ 25 (.fadr 0 (.t 5)) 24 true,
g_ 26 (.load false 1 (.t 25)) 24 true,
g_ 27 (.bin .leq (.t 26) (.c (.int .i64 12))) 24 true,
g_ 28 (.pick (.t 24) (.t 27) (.c (.bool false))) 20 false,
o_ 29 (.pick (.t 20) (.c (.bool true)) (.t 28)),
m_ 6 29] false)
(.seq
(.seq
(.region [
m_ 30 6,
o_ 31 (.not (.t 30)),
m_ 32 31,
g_ 33 (.fadr 2 (.t 5)) 32 false,
g_ 34 (.load true 2 (.t 33)) 32 false,
g_ 35 (.call false (.c (.fn 116 [] [])) [.t 34]) 32 false,
g_ 36 (.not (.t 35)) 32 false,
o_ 37 (.pick (.t 32) (.c (.bool true)) (.t 36)),
m_ 38 37,
g_ 39 (.fadr 4 (.t 5)) 38 false,
g_ 40 (.load true 2 (.t 39)) 38 false,
g_ 41 (.call false (.c (.fn 116 [] [])) [.t 40]) 38 false,
g_ 42 (.not (.t 41)) 38 false,
o_ 43 (.pick (.t 38) (.c (.bool true)) (.t 42)),
m_ 44 43,
g_ 45 (.fadr 14 (.t 5)) 44 false,
g_ 46 (.load false 1 (.t 45)) 44 false,
g_ 47 (.bin .lss (.t 46) (.c (.int .i64 0))) 44 false,
o_ 48 (.pick (.t 44) (.c (.bool true)) (.t 47)),
m_ 49 48,
g_ 50 (.fadr 13 (.t 5)) 49 false,
g_ 51 (.load false 1 (.t 50)) 49 false,
g_ 52 (.load true 7 (.t 2)) 49 false,
g_ 53 (.mv (.t 1)) 49 false,
g_ 54 (.call false (.c (.fn 289 [] [])) [.t 52, .t 53]) 49 false,
g_ 55 (.call false (.c (.fn 288 [] [])) [.t 51, .t 54]) 49 false,
g_ 56 (.not (.t 55)) 49 false,
o_ 57 (.pick (.t 49) (.c (.bool true)) (.t 56))] true)
(.cond (.t 57)
(.seq
(.region [
o_ 4 (.mv (.c (.bool false)))] false)
.ret)
.skip))
(.seq
(.region [
o_ 58 (.fadr 0 (.t 5)),
o_ 59 (.load false 1 (.t 58)),
o_ 60 (.bin .eql (.t 59) (.c (.int .i64 1))),
m_ 7 60] false)
(.seq
(.seq
(.region [
m_ 61 7,
o_ 62 (.fadr 8 (.t 5)),
o_ 63 (.load false 1 (.t 62)),
o_ 64 (.len .sli (.t 63)),
o_ 65 (.bin .gtr (.t 64) (.c (.int .i64 0))),
o_ 66 (.eq true (.sc .b) (.t 61) (.t 65)),
m_ 67 66,
g_ 68 (.fadr 8 (.t 5)) 67 false,
g_ 69 (.load false 1 (.t 68)) 67 false,
g_ 70 (.call false (.c (.fn 290 [] [])) [.t 69]) 67 false,
g_ 71 (.not (.t 70)) 67 false,
o_ 72 (.pick (.t 67) (.c (.bool true)) (.t 71)),
m_ 73 72,
g_ 74 (.mv (.t 7)) 73 false,
g_ 75 (.not (.t 74)) 73 false,
g_ 76 (.mv (.t 75)) 73 false,
g_ 77 (.fadr 9 (.t 5)) 76 true,
g_ 78 (.load true 4 (.t 77)) 76 true,
g_ 79 (.build [.bool false, .int .i64 0, .int .i64 0, .str ⟨#[]⟩] []) 76 true,
g_ 80 (.eq true (.ag [.b, .i, .i, .s]) (.t 78) (.t 79)) 76 true,
g_ 81 (.pick (.t 76) (.t 80) (.c (.bool false))) 73 false,
o_ 82 (.pick (.t 73) (.c (.bool true)) (.t 81))] false)
(.cond (.t 82)
(.seq
(.region [
o_ 4 (.mv (.c (.bool false)))] false)
.ret)
.skip))
(.seq
(.region [
o_ 83 (.load true 7 (.t 2)),
o_ 84 (.load true 18 (.t 5)),
o_ 85 (.call false (.c (.fn 291 [] [])) [.t 83, .t 84]),
m_ 86 85,
g_ 87 (.load true 7 (.t 2)) 86 true,
g_ 88 (.load true 18 (.t 5)) 86 true,
g_ 89 (.call false (.c (.fn 292 [] [])) [.t 87, .t 88]) 86 true,
o_ 90 (.pick (.t 86) (.t 89) (.c (.bool false))),
m_ 4 90] false)
.ret))))))),
[.t 4]⟩
theorem ok240 : okFunc Go.Proofs.Tryz.prog 240 lf240 = true := by kernel_rfl
def lf241 : LFunc := ⟨39, 2,
(.seq
(.region [
o_ 4 (.mv (.c (.bool false)))] false)
(.seq
(.seq
(.region [
m_ 6 0,
m_ 7 1,
o_ 8 (.idxa 18 (.t 6) (.t 7)),
o_ 9 (.fadr 9 (.t 8)),
o_ 10 (.fadr 0 (.t 9)),
o_ 11 (.load false 1 (.t 10)),
o_ 12 (.not (.t 11))] false)
(.cond (.t 12)
(.seq
(.region [
o_ 4 (.mv (.c (.bool true)))] false)
.ret)
.skip))
(.seq
(.region [
m_ 13 0,
m_ 14 1,
o_ 15 (.call false (.c (.fn 293 [] [])) [.t 13, .t 14]),
m_ 5 15] false)
(.seq
(.region [
m_ 16 5,
o_ 17 (.bin .geq (.t 16) (.c (.int .i64 0))),
m_ 18 17,
g_ 19 (.mv (.t 0)) 18 true,
g_ 20 (.mv (.t 5)) 18 true,
g_ 21 (.idxa 18 (.t 19) (.t 20)) 18 true,
g_ 22 (.fadr 0 (.t 21)) 18 true,
g_ 23 (.load false 1 (.t 22)) 18 true,
g_ 24 (.bin .eql (.t 23) (.c (.int .i64 1))) 18 true,
o_ 25 (.pick (.t 18) (.t 24) (.c (.bool false))),
m_ 26 25,
g_ 27 (.mv (.t 0)) 26 true,
g_ 28 (.mv (.t 5)) 26 true,
g_ 29 (.idxa 18 (.t 27) (.t 28)) 26 true,
g_ 30 (.fadr 8 (.t 29)) 26 true,
g_ 31 (.load false 1 (.t 30)) 26 true,
g_ 32 (.mv (.t 0)) 26 true,
g_ 33 (.mv (.t 1)) 26 true,
g_ 34 (.idxa 18 (.t 32) (.t 33)) 26 true,
g_ 35 (.fadr 8 (.t 34)) 26 true,
g_ 36 (.load false 1 (.t 35)) 26 true,
g_ 37 (.call false (.c (.fn 294 [] [])) [.t 31, .t 36]) 26 true,
o_ 38 (.pick (.t 26) (.t 37) (.c (.bool false))),
m_ 4 38] true)
.ret)))),
[.t 4]⟩
theorem ok241 : okFunc Go.Proofs.Tryz.prog 241 lf241 = true := by kernel_rfl
def lf242 : LFunc := ⟨88, 1,
(.seq
(.region [
o_ 2 (.mv (.c (.int .i64 0)))] false)
(.seq
(.region [
o_ 3 (.mv (.c (.int .i64 (-1))))] false)
(.seq
(.region [
o_ 14 (.mkmap),
m_ 4 14] false)
(.seq
(.seq
(.region [
m_ 15 0,
o_ 16 (.len .sli (.t 15)),
o_ 17 (.mv (.c (.int .i64 0)))] false)
(.block 0
(.loop
(.seq
(.region [
o_ 18 (.bin .lss (.t 17) (.t 16))] false)
(.seq
(.cond (.t 18)
.skip
(.exit 0))
(.seq
(.block 1
(.seq
(.region [
m_ 19 17,
o_ 20 (.idxa 18 (.t 15) (.t 17)),
o_ 21 (.load true 18 (.t 20)),
o_ 6 (.newv [.int .i64 0, .int .i64 0, .int .i64 0, .int .i64 0, .int .i64 0, .int .i64 0, .int .i64 0, .int .i64 0, .nils, .bool false, .int .i64 0, .int .i64 0, .str ⟨#[]⟩, .nils, .int .i64 0, .int .i64 0, .int .i64 0, .int .i64 0]),
m_ 5 19,
⟨none, .store 18 (.t 6) (.t 21), none⟩] false)
(.seq
(.seq
(.region [
o_ 22 (.load true 18 (.t 6)),
o_ 23 (.call false (.c (.fn 287 [] [])) [.t 22]),
o_ 24 (.not (.t 23)),
m_ 25 24,
g_ 26 (.fadr 14 (.t 6)) 25 false,
g_ 27 (.load false 1 (.t 26)) 25 false,
g_ 28 (.bin .gtr (.t 27) (.c (.int .i64 0))) 25 false,
o_ 29 (.pick (.t 25) (.c (.bool true)) (.t 28))] false)
(.cond (.t 29)
(.exit 1)
.skip))
(.seq
(.region [
o_ 30 (.mkmap),
m_ 7 30] false)
(.seq
(.seq
(.region [
o_ 31 (.fadr 8 (.t 6)),
o_ 32 (.load false 1 (.t 31)),
o_ 33 (.len .sli (.t 32)),
o_ 34 (.mv (.c (.int .i64 0)))] false)
(.block 2
(.loop
(.seq
(.region [
o_ 35 (.bin .lss (.t 34) (.t 33))] false)
(.seq
(.cond (.t 35)
.skip
(.exit 2))
(.seq
(.block 3
(.seq
(.region [
o_ 36 (.idxa 3 (.t 32) (.t 34)),
o_ 37 (.load true 3 (.t 36)),
o_ 9 (.newv [.int .i64 0, .int .i64 0, .int .i64 0]),
⟨none, .store 3 (.t 9) (.t 37), none⟩] false)
(.seq
(.region [
m_ 39 4,
o_ 40 (.load true 3 (.t 9)),
o_ 41 (.lookup true (.ag [.i, .i, .i]) (.agg [.int .i64 0, .int .i64 0, .int .i64 0]) (.t 39) (.t 40)),
m_ 38 41,
o_ 42 (.extract (.t 38) 0),
o_ 43 (.extract (.t 38) 1),
o_ 10 (.newv [.int .i64 0, .int .i64 0, .int .i64 0]),
⟨none, .store 3 (.t 10) (.t 42), none⟩,
m_ 11 43] false)
(.seq
(.seq
(.region [
m_ 44 11,
o_ 45 (.not (.t 44))] false)
(.cond (.t 45)
(.region [
m_ 46 5,
o_ 47 (.call false (.c (.fn 239 [] [])) [.c (.int .i64 0)]),
o_ 48 (.build [.int .i64 0, .int .i64 0, .int .i64 0] [(0, 1, .t 46), (1, 2, .t 47)]),
⟨none, .store 3 (.t 10) (.t 48), none⟩] false)
.skip))
(.seq
(.region [
o_ 50 (.fadr 1 (.t 10)),
o_ 51 (.load true 2 (.t 50)),
o_ 52 (.fadr 4 (.t 6)),
o_ 53 (.load true 2 (.t 52)),
o_ 54 (.call false (.c (.fn 125 [] [])) [.t 51, .t 53]),
m_ 49 54,
o_ 55 (.extract (.t 49) 0),
o_ 56 (.extract (.t 49) 1),
o_ 12 (.newv [.int .i64 0, .int .i64 0]),
⟨none, .store 2 (.t 12) (.t 55), none⟩,
m_ 13 56] false)
(.seq
(.seq
(.region [
m_ 57 13,
o_ 58 (.bin .neq (.t 57) (.c (.int .i64 0))),
m_ 59 58,
g_ 60 (.mv (.t 3)) 59 true,
g_ 61 (.bin .lss (.t 60) (.c (.int .i64 0))) 59 true,
g_ 62 (.mv (.t 61)) 59 true,
g_ 63 (.fadr 0 (.t 10)) 62 false,
g_ 64 (.load false 1 (.t 63)) 62 false,
g_ 65 (.mv (.t 3)) 62 false,
g_ 66 (.bin .lss (.t 64) (.t 65)) 62 false,
g_ 67 (.pick (.t 62) (.c (.bool true)) (.t 66)) 59 true,
o_ 68 (.pick (.t 59) (.t 67) (.c (.bool false)))] false)
(.cond (.t 68)
(.region [
o_ 69 (.fadr 0 (.t 10)),
o_ 70 (.load false 1 (.t 69)),
m_ 3 70] false)
.skip))
(.seq
(.region [
m_ 71 13,
o_ 72 (.bin .eql (.t 71) (.c (.int .i64 0))),
m_ 73 72,
g_ 74 (.fadr 9 (.t 6)) 73 true,
g_ 75 (.fadr 0 (.t 74)) 73 true,
g_ 76 (.load false 1 (.t 75)) 73 true,
o_ 77 (.pick (.t 73) (.t 76) (.c (.bool false)))] false)
(.cond (.t 77)
(.region [
m_ 78 7,
o_ 79 (.load true 3 (.t 9)),
o_ 80 (.fadr 0 (.t 10)),
o_ 81 (.load false 1 (.t 80)),
o_ 82 (.load true 2 (.t 12)),
o_ 83 (.build [.int .i64 0, .int .i64 0, .int .i64 0] [(0, 1, .t 81), (1, 2, .t 82)]),
⟨none, .mapupd (.ag [.i, .i, .i]) (.t 78) (.t 79) (.t 83), none⟩] false)
.skip))))))))
(.region [
o_ 84 (.bin .add (.t 34) (.c (.int .i64 1))),
m_ 34 84] false)))))))
(.region [
m_ 85 7,
m_ 4 85] false))))))
(.region [
o_ 86 (.bin .add (.t 17) (.c (.int .i64 1))),
m_ 17 86] false)))))))
(.seq
(.region [
m_ 87 3,
m_ 2 87] false)
.ret))))),
[.t 2]⟩
theorem ok242 : okFunc Go.Proofs.Tryz.prog 242 lf242 = true := by kernel_rfl
def lf243 : LFunc := ⟨19, 2,
(.seq
(.region [
o_ 4 (.mv (.c (.int .i64 0)))] false)
(.seq
(.seq
(.region [
m_ 6 0,
o_ 7 (.len .sli (.t 6)),
o_ 8 (.mv (.c (.int .i64 0)))] false)
(.block 0
(.loop
(.seq
(.region [
o_ 9 (.bin .lss (.t 8) (.t 7))] false)
(.seq
(.cond (.t 9)
.skip
(.exit 0))
(.seq
(.block 1
(.seq
(.region [
m_ 10 8,
m_ 5 10] false)
(.seq
(.region [
m_ 11 1,
m_ 12 0,
m_ 13 5,
o_ 14 (.idxa 7 (.t 12) (.t 13)),
o_ 15 (.load true 7 (.t 14)),
o_ 16 (.call false (.t 11) [.t 15])] false)
(.cond (.t 16)
(.seq
(.region [
m_ 17 5,
m_ 4 17] false)
.ret)
.skip))))
(.region [
o_ 18 (.bin .add (.t 8) (.c (.int .i64 1))),
m_ 8 18] false)))))))
(.seq
(.region [
o_ 4 (.mv (.c (.int .i64 (-1))))] false)
.ret))),
[.t 4]⟩
theorem ok243 : okFunc Go.Proofs.Tryz.prog 243 lf243 = true := by kernel_rfl
def lf244 : LFunc := ⟨13, 2,
(.seq
(.region [
o_ 2 (.box 7 (.t 0)),
o_ 3 (.mv (.c (.bool false)))] false)
(.seq
(.region [
o_ 4 (.fadr 0 (.t 2)),
o_ 5 (.load false 1 (.t 4)),
o_ 6 (.load false 1 (.t 1)),
o_ 7 (.bin .eql (.t 5) (.t 6)),
m_ 8 7,
g_ 9 (.fadr 1 (.t 2)) 8 true,
g_ 10 (.load false 1 (.t 9)) 8 true,
g_ 11 (.bin .eql (.t 10) (.c (.int .i64 0))) 8 true,
o_ 12 (.pick (.t 8) (.t 11) (.c (.bool false))),
m_ 3 12] false)
.ret)),
[.t 3]⟩
theorem ok244 : okFunc Go.Proofs.Tryz.prog 244 lf244 = true := by kernel_rfl
def lf245 : LFunc := ⟨22, 2,
(.seq
(.region [
o_ 4 (.mv (.c (.bool false)))] false)
(.seq
(.seq
(.region [
m_ 6 0,
o_ 7 (.ifnil false (.t 6)),
m_ 8 7,
g_ 9 (.mv (.t 1)) 8 false,
g_ 10 (.ifnil false (.t 9)) 8 false,
o_ 11 (.pick (.t 8) (.c (.bool true)) (.t 10))] false)
(.cond (.t 11)
(.seq
(.region [
m_ 12 0,
m_ 13 1,
o_ 14 (.bad),
m_ 4 14] false)
.ret)
.skip))
(.seq
(.region [
m_ 15 1,
o_ 16 (.call false (.c (.fn 295 [] [])) [.t 15]),
o_ 17 (.bad),
m_ 5 17] false)
(.seq
(.region [
m_ 18 0,
m_ 19 1,
m_ 20 5,
o_ 21 (.call false (.c (.fn 296 [] [])) [.t 18, .t 19, .t 20]),
m_ 4 21] false)
.ret)))),
[.t 4]⟩
theorem ok245 : okFunc Go.Proofs.Tryz.prog 245 lf245 = true := by kernel_rfl
def lf246 : LFunc := ⟨19, 2,
(.seq
(.region [
o_ 4 (.newv [.int .i64 0, .int .i64 0]),
o_ 5 (.mv (.c (.int .i64 0)))] false)
(.seq
(.region [
m_ 7 0,
m_ 8 1,
o_ 9 (.build [.int .i64 0, .int .i64 0] [(0, 1, .t 7), (1, 1, .t 8)]),
o_ 6 (.newv [.int .i64 0, .int .i64 0]),
⟨none, .store 2 (.t 6) (.t 9), none⟩] false)
(.seq
(.seq
(.region [
m_ 10 0,
o_ 11 (.call false (.c (.fn 182 [] [])) [.t 10]),
o_ 12 (.bin .gtr (.t 11) (.c (.int .i64 1099511627776))),
m_ 13 12,
g_ 14 (.mv (.t 1)) 13 false,
g_ 15 (.bin .gtr (.t 14) (.c (.int .i64 1048576))) 13 false,
o_ 16 (.pick (.t 13) (.c (.bool true)) (.t 15))] false)
(.cond (.t 16)
(.seq
(.region [
o_ 17 (.call false (.c (.fn 192 [] [])) []),
⟨none, .store 2 (.t 4) (.t 17), none⟩,
o_ 5 (.mv (.c (.int .i64 3)))] false)
.ret)
.skip))
(.seq
(.region [
o_ 18 (.load true 2 (.t 6)),
⟨none, .store 2 (.t 4) (.t 18), none⟩,
o_ 5 (.mv (.c (.int .i64 0)))] false)
.ret)))),
[.cell true 2 4, .t 5]⟩
theorem ok246 : okFunc Go.Proofs.Tryz.prog 246 lf246 = true := by kernel_rfl
def lf247 : LFunc := ⟨6, 1,
(.seq
(.region [
o_ 2 (.mv (.c (.int .i64 0)))] false)
(.seq
(.region [
o_ 3 (.build [.int .i64 0, .int .i64 0, .int .i64 0, .int .i64 0, .int .i64 0, .int .i64 0, .int .i64 0, .int .i64 0] [(0, 1, .c (.int .i64 1)), (1, 1, .c (.int .i64 5)), (2, 1, .c (.int .i64 13)), (3, 1, .c (.int .i64 17)), (4, 1, .c (.int .i64 21)), (5, 1, .c (.int .i64 26)), (6, 1, .c (.int .i64 30)), (7, 1, .c (.int .i64 40))]),
m_ 4 0,
o_ 5 (.idxc false 1 8 (.t 3) (.t 4)),
m_ 2 5] false)
.ret)),
[.t 2]⟩
theorem ok247 : okFunc Go.Proofs.Tryz.prog 247 lf247 = true := by kernel_rfl
def lf248 : LFunc := ⟨18, 1,
(.seq
(.region [
o_ 2 (.mv (.c (.nili)))] false)
(.seq
(.seq
(.region [
m_ 5 0,
o_ 6 (.len .sli (.t 5)),
o_ 7 (.mv (.c (.int .i64 0)))] false)
(.block 0
(.loop
(.seq
(.region [
o_ 8 (.bin .lss (.t 7) (.t 6))] false)
(.seq
(.cond (.t 8)
.skip
(.exit 0))
(.seq
(.block 1
(.seq
(.region [
o_ 9 (.idxa 1 (.t 5) (.t 7)),
o_ 10 (.load false 1 (.t 9)),
m_ 4 10] false)
(.seq
(.region [
m_ 11 4,
o_ 12 (.call false (.c (.fn 200 [] [])) [.t 11]),
o_ 13 (.not (.t 12))] false)
(.cond (.t 13)
(.seq
(.region [
o_ 14 (.build [.int .i64 0] [(0, 1, .c (.int .i64 3))]),
o_ 15 (.box 1 (.t 14)),
o_ 16 (.bad),
m_ 2 16] false)
.ret)
.skip))))
(.region [
o_ 17 (.bin .add (.t 7) (.c (.int .i64 1))),
m_ 7 17] false)))))))
(.seq
(.region [
o_ 2 (.mv (.c (.nili)))] false)
.ret))),
[.t 2]⟩
theorem ok248 : okFunc Go.Proofs.Tryz.prog 248 lf248 = true := by kernel_rfl
def lf249 : LFunc := ⟨16, 2,
(.seq
(.region [
o_ 4 (.mv (.c (.int .i64 0))),
o_ 5 (.mv (.c (.int .i64 0)))] false)
(.seq
(.seq
(.region [
m_ 6 1,
o_ 7 (.ifnil false (.t 6))] false)
(.cond (.t 7)
(.region [
m_ 8 0,
o_ 9 (.btsl 1 1 [.int .i64 0] [(0, .t 8)]),
o_ 10 (.call false (.c (.fn 248 [] [])) [.t 9]),
m_ 1 10] false)
.skip))
(.seq
(.seq
(.region [
m_ 11 1,
o_ 12 (.ifnil true (.t 11))] false)
(.cond (.t 12)
(.seq
(.region [
m_ 13 1,
o_ 14 (.call false (.c (.fn 297 [] [])) [.t 13]),
o_ 4 (.mv (.c (.int .i64 0))),
m_ 5 14] false)
.ret)
.skip))
(.seq
(.region [
m_ 15 0,
m_ 4 15,
o_ 5 (.mv (.c (.int .i64 0)))] false)
.ret)))),
[.t 4, .t 5]⟩
theorem ok249 : okFunc Go.Proofs.Tryz.prog 249 lf249 = true := by kernel_rfl
def lf250 : LFunc := ⟨75, 3,
(.seq
(.region [
o_ 6 (.mv (.c (.int .i64 0))),
o_ 7 (.mv (.c (.nili)))] false)
(.seq
(.region [
m_ 20 0,
o_ 21 (.call false (.c (.fn 298 [] [])) [.t 20]),
m_ 19 21,
o_ 22 (.extract (.t 19) 0),
o_ 23 (.extract (.t 19) 1),
m_ 8 22,
m_ 9 23] false)
(.seq
(.region [
m_ 25 1,
o_ 26 (.call false (.c (.fn 298 [] [])) [.t 25]),
m_ 24 26,
o_ 27 (.extract (.t 24) 0),
o_ 28 (.extract (.t 24) 1),
m_ 10 27,
m_ 11 28] false)
(.seq
(.region [
m_ 30 2,
o_ 31 (.call false (.c (.fn 298 [] [])) [.t 30]),
m_ 29 31,
o_ 32 (.extract (.t 29) 0),
o_ 33 (.extract (.t 29) 1),
m_ 12 32,
m_ 13 33] false)
(.seq
(.region [
m_ 35 8,
m_ 36 10,
o_ 37 (.call false (.c (.fn 299 [] [])) [.t 35, .t 36]),
m_ 34 37,
o_ 38 (.extract (.t 34) 0),
o_ 39 (.extract (.t 34) 1),
m_ 14 38,
m_ 15 39] false)
(.seq
(.seq
(.region [
m_ 40 14,
m_ 41 12,
o_ 42 (.bin .geq (.t 40) (.t 41))] false)
(.cond (.t 42)
(.seq
(.region [
o_ 43 (.build [.int .i64 0] [(0, 1, .c (.int .i64 3))]),
o_ 44 (.box 1 (.t 43)),
o_ 45 (.bad),
o_ 6 (.mv (.c (.int .i64 0))),
m_ 7 45] false)
.ret)
.skip))
(.seq
(.region [
m_ 47 14,
m_ 48 15,
m_ 49 12,
o_ 50 (.call false (.c (.fn 300 [] [])) [.t 47, .t 48, .t 49]),
m_ 46 50,
o_ 51 (.extract (.t 46) 0),
o_ 52 (.extract (.t 46) 1),
m_ 16 51,
m_ 17 52] false)
(.seq
(.seq
(.region [
m_ 53 17,
m_ 54 12,
m_ 55 17,
o_ 56 (.bin .sub (.t 54) (.t 55)),
o_ 57 (.bin .geq (.t 53) (.t 56))] false)
(.cond (.t 57)
(.region [
m_ 58 16,
o_ 59 (.bin .add (.t 58) (.c (.int .u64 1))),
m_ 16 59] false)
.skip))
(.seq
(.seq
(.region [
m_ 60 16,
o_ 61 (.bin .gtr (.t 60) (.c (.int .u64 1099511627776)))] false)
(.cond (.t 61)
(.seq
(.region [
o_ 62 (.build [.int .i64 0] [(0, 1, .c (.int .i64 3))]),
o_ 63 (.box 1 (.t 62)),
o_ 64 (.bad),
o_ 6 (.mv (.c (.int .i64 0))),
m_ 7 64] false)
.ret)
.skip))
(.seq
(.region [
m_ 65 16,
o_ 66 (.conv .i64 (.t 65)),
m_ 18 66] false)
(.seq
(.seq
(.region [
m_ 67 9,
m_ 68 11,
o_ 69 (.eq true (.sc .b) (.t 67) (.t 68)),
m_ 70 13,
o_ 71 (.eq true (.sc .b) (.t 69) (.t 70))] false)
(.cond (.t 71)
(.region [
m_ 72 18,
o_ 73 (.neg (.t 72)),
m_ 18 73] false)
.skip))
(.seq
(.region [
m_ 74 18,
m_ 6 74,
o_ 7 (.mv (.c (.nili)))] false)
.ret)))))))))))),
[.t 6, .t 7]⟩
theorem ok250 : okFunc Go.Proofs.Tryz.prog 250 lf250 = true := by kernel_rfl
def lf251 : LFunc := ⟨30, 1,
(.seq
(.region [
o_ 2 (.newv [.int .i64 0, .int .i64 0, .int .i64 0, .int .i64 0])] false)
(.seq
(.block 0
(.seq
(.region [
m_ 6 0,
o_ 7 (.bin .leq (.t 6) (.c (.int .i64 12))),
m_ 5 7] false)
(.cond (.t 5)
(.seq
(.region [
m_ 8 0,
o_ 9 (.call false (.c (.fn 301 [] [])) [.t 8]),
⟨none, .store 4 (.t 2) (.t 9), none⟩] false)
.ret)
(.seq
(.region [
m_ 11 0,
o_ 12 (.bin .lss (.t 11) (.c (.int .i64 17))),
m_ 10 12] false)
(.cond (.t 10)
(.seq
(.region [
m_ 13 0,
o_ 14 (.bin .sub (.t 13) (.c (.int .i64 13))),
m_ 3 14] false)
(.seq
(.region [
m_ 15 3,
o_ 16 (.bin .mul (.c (.int .i64 512)) (.t 15)),
o_ 17 (.bin .sub (.c (.int .i64 (-3000))) (.t 16)),
o_ 18 (.call false (.c (.fn 252 [] [])) [.c (.int .i64 0), .t 17, .c (.int .i64 1080), .c (.int .i64 0)]),
⟨none, .store 4 (.t 2) (.t 18), none⟩] false)
.ret))
(.seq
(.region [
m_ 20 0,
o_ 21 (.bin .leq (.t 20) (.c (.int .i64 20))),
m_ 19 21] false)
(.cond (.t 19)
(.seq
(.region [
m_ 22 0,
o_ 23 (.bin .sub (.t 22) (.c (.int .i64 17))),
m_ 4 23] false)
(.seq
(.region [
m_ 24 4,
o_ 25 (.bin .mul (.c (.int .i64 512)) (.t 24)),
o_ 26 (.bin .add (.c (.int .i64 3000)) (.t 25)),
o_ 27 (.call false (.c (.fn 252 [] [])) [.c (.int .i64 0), .c (.int .i64 0), .c (.int .i64 1180), .t 26]),
⟨none, .store 4 (.t 2) (.t 27), none⟩] false)
.ret))
.skip)))))))
(.seq
(.region [
m_ 28 0,
o_ 29 (.call false (.c (.fn 302 [] [])) [.t 28]),
⟨none, .store 4 (.t 2) (.t 29), none⟩] false)
.ret))),
[.cell true 4 2]⟩
theorem ok251 : okFunc Go.Proofs.Tryz.prog 251 lf251 = true := by kernel_rfl
def lf252 : LFunc := ⟨14, 4,
(.seq
(.region [
o_ 8 (.newv [.int .i64 0, .int .i64 0, .int .i64 0, .int .i64 0])] false)
(.seq
(.region [
m_ 9 0,
m_ 10 1,
m_ 11 2,
m_ 12 3,
o_ 13 (.build [.int .i64 0, .int .i64 0, .int .i64 0, .int .i64 0] [(0, 1, .t 9), (1, 1, .t 10), (2, 1, .t 11), (3, 1, .t 12)]),
⟨none, .store 4 (.t 8) (.t 13), none⟩] false)
.ret)),
[.cell true 4 8]⟩
theorem ok252 : okFunc Go.Proofs.Tryz.prog 252 lf252 = true := by kernel_rfl
def lf253 : LFunc := ⟨11, 1,
(.seq
(.region [
o_ 2 (.mv (.c (.int .i64 0)))] false)
(.seq
(.region [
m_ 6 0,
o_ 7 (.call false (.c (.fn 303 [] [])) [.t 6, .c (.int .i64 2), .c (.int .i64 3)]),
m_ 5 7,
o_ 8 (.extract (.t 5) 0),
o_ 9 (.extract (.t 5) 1),
m_ 3 8,
m_ 4 9] false)
(.seq
(.region [
m_ 10 3,
m_ 2 10] false)
.ret))),
[.t 2]⟩
theorem ok253 : okFunc Go.Proofs.Tryz.prog 253 lf253 = true := by kernel_rfl
def lf254 : LFunc := ⟨52, 1,
(.seq
(.region [
o_ 2 (.mv (.c (.int .i64 0)))] false)
(.seq
(.region [
m_ 8 0,
o_ 9 (.call false (.c (.fn 39 [] [])) [.t 8]),
o_ 3 (.newv [.int .i64 0, .str ⟨#[]⟩, .int .i64 0]),
⟨none, .store 3 (.t 3) (.t 9), none⟩] false)
(.seq
(.seq
(.region [
o_ 10 (.fadr 0 (.t 3)),
o_ 11 (.load false 1 (.t 10)),
o_ 12 (.bin .eql (.t 11) (.c (.int .i64 4))),
m_ 13 12,
g_ 14 (.fadr 1 (.t 3)) 13 true,
g_ 15 (.load false 1 (.t 14)) 13 true,
g_ 16 (.bin .eql (.t 15) (.c (.str ⟨#[60]⟩))) 13 true,
o_ 17 (.pick (.t 13) (.t 16) (.c (.bool false)))] false)
(.cond (.t 17)
(.seq
(.region [
o_ 2 (.mv (.c (.int .i64 2)))] false)
.ret)
.skip))
(.seq
(.seq
(.region [
o_ 18 (.fadr 0 (.t 3)),
o_ 19 (.load false 1 (.t 18)),
o_ 20 (.bin .eql (.t 19) (.c (.int .i64 4))),
m_ 21 20,
g_ 22 (.fadr 1 (.t 3)) 21 true,
g_ 23 (.load false 1 (.t 22)) 21 true,
g_ 24 (.bin .eql (.t 23) (.c (.str ⟨#[124]⟩))) 21 true,
o_ 25 (.pick (.t 21) (.t 24) (.c (.bool false)))] false)
(.cond (.t 25)
(.seq
(.region [
o_ 2 (.mv (.c (.int .i64 12)))] false)
.ret)
.skip))
(.seq
(.seq
(.region [
o_ 26 (.fadr 0 (.t 3)),
o_ 27 (.load false 1 (.t 26)),
o_ 28 (.bin .neq (.t 27) (.c (.int .i64 1)))] false)
(.cond (.t 28)
(.seq
(.region [
o_ 2 (.mv (.c (.int .i64 0)))] false)
.ret)
.skip))
(.seq
(.region [
o_ 29 (.bsl 1 9 [.str ⟨#[]⟩] [(0, .c (.str ⟨#[114]⟩)), (1, .c (.str ⟨#[115]⟩)), (2, .c (.str ⟨#[116, 117, 112, 108, 101, 116]⟩)), (3, .c (.str ⟨#[103, 114, 97, 99, 101]⟩)), (4, .c (.str ⟨#[114, 101, 112, 101, 97, 116]⟩)), (5, .c (.str ⟨#[114, 101, 108, 97, 116, 105, 118, 101]⟩)), (6, .c (.str ⟨#[99, 108, 101, 102]⟩)), (7, .c (.str ⟨#[107, 101, 121]⟩)), (8, .c (.str ⟨#[116, 105, 109, 101]⟩))]),
m_ 4 29] false)
(.seq
(.seq
(.region [
o_ 5 (.mv (.c (.int .i64 0)))] false)
(.block 0
(.loop
(.seq
(.seq
(.region [
m_ 30 5,
m_ 31 4,
o_ 32 (.len .sli (.t 31)),
o_ 33 (.bin .lss (.t 30) (.t 32))] false)
(.cond (.t 33)
.skip
(.exit 0)))
(.seq
(.block 1
(.seq
(.region [
m_ 36 4,
m_ 37 5,
o_ 38 (.idxa 1 (.t 36) (.t 37)),
o_ 39 (.load false 1 (.t 38)),
o_ 40 (.fadr 1 (.t 3)),
o_ 41 (.load false 1 (.t 40)),
o_ 42 (.bin .eql (.t 39) (.t 41))] true)
(.cond (.t 42)
(.seq
(.region [
m_ 43 5,
o_ 44 (.bin .add (.c (.int .i64 3)) (.t 43)),
m_ 2 44] false)
.ret)
.skip)))
(.region [
m_ 34 5,
o_ 35 (.bin .add (.t 34) (.c (.int .i64 1))),
m_ 5 35] false))))))
(.seq
(.region [
o_ 46 (.fadr 1 (.t 3)),
o_ 47 (.load false 1 (.t 46)),
o_ 48 (.call false (.c (.fn 304 [] [])) [.t 47]),
m_ 45 48,
o_ 49 (.extract (.t 45) 0),
o_ 50 (.extract (.t 45) 1),
o_ 6 (.newv [.int .i64 0, .int .i64 0, .int .i64 0]),
⟨none, .store 3 (.t 6) (.t 49), none⟩,
m_ 7 50] false)
(.seq
(.seq
(.region [
m_ 51 7] false)
(.cond (.t 51)
(.seq
(.region [
o_ 2 (.mv (.c (.int .i64 1)))] false)
.ret)
.skip))
(.seq
(.region [
o_ 2 (.mv (.c (.int .i64 0)))] false)
.ret)))))))))),
[.t 2]⟩
theorem ok254 : okFunc Go.Proofs.Tryz.prog 254 lf254 = true := by kernel_rfl
def lf255 : LFunc := ⟨49, 2,
(.seq
(.region [
o_ 4 (.newv [.int .i64 0, .int .i64 0, .nils, .bool false, .int .i64 0, .int .i64 0, .bool false, .int .i64 0, .int .i64 0, .str ⟨#[]⟩, .int .i64 0, .int .i64 0, .str ⟨#[]⟩, .nils])] false)
(.seq
(.region [
m_ 6 1,
m_ 7 0,
o_ 8 (.call false (.c (.fn 39 [] [])) [.t 7]),
o_ 9 (.field false 2 1 (.t 8)),
o_ 10 (.build [.int .i64 0, .int .i64 0, .nils, .bool false, .int .i64 0, .int .i64 0, .bool false, .int .i64 0, .int .i64 0, .str ⟨#[]⟩, .int .i64 0, .int .i64 0, .str ⟨#[]⟩, .nils] [(0, 1, .t 6), (1, 1, .t 9)]),
o_ 5 (.newv [.int .i64 0, .int .i64 0, .nils, .bool false, .int .i64 0, .int .i64 0, .bool false, .int .i64 0, .int .i64 0, .str ⟨#[]⟩, .int .i64 0, .int .i64 0, .str ⟨#[]⟩, .nils]),
⟨none, .store 14 (.t 5) (.t 10), none⟩] false)
(.seq
(.region [
m_ 11 0,
o_ 12 (.call false (.c (.fn 204 [] [])) [.t 11])] false)
(.seq
(.seq
(.region [
m_ 13 0,
o_ 14 (.call false (.c (.fn 38 [] [])) [.t 13])] false)
(.cond (.t 14)
(.seq
(.region [
o_ 15 (.load true 14 (.t 5)),
⟨none, .store 14 (.t 4) (.t 15), none⟩] false)
.ret)
.skip))
(.seq
(.seq
(.region [
m_ 16 1] false)
(.block 0
(.seq
(.region [
o_ 18 (.bin .eql (.t 16) (.c (.int .i64 1))),
m_ 17 18] false)
(.cond (.t 17)
(.seq
(.region [
m_ 19 0,
o_ 20 (.call false (.c (.fn 305 [] [])) [.t 19]),
o_ 21 (.bsl 3 1 [.int .i64 0, .int .i64 0, .int .i64 0] [(0, .t 20)]),
o_ 22 (.fadr 2 (.t 5)),
⟨none, .store 1 (.t 22) (.t 21), none⟩] false)
(.seq
(.region [
m_ 23 0,
m_ 24 0,
o_ 25 (.load true 14 (.t 5)),
o_ 26 (.call false (.c (.fn 307 [] [])) [.t 24, .t 25]),
o_ 27 (.call false (.c (.fn 306 [] [])) [.t 23, .t 26]),
⟨none, .store 14 (.t 4) (.t 27), none⟩] false)
.ret))
(.seq
(.region [
o_ 29 (.bin .eql (.t 16) (.c (.int .i64 2))),
m_ 28 29] false)
(.cond (.t 28)
(.seq
(.region [
m_ 30 0,
o_ 31 (.load true 14 (.t 5)),
o_ 32 (.call false (.c (.fn 308 [] [])) [.t 30, .t 31]),
⟨none, .store 14 (.t 4) (.t 32), none⟩] false)
.ret)
(.seq
(.seq
(.region [
o_ 34 (.bin .eql (.t 16) (.c (.int .i64 3))),
m_ 33 34] false)
(.cond (.t 33)
.skip
(.region [
o_ 35 (.bin .eql (.t 16) (.c (.int .i64 4))),
m_ 33 35] false)))
(.cond (.t 33)
(.seq
(.region [
m_ 36 0,
o_ 37 (.nilck (.t 36)),
o_ 38 (.fadr 1 (.t 37)),
o_ 39 (.load false 1 (.t 38)),
o_ 40 (.bin .add (.t 39) (.c (.int .i64 1))),
o_ 41 (.nilck (.t 36)),
o_ 42 (.fadr 1 (.t 41)),
⟨none, .store 1 (.t 42) (.t 40), none⟩] false)
(.seq
(.region [
m_ 43 0,
o_ 44 (.load true 14 (.t 5)),
o_ 45 (.call false (.c (.fn 307 [] [])) [.t 43, .t 44]),
⟨none, .store 14 (.t 4) (.t 45), none⟩] false)
.ret))
.skip))))))))
(.seq
(.region [
m_ 46 0,
o_ 47 (.load true 14 (.t 5)),
o_ 48 (.call false (.c (.fn 309 [] [])) [.t 46, .t 47]),
⟨none, .store 14 (.t 4) (.t 48), none⟩] false)
.ret)))))),
[.cell true 14 4]⟩
theorem ok255 : okFunc Go.Proofs.Tryz.prog 255 lf255 = true := by kernel_rfl
def lf262 : LFunc := ⟨21, 1,
(.seq
(.region [
o_ 1 (.box 2 (.t 0)),
o_ 2 (.mv (.c (.bool false)))] false)
(.seq
(.region [
o_ 3 (.fadr 0 (.t 1)),
o_ 4 (.load false 1 (.t 3)),
o_ 5 (.bin .leq (.c (.int .i64 (-1))) (.t 4)),
m_ 6 5,
g_ 7 (.fadr 0 (.t 1)) 6 true,
g_ 8 (.load false 1 (.t 7)) 6 true,
g_ 9 (.bin .leq (.t 8) (.c (.int .i64 6))) 6 true,
o_ 10 (.pick (.t 6) (.t 9) (.c (.bool false))),
m_ 11 10,
g_ 12 (.fadr 1 (.t 1)) 11 true,
g_ 13 (.load false 1 (.t 12)) 11 true,
g_ 14 (.bin .leq (.c (.int .i64 0)) (.t 13)) 11 true,
o_ 15 (.pick (.t 11) (.t 14) (.c (.bool false))),
m_ 16 15,
g_ 17 (.fadr 1 (.t 1)) 16 true,
g_ 18 (.load false 1 (.t 17)) 16 true,
g_ 19 (.bin .leq (.t 18) (.c (.int .i64 3))) 16 true,
o_ 20 (.pick (.t 16) (.t 19) (.c (.bool false))),
m_ 2 20] false)
.ret)),
[.t 2]⟩
theorem ok262 : okFunc Go.Proofs.Tryz.prog 262 lf262 = true := by kernel_rfl
def lf268 : LFunc := ⟨65, 4,
(.seq
(.region [
o_ 4 (.box 3 (.t 0)),
o_ 8 (.newv [.int .i64 0, .int .i64 0, .int .i64 0]),
o_ 9 (.mv (.c (.int .i64 0)))] false)
(.seq
(.seq
(.region [
o_ 13 (.load true 3 (.t 4)),
o_ 14 (.call false (.c (.fn 221 [] [])) [.t 13]),
o_ 15 (.not (.t 14)),
m_ 16 15,
g_ 17 (.mv (.t 1)) 16 false,
g_ 18 (.bin .lss (.t 17) (.c (.int .i64 0))) 16 false,
o_ 19 (.pick (.t 16) (.c (.bool true)) (.t 18)),
m_ 20 19,
g_ 21 (.mv (.t 1)) 20 false,
g_ 22 (.bin .gtr (.t 21) (.c (.int .i64 6))) 20 false,
o_ 23 (.pick (.t 20) (.c (.bool true)) (.t 22)),
m_ 24 23,
g_ 25 (.mv (.t 2)) 24 false,
g_ 26 (.bin .lss (.t 25) (.c (.int .i64 (-2)))) 24 false,
o_ 27 (.pick (.t 24) (.c (.bool true)) (.t 26)),
m_ 28 27,
g_ 29 (.mv (.t 2)) 28 false,
g_ 30 (.bin .gtr (.t 29) (.c (.int .i64 2))) 28 false,
o_ 31 (.pick (.t 28) (.c (.bool true)) (.t 30)),
m_ 32 31,
g_ 33 (.mv (.t 3)) 32 false,
g_ 34 (.bin .lss (.t 33) (.c (.int .i64 (-9)))) 32 false,
o_ 35 (.pick (.t 32) (.c (.bool true)) (.t 34)),
m_ 36 35,
g_ 37 (.mv (.t 3)) 36 false,
g_ 38 (.bin .gtr (.t 37) (.c (.int .i64 9))) 36 false,
o_ 39 (.pick (.t 36) (.c (.bool true)) (.t 38))] false)
(.cond (.t 39)
(.seq
(.region [
o_ 40 (.build [.int .i64 0, .int .i64 0, .int .i64 0] []),
⟨none, .store 3 (.t 8) (.t 40), none⟩,
o_ 9 (.mv (.c (.int .i64 2)))] false)
.ret)
.skip))
(.seq
(.region [
o_ 41 (.load true 3 (.t 4)),
o_ 42 (.call false (.c (.fn 314 [] [])) [.t 41]),
o_ 43 (.bin .sub (.t 42) (.c (.int .i64 3))),
m_ 10 43] false)
(.seq
(.block 0
(.loop
(.seq
(.seq
(.region [
m_ 44 10,
o_ 45 (.bin .add (.t 44) (.c (.int .i64 70))),
o_ 46 (.bin .rem (.t 45) (.c (.int .i64 7))),
m_ 47 1,
o_ 48 (.bin .neq (.t 46) (.t 47))] false)
(.cond (.t 48)
.skip
(.exit 0)))
(.block 1
(.region [
m_ 49 10,
o_ 50 (.bin .add (.t 49) (.c (.int .i64 1))),
m_ 10 50] false)))))
(.seq
(.region [
m_ 52 10,
m_ 53 3,
o_ 54 (.bin .mul (.c (.int .i64 7)) (.t 53)),
o_ 55 (.bin .add (.t 52) (.t 54)),
o_ 56 (.call false (.c (.fn 315 [] [])) [.t 55]),
m_ 51 56,
o_ 57 (.extract (.t 51) 0),
o_ 58 (.extract (.t 51) 1),
o_ 11 (.newv [.int .i64 0, .int .i64 0, .int .i64 0]),
⟨none, .store 3 (.t 11) (.t 57), none⟩,
m_ 12 58] false)
(.seq
(.seq
(.region [
m_ 59 12,
o_ 60 (.not (.t 59))] false)
(.cond (.t 60)
(.seq
(.region [
o_ 61 (.build [.int .i64 0, .int .i64 0, .int .i64 0] []),
⟨none, .store 3 (.t 8) (.t 61), none⟩,
o_ 9 (.mv (.c (.int .i64 20)))] false)
.ret)
.skip))
(.seq
(.region [
m_ 62 2,
o_ 63 (.fadr 1 (.t 11)),
⟨none, .store 1 (.t 63) (.t 62), none⟩] false)
(.seq
(.region [
o_ 64 (.load true 3 (.t 11)),
⟨none, .store 3 (.t 8) (.t 64), none⟩,
o_ 9 (.mv (.c (.int .i64 0)))] false)
.ret)))))))),
[.cell true 3 8, .t 9]⟩
theorem ok268 : okFunc Go.Proofs.Tryz.prog 268 lf268 = true := by kernel_rfl
def lf269 : LFunc := ⟨22, 1,
(.seq
(.region [
o_ 1 (.box 14 (.t 0)),
o_ 2 (.mv (.c (.bool false)))] false)
(.seq
(.region [
o_ 3 (.fadr 10 (.t 1)),
o_ 4 (.load false 1 (.t 3)),
o_ 5 (.bin .eql (.t 4) (.c (.int .i64 0))),
m_ 6 5,
g_ 7 (.fadr 11 (.t 1)) 6 true,
g_ 8 (.load false 1 (.t 7)) 6 true,
g_ 9 (.bin .eql (.t 8) (.c (.int .i64 0))) 6 true,
o_ 10 (.pick (.t 6) (.t 9) (.c (.bool false))),
m_ 11 10,
g_ 12 (.fadr 12 (.t 1)) 11 true,
g_ 13 (.load false 1 (.t 12)) 11 true,
g_ 14 (.bin .eql (.t 13) (.c (.str ⟨#[]⟩))) 11 true,
o_ 15 (.pick (.t 11) (.t 14) (.c (.bool false))),
m_ 16 15,
g_ 17 (.fadr 13 (.t 1)) 16 true,
g_ 18 (.load false 1 (.t 17)) 16 true,
g_ 19 (.len .sli (.t 18)) 16 true,
g_ 20 (.bin .eql (.t 19) (.c (.int .i64 0))) 16 true,
o_ 21 (.pick (.t 16) (.t 20) (.c (.bool false))),
m_ 2 21] false)
.ret)),
[.t 2]⟩
theorem ok269 : okFunc Go.Proofs.Tryz.prog 269 lf269 = true := by kernel_rfl
def lf270 : LFunc := ⟨13, 1,
(.seq
(.region [
o_ 1 (.box 14 (.t 0)),
o_ 2 (.mv (.c (.bool false)))] false)
(.seq
(.seq
(.region [
o_ 3 (.fadr 3 (.t 1)),
o_ 4 (.load false 1 (.t 3)),
o_ 5 (.not (.t 4))] false)
(.cond (.t 5)
(.seq
(.region [
o_ 6 (.fadr 4 (.t 1)),
o_ 7 (.load true 2 (.t 6)),
o_ 8 (.build [.int .i64 0, .int .i64 0] []),
o_ 9 (.eq false (.ag [.i, .i]) (.t 7) (.t 8)),
m_ 2 9] false)
.ret)
.skip))
(.seq
(.region [
o_ 10 (.fadr 4 (.t 1)),
o_ 11 (.load true 2 (.t 10)),
o_ 12 (.call false (.c (.fn 278 [] [])) [.t 11]),
m_ 2 12] false)
.ret))),
[.t 2]⟩
theorem ok270 : okFunc Go.Proofs.Tryz.prog 270 lf270 = true := by kernel_rfl
def lf271 : LFunc := ⟨32, 1,
(.seq
(.region [
o_ 1 (.box 4 (.t 0)),
o_ 2 (.mv (.c (.bool false)))] false)
(.seq
(.region [
o_ 3 (.fadr 1 (.t 1)),
o_ 4 (.load false 1 (.t 3)),
o_ 5 (.bin .geq (.t 4) (.c (.int .i64 0))),
m_ 6 5,
g_ 7 (.fadr 1 (.t 1)) 6 true,
g_ 8 (.load false 1 (.t 7)) 6 true,
g_ 9 (.bin .leq (.t 8) (.c (.int .i64 4))) 6 true,
o_ 10 (.pick (.t 6) (.t 9) (.c (.bool false))),
m_ 11 10,
g_ 12 (.fadr 2 (.t 1)) 11 true,
g_ 13 (.load false 1 (.t 12)) 11 true,
g_ 14 (.bin .geq (.t 13) (.c (.int .i64 0))) 11 true,
o_ 15 (.pick (.t 11) (.t 14) (.c (.bool false))),
m_ 16 15,
g_ 17 (.fadr 2 (.t 1)) 16 true,
g_ 18 (.load false 1 (.t 17)) 16 true,
g_ 19 (.bin .leq (.t 18) (.c (.int .i64 4))) 16 true,
o_ 20 (.pick (.t 16) (.t 19) (.c (.bool false))),
m_ 21 20,
g_ 22 (.fadr 3 (.t 1)) 21 true,
g_ 23 (.load false 1 (.t 22)) 21 true,
g_ 24 (.bin .eql (.t 23) (.c (.str ⟨#[]⟩))) 21 true,
g_ 25 (.mv (.t 24)) 21 true,
g_ 26 (.call false (.c (.fn 316 [] [])) []) 25 false,
g_ 27 (.fadr 3 (.t 1)) 25 false,
g_ 28 (.load false 1 (.t 27)) 25 false,
g_ 29 (.call false (.c (.fn 274 [] [])) [.t 26, .t 28]) 25 false,
g_ 30 (.pick (.t 25) (.c (.bool true)) (.t 29)) 21 true,
o_ 31 (.pick (.t 21) (.t 30) (.c (.bool false))),
m_ 2 31] true)
.ret)),
[.t 2]⟩
theorem ok271 : okFunc Go.Proofs.Tryz.prog 271 lf271 = true := by kernel_rfl
def lf272 : LFunc := ⟨31, 1,
(.seq
(.region [
o_ 1 (.box 3 (.t 0)),
o_ 2 (.mv (.c (.bool false)))] false)
(.seq
(.region [
o_ 3 (.fadr 0 (.t 1)),
o_ 4 (.load false 1 (.t 3)),
o_ 5 (.bin .geq (.t 4) (.c (.int .i64 0))),
m_ 6 5,
g_ 7 (.fadr 0 (.t 1)) 6 true,
g_ 8 (.load false 1 (.t 7)) 6 true,
g_ 9 (.bin .leq (.t 8) (.c (.int .i64 6))) 6 true,
o_ 10 (.pick (.t 6) (.t 9) (.c (.bool false))),
m_ 11 10,
g_ 12 (.fadr 1 (.t 1)) 11 true,
g_ 13 (.load false 1 (.t 12)) 11 true,
g_ 14 (.bin .geq (.t 13) (.c (.int .i64 (-2)))) 11 true,
o_ 15 (.pick (.t 11) (.t 14) (.c (.bool false))),
m_ 16 15,
g_ 17 (.fadr 1 (.t 1)) 16 true,
g_ 18 (.load false 1 (.t 17)) 16 true,
g_ 19 (.bin .leq (.t 18) (.c (.int .i64 2))) 16 true,
o_ 20 (.pick (.t 16) (.t 19) (.c (.bool false))),
m_ 21 20,
g_ 22 (.fadr 2 (.t 1)) 21 true,
g_ 23 (.load false 1 (.t 22)) 21 true,
g_ 24 (.bin .geq (.t 23) (.c (.int .i64 (-9)))) 21 true,
o_ 25 (.pick (.t 21) (.t 24) (.c (.bool false))),
m_ 26 25,
g_ 27 (.fadr 2 (.t 1)) 26 true,
g_ 28 (.load false 1 (.t 27)) 26 true,
g_ 29 (.bin .leq (.t 28) (.c (.int .i64 9))) 26 true,
o_ 30 (.pick (.t 26) (.t 29) (.c (.bool false))),
m_ 2 30] false)
.ret)),
[.t 2]⟩
theorem ok272 : okFunc Go.Proofs.Tryz.prog 272 lf272 = true := by kernel_rfl
def lf273 : LFunc := ⟨18, 1,
(.seq
(.region [
o_ 1 (.box 14 (.t 0)),
o_ 2 (.mv (.c (.bool false)))] false)
(.seq
(.region [
o_ 3 (.fadr 3 (.t 1)),
o_ 4 (.load false 1 (.t 3)),
o_ 5 (.not (.t 4)),
m_ 6 5,
g_ 7 (.fadr 4 (.t 1)) 6 true,
g_ 8 (.load true 2 (.t 7)) 6 true,
g_ 9 (.build [.int .i64 0, .int .i64 0] []) 6 true,
g_ 10 (.eq false (.ag [.i, .i]) (.t 8) (.t 9)) 6 true,
o_ 11 (.pick (.t 6) (.t 10) (.c (.bool false))),
m_ 12 11,
g_ 13 (.fadr 6 (.t 1)) 12 true,
g_ 14 (.load true 4 (.t 13)) 12 true,
g_ 15 (.build [.bool false, .int .i64 0, .int .i64 0, .str ⟨#[]⟩] []) 12 true,
g_ 16 (.eq false (.ag [.b, .i, .i, .s]) (.t 14) (.t 15)) 12 true,
o_ 17 (.pick (.t 12) (.t 16) (.c (.bool false))),
m_ 2 17] false)
.ret)),
[.t 2]⟩
theorem ok273 : okFunc Go.Proofs.Tryz.prog 273 lf273 = true := by kernel_rfl
def lf274 : LFunc := ⟨18, 2,
(.seq
(.region [
o_ 4 (.mv (.c (.bool false)))] false)
(.seq
(.seq
(.region [
o_ 5 (.mv (.c (.int .i64 0)))] false)
(.block 0
(.loop
(.seq
(.seq
(.region [
m_ 6 5,
m_ 7 0,
o_ 8 (.len .sli (.t 7)),
o_ 9 (.bin .lss (.t 6) (.t 8))] false)
(.cond (.t 9)
.skip
(.exit 0)))
(.seq
(.block 1
(.seq
(.region [
m_ 12 0,
m_ 13 5,
o_ 14 (.idxa 1 (.t 12) (.t 13)),
o_ 15 (.load false 1 (.t 14)),
m_ 16 1,
o_ 17 (.bin .eql (.t 15) (.t 16))] false)
(.cond (.t 17)
(.seq
(.region [
o_ 4 (.mv (.c (.bool true)))] false)
.ret)
.skip)))
(.region [
m_ 10 5,
o_ 11 (.bin .add (.t 10) (.c (.int .i64 1))),
m_ 5 11] false))))))
(.seq
(.region [
o_ 4 (.mv (.c (.bool false)))] false)
.ret))),
[.t 4]⟩
theorem ok274 : okFunc Go.Proofs.Tryz.prog 274 lf274 = true := by kernel_rfl
def lf275 : LFunc := ⟨2, 0,
(.seq
(.region [
o_ 0 (.mv (.c (.nils)))] false)
(.seq
(.region [
o_ 1 (.bsl 1 4 [.str ⟨#[]⟩] [(0, .c (.str ⟨#[116, 114, 101, 98, 108, 101]⟩)), (1, .c (.str ⟨#[98, 97, 115, 115]⟩)), (2, .c (.str ⟨#[97, 108, 116, 111]⟩)), (3, .c (.str ⟨#[116, 101, 110, 111, 114]⟩))]),
m_ 0 1] false)
.ret)),
[.t 0]⟩
theorem ok275 : okFunc Go.Proofs.Tryz.prog 275 lf275 = true := by kernel_rfl
def lf276 : LFunc := ⟨2, 0,
(.seq
(.region [
o_ 0 (.mv (.c (.nils)))] false)
(.seq
(.region [
o_ 1 (.bsl 1 2 [.str ⟨#[]⟩] [(0, .c (.str ⟨#[109, 97, 106, 111, 114]⟩)), (1, .c (.str ⟨#[109, 105, 110, 111, 114]⟩))]),
m_ 0 1] false)
.ret)),
[.t 0]⟩
theorem ok276 : okFunc Go.Proofs.Tryz.prog 276 lf276 = true := by kernel_rfl
def lf277 : LFunc := ⟨45, 2,
(.seq
(.region [
o_ 3 (.box 3 (.t 1)),
o_ 4 (.mv (.c (.nils)))] false)
(.seq
(.region [
o_ 5 (.mv (.c (.int .i64 0)))] false)
(.seq
(.block 0
(.loop
(.seq
(.seq
(.region [
m_ 6 5,
m_ 7 0,
o_ 8 (.len .sli (.t 7)),
o_ 9 (.bin .lss (.t 6) (.t 8)),
m_ 10 9,
g_ 11 (.mv (.t 0)) 10 true,
g_ 12 (.mv (.t 5)) 10 true,
g_ 13 (.idxa 3 (.t 11) (.t 12)) 10 true,
g_ 14 (.load true 3 (.t 13)) 10 true,
g_ 15 (.load true 3 (.t 3)) 10 true,
g_ 16 (.call false (.c (.fn 317 [] [])) [.t 14, .t 15]) 10 true,
o_ 17 (.pick (.t 10) (.t 16) (.c (.bool false)))] true)
(.cond (.t 17)
.skip
(.exit 0)))
(.block 1
(.region [
m_ 18 5,
o_ 19 (.bin .add (.t 18) (.c (.int .i64 1))),
m_ 5 19] false)))))
(.seq
(.seq
(.region [
m_ 20 5,
m_ 21 0,
o_ 22 (.len .sli (.t 21)),
o_ 23 (.bin .lss (.t 20) (.t 22)),
m_ 24 23,
g_ 25 (.mv (.t 0)) 24 true,
g_ 26 (.mv (.t 5)) 24 true,
g_ 27 (.idxa 3 (.t 25) (.t 26)) 24 true,
g_ 28 (.load true 3 (.t 27)) 24 true,
g_ 29 (.load true 3 (.t 3)) 24 true,
g_ 30 (.eq false (.ag [.i, .i, .i]) (.t 28) (.t 29)) 24 true,
o_ 31 (.pick (.t 24) (.t 30) (.c (.bool false)))] true)
(.cond (.t 31)
(.seq
(.region [
m_ 32 0,
m_ 4 32] false)
.ret)
.skip))
(.seq
(.region [
o_ 33 (.bsl 3 0 [.int .i64 0, .int .i64 0, .int .i64 0] []),
m_ 34 0,
m_ 35 5,
o_ 36 (.slice 3 (.t 34) none (some (.t 35)) none),
o_ 37 (.appendH 3 24 (.t 33) (.t 36)),
o_ 38 (.load true 3 (.t 3)),
o_ 39 (.btsl 3 1 [.int .i64 0, .int .i64 0, .int .i64 0] [(0, .t 38)]),
o_ 40 (.appendH 3 24 (.t 37) (.t 39)),
m_ 41 0,
m_ 42 5,
o_ 43 (.slice 3 (.t 41) (some (.t 42)) none none),
o_ 44 (.appendH 3 24 (.t 40) (.t 43)),
m_ 4 44] true)
.ret))))),
[.t 4]⟩
theorem ok277 : okFunc Go.Proofs.Tryz.prog 277 lf277 = true := by kernel_rfl
def lf278 : LFunc := ⟨21, 1,
(.seq
(.region [
o_ 1 (.box 2 (.t 0)),
o_ 2 (.mv (.c (.bool false)))] false)
(.seq
(.region [
o_ 3 (.fadr 0 (.t 1)),
o_ 4 (.load false 1 (.t 3)),
o_ 5 (.bin .geq (.t 4) (.c (.int .i64 (-1)))),
m_ 6 5,
g_ 7 (.fadr 0 (.t 1)) 6 true,
g_ 8 (.load false 1 (.t 7)) 6 true,
g_ 9 (.bin .leq (.t 8) (.c (.int .i64 6))) 6 true,
o_ 10 (.pick (.t 6) (.t 9) (.c (.bool false))),
m_ 11 10,
g_ 12 (.fadr 1 (.t 1)) 11 true,
g_ 13 (.load false 1 (.t 12)) 11 true,
g_ 14 (.bin .geq (.t 13) (.c (.int .i64 0))) 11 true,
o_ 15 (.pick (.t 11) (.t 14) (.c (.bool false))),
m_ 16 15,
g_ 17 (.fadr 1 (.t 1)) 16 true,
g_ 18 (.load false 1 (.t 17)) 16 true,
g_ 19 (.bin .leq (.t 18) (.c (.int .i64 3))) 16 true,
o_ 20 (.pick (.t 16) (.t 19) (.c (.bool false))),
m_ 2 20] false)
.ret)),
[.t 2]⟩
theorem ok278 : okFunc Go.Proofs.Tryz.prog 278 lf278 = true := by kernel_rfl
def lf279 : LFunc := ⟨24, 1,
(.seq
(.region [
o_ 1 (.box 2 (.t 0)),
o_ 2 (.mv (.c (.int .i64 0)))] false)
(.seq
(.region [
o_ 6 (.fadr 0 (.t 1)),
o_ 7 (.load false 1 (.t 6)),
o_ 8 (.bin .add (.t 7) (.c (.int .i64 1))),
o_ 9 (.conv .u64 (.t 8)),
o_ 10 (.bin .shr (.c (.int .i64 2048)) (.t 9)),
m_ 3 10] false)
(.seq
(.region [
m_ 11 3,
m_ 4 11] false)
(.seq
(.seq
(.region [
o_ 5 (.mv (.c (.int .i64 0)))] false)
(.block 0
(.loop
(.seq
(.seq
(.region [
m_ 12 5,
o_ 13 (.fadr 1 (.t 1)),
o_ 14 (.load false 1 (.t 13)),
o_ 15 (.bin .lss (.t 12) (.t 14))] false)
(.cond (.t 15)
.skip
(.exit 0)))
(.seq
(.block 1
(.seq
(.region [
m_ 18 3,
o_ 19 (.bin .quo (.t 18) (.c (.int .i64 2))),
m_ 3 19] false)
(.region [
m_ 20 4,
m_ 21 3,
o_ 22 (.bin .add (.t 20) (.t 21)),
m_ 4 22] false)))
(.region [
m_ 16 5,
o_ 17 (.bin .add (.t 16) (.c (.int .i64 1))),
m_ 5 17] false))))))
(.seq
(.region [
m_ 23 4,
m_ 2 23] false)
.ret))))),
[.t 2]⟩
theorem ok279 : okFunc Go.Proofs.Tryz.prog 279 lf279 = true := by kernel_rfl
def lf280 : LFunc := ⟨2, 0,
(.seq
(.region [
o_ 0 (.mv (.c (.nils)))] false)
(.seq
(.region [
o_ 1 (.bsl 1 47 [.str ⟨#[]⟩] [(0, .c (.str ⟨#[98, 114, 101, 118, 101]⟩)), (1, .c (.str ⟨#[119, 104, 111, 108, 101]⟩)), (2, .c (.str ⟨#[104, 97, 108, 102]⟩)), (3, .c (.str ⟨#[98, 108, 97, 99, 107]⟩)), (4, .c (.str ⟨#[114, 101, 115, 116, 45, 98, 114, 101, 118, 101]⟩)), (5, .c (.str ⟨#[114, 101, 115, 116, 45, 49]⟩)), (6, .c (.str ⟨#[114, 101, 115, 116, 45, 50]⟩)), (7, .c (.str ⟨#[114, 101, 115, 116, 45, 52]⟩)), (8, .c (.str ⟨#[114, 101, 115, 116, 45, 56]⟩)), (9, .c (.str ⟨#[114, 101, 115, 116, 45, 49, 54]⟩)), (10, .c (.str ⟨#[114, 101, 115, 116, 45, 51, 50]⟩)), (11, .c (.str ⟨#[114, 101, 115, 116, 45, 54, 52]⟩)), (12, .c (.str ⟨#[117, 112, 45, 56]⟩)), (13, .c (.str ⟨#[117, 112, 45, 49, 54]⟩)), (14, .c (.str ⟨#[117, 112, 45, 51, 50]⟩)), (15, .c (.str ⟨#[117, 112, 45, 54, 52]⟩)), (16, .c (.str ⟨#[100, 111, 119, 110, 45, 56]⟩)), (17, .c (.str ⟨#[100, 111, 119, 110, 45, 49, 54]⟩)), (18, .c (.str ⟨#[100, 111, 119, 110, 45, 51, 50]⟩)), (19, .c (.str ⟨#[100, 111, 119, 110, 45, 54, 52]⟩)), (20, .c (.str ⟨#[115, 104, 97, 114, 112]⟩)), (21, .c (.str ⟨#[102, 108, 97, 116]⟩)), (22, .c (.str ⟨#[110, 97, 116, 117, 114, 97, 108]⟩)), (23, .c (.str ⟨#[100, 111, 117, 98, 108, 101, 45, 115, 104, 97, 114, 112]⟩)), (24, .c (.str ⟨#[100, 111, 117, 98, 108, 101, 45, 102, 108, 97, 116]⟩)), (25, .c (.str ⟨#[116, 114, 101, 98, 108, 101]⟩)), (26, .c (.str ⟨#[98, 97, 115, 115]⟩)), (27, .c (.str ⟨#[97, 108, 116, 111]⟩)), (28, .c (.str ⟨#[116, 101, 110, 111, 114]⟩)), (29, .c (.str ⟨#[48]⟩)), (30, .c (.str ⟨#[49]⟩)), (31, .c (.str ⟨#[50]⟩)), (32, .c (.str ⟨#[51]⟩)), (33, .c (.str ⟨#[52]⟩)), (34, .c (.str ⟨#[53]⟩)), (35, .c (.str ⟨#[54]⟩)), (36, .c (.str ⟨#[55]⟩)), (37, .c (.str ⟨#[56]⟩)), (38, .c (.str ⟨#[57]⟩)), (39, .c (.str ⟨#[100, 111, 116]⟩)), (40, .c (.str ⟨#[98, 97, 114]⟩)), (41, .c (.str ⟨#[98, 97, 114, 45, 100, 111, 117, 98, 108, 101]⟩)), (42, .c (.str ⟨#[98, 97, 114, 45, 101, 110, 100]⟩)), (43, .c (.str ⟨#[112]⟩)), (44, .c (.str ⟨#[109]⟩)), (45, .c (.str ⟨#[102]⟩)), (46, .c (.str ⟨#[98, 114, 97, 99, 101]⟩))]),
m_ 0 1] false)
.ret)),
[.t 0]⟩
theorem ok280 : okFunc Go.Proofs.Tryz.prog 280 lf280 = true := by kernel_rfl
def lf281 : LFunc := ⟨9, 2,
(.seq
(.region [
o_ 3 (.box 3 (.t 1)),
o_ 4 (.mv (.c (.bool false)))] false)
(.seq
(.region [
m_ 5 0,
o_ 6 (.load true 3 (.t 3)),
o_ 7 (.btsl 3 1 [.int .i64 0, .int .i64 0, .int .i64 0] [(0, .t 6)]),
o_ 8 (.call false (.c (.fn 162 [] [])) [.t 5, .t 7]),
m_ 4 8] false)
.ret)),
[.t 4]⟩
theorem ok281 : okFunc Go.Proofs.Tryz.prog 281 lf281 = true := by kernel_rfl
def lf282 : LFunc := ⟨36, 1,
(.seq
(.region [
o_ 2 (.mv (.c (.bool false)))] false)
(.seq
(.seq
(.region [
o_ 3 (.mv (.c (.int .i64 0)))] false)
(.block 0
(.loop
(.seq
(.seq
(.region [
m_ 4 3,
m_ 5 0,
o_ 6 (.len .sli (.t 5)),
o_ 7 (.bin .lss (.t 4) (.t 6))] false)
(.cond (.t 7)
.skip
(.exit 0)))
(.seq
(.block 1
(.seq
(.region [
m_ 10 0,
m_ 11 3,
o_ 12 (.idxa 3 (.t 10) (.t 11)),
o_ 13 (.load true 3 (.t 12)),
o_ 14 (.call false (.c (.fn 221 [] [])) [.t 13]),
o_ 15 (.not (.t 14)),
m_ 16 15,
g_ 17 (.mv (.t 3)) 16 false,
g_ 18 (.bin .gtr (.t 17) (.c (.int .i64 0))) 16 false,
g_ 19 (.mv (.t 18)) 16 false,
g_ 20 (.mv (.t 0)) 19 true,
g_ 21 (.mv (.t 3)) 19 true,
g_ 22 (.bin .sub (.t 21) (.c (.int .i64 1))) 19 true,
g_ 23 (.idxa 3 (.t 20) (.t 22)) 19 true,
g_ 24 (.load true 3 (.t 23)) 19 true,
g_ 25 (.mv (.t 0)) 19 true,
g_ 26 (.mv (.t 3)) 19 true,
g_ 27 (.idxa 3 (.t 25) (.t 26)) 19 true,
g_ 28 (.load true 3 (.t 27)) 19 true,
g_ 29 (.call false (.c (.fn 317 [] [])) [.t 24, .t 28]) 19 true,
g_ 30 (.not (.t 29)) 19 true,
g_ 31 (.pick (.t 19) (.t 30) (.c (.bool false))) 16 false,
o_ 32 (.pick (.t 16) (.c (.bool true)) (.t 31))] true)
(.cond (.t 32)
(.seq
(.region [
o_ 2 (.mv (.c (.bool false)))] false)
.ret)
.skip)))
(.region [
m_ 8 3,
o_ 9 (.bin .add (.t 8) (.c (.int .i64 1))),
m_ 3 9] false))))))
(.seq
(.region [
m_ 33 0,
o_ 34 (.len .sli (.t 33)),
o_ 35 (.bin .leq (.t 34) (.c (.int .i64 16))),
m_ 2 35] false)
.ret))),
[.t 2]⟩
theorem ok282 : okFunc Go.Proofs.Tryz.prog 282 lf282 = true := by kernel_rfl
def lf283 : LFunc := ⟨59, 2,
(.seq
(.region [
o_ 2 (.box 7 (.t 0)),
o_ 4 (.mv (.c (.bool false)))] false)
(.seq
(.region [
o_ 8 (.fadr 2 (.t 2)),
o_ 9 (.load false 1 (.t 8)),
m_ 10 1,
o_ 11 (.idxa 18 (.t 9) (.t 10)),
o_ 12 (.load true 18 (.t 11)),
o_ 5 (.newv [.int .i64 0, .int .i64 0, .int .i64 0, .int .i64 0, .int .i64 0, .int .i64 0, .int .i64 0, .int .i64 0, .nils, .bool false, .int .i64 0, .int .i64 0, .str ⟨#[]⟩, .nils, .int .i64 0, .int .i64 0, .int .i64 0, .int .i64 0]),
⟨none, .store 18 (.t 5) (.t 12), none⟩] false)
(.seq
(.region [
o_ 6 (.mv (.c (.int .i64 0)))] false)
(.seq
(.seq
(.region [
o_ 7 (.mv (.c (.int .i64 0)))] false)
(.block 0
(.loop
(.seq
(.seq
(.region [
m_ 13 7,
o_ 14 (.fadr 3 (.t 2)),
o_ 15 (.load false 1 (.t 14)),
o_ 16 (.len .sli (.t 15)),
o_ 17 (.bin .lss (.t 13) (.t 16))] false)
(.cond (.t 17)
.skip
(.exit 0)))
(.seq
(.block 1
(.seq
(.region [
o_ 20 (.fadr 3 (.t 2)),
o_ 21 (.load false 1 (.t 20)),
m_ 22 7,
o_ 23 (.idxa 4 (.t 21) (.t 22)),
o_ 24 (.fadr 0 (.t 23)),
o_ 25 (.load false 1 (.t 24)),
m_ 26 1,
o_ 27 (.bin .leq (.t 25) (.t 26)),
m_ 28 27,
g_ 29 (.mv (.t 1)) 28 true,
g_ 30 (.fadr 3 (.t 2)) 28 true,
g_ 31 (.load false 1 (.t 30)) 28 true,
g_ 32 (.mv (.t 7)) 28 true,
g_ 33 (.idxa 4 (.t 31) (.t 32)) 28 true,
g_ 34 (.fadr 1 (.t 33)) 28 true,
g_ 35 (.load false 1 (.t 34)) 28 true,
g_ 36 (.bin .leq (.t 29) (.t 35)) 28 true,
o_ 37 (.pick (.t 28) (.t 36) (.c (.bool false)))] false)
(.cond (.t 37)
(.seq
(.seq
(.region [
m_ 38 6,
o_ 39 (.fadr 13 (.t 5)),
o_ 40 (.load false 1 (.t 39)),
o_ 41 (.len .sli (.t 40)),
o_ 42 (.bin .geq (.t 38) (.t 41)),
m_ 43 42,
g_ 44 (.fadr 13 (.t 5)) 43 false,
g_ 45 (.load false 1 (.t 44)) 43 false,
g_ 46 (.mv (.t 6)) 43 false,
g_ 47 (.idxa 1 (.t 45) (.t 46)) 43 false,
g_ 48 (.load false 1 (.t 47)) 43 false,
g_ 49 (.mv (.t 7)) 43 false,
g_ 50 (.bin .neq (.t 48) (.t 49)) 43 false,
o_ 51 (.pick (.t 43) (.c (.bool true)) (.t 50))] false)
(.cond (.t 51)
(.seq
(.region [
o_ 4 (.mv (.c (.bool false)))] false)
.ret)
.skip))
(.region [
m_ 52 6,
o_ 53 (.bin .add (.t 52) (.c (.int .i64 1))),
m_ 6 53] false))
.skip)))
(.region [
m_ 18 7,
o_ 19 (.bin .add (.t 18) (.c (.int .i64 1))),
m_ 7 19] false))))))
(.seq
(.region [
m_ 54 6,
o_ 55 (.fadr 13 (.t 5)),
o_ 56 (.load false 1 (.t 55)),
o_ 57 (.len .sli (.t 56)),
o_ 58 (.bin .eql (.t 54) (.t 57)),
m_ 4 58] false)
.ret))))),
[.t 4]⟩
theorem ok283 : okFunc Go.Proofs.Tryz.prog 283 lf283 = true := by kernel_rfl
def lf284 : LFunc := ⟨16, 1,
(.seq
(.region [
o_ 1 (.box 18 (.t 0)),
o_ 2 (.mv (.c (.bool false)))] false)
(.seq
(.region [
o_ 3 (.fadr 0 (.t 1)),
o_ 4 (.load false 1 (.t 3)),
o_ 5 (.bin .eql (.t 4) (.c (.int .i64 1))),
m_ 6 5,
g_ 7 (.fadr 0 (.t 1)) 6 false,
g_ 8 (.load false 1 (.t 7)) 6 false,
g_ 9 (.bin .eql (.t 8) (.c (.int .i64 3))) 6 false,
o_ 10 (.pick (.t 6) (.c (.bool true)) (.t 9)),
m_ 11 10,
g_ 12 (.fadr 0 (.t 1)) 11 false,
g_ 13 (.load false 1 (.t 12)) 11 false,
g_ 14 (.bin .eql (.t 13) (.c (.int .i64 4))) 11 false,
o_ 15 (.pick (.t 11) (.c (.bool true)) (.t 14)),
m_ 2 15] false)
.ret)),
[.t 2]⟩
theorem ok284 : okFunc Go.Proofs.Tryz.prog 284 lf284 = true := by kernel_rfl
def lf285 : LFunc := ⟨93, 2,
(.seq
(.region [
o_ 2 (.box 7 (.t 0)),
o_ 3 (.box 18 (.t 1)),
o_ 4 (.mv (.c (.bool false)))] false)
(.seq
(.seq
(.region [
o_ 5 (.fadr 0 (.t 3)),
o_ 6 (.load false 1 (.t 5))] false)
(.block 0
(.seq
(.region [
o_ 8 (.bin .eql (.t 6) (.c (.int .i64 9))),
m_ 7 8] false)
(.cond (.t 7)
(.seq
(.region [
o_ 9 (.fadr 1 (.t 2)),
o_ 10 (.load false 1 (.t 9)),
o_ 11 (.bin .eql (.t 10) (.c (.int .i64 0))),
m_ 12 11,
g_ 13 (.fadr 17 (.t 3)) 12 true,
g_ 14 (.load false 1 (.t 13)) 12 true,
g_ 15 (.bin .geq (.t 14) (.c (.int .i64 26))) 12 true,
o_ 16 (.pick (.t 12) (.t 15) (.c (.bool false))),
m_ 17 16,
g_ 18 (.fadr 17 (.t 3)) 17 true,
g_ 19 (.load false 1 (.t 18)) 17 true,
g_ 20 (.bin .leq (.t 19) (.c (.int .i64 29))) 17 true,
o_ 21 (.pick (.t 17) (.t 20) (.c (.bool false))),
m_ 22 21,
g_ 23 (.fadr 15 (.t 3)) 22 true,
g_ 24 (.load false 1 (.t 23)) 22 true,
g_ 25 (.bin .eql (.t 24) (.c (.int .i64 0))) 22 true,
o_ 26 (.pick (.t 22) (.t 25) (.c (.bool false))),
m_ 27 26,
g_ 28 (.fadr 16 (.t 3)) 27 true,
g_ 29 (.load false 1 (.t 28)) 27 true,
g_ 30 (.bin .eql (.t 29) (.c (.int .i64 0))) 27 true,
o_ 31 (.pick (.t 27) (.t 30) (.c (.bool false))),
m_ 4 31] false)
.ret)
(.seq
(.region [
o_ 33 (.bin .eql (.t 6) (.c (.int .i64 10))),
m_ 32 33] false)
(.cond (.t 32)
(.seq
(.region [
o_ 34 (.fadr 1 (.t 2)),
o_ 35 (.load false 1 (.t 34)),
o_ 36 (.bin .eql (.t 35) (.c (.int .i64 0))),
m_ 37 36,
g_ 38 (.fadr 15 (.t 3)) 37 true,
g_ 39 (.load false 1 (.t 38)) 37 true,
g_ 40 (.bin .geq (.t 39) (.c (.int .i64 (-7)))) 37 true,
o_ 41 (.pick (.t 37) (.t 40) (.c (.bool false))),
m_ 42 41,
g_ 43 (.fadr 15 (.t 3)) 42 true,
g_ 44 (.load false 1 (.t 43)) 42 true,
g_ 45 (.bin .leq (.t 44) (.c (.int .i64 7))) 42 true,
o_ 46 (.pick (.t 42) (.t 45) (.c (.bool false))),
m_ 47 46,
g_ 48 (.fadr 16 (.t 3)) 47 true,
g_ 49 (.load false 1 (.t 48)) 47 true,
g_ 50 (.bin .eql (.t 49) (.c (.int .i64 0))) 47 true,
o_ 51 (.pick (.t 47) (.t 50) (.c (.bool false))),
m_ 52 51,
g_ 53 (.fadr 17 (.t 3)) 52 true,
g_ 54 (.load false 1 (.t 53)) 52 true,
g_ 55 (.bin .eql (.t 54) (.c (.int .i64 0))) 52 true,
o_ 56 (.pick (.t 52) (.t 55) (.c (.bool false))),
m_ 4 56] false)
.ret)
(.seq
(.region [
o_ 58 (.bin .eql (.t 6) (.c (.int .i64 11))),
m_ 57 58] false)
(.cond (.t 57)
(.seq
(.region [
o_ 59 (.fadr 1 (.t 2)),
o_ 60 (.load false 1 (.t 59)),
o_ 61 (.bin .eql (.t 60) (.c (.int .i64 0))),
m_ 62 61,
g_ 63 (.fadr 0 (.t 2)) 62 true,
g_ 64 (.load false 1 (.t 63)) 62 true,
g_ 65 (.bin .eql (.t 64) (.c (.int .i64 0))) 62 true,
o_ 66 (.pick (.t 62) (.t 65) (.c (.bool false))),
m_ 67 66,
g_ 68 (.fadr 15 (.t 3)) 67 true,
g_ 69 (.load false 1 (.t 68)) 67 true,
g_ 70 (.fadr 16 (.t 3)) 67 true,
g_ 71 (.load false 1 (.t 70)) 67 true,
g_ 72 (.build [.int .i64 0, .int .i64 0] [(0, 1, .t 69), (1, 1, .t 71)]) 67 true,
g_ 73 (.call false (.c (.fn 168 [] [])) [.t 72]) 67 true,
o_ 74 (.pick (.t 67) (.t 73) (.c (.bool false))),
m_ 75 74,
g_ 76 (.fadr 17 (.t 3)) 75 true,
g_ 77 (.load false 1 (.t 76)) 75 true,
g_ 78 (.bin .eql (.t 77) (.c (.int .i64 0))) 75 true,
o_ 79 (.pick (.t 75) (.t 78) (.c (.bool false))),
m_ 4 79] false)
.ret)
.skip))))))))
(.seq
(.region [
o_ 80 (.fadr 15 (.t 3)),
o_ 81 (.load false 1 (.t 80)),
o_ 82 (.bin .eql (.t 81) (.c (.int .i64 0))),
m_ 83 82,
g_ 84 (.fadr 16 (.t 3)) 83 true,
g_ 85 (.load false 1 (.t 84)) 83 true,
g_ 86 (.bin .eql (.t 85) (.c (.int .i64 0))) 83 true,
o_ 87 (.pick (.t 83) (.t 86) (.c (.bool false))),
m_ 88 87,
g_ 89 (.fadr 17 (.t 3)) 88 true,
g_ 90 (.load false 1 (.t 89)) 88 true,
g_ 91 (.bin .eql (.t 90) (.c (.int .i64 0))) 88 true,
o_ 92 (.pick (.t 88) (.t 91) (.c (.bool false))),
m_ 4 92] false)
.ret))),
[.t 4]⟩
theorem ok285 : okFunc Go.Proofs.Tryz.prog 285 lf285 = true := by kernel_rfl
def lf286 : LFunc := ⟨65, 2,
(.seq
(.region [
o_ 2 (.box 7 (.t 0)),
o_ 3 (.box 18 (.t 1)),
o_ 4 (.newv [.int .i64 0, .int .i64 0]),
o_ 5 (.mv (.c (.bool false)))] false)
(.seq
(.region [
o_ 15 (.build [.int .i64 0, .int .i64 0] [(0, 1, .c (.int .i64 1)), (1, 1, .c (.int .i64 1))]),
o_ 6 (.newv [.int .i64 0, .int .i64 0]),
⟨none, .store 2 (.t 6) (.t 15), none⟩] false)
(.seq
(.seq
(.region [
o_ 7 (.mv (.c (.int .i64 0)))] false)
(.block 0
(.loop
(.seq
(.seq
(.region [
m_ 16 7,
o_ 17 (.fadr 13 (.t 3)),
o_ 18 (.load false 1 (.t 17)),
o_ 19 (.len .sli (.t 18)),
o_ 20 (.bin .lss (.t 16) (.t 19))] false)
(.cond (.t 20)
.skip
(.exit 0)))
(.seq
(.block 1
(.seq
(.region [
o_ 23 (.fadr 3 (.t 2)),
o_ 24 (.load false 1 (.t 23)),
o_ 25 (.fadr 13 (.t 3)),
o_ 26 (.load false 1 (.t 25)),
m_ 27 7,
o_ 28 (.idxa 1 (.t 26) (.t 27)),
o_ 29 (.load false 1 (.t 28)),
o_ 30 (.idxa 4 (.t 24) (.t 29)),
o_ 31 (.load true 4 (.t 30)),
o_ 8 (.newv [.int .i64 0, .int .i64 0, .int .i64 0, .int .i64 0]),
⟨none, .store 4 (.t 8) (.t 31), none⟩] true)
(.seq
(.region [
o_ 33 (.load true 2 (.t 6)),
o_ 34 (.fadr 3 (.t 8)),
o_ 35 (.load false 1 (.t 34)),
o_ 36 (.fadr 2 (.t 8)),
o_ 37 (.load false 1 (.t 36)),
o_ 38 (.call false (.c (.fn 232 [] [])) [.t 35, .t 37]),
o_ 39 (.call false (.c (.fn 229 [] [])) [.t 33, .t 38]),
m_ 32 39,
o_ 40 (.extract (.t 32) 0),
o_ 41 (.extract (.t 32) 1),
o_ 9 (.newv [.int .i64 0, .int .i64 0]),
⟨none, .store 2 (.t 9) (.t 40), none⟩,
m_ 10 41] true)
(.seq
(.seq
(.region [
m_ 42 10,
o_ 43 (.bin .neq (.t 42) (.c (.int .i64 0)))] false)
(.cond (.t 43)
(.seq
(.region [
o_ 44 (.build [.int .i64 0, .int .i64 0] []),
⟨none, .store 2 (.t 4) (.t 44), none⟩,
o_ 5 (.mv (.c (.bool false)))] false)
.ret)
.skip))
(.region [
o_ 45 (.load true 2 (.t 9)),
⟨none, .store 2 (.t 6) (.t 45), none⟩] false)))))
(.region [
m_ 21 7,
o_ 22 (.bin .add (.t 21) (.c (.int .i64 1))),
m_ 7 22] false))))))
(.seq
(.region [
o_ 47 (.fadr 6 (.t 3)),
o_ 48 (.load true 2 (.t 47)),
o_ 49 (.call false (.c (.fn 228 [] [])) [.t 48]),
m_ 46 49,
o_ 50 (.extract (.t 46) 0),
o_ 51 (.extract (.t 46) 1),
o_ 11 (.newv [.int .i64 0, .int .i64 0]),
⟨none, .store 2 (.t 11) (.t 50), none⟩,
m_ 12 51] false)
(.seq
(.region [
o_ 53 (.load true 2 (.t 11)),
o_ 54 (.load true 2 (.t 6)),
o_ 55 (.call false (.c (.fn 229 [] [])) [.t 53, .t 54]),
m_ 52 55,
o_ 56 (.extract (.t 52) 0),
o_ 57 (.extract (.t 52) 1),
o_ 13 (.newv [.int .i64 0, .int .i64 0]),
⟨none, .store 2 (.t 13) (.t 56), none⟩,
m_ 14 57] false)
(.seq
(.region [
o_ 58 (.load true 2 (.t 13)),
m_ 59 12,
o_ 60 (.bin .eql (.t 59) (.c (.int .i64 0))),
m_ 61 60,
g_ 62 (.mv (.t 14)) 61 true,
g_ 63 (.bin .eql (.t 62) (.c (.int .i64 0))) 61 true,
o_ 64 (.pick (.t 61) (.t 63) (.c (.bool false))),
⟨none, .store 2 (.t 4) (.t 58), none⟩,
m_ 5 64] false)
.ret)))))),
[.cell true 2 4, .t 5]⟩
theorem ok286 : okFunc Go.Proofs.Tryz.prog 286 lf286 = true := by kernel_rfl
def lf287 : LFunc := ⟨11, 1,
(.seq
(.region [
o_ 1 (.box 18 (.t 0)),
o_ 2 (.mv (.c (.bool false)))] false)
(.seq
(.region [
o_ 3 (.fadr 0 (.t 1)),
o_ 4 (.load false 1 (.t 3)),
o_ 5 (.bin .geq (.t 4) (.c (.int .i64 1))),
m_ 6 5,
g_ 7 (.fadr 0 (.t 1)) 6 true,
g_ 8 (.load false 1 (.t 7)) 6 true,
g_ 9 (.bin .leq (.t 8) (.c (.int .i64 4))) 6 true,
o_ 10 (.pick (.t 6) (.t 9) (.c (.bool false))),
m_ 2 10] false)
.ret)),
[.t 2]⟩
theorem ok287 : okFunc Go.Proofs.Tryz.prog 287 lf287 = true := by kernel_rfl
def lf288 : LFunc := ⟨26, 2,
(.seq
(.region [
o_ 4 (.mv (.c (.bool false)))] false)
(.seq
(.seq
(.region [
m_ 6 0,
o_ 7 (.len .sli (.t 6)),
m_ 8 1,
o_ 9 (.len .sli (.t 8)),
o_ 10 (.bin .neq (.t 7) (.t 9))] false)
(.cond (.t 10)
(.seq
(.region [
o_ 4 (.mv (.c (.bool false)))] false)
.ret)
.skip))
(.seq
(.seq
(.region [
m_ 11 0,
o_ 12 (.len .sli (.t 11)),
o_ 13 (.mv (.c (.int .i64 0)))] false)
(.block 0
(.loop
(.seq
(.region [
o_ 14 (.bin .lss (.t 13) (.t 12))] false)
(.seq
(.cond (.t 14)
.skip
(.exit 0))
(.seq
(.block 1
(.seq
(.region [
m_ 15 13,
m_ 5 15] false)
(.seq
(.region [
m_ 16 0,
m_ 17 5,
o_ 18 (.idxa 1 (.t 16) (.t 17)),
o_ 19 (.load false 1 (.t 18)),
m_ 20 1,
m_ 21 5,
o_ 22 (.idxa 1 (.t 20) (.t 21)),
o_ 23 (.load false 1 (.t 22)),
o_ 24 (.bin .neq (.t 19) (.t 23))] true)
(.cond (.t 24)
(.seq
(.region [
o_ 4 (.mv (.c (.bool false)))] false)
.ret)
.skip))))
(.region [
o_ 25 (.bin .add (.t 13) (.c (.int .i64 1))),
m_ 13 25] false)))))))
(.seq
(.region [
o_ 4 (.mv (.c (.bool true)))] false)
.ret)))),
[.t 4]⟩
theorem ok288 : okFunc Go.Proofs.Tryz.prog 288 lf288 = true := by kernel_rfl
def lf289 : LFunc := ⟨32, 2,
(.seq
(.region [
o_ 2 (.box 7 (.t 0)),
o_ 4 (.mv (.c (.nils)))] false)
(.seq
(.region [
o_ 5 (.own 1)] false)
(.seq
(.seq
(.region [
o_ 8 (.fadr 3 (.t 2)),
o_ 9 (.load false 1 (.t 8)),
o_ 10 (.len .sli (.t 9)),
o_ 11 (.mv (.c (.int .i64 0)))] false)
(.block 0
(.loop
(.seq
(.region [
o_ 12 (.bin .lss (.t 11) (.t 10))] false)
(.seq
(.cond (.t 12)
.skip
(.exit 0))
(.seq
(.block 1
(.seq
(.region [
m_ 13 11,
o_ 14 (.idxa 4 (.t 9) (.t 11)),
o_ 15 (.load true 4 (.t 14)),
o_ 7 (.newv [.int .i64 0, .int .i64 0, .int .i64 0, .int .i64 0]),
m_ 6 13,
⟨none, .store 4 (.t 7) (.t 15), none⟩] false)
(.seq
(.region [
o_ 16 (.fadr 0 (.t 7)),
o_ 17 (.load false 1 (.t 16)),
m_ 18 1,
o_ 19 (.bin .leq (.t 17) (.t 18)),
m_ 20 19,
g_ 21 (.mv (.t 1)) 20 true,
g_ 22 (.fadr 1 (.t 7)) 20 true,
g_ 23 (.load false 1 (.t 22)) 20 true,
g_ 24 (.bin .leq (.t 21) (.t 23)) 20 true,
o_ 25 (.pick (.t 20) (.t 24) (.c (.bool false)))] false)
(.cond (.t 25)
(.region [
m_ 26 5,
m_ 27 6,
o_ 28 (.btsl 1 1 [.int .i64 0] [(0, .t 27)]),
o_ 29 (.append 1 8 (.t 26) (.t 28)),
m_ 5 29] false)
.skip))))
(.region [
o_ 30 (.bin .add (.t 11) (.c (.int .i64 1))),
m_ 11 30] false)))))))
(.seq
(.region [
m_ 31 5,
m_ 4 31] false)
.ret)))),
[.t 4]⟩
theorem ok289 : okFunc Go.Proofs.Tryz.prog 289 lf289 = true := by kernel_rfl
def lf290 : LFunc := ⟨33, 1,
(.seq
(.region [
o_ 2 (.mv (.c (.bool false)))] false)
(.seq
(.seq
(.region [
m_ 5 0,
o_ 6 (.len .sli (.t 5)),
o_ 7 (.mv (.c (.int .i64 0)))] false)
(.block 0
(.loop
(.seq
(.region [
o_ 8 (.bin .lss (.t 7) (.t 6))] false)
(.seq
(.cond (.t 8)
.skip
(.exit 0))
(.seq
(.block 1
(.seq
(.region [
m_ 9 7,
o_ 10 (.idxa 3 (.t 5) (.t 7)),
o_ 11 (.load true 3 (.t 10)),
o_ 4 (.newv [.int .i64 0, .int .i64 0, .int .i64 0]),
m_ 3 9,
⟨none, .store 3 (.t 4) (.t 11), none⟩] false)
(.seq
(.region [
o_ 12 (.load true 3 (.t 4)),
o_ 13 (.call false (.c (.fn 15 [] [])) [.t 12]),
o_ 14 (.not (.t 13)),
m_ 15 14,
g_ 16 (.mv (.t 3)) 15 false,
g_ 17 (.bin .gtr (.t 16) (.c (.int .i64 0))) 15 false,
g_ 18 (.mv (.t 17)) 15 false,
g_ 19 (.mv (.t 0)) 18 true,
g_ 20 (.mv (.t 3)) 18 true,
g_ 21 (.bin .sub (.t 20) (.c (.int .i64 1))) 18 true,
g_ 22 (.idxa 3 (.t 19) (.t 21)) 18 true,
g_ 23 (.load true 3 (.t 22)) 18 true,
g_ 24 (.load true 3 (.t 4)) 18 true,
g_ 25 (.call false (.c (.fn 318 [] [])) [.t 23, .t 24]) 18 true,
g_ 26 (.bin .geq (.t 25) (.c (.int .i64 0))) 18 true,
g_ 27 (.pick (.t 18) (.t 26) (.c (.bool false))) 15 false,
o_ 28 (.pick (.t 15) (.c (.bool true)) (.t 27))] true)
(.cond (.t 28)
(.seq
(.region [
o_ 2 (.mv (.c (.bool false)))] false)
.ret)
.skip))))
(.region [
o_ 29 (.bin .add (.t 7) (.c (.int .i64 1))),
m_ 7 29] false)))))))
(.seq
(.region [
m_ 30 0,
o_ 31 (.len .sli (.t 30)),
o_ 32 (.bin .leq (.t 31) (.c (.int .i64 16))),
m_ 2 32] false)
.ret))),
[.t 2]⟩
theorem ok290 : okFunc Go.Proofs.Tryz.prog 290 lf290 = true := by kernel_rfl
def lf291 : LFunc := ⟨93, 2,
(.seq
(.region [
o_ 2 (.box 7 (.t 0)),
o_ 3 (.box 18 (.t 1)),
o_ 4 (.mv (.c (.bool false)))] false)
(.seq
(.seq
(.region [
o_ 5 (.fadr 0 (.t 3)),
o_ 6 (.load false 1 (.t 5))] false)
(.block 0
(.seq
(.region [
o_ 8 (.bin .eql (.t 6) (.c (.int .i64 9))),
m_ 7 8] false)
(.cond (.t 7)
(.seq
(.region [
o_ 9 (.fadr 1 (.t 2)),
o_ 10 (.load false 1 (.t 9)),
o_ 11 (.bin .eql (.t 10) (.c (.int .i64 0))),
m_ 12 11,
g_ 13 (.fadr 17 (.t 3)) 12 true,
g_ 14 (.load false 1 (.t 13)) 12 true,
g_ 15 (.bin .geq (.t 14) (.c (.int .i64 26))) 12 true,
o_ 16 (.pick (.t 12) (.t 15) (.c (.bool false))),
m_ 17 16,
g_ 18 (.fadr 17 (.t 3)) 17 true,
g_ 19 (.load false 1 (.t 18)) 17 true,
g_ 20 (.bin .leq (.t 19) (.c (.int .i64 29))) 17 true,
o_ 21 (.pick (.t 17) (.t 20) (.c (.bool false))),
m_ 22 21,
g_ 23 (.fadr 15 (.t 3)) 22 true,
g_ 24 (.load false 1 (.t 23)) 22 true,
g_ 25 (.bin .eql (.t 24) (.c (.int .i64 0))) 22 true,
o_ 26 (.pick (.t 22) (.t 25) (.c (.bool false))),
m_ 27 26,
g_ 28 (.fadr 16 (.t 3)) 27 true,
g_ 29 (.load false 1 (.t 28)) 27 true,
g_ 30 (.bin .eql (.t 29) (.c (.int .i64 0))) 27 true,
o_ 31 (.pick (.t 27) (.t 30) (.c (.bool false))),
m_ 4 31] false)
.ret)
(.seq
(.region [
o_ 33 (.bin .eql (.t 6) (.c (.int .i64 10))),
m_ 32 33] false)
(.cond (.t 32)
(.seq
(.region [
o_ 34 (.fadr 1 (.t 2)),
o_ 35 (.load false 1 (.t 34)),
o_ 36 (.bin .eql (.t 35) (.c (.int .i64 0))),
m_ 37 36,
g_ 38 (.fadr 15 (.t 3)) 37 true,
g_ 39 (.load false 1 (.t 38)) 37 true,
g_ 40 (.bin .geq (.t 39) (.c (.int .i64 (-7)))) 37 true,
o_ 41 (.pick (.t 37) (.t 40) (.c (.bool false))),
m_ 42 41,
g_ 43 (.fadr 15 (.t 3)) 42 true,
g_ 44 (.load false 1 (.t 43)) 42 true,
g_ 45 (.bin .leq (.t 44) (.c (.int .i64 7))) 42 true,
o_ 46 (.pick (.t 42) (.t 45) (.c (.bool false))),
m_ 47 46,
g_ 48 (.fadr 16 (.t 3)) 47 true,
g_ 49 (.load false 1 (.t 48)) 47 true,
g_ 50 (.bin .eql (.t 49) (.c (.int .i64 0))) 47 true,
o_ 51 (.pick (.t 47) (.t 50) (.c (.bool false))),
m_ 52 51,
g_ 53 (.fadr 17 (.t 3)) 52 true,
g_ 54 (.load false 1 (.t 53)) 52 true,
g_ 55 (.bin .eql (.t 54) (.c (.int .i64 0))) 52 true,
o_ 56 (.pick (.t 52) (.t 55) (.c (.bool false))),
m_ 4 56] false)
.ret)
(.seq
(.region [
o_ 58 (.bin .eql (.t 6) (.c (.int .i64 11))),
m_ 57 58] false)
(.cond (.t 57)
(.seq
(.region [
o_ 59 (.fadr 1 (.t 2)),
o_ 60 (.load false 1 (.t 59)),
o_ 61 (.bin .eql (.t 60) (.c (.int .i64 0))),
m_ 62 61,
g_ 63 (.fadr 0 (.t 2)) 62 true,
g_ 64 (.load false 1 (.t 63)) 62 true,
g_ 65 (.bin .eql (.t 64) (.c (.int .i64 0))) 62 true,
o_ 66 (.pick (.t 62) (.t 65) (.c (.bool false))),
m_ 67 66,
g_ 68 (.fadr 17 (.t 3)) 67 true,
g_ 69 (.load false 1 (.t 68)) 67 true,
g_ 70 (.bin .eql (.t 69) (.c (.int .i64 0))) 67 true,
o_ 71 (.pick (.t 67) (.t 70) (.c (.bool false))),
m_ 72 71,
g_ 73 (.fadr 15 (.t 3)) 72 true,
g_ 74 (.load false 1 (.t 73)) 72 true,
g_ 75 (.fadr 16 (.t 3)) 72 true,
g_ 76 (.load false 1 (.t 75)) 72 true,
g_ 77 (.build [.int .i64 0, .int .i64 0] [(0, 1, .t 74), (1, 1, .t 76)]) 72 true,
g_ 78 (.call false (.c (.fn 67 [] [])) [.t 77]) 72 true,
o_ 79 (.pick (.t 72) (.t 78) (.c (.bool false))),
m_ 4 79] false)
.ret)
.skip))))))))
(.seq
(.region [
o_ 80 (.fadr 15 (.t 3)),
o_ 81 (.load false 1 (.t 80)),
o_ 82 (.bin .eql (.t 81) (.c (.int .i64 0))),
m_ 83 82,
g_ 84 (.fadr 16 (.t 3)) 83 true,
g_ 85 (.load false 1 (.t 84)) 83 true,
g_ 86 (.bin .eql (.t 85) (.c (.int .i64 0))) 83 true,
o_ 87 (.pick (.t 83) (.t 86) (.c (.bool false))),
m_ 88 87,
g_ 89 (.fadr 17 (.t 3)) 88 true,
g_ 90 (.load false 1 (.t 89)) 88 true,
g_ 91 (.bin .eql (.t 90) (.c (.int .i64 0))) 88 true,
o_ 92 (.pick (.t 88) (.t 91) (.c (.bool false))),
m_ 4 92] false)
.ret))),
[.t 4]⟩
theorem ok291 : okFunc Go.Proofs.Tryz.prog 291 lf291 = true := by kernel_rfl
def lf292 : LFunc := ⟨75, 2,
(.seq
(.region [
o_ 2 (.box 7 (.t 0)),
o_ 3 (.box 18 (.t 1)),
o_ 4 (.mv (.c (.bool false)))] false)
(.seq
(.seq
(.region [
o_ 11 (.load true 18 (.t 3)),
o_ 12 (.call false (.c (.fn 287 [] [])) [.t 11]),
o_ 13 (.not (.t 12))] false)
(.cond (.t 13)
(.seq
(.region [
o_ 14 (.fadr 4 (.t 3)),
o_ 15 (.load true 2 (.t 14)),
o_ 16 (.call false (.c (.fn 239 [] [])) [.c (.int .i64 0)]),
o_ 17 (.eq false (.ag [.i, .i]) (.t 15) (.t 16)),
m_ 18 17,
g_ 19 (.fadr 14 (.t 3)) 18 true,
g_ 20 (.load false 1 (.t 19)) 18 true,
g_ 21 (.bin .eql (.t 20) (.c (.int .i64 0))) 18 true,
o_ 22 (.pick (.t 18) (.t 21) (.c (.bool false))),
m_ 23 22,
g_ 24 (.fadr 6 (.t 3)) 23 true,
g_ 25 (.load true 2 (.t 24)) 23 true,
g_ 26 (.build [.int .i64 0, .int .i64 0] []) 23 true,
g_ 27 (.eq false (.ag [.i, .i]) (.t 25) (.t 26)) 23 true,
o_ 28 (.pick (.t 23) (.t 27) (.c (.bool false))),
m_ 4 28] true)
.ret)
.skip))
(.seq
(.seq
(.region [
o_ 29 (.fadr 6 (.t 3)),
o_ 30 (.load true 2 (.t 29)),
o_ 31 (.call false (.c (.fn 262 [] [])) [.t 30]),
o_ 32 (.not (.t 31))] false)
(.cond (.t 32)
(.seq
(.region [
o_ 4 (.mv (.c (.bool false)))] false)
.ret)
.skip))
(.seq
(.seq
(.region [
o_ 33 (.fadr 14 (.t 3)),
o_ 34 (.load false 1 (.t 33)),
o_ 35 (.bin .gtr (.t 34) (.c (.int .i64 0)))] false)
(.cond (.t 35)
(.seq
(.region [
o_ 36 (.fadr 4 (.t 3)),
o_ 37 (.load true 2 (.t 36)),
o_ 38 (.call false (.c (.fn 239 [] [])) [.c (.int .i64 0)]),
o_ 39 (.eq false (.ag [.i, .i]) (.t 37) (.t 38)),
m_ 40 39,
g_ 41 (.fadr 0 (.t 3)) 40 true,
g_ 42 (.load false 1 (.t 41)) 40 true,
g_ 43 (.bin .neq (.t 42) (.c (.int .i64 4))) 40 true,
o_ 44 (.pick (.t 40) (.t 43) (.c (.bool false))),
m_ 4 44] true)
.ret)
.skip))
(.seq
(.region [
o_ 46 (.fadr 6 (.t 3)),
o_ 47 (.load true 2 (.t 46)),
o_ 48 (.call false (.c (.fn 319 [] [])) [.t 47]),
m_ 45 48,
o_ 49 (.extract (.t 45) 0),
o_ 50 (.extract (.t 45) 1),
o_ 5 (.newv [.int .i64 0, .int .i64 0]),
⟨none, .store 2 (.t 5) (.t 49), none⟩,
m_ 6 50] false)
(.seq
(.region [
o_ 52 (.load true 7 (.t 2)),
o_ 53 (.fadr 13 (.t 3)),
o_ 54 (.load false 1 (.t 53)),
o_ 55 (.call false (.c (.fn 320 [] [])) [.t 52, .t 54]),
m_ 51 55,
o_ 56 (.extract (.t 51) 0),
o_ 57 (.extract (.t 51) 1),
o_ 7 (.newv [.int .i64 0, .int .i64 0]),
⟨none, .store 2 (.t 7) (.t 56), none⟩,
m_ 8 57] false)
(.seq
(.region [
o_ 59 (.load true 2 (.t 5)),
o_ 60 (.load true 2 (.t 7)),
o_ 61 (.call false (.c (.fn 321 [] [])) [.t 59, .t 60]),
m_ 58 61,
o_ 62 (.extract (.t 58) 0),
o_ 63 (.extract (.t 58) 1),
o_ 9 (.newv [.int .i64 0, .int .i64 0]),
⟨none, .store 2 (.t 9) (.t 62), none⟩,
m_ 10 63] false)
(.seq
(.region [
m_ 64 8,
m_ 65 64,
g_ 66 (.mv (.t 10)) 65 true,
g_ 67 (.bin .eql (.t 66) (.c (.int .i64 0))) 65 true,
o_ 68 (.pick (.t 65) (.t 67) (.c (.bool false))),
m_ 69 68,
g_ 70 (.load true 2 (.t 9)) 69 true,
g_ 71 (.fadr 4 (.t 3)) 69 true,
g_ 72 (.load true 2 (.t 71)) 69 true,
g_ 73 (.eq false (.ag [.i, .i]) (.t 70) (.t 72)) 69 true,
o_ 74 (.pick (.t 69) (.t 73) (.c (.bool false))),
m_ 4 74] false)
.ret)))))))),
[.t 4]⟩
theorem ok292 : okFunc Go.Proofs.Tryz.prog 292 lf292 = true := by kernel_rfl
def lf293 : LFunc := ⟨36, 2,
(.seq
(.region [
o_ 4 (.mv (.c (.int .i64 0)))] false)
(.seq
(.seq
(.region [
m_ 6 1,
o_ 7 (.bin .add (.t 6) (.c (.int .i64 1))),
m_ 5 7] false)
(.block 0
(.loop
(.seq
(.seq
(.region [
m_ 8 5,
m_ 9 0,
o_ 10 (.len .sli (.t 9)),
o_ 11 (.bin .lss (.t 8) (.t 10))] false)
(.cond (.t 11)
.skip
(.exit 0)))
(.seq
(.block 1
(.seq
(.region [
m_ 14 0,
m_ 15 5,
o_ 16 (.idxa 18 (.t 14) (.t 15)),
o_ 17 (.load true 18 (.t 16)),
o_ 18 (.call false (.c (.fn 287 [] [])) [.t 17]),
m_ 19 18,
g_ 20 (.mv (.t 0)) 19 true,
g_ 21 (.mv (.t 5)) 19 true,
g_ 22 (.idxa 18 (.t 20) (.t 21)) 19 true,
g_ 23 (.fadr 14 (.t 22)) 19 true,
g_ 24 (.load false 1 (.t 23)) 19 true,
g_ 25 (.bin .eql (.t 24) (.c (.int .i64 0))) 19 true,
g_ 26 (.mv (.t 25)) 19 true,
g_ 27 (.mv (.t 0)) 26 false,
g_ 28 (.mv (.t 1)) 26 false,
g_ 29 (.idxa 18 (.t 27) (.t 28)) 26 false,
g_ 30 (.fadr 14 (.t 29)) 26 false,
g_ 31 (.load false 1 (.t 30)) 26 false,
g_ 32 (.bin .gtr (.t 31) (.c (.int .i64 0))) 26 false,
g_ 33 (.pick (.t 26) (.c (.bool true)) (.t 32)) 19 true,
o_ 34 (.pick (.t 19) (.t 33) (.c (.bool false)))] false)
(.cond (.t 34)
(.seq
(.region [
m_ 35 5,
m_ 4 35] false)
.ret)
.skip)))
(.region [
m_ 12 5,
o_ 13 (.bin .add (.t 12) (.c (.int .i64 1))),
m_ 5 13] false))))))
(.seq
(.region [
o_ 4 (.mv (.c (.int .i64 (-1))))] false)
.ret))),
[.t 4]⟩
theorem ok293 : okFunc Go.Proofs.Tryz.prog 293 lf293 = true := by kernel_rfl
def lf294 : LFunc := ⟨9, 2,
(.seq
(.region [
o_ 2 (.box 1 (.t 0)),
o_ 4 (.mv (.c (.bool false)))] false)
(.seq
(.region [
m_ 5 1,
o_ 6 (.mkfn 323 [] [.t 2]),
o_ 7 (.call false (.c (.fn 322 [] [])) [.t 5, .t 6]),
o_ 8 (.not (.t 7)),
m_ 4 8] false)
.ret)),
[.t 4]⟩
theorem ok294 : okFunc Go.Proofs.Tryz.prog 294 lf294 = true := by kernel_rfl
def lf296 : LFunc := ⟨54, 3,
(.seq
(.region [
o_ 6 (.mv (.c (.bool false)))] false)
(.block 0
(.loop
(.block 1
(.seq
(.seq
(.region [
m_ 14 2,
m_ 15 14,
g_ 16 (.mv (.t 0)) 15 true,
g_ 17 (.mv (.t 1)) 15 true,
g_ 18 (.bad) 15 true,
o_ 19 (.pick (.t 15) (.t 18) (.c (.bool false)))] false)
(.cond (.t 19)
(.seq
(.region [
o_ 6 (.mv (.c (.bool true)))] false)
.ret)
.skip))
(.seq
(.seq
(.region [
m_ 21 0,
o_ 22 (.bad),
m_ 20 22,
o_ 23 (.extract (.t 20) 0),
o_ 24 (.extract (.t 20) 1),
m_ 7 23,
m_ 8 24] false)
(.seq
(.region [
m_ 25 8,
m_ 26 25,
g_ 27 (.mv (.t 7)) 26 true,
g_ 28 (.mv (.t 1)) 26 true,
g_ 29 (.bad) 26 true,
o_ 30 (.pick (.t 26) (.t 29) (.c (.bool false)))] false)
(.cond (.t 30)
(.seq
(.region [
o_ 6 (.mv (.c (.bool true)))] false)
.ret)
.skip)))
(.seq
(.region [
m_ 31 0] false)
(.block 2
(.seq
(.region [
o_ 32 (.bad),
o_ 33 (.extract (.t 32) 1),
o_ 34 (.extract (.t 32) 0)] false)
(.cond (.t 33)
(.seq
(.region [
m_ 9 34] false)
(.seq
(.region [
m_ 35 9,
o_ 36 (.bad),
m_ 0 36] false)
(.seq
(.region [
m_ 37 0,
o_ 38 (.ifnil false (.t 37))] false)
(.cond (.t 38)
(.seq
(.region [
o_ 6 (.mv (.c (.bool false)))] false)
.ret)
.skip))))
(.seq
(.region [
o_ 39 (.bad),
o_ 40 (.extract (.t 39) 1),
o_ 41 (.extract (.t 39) 0)] false)
(.cond (.t 40)
(.seq
(.region [
m_ 10 41] false)
(.seq
(.seq
(.region [
m_ 42 10,
o_ 43 (.bad),
o_ 44 (.len .sli (.t 43)),
o_ 45 (.mv (.c (.int .i64 0)))] false)
(.block 3
(.loop
(.seq
(.region [
o_ 46 (.bin .lss (.t 45) (.t 44))] false)
(.seq
(.cond (.t 46)
.skip
(.exit 3))
(.seq
(.block 4
(.seq
(.region [
o_ 47 (.idxa 1 (.t 43) (.t 45)),
o_ 48 (.load false 1 (.t 47)),
m_ 12 48] false)
(.seq
(.region [
m_ 49 12,
m_ 50 1,
m_ 51 2,
o_ 52 (.call false (.c (.fn 296 [] [])) [.t 49, .t 50, .t 51])] false)
(.cond (.t 52)
(.seq
(.region [
o_ 6 (.mv (.c (.bool true)))] false)
.ret)
.skip))))
(.region [
o_ 53 (.bin .add (.t 45) (.c (.int .i64 1))),
m_ 45 53] false)))))))
(.seq
(.region [
o_ 6 (.mv (.c (.bool false)))] false)
.ret)))
(.seq
(.region [
m_ 13 31] false)
(.seq
(.region [
o_ 6 (.mv (.c (.bool false)))] false)
.ret)))))))))))))),
[.t 6]⟩
theorem ok296 : okFunc Go.Proofs.Tryz.prog 296 lf296 = true := by kernel_rfl
def lf297 : LFunc := ⟨11, 1,
(.seq
(.region [
o_ 2 (.mv (.c (.int .i64 0)))] false)
(.seq
(.region [
o_ 3 (.bad)] false)
(.seq
(.seq
(.region [
m_ 4 0,
o_ 5 (.bad),
o_ 6 (.call false (.c (.fn 325 [] [])) [.t 4, .t 5])] false)
(.cond (.t 6)
(.seq
(.region [
o_ 7 (.bad),
o_ 8 (.nilck (.t 7)),
o_ 9 (.fadr 0 (.t 8)),
o_ 10 (.load false 1 (.t 9)),
m_ 2 10] false)
.ret)
.skip))
(.seq
(.region [
o_ 2 (.mv (.c (.int .i64 0)))] false)
.ret)))),
[.t 2]⟩
theorem ok297 : okFunc Go.Proofs.Tryz.prog 297 lf297 = true := by kernel_rfl
def lf298 : LFunc := ⟨11, 1,
(.seq
(.region [
o_ 2 (.mv (.c (.int .u64 0))),
o_ 3 (.mv (.c (.bool false)))] false)
(.seq
(.seq
(.region [
m_ 4 0,
o_ 5 (.bin .lss (.t 4) (.c (.int .i64 0)))] false)
(.cond (.t 5)
(.seq
(.region [
m_ 6 0,
o_ 7 (.neg (.t 6)),
o_ 8 (.conv .u64 (.t 7)),
m_ 2 8,
o_ 3 (.mv (.c (.bool true)))] false)
.ret)
.skip))
(.seq
(.region [
m_ 9 0,
o_ 10 (.conv .u64 (.t 9)),
m_ 2 10,
o_ 3 (.mv (.c (.bool false)))] false)
.ret))),
[.t 2, .t 3]⟩
theorem ok298 : okFunc Go.Proofs.Tryz.prog 298 lf298 = true := by kernel_rfl
def lf299 : LFunc := ⟨51, 2,
(.seq
(.region [
o_ 4 (.mv (.c (.int .u64 0))),
o_ 5 (.mv (.c (.int .u64 0)))] false)
(.seq
(.region [
m_ 14 0,
o_ 15 (.bin .and (.t 14) (.c (.int .u64 4294967295))),
m_ 6 15] false)
(.seq
(.region [
m_ 16 0,
o_ 17 (.bin .shr (.t 16) (.c (.int .u64 32))),
m_ 7 17] false)
(.seq
(.region [
m_ 18 1,
o_ 19 (.bin .and (.t 18) (.c (.int .u64 4294967295))),
m_ 8 19] false)
(.seq
(.region [
m_ 20 1,
o_ 21 (.bin .shr (.t 20) (.c (.int .u64 32))),
m_ 9 21] false)
(.seq
(.region [
m_ 22 6,
m_ 23 8,
o_ 24 (.bin .mul (.t 22) (.t 23)),
m_ 10 24] false)
(.seq
(.region [
m_ 25 7,
m_ 26 8,
o_ 27 (.bin .mul (.t 25) (.t 26)),
m_ 28 10,
o_ 29 (.bin .shr (.t 28) (.c (.int .u64 32))),
o_ 30 (.bin .add (.t 27) (.t 29)),
m_ 11 30] false)
(.seq
(.region [
m_ 31 11,
o_ 32 (.bin .and (.t 31) (.c (.int .u64 4294967295))),
m_ 12 32] false)
(.seq
(.region [
m_ 33 11,
o_ 34 (.bin .shr (.t 33) (.c (.int .u64 32))),
m_ 13 34] false)
(.seq
(.region [
m_ 35 12,
m_ 36 6,
m_ 37 9,
o_ 38 (.bin .mul (.t 36) (.t 37)),
o_ 39 (.bin .add (.t 35) (.t 38)),
m_ 12 39] false)
(.seq
(.region [
m_ 40 7,
m_ 41 9,
o_ 42 (.bin .mul (.t 40) (.t 41)),
m_ 43 13,
o_ 44 (.bin .add (.t 42) (.t 43)),
m_ 45 12,
o_ 46 (.bin .shr (.t 45) (.c (.int .u64 32))),
o_ 47 (.bin .add (.t 44) (.t 46)),
m_ 4 47] false)
(.seq
(.region [
m_ 48 0,
m_ 49 1,
o_ 50 (.bin .mul (.t 48) (.t 49)),
m_ 5 50] false)
.ret)))))))))))),
[.t 4, .t 5]⟩
theorem ok299 : okFunc Go.Proofs.Tryz.prog 299 lf299 = true := by kernel_rfl
def lf300 : LFunc := ⟨135, 3,
(.seq
(.region [
o_ 6 (.mv (.c (.int .u64 0))),
o_ 7 (.mv (.c (.int .u64 0)))] false)
(.seq
(.seq
(.region [
m_ 19 2,
o_ 20 (.bin .eql (.t 19) (.c (.int .u64 0)))] false)
(.cond (.t 20)
(.region [
o_ 21 (.bad),
⟨none, .bad, none⟩] false)
.skip))
(.seq
(.seq
(.region [
m_ 22 2,
m_ 23 0,
o_ 24 (.bin .leq (.t 22) (.t 23))] false)
(.cond (.t 24)
(.region [
o_ 25 (.bad),
⟨none, .bad, none⟩] false)
.skip))
(.seq
(.seq
(.region [
m_ 26 0,
o_ 27 (.bin .eql (.t 26) (.c (.int .u64 0)))] false)
(.cond (.t 27)
(.seq
(.region [
m_ 28 1,
m_ 29 2,
o_ 30 (.bin .quo (.t 28) (.t 29)),
m_ 31 1,
m_ 32 2,
o_ 33 (.bin .rem (.t 31) (.t 32)),
m_ 6 30,
m_ 7 33] true)
.ret)
.skip))
(.seq
(.region [
m_ 34 2,
o_ 35 (.call false (.c (.fn 326 [] [])) [.t 34]),
o_ 36 (.conv .u64 (.t 35)),
m_ 8 36] false)
(.seq
(.region [
m_ 37 2,
m_ 38 8,
o_ 39 (.bin .shl (.t 37) (.t 38)),
m_ 2 39] false)
(.seq
(.region [
m_ 40 2,
o_ 41 (.bin .shr (.t 40) (.c (.int .u64 32))),
m_ 9 41] false)
(.seq
(.region [
m_ 42 2,
o_ 43 (.bin .and (.t 42) (.c (.int .u64 4294967295))),
m_ 10 43] false)
(.seq
(.region [
m_ 44 0,
m_ 45 8,
o_ 46 (.bin .shl (.t 44) (.t 45)),
m_ 47 1,
m_ 48 8,
o_ 49 (.bin .sub (.c (.int .u64 64)) (.t 48)),
o_ 50 (.bin .shr (.t 47) (.t 49)),
o_ 51 (.bin .or (.t 46) (.t 50)),
m_ 11 51] false)
(.seq
(.region [
m_ 52 1,
m_ 53 8,
o_ 54 (.bin .shl (.t 52) (.t 53)),
m_ 12 54] false)
(.seq
(.region [
m_ 55 12,
o_ 56 (.bin .shr (.t 55) (.c (.int .u64 32))),
m_ 13 56] false)
(.seq
(.region [
m_ 57 12,
o_ 58 (.bin .and (.t 57) (.c (.int .u64 4294967295))),
m_ 14 58] false)
(.seq
(.region [
m_ 59 11,
m_ 60 9,
o_ 61 (.bin .quo (.t 59) (.t 60)),
m_ 15 61] false)
(.seq
(.region [
m_ 62 11,
m_ 63 15,
m_ 64 9,
o_ 65 (.bin .mul (.t 63) (.t 64)),
o_ 66 (.bin .sub (.t 62) (.t 65)),
m_ 16 66] false)
(.seq
(.block 0
(.loop
(.seq
(.seq
(.region [
m_ 67 15,
o_ 68 (.bin .geq (.t 67) (.c (.int .u64 4294967296))),
m_ 69 68,
g_ 70 (.mv (.t 15)) 69 false,
g_ 71 (.mv (.t 10)) 69 false,
g_ 72 (.bin .mul (.t 70) (.t 71)) 69 false,
g_ 73 (.mv (.t 16)) 69 false,
g_ 74 (.bin .mul (.c (.int .u64 4294967296)) (.t 73)) 69 false,
g_ 75 (.mv (.t 13)) 69 false,
g_ 76 (.bin .add (.t 74) (.t 75)) 69 false,
g_ 77 (.bin .gtr (.t 72) (.t 76)) 69 false,
o_ 78 (.pick (.t 69) (.c (.bool true)) (.t 77))] false)
(.cond (.t 78)
.skip
(.exit 0)))
(.block 1
(.seq
(.region [
m_ 79 15,
o_ 80 (.bin .sub (.t 79) (.c (.int .u64 1))),
m_ 15 80] false)
(.seq
(.region [
m_ 81 16,
m_ 82 9,
o_ 83 (.bin .add (.t 81) (.t 82)),
m_ 16 83] false)
(.seq
(.region [
m_ 84 16,
o_ 85 (.bin .geq (.t 84) (.c (.int .u64 4294967296)))] false)
(.cond (.t 85)
(.exit 0)
.skip))))))))
(.seq
(.region [
m_ 86 11,
o_ 87 (.bin .mul (.t 86) (.c (.int .u64 4294967296))),
m_ 88 13,
o_ 89 (.bin .add (.t 87) (.t 88)),
m_ 90 15,
m_ 91 2,
o_ 92 (.bin .mul (.t 90) (.t 91)),
o_ 93 (.bin .sub (.t 89) (.t 92)),
m_ 17 93] false)
(.seq
(.region [
m_ 94 17,
m_ 95 9,
o_ 96 (.bin .quo (.t 94) (.t 95)),
m_ 18 96] false)
(.seq
(.region [
m_ 97 17,
m_ 98 18,
m_ 99 9,
o_ 100 (.bin .mul (.t 98) (.t 99)),
o_ 101 (.bin .sub (.t 97) (.t 100)),
m_ 16 101] false)
(.seq
(.block 2
(.loop
(.seq
(.seq
(.region [
m_ 102 18,
o_ 103 (.bin .geq (.t 102) (.c (.int .u64 4294967296))),
m_ 104 103,
g_ 105 (.mv (.t 18)) 104 false,
g_ 106 (.mv (.t 10)) 104 false,
g_ 107 (.bin .mul (.t 105) (.t 106)) 104 false,
g_ 108 (.mv (.t 16)) 104 false,
g_ 109 (.bin .mul (.c (.int .u64 4294967296)) (.t 108)) 104 false,
g_ 110 (.mv (.t 14)) 104 false,
g_ 111 (.bin .add (.t 109) (.t 110)) 104 false,
g_ 112 (.bin .gtr (.t 107) (.t 111)) 104 false,
o_ 113 (.pick (.t 104) (.c (.bool true)) (.t 112))] false)
(.cond (.t 113)
.skip
(.exit 2)))
(.block 3
(.seq
(.region [
m_ 114 18,
o_ 115 (.bin .sub (.t 114) (.c (.int .u64 1))),
m_ 18 115] false)
(.seq
(.region [
m_ 116 16,
m_ 117 9,
o_ 118 (.bin .add (.t 116) (.t 117)),
m_ 16 118] false)
(.seq
(.region [
m_ 119 16,
o_ 120 (.bin .geq (.t 119) (.c (.int .u64 4294967296)))] false)
(.cond (.t 120)
(.exit 2)
.skip))))))))
(.seq
(.region [
m_ 121 15,
o_ 122 (.bin .mul (.t 121) (.c (.int .u64 4294967296))),
m_ 123 18,
o_ 124 (.bin .add (.t 122) (.t 123)),
m_ 125 17,
o_ 126 (.bin .mul (.t 125) (.c (.int .u64 4294967296))),
m_ 127 14,
o_ 128 (.bin .add (.t 126) (.t 127)),
m_ 129 18,
m_ 130 2,
o_ 131 (.bin .mul (.t 129) (.t 130)),
o_ 132 (.bin .sub (.t 128) (.t 131)),
m_ 133 8,
o_ 134 (.bin .shr (.t 132) (.t 133)),
m_ 6 124,
m_ 7 134] false)
.ret)))))))))))))))))))),
[.t 6, .t 7]⟩
theorem ok300 : okFunc Go.Proofs.Tryz.prog 300 lf300 = true := by kernel_rfl
def lf301 : LFunc := ⟨41, 1,
(.seq
(.region [
o_ 2 (.newv [.int .i64 0, .int .i64 0, .int .i64 0, .int .i64 0])] false)
(.seq
(.block 0
(.seq
(.region [
m_ 5 0,
o_ 6 (.bin .eql (.t 5) (.c (.int .i64 1))),
m_ 4 6] false)
(.cond (.t 4)
(.seq
(.region [
o_ 7 (.call false (.c (.fn 252 [] [])) [.c (.int .i64 0), .c (.int .i64 (-512)), .c (.int .i64 2048), .c (.int .i64 512)]),
⟨none, .store 4 (.t 2) (.t 7), none⟩] false)
.ret)
(.seq
(.region [
m_ 9 0,
o_ 10 (.bin .eql (.t 9) (.c (.int .i64 2))),
m_ 8 10] false)
(.cond (.t 8)
(.seq
(.region [
o_ 11 (.call false (.c (.fn 252 [] [])) [.c (.int .i64 0), .c (.int .i64 (-512)), .c (.int .i64 1740), .c (.int .i64 512)]),
⟨none, .store 4 (.t 2) (.t 11), none⟩] false)
.ret)
(.seq
(.region [
m_ 13 0,
o_ 14 (.bin .leq (.t 13) (.c (.int .i64 4))),
m_ 12 14] false)
(.cond (.t 12)
(.seq
(.region [
o_ 15 (.call false (.c (.fn 252 [] [])) [.c (.int .i64 0), .c (.int .i64 (-512)), .c (.int .i64 1330), .c (.int .i64 512)]),
⟨none, .store 4 (.t 2) (.t 15), none⟩] false)
.ret)
(.seq
(.region [
m_ 17 0,
o_ 18 (.bin .eql (.t 17) (.c (.int .i64 5))),
m_ 16 18] false)
(.cond (.t 16)
(.seq
(.region [
o_ 19 (.call false (.c (.fn 252 [] [])) [.c (.int .i64 0), .c (.int .i64 0), .c (.int .i64 620), .c (.int .i64 1024)]),
⟨none, .store 4 (.t 2) (.t 19), none⟩] false)
.ret)
(.seq
(.region [
m_ 21 0,
o_ 22 (.bin .eql (.t 21) (.c (.int .i64 6))),
m_ 20 22] false)
(.cond (.t 20)
(.seq
(.region [
o_ 23 (.call false (.c (.fn 252 [] [])) [.c (.int .i64 0), .c (.int .i64 (-540)), .c (.int .i64 1540), .c (.int .i64 0)]),
⟨none, .store 4 (.t 2) (.t 23), none⟩] false)
.ret)
(.seq
(.region [
m_ 25 0,
o_ 26 (.bin .eql (.t 25) (.c (.int .i64 7))),
m_ 24 26] false)
(.cond (.t 24)
(.seq
(.region [
o_ 27 (.call false (.c (.fn 252 [] [])) [.c (.int .i64 0), .c (.int .i64 0), .c (.int .i64 1540), .c (.int .i64 540)]),
⟨none, .store 4 (.t 2) (.t 27), none⟩] false)
.ret)
(.seq
(.region [
m_ 29 0,
o_ 30 (.bin .eql (.t 29) (.c (.int .i64 8))),
m_ 28 30] false)
(.cond (.t 28)
(.seq
(.region [
o_ 31 (.call false (.c (.fn 252 [] [])) [.c (.int .i64 0), .c (.int .i64 (-1400)), .c (.int .i64 1120), .c (.int .i64 1500)]),
⟨none, .store 4 (.t 2) (.t 31), none⟩] false)
.ret)
.skip)))))))))))))))
(.seq
(.region [
m_ 32 0,
o_ 33 (.bin .sub (.t 32) (.c (.int .i64 9))),
m_ 3 33] false)
(.seq
(.region [
m_ 34 3,
o_ 35 (.bin .mul (.c (.int .i64 1024)) (.t 34)),
o_ 36 (.bin .sub (.c (.int .i64 (-1000))) (.t 35)),
m_ 37 3,
o_ 38 (.bin .mul (.c (.int .i64 130)) (.t 37)),
o_ 39 (.bin .add (.c (.int .i64 1000)) (.t 38)),
o_ 40 (.call false (.c (.fn 252 [] [])) [.c (.int .i64 0), .t 36, .t 39, .c (.int .i64 900)]),
⟨none, .store 4 (.t 2) (.t 40), none⟩] false)
.ret)))),
[.cell true 4 2]⟩
theorem ok301 : okFunc Go.Proofs.Tryz.prog 301 lf301 = true := by kernel_rfl
def lf302 : LFunc := ⟨42, 1,
(.seq
(.region [
o_ 2 (.newv [.int .i64 0, .int .i64 0, .int .i64 0, .int .i64 0])] false)
(.seq
(.region [
o_ 5 (.call false (.c (.fn 252 [] [])) [.c (.int .i64 0), .c (.int .i64 (-1430)), .c (.int .i64 1020), .c (.int .i64 1430)]),
o_ 6 (.call false (.c (.fn 252 [] [])) [.c (.int .i64 0), .c (.int .i64 (-720)), .c (.int .i64 920), .c (.int .i64 1800)]),
o_ 7 (.call false (.c (.fn 252 [] [])) [.c (.int .i64 0), .c (.int .i64 (-1400)), .c (.int .i64 700), .c (.int .i64 1400)]),
o_ 8 (.call false (.c (.fn 252 [] [])) [.c (.int .i64 0), .c (.int .i64 (-520)), .c (.int .i64 1030), .c (.int .i64 520)]),
o_ 9 (.call false (.c (.fn 252 [] [])) [.c (.int .i64 0), .c (.int .i64 (-720)), .c (.int .i64 1660), .c (.int .i64 1800)]),
o_ 10 (.call false (.c (.fn 252 [] [])) [.c (.int .i64 0), .c (.int .i64 (-2700)), .c (.int .i64 2750), .c (.int .i64 4500)]),
o_ 11 (.call false (.c (.fn 252 [] [])) [.c (.int .i64 0), .c (.int .i64 (-2600)), .c (.int .i64 2800), .c (.int .i64 1100)]),
o_ 12 (.call false (.c (.fn 252 [] [])) [.c (.int .i64 0), .c (.int .i64 (-2100)), .c (.int .i64 2860), .c (.int .i64 2100)]),
o_ 13 (.call false (.c (.fn 252 [] [])) [.c (.int .i64 0), .c (.int .i64 (-2100)), .c (.int .i64 2860), .c (.int .i64 2100)]),
o_ 14 (.bsl 4 9 [.int .i64 0, .int .i64 0, .int .i64 0, .int .i64 0] [(0, .t 5), (1, .t 6), (2, .t 7), (3, .t 8), (4, .t 9), (5, .t 10), (6, .t 11), (7, .t 12), (8, .t 13)]),
m_ 3 14] false)
(.seq
(.seq
(.region [
m_ 15 0,
o_ 16 (.bin .leq (.t 15) (.c (.int .i64 29)))] false)
(.cond (.t 16)
(.seq
(.region [
m_ 17 3,
m_ 18 0,
o_ 19 (.bin .sub (.t 18) (.c (.int .i64 21))),
o_ 20 (.idxa 4 (.t 17) (.t 19)),
o_ 21 (.load true 4 (.t 20)),
⟨none, .store 4 (.t 2) (.t 21), none⟩] false)
.ret)
.skip))
(.seq
(.seq
(.region [
m_ 22 0,
o_ 23 (.bin .lss (.t 22) (.c (.int .i64 40)))] false)
(.cond (.t 23)
(.seq
(.seq
(.region [
m_ 24 0,
o_ 25 (.bin .eql (.t 24) (.c (.int .i64 31)))] false)
(.cond (.t 25)
(.seq
(.region [
o_ 26 (.call false (.c (.fn 252 [] [])) [.c (.int .i64 0), .c (.int .i64 (-1024)), .c (.int .i64 1300), .c (.int .i64 1024)]),
⟨none, .store 4 (.t 2) (.t 26), none⟩] false)
.ret)
.skip))
(.seq
(.region [
o_ 27 (.call false (.c (.fn 252 [] [])) [.c (.int .i64 0), .c (.int .i64 (-1024)), .c (.int .i64 1740), .c (.int .i64 1024)]),
⟨none, .store 4 (.t 2) (.t 27), none⟩] false)
.ret))
.skip))
(.seq
(.region [
o_ 28 (.call false (.c (.fn 252 [] [])) [.c (.int .i64 0), .c (.int .i64 (-200)), .c (.int .i64 400), .c (.int .i64 200)]),
o_ 29 (.call false (.c (.fn 252 [] [])) [.c (.int .i64 0), .c (.int .i64 (-2048)), .c (.int .i64 160), .c (.int .i64 2048)]),
o_ 30 (.call false (.c (.fn 252 [] [])) [.c (.int .i64 0), .c (.int .i64 (-2048)), .c (.int .i64 720), .c (.int .i64 2048)]),
o_ 31 (.call false (.c (.fn 252 [] [])) [.c (.int .i64 0), .c (.int .i64 (-2048)), .c (.int .i64 1000), .c (.int .i64 2048)]),
o_ 32 (.call false (.c (.fn 252 [] [])) [.c (.int .i64 0), .c (.int .i64 (-600)), .c (.int .i64 1500), .c (.int .i64 1200)]),
o_ 33 (.call false (.c (.fn 252 [] [])) [.c (.int .i64 0), .c (.int .i64 0), .c (.int .i64 1900), .c (.int .i64 1100)]),
o_ 34 (.call false (.c (.fn 252 [] [])) [.c (.int .i64 0), .c (.int .i64 (-700)), .c (.int .i64 1400), .c (.int .i64 1800)]),
o_ 35 (.call false (.c (.fn 252 [] [])) [.c (.int .i64 (-1000)), .c (.int .i64 (-2048)), .c (.int .i64 0), .c (.int .i64 2048)]),
o_ 36 (.bsl 4 8 [.int .i64 0, .int .i64 0, .int .i64 0, .int .i64 0] [(0, .t 28), (1, .t 29), (2, .t 30), (3, .t 31), (4, .t 32), (5, .t 33), (6, .t 34), (7, .t 35)]),
m_ 4 36] false)
(.seq
(.region [
m_ 37 4,
m_ 38 0,
o_ 39 (.bin .sub (.t 38) (.c (.int .i64 40))),
o_ 40 (.idxa 4 (.t 37) (.t 39)),
o_ 41 (.load true 4 (.t 40)),
⟨none, .store 4 (.t 2) (.t 41), none⟩] false)
.ret)))))),
[.cell true 4 2]⟩
theorem ok302 : okFunc Go.Proofs.Tryz.prog 302 lf302 = true := by kernel_rfl
def lf303 : LFunc := ⟨31, 3,
(.seq
(.region [
o_ 6 (.mv (.c (.int .i64 0))),
o_ 7 (.mv (.c (.int .i64 0)))] false)
(.seq
(.seq
(.region [
m_ 8 0,
o_ 9 (.call false (.c (.fn 136 [] [])) [.t 8]),
o_ 10 (.not (.t 9))] false)
(.cond (.t 10)
(.seq
(.region [
o_ 6 (.mv (.c (.int .i64 0))),
o_ 7 (.mv (.c (.int .i64 3)))] false)
.ret)
.skip))
(.seq
(.seq
(.region [
m_ 11 1,
o_ 12 (.bin .lss (.t 11) (.c (.int .i64 (-1048576)))),
m_ 13 12,
g_ 14 (.mv (.t 1)) 13 false,
g_ 15 (.bin .gtr (.t 14) (.c (.int .i64 1048576))) 13 false,
o_ 16 (.pick (.t 13) (.c (.bool true)) (.t 15)),
m_ 17 16,
g_ 18 (.mv (.t 2)) 17 false,
g_ 19 (.bin .lss (.t 18) (.c (.int .i64 1))) 17 false,
o_ 20 (.pick (.t 17) (.c (.bool true)) (.t 19)),
m_ 21 20,
g_ 22 (.mv (.t 2)) 21 false,
g_ 23 (.bin .gtr (.t 22) (.c (.int .i64 1048576))) 21 false,
o_ 24 (.pick (.t 21) (.c (.bool true)) (.t 23))] false)
(.cond (.t 24)
(.seq
(.region [
o_ 6 (.mv (.c (.int .i64 0))),
o_ 7 (.mv (.c (.int .i64 2)))] false)
.ret)
.skip))
(.seq
(.region [
m_ 25 0,
m_ 26 1,
m_ 27 2,
o_ 28 (.call false (.c (.fn 327 [] [])) [.t 25, .t 26, .t 27]),
o_ 29 (.extract (.t 28) 0),
o_ 30 (.extract (.t 28) 1),
m_ 6 29,
m_ 7 30] false)
.ret)))),
[.t 6, .t 7]⟩
theorem ok303 : okFunc Go.Proofs.Tryz.prog 303 lf303 = true := by kernel_rfl
def lf304 : LFunc := ⟨32, 1,
(.seq
(.region [
o_ 2 (.newv [.int .i64 0, .int .i64 0, .int .i64 0]),
o_ 3 (.mv (.c (.bool false)))] false)
(.seq
(.region [
o_ 7 (.bsl 1 5 [.str ⟨#[]⟩] [(0, .c (.str ⟨#[101, 115, 101, 115]⟩)), (1, .c (.str ⟨#[101, 115]⟩)), (2, .c (.str ⟨#[]⟩)), (3, .c (.str ⟨#[105, 115]⟩)), (4, .c (.str ⟨#[105, 115, 105, 115]⟩))]),
m_ 4 7] false)
(.seq
(.seq
(.region [
o_ 5 (.mv (.c (.int .i64 0)))] false)
(.block 0
(.loop
(.seq
(.seq
(.region [
m_ 8 5,
o_ 9 (.bin .lss (.t 8) (.c (.int .i64 7)))] false)
(.cond (.t 9)
.skip
(.exit 0)))
(.seq
(.block 1
(.seq
(.region [
o_ 6 (.mv (.c (.int .i64 0)))] false)
(.block 2
(.loop
(.seq
(.seq
(.region [
m_ 12 6,
o_ 13 (.bin .lss (.t 12) (.c (.int .i64 5)))] false)
(.cond (.t 13)
.skip
(.exit 2)))
(.seq
(.block 3
(.seq
(.region [
m_ 16 0,
m_ 17 5,
m_ 18 5,
o_ 19 (.bin .add (.t 18) (.c (.int .i64 1))),
o_ 20 (.substr (.c (.str ⟨#[99, 100, 101, 102, 103, 97, 98]⟩)) (some (.t 17)) (some (.t 19))),
m_ 21 4,
m_ 22 6,
o_ 23 (.idxa 1 (.t 21) (.t 22)),
o_ 24 (.load false 1 (.t 23)),
o_ 25 (.bin .add (.t 20) (.t 24)),
o_ 26 (.bin .eql (.t 16) (.t 25))] true)
(.cond (.t 26)
(.seq
(.region [
m_ 27 5,
m_ 28 6,
o_ 29 (.bin .sub (.t 28) (.c (.int .i64 2))),
o_ 30 (.build [.int .i64 0, .int .i64 0, .int .i64 0] [(0, 1, .t 27), (1, 1, .t 29)]),
⟨none, .store 3 (.t 2) (.t 30), none⟩,
o_ 3 (.mv (.c (.bool true)))] false)
.ret)
.skip)))
(.region [
m_ 14 6,
o_ 15 (.bin .add (.t 14) (.c (.int .i64 1))),
m_ 6 15] false)))))))
(.region [
m_ 10 5,
o_ 11 (.bin .add (.t 10) (.c (.int .i64 1))),
m_ 5 11] false))))))
(.seq
(.region [
o_ 31 (.build [.int .i64 0, .int .i64 0, .int .i64 0] []),
⟨none, .store 3 (.t 2) (.t 31), none⟩,
o_ 3 (.mv (.c (.bool false)))] false)
.ret)))),
[.cell true 3 2, .t 3]⟩
theorem ok304 : okFunc Go.Proofs.Tryz.prog 304 lf304 = true := by kernel_rfl
def lf305 : LFunc := ⟨59, 1,
(.seq
(.region [
o_ 2 (.newv [.int .i64 0, .int .i64 0, .int .i64 0])] false)
(.seq
(.region [
m_ 6 0,
o_ 7 (.call false (.c (.fn 328 [] [])) [.t 6]),
o_ 3 (.newv [.int .i64 0, .int .i64 0, .int .i64 0]),
⟨none, .store 3 (.t 3) (.t 7), none⟩] false)
(.seq
(.region [
o_ 4 (.mv (.c (.str ⟨#[]⟩)))] false)
(.seq
(.block 0
(.loop
(.seq
(.seq
(.region [
m_ 8 0,
o_ 9 (.call false (.c (.fn 38 [] [])) [.t 8]),
o_ 10 (.not (.t 9)),
m_ 11 10,
g_ 12 (.mv (.t 0)) 11 true,
g_ 13 (.call false (.c (.fn 39 [] [])) [.t 12]) 11 true,
g_ 14 (.field false 0 1 (.t 13)) 11 true,
g_ 15 (.bin .eql (.t 14) (.c (.int .i64 3))) 11 true,
o_ 16 (.pick (.t 11) (.t 15) (.c (.bool false)))] false)
(.cond (.t 16)
.skip
(.exit 0)))
(.block 1
(.seq
(.region [
m_ 17 0,
o_ 18 (.call false (.c (.fn 39 [] [])) [.t 17]),
o_ 19 (.field false 1 1 (.t 18)),
m_ 5 19] false)
(.seq
(.seq
(.region [
m_ 20 4,
o_ 21 (.bin .neq (.t 20) (.c (.str ⟨#[]⟩))),
m_ 22 21,
g_ 23 (.mv (.t 5)) 22 true,
g_ 24 (.mv (.t 4)) 22 true,
g_ 25 (.bin .neq (.t 23) (.t 24)) 22 true,
o_ 26 (.pick (.t 22) (.t 25) (.c (.bool false))),
m_ 27 26,
g_ 28 (.fadr 2 (.t 3)) 27 false,
g_ 29 (.load false 1 (.t 28)) 27 false,
g_ 30 (.bin .eql (.t 29) (.c (.int .i64 9))) 27 false,
o_ 31 (.pick (.t 27) (.c (.bool true)) (.t 30)),
m_ 32 31,
g_ 33 (.fadr 2 (.t 3)) 32 false,
g_ 34 (.load false 1 (.t 33)) 32 false,
g_ 35 (.bin .eql (.t 34) (.c (.int .i64 (-9)))) 32 false,
o_ 36 (.pick (.t 32) (.c (.bool true)) (.t 35))] false)
(.cond (.t 36)
(.seq
(.region [
m_ 37 0,
o_ 38 (.call false (.c (.fn 35 [] [])) [.t 37])] false)
(.seq
(.region [
o_ 39 (.load true 3 (.t 3)),
⟨none, .store 3 (.t 2) (.t 39), none⟩] false)
.ret))
.skip))
(.seq
(.region [
m_ 40 5,
m_ 4 40] false)
(.seq
(.region [
o_ 41 (.fadr 2 (.t 3)),
o_ 42 (.load false 1 (.t 41)),
o_ 43 (.bin .add (.t 42) (.c (.int .i64 1))),
o_ 44 (.fadr 2 (.t 3)),
⟨none, .store 1 (.t 44) (.t 43), none⟩] false)
(.seq
(.seq
(.region [
m_ 45 5,
o_ 46 (.bin .eql (.t 45) (.c (.str ⟨#[44]⟩)))] false)
(.cond (.t 46)
(.region [
o_ 47 (.fadr 2 (.t 3)),
o_ 48 (.load false 1 (.t 47)),
o_ 49 (.bin .sub (.t 48) (.c (.int .i64 2))),
o_ 50 (.fadr 2 (.t 3)),
⟨none, .store 1 (.t 50) (.t 49), none⟩] false)
.skip))
(.region [
m_ 51 0,
o_ 52 (.nilck (.t 51)),
o_ 53 (.fadr 1 (.t 52)),
o_ 54 (.load false 1 (.t 53)),
o_ 55 (.bin .add (.t 54) (.c (.int .i64 1))),
o_ 56 (.nilck (.t 51)),
o_ 57 (.fadr 1 (.t 56)),
⟨none, .store 1 (.t 57) (.t 55), none⟩] false))))))))))
(.seq
(.region [
o_ 58 (.load true 3 (.t 3)),
⟨none, .store 3 (.t 2) (.t 58), none⟩] false)
.ret))))),
[.cell true 3 2]⟩
theorem ok305 : okFunc Go.Proofs.Tryz.prog 305 lf305 = true := by kernel_rfl
def lf306 : LFunc := ⟨98, 2,
(.seq
(.region [
o_ 3 (.box 14 (.t 1)),
o_ 4 (.newv [.int .i64 0, .int .i64 0, .nils, .bool false, .int .i64 0, .int .i64 0, .bool false, .int .i64 0, .int .i64 0, .str ⟨#[]⟩, .int .i64 0, .int .i64 0, .str ⟨#[]⟩, .nils])] false)
(.seq
(.block 0
(.loop
(.seq
(.seq
(.region [
m_ 6 0,
o_ 7 (.call false (.c (.fn 38 [] [])) [.t 6]),
o_ 8 (.not (.t 7))] false)
(.cond (.t 8)
.skip
(.exit 0)))
(.block 1
(.seq
(.region [
o_ 9 (.fadr 6 (.t 3)),
o_ 10 (.load true 4 (.t 9)),
o_ 5 (.newv [.bool false, .int .i64 0, .int .i64 0, .str ⟨#[]⟩]),
⟨none, .store 4 (.t 5) (.t 10), none⟩] false)
(.seq
(.block 2
(.seq
(.region [
m_ 13 0,
o_ 14 (.call false (.c (.fn 34 [] [])) [.t 13, .c (.int .i64 4), .c (.str ⟨#[126]⟩)]),
m_ 15 14,
g_ 16 (.fadr 0 (.t 5)) 15 true,
g_ 17 (.load false 1 (.t 16)) 15 true,
g_ 18 (.not (.t 17)) 15 true,
o_ 19 (.pick (.t 15) (.t 18) (.c (.bool false))),
m_ 12 19] false)
(.cond (.t 12)
(.region [
o_ 20 (.fadr 0 (.t 5)),
⟨none, .store 1 (.t 20) (.c (.bool true)), none⟩] false)
(.seq
(.region [
m_ 22 0,
o_ 23 (.call false (.c (.fn 34 [] [])) [.t 22, .c (.int .i64 4), .c (.str ⟨#[40]⟩)]),
m_ 24 23,
g_ 25 (.fadr 1 (.t 5)) 24 true,
g_ 26 (.load false 1 (.t 25)) 24 true,
g_ 27 (.bin .lss (.t 26) (.c (.int .i64 4))) 24 true,
o_ 28 (.pick (.t 24) (.t 27) (.c (.bool false))),
m_ 21 28] false)
(.cond (.t 21)
(.region [
o_ 29 (.fadr 1 (.t 5)),
o_ 30 (.load false 1 (.t 29)),
o_ 31 (.bin .add (.t 30) (.c (.int .i64 1))),
o_ 32 (.fadr 1 (.t 5)),
⟨none, .store 1 (.t 32) (.t 31), none⟩] false)
(.seq
(.region [
m_ 34 0,
o_ 35 (.call false (.c (.fn 34 [] [])) [.t 34, .c (.int .i64 4), .c (.str ⟨#[41]⟩)]),
m_ 36 35,
g_ 37 (.fadr 2 (.t 5)) 36 true,
g_ 38 (.load false 1 (.t 37)) 36 true,
g_ 39 (.bin .lss (.t 38) (.c (.int .i64 4))) 36 true,
o_ 40 (.pick (.t 36) (.t 39) (.c (.bool false))),
m_ 33 40] false)
(.cond (.t 33)
(.region [
o_ 41 (.fadr 2 (.t 5)),
o_ 42 (.load false 1 (.t 41)),
o_ 43 (.bin .add (.t 42) (.c (.int .i64 1))),
o_ 44 (.fadr 2 (.t 5)),
⟨none, .store 1 (.t 44) (.t 43), none⟩] false)
(.seq
(.region [
m_ 46 0,
o_ 47 (.call false (.c (.fn 34 [] [])) [.t 46, .c (.int .i64 4), .c (.str ⟨#[33]⟩)]),
m_ 48 47,
g_ 49 (.fadr 3 (.t 5)) 48 true,
g_ 50 (.load false 1 (.t 49)) 48 true,
g_ 51 (.bin .eql (.t 50) (.c (.str ⟨#[]⟩))) 48 true,
o_ 52 (.pick (.t 48) (.t 51) (.c (.bool false))),
m_ 45 52] false)
(.cond (.t 45)
(.seq
(.region [
m_ 53 0,
o_ 54 (.nilck (.t 53)),
o_ 55 (.fadr 1 (.t 54)),
o_ 56 (.load false 1 (.t 55)),
o_ 57 (.bin .add (.t 56) (.c (.int .i64 1))),
o_ 58 (.nilck (.t 53)),
o_ 59 (.fadr 1 (.t 58)),
⟨none, .store 1 (.t 59) (.t 57), none⟩] false)
(.seq
(.region [
m_ 60 0,
o_ 61 (.call false (.c (.fn 316 [] [])) []),
o_ 62 (.call false (.c (.fn 329 [] [])) [.t 60, .t 61]),
o_ 63 (.fadr 3 (.t 5)),
⟨none, .store 1 (.t 63) (.t 62), none⟩] false)
(.region [
m_ 64 0,
o_ 65 (.nilck (.t 64)),
o_ 66 (.fadr 1 (.t 65)),
o_ 67 (.load false 1 (.t 66)),
o_ 68 (.bin .sub (.t 67) (.c (.int .i64 1))),
o_ 69 (.nilck (.t 64)),
o_ 70 (.fadr 1 (.t 69)),
⟨none, .store 1 (.t 70) (.t 68), none⟩] false)))
(.seq
(.region [
m_ 72 0,
o_ 73 (.call false (.c (.fn 34 [] [])) [.t 72, .c (.int .i64 4), .c (.str ⟨#[126]⟩)]),
m_ 74 73,
g_ 75 (.mv (.t 0)) 74 false,
g_ 76 (.call false (.c (.fn 34 [] [])) [.t 75, .c (.int .i64 4), .c (.str ⟨#[40]⟩)]) 74 false,
o_ 77 (.pick (.t 74) (.c (.bool true)) (.t 76)),
m_ 78 77,
g_ 79 (.mv (.t 0)) 78 false,
g_ 80 (.call false (.c (.fn 34 [] [])) [.t 79, .c (.int .i64 4), .c (.str ⟨#[41]⟩)]) 78 false,
o_ 81 (.pick (.t 78) (.c (.bool true)) (.t 80)),
m_ 82 81,
g_ 83 (.mv (.t 0)) 82 false,
g_ 84 (.call false (.c (.fn 34 [] [])) [.t 83, .c (.int .i64 4), .c (.str ⟨#[33]⟩)]) 82 false,
o_ 85 (.pick (.t 82) (.c (.bool true)) (.t 84)),
m_ 71 85] false)
(.cond (.t 71)
(.region [
m_ 86 0,
o_ 87 (.call false (.c (.fn 35 [] [])) [.t 86])] false)
(.seq
(.region [
o_ 11 (.load true 14 (.t 3)),
⟨none, .store 14 (.t 4) (.t 11), none⟩] false)
.ret))))))))))))
(.seq
(.region [
o_ 88 (.load true 4 (.t 5)),
o_ 89 (.fadr 6 (.t 3)),
⟨none, .store 4 (.t 89) (.t 88), none⟩] false)
(.region [
m_ 90 0,
o_ 91 (.nilck (.t 90)),
o_ 92 (.fadr 1 (.t 91)),
o_ 93 (.load false 1 (.t 92)),
o_ 94 (.bin .add (.t 93) (.c (.int .i64 1))),
o_ 95 (.nilck (.t 90)),
o_ 96 (.fadr 1 (.t 95)),
⟨none, .store 1 (.t 96) (.t 94), none⟩] false))))))))
(.seq
(.region [
o_ 97 (.load true 14 (.t 3)),
⟨none, .store 14 (.t 4) (.t 97), none⟩] false)
.ret))),
[.cell true 14 4]⟩
theorem ok306 : okFunc Go.Proofs.Tryz.prog 306 lf306 = true := by kernel_rfl
def lf307 : LFunc := ⟨63, 2,
(.seq
(.region [
o_ 3 (.box 14 (.t 1)),
o_ 4 (.newv [.int .i64 0, .int .i64 0, .nils, .bool false, .int .i64 0, .int .i64 0, .bool false, .int .i64 0, .int .i64 0, .str ⟨#[]⟩, .int .i64 0, .int .i64 0, .str ⟨#[]⟩, .nils])] false)
(.seq
(.seq
(.region [
m_ 7 0,
o_ 8 (.call false (.c (.fn 38 [] [])) [.t 7]),
m_ 9 8,
g_ 10 (.mv (.t 0)) 9 false,
g_ 11 (.call false (.c (.fn 39 [] [])) [.t 10]) 9 false,
g_ 12 (.field false 0 1 (.t 11)) 9 false,
g_ 13 (.bin .neq (.t 12) (.c (.int .i64 2))) 9 false,
g_ 14 (.mv (.t 13)) 9 false,
g_ 15 (.mv (.t 0)) 14 true,
g_ 16 (.call false (.c (.fn 34 [] [])) [.t 15, .c (.int .i64 1), .c (.str ⟨#[98, 114, 101, 118, 101]⟩)]) 14 true,
g_ 17 (.not (.t 16)) 14 true,
g_ 18 (.pick (.t 14) (.t 17) (.c (.bool false))) 9 false,
o_ 19 (.pick (.t 9) (.c (.bool true)) (.t 18))] false)
(.cond (.t 19)
(.seq
(.region [
o_ 20 (.load true 14 (.t 3)),
⟨none, .store 14 (.t 4) (.t 20), none⟩] false)
.ret)
.skip))
(.seq
(.region [
m_ 22 0,
o_ 23 (.call false (.c (.fn 39 [] [])) [.t 22]),
o_ 24 (.field false 1 1 (.t 23)),
o_ 25 (.call false (.c (.fn 330 [] [])) [.t 24]),
m_ 21 25,
o_ 26 (.extract (.t 21) 0),
o_ 27 (.extract (.t 21) 1),
o_ 5 (.newv [.int .i64 0, .int .i64 0]),
⟨none, .store 2 (.t 5) (.t 26), none⟩,
m_ 6 27] false)
(.seq
(.seq
(.region [
m_ 28 6,
o_ 29 (.not (.t 28))] false)
(.cond (.t 29)
(.seq
(.region [
m_ 30 0,
o_ 31 (.call false (.c (.fn 36 [] [])) [.t 30, .c (.int .i64 21)])] false)
(.seq
(.region [
o_ 32 (.load true 14 (.t 3)),
⟨none, .store 14 (.t 4) (.t 32), none⟩] false)
.ret))
.skip))
(.seq
(.region [
m_ 33 0,
o_ 34 (.nilck (.t 33)),
o_ 35 (.fadr 1 (.t 34)),
o_ 36 (.load false 1 (.t 35)),
o_ 37 (.bin .add (.t 36) (.c (.int .i64 1))),
o_ 38 (.nilck (.t 33)),
o_ 39 (.fadr 1 (.t 38)),
⟨none, .store 1 (.t 39) (.t 37), none⟩] false)
(.seq
(.block 0
(.loop
(.seq
(.seq
(.region [
m_ 40 0,
o_ 41 (.call false (.c (.fn 34 [] [])) [.t 40, .c (.int .i64 4), .c (.str ⟨#[46]⟩)])] false)
(.cond (.t 41)
.skip
(.exit 0)))
(.block 1
(.seq
(.seq
(.region [
o_ 42 (.fadr 1 (.t 5)),
o_ 43 (.load false 1 (.t 42)),
o_ 44 (.bin .eql (.t 43) (.c (.int .i64 3)))] false)
(.cond (.t 44)
(.seq
(.region [
m_ 45 0,
o_ 46 (.call false (.c (.fn 36 [] [])) [.t 45, .c (.int .i64 21)])] false)
(.seq
(.region [
o_ 47 (.load true 14 (.t 3)),
⟨none, .store 14 (.t 4) (.t 47), none⟩] false)
.ret))
.skip))
(.seq
(.region [
o_ 48 (.fadr 1 (.t 5)),
o_ 49 (.load false 1 (.t 48)),
o_ 50 (.bin .add (.t 49) (.c (.int .i64 1))),
o_ 51 (.fadr 1 (.t 5)),
⟨none, .store 1 (.t 51) (.t 50), none⟩] false)
(.region [
m_ 52 0,
o_ 53 (.nilck (.t 52)),
o_ 54 (.fadr 1 (.t 53)),
o_ 55 (.load false 1 (.t 54)),
o_ 56 (.bin .add (.t 55) (.c (.int .i64 1))),
o_ 57 (.nilck (.t 52)),
o_ 58 (.fadr 1 (.t 57)),
⟨none, .store 1 (.t 58) (.t 56), none⟩] false)))))))
(.seq
(.region [
o_ 59 (.loadF true 2 (.t 5)),
o_ 60 (.fadr 3 (.t 3)),
⟨none, .storeF 1 (.t 60) (.c (.bool true)), none⟩,
o_ 61 (.fadr 4 (.t 3)),
⟨none, .store 2 (.t 61) (.t 59), none⟩] true)
(.seq
(.region [
o_ 62 (.load true 14 (.t 3)),
⟨none, .store 14 (.t 4) (.t 62), none⟩] false)
.ret)))))))),
[.cell true 14 4]⟩
theorem ok307 : okFunc Go.Proofs.Tryz.prog 307 lf307 = true := by kernel_rfl
def lf308 : LFunc := ⟨63, 2,
(.seq
(.region [
o_ 3 (.box 14 (.t 1)),
o_ 4 (.newv [.int .i64 0, .int .i64 0, .nils, .bool false, .int .i64 0, .int .i64 0, .bool false, .int .i64 0, .int .i64 0, .str ⟨#[]⟩, .int .i64 0, .int .i64 0, .str ⟨#[]⟩, .nils])] false)
(.seq
(.region [
m_ 7 0,
o_ 8 (.nilck (.t 7)),
o_ 9 (.fadr 1 (.t 8)),
o_ 10 (.load false 1 (.t 9)),
o_ 11 (.bin .add (.t 10) (.c (.int .i64 1))),
o_ 12 (.nilck (.t 7)),
o_ 13 (.fadr 1 (.t 12)),
⟨none, .store 1 (.t 13) (.t 11), none⟩] false)
(.seq
(.region [
o_ 14 (.fadr 2 (.t 3)),
o_ 15 (.load false 1 (.t 14)),
m_ 16 0,
o_ 17 (.call false (.c (.fn 305 [] [])) [.t 16]),
o_ 18 (.btsl 3 1 [.int .i64 0, .int .i64 0, .int .i64 0] [(0, .t 17)]),
o_ 19 (.append 3 24 (.t 15) (.t 18)),
o_ 20 (.fadr 2 (.t 3)),
⟨none, .store 1 (.t 20) (.t 19), none⟩] true)
(.seq
(.block 0
(.loop
(.seq
(.seq
(.region [
m_ 21 0,
o_ 22 (.call false (.c (.fn 38 [] [])) [.t 21]),
o_ 23 (.not (.t 22)),
m_ 24 23,
g_ 25 (.mv (.t 0)) 24 true,
g_ 26 (.call false (.c (.fn 34 [] [])) [.t 25, .c (.int .i64 4), .c (.str ⟨#[62]⟩)]) 24 true,
g_ 27 (.not (.t 26)) 24 true,
o_ 28 (.pick (.t 24) (.t 27) (.c (.bool false)))] false)
(.cond (.t 28)
.skip
(.exit 0)))
(.block 1
(.seq
(.seq
(.region [
o_ 29 (.fadr 2 (.t 3)),
o_ 30 (.load false 1 (.t 29)),
o_ 31 (.len .sli (.t 30)),
o_ 32 (.bin .eql (.t 31) (.c (.int .i64 16)))] false)
(.cond (.t 32)
(.seq
(.region [
m_ 34 0,
o_ 35 (.call false (.c (.fn 39 [] [])) [.t 34]),
o_ 36 (.field false 1 1 (.t 35)),
o_ 37 (.call false (.c (.fn 304 [] [])) [.t 36]),
m_ 33 37,
o_ 38 (.extract (.t 33) 0),
o_ 39 (.extract (.t 33) 1),
o_ 5 (.newv [.int .i64 0, .int .i64 0, .int .i64 0]),
⟨none, .store 3 (.t 5) (.t 38), none⟩,
m_ 6 39] false)
(.seq
(.region [
m_ 40 6,
m_ 41 40,
g_ 42 (.mv (.t 0)) 41 true,
g_ 43 (.call false (.c (.fn 39 [] [])) [.t 42]) 41 true,
g_ 44 (.field false 0 1 (.t 43)) 41 true,
g_ 45 (.bin .eql (.t 44) (.c (.int .i64 1))) 41 true,
o_ 46 (.pick (.t 41) (.t 45) (.c (.bool false)))] false)
(.cond (.t 46)
(.region [
m_ 47 0,
o_ 48 (.call false (.c (.fn 36 [] [])) [.t 47, .c (.int .i64 4)])] false)
.skip)))
.skip))
(.region [
o_ 49 (.fadr 2 (.t 3)),
o_ 50 (.load false 1 (.t 49)),
m_ 51 0,
o_ 52 (.call false (.c (.fn 305 [] [])) [.t 51]),
o_ 53 (.btsl 3 1 [.int .i64 0, .int .i64 0, .int .i64 0] [(0, .t 52)]),
o_ 54 (.append 3 24 (.t 50) (.t 53)),
o_ 55 (.fadr 2 (.t 3)),
⟨none, .store 1 (.t 55) (.t 54), none⟩] true))))))
(.seq
(.region [
m_ 56 0,
o_ 57 (.call false (.c (.fn 142 [] [])) [.t 56, .c (.str ⟨#[62]⟩)])] false)
(.seq
(.region [
m_ 58 0,
m_ 59 0,
o_ 60 (.load true 14 (.t 3)),
o_ 61 (.call false (.c (.fn 307 [] [])) [.t 59, .t 60]),
o_ 62 (.call false (.c (.fn 306 [] [])) [.t 58, .t 61]),
⟨none, .store 14 (.t 4) (.t 62), none⟩] false)
.ret)))))),
[.cell true 14 4]⟩
theorem ok308 : okFunc Go.Proofs.Tryz.prog 308 lf308 = true := by kernel_rfl
def lf309 : LFunc := ⟨71, 2,
(.seq
(.region [
o_ 3 (.box 14 (.t 1)),
o_ 4 (.newv [.int .i64 0, .int .i64 0, .nils, .bool false, .int .i64 0, .int .i64 0, .bool false, .int .i64 0, .int .i64 0, .str ⟨#[]⟩, .int .i64 0, .int .i64 0, .str ⟨#[]⟩, .nils])] false)
(.seq
(.region [
m_ 5 0,
o_ 6 (.nilck (.t 5)),
o_ 7 (.fadr 1 (.t 6)),
o_ 8 (.load false 1 (.t 7)),
o_ 9 (.bin .add (.t 8) (.c (.int .i64 1))),
o_ 10 (.nilck (.t 5)),
o_ 11 (.fadr 1 (.t 10)),
⟨none, .store 1 (.t 11) (.t 9), none⟩] false)
(.seq
(.seq
(.region [
o_ 12 (.fadr 0 (.t 3)),
o_ 13 (.load false 1 (.t 12))] false)
(.block 0
(.seq
(.region [
o_ 15 (.bin .eql (.t 13) (.c (.int .i64 5))),
m_ 14 15] false)
(.cond (.t 14)
(.seq
(.region [
m_ 16 0,
o_ 17 (.call false (.c (.fn 331 [] [])) [.t 16, .c (.int .i64 16)]),
o_ 18 (.fadr 10 (.t 3)),
⟨none, .store 1 (.t 18) (.t 17), none⟩] false)
(.seq
(.region [
m_ 19 0,
o_ 20 (.call false (.c (.fn 142 [] [])) [.t 19, .c (.str ⟨#[47]⟩)])] false)
(.seq
(.region [
m_ 21 0,
o_ 22 (.call false (.c (.fn 331 [] [])) [.t 21, .c (.int .i64 16)]),
o_ 23 (.fadr 11 (.t 3)),
⟨none, .store 1 (.t 23) (.t 22), none⟩] false)
(.region [
m_ 24 0,
o_ 25 (.call false (.c (.fn 143 [] [])) [.t 24, .c (.int .i64 1)]),
o_ 26 (.fadr 13 (.t 3)),
⟨none, .store 1 (.t 26) (.t 25), none⟩] false))))
(.seq
(.region [
o_ 28 (.bin .eql (.t 13) (.c (.int .i64 6))),
m_ 27 28] false)
(.cond (.t 27)
(.region [
m_ 29 0,
o_ 30 (.call false (.c (.fn 143 [] [])) [.t 29, .c (.int .i64 2)]),
o_ 31 (.fadr 13 (.t 3)),
⟨none, .store 1 (.t 31) (.t 30), none⟩] false)
(.seq
(.region [
o_ 33 (.bin .eql (.t 13) (.c (.int .i64 7))),
m_ 32 33] false)
(.cond (.t 32)
(.seq
(.region [
m_ 34 0,
o_ 35 (.call false (.c (.fn 331 [] [])) [.t 34, .c (.int .i64 8)]),
o_ 36 (.fadr 10 (.t 3)),
⟨none, .store 1 (.t 36) (.t 35), none⟩] false)
(.region [
m_ 37 0,
o_ 38 (.call false (.c (.fn 143 [] [])) [.t 37, .c (.int .i64 0)]),
o_ 39 (.fadr 13 (.t 3)),
⟨none, .store 1 (.t 39) (.t 38), none⟩] false))
(.seq
(.region [
o_ 41 (.bin .eql (.t 13) (.c (.int .i64 8))),
m_ 40 41] false)
(.cond (.t 40)
(.seq
(.region [
m_ 42 0,
o_ 43 (.call false (.c (.fn 305 [] [])) [.t 42]),
o_ 44 (.bsl 3 1 [.int .i64 0, .int .i64 0, .int .i64 0] [(0, .t 43)]),
o_ 45 (.fadr 2 (.t 3)),
⟨none, .store 1 (.t 45) (.t 44), none⟩] false)
(.region [
m_ 46 0,
o_ 47 (.call false (.c (.fn 143 [] [])) [.t 46, .c (.int .i64 0)]),
o_ 48 (.fadr 13 (.t 3)),
⟨none, .store 1 (.t 48) (.t 47), none⟩] false))
(.seq
(.region [
o_ 50 (.bin .eql (.t 13) (.c (.int .i64 9))),
m_ 49 50] false)
(.cond (.t 49)
(.region [
m_ 51 0,
o_ 52 (.call false (.c (.fn 275 [] [])) []),
o_ 53 (.call false (.c (.fn 329 [] [])) [.t 51, .t 52]),
o_ 54 (.fadr 12 (.t 3)),
⟨none, .store 1 (.t 54) (.t 53), none⟩] false)
(.seq
(.region [
o_ 56 (.bin .eql (.t 13) (.c (.int .i64 10))),
m_ 55 56] false)
(.cond (.t 55)
(.seq
(.region [
m_ 57 0,
o_ 58 (.call false (.c (.fn 328 [] [])) [.t 57]),
o_ 59 (.bsl 3 1 [.int .i64 0, .int .i64 0, .int .i64 0] [(0, .t 58)]),
o_ 60 (.fadr 2 (.t 3)),
⟨none, .store 1 (.t 60) (.t 59), none⟩] false)
(.region [
m_ 61 0,
o_ 62 (.call false (.c (.fn 276 [] [])) []),
o_ 63 (.call false (.c (.fn 329 [] [])) [.t 61, .t 62]),
o_ 64 (.fadr 12 (.t 3)),
⟨none, .store 1 (.t 64) (.t 63), none⟩] false))
(.seq
(.region [
o_ 66 (.bin .eql (.t 13) (.c (.int .i64 11))),
m_ 65 66] false)
(.cond (.t 65)
(.seq
(.region [
m_ 67 0,
o_ 68 (.load true 14 (.t 3)),
o_ 69 (.call false (.c (.fn 332 [] [])) [.t 67, .t 68]),
⟨none, .store 14 (.t 4) (.t 69), none⟩] false)
.ret)
.skip))))))))))))))))
(.seq
(.region [
o_ 70 (.load true 14 (.t 3)),
⟨none, .store 14 (.t 4) (.t 70), none⟩] false)
.ret)))),
[.cell true 14 4]⟩
theorem ok309 : okFunc Go.Proofs.Tryz.prog 309 lf309 = true := by kernel_rfl
def lf314 : LFunc := ⟨12, 1,
(.seq
(.region [
o_ 1 (.box 3 (.t 0)),
o_ 2 (.mv (.c (.int .i64 0)))] false)
(.seq
(.seq
(.region [
o_ 3 (.load true 3 (.t 1)),
o_ 4 (.call false (.c (.fn 221 [] [])) [.t 3]),
o_ 5 (.not (.t 4))] false)
(.cond (.t 5)
(.seq
(.region [
o_ 2 (.mv (.c (.int .i64 (-1))))] false)
.ret)
.skip))
(.seq
(.region [
o_ 6 (.fadr 2 (.t 1)),
o_ 7 (.load false 1 (.t 6)),
o_ 8 (.bin .mul (.c (.int .i64 7)) (.t 7)),
o_ 9 (.fadr 0 (.t 1)),
o_ 10 (.load false 1 (.t 9)),
o_ 11 (.bin .add (.t 8) (.t 10)),
m_ 2 11] false)
.ret))),
[.t 2]⟩
theorem ok314 : okFunc Go.Proofs.Tryz.prog 314 lf314 = true := by kernel_rfl
def lf315 : LFunc := ⟨16, 1,
(.seq
(.region [
o_ 2 (.newv [.int .i64 0, .int .i64 0, .int .i64 0]),
o_ 3 (.mv (.c (.bool false)))] false)
(.seq
(.seq
(.region [
m_ 4 0,
o_ 5 (.bin .lss (.t 4) (.c (.int .i64 0))),
m_ 6 5,
g_ 7 (.mv (.t 0)) 6 false,
g_ 8 (.bin .gtr (.t 7) (.c (.int .i64 69))) 6 false,
o_ 9 (.pick (.t 6) (.c (.bool true)) (.t 8))] false)
(.cond (.t 9)
(.seq
(.region [
o_ 10 (.build [.int .i64 0, .int .i64 0, .int .i64 0] []),
⟨none, .store 3 (.t 2) (.t 10), none⟩,
o_ 3 (.mv (.c (.bool false)))] false)
.ret)
.skip))
(.seq
(.region [
m_ 11 0,
o_ 12 (.bin .rem (.t 11) (.c (.int .i64 7))),
m_ 13 0,
o_ 14 (.bin .quo (.t 13) (.c (.int .i64 7))),
o_ 15 (.build [.int .i64 0, .int .i64 0, .int .i64 0] [(0, 1, .t 12), (2, 1, .t 14)]),
⟨none, .store 3 (.t 2) (.t 15), none⟩,
o_ 3 (.mv (.c (.bool true)))] false)
.ret))),
[.cell true 3 2, .t 3]⟩
theorem ok315 : okFunc Go.Proofs.Tryz.prog 315 lf315 = true := by kernel_rfl
def lf316 : LFunc := ⟨2, 0,
(.seq
(.region [
o_ 0 (.mv (.c (.nils)))] false)
(.seq
(.region [
o_ 1 (.bsl 1 6 [.str ⟨#[]⟩] [(0, .c (.str ⟨#[112, 112]⟩)), (1, .c (.str ⟨#[112]⟩)), (2, .c (.str ⟨#[109, 112]⟩)), (3, .c (.str ⟨#[109, 102]⟩)), (4, .c (.str ⟨#[102]⟩)), (5, .c (.str ⟨#[102, 102]⟩))]),
m_ 0 1] false)
.ret)),
[.t 0]⟩
theorem ok316 : okFunc Go.Proofs.Tryz.prog 316 lf316 = true := by kernel_rfl
def lf317 : LFunc := ⟨26, 2,
(.seq
(.region [
o_ 2 (.box 3 (.t 0)),
o_ 3 (.box 3 (.t 1)),
o_ 4 (.mv (.c (.bool false)))] false)
(.seq
(.region [
o_ 7 (.load true 3 (.t 2)),
o_ 8 (.call false (.c (.fn 314 [] [])) [.t 7]),
o_ 9 (.load true 3 (.t 3)),
o_ 10 (.call false (.c (.fn 314 [] [])) [.t 9]),
m_ 5 8,
m_ 6 10] true)
(.seq
(.region [
m_ 11 5,
m_ 12 6,
o_ 13 (.bin .lss (.t 11) (.t 12)),
m_ 14 13,
g_ 15 (.mv (.t 5)) 14 false,
g_ 16 (.mv (.t 6)) 14 false,
g_ 17 (.bin .eql (.t 15) (.t 16)) 14 false,
g_ 18 (.mv (.t 17)) 14 false,
g_ 19 (.fadr 1 (.t 2)) 18 true,
g_ 20 (.load false 1 (.t 19)) 18 true,
g_ 21 (.fadr 1 (.t 3)) 18 true,
g_ 22 (.load false 1 (.t 21)) 18 true,
g_ 23 (.bin .lss (.t 20) (.t 22)) 18 true,
g_ 24 (.pick (.t 18) (.t 23) (.c (.bool false))) 14 false,
o_ 25 (.pick (.t 14) (.c (.bool true)) (.t 24)),
m_ 4 25] false)
.ret))),
[.t 4]⟩
theorem ok317 : okFunc Go.Proofs.Tryz.prog 317 lf317 = true := by kernel_rfl
def lf318 : LFunc := ⟨19, 2,
(.seq
(.region [
o_ 2 (.box 3 (.t 0)),
o_ 3 (.box 3 (.t 1)),
o_ 4 (.mv (.c (.int .i64 0)))] false)
(.seq
(.seq
(.region [
o_ 6 (.load true 3 (.t 2)),
o_ 7 (.call false (.c (.fn 16 [] [])) [.t 6]),
o_ 8 (.load true 3 (.t 3)),
o_ 9 (.call false (.c (.fn 16 [] [])) [.t 8]),
o_ 10 (.bin .sub (.t 7) (.t 9)),
m_ 5 10] true)
(.seq
(.region [
m_ 11 5,
o_ 12 (.bin .neq (.t 11) (.c (.int .i64 0)))] false)
(.cond (.t 12)
(.seq
(.region [
m_ 13 5,
m_ 4 13] false)
.ret)
.skip)))
(.seq
(.region [
o_ 14 (.fadr 1 (.t 2)),
o_ 15 (.load false 1 (.t 14)),
o_ 16 (.fadr 1 (.t 3)),
o_ 17 (.load false 1 (.t 16)),
o_ 18 (.bin .sub (.t 15) (.t 17)),
m_ 4 18] false)
.ret))),
[.t 4]⟩
theorem ok318 : okFunc Go.Proofs.Tryz.prog 318 lf318 = true := by kernel_rfl
def lf319 : LFunc := ⟨18, 1,
(.seq
(.region [
o_ 1 (.box 2 (.t 0)),
o_ 2 (.newv [.int .i64 0, .int .i64 0]),
o_ 3 (.mv (.c (.int .i64 0)))] false)
(.seq
(.seq
(.region [
o_ 5 (.load true 2 (.t 1)),
o_ 6 (.call false (.c (.fn 262 [] [])) [.t 5]),
o_ 7 (.call false (.c (.fn 189 [] [])) [.t 6]),
m_ 4 7] false)
(.seq
(.region [
m_ 8 4,
o_ 9 (.ifnil true (.t 8))] false)
(.cond (.t 9)
(.seq
(.region [
o_ 10 (.build [.int .i64 0, .int .i64 0] []),
m_ 11 4,
o_ 12 (.call false (.c (.fn 190 [] [])) [.t 11]),
⟨none, .store 2 (.t 2) (.t 10), none⟩,
m_ 3 12] false)
.ret)
.skip)))
(.seq
(.region [
o_ 13 (.load true 2 (.t 1)),
o_ 14 (.call false (.c (.fn 335 [] [])) [.t 13]),
o_ 15 (.call false (.c (.fn 191 [] [])) [.t 14, .c (.int .i64 1024)]),
o_ 16 (.extract (.t 15) 0),
o_ 17 (.extract (.t 15) 1),
⟨none, .store 2 (.t 2) (.t 16), none⟩,
m_ 3 17] false)
.ret))),
[.cell true 2 2, .t 3]⟩
theorem ok319 : okFunc Go.Proofs.Tryz.prog 319 lf319 = true := by kernel_rfl
def lf320 : LFunc := ⟨52, 2,
(.seq
(.region [
o_ 2 (.box 7 (.t 0)),
o_ 4 (.newv [.int .i64 0, .int .i64 0]),
o_ 5 (.mv (.c (.bool false)))] false)
(.seq
(.region [
o_ 13 (.call false (.c (.fn 239 [] [])) [.c (.int .i64 1)]),
o_ 6 (.newv [.int .i64 0, .int .i64 0]),
⟨none, .store 2 (.t 6) (.t 13), none⟩] false)
(.seq
(.seq
(.region [
m_ 14 1,
o_ 15 (.len .sli (.t 14)),
o_ 16 (.mv (.c (.int .i64 0)))] false)
(.block 0
(.loop
(.seq
(.region [
o_ 17 (.bin .lss (.t 16) (.t 15))] false)
(.seq
(.cond (.t 17)
.skip
(.exit 0))
(.seq
(.block 1
(.seq
(.region [
o_ 18 (.idxa 1 (.t 14) (.t 16)),
o_ 19 (.load false 1 (.t 18)),
m_ 8 19] false)
(.seq
(.region [
o_ 21 (.fadr 3 (.t 2)),
o_ 22 (.load false 1 (.t 21)),
m_ 23 8,
o_ 24 (.idxa 4 (.t 22) (.t 23)),
o_ 25 (.fadr 3 (.t 24)),
o_ 26 (.load false 1 (.t 25)),
o_ 27 (.fadr 3 (.t 2)),
o_ 28 (.load false 1 (.t 27)),
m_ 29 8,
o_ 30 (.idxa 4 (.t 28) (.t 29)),
o_ 31 (.fadr 2 (.t 30)),
o_ 32 (.load false 1 (.t 31)),
o_ 33 (.call false (.c (.fn 191 [] [])) [.t 26, .t 32]),
m_ 20 33,
o_ 34 (.extract (.t 20) 0),
o_ 35 (.extract (.t 20) 1),
o_ 9 (.newv [.int .i64 0, .int .i64 0]),
⟨none, .store 2 (.t 9) (.t 34), none⟩,
m_ 10 35] true)
(.seq
(.region [
o_ 37 (.load true 2 (.t 6)),
o_ 38 (.load true 2 (.t 9)),
o_ 39 (.call false (.c (.fn 321 [] [])) [.t 37, .t 38]),
m_ 36 39,
o_ 40 (.extract (.t 36) 0),
o_ 41 (.extract (.t 36) 1),
o_ 11 (.newv [.int .i64 0, .int .i64 0]),
⟨none, .store 2 (.t 11) (.t 40), none⟩,
m_ 12 41] false)
(.seq
(.seq
(.region [
m_ 42 10,
o_ 43 (.bin .neq (.t 42) (.c (.int .i64 0))),
m_ 44 43,
g_ 45 (.mv (.t 12)) 44 false,
g_ 46 (.bin .neq (.t 45) (.c (.int .i64 0))) 44 false,
o_ 47 (.pick (.t 44) (.c (.bool true)) (.t 46))] false)
(.cond (.t 47)
(.seq
(.region [
o_ 48 (.build [.int .i64 0, .int .i64 0] []),
⟨none, .store 2 (.t 4) (.t 48), none⟩,
o_ 5 (.mv (.c (.bool false)))] false)
.ret)
.skip))
(.region [
o_ 49 (.load true 2 (.t 11)),
⟨none, .store 2 (.t 6) (.t 49), none⟩] false))))))
(.region [
o_ 50 (.bin .add (.t 16) (.c (.int .i64 1))),
m_ 16 50] false)))))))
(.seq
(.region [
o_ 51 (.load true 2 (.t 6)),
⟨none, .store 2 (.t 4) (.t 51), none⟩,
o_ 5 (.mv (.c (.bool true)))] false)
.ret)))),
[.cell true 2 4, .t 5]⟩
theorem ok320 : okFunc Go.Proofs.Tryz.prog 320 lf320 = true := by kernel_rfl
def lf321 : LFunc := ⟨25, 2,
(.seq
(.region [
o_ 2 (.box 2 (.t 0)),
o_ 3 (.box 2 (.t 1)),
o_ 4 (.newv [.int .i64 0, .int .i64 0]),
o_ 5 (.mv (.c (.int .i64 0)))] false)
(.seq
(.seq
(.region [
o_ 6 (.load true 2 (.t 2)),
o_ 7 (.load true 2 (.t 3)),
o_ 8 (.call false (.c (.fn 175 [] [])) [.t 6, .t 7]),
o_ 9 (.not (.t 8))] false)
(.cond (.t 9)
(.seq
(.region [
o_ 10 (.call false (.c (.fn 192 [] [])) []),
⟨none, .store 2 (.t 4) (.t 10), none⟩,
o_ 5 (.mv (.c (.int .i64 2)))] false)
.ret)
.skip))
(.seq
(.seq
(.region [
o_ 11 (.fadr 0 (.t 2)),
o_ 12 (.load false 1 (.t 11)),
o_ 13 (.bin .eql (.t 12) (.c (.int .i64 0))),
m_ 14 13,
g_ 15 (.fadr 0 (.t 3)) 14 false,
g_ 16 (.load false 1 (.t 15)) 14 false,
g_ 17 (.bin .eql (.t 16) (.c (.int .i64 0))) 14 false,
o_ 18 (.pick (.t 14) (.c (.bool true)) (.t 17))] false)
(.cond (.t 18)
(.seq
(.region [
o_ 19 (.call false (.c (.fn 336 [] [])) [.c (.int .i64 0)]),
⟨none, .store 2 (.t 4) (.t 19), none⟩,
o_ 5 (.mv (.c (.int .i64 0)))] false)
.ret)
.skip))
(.seq
(.region [
o_ 20 (.load true 2 (.t 2)),
o_ 21 (.load true 2 (.t 3)),
o_ 22 (.call false (.c (.fn 337 [] [])) [.t 20, .t 21]),
o_ 23 (.extract (.t 22) 0),
o_ 24 (.extract (.t 22) 1),
⟨none, .store 2 (.t 4) (.t 23), none⟩,
m_ 5 24] false)
.ret)))),
[.cell true 2 4, .t 5]⟩
theorem ok321 : okFunc Go.Proofs.Tryz.prog 321 lf321 = true := by kernel_rfl
def lf322 : LFunc := ⟨9, 2,
(.seq
(.region [
o_ 4 (.mv (.c (.bool false)))] false)
(.seq
(.region [
m_ 5 0,
m_ 6 1,
o_ 7 (.call false (.c (.fn 338 [] [])) [.t 5, .t 6]),
o_ 8 (.bin .geq (.t 7) (.c (.int .i64 0))),
m_ 4 8] false)
.ret)),
[.t 4]⟩
theorem ok322 : okFunc Go.Proofs.Tryz.prog 322 lf322 = true := by kernel_rfl
def lf323 : LFunc := ⟨8, 2,
(.seq
(.region [
o_ 2 (.box 3 (.t 0)),
o_ 3 (.mv (.c (.bool false)))] false)
(.seq
(.region [
o_ 4 (.load false 1 (.t 1)),
o_ 5 (.load true 3 (.t 2)),
o_ 6 (.call false (.c (.fn 324 [] [])) [.t 4, .t 5]),
o_ 7 (.not (.t 6)),
m_ 3 7] false)
.ret)),
[.t 3]⟩
theorem ok323 : okFunc Go.Proofs.Tryz.prog 323 lf323 = true := by kernel_rfl
def lf324 : LFunc := ⟨9, 2,
(.seq
(.region [
o_ 3 (.box 3 (.t 1)),
o_ 4 (.mv (.c (.bool false)))] false)
(.seq
(.region [
m_ 5 0,
o_ 6 (.load true 3 (.t 3)),
o_ 7 (.call false (.c (.fn 339 [] [])) [.t 5, .t 6]),
o_ 8 (.bin .geq (.t 7) (.c (.int .i64 0))),
m_ 4 8] false)
.ret)),
[.t 4]⟩
theorem ok324 : okFunc Go.Proofs.Tryz.prog 324 lf324 = true := by kernel_rfl
def lf325 : LFunc := ⟨42, 2,
(.seq
(.region [
o_ 4 (.mv (.c (.bool false)))] false)
(.seq
(.seq
(.region [
m_ 8 0,
o_ 9 (.ifnil false (.t 8))] false)
(.cond (.t 9)
(.seq
(.region [
o_ 4 (.mv (.c (.bool false)))] false)
.ret)
.skip))
(.seq
(.seq
(.region [
m_ 10 1,
o_ 11 (.ifnil false (.t 10))] false)
(.cond (.t 11)
(.region [
o_ 12 (.bad),
⟨none, .bad, none⟩] false)
.skip))
(.seq
(.region [
m_ 13 1,
o_ 14 (.call false (.c (.fn 340 [] [])) [.t 13]),
o_ 5 (.bad),
⟨none, .bad, none⟩] false)
(.seq
(.region [
o_ 15 (.bad),
o_ 16 (.call false (.c (.fn 341 [] [])) [.t 15]),
m_ 6 16] false)
(.seq
(.seq
(.region [
m_ 17 6,
o_ 18 (.bad),
o_ 19 (.bin .neq (.t 18) (.c (.int .u8 22))),
m_ 20 19,
g_ 21 (.bad) 20 false,
g_ 22 (.call false (.c (.fn 342 [] [])) [.t 21]) 20 false,
o_ 23 (.pick (.t 20) (.c (.bool true)) (.t 22))] false)
(.cond (.t 23)
(.region [
o_ 24 (.bad),
⟨none, .bad, none⟩] false)
.skip))
(.seq
(.region [
m_ 25 6,
o_ 26 (.bad),
m_ 7 26] false)
(.seq
(.seq
(.region [
m_ 27 7,
o_ 28 (.bad),
o_ 29 (.bin .neq (.t 28) (.c (.int .u8 20))),
m_ 30 29,
g_ 31 (.mv (.t 7)) 30 true,
g_ 32 (.bad) 30 true,
g_ 33 (.bad) 30 true,
g_ 34 (.not (.t 33)) 30 true,
o_ 35 (.pick (.t 30) (.t 34) (.c (.bool false)))] false)
(.cond (.t 35)
(.region [
o_ 36 (.bad),
⟨none, .bad, none⟩] false)
.skip))
(.seq
(.region [
m_ 37 0,
m_ 38 1,
o_ 39 (.bad),
m_ 40 7,
o_ 41 (.call false (.c (.fn 343 [] [])) [.t 37, .t 38, .t 39, .t 40]),
m_ 4 41] false)
.ret))))))))),
[.t 4]⟩
theorem ok325 : okFunc Go.Proofs.Tryz.prog 325 lf325 = true := by kernel_rfl
def lf326 : LFunc := ⟨6, 1,
(.seq
(.region [
o_ 2 (.mv (.c (.int .i64 0)))] false)
(.seq
(.region [
m_ 3 0,
o_ 4 (.call false (.c (.fn 344 [] [])) [.t 3]),
o_ 5 (.bin .sub (.c (.int .i64 64)) (.t 4)),
m_ 2 5] false)
.ret)),
[.t 2]⟩
theorem ok326 : okFunc Go.Proofs.Tryz.prog 326 lf326 = true := by kernel_rfl
def lf327 : LFunc := ⟨77, 3,
(.seq
(.region [
o_ 6 (.mv (.c (.int .i64 0))),
o_ 7 (.mv (.c (.int .i64 0)))] false)
(.seq
(.region [
m_ 15 0,
o_ 16 (.bin .lss (.t 15) (.c (.int .i64 0))),
m_ 17 1,
o_ 18 (.bin .lss (.t 17) (.c (.int .i64 0))),
o_ 19 (.eq true (.sc .b) (.t 16) (.t 18)),
m_ 8 19] false)
(.seq
(.seq
(.region [
m_ 20 2,
o_ 21 (.bin .lss (.t 20) (.c (.int .i64 0)))] false)
(.cond (.t 21)
(.region [
m_ 22 8,
o_ 23 (.not (.t 22)),
m_ 8 23] false)
.skip))
(.seq
(.region [
m_ 24 0,
o_ 25 (.call false (.c (.fn 345 [] [])) [.t 24]),
m_ 26 1,
o_ 27 (.call false (.c (.fn 345 [] [])) [.t 26]),
m_ 28 2,
o_ 29 (.call false (.c (.fn 345 [] [])) [.t 28]),
m_ 9 25,
m_ 10 27,
m_ 11 29] false)
(.seq
(.region [
o_ 12 (.mv (.c (.int .i64 0))),
o_ 13 (.mv (.c (.int .i64 0)))] false)
(.seq
(.seq
(.region [
o_ 14 (.mv (.c (.int .i64 40)))] false)
(.block 0
(.loop
(.seq
(.seq
(.region [
m_ 30 14,
o_ 31 (.bin .geq (.t 30) (.c (.int .i64 0)))] false)
(.cond (.t 31)
.skip
(.exit 0)))
(.seq
(.block 1
(.seq
(.region [
m_ 34 12,
o_ 35 (.bin .mul (.c (.int .i64 2)) (.t 34)),
m_ 36 13,
o_ 37 (.bin .mul (.c (.int .i64 2)) (.t 36)),
m_ 12 35,
m_ 13 37] false)
(.seq
(.seq
(.region [
m_ 38 10,
m_ 39 14,
o_ 40 (.conv .u64 (.t 39)),
o_ 41 (.bin .shr (.t 38) (.t 40)),
o_ 42 (.bin .rem (.t 41) (.c (.int .i64 2))),
o_ 43 (.bin .eql (.t 42) (.c (.int .i64 1)))] false)
(.cond (.t 43)
(.region [
m_ 44 12,
m_ 45 9,
m_ 46 11,
o_ 47 (.bin .quo (.t 45) (.t 46)),
o_ 48 (.bin .add (.t 44) (.t 47)),
m_ 49 13,
m_ 50 9,
m_ 51 11,
o_ 52 (.bin .rem (.t 50) (.t 51)),
o_ 53 (.bin .add (.t 49) (.t 52)),
m_ 12 48,
m_ 13 53] true)
.skip))
(.seq
(.block 2
(.loop
(.seq
(.seq
(.region [
m_ 54 13,
m_ 55 11,
o_ 56 (.bin .geq (.t 54) (.t 55))] false)
(.cond (.t 56)
.skip
(.exit 2)))
(.block 3
(.seq
(.region [
m_ 57 12,
o_ 58 (.bin .add (.t 57) (.c (.int .i64 1))),
m_ 12 58] false)
(.region [
m_ 59 13,
m_ 60 11,
o_ 61 (.bin .sub (.t 59) (.t 60)),
m_ 13 61] false))))))
(.seq
(.region [
m_ 62 12,
o_ 63 (.bin .gtr (.t 62) (.c (.int .i64 1099511627776)))] false)
(.cond (.t 63)
(.seq
(.region [
o_ 6 (.mv (.c (.int .i64 0))),
o_ 7 (.mv (.c (.int .i64 3)))] false)
.ret)
.skip))))))
(.region [
m_ 32 14,
o_ 33 (.bin .sub (.t 32) (.c (.int .i64 1))),
m_ 14 33] false))))))
(.seq
(.seq
(.region [
m_ 64 13,
m_ 65 11,
m_ 66 13,
o_ 67 (.bin .sub (.t 65) (.t 66)),
o_ 68 (.bin .geq (.t 64) (.t 67))] false)
(.cond (.t 68)
(.region [
m_ 69 12,
o_ 70 (.bin .add (.t 69) (.c (.int .i64 1))),
m_ 12 70] false)
.skip))
(.seq
(.seq
(.region [
m_ 71 12,
o_ 72 (.bin .gtr (.t 71) (.c (.int .i64 1099511627776)))] false)
(.cond (.t 72)
(.seq
(.region [
o_ 6 (.mv (.c (.int .i64 0))),
o_ 7 (.mv (.c (.int .i64 3)))] false)
.ret)
.skip))
(.seq
(.seq
(.region [
m_ 73 8] false)
(.cond (.t 73)
(.seq
(.region [
m_ 74 12,
o_ 75 (.bin .sub (.c (.int .i64 0)) (.t 74)),
m_ 6 75,
o_ 7 (.mv (.c (.int .i64 0)))] false)
.ret)
.skip))
(.seq
(.region [
m_ 76 12,
m_ 6 76,
o_ 7 (.mv (.c (.int .i64 0)))] false)
.ret)))))))))),
[.t 6, .t 7]⟩
theorem ok327 : okFunc Go.Proofs.Tryz.prog 327 lf327 = true := by kernel_rfl
def lf328 : LFunc := ⟨35, 1,
(.seq
(.region [
o_ 2 (.newv [.int .i64 0, .int .i64 0, .int .i64 0])] false)
(.seq
(.region [
m_ 6 0,
o_ 7 (.call false (.c (.fn 39 [] [])) [.t 6]),
o_ 8 (.field false 1 1 (.t 7)),
o_ 9 (.call false (.c (.fn 304 [] [])) [.t 8]),
m_ 5 9,
o_ 10 (.extract (.t 5) 0),
o_ 11 (.extract (.t 5) 1),
o_ 3 (.newv [.int .i64 0, .int .i64 0, .int .i64 0]),
⟨none, .store 3 (.t 3) (.t 10), none⟩,
m_ 4 11] false)
(.seq
(.seq
(.region [
m_ 12 0,
o_ 13 (.call false (.c (.fn 38 [] [])) [.t 12]),
m_ 14 13,
g_ 15 (.mv (.t 0)) 14 false,
g_ 16 (.call false (.c (.fn 39 [] [])) [.t 15]) 14 false,
g_ 17 (.field false 0 1 (.t 16)) 14 false,
g_ 18 (.bin .neq (.t 17) (.c (.int .i64 1))) 14 false,
o_ 19 (.pick (.t 14) (.c (.bool true)) (.t 18)),
m_ 20 19,
g_ 21 (.mv (.t 4)) 20 false,
g_ 22 (.not (.t 21)) 20 false,
o_ 23 (.pick (.t 20) (.c (.bool true)) (.t 22))] false)
(.cond (.t 23)
(.seq
(.region [
m_ 24 0,
o_ 25 (.call false (.c (.fn 35 [] [])) [.t 24])] false)
(.seq
(.region [
o_ 26 (.build [.int .i64 0, .int .i64 0, .int .i64 0] []),
⟨none, .store 3 (.t 2) (.t 26), none⟩] false)
.ret))
.skip))
(.seq
(.region [
m_ 27 0,
o_ 28 (.nilck (.t 27)),
o_ 29 (.fadr 1 (.t 28)),
o_ 30 (.load false 1 (.t 29)),
o_ 31 (.bin .add (.t 30) (.c (.int .i64 1))),
o_ 32 (.nilck (.t 27)),
o_ 33 (.fadr 1 (.t 32)),
⟨none, .store 1 (.t 33) (.t 31), none⟩] false)
(.seq
(.region [
o_ 34 (.load true 3 (.t 3)),
⟨none, .store 3 (.t 2) (.t 34), none⟩] false)
.ret))))),
[.cell true 3 2]⟩
theorem ok328 : okFunc Go.Proofs.Tryz.prog 328 lf328 = true := by kernel_rfl
def lf329 : LFunc := ⟨42, 2,
(.seq
(.region [
o_ 4 (.mv (.c (.str ⟨#[]⟩)))] false)
(.seq
(.seq
(.region [
m_ 5 0,
o_ 6 (.call false (.c (.fn 38 [] [])) [.t 5]),
m_ 7 6,
g_ 8 (.mv (.t 0)) 7 false,
g_ 9 (.call false (.c (.fn 39 [] [])) [.t 8]) 7 false,
g_ 10 (.field false 0 1 (.t 9)) 7 false,
g_ 11 (.bin .neq (.t 10) (.c (.int .i64 1))) 7 false,
o_ 12 (.pick (.t 7) (.c (.bool true)) (.t 11)),
m_ 13 12,
g_ 14 (.mv (.t 1)) 13 false,
g_ 15 (.mv (.t 0)) 13 false,
g_ 16 (.call false (.c (.fn 39 [] [])) [.t 15]) 13 false,
g_ 17 (.field false 1 1 (.t 16)) 13 false,
g_ 18 (.call false (.c (.fn 274 [] [])) [.t 14, .t 17]) 13 false,
g_ 19 (.not (.t 18)) 13 false,
o_ 20 (.pick (.t 13) (.c (.bool true)) (.t 19))] false)
(.cond (.t 20)
(.seq
(.region [
m_ 21 0,
o_ 22 (.call false (.c (.fn 35 [] [])) [.t 21])] false)
(.seq
(.region [
o_ 4 (.mv (.c (.str ⟨#[]⟩)))] false)
.ret))
.skip))
(.seq
(.region [
m_ 23 0,
o_ 24 (.nilck (.t 23)),
o_ 25 (.fadr 1 (.t 24)),
o_ 26 (.load false 1 (.t 25)),
o_ 27 (.bin .add (.t 26) (.c (.int .i64 1))),
o_ 28 (.nilck (.t 23)),
o_ 29 (.fadr 1 (.t 28)),
⟨none, .store 1 (.t 29) (.t 27), none⟩] false)
(.seq
(.region [
m_ 30 0,
o_ 31 (.nilck (.t 30)),
o_ 32 (.fadr 0 (.t 31)),
o_ 33 (.load false 1 (.t 32)),
m_ 34 0,
o_ 35 (.nilck (.t 34)),
o_ 36 (.fadr 1 (.t 35)),
o_ 37 (.load false 1 (.t 36)),
o_ 38 (.bin .sub (.t 37) (.c (.int .i64 1))),
o_ 39 (.idxa 3 (.t 33) (.t 38)),
o_ 40 (.fadr 1 (.t 39)),
o_ 41 (.load false 1 (.t 40)),
m_ 4 41] true)
.ret)))),
[.t 4]⟩
theorem ok329 : okFunc Go.Proofs.Tryz.prog 329 lf329 = true := by kernel_rfl
def lf330 : LFunc := ⟨25, 1,
(.seq
(.region [
o_ 2 (.newv [.int .i64 0, .int .i64 0]),
o_ 3 (.mv (.c (.bool false)))] false)
(.seq
(.region [
o_ 6 (.call false (.c (.fn 346 [] [])) []),
m_ 4 6] false)
(.seq
(.seq
(.region [
o_ 5 (.mv (.c (.int .i64 0)))] false)
(.block 0
(.loop
(.seq
(.seq
(.region [
m_ 7 5,
m_ 8 4,
o_ 9 (.len .sli (.t 8)),
o_ 10 (.bin .lss (.t 7) (.t 9))] false)
(.cond (.t 10)
.skip
(.exit 0)))
(.seq
(.block 1
(.seq
(.region [
m_ 13 4,
m_ 14 5,
o_ 15 (.idxa 2 (.t 13) (.t 14)),
o_ 16 (.load true 2 (.t 15)),
o_ 17 (.call false (.c (.fn 347 [] [])) [.t 16]),
m_ 18 0,
o_ 19 (.bin .eql (.t 17) (.t 18))] false)
(.cond (.t 19)
(.seq
(.region [
m_ 20 4,
m_ 21 5,
o_ 22 (.idxa 2 (.t 20) (.t 21)),
o_ 23 (.load true 2 (.t 22)),
⟨none, .store 2 (.t 2) (.t 23), none⟩,
o_ 3 (.mv (.c (.bool true)))] false)
.ret)
.skip)))
(.region [
m_ 11 5,
o_ 12 (.bin .add (.t 11) (.c (.int .i64 1))),
m_ 5 12] false))))))
(.seq
(.region [
o_ 24 (.build [.int .i64 0, .int .i64 0] []),
⟨none, .store 2 (.t 2) (.t 24), none⟩,
o_ 3 (.mv (.c (.bool false)))] false)
.ret)))),
[.cell true 2 2, .t 3]⟩
theorem ok330 : okFunc Go.Proofs.Tryz.prog 330 lf330 = true := by kernel_rfl
def lf331 : LFunc := ⟨50, 2,
(.seq
(.region [
o_ 4 (.mv (.c (.int .i64 0)))] false)
(.seq
(.seq
(.region [
m_ 5 0,
o_ 6 (.call false (.c (.fn 38 [] [])) [.t 5]),
m_ 7 6,
g_ 8 (.mv (.t 0)) 7 false,
g_ 9 (.call false (.c (.fn 39 [] [])) [.t 8]) 7 false,
g_ 10 (.field false 0 1 (.t 9)) 7 false,
g_ 11 (.bin .neq (.t 10) (.c (.int .i64 2))) 7 false,
o_ 12 (.pick (.t 7) (.c (.bool true)) (.t 11)),
m_ 13 12,
g_ 14 (.mv (.t 0)) 13 false,
g_ 15 (.call false (.c (.fn 39 [] [])) [.t 14]) 13 false,
g_ 16 (.field false 1 1 (.t 15)) 13 false,
g_ 17 (.call false (.c (.fn 348 [] [])) [.t 16]) 13 false,
g_ 18 (.bin .lss (.t 17) (.c (.int .i64 1))) 13 false,
o_ 19 (.pick (.t 13) (.c (.bool true)) (.t 18)),
m_ 20 19,
g_ 21 (.mv (.t 0)) 20 false,
g_ 22 (.call false (.c (.fn 39 [] [])) [.t 21]) 20 false,
g_ 23 (.field false 1 1 (.t 22)) 20 false,
g_ 24 (.call false (.c (.fn 348 [] [])) [.t 23]) 20 false,
g_ 25 (.mv (.t 1)) 20 false,
g_ 26 (.bin .gtr (.t 24) (.t 25)) 20 false,
o_ 27 (.pick (.t 20) (.c (.bool true)) (.t 26))] false)
(.cond (.t 27)
(.seq
(.region [
m_ 28 0,
o_ 29 (.call false (.c (.fn 35 [] [])) [.t 28])] false)
(.seq
(.region [
o_ 4 (.mv (.c (.int .i64 0)))] false)
.ret))
.skip))
(.seq
(.region [
m_ 30 0,
o_ 31 (.nilck (.t 30)),
o_ 32 (.fadr 1 (.t 31)),
o_ 33 (.load false 1 (.t 32)),
o_ 34 (.bin .add (.t 33) (.c (.int .i64 1))),
o_ 35 (.nilck (.t 30)),
o_ 36 (.fadr 1 (.t 35)),
⟨none, .store 1 (.t 36) (.t 34), none⟩] false)
(.seq
(.region [
m_ 37 0,
o_ 38 (.nilck (.t 37)),
o_ 39 (.fadr 0 (.t 38)),
o_ 40 (.load false 1 (.t 39)),
m_ 41 0,
o_ 42 (.nilck (.t 41)),
o_ 43 (.fadr 1 (.t 42)),
o_ 44 (.load false 1 (.t 43)),
o_ 45 (.bin .sub (.t 44) (.c (.int .i64 1))),
o_ 46 (.idxa 3 (.t 40) (.t 45)),
o_ 47 (.fadr 1 (.t 46)),
o_ 48 (.load false 1 (.t 47)),
o_ 49 (.call false (.c (.fn 348 [] [])) [.t 48]),
m_ 4 49] true)
.ret)))),
[.t 4]⟩
theorem ok331 : okFunc Go.Proofs.Tryz.prog 331 lf331 = true := by kernel_rfl
def lf332 : LFunc := ⟨34, 2,
(.seq
(.region [
o_ 3 (.box 14 (.t 1)),
o_ 4 (.newv [.int .i64 0, .int .i64 0, .nils, .bool false, .int .i64 0, .int .i64 0, .bool false, .int .i64 0, .int .i64 0, .str ⟨#[]⟩, .int .i64 0, .int .i64 0, .str ⟨#[]⟩, .nils])] false)
(.seq
(.region [
m_ 5 0,
o_ 6 (.call false (.c (.fn 331 [] [])) [.t 5, .c (.int .i64 32)]),
o_ 7 (.fadr 10 (.t 3)),
⟨none, .store 1 (.t 7) (.t 6), none⟩] false)
(.seq
(.region [
m_ 8 0,
o_ 9 (.call false (.c (.fn 142 [] [])) [.t 8, .c (.str ⟨#[47]⟩)])] false)
(.seq
(.seq
(.region [
m_ 10 0,
o_ 11 (.call false (.c (.fn 38 [] [])) [.t 10]),
o_ 12 (.not (.t 11)),
m_ 13 12,
g_ 14 (.mv (.t 0)) 13 true,
g_ 15 (.call false (.c (.fn 39 [] [])) [.t 14]) 13 true,
g_ 16 (.field false 0 1 (.t 15)) 13 true,
g_ 17 (.bin .eql (.t 16) (.c (.int .i64 2))) 13 true,
o_ 18 (.pick (.t 13) (.t 17) (.c (.bool false))),
m_ 19 18,
g_ 20 (.mv (.t 0)) 19 true,
g_ 21 (.call false (.c (.fn 39 [] [])) [.t 20]) 19 true,
g_ 22 (.field false 1 1 (.t 21)) 19 true,
g_ 23 (.call false (.c (.fn 348 [] [])) [.t 22]) 19 true,
g_ 24 (.build [.int .i64 0, .int .i64 0] [(0, 1, .c (.int .i64 1)), (1, 1, .t 23)]) 19 true,
g_ 25 (.call false (.c (.fn 168 [] [])) [.t 24]) 19 true,
g_ 26 (.not (.t 25)) 19 true,
o_ 27 (.pick (.t 19) (.t 26) (.c (.bool false)))] false)
(.cond (.t 27)
(.region [
m_ 28 0,
o_ 29 (.call false (.c (.fn 35 [] [])) [.t 28])] false)
.skip))
(.seq
(.region [
m_ 30 0,
o_ 31 (.call false (.c (.fn 331 [] [])) [.t 30, .c (.int .i64 32)]),
o_ 32 (.fadr 11 (.t 3)),
⟨none, .store 1 (.t 32) (.t 31), none⟩] false)
(.seq
(.region [
o_ 33 (.load true 14 (.t 3)),
⟨none, .store 14 (.t 4) (.t 33), none⟩] false)
.ret)))))),
[.cell true 14 4]⟩
theorem ok332 : okFunc Go.Proofs.Tryz.prog 332 lf332 = true := by kernel_rfl
def lf335 : LFunc := ⟨21, 1,
(.seq
(.region [
o_ 1 (.box 2 (.t 0)),
o_ 2 (.mv (.c (.int .i64 0)))] false)
(.seq
(.region [
o_ 5 (.fadr 0 (.t 1)),
o_ 6 (.load false 1 (.t 5)),
o_ 7 (.bin .sub (.t 6) (.c (.int .i64 (-1)))),
o_ 8 (.bin .shr (.c (.int .i64 2048)) (.t 7)),
m_ 3 8] false)
(.seq
(.region [
m_ 9 3,
m_ 4 9] false)
(.seq
(.seq
(.region [
o_ 10 (.fadr 1 (.t 1)),
o_ 11 (.load false 1 (.t 10)),
o_ 12 (.mv (.c (.int .i64 0)))] false)
(.block 0
(.loop
(.seq
(.region [
o_ 13 (.bin .lss (.t 12) (.t 11))] false)
(.seq
(.cond (.t 13)
.skip
(.exit 0))
(.seq
(.block 1
(.seq
(.region [
m_ 14 3,
o_ 15 (.bin .quo (.t 14) (.c (.int .i64 2))),
m_ 3 15] false)
(.region [
m_ 16 4,
m_ 17 3,
o_ 18 (.bin .add (.t 16) (.t 17)),
m_ 4 18] false)))
(.region [
o_ 19 (.bin .add (.t 12) (.c (.int .i64 1))),
m_ 12 19] false)))))))
(.seq
(.region [
m_ 20 4,
m_ 2 20] false)
.ret))))),
[.t 2]⟩
theorem ok335 : okFunc Go.Proofs.Tryz.prog 335 lf335 = true := by kernel_rfl
def lf336 : LFunc := ⟨5, 1,
(.seq
(.region [
o_ 2 (.newv [.int .i64 0, .int .i64 0])] false)
(.seq
(.region [
m_ 3 0,
o_ 4 (.build [.int .i64 0, .int .i64 0] [(0, 1, .t 3), (1, 1, .c (.int .i64 1))]),
⟨none, .store 2 (.t 2) (.t 4), none⟩] false)
.ret)),
[.cell true 2 2]⟩
theorem ok336 : okFunc Go.Proofs.Tryz.prog 336 lf336 = true := by kernel_rfl
def lf337 : LFunc := ⟨66, 2,
(.seq
(.region [
o_ 2 (.box 2 (.t 0)),
o_ 3 (.box 2 (.t 1)),
o_ 4 (.newv [.int .i64 0, .int .i64 0]),
o_ 5 (.mv (.c (.int .i64 0)))] false)
(.seq
(.region [
o_ 12 (.fadr 0 (.t 2)),
o_ 13 (.load false 1 (.t 12)),
o_ 14 (.call false (.c (.fn 182 [] [])) [.t 13]),
o_ 15 (.fadr 1 (.t 3)),
o_ 16 (.load false 1 (.t 15)),
o_ 17 (.call false (.c (.fn 181 [] [])) [.t 14, .t 16]),
o_ 18 (.fadr 0 (.t 3)),
o_ 19 (.load false 1 (.t 18)),
o_ 20 (.call false (.c (.fn 182 [] [])) [.t 19]),
o_ 21 (.fadr 1 (.t 2)),
o_ 22 (.load false 1 (.t 21)),
o_ 23 (.call false (.c (.fn 181 [] [])) [.t 20, .t 22]),
m_ 6 17,
m_ 7 23] true)
(.seq
(.region [
o_ 24 (.fadr 0 (.t 2)),
o_ 25 (.load false 1 (.t 24)),
m_ 26 6,
o_ 27 (.bin .quo (.t 25) (.t 26)),
o_ 28 (.fadr 0 (.t 3)),
o_ 29 (.load false 1 (.t 28)),
m_ 30 7,
o_ 31 (.bin .quo (.t 29) (.t 30)),
m_ 8 27,
m_ 9 31] true)
(.seq
(.region [
o_ 32 (.fadr 1 (.t 2)),
o_ 33 (.load false 1 (.t 32)),
m_ 34 7,
o_ 35 (.bin .quo (.t 33) (.t 34)),
o_ 36 (.fadr 1 (.t 3)),
o_ 37 (.load false 1 (.t 36)),
m_ 38 6,
o_ 39 (.bin .quo (.t 37) (.t 38)),
m_ 10 35,
m_ 11 39] true)
(.seq
(.seq
(.region [
m_ 40 9,
o_ 41 (.bin .neq (.t 40) (.c (.int .i64 0))),
m_ 42 41,
g_ 43 (.mv (.t 8)) 42 true,
g_ 44 (.call false (.c (.fn 182 [] [])) [.t 43]) 42 true,
g_ 45 (.mv (.t 9)) 42 true,
g_ 46 (.call false (.c (.fn 182 [] [])) [.t 45]) 42 true,
g_ 47 (.bin .quo (.c (.int .i64 1099511627776)) (.t 46)) 42 true,
g_ 48 (.bin .gtr (.t 44) (.t 47)) 42 true,
o_ 49 (.pick (.t 42) (.t 48) (.c (.bool false))),
m_ 50 49,
g_ 51 (.mv (.t 10)) 50 false,
g_ 52 (.mv (.t 11)) 50 false,
g_ 53 (.bin .quo (.c (.int .i64 1048576)) (.t 52)) 50 false,
g_ 54 (.bin .gtr (.t 51) (.t 53)) 50 false,
o_ 55 (.pick (.t 50) (.c (.bool true)) (.t 54))] false)
(.cond (.t 55)
(.seq
(.region [
o_ 56 (.call false (.c (.fn 192 [] [])) []),
⟨none, .store 2 (.t 4) (.t 56), none⟩,
o_ 5 (.mv (.c (.int .i64 3)))] false)
.ret)
.skip))
(.seq
(.region [
m_ 57 8,
m_ 58 9,
o_ 59 (.bin .mul (.t 57) (.t 58)),
m_ 60 10,
m_ 61 11,
o_ 62 (.bin .mul (.t 60) (.t 61)),
o_ 63 (.call false (.c (.fn 246 [] [])) [.t 59, .t 62]),
o_ 64 (.extract (.t 63) 0),
o_ 65 (.extract (.t 63) 1),
⟨none, .store 2 (.t 4) (.t 64), none⟩,
m_ 5 65] false)
.ret)))))),
[.cell true 2 4, .t 5]⟩
theorem ok337 : okFunc Go.Proofs.Tryz.prog 337 lf337 = true := by kernel_rfl
def lf338 : LFunc := ⟨19, 2,
(.seq
(.region [
o_ 4 (.mv (.c (.int .i64 0)))] false)
(.seq
(.seq
(.region [
m_ 6 0,
o_ 7 (.len .sli (.t 6)),
o_ 8 (.mv (.c (.int .i64 0)))] false)
(.block 0
(.loop
(.seq
(.region [
o_ 9 (.bin .lss (.t 8) (.t 7))] false)
(.seq
(.cond (.t 9)
.skip
(.exit 0))
(.seq
(.block 1
(.seq
(.region [
m_ 10 8,
m_ 5 10] false)
(.seq
(.region [
m_ 11 1,
m_ 12 0,
m_ 13 5,
o_ 14 (.idxa 3 (.t 12) (.t 13)),
o_ 15 (.load true 3 (.t 14)),
o_ 16 (.call false (.t 11) [.t 15])] false)
(.cond (.t 16)
(.seq
(.region [
m_ 17 5,
m_ 4 17] false)
.ret)
.skip))))
(.region [
o_ 18 (.bin .add (.t 8) (.c (.int .i64 1))),
m_ 8 18] false)))))))
(.seq
(.region [
o_ 4 (.mv (.c (.int .i64 (-1))))] false)
.ret))),
[.t 4]⟩
theorem ok338 : okFunc Go.Proofs.Tryz.prog 338 lf338 = true := by kernel_rfl
def lf339 : LFunc := ⟨19, 2,
(.seq
(.region [
o_ 3 (.box 3 (.t 1)),
o_ 4 (.mv (.c (.int .i64 0)))] false)
(.seq
(.seq
(.region [
m_ 6 0,
o_ 7 (.len .sli (.t 6)),
o_ 8 (.mv (.c (.int .i64 0)))] false)
(.block 0
(.loop
(.seq
(.region [
o_ 9 (.bin .lss (.t 8) (.t 7))] false)
(.seq
(.cond (.t 9)
.skip
(.exit 0))
(.seq
(.block 1
(.seq
(.region [
m_ 10 8,
m_ 5 10] false)
(.seq
(.region [
o_ 11 (.load true 3 (.t 3)),
m_ 12 0,
m_ 13 5,
o_ 14 (.idxa 3 (.t 12) (.t 13)),
o_ 15 (.load true 3 (.t 14)),
o_ 16 (.eq false (.ag [.i, .i, .i]) (.t 11) (.t 15))] true)
(.cond (.t 16)
(.seq
(.region [
m_ 17 5,
m_ 4 17] false)
.ret)
.skip))))
(.region [
o_ 18 (.bin .add (.t 8) (.c (.int .i64 1))),
m_ 8 18] false)))))))
(.seq
(.region [
o_ 4 (.mv (.c (.int .i64 (-1))))] false)
.ret))),
[.t 4]⟩
theorem ok339 : okFunc Go.Proofs.Tryz.prog 339 lf339 = true := by kernel_rfl
def lf343 : LFunc := ⟨62, 4,
(.seq
(.region [
o_ 6 (.bad),
o_ 8 (.mv (.c (.bool false)))] false)
(.block 0
(.loop
(.block 1
(.seq
(.seq
(.region [
m_ 16 0,
o_ 17 (.call false (.c (.fn 295 [] [])) [.t 16]),
m_ 18 3,
o_ 19 (.bad)] false)
(.cond (.t 19)
(.seq
(.region [
o_ 20 (.bad),
o_ 21 (.call false (.c (.fn 349 [] [])) [.t 20]),
m_ 22 0,
o_ 23 (.call false (.c (.fn 340 [] [])) [.t 22]),
o_ 24 (.call false (.c (.fn 350 [] [])) [.t 21, .t 23])] false)
(.seq
(.region [
o_ 8 (.mv (.c (.bool true)))] false)
.ret))
.skip))
(.seq
(.seq
(.region [
m_ 26 0,
o_ 27 (.bad),
m_ 25 27,
o_ 28 (.extract (.t 25) 0),
o_ 29 (.extract (.t 25) 1),
m_ 9 28,
m_ 10 29] false)
(.seq
(.region [
m_ 30 10,
m_ 31 30,
g_ 32 (.mv (.t 9)) 31 true,
g_ 33 (.mv (.t 1)) 31 true,
g_ 34 (.bad) 31 true,
o_ 35 (.pick (.t 31) (.t 34) (.c (.bool false)))] false)
(.cond (.t 35)
(.seq
(.region [
o_ 8 (.mv (.c (.bool true)))] false)
.ret)
.skip)))
(.seq
(.region [
m_ 36 0] false)
(.block 2
(.seq
(.region [
o_ 37 (.bad),
o_ 38 (.extract (.t 37) 1),
o_ 39 (.extract (.t 37) 0)] false)
(.cond (.t 38)
(.seq
(.region [
m_ 11 39] false)
(.seq
(.region [
m_ 40 11,
o_ 41 (.bad),
m_ 0 41] false)
(.seq
(.region [
m_ 42 0,
o_ 43 (.ifnil false (.t 42))] false)
(.cond (.t 43)
(.seq
(.region [
o_ 8 (.mv (.c (.bool false)))] false)
.ret)
.skip))))
(.seq
(.region [
o_ 44 (.bad),
o_ 45 (.extract (.t 44) 1),
o_ 46 (.extract (.t 44) 0)] false)
(.cond (.t 45)
(.seq
(.region [
m_ 12 46] false)
(.seq
(.seq
(.region [
m_ 47 12,
o_ 48 (.bad),
o_ 49 (.len .sli (.t 48)),
o_ 50 (.mv (.c (.int .i64 0)))] false)
(.block 3
(.loop
(.seq
(.region [
o_ 51 (.bin .lss (.t 50) (.t 49))] false)
(.seq
(.cond (.t 51)
.skip
(.exit 3))
(.seq
(.block 4
(.seq
(.region [
o_ 52 (.idxa 1 (.t 48) (.t 50)),
o_ 53 (.load false 1 (.t 52)),
m_ 14 53] false)
(.seq
(.seq
(.region [
m_ 54 14,
o_ 55 (.ifnil false (.t 54))] false)
(.cond (.t 55)
(.exit 4)
.skip))
(.seq
(.region [
m_ 56 14,
m_ 57 1,
o_ 58 (.bad),
m_ 59 3,
o_ 60 (.call false (.c (.fn 343 [] [])) [.t 56, .t 57, .t 58, .t 59])] false)
(.cond (.t 60)
(.seq
(.region [
o_ 8 (.mv (.c (.bool true)))] false)
.ret)
.skip)))))
(.region [
o_ 61 (.bin .add (.t 50) (.c (.int .i64 1))),
m_ 50 61] false)))))))
(.seq
(.region [
o_ 8 (.mv (.c (.bool false)))] false)
.ret)))
(.seq
(.region [
m_ 15 36] false)
(.seq
(.region [
o_ 8 (.mv (.c (.bool false)))] false)
.ret)))))))))))))),
[.t 8]⟩
theorem ok343 : okFunc Go.Proofs.Tryz.prog 343 lf343 = true := by kernel_rfl
def lf344 : LFunc := ⟨25, 1,
(.seq
(.region [
o_ 2 (.mv (.c (.int .i64 0)))] false)
(.seq
(.seq
(.region [
m_ 3 0,
o_ 4 (.bin .geq (.t 3) (.c (.int .u64 4294967296)))] false)
(.cond (.t 4)
(.seq
(.region [
m_ 5 0,
o_ 6 (.bin .shr (.t 5) (.c (.int .u64 32))),
m_ 0 6] false)
(.region [
o_ 2 (.mv (.c (.int .i64 32)))] false))
.skip))
(.seq
(.seq
(.region [
m_ 7 0,
o_ 8 (.bin .geq (.t 7) (.c (.int .u64 65536)))] false)
(.cond (.t 8)
(.seq
(.region [
m_ 9 0,
o_ 10 (.bin .shr (.t 9) (.c (.int .u64 16))),
m_ 0 10] false)
(.region [
m_ 11 2,
o_ 12 (.bin .add (.t 11) (.c (.int .i64 16))),
m_ 2 12] false))
.skip))
(.seq
(.seq
(.region [
m_ 13 0,
o_ 14 (.bin .geq (.t 13) (.c (.int .u64 256)))] false)
(.cond (.t 14)
(.seq
(.region [
m_ 15 0,
o_ 16 (.bin .shr (.t 15) (.c (.int .u64 8))),
m_ 0 16] false)
(.region [
m_ 17 2,
o_ 18 (.bin .add (.t 17) (.c (.int .i64 8))),
m_ 2 18] false))
.skip))
(.seq
(.region [
m_ 19 2,
m_ 20 0,
o_ 21 (.conv .u8 (.t 20)),
o_ 22 (.idxs (.c (.str ⟨#[0, 1, 2, 2, 3, 3, 3, 3, 4, 4, 4, 4, 4, 4, 4, 4, 5, 5, 5, 5, 5, 5, 5, 5, 5, 5, 5, 5, 5, 5, 5, 5, 6, 6, 6, 6, 6, 6, 6, 6, 6, 6, 6, 6, 6, 6, 6, 6, 6, 6, 6, 6, 6, 6, 6, 6, 6, 6, 6, 6, 6, 6, 6, 6, 7, 7, 7, 7, 7, 7, 7, 7, 7, 7, 7, 7, 7, 7, 7, 7, 7, 7, 7, 7, 7, 7, 7, 7, 7, 7, 7, 7, 7, 7, 7, 7, 7, 7, 7, 7, 7, 7, 7, 7, 7, 7, 7, 7, 7, 7, 7, 7, 7, 7, 7, 7, 7, 7, 7, 7, 7, 7, 7, 7, 7, 7, 7, 7, 8, 8, 8, 8, 8, 8, 8, 8, 8, 8, 8, 8, 8, 8, 8, 8, 8, 8, 8, 8, 8, 8, 8, 8, 8, 8, 8, 8, 8, 8, 8, 8, 8, 8, 8, 8, 8, 8, 8, 8, 8, 8, 8, 8, 8, 8, 8, 8, 8, 8, 8, 8, 8, 8, 8, 8, 8, 8, 8, 8, 8, 8, 8, 8, 8, 8, 8, 8, 8, 8, 8, 8, 8, 8, 8, 8, 8, 8, 8, 8, 8, 8, 8, 8, 8, 8, 8, 8, 8, 8, 8, 8, 8, 8, 8, 8, 8, 8, 8, 8, 8, 8, 8, 8, 8, 8, 8, 8, 8, 8, 8, 8, 8, 8, 8, 8, 8, 8, 8, 8, 8, 8, 8, 8, 8, 8, 8, 8]⟩)) (.t 21)),
o_ 23 (.conv .i64 (.t 22)),
o_ 24 (.bin .add (.t 19) (.t 23)),
m_ 2 24] false)
.ret))))),
[.t 2]⟩
theorem ok344 : okFunc Go.Proofs.Tryz.prog 344 lf344 = true := by kernel_rfl
def lf345 : LFunc := ⟨7, 1,
(.seq
(.region [
o_ 2 (.mv (.c (.int .i64 0)))] false)
(.seq
(.region [
m_ 3 0,
m_ 4 0,
o_ 5 (.bin .sub (.c (.int .i64 0)) (.t 4)),
o_ 6 (.maxs [.t 3, .t 5]),
m_ 2 6] false)
.ret)),
[.t 2]⟩
theorem ok345 : okFunc Go.Proofs.Tryz.prog 345 lf345 = true := by kernel_rfl
def lf346 : LFunc := ⟨19, 0,
(.seq
(.region [
o_ 0 (.mv (.c (.nils)))] false)
(.seq
(.region [
o_ 1 (.own 2)] false)
(.seq
(.seq
(.region [
o_ 2 (.mv (.c (.int .i64 (-1))))] false)
(.block 0
(.loop
(.seq
(.seq
(.region [
m_ 4 2,
o_ 5 (.bin .leq (.t 4) (.c (.int .i64 6)))] false)
(.cond (.t 5)
.skip
(.exit 0)))
(.seq
(.block 1
(.seq
(.region [
o_ 3 (.mv (.c (.int .i64 0)))] false)
(.block 2
(.loop
(.seq
(.seq
(.region [
m_ 8 3,
o_ 9 (.bin .leq (.t 8) (.c (.int .i64 3)))] false)
(.cond (.t 9)
.skip
(.exit 2)))
(.seq
(.block 3
(.region [
m_ 12 1,
m_ 13 2,
m_ 14 3,
o_ 15 (.build [.int .i64 0, .int .i64 0] [(0, 1, .t 13), (1, 1, .t 14)]),
o_ 16 (.btsl 2 1 [.int .i64 0, .int .i64 0] [(0, .t 15)]),
o_ 17 (.append 2 16 (.t 12) (.t 16)),
m_ 1 17] false))
(.region [
m_ 10 3,
o_ 11 (.bin .add (.t 10) (.c (.int .i64 1))),
m_ 3 11] false)))))))
(.region [
m_ 6 2,
o_ 7 (.bin .add (.t 6) (.c (.int .i64 1))),
m_ 2 7] false))))))
(.seq
(.region [
m_ 18 1,
m_ 0 18] false)
.ret)))),
[.t 0]⟩
theorem ok346 : okFunc Go.Proofs.Tryz.prog 346 lf346 = true := by kernel_rfl
def lf347 : LFunc := ⟨23, 1,
(.seq
(.region [
o_ 1 (.box 2 (.t 0)),
o_ 2 (.mv (.c (.str ⟨#[]⟩)))] false)
(.seq
(.seq
(.region [
o_ 5 (.load true 2 (.t 1)),
o_ 6 (.call false (.c (.fn 278 [] [])) [.t 5]),
o_ 7 (.not (.t 6))] false)
(.cond (.t 7)
(.seq
(.region [
o_ 2 (.mv (.c (.str ⟨#[]⟩)))] false)
.ret)
.skip))
(.seq
(.region [
o_ 8 (.bsl 1 8 [.str ⟨#[]⟩] [(0, .c (.str ⟨#[98, 114, 101, 118, 101]⟩)), (1, .c (.str ⟨#[49]⟩)), (2, .c (.str ⟨#[50]⟩)), (3, .c (.str ⟨#[52]⟩)), (4, .c (.str ⟨#[56]⟩)), (5, .c (.str ⟨#[49, 54]⟩)), (6, .c (.str ⟨#[51, 50]⟩)), (7, .c (.str ⟨#[54, 52]⟩))]),
o_ 9 (.fadr 0 (.t 1)),
o_ 10 (.load false 1 (.t 9)),
o_ 11 (.bin .add (.t 10) (.c (.int .i64 1))),
o_ 12 (.idxa 1 (.t 8) (.t 11)),
o_ 13 (.load false 1 (.t 12)),
m_ 3 13] false)
(.seq
(.seq
(.region [
o_ 4 (.mv (.c (.int .i64 0)))] false)
(.block 0
(.loop
(.seq
(.seq
(.region [
m_ 14 4,
o_ 15 (.fadr 1 (.t 1)),
o_ 16 (.load false 1 (.t 15)),
o_ 17 (.bin .lss (.t 14) (.t 16))] false)
(.cond (.t 17)
.skip
(.exit 0)))
(.seq
(.block 1
(.region [
m_ 20 3,
o_ 21 (.bin .add (.t 20) (.c (.str ⟨#[46]⟩))),
m_ 3 21] false))
(.region [
m_ 18 4,
o_ 19 (.bin .add (.t 18) (.c (.int .i64 1))),
m_ 4 19] false))))))
(.seq
(.region [
m_ 22 3,
m_ 2 22] false)
.ret))))),
[.t 2]⟩
theorem ok347 : okFunc Go.Proofs.Tryz.prog 347 lf347 = true := by kernel_rfl
def lf348 : LFunc := ⟨21, 1,
(.seq
(.region [
o_ 2 (.mv (.c (.int .i64 0)))] false)
(.seq
(.region [
o_ 3 (.mv (.c (.int .i64 0)))] false)
(.seq
(.seq
(.region [
o_ 4 (.mv (.c (.int .i64 0)))] false)
(.block 0
(.loop
(.seq
(.seq
(.region [
m_ 5 4,
m_ 6 0,
o_ 7 (.len .str (.t 6)),
o_ 8 (.bin .lss (.t 5) (.t 7))] false)
(.cond (.t 8)
.skip
(.exit 0)))
(.seq
(.block 1
(.region [
m_ 11 3,
o_ 12 (.bin .mul (.c (.int .i64 10)) (.t 11)),
m_ 13 0,
m_ 14 4,
o_ 15 (.idxs (.t 13) (.t 14)),
o_ 16 (.bin .sub (.t 15) (.c (.int .u8 48))),
o_ 17 (.conv .i64 (.t 16)),
o_ 18 (.bin .add (.t 12) (.t 17)),
o_ 19 (.mins [.c (.int .i64 9999), .t 18]),
m_ 3 19] false))
(.region [
m_ 9 4,
o_ 10 (.bin .add (.t 9) (.c (.int .i64 1))),
m_ 4 10] false))))))
(.seq
(.region [
m_ 20 3,
m_ 2 20] false)
.ret)))),
[.t 2]⟩
theorem ok348 : okFunc Go.Proofs.Tryz.prog 348 lf348 = true := by kernel_rfl
end Go.AM.Dz
