/- A part of a proof about the given program: what its name says. No premise beyond the statements'. -/
import Derived.Test.YtjmcolfdpbohpaaGreatBmC0
set_option linter.unusedSimpArgs false
set_option linter.unusedVariables false
/- A part of the program's functions in the short form, each checked against the program. -/
namespace Go.AM.Bm
open Go.AM
def lf131 : LFunc := ⟨35, 2,
(.seq
(.region [
o_ 4 (.mv (.c (.nils)))] false)
(.seq
(.region [
o_ 5 (.own 14)] false)
(.seq
(.block 0
(.loop
(.seq
(.seq
(.region [
m_ 7 0,
o_ 8 (.call false (.c (.fn 34 [] [])) [.t 7]),
o_ 9 (.not (.t 8))] false)
(.cond (.t 9)
.skip
(.exit 0)))
(.block 1
(.seq
(.region [
m_ 10 0,
o_ 11 (.call false (.c (.fn 175 [] [])) [.t 10]),
m_ 6 11] false)
(.seq
(.seq
(.region [
m_ 12 6,
o_ 13 (.bin .eql (.t 12) (.c (.int .i64 0)))] false)
(.cond (.t 13)
(.seq
(.region [
m_ 14 5,
m_ 4 14] false)
.ret)
.skip))
(.seq
(.seq
(.region [
m_ 15 0,
o_ 16 (.nilck (.t 15)),
o_ 17 (.fadr 4 (.t 16)),
o_ 18 (.load false 1 (.t 17)),
o_ 19 (.bin .lss (.t 18) (.c (.int .i64 4096))),
m_ 20 19,
g_ 21 (.mv (.t 6)) 20 true,
g_ 22 (.mv (.t 1)) 20 true,
g_ 23 (.call false (.c (.fn 138 [] [])) [.t 21, .t 22]) 20 true,
o_ 24 (.pick (.t 20) (.t 23) (.c (.bool false)))] false)
(.cond (.t 24)
(.seq
(.region [
m_ 25 0,
o_ 26 (.call false (.c (.fn 32 [] [])) [.t 25, .c (.int .i64 22)])] false)
(.seq
(.region [
m_ 27 5,
m_ 4 27] false)
.ret))
.skip))
(.region [
m_ 28 5,
m_ 29 0,
m_ 30 6,
o_ 31 (.call false (.c (.fn 176 [] [])) [.t 29, .t 30]),
o_ 32 (.btsl 14 1 [.int .i64 0, .int .i64 0, .nils, .bool false, .int .i64 0, .int .i64 0, .bool false, .int .i64 0, .int .i64 0, .str ⟨#[]⟩, .int .i64 0, .int .i64 0, .str ⟨#[]⟩, .nils] [(0, .t 31)]),
o_ 33 (.append 14 160 (.t 28) (.t 32)),
m_ 5 33] false))))))))
(.seq
(.region [
m_ 34 5,
m_ 4 34] false)
.ret)))),
[.t 4]⟩
theorem ok131 : okFunc Go.Proofs.Tryz.prog 131 lf131 = true := by kernel_rfl
def lf132 : LFunc := ⟨16, 1,
(.seq
(.seq
(.region [
m_ 2 0,
o_ 3 (.nilck (.t 2)),
o_ 4 (.fadr 4 (.t 3)),
o_ 5 (.load false 1 (.t 4)),
o_ 6 (.bin .eql (.t 5) (.c (.int .i64 4096)))] false)
(.cond (.t 6)
(.region [
m_ 7 0,
o_ 8 (.call false (.c (.fn 32 [] [])) [.t 7, .c (.int .i64 4)])] false)
.skip))
(.region [
m_ 9 0,
o_ 10 (.nilck (.t 9)),
o_ 11 (.fadr 4 (.t 10)),
o_ 12 (.load false 1 (.t 11)),
o_ 13 (.bin .add (.t 12) (.c (.int .i64 1))),
o_ 14 (.nilck (.t 9)),
o_ 15 (.fadr 4 (.t 14)),
⟨none, .store 1 (.t 15) (.t 13), none⟩] false)),
[]⟩
theorem ok132 : okFunc Go.Proofs.Tryz.prog 132 lf132 = true := by kernel_rfl
def lf133 : LFunc := ⟨31, 1,
(.seq
(.region [
o_ 2 (.mv (.c (.bool false)))] false)
(.seq
(.seq
(.region [
m_ 5 0,
o_ 6 (.len .str (.t 5)),
o_ 7 (.bin .gtr (.t 6) (.c (.int .i64 65534)))] false)
(.cond (.t 7)
(.seq
(.region [
o_ 2 (.mv (.c (.bool false)))] false)
.ret)
.skip))
(.seq
(.region [
m_ 9 0,
o_ 10 (.bin .add (.c (.str ⟨#[34]⟩)) (.t 9)),
o_ 11 (.bin .add (.t 10) (.c (.str ⟨#[34]⟩))),
o_ 12 (.call false (.c (.fn 29 [] [])) [.t 11]),
m_ 8 12,
o_ 13 (.extract (.t 8) 0),
o_ 14 (.extract (.t 8) 1),
o_ 4 (.newv [.int .i64 0, .int .i64 0]),
m_ 3 13,
⟨none, .store 2 (.t 4) (.t 14), none⟩] false)
(.seq
(.region [
o_ 15 (.fadr 0 (.t 4)),
o_ 16 (.load false 1 (.t 15)),
o_ 17 (.bin .eql (.t 16) (.c (.int .i64 0))),
m_ 18 17,
g_ 19 (.mv (.t 3)) 18 true,
g_ 20 (.len .sli (.t 19)) 18 true,
g_ 21 (.bin .eql (.t 20) (.c (.int .i64 2))) 18 true,
o_ 22 (.pick (.t 18) (.t 21) (.c (.bool false))),
m_ 23 22,
g_ 24 (.mv (.t 3)) 23 true,
g_ 25 (.idxa 3 (.t 24) (.c (.int .i64 0))) 23 true,
g_ 26 (.fadr 1 (.t 25)) 23 true,
g_ 27 (.load false 1 (.t 26)) 23 true,
g_ 28 (.mv (.t 0)) 23 true,
g_ 29 (.bin .eql (.t 27) (.t 28)) 23 true,
o_ 30 (.pick (.t 23) (.t 29) (.c (.bool false))),
m_ 2 30] false)
.ret)))),
[.t 2]⟩
theorem ok133 : okFunc Go.Proofs.Tryz.prog 133 lf133 = true := by kernel_rfl
def lf134 : LFunc := ⟨52, 2,
(.seq
(.region [
o_ 4 (.mv (.c (.int .i64 0)))] false)
(.seq
(.seq
(.region [
m_ 8 0,
o_ 9 (.len .sli (.t 8)),
o_ 10 (.bin .gtr (.t 9) (.c (.int .i64 4)))] false)
(.cond (.t 10)
(.seq
(.region [
o_ 4 (.mv (.c (.int .i64 (-1))))] false)
.ret)
.skip))
(.seq
(.seq
(.region [
o_ 5 (.mv (.c (.int .i64 0)))] false)
(.block 0
(.loop
(.seq
(.seq
(.region [
m_ 11 5,
m_ 12 0,
o_ 13 (.len .sli (.t 12)),
o_ 14 (.bin .lss (.t 11) (.t 13))] false)
(.cond (.t 14)
.skip
(.exit 0)))
(.seq
(.block 1
(.seq
(.region [
o_ 6 (.mv (.c (.int .i64 0)))] false)
(.block 2
(.loop
(.seq
(.seq
(.region [
m_ 17 6,
m_ 18 0,
m_ 19 5,
o_ 20 (.idxa 1 (.t 18) (.t 19)),
o_ 21 (.load false 1 (.t 20)),
o_ 22 (.len .sli (.t 21)),
o_ 23 (.bin .lss (.t 17) (.t 22))] false)
(.cond (.t 23)
.skip
(.exit 2)))
(.seq
(.block 3
(.seq
(.region [
m_ 26 0,
m_ 27 5,
o_ 28 (.idxa 1 (.t 26) (.t 27)),
o_ 29 (.load false 1 (.t 28)),
m_ 30 6,
o_ 31 (.idxa 4 (.t 29) (.t 30)),
o_ 32 (.load true 4 (.t 31)),
o_ 7 (.newv [.int .i64 0, .str ⟨#[]⟩, .bool false, .bool false]),
⟨none, .store 4 (.t 7) (.t 32), none⟩] false)
(.seq
(.seq
(.region [
m_ 33 1,
o_ 34 (.bin .eql (.t 33) (.c (.int .i64 0))),
m_ 35 34,
g_ 36 (.fadr 2 (.t 7)) 35 false,
g_ 37 (.load false 1 (.t 36)) 35 false,
g_ 38 (.mv (.t 37)) 35 false,
g_ 39 (.fadr 3 (.t 7)) 38 true,
g_ 40 (.load false 1 (.t 39)) 38 true,
g_ 41 (.pick (.t 38) (.t 40) (.c (.bool false))) 35 false,
o_ 42 (.pick (.t 35) (.c (.bool true)) (.t 41)),
m_ 43 42,
g_ 44 (.fadr 1 (.t 7)) 43 false,
g_ 45 (.load false 1 (.t 44)) 43 false,
g_ 46 (.call false (.c (.fn 133 [] [])) [.t 45]) 43 false,
g_ 47 (.not (.t 46)) 43 false,
o_ 48 (.pick (.t 43) (.c (.bool true)) (.t 47))] false)
(.cond (.t 48)
(.seq
(.region [
o_ 4 (.mv (.c (.int .i64 (-1))))] false)
.ret)
.skip))
(.region [
m_ 49 1,
o_ 50 (.bin .sub (.t 49) (.c (.int .i64 1))),
m_ 1 50] false))))
(.region [
m_ 24 6,
o_ 25 (.bin .add (.t 24) (.c (.int .i64 1))),
m_ 6 25] false)))))))
(.region [
m_ 15 5,
o_ 16 (.bin .add (.t 15) (.c (.int .i64 1))),
m_ 5 16] false))))))
(.seq
(.region [
m_ 51 1,
m_ 4 51] false)
.ret)))),
[.t 4]⟩
theorem ok134 : okFunc Go.Proofs.Tryz.prog 134 lf134 = true := by kernel_rfl
def lf135 : LFunc := ⟨38, 2,
(.seq
(.region [
o_ 3 (.boxt 3 (.t 1)),
o_ 4 (.newv [.int .i64 0, .int .i64 0, .int .i64 0]),
o_ 5 (.mv (.c (.bool false)))] false)
(.seq
(.seq
(.region [
m_ 8 0,
o_ 9 (.nilck (.t 8)),
o_ 10 (.fadr 0 (.t 9)),
o_ 11 (.load false 1 (.t 10)),
o_ 12 (.not (.t 11))] false)
(.cond (.t 12)
(.seq
(.region [
o_ 13 (.load true 3 (.t 3)),
o_ 14 (.call false (.c (.fn 90 [] [])) [.t 13]),
o_ 15 (.extract (.t 14) 0),
o_ 16 (.extract (.t 14) 1),
⟨none, .store 3 (.t 4) (.t 15), none⟩,
m_ 5 16] false)
.ret)
.skip))
(.seq
(.region [
m_ 18 0,
o_ 19 (.nilck (.t 18)),
o_ 20 (.fadr 1 (.t 19)),
o_ 21 (.load true 3 (.t 20)),
o_ 22 (.fadr 0 (.t 3)),
o_ 23 (.load false 1 (.t 22)),
o_ 24 (.fadr 1 (.t 3)),
o_ 25 (.load false 1 (.t 24)),
o_ 26 (.fadr 2 (.t 3)),
o_ 27 (.load false 1 (.t 26)),
o_ 28 (.call false (.c (.fn 177 [] [])) [.t 21, .t 23, .t 25, .t 27]),
m_ 17 28,
o_ 29 (.extract (.t 17) 0),
o_ 30 (.extract (.t 17) 1),
o_ 6 (.newv [.int .i64 0, .int .i64 0, .int .i64 0]),
⟨none, .store 3 (.t 6) (.t 29), none⟩,
m_ 7 30] true)
(.seq
(.region [
m_ 31 0,
o_ 32 (.load true 3 (.t 6)),
o_ 33 (.nilck (.t 31)),
o_ 34 (.fadr 1 (.t 33)),
⟨none, .store 3 (.t 34) (.t 32), none⟩] false)
(.seq
(.region [
o_ 35 (.load true 3 (.t 6)),
m_ 36 7,
o_ 37 (.bin .eql (.t 36) (.c (.int .i64 0))),
⟨none, .store 3 (.t 4) (.t 35), none⟩,
m_ 5 37] false)
.ret))))),
[.cell true 3 4, .t 5]⟩
theorem ok135 : okFunc Go.Proofs.Tryz.prog 135 lf135 = true := by kernel_rfl
def lf136 : LFunc := ⟨16, 1,
(.seq
(.region [
o_ 1 (.boxt 3 (.t 0)),
o_ 2 (.newv [.int .i64 0, .int .i64 0, .int .i64 0]),
o_ 3 (.mv (.c (.bool false)))] false)
(.seq
(.seq
(.region [
o_ 4 (.load true 3 (.t 1)),
o_ 5 (.call false (.c (.fn 137 [] [])) [.t 4]),
o_ 6 (.not (.t 5))] false)
(.cond (.t 6)
(.seq
(.region [
o_ 7 (.build [.int .i64 0, .int .i64 0, .int .i64 0] []),
⟨none, .store 3 (.t 2) (.t 7), none⟩,
o_ 3 (.mv (.c (.bool false)))] false)
.ret)
.skip))
(.seq
(.region [
o_ 8 (.fadr 0 (.t 1)),
o_ 9 (.load false 1 (.t 8)),
o_ 10 (.fadr 1 (.t 1)),
o_ 11 (.load false 1 (.t 10)),
o_ 12 (.fadr 2 (.t 1)),
o_ 13 (.load false 1 (.t 12)),
o_ 14 (.bin .sub (.t 13) (.c (.int .i64 3))),
o_ 15 (.build [.int .i64 0, .int .i64 0, .int .i64 0] [(0, 1, .t 9), (1, 1, .t 11), (2, 1, .t 14)]),
⟨none, .store 3 (.t 2) (.t 15), none⟩,
o_ 3 (.mv (.c (.bool true)))] false)
.ret))),
[.cell true 3 2, .t 3]⟩
theorem ok136 : okFunc Go.Proofs.Tryz.prog 136 lf136 = true := by kernel_rfl
def lf137 : LFunc := ⟨31, 1,
(.seq
(.region [
o_ 1 (.boxt 3 (.t 0)),
o_ 2 (.mv (.c (.bool false)))] false)
(.seq
(.region [
o_ 3 (.fadr 0 (.t 1)),
o_ 4 (.load false 1 (.t 3)),
o_ 5 (.bin .geq (.t 4) (.c (.int .i64 0))),
m_ 6 5,
g_ 7 (.fadr 0 (.t 1)) 6 true,
g_ 8 (.load false 1 (.t 7)) 6 true,
g_ 9 (.bin .leq (.t 8) (.c (.int .i64 6))) 6 true,
o_ 10 (.pick (.t 6) (.t 9) (.c (.bool false))),
m_ 11 10,
g_ 12 (.fadr 1 (.t 1)) 11 true,
g_ 13 (.load false 1 (.t 12)) 11 true,
g_ 14 (.bin .geq (.t 13) (.c (.int .i64 (-2)))) 11 true,
o_ 15 (.pick (.t 11) (.t 14) (.c (.bool false))),
m_ 16 15,
g_ 17 (.fadr 1 (.t 1)) 16 true,
g_ 18 (.load false 1 (.t 17)) 16 true,
g_ 19 (.bin .leq (.t 18) (.c (.int .i64 2))) 16 true,
o_ 20 (.pick (.t 16) (.t 19) (.c (.bool false))),
m_ 21 20,
g_ 22 (.fadr 2 (.t 1)) 21 true,
g_ 23 (.load false 1 (.t 22)) 21 true,
g_ 24 (.bin .geq (.t 23) (.c (.int .i64 0))) 21 true,
o_ 25 (.pick (.t 21) (.t 24) (.c (.bool false))),
m_ 26 25,
g_ 27 (.fadr 2 (.t 1)) 26 true,
g_ 28 (.load false 1 (.t 27)) 26 true,
g_ 29 (.bin .leq (.t 28) (.c (.int .i64 9))) 26 true,
o_ 30 (.pick (.t 26) (.t 29) (.c (.bool false))),
m_ 2 30] false)
.ret)),
[.t 2]⟩
theorem ok137 : okFunc Go.Proofs.Tryz.prog 137 lf137 = true := by kernel_rfl
def lf138 : LFunc := ⟨15, 2,
(.seq
(.region [
o_ 4 (.mv (.c (.bool false)))] false)
(.seq
(.seq
(.region [
m_ 5 1,
o_ 6 (.bin .eql (.t 5) (.c (.int .i64 2)))] false)
(.cond (.t 6)
(.seq
(.region [
m_ 7 0,
o_ 8 (.bin .gtr (.t 7) (.c (.int .i64 3))),
m_ 4 8] false)
.ret)
.skip))
(.seq
(.region [
m_ 9 1,
o_ 10 (.bin .eql (.t 9) (.c (.int .i64 1))),
m_ 11 10,
g_ 12 (.mv (.t 0)) 11 true,
g_ 13 (.bin .geq (.t 12) (.c (.int .i64 7))) 11 true,
o_ 14 (.pick (.t 11) (.t 13) (.c (.bool false))),
m_ 4 14] false)
.ret))),
[.t 4]⟩
theorem ok138 : okFunc Go.Proofs.Tryz.prog 138 lf138 = true := by kernel_rfl
def lf139 : LFunc := ⟨62, 1,
(.seq
(.region [
o_ 1 (.boxt 14 (.t 0)),
o_ 2 (.mv (.c (.bool false)))] false)
(.seq
(.seq
(.region [
o_ 4 (.load true 14 (.t 1)),
o_ 5 (.call false (.c (.fn 178 [] [])) [.t 4]),
o_ 6 (.not (.t 5)),
m_ 7 6,
g_ 8 (.load true 14 (.t 1)) 7 false,
g_ 9 (.call false (.c (.fn 179 [] [])) [.t 8]) 7 false,
g_ 10 (.not (.t 9)) 7 false,
o_ 11 (.pick (.t 7) (.c (.bool true)) (.t 10)),
m_ 12 11,
g_ 13 (.fadr 6 (.t 1)) 12 false,
g_ 14 (.load true 4 (.t 13)) 12 false,
g_ 15 (.call false (.c (.fn 180 [] [])) [.t 14]) 12 false,
g_ 16 (.not (.t 15)) 12 false,
o_ 17 (.pick (.t 12) (.c (.bool true)) (.t 16)),
m_ 18 17,
g_ 19 (.fadr 2 (.t 1)) 18 false,
g_ 20 (.load false 1 (.t 19)) 18 false,
g_ 21 (.len .sli (.t 20)) 18 false,
g_ 22 (.bin .gtr (.t 21) (.c (.int .i64 16))) 18 false,
o_ 23 (.pick (.t 18) (.c (.bool true)) (.t 22))] false)
(.cond (.t 23)
(.seq
(.region [
o_ 2 (.mv (.c (.bool false)))] false)
.ret)
.skip))
(.seq
(.seq
(.region [
o_ 3 (.mv (.c (.int .i64 0)))] false)
(.block 0
(.loop
(.seq
(.seq
(.region [
m_ 24 3,
o_ 25 (.fadr 2 (.t 1)),
o_ 26 (.load false 1 (.t 25)),
o_ 27 (.len .sli (.t 26)),
o_ 28 (.bin .lss (.t 24) (.t 27))] false)
(.cond (.t 28)
.skip
(.exit 0)))
(.seq
(.block 1
(.seq
(.region [
o_ 31 (.fadr 2 (.t 1)),
o_ 32 (.load false 1 (.t 31)),
m_ 33 3,
o_ 34 (.idxa 3 (.t 32) (.t 33)),
o_ 35 (.load true 3 (.t 34)),
o_ 36 (.call false (.c (.fn 181 [] [])) [.t 35]),
o_ 37 (.not (.t 36))] false)
(.cond (.t 37)
(.seq
(.region [
o_ 2 (.mv (.c (.bool false)))] false)
.ret)
.skip)))
(.region [
m_ 29 3,
o_ 30 (.bin .add (.t 29) (.c (.int .i64 1))),
m_ 3 30] false))))))
(.seq
(.seq
(.region [
o_ 38 (.fadr 0 (.t 1)),
o_ 39 (.load false 1 (.t 38))] false)
(.block 2
(.seq
(.region [
o_ 41 (.bin .eql (.t 39) (.c (.int .i64 1))),
m_ 40 41] false)
(.cond (.t 40)
(.seq
(.region [
o_ 42 (.fadr 2 (.t 1)),
o_ 43 (.load false 1 (.t 42)),
o_ 44 (.len .sli (.t 43)),
o_ 45 (.bin .eql (.t 44) (.c (.int .i64 1))),
m_ 2 45] false)
.ret)
(.seq
(.region [
o_ 47 (.bin .eql (.t 39) (.c (.int .i64 2))),
m_ 46 47] false)
(.cond (.t 46)
(.seq
(.region [
o_ 48 (.fadr 2 (.t 1)),
o_ 49 (.load false 1 (.t 48)),
o_ 50 (.len .sli (.t 49)),
o_ 51 (.bin .geq (.t 50) (.c (.int .i64 1))),
m_ 2 51] false)
.ret)
.skip))))))
(.seq
(.region [
o_ 52 (.fadr 2 (.t 1)),
o_ 53 (.load false 1 (.t 52)),
o_ 54 (.len .sli (.t 53)),
o_ 55 (.bin .eql (.t 54) (.c (.int .i64 0))),
m_ 56 55,
g_ 57 (.fadr 6 (.t 1)) 56 true,
g_ 58 (.load true 4 (.t 57)) 56 true,
g_ 59 (.build [.bool false, .int .i64 0, .int .i64 0, .str ⟨#[]⟩] []) 56 true,
g_ 60 (.eq false (.ag [.b, .i, .i, .s]) (.t 58) (.t 59)) 56 true,
o_ 61 (.pick (.t 56) (.t 60) (.c (.bool false))),
m_ 2 61] false)
.ret))))),
[.t 2]⟩
theorem ok139 : okFunc Go.Proofs.Tryz.prog 139 lf139 = true := by kernel_rfl
def lf140 : LFunc := ⟨105, 1,
(.seq
(.region [
o_ 1 (.boxt 14 (.t 0)),
o_ 2 (.mv (.c (.bool false)))] false)
(.seq
(.seq
(.region [
o_ 3 (.load true 14 (.t 1)),
o_ 4 (.call false (.c (.fn 182 [] [])) [.t 3]),
o_ 5 (.not (.t 4)),
m_ 6 5,
g_ 7 (.fadr 13 (.t 1)) 6 false,
g_ 8 (.load false 1 (.t 7)) 6 false,
g_ 9 (.len .sli (.t 8)) 6 false,
g_ 10 (.bin .gtr (.t 9) (.c (.int .i64 0))) 6 false,
o_ 11 (.pick (.t 6) (.c (.bool true)) (.t 10))] false)
(.cond (.t 11)
(.seq
(.region [
o_ 2 (.mv (.c (.bool false)))] false)
.ret)
.skip))
(.seq
(.seq
(.region [
o_ 12 (.fadr 0 (.t 1)),
o_ 13 (.load false 1 (.t 12))] false)
(.block 0
(.seq
(.region [
o_ 15 (.bin .eql (.t 13) (.c (.int .i64 9))),
m_ 14 15] false)
(.cond (.t 14)
(.seq
(.region [
o_ 16 (.call false (.c (.fn 184 [] [])) []),
o_ 17 (.fadr 12 (.t 1)),
o_ 18 (.load false 1 (.t 17)),
o_ 19 (.call false (.c (.fn 183 [] [])) [.t 16, .t 18]),
m_ 20 19,
g_ 21 (.fadr 2 (.t 1)) 20 true,
g_ 22 (.load false 1 (.t 21)) 20 true,
g_ 23 (.len .sli (.t 22)) 20 true,
g_ 24 (.bin .eql (.t 23) (.c (.int .i64 0))) 20 true,
o_ 25 (.pick (.t 20) (.t 24) (.c (.bool false))),
m_ 26 25,
g_ 27 (.fadr 10 (.t 1)) 26 true,
g_ 28 (.load false 1 (.t 27)) 26 true,
g_ 29 (.bin .eql (.t 28) (.c (.int .i64 0))) 26 true,
o_ 30 (.pick (.t 26) (.t 29) (.c (.bool false))),
m_ 31 30,
g_ 32 (.fadr 11 (.t 1)) 31 true,
g_ 33 (.load false 1 (.t 32)) 31 true,
g_ 34 (.bin .eql (.t 33) (.c (.int .i64 0))) 31 true,
o_ 35 (.pick (.t 31) (.t 34) (.c (.bool false))),
m_ 2 35] true)
.ret)
(.seq
(.region [
o_ 37 (.bin .eql (.t 13) (.c (.int .i64 10))),
m_ 36 37] false)
(.cond (.t 36)
(.seq
(.region [
o_ 38 (.call false (.c (.fn 185 [] [])) []),
o_ 39 (.fadr 12 (.t 1)),
o_ 40 (.load false 1 (.t 39)),
o_ 41 (.call false (.c (.fn 183 [] [])) [.t 38, .t 40]),
m_ 42 41,
g_ 43 (.fadr 2 (.t 1)) 42 true,
g_ 44 (.load false 1 (.t 43)) 42 true,
g_ 45 (.len .sli (.t 44)) 42 true,
g_ 46 (.bin .eql (.t 45) (.c (.int .i64 1))) 42 true,
o_ 47 (.pick (.t 42) (.t 46) (.c (.bool false))),
m_ 48 47,
g_ 49 (.fadr 2 (.t 1)) 48 true,
g_ 50 (.load false 1 (.t 49)) 48 true,
g_ 51 (.idxa 3 (.t 50) (.c (.int .i64 0))) 48 true,
g_ 52 (.load true 3 (.t 51)) 48 true,
g_ 53 (.call false (.c (.fn 181 [] [])) [.t 52]) 48 true,
o_ 54 (.pick (.t 48) (.t 53) (.c (.bool false))),
m_ 55 54,
g_ 56 (.fadr 2 (.t 1)) 55 true,
g_ 57 (.load false 1 (.t 56)) 55 true,
g_ 58 (.idxa 3 (.t 57) (.c (.int .i64 0))) 55 true,
g_ 59 (.fadr 2 (.t 58)) 55 true,
g_ 60 (.load false 1 (.t 59)) 55 true,
g_ 61 (.bin .eql (.t 60) (.c (.int .i64 0))) 55 true,
o_ 62 (.pick (.t 55) (.t 61) (.c (.bool false))),
m_ 63 62,
g_ 64 (.fadr 10 (.t 1)) 63 true,
g_ 65 (.load false 1 (.t 64)) 63 true,
g_ 66 (.bin .eql (.t 65) (.c (.int .i64 0))) 63 true,
o_ 67 (.pick (.t 63) (.t 66) (.c (.bool false))),
m_ 68 67,
g_ 69 (.fadr 11 (.t 1)) 68 true,
g_ 70 (.load false 1 (.t 69)) 68 true,
g_ 71 (.bin .eql (.t 70) (.c (.int .i64 0))) 68 true,
o_ 72 (.pick (.t 68) (.t 71) (.c (.bool false))),
m_ 2 72] true)
.ret)
(.seq
(.region [
o_ 74 (.bin .eql (.t 13) (.c (.int .i64 11))),
m_ 73 74] false)
(.cond (.t 73)
(.seq
(.region [
o_ 75 (.fadr 10 (.t 1)),
o_ 76 (.load false 1 (.t 75)),
o_ 77 (.fadr 11 (.t 1)),
o_ 78 (.load false 1 (.t 77)),
o_ 79 (.build [.int .i64 0, .int .i64 0] [(0, 1, .t 76), (1, 1, .t 78)]),
o_ 80 (.call false (.c (.fn 173 [] [])) [.t 79]),
m_ 81 80,
g_ 82 (.fadr 2 (.t 1)) 81 true,
g_ 83 (.load false 1 (.t 82)) 81 true,
g_ 84 (.len .sli (.t 83)) 81 true,
g_ 85 (.bin .eql (.t 84) (.c (.int .i64 0))) 81 true,
o_ 86 (.pick (.t 81) (.t 85) (.c (.bool false))),
m_ 87 86,
g_ 88 (.fadr 12 (.t 1)) 87 true,
g_ 89 (.load false 1 (.t 88)) 87 true,
g_ 90 (.bin .eql (.t 89) (.c (.str ⟨#[]⟩))) 87 true,
o_ 91 (.pick (.t 87) (.t 90) (.c (.bool false))),
m_ 2 91] false)
.ret)
.skip))))))))
(.seq
(.region [
o_ 92 (.fadr 0 (.t 1)),
o_ 93 (.load false 1 (.t 92)),
o_ 94 (.bin .eql (.t 93) (.c (.int .i64 12))),
m_ 95 94,
g_ 96 (.load true 14 (.t 1)) 95 true,
g_ 97 (.call false (.c (.fn 178 [] [])) [.t 96]) 95 true,
o_ 98 (.pick (.t 95) (.t 97) (.c (.bool false))),
m_ 99 98,
g_ 100 (.fadr 2 (.t 1)) 99 true,
g_ 101 (.load false 1 (.t 100)) 99 true,
g_ 102 (.len .sli (.t 101)) 99 true,
g_ 103 (.bin .eql (.t 102) (.c (.int .i64 0))) 99 true,
o_ 104 (.pick (.t 99) (.t 103) (.c (.bool false))),
m_ 2 104] false)
.ret)))),
[.t 2]⟩
theorem ok140 : okFunc Go.Proofs.Tryz.prog 140 lf140 = true := by kernel_rfl
def lf141 : LFunc := ⟨97, 1,
(.seq
(.region [
o_ 1 (.boxt 14 (.t 0)),
o_ 2 (.mv (.c (.bool false)))] false)
(.seq
(.seq
(.region [
o_ 3 (.load true 14 (.t 1)),
o_ 4 (.call false (.c (.fn 182 [] [])) [.t 3]),
o_ 5 (.not (.t 4)),
m_ 6 5,
g_ 7 (.fadr 12 (.t 1)) 6 false,
g_ 8 (.load false 1 (.t 7)) 6 false,
g_ 9 (.bin .neq (.t 8) (.c (.str ⟨#[]⟩))) 6 false,
o_ 10 (.pick (.t 6) (.c (.bool true)) (.t 9))] false)
(.cond (.t 10)
(.seq
(.region [
o_ 2 (.mv (.c (.bool false)))] false)
.ret)
.skip))
(.seq
(.seq
(.region [
o_ 11 (.fadr 0 (.t 1)),
o_ 12 (.load false 1 (.t 11))] false)
(.block 0
(.seq
(.region [
o_ 14 (.bin .eql (.t 12) (.c (.int .i64 5))),
m_ 13 14] false)
(.cond (.t 13)
(.seq
(.region [
o_ 15 (.fadr 10 (.t 1)),
o_ 16 (.load false 1 (.t 15)),
o_ 17 (.bin .geq (.t 16) (.c (.int .i64 1))),
m_ 18 17,
g_ 19 (.fadr 10 (.t 1)) 18 true,
g_ 20 (.load false 1 (.t 19)) 18 true,
g_ 21 (.bin .leq (.t 20) (.c (.int .i64 16))) 18 true,
o_ 22 (.pick (.t 18) (.t 21) (.c (.bool false))),
m_ 23 22,
g_ 24 (.fadr 11 (.t 1)) 23 true,
g_ 25 (.load false 1 (.t 24)) 23 true,
g_ 26 (.bin .geq (.t 25) (.c (.int .i64 1))) 23 true,
o_ 27 (.pick (.t 23) (.t 26) (.c (.bool false))),
m_ 28 27,
g_ 29 (.fadr 11 (.t 1)) 28 true,
g_ 30 (.load false 1 (.t 29)) 28 true,
g_ 31 (.bin .leq (.t 30) (.c (.int .i64 16))) 28 true,
o_ 32 (.pick (.t 28) (.t 31) (.c (.bool false))),
m_ 33 32,
g_ 34 (.fadr 2 (.t 1)) 33 true,
g_ 35 (.load false 1 (.t 34)) 33 true,
g_ 36 (.len .sli (.t 35)) 33 true,
g_ 37 (.bin .eql (.t 36) (.c (.int .i64 0))) 33 true,
o_ 38 (.pick (.t 33) (.t 37) (.c (.bool false))),
m_ 2 38] false)
.ret)
(.seq
(.region [
o_ 40 (.bin .eql (.t 12) (.c (.int .i64 6))),
m_ 39 40] false)
(.cond (.t 39)
(.seq
(.region [
o_ 41 (.fadr 10 (.t 1)),
o_ 42 (.load false 1 (.t 41)),
o_ 43 (.bin .eql (.t 42) (.c (.int .i64 0))),
m_ 44 43,
g_ 45 (.fadr 11 (.t 1)) 44 true,
g_ 46 (.load false 1 (.t 45)) 44 true,
g_ 47 (.bin .eql (.t 46) (.c (.int .i64 0))) 44 true,
o_ 48 (.pick (.t 44) (.t 47) (.c (.bool false))),
m_ 49 48,
g_ 50 (.fadr 2 (.t 1)) 49 true,
g_ 51 (.load false 1 (.t 50)) 49 true,
g_ 52 (.len .sli (.t 51)) 49 true,
g_ 53 (.bin .eql (.t 52) (.c (.int .i64 0))) 49 true,
o_ 54 (.pick (.t 49) (.t 53) (.c (.bool false))),
m_ 2 54] false)
.ret)
(.seq
(.region [
o_ 56 (.bin .eql (.t 12) (.c (.int .i64 7))),
m_ 55 56] false)
(.cond (.t 55)
(.seq
(.region [
o_ 57 (.fadr 10 (.t 1)),
o_ 58 (.load false 1 (.t 57)),
o_ 59 (.bin .geq (.t 58) (.c (.int .i64 1))),
m_ 60 59,
g_ 61 (.fadr 10 (.t 1)) 60 true,
g_ 62 (.load false 1 (.t 61)) 60 true,
g_ 63 (.bin .leq (.t 62) (.c (.int .i64 8))) 60 true,
o_ 64 (.pick (.t 60) (.t 63) (.c (.bool false))),
m_ 65 64,
g_ 66 (.fadr 11 (.t 1)) 65 true,
g_ 67 (.load false 1 (.t 66)) 65 true,
g_ 68 (.bin .eql (.t 67) (.c (.int .i64 0))) 65 true,
o_ 69 (.pick (.t 65) (.t 68) (.c (.bool false))),
m_ 70 69,
g_ 71 (.fadr 2 (.t 1)) 70 true,
g_ 72 (.load false 1 (.t 71)) 70 true,
g_ 73 (.len .sli (.t 72)) 70 true,
g_ 74 (.bin .eql (.t 73) (.c (.int .i64 0))) 70 true,
o_ 75 (.pick (.t 70) (.t 74) (.c (.bool false))),
m_ 2 75] false)
.ret)
.skip))))))))
(.seq
(.region [
o_ 76 (.fadr 10 (.t 1)),
o_ 77 (.load false 1 (.t 76)),
o_ 78 (.bin .eql (.t 77) (.c (.int .i64 0))),
m_ 79 78,
g_ 80 (.fadr 11 (.t 1)) 79 true,
g_ 81 (.load false 1 (.t 80)) 79 true,
g_ 82 (.bin .eql (.t 81) (.c (.int .i64 0))) 79 true,
o_ 83 (.pick (.t 79) (.t 82) (.c (.bool false))),
m_ 84 83,
g_ 85 (.fadr 2 (.t 1)) 84 true,
g_ 86 (.load false 1 (.t 85)) 84 true,
g_ 87 (.len .sli (.t 86)) 84 true,
g_ 88 (.bin .eql (.t 87) (.c (.int .i64 1))) 84 true,
o_ 89 (.pick (.t 84) (.t 88) (.c (.bool false))),
m_ 90 89,
g_ 91 (.fadr 2 (.t 1)) 90 true,
g_ 92 (.load false 1 (.t 91)) 90 true,
g_ 93 (.idxa 3 (.t 92) (.c (.int .i64 0))) 90 true,
g_ 94 (.load true 3 (.t 93)) 90 true,
g_ 95 (.call false (.c (.fn 181 [] [])) [.t 94]) 90 true,
o_ 96 (.pick (.t 90) (.t 95) (.c (.bool false))),
m_ 2 96] false)
.ret)))),
[.t 2]⟩
theorem ok141 : okFunc Go.Proofs.Tryz.prog 141 lf141 = true := by kernel_rfl
def lf142 : LFunc := ⟨8, 1,
(.seq
(.region [
o_ 2 (.mv (.c (.int .i64 0)))] false)
(.seq
(.seq
(.region [
m_ 3 0] false)
(.block 0
(.seq
(.region [
o_ 5 (.bin .eql (.t 3) (.c (.int .i64 5))),
m_ 4 5] false)
(.cond (.t 4)
(.seq
(.region [
o_ 2 (.mv (.c (.int .i64 1)))] false)
.ret)
(.seq
(.region [
o_ 7 (.bin .eql (.t 3) (.c (.int .i64 6))),
m_ 6 7] false)
(.cond (.t 6)
(.seq
(.region [
o_ 2 (.mv (.c (.int .i64 2)))] false)
.ret)
.skip))))))
(.seq
(.region [
o_ 2 (.mv (.c (.int .i64 0)))] false)
.ret))),
[.t 2]⟩
theorem ok142 : okFunc Go.Proofs.Tryz.prog 142 lf142 = true := by kernel_rfl
def lf143 : LFunc := ⟨28, 1,
(.seq
(.region [
o_ 2 (.mv (.c (.nils))),
o_ 3 (.mv (.c (.bool false)))] false)
(.seq
(.region [
o_ 4 (.mv (.c (.nils)))] false)
(.seq
(.seq
(.region [
o_ 5 (.mv (.c (.int .i64 0)))] false)
(.block 0
(.loop
(.seq
(.seq
(.region [
m_ 8 5,
m_ 9 0,
o_ 10 (.len .sli (.t 9)),
o_ 11 (.bin .lss (.t 8) (.t 10))] false)
(.cond (.t 11)
.skip
(.exit 0)))
(.seq
(.block 1
(.seq
(.region [
m_ 15 0,
m_ 16 5,
o_ 17 (.idxa 3 (.t 15) (.t 16)),
o_ 18 (.load true 3 (.t 17)),
o_ 19 (.call false (.c (.fn 90 [] [])) [.t 18]),
m_ 14 19,
o_ 20 (.extract (.t 14) 0),
o_ 21 (.extract (.t 14) 1),
o_ 6 (.newv [.int .i64 0, .int .i64 0, .int .i64 0]),
⟨none, .store 3 (.t 6) (.t 20), none⟩,
m_ 7 21] false)
(.seq
(.seq
(.region [
m_ 22 7,
o_ 23 (.not (.t 22))] false)
(.cond (.t 23)
(.seq
(.region [
o_ 2 (.mv (.c (.nils))),
o_ 3 (.mv (.c (.bool false)))] false)
.ret)
.skip))
(.region [
m_ 24 4,
o_ 25 (.load true 3 (.t 6)),
o_ 26 (.call false (.c (.fn 186 [] [])) [.t 24, .t 25]),
m_ 4 26] false))))
(.region [
m_ 12 5,
o_ 13 (.bin .add (.t 12) (.c (.int .i64 1))),
m_ 5 13] false))))))
(.seq
(.region [
m_ 27 4,
m_ 2 27,
o_ 3 (.mv (.c (.bool true)))] false)
.ret)))),
[.t 2, .t 3]⟩
theorem ok143 : okFunc Go.Proofs.Tryz.prog 143 lf143 = true := by kernel_rfl
def lf144 : LFunc := ⟨13, 1,
(.seq
(.region [
o_ 1 (.boxt 2 (.t 0)),
o_ 2 (.newv [.int .i64 0, .int .i64 0]),
o_ 3 (.mv (.c (.int .i64 0)))] false)
(.seq
(.seq
(.region [
o_ 4 (.load true 2 (.t 1)),
o_ 5 (.call false (.c (.fn 45 [] [])) [.t 4]),
o_ 6 (.not (.t 5))] false)
(.cond (.t 6)
(.seq
(.region [
o_ 7 (.build [.int .i64 0, .int .i64 0] []),
⟨none, .store 2 (.t 2) (.t 7), none⟩,
o_ 3 (.mv (.c (.int .i64 2)))] false)
.ret)
.skip))
(.seq
(.region [
o_ 8 (.load true 2 (.t 1)),
o_ 9 (.call false (.c (.fn 188 [] [])) [.t 8]),
o_ 10 (.call false (.c (.fn 187 [] [])) [.t 9, .c (.int .i64 1024)]),
o_ 11 (.extract (.t 10) 0),
o_ 12 (.extract (.t 10) 1),
⟨none, .store 2 (.t 2) (.t 11), none⟩,
m_ 3 12] false)
.ret))),
[.cell true 2 2, .t 3]⟩
theorem ok144 : okFunc Go.Proofs.Tryz.prog 144 lf144 = true := by kernel_rfl
def lf145 : LFunc := ⟨75, 2,
(.seq
(.region [
o_ 2 (.boxt 2 (.t 0)),
o_ 3 (.boxt 2 (.t 1)),
o_ 4 (.newv [.int .i64 0, .int .i64 0]),
o_ 5 (.mv (.c (.int .i64 0)))] false)
(.seq
(.seq
(.region [
o_ 12 (.load true 2 (.t 2)),
o_ 13 (.call false (.c (.fn 121 [] [])) [.t 12]),
o_ 14 (.not (.t 13)),
m_ 15 14,
g_ 16 (.load true 2 (.t 3)) 15 false,
g_ 17 (.call false (.c (.fn 121 [] [])) [.t 16]) 15 false,
g_ 18 (.not (.t 17)) 15 false,
o_ 19 (.pick (.t 15) (.c (.bool true)) (.t 18))] false)
(.cond (.t 19)
(.seq
(.region [
o_ 20 (.build [.int .i64 0, .int .i64 0] []),
⟨none, .store 2 (.t 4) (.t 20), none⟩,
o_ 5 (.mv (.c (.int .i64 2)))] false)
.ret)
.skip))
(.seq
(.region [
o_ 21 (.fadr 0 (.t 2)),
o_ 22 (.load false 1 (.t 21)),
o_ 23 (.call false (.c (.fn 171 [] [])) [.t 22]),
o_ 24 (.fadr 1 (.t 3)),
o_ 25 (.load false 1 (.t 24)),
o_ 26 (.call false (.c (.fn 127 [] [])) [.t 23, .t 25]),
o_ 27 (.fadr 0 (.t 3)),
o_ 28 (.load false 1 (.t 27)),
o_ 29 (.call false (.c (.fn 171 [] [])) [.t 28]),
o_ 30 (.fadr 1 (.t 2)),
o_ 31 (.load false 1 (.t 30)),
o_ 32 (.call false (.c (.fn 127 [] [])) [.t 29, .t 31]),
m_ 6 26,
m_ 7 32] true)
(.seq
(.region [
o_ 33 (.fadr 0 (.t 2)),
o_ 34 (.load false 1 (.t 33)),
m_ 35 6,
o_ 36 (.bin .quo (.t 34) (.t 35)),
o_ 37 (.fadr 0 (.t 3)),
o_ 38 (.load false 1 (.t 37)),
m_ 39 7,
o_ 40 (.bin .quo (.t 38) (.t 39)),
o_ 41 (.fadr 1 (.t 2)),
o_ 42 (.load false 1 (.t 41)),
m_ 43 7,
o_ 44 (.bin .quo (.t 42) (.t 43)),
o_ 45 (.fadr 1 (.t 3)),
o_ 46 (.load false 1 (.t 45)),
m_ 47 6,
o_ 48 (.bin .quo (.t 46) (.t 47)),
m_ 8 36,
m_ 9 40,
m_ 10 44,
m_ 11 48] true)
(.seq
(.seq
(.region [
m_ 49 9,
o_ 50 (.bin .neq (.t 49) (.c (.int .i64 0))),
m_ 51 50,
g_ 52 (.mv (.t 8)) 51 true,
g_ 53 (.call false (.c (.fn 171 [] [])) [.t 52]) 51 true,
g_ 54 (.mv (.t 9)) 51 true,
g_ 55 (.call false (.c (.fn 171 [] [])) [.t 54]) 51 true,
g_ 56 (.bin .quo (.c (.int .i64 1099511627776)) (.t 55)) 51 true,
g_ 57 (.bin .gtr (.t 53) (.t 56)) 51 true,
o_ 58 (.pick (.t 51) (.t 57) (.c (.bool false))),
m_ 59 58,
g_ 60 (.mv (.t 10)) 59 false,
g_ 61 (.mv (.t 11)) 59 false,
g_ 62 (.bin .quo (.c (.int .i64 1048576)) (.t 61)) 59 false,
g_ 63 (.bin .gtr (.t 60) (.t 62)) 59 false,
o_ 64 (.pick (.t 59) (.c (.bool true)) (.t 63))] false)
(.cond (.t 64)
(.seq
(.region [
o_ 65 (.build [.int .i64 0, .int .i64 0] []),
⟨none, .store 2 (.t 4) (.t 65), none⟩,
o_ 5 (.mv (.c (.int .i64 3)))] false)
.ret)
.skip))
(.seq
(.region [
m_ 66 8,
m_ 67 9,
o_ 68 (.bin .mul (.t 66) (.t 67)),
m_ 69 10,
m_ 70 11,
o_ 71 (.bin .mul (.t 69) (.t 70)),
o_ 72 (.call false (.c (.fn 128 [] [])) [.t 68, .t 71]),
o_ 73 (.extract (.t 72) 0),
o_ 74 (.extract (.t 72) 1),
⟨none, .store 2 (.t 4) (.t 73), none⟩,
m_ 5 74] false)
.ret)))))),
[.cell true 2 4, .t 5]⟩
theorem ok145 : okFunc Go.Proofs.Tryz.prog 145 lf145 = true := by kernel_rfl
def lf146 : LFunc := ⟨55, 2,
(.seq
(.region [
o_ 3 (.boxt 14 (.t 1))] false)
(.seq
(.seq
(.region [
o_ 5 (.fadr 6 (.t 3)),
o_ 6 (.fadr 2 (.t 5)),
o_ 7 (.load false 1 (.t 6)),
m_ 8 0,
o_ 9 (.nilck (.t 8)),
o_ 10 (.fadr 15 (.t 9)),
o_ 11 (.load false 1 (.t 10)),
o_ 12 (.len .sli (.t 11)),
o_ 13 (.bin .gtr (.t 7) (.t 12))] true)
(.cond (.t 13)
(.seq
(.region [
m_ 14 0,
o_ 15 (.fadr 1 (.t 3)),
o_ 16 (.load false 1 (.t 15)),
o_ 17 (.call false (.c (.fn 99 [] [])) [.t 14, .c (.int .i64 24), .t 16])] false)
.ret)
.skip))
(.seq
(.region [
m_ 18 0,
m_ 19 0,
o_ 20 (.nilck (.t 19)),
o_ 21 (.fadr 15 (.t 20)),
o_ 22 (.load false 1 (.t 21)),
m_ 23 0,
o_ 24 (.nilck (.t 23)),
o_ 25 (.fadr 15 (.t 24)),
o_ 26 (.load false 1 (.t 25)),
o_ 27 (.len .sli (.t 26)),
o_ 28 (.fadr 6 (.t 3)),
o_ 29 (.fadr 2 (.t 28)),
o_ 30 (.load false 1 (.t 29)),
o_ 31 (.bin .sub (.t 27) (.t 30)),
o_ 32 (.slice 1 (.t 22) none (some (.t 31)) none),
o_ 33 (.nilck (.t 18)),
o_ 34 (.fadr 15 (.t 33)),
⟨none, .store 1 (.t 34) (.t 32), none⟩] true)
(.seq
(.region [
o_ 4 (.mv (.c (.int .i64 0)))] false)
(.block 0
(.loop
(.seq
(.seq
(.region [
m_ 35 4,
o_ 36 (.fadr 6 (.t 3)),
o_ 37 (.fadr 1 (.t 36)),
o_ 38 (.load false 1 (.t 37)),
o_ 39 (.bin .lss (.t 35) (.t 38))] false)
(.cond (.t 39)
.skip
(.exit 0)))
(.seq
(.block 1
(.region [
m_ 42 0,
o_ 43 (.bsl 1 0 [.int .i64 0] []),
m_ 44 0,
o_ 45 (.nilck (.t 44)),
o_ 46 (.fadr 15 (.t 45)),
o_ 47 (.load false 1 (.t 46)),
o_ 48 (.appendH 1 8 (.t 43) (.t 47)),
o_ 49 (.fadr 1 (.t 3)),
o_ 50 (.load false 1 (.t 49)),
o_ 51 (.btsl 1 1 [.int .i64 0] [(0, .t 50)]),
o_ 52 (.appendH 1 8 (.t 48) (.t 51)),
o_ 53 (.nilck (.t 42)),
o_ 54 (.fadr 15 (.t 53)),
⟨none, .store 1 (.t 54) (.t 52), none⟩] true))
(.region [
m_ 40 4,
o_ 41 (.bin .add (.t 40) (.c (.int .i64 1))),
m_ 4 41] false))))))))),
[]⟩
theorem ok146 : okFunc Go.Proofs.Tryz.prog 146 lf146 = true := by kernel_rfl
def lf147 : LFunc := ⟨28, 2,
(.seq
(.region [
o_ 3 (.box 18 (.t 1))] false)
(.seq
(.region [
m_ 4 0,
o_ 5 (.nilck (.t 4)),
o_ 6 (.fadr 7 (.t 5)),
o_ 7 (.load true 2 (.t 6)),
o_ 8 (.fadr 2 (.t 3)),
⟨none, .store 2 (.t 8) (.t 7), none⟩] false)
(.seq
(.region [
o_ 9 (.bsl 1 0 [.int .i64 0] []),
m_ 10 0,
o_ 11 (.nilck (.t 10)),
o_ 12 (.fadr 11 (.t 11)),
o_ 13 (.load false 1 (.t 12)),
o_ 14 (.append 1 8 (.t 9) (.t 13)),
o_ 15 (.fadr 13 (.t 3)),
⟨none, .store 1 (.t 15) (.t 14), none⟩] false)
(.region [
m_ 16 0,
m_ 17 0,
o_ 18 (.nilck (.t 17)),
o_ 19 (.fadr 0 (.t 18)),
o_ 20 (.fadr 2 (.t 19)),
o_ 21 (.load false 1 (.t 20)),
o_ 22 (.load true 18 (.t 3)),
o_ 23 (.btsl 18 1 [.int .i64 0, .int .i64 0, .int .i64 0, .int .i64 0, .int .i64 0, .int .i64 0, .int .i64 0, .int .i64 0, .nils, .bool false, .int .i64 0, .int .i64 0, .str ⟨#[]⟩, .nils, .int .i64 0, .int .i64 0, .int .i64 0, .int .i64 0] [(0, .t 22)]),
o_ 24 (.append 18 184 (.t 21) (.t 23)),
o_ 25 (.nilck (.t 16)),
o_ 26 (.fadr 0 (.t 25)),
o_ 27 (.fadr 2 (.t 26)),
⟨none, .store 1 (.t 27) (.t 24), none⟩] true)))),
[]⟩
theorem ok147 : okFunc Go.Proofs.Tryz.prog 147 lf147 = true := by kernel_rfl
def lf148 : LFunc := ⟨14, 2,
(.seq
(.region [
o_ 4 (.newv [.int .i64 0, .int .i64 0])] false)
(.seq
(.region [
m_ 8 0,
m_ 9 1,
o_ 10 (.call false (.c (.fn 187 [] [])) [.t 8, .t 9]),
m_ 7 10,
o_ 11 (.extract (.t 7) 0),
o_ 12 (.extract (.t 7) 1),
o_ 5 (.newv [.int .i64 0, .int .i64 0]),
⟨none, .store 2 (.t 5) (.t 11), none⟩,
m_ 6 12] false)
(.seq
(.region [
o_ 13 (.load true 2 (.t 5)),
⟨none, .store 2 (.t 4) (.t 13), none⟩] false)
.ret))),
[.cell true 2 4]⟩
theorem ok148 : okFunc Go.Proofs.Tryz.prog 148 lf148 = true := by kernel_rfl
def lf149 : LFunc := ⟨21, 1,
(.seq
(.region [
o_ 2 (.mv (.c (.int .i64 0))),
o_ 3 (.mv (.c (.bool false)))] false)
(.seq
(.region [
o_ 6 (.call false (.c (.fn 189 [] [])) []),
m_ 4 6] false)
(.seq
(.seq
(.region [
o_ 5 (.mv (.c (.int .i64 0)))] false)
(.block 0
(.loop
(.seq
(.seq
(.region [
m_ 7 5,
m_ 8 4,
o_ 9 (.len .sli (.t 8)),
o_ 10 (.bin .lss (.t 7) (.t 9))] false)
(.cond (.t 10)
.skip
(.exit 0)))
(.seq
(.block 1
(.seq
(.region [
m_ 13 4,
m_ 14 5,
o_ 15 (.idxa 1 (.t 13) (.t 14)),
o_ 16 (.load false 1 (.t 15)),
m_ 17 0,
o_ 18 (.bin .eql (.t 16) (.t 17))] false)
(.cond (.t 18)
(.seq
(.region [
m_ 19 5,
o_ 20 (.bin .add (.t 19) (.c (.int .i64 1))),
m_ 2 20,
o_ 3 (.mv (.c (.bool true)))] false)
.ret)
.skip)))
(.region [
m_ 11 5,
o_ 12 (.bin .add (.t 11) (.c (.int .i64 1))),
m_ 5 12] false))))))
(.seq
(.region [
o_ 2 (.mv (.c (.int .i64 0))),
o_ 3 (.mv (.c (.bool false)))] false)
.ret)))),
[.t 2, .t 3]⟩
theorem ok149 : okFunc Go.Proofs.Tryz.prog 149 lf149 = true := by kernel_rfl
def lf150 : LFunc := ⟨40, 3,
(.seq
(.region [
o_ 6 (.mv (.c (.int .i64 0))),
o_ 7 (.mv (.c (.bool false)))] false)
(.seq
(.seq
(.region [
m_ 9 0,
o_ 10 (.bin .lss (.t 9) (.c (.int .i64 0))),
m_ 11 10,
g_ 12 (.mv (.t 0)) 11 false,
g_ 13 (.bin .gtr (.t 12) (.c (.int .i64 6))) 11 false,
o_ 14 (.pick (.t 11) (.c (.bool true)) (.t 13)),
m_ 15 14,
g_ 16 (.mv (.t 1)) 15 false,
g_ 17 (.bin .lss (.t 16) (.c (.int .i64 (-2)))) 15 false,
o_ 18 (.pick (.t 15) (.c (.bool true)) (.t 17)),
m_ 19 18,
g_ 20 (.mv (.t 1)) 19 false,
g_ 21 (.bin .gtr (.t 20) (.c (.int .i64 2))) 19 false,
o_ 22 (.pick (.t 19) (.c (.bool true)) (.t 21))] false)
(.cond (.t 22)
(.seq
(.region [
o_ 6 (.mv (.c (.int .i64 0))),
o_ 7 (.mv (.c (.bool false)))] false)
.ret)
.skip))
(.seq
(.region [
o_ 23 (.bsl 1 7 [.int .i64 0] [(0, .c (.int .i64 0)), (1, .c (.int .i64 2)), (2, .c (.int .i64 4)), (3, .c (.int .i64 (-1))), (4, .c (.int .i64 1)), (5, .c (.int .i64 3)), (6, .c (.int .i64 5))]),
m_ 24 0,
o_ 25 (.idxa 1 (.t 23) (.t 24)),
o_ 26 (.load false 1 (.t 25)),
m_ 27 1,
o_ 28 (.bin .mul (.c (.int .i64 7)) (.t 27)),
o_ 29 (.bin .add (.t 26) (.t 28)),
m_ 8 29] false)
(.seq
(.seq
(.region [
m_ 30 2] false)
(.cond (.t 30)
(.region [
m_ 31 8,
o_ 32 (.bin .sub (.t 31) (.c (.int .i64 3))),
m_ 8 32] false)
.skip))
(.seq
(.seq
(.region [
m_ 33 8,
o_ 34 (.bin .lss (.t 33) (.c (.int .i64 (-7)))),
m_ 35 34,
g_ 36 (.mv (.t 8)) 35 false,
g_ 37 (.bin .gtr (.t 36) (.c (.int .i64 7))) 35 false,
o_ 38 (.pick (.t 35) (.c (.bool true)) (.t 37))] false)
(.cond (.t 38)
(.seq
(.region [
o_ 6 (.mv (.c (.int .i64 0))),
o_ 7 (.mv (.c (.bool false)))] false)
.ret)
.skip))
(.seq
(.region [
m_ 39 8,
m_ 6 39,
o_ 7 (.mv (.c (.bool true)))] false)
.ret)))))),
[.t 6, .t 7]⟩
theorem ok150 : okFunc Go.Proofs.Tryz.prog 150 lf150 = true := by kernel_rfl
def lf151 : LFunc := ⟨20, 1,
(.seq
(.region [
o_ 1 (.boxt 2 (.t 0)),
o_ 2 (.newv [.int .i64 0, .int .i64 0]),
o_ 3 (.mv (.c (.int .i64 0)))] false)
(.seq
(.seq
(.region [
o_ 5 (.load true 2 (.t 1)),
o_ 6 (.call false (.c (.fn 164 [] [])) [.t 5]),
o_ 7 (.call false (.c (.fn 190 [] [])) [.t 6]),
m_ 4 7] false)
(.seq
(.region [
m_ 8 4,
o_ 9 (.ifnil true (.t 8))] false)
(.cond (.t 9)
(.seq
(.region [
o_ 10 (.build [.int .i64 0, .int .i64 0] []),
m_ 11 4,
o_ 12 (.call false (.c (.fn 191 [] [])) [.t 11]),
⟨none, .store 2 (.t 2) (.t 10), none⟩,
m_ 3 12] false)
.ret)
.skip)))
(.seq
(.region [
o_ 13 (.fadr 0 (.t 1)),
o_ 14 (.load false 1 (.t 13)),
o_ 15 (.fadr 1 (.t 1)),
o_ 16 (.load false 1 (.t 15)),
o_ 17 (.call false (.c (.fn 155 [] [])) [.t 14, .t 16]),
o_ 18 (.extract (.t 17) 0),
o_ 19 (.extract (.t 17) 1),
⟨none, .store 2 (.t 2) (.t 18), none⟩,
m_ 3 19] false)
.ret))),
[.cell true 2 2, .t 3]⟩
theorem ok151 : okFunc Go.Proofs.Tryz.prog 151 lf151 = true := by kernel_rfl
def lf152 : LFunc := ⟨33, 2,
(.seq
(.region [
o_ 3 (.boxt 2 (.t 1)),
o_ 4 (.mv (.c (.int .i64 0)))] false)
(.seq
(.region [
m_ 8 0,
o_ 9 (.load true 2 (.t 3)),
o_ 10 (.call false (.c (.fn 192 [] [])) [.t 8, .t 9, .c (.fn 193 [] [])]),
m_ 7 10,
o_ 11 (.extract (.t 7) 0),
o_ 12 (.extract (.t 7) 1),
m_ 5 11,
m_ 6 12] false)
(.seq
(.seq
(.region [
m_ 13 6] false)
(.cond (.t 13)
(.seq
(.region [
m_ 14 5,
m_ 4 14] false)
.ret)
.skip))
(.seq
(.seq
(.region [
m_ 15 5,
m_ 16 0,
o_ 17 (.len .sli (.t 16)),
o_ 18 (.bin .eql (.t 15) (.t 17)),
m_ 19 18,
g_ 20 (.mv (.t 0)) 19 true,
g_ 21 (.mv (.t 5)) 19 true,
g_ 22 (.bin .sub (.t 21) (.c (.int .i64 1))) 19 true,
g_ 23 (.idxa 4 (.t 20) (.t 22)) 19 true,
g_ 24 (.load true 4 (.t 23)) 19 true,
g_ 25 (.call false (.c (.fn 103 [] [])) [.t 24]) 19 true,
g_ 26 (.load true 2 (.t 3)) 19 true,
g_ 27 (.call false (.c (.fn 62 [] [])) [.t 25, .t 26]) 19 true,
g_ 28 (.bin .leq (.t 27) (.c (.int .i64 0))) 19 true,
o_ 29 (.pick (.t 19) (.t 28) (.c (.bool false)))] true)
(.cond (.t 29)
(.seq
(.region [
m_ 30 5,
m_ 4 30] false)
.ret)
.skip))
(.seq
(.region [
m_ 31 5,
o_ 32 (.bin .sub (.t 31) (.c (.int .i64 1))),
m_ 4 32] false)
.ret))))),
[.t 4]⟩
theorem ok152 : okFunc Go.Proofs.Tryz.prog 152 lf152 = true := by kernel_rfl
def lf153 : LFunc := ⟨38, 1,
(.seq
(.region [
o_ 2 (.mv (.c (.bool false)))] false)
(.seq
(.seq
(.region [
m_ 6 0,
o_ 7 (.len .sli (.t 6)),
o_ 8 (.bin .lss (.t 7) (.c (.int .i64 1))),
m_ 9 8,
g_ 10 (.mv (.t 0)) 9 false,
g_ 11 (.len .sli (.t 10)) 9 false,
g_ 12 (.bin .gtr (.t 11) (.c (.int .i64 4096))) 9 false,
o_ 13 (.pick (.t 9) (.c (.bool true)) (.t 12))] false)
(.cond (.t 13)
(.seq
(.region [
o_ 2 (.mv (.c (.bool false)))] false)
.ret)
.skip))
(.seq
(.region [
o_ 14 (.call false (.c (.fn 102 [] [])) []),
o_ 15 (.build [.int .i64 0, .int .i64 0, .int .i64 0, .int .i64 0] [(0, 2, .t 14)]),
o_ 3 (.newv [.int .i64 0, .int .i64 0, .int .i64 0, .int .i64 0]),
⟨none, .store 4 (.t 3) (.t 15), none⟩] false)
(.seq
(.seq
(.region [
m_ 16 0,
o_ 17 (.len .sli (.t 16)),
o_ 18 (.mv (.c (.int .i64 0)))] false)
(.block 0
(.loop
(.seq
(.region [
o_ 19 (.bin .lss (.t 18) (.t 17))] false)
(.seq
(.cond (.t 19)
.skip
(.exit 0))
(.seq
(.block 1
(.seq
(.region [
o_ 20 (.idxa 4 (.t 16) (.t 18)),
o_ 21 (.load true 4 (.t 20)),
o_ 5 (.newv [.int .i64 0, .int .i64 0, .int .i64 0, .int .i64 0]),
⟨none, .store 4 (.t 5) (.t 21), none⟩] false)
(.seq
(.region [
o_ 22 (.fadr 2 (.t 5)),
o_ 23 (.load true 2 (.t 22)),
o_ 24 (.fadr 2 (.t 3)),
⟨none, .store 2 (.t 24) (.t 23), none⟩] false)
(.seq
(.seq
(.region [
o_ 25 (.load true 4 (.t 5)),
o_ 26 (.load true 4 (.t 3)),
o_ 27 (.eq true (.ag [.i, .i, .i, .i]) (.t 25) (.t 26)),
m_ 28 27,
g_ 29 (.fadr 2 (.t 5)) 28 false,
g_ 30 (.load true 2 (.t 29)) 28 false,
g_ 31 (.call false (.c (.fn 164 [] [])) [.t 30]) 28 false,
g_ 32 (.not (.t 31)) 28 false,
o_ 33 (.pick (.t 28) (.c (.bool true)) (.t 32))] false)
(.cond (.t 33)
(.seq
(.region [
o_ 2 (.mv (.c (.bool false)))] false)
.ret)
.skip))
(.region [
o_ 34 (.load true 4 (.t 5)),
o_ 35 (.call false (.c (.fn 103 [] [])) [.t 34]),
o_ 36 (.fadr 0 (.t 3)),
⟨none, .store 2 (.t 36) (.t 35), none⟩] false)))))
(.region [
o_ 37 (.bin .add (.t 18) (.c (.int .i64 1))),
m_ 18 37] false)))))))
(.seq
(.region [
o_ 2 (.mv (.c (.bool true)))] false)
.ret))))),
[.t 2]⟩
theorem ok153 : okFunc Go.Proofs.Tryz.prog 153 lf153 = true := by kernel_rfl
def lf154 : LFunc := ⟨17, 2,
(.seq
(.region [
o_ 2 (.boxt 2 (.t 0)),
o_ 3 (.boxt 2 (.t 1)),
o_ 4 (.newv [.int .i64 0, .int .i64 0]),
o_ 5 (.mv (.c (.int .i64 0)))] false)
(.seq
(.seq
(.region [
o_ 6 (.load true 2 (.t 2)),
o_ 7 (.load true 2 (.t 3)),
o_ 8 (.call false (.c (.fn 100 [] [])) [.t 6, .t 7]),
o_ 9 (.not (.t 8))] false)
(.cond (.t 9)
(.seq
(.region [
o_ 10 (.call false (.c (.fn 118 [] [])) []),
⟨none, .store 2 (.t 4) (.t 10), none⟩,
o_ 5 (.mv (.c (.int .i64 2)))] false)
.ret)
.skip))
(.seq
(.region [
o_ 11 (.load true 2 (.t 2)),
o_ 12 (.load true 2 (.t 3)),
o_ 13 (.call false (.c (.fn 194 [] [])) [.t 12]),
o_ 14 (.call false (.c (.fn 74 [] [])) [.t 11, .t 13]),
o_ 15 (.extract (.t 14) 0),
o_ 16 (.extract (.t 14) 1),
⟨none, .store 2 (.t 4) (.t 15), none⟩,
m_ 5 16] true)
.ret))),
[.cell true 2 4, .t 5]⟩
theorem ok154 : okFunc Go.Proofs.Tryz.prog 154 lf154 = true := by kernel_rfl
def lf155 : LFunc := ⟨30, 2,
(.seq
(.region [
o_ 4 (.newv [.int .i64 0, .int .i64 0]),
o_ 5 (.mv (.c (.int .i64 0)))] false)
(.seq
(.seq
(.region [
m_ 6 1,
o_ 7 (.bin .eql (.t 6) (.c (.int .i64 0))),
m_ 8 7,
g_ 9 (.mv (.t 0)) 8 false,
g_ 10 (.bin .lss (.t 9) (.c (.int .i64 (-1152921504606846976)))) 8 false,
o_ 11 (.pick (.t 8) (.c (.bool true)) (.t 10)),
m_ 12 11,
g_ 13 (.mv (.t 0)) 12 false,
g_ 14 (.bin .gtr (.t 13) (.c (.int .i64 1152921504606846976))) 12 false,
o_ 15 (.pick (.t 12) (.c (.bool true)) (.t 14)),
m_ 16 15,
g_ 17 (.mv (.t 1)) 16 false,
g_ 18 (.bin .lss (.t 17) (.c (.int .i64 (-1152921504606846976)))) 16 false,
o_ 19 (.pick (.t 16) (.c (.bool true)) (.t 18)),
m_ 20 19,
g_ 21 (.mv (.t 1)) 20 false,
g_ 22 (.bin .gtr (.t 21) (.c (.int .i64 1152921504606846976))) 20 false,
o_ 23 (.pick (.t 20) (.c (.bool true)) (.t 22))] false)
(.cond (.t 23)
(.seq
(.region [
o_ 24 (.call false (.c (.fn 118 [] [])) []),
⟨none, .store 2 (.t 4) (.t 24), none⟩,
o_ 5 (.mv (.c (.int .i64 2)))] false)
.ret)
.skip))
(.seq
(.region [
m_ 25 0,
m_ 26 1,
o_ 27 (.call false (.c (.fn 120 [] [])) [.t 25, .t 26]),
o_ 28 (.extract (.t 27) 0),
o_ 29 (.extract (.t 27) 1),
⟨none, .store 2 (.t 4) (.t 28), none⟩,
m_ 5 29] false)
.ret))),
[.cell true 2 4, .t 5]⟩
theorem ok155 : okFunc Go.Proofs.Tryz.prog 155 lf155 = true := by kernel_rfl
def lf156 : LFunc := ⟨25, 2,
(.seq
(.region [
o_ 2 (.boxt 2 (.t 0)),
o_ 3 (.boxt 2 (.t 1)),
o_ 4 (.newv [.int .i64 0, .int .i64 0]),
o_ 5 (.mv (.c (.int .i64 0)))] false)
(.seq
(.seq
(.region [
o_ 6 (.load true 2 (.t 2)),
o_ 7 (.load true 2 (.t 3)),
o_ 8 (.call false (.c (.fn 100 [] [])) [.t 6, .t 7]),
o_ 9 (.not (.t 8))] false)
(.cond (.t 9)
(.seq
(.region [
o_ 10 (.call false (.c (.fn 118 [] [])) []),
⟨none, .store 2 (.t 4) (.t 10), none⟩,
o_ 5 (.mv (.c (.int .i64 2)))] false)
.ret)
.skip))
(.seq
(.seq
(.region [
o_ 11 (.fadr 0 (.t 2)),
o_ 12 (.load false 1 (.t 11)),
o_ 13 (.bin .eql (.t 12) (.c (.int .i64 0))),
m_ 14 13,
g_ 15 (.fadr 0 (.t 3)) 14 false,
g_ 16 (.load false 1 (.t 15)) 14 false,
g_ 17 (.bin .eql (.t 16) (.c (.int .i64 0))) 14 false,
o_ 18 (.pick (.t 14) (.c (.bool true)) (.t 17))] false)
(.cond (.t 18)
(.seq
(.region [
o_ 19 (.call false (.c (.fn 195 [] [])) [.c (.int .i64 0)]),
⟨none, .store 2 (.t 4) (.t 19), none⟩,
o_ 5 (.mv (.c (.int .i64 0)))] false)
.ret)
.skip))
(.seq
(.region [
o_ 20 (.load true 2 (.t 2)),
o_ 21 (.load true 2 (.t 3)),
o_ 22 (.call false (.c (.fn 196 [] [])) [.t 20, .t 21]),
o_ 23 (.extract (.t 22) 0),
o_ 24 (.extract (.t 22) 1),
⟨none, .store 2 (.t 4) (.t 23), none⟩,
m_ 5 24] false)
.ret)))),
[.cell true 2 4, .t 5]⟩
theorem ok156 : okFunc Go.Proofs.Tryz.prog 156 lf156 = true := by kernel_rfl
def lf157 : LFunc := ⟨36, 1,
(.seq
(.region [
o_ 1 (.boxt 2 (.t 0)),
o_ 2 (.mv (.c (.nils))),
o_ 3 (.mv (.c (.int .i64 0)))] false)
(.seq
(.seq
(.region [
o_ 9 (.load true 2 (.t 1)),
o_ 10 (.call false (.c (.fn 164 [] [])) [.t 9]),
o_ 11 (.call false (.c (.fn 190 [] [])) [.t 10]),
m_ 4 11] false)
(.seq
(.region [
m_ 12 4,
o_ 13 (.ifnil true (.t 12))] false)
(.cond (.t 13)
(.seq
(.region [
m_ 14 4,
o_ 15 (.call false (.c (.fn 191 [] [])) [.t 14]),
o_ 2 (.mv (.c (.nils))),
m_ 3 15] false)
.ret)
.skip)))
(.seq
(.region [
o_ 5 (.own 2)] false)
(.seq
(.seq
(.region [
o_ 6 (.mv (.c (.int .i64 0)))] false)
(.block 0
(.loop
(.seq
(.seq
(.region [
m_ 16 6,
o_ 17 (.fadr 0 (.t 1)),
o_ 18 (.load false 1 (.t 17)),
o_ 19 (.bin .lss (.t 16) (.t 18))] false)
(.cond (.t 19)
.skip
(.exit 0)))
(.seq
(.block 1
(.seq
(.region [
m_ 25 6,
o_ 26 (.fadr 1 (.t 1)),
o_ 27 (.load false 1 (.t 26)),
o_ 28 (.call false (.c (.fn 155 [] [])) [.t 25, .t 27]),
m_ 24 28,
o_ 29 (.extract (.t 24) 0),
o_ 30 (.extract (.t 24) 1),
o_ 7 (.newv [.int .i64 0, .int .i64 0]),
⟨none, .store 2 (.t 7) (.t 29), none⟩,
m_ 8 30] false)
(.region [
m_ 31 5,
o_ 32 (.load true 2 (.t 7)),
o_ 33 (.btsl 2 1 [.int .i64 0, .int .i64 0] [(0, .t 32)]),
o_ 34 (.append 2 16 (.t 31) (.t 33)),
m_ 5 34] false)))
(.region [
m_ 20 6,
o_ 21 (.load true 2 (.t 1)),
o_ 22 (.call false (.c (.fn 160 [] [])) [.t 21]),
o_ 23 (.bin .add (.t 20) (.t 22)),
m_ 6 23] false))))))
(.seq
(.region [
m_ 35 5,
m_ 2 35,
o_ 3 (.mv (.c (.int .i64 0)))] false)
.ret))))),
[.t 2, .t 3]⟩
theorem ok157 : okFunc Go.Proofs.Tryz.prog 157 lf157 = true := by kernel_rfl
def lf158 : LFunc := ⟨49, 3,
(.seq
(.region [
o_ 4 (.boxt 2 (.t 1)),
o_ 6 (.mv (.c (.int .i64 0))),
o_ 7 (.mv (.c (.bool false)))] false)
(.seq
(.region [
m_ 12 0,
o_ 13 (.len .sli (.t 12)),
m_ 8 13] false)
(.seq
(.region [
m_ 14 8,
o_ 9 (.mv (.c (.int .i64 0))),
m_ 10 14] false)
(.seq
(.block 0
(.loop
(.seq
(.seq
(.region [
m_ 15 9,
m_ 16 10,
o_ 17 (.bin .lss (.t 15) (.t 16))] false)
(.cond (.t 17)
.skip
(.exit 0)))
(.block 1
(.seq
(.region [
m_ 18 9,
m_ 19 10,
o_ 20 (.bin .add (.t 18) (.t 19)),
o_ 21 (.conv .u64 (.t 20)),
o_ 22 (.bin .shr (.t 21) (.c (.int .u64 1))),
o_ 23 (.conv .i64 (.t 22)),
m_ 11 23] false)
(.seq
(.region [
m_ 24 2,
m_ 25 0,
m_ 26 11,
o_ 27 (.idxa 2 (.t 25) (.t 26)),
o_ 28 (.load true 2 (.t 27)),
o_ 29 (.load true 2 (.t 4)),
o_ 30 (.call false (.t 24) [.t 28, .t 29]),
o_ 31 (.bin .lss (.t 30) (.c (.int .i64 0)))] true)
(.cond (.t 31)
(.region [
m_ 32 11,
o_ 33 (.bin .add (.t 32) (.c (.int .i64 1))),
m_ 9 33] false)
(.region [
m_ 34 11,
m_ 10 34] false))))))))
(.seq
(.region [
m_ 35 9,
m_ 36 9,
m_ 37 8,
o_ 38 (.bin .lss (.t 36) (.t 37)),
m_ 39 38,
g_ 40 (.mv (.t 2)) 39 true,
g_ 41 (.mv (.t 0)) 39 true,
g_ 42 (.mv (.t 9)) 39 true,
g_ 43 (.idxa 2 (.t 41) (.t 42)) 39 true,
g_ 44 (.load true 2 (.t 43)) 39 true,
g_ 45 (.load true 2 (.t 4)) 39 true,
g_ 46 (.call false (.t 40) [.t 44, .t 45]) 39 true,
g_ 47 (.bin .eql (.t 46) (.c (.int .i64 0))) 39 true,
o_ 48 (.pick (.t 39) (.t 47) (.c (.bool false))),
m_ 6 35,
m_ 7 48] true)
.ret))))),
[.t 6, .t 7]⟩
theorem ok158 : okFunc Go.Proofs.Tryz.prog 158 lf158 = true := by kernel_rfl
def lf159 : LFunc := ⟨27, 1,
(.seq
(.region [
o_ 1 (.boxt 2 (.t 0)),
o_ 2 (.mv (.c (.int .i64 0)))] false)
(.seq
(.seq
(.region [
o_ 4 (.load true 2 (.t 1)),
o_ 5 (.call false (.c (.fn 110 [] [])) [.t 4]),
o_ 6 (.not (.t 5))] false)
(.cond (.t 6)
(.seq
(.region [
o_ 2 (.mv (.c (.int .i64 0)))] false)
.ret)
.skip))
(.seq
(.region [
o_ 7 (.fadr 0 (.t 1)),
o_ 8 (.load false 1 (.t 7)),
o_ 9 (.fadr 1 (.t 1)),
o_ 10 (.load false 1 (.t 9)),
o_ 11 (.bin .quo (.t 8) (.t 10)),
m_ 3 11] false)
(.seq
(.seq
(.region [
o_ 12 (.fadr 0 (.t 1)),
o_ 13 (.load false 1 (.t 12)),
o_ 14 (.bin .lss (.t 13) (.c (.int .i64 0))),
m_ 15 14,
g_ 16 (.fadr 0 (.t 1)) 15 true,
g_ 17 (.load false 1 (.t 16)) 15 true,
g_ 18 (.mv (.t 3)) 15 true,
g_ 19 (.fadr 1 (.t 1)) 15 true,
g_ 20 (.load false 1 (.t 19)) 15 true,
g_ 21 (.bin .mul (.t 18) (.t 20)) 15 true,
g_ 22 (.bin .neq (.t 17) (.t 21)) 15 true,
o_ 23 (.pick (.t 15) (.t 22) (.c (.bool false)))] false)
(.cond (.t 23)
(.region [
m_ 24 3,
o_ 25 (.bin .sub (.t 24) (.c (.int .i64 1))),
m_ 3 25] false)
.skip))
(.seq
(.region [
m_ 26 3,
m_ 2 26] false)
.ret))))),
[.t 2]⟩
theorem ok159 : okFunc Go.Proofs.Tryz.prog 159 lf159 = true := by kernel_rfl
def lf160 : LFunc := ⟨17, 1,
(.seq
(.region [
o_ 1 (.boxt 2 (.t 0)),
o_ 2 (.mv (.c (.int .i64 0)))] false)
(.seq
(.seq
(.region [
o_ 3 (.fadr 1 (.t 1)),
o_ 4 (.load false 1 (.t 3)),
o_ 5 (.bin .geq (.t 4) (.c (.int .i64 8))),
m_ 6 5,
g_ 7 (.fadr 0 (.t 1)) 6 true,
g_ 8 (.load false 1 (.t 7)) 6 true,
g_ 9 (.bin .gtr (.t 8) (.c (.int .i64 3))) 6 true,
o_ 10 (.pick (.t 6) (.t 9) (.c (.bool false))),
m_ 11 10,
g_ 12 (.fadr 0 (.t 1)) 11 true,
g_ 13 (.load false 1 (.t 12)) 11 true,
g_ 14 (.bin .rem (.t 13) (.c (.int .i64 3))) 11 true,
g_ 15 (.bin .eql (.t 14) (.c (.int .i64 0))) 11 true,
o_ 16 (.pick (.t 11) (.t 15) (.c (.bool false)))] false)
(.cond (.t 16)
(.seq
(.region [
o_ 2 (.mv (.c (.int .i64 3)))] false)
.ret)
.skip))
(.seq
(.region [
o_ 2 (.mv (.c (.int .i64 1)))] false)
.ret))),
[.t 2]⟩
theorem ok160 : okFunc Go.Proofs.Tryz.prog 160 lf160 = true := by kernel_rfl
def lf161 : LFunc := ⟨8, 1,
(.seq
(.region [
o_ 2 (.mv (.c (.int .i64 0)))] false)
(.seq
(.seq
(.region [
m_ 3 0,
o_ 4 (.bin .lss (.t 3) (.c (.int .i64 0)))] false)
(.cond (.t 4)
(.seq
(.region [
m_ 5 0,
o_ 6 (.neg (.t 5)),
m_ 2 6] false)
.ret)
.skip))
(.seq
(.region [
m_ 7 0,
m_ 2 7] false)
.ret))),
[.t 2]⟩
theorem ok161 : okFunc Go.Proofs.Tryz.prog 161 lf161 = true := by kernel_rfl
def lf162 : LFunc := ⟨16, 1,
(.seq
(.region [
o_ 1 (.boxt 3 (.t 0)),
o_ 2 (.mv (.c (.bool false)))] false)
(.seq
(.region [
o_ 3 (.fadr 0 (.t 1)),
o_ 4 (.load false 1 (.t 3)),
o_ 5 (.call false (.c (.fn 197 [] [])) [.t 4, .c (.int .i64 0), .c (.int .i64 6)]),
m_ 6 5,
g_ 7 (.fadr 1 (.t 1)) 6 true,
g_ 8 (.load false 1 (.t 7)) 6 true,
g_ 9 (.call false (.c (.fn 197 [] [])) [.t 8, .c (.int .i64 (-2)), .c (.int .i64 2)]) 6 true,
o_ 10 (.pick (.t 6) (.t 9) (.c (.bool false))),
m_ 11 10,
g_ 12 (.fadr 2 (.t 1)) 11 true,
g_ 13 (.load false 1 (.t 12)) 11 true,
g_ 14 (.call false (.c (.fn 197 [] [])) [.t 13, .c (.int .i64 0), .c (.int .i64 9)]) 11 true,
o_ 15 (.pick (.t 11) (.t 14) (.c (.bool false))),
m_ 2 15] false)
.ret)),
[.t 2]⟩
theorem ok162 : okFunc Go.Proofs.Tryz.prog 162 lf162 = true := by kernel_rfl
def lf163 : LFunc := ⟨19, 2,
(.seq
(.region [
o_ 2 (.boxt 3 (.t 0)),
o_ 3 (.boxt 3 (.t 1)),
o_ 4 (.mv (.c (.int .i64 0)))] false)
(.seq
(.seq
(.region [
o_ 6 (.load true 3 (.t 2)),
o_ 7 (.call false (.c (.fn 198 [] [])) [.t 6]),
o_ 8 (.load true 3 (.t 3)),
o_ 9 (.call false (.c (.fn 198 [] [])) [.t 8]),
o_ 10 (.bin .sub (.t 7) (.t 9)),
m_ 5 10] true)
(.seq
(.region [
m_ 11 5,
o_ 12 (.bin .neq (.t 11) (.c (.int .i64 0)))] false)
(.cond (.t 12)
(.seq
(.region [
m_ 13 5,
m_ 4 13] false)
.ret)
.skip)))
(.seq
(.region [
o_ 14 (.fadr 1 (.t 2)),
o_ 15 (.load false 1 (.t 14)),
o_ 16 (.fadr 1 (.t 3)),
o_ 17 (.load false 1 (.t 16)),
o_ 18 (.bin .sub (.t 15) (.t 17)),
m_ 4 18] false)
.ret))),
[.t 4]⟩
theorem ok163 : okFunc Go.Proofs.Tryz.prog 163 lf163 = true := by kernel_rfl
def lf164 : LFunc := ⟨32, 1,
(.seq
(.region [
o_ 1 (.boxt 2 (.t 0)),
o_ 2 (.mv (.c (.bool false)))] false)
(.seq
(.region [
o_ 4 (.fadr 1 (.t 1)),
o_ 5 (.load false 1 (.t 4)),
o_ 6 (.bin .geq (.t 5) (.c (.int .i64 1))),
m_ 7 6,
g_ 8 (.fadr 1 (.t 1)) 7 true,
g_ 9 (.load false 1 (.t 8)) 7 true,
g_ 10 (.bin .leq (.t 9) (.c (.int .i64 32))) 7 true,
o_ 11 (.pick (.t 7) (.t 10) (.c (.bool false))),
m_ 12 11,
g_ 13 (.fadr 1 (.t 1)) 12 true,
g_ 14 (.load false 1 (.t 13)) 12 true,
g_ 15 (.fadr 1 (.t 1)) 12 true,
g_ 16 (.load false 1 (.t 15)) 12 true,
g_ 17 (.bin .sub (.t 16) (.c (.int .i64 1))) 12 true,
g_ 18 (.bin .and (.t 14) (.t 17)) 12 true,
g_ 19 (.bin .eql (.t 18) (.c (.int .i64 0))) 12 true,
o_ 20 (.pick (.t 12) (.t 19) (.c (.bool false))),
m_ 3 20] false)
(.seq
(.region [
m_ 21 3,
m_ 22 21,
g_ 23 (.fadr 0 (.t 1)) 22 true,
g_ 24 (.load false 1 (.t 23)) 22 true,
g_ 25 (.bin .geq (.t 24) (.c (.int .i64 1))) 22 true,
o_ 26 (.pick (.t 22) (.t 25) (.c (.bool false))),
m_ 27 26,
g_ 28 (.fadr 0 (.t 1)) 27 true,
g_ 29 (.load false 1 (.t 28)) 27 true,
g_ 30 (.bin .leq (.t 29) (.c (.int .i64 32))) 27 true,
o_ 31 (.pick (.t 27) (.t 30) (.c (.bool false))),
m_ 2 31] false)
.ret))),
[.t 2]⟩
theorem ok164 : okFunc Go.Proofs.Tryz.prog 164 lf164 = true := by kernel_rfl
def lf165 : LFunc := ⟨18, 1,
(.seq
(.region [
o_ 1 (.boxt 2 (.t 0)),
o_ 2 (.newv [.int .i64 0, .int .i64 0]),
o_ 3 (.mv (.c (.int .i64 0)))] false)
(.seq
(.seq
(.region [
o_ 5 (.load true 2 (.t 1)),
o_ 6 (.call false (.c (.fn 43 [] [])) [.t 5]),
o_ 7 (.call false (.c (.fn 190 [] [])) [.t 6]),
m_ 4 7] false)
(.seq
(.region [
m_ 8 4,
o_ 9 (.ifnil true (.t 8))] false)
(.cond (.t 9)
(.seq
(.region [
o_ 10 (.build [.int .i64 0, .int .i64 0] []),
m_ 11 4,
o_ 12 (.call false (.c (.fn 191 [] [])) [.t 11]),
⟨none, .store 2 (.t 2) (.t 10), none⟩,
m_ 3 12] false)
.ret)
.skip)))
(.seq
(.region [
o_ 13 (.load true 2 (.t 1)),
o_ 14 (.call false (.c (.fn 199 [] [])) [.t 13]),
o_ 15 (.call false (.c (.fn 155 [] [])) [.t 14, .c (.int .i64 1024)]),
o_ 16 (.extract (.t 15) 0),
o_ 17 (.extract (.t 15) 1),
⟨none, .store 2 (.t 2) (.t 16), none⟩,
m_ 3 17] false)
.ret))),
[.cell true 2 2, .t 3]⟩
theorem ok165 : okFunc Go.Proofs.Tryz.prog 165 lf165 = true := by kernel_rfl
def lf166 : LFunc := ⟨52, 2,
(.seq
(.region [
o_ 2 (.boxt 7 (.t 0)),
o_ 4 (.newv [.int .i64 0, .int .i64 0]),
o_ 5 (.mv (.c (.bool false)))] false)
(.seq
(.region [
o_ 13 (.call false (.c (.fn 71 [] [])) [.c (.int .i64 1)]),
o_ 6 (.newv [.int .i64 0, .int .i64 0]),
⟨none, .store 2 (.t 6) (.t 13), none⟩] false)
(.seq
(.seq
(.region [
m_ 14 1,
o_ 15 (.len .sli (.t 14)),
o_ 16 (.mv (.c (.int .i64 0)))] false)
(.block 0
(.loop
(.seq
(.region [
o_ 17 (.bin .lss (.t 16) (.t 15))] false)
(.seq
(.cond (.t 17)
.skip
(.exit 0))
(.seq
(.block 1
(.seq
(.region [
o_ 18 (.idxa 1 (.t 14) (.t 16)),
o_ 19 (.load false 1 (.t 18)),
m_ 8 19] false)
(.seq
(.region [
o_ 21 (.fadr 3 (.t 2)),
o_ 22 (.load false 1 (.t 21)),
m_ 23 8,
o_ 24 (.idxa 4 (.t 22) (.t 23)),
o_ 25 (.fadr 3 (.t 24)),
o_ 26 (.load false 1 (.t 25)),
o_ 27 (.fadr 3 (.t 2)),
o_ 28 (.load false 1 (.t 27)),
m_ 29 8,
o_ 30 (.idxa 4 (.t 28) (.t 29)),
o_ 31 (.fadr 2 (.t 30)),
o_ 32 (.load false 1 (.t 31)),
o_ 33 (.call false (.c (.fn 155 [] [])) [.t 26, .t 32]),
m_ 20 33,
o_ 34 (.extract (.t 20) 0),
o_ 35 (.extract (.t 20) 1),
o_ 9 (.newv [.int .i64 0, .int .i64 0]),
⟨none, .store 2 (.t 9) (.t 34), none⟩,
m_ 10 35] true)
(.seq
(.region [
o_ 37 (.load true 2 (.t 6)),
o_ 38 (.load true 2 (.t 9)),
o_ 39 (.call false (.c (.fn 156 [] [])) [.t 37, .t 38]),
m_ 36 39,
o_ 40 (.extract (.t 36) 0),
o_ 41 (.extract (.t 36) 1),
o_ 11 (.newv [.int .i64 0, .int .i64 0]),
⟨none, .store 2 (.t 11) (.t 40), none⟩,
m_ 12 41] false)
(.seq
(.seq
(.region [
m_ 42 10,
o_ 43 (.bin .neq (.t 42) (.c (.int .i64 0))),
m_ 44 43,
g_ 45 (.mv (.t 12)) 44 false,
g_ 46 (.bin .neq (.t 45) (.c (.int .i64 0))) 44 false,
o_ 47 (.pick (.t 44) (.c (.bool true)) (.t 46))] false)
(.cond (.t 47)
(.seq
(.region [
o_ 48 (.build [.int .i64 0, .int .i64 0] []),
⟨none, .store 2 (.t 4) (.t 48), none⟩,
o_ 5 (.mv (.c (.bool false)))] false)
.ret)
.skip))
(.region [
o_ 49 (.load true 2 (.t 11)),
⟨none, .store 2 (.t 6) (.t 49), none⟩] false))))))
(.region [
o_ 50 (.bin .add (.t 16) (.c (.int .i64 1))),
m_ 16 50] false)))))))
(.seq
(.region [
o_ 51 (.load true 2 (.t 6)),
⟨none, .store 2 (.t 4) (.t 51), none⟩,
o_ 5 (.mv (.c (.bool true)))] false)
.ret)))),
[.cell true 2 4, .t 5]⟩
theorem ok166 : okFunc Go.Proofs.Tryz.prog 166 lf166 = true := by kernel_rfl
def lf167 : LFunc := ⟨9, 2,
(.seq
(.region [
o_ 4 (.mv (.c (.bool false)))] false)
(.seq
(.region [
m_ 5 0,
m_ 6 1,
o_ 7 (.call false (.c (.fn 200 [] [])) [.t 5, .t 6]),
o_ 8 (.bin .geq (.t 7) (.c (.int .i64 0))),
m_ 4 8] false)
.ret)),
[.t 4]⟩
theorem ok167 : okFunc Go.Proofs.Tryz.prog 167 lf167 = true := by kernel_rfl
def lf168 : LFunc := ⟨8, 2,
(.seq
(.region [
o_ 2 (.boxt 3 (.t 0)),
o_ 3 (.mv (.c (.bool false)))] false)
(.seq
(.region [
o_ 4 (.load false 1 (.t 1)),
o_ 5 (.load true 3 (.t 2)),
o_ 6 (.call false (.c (.fn 169 [] [])) [.t 4, .t 5]),
o_ 7 (.not (.t 6)),
m_ 3 7] false)
.ret)),
[.t 3]⟩
theorem ok168 : okFunc Go.Proofs.Tryz.prog 168 lf168 = true := by kernel_rfl
def lf169 : LFunc := ⟨9, 2,
(.seq
(.region [
o_ 3 (.boxt 3 (.t 1)),
o_ 4 (.mv (.c (.bool false)))] false)
(.seq
(.region [
m_ 5 0,
o_ 6 (.load true 3 (.t 3)),
o_ 7 (.call false (.c (.fn 201 [] [])) [.t 5, .t 6]),
o_ 8 (.bin .geq (.t 7) (.c (.int .i64 0))),
m_ 4 8] false)
.ret)),
[.t 4]⟩
theorem ok169 : okFunc Go.Proofs.Tryz.prog 169 lf169 = true := by kernel_rfl
def lf170 : LFunc := ⟨19, 2,
(.seq
(.region [
o_ 4 (.newv [.int .i64 0, .int .i64 0]),
o_ 5 (.mv (.c (.int .i64 0)))] false)
(.seq
(.region [
m_ 7 0,
m_ 8 1,
o_ 9 (.build [.int .i64 0, .int .i64 0] [(0, 1, .t 7), (1, 1, .t 8)]),
o_ 6 (.newv [.int .i64 0, .int .i64 0]),
⟨none, .store 2 (.t 6) (.t 9), none⟩] false)
(.seq
(.seq
(.region [
m_ 10 0,
o_ 11 (.call false (.c (.fn 161 [] [])) [.t 10]),
o_ 12 (.bin .gtr (.t 11) (.c (.int .i64 1099511627776))),
m_ 13 12,
g_ 14 (.mv (.t 1)) 13 false,
g_ 15 (.bin .gtr (.t 14) (.c (.int .i64 1048576))) 13 false,
o_ 16 (.pick (.t 13) (.c (.bool true)) (.t 15))] false)
(.cond (.t 16)
(.seq
(.region [
o_ 17 (.call false (.c (.fn 118 [] [])) []),
⟨none, .store 2 (.t 4) (.t 17), none⟩,
o_ 5 (.mv (.c (.int .i64 3)))] false)
.ret)
.skip))
(.seq
(.region [
o_ 18 (.load true 2 (.t 6)),
⟨none, .store 2 (.t 4) (.t 18), none⟩,
o_ 5 (.mv (.c (.int .i64 0)))] false)
.ret)))),
[.cell true 2 4, .t 5]⟩
theorem ok170 : okFunc Go.Proofs.Tryz.prog 170 lf170 = true := by kernel_rfl
def lf171 : LFunc := ⟨7, 1,
(.seq
(.region [
o_ 2 (.mv (.c (.int .i64 0)))] false)
(.seq
(.region [
m_ 3 0,
m_ 4 0,
o_ 5 (.bin .sub (.c (.int .i64 0)) (.t 4)),
o_ 6 (.maxs [.t 3, .t 5]),
m_ 2 6] false)
.ret)),
[.t 2]⟩
theorem ok171 : okFunc Go.Proofs.Tryz.prog 171 lf171 = true := by kernel_rfl
def lf172 : LFunc := ⟨26, 2,
(.seq
(.region [
o_ 2 (.boxt 3 (.t 0)),
o_ 3 (.boxt 3 (.t 1)),
o_ 4 (.mv (.c (.bool false)))] false)
(.seq
(.region [
o_ 7 (.load true 3 (.t 2)),
o_ 8 (.call false (.c (.fn 202 [] [])) [.t 7]),
o_ 9 (.load true 3 (.t 3)),
o_ 10 (.call false (.c (.fn 202 [] [])) [.t 9]),
m_ 5 8,
m_ 6 10] true)
(.seq
(.region [
m_ 11 5,
m_ 12 6,
o_ 13 (.bin .lss (.t 11) (.t 12)),
m_ 14 13,
g_ 15 (.mv (.t 5)) 14 false,
g_ 16 (.mv (.t 6)) 14 false,
g_ 17 (.bin .eql (.t 15) (.t 16)) 14 false,
g_ 18 (.mv (.t 17)) 14 false,
g_ 19 (.fadr 1 (.t 2)) 18 true,
g_ 20 (.load false 1 (.t 19)) 18 true,
g_ 21 (.fadr 1 (.t 3)) 18 true,
g_ 22 (.load false 1 (.t 21)) 18 true,
g_ 23 (.bin .lss (.t 20) (.t 22)) 18 true,
g_ 24 (.pick (.t 18) (.t 23) (.c (.bool false))) 14 false,
o_ 25 (.pick (.t 14) (.c (.bool true)) (.t 24)),
m_ 4 25] false)
.ret))),
[.t 4]⟩
theorem ok172 : okFunc Go.Proofs.Tryz.prog 172 lf172 = true := by kernel_rfl
def lf173 : LFunc := ⟨41, 1,
(.seq
(.region [
o_ 1 (.boxt 2 (.t 0)),
o_ 2 (.mv (.c (.bool false)))] false)
(.seq
(.region [
o_ 3 (.fadr 0 (.t 1)),
o_ 4 (.load false 1 (.t 3)),
o_ 5 (.bin .geq (.t 4) (.c (.int .i64 1))),
m_ 6 5,
g_ 7 (.fadr 0 (.t 1)) 6 true,
g_ 8 (.load false 1 (.t 7)) 6 true,
g_ 9 (.bin .leq (.t 8) (.c (.int .i64 32))) 6 true,
o_ 10 (.pick (.t 6) (.t 9) (.c (.bool false))),
m_ 11 10,
g_ 12 (.fadr 1 (.t 1)) 11 true,
g_ 13 (.load false 1 (.t 12)) 11 true,
g_ 14 (.bin .eql (.t 13) (.c (.int .i64 1))) 11 true,
g_ 15 (.mv (.t 14)) 11 true,
g_ 16 (.fadr 1 (.t 1)) 15 false,
g_ 17 (.load false 1 (.t 16)) 15 false,
g_ 18 (.bin .eql (.t 17) (.c (.int .i64 2))) 15 false,
g_ 19 (.pick (.t 15) (.c (.bool true)) (.t 18)) 11 true,
g_ 20 (.mv (.t 19)) 11 true,
g_ 21 (.fadr 1 (.t 1)) 20 false,
g_ 22 (.load false 1 (.t 21)) 20 false,
g_ 23 (.bin .eql (.t 22) (.c (.int .i64 4))) 20 false,
g_ 24 (.pick (.t 20) (.c (.bool true)) (.t 23)) 11 true,
g_ 25 (.mv (.t 24)) 11 true,
g_ 26 (.fadr 1 (.t 1)) 25 false,
g_ 27 (.load false 1 (.t 26)) 25 false,
g_ 28 (.bin .eql (.t 27) (.c (.int .i64 8))) 25 false,
g_ 29 (.pick (.t 25) (.c (.bool true)) (.t 28)) 11 true,
g_ 30 (.mv (.t 29)) 11 true,
g_ 31 (.fadr 1 (.t 1)) 30 false,
g_ 32 (.load false 1 (.t 31)) 30 false,
g_ 33 (.bin .eql (.t 32) (.c (.int .i64 16))) 30 false,
g_ 34 (.pick (.t 30) (.c (.bool true)) (.t 33)) 11 true,
g_ 35 (.mv (.t 34)) 11 true,
g_ 36 (.fadr 1 (.t 1)) 35 false,
g_ 37 (.load false 1 (.t 36)) 35 false,
g_ 38 (.bin .eql (.t 37) (.c (.int .i64 32))) 35 false,
g_ 39 (.pick (.t 35) (.c (.bool true)) (.t 38)) 11 true,
o_ 40 (.pick (.t 11) (.t 39) (.c (.bool false))),
m_ 2 40] false)
.ret)),
[.t 2]⟩
theorem ok173 : okFunc Go.Proofs.Tryz.prog 173 lf173 = true := by kernel_rfl
def lf174 : LFunc := ⟨9, 2,
(.seq
(.region [
o_ 3 (.boxt 3 (.t 1)),
o_ 4 (.mv (.c (.bool false)))] false)
(.seq
(.region [
m_ 5 0,
o_ 6 (.load true 3 (.t 3)),
o_ 7 (.btsl 3 1 [.int .i64 0, .int .i64 0, .int .i64 0] [(0, .t 6)]),
o_ 8 (.call false (.c (.fn 98 [] [])) [.t 5, .t 7]),
m_ 4 8] false)
.ret)),
[.t 4]⟩
theorem ok174 : okFunc Go.Proofs.Tryz.prog 174 lf174 = true := by kernel_rfl
def lf175 : LFunc := ⟨52, 1,
(.seq
(.region [
o_ 2 (.mv (.c (.int .i64 0)))] false)
(.seq
(.region [
m_ 8 0,
o_ 9 (.call false (.c (.fn 35 [] [])) [.t 8]),
o_ 3 (.newv [.int .i64 0, .str ⟨#[]⟩, .int .i64 0]),
⟨none, .store 3 (.t 3) (.t 9), none⟩] false)
(.seq
(.seq
(.region [
o_ 10 (.fadr 0 (.t 3)),
o_ 11 (.load false 1 (.t 10)),
o_ 12 (.bin .eql (.t 11) (.c (.int .i64 4))),
m_ 13 12,
g_ 14 (.fadr 1 (.t 3)) 13 true,
g_ 15 (.load false 1 (.t 14)) 13 true,
g_ 16 (.bin .eql (.t 15) (.c (.str ⟨#[60]⟩))) 13 true,
o_ 17 (.pick (.t 13) (.t 16) (.c (.bool false)))] false)
(.cond (.t 17)
(.seq
(.region [
o_ 2 (.mv (.c (.int .i64 2)))] false)
.ret)
.skip))
(.seq
(.seq
(.region [
o_ 18 (.fadr 0 (.t 3)),
o_ 19 (.load false 1 (.t 18)),
o_ 20 (.bin .eql (.t 19) (.c (.int .i64 4))),
m_ 21 20,
g_ 22 (.fadr 1 (.t 3)) 21 true,
g_ 23 (.load false 1 (.t 22)) 21 true,
g_ 24 (.bin .eql (.t 23) (.c (.str ⟨#[124]⟩))) 21 true,
o_ 25 (.pick (.t 21) (.t 24) (.c (.bool false)))] false)
(.cond (.t 25)
(.seq
(.region [
o_ 2 (.mv (.c (.int .i64 12)))] false)
.ret)
.skip))
(.seq
(.seq
(.region [
o_ 26 (.fadr 0 (.t 3)),
o_ 27 (.load false 1 (.t 26)),
o_ 28 (.bin .neq (.t 27) (.c (.int .i64 1)))] false)
(.cond (.t 28)
(.seq
(.region [
o_ 2 (.mv (.c (.int .i64 0)))] false)
.ret)
.skip))
(.seq
(.region [
o_ 29 (.bsl 1 9 [.str ⟨#[]⟩] [(0, .c (.str ⟨#[114]⟩)), (1, .c (.str ⟨#[115]⟩)), (2, .c (.str ⟨#[116, 117, 112, 108, 101, 116]⟩)), (3, .c (.str ⟨#[103, 114, 97, 99, 101]⟩)), (4, .c (.str ⟨#[114, 101, 112, 101, 97, 116]⟩)), (5, .c (.str ⟨#[114, 101, 108, 97, 116, 105, 118, 101]⟩)), (6, .c (.str ⟨#[99, 108, 101, 102]⟩)), (7, .c (.str ⟨#[107, 101, 121]⟩)), (8, .c (.str ⟨#[116, 105, 109, 101]⟩))]),
m_ 4 29] false)
(.seq
(.seq
(.region [
o_ 5 (.mv (.c (.int .i64 0)))] false)
(.block 0
(.loop
(.seq
(.seq
(.region [
m_ 30 5,
m_ 31 4,
o_ 32 (.len .sli (.t 31)),
o_ 33 (.bin .lss (.t 30) (.t 32))] false)
(.cond (.t 33)
.skip
(.exit 0)))
(.seq
(.block 1
(.seq
(.region [
m_ 36 4,
m_ 37 5,
o_ 38 (.idxa 1 (.t 36) (.t 37)),
o_ 39 (.load false 1 (.t 38)),
o_ 40 (.fadr 1 (.t 3)),
o_ 41 (.load false 1 (.t 40)),
o_ 42 (.bin .eql (.t 39) (.t 41))] true)
(.cond (.t 42)
(.seq
(.region [
m_ 43 5,
o_ 44 (.bin .add (.c (.int .i64 3)) (.t 43)),
m_ 2 44] false)
.ret)
.skip)))
(.region [
m_ 34 5,
o_ 35 (.bin .add (.t 34) (.c (.int .i64 1))),
m_ 5 35] false))))))
(.seq
(.region [
o_ 46 (.fadr 1 (.t 3)),
o_ 47 (.load false 1 (.t 46)),
o_ 48 (.call false (.c (.fn 203 [] [])) [.t 47]),
m_ 45 48,
o_ 49 (.extract (.t 45) 0),
o_ 50 (.extract (.t 45) 1),
o_ 6 (.newv [.int .i64 0, .int .i64 0, .int .i64 0]),
⟨none, .store 3 (.t 6) (.t 49), none⟩,
m_ 7 50] false)
(.seq
(.seq
(.region [
m_ 51 7] false)
(.cond (.t 51)
(.seq
(.region [
o_ 2 (.mv (.c (.int .i64 1)))] false)
.ret)
.skip))
(.seq
(.region [
o_ 2 (.mv (.c (.int .i64 0)))] false)
.ret)))))))))),
[.t 2]⟩
theorem ok175 : okFunc Go.Proofs.Tryz.prog 175 lf175 = true := by kernel_rfl
def lf176 : LFunc := ⟨49, 2,
(.seq
(.region [
o_ 4 (.newv [.int .i64 0, .int .i64 0, .nils, .bool false, .int .i64 0, .int .i64 0, .bool false, .int .i64 0, .int .i64 0, .str ⟨#[]⟩, .int .i64 0, .int .i64 0, .str ⟨#[]⟩, .nils])] false)
(.seq
(.region [
m_ 6 1,
m_ 7 0,
o_ 8 (.call false (.c (.fn 35 [] [])) [.t 7]),
o_ 9 (.field false 2 1 (.t 8)),
o_ 10 (.build [.int .i64 0, .int .i64 0, .nils, .bool false, .int .i64 0, .int .i64 0, .bool false, .int .i64 0, .int .i64 0, .str ⟨#[]⟩, .int .i64 0, .int .i64 0, .str ⟨#[]⟩, .nils] [(0, 1, .t 6), (1, 1, .t 9)]),
o_ 5 (.newv [.int .i64 0, .int .i64 0, .nils, .bool false, .int .i64 0, .int .i64 0, .bool false, .int .i64 0, .int .i64 0, .str ⟨#[]⟩, .int .i64 0, .int .i64 0, .str ⟨#[]⟩, .nils]),
⟨none, .store 14 (.t 5) (.t 10), none⟩] false)
(.seq
(.region [
m_ 11 0,
o_ 12 (.call false (.c (.fn 132 [] [])) [.t 11])] false)
(.seq
(.seq
(.region [
m_ 13 0,
o_ 14 (.call false (.c (.fn 34 [] [])) [.t 13])] false)
(.cond (.t 14)
(.seq
(.region [
o_ 15 (.load true 14 (.t 5)),
⟨none, .store 14 (.t 4) (.t 15), none⟩] false)
.ret)
.skip))
(.seq
(.seq
(.region [
m_ 16 1] false)
(.block 0
(.seq
(.region [
o_ 18 (.bin .eql (.t 16) (.c (.int .i64 1))),
m_ 17 18] false)
(.cond (.t 17)
(.seq
(.region [
m_ 19 0,
o_ 20 (.call false (.c (.fn 204 [] [])) [.t 19]),
o_ 21 (.bsl 3 1 [.int .i64 0, .int .i64 0, .int .i64 0] [(0, .t 20)]),
o_ 22 (.fadr 2 (.t 5)),
⟨none, .store 1 (.t 22) (.t 21), none⟩] false)
(.seq
(.region [
m_ 23 0,
m_ 24 0,
o_ 25 (.load true 14 (.t 5)),
o_ 26 (.call false (.c (.fn 206 [] [])) [.t 24, .t 25]),
o_ 27 (.call false (.c (.fn 205 [] [])) [.t 23, .t 26]),
⟨none, .store 14 (.t 4) (.t 27), none⟩] false)
.ret))
(.seq
(.region [
o_ 29 (.bin .eql (.t 16) (.c (.int .i64 2))),
m_ 28 29] false)
(.cond (.t 28)
(.seq
(.region [
m_ 30 0,
o_ 31 (.load true 14 (.t 5)),
o_ 32 (.call false (.c (.fn 207 [] [])) [.t 30, .t 31]),
⟨none, .store 14 (.t 4) (.t 32), none⟩] false)
.ret)
(.seq
(.seq
(.region [
o_ 34 (.bin .eql (.t 16) (.c (.int .i64 3))),
m_ 33 34] false)
(.cond (.t 33)
.skip
(.region [
o_ 35 (.bin .eql (.t 16) (.c (.int .i64 4))),
m_ 33 35] false)))
(.cond (.t 33)
(.seq
(.region [
m_ 36 0,
o_ 37 (.nilck (.t 36)),
o_ 38 (.fadr 1 (.t 37)),
o_ 39 (.load false 1 (.t 38)),
o_ 40 (.bin .add (.t 39) (.c (.int .i64 1))),
o_ 41 (.nilck (.t 36)),
o_ 42 (.fadr 1 (.t 41)),
⟨none, .store 1 (.t 42) (.t 40), none⟩] false)
(.seq
(.region [
m_ 43 0,
o_ 44 (.load true 14 (.t 5)),
o_ 45 (.call false (.c (.fn 206 [] [])) [.t 43, .t 44]),
⟨none, .store 14 (.t 4) (.t 45), none⟩] false)
.ret))
.skip))))))))
(.seq
(.region [
m_ 46 0,
o_ 47 (.load true 14 (.t 5)),
o_ 48 (.call false (.c (.fn 208 [] [])) [.t 46, .t 47]),
⟨none, .store 14 (.t 4) (.t 48), none⟩] false)
.ret)))))),
[.cell true 14 4]⟩
theorem ok176 : okFunc Go.Proofs.Tryz.prog 176 lf176 = true := by kernel_rfl
def lf177 : LFunc := ⟨65, 4,
(.seq
(.region [
o_ 4 (.boxt 3 (.t 0)),
o_ 8 (.newv [.int .i64 0, .int .i64 0, .int .i64 0]),
o_ 9 (.mv (.c (.int .i64 0)))] false)
(.seq
(.seq
(.region [
o_ 13 (.load true 3 (.t 4)),
o_ 14 (.call false (.c (.fn 137 [] [])) [.t 13]),
o_ 15 (.not (.t 14)),
m_ 16 15,
g_ 17 (.mv (.t 1)) 16 false,
g_ 18 (.bin .lss (.t 17) (.c (.int .i64 0))) 16 false,
o_ 19 (.pick (.t 16) (.c (.bool true)) (.t 18)),
m_ 20 19,
g_ 21 (.mv (.t 1)) 20 false,
g_ 22 (.bin .gtr (.t 21) (.c (.int .i64 6))) 20 false,
o_ 23 (.pick (.t 20) (.c (.bool true)) (.t 22)),
m_ 24 23,
g_ 25 (.mv (.t 2)) 24 false,
g_ 26 (.bin .lss (.t 25) (.c (.int .i64 (-2)))) 24 false,
o_ 27 (.pick (.t 24) (.c (.bool true)) (.t 26)),
m_ 28 27,
g_ 29 (.mv (.t 2)) 28 false,
g_ 30 (.bin .gtr (.t 29) (.c (.int .i64 2))) 28 false,
o_ 31 (.pick (.t 28) (.c (.bool true)) (.t 30)),
m_ 32 31,
g_ 33 (.mv (.t 3)) 32 false,
g_ 34 (.bin .lss (.t 33) (.c (.int .i64 (-9)))) 32 false,
o_ 35 (.pick (.t 32) (.c (.bool true)) (.t 34)),
m_ 36 35,
g_ 37 (.mv (.t 3)) 36 false,
g_ 38 (.bin .gtr (.t 37) (.c (.int .i64 9))) 36 false,
o_ 39 (.pick (.t 36) (.c (.bool true)) (.t 38))] false)
(.cond (.t 39)
(.seq
(.region [
o_ 40 (.build [.int .i64 0, .int .i64 0, .int .i64 0] []),
⟨none, .store 3 (.t 8) (.t 40), none⟩,
o_ 9 (.mv (.c (.int .i64 2)))] false)
.ret)
.skip))
(.seq
(.region [
o_ 41 (.load true 3 (.t 4)),
o_ 42 (.call false (.c (.fn 202 [] [])) [.t 41]),
o_ 43 (.bin .sub (.t 42) (.c (.int .i64 3))),
m_ 10 43] false)
(.seq
(.block 0
(.loop
(.seq
(.seq
(.region [
m_ 44 10,
o_ 45 (.bin .add (.t 44) (.c (.int .i64 70))),
o_ 46 (.bin .rem (.t 45) (.c (.int .i64 7))),
m_ 47 1,
o_ 48 (.bin .neq (.t 46) (.t 47))] false)
(.cond (.t 48)
.skip
(.exit 0)))
(.block 1
(.region [
m_ 49 10,
o_ 50 (.bin .add (.t 49) (.c (.int .i64 1))),
m_ 10 50] false)))))
(.seq
(.region [
m_ 52 10,
m_ 53 3,
o_ 54 (.bin .mul (.c (.int .i64 7)) (.t 53)),
o_ 55 (.bin .add (.t 52) (.t 54)),
o_ 56 (.call false (.c (.fn 209 [] [])) [.t 55]),
m_ 51 56,
o_ 57 (.extract (.t 51) 0),
o_ 58 (.extract (.t 51) 1),
o_ 11 (.newv [.int .i64 0, .int .i64 0, .int .i64 0]),
⟨none, .store 3 (.t 11) (.t 57), none⟩,
m_ 12 58] false)
(.seq
(.seq
(.region [
m_ 59 12,
o_ 60 (.not (.t 59))] false)
(.cond (.t 60)
(.seq
(.region [
o_ 61 (.build [.int .i64 0, .int .i64 0, .int .i64 0] []),
⟨none, .store 3 (.t 8) (.t 61), none⟩,
o_ 9 (.mv (.c (.int .i64 20)))] false)
.ret)
.skip))
(.seq
(.region [
m_ 62 2,
o_ 63 (.fadr 1 (.t 11)),
⟨none, .store 1 (.t 63) (.t 62), none⟩] false)
(.seq
(.region [
o_ 64 (.load true 3 (.t 11)),
⟨none, .store 3 (.t 8) (.t 64), none⟩,
o_ 9 (.mv (.c (.int .i64 0)))] false)
.ret)))))))),
[.cell true 3 8, .t 9]⟩
theorem ok177 : okFunc Go.Proofs.Tryz.prog 177 lf177 = true := by kernel_rfl
def lf178 : LFunc := ⟨22, 1,
(.seq
(.region [
o_ 1 (.boxt 14 (.t 0)),
o_ 2 (.mv (.c (.bool false)))] false)
(.seq
(.region [
o_ 3 (.fadr 10 (.t 1)),
o_ 4 (.load false 1 (.t 3)),
o_ 5 (.bin .eql (.t 4) (.c (.int .i64 0))),
m_ 6 5,
g_ 7 (.fadr 11 (.t 1)) 6 true,
g_ 8 (.load false 1 (.t 7)) 6 true,
g_ 9 (.bin .eql (.t 8) (.c (.int .i64 0))) 6 true,
o_ 10 (.pick (.t 6) (.t 9) (.c (.bool false))),
m_ 11 10,
g_ 12 (.fadr 12 (.t 1)) 11 true,
g_ 13 (.load false 1 (.t 12)) 11 true,
g_ 14 (.bin .eql (.t 13) (.c (.str ⟨#[]⟩))) 11 true,
o_ 15 (.pick (.t 11) (.t 14) (.c (.bool false))),
m_ 16 15,
g_ 17 (.fadr 13 (.t 1)) 16 true,
g_ 18 (.load false 1 (.t 17)) 16 true,
g_ 19 (.len .sli (.t 18)) 16 true,
g_ 20 (.bin .eql (.t 19) (.c (.int .i64 0))) 16 true,
o_ 21 (.pick (.t 16) (.t 20) (.c (.bool false))),
m_ 2 21] false)
.ret)),
[.t 2]⟩
theorem ok178 : okFunc Go.Proofs.Tryz.prog 178 lf178 = true := by kernel_rfl
def lf179 : LFunc := ⟨13, 1,
(.seq
(.region [
o_ 1 (.boxt 14 (.t 0)),
o_ 2 (.mv (.c (.bool false)))] false)
(.seq
(.seq
(.region [
o_ 3 (.fadr 3 (.t 1)),
o_ 4 (.load false 1 (.t 3)),
o_ 5 (.not (.t 4))] false)
(.cond (.t 5)
(.seq
(.region [
o_ 6 (.fadr 4 (.t 1)),
o_ 7 (.load true 2 (.t 6)),
o_ 8 (.build [.int .i64 0, .int .i64 0] []),
o_ 9 (.eq false (.ag [.i, .i]) (.t 7) (.t 8)),
m_ 2 9] false)
.ret)
.skip))
(.seq
(.region [
o_ 10 (.fadr 4 (.t 1)),
o_ 11 (.load true 2 (.t 10)),
o_ 12 (.call false (.c (.fn 45 [] [])) [.t 11]),
m_ 2 12] false)
.ret))),
[.t 2]⟩
theorem ok179 : okFunc Go.Proofs.Tryz.prog 179 lf179 = true := by kernel_rfl
def lf180 : LFunc := ⟨32, 1,
(.seq
(.region [
o_ 1 (.boxt 4 (.t 0)),
o_ 2 (.mv (.c (.bool false)))] false)
(.seq
(.region [
o_ 3 (.fadr 1 (.t 1)),
o_ 4 (.load false 1 (.t 3)),
o_ 5 (.bin .geq (.t 4) (.c (.int .i64 0))),
m_ 6 5,
g_ 7 (.fadr 1 (.t 1)) 6 true,
g_ 8 (.load false 1 (.t 7)) 6 true,
g_ 9 (.bin .leq (.t 8) (.c (.int .i64 4))) 6 true,
o_ 10 (.pick (.t 6) (.t 9) (.c (.bool false))),
m_ 11 10,
g_ 12 (.fadr 2 (.t 1)) 11 true,
g_ 13 (.load false 1 (.t 12)) 11 true,
g_ 14 (.bin .geq (.t 13) (.c (.int .i64 0))) 11 true,
o_ 15 (.pick (.t 11) (.t 14) (.c (.bool false))),
m_ 16 15,
g_ 17 (.fadr 2 (.t 1)) 16 true,
g_ 18 (.load false 1 (.t 17)) 16 true,
g_ 19 (.bin .leq (.t 18) (.c (.int .i64 4))) 16 true,
o_ 20 (.pick (.t 16) (.t 19) (.c (.bool false))),
m_ 21 20,
g_ 22 (.fadr 3 (.t 1)) 21 true,
g_ 23 (.load false 1 (.t 22)) 21 true,
g_ 24 (.bin .eql (.t 23) (.c (.str ⟨#[]⟩))) 21 true,
g_ 25 (.mv (.t 24)) 21 true,
g_ 26 (.call false (.c (.fn 210 [] [])) []) 25 false,
g_ 27 (.fadr 3 (.t 1)) 25 false,
g_ 28 (.load false 1 (.t 27)) 25 false,
g_ 29 (.call false (.c (.fn 183 [] [])) [.t 26, .t 28]) 25 false,
g_ 30 (.pick (.t 25) (.c (.bool true)) (.t 29)) 21 true,
o_ 31 (.pick (.t 21) (.t 30) (.c (.bool false))),
m_ 2 31] true)
.ret)),
[.t 2]⟩
theorem ok180 : okFunc Go.Proofs.Tryz.prog 180 lf180 = true := by kernel_rfl
def lf181 : LFunc := ⟨31, 1,
(.seq
(.region [
o_ 1 (.boxt 3 (.t 0)),
o_ 2 (.mv (.c (.bool false)))] false)
(.seq
(.region [
o_ 3 (.fadr 0 (.t 1)),
o_ 4 (.load false 1 (.t 3)),
o_ 5 (.bin .geq (.t 4) (.c (.int .i64 0))),
m_ 6 5,
g_ 7 (.fadr 0 (.t 1)) 6 true,
g_ 8 (.load false 1 (.t 7)) 6 true,
g_ 9 (.bin .leq (.t 8) (.c (.int .i64 6))) 6 true,
o_ 10 (.pick (.t 6) (.t 9) (.c (.bool false))),
m_ 11 10,
g_ 12 (.fadr 1 (.t 1)) 11 true,
g_ 13 (.load false 1 (.t 12)) 11 true,
g_ 14 (.bin .geq (.t 13) (.c (.int .i64 (-2)))) 11 true,
o_ 15 (.pick (.t 11) (.t 14) (.c (.bool false))),
m_ 16 15,
g_ 17 (.fadr 1 (.t 1)) 16 true,
g_ 18 (.load false 1 (.t 17)) 16 true,
g_ 19 (.bin .leq (.t 18) (.c (.int .i64 2))) 16 true,
o_ 20 (.pick (.t 16) (.t 19) (.c (.bool false))),
m_ 21 20,
g_ 22 (.fadr 2 (.t 1)) 21 true,
g_ 23 (.load false 1 (.t 22)) 21 true,
g_ 24 (.bin .geq (.t 23) (.c (.int .i64 (-9)))) 21 true,
o_ 25 (.pick (.t 21) (.t 24) (.c (.bool false))),
m_ 26 25,
g_ 27 (.fadr 2 (.t 1)) 26 true,
g_ 28 (.load false 1 (.t 27)) 26 true,
g_ 29 (.bin .leq (.t 28) (.c (.int .i64 9))) 26 true,
o_ 30 (.pick (.t 26) (.t 29) (.c (.bool false))),
m_ 2 30] false)
.ret)),
[.t 2]⟩
theorem ok181 : okFunc Go.Proofs.Tryz.prog 181 lf181 = true := by kernel_rfl
def lf182 : LFunc := ⟨18, 1,
(.seq
(.region [
o_ 1 (.boxt 14 (.t 0)),
o_ 2 (.mv (.c (.bool false)))] false)
(.seq
(.region [
o_ 3 (.fadr 3 (.t 1)),
o_ 4 (.load false 1 (.t 3)),
o_ 5 (.not (.t 4)),
m_ 6 5,
g_ 7 (.fadr 4 (.t 1)) 6 true,
g_ 8 (.load true 2 (.t 7)) 6 true,
g_ 9 (.build [.int .i64 0, .int .i64 0] []) 6 true,
g_ 10 (.eq false (.ag [.i, .i]) (.t 8) (.t 9)) 6 true,
o_ 11 (.pick (.t 6) (.t 10) (.c (.bool false))),
m_ 12 11,
g_ 13 (.fadr 6 (.t 1)) 12 true,
g_ 14 (.load true 4 (.t 13)) 12 true,
g_ 15 (.build [.bool false, .int .i64 0, .int .i64 0, .str ⟨#[]⟩] []) 12 true,
g_ 16 (.eq false (.ag [.b, .i, .i, .s]) (.t 14) (.t 15)) 12 true,
o_ 17 (.pick (.t 12) (.t 16) (.c (.bool false))),
m_ 2 17] false)
.ret)),
[.t 2]⟩
theorem ok182 : okFunc Go.Proofs.Tryz.prog 182 lf182 = true := by kernel_rfl
def lf183 : LFunc := ⟨18, 2,
(.seq
(.region [
o_ 4 (.mv (.c (.bool false)))] false)
(.seq
(.seq
(.region [
o_ 5 (.mv (.c (.int .i64 0)))] false)
(.block 0
(.loop
(.seq
(.seq
(.region [
m_ 6 5,
m_ 7 0,
o_ 8 (.len .sli (.t 7)),
o_ 9 (.bin .lss (.t 6) (.t 8))] false)
(.cond (.t 9)
.skip
(.exit 0)))
(.seq
(.block 1
(.seq
(.region [
m_ 12 0,
m_ 13 5,
o_ 14 (.idxa 1 (.t 12) (.t 13)),
o_ 15 (.load false 1 (.t 14)),
m_ 16 1,
o_ 17 (.bin .eql (.t 15) (.t 16))] false)
(.cond (.t 17)
(.seq
(.region [
o_ 4 (.mv (.c (.bool true)))] false)
.ret)
.skip)))
(.region [
m_ 10 5,
o_ 11 (.bin .add (.t 10) (.c (.int .i64 1))),
m_ 5 11] false))))))
(.seq
(.region [
o_ 4 (.mv (.c (.bool false)))] false)
.ret))),
[.t 4]⟩
theorem ok183 : okFunc Go.Proofs.Tryz.prog 183 lf183 = true := by kernel_rfl
def lf184 : LFunc := ⟨2, 0,
(.seq
(.region [
o_ 0 (.mv (.c (.nils)))] false)
(.seq
(.region [
o_ 1 (.bsl 1 4 [.str ⟨#[]⟩] [(0, .c (.str ⟨#[116, 114, 101, 98, 108, 101]⟩)), (1, .c (.str ⟨#[98, 97, 115, 115]⟩)), (2, .c (.str ⟨#[97, 108, 116, 111]⟩)), (3, .c (.str ⟨#[116, 101, 110, 111, 114]⟩))]),
m_ 0 1] false)
.ret)),
[.t 0]⟩
theorem ok184 : okFunc Go.Proofs.Tryz.prog 184 lf184 = true := by kernel_rfl
def lf185 : LFunc := ⟨2, 0,
(.seq
(.region [
o_ 0 (.mv (.c (.nils)))] false)
(.seq
(.region [
o_ 1 (.bsl 1 2 [.str ⟨#[]⟩] [(0, .c (.str ⟨#[109, 97, 106, 111, 114]⟩)), (1, .c (.str ⟨#[109, 105, 110, 111, 114]⟩))]),
m_ 0 1] false)
.ret)),
[.t 0]⟩
theorem ok185 : okFunc Go.Proofs.Tryz.prog 185 lf185 = true := by kernel_rfl
def lf186 : LFunc := ⟨45, 2,
(.seq
(.region [
o_ 3 (.boxt 3 (.t 1)),
o_ 4 (.mv (.c (.nils)))] false)
(.seq
(.region [
o_ 5 (.mv (.c (.int .i64 0)))] false)
(.seq
(.block 0
(.loop
(.seq
(.seq
(.region [
m_ 6 5,
m_ 7 0,
o_ 8 (.len .sli (.t 7)),
o_ 9 (.bin .lss (.t 6) (.t 8)),
m_ 10 9,
g_ 11 (.mv (.t 0)) 10 true,
g_ 12 (.mv (.t 5)) 10 true,
g_ 13 (.idxa 3 (.t 11) (.t 12)) 10 true,
g_ 14 (.load true 3 (.t 13)) 10 true,
g_ 15 (.load true 3 (.t 3)) 10 true,
g_ 16 (.call false (.c (.fn 172 [] [])) [.t 14, .t 15]) 10 true,
o_ 17 (.pick (.t 10) (.t 16) (.c (.bool false)))] true)
(.cond (.t 17)
.skip
(.exit 0)))
(.block 1
(.region [
m_ 18 5,
o_ 19 (.bin .add (.t 18) (.c (.int .i64 1))),
m_ 5 19] false)))))
(.seq
(.seq
(.region [
m_ 20 5,
m_ 21 0,
o_ 22 (.len .sli (.t 21)),
o_ 23 (.bin .lss (.t 20) (.t 22)),
m_ 24 23,
g_ 25 (.mv (.t 0)) 24 true,
g_ 26 (.mv (.t 5)) 24 true,
g_ 27 (.idxa 3 (.t 25) (.t 26)) 24 true,
g_ 28 (.load true 3 (.t 27)) 24 true,
g_ 29 (.load true 3 (.t 3)) 24 true,
g_ 30 (.eq false (.ag [.i, .i, .i]) (.t 28) (.t 29)) 24 true,
o_ 31 (.pick (.t 24) (.t 30) (.c (.bool false)))] true)
(.cond (.t 31)
(.seq
(.region [
m_ 32 0,
m_ 4 32] false)
.ret)
.skip))
(.seq
(.region [
o_ 33 (.bsl 3 0 [.int .i64 0, .int .i64 0, .int .i64 0] []),
m_ 34 0,
m_ 35 5,
o_ 36 (.slice 3 (.t 34) none (some (.t 35)) none),
o_ 37 (.appendH 3 24 (.t 33) (.t 36)),
o_ 38 (.load true 3 (.t 3)),
o_ 39 (.btsl 3 1 [.int .i64 0, .int .i64 0, .int .i64 0] [(0, .t 38)]),
o_ 40 (.appendH 3 24 (.t 37) (.t 39)),
m_ 41 0,
m_ 42 5,
o_ 43 (.slice 3 (.t 41) (some (.t 42)) none none),
o_ 44 (.appendH 3 24 (.t 40) (.t 43)),
m_ 4 44] true)
.ret))))),
[.t 4]⟩
theorem ok186 : okFunc Go.Proofs.Tryz.prog 186 lf186 = true := by kernel_rfl
def lf187 : LFunc := ⟨30, 2,
(.seq
(.region [
o_ 4 (.newv [.int .i64 0, .int .i64 0]),
o_ 5 (.mv (.c (.int .i64 0)))] false)
(.seq
(.seq
(.region [
m_ 6 1,
o_ 7 (.bin .eql (.t 6) (.c (.int .i64 0))),
m_ 8 7,
g_ 9 (.mv (.t 0)) 8 false,
g_ 10 (.bin .lss (.t 9) (.c (.int .i64 (-1152921504606846976)))) 8 false,
o_ 11 (.pick (.t 8) (.c (.bool true)) (.t 10)),
m_ 12 11,
g_ 13 (.mv (.t 0)) 12 false,
g_ 14 (.bin .gtr (.t 13) (.c (.int .i64 1152921504606846976))) 12 false,
o_ 15 (.pick (.t 12) (.c (.bool true)) (.t 14)),
m_ 16 15,
g_ 17 (.mv (.t 1)) 16 false,
g_ 18 (.bin .lss (.t 17) (.c (.int .i64 (-1152921504606846976)))) 16 false,
o_ 19 (.pick (.t 16) (.c (.bool true)) (.t 18)),
m_ 20 19,
g_ 21 (.mv (.t 1)) 20 false,
g_ 22 (.bin .gtr (.t 21) (.c (.int .i64 1152921504606846976))) 20 false,
o_ 23 (.pick (.t 20) (.c (.bool true)) (.t 22))] false)
(.cond (.t 23)
(.seq
(.region [
o_ 24 (.build [.int .i64 0, .int .i64 0] []),
⟨none, .store 2 (.t 4) (.t 24), none⟩,
o_ 5 (.mv (.c (.int .i64 2)))] false)
.ret)
.skip))
(.seq
(.region [
m_ 25 0,
m_ 26 1,
o_ 27 (.call false (.c (.fn 128 [] [])) [.t 25, .t 26]),
o_ 28 (.extract (.t 27) 0),
o_ 29 (.extract (.t 27) 1),
⟨none, .store 2 (.t 4) (.t 28), none⟩,
m_ 5 29] false)
.ret))),
[.cell true 2 4, .t 5]⟩
theorem ok187 : okFunc Go.Proofs.Tryz.prog 187 lf187 = true := by kernel_rfl
def lf188 : LFunc := ⟨24, 1,
(.seq
(.region [
o_ 1 (.boxt 2 (.t 0)),
o_ 2 (.mv (.c (.int .i64 0)))] false)
(.seq
(.region [
o_ 6 (.fadr 0 (.t 1)),
o_ 7 (.load false 1 (.t 6)),
o_ 8 (.bin .add (.t 7) (.c (.int .i64 1))),
o_ 9 (.conv .u64 (.t 8)),
o_ 10 (.bin .shr (.c (.int .i64 2048)) (.t 9)),
m_ 3 10] false)
(.seq
(.region [
m_ 11 3,
m_ 4 11] false)
(.seq
(.seq
(.region [
o_ 5 (.mv (.c (.int .i64 0)))] false)
(.block 0
(.loop
(.seq
(.seq
(.region [
m_ 12 5,
o_ 13 (.fadr 1 (.t 1)),
o_ 14 (.load false 1 (.t 13)),
o_ 15 (.bin .lss (.t 12) (.t 14))] false)
(.cond (.t 15)
.skip
(.exit 0)))
(.seq
(.block 1
(.seq
(.region [
m_ 18 3,
o_ 19 (.bin .quo (.t 18) (.c (.int .i64 2))),
m_ 3 19] false)
(.region [
m_ 20 4,
m_ 21 3,
o_ 22 (.bin .add (.t 20) (.t 21)),
m_ 4 22] false)))
(.region [
m_ 16 5,
o_ 17 (.bin .add (.t 16) (.c (.int .i64 1))),
m_ 5 17] false))))))
(.seq
(.region [
m_ 23 4,
m_ 2 23] false)
.ret))))),
[.t 2]⟩
theorem ok188 : okFunc Go.Proofs.Tryz.prog 188 lf188 = true := by kernel_rfl
def lf189 : LFunc := ⟨2, 0,
(.seq
(.region [
o_ 0 (.mv (.c (.nils)))] false)
(.seq
(.region [
o_ 1 (.bsl 1 47 [.str ⟨#[]⟩] [(0, .c (.str ⟨#[98, 114, 101, 118, 101]⟩)), (1, .c (.str ⟨#[119, 104, 111, 108, 101]⟩)), (2, .c (.str ⟨#[104, 97, 108, 102]⟩)), (3, .c (.str ⟨#[98, 108, 97, 99, 107]⟩)), (4, .c (.str ⟨#[114, 101, 115, 116, 45, 98, 114, 101, 118, 101]⟩)), (5, .c (.str ⟨#[114, 101, 115, 116, 45, 49]⟩)), (6, .c (.str ⟨#[114, 101, 115, 116, 45, 50]⟩)), (7, .c (.str ⟨#[114, 101, 115, 116, 45, 52]⟩)), (8, .c (.str ⟨#[114, 101, 115, 116, 45, 56]⟩)), (9, .c (.str ⟨#[114, 101, 115, 116, 45, 49, 54]⟩)), (10, .c (.str ⟨#[114, 101, 115, 116, 45, 51, 50]⟩)), (11, .c (.str ⟨#[114, 101, 115, 116, 45, 54, 52]⟩)), (12, .c (.str ⟨#[117, 112, 45, 56]⟩)), (13, .c (.str ⟨#[117, 112, 45, 49, 54]⟩)), (14, .c (.str ⟨#[117, 112, 45, 51, 50]⟩)), (15, .c (.str ⟨#[117, 112, 45, 54, 52]⟩)), (16, .c (.str ⟨#[100, 111, 119, 110, 45, 56]⟩)), (17, .c (.str ⟨#[100, 111, 119, 110, 45, 49, 54]⟩)), (18, .c (.str ⟨#[100, 111, 119, 110, 45, 51, 50]⟩)), (19, .c (.str ⟨#[100, 111, 119, 110, 45, 54, 52]⟩)), (20, .c (.str ⟨#[115, 104, 97, 114, 112]⟩)), (21, .c (.str ⟨#[102, 108, 97, 116]⟩)), (22, .c (.str ⟨#[110, 97, 116, 117, 114, 97, 108]⟩)), (23, .c (.str ⟨#[100, 111, 117, 98, 108, 101, 45, 115, 104, 97, 114, 112]⟩)), (24, .c (.str ⟨#[100, 111, 117, 98, 108, 101, 45, 102, 108, 97, 116]⟩)), (25, .c (.str ⟨#[116, 114, 101, 98, 108, 101]⟩)), (26, .c (.str ⟨#[98, 97, 115, 115]⟩)), (27, .c (.str ⟨#[97, 108, 116, 111]⟩)), (28, .c (.str ⟨#[116, 101, 110, 111, 114]⟩)), (29, .c (.str ⟨#[48]⟩)), (30, .c (.str ⟨#[49]⟩)), (31, .c (.str ⟨#[50]⟩)), (32, .c (.str ⟨#[51]⟩)), (33, .c (.str ⟨#[52]⟩)), (34, .c (.str ⟨#[53]⟩)), (35, .c (.str ⟨#[54]⟩)), (36, .c (.str ⟨#[55]⟩)), (37, .c (.str ⟨#[56]⟩)), (38, .c (.str ⟨#[57]⟩)), (39, .c (.str ⟨#[100, 111, 116]⟩)), (40, .c (.str ⟨#[98, 97, 114]⟩)), (41, .c (.str ⟨#[98, 97, 114, 45, 100, 111, 117, 98, 108, 101]⟩)), (42, .c (.str ⟨#[98, 97, 114, 45, 101, 110, 100]⟩)), (43, .c (.str ⟨#[112]⟩)), (44, .c (.str ⟨#[109]⟩)), (45, .c (.str ⟨#[102]⟩)), (46, .c (.str ⟨#[98, 114, 97, 99, 101]⟩))]),
m_ 0 1] false)
.ret)),
[.t 0]⟩
theorem ok189 : okFunc Go.Proofs.Tryz.prog 189 lf189 = true := by kernel_rfl
def lf190 : LFunc := ⟨6, 1,
(.seq
(.region [
o_ 2 (.mv (.c (.nili)))] false)
(.seq
(.seq
(.region [
m_ 3 0] false)
(.cond (.t 3)
(.seq
(.region [
o_ 2 (.mv (.c (.nili)))] false)
.ret)
.skip))
(.seq
(.region [
o_ 4 (.bad),
o_ 5 (.bad),
m_ 2 5] false)
.ret))),
[.t 2]⟩
theorem ok190 : okFunc Go.Proofs.Tryz.prog 190 lf190 = true := by kernel_rfl
def lf191 : LFunc := ⟨6, 1,
(.seq
(.region [
o_ 2 (.mv (.c (.int .i64 0)))] false)
(.seq
(.seq
(.region [
m_ 3 0,
o_ 4 (.bad),
o_ 5 (.call false (.c (.fn 211 [] [])) [.t 3, .t 4])] false)
(.cond (.t 5)
(.seq
(.region [
o_ 2 (.mv (.c (.int .i64 2)))] false)
.ret)
.skip))
(.seq
(.region [
o_ 2 (.mv (.c (.int .i64 0)))] false)
.ret))),
[.t 2]⟩
theorem ok191 : okFunc Go.Proofs.Tryz.prog 191 lf191 = true := by kernel_rfl
def lf192 : LFunc := ⟨49, 3,
(.seq
(.region [
o_ 4 (.boxt 2 (.t 1)),
o_ 6 (.mv (.c (.int .i64 0))),
o_ 7 (.mv (.c (.bool false)))] false)
(.seq
(.region [
m_ 12 0,
o_ 13 (.len .sli (.t 12)),
m_ 8 13] false)
(.seq
(.region [
m_ 14 8,
o_ 9 (.mv (.c (.int .i64 0))),
m_ 10 14] false)
(.seq
(.block 0
(.loop
(.seq
(.seq
(.region [
m_ 15 9,
m_ 16 10,
o_ 17 (.bin .lss (.t 15) (.t 16))] false)
(.cond (.t 17)
.skip
(.exit 0)))
(.block 1
(.seq
(.region [
m_ 18 9,
m_ 19 10,
o_ 20 (.bin .add (.t 18) (.t 19)),
o_ 21 (.conv .u64 (.t 20)),
o_ 22 (.bin .shr (.t 21) (.c (.int .u64 1))),
o_ 23 (.conv .i64 (.t 22)),
m_ 11 23] false)
(.seq
(.region [
m_ 24 2,
m_ 25 0,
m_ 26 11,
o_ 27 (.idxa 4 (.t 25) (.t 26)),
o_ 28 (.load true 4 (.t 27)),
o_ 29 (.load true 2 (.t 4)),
o_ 30 (.call false (.t 24) [.t 28, .t 29]),
o_ 31 (.bin .lss (.t 30) (.c (.int .i64 0)))] true)
(.cond (.t 31)
(.region [
m_ 32 11,
o_ 33 (.bin .add (.t 32) (.c (.int .i64 1))),
m_ 9 33] false)
(.region [
m_ 34 11,
m_ 10 34] false))))))))
(.seq
(.region [
m_ 35 9,
m_ 36 9,
m_ 37 8,
o_ 38 (.bin .lss (.t 36) (.t 37)),
m_ 39 38,
g_ 40 (.mv (.t 2)) 39 true,
g_ 41 (.mv (.t 0)) 39 true,
g_ 42 (.mv (.t 9)) 39 true,
g_ 43 (.idxa 4 (.t 41) (.t 42)) 39 true,
g_ 44 (.load true 4 (.t 43)) 39 true,
g_ 45 (.load true 2 (.t 4)) 39 true,
g_ 46 (.call false (.t 40) [.t 44, .t 45]) 39 true,
g_ 47 (.bin .eql (.t 46) (.c (.int .i64 0))) 39 true,
o_ 48 (.pick (.t 39) (.t 47) (.c (.bool false))),
m_ 6 35,
m_ 7 48] true)
.ret))))),
[.t 6, .t 7]⟩
theorem ok192 : okFunc Go.Proofs.Tryz.prog 192 lf192 = true := by kernel_rfl
def lf193 : LFunc := ⟨9, 2,
(.seq
(.region [
o_ 2 (.boxt 4 (.t 0)),
o_ 3 (.boxt 2 (.t 1)),
o_ 4 (.mv (.c (.int .i64 0)))] false)
(.seq
(.region [
o_ 5 (.fadr 0 (.t 2)),
o_ 6 (.load true 2 (.t 5)),
o_ 7 (.load true 2 (.t 3)),
o_ 8 (.call false (.c (.fn 62 [] [])) [.t 6, .t 7]),
m_ 4 8] false)
.ret)),
[.t 4]⟩
theorem ok193 : okFunc Go.Proofs.Tryz.prog 193 lf193 = true := by kernel_rfl
def lf194 : LFunc := ⟨9, 1,
(.seq
(.region [
o_ 1 (.boxt 2 (.t 0)),
o_ 2 (.newv [.int .i64 0, .int .i64 0])] false)
(.seq
(.region [
o_ 3 (.fadr 0 (.t 1)),
o_ 4 (.load false 1 (.t 3)),
o_ 5 (.neg (.t 4)),
o_ 6 (.fadr 1 (.t 1)),
o_ 7 (.load false 1 (.t 6)),
o_ 8 (.build [.int .i64 0, .int .i64 0] [(0, 1, .t 5), (1, 1, .t 7)]),
⟨none, .store 2 (.t 2) (.t 8), none⟩] false)
.ret)),
[.cell true 2 2]⟩
theorem ok194 : okFunc Go.Proofs.Tryz.prog 194 lf194 = true := by kernel_rfl
def lf195 : LFunc := ⟨5, 1,
(.seq
(.region [
o_ 2 (.newv [.int .i64 0, .int .i64 0])] false)
(.seq
(.region [
m_ 3 0,
o_ 4 (.build [.int .i64 0, .int .i64 0] [(0, 1, .t 3), (1, 1, .c (.int .i64 1))]),
⟨none, .store 2 (.t 2) (.t 4), none⟩] false)
.ret)),
[.cell true 2 2]⟩
theorem ok195 : okFunc Go.Proofs.Tryz.prog 195 lf195 = true := by kernel_rfl
def lf196 : LFunc := ⟨66, 2,
(.seq
(.region [
o_ 2 (.boxt 2 (.t 0)),
o_ 3 (.boxt 2 (.t 1)),
o_ 4 (.newv [.int .i64 0, .int .i64 0]),
o_ 5 (.mv (.c (.int .i64 0)))] false)
(.seq
(.region [
o_ 12 (.fadr 0 (.t 2)),
o_ 13 (.load false 1 (.t 12)),
o_ 14 (.call false (.c (.fn 161 [] [])) [.t 13]),
o_ 15 (.fadr 1 (.t 3)),
o_ 16 (.load false 1 (.t 15)),
o_ 17 (.call false (.c (.fn 119 [] [])) [.t 14, .t 16]),
o_ 18 (.fadr 0 (.t 3)),
o_ 19 (.load false 1 (.t 18)),
o_ 20 (.call false (.c (.fn 161 [] [])) [.t 19]),
o_ 21 (.fadr 1 (.t 2)),
o_ 22 (.load false 1 (.t 21)),
o_ 23 (.call false (.c (.fn 119 [] [])) [.t 20, .t 22]),
m_ 6 17,
m_ 7 23] true)
(.seq
(.region [
o_ 24 (.fadr 0 (.t 2)),
o_ 25 (.load false 1 (.t 24)),
m_ 26 6,
o_ 27 (.bin .quo (.t 25) (.t 26)),
o_ 28 (.fadr 0 (.t 3)),
o_ 29 (.load false 1 (.t 28)),
m_ 30 7,
o_ 31 (.bin .quo (.t 29) (.t 30)),
m_ 8 27,
m_ 9 31] true)
(.seq
(.region [
o_ 32 (.fadr 1 (.t 2)),
o_ 33 (.load false 1 (.t 32)),
m_ 34 7,
o_ 35 (.bin .quo (.t 33) (.t 34)),
o_ 36 (.fadr 1 (.t 3)),
o_ 37 (.load false 1 (.t 36)),
m_ 38 6,
o_ 39 (.bin .quo (.t 37) (.t 38)),
m_ 10 35,
m_ 11 39] true)
(.seq
(.seq
(.region [
m_ 40 9,
o_ 41 (.bin .neq (.t 40) (.c (.int .i64 0))),
m_ 42 41,
g_ 43 (.mv (.t 8)) 42 true,
g_ 44 (.call false (.c (.fn 161 [] [])) [.t 43]) 42 true,
g_ 45 (.mv (.t 9)) 42 true,
g_ 46 (.call false (.c (.fn 161 [] [])) [.t 45]) 42 true,
g_ 47 (.bin .quo (.c (.int .i64 1099511627776)) (.t 46)) 42 true,
g_ 48 (.bin .gtr (.t 44) (.t 47)) 42 true,
o_ 49 (.pick (.t 42) (.t 48) (.c (.bool false))),
m_ 50 49,
g_ 51 (.mv (.t 10)) 50 false,
g_ 52 (.mv (.t 11)) 50 false,
g_ 53 (.bin .quo (.c (.int .i64 1048576)) (.t 52)) 50 false,
g_ 54 (.bin .gtr (.t 51) (.t 53)) 50 false,
o_ 55 (.pick (.t 50) (.c (.bool true)) (.t 54))] false)
(.cond (.t 55)
(.seq
(.region [
o_ 56 (.call false (.c (.fn 118 [] [])) []),
⟨none, .store 2 (.t 4) (.t 56), none⟩,
o_ 5 (.mv (.c (.int .i64 3)))] false)
.ret)
.skip))
(.seq
(.region [
m_ 57 8,
m_ 58 9,
o_ 59 (.bin .mul (.t 57) (.t 58)),
m_ 60 10,
m_ 61 11,
o_ 62 (.bin .mul (.t 60) (.t 61)),
o_ 63 (.call false (.c (.fn 170 [] [])) [.t 59, .t 62]),
o_ 64 (.extract (.t 63) 0),
o_ 65 (.extract (.t 63) 1),
⟨none, .store 2 (.t 4) (.t 64), none⟩,
m_ 5 65] false)
.ret)))))),
[.cell true 2 4, .t 5]⟩
theorem ok196 : okFunc Go.Proofs.Tryz.prog 196 lf196 = true := by kernel_rfl
def lf197 : LFunc := ⟨15, 3,
(.seq
(.region [
o_ 6 (.mv (.c (.bool false)))] false)
(.seq
(.region [
m_ 7 1,
m_ 8 0,
o_ 9 (.bin .leq (.t 7) (.t 8)),
m_ 10 9,
g_ 11 (.mv (.t 0)) 10 true,
g_ 12 (.mv (.t 2)) 10 true,
g_ 13 (.bin .leq (.t 11) (.t 12)) 10 true,
o_ 14 (.pick (.t 10) (.t 13) (.c (.bool false))),
m_ 6 14] false)
.ret)),
[.t 6]⟩
theorem ok197 : okFunc Go.Proofs.Tryz.prog 197 lf197 = true := by kernel_rfl
def lf198 : LFunc := ⟨12, 1,
(.seq
(.region [
o_ 1 (.boxt 3 (.t 0)),
o_ 2 (.mv (.c (.int .i64 0)))] false)
(.seq
(.seq
(.region [
o_ 3 (.load true 3 (.t 1)),
o_ 4 (.call false (.c (.fn 162 [] [])) [.t 3]),
o_ 5 (.not (.t 4))] false)
(.cond (.t 5)
(.seq
(.region [
o_ 2 (.mv (.c (.int .i64 (-1))))] false)
.ret)
.skip))
(.seq
(.region [
o_ 6 (.fadr 2 (.t 1)),
o_ 7 (.load false 1 (.t 6)),
o_ 8 (.bin .mul (.c (.int .i64 7)) (.t 7)),
o_ 9 (.fadr 0 (.t 1)),
o_ 10 (.load false 1 (.t 9)),
o_ 11 (.bin .add (.t 8) (.t 10)),
m_ 2 11] false)
.ret))),
[.t 2]⟩
theorem ok198 : okFunc Go.Proofs.Tryz.prog 198 lf198 = true := by kernel_rfl
def lf199 : LFunc := ⟨21, 1,
(.seq
(.region [
o_ 1 (.boxt 2 (.t 0)),
o_ 2 (.mv (.c (.int .i64 0)))] false)
(.seq
(.region [
o_ 5 (.fadr 0 (.t 1)),
o_ 6 (.load false 1 (.t 5)),
o_ 7 (.bin .sub (.t 6) (.c (.int .i64 (-1)))),
o_ 8 (.bin .shr (.c (.int .i64 2048)) (.t 7)),
m_ 3 8] false)
(.seq
(.region [
m_ 9 3,
m_ 4 9] false)
(.seq
(.seq
(.region [
o_ 10 (.fadr 1 (.t 1)),
o_ 11 (.load false 1 (.t 10)),
o_ 12 (.mv (.c (.int .i64 0)))] false)
(.block 0
(.loop
(.seq
(.region [
o_ 13 (.bin .lss (.t 12) (.t 11))] false)
(.seq
(.cond (.t 13)
.skip
(.exit 0))
(.seq
(.block 1
(.seq
(.region [
m_ 14 3,
o_ 15 (.bin .quo (.t 14) (.c (.int .i64 2))),
m_ 3 15] false)
(.region [
m_ 16 4,
m_ 17 3,
o_ 18 (.bin .add (.t 16) (.t 17)),
m_ 4 18] false)))
(.region [
o_ 19 (.bin .add (.t 12) (.c (.int .i64 1))),
m_ 12 19] false)))))))
(.seq
(.region [
m_ 20 4,
m_ 2 20] false)
.ret))))),
[.t 2]⟩
theorem ok199 : okFunc Go.Proofs.Tryz.prog 199 lf199 = true := by kernel_rfl
def lf200 : LFunc := ⟨19, 2,
(.seq
(.region [
o_ 4 (.mv (.c (.int .i64 0)))] false)
(.seq
(.seq
(.region [
m_ 6 0,
o_ 7 (.len .sli (.t 6)),
o_ 8 (.mv (.c (.int .i64 0)))] false)
(.block 0
(.loop
(.seq
(.region [
o_ 9 (.bin .lss (.t 8) (.t 7))] false)
(.seq
(.cond (.t 9)
.skip
(.exit 0))
(.seq
(.block 1
(.seq
(.region [
m_ 10 8,
m_ 5 10] false)
(.seq
(.region [
m_ 11 1,
m_ 12 0,
m_ 13 5,
o_ 14 (.idxa 3 (.t 12) (.t 13)),
o_ 15 (.load true 3 (.t 14)),
o_ 16 (.call false (.t 11) [.t 15])] false)
(.cond (.t 16)
(.seq
(.region [
m_ 17 5,
m_ 4 17] false)
.ret)
.skip))))
(.region [
o_ 18 (.bin .add (.t 8) (.c (.int .i64 1))),
m_ 8 18] false)))))))
(.seq
(.region [
o_ 4 (.mv (.c (.int .i64 (-1))))] false)
.ret))),
[.t 4]⟩
theorem ok200 : okFunc Go.Proofs.Tryz.prog 200 lf200 = true := by kernel_rfl
def lf201 : LFunc := ⟨19, 2,
(.seq
(.region [
o_ 3 (.boxt 3 (.t 1)),
o_ 4 (.mv (.c (.int .i64 0)))] false)
(.seq
(.seq
(.region [
m_ 6 0,
o_ 7 (.len .sli (.t 6)),
o_ 8 (.mv (.c (.int .i64 0)))] false)
(.block 0
(.loop
(.seq
(.region [
o_ 9 (.bin .lss (.t 8) (.t 7))] false)
(.seq
(.cond (.t 9)
.skip
(.exit 0))
(.seq
(.block 1
(.seq
(.region [
m_ 10 8,
m_ 5 10] false)
(.seq
(.region [
o_ 11 (.load true 3 (.t 3)),
m_ 12 0,
m_ 13 5,
o_ 14 (.idxa 3 (.t 12) (.t 13)),
o_ 15 (.load true 3 (.t 14)),
o_ 16 (.eq false (.ag [.i, .i, .i]) (.t 11) (.t 15))] true)
(.cond (.t 16)
(.seq
(.region [
m_ 17 5,
m_ 4 17] false)
.ret)
.skip))))
(.region [
o_ 18 (.bin .add (.t 8) (.c (.int .i64 1))),
m_ 8 18] false)))))))
(.seq
(.region [
o_ 4 (.mv (.c (.int .i64 (-1))))] false)
.ret))),
[.t 4]⟩
theorem ok201 : okFunc Go.Proofs.Tryz.prog 201 lf201 = true := by kernel_rfl
def lf202 : LFunc := ⟨12, 1,
(.seq
(.region [
o_ 1 (.boxt 3 (.t 0)),
o_ 2 (.mv (.c (.int .i64 0)))] false)
(.seq
(.seq
(.region [
o_ 3 (.load true 3 (.t 1)),
o_ 4 (.call false (.c (.fn 137 [] [])) [.t 3]),
o_ 5 (.not (.t 4))] false)
(.cond (.t 5)
(.seq
(.region [
o_ 2 (.mv (.c (.int .i64 (-1))))] false)
.ret)
.skip))
(.seq
(.region [
o_ 6 (.fadr 2 (.t 1)),
o_ 7 (.load false 1 (.t 6)),
o_ 8 (.bin .mul (.c (.int .i64 7)) (.t 7)),
o_ 9 (.fadr 0 (.t 1)),
o_ 10 (.load false 1 (.t 9)),
o_ 11 (.bin .add (.t 8) (.t 10)),
m_ 2 11] false)
.ret))),
[.t 2]⟩
theorem ok202 : okFunc Go.Proofs.Tryz.prog 202 lf202 = true := by kernel_rfl
def lf203 : LFunc := ⟨32, 1,
(.seq
(.region [
o_ 2 (.newv [.int .i64 0, .int .i64 0, .int .i64 0]),
o_ 3 (.mv (.c (.bool false)))] false)
(.seq
(.region [
o_ 7 (.bsl 1 5 [.str ⟨#[]⟩] [(0, .c (.str ⟨#[101, 115, 101, 115]⟩)), (1, .c (.str ⟨#[101, 115]⟩)), (2, .c (.str ⟨#[]⟩)), (3, .c (.str ⟨#[105, 115]⟩)), (4, .c (.str ⟨#[105, 115, 105, 115]⟩))]),
m_ 4 7] false)
(.seq
(.seq
(.region [
o_ 5 (.mv (.c (.int .i64 0)))] false)
(.block 0
(.loop
(.seq
(.seq
(.region [
m_ 8 5,
o_ 9 (.bin .lss (.t 8) (.c (.int .i64 7)))] false)
(.cond (.t 9)
.skip
(.exit 0)))
(.seq
(.block 1
(.seq
(.region [
o_ 6 (.mv (.c (.int .i64 0)))] false)
(.block 2
(.loop
(.seq
(.seq
(.region [
m_ 12 6,
o_ 13 (.bin .lss (.t 12) (.c (.int .i64 5)))] false)
(.cond (.t 13)
.skip
(.exit 2)))
(.seq
(.block 3
(.seq
(.region [
m_ 16 0,
m_ 17 5,
m_ 18 5,
o_ 19 (.bin .add (.t 18) (.c (.int .i64 1))),
o_ 20 (.substr (.c (.str ⟨#[99, 100, 101, 102, 103, 97, 98]⟩)) (some (.t 17)) (some (.t 19))),
m_ 21 4,
m_ 22 6,
o_ 23 (.idxa 1 (.t 21) (.t 22)),
o_ 24 (.load false 1 (.t 23)),
o_ 25 (.bin .add (.t 20) (.t 24)),
o_ 26 (.bin .eql (.t 16) (.t 25))] true)
(.cond (.t 26)
(.seq
(.region [
m_ 27 5,
m_ 28 6,
o_ 29 (.bin .sub (.t 28) (.c (.int .i64 2))),
o_ 30 (.build [.int .i64 0, .int .i64 0, .int .i64 0] [(0, 1, .t 27), (1, 1, .t 29)]),
⟨none, .store 3 (.t 2) (.t 30), none⟩,
o_ 3 (.mv (.c (.bool true)))] false)
.ret)
.skip)))
(.region [
m_ 14 6,
o_ 15 (.bin .add (.t 14) (.c (.int .i64 1))),
m_ 6 15] false)))))))
(.region [
m_ 10 5,
o_ 11 (.bin .add (.t 10) (.c (.int .i64 1))),
m_ 5 11] false))))))
(.seq
(.region [
o_ 31 (.build [.int .i64 0, .int .i64 0, .int .i64 0] []),
⟨none, .store 3 (.t 2) (.t 31), none⟩,
o_ 3 (.mv (.c (.bool false)))] false)
.ret)))),
[.cell true 3 2, .t 3]⟩
theorem ok203 : okFunc Go.Proofs.Tryz.prog 203 lf203 = true := by kernel_rfl
def lf204 : LFunc := ⟨59, 1,
(.seq
(.region [
o_ 2 (.newv [.int .i64 0, .int .i64 0, .int .i64 0])] false)
(.seq
(.region [
m_ 6 0,
o_ 7 (.call false (.c (.fn 212 [] [])) [.t 6]),
o_ 3 (.newv [.int .i64 0, .int .i64 0, .int .i64 0]),
⟨none, .store 3 (.t 3) (.t 7), none⟩] false)
(.seq
(.region [
o_ 4 (.mv (.c (.str ⟨#[]⟩)))] false)
(.seq
(.block 0
(.loop
(.seq
(.seq
(.region [
m_ 8 0,
o_ 9 (.call false (.c (.fn 34 [] [])) [.t 8]),
o_ 10 (.not (.t 9)),
m_ 11 10,
g_ 12 (.mv (.t 0)) 11 true,
g_ 13 (.call false (.c (.fn 35 [] [])) [.t 12]) 11 true,
g_ 14 (.field false 0 1 (.t 13)) 11 true,
g_ 15 (.bin .eql (.t 14) (.c (.int .i64 3))) 11 true,
o_ 16 (.pick (.t 11) (.t 15) (.c (.bool false)))] false)
(.cond (.t 16)
.skip
(.exit 0)))
(.block 1
(.seq
(.region [
m_ 17 0,
o_ 18 (.call false (.c (.fn 35 [] [])) [.t 17]),
o_ 19 (.field false 1 1 (.t 18)),
m_ 5 19] false)
(.seq
(.seq
(.region [
m_ 20 4,
o_ 21 (.bin .neq (.t 20) (.c (.str ⟨#[]⟩))),
m_ 22 21,
g_ 23 (.mv (.t 5)) 22 true,
g_ 24 (.mv (.t 4)) 22 true,
g_ 25 (.bin .neq (.t 23) (.t 24)) 22 true,
o_ 26 (.pick (.t 22) (.t 25) (.c (.bool false))),
m_ 27 26,
g_ 28 (.fadr 2 (.t 3)) 27 false,
g_ 29 (.load false 1 (.t 28)) 27 false,
g_ 30 (.bin .eql (.t 29) (.c (.int .i64 9))) 27 false,
o_ 31 (.pick (.t 27) (.c (.bool true)) (.t 30)),
m_ 32 31,
g_ 33 (.fadr 2 (.t 3)) 32 false,
g_ 34 (.load false 1 (.t 33)) 32 false,
g_ 35 (.bin .eql (.t 34) (.c (.int .i64 (-9)))) 32 false,
o_ 36 (.pick (.t 32) (.c (.bool true)) (.t 35))] false)
(.cond (.t 36)
(.seq
(.region [
m_ 37 0,
o_ 38 (.call false (.c (.fn 31 [] [])) [.t 37])] false)
(.seq
(.region [
o_ 39 (.load true 3 (.t 3)),
⟨none, .store 3 (.t 2) (.t 39), none⟩] false)
.ret))
.skip))
(.seq
(.region [
m_ 40 5,
m_ 4 40] false)
(.seq
(.region [
o_ 41 (.fadr 2 (.t 3)),
o_ 42 (.load false 1 (.t 41)),
o_ 43 (.bin .add (.t 42) (.c (.int .i64 1))),
o_ 44 (.fadr 2 (.t 3)),
⟨none, .store 1 (.t 44) (.t 43), none⟩] false)
(.seq
(.seq
(.region [
m_ 45 5,
o_ 46 (.bin .eql (.t 45) (.c (.str ⟨#[44]⟩)))] false)
(.cond (.t 46)
(.region [
o_ 47 (.fadr 2 (.t 3)),
o_ 48 (.load false 1 (.t 47)),
o_ 49 (.bin .sub (.t 48) (.c (.int .i64 2))),
o_ 50 (.fadr 2 (.t 3)),
⟨none, .store 1 (.t 50) (.t 49), none⟩] false)
.skip))
(.region [
m_ 51 0,
o_ 52 (.nilck (.t 51)),
o_ 53 (.fadr 1 (.t 52)),
o_ 54 (.load false 1 (.t 53)),
o_ 55 (.bin .add (.t 54) (.c (.int .i64 1))),
o_ 56 (.nilck (.t 51)),
o_ 57 (.fadr 1 (.t 56)),
⟨none, .store 1 (.t 57) (.t 55), none⟩] false))))))))))
(.seq
(.region [
o_ 58 (.load true 3 (.t 3)),
⟨none, .store 3 (.t 2) (.t 58), none⟩] false)
.ret))))),
[.cell true 3 2]⟩
theorem ok204 : okFunc Go.Proofs.Tryz.prog 204 lf204 = true := by kernel_rfl
def lf205 : LFunc := ⟨98, 2,
(.seq
(.region [
o_ 3 (.box 14 (.t 1)),
o_ 4 (.newv [.int .i64 0, .int .i64 0, .nils, .bool false, .int .i64 0, .int .i64 0, .bool false, .int .i64 0, .int .i64 0, .str ⟨#[]⟩, .int .i64 0, .int .i64 0, .str ⟨#[]⟩, .nils])] false)
(.seq
(.block 0
(.loop
(.seq
(.seq
(.region [
m_ 6 0,
o_ 7 (.call false (.c (.fn 34 [] [])) [.t 6]),
o_ 8 (.not (.t 7))] false)
(.cond (.t 8)
.skip
(.exit 0)))
(.block 1
(.seq
(.region [
o_ 9 (.fadr 6 (.t 3)),
o_ 10 (.load true 4 (.t 9)),
o_ 5 (.newv [.bool false, .int .i64 0, .int .i64 0, .str ⟨#[]⟩]),
⟨none, .store 4 (.t 5) (.t 10), none⟩] false)
(.seq
(.block 2
(.seq
(.region [
m_ 13 0,
o_ 14 (.call false (.c (.fn 30 [] [])) [.t 13, .c (.int .i64 4), .c (.str ⟨#[126]⟩)]),
m_ 15 14,
g_ 16 (.fadr 0 (.t 5)) 15 true,
g_ 17 (.load false 1 (.t 16)) 15 true,
g_ 18 (.not (.t 17)) 15 true,
o_ 19 (.pick (.t 15) (.t 18) (.c (.bool false))),
m_ 12 19] false)
(.cond (.t 12)
(.region [
o_ 20 (.fadr 0 (.t 5)),
⟨none, .store 1 (.t 20) (.c (.bool true)), none⟩] false)
(.seq
(.region [
m_ 22 0,
o_ 23 (.call false (.c (.fn 30 [] [])) [.t 22, .c (.int .i64 4), .c (.str ⟨#[40]⟩)]),
m_ 24 23,
g_ 25 (.fadr 1 (.t 5)) 24 true,
g_ 26 (.load false 1 (.t 25)) 24 true,
g_ 27 (.bin .lss (.t 26) (.c (.int .i64 4))) 24 true,
o_ 28 (.pick (.t 24) (.t 27) (.c (.bool false))),
m_ 21 28] false)
(.cond (.t 21)
(.region [
o_ 29 (.fadr 1 (.t 5)),
o_ 30 (.load false 1 (.t 29)),
o_ 31 (.bin .add (.t 30) (.c (.int .i64 1))),
o_ 32 (.fadr 1 (.t 5)),
⟨none, .store 1 (.t 32) (.t 31), none⟩] false)
(.seq
(.region [
m_ 34 0,
o_ 35 (.call false (.c (.fn 30 [] [])) [.t 34, .c (.int .i64 4), .c (.str ⟨#[41]⟩)]),
m_ 36 35,
g_ 37 (.fadr 2 (.t 5)) 36 true,
g_ 38 (.load false 1 (.t 37)) 36 true,
g_ 39 (.bin .lss (.t 38) (.c (.int .i64 4))) 36 true,
o_ 40 (.pick (.t 36) (.t 39) (.c (.bool false))),
m_ 33 40] false)
(.cond (.t 33)
(.region [
o_ 41 (.fadr 2 (.t 5)),
o_ 42 (.load false 1 (.t 41)),
o_ 43 (.bin .add (.t 42) (.c (.int .i64 1))),
o_ 44 (.fadr 2 (.t 5)),
⟨none, .store 1 (.t 44) (.t 43), none⟩] false)
(.seq
(.region [
m_ 46 0,
o_ 47 (.call false (.c (.fn 30 [] [])) [.t 46, .c (.int .i64 4), .c (.str ⟨#[33]⟩)]),
m_ 48 47,
g_ 49 (.fadr 3 (.t 5)) 48 true,
g_ 50 (.load false 1 (.t 49)) 48 true,
g_ 51 (.bin .eql (.t 50) (.c (.str ⟨#[]⟩))) 48 true,
o_ 52 (.pick (.t 48) (.t 51) (.c (.bool false))),
m_ 45 52] false)
(.cond (.t 45)
(.seq
(.region [
m_ 53 0,
o_ 54 (.nilck (.t 53)),
o_ 55 (.fadr 1 (.t 54)),
o_ 56 (.load false 1 (.t 55)),
o_ 57 (.bin .add (.t 56) (.c (.int .i64 1))),
o_ 58 (.nilck (.t 53)),
o_ 59 (.fadr 1 (.t 58)),
⟨none, .store 1 (.t 59) (.t 57), none⟩] false)
(.seq
(.region [
m_ 60 0,
o_ 61 (.call false (.c (.fn 210 [] [])) []),
o_ 62 (.call false (.c (.fn 213 [] [])) [.t 60, .t 61]),
o_ 63 (.fadr 3 (.t 5)),
⟨none, .store 1 (.t 63) (.t 62), none⟩] false)
(.region [
m_ 64 0,
o_ 65 (.nilck (.t 64)),
o_ 66 (.fadr 1 (.t 65)),
o_ 67 (.load false 1 (.t 66)),
o_ 68 (.bin .sub (.t 67) (.c (.int .i64 1))),
o_ 69 (.nilck (.t 64)),
o_ 70 (.fadr 1 (.t 69)),
⟨none, .store 1 (.t 70) (.t 68), none⟩] false)))
(.seq
(.region [
m_ 72 0,
o_ 73 (.call false (.c (.fn 30 [] [])) [.t 72, .c (.int .i64 4), .c (.str ⟨#[126]⟩)]),
m_ 74 73,
g_ 75 (.mv (.t 0)) 74 false,
g_ 76 (.call false (.c (.fn 30 [] [])) [.t 75, .c (.int .i64 4), .c (.str ⟨#[40]⟩)]) 74 false,
o_ 77 (.pick (.t 74) (.c (.bool true)) (.t 76)),
m_ 78 77,
g_ 79 (.mv (.t 0)) 78 false,
g_ 80 (.call false (.c (.fn 30 [] [])) [.t 79, .c (.int .i64 4), .c (.str ⟨#[41]⟩)]) 78 false,
o_ 81 (.pick (.t 78) (.c (.bool true)) (.t 80)),
m_ 82 81,
g_ 83 (.mv (.t 0)) 82 false,
g_ 84 (.call false (.c (.fn 30 [] [])) [.t 83, .c (.int .i64 4), .c (.str ⟨#[33]⟩)]) 82 false,
o_ 85 (.pick (.t 82) (.c (.bool true)) (.t 84)),
m_ 71 85] false)
(.cond (.t 71)
(.region [
m_ 86 0,
o_ 87 (.call false (.c (.fn 31 [] [])) [.t 86])] false)
(.seq
(.region [
o_ 11 (.load true 14 (.t 3)),
⟨none, .store 14 (.t 4) (.t 11), none⟩] false)
.ret))))))))))))
(.seq
(.region [
o_ 88 (.load true 4 (.t 5)),
o_ 89 (.fadr 6 (.t 3)),
⟨none, .store 4 (.t 89) (.t 88), none⟩] false)
(.region [
m_ 90 0,
o_ 91 (.nilck (.t 90)),
o_ 92 (.fadr 1 (.t 91)),
o_ 93 (.load false 1 (.t 92)),
o_ 94 (.bin .add (.t 93) (.c (.int .i64 1))),
o_ 95 (.nilck (.t 90)),
o_ 96 (.fadr 1 (.t 95)),
⟨none, .store 1 (.t 96) (.t 94), none⟩] false))))))))
(.seq
(.region [
o_ 97 (.load true 14 (.t 3)),
⟨none, .store 14 (.t 4) (.t 97), none⟩] false)
.ret))),
[.cell true 14 4]⟩
theorem ok205 : okFunc Go.Proofs.Tryz.prog 205 lf205 = true := by kernel_rfl
def lf206 : LFunc := ⟨63, 2,
(.seq
(.region [
o_ 3 (.box 14 (.t 1)),
o_ 4 (.newv [.int .i64 0, .int .i64 0, .nils, .bool false, .int .i64 0, .int .i64 0, .bool false, .int .i64 0, .int .i64 0, .str ⟨#[]⟩, .int .i64 0, .int .i64 0, .str ⟨#[]⟩, .nils])] false)
(.seq
(.seq
(.region [
m_ 7 0,
o_ 8 (.call false (.c (.fn 34 [] [])) [.t 7]),
m_ 9 8,
g_ 10 (.mv (.t 0)) 9 false,
g_ 11 (.call false (.c (.fn 35 [] [])) [.t 10]) 9 false,
g_ 12 (.field false 0 1 (.t 11)) 9 false,
g_ 13 (.bin .neq (.t 12) (.c (.int .i64 2))) 9 false,
g_ 14 (.mv (.t 13)) 9 false,
g_ 15 (.mv (.t 0)) 14 true,
g_ 16 (.call false (.c (.fn 30 [] [])) [.t 15, .c (.int .i64 1), .c (.str ⟨#[98, 114, 101, 118, 101]⟩)]) 14 true,
g_ 17 (.not (.t 16)) 14 true,
g_ 18 (.pick (.t 14) (.t 17) (.c (.bool false))) 9 false,
o_ 19 (.pick (.t 9) (.c (.bool true)) (.t 18))] false)
(.cond (.t 19)
(.seq
(.region [
o_ 20 (.load true 14 (.t 3)),
⟨none, .store 14 (.t 4) (.t 20), none⟩] false)
.ret)
.skip))
(.seq
(.region [
m_ 22 0,
o_ 23 (.call false (.c (.fn 35 [] [])) [.t 22]),
o_ 24 (.field false 1 1 (.t 23)),
o_ 25 (.call false (.c (.fn 214 [] [])) [.t 24]),
m_ 21 25,
o_ 26 (.extract (.t 21) 0),
o_ 27 (.extract (.t 21) 1),
o_ 5 (.newv [.int .i64 0, .int .i64 0]),
⟨none, .store 2 (.t 5) (.t 26), none⟩,
m_ 6 27] false)
(.seq
(.seq
(.region [
m_ 28 6,
o_ 29 (.not (.t 28))] false)
(.cond (.t 29)
(.seq
(.region [
m_ 30 0,
o_ 31 (.call false (.c (.fn 32 [] [])) [.t 30, .c (.int .i64 21)])] false)
(.seq
(.region [
o_ 32 (.load true 14 (.t 3)),
⟨none, .store 14 (.t 4) (.t 32), none⟩] false)
.ret))
.skip))
(.seq
(.region [
m_ 33 0,
o_ 34 (.nilck (.t 33)),
o_ 35 (.fadr 1 (.t 34)),
o_ 36 (.load false 1 (.t 35)),
o_ 37 (.bin .add (.t 36) (.c (.int .i64 1))),
o_ 38 (.nilck (.t 33)),
o_ 39 (.fadr 1 (.t 38)),
⟨none, .store 1 (.t 39) (.t 37), none⟩] false)
(.seq
(.block 0
(.loop
(.seq
(.seq
(.region [
m_ 40 0,
o_ 41 (.call false (.c (.fn 30 [] [])) [.t 40, .c (.int .i64 4), .c (.str ⟨#[46]⟩)])] false)
(.cond (.t 41)
.skip
(.exit 0)))
(.block 1
(.seq
(.seq
(.region [
o_ 42 (.fadr 1 (.t 5)),
o_ 43 (.load false 1 (.t 42)),
o_ 44 (.bin .eql (.t 43) (.c (.int .i64 3)))] false)
(.cond (.t 44)
(.seq
(.region [
m_ 45 0,
o_ 46 (.call false (.c (.fn 32 [] [])) [.t 45, .c (.int .i64 21)])] false)
(.seq
(.region [
o_ 47 (.load true 14 (.t 3)),
⟨none, .store 14 (.t 4) (.t 47), none⟩] false)
.ret))
.skip))
(.seq
(.region [
o_ 48 (.fadr 1 (.t 5)),
o_ 49 (.load false 1 (.t 48)),
o_ 50 (.bin .add (.t 49) (.c (.int .i64 1))),
o_ 51 (.fadr 1 (.t 5)),
⟨none, .store 1 (.t 51) (.t 50), none⟩] false)
(.region [
m_ 52 0,
o_ 53 (.nilck (.t 52)),
o_ 54 (.fadr 1 (.t 53)),
o_ 55 (.load false 1 (.t 54)),
o_ 56 (.bin .add (.t 55) (.c (.int .i64 1))),
o_ 57 (.nilck (.t 52)),
o_ 58 (.fadr 1 (.t 57)),
⟨none, .store 1 (.t 58) (.t 56), none⟩] false)))))))
(.seq
(.region [
o_ 59 (.loadF true 2 (.t 5)),
o_ 60 (.fadr 3 (.t 3)),
⟨none, .storeF 1 (.t 60) (.c (.bool true)), none⟩,
o_ 61 (.fadr 4 (.t 3)),
⟨none, .store 2 (.t 61) (.t 59), none⟩] true)
(.seq
(.region [
o_ 62 (.load true 14 (.t 3)),
⟨none, .store 14 (.t 4) (.t 62), none⟩] false)
.ret)))))))),
[.cell true 14 4]⟩
theorem ok206 : okFunc Go.Proofs.Tryz.prog 206 lf206 = true := by kernel_rfl
def lf207 : LFunc := ⟨63, 2,
(.seq
(.region [
o_ 3 (.box 14 (.t 1)),
o_ 4 (.newv [.int .i64 0, .int .i64 0, .nils, .bool false, .int .i64 0, .int .i64 0, .bool false, .int .i64 0, .int .i64 0, .str ⟨#[]⟩, .int .i64 0, .int .i64 0, .str ⟨#[]⟩, .nils])] false)
(.seq
(.region [
m_ 7 0,
o_ 8 (.nilck (.t 7)),
o_ 9 (.fadr 1 (.t 8)),
o_ 10 (.load false 1 (.t 9)),
o_ 11 (.bin .add (.t 10) (.c (.int .i64 1))),
o_ 12 (.nilck (.t 7)),
o_ 13 (.fadr 1 (.t 12)),
⟨none, .store 1 (.t 13) (.t 11), none⟩] false)
(.seq
(.region [
o_ 14 (.fadr 2 (.t 3)),
o_ 15 (.load false 1 (.t 14)),
m_ 16 0,
o_ 17 (.call false (.c (.fn 204 [] [])) [.t 16]),
o_ 18 (.btsl 3 1 [.int .i64 0, .int .i64 0, .int .i64 0] [(0, .t 17)]),
o_ 19 (.append 3 24 (.t 15) (.t 18)),
o_ 20 (.fadr 2 (.t 3)),
⟨none, .store 1 (.t 20) (.t 19), none⟩] true)
(.seq
(.block 0
(.loop
(.seq
(.seq
(.region [
m_ 21 0,
o_ 22 (.call false (.c (.fn 34 [] [])) [.t 21]),
o_ 23 (.not (.t 22)),
m_ 24 23,
g_ 25 (.mv (.t 0)) 24 true,
g_ 26 (.call false (.c (.fn 30 [] [])) [.t 25, .c (.int .i64 4), .c (.str ⟨#[62]⟩)]) 24 true,
g_ 27 (.not (.t 26)) 24 true,
o_ 28 (.pick (.t 24) (.t 27) (.c (.bool false)))] false)
(.cond (.t 28)
.skip
(.exit 0)))
(.block 1
(.seq
(.seq
(.region [
o_ 29 (.fadr 2 (.t 3)),
o_ 30 (.load false 1 (.t 29)),
o_ 31 (.len .sli (.t 30)),
o_ 32 (.bin .eql (.t 31) (.c (.int .i64 16)))] false)
(.cond (.t 32)
(.seq
(.region [
m_ 34 0,
o_ 35 (.call false (.c (.fn 35 [] [])) [.t 34]),
o_ 36 (.field false 1 1 (.t 35)),
o_ 37 (.call false (.c (.fn 203 [] [])) [.t 36]),
m_ 33 37,
o_ 38 (.extract (.t 33) 0),
o_ 39 (.extract (.t 33) 1),
o_ 5 (.newv [.int .i64 0, .int .i64 0, .int .i64 0]),
⟨none, .store 3 (.t 5) (.t 38), none⟩,
m_ 6 39] false)
(.seq
(.region [
m_ 40 6,
m_ 41 40,
g_ 42 (.mv (.t 0)) 41 true,
g_ 43 (.call false (.c (.fn 35 [] [])) [.t 42]) 41 true,
g_ 44 (.field false 0 1 (.t 43)) 41 true,
g_ 45 (.bin .eql (.t 44) (.c (.int .i64 1))) 41 true,
o_ 46 (.pick (.t 41) (.t 45) (.c (.bool false)))] false)
(.cond (.t 46)
(.region [
m_ 47 0,
o_ 48 (.call false (.c (.fn 32 [] [])) [.t 47, .c (.int .i64 4)])] false)
.skip)))
.skip))
(.region [
o_ 49 (.fadr 2 (.t 3)),
o_ 50 (.load false 1 (.t 49)),
m_ 51 0,
o_ 52 (.call false (.c (.fn 204 [] [])) [.t 51]),
o_ 53 (.btsl 3 1 [.int .i64 0, .int .i64 0, .int .i64 0] [(0, .t 52)]),
o_ 54 (.append 3 24 (.t 50) (.t 53)),
o_ 55 (.fadr 2 (.t 3)),
⟨none, .store 1 (.t 55) (.t 54), none⟩] true))))))
(.seq
(.region [
m_ 56 0,
o_ 57 (.call false (.c (.fn 85 [] [])) [.t 56, .c (.str ⟨#[62]⟩)])] false)
(.seq
(.region [
m_ 58 0,
m_ 59 0,
o_ 60 (.load true 14 (.t 3)),
o_ 61 (.call false (.c (.fn 206 [] [])) [.t 59, .t 60]),
o_ 62 (.call false (.c (.fn 205 [] [])) [.t 58, .t 61]),
⟨none, .store 14 (.t 4) (.t 62), none⟩] false)
.ret)))))),
[.cell true 14 4]⟩
theorem ok207 : okFunc Go.Proofs.Tryz.prog 207 lf207 = true := by kernel_rfl
def lf208 : LFunc := ⟨71, 2,
(.seq
(.region [
o_ 3 (.box 14 (.t 1)),
o_ 4 (.newv [.int .i64 0, .int .i64 0, .nils, .bool false, .int .i64 0, .int .i64 0, .bool false, .int .i64 0, .int .i64 0, .str ⟨#[]⟩, .int .i64 0, .int .i64 0, .str ⟨#[]⟩, .nils])] false)
(.seq
(.region [
m_ 5 0,
o_ 6 (.nilck (.t 5)),
o_ 7 (.fadr 1 (.t 6)),
o_ 8 (.load false 1 (.t 7)),
o_ 9 (.bin .add (.t 8) (.c (.int .i64 1))),
o_ 10 (.nilck (.t 5)),
o_ 11 (.fadr 1 (.t 10)),
⟨none, .store 1 (.t 11) (.t 9), none⟩] false)
(.seq
(.seq
(.region [
o_ 12 (.fadr 0 (.t 3)),
o_ 13 (.load false 1 (.t 12))] false)
(.block 0
(.seq
(.region [
o_ 15 (.bin .eql (.t 13) (.c (.int .i64 5))),
m_ 14 15] false)
(.cond (.t 14)
(.seq
(.region [
m_ 16 0,
o_ 17 (.call false (.c (.fn 215 [] [])) [.t 16, .c (.int .i64 16)]),
o_ 18 (.fadr 10 (.t 3)),
⟨none, .store 1 (.t 18) (.t 17), none⟩] false)
(.seq
(.region [
m_ 19 0,
o_ 20 (.call false (.c (.fn 85 [] [])) [.t 19, .c (.str ⟨#[47]⟩)])] false)
(.seq
(.region [
m_ 21 0,
o_ 22 (.call false (.c (.fn 215 [] [])) [.t 21, .c (.int .i64 16)]),
o_ 23 (.fadr 11 (.t 3)),
⟨none, .store 1 (.t 23) (.t 22), none⟩] false)
(.region [
m_ 24 0,
o_ 25 (.call false (.c (.fn 86 [] [])) [.t 24, .c (.int .i64 1)]),
o_ 26 (.fadr 13 (.t 3)),
⟨none, .store 1 (.t 26) (.t 25), none⟩] false))))
(.seq
(.region [
o_ 28 (.bin .eql (.t 13) (.c (.int .i64 6))),
m_ 27 28] false)
(.cond (.t 27)
(.region [
m_ 29 0,
o_ 30 (.call false (.c (.fn 86 [] [])) [.t 29, .c (.int .i64 2)]),
o_ 31 (.fadr 13 (.t 3)),
⟨none, .store 1 (.t 31) (.t 30), none⟩] false)
(.seq
(.region [
o_ 33 (.bin .eql (.t 13) (.c (.int .i64 7))),
m_ 32 33] false)
(.cond (.t 32)
(.seq
(.region [
m_ 34 0,
o_ 35 (.call false (.c (.fn 215 [] [])) [.t 34, .c (.int .i64 8)]),
o_ 36 (.fadr 10 (.t 3)),
⟨none, .store 1 (.t 36) (.t 35), none⟩] false)
(.region [
m_ 37 0,
o_ 38 (.call false (.c (.fn 86 [] [])) [.t 37, .c (.int .i64 0)]),
o_ 39 (.fadr 13 (.t 3)),
⟨none, .store 1 (.t 39) (.t 38), none⟩] false))
(.seq
(.region [
o_ 41 (.bin .eql (.t 13) (.c (.int .i64 8))),
m_ 40 41] false)
(.cond (.t 40)
(.seq
(.region [
m_ 42 0,
o_ 43 (.call false (.c (.fn 204 [] [])) [.t 42]),
o_ 44 (.bsl 3 1 [.int .i64 0, .int .i64 0, .int .i64 0] [(0, .t 43)]),
o_ 45 (.fadr 2 (.t 3)),
⟨none, .store 1 (.t 45) (.t 44), none⟩] false)
(.region [
m_ 46 0,
o_ 47 (.call false (.c (.fn 86 [] [])) [.t 46, .c (.int .i64 0)]),
o_ 48 (.fadr 13 (.t 3)),
⟨none, .store 1 (.t 48) (.t 47), none⟩] false))
(.seq
(.region [
o_ 50 (.bin .eql (.t 13) (.c (.int .i64 9))),
m_ 49 50] false)
(.cond (.t 49)
(.region [
m_ 51 0,
o_ 52 (.call false (.c (.fn 184 [] [])) []),
o_ 53 (.call false (.c (.fn 213 [] [])) [.t 51, .t 52]),
o_ 54 (.fadr 12 (.t 3)),
⟨none, .store 1 (.t 54) (.t 53), none⟩] false)
(.seq
(.region [
o_ 56 (.bin .eql (.t 13) (.c (.int .i64 10))),
m_ 55 56] false)
(.cond (.t 55)
(.seq
(.region [
m_ 57 0,
o_ 58 (.call false (.c (.fn 212 [] [])) [.t 57]),
o_ 59 (.bsl 3 1 [.int .i64 0, .int .i64 0, .int .i64 0] [(0, .t 58)]),
o_ 60 (.fadr 2 (.t 3)),
⟨none, .store 1 (.t 60) (.t 59), none⟩] false)
(.region [
m_ 61 0,
o_ 62 (.call false (.c (.fn 185 [] [])) []),
o_ 63 (.call false (.c (.fn 213 [] [])) [.t 61, .t 62]),
o_ 64 (.fadr 12 (.t 3)),
⟨none, .store 1 (.t 64) (.t 63), none⟩] false))
(.seq
(.region [
o_ 66 (.bin .eql (.t 13) (.c (.int .i64 11))),
m_ 65 66] false)
(.cond (.t 65)
(.seq
(.region [
m_ 67 0,
o_ 68 (.load true 14 (.t 3)),
o_ 69 (.call false (.c (.fn 216 [] [])) [.t 67, .t 68]),
⟨none, .store 14 (.t 4) (.t 69), none⟩] false)
.ret)
.skip))))))))))))))))
(.seq
(.region [
o_ 70 (.load true 14 (.t 3)),
⟨none, .store 14 (.t 4) (.t 70), none⟩] false)
.ret)))),
[.cell true 14 4]⟩
theorem ok208 : okFunc Go.Proofs.Tryz.prog 208 lf208 = true := by kernel_rfl
def lf209 : LFunc := ⟨16, 1,
(.seq
(.region [
o_ 2 (.newv [.int .i64 0, .int .i64 0, .int .i64 0]),
o_ 3 (.mv (.c (.bool false)))] false)
(.seq
(.seq
(.region [
m_ 4 0,
o_ 5 (.bin .lss (.t 4) (.c (.int .i64 0))),
m_ 6 5,
g_ 7 (.mv (.t 0)) 6 false,
g_ 8 (.bin .gtr (.t 7) (.c (.int .i64 69))) 6 false,
o_ 9 (.pick (.t 6) (.c (.bool true)) (.t 8))] false)
(.cond (.t 9)
(.seq
(.region [
o_ 10 (.build [.int .i64 0, .int .i64 0, .int .i64 0] []),
⟨none, .store 3 (.t 2) (.t 10), none⟩,
o_ 3 (.mv (.c (.bool false)))] false)
.ret)
.skip))
(.seq
(.region [
m_ 11 0,
o_ 12 (.bin .rem (.t 11) (.c (.int .i64 7))),
m_ 13 0,
o_ 14 (.bin .quo (.t 13) (.c (.int .i64 7))),
o_ 15 (.build [.int .i64 0, .int .i64 0, .int .i64 0] [(0, 1, .t 12), (2, 1, .t 14)]),
⟨none, .store 3 (.t 2) (.t 15), none⟩,
o_ 3 (.mv (.c (.bool true)))] false)
.ret))),
[.cell true 3 2, .t 3]⟩
theorem ok209 : okFunc Go.Proofs.Tryz.prog 209 lf209 = true := by kernel_rfl
def lf210 : LFunc := ⟨2, 0,
(.seq
(.region [
o_ 0 (.mv (.c (.nils)))] false)
(.seq
(.region [
o_ 1 (.bsl 1 6 [.str ⟨#[]⟩] [(0, .c (.str ⟨#[112, 112]⟩)), (1, .c (.str ⟨#[112]⟩)), (2, .c (.str ⟨#[109, 112]⟩)), (3, .c (.str ⟨#[109, 102]⟩)), (4, .c (.str ⟨#[102]⟩)), (5, .c (.str ⟨#[102, 102]⟩))]),
m_ 0 1] false)
.ret)),
[.t 0]⟩
theorem ok210 : okFunc Go.Proofs.Tryz.prog 210 lf210 = true := by kernel_rfl
def lf211 : LFunc := ⟨22, 2,
(.seq
(.region [
o_ 4 (.mv (.c (.bool false)))] false)
(.seq
(.seq
(.region [
m_ 6 0,
o_ 7 (.ifnil false (.t 6)),
m_ 8 7,
g_ 9 (.mv (.t 1)) 8 false,
g_ 10 (.ifnil false (.t 9)) 8 false,
o_ 11 (.pick (.t 8) (.c (.bool true)) (.t 10))] false)
(.cond (.t 11)
(.seq
(.region [
m_ 12 0,
m_ 13 1,
o_ 14 (.bad),
m_ 4 14] false)
.ret)
.skip))
(.seq
(.region [
m_ 15 1,
o_ 16 (.call false (.c (.fn 217 [] [])) [.t 15]),
o_ 17 (.bad),
m_ 5 17] false)
(.seq
(.region [
m_ 18 0,
m_ 19 1,
m_ 20 5,
o_ 21 (.call false (.c (.fn 218 [] [])) [.t 18, .t 19, .t 20]),
m_ 4 21] false)
.ret)))),
[.t 4]⟩
theorem ok211 : okFunc Go.Proofs.Tryz.prog 211 lf211 = true := by kernel_rfl
def lf212 : LFunc := ⟨35, 1,
(.seq
(.region [
o_ 2 (.newv [.int .i64 0, .int .i64 0, .int .i64 0])] false)
(.seq
(.region [
m_ 6 0,
o_ 7 (.call false (.c (.fn 35 [] [])) [.t 6]),
o_ 8 (.field false 1 1 (.t 7)),
o_ 9 (.call false (.c (.fn 203 [] [])) [.t 8]),
m_ 5 9,
o_ 10 (.extract (.t 5) 0),
o_ 11 (.extract (.t 5) 1),
o_ 3 (.newv [.int .i64 0, .int .i64 0, .int .i64 0]),
⟨none, .store 3 (.t 3) (.t 10), none⟩,
m_ 4 11] false)
(.seq
(.seq
(.region [
m_ 12 0,
o_ 13 (.call false (.c (.fn 34 [] [])) [.t 12]),
m_ 14 13,
g_ 15 (.mv (.t 0)) 14 false,
g_ 16 (.call false (.c (.fn 35 [] [])) [.t 15]) 14 false,
g_ 17 (.field false 0 1 (.t 16)) 14 false,
g_ 18 (.bin .neq (.t 17) (.c (.int .i64 1))) 14 false,
o_ 19 (.pick (.t 14) (.c (.bool true)) (.t 18)),
m_ 20 19,
g_ 21 (.mv (.t 4)) 20 false,
g_ 22 (.not (.t 21)) 20 false,
o_ 23 (.pick (.t 20) (.c (.bool true)) (.t 22))] false)
(.cond (.t 23)
(.seq
(.region [
m_ 24 0,
o_ 25 (.call false (.c (.fn 31 [] [])) [.t 24])] false)
(.seq
(.region [
o_ 26 (.build [.int .i64 0, .int .i64 0, .int .i64 0] []),
⟨none, .store 3 (.t 2) (.t 26), none⟩] false)
.ret))
.skip))
(.seq
(.region [
m_ 27 0,
o_ 28 (.nilck (.t 27)),
o_ 29 (.fadr 1 (.t 28)),
o_ 30 (.load false 1 (.t 29)),
o_ 31 (.bin .add (.t 30) (.c (.int .i64 1))),
o_ 32 (.nilck (.t 27)),
o_ 33 (.fadr 1 (.t 32)),
⟨none, .store 1 (.t 33) (.t 31), none⟩] false)
(.seq
(.region [
o_ 34 (.load true 3 (.t 3)),
⟨none, .store 3 (.t 2) (.t 34), none⟩] false)
.ret))))),
[.cell true 3 2]⟩
theorem ok212 : okFunc Go.Proofs.Tryz.prog 212 lf212 = true := by kernel_rfl
def lf213 : LFunc := ⟨42, 2,
(.seq
(.region [
o_ 4 (.mv (.c (.str ⟨#[]⟩)))] false)
(.seq
(.seq
(.region [
m_ 5 0,
o_ 6 (.call false (.c (.fn 34 [] [])) [.t 5]),
m_ 7 6,
g_ 8 (.mv (.t 0)) 7 false,
g_ 9 (.call false (.c (.fn 35 [] [])) [.t 8]) 7 false,
g_ 10 (.field false 0 1 (.t 9)) 7 false,
g_ 11 (.bin .neq (.t 10) (.c (.int .i64 1))) 7 false,
o_ 12 (.pick (.t 7) (.c (.bool true)) (.t 11)),
m_ 13 12,
g_ 14 (.mv (.t 1)) 13 false,
g_ 15 (.mv (.t 0)) 13 false,
g_ 16 (.call false (.c (.fn 35 [] [])) [.t 15]) 13 false,
g_ 17 (.field false 1 1 (.t 16)) 13 false,
g_ 18 (.call false (.c (.fn 183 [] [])) [.t 14, .t 17]) 13 false,
g_ 19 (.not (.t 18)) 13 false,
o_ 20 (.pick (.t 13) (.c (.bool true)) (.t 19))] false)
(.cond (.t 20)
(.seq
(.region [
m_ 21 0,
o_ 22 (.call false (.c (.fn 31 [] [])) [.t 21])] false)
(.seq
(.region [
o_ 4 (.mv (.c (.str ⟨#[]⟩)))] false)
.ret))
.skip))
(.seq
(.region [
m_ 23 0,
o_ 24 (.nilck (.t 23)),
o_ 25 (.fadr 1 (.t 24)),
o_ 26 (.load false 1 (.t 25)),
o_ 27 (.bin .add (.t 26) (.c (.int .i64 1))),
o_ 28 (.nilck (.t 23)),
o_ 29 (.fadr 1 (.t 28)),
⟨none, .store 1 (.t 29) (.t 27), none⟩] false)
(.seq
(.region [
m_ 30 0,
o_ 31 (.nilck (.t 30)),
o_ 32 (.fadr 0 (.t 31)),
o_ 33 (.load false 1 (.t 32)),
m_ 34 0,
o_ 35 (.nilck (.t 34)),
o_ 36 (.fadr 1 (.t 35)),
o_ 37 (.load false 1 (.t 36)),
o_ 38 (.bin .sub (.t 37) (.c (.int .i64 1))),
o_ 39 (.idxa 3 (.t 33) (.t 38)),
o_ 40 (.fadr 1 (.t 39)),
o_ 41 (.load false 1 (.t 40)),
m_ 4 41] true)
.ret)))),
[.t 4]⟩
theorem ok213 : okFunc Go.Proofs.Tryz.prog 213 lf213 = true := by kernel_rfl
def lf214 : LFunc := ⟨25, 1,
(.seq
(.region [
o_ 2 (.newv [.int .i64 0, .int .i64 0]),
o_ 3 (.mv (.c (.bool false)))] false)
(.seq
(.region [
o_ 6 (.call false (.c (.fn 219 [] [])) []),
m_ 4 6] false)
(.seq
(.seq
(.region [
o_ 5 (.mv (.c (.int .i64 0)))] false)
(.block 0
(.loop
(.seq
(.seq
(.region [
m_ 7 5,
m_ 8 4,
o_ 9 (.len .sli (.t 8)),
o_ 10 (.bin .lss (.t 7) (.t 9))] false)
(.cond (.t 10)
.skip
(.exit 0)))
(.seq
(.block 1
(.seq
(.region [
m_ 13 4,
m_ 14 5,
o_ 15 (.idxa 2 (.t 13) (.t 14)),
o_ 16 (.load true 2 (.t 15)),
o_ 17 (.call false (.c (.fn 220 [] [])) [.t 16]),
m_ 18 0,
o_ 19 (.bin .eql (.t 17) (.t 18))] false)
(.cond (.t 19)
(.seq
(.region [
m_ 20 4,
m_ 21 5,
o_ 22 (.idxa 2 (.t 20) (.t 21)),
o_ 23 (.load true 2 (.t 22)),
⟨none, .store 2 (.t 2) (.t 23), none⟩,
o_ 3 (.mv (.c (.bool true)))] false)
.ret)
.skip)))
(.region [
m_ 11 5,
o_ 12 (.bin .add (.t 11) (.c (.int .i64 1))),
m_ 5 12] false))))))
(.seq
(.region [
o_ 24 (.build [.int .i64 0, .int .i64 0] []),
⟨none, .store 2 (.t 2) (.t 24), none⟩,
o_ 3 (.mv (.c (.bool false)))] false)
.ret)))),
[.cell true 2 2, .t 3]⟩
theorem ok214 : okFunc Go.Proofs.Tryz.prog 214 lf214 = true := by kernel_rfl
def lf215 : LFunc := ⟨50, 2,
(.seq
(.region [
o_ 4 (.mv (.c (.int .i64 0)))] false)
(.seq
(.seq
(.region [
m_ 5 0,
o_ 6 (.call false (.c (.fn 34 [] [])) [.t 5]),
m_ 7 6,
g_ 8 (.mv (.t 0)) 7 false,
g_ 9 (.call false (.c (.fn 35 [] [])) [.t 8]) 7 false,
g_ 10 (.field false 0 1 (.t 9)) 7 false,
g_ 11 (.bin .neq (.t 10) (.c (.int .i64 2))) 7 false,
o_ 12 (.pick (.t 7) (.c (.bool true)) (.t 11)),
m_ 13 12,
g_ 14 (.mv (.t 0)) 13 false,
g_ 15 (.call false (.c (.fn 35 [] [])) [.t 14]) 13 false,
g_ 16 (.field false 1 1 (.t 15)) 13 false,
g_ 17 (.call false (.c (.fn 221 [] [])) [.t 16]) 13 false,
g_ 18 (.bin .lss (.t 17) (.c (.int .i64 1))) 13 false,
o_ 19 (.pick (.t 13) (.c (.bool true)) (.t 18)),
m_ 20 19,
g_ 21 (.mv (.t 0)) 20 false,
g_ 22 (.call false (.c (.fn 35 [] [])) [.t 21]) 20 false,
g_ 23 (.field false 1 1 (.t 22)) 20 false,
g_ 24 (.call false (.c (.fn 221 [] [])) [.t 23]) 20 false,
g_ 25 (.mv (.t 1)) 20 false,
g_ 26 (.bin .gtr (.t 24) (.t 25)) 20 false,
o_ 27 (.pick (.t 20) (.c (.bool true)) (.t 26))] false)
(.cond (.t 27)
(.seq
(.region [
m_ 28 0,
o_ 29 (.call false (.c (.fn 31 [] [])) [.t 28])] false)
(.seq
(.region [
o_ 4 (.mv (.c (.int .i64 0)))] false)
.ret))
.skip))
(.seq
(.region [
m_ 30 0,
o_ 31 (.nilck (.t 30)),
o_ 32 (.fadr 1 (.t 31)),
o_ 33 (.load false 1 (.t 32)),
o_ 34 (.bin .add (.t 33) (.c (.int .i64 1))),
o_ 35 (.nilck (.t 30)),
o_ 36 (.fadr 1 (.t 35)),
⟨none, .store 1 (.t 36) (.t 34), none⟩] false)
(.seq
(.region [
m_ 37 0,
o_ 38 (.nilck (.t 37)),
o_ 39 (.fadr 0 (.t 38)),
o_ 40 (.load false 1 (.t 39)),
m_ 41 0,
o_ 42 (.nilck (.t 41)),
o_ 43 (.fadr 1 (.t 42)),
o_ 44 (.load false 1 (.t 43)),
o_ 45 (.bin .sub (.t 44) (.c (.int .i64 1))),
o_ 46 (.idxa 3 (.t 40) (.t 45)),
o_ 47 (.fadr 1 (.t 46)),
o_ 48 (.load false 1 (.t 47)),
o_ 49 (.call false (.c (.fn 221 [] [])) [.t 48]),
m_ 4 49] true)
.ret)))),
[.t 4]⟩
theorem ok215 : okFunc Go.Proofs.Tryz.prog 215 lf215 = true := by kernel_rfl
def lf216 : LFunc := ⟨34, 2,
(.seq
(.region [
o_ 3 (.box 14 (.t 1)),
o_ 4 (.newv [.int .i64 0, .int .i64 0, .nils, .bool false, .int .i64 0, .int .i64 0, .bool false, .int .i64 0, .int .i64 0, .str ⟨#[]⟩, .int .i64 0, .int .i64 0, .str ⟨#[]⟩, .nils])] false)
(.seq
(.region [
m_ 5 0,
o_ 6 (.call false (.c (.fn 215 [] [])) [.t 5, .c (.int .i64 32)]),
o_ 7 (.fadr 10 (.t 3)),
⟨none, .store 1 (.t 7) (.t 6), none⟩] false)
(.seq
(.region [
m_ 8 0,
o_ 9 (.call false (.c (.fn 85 [] [])) [.t 8, .c (.str ⟨#[47]⟩)])] false)
(.seq
(.seq
(.region [
m_ 10 0,
o_ 11 (.call false (.c (.fn 34 [] [])) [.t 10]),
o_ 12 (.not (.t 11)),
m_ 13 12,
g_ 14 (.mv (.t 0)) 13 true,
g_ 15 (.call false (.c (.fn 35 [] [])) [.t 14]) 13 true,
g_ 16 (.field false 0 1 (.t 15)) 13 true,
g_ 17 (.bin .eql (.t 16) (.c (.int .i64 2))) 13 true,
o_ 18 (.pick (.t 13) (.t 17) (.c (.bool false))),
m_ 19 18,
g_ 20 (.mv (.t 0)) 19 true,
g_ 21 (.call false (.c (.fn 35 [] [])) [.t 20]) 19 true,
g_ 22 (.field false 1 1 (.t 21)) 19 true,
g_ 23 (.call false (.c (.fn 221 [] [])) [.t 22]) 19 true,
g_ 24 (.build [.int .i64 0, .int .i64 0] [(0, 1, .c (.int .i64 1)), (1, 1, .t 23)]) 19 true,
g_ 25 (.call false (.c (.fn 173 [] [])) [.t 24]) 19 true,
g_ 26 (.not (.t 25)) 19 true,
o_ 27 (.pick (.t 19) (.t 26) (.c (.bool false)))] false)
(.cond (.t 27)
(.region [
m_ 28 0,
o_ 29 (.call false (.c (.fn 31 [] [])) [.t 28])] false)
.skip))
(.seq
(.region [
m_ 30 0,
o_ 31 (.call false (.c (.fn 215 [] [])) [.t 30, .c (.int .i64 32)]),
o_ 32 (.fadr 11 (.t 3)),
⟨none, .store 1 (.t 32) (.t 31), none⟩] false)
(.seq
(.region [
o_ 33 (.load true 14 (.t 3)),
⟨none, .store 14 (.t 4) (.t 33), none⟩] false)
.ret)))))),
[.cell true 14 4]⟩
theorem ok216 : okFunc Go.Proofs.Tryz.prog 216 lf216 = true := by kernel_rfl
def lf218 : LFunc := ⟨54, 3,
(.seq
(.region [
o_ 6 (.mv (.c (.bool false)))] false)
(.block 0
(.loop
(.block 1
(.seq
(.seq
(.region [
m_ 14 2,
m_ 15 14,
g_ 16 (.mv (.t 0)) 15 true,
g_ 17 (.mv (.t 1)) 15 true,
g_ 18 (.bad) 15 true,
o_ 19 (.pick (.t 15) (.t 18) (.c (.bool false)))] false)
(.cond (.t 19)
(.seq
(.region [
o_ 6 (.mv (.c (.bool true)))] false)
.ret)
.skip))
(.seq
(.seq
(.region [
m_ 21 0,
o_ 22 (.bad),
m_ 20 22,
o_ 23 (.extract (.t 20) 0),
o_ 24 (.extract (.t 20) 1),
m_ 7 23,
m_ 8 24] false)
(.seq
(.region [
m_ 25 8,
m_ 26 25,
g_ 27 (.mv (.t 7)) 26 true,
g_ 28 (.mv (.t 1)) 26 true,
g_ 29 (.bad) 26 true,
o_ 30 (.pick (.t 26) (.t 29) (.c (.bool false)))] false)
(.cond (.t 30)
(.seq
(.region [
o_ 6 (.mv (.c (.bool true)))] false)
.ret)
.skip)))
(.seq
(.region [
m_ 31 0] false)
(.block 2
(.seq
(.region [
o_ 32 (.bad),
o_ 33 (.extract (.t 32) 1),
o_ 34 (.extract (.t 32) 0)] false)
(.cond (.t 33)
(.seq
(.region [
m_ 9 34] false)
(.seq
(.region [
m_ 35 9,
o_ 36 (.bad),
m_ 0 36] false)
(.seq
(.region [
m_ 37 0,
o_ 38 (.ifnil false (.t 37))] false)
(.cond (.t 38)
(.seq
(.region [
o_ 6 (.mv (.c (.bool false)))] false)
.ret)
.skip))))
(.seq
(.region [
o_ 39 (.bad),
o_ 40 (.extract (.t 39) 1),
o_ 41 (.extract (.t 39) 0)] false)
(.cond (.t 40)
(.seq
(.region [
m_ 10 41] false)
(.seq
(.seq
(.region [
m_ 42 10,
o_ 43 (.bad),
o_ 44 (.len .sli (.t 43)),
o_ 45 (.mv (.c (.int .i64 0)))] false)
(.block 3
(.loop
(.seq
(.region [
o_ 46 (.bin .lss (.t 45) (.t 44))] false)
(.seq
(.cond (.t 46)
.skip
(.exit 3))
(.seq
(.block 4
(.seq
(.region [
o_ 47 (.idxa 1 (.t 43) (.t 45)),
o_ 48 (.load false 1 (.t 47)),
m_ 12 48] false)
(.seq
(.region [
m_ 49 12,
m_ 50 1,
m_ 51 2,
o_ 52 (.call false (.c (.fn 218 [] [])) [.t 49, .t 50, .t 51])] false)
(.cond (.t 52)
(.seq
(.region [
o_ 6 (.mv (.c (.bool true)))] false)
.ret)
.skip))))
(.region [
o_ 53 (.bin .add (.t 45) (.c (.int .i64 1))),
m_ 45 53] false)))))))
(.seq
(.region [
o_ 6 (.mv (.c (.bool false)))] false)
.ret)))
(.seq
(.region [
m_ 13 31] false)
(.seq
(.region [
o_ 6 (.mv (.c (.bool false)))] false)
.ret)))))))))))))),
[.t 6]⟩
theorem ok218 : okFunc Go.Proofs.Tryz.prog 218 lf218 = true := by kernel_rfl
def lf219 : LFunc := ⟨19, 0,
(.seq
(.region [
o_ 0 (.mv (.c (.nils)))] false)
(.seq
(.region [
o_ 1 (.own 2)] false)
(.seq
(.seq
(.region [
o_ 2 (.mv (.c (.int .i64 (-1))))] false)
(.block 0
(.loop
(.seq
(.seq
(.region [
m_ 4 2,
o_ 5 (.bin .leq (.t 4) (.c (.int .i64 6)))] false)
(.cond (.t 5)
.skip
(.exit 0)))
(.seq
(.block 1
(.seq
(.region [
o_ 3 (.mv (.c (.int .i64 0)))] false)
(.block 2
(.loop
(.seq
(.seq
(.region [
m_ 8 3,
o_ 9 (.bin .leq (.t 8) (.c (.int .i64 3)))] false)
(.cond (.t 9)
.skip
(.exit 2)))
(.seq
(.block 3
(.region [
m_ 12 1,
m_ 13 2,
m_ 14 3,
o_ 15 (.build [.int .i64 0, .int .i64 0] [(0, 1, .t 13), (1, 1, .t 14)]),
o_ 16 (.btsl 2 1 [.int .i64 0, .int .i64 0] [(0, .t 15)]),
o_ 17 (.append 2 16 (.t 12) (.t 16)),
m_ 1 17] false))
(.region [
m_ 10 3,
o_ 11 (.bin .add (.t 10) (.c (.int .i64 1))),
m_ 3 11] false)))))))
(.region [
m_ 6 2,
o_ 7 (.bin .add (.t 6) (.c (.int .i64 1))),
m_ 2 7] false))))))
(.seq
(.region [
m_ 18 1,
m_ 0 18] false)
.ret)))),
[.t 0]⟩
theorem ok219 : okFunc Go.Proofs.Tryz.prog 219 lf219 = true := by kernel_rfl
def lf220 : LFunc := ⟨23, 1,
(.seq
(.region [
o_ 1 (.boxt 2 (.t 0)),
o_ 2 (.mv (.c (.str ⟨#[]⟩)))] false)
(.seq
(.seq
(.region [
o_ 5 (.load true 2 (.t 1)),
o_ 6 (.call false (.c (.fn 45 [] [])) [.t 5]),
o_ 7 (.not (.t 6))] false)
(.cond (.t 7)
(.seq
(.region [
o_ 2 (.mv (.c (.str ⟨#[]⟩)))] false)
.ret)
.skip))
(.seq
(.region [
o_ 8 (.bsl 1 8 [.str ⟨#[]⟩] [(0, .c (.str ⟨#[98, 114, 101, 118, 101]⟩)), (1, .c (.str ⟨#[49]⟩)), (2, .c (.str ⟨#[50]⟩)), (3, .c (.str ⟨#[52]⟩)), (4, .c (.str ⟨#[56]⟩)), (5, .c (.str ⟨#[49, 54]⟩)), (6, .c (.str ⟨#[51, 50]⟩)), (7, .c (.str ⟨#[54, 52]⟩))]),
o_ 9 (.fadr 0 (.t 1)),
o_ 10 (.load false 1 (.t 9)),
o_ 11 (.bin .add (.t 10) (.c (.int .i64 1))),
o_ 12 (.idxa 1 (.t 8) (.t 11)),
o_ 13 (.load false 1 (.t 12)),
m_ 3 13] false)
(.seq
(.seq
(.region [
o_ 4 (.mv (.c (.int .i64 0)))] false)
(.block 0
(.loop
(.seq
(.seq
(.region [
m_ 14 4,
o_ 15 (.fadr 1 (.t 1)),
o_ 16 (.load false 1 (.t 15)),
o_ 17 (.bin .lss (.t 14) (.t 16))] false)
(.cond (.t 17)
.skip
(.exit 0)))
(.seq
(.block 1
(.region [
m_ 20 3,
o_ 21 (.bin .add (.t 20) (.c (.str ⟨#[46]⟩))),
m_ 3 21] false))
(.region [
m_ 18 4,
o_ 19 (.bin .add (.t 18) (.c (.int .i64 1))),
m_ 4 19] false))))))
(.seq
(.region [
m_ 22 3,
m_ 2 22] false)
.ret))))),
[.t 2]⟩
theorem ok220 : okFunc Go.Proofs.Tryz.prog 220 lf220 = true := by kernel_rfl
def lf221 : LFunc := ⟨21, 1,
(.seq
(.region [
o_ 2 (.mv (.c (.int .i64 0)))] false)
(.seq
(.region [
o_ 3 (.mv (.c (.int .i64 0)))] false)
(.seq
(.seq
(.region [
o_ 4 (.mv (.c (.int .i64 0)))] false)
(.block 0
(.loop
(.seq
(.seq
(.region [
m_ 5 4,
m_ 6 0,
o_ 7 (.len .str (.t 6)),
o_ 8 (.bin .lss (.t 5) (.t 7))] false)
(.cond (.t 8)
.skip
(.exit 0)))
(.seq
(.block 1
(.region [
m_ 11 3,
o_ 12 (.bin .mul (.c (.int .i64 10)) (.t 11)),
m_ 13 0,
m_ 14 4,
o_ 15 (.idxs (.t 13) (.t 14)),
o_ 16 (.bin .sub (.t 15) (.c (.int .u8 48))),
o_ 17 (.conv .i64 (.t 16)),
o_ 18 (.bin .add (.t 12) (.t 17)),
o_ 19 (.mins [.c (.int .i64 9999), .t 18]),
m_ 3 19] false))
(.region [
m_ 9 4,
o_ 10 (.bin .add (.t 9) (.c (.int .i64 1))),
m_ 4 10] false))))))
(.seq
(.region [
m_ 20 3,
m_ 2 20] false)
.ret)))),
[.t 2]⟩
theorem ok221 : okFunc Go.Proofs.Tryz.prog 221 lf221 = true := by kernel_rfl
end Go.AM.Bm
