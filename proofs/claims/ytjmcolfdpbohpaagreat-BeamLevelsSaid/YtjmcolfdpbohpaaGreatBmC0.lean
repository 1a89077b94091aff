/- A part of a proof about the given program: what its name says. No premise beyond the statements'. -/
import Derived.Test.YtjmcolfdpbohpaaGreatFD
import Derived.Test.YtjmcolfdpbohpaaGreatProg
import Derived.KernelRfl
set_option linter.unusedSimpArgs false
set_option linter.unusedVariables false
/- A part of the program's functions in the short form, each checked against the program. -/
namespace Go.AM.Bm
open Go.AM
abbrev m_ (d x : Nat) : LOper := ⟨some d, .mv (.t x), none⟩
abbrev o_ (d : Nat) (op : LOp) : LOper := ⟨some d, op, none⟩
abbrev g_ (d : Nat) (op : LOp) (x : Nat) (b : Bool) : LOper := ⟨some d, op, some (x, b)⟩
def lf3 : LFunc := ⟨61, 4,
(.seq
(.region [
o_ 5 (.boxt 2 (.t 1)),
o_ 8 (.mv (.c (.bool false)))] false)
(.seq
(.seq
(.region [
m_ 10 0,
o_ 11 (.call false (.c (.fn 5 [] [])) [.t 10]),
o_ 12 (.not (.t 11)),
m_ 13 12,
g_ 14 (.mv (.t 2)) 13 false,
g_ 15 (.call false (.c (.fn 6 [] [])) [.t 14]) 13 false,
g_ 16 (.not (.t 15)) 13 false,
o_ 17 (.pick (.t 13) (.c (.bool true)) (.t 16)),
m_ 18 17,
g_ 19 (.mv (.t 3)) 18 false,
g_ 20 (.len .sli (.t 19)) 18 false,
g_ 21 (.bin .gtr (.t 20) (.c (.int .i64 300))) 18 false,
o_ 22 (.pick (.t 18) (.c (.bool true)) (.t 21))] false)
(.cond (.t 22)
(.seq
(.region [
o_ 23 (.call false (.c (.fn 7 [] [])) []),
m_ 8 23] false)
.ret)
.skip))
(.seq
(.seq
(.region [
o_ 9 (.mv (.c (.int .i64 0)))] false)
(.block 0
(.loop
(.seq
(.seq
(.region [
m_ 24 9,
m_ 25 0,
o_ 26 (.len .sli (.t 25)),
o_ 27 (.bin .lss (.t 24) (.t 26))] false)
(.cond (.t 27)
.skip
(.exit 0)))
(.seq
(.block 1
(.seq
(.region [
m_ 30 2,
m_ 31 0,
m_ 32 9,
o_ 33 (.idxa 2 (.t 31) (.t 32)),
o_ 34 (.load true 2 (.t 33)),
o_ 35 (.call false (.c (.fn 9 [] [])) [.t 30, .t 34]),
m_ 36 2,
m_ 37 0,
m_ 38 9,
o_ 39 (.idxa 2 (.t 37) (.t 38)),
o_ 40 (.load true 2 (.t 39)),
o_ 41 (.call false (.c (.fn 10 [] [])) [.t 36, .t 40]),
o_ 42 (.call false (.c (.fn 8 [] [])) [.t 35, .t 41]),
o_ 43 (.not (.t 42))] true)
(.cond (.t 43)
(.seq
(.region [
o_ 8 (.mv (.c (.bool false)))] false)
.ret)
.skip)))
(.region [
m_ 28 9,
o_ 29 (.bin .add (.t 28) (.c (.int .i64 1))),
m_ 9 29] false))))))
(.seq
(.region [
m_ 44 0,
o_ 45 (.load true 2 (.t 5)),
o_ 46 (.call false (.c (.fn 11 [] [])) [.t 44, .t 45]),
m_ 47 0,
o_ 48 (.load true 2 (.t 5)),
o_ 49 (.call false (.c (.fn 12 [] [])) [.t 47, .t 48]),
o_ 50 (.bin .eql (.t 46) (.t 49)),
m_ 51 50,
g_ 52 (.mv (.t 3)) 51 true,
g_ 53 (.call false (.c (.fn 14 [] [])) [.t 52]) 51 true,
g_ 54 (.mv (.t 3)) 51 true,
g_ 55 (.call false (.c (.fn 15 [] [])) [.t 54]) 51 true,
g_ 56 (.call false (.c (.fn 13 [] [])) [.t 53, .t 55]) 51 true,
o_ 57 (.pick (.t 51) (.t 56) (.c (.bool false))),
m_ 58 57,
g_ 59 (.call false (.c (.fn 7 [] [])) []) 58 true,
o_ 60 (.pick (.t 58) (.t 59) (.c (.bool false))),
m_ 8 60] true)
.ret)))),
[.t 8]⟩
theorem ok3 : okFunc Go.Proofs.Tryz.prog 3 lf3 = true := by kernel_rfl
def lf4 : LFunc := ⟨99, 1,
(.seq
(.region [
o_ 2 (.mv (.c (.bool false)))] false)
(.seq
(.seq
(.region [
m_ 8 0,
o_ 9 (.len .sli (.t 8)),
o_ 10 (.bin .gtr (.t 9) (.c (.int .i64 300))),
m_ 11 10,
g_ 12 (.mv (.t 0)) 11 false,
g_ 13 (.len .sli (.t 12)) 11 false,
g_ 14 (.bin .eql (.t 13) (.c (.int .i64 0))) 11 false,
o_ 15 (.pick (.t 11) (.c (.bool true)) (.t 14))] false)
(.cond (.t 15)
(.seq
(.region [
o_ 16 (.call false (.c (.fn 14 [] [])) [.c (.nils)]),
o_ 17 (.len .sli (.t 16)),
o_ 18 (.bin .eql (.t 17) (.c (.int .i64 0))),
m_ 19 18,
g_ 20 (.call false (.c (.fn 7 [] [])) []) 19 true,
o_ 21 (.pick (.t 19) (.t 20) (.c (.bool false))),
m_ 2 21] false)
.ret)
.skip))
(.seq
(.seq
(.region [
o_ 3 (.mv (.c (.int .i64 0)))] false)
(.block 0
(.loop
(.seq
(.seq
(.region [
m_ 22 3,
m_ 23 0,
o_ 24 (.len .sli (.t 23)),
o_ 25 (.bin .lss (.t 22) (.t 24))] false)
(.cond (.t 25)
.skip
(.exit 0)))
(.seq
(.block 1
(.seq
(.region [
m_ 28 0,
m_ 29 3,
o_ 30 (.idxa 1 (.t 28) (.t 29)),
o_ 31 (.load false 1 (.t 30)),
o_ 32 (.bin .lss (.t 31) (.c (.int .i64 1))),
m_ 33 32,
g_ 34 (.mv (.t 0)) 33 false,
g_ 35 (.mv (.t 3)) 33 false,
g_ 36 (.idxa 1 (.t 34) (.t 35)) 33 false,
g_ 37 (.load false 1 (.t 36)) 33 false,
g_ 38 (.bin .gtr (.t 37) (.c (.int .i64 4))) 33 false,
o_ 39 (.pick (.t 33) (.c (.bool true)) (.t 38))] false)
(.cond (.t 39)
(.seq
(.region [
m_ 40 0,
o_ 41 (.call false (.c (.fn 14 [] [])) [.t 40]),
o_ 42 (.len .sli (.t 41)),
o_ 43 (.bin .eql (.t 42) (.c (.int .i64 0))),
m_ 44 43,
g_ 45 (.call false (.c (.fn 7 [] [])) []) 44 true,
o_ 46 (.pick (.t 44) (.t 45) (.c (.bool false))),
m_ 2 46] false)
.ret)
.skip)))
(.region [
m_ 26 3,
o_ 27 (.bin .add (.t 26) (.c (.int .i64 1))),
m_ 3 27] false))))))
(.seq
(.region [
m_ 47 0,
o_ 48 (.call false (.c (.fn 14 [] [])) [.t 47]),
m_ 4 48] false)
(.seq
(.seq
(.region [
m_ 49 4,
o_ 50 (.len .sli (.t 49)),
o_ 51 (.bin .eql (.t 50) (.c (.int .i64 0))),
m_ 52 51,
g_ 53 (.mv (.t 4)) 52 false,
g_ 54 (.idxa 3 (.t 53) (.c (.int .i64 0))) 52 false,
g_ 55 (.load true 3 (.t 54)) 52 false,
g_ 56 (.mv (.t 0)) 52 false,
g_ 57 (.len .sli (.t 56)) 52 false,
g_ 58 (.bin .sub (.t 57) (.c (.int .i64 1))) 52 false,
g_ 59 (.build [.int .i64 0, .int .i64 0, .int .i64 0] [(0, 1, .c (.int .i64 1)), (1, 1, .c (.int .i64 0)), (2, 1, .t 58)]) 52 false,
g_ 60 (.eq true (.ag [.i, .i, .i]) (.t 55) (.t 59)) 52 false,
o_ 61 (.pick (.t 52) (.c (.bool true)) (.t 60))] false)
(.cond (.t 61)
(.seq
(.region [
o_ 2 (.mv (.c (.bool false)))] false)
.ret)
.skip))
(.seq
(.seq
(.region [
o_ 5 (.mv (.c (.int .i64 0)))] false)
(.block 2
(.loop
(.seq
(.seq
(.region [
m_ 62 5,
m_ 63 0,
o_ 64 (.len .sli (.t 63)),
o_ 65 (.bin .lss (.t 62) (.t 64))] false)
(.cond (.t 65)
.skip
(.exit 2)))
(.seq
(.block 3
(.seq
(.region [
o_ 6 (.mv (.c (.int .i64 0)))] false)
(.seq
(.seq
(.region [
o_ 7 (.mv (.c (.int .i64 0)))] false)
(.block 4
(.loop
(.seq
(.seq
(.region [
m_ 68 7,
m_ 69 4,
o_ 70 (.len .sli (.t 69)),
o_ 71 (.bin .lss (.t 68) (.t 70))] false)
(.cond (.t 71)
.skip
(.exit 4)))
(.seq
(.block 5
(.seq
(.region [
m_ 74 4,
m_ 75 7,
o_ 76 (.idxa 3 (.t 74) (.t 75)),
o_ 77 (.idxp 1 3 (.t 76) (.c (.int .i64 1))),
o_ 78 (.load false 1 (.t 77)),
m_ 79 5,
o_ 80 (.bin .leq (.t 78) (.t 79)),
m_ 81 80,
g_ 82 (.mv (.t 5)) 81 true,
g_ 83 (.mv (.t 4)) 81 true,
g_ 84 (.mv (.t 7)) 81 true,
g_ 85 (.idxa 3 (.t 83) (.t 84)) 81 true,
g_ 86 (.idxp 1 3 (.t 85) (.c (.int .i64 2))) 81 true,
g_ 87 (.load false 1 (.t 86)) 81 true,
g_ 88 (.bin .leq (.t 82) (.t 87)) 81 true,
o_ 89 (.pick (.t 81) (.t 88) (.c (.bool false)))] false)
(.cond (.t 89)
(.region [
m_ 90 6,
o_ 91 (.bin .add (.t 90) (.c (.int .i64 1))),
m_ 6 91] false)
.skip)))
(.region [
m_ 72 7,
o_ 73 (.bin .add (.t 72) (.c (.int .i64 1))),
m_ 7 73] false))))))
(.seq
(.region [
m_ 92 6,
m_ 93 0,
m_ 94 5,
o_ 95 (.idxa 1 (.t 93) (.t 94)),
o_ 96 (.load false 1 (.t 95)),
o_ 97 (.bin .neq (.t 92) (.t 96))] false)
(.cond (.t 97)
(.seq
(.region [
o_ 2 (.mv (.c (.bool false)))] false)
.ret)
.skip)))))
(.region [
m_ 66 5,
o_ 67 (.bin .add (.t 66) (.c (.int .i64 1))),
m_ 5 67] false))))))
(.seq
(.region [
o_ 98 (.call false (.c (.fn 7 [] [])) []),
m_ 2 98] false)
.ret))))))),
[.t 2]⟩
theorem ok4 : okFunc Go.Proofs.Tryz.prog 4 lf4 = true := by kernel_rfl
def lf5 : LFunc := ⟨25, 1,
(.seq
(.region [
o_ 2 (.mv (.c (.bool false)))] false)
(.seq
(.seq
(.region [
o_ 3 (.mv (.c (.int .i64 0)))] false)
(.block 0
(.loop
(.seq
(.seq
(.region [
m_ 4 3,
m_ 5 0,
o_ 6 (.len .sli (.t 5)),
o_ 7 (.bin .lss (.t 4) (.t 6)),
m_ 8 7,
g_ 9 (.mv (.t 0)) 8 true,
g_ 10 (.len .sli (.t 9)) 8 true,
g_ 11 (.bin .leq (.t 10) (.c (.int .i64 100))) 8 true,
o_ 12 (.pick (.t 8) (.t 11) (.c (.bool false)))] false)
(.cond (.t 12)
.skip
(.exit 0)))
(.seq
(.block 1
(.seq
(.region [
m_ 15 0,
m_ 16 3,
o_ 17 (.idxa 2 (.t 15) (.t 16)),
o_ 18 (.fadr 1 (.t 17)),
o_ 19 (.load false 1 (.t 18)),
o_ 20 (.len .sli (.t 19)),
o_ 21 (.bin .gtr (.t 20) (.c (.int .i64 100)))] false)
(.cond (.t 21)
(.seq
(.region [
o_ 2 (.mv (.c (.bool false)))] false)
.ret)
.skip)))
(.region [
m_ 13 3,
o_ 14 (.bin .add (.t 13) (.c (.int .i64 1))),
m_ 3 14] false))))))
(.seq
(.region [
m_ 22 0,
o_ 23 (.len .sli (.t 22)),
o_ 24 (.bin .leq (.t 23) (.c (.int .i64 100))),
m_ 2 24] false)
.ret))),
[.t 2]⟩
theorem ok5 : okFunc Go.Proofs.Tryz.prog 5 lf5 = true := by kernel_rfl
def lf6 : LFunc := ⟨30, 1,
(.seq
(.region [
o_ 2 (.mv (.c (.bool false)))] false)
(.seq
(.seq
(.region [
m_ 5 0,
o_ 6 (.len .sli (.t 5)),
o_ 7 (.bin .gtr (.t 6) (.c (.int .i64 80)))] false)
(.cond (.t 7)
(.seq
(.region [
o_ 2 (.mv (.c (.bool false)))] false)
.ret)
.skip))
(.seq
(.region [
o_ 3 (.mv (.c (.int .i64 0)))] false)
(.seq
(.seq
(.region [
o_ 4 (.mv (.c (.int .i64 0)))] false)
(.block 0
(.loop
(.seq
(.seq
(.region [
m_ 8 4,
m_ 9 0,
o_ 10 (.len .sli (.t 9)),
o_ 11 (.bin .lss (.t 8) (.t 10))] false)
(.cond (.t 11)
.skip
(.exit 0)))
(.seq
(.block 1
(.seq
(.seq
(.region [
m_ 14 0,
m_ 15 4,
o_ 16 (.idxa 7 (.t 14) (.t 15)),
o_ 17 (.load true 7 (.t 16)),
o_ 18 (.call false (.c (.fn 16 [] [])) [.t 17]),
o_ 19 (.not (.t 18))] false)
(.cond (.t 19)
(.seq
(.region [
o_ 2 (.mv (.c (.bool false)))] false)
.ret)
.skip))
(.region [
m_ 20 3,
m_ 21 0,
m_ 22 4,
o_ 23 (.idxa 7 (.t 21) (.t 22)),
o_ 24 (.fadr 2 (.t 23)),
o_ 25 (.load false 1 (.t 24)),
o_ 26 (.len .sli (.t 25)),
o_ 27 (.bin .add (.t 20) (.t 26)),
m_ 3 27] false)))
(.region [
m_ 12 4,
o_ 13 (.bin .add (.t 12) (.c (.int .i64 1))),
m_ 4 13] false))))))
(.seq
(.region [
m_ 28 3,
o_ 29 (.bin .leq (.t 28) (.c (.int .i64 600))),
m_ 2 29] false)
.ret))))),
[.t 2]⟩
theorem ok6 : okFunc Go.Proofs.Tryz.prog 6 lf6 = true := by kernel_rfl
def lf7 : LFunc := ⟨75, 0,
(.seq
(.region [
o_ 0 (.mv (.c (.bool false)))] false)
(.seq
(.region [
o_ 10 (.call false (.c (.fn 17 [] [])) [.c (.str ⟨#[115, 116, 97, 102, 102, 32, 123, 32, 118, 111, 105, 99, 101, 32, 123, 32, 99, 56, 32, 100, 32, 101, 32, 102, 32, 114, 32, 103, 49, 54, 32, 97, 32, 98, 52, 32, 125, 32, 125]⟩)]),
m_ 9 10,
o_ 11 (.extract (.t 9) 0),
o_ 12 (.extract (.t 9) 1),
o_ 1 (.newv [.nils]),
o_ 2 (.newv [.int .i64 0, .int .i64 0]),
⟨none, .store 1 (.t 1) (.t 11), none⟩,
⟨none, .store 2 (.t 2) (.t 12), none⟩] false)
(.seq
(.region [
o_ 14 (.load true 1 (.t 1)),
o_ 15 (.call false (.c (.fn 18 [] [])) [.t 14]),
m_ 13 15,
o_ 16 (.extract (.t 13) 0),
o_ 17 (.extract (.t 13) 1),
o_ 4 (.newv [.int .i64 0, .int .i64 0]),
m_ 3 16,
⟨none, .store 2 (.t 4) (.t 17), none⟩] false)
(.seq
(.region [
m_ 19 3,
o_ 20 (.call false (.c (.fn 19 [] [])) [.t 19]),
m_ 18 20,
o_ 21 (.extract (.t 18) 0),
o_ 22 (.extract (.t 18) 1),
o_ 6 (.newv [.int .i64 0, .int .i64 0]),
m_ 5 21,
⟨none, .store 2 (.t 6) (.t 22), none⟩] false)
(.seq
(.region [
o_ 24 (.call false (.c (.fn 19 [] [])) [.c (.nils)]),
m_ 23 24,
o_ 25 (.extract (.t 23) 0),
o_ 26 (.extract (.t 23) 1),
o_ 8 (.newv [.int .i64 0, .int .i64 0]),
m_ 7 25,
⟨none, .store 2 (.t 8) (.t 26), none⟩] false)
(.seq
(.region [
o_ 27 (.fadr 0 (.t 6)),
o_ 28 (.load false 1 (.t 27)),
o_ 29 (.bin .eql (.t 28) (.c (.int .i64 0))),
m_ 30 29,
g_ 31 (.mv (.t 5)) 30 true,
g_ 32 (.bsl 1 2 [.int .i64 0] [(0, .c (.int .i64 0)), (1, .c (.int .i64 1))]) 30 true,
g_ 33 (.build [.int .i64 0, .nils] [(1, 1, .t 32)]) 30 true,
g_ 34 (.bsl 1 2 [.int .i64 0] [(0, .c (.int .i64 2)), (1, .c (.int .i64 3))]) 30 true,
g_ 35 (.build [.int .i64 0, .nils] [(1, 1, .t 34)]) 30 true,
g_ 36 (.bsl 1 2 [.int .i64 0] [(0, .c (.int .i64 5)), (1, .c (.int .i64 6))]) 30 true,
g_ 37 (.build [.int .i64 0, .nils] [(1, 1, .t 36)]) 30 true,
g_ 38 (.btsl 2 3 [.int .i64 0, .nils] [(0, .t 33), (1, .t 35), (2, .t 37)]) 30 true,
g_ 39 (.call false (.c (.fn 20 [] [])) [.t 31, .t 38]) 30 true,
o_ 40 (.pick (.t 30) (.t 39) (.c (.bool false))),
m_ 41 40,
g_ 42 (.mv (.t 5)) 41 true,
g_ 43 (.build [.int .i64 0, .int .i64 0] [(1, 1, .c (.int .i64 6))]) 41 true,
g_ 44 (.call false (.c (.fn 11 [] [])) [.t 42, .t 43]) 41 true,
g_ 45 (.bin .eql (.t 44) (.c (.int .i64 2))) 41 true,
o_ 46 (.pick (.t 41) (.t 45) (.c (.bool false))),
m_ 47 46,
g_ 48 (.mv (.t 5)) 47 true,
g_ 49 (.build [.int .i64 0, .int .i64 0] [(1, 1, .c (.int .i64 7))]) 47 true,
g_ 50 (.call false (.c (.fn 11 [] [])) [.t 48, .t 49]) 47 true,
g_ 51 (.bin .eql (.t 50) (.c (.int .i64 (-1)))) 47 true,
o_ 52 (.pick (.t 47) (.t 51) (.c (.bool false))),
m_ 53 52,
g_ 54 (.mv (.t 3)) 53 true,
g_ 55 (.mv (.t 5)) 53 true,
g_ 56 (.idxa 2 (.t 55) (.c (.int .i64 2))) 53 true,
g_ 57 (.load true 2 (.t 56)) 53 true,
g_ 58 (.call false (.c (.fn 9 [] [])) [.t 54, .t 57]) 53 true,
g_ 59 (.btsl 1 2 [.int .i64 0] [(0, .c (.int .i64 2)), (1, .c (.int .i64 2))]) 53 true,
g_ 60 (.call false (.c (.fn 8 [] [])) [.t 58, .t 59]) 53 true,
o_ 61 (.pick (.t 53) (.t 60) (.c (.bool false))),
m_ 62 61,
g_ 63 (.btsl 1 4 [.int .i64 0] [(0, .c (.int .i64 1)), (1, .c (.int .i64 2)), (2, .c (.int .i64 2)), (3, .c (.int .i64 1))]) 62 true,
g_ 64 (.call false (.c (.fn 14 [] [])) [.t 63]) 62 true,
g_ 65 (.build [.int .i64 0, .int .i64 0, .int .i64 0] [(0, 1, .c (.int .i64 1)), (1, 1, .c (.int .i64 0)), (2, 1, .c (.int .i64 3))]) 62 true,
g_ 66 (.build [.int .i64 0, .int .i64 0, .int .i64 0] [(0, 1, .c (.int .i64 2)), (1, 1, .c (.int .i64 1)), (2, 1, .c (.int .i64 2))]) 62 true,
g_ 67 (.btsl 3 2 [.int .i64 0, .int .i64 0, .int .i64 0] [(0, .t 65), (1, .t 66)]) 62 true,
g_ 68 (.call false (.c (.fn 13 [] [])) [.t 64, .t 67]) 62 true,
o_ 69 (.pick (.t 62) (.t 68) (.c (.bool false))),
m_ 70 69,
g_ 71 (.fadr 0 (.t 8)) 70 true,
g_ 72 (.load false 1 (.t 71)) 70 true,
g_ 73 (.bin .eql (.t 72) (.c (.int .i64 2))) 70 true,
o_ 74 (.pick (.t 70) (.t 73) (.c (.bool false))),
m_ 0 74] false)
.ret)))))),
[.t 0]⟩
theorem ok7 : okFunc Go.Proofs.Tryz.prog 7 lf7 = true := by kernel_rfl
def lf8 : LFunc := ⟨26, 2,
(.seq
(.region [
o_ 4 (.mv (.c (.bool false)))] false)
(.seq
(.seq
(.region [
m_ 6 0,
o_ 7 (.len .sli (.t 6)),
m_ 8 1,
o_ 9 (.len .sli (.t 8)),
o_ 10 (.bin .neq (.t 7) (.t 9))] false)
(.cond (.t 10)
(.seq
(.region [
o_ 4 (.mv (.c (.bool false)))] false)
.ret)
.skip))
(.seq
(.seq
(.region [
o_ 5 (.mv (.c (.int .i64 0)))] false)
(.block 0
(.loop
(.seq
(.seq
(.region [
m_ 11 5,
m_ 12 0,
o_ 13 (.len .sli (.t 12)),
o_ 14 (.bin .lss (.t 11) (.t 13))] false)
(.cond (.t 14)
.skip
(.exit 0)))
(.seq
(.block 1
(.seq
(.region [
m_ 17 0,
m_ 18 5,
o_ 19 (.idxa 1 (.t 17) (.t 18)),
o_ 20 (.load false 1 (.t 19)),
m_ 21 1,
m_ 22 5,
o_ 23 (.idxa 1 (.t 21) (.t 22)),
o_ 24 (.load false 1 (.t 23)),
o_ 25 (.bin .neq (.t 20) (.t 24))] true)
(.cond (.t 25)
(.seq
(.region [
o_ 4 (.mv (.c (.bool false)))] false)
.ret)
.skip)))
(.region [
m_ 15 5,
o_ 16 (.bin .add (.t 15) (.c (.int .i64 1))),
m_ 5 16] false))))))
(.seq
(.region [
o_ 4 (.mv (.c (.bool true)))] false)
.ret)))),
[.t 4]⟩
theorem ok8 : okFunc Go.Proofs.Tryz.prog 8 lf8 = true := by kernel_rfl
def lf9 : LFunc := ⟨64, 2,
(.seq
(.region [
o_ 3 (.boxt 2 (.t 1)),
o_ 4 (.mv (.c (.nils)))] false)
(.seq
(.seq
(.region [
m_ 9 0,
o_ 10 (.call false (.c (.fn 21 [] [])) [.t 9]),
o_ 11 (.not (.t 10)),
m_ 12 11,
g_ 13 (.fadr 0 (.t 3)) 12 false,
g_ 14 (.load false 1 (.t 13)) 12 false,
g_ 15 (.bin .lss (.t 14) (.c (.int .i64 0))) 12 false,
o_ 16 (.pick (.t 12) (.c (.bool true)) (.t 15)),
m_ 17 16,
g_ 18 (.fadr 0 (.t 3)) 17 false,
g_ 19 (.load false 1 (.t 18)) 17 false,
g_ 20 (.mv (.t 0)) 17 false,
g_ 21 (.len .sli (.t 20)) 17 false,
g_ 22 (.bin .geq (.t 19) (.t 21)) 17 false,
o_ 23 (.pick (.t 17) (.c (.bool true)) (.t 22))] false)
(.cond (.t 23)
(.seq
(.region [
o_ 4 (.mv (.c (.nils)))] false)
.ret)
.skip))
(.seq
(.region [
m_ 24 0,
o_ 25 (.fadr 0 (.t 3)),
o_ 26 (.load false 1 (.t 25)),
o_ 27 (.idxa 7 (.t 24) (.t 26)),
o_ 28 (.fadr 2 (.t 27)),
o_ 29 (.load false 1 (.t 28)),
m_ 5 29] false)
(.seq
(.region [
o_ 6 (.own 1)] false)
(.seq
(.seq
(.region [
o_ 30 (.fadr 1 (.t 3)),
o_ 31 (.load false 1 (.t 30)),
o_ 32 (.len .sli (.t 31)),
o_ 33 (.mv (.c (.int .i64 0)))] false)
(.block 0
(.loop
(.seq
(.region [
o_ 34 (.bin .lss (.t 33) (.t 32))] false)
(.seq
(.cond (.t 34)
.skip
(.exit 0))
(.seq
(.block 1
(.seq
(.region [
o_ 35 (.idxa 1 (.t 31) (.t 33)),
o_ 36 (.load false 1 (.t 35)),
m_ 8 36] false)
(.seq
(.seq
(.region [
m_ 37 8,
o_ 38 (.bin .lss (.t 37) (.c (.int .i64 0))),
m_ 39 38,
g_ 40 (.mv (.t 8)) 39 false,
g_ 41 (.mv (.t 5)) 39 false,
g_ 42 (.len .sli (.t 41)) 39 false,
g_ 43 (.bin .geq (.t 40) (.t 42)) 39 false,
o_ 44 (.pick (.t 39) (.c (.bool true)) (.t 43)),
m_ 45 44,
g_ 46 (.mv (.t 5)) 45 false,
g_ 47 (.mv (.t 8)) 45 false,
g_ 48 (.idxa 18 (.t 46) (.t 47)) 45 false,
g_ 49 (.fadr 0 (.t 48)) 45 false,
g_ 50 (.load false 1 (.t 49)) 45 false,
g_ 51 (.bin .neq (.t 50) (.c (.int .i64 1))) 45 false,
o_ 52 (.pick (.t 45) (.c (.bool true)) (.t 51))] false)
(.cond (.t 52)
(.seq
(.region [
o_ 4 (.mv (.c (.nils)))] false)
.ret)
.skip))
(.region [
m_ 53 6,
m_ 54 5,
m_ 55 8,
o_ 56 (.idxa 18 (.t 54) (.t 55)),
o_ 57 (.fadr 6 (.t 56)),
o_ 58 (.load true 2 (.t 57)),
o_ 59 (.call false (.c (.fn 22 [] [])) [.t 58]),
o_ 60 (.btsl 1 1 [.int .i64 0] [(0, .t 59)]),
o_ 61 (.append 1 8 (.t 53) (.t 60)),
m_ 6 61] false))))
(.region [
o_ 62 (.bin .add (.t 33) (.c (.int .i64 1))),
m_ 33 62] false)))))))
(.seq
(.region [
m_ 63 6,
m_ 4 63] false)
.ret)))))),
[.t 4]⟩
theorem ok9 : okFunc Go.Proofs.Tryz.prog 9 lf9 = true := by kernel_rfl
def lf10 : LFunc := ⟨76, 2,
(.seq
(.region [
o_ 3 (.boxt 2 (.t 1)),
o_ 4 (.mv (.c (.nils)))] false)
(.seq
(.seq
(.region [
m_ 8 0,
o_ 9 (.call false (.c (.fn 23 [] [])) [.t 8]),
o_ 10 (.not (.t 9)),
m_ 11 10,
g_ 12 (.fadr 0 (.t 3)) 11 false,
g_ 13 (.load false 1 (.t 12)) 11 false,
g_ 14 (.bin .lss (.t 13) (.c (.int .i64 0))) 11 false,
o_ 15 (.pick (.t 11) (.c (.bool true)) (.t 14)),
m_ 16 15,
g_ 17 (.fadr 0 (.t 3)) 16 false,
g_ 18 (.load false 1 (.t 17)) 16 false,
g_ 19 (.mv (.t 0)) 16 false,
g_ 20 (.len .sli (.t 19)) 16 false,
g_ 21 (.bin .geq (.t 18) (.t 20)) 16 false,
o_ 22 (.pick (.t 16) (.c (.bool true)) (.t 21))] false)
(.cond (.t 22)
(.seq
(.region [
o_ 4 (.mv (.c (.nils)))] false)
.ret)
.skip))
(.seq
(.region [
o_ 5 (.own 1)] false)
(.seq
(.seq
(.region [
o_ 6 (.mv (.c (.int .i64 0)))] false)
(.block 0
(.loop
(.seq
(.seq
(.region [
m_ 23 6,
o_ 24 (.fadr 1 (.t 3)),
o_ 25 (.load false 1 (.t 24)),
o_ 26 (.len .sli (.t 25)),
o_ 27 (.bin .lss (.t 23) (.t 26))] false)
(.cond (.t 27)
.skip
(.exit 0)))
(.seq
(.block 1
(.seq
(.region [
o_ 30 (.fadr 1 (.t 3)),
o_ 31 (.load false 1 (.t 30)),
m_ 32 6,
o_ 33 (.idxa 1 (.t 31) (.t 32)),
o_ 34 (.load false 1 (.t 33)),
m_ 7 34] false)
(.seq
(.seq
(.region [
m_ 35 7,
o_ 36 (.bin .lss (.t 35) (.c (.int .i64 0))),
m_ 37 36,
g_ 38 (.mv (.t 7)) 37 false,
g_ 39 (.mv (.t 0)) 37 false,
g_ 40 (.fadr 0 (.t 3)) 37 false,
g_ 41 (.load false 1 (.t 40)) 37 false,
g_ 42 (.idxa 7 (.t 39) (.t 41)) 37 false,
g_ 43 (.fadr 2 (.t 42)) 37 false,
g_ 44 (.load false 1 (.t 43)) 37 false,
g_ 45 (.len .sli (.t 44)) 37 false,
g_ 46 (.bin .geq (.t 38) (.t 45)) 37 false,
o_ 47 (.pick (.t 37) (.c (.bool true)) (.t 46)),
m_ 48 47,
g_ 49 (.mv (.t 0)) 48 false,
g_ 50 (.fadr 0 (.t 3)) 48 false,
g_ 51 (.load false 1 (.t 50)) 48 false,
g_ 52 (.idxa 7 (.t 49) (.t 51)) 48 false,
g_ 53 (.fadr 2 (.t 52)) 48 false,
g_ 54 (.load false 1 (.t 53)) 48 false,
g_ 55 (.mv (.t 7)) 48 false,
g_ 56 (.idxa 18 (.t 54) (.t 55)) 48 false,
g_ 57 (.fadr 0 (.t 56)) 48 false,
g_ 58 (.load false 1 (.t 57)) 48 false,
g_ 59 (.bin .neq (.t 58) (.c (.int .i64 1))) 48 false,
o_ 60 (.pick (.t 48) (.c (.bool true)) (.t 59))] false)
(.cond (.t 60)
(.seq
(.region [
o_ 4 (.mv (.c (.nils)))] false)
.ret)
.skip))
(.region [
m_ 61 5,
m_ 62 0,
o_ 63 (.fadr 0 (.t 3)),
o_ 64 (.load false 1 (.t 63)),
o_ 65 (.idxa 7 (.t 62) (.t 64)),
o_ 66 (.fadr 2 (.t 65)),
o_ 67 (.load false 1 (.t 66)),
m_ 68 7,
o_ 69 (.idxa 18 (.t 67) (.t 68)),
o_ 70 (.fadr 6 (.t 69)),
o_ 71 (.load true 2 (.t 70)),
o_ 72 (.call false (.c (.fn 24 [] [])) [.t 71]),
o_ 73 (.btsl 1 1 [.int .i64 0] [(0, .t 72)]),
o_ 74 (.append 1 8 (.t 61) (.t 73)),
m_ 5 74] false))))
(.region [
m_ 28 6,
o_ 29 (.bin .add (.t 28) (.c (.int .i64 1))),
m_ 6 29] false))))))
(.seq
(.region [
m_ 75 5,
m_ 4 75] false)
.ret))))),
[.t 4]⟩
theorem ok10 : okFunc Go.Proofs.Tryz.prog 10 lf10 = true := by kernel_rfl
def lf11 : LFunc := ⟨8, 2,
(.seq
(.region [
o_ 3 (.box 2 (.t 1)),
o_ 4 (.mv (.c (.int .i64 0)))] false)
(.seq
(.region [
m_ 5 0,
o_ 6 (.mkfn 26 [] [.t 3]),
o_ 7 (.call false (.c (.fn 25 [] [])) [.t 5, .t 6]),
m_ 4 7] false)
.ret)),
[.t 4]⟩
theorem ok11 : okFunc Go.Proofs.Tryz.prog 11 lf11 = true := by kernel_rfl
def lf12 : LFunc := ⟨45, 2,
(.seq
(.region [
o_ 3 (.boxt 2 (.t 1)),
o_ 4 (.mv (.c (.int .i64 0)))] false)
(.seq
(.seq
(.region [
o_ 5 (.mv (.c (.int .i64 0)))] false)
(.block 0
(.loop
(.seq
(.seq
(.region [
m_ 7 5,
m_ 8 0,
o_ 9 (.len .sli (.t 8)),
o_ 10 (.bin .lss (.t 7) (.t 9))] false)
(.cond (.t 10)
.skip
(.exit 0)))
(.seq
(.block 1
(.seq
(.region [
o_ 6 (.mv (.c (.int .i64 0)))] false)
(.block 2
(.loop
(.seq
(.seq
(.region [
m_ 13 6,
m_ 14 0,
m_ 15 5,
o_ 16 (.idxa 2 (.t 14) (.t 15)),
o_ 17 (.fadr 1 (.t 16)),
o_ 18 (.load false 1 (.t 17)),
o_ 19 (.len .sli (.t 18)),
o_ 20 (.bin .lss (.t 13) (.t 19))] false)
(.cond (.t 20)
.skip
(.exit 2)))
(.seq
(.block 3
(.seq
(.region [
m_ 23 0,
m_ 24 5,
o_ 25 (.idxa 2 (.t 23) (.t 24)),
o_ 26 (.fadr 0 (.t 25)),
o_ 27 (.load false 1 (.t 26)),
o_ 28 (.fadr 0 (.t 3)),
o_ 29 (.load false 1 (.t 28)),
o_ 30 (.bin .eql (.t 27) (.t 29)),
m_ 31 30,
g_ 32 (.mv (.t 0)) 31 true,
g_ 33 (.mv (.t 5)) 31 true,
g_ 34 (.idxa 2 (.t 32) (.t 33)) 31 true,
g_ 35 (.fadr 1 (.t 34)) 31 true,
g_ 36 (.load false 1 (.t 35)) 31 true,
g_ 37 (.mv (.t 6)) 31 true,
g_ 38 (.idxa 1 (.t 36) (.t 37)) 31 true,
g_ 39 (.load false 1 (.t 38)) 31 true,
g_ 40 (.fadr 1 (.t 3)) 31 true,
g_ 41 (.load false 1 (.t 40)) 31 true,
g_ 42 (.bin .eql (.t 39) (.t 41)) 31 true,
o_ 43 (.pick (.t 31) (.t 42) (.c (.bool false)))] true)
(.cond (.t 43)
(.seq
(.region [
m_ 44 5,
m_ 4 44] false)
.ret)
.skip)))
(.region [
m_ 21 6,
o_ 22 (.bin .add (.t 21) (.c (.int .i64 1))),
m_ 6 22] false)))))))
(.region [
m_ 11 5,
o_ 12 (.bin .add (.t 11) (.c (.int .i64 1))),
m_ 5 12] false))))))
(.seq
(.region [
o_ 4 (.mv (.c (.int .i64 (-1))))] false)
.ret))),
[.t 4]⟩
theorem ok12 : okFunc Go.Proofs.Tryz.prog 12 lf12 = true := by kernel_rfl
def lf13 : LFunc := ⟨26, 2,
(.seq
(.region [
o_ 4 (.mv (.c (.bool false)))] false)
(.seq
(.seq
(.region [
m_ 6 0,
o_ 7 (.len .sli (.t 6)),
m_ 8 1,
o_ 9 (.len .sli (.t 8)),
o_ 10 (.bin .neq (.t 7) (.t 9))] false)
(.cond (.t 10)
(.seq
(.region [
o_ 4 (.mv (.c (.bool false)))] false)
.ret)
.skip))
(.seq
(.seq
(.region [
o_ 5 (.mv (.c (.int .i64 0)))] false)
(.block 0
(.loop
(.seq
(.seq
(.region [
m_ 11 5,
m_ 12 0,
o_ 13 (.len .sli (.t 12)),
o_ 14 (.bin .lss (.t 11) (.t 13))] false)
(.cond (.t 14)
.skip
(.exit 0)))
(.seq
(.block 1
(.seq
(.region [
m_ 17 0,
m_ 18 5,
o_ 19 (.idxa 3 (.t 17) (.t 18)),
o_ 20 (.load true 3 (.t 19)),
m_ 21 1,
m_ 22 5,
o_ 23 (.idxa 3 (.t 21) (.t 22)),
o_ 24 (.load true 3 (.t 23)),
o_ 25 (.eq true (.ag [.i, .i, .i]) (.t 20) (.t 24))] true)
(.cond (.t 25)
(.seq
(.region [
o_ 4 (.mv (.c (.bool false)))] false)
.ret)
.skip)))
(.region [
m_ 15 5,
o_ 16 (.bin .add (.t 15) (.c (.int .i64 1))),
m_ 5 16] false))))))
(.seq
(.region [
o_ 4 (.mv (.c (.bool true)))] false)
.ret)))),
[.t 4]⟩
theorem ok13 : okFunc Go.Proofs.Tryz.prog 13 lf13 = true := by kernel_rfl
def lf14 : LFunc := ⟨33, 1,
(.seq
(.region [
o_ 2 (.mv (.c (.nils)))] false)
(.seq
(.seq
(.region [
m_ 7 0,
o_ 8 (.len .sli (.t 7)),
o_ 9 (.bin .gtr (.t 8) (.c (.int .i64 4096)))] false)
(.cond (.t 9)
(.seq
(.region [
o_ 2 (.mv (.c (.nils)))] false)
.ret)
.skip))
(.seq
(.seq
(.region [
m_ 10 0,
o_ 11 (.len .sli (.t 10)),
o_ 12 (.mv (.c (.int .i64 0)))] false)
(.block 0
(.loop
(.seq
(.region [
o_ 13 (.bin .lss (.t 12) (.t 11))] false)
(.seq
(.cond (.t 13)
.skip
(.exit 0))
(.seq
(.block 1
(.seq
(.region [
o_ 14 (.idxa 1 (.t 10) (.t 12)),
o_ 15 (.load false 1 (.t 14)),
m_ 4 15] false)
(.seq
(.region [
m_ 16 4,
o_ 17 (.bin .lss (.t 16) (.c (.int .i64 1))),
m_ 18 17,
g_ 19 (.mv (.t 4)) 18 false,
g_ 20 (.bin .gtr (.t 19) (.c (.int .i64 4))) 18 false,
o_ 21 (.pick (.t 18) (.c (.bool true)) (.t 20))] false)
(.cond (.t 21)
(.seq
(.region [
o_ 2 (.mv (.c (.nils)))] false)
.ret)
.skip))))
(.region [
o_ 22 (.bin .add (.t 12) (.c (.int .i64 1))),
m_ 12 22] false)))))))
(.seq
(.region [
o_ 5 (.own 3)] false)
(.seq
(.seq
(.region [
o_ 6 (.mv (.c (.int .i64 1)))] false)
(.block 2
(.loop
(.seq
(.seq
(.region [
m_ 23 6,
o_ 24 (.bin .leq (.t 23) (.c (.int .i64 4)))] false)
(.cond (.t 24)
.skip
(.exit 2)))
(.seq
(.block 3
(.region [
m_ 27 5,
m_ 28 0,
m_ 29 6,
o_ 30 (.call false (.c (.fn 28 [] [])) [.t 28, .t 29]),
o_ 31 (.append 3 24 (.t 27) (.t 30)),
m_ 5 31] false))
(.region [
m_ 25 6,
o_ 26 (.bin .add (.t 25) (.c (.int .i64 1))),
m_ 6 26] false))))))
(.seq
(.region [
m_ 32 5,
m_ 2 32] false)
.ret)))))),
[.t 2]⟩
theorem ok14 : okFunc Go.Proofs.Tryz.prog 14 lf14 = true := by kernel_rfl
def lf15 : LFunc := ⟨73, 1,
(.seq
(.region [
o_ 2 (.mv (.c (.nils)))] false)
(.seq
(.seq
(.region [
m_ 9 0,
o_ 10 (.len .sli (.t 9)),
o_ 11 (.bin .gtr (.t 10) (.c (.int .i64 4096)))] false)
(.cond (.t 11)
(.seq
(.region [
o_ 2 (.mv (.c (.nils)))] false)
.ret)
.skip))
(.seq
(.seq
(.region [
o_ 3 (.mv (.c (.int .i64 0)))] false)
(.block 0
(.loop
(.seq
(.seq
(.region [
m_ 12 3,
m_ 13 0,
o_ 14 (.len .sli (.t 13)),
o_ 15 (.bin .lss (.t 12) (.t 14))] false)
(.cond (.t 15)
.skip
(.exit 0)))
(.seq
(.block 1
(.seq
(.region [
m_ 18 0,
m_ 19 3,
o_ 20 (.idxa 1 (.t 18) (.t 19)),
o_ 21 (.load false 1 (.t 20)),
o_ 22 (.bin .lss (.t 21) (.c (.int .i64 1))),
m_ 23 22,
g_ 24 (.mv (.t 0)) 23 false,
g_ 25 (.mv (.t 3)) 23 false,
g_ 26 (.idxa 1 (.t 24) (.t 25)) 23 false,
g_ 27 (.load false 1 (.t 26)) 23 false,
g_ 28 (.bin .gtr (.t 27) (.c (.int .i64 4))) 23 false,
o_ 29 (.pick (.t 23) (.c (.bool true)) (.t 28))] false)
(.cond (.t 29)
(.seq
(.region [
o_ 2 (.mv (.c (.nils)))] false)
.ret)
.skip)))
(.region [
m_ 16 3,
o_ 17 (.bin .add (.t 16) (.c (.int .i64 1))),
m_ 3 17] false))))))
(.seq
(.region [
o_ 4 (.own 3)] false)
(.seq
(.seq
(.region [
o_ 5 (.mv (.c (.int .i64 1)))] false)
(.block 2
(.loop
(.seq
(.seq
(.region [
m_ 30 5,
o_ 31 (.bin .leq (.t 30) (.c (.int .i64 4)))] false)
(.cond (.t 31)
.skip
(.exit 2)))
(.seq
(.block 3
(.seq
(.region [
o_ 6 (.mv (.c (.int .i64 (-1))))] false)
(.seq
(.region [
o_ 7 (.mv (.c (.int .i64 0)))] false)
(.block 4
(.loop
(.seq
(.seq
(.region [
m_ 34 7,
m_ 35 0,
o_ 36 (.len .sli (.t 35)),
o_ 37 (.bin .leq (.t 34) (.t 36))] false)
(.cond (.t 37)
.skip
(.exit 4)))
(.seq
(.block 5
(.seq
(.region [
m_ 40 7,
m_ 41 0,
o_ 42 (.len .sli (.t 41)),
o_ 43 (.bin .lss (.t 40) (.t 42)),
m_ 44 43,
g_ 45 (.mv (.t 0)) 44 true,
g_ 46 (.mv (.t 7)) 44 true,
g_ 47 (.idxa 1 (.t 45) (.t 46)) 44 true,
g_ 48 (.load false 1 (.t 47)) 44 true,
g_ 49 (.mv (.t 5)) 44 true,
g_ 50 (.bin .geq (.t 48) (.t 49)) 44 true,
o_ 51 (.pick (.t 44) (.t 50) (.c (.bool false))),
m_ 8 51] false)
(.seq
(.seq
(.region [
m_ 52 8,
m_ 53 52,
g_ 54 (.mv (.t 6)) 53 true,
g_ 55 (.bin .lss (.t 54) (.c (.int .i64 0))) 53 true,
o_ 56 (.pick (.t 53) (.t 55) (.c (.bool false)))] false)
(.cond (.t 56)
(.region [
m_ 57 7,
m_ 6 57] false)
.skip))
(.seq
(.region [
m_ 58 8,
o_ 59 (.not (.t 58)),
m_ 60 59,
g_ 61 (.mv (.t 6)) 60 true,
g_ 62 (.bin .geq (.t 61) (.c (.int .i64 0))) 60 true,
o_ 63 (.pick (.t 60) (.t 62) (.c (.bool false)))] false)
(.cond (.t 63)
(.seq
(.region [
m_ 64 4,
m_ 65 5,
m_ 66 6,
m_ 67 7,
o_ 68 (.bin .sub (.t 67) (.c (.int .i64 1))),
o_ 69 (.build [.int .i64 0, .int .i64 0, .int .i64 0] [(0, 1, .t 65), (1, 1, .t 66), (2, 1, .t 68)]),
o_ 70 (.btsl 3 1 [.int .i64 0, .int .i64 0, .int .i64 0] [(0, .t 69)]),
o_ 71 (.append 3 24 (.t 64) (.t 70)),
m_ 4 71] false)
(.region [
o_ 6 (.mv (.c (.int .i64 (-1))))] false))
.skip)))))
(.region [
m_ 38 7,
o_ 39 (.bin .add (.t 38) (.c (.int .i64 1))),
m_ 7 39] false))))))))
(.region [
m_ 32 5,
o_ 33 (.bin .add (.t 32) (.c (.int .i64 1))),
m_ 5 33] false))))))
(.seq
(.region [
m_ 72 4,
m_ 2 72] false)
.ret)))))),
[.t 2]⟩
theorem ok15 : okFunc Go.Proofs.Tryz.prog 15 lf15 = true := by kernel_rfl
def lf16 : LFunc := ⟨60, 1,
(.seq
(.region [
o_ 1 (.boxt 7 (.t 0)),
o_ 2 (.mv (.c (.bool false)))] false)
(.seq
(.seq
(.region [
o_ 5 (.fadr 2 (.t 1)),
o_ 6 (.load false 1 (.t 5)),
o_ 7 (.len .sli (.t 6)),
o_ 8 (.bin .gtr (.t 7) (.c (.int .i64 300))),
m_ 9 8,
g_ 10 (.fadr 3 (.t 1)) 9 false,
g_ 11 (.load false 1 (.t 10)) 9 false,
g_ 12 (.len .sli (.t 11)) 9 false,
g_ 13 (.bin .gtr (.t 12) (.c (.int .i64 100))) 9 false,
o_ 14 (.pick (.t 9) (.c (.bool true)) (.t 13)),
m_ 15 14,
g_ 16 (.fadr 6 (.t 1)) 15 false,
g_ 17 (.load false 1 (.t 16)) 15 false,
g_ 18 (.len .sli (.t 17)) 15 false,
g_ 19 (.bin .gtr (.t 18) (.c (.int .i64 10))) 15 false,
o_ 20 (.pick (.t 15) (.c (.bool true)) (.t 19))] false)
(.cond (.t 20)
(.seq
(.region [
o_ 2 (.mv (.c (.bool false)))] false)
.ret)
.skip))
(.seq
(.seq
(.region [
o_ 3 (.mv (.c (.int .i64 0)))] false)
(.block 0
(.loop
(.seq
(.seq
(.region [
m_ 21 3,
o_ 22 (.fadr 2 (.t 1)),
o_ 23 (.load false 1 (.t 22)),
o_ 24 (.len .sli (.t 23)),
o_ 25 (.bin .lss (.t 21) (.t 24))] false)
(.cond (.t 25)
.skip
(.exit 0)))
(.seq
(.block 1
(.seq
(.region [
o_ 28 (.fadr 2 (.t 1)),
o_ 29 (.load false 1 (.t 28)),
m_ 30 3,
o_ 31 (.idxa 18 (.t 29) (.t 30)),
o_ 32 (.fadr 8 (.t 31)),
o_ 33 (.load false 1 (.t 32)),
o_ 34 (.len .sli (.t 33)),
o_ 35 (.bin .gtr (.t 34) (.c (.int .i64 30))),
m_ 36 35,
g_ 37 (.fadr 2 (.t 1)) 36 false,
g_ 38 (.load false 1 (.t 37)) 36 false,
g_ 39 (.mv (.t 3)) 36 false,
g_ 40 (.idxa 18 (.t 38) (.t 39)) 36 false,
g_ 41 (.fadr 13 (.t 40)) 36 false,
g_ 42 (.load false 1 (.t 41)) 36 false,
g_ 43 (.len .sli (.t 42)) 36 false,
g_ 44 (.bin .gtr (.t 43) (.c (.int .i64 100))) 36 false,
o_ 45 (.pick (.t 36) (.c (.bool true)) (.t 44))] false)
(.cond (.t 45)
(.seq
(.region [
o_ 2 (.mv (.c (.bool false)))] false)
.ret)
.skip)))
(.region [
m_ 26 3,
o_ 27 (.bin .add (.t 26) (.c (.int .i64 1))),
m_ 3 27] false))))))
(.seq
(.seq
(.region [
o_ 4 (.mv (.c (.int .i64 0)))] false)
(.block 2
(.loop
(.seq
(.seq
(.region [
m_ 46 4,
o_ 47 (.fadr 6 (.t 1)),
o_ 48 (.load false 1 (.t 47)),
o_ 49 (.len .sli (.t 48)),
o_ 50 (.bin .lss (.t 46) (.t 49))] false)
(.cond (.t 50)
.skip
(.exit 2)))
(.seq
(.block 3
(.seq
(.region [
o_ 53 (.fadr 6 (.t 1)),
o_ 54 (.load false 1 (.t 53)),
m_ 55 4,
o_ 56 (.idxa 1 (.t 54) (.t 55)),
o_ 57 (.load false 1 (.t 56)),
o_ 58 (.len .sli (.t 57)),
o_ 59 (.bin .gtr (.t 58) (.c (.int .i64 300)))] false)
(.cond (.t 59)
(.seq
(.region [
o_ 2 (.mv (.c (.bool false)))] false)
.ret)
.skip)))
(.region [
m_ 51 4,
o_ 52 (.bin .add (.t 51) (.c (.int .i64 1))),
m_ 4 52] false))))))
(.seq
(.region [
o_ 2 (.mv (.c (.bool true)))] false)
.ret))))),
[.t 2]⟩
theorem ok16 : okFunc Go.Proofs.Tryz.prog 16 lf16 = true := by kernel_rfl
def lf17 : LFunc := ⟨62, 1,
(.seq
(.region [
o_ 2 (.newv [.nils]),
o_ 3 (.newv [.int .i64 0, .int .i64 0])] false)
(.seq
(.region [
m_ 9 0,
o_ 10 (.call false (.c (.fn 29 [] [])) [.t 9]),
m_ 8 10,
o_ 11 (.extract (.t 8) 0),
o_ 12 (.extract (.t 8) 1),
o_ 5 (.newv [.int .i64 0, .int .i64 0]),
m_ 4 11,
⟨none, .store 2 (.t 5) (.t 12), none⟩] false)
(.seq
(.seq
(.region [
o_ 13 (.fadr 0 (.t 5)),
o_ 14 (.load false 1 (.t 13)),
o_ 15 (.bin .neq (.t 14) (.c (.int .i64 0)))] false)
(.cond (.t 15)
(.seq
(.region [
o_ 16 (.build [.nils] []),
o_ 17 (.loadF true 2 (.t 5)),
⟨none, .storeF 1 (.t 2) (.t 16), none⟩,
⟨none, .store 2 (.t 3) (.t 17), none⟩] true)
.ret)
.skip))
(.seq
(.region [
m_ 18 4,
o_ 19 (.build [.nils, .int .i64 0, .int .i64 0, .int .i64 0, .int .i64 0, .int .i64 0] [(0, 1, .t 18)]),
o_ 20 (.box 6 (.t 19)),
m_ 6 20] false)
(.seq
(.region [
o_ 21 (.build [.nils] []),
o_ 7 (.newv [.nils]),
⟨none, .store 1 (.t 7) (.t 21), none⟩] false)
(.seq
(.seq
(.region [
m_ 22 6,
o_ 23 (.call false (.c (.fn 30 [] [])) [.t 22, .c (.int .i64 1), .c (.str ⟨#[115, 116, 97, 102, 102]⟩)]),
o_ 24 (.not (.t 23))] false)
(.cond (.t 24)
(.region [
m_ 25 6,
o_ 26 (.call false (.c (.fn 31 [] [])) [.t 25])] false)
.skip))
(.seq
(.block 0
(.loop
(.seq
(.seq
(.region [
m_ 27 6,
o_ 28 (.call false (.c (.fn 30 [] [])) [.t 27, .c (.int .i64 1), .c (.str ⟨#[115, 116, 97, 102, 102]⟩)])] false)
(.cond (.t 28)
.skip
(.exit 0)))
(.block 1
(.seq
(.seq
(.region [
o_ 29 (.fadr 0 (.t 7)),
o_ 30 (.load false 1 (.t 29)),
o_ 31 (.len .sli (.t 30)),
o_ 32 (.bin .eql (.t 31) (.c (.int .i64 16)))] false)
(.cond (.t 32)
(.seq
(.region [
m_ 33 6,
o_ 34 (.call false (.c (.fn 32 [] [])) [.t 33, .c (.int .i64 4)])] false)
(.exit 0))
.skip))
(.region [
o_ 35 (.fadr 0 (.t 7)),
o_ 36 (.load false 1 (.t 35)),
m_ 37 6,
o_ 38 (.call false (.c (.fn 33 [] [])) [.t 37]),
o_ 39 (.btsl 3 1 [.int .i64 0, .str ⟨#[]⟩, .nils] [(0, .t 38)]),
o_ 40 (.append 3 48 (.t 36) (.t 39)),
o_ 41 (.fadr 0 (.t 7)),
⟨none, .store 1 (.t 41) (.t 40), none⟩] true))))))
(.seq
(.seq
(.region [
m_ 42 6,
o_ 43 (.call false (.c (.fn 34 [] [])) [.t 42]),
o_ 44 (.not (.t 43)),
m_ 45 44,
g_ 46 (.mv (.t 6)) 45 true,
g_ 47 (.call false (.c (.fn 35 [] [])) [.t 46]) 45 true,
g_ 48 (.field false 0 1 (.t 47)) 45 true,
g_ 49 (.bin .neq (.t 48) (.c (.int .i64 8))) 45 true,
o_ 50 (.pick (.t 45) (.t 49) (.c (.bool false)))] false)
(.cond (.t 50)
(.region [
m_ 51 6,
o_ 52 (.call false (.c (.fn 31 [] [])) [.t 51])] false)
.skip))
(.seq
(.seq
(.region [
m_ 53 6,
o_ 54 (.call false (.c (.fn 34 [] [])) [.t 53])] false)
(.cond (.t 54)
(.seq
(.region [
o_ 55 (.build [.nils] []),
m_ 56 6,
o_ 57 (.nilck (.t 56)),
o_ 58 (.fadr 2 (.t 57)),
o_ 59 (.loadF true 2 (.t 58)),
⟨none, .storeF 1 (.t 2) (.t 55), none⟩,
⟨none, .store 2 (.t 3) (.t 59), none⟩] true)
.ret)
.skip))
(.seq
(.region [
o_ 60 (.load true 1 (.t 7)),
o_ 61 (.build [.int .i64 0, .int .i64 0] []),
⟨none, .store 1 (.t 2) (.t 60), none⟩,
⟨none, .store 2 (.t 3) (.t 61), none⟩] false)
.ret)))))))))),
[.cell true 1 2, .cell true 2 3]⟩
theorem ok17 : okFunc Go.Proofs.Tryz.prog 17 lf17 = true := by kernel_rfl
def lf18 : LFunc := ⟨74, 1,
(.seq
(.region [
o_ 1 (.boxt 1 (.t 0)),
o_ 2 (.mv (.c (.nils))),
o_ 3 (.newv [.int .i64 0, .int .i64 0])] false)
(.seq
(.region [
o_ 14 (.load true 1 (.t 1)),
o_ 15 (.call false (.c (.fn 36 [] [])) [.t 14]),
m_ 13 15,
o_ 16 (.extract (.t 13) 0),
o_ 17 (.extract (.t 13) 1),
o_ 4 (.newv [.nils]),
o_ 5 (.newv [.int .i64 0, .int .i64 0]),
⟨none, .store 1 (.t 4) (.t 16), none⟩,
⟨none, .store 2 (.t 5) (.t 17), none⟩] false)
(.seq
(.seq
(.region [
o_ 18 (.fadr 0 (.t 5)),
o_ 19 (.load false 1 (.t 18)),
o_ 20 (.bin .neq (.t 19) (.c (.int .i64 0)))] false)
(.cond (.t 20)
(.seq
(.region [
o_ 21 (.load true 2 (.t 5)),
o_ 2 (.mv (.c (.nils))),
⟨none, .store 2 (.t 3) (.t 21), none⟩] true)
.ret)
.skip))
(.seq
(.region [
o_ 23 (.load true 1 (.t 4)),
o_ 24 (.call false (.c (.fn 37 [] [])) [.t 23]),
m_ 22 24,
o_ 25 (.extract (.t 22) 0),
o_ 26 (.extract (.t 22) 1),
o_ 6 (.newv [.nils]),
o_ 7 (.newv [.int .i64 0, .int .i64 0]),
⟨none, .store 1 (.t 6) (.t 25), none⟩,
⟨none, .store 2 (.t 7) (.t 26), none⟩] false)
(.seq
(.seq
(.region [
o_ 27 (.fadr 0 (.t 7)),
o_ 28 (.load false 1 (.t 27)),
o_ 29 (.bin .neq (.t 28) (.c (.int .i64 0)))] false)
(.cond (.t 29)
(.seq
(.region [
o_ 30 (.load true 2 (.t 7)),
o_ 2 (.mv (.c (.nils))),
⟨none, .store 2 (.t 3) (.t 30), none⟩] true)
.ret)
.skip))
(.seq
(.region [
o_ 8 (.own 7)] false)
(.seq
(.seq
(.region [
o_ 9 (.mv (.c (.int .i64 0)))] false)
(.block 0
(.loop
(.seq
(.seq
(.region [
m_ 31 9,
o_ 32 (.fadr 0 (.t 6)),
o_ 33 (.load false 1 (.t 32)),
o_ 34 (.len .sli (.t 33)),
o_ 35 (.bin .lss (.t 31) (.t 34))] false)
(.cond (.t 35)
.skip
(.exit 0)))
(.seq
(.block 1
(.seq
(.region [
o_ 10 (.mv (.c (.int .i64 0)))] false)
(.block 2
(.loop
(.seq
(.seq
(.region [
m_ 38 10,
o_ 39 (.fadr 0 (.t 6)),
o_ 40 (.load false 1 (.t 39)),
m_ 41 9,
o_ 42 (.idxa 3 (.t 40) (.t 41)),
o_ 43 (.fadr 2 (.t 42)),
o_ 44 (.load false 1 (.t 43)),
o_ 45 (.len .sli (.t 44)),
o_ 46 (.bin .lss (.t 38) (.t 45))] false)
(.cond (.t 46)
.skip
(.exit 2)))
(.seq
(.block 3
(.seq
(.region [
o_ 50 (.fadr 0 (.t 6)),
o_ 51 (.load false 1 (.t 50)),
m_ 52 9,
o_ 53 (.idxa 3 (.t 51) (.t 52)),
o_ 54 (.fadr 2 (.t 53)),
o_ 55 (.load false 1 (.t 54)),
m_ 56 10,
o_ 57 (.idxa 3 (.t 55) (.t 56)),
o_ 58 (.load true 3 (.t 57)),
m_ 59 9,
m_ 60 10,
o_ 61 (.call false (.c (.fn 38 [] [])) [.t 58, .t 59, .t 60]),
m_ 49 61,
o_ 62 (.extract (.t 49) 0),
o_ 63 (.extract (.t 49) 1),
o_ 11 (.newv [.int .i64 0, .int .i64 0, .nils, .nils, .int .i64 0, .int .i64 0, .nils]),
o_ 12 (.newv [.int .i64 0, .int .i64 0]),
⟨none, .store 7 (.t 11) (.t 62), none⟩,
⟨none, .store 2 (.t 12) (.t 63), none⟩] false)
(.seq
(.seq
(.region [
o_ 64 (.fadr 0 (.t 12)),
o_ 65 (.load false 1 (.t 64)),
o_ 66 (.bin .neq (.t 65) (.c (.int .i64 0)))] false)
(.cond (.t 66)
(.seq
(.region [
o_ 67 (.load true 2 (.t 12)),
o_ 2 (.mv (.c (.nils))),
⟨none, .store 2 (.t 3) (.t 67), none⟩] true)
.ret)
.skip))
(.region [
m_ 68 8,
o_ 69 (.load true 7 (.t 11)),
o_ 70 (.btsl 7 1 [.int .i64 0, .int .i64 0, .nils, .nils, .int .i64 0, .int .i64 0, .nils] [(0, .t 69)]),
o_ 71 (.append 7 104 (.t 68) (.t 70)),
m_ 8 71] false))))
(.region [
m_ 47 10,
o_ 48 (.bin .add (.t 47) (.c (.int .i64 1))),
m_ 10 48] false)))))))
(.region [
m_ 36 9,
o_ 37 (.bin .add (.t 36) (.c (.int .i64 1))),
m_ 9 37] false))))))
(.seq
(.region [
m_ 72 8,
o_ 73 (.build [.int .i64 0, .int .i64 0] []),
m_ 2 72,
⟨none, .store 2 (.t 3) (.t 73), none⟩] false)
.ret)))))))),
[.t 2, .cell true 2 3]⟩
theorem ok18 : okFunc Go.Proofs.Tryz.prog 18 lf18 = true := by kernel_rfl
def lf19 : LFunc := ⟨43, 1,
(.seq
(.region [
o_ 2 (.mv (.c (.nils))),
o_ 3 (.newv [.int .i64 0, .int .i64 0])] false)
(.seq
(.region [
m_ 11 0,
o_ 12 (.call false (.c (.fn 39 [] [])) [.t 11]),
m_ 10 12,
o_ 13 (.extract (.t 10) 0),
o_ 14 (.extract (.t 10) 1),
o_ 5 (.newv [.int .i64 0, .int .i64 0]),
m_ 4 13,
⟨none, .store 2 (.t 5) (.t 14), none⟩] false)
(.seq
(.seq
(.region [
o_ 15 (.fadr 0 (.t 5)),
o_ 16 (.load false 1 (.t 15)),
o_ 17 (.bin .neq (.t 16) (.c (.int .i64 0)))] false)
(.cond (.t 17)
(.seq
(.region [
o_ 18 (.load true 2 (.t 5)),
o_ 2 (.mv (.c (.nils))),
⟨none, .store 2 (.t 3) (.t 18), none⟩] true)
.ret)
.skip))
(.seq
(.region [
o_ 6 (.own 2)] false)
(.seq
(.seq
(.region [
m_ 19 0,
o_ 20 (.len .sli (.t 19)),
o_ 21 (.mv (.c (.int .i64 0)))] false)
(.block 0
(.loop
(.seq
(.region [
o_ 22 (.bin .lss (.t 21) (.t 20))] false)
(.seq
(.cond (.t 22)
.skip
(.exit 0))
(.seq
(.block 1
(.seq
(.region [
m_ 23 21,
o_ 24 (.idxa 7 (.t 19) (.t 21)),
o_ 25 (.load true 7 (.t 24)),
o_ 8 (.newv [.int .i64 0, .int .i64 0, .nils, .nils, .int .i64 0, .int .i64 0, .nils]),
m_ 7 23,
⟨none, .store 7 (.t 8) (.t 25), none⟩] false)
(.seq
(.region [
m_ 26 7,
o_ 27 (.build [.int .i64 0, .nils, .int .i64 0, .int .i64 0, .nils] [(0, 1, .t 26)]),
o_ 28 (.box 5 (.t 27)),
m_ 9 28] false)
(.seq
(.region [
m_ 29 9,
o_ 30 (.fadr 2 (.t 8)),
o_ 31 (.load false 1 (.t 30)),
m_ 32 4,
o_ 33 (.call false (.c (.fn 40 [] [])) [.t 29, .t 31, .t 32])] false)
(.region [
m_ 34 6,
m_ 35 9,
o_ 36 (.nilck (.t 35)),
o_ 37 (.fadr 4 (.t 36)),
o_ 38 (.load false 1 (.t 37)),
o_ 39 (.append 2 32 (.t 34) (.t 38)),
m_ 6 39] false)))))
(.region [
o_ 40 (.bin .add (.t 21) (.c (.int .i64 1))),
m_ 21 40] false)))))))
(.seq
(.region [
m_ 41 6,
o_ 42 (.build [.int .i64 0, .int .i64 0] []),
m_ 2 41,
⟨none, .store 2 (.t 3) (.t 42), none⟩] false)
.ret)))))),
[.t 2, .cell true 2 3]⟩
theorem ok19 : okFunc Go.Proofs.Tryz.prog 19 lf19 = true := by kernel_rfl
def lf20 : LFunc := ⟨42, 2,
(.seq
(.region [
o_ 4 (.mv (.c (.bool false)))] false)
(.seq
(.seq
(.region [
m_ 6 0,
o_ 7 (.len .sli (.t 6)),
m_ 8 1,
o_ 9 (.len .sli (.t 8)),
o_ 10 (.bin .neq (.t 7) (.t 9))] false)
(.cond (.t 10)
(.seq
(.region [
o_ 4 (.mv (.c (.bool false)))] false)
.ret)
.skip))
(.seq
(.seq
(.region [
o_ 5 (.mv (.c (.int .i64 0)))] false)
(.block 0
(.loop
(.seq
(.seq
(.region [
m_ 11 5,
m_ 12 0,
o_ 13 (.len .sli (.t 12)),
o_ 14 (.bin .lss (.t 11) (.t 13))] false)
(.cond (.t 14)
.skip
(.exit 0)))
(.seq
(.block 1
(.seq
(.region [
m_ 17 0,
m_ 18 5,
o_ 19 (.idxa 2 (.t 17) (.t 18)),
o_ 20 (.fadr 0 (.t 19)),
o_ 21 (.load false 1 (.t 20)),
m_ 22 1,
m_ 23 5,
o_ 24 (.idxa 2 (.t 22) (.t 23)),
o_ 25 (.fadr 0 (.t 24)),
o_ 26 (.load false 1 (.t 25)),
o_ 27 (.bin .neq (.t 21) (.t 26)),
m_ 28 27,
g_ 29 (.mv (.t 0)) 28 false,
g_ 30 (.mv (.t 5)) 28 false,
g_ 31 (.idxa 2 (.t 29) (.t 30)) 28 false,
g_ 32 (.fadr 1 (.t 31)) 28 false,
g_ 33 (.load false 1 (.t 32)) 28 false,
g_ 34 (.mv (.t 1)) 28 false,
g_ 35 (.mv (.t 5)) 28 false,
g_ 36 (.idxa 2 (.t 34) (.t 35)) 28 false,
g_ 37 (.fadr 1 (.t 36)) 28 false,
g_ 38 (.load false 1 (.t 37)) 28 false,
g_ 39 (.call false (.c (.fn 8 [] [])) [.t 33, .t 38]) 28 false,
g_ 40 (.not (.t 39)) 28 false,
o_ 41 (.pick (.t 28) (.c (.bool true)) (.t 40))] true)
(.cond (.t 41)
(.seq
(.region [
o_ 4 (.mv (.c (.bool false)))] false)
.ret)
.skip)))
(.region [
m_ 15 5,
o_ 16 (.bin .add (.t 15) (.c (.int .i64 1))),
m_ 5 16] false))))))
(.seq
(.region [
o_ 4 (.mv (.c (.bool true)))] false)
.ret)))),
[.t 4]⟩
theorem ok20 : okFunc Go.Proofs.Tryz.prog 20 lf20 = true := by kernel_rfl
def lf21 : LFunc := ⟨62, 1,
(.seq
(.region [
o_ 2 (.mv (.c (.bool false)))] false)
(.seq
(.seq
(.region [
m_ 6 0,
o_ 7 (.len .sli (.t 6)),
o_ 8 (.bin .lss (.t 7) (.c (.int .i64 1))),
m_ 9 8,
g_ 10 (.mv (.t 0)) 9 false,
g_ 11 (.len .sli (.t 10)) 9 false,
g_ 12 (.bin .gtr (.t 11) (.c (.int .i64 64))) 9 false,
o_ 13 (.pick (.t 9) (.c (.bool true)) (.t 12)),
m_ 14 13,
g_ 15 (.mv (.t 0)) 14 false,
g_ 16 (.idxa 7 (.t 15) (.c (.int .i64 0))) 14 false,
g_ 17 (.fadr 0 (.t 16)) 14 false,
g_ 18 (.load false 1 (.t 17)) 14 false,
g_ 19 (.bin .neq (.t 18) (.c (.int .i64 0))) 14 false,
o_ 20 (.pick (.t 14) (.c (.bool true)) (.t 19)),
m_ 21 20,
g_ 22 (.mv (.t 0)) 21 false,
g_ 23 (.idxa 7 (.t 22) (.c (.int .i64 0))) 21 false,
g_ 24 (.fadr 1 (.t 23)) 21 false,
g_ 25 (.load false 1 (.t 24)) 21 false,
g_ 26 (.bin .neq (.t 25) (.c (.int .i64 0))) 21 false,
o_ 27 (.pick (.t 21) (.c (.bool true)) (.t 26))] false)
(.cond (.t 27)
(.seq
(.region [
o_ 2 (.mv (.c (.bool false)))] false)
.ret)
.skip))
(.seq
(.region [
o_ 3 (.mv (.c (.int .i64 0)))] false)
(.seq
(.seq
(.region [
m_ 28 0,
o_ 29 (.len .sli (.t 28)),
o_ 30 (.mv (.c (.int .i64 0)))] false)
(.block 0
(.loop
(.seq
(.region [
o_ 31 (.bin .lss (.t 30) (.t 29))] false)
(.seq
(.cond (.t 31)
.skip
(.exit 0))
(.seq
(.block 1
(.seq
(.region [
m_ 32 30,
o_ 33 (.idxa 7 (.t 28) (.t 30)),
o_ 34 (.load true 7 (.t 33)),
o_ 5 (.newv [.int .i64 0, .int .i64 0, .nils, .nils, .int .i64 0, .int .i64 0, .nils]),
m_ 4 32,
⟨none, .store 7 (.t 5) (.t 34), none⟩] false)
(.seq
(.region [
m_ 35 3,
o_ 36 (.fadr 2 (.t 5)),
o_ 37 (.load false 1 (.t 36)),
o_ 38 (.len .sli (.t 37)),
o_ 39 (.bin .add (.t 35) (.t 38)),
m_ 3 39] false)
(.seq
(.region [
m_ 40 3,
o_ 41 (.bin .gtr (.t 40) (.c (.int .i64 4096))),
m_ 42 41,
g_ 43 (.load true 7 (.t 5)) 42 false,
g_ 44 (.call false (.c (.fn 41 [] [])) [.t 43]) 42 false,
g_ 45 (.not (.t 44)) 42 false,
o_ 46 (.pick (.t 42) (.c (.bool true)) (.t 45)),
m_ 47 46,
g_ 48 (.mv (.t 4)) 47 false,
g_ 49 (.bin .gtr (.t 48) (.c (.int .i64 0))) 47 false,
g_ 50 (.mv (.t 49)) 47 false,
g_ 51 (.mv (.t 0)) 50 true,
g_ 52 (.mv (.t 4)) 50 true,
g_ 53 (.bin .sub (.t 52) (.c (.int .i64 1))) 50 true,
g_ 54 (.idxa 7 (.t 51) (.t 53)) 50 true,
g_ 55 (.load true 7 (.t 54)) 50 true,
g_ 56 (.load true 7 (.t 5)) 50 true,
g_ 57 (.call false (.c (.fn 42 [] [])) [.t 55, .t 56]) 50 true,
g_ 58 (.not (.t 57)) 50 true,
g_ 59 (.pick (.t 50) (.t 58) (.c (.bool false))) 47 false,
o_ 60 (.pick (.t 47) (.c (.bool true)) (.t 59))] true)
(.cond (.t 60)
(.seq
(.region [
o_ 2 (.mv (.c (.bool false)))] false)
.ret)
.skip)))))
(.region [
o_ 61 (.bin .add (.t 30) (.c (.int .i64 1))),
m_ 30 61] false)))))))
(.seq
(.region [
o_ 2 (.mv (.c (.bool true)))] false)
.ret))))),
[.t 2]⟩
theorem ok21 : okFunc Go.Proofs.Tryz.prog 21 lf21 = true := by kernel_rfl
def lf22 : LFunc := ⟨10, 1,
(.seq
(.region [
o_ 1 (.boxt 2 (.t 0)),
o_ 2 (.mv (.c (.int .i64 0)))] false)
(.seq
(.seq
(.region [
o_ 3 (.load true 2 (.t 1)),
o_ 4 (.call false (.c (.fn 43 [] [])) [.t 3]),
o_ 5 (.not (.t 4))] false)
(.cond (.t 5)
(.seq
(.region [
o_ 2 (.mv (.c (.int .i64 0)))] false)
.ret)
.skip))
(.seq
(.region [
o_ 6 (.fadr 0 (.t 1)),
o_ 7 (.load false 1 (.t 6)),
o_ 8 (.bin .sub (.t 7) (.c (.int .i64 2))),
o_ 9 (.maxs [.c (.int .i64 0), .t 8]),
m_ 2 9] false)
.ret))),
[.t 2]⟩
theorem ok22 : okFunc Go.Proofs.Tryz.prog 22 lf22 = true := by kernel_rfl
def lf23 : LFunc := ⟨107, 1,
(.seq
(.region [
o_ 2 (.mv (.c (.bool false)))] false)
(.seq
(.seq
(.region [
m_ 5 0,
o_ 6 (.len .sli (.t 5)),
o_ 7 (.bin .lss (.t 6) (.c (.int .i64 1))),
m_ 8 7,
g_ 9 (.mv (.t 0)) 8 false,
g_ 10 (.len .sli (.t 9)) 8 false,
g_ 11 (.bin .gtr (.t 10) (.c (.int .i64 64))) 8 false,
o_ 12 (.pick (.t 8) (.c (.bool true)) (.t 11)),
m_ 13 12,
g_ 14 (.mv (.t 0)) 13 false,
g_ 15 (.idxa 7 (.t 14) (.c (.int .i64 0))) 13 false,
g_ 16 (.fadr 0 (.t 15)) 13 false,
g_ 17 (.load false 1 (.t 16)) 13 false,
g_ 18 (.bin .neq (.t 17) (.c (.int .i64 0))) 13 false,
o_ 19 (.pick (.t 13) (.c (.bool true)) (.t 18)),
m_ 20 19,
g_ 21 (.mv (.t 0)) 20 false,
g_ 22 (.idxa 7 (.t 21) (.c (.int .i64 0))) 20 false,
g_ 23 (.fadr 1 (.t 22)) 20 false,
g_ 24 (.load false 1 (.t 23)) 20 false,
g_ 25 (.bin .neq (.t 24) (.c (.int .i64 0))) 20 false,
o_ 26 (.pick (.t 20) (.c (.bool true)) (.t 25))] false)
(.cond (.t 26)
(.seq
(.region [
o_ 2 (.mv (.c (.bool false)))] false)
.ret)
.skip))
(.seq
(.region [
o_ 3 (.mv (.c (.int .i64 0)))] false)
(.seq
(.seq
(.region [
o_ 4 (.mv (.c (.int .i64 0)))] false)
(.block 0
(.loop
(.seq
(.seq
(.region [
m_ 27 4,
m_ 28 0,
o_ 29 (.len .sli (.t 28)),
o_ 30 (.bin .lss (.t 27) (.t 29))] false)
(.cond (.t 30)
.skip
(.exit 0)))
(.seq
(.block 1
(.seq
(.region [
m_ 33 3,
m_ 34 0,
m_ 35 4,
o_ 36 (.idxa 7 (.t 34) (.t 35)),
o_ 37 (.fadr 2 (.t 36)),
o_ 38 (.load false 1 (.t 37)),
o_ 39 (.len .sli (.t 38)),
o_ 40 (.bin .add (.t 33) (.t 39)),
m_ 3 40] false)
(.seq
(.seq
(.region [
m_ 41 3,
o_ 42 (.bin .gtr (.t 41) (.c (.int .i64 4096))),
m_ 43 42,
g_ 44 (.mv (.t 0)) 43 false,
g_ 45 (.mv (.t 4)) 43 false,
g_ 46 (.idxa 7 (.t 44) (.t 45)) 43 false,
g_ 47 (.load true 7 (.t 46)) 43 false,
g_ 48 (.call false (.c (.fn 44 [] [])) [.t 47]) 43 false,
g_ 49 (.not (.t 48)) 43 false,
o_ 50 (.pick (.t 43) (.c (.bool true)) (.t 49))] false)
(.cond (.t 50)
(.seq
(.region [
o_ 2 (.mv (.c (.bool false)))] false)
.ret)
.skip))
(.seq
(.region [
m_ 51 4,
o_ 52 (.bin .gtr (.t 51) (.c (.int .i64 0))),
m_ 53 52,
g_ 54 (.mv (.t 0)) 53 true,
g_ 55 (.mv (.t 4)) 53 true,
g_ 56 (.idxa 7 (.t 54) (.t 55)) 53 true,
g_ 57 (.fadr 0 (.t 56)) 53 true,
g_ 58 (.load false 1 (.t 57)) 53 true,
g_ 59 (.mv (.t 0)) 53 true,
g_ 60 (.mv (.t 4)) 53 true,
g_ 61 (.bin .sub (.t 60) (.c (.int .i64 1))) 53 true,
g_ 62 (.idxa 7 (.t 59) (.t 61)) 53 true,
g_ 63 (.fadr 0 (.t 62)) 53 true,
g_ 64 (.load false 1 (.t 63)) 53 true,
g_ 65 (.bin .eql (.t 58) (.t 64)) 53 true,
g_ 66 (.mv (.t 65)) 53 true,
g_ 67 (.mv (.t 0)) 66 true,
g_ 68 (.mv (.t 4)) 66 true,
g_ 69 (.idxa 7 (.t 67) (.t 68)) 66 true,
g_ 70 (.fadr 1 (.t 69)) 66 true,
g_ 71 (.load false 1 (.t 70)) 66 true,
g_ 72 (.mv (.t 0)) 66 true,
g_ 73 (.mv (.t 4)) 66 true,
g_ 74 (.bin .sub (.t 73) (.c (.int .i64 1))) 66 true,
g_ 75 (.idxa 7 (.t 72) (.t 74)) 66 true,
g_ 76 (.fadr 1 (.t 75)) 66 true,
g_ 77 (.load false 1 (.t 76)) 66 true,
g_ 78 (.bin .add (.t 77) (.c (.int .i64 1))) 66 true,
g_ 79 (.bin .eql (.t 71) (.t 78)) 66 true,
g_ 80 (.pick (.t 66) (.t 79) (.c (.bool false))) 53 true,
g_ 81 (.not (.t 80)) 53 true,
o_ 82 (.pick (.t 53) (.t 81) (.c (.bool false))),
m_ 83 82,
g_ 84 (.mv (.t 0)) 83 true,
g_ 85 (.mv (.t 4)) 83 true,
g_ 86 (.idxa 7 (.t 84) (.t 85)) 83 true,
g_ 87 (.fadr 0 (.t 86)) 83 true,
g_ 88 (.load false 1 (.t 87)) 83 true,
g_ 89 (.mv (.t 0)) 83 true,
g_ 90 (.mv (.t 4)) 83 true,
g_ 91 (.bin .sub (.t 90) (.c (.int .i64 1))) 83 true,
g_ 92 (.idxa 7 (.t 89) (.t 91)) 83 true,
g_ 93 (.fadr 0 (.t 92)) 83 true,
g_ 94 (.load false 1 (.t 93)) 83 true,
g_ 95 (.bin .add (.t 94) (.c (.int .i64 1))) 83 true,
g_ 96 (.bin .eql (.t 88) (.t 95)) 83 true,
g_ 97 (.mv (.t 96)) 83 true,
g_ 98 (.mv (.t 0)) 97 true,
g_ 99 (.mv (.t 4)) 97 true,
g_ 100 (.idxa 7 (.t 98) (.t 99)) 97 true,
g_ 101 (.fadr 1 (.t 100)) 97 true,
g_ 102 (.load false 1 (.t 101)) 97 true,
g_ 103 (.bin .eql (.t 102) (.c (.int .i64 0))) 97 true,
g_ 104 (.pick (.t 97) (.t 103) (.c (.bool false))) 83 true,
g_ 105 (.not (.t 104)) 83 true,
o_ 106 (.pick (.t 83) (.t 105) (.c (.bool false)))] true)
(.cond (.t 106)
(.seq
(.region [
o_ 2 (.mv (.c (.bool false)))] false)
.ret)
.skip)))))
(.region [
m_ 31 4,
o_ 32 (.bin .add (.t 31) (.c (.int .i64 1))),
m_ 4 32] false))))))
(.seq
(.region [
o_ 2 (.mv (.c (.bool true)))] false)
.ret))))),
[.t 2]⟩
theorem ok23 : okFunc Go.Proofs.Tryz.prog 23 lf23 = true := by kernel_rfl
def lf24 : LFunc := ⟨10, 1,
(.seq
(.region [
o_ 1 (.boxt 2 (.t 0)),
o_ 2 (.mv (.c (.int .i64 0)))] false)
(.seq
(.seq
(.region [
o_ 3 (.load true 2 (.t 1)),
o_ 4 (.call false (.c (.fn 45 [] [])) [.t 3]),
o_ 5 (.not (.t 4))] false)
(.cond (.t 5)
(.seq
(.region [
o_ 2 (.mv (.c (.int .i64 0)))] false)
.ret)
.skip))
(.seq
(.region [
o_ 6 (.fadr 0 (.t 1)),
o_ 7 (.load false 1 (.t 6)),
o_ 8 (.bin .sub (.t 7) (.c (.int .i64 2))),
o_ 9 (.maxs [.c (.int .i64 0), .t 8]),
m_ 2 9] false)
.ret))),
[.t 2]⟩
theorem ok24 : okFunc Go.Proofs.Tryz.prog 24 lf24 = true := by kernel_rfl
def lf25 : LFunc := ⟨19, 2,
(.seq
(.region [
o_ 4 (.mv (.c (.int .i64 0)))] false)
(.seq
(.seq
(.region [
m_ 6 0,
o_ 7 (.len .sli (.t 6)),
o_ 8 (.mv (.c (.int .i64 0)))] false)
(.block 0
(.loop
(.seq
(.region [
o_ 9 (.bin .lss (.t 8) (.t 7))] false)
(.seq
(.cond (.t 9)
.skip
(.exit 0))
(.seq
(.block 1
(.seq
(.region [
m_ 10 8,
m_ 5 10] false)
(.seq
(.region [
m_ 11 1,
m_ 12 0,
m_ 13 5,
o_ 14 (.idxa 2 (.t 12) (.t 13)),
o_ 15 (.load true 2 (.t 14)),
o_ 16 (.call false (.t 11) [.t 15])] false)
(.cond (.t 16)
(.seq
(.region [
m_ 17 5,
m_ 4 17] false)
.ret)
.skip))))
(.region [
o_ 18 (.bin .add (.t 8) (.c (.int .i64 1))),
m_ 8 18] false)))))))
(.seq
(.region [
o_ 4 (.mv (.c (.int .i64 (-1))))] false)
.ret))),
[.t 4]⟩
theorem ok25 : okFunc Go.Proofs.Tryz.prog 25 lf25 = true := by kernel_rfl
def lf26 : LFunc := ⟨16, 2,
(.seq
(.region [
o_ 2 (.boxt 2 (.t 0)),
o_ 3 (.mv (.c (.bool false)))] false)
(.seq
(.region [
o_ 4 (.fadr 0 (.t 2)),
o_ 5 (.load false 1 (.t 4)),
o_ 6 (.fadr 0 (.t 1)),
o_ 7 (.load false 1 (.t 6)),
o_ 8 (.bin .eql (.t 5) (.t 7)),
m_ 9 8,
g_ 10 (.fadr 1 (.t 2)) 9 true,
g_ 11 (.load false 1 (.t 10)) 9 true,
g_ 12 (.fadr 1 (.t 1)) 9 true,
g_ 13 (.load false 1 (.t 12)) 9 true,
g_ 14 (.call false (.c (.fn 27 [] [])) [.t 11, .t 13]) 9 true,
o_ 15 (.pick (.t 9) (.t 14) (.c (.bool false))),
m_ 3 15] false)
.ret)),
[.t 3]⟩
theorem ok26 : okFunc Go.Proofs.Tryz.prog 26 lf26 = true := by kernel_rfl
def lf27 : LFunc := ⟨9, 2,
(.seq
(.region [
o_ 4 (.mv (.c (.bool false)))] false)
(.seq
(.region [
m_ 5 0,
m_ 6 1,
o_ 7 (.call false (.c (.fn 46 [] [])) [.t 5, .t 6]),
o_ 8 (.bin .geq (.t 7) (.c (.int .i64 0))),
m_ 4 8] false)
.ret)),
[.t 4]⟩
theorem ok27 : okFunc Go.Proofs.Tryz.prog 27 lf27 = true := by kernel_rfl
def lf28 : LFunc := ⟨45, 2,
(.seq
(.region [
o_ 4 (.mv (.c (.nils)))] false)
(.seq
(.region [
o_ 5 (.own 3)] false)
(.seq
(.seq
(.region [
o_ 6 (.mv (.c (.int .i64 0)))] false)
(.block 0
(.loop
(.seq
(.seq
(.region [
m_ 8 6,
m_ 9 0,
o_ 10 (.len .sli (.t 9)),
o_ 11 (.bin .lss (.t 8) (.t 10))] false)
(.cond (.t 11)
.skip
(.exit 0)))
(.seq
(.block 1
(.seq
(.seq
(.region [
m_ 14 0,
m_ 15 6,
o_ 16 (.idxa 1 (.t 14) (.t 15)),
o_ 17 (.load false 1 (.t 16)),
m_ 18 1,
o_ 19 (.bin .lss (.t 17) (.t 18))] false)
(.cond (.t 19)
(.exit 1)
.skip))
(.seq
(.region [
m_ 20 6,
m_ 7 20] false)
(.seq
(.block 2
(.loop
(.seq
(.seq
(.region [
m_ 21 6,
o_ 22 (.bin .add (.t 21) (.c (.int .i64 1))),
m_ 23 0,
o_ 24 (.len .sli (.t 23)),
o_ 25 (.bin .lss (.t 22) (.t 24)),
m_ 26 25,
g_ 27 (.mv (.t 0)) 26 true,
g_ 28 (.mv (.t 6)) 26 true,
g_ 29 (.bin .add (.t 28) (.c (.int .i64 1))) 26 true,
g_ 30 (.idxa 1 (.t 27) (.t 29)) 26 true,
g_ 31 (.load false 1 (.t 30)) 26 true,
g_ 32 (.mv (.t 1)) 26 true,
g_ 33 (.bin .geq (.t 31) (.t 32)) 26 true,
o_ 34 (.pick (.t 26) (.t 33) (.c (.bool false)))] false)
(.cond (.t 34)
.skip
(.exit 2)))
(.block 3
(.region [
m_ 35 6,
o_ 36 (.bin .add (.t 35) (.c (.int .i64 1))),
m_ 6 36] false)))))
(.region [
m_ 37 5,
m_ 38 1,
m_ 39 7,
m_ 40 6,
o_ 41 (.build [.int .i64 0, .int .i64 0, .int .i64 0] [(0, 1, .t 38), (1, 1, .t 39), (2, 1, .t 40)]),
o_ 42 (.btsl 3 1 [.int .i64 0, .int .i64 0, .int .i64 0] [(0, .t 41)]),
o_ 43 (.append 3 24 (.t 37) (.t 42)),
m_ 5 43] false)))))
(.region [
m_ 12 6,
o_ 13 (.bin .add (.t 12) (.c (.int .i64 1))),
m_ 6 13] false))))))
(.seq
(.region [
m_ 44 5,
m_ 4 44] false)
.ret)))),
[.t 4]⟩
theorem ok28 : okFunc Go.Proofs.Tryz.prog 28 lf28 = true := by kernel_rfl
def lf29 : LFunc := ⟨60, 1,
(.seq
(.region [
o_ 2 (.mv (.c (.nils))),
o_ 3 (.newv [.int .i64 0, .int .i64 0])] false)
(.seq
(.seq
(.region [
m_ 10 0,
o_ 11 (.len .str (.t 10)),
o_ 12 (.bin .gtr (.t 11) (.c (.int .i64 65536)))] false)
(.cond (.t 12)
(.seq
(.region [
o_ 13 (.call false (.c (.fn 47 [] [])) [.c (.int .i64 4), .c (.int .i64 65536)]),
o_ 2 (.mv (.c (.nils))),
⟨none, .store 2 (.t 3) (.t 13), none⟩] false)
.ret)
.skip))
(.seq
(.region [
o_ 4 (.own 3)] false)
(.seq
(.region [
m_ 14 0,
o_ 15 (.call false (.c (.fn 48 [] [])) [.t 14, .c (.int .i64 0)]),
m_ 5 15] false)
(.seq
(.block 0
(.loop
(.seq
(.seq
(.region [
m_ 16 5,
m_ 17 0,
o_ 18 (.len .str (.t 17)),
o_ 19 (.bin .lss (.t 16) (.t 18))] false)
(.cond (.t 19)
.skip
(.exit 0)))
(.block 1
(.seq
(.region [
m_ 21 0,
m_ 22 5,
o_ 23 (.call false (.c (.fn 49 [] [])) [.t 21, .t 22]),
m_ 20 23,
o_ 24 (.extract (.t 20) 0),
o_ 25 (.extract (.t 20) 1),
o_ 26 (.extract (.t 20) 2),
o_ 8 (.newv [.int .i64 0, .int .i64 0]),
m_ 6 24,
m_ 7 25,
⟨none, .store 2 (.t 8) (.t 26), none⟩] false)
(.seq
(.seq
(.region [
o_ 27 (.fadr 0 (.t 8)),
o_ 28 (.load false 1 (.t 27)),
o_ 29 (.bin .neq (.t 28) (.c (.int .i64 0)))] false)
(.cond (.t 29)
(.seq
(.region [
o_ 30 (.load true 2 (.t 8)),
o_ 2 (.mv (.c (.nils))),
⟨none, .store 2 (.t 3) (.t 30), none⟩] true)
.ret)
.skip))
(.seq
(.region [
m_ 31 0,
m_ 32 5,
m_ 33 7,
o_ 34 (.substr (.t 31) (some (.t 32)) (some (.t 33))),
m_ 9 34] false)
(.seq
(.seq
(.region [
m_ 35 6,
o_ 36 (.bin .eql (.t 35) (.c (.int .i64 5)))] false)
(.cond (.t 36)
(.region [
m_ 37 0,
m_ 38 5,
o_ 39 (.bin .add (.t 38) (.c (.int .i64 1))),
m_ 40 7,
o_ 41 (.bin .sub (.t 40) (.c (.int .i64 1))),
o_ 42 (.substr (.t 37) (some (.t 39)) (some (.t 41))),
m_ 9 42] false)
.skip))
(.seq
(.region [
m_ 43 4,
m_ 44 6,
m_ 45 9,
m_ 46 5,
o_ 47 (.build [.int .i64 0, .str ⟨#[]⟩, .int .i64 0] [(0, 1, .t 44), (1, 1, .t 45), (2, 1, .t 46)]),
o_ 48 (.btsl 3 1 [.int .i64 0, .str ⟨#[]⟩, .int .i64 0] [(0, .t 47)]),
o_ 49 (.append 3 32 (.t 43) (.t 48)),
m_ 4 49] false)
(.region [
m_ 50 0,
m_ 51 7,
o_ 52 (.call false (.c (.fn 48 [] [])) [.t 50, .t 51]),
m_ 5 52] false))))))))))
(.seq
(.region [
m_ 53 4,
m_ 54 0,
o_ 55 (.len .str (.t 54)),
o_ 56 (.build [.int .i64 0, .str ⟨#[]⟩, .int .i64 0] [(0, 1, .c (.int .i64 8)), (2, 1, .t 55)]),
o_ 57 (.btsl 3 1 [.int .i64 0, .str ⟨#[]⟩, .int .i64 0] [(0, .t 56)]),
o_ 58 (.append 3 32 (.t 53) (.t 57)),
o_ 59 (.build [.int .i64 0, .int .i64 0] []),
m_ 2 58,
⟨none, .store 2 (.t 3) (.t 59), none⟩] false)
.ret)))))),
[.t 2, .cell true 2 3]⟩
theorem ok29 : okFunc Go.Proofs.Tryz.prog 29 lf29 = true := by kernel_rfl
def lf30 : LFunc := ⟨24, 3,
(.seq
(.region [
o_ 6 (.mv (.c (.bool false)))] false)
(.seq
(.region [
m_ 7 0,
o_ 8 (.call false (.c (.fn 34 [] [])) [.t 7]),
o_ 9 (.not (.t 8)),
m_ 10 9,
g_ 11 (.mv (.t 0)) 10 true,
g_ 12 (.call false (.c (.fn 35 [] [])) [.t 11]) 10 true,
g_ 13 (.field false 0 1 (.t 12)) 10 true,
g_ 14 (.mv (.t 1)) 10 true,
g_ 15 (.bin .eql (.t 13) (.t 14)) 10 true,
o_ 16 (.pick (.t 10) (.t 15) (.c (.bool false))),
m_ 17 16,
g_ 18 (.mv (.t 0)) 17 true,
g_ 19 (.call false (.c (.fn 35 [] [])) [.t 18]) 17 true,
g_ 20 (.field false 1 1 (.t 19)) 17 true,
g_ 21 (.mv (.t 2)) 17 true,
g_ 22 (.bin .eql (.t 20) (.t 21)) 17 true,
o_ 23 (.pick (.t 17) (.t 22) (.c (.bool false))),
m_ 6 23] false)
.ret)),
[.t 6]⟩
theorem ok30 : okFunc Go.Proofs.Tryz.prog 30 lf30 = true := by kernel_rfl
def lf31 : LFunc := ⟨15, 1,
(.seq
(.region [
m_ 2 0,
o_ 3 (.call false (.c (.fn 35 [] [])) [.t 2]),
o_ 4 (.field false 0 1 (.t 3))] false)
(.block 0
(.seq
(.region [
o_ 8 (.bin .eql (.t 4) (.c (.int .i64 8))),
m_ 7 8] false)
(.cond (.t 7)
(.region [
m_ 9 0,
o_ 10 (.call false (.c (.fn 32 [] [])) [.t 9, .c (.int .i64 14)])] false)
(.seq
(.region [
o_ 12 (.bin .eql (.t 4) (.c (.int .i64 1))),
m_ 11 12] false)
(.cond (.t 11)
(.region [
m_ 13 0,
o_ 14 (.call false (.c (.fn 32 [] [])) [.t 13, .c (.int .i64 11)])] false)
(.region [
m_ 5 0,
o_ 6 (.call false (.c (.fn 32 [] [])) [.t 5, .c (.int .i64 12)])] false))))))),
[]⟩
theorem ok31 : okFunc Go.Proofs.Tryz.prog 31 lf31 = true := by kernel_rfl
def lf32 : LFunc := ⟨15, 2,
(.seq
(.region [
m_ 4 0,
o_ 5 (.call false (.c (.fn 34 [] [])) [.t 4]),
o_ 6 (.not (.t 5))] false)
(.cond (.t 6)
(.region [
m_ 7 0,
m_ 8 1,
m_ 9 0,
o_ 10 (.call false (.c (.fn 35 [] [])) [.t 9]),
o_ 11 (.field false 2 1 (.t 10)),
o_ 12 (.build [.int .i64 0, .int .i64 0] [(0, 1, .t 8), (1, 1, .t 11)]),
o_ 13 (.nilck (.t 7)),
o_ 14 (.fadr 2 (.t 13)),
⟨none, .store 2 (.t 14) (.t 12), none⟩] false)
.skip)),
[]⟩
theorem ok32 : okFunc Go.Proofs.Tryz.prog 32 lf32 = true := by kernel_rfl
def lf33 : LFunc := ⟨61, 1,
(.seq
(.region [
o_ 2 (.newv [.int .i64 0, .str ⟨#[]⟩, .nils])] false)
(.seq
(.region [
m_ 4 0,
o_ 5 (.call false (.c (.fn 35 [] [])) [.t 4]),
o_ 6 (.field false 2 1 (.t 5)),
o_ 7 (.build [.int .i64 0, .str ⟨#[]⟩, .nils] [(0, 1, .t 6)]),
o_ 3 (.newv [.int .i64 0, .str ⟨#[]⟩, .nils]),
⟨none, .store 3 (.t 3) (.t 7), none⟩] false)
(.seq
(.region [
m_ 8 0,
o_ 9 (.nilck (.t 8)),
o_ 10 (.fadr 1 (.t 9)),
o_ 11 (.load false 1 (.t 10)),
o_ 12 (.bin .add (.t 11) (.c (.int .i64 1))),
o_ 13 (.nilck (.t 8)),
o_ 14 (.fadr 1 (.t 13)),
⟨none, .store 1 (.t 14) (.t 12), none⟩] false)
(.seq
(.seq
(.region [
m_ 15 0,
o_ 16 (.call false (.c (.fn 34 [] [])) [.t 15]),
o_ 17 (.not (.t 16)),
m_ 18 17,
g_ 19 (.mv (.t 0)) 18 true,
g_ 20 (.call false (.c (.fn 35 [] [])) [.t 19]) 18 true,
g_ 21 (.field false 0 1 (.t 20)) 18 true,
g_ 22 (.bin .eql (.t 21) (.c (.int .i64 5))) 18 true,
o_ 23 (.pick (.t 18) (.t 22) (.c (.bool false)))] false)
(.cond (.t 23)
(.seq
(.region [
m_ 24 0,
o_ 25 (.call false (.c (.fn 35 [] [])) [.t 24]),
o_ 26 (.field false 1 1 (.t 25)),
o_ 27 (.fadr 1 (.t 3)),
⟨none, .store 1 (.t 27) (.t 26), none⟩] false)
(.region [
m_ 28 0,
o_ 29 (.nilck (.t 28)),
o_ 30 (.fadr 1 (.t 29)),
o_ 31 (.load false 1 (.t 30)),
o_ 32 (.bin .add (.t 31) (.c (.int .i64 1))),
o_ 33 (.nilck (.t 28)),
o_ 34 (.fadr 1 (.t 33)),
⟨none, .store 1 (.t 34) (.t 32), none⟩] false))
.skip))
(.seq
(.region [
m_ 35 0,
o_ 36 (.call false (.c (.fn 50 [] [])) [.t 35])] false)
(.seq
(.seq
(.region [
m_ 37 0,
o_ 38 (.call false (.c (.fn 30 [] [])) [.t 37, .c (.int .i64 1), .c (.str ⟨#[118, 111, 105, 99, 101]⟩)]),
o_ 39 (.not (.t 38))] false)
(.cond (.t 39)
(.region [
m_ 40 0,
o_ 41 (.call false (.c (.fn 31 [] [])) [.t 40])] false)
.skip))
(.seq
(.block 0
(.loop
(.seq
(.seq
(.region [
m_ 42 0,
o_ 43 (.call false (.c (.fn 30 [] [])) [.t 42, .c (.int .i64 1), .c (.str ⟨#[118, 111, 105, 99, 101]⟩)])] false)
(.cond (.t 43)
.skip
(.exit 0)))
(.block 1
(.seq
(.seq
(.region [
o_ 44 (.fadr 2 (.t 3)),
o_ 45 (.load false 1 (.t 44)),
o_ 46 (.len .sli (.t 45)),
o_ 47 (.bin .eql (.t 46) (.c (.int .i64 4)))] false)
(.cond (.t 47)
(.seq
(.region [
m_ 48 0,
o_ 49 (.call false (.c (.fn 32 [] [])) [.t 48, .c (.int .i64 4)])] false)
(.seq
(.region [
o_ 50 (.load true 3 (.t 3)),
⟨none, .store 3 (.t 2) (.t 50), none⟩] false)
.ret))
.skip))
(.region [
o_ 51 (.fadr 2 (.t 3)),
o_ 52 (.load false 1 (.t 51)),
m_ 53 0,
o_ 54 (.call false (.c (.fn 51 [] [])) [.t 53]),
o_ 55 (.btsl 3 1 [.int .i64 0, .nils, .nils] [(0, .t 54)]),
o_ 56 (.append 3 56 (.t 52) (.t 55)),
o_ 57 (.fadr 2 (.t 3)),
⟨none, .store 1 (.t 57) (.t 56), none⟩] true))))))
(.seq
(.region [
m_ 58 0,
o_ 59 (.call false (.c (.fn 52 [] [])) [.t 58])] false)
(.seq
(.region [
o_ 60 (.load true 3 (.t 3)),
⟨none, .store 3 (.t 2) (.t 60), none⟩] false)
.ret))))))))),
[.cell true 3 2]⟩
theorem ok33 : okFunc Go.Proofs.Tryz.prog 33 lf33 = true := by kernel_rfl
def lf34 : LFunc := ⟨9, 1,
(.seq
(.region [
o_ 2 (.mv (.c (.bool false)))] false)
(.seq
(.region [
m_ 3 0,
o_ 4 (.nilck (.t 3)),
o_ 5 (.fadr 2 (.t 4)),
o_ 6 (.fadr 0 (.t 5)),
o_ 7 (.load false 1 (.t 6)),
o_ 8 (.bin .neq (.t 7) (.c (.int .i64 0))),
m_ 2 8] false)
.ret)),
[.t 2]⟩
theorem ok34 : okFunc Go.Proofs.Tryz.prog 34 lf34 = true := by kernel_rfl
def lf35 : LFunc := ⟨13, 1,
(.seq
(.region [
o_ 2 (.newv [.int .i64 0, .str ⟨#[]⟩, .int .i64 0])] false)
(.seq
(.region [
m_ 3 0,
o_ 4 (.nilck (.t 3)),
o_ 5 (.fadr 0 (.t 4)),
o_ 6 (.load false 1 (.t 5)),
m_ 7 0,
o_ 8 (.nilck (.t 7)),
o_ 9 (.fadr 1 (.t 8)),
o_ 10 (.load false 1 (.t 9)),
o_ 11 (.idxa 3 (.t 6) (.t 10)),
o_ 12 (.load true 3 (.t 11)),
⟨none, .store 3 (.t 2) (.t 12), none⟩] true)
.ret)),
[.cell true 3 2]⟩
theorem ok35 : okFunc Go.Proofs.Tryz.prog 35 lf35 = true := by kernel_rfl
def lf36 : LFunc := ⟨79, 1,
(.seq
(.region [
o_ 1 (.boxt 1 (.t 0)),
o_ 2 (.newv [.nils]),
o_ 3 (.newv [.int .i64 0, .int .i64 0])] false)
(.seq
(.seq
(.region [
o_ 10 (.load true 1 (.t 1)),
o_ 11 (.call false (.c (.fn 53 [] [])) [.t 10]),
o_ 12 (.not (.t 11))] false)
(.cond (.t 12)
(.seq
(.region [
o_ 13 (.build [.nils] []),
o_ 14 (.build [.int .i64 0, .int .i64 0] [(0, 1, .c (.int .i64 2))]),
⟨none, .store 1 (.t 2) (.t 13), none⟩,
⟨none, .store 2 (.t 3) (.t 14), none⟩] false)
.ret)
.skip))
(.seq
(.region [
o_ 4 (.newv [.nils])] false)
(.seq
(.seq
(.region [
o_ 5 (.mv (.c (.int .i64 0)))] false)
(.block 0
(.loop
(.seq
(.seq
(.region [
m_ 15 5,
o_ 16 (.fadr 0 (.t 1)),
o_ 17 (.load false 1 (.t 16)),
o_ 18 (.len .sli (.t 17)),
o_ 19 (.bin .lss (.t 15) (.t 18))] false)
(.cond (.t 19)
.skip
(.exit 0)))
(.seq
(.block 1
(.seq
(.region [
o_ 22 (.fadr 0 (.t 1)),
o_ 23 (.load false 1 (.t 22)),
m_ 24 5,
o_ 25 (.idxa 3 (.t 23) (.t 24)),
o_ 26 (.load true 3 (.t 25)),
o_ 6 (.newv [.int .i64 0, .str ⟨#[]⟩, .nils]),
⟨none, .store 3 (.t 6) (.t 26), none⟩] false)
(.seq
(.region [
o_ 27 (.fadr 2 (.t 6)),
⟨none, .store 1 (.t 27) (.c (.nils)), none⟩] false)
(.seq
(.seq
(.region [
o_ 7 (.mv (.c (.int .i64 0)))] false)
(.block 2
(.loop
(.seq
(.seq
(.region [
m_ 28 7,
o_ 29 (.fadr 0 (.t 1)),
o_ 30 (.load false 1 (.t 29)),
m_ 31 5,
o_ 32 (.idxa 3 (.t 30) (.t 31)),
o_ 33 (.fadr 2 (.t 32)),
o_ 34 (.load false 1 (.t 33)),
o_ 35 (.len .sli (.t 34)),
o_ 36 (.bin .lss (.t 28) (.t 35))] false)
(.cond (.t 36)
.skip
(.exit 2)))
(.seq
(.block 3
(.seq
(.region [
o_ 39 (.fadr 0 (.t 1)),
o_ 40 (.load false 1 (.t 39)),
m_ 41 5,
o_ 42 (.idxa 3 (.t 40) (.t 41)),
o_ 43 (.fadr 2 (.t 42)),
o_ 44 (.load false 1 (.t 43)),
m_ 45 7,
o_ 46 (.idxa 3 (.t 44) (.t 45)),
o_ 47 (.load true 3 (.t 46)),
o_ 8 (.newv [.int .i64 0, .nils, .nils]),
⟨none, .store 3 (.t 8) (.t 47), none⟩] false)
(.seq
(.region [
o_ 48 (.build [.bool false, .int .i64 0, .int .i64 0, .int .i64 0, .bool false, .int .i64 0] []),
o_ 49 (.box 6 (.t 48)),
m_ 9 49] false)
(.seq
(.region [
m_ 50 9,
o_ 51 (.fadr 1 (.t 8)),
o_ 52 (.load false 1 (.t 51)),
o_ 53 (.call false (.c (.fn 54 [] [])) [.t 50, .t 52]),
o_ 54 (.fadr 1 (.t 8)),
⟨none, .store 1 (.t 54) (.t 53), none⟩] false)
(.seq
(.seq
(.region [
m_ 55 9,
o_ 56 (.nilck (.t 55)),
o_ 57 (.fadr 4 (.t 56)),
o_ 58 (.load false 1 (.t 57))] false)
(.cond (.t 58)
(.seq
(.region [
o_ 59 (.build [.nils] []),
m_ 60 9,
o_ 61 (.nilck (.t 60)),
o_ 62 (.fadr 5 (.t 61)),
o_ 63 (.loadF false 1 (.t 62)),
o_ 64 (.build [.int .i64 0, .int .i64 0] [(0, 1, .c (.int .i64 20)), (1, 1, .t 63)]),
⟨none, .storeF 1 (.t 2) (.t 59), none⟩,
⟨none, .store 2 (.t 3) (.t 64), none⟩] true)
.ret)
.skip))
(.region [
o_ 65 (.fadr 2 (.t 6)),
o_ 66 (.load false 1 (.t 65)),
o_ 67 (.load true 3 (.t 8)),
o_ 68 (.btsl 3 1 [.int .i64 0, .nils, .nils] [(0, .t 67)]),
o_ 69 (.append 3 56 (.t 66) (.t 68)),
o_ 70 (.fadr 2 (.t 6)),
⟨none, .store 1 (.t 70) (.t 69), none⟩] false))))))
(.region [
m_ 37 7,
o_ 38 (.bin .add (.t 37) (.c (.int .i64 1))),
m_ 7 38] false))))))
(.region [
o_ 71 (.fadr 0 (.t 4)),
o_ 72 (.load false 1 (.t 71)),
o_ 73 (.load true 3 (.t 6)),
o_ 74 (.btsl 3 1 [.int .i64 0, .str ⟨#[]⟩, .nils] [(0, .t 73)]),
o_ 75 (.append 3 48 (.t 72) (.t 74)),
o_ 76 (.fadr 0 (.t 4)),
⟨none, .store 1 (.t 76) (.t 75), none⟩] false)))))
(.region [
m_ 20 5,
o_ 21 (.bin .add (.t 20) (.c (.int .i64 1))),
m_ 5 21] false))))))
(.seq
(.region [
o_ 77 (.load true 1 (.t 4)),
o_ 78 (.build [.int .i64 0, .int .i64 0] []),
⟨none, .store 1 (.t 2) (.t 77), none⟩,
⟨none, .store 2 (.t 3) (.t 78), none⟩] false)
.ret))))),
[.cell true 1 2, .cell true 2 3]⟩
theorem ok36 : okFunc Go.Proofs.Tryz.prog 36 lf36 = true := by kernel_rfl
def lf37 : LFunc := ⟨132, 1,
(.seq
(.region [
o_ 1 (.boxt 1 (.t 0)),
o_ 2 (.newv [.nils]),
o_ 3 (.newv [.int .i64 0, .int .i64 0])] false)
(.seq
(.seq
(.region [
o_ 12 (.load true 1 (.t 1)),
o_ 13 (.call false (.c (.fn 53 [] [])) [.t 12]),
o_ 14 (.not (.t 13))] false)
(.cond (.t 14)
(.seq
(.region [
o_ 15 (.build [.nils] []),
o_ 16 (.build [.int .i64 0, .int .i64 0] [(0, 1, .c (.int .i64 2))]),
⟨none, .store 1 (.t 2) (.t 15), none⟩,
⟨none, .store 2 (.t 3) (.t 16), none⟩] false)
.ret)
.skip))
(.seq
(.region [
o_ 17 (.build [.int .i64 0, .bool false, .int .i64 0] [(0, 1, .c (.int .i64 4096))]),
o_ 18 (.box 3 (.t 17)),
m_ 4 18] false)
(.seq
(.region [
o_ 5 (.newv [.nils])] false)
(.seq
(.seq
(.region [
o_ 6 (.mv (.c (.int .i64 0)))] false)
(.block 0
(.loop
(.seq
(.seq
(.region [
m_ 19 6,
o_ 20 (.fadr 0 (.t 1)),
o_ 21 (.load false 1 (.t 20)),
o_ 22 (.len .sli (.t 21)),
o_ 23 (.bin .lss (.t 19) (.t 22))] false)
(.cond (.t 23)
.skip
(.exit 0)))
(.seq
(.block 1
(.seq
(.region [
o_ 26 (.fadr 0 (.t 1)),
o_ 27 (.load false 1 (.t 26)),
m_ 28 6,
o_ 29 (.idxa 3 (.t 27) (.t 28)),
o_ 30 (.load true 3 (.t 29)),
o_ 7 (.newv [.int .i64 0, .str ⟨#[]⟩, .nils]),
⟨none, .store 3 (.t 7) (.t 30), none⟩] false)
(.seq
(.region [
o_ 31 (.fadr 2 (.t 7)),
⟨none, .store 1 (.t 31) (.c (.nils)), none⟩] false)
(.seq
(.seq
(.region [
o_ 8 (.mv (.c (.int .i64 0)))] false)
(.block 2
(.loop
(.seq
(.seq
(.region [
m_ 32 8,
o_ 33 (.fadr 0 (.t 1)),
o_ 34 (.load false 1 (.t 33)),
m_ 35 6,
o_ 36 (.idxa 3 (.t 34) (.t 35)),
o_ 37 (.fadr 2 (.t 36)),
o_ 38 (.load false 1 (.t 37)),
o_ 39 (.len .sli (.t 38)),
o_ 40 (.bin .lss (.t 32) (.t 39))] false)
(.cond (.t 40)
.skip
(.exit 2)))
(.seq
(.block 3
(.seq
(.region [
o_ 43 (.fadr 0 (.t 1)),
o_ 44 (.load false 1 (.t 43)),
m_ 45 6,
o_ 46 (.idxa 3 (.t 44) (.t 45)),
o_ 47 (.fadr 2 (.t 46)),
o_ 48 (.load false 1 (.t 47)),
m_ 49 8,
o_ 50 (.idxa 3 (.t 48) (.t 49)),
o_ 51 (.load true 3 (.t 50)),
o_ 9 (.newv [.int .i64 0, .nils, .nils]),
⟨none, .store 3 (.t 9) (.t 51), none⟩] false)
(.seq
(.region [
m_ 52 4,
o_ 53 (.fadr 1 (.t 9)),
o_ 54 (.load false 1 (.t 53)),
o_ 55 (.call false (.c (.fn 55 [] [])) [.t 52, .t 54]),
o_ 56 (.fadr 1 (.t 9)),
⟨none, .store 1 (.t 56) (.t 55), none⟩] false)
(.seq
(.seq
(.region [
o_ 10 (.mv (.c (.int .i64 0)))] false)
(.block 4
(.loop
(.seq
(.seq
(.region [
m_ 57 10,
o_ 58 (.fadr 2 (.t 9)),
o_ 59 (.load false 1 (.t 58)),
o_ 60 (.len .sli (.t 59)),
o_ 61 (.bin .lss (.t 57) (.t 60))] false)
(.cond (.t 61)
.skip
(.exit 4)))
(.seq
(.block 5
(.seq
(.region [
o_ 11 (.mv (.c (.int .i64 0)))] false)
(.block 6
(.loop
(.seq
(.seq
(.region [
m_ 64 11,
o_ 65 (.fadr 2 (.t 9)),
o_ 66 (.load false 1 (.t 65)),
m_ 67 10,
o_ 68 (.idxa 1 (.t 66) (.t 67)),
o_ 69 (.load false 1 (.t 68)),
o_ 70 (.len .sli (.t 69)),
o_ 71 (.bin .lss (.t 64) (.t 70)),
m_ 72 71,
g_ 73 (.mv (.t 4)) 72 true,
g_ 74 (.nilck (.t 73)) 72 true,
g_ 75 (.fadr 1 (.t 74)) 72 true,
g_ 76 (.load false 1 (.t 75)) 72 true,
g_ 77 (.not (.t 76)) 72 true,
o_ 78 (.pick (.t 72) (.t 77) (.c (.bool false)))] false)
(.cond (.t 78)
.skip
(.exit 6)))
(.seq
(.block 7
(.seq
(.seq
(.region [
m_ 81 4,
o_ 82 (.nilck (.t 81)),
o_ 83 (.fadr 0 (.t 82)),
o_ 84 (.load false 1 (.t 83)),
o_ 85 (.bin .eql (.t 84) (.c (.int .i64 0)))] false)
(.cond (.t 85)
(.seq
(.region [
m_ 86 4,
m_ 87 4,
o_ 88 (.fadr 2 (.t 9)),
o_ 89 (.load false 1 (.t 88)),
m_ 90 10,
o_ 91 (.idxa 1 (.t 89) (.t 90)),
o_ 92 (.load false 1 (.t 91)),
m_ 93 11,
o_ 94 (.idxa 4 (.t 92) (.t 93)),
o_ 95 (.fadr 0 (.t 94)),
o_ 96 (.load false 1 (.t 95)),
o_ 97 (.nilck (.t 86)),
o_ 98 (.fadr 1 (.t 97)),
⟨none, .store 1 (.t 98) (.c (.bool true)), none⟩,
o_ 99 (.nilck (.t 87)),
o_ 100 (.fadr 2 (.t 99)),
⟨none, .store 1 (.t 100) (.t 96), none⟩] false)
(.exit 6))
.skip))
(.region [
m_ 101 4,
o_ 102 (.nilck (.t 101)),
o_ 103 (.fadr 0 (.t 102)),
o_ 104 (.load false 1 (.t 103)),
o_ 105 (.bin .sub (.t 104) (.c (.int .i64 1))),
o_ 106 (.nilck (.t 101)),
o_ 107 (.fadr 0 (.t 106)),
⟨none, .store 1 (.t 107) (.t 105), none⟩] false)))
(.region [
m_ 79 11,
o_ 80 (.bin .add (.t 79) (.c (.int .i64 1))),
m_ 11 80] false)))))))
(.region [
m_ 62 10,
o_ 63 (.bin .add (.t 62) (.c (.int .i64 1))),
m_ 10 63] false))))))
(.region [
o_ 108 (.fadr 2 (.t 7)),
o_ 109 (.load false 1 (.t 108)),
o_ 110 (.load true 3 (.t 9)),
o_ 111 (.btsl 3 1 [.int .i64 0, .nils, .nils] [(0, .t 110)]),
o_ 112 (.append 3 56 (.t 109) (.t 111)),
o_ 113 (.fadr 2 (.t 7)),
⟨none, .store 1 (.t 113) (.t 112), none⟩] false)))))
(.region [
m_ 41 8,
o_ 42 (.bin .add (.t 41) (.c (.int .i64 1))),
m_ 8 42] false))))))
(.region [
o_ 114 (.fadr 0 (.t 5)),
o_ 115 (.load false 1 (.t 114)),
o_ 116 (.load true 3 (.t 7)),
o_ 117 (.btsl 3 1 [.int .i64 0, .str ⟨#[]⟩, .nils] [(0, .t 116)]),
o_ 118 (.append 3 48 (.t 115) (.t 117)),
o_ 119 (.fadr 0 (.t 5)),
⟨none, .store 1 (.t 119) (.t 118), none⟩] false)))))
(.region [
m_ 24 6,
o_ 25 (.bin .add (.t 24) (.c (.int .i64 1))),
m_ 6 25] false))))))
(.seq
(.seq
(.region [
m_ 120 4,
o_ 121 (.nilck (.t 120)),
o_ 122 (.fadr 1 (.t 121)),
o_ 123 (.load false 1 (.t 122))] false)
(.cond (.t 123)
(.seq
(.region [
o_ 124 (.build [.nils] []),
m_ 125 4,
o_ 126 (.nilck (.t 125)),
o_ 127 (.fadr 2 (.t 126)),
o_ 128 (.loadF false 1 (.t 127)),
o_ 129 (.build [.int .i64 0, .int .i64 0] [(0, 1, .c (.int .i64 4)), (1, 1, .t 128)]),
⟨none, .storeF 1 (.t 2) (.t 124), none⟩,
⟨none, .store 2 (.t 3) (.t 129), none⟩] true)
.ret)
.skip))
(.seq
(.region [
o_ 130 (.load true 1 (.t 5)),
o_ 131 (.build [.int .i64 0, .int .i64 0] []),
⟨none, .store 1 (.t 2) (.t 130), none⟩,
⟨none, .store 2 (.t 3) (.t 131), none⟩] false)
.ret))))))),
[.cell true 1 2, .cell true 2 3]⟩
theorem ok37 : okFunc Go.Proofs.Tryz.prog 37 lf37 = true := by kernel_rfl
def lf38 : LFunc := ⟨83, 3,
(.seq
(.region [
o_ 3 (.boxt 3 (.t 0)),
o_ 6 (.newv [.int .i64 0, .int .i64 0, .nils, .nils, .int .i64 0, .int .i64 0, .nils]),
o_ 7 (.newv [.int .i64 0, .int .i64 0])] false)
(.seq
(.seq
(.region [
o_ 9 (.fadr 1 (.t 3)),
o_ 10 (.load false 1 (.t 9)),
o_ 11 (.call false (.c (.fn 56 [] [])) [.t 10]),
o_ 12 (.not (.t 11)),
m_ 13 12,
g_ 14 (.fadr 1 (.t 3)) 13 false,
g_ 15 (.load false 1 (.t 14)) 13 false,
g_ 16 (.call false (.c (.fn 57 [] [])) [.t 15]) 13 false,
g_ 17 (.not (.t 16)) 13 false,
o_ 18 (.pick (.t 13) (.c (.bool true)) (.t 17)),
m_ 19 18,
g_ 20 (.mv (.t 1)) 19 false,
g_ 21 (.bin .lss (.t 20) (.c (.int .i64 0))) 19 false,
o_ 22 (.pick (.t 19) (.c (.bool true)) (.t 21)),
m_ 23 22,
g_ 24 (.mv (.t 1)) 23 false,
g_ 25 (.bin .geq (.t 24) (.c (.int .i64 16))) 23 false,
o_ 26 (.pick (.t 23) (.c (.bool true)) (.t 25)),
m_ 27 26,
g_ 28 (.mv (.t 2)) 27 false,
g_ 29 (.bin .lss (.t 28) (.c (.int .i64 0))) 27 false,
o_ 30 (.pick (.t 27) (.c (.bool true)) (.t 29)),
m_ 31 30,
g_ 32 (.mv (.t 2)) 31 false,
g_ 33 (.bin .geq (.t 32) (.c (.int .i64 4))) 31 false,
o_ 34 (.pick (.t 31) (.c (.bool true)) (.t 33))] false)
(.cond (.t 34)
(.seq
(.region [
o_ 35 (.build [.int .i64 0, .int .i64 0, .nils, .nils, .int .i64 0, .int .i64 0, .nils] []),
o_ 36 (.build [.int .i64 0, .int .i64 0] [(0, 1, .c (.int .i64 2))]),
⟨none, .store 7 (.t 6) (.t 35), none⟩,
⟨none, .store 2 (.t 7) (.t 36), none⟩] false)
.ret)
.skip))
(.seq
(.region [
m_ 37 1,
m_ 38 2,
o_ 39 (.fadr 2 (.t 3)),
o_ 40 (.load false 1 (.t 39)),
o_ 41 (.build [.int .i64 0, .int .i64 0, .nils, .nils, .int .i64 0, .int .i64 0, .nils] [(0, 1, .t 37), (1, 1, .t 38), (6, 1, .t 40)]),
o_ 42 (.build [.int .i64 0, .int .i64 0] [(1, 1, .c (.int .i64 1))]),
o_ 43 (.build [.int .i64 0, .int .i64 0] [(0, 1, .c (.int .i64 2))]),
o_ 44 (.build [.int .i64 0, .int .i64 0] [(0, 1, .c (.int .i64 1)), (1, 1, .c (.int .i64 1))]),
o_ 45 (.build [.int .i64 0, .int .i64 0, .nils, .nils, .int .i64 0, .int .i64 0, .nils, .int .i64 0, .int .i64 0, .int .i64 0, .int .i64 0, .nils, .int .i64 0, .int .i64 0, .int .i64 0, .nils, .int .i64 0, .int .i64 0] [(0, 7, .t 41), (7, 2, .t 42), (9, 2, .t 43), (12, 2, .t 44)]),
o_ 46 (.box 18 (.t 45)),
m_ 8 46] false)
(.seq
(.region [
m_ 47 8,
o_ 48 (.fadr 1 (.t 3)),
o_ 49 (.load false 1 (.t 48)),
o_ 50 (.call false (.c (.fn 58 [] [])) [.t 47, .t 49, .c (.int .i64 0)])] false)
(.seq
(.seq
(.region [
m_ 51 8,
o_ 52 (.nilck (.t 51)),
o_ 53 (.fadr 16 (.t 52)),
o_ 54 (.fadr 0 (.t 53)),
o_ 55 (.load false 1 (.t 54)),
o_ 56 (.bin .eql (.t 55) (.c (.int .i64 0)))] false)
(.cond (.t 56)
(.region [
m_ 57 8,
o_ 58 (.call false (.c (.fn 59 [] [])) [.t 57])] false)
.skip))
(.seq
(.seq
(.region [
m_ 59 8,
o_ 60 (.nilck (.t 59)),
o_ 61 (.fadr 16 (.t 60)),
o_ 62 (.fadr 0 (.t 61)),
o_ 63 (.load false 1 (.t 62)),
o_ 64 (.bin .neq (.t 63) (.c (.int .i64 0)))] false)
(.cond (.t 64)
(.seq
(.region [
o_ 65 (.build [.int .i64 0, .int .i64 0, .nils, .nils, .int .i64 0, .int .i64 0, .nils] []),
m_ 66 8,
o_ 67 (.nilck (.t 66)),
o_ 68 (.fadr 16 (.t 67)),
o_ 69 (.loadF true 2 (.t 68)),
⟨none, .storeF 7 (.t 6) (.t 65), none⟩,
⟨none, .store 2 (.t 7) (.t 69), none⟩] true)
.ret)
.skip))
(.seq
(.region [
m_ 70 8,
m_ 71 8,
o_ 72 (.nilck (.t 71)),
o_ 73 (.fadr 7 (.t 72)),
o_ 74 (.load true 2 (.t 73)),
o_ 75 (.nilck (.t 70)),
o_ 76 (.fadr 0 (.t 75)),
o_ 77 (.fadr 4 (.t 76)),
⟨none, .store 2 (.t 77) (.t 74), none⟩] false)
(.seq
(.region [
m_ 78 8,
o_ 79 (.nilck (.t 78)),
o_ 80 (.fadr 0 (.t 79)),
o_ 81 (.load true 7 (.t 80)),
o_ 82 (.build [.int .i64 0, .int .i64 0] []),
⟨none, .store 7 (.t 6) (.t 81), none⟩,
⟨none, .store 2 (.t 7) (.t 82), none⟩] false)
.ret)))))))),
[.cell true 7 6, .cell true 2 7]⟩
theorem ok38 : okFunc Go.Proofs.Tryz.prog 38 lf38 = true := by kernel_rfl
def lf39 : LFunc := ⟨39, 1,
(.seq
(.region [
o_ 2 (.mv (.c (.nils))),
o_ 3 (.newv [.int .i64 0, .int .i64 0])] false)
(.seq
(.seq
(.region [
m_ 9 0,
o_ 10 (.call false (.c (.fn 21 [] [])) [.t 9]),
o_ 11 (.not (.t 10))] false)
(.cond (.t 11)
(.seq
(.region [
o_ 12 (.build [.int .i64 0, .int .i64 0] [(0, 1, .c (.int .i64 2))]),
o_ 2 (.mv (.c (.nils))),
⟨none, .store 2 (.t 3) (.t 12), none⟩] false)
.ret)
.skip))
(.seq
(.region [
m_ 13 0,
o_ 14 (.call false (.c (.fn 60 [] [])) [.t 13, .c (.fn 61 [] [])]),
o_ 15 (.field true 4 2 (.t 14)),
o_ 4 (.newv [.int .i64 0, .int .i64 0]),
⟨none, .store 2 (.t 4) (.t 15), none⟩] false)
(.seq
(.region [
m_ 17 0,
o_ 18 (.idxa 7 (.t 17) (.c (.int .i64 0))),
o_ 19 (.load true 7 (.t 18)),
o_ 20 (.load true 2 (.t 4)),
o_ 21 (.call false (.c (.fn 63 [] [])) [.t 19, .t 20]),
m_ 16 21,
o_ 22 (.extract (.t 16) 0),
o_ 23 (.extract (.t 16) 1),
m_ 5 22,
m_ 6 23] true)
(.seq
(.seq
(.region [
m_ 24 6,
o_ 25 (.not (.t 24))] false)
(.cond (.t 25)
(.seq
(.region [
o_ 26 (.build [.int .i64 0, .int .i64 0] [(0, 1, .c (.int .i64 4))]),
o_ 2 (.mv (.c (.nils))),
⟨none, .store 2 (.t 3) (.t 26), none⟩] false)
.ret)
.skip))
(.seq
(.seq
(.region [
m_ 28 0,
m_ 29 5,
o_ 30 (.call false (.c (.fn 64 [] [])) [.t 28, .t 29]),
m_ 27 30,
o_ 31 (.extract (.t 27) 0),
o_ 32 (.extract (.t 27) 1),
o_ 7 (.newv [.int .i64 0, .int .i64 0, .int .i64 0, .int .i64 0, .int .i64 0, .int .i64 0, .int .i64 0, .int .i64 0, .nils, .bool false, .int .i64 0, .int .i64 0, .str ⟨#[]⟩, .nils, .int .i64 0, .int .i64 0, .int .i64 0, .int .i64 0]),
⟨none, .store 18 (.t 7) (.t 31), none⟩,
m_ 8 32] false)
(.seq
(.region [
m_ 33 8] false)
(.cond (.t 33)
(.seq
(.region [
o_ 34 (.fadr 1 (.t 7)),
o_ 35 (.load false 1 (.t 34)),
o_ 36 (.build [.int .i64 0, .int .i64 0] [(0, 1, .c (.int .i64 23)), (1, 1, .t 35)]),
o_ 2 (.mv (.c (.nils))),
⟨none, .store 2 (.t 3) (.t 36), none⟩] true)
.ret)
.skip)))
(.seq
(.region [
m_ 37 5,
o_ 38 (.build [.int .i64 0, .int .i64 0] []),
m_ 2 37,
⟨none, .store 2 (.t 3) (.t 38), none⟩] false)
.ret))))))),
[.t 2, .cell true 2 3]⟩
theorem ok39 : okFunc Go.Proofs.Tryz.prog 39 lf39 = true := by kernel_rfl
def lf40 : LFunc := ⟨34, 3,
(.jump 0
(.seq
(.region [
o_ 6 (.mv (.c (.int .i64 0)))] false)
(.seq
.skip
(.seq
(.seq
(.region [
m_ 8 6,
m_ 9 1,
o_ 10 (.len .sli (.t 9)),
o_ 11 (.bin .eql (.t 8) (.t 10))] false)
(.cond (.t 11)
(.seq
(.region [
m_ 12 0,
o_ 13 (.call false (.c (.fn 65 [] [])) [.t 12])] false)
.ret)
.skip))
(.seq
(.seq
(.region [
m_ 14 1,
m_ 15 6,
o_ 16 (.idxa 18 (.t 14) (.t 15)),
o_ 17 (.load true 18 (.t 16)),
o_ 7 (.newv [.int .i64 0, .int .i64 0, .int .i64 0, .int .i64 0, .int .i64 0, .int .i64 0, .int .i64 0, .int .i64 0, .nils, .bool false, .int .i64 0, .int .i64 0, .str ⟨#[]⟩, .nils, .int .i64 0, .int .i64 0, .int .i64 0, .int .i64 0]),
⟨none, .store 18 (.t 7) (.t 17), none⟩] false)
(.block 0
(.seq
(.region [
o_ 21 (.load true 18 (.t 7)),
o_ 22 (.call false (.c (.fn 66 [] [])) [.t 21]),
m_ 20 22] false)
(.cond (.t 20)
.skip
(.seq
(.region [
o_ 24 (.load true 18 (.t 7)),
o_ 25 (.call false (.c (.fn 67 [] [])) [.t 24]),
m_ 23 25] false)
(.cond (.t 23)
(.region [
m_ 26 0,
m_ 27 6,
m_ 28 2,
o_ 29 (.load true 18 (.t 7)),
o_ 30 (.call false (.c (.fn 69 [] [])) [.t 28, .t 29]),
o_ 31 (.call false (.c (.fn 68 [] [])) [.t 26, .t 27, .t 30])] false)
(.region [
m_ 18 0,
o_ 19 (.call false (.c (.fn 65 [] [])) [.t 18])] false)))))))
(.seq
(.region [
m_ 32 6,
o_ 33 (.bin .add (.t 32) (.c (.int .i64 1))),
m_ 6 33] false)
(.goto 0))))))
(.seq
.skip
(.seq
(.seq
(.region [
m_ 8 6,
m_ 9 1,
o_ 10 (.len .sli (.t 9)),
o_ 11 (.bin .eql (.t 8) (.t 10))] false)
(.cond (.t 11)
(.seq
(.region [
m_ 12 0,
o_ 13 (.call false (.c (.fn 65 [] [])) [.t 12])] false)
.ret)
.skip))
(.seq
(.seq
(.region [
m_ 14 1,
m_ 15 6,
o_ 16 (.idxa 18 (.t 14) (.t 15)),
o_ 17 (.load true 18 (.t 16)),
o_ 7 (.newv [.int .i64 0, .int .i64 0, .int .i64 0, .int .i64 0, .int .i64 0, .int .i64 0, .int .i64 0, .int .i64 0, .nils, .bool false, .int .i64 0, .int .i64 0, .str ⟨#[]⟩, .nils, .int .i64 0, .int .i64 0, .int .i64 0, .int .i64 0]),
⟨none, .store 18 (.t 7) (.t 17), none⟩] false)
(.block 0
(.seq
(.region [
o_ 21 (.load true 18 (.t 7)),
o_ 22 (.call false (.c (.fn 66 [] [])) [.t 21]),
m_ 20 22] false)
(.cond (.t 20)
.skip
(.seq
(.region [
o_ 24 (.load true 18 (.t 7)),
o_ 25 (.call false (.c (.fn 67 [] [])) [.t 24]),
m_ 23 25] false)
(.cond (.t 23)
(.region [
m_ 26 0,
m_ 27 6,
m_ 28 2,
o_ 29 (.load true 18 (.t 7)),
o_ 30 (.call false (.c (.fn 69 [] [])) [.t 28, .t 29]),
o_ 31 (.call false (.c (.fn 68 [] [])) [.t 26, .t 27, .t 30])] false)
(.region [
m_ 18 0,
o_ 19 (.call false (.c (.fn 65 [] [])) [.t 18])] false)))))))
(.seq
(.region [
m_ 32 6,
o_ 33 (.bin .add (.t 32) (.c (.int .i64 1))),
m_ 6 33] false)
(.goto 0)))))),
[]⟩
theorem ok40 : okFunc Go.Proofs.Tryz.prog 40 lf40 = true := by kernel_rfl
def lf41 : LFunc := ⟨135, 1,
(.seq
(.region [
o_ 1 (.boxt 7 (.t 0)),
o_ 2 (.mv (.c (.bool false)))] false)
(.seq
(.seq
(.region [
o_ 12 (.fadr 0 (.t 1)),
o_ 13 (.load false 1 (.t 12)),
o_ 14 (.bin .lss (.t 13) (.c (.int .i64 0))),
m_ 15 14,
g_ 16 (.fadr 0 (.t 1)) 15 false,
g_ 17 (.load false 1 (.t 16)) 15 false,
g_ 18 (.bin .geq (.t 17) (.c (.int .i64 16))) 15 false,
o_ 19 (.pick (.t 15) (.c (.bool true)) (.t 18)),
m_ 20 19,
g_ 21 (.fadr 1 (.t 1)) 20 false,
g_ 22 (.load false 1 (.t 21)) 20 false,
g_ 23 (.bin .lss (.t 22) (.c (.int .i64 0))) 20 false,
o_ 24 (.pick (.t 20) (.c (.bool true)) (.t 23)),
m_ 25 24,
g_ 26 (.fadr 1 (.t 1)) 25 false,
g_ 27 (.load false 1 (.t 26)) 25 false,
g_ 28 (.bin .geq (.t 27) (.c (.int .i64 4))) 25 false,
o_ 29 (.pick (.t 25) (.c (.bool true)) (.t 28)),
m_ 30 29,
g_ 31 (.fadr 2 (.t 1)) 30 false,
g_ 32 (.load false 1 (.t 31)) 30 false,
g_ 33 (.len .sli (.t 32)) 30 false,
g_ 34 (.bin .gtr (.t 33) (.c (.int .i64 4096))) 30 false,
o_ 35 (.pick (.t 30) (.c (.bool true)) (.t 34)),
m_ 36 35,
g_ 37 (.fadr 3 (.t 1)) 36 false,
g_ 38 (.load false 1 (.t 37)) 36 false,
g_ 39 (.len .sli (.t 38)) 36 false,
g_ 40 (.bin .gtr (.t 39) (.c (.int .i64 4096))) 36 false,
o_ 41 (.pick (.t 36) (.c (.bool true)) (.t 40))] false)
(.cond (.t 41)
(.seq
(.region [
o_ 2 (.mv (.c (.bool false)))] false)
.ret)
.skip))
(.seq
(.seq
(.region [
o_ 42 (.fadr 3 (.t 1)),
o_ 43 (.load false 1 (.t 42)),
o_ 44 (.len .sli (.t 43)),
o_ 45 (.mv (.c (.int .i64 0)))] false)
(.block 0
(.loop
(.seq
(.region [
o_ 46 (.bin .lss (.t 45) (.t 44))] false)
(.seq
(.cond (.t 46)
.skip
(.exit 0))
(.seq
(.block 1
(.seq
(.region [
o_ 47 (.idxa 4 (.t 43) (.t 45)),
o_ 48 (.load true 4 (.t 47)),
o_ 4 (.newv [.int .i64 0, .int .i64 0, .int .i64 0, .int .i64 0]),
⟨none, .store 4 (.t 4) (.t 48), none⟩] false)
(.seq
(.region [
o_ 49 (.load true 7 (.t 1)),
o_ 50 (.load true 4 (.t 4)),
o_ 51 (.call false (.c (.fn 70 [] [])) [.t 49, .t 50]),
o_ 52 (.not (.t 51))] false)
(.cond (.t 52)
(.seq
(.region [
o_ 2 (.mv (.c (.bool false)))] false)
.ret)
.skip))))
(.region [
o_ 53 (.bin .add (.t 45) (.c (.int .i64 1))),
m_ 45 53] false)))))))
(.seq
(.region [
o_ 54 (.call false (.c (.fn 71 [] [])) [.c (.int .i64 0)]),
o_ 5 (.newv [.int .i64 0, .int .i64 0]),
⟨none, .store 2 (.t 5) (.t 54), none⟩] false)
(.seq
(.region [
o_ 6 (.mv (.c (.int .i64 0)))] false)
(.seq
(.seq
(.region [
o_ 55 (.fadr 2 (.t 1)),
o_ 56 (.load false 1 (.t 55)),
o_ 57 (.len .sli (.t 56)),
o_ 58 (.mv (.c (.int .i64 0)))] false)
(.block 2
(.loop
(.seq
(.region [
o_ 59 (.bin .lss (.t 58) (.t 57))] false)
(.seq
(.cond (.t 59)
.skip
(.exit 2))
(.seq
(.block 3
(.seq
(.region [
m_ 60 58,
o_ 61 (.idxa 18 (.t 56) (.t 58)),
o_ 62 (.load true 18 (.t 61)),
o_ 8 (.newv [.int .i64 0, .int .i64 0, .int .i64 0, .int .i64 0, .int .i64 0, .int .i64 0, .int .i64 0, .int .i64 0, .nils, .bool false, .int .i64 0, .int .i64 0, .str ⟨#[]⟩, .nils, .int .i64 0, .int .i64 0, .int .i64 0, .int .i64 0]),
m_ 7 60,
⟨none, .store 18 (.t 8) (.t 62), none⟩] false)
(.seq
(.region [
o_ 63 (.fadr 9 (.t 8)),
o_ 64 (.load true 4 (.t 63)),
o_ 9 (.newv [.bool false, .int .i64 0, .int .i64 0, .str ⟨#[]⟩]),
⟨none, .store 4 (.t 9) (.t 64), none⟩] false)
(.seq
(.seq
(.region [
o_ 65 (.load true 7 (.t 1)),
m_ 66 7,
o_ 67 (.call false (.c (.fn 72 [] [])) [.t 65, .t 66]),
o_ 68 (.not (.t 67)),
m_ 69 68,
g_ 70 (.fadr 2 (.t 8)) 69 false,
g_ 71 (.load true 2 (.t 70)) 69 false,
g_ 72 (.load true 2 (.t 5)) 69 false,
g_ 73 (.eq true (.ag [.i, .i]) (.t 71) (.t 72)) 69 false,
o_ 74 (.pick (.t 69) (.c (.bool true)) (.t 73)),
m_ 75 74,
g_ 76 (.fadr 1 (.t 9)) 75 false,
g_ 77 (.load false 1 (.t 76)) 75 false,
g_ 78 (.bin .lss (.t 77) (.c (.int .i64 0))) 75 false,
o_ 79 (.pick (.t 75) (.c (.bool true)) (.t 78)),
m_ 80 79,
g_ 81 (.fadr 1 (.t 9)) 80 false,
g_ 82 (.load false 1 (.t 81)) 80 false,
g_ 83 (.bin .gtr (.t 82) (.c (.int .i64 4))) 80 false,
o_ 84 (.pick (.t 80) (.c (.bool true)) (.t 83)),
m_ 85 84,
g_ 86 (.fadr 2 (.t 9)) 85 false,
g_ 87 (.load false 1 (.t 86)) 85 false,
g_ 88 (.bin .lss (.t 87) (.c (.int .i64 0))) 85 false,
o_ 89 (.pick (.t 85) (.c (.bool true)) (.t 88)),
m_ 90 89,
g_ 91 (.fadr 2 (.t 9)) 90 false,
g_ 92 (.load false 1 (.t 91)) 90 false,
g_ 93 (.mv (.t 6)) 90 false,
g_ 94 (.bin .gtr (.t 92) (.t 93)) 90 false,
o_ 95 (.pick (.t 90) (.c (.bool true)) (.t 94)),
m_ 96 95,
g_ 97 (.fadr 2 (.t 1)) 96 false,
g_ 98 (.load false 1 (.t 97)) 96 false,
g_ 99 (.mv (.t 7)) 96 false,
g_ 100 (.call false (.c (.fn 73 [] [])) [.t 98, .t 99]) 96 false,
g_ 101 (.not (.t 100)) 96 false,
o_ 102 (.pick (.t 96) (.c (.bool true)) (.t 101))] false)
(.cond (.t 102)
(.seq
(.region [
o_ 2 (.mv (.c (.bool false)))] false)
.ret)
.skip))
(.seq
(.region [
m_ 103 6,
o_ 104 (.fadr 1 (.t 9)),
o_ 105 (.load false 1 (.t 104)),
o_ 106 (.fadr 2 (.t 9)),
o_ 107 (.load false 1 (.t 106)),
o_ 108 (.bin .sub (.t 105) (.t 107)),
o_ 109 (.bin .add (.t 103) (.t 108)),
m_ 6 109] false)
(.seq
(.region [
o_ 111 (.load true 2 (.t 5)),
o_ 112 (.fadr 4 (.t 8)),
o_ 113 (.load true 2 (.t 112)),
o_ 114 (.call false (.c (.fn 74 [] [])) [.t 111, .t 113]),
m_ 110 114,
o_ 115 (.extract (.t 110) 0),
o_ 116 (.extract (.t 110) 1),
o_ 10 (.newv [.int .i64 0, .int .i64 0]),
⟨none, .store 2 (.t 10) (.t 115), none⟩,
m_ 11 116] false)
(.seq
(.seq
(.region [
m_ 117 11,
o_ 118 (.bin .neq (.t 117) (.c (.int .i64 0)))] false)
(.cond (.t 118)
(.seq
(.region [
o_ 2 (.mv (.c (.bool false)))] false)
.ret)
.skip))
(.region [
o_ 119 (.load true 2 (.t 10)),
⟨none, .store 2 (.t 5) (.t 119), none⟩] false))))))))
(.region [
o_ 120 (.bin .add (.t 58) (.c (.int .i64 1))),
m_ 58 120] false)))))))
(.seq
(.region [
m_ 121 6,
o_ 122 (.bin .eql (.t 121) (.c (.int .i64 0))),
m_ 123 122,
g_ 124 (.fadr 4 (.t 1)) 123 true,
g_ 125 (.load true 2 (.t 124)) 123 true,
g_ 126 (.load true 2 (.t 5)) 123 true,
g_ 127 (.eq false (.ag [.i, .i]) (.t 125) (.t 126)) 123 true,
o_ 128 (.pick (.t 123) (.t 127) (.c (.bool false))),
m_ 129 128,
g_ 130 (.fadr 2 (.t 1)) 129 true,
g_ 131 (.load false 1 (.t 130)) 129 true,
g_ 132 (.call false (.c (.fn 75 [] [])) [.t 131]) 129 true,
g_ 133 (.bin .lss (.t 132) (.c (.int .i64 0))) 129 true,
o_ 134 (.pick (.t 129) (.t 133) (.c (.bool false))),
m_ 2 134] false)
.ret))))))),
[.t 2]⟩
theorem ok41 : okFunc Go.Proofs.Tryz.prog 41 lf41 = true := by kernel_rfl
def lf42 : LFunc := ⟨27, 2,
(.seq
(.region [
o_ 2 (.boxt 7 (.t 0)),
o_ 3 (.boxt 7 (.t 1)),
o_ 4 (.mv (.c (.bool false)))] false)
(.seq
(.seq
(.region [
o_ 5 (.fadr 0 (.t 3)),
o_ 6 (.load false 1 (.t 5)),
o_ 7 (.fadr 0 (.t 2)),
o_ 8 (.load false 1 (.t 7)),
o_ 9 (.bin .eql (.t 6) (.t 8))] false)
(.cond (.t 9)
(.seq
(.region [
o_ 10 (.fadr 1 (.t 3)),
o_ 11 (.load false 1 (.t 10)),
o_ 12 (.fadr 1 (.t 2)),
o_ 13 (.load false 1 (.t 12)),
o_ 14 (.bin .add (.t 13) (.c (.int .i64 1))),
o_ 15 (.bin .eql (.t 11) (.t 14)),
m_ 4 15] false)
.ret)
.skip))
(.seq
(.region [
o_ 16 (.fadr 0 (.t 3)),
o_ 17 (.load false 1 (.t 16)),
o_ 18 (.fadr 0 (.t 2)),
o_ 19 (.load false 1 (.t 18)),
o_ 20 (.bin .add (.t 19) (.c (.int .i64 1))),
o_ 21 (.bin .eql (.t 17) (.t 20)),
m_ 22 21,
g_ 23 (.fadr 1 (.t 3)) 22 true,
g_ 24 (.load false 1 (.t 23)) 22 true,
g_ 25 (.bin .eql (.t 24) (.c (.int .i64 0))) 22 true,
o_ 26 (.pick (.t 22) (.t 25) (.c (.bool false))),
m_ 4 26] false)
.ret))),
[.t 4]⟩
theorem ok42 : okFunc Go.Proofs.Tryz.prog 42 lf42 = true := by kernel_rfl
def lf43 : LFunc := ⟨21, 1,
(.seq
(.region [
o_ 1 (.boxt 2 (.t 0)),
o_ 2 (.mv (.c (.bool false)))] false)
(.seq
(.region [
o_ 3 (.fadr 0 (.t 1)),
o_ 4 (.load false 1 (.t 3)),
o_ 5 (.bin .leq (.c (.int .i64 (-1))) (.t 4)),
m_ 6 5,
g_ 7 (.fadr 0 (.t 1)) 6 true,
g_ 8 (.load false 1 (.t 7)) 6 true,
g_ 9 (.bin .leq (.t 8) (.c (.int .i64 6))) 6 true,
o_ 10 (.pick (.t 6) (.t 9) (.c (.bool false))),
m_ 11 10,
g_ 12 (.fadr 1 (.t 1)) 11 true,
g_ 13 (.load false 1 (.t 12)) 11 true,
g_ 14 (.bin .leq (.c (.int .i64 0)) (.t 13)) 11 true,
o_ 15 (.pick (.t 11) (.t 14) (.c (.bool false))),
m_ 16 15,
g_ 17 (.fadr 1 (.t 1)) 16 true,
g_ 18 (.load false 1 (.t 17)) 16 true,
g_ 19 (.bin .leq (.t 18) (.c (.int .i64 3))) 16 true,
o_ 20 (.pick (.t 16) (.t 19) (.c (.bool false))),
m_ 2 20] false)
.ret)),
[.t 2]⟩
theorem ok43 : okFunc Go.Proofs.Tryz.prog 43 lf43 = true := by kernel_rfl
def lf44 : LFunc := ⟨177, 1,
(.seq
(.region [
o_ 1 (.boxt 7 (.t 0)),
o_ 2 (.mv (.c (.bool false)))] false)
(.seq
(.seq
(.region [
o_ 11 (.fadr 0 (.t 1)),
o_ 12 (.load false 1 (.t 11)),
o_ 13 (.bin .lss (.t 12) (.c (.int .i64 0))),
m_ 14 13,
g_ 15 (.fadr 0 (.t 1)) 14 false,
g_ 16 (.load false 1 (.t 15)) 14 false,
g_ 17 (.bin .geq (.t 16) (.c (.int .i64 16))) 14 false,
o_ 18 (.pick (.t 14) (.c (.bool true)) (.t 17)),
m_ 19 18,
g_ 20 (.fadr 1 (.t 1)) 19 false,
g_ 21 (.load false 1 (.t 20)) 19 false,
g_ 22 (.bin .lss (.t 21) (.c (.int .i64 0))) 19 false,
o_ 23 (.pick (.t 19) (.c (.bool true)) (.t 22)),
m_ 24 23,
g_ 25 (.fadr 1 (.t 1)) 24 false,
g_ 26 (.load false 1 (.t 25)) 24 false,
g_ 27 (.bin .geq (.t 26) (.c (.int .i64 4))) 24 false,
o_ 28 (.pick (.t 24) (.c (.bool true)) (.t 27)),
m_ 29 28,
g_ 30 (.fadr 2 (.t 1)) 29 false,
g_ 31 (.load false 1 (.t 30)) 29 false,
g_ 32 (.len .sli (.t 31)) 29 false,
g_ 33 (.bin .gtr (.t 32) (.c (.int .i64 4096))) 29 false,
o_ 34 (.pick (.t 29) (.c (.bool true)) (.t 33)),
m_ 35 34,
g_ 36 (.fadr 3 (.t 1)) 35 false,
g_ 37 (.load false 1 (.t 36)) 35 false,
g_ 38 (.len .sli (.t 37)) 35 false,
g_ 39 (.bin .gtr (.t 38) (.c (.int .i64 4096))) 35 false,
o_ 40 (.pick (.t 35) (.c (.bool true)) (.t 39))] false)
(.cond (.t 40)
(.seq
(.region [
o_ 2 (.mv (.c (.bool false)))] false)
.ret)
.skip))
(.seq
(.seq
(.region [
o_ 3 (.mv (.c (.int .i64 0)))] false)
(.block 0
(.loop
(.seq
(.seq
(.region [
m_ 41 3,
o_ 42 (.fadr 3 (.t 1)),
o_ 43 (.load false 1 (.t 42)),
o_ 44 (.len .sli (.t 43)),
o_ 45 (.bin .lss (.t 41) (.t 44))] false)
(.cond (.t 45)
.skip
(.exit 0)))
(.seq
(.block 1
(.seq
(.region [
o_ 48 (.fadr 3 (.t 1)),
o_ 49 (.load false 1 (.t 48)),
m_ 50 3,
o_ 51 (.idxa 4 (.t 49) (.t 50)),
o_ 52 (.load true 4 (.t 51)),
o_ 4 (.newv [.int .i64 0, .int .i64 0, .int .i64 0, .int .i64 0]),
⟨none, .store 4 (.t 4) (.t 52), none⟩] false)
(.seq
(.region [
o_ 53 (.fadr 0 (.t 4)),
o_ 54 (.load false 1 (.t 53)),
o_ 55 (.bin .lss (.t 54) (.c (.int .i64 0))),
m_ 56 55,
g_ 57 (.fadr 1 (.t 4)) 56 false,
g_ 58 (.load false 1 (.t 57)) 56 false,
g_ 59 (.fadr 0 (.t 4)) 56 false,
g_ 60 (.load false 1 (.t 59)) 56 false,
g_ 61 (.bin .lss (.t 58) (.t 60)) 56 false,
o_ 62 (.pick (.t 56) (.c (.bool true)) (.t 61)),
m_ 63 62,
g_ 64 (.fadr 1 (.t 4)) 63 false,
g_ 65 (.load false 1 (.t 64)) 63 false,
g_ 66 (.fadr 2 (.t 1)) 63 false,
g_ 67 (.load false 1 (.t 66)) 63 false,
g_ 68 (.len .sli (.t 67)) 63 false,
g_ 69 (.bin .geq (.t 65) (.t 68)) 63 false,
o_ 70 (.pick (.t 63) (.c (.bool true)) (.t 69)),
m_ 71 70,
g_ 72 (.fadr 2 (.t 4)) 71 false,
g_ 73 (.load false 1 (.t 72)) 71 false,
g_ 74 (.bin .lss (.t 73) (.c (.int .i64 1))) 71 false,
o_ 75 (.pick (.t 71) (.c (.bool true)) (.t 74)),
m_ 76 75,
g_ 77 (.fadr 2 (.t 4)) 76 false,
g_ 78 (.load false 1 (.t 77)) 76 false,
g_ 79 (.bin .gtr (.t 78) (.c (.int .i64 16))) 76 false,
o_ 80 (.pick (.t 76) (.c (.bool true)) (.t 79)),
m_ 81 80,
g_ 82 (.fadr 3 (.t 4)) 81 false,
g_ 83 (.load false 1 (.t 82)) 81 false,
g_ 84 (.bin .lss (.t 83) (.c (.int .i64 1))) 81 false,
o_ 85 (.pick (.t 81) (.c (.bool true)) (.t 84)),
m_ 86 85,
g_ 87 (.fadr 3 (.t 4)) 86 false,
g_ 88 (.load false 1 (.t 87)) 86 false,
g_ 89 (.bin .gtr (.t 88) (.c (.int .i64 16))) 86 false,
o_ 90 (.pick (.t 86) (.c (.bool true)) (.t 89))] false)
(.cond (.t 90)
(.seq
(.region [
o_ 2 (.mv (.c (.bool false)))] false)
.ret)
.skip))))
(.region [
m_ 46 3,
o_ 47 (.bin .add (.t 46) (.c (.int .i64 1))),
m_ 3 47] false))))))
(.seq
(.region [
o_ 91 (.build [.int .i64 0, .int .i64 0] [(1, 1, .c (.int .i64 1))]),
o_ 5 (.newv [.int .i64 0, .int .i64 0]),
⟨none, .store 2 (.t 5) (.t 91), none⟩] false)
(.seq
(.region [
o_ 6 (.mv (.c (.int .i64 0)))] false)
(.seq
(.seq
(.region [
o_ 7 (.mv (.c (.int .i64 0)))] false)
(.block 2
(.loop
(.seq
(.seq
(.region [
m_ 92 7,
o_ 93 (.fadr 2 (.t 1)),
o_ 94 (.load false 1 (.t 93)),
o_ 95 (.len .sli (.t 94)),
o_ 96 (.bin .lss (.t 92) (.t 95))] false)
(.cond (.t 96)
.skip
(.exit 2)))
(.seq
(.block 3
(.seq
(.region [
o_ 99 (.fadr 2 (.t 1)),
o_ 100 (.load false 1 (.t 99)),
m_ 101 7,
o_ 102 (.idxa 18 (.t 100) (.t 101)),
o_ 103 (.load true 18 (.t 102)),
o_ 8 (.newv [.int .i64 0, .int .i64 0, .int .i64 0, .int .i64 0, .int .i64 0, .int .i64 0, .int .i64 0, .int .i64 0, .nils, .bool false, .int .i64 0, .int .i64 0, .str ⟨#[]⟩, .nils, .int .i64 0, .int .i64 0, .int .i64 0, .int .i64 0]),
⟨none, .store 18 (.t 8) (.t 103), none⟩] false)
(.seq
(.seq
(.region [
o_ 104 (.load true 7 (.t 1)),
m_ 105 7,
o_ 106 (.call false (.c (.fn 76 [] [])) [.t 104, .t 105]),
o_ 107 (.not (.t 106)),
m_ 108 107,
g_ 109 (.fadr 2 (.t 8)) 108 false,
g_ 110 (.load true 2 (.t 109)) 108 false,
g_ 111 (.load true 2 (.t 5)) 108 false,
g_ 112 (.eq true (.ag [.i, .i]) (.t 110) (.t 111)) 108 false,
o_ 113 (.pick (.t 108) (.c (.bool true)) (.t 112)),
m_ 114 113,
g_ 115 (.fadr 9 (.t 8)) 114 false,
g_ 116 (.fadr 1 (.t 115)) 114 false,
g_ 117 (.load false 1 (.t 116)) 114 false,
g_ 118 (.bin .lss (.t 117) (.c (.int .i64 0))) 114 false,
o_ 119 (.pick (.t 114) (.c (.bool true)) (.t 118)),
m_ 120 119,
g_ 121 (.fadr 9 (.t 8)) 120 false,
g_ 122 (.fadr 1 (.t 121)) 120 false,
g_ 123 (.load false 1 (.t 122)) 120 false,
g_ 124 (.bin .gtr (.t 123) (.c (.int .i64 4))) 120 false,
o_ 125 (.pick (.t 120) (.c (.bool true)) (.t 124)),
m_ 126 125,
g_ 127 (.fadr 9 (.t 8)) 126 false,
g_ 128 (.fadr 2 (.t 127)) 126 false,
g_ 129 (.load false 1 (.t 128)) 126 false,
g_ 130 (.bin .lss (.t 129) (.c (.int .i64 0))) 126 false,
o_ 131 (.pick (.t 126) (.c (.bool true)) (.t 130)),
m_ 132 131,
g_ 133 (.fadr 9 (.t 8)) 132 false,
g_ 134 (.fadr 2 (.t 133)) 132 false,
g_ 135 (.load false 1 (.t 134)) 132 false,
g_ 136 (.mv (.t 6)) 132 false,
g_ 137 (.bin .gtr (.t 135) (.t 136)) 132 false,
o_ 138 (.pick (.t 132) (.c (.bool true)) (.t 137))] false)
(.cond (.t 138)
(.seq
(.region [
o_ 2 (.mv (.c (.bool false)))] false)
.ret)
.skip))
(.seq
(.region [
m_ 139 6,
o_ 140 (.fadr 9 (.t 8)),
o_ 141 (.fadr 2 (.t 140)),
o_ 142 (.load false 1 (.t 141)),
o_ 143 (.bin .sub (.t 139) (.t 142)),
o_ 144 (.fadr 9 (.t 8)),
o_ 145 (.fadr 1 (.t 144)),
o_ 146 (.load false 1 (.t 145)),
o_ 147 (.bin .add (.t 143) (.t 146)),
m_ 6 147] false)
(.seq
(.region [
o_ 149 (.load true 2 (.t 5)),
o_ 150 (.fadr 4 (.t 8)),
o_ 151 (.load true 2 (.t 150)),
o_ 152 (.call false (.c (.fn 77 [] [])) [.t 149, .t 151]),
m_ 148 152,
o_ 153 (.extract (.t 148) 0),
o_ 154 (.extract (.t 148) 1),
o_ 9 (.newv [.int .i64 0, .int .i64 0]),
⟨none, .store 2 (.t 9) (.t 153), none⟩,
m_ 10 154] false)
(.seq
(.seq
(.region [
m_ 155 10,
o_ 156 (.bin .neq (.t 155) (.c (.int .i64 0)))] false)
(.cond (.t 156)
(.seq
(.region [
o_ 2 (.mv (.c (.bool false)))] false)
.ret)
.skip))
(.region [
o_ 157 (.load true 2 (.t 9)),
⟨none, .store 2 (.t 5) (.t 157), none⟩] false)))))))
(.region [
m_ 97 7,
o_ 98 (.bin .add (.t 97) (.c (.int .i64 1))),
m_ 7 98] false))))))
(.seq
(.region [
m_ 158 6,
o_ 159 (.bin .eql (.t 158) (.c (.int .i64 0))),
m_ 160 159,
g_ 161 (.fadr 4 (.t 1)) 160 true,
g_ 162 (.load true 2 (.t 161)) 160 true,
g_ 163 (.load true 2 (.t 5)) 160 true,
g_ 164 (.eq false (.ag [.i, .i]) (.t 162) (.t 163)) 160 true,
o_ 165 (.pick (.t 160) (.t 164) (.c (.bool false))),
m_ 166 165,
g_ 167 (.fadr 2 (.t 1)) 166 true,
g_ 168 (.load false 1 (.t 167)) 166 true,
g_ 169 (.call false (.c (.fn 78 [] [])) [.t 168]) 166 true,
o_ 170 (.pick (.t 166) (.t 169) (.c (.bool false))),
m_ 171 170,
g_ 172 (.fadr 2 (.t 1)) 171 true,
g_ 173 (.load false 1 (.t 172)) 171 true,
g_ 174 (.call false (.c (.fn 79 [] [])) [.t 173]) 171 true,
g_ 175 (.bin .lss (.t 174) (.c (.int .i64 0))) 171 true,
o_ 176 (.pick (.t 171) (.t 175) (.c (.bool false))),
m_ 2 176] false)
.ret))))))),
[.t 2]⟩
theorem ok44 : okFunc Go.Proofs.Tryz.prog 44 lf44 = true := by kernel_rfl
def lf45 : LFunc := ⟨21, 1,
(.seq
(.region [
o_ 1 (.boxt 2 (.t 0)),
o_ 2 (.mv (.c (.bool false)))] false)
(.seq
(.region [
o_ 3 (.fadr 0 (.t 1)),
o_ 4 (.load false 1 (.t 3)),
o_ 5 (.bin .geq (.t 4) (.c (.int .i64 (-1)))),
m_ 6 5,
g_ 7 (.fadr 0 (.t 1)) 6 true,
g_ 8 (.load false 1 (.t 7)) 6 true,
g_ 9 (.bin .leq (.t 8) (.c (.int .i64 6))) 6 true,
o_ 10 (.pick (.t 6) (.t 9) (.c (.bool false))),
m_ 11 10,
g_ 12 (.fadr 1 (.t 1)) 11 true,
g_ 13 (.load false 1 (.t 12)) 11 true,
g_ 14 (.bin .geq (.t 13) (.c (.int .i64 0))) 11 true,
o_ 15 (.pick (.t 11) (.t 14) (.c (.bool false))),
m_ 16 15,
g_ 17 (.fadr 1 (.t 1)) 16 true,
g_ 18 (.load false 1 (.t 17)) 16 true,
g_ 19 (.bin .leq (.t 18) (.c (.int .i64 3))) 16 true,
o_ 20 (.pick (.t 16) (.t 19) (.c (.bool false))),
m_ 2 20] false)
.ret)),
[.t 2]⟩
theorem ok45 : okFunc Go.Proofs.Tryz.prog 45 lf45 = true := by kernel_rfl
def lf46 : LFunc := ⟨19, 2,
(.seq
(.region [
o_ 4 (.mv (.c (.int .i64 0)))] false)
(.seq
(.seq
(.region [
m_ 6 0,
o_ 7 (.len .sli (.t 6)),
o_ 8 (.mv (.c (.int .i64 0)))] false)
(.block 0
(.loop
(.seq
(.region [
o_ 9 (.bin .lss (.t 8) (.t 7))] false)
(.seq
(.cond (.t 9)
.skip
(.exit 0))
(.seq
(.block 1
(.seq
(.region [
m_ 10 8,
m_ 5 10] false)
(.seq
(.region [
m_ 11 1,
m_ 12 0,
m_ 13 5,
o_ 14 (.idxa 1 (.t 12) (.t 13)),
o_ 15 (.load false 1 (.t 14)),
o_ 16 (.bin .eql (.t 11) (.t 15))] false)
(.cond (.t 16)
(.seq
(.region [
m_ 17 5,
m_ 4 17] false)
.ret)
.skip))))
(.region [
o_ 18 (.bin .add (.t 8) (.c (.int .i64 1))),
m_ 8 18] false)))))))
(.seq
(.region [
o_ 4 (.mv (.c (.int .i64 (-1))))] false)
.ret))),
[.t 4]⟩
theorem ok46 : okFunc Go.Proofs.Tryz.prog 46 lf46 = true := by kernel_rfl
def lf47 : LFunc := ⟨8, 2,
(.seq
(.region [
o_ 4 (.newv [.int .i64 0, .int .i64 0])] false)
(.seq
(.region [
m_ 5 0,
m_ 6 1,
o_ 7 (.build [.int .i64 0, .int .i64 0] [(0, 1, .t 5), (1, 1, .t 6)]),
⟨none, .store 2 (.t 4) (.t 7), none⟩] false)
.ret)),
[.cell true 2 4]⟩
theorem ok47 : okFunc Go.Proofs.Tryz.prog 47 lf47 = true := by kernel_rfl
def lf48 : LFunc := ⟨47, 2,
(.seq
(.region [
o_ 4 (.mv (.c (.int .i64 0)))] false)
(.seq
(.block 0
(.loop
(.seq
(.seq
(.region [
m_ 6 1,
m_ 7 0,
o_ 8 (.len .str (.t 7)),
o_ 9 (.bin .lss (.t 6) (.t 8))] false)
(.cond (.t 9)
.skip
(.exit 0)))
(.block 1
(.seq
(.region [
m_ 10 0,
m_ 11 1,
o_ 12 (.idxs (.t 10) (.t 11)),
m_ 5 12] false)
(.block 2
(.seq
(.region [
m_ 15 5,
o_ 16 (.bin .eql (.t 15) (.c (.int .u8 32))),
m_ 17 16,
g_ 18 (.mv (.t 5)) 17 false,
g_ 19 (.bin .eql (.t 18) (.c (.int .u8 9))) 17 false,
o_ 20 (.pick (.t 17) (.c (.bool true)) (.t 19)),
m_ 21 20,
g_ 22 (.mv (.t 5)) 21 false,
g_ 23 (.bin .eql (.t 22) (.c (.int .u8 10))) 21 false,
o_ 24 (.pick (.t 21) (.c (.bool true)) (.t 23)),
m_ 25 24,
g_ 26 (.mv (.t 5)) 25 false,
g_ 27 (.bin .eql (.t 26) (.c (.int .u8 13))) 25 false,
o_ 28 (.pick (.t 25) (.c (.bool true)) (.t 27)),
m_ 14 28] false)
(.cond (.t 14)
(.region [
m_ 29 1,
o_ 30 (.bin .add (.t 29) (.c (.int .i64 1))),
m_ 1 30] false)
(.seq
(.region [
m_ 32 5,
o_ 33 (.bin .eql (.t 32) (.c (.int .u8 37))),
m_ 31 33] false)
(.cond (.t 31)
(.block 3
(.loop
(.seq
(.seq
(.region [
m_ 34 1,
m_ 35 0,
o_ 36 (.len .str (.t 35)),
o_ 37 (.bin .lss (.t 34) (.t 36)),
m_ 38 37,
g_ 39 (.mv (.t 0)) 38 true,
g_ 40 (.mv (.t 1)) 38 true,
g_ 41 (.idxs (.t 39) (.t 40)) 38 true,
g_ 42 (.bin .neq (.t 41) (.c (.int .u8 10))) 38 true,
o_ 43 (.pick (.t 38) (.t 42) (.c (.bool false)))] false)
(.cond (.t 43)
.skip
(.exit 3)))
(.block 4
(.region [
m_ 44 1,
o_ 45 (.bin .add (.t 44) (.c (.int .i64 1))),
m_ 1 45] false)))))
(.seq
(.region [
m_ 13 1,
m_ 4 13] false)
.ret)))))))))))
(.seq
(.region [
m_ 46 1,
m_ 4 46] false)
.ret))),
[.t 4]⟩
theorem ok48 : okFunc Go.Proofs.Tryz.prog 48 lf48 = true := by kernel_rfl
def lf49 : LFunc := ⟨107, 2,
(.seq
(.region [
o_ 4 (.mv (.c (.int .i64 0))),
o_ 5 (.mv (.c (.int .i64 0))),
o_ 6 (.newv [.int .i64 0, .int .i64 0])] false)
(.seq
(.region [
m_ 15 0,
m_ 16 1,
o_ 17 (.idxs (.t 15) (.t 16)),
m_ 7 17] false)
(.seq
(.region [
m_ 18 1,
m_ 8 18] false)
(.seq
(.block 0
(.seq
(.region [
m_ 20 7,
o_ 21 (.bin .eql (.t 20) (.c (.int .u8 39))),
m_ 22 21,
g_ 23 (.mv (.t 7)) 22 false,
g_ 24 (.bin .eql (.t 23) (.c (.int .u8 44))) 22 false,
o_ 25 (.pick (.t 22) (.c (.bool true)) (.t 24)),
m_ 19 25] false)
(.cond (.t 19)
(.seq
(.region [
m_ 26 1,
o_ 27 (.bin .add (.t 26) (.c (.int .i64 1))),
o_ 28 (.build [.int .i64 0, .int .i64 0] []),
o_ 4 (.mv (.c (.int .i64 3))),
m_ 5 27,
⟨none, .store 2 (.t 6) (.t 28), none⟩] false)
.ret)
(.seq
(.region [
m_ 30 7,
o_ 31 (.call false (.c (.fn 80 [] [])) [.t 30]),
m_ 29 31] false)
(.cond (.t 29)
(.seq
(.region [
m_ 32 1,
o_ 33 (.bin .add (.t 32) (.c (.int .i64 1))),
o_ 34 (.build [.int .i64 0, .int .i64 0] []),
o_ 4 (.mv (.c (.int .i64 4))),
m_ 5 33,
⟨none, .store 2 (.t 6) (.t 34), none⟩] false)
.ret)
(.seq
(.region [
m_ 36 7,
o_ 37 (.bin .eql (.t 36) (.c (.int .u8 34))),
m_ 35 37] false)
(.cond (.t 35)
(.seq
(.region [
m_ 39 0,
m_ 40 1,
o_ 41 (.call false (.c (.fn 81 [] [])) [.t 39, .t 40]),
m_ 38 41,
o_ 42 (.extract (.t 38) 0),
o_ 43 (.extract (.t 38) 1),
o_ 10 (.newv [.int .i64 0, .int .i64 0]),
m_ 9 42,
⟨none, .store 2 (.t 10) (.t 43), none⟩] false)
(.seq
(.region [
m_ 44 9,
o_ 45 (.load true 2 (.t 10)),
o_ 4 (.mv (.c (.int .i64 5))),
m_ 5 44,
⟨none, .store 2 (.t 6) (.t 45), none⟩] true)
.ret))
(.seq
(.region [
m_ 47 7,
o_ 48 (.bin .eql (.t 47) (.c (.int .u8 45))),
m_ 46 48] false)
(.cond (.t 46)
(.seq
(.region [
m_ 50 0,
m_ 51 1,
o_ 52 (.call false (.c (.fn 82 [] [])) [.t 50, .t 51]),
m_ 49 52,
o_ 53 (.extract (.t 49) 0),
o_ 54 (.extract (.t 49) 1),
o_ 12 (.newv [.int .i64 0, .int .i64 0]),
m_ 11 53,
⟨none, .store 2 (.t 12) (.t 54), none⟩] false)
(.seq
(.region [
m_ 55 11,
o_ 56 (.load true 2 (.t 12)),
o_ 4 (.mv (.c (.int .i64 6))),
m_ 5 55,
⟨none, .store 2 (.t 6) (.t 56), none⟩] true)
.ret))
(.seq
(.region [
m_ 58 7,
o_ 59 (.bin .eql (.t 58) (.c (.int .u8 95))),
m_ 57 59] false)
(.cond (.t 57)
(.seq
(.region [
m_ 61 0,
m_ 62 1,
o_ 63 (.call false (.c (.fn 82 [] [])) [.t 61, .t 62]),
m_ 60 63,
o_ 64 (.extract (.t 60) 0),
o_ 65 (.extract (.t 60) 1),
o_ 14 (.newv [.int .i64 0, .int .i64 0]),
m_ 13 64,
⟨none, .store 2 (.t 14) (.t 65), none⟩] false)
(.seq
(.region [
m_ 66 13,
o_ 67 (.load true 2 (.t 14)),
o_ 4 (.mv (.c (.int .i64 7))),
m_ 5 66,
⟨none, .store 2 (.t 6) (.t 67), none⟩] true)
.ret))
(.seq
(.region [
m_ 69 7,
o_ 70 (.call false (.c (.fn 83 [] [])) [.t 69]),
m_ 68 70] false)
(.cond (.t 68)
(.seq
(.block 1
(.loop
(.seq
(.seq
(.region [
m_ 71 8,
m_ 72 0,
o_ 73 (.len .str (.t 72)),
o_ 74 (.bin .lss (.t 71) (.t 73)),
m_ 75 74,
g_ 76 (.mv (.t 0)) 75 true,
g_ 77 (.mv (.t 8)) 75 true,
g_ 78 (.idxs (.t 76) (.t 77)) 75 true,
g_ 79 (.call false (.c (.fn 83 [] [])) [.t 78]) 75 true,
o_ 80 (.pick (.t 75) (.t 79) (.c (.bool false)))] false)
(.cond (.t 80)
.skip
(.exit 1)))
(.block 2
(.region [
m_ 81 8,
o_ 82 (.bin .add (.t 81) (.c (.int .i64 1))),
m_ 8 82] false)))))
(.seq
(.region [
m_ 83 8,
o_ 84 (.build [.int .i64 0, .int .i64 0] []),
o_ 4 (.mv (.c (.int .i64 2))),
m_ 5 83,
⟨none, .store 2 (.t 6) (.t 84), none⟩] false)
.ret))
.skip)))))))))))))
(.seq
(.block 3
(.loop
(.seq
(.seq
(.region [
m_ 85 8,
m_ 86 0,
o_ 87 (.len .str (.t 86)),
o_ 88 (.bin .lss (.t 85) (.t 87)),
m_ 89 88,
g_ 90 (.mv (.t 0)) 89 true,
g_ 91 (.mv (.t 8)) 89 true,
g_ 92 (.call false (.c (.fn 84 [] [])) [.t 90, .t 91]) 89 true,
g_ 93 (.bin .gtr (.t 92) (.c (.int .i64 0))) 89 true,
o_ 94 (.pick (.t 89) (.t 93) (.c (.bool false)))] false)
(.cond (.t 94)
.skip
(.exit 3)))
(.block 4
(.region [
m_ 95 8,
m_ 96 0,
m_ 97 8,
o_ 98 (.call false (.c (.fn 84 [] [])) [.t 96, .t 97]),
o_ 99 (.bin .add (.t 95) (.t 98)),
m_ 8 99] false)))))
(.seq
(.seq
(.region [
m_ 100 8,
m_ 101 1,
o_ 102 (.bin .eql (.t 100) (.t 101))] false)
(.cond (.t 102)
(.seq
(.region [
m_ 103 1,
o_ 104 (.call false (.c (.fn 47 [] [])) [.c (.int .i64 10), .t 103]),
o_ 4 (.mv (.c (.int .i64 0))),
o_ 5 (.mv (.c (.int .i64 0))),
⟨none, .store 2 (.t 6) (.t 104), none⟩] false)
.ret)
.skip))
(.seq
(.region [
m_ 105 8,
o_ 106 (.build [.int .i64 0, .int .i64 0] []),
o_ 4 (.mv (.c (.int .i64 1))),
m_ 5 105,
⟨none, .store 2 (.t 6) (.t 106), none⟩] false)
.ret))))))),
[.t 4, .t 5, .cell true 2 6]⟩
theorem ok49 : okFunc Go.Proofs.Tryz.prog 49 lf49 = true := by kernel_rfl
def lf50 : LFunc := ⟨22, 1,
(.seq
(.seq
(.region [
m_ 2 0,
o_ 3 (.call false (.c (.fn 30 [] [])) [.t 2, .c (.int .i64 4), .c (.str ⟨#[123]⟩)]),
m_ 4 3,
g_ 5 (.mv (.t 0)) 4 true,
g_ 6 (.nilck (.t 5)) 4 true,
g_ 7 (.fadr 5 (.t 6)) 4 true,
g_ 8 (.load false 1 (.t 7)) 4 true,
g_ 9 (.bin .eql (.t 8) (.c (.int .i64 64))) 4 true,
o_ 10 (.pick (.t 4) (.t 9) (.c (.bool false)))] false)
(.cond (.t 10)
(.region [
m_ 11 0,
o_ 12 (.call false (.c (.fn 32 [] [])) [.t 11, .c (.int .i64 13)])] false)
.skip))
(.seq
(.region [
m_ 13 0,
o_ 14 (.call false (.c (.fn 85 [] [])) [.t 13, .c (.str ⟨#[123]⟩)])] false)
(.region [
m_ 15 0,
o_ 16 (.nilck (.t 15)),
o_ 17 (.fadr 5 (.t 16)),
o_ 18 (.load false 1 (.t 17)),
o_ 19 (.bin .add (.t 18) (.c (.int .i64 1))),
o_ 20 (.nilck (.t 15)),
o_ 21 (.fadr 5 (.t 20)),
⟨none, .store 1 (.t 21) (.t 19), none⟩] false))),
[]⟩
theorem ok50 : okFunc Go.Proofs.Tryz.prog 50 lf50 = true := by kernel_rfl
def lf51 : LFunc := ⟨35, 1,
(.seq
(.region [
o_ 2 (.newv [.int .i64 0, .nils, .nils])] false)
(.seq
(.region [
m_ 4 0,
o_ 5 (.call false (.c (.fn 35 [] [])) [.t 4]),
o_ 6 (.field false 2 1 (.t 5)),
o_ 7 (.build [.int .i64 0, .nils, .nils] [(0, 1, .t 6)]),
o_ 3 (.newv [.int .i64 0, .nils, .nils]),
⟨none, .store 3 (.t 3) (.t 7), none⟩] false)
(.seq
(.region [
m_ 8 0,
o_ 9 (.nilck (.t 8)),
o_ 10 (.fadr 1 (.t 9)),
o_ 11 (.load false 1 (.t 10)),
o_ 12 (.bin .add (.t 11) (.c (.int .i64 1))),
o_ 13 (.nilck (.t 8)),
o_ 14 (.fadr 1 (.t 13)),
⟨none, .store 1 (.t 14) (.t 12), none⟩] false)
(.seq
(.region [
m_ 15 0,
o_ 16 (.call false (.c (.fn 86 [] [])) [.t 15, .c (.int .i64 0)]),
o_ 17 (.fadr 1 (.t 3)),
⟨none, .store 1 (.t 17) (.t 16), none⟩] false)
(.seq
(.block 0
(.loop
(.seq
(.seq
(.region [
m_ 18 0,
o_ 19 (.call false (.c (.fn 30 [] [])) [.t 18, .c (.int .i64 1), .c (.str ⟨#[108, 121, 114, 105, 99, 115]⟩)])] false)
(.cond (.t 19)
.skip
(.exit 0)))
(.block 1
(.seq
(.seq
(.region [
o_ 20 (.fadr 2 (.t 3)),
o_ 21 (.load false 1 (.t 20)),
o_ 22 (.len .sli (.t 21)),
o_ 23 (.bin .eql (.t 22) (.c (.int .i64 4)))] false)
(.cond (.t 23)
(.seq
(.region [
m_ 24 0,
o_ 25 (.call false (.c (.fn 32 [] [])) [.t 24, .c (.int .i64 4)])] false)
(.seq
(.region [
o_ 26 (.load true 3 (.t 3)),
⟨none, .store 3 (.t 2) (.t 26), none⟩] false)
.ret))
.skip))
(.region [
o_ 27 (.fadr 2 (.t 3)),
o_ 28 (.load false 1 (.t 27)),
m_ 29 0,
o_ 30 (.call false (.c (.fn 87 [] [])) [.t 29]),
o_ 31 (.btsl 1 1 [.nils] [(0, .t 30)]),
o_ 32 (.append 1 24 (.t 28) (.t 31)),
o_ 33 (.fadr 2 (.t 3)),
⟨none, .store 1 (.t 33) (.t 32), none⟩] true))))))
(.seq
(.region [
o_ 34 (.load true 3 (.t 3)),
⟨none, .store 3 (.t 2) (.t 34), none⟩] false)
.ret)))))),
[.cell true 3 2]⟩
theorem ok51 : okFunc Go.Proofs.Tryz.prog 51 lf51 = true := by kernel_rfl
def lf52 : LFunc := ⟨11, 1,
(.seq
(.region [
m_ 2 0,
o_ 3 (.call false (.c (.fn 85 [] [])) [.t 2, .c (.str ⟨#[125]⟩)])] false)
(.region [
m_ 4 0,
o_ 5 (.nilck (.t 4)),
o_ 6 (.fadr 5 (.t 5)),
o_ 7 (.load false 1 (.t 6)),
o_ 8 (.bin .sub (.t 7) (.c (.int .i64 1))),
o_ 9 (.nilck (.t 4)),
o_ 10 (.fadr 5 (.t 9)),
⟨none, .store 1 (.t 10) (.t 8), none⟩] false)),
[]⟩
theorem ok52 : okFunc Go.Proofs.Tryz.prog 52 lf52 = true := by kernel_rfl
def lf53 : LFunc := ⟨6, 1,
(.seq
(.region [
o_ 1 (.boxt 1 (.t 0)),
o_ 2 (.mv (.c (.bool false)))] false)
(.seq
(.region [
o_ 3 (.load true 1 (.t 1)),
o_ 4 (.call false (.c (.fn 88 [] [])) [.t 3]),
o_ 5 (.bin .geq (.t 4) (.c (.int .i64 0))),
m_ 2 5] false)
.ret)),
[.t 2]⟩
theorem ok53 : okFunc Go.Proofs.Tryz.prog 53 lf53 = true := by kernel_rfl
def lf54 : LFunc := ⟨92, 2,
(.seq
(.region [
o_ 4 (.mv (.c (.nils)))] false)
(.seq
(.region [
o_ 5 (.own 14)] false)
(.seq
(.seq
(.region [
o_ 6 (.mv (.c (.int .i64 0)))] false)
(.block 0
(.loop
(.seq
(.seq
(.region [
m_ 11 6,
m_ 12 1,
o_ 13 (.len .sli (.t 12)),
o_ 14 (.bin .lss (.t 11) (.t 13)),
m_ 15 14,
g_ 16 (.mv (.t 0)) 15 true,
g_ 17 (.nilck (.t 16)) 15 true,
g_ 18 (.fadr 4 (.t 17)) 15 true,
g_ 19 (.load false 1 (.t 18)) 15 true,
g_ 20 (.not (.t 19)) 15 true,
o_ 21 (.pick (.t 15) (.t 20) (.c (.bool false)))] false)
(.cond (.t 21)
.skip
(.exit 0)))
(.seq
(.block 1
(.seq
(.region [
m_ 24 1,
m_ 25 6,
o_ 26 (.idxa 14 (.t 24) (.t 25)),
o_ 27 (.load true 14 (.t 26)),
o_ 7 (.newv [.int .i64 0, .int .i64 0, .nils, .bool false, .int .i64 0, .int .i64 0, .bool false, .int .i64 0, .int .i64 0, .str ⟨#[]⟩, .int .i64 0, .int .i64 0, .str ⟨#[]⟩, .nils]),
⟨none, .store 14 (.t 7) (.t 27), none⟩] false)
(.seq
(.region [
o_ 28 (.fadr 0 (.t 7)),
o_ 29 (.load false 1 (.t 28))] false)
(.block 2
(.seq
(.seq
(.region [
o_ 40 (.bin .eql (.t 29) (.c (.int .i64 1))),
m_ 39 40] false)
(.cond (.t 39)
.skip
(.region [
o_ 41 (.bin .eql (.t 29) (.c (.int .i64 2))),
m_ 39 41] false)))
(.cond (.t 39)
(.region [
m_ 42 5,
m_ 43 0,
o_ 44 (.load true 14 (.t 7)),
o_ 45 (.call false (.c (.fn 89 [] [])) [.t 43, .t 44]),
o_ 46 (.btsl 14 1 [.int .i64 0, .int .i64 0, .nils, .bool false, .int .i64 0, .int .i64 0, .bool false, .int .i64 0, .int .i64 0, .str ⟨#[]⟩, .int .i64 0, .int .i64 0, .str ⟨#[]⟩, .nils] [(0, .t 45)]),
o_ 47 (.append 14 160 (.t 42) (.t 46)),
m_ 5 47] false)
(.seq
(.region [
o_ 49 (.bin .eql (.t 29) (.c (.int .i64 8))),
m_ 48 49] false)
(.cond (.t 48)
(.seq
(.region [
o_ 51 (.fadr 2 (.t 7)),
o_ 52 (.load false 1 (.t 51)),
o_ 53 (.idxa 3 (.t 52) (.c (.int .i64 0))),
o_ 54 (.load true 3 (.t 53)),
o_ 55 (.call false (.c (.fn 90 [] [])) [.t 54]),
m_ 50 55,
o_ 56 (.extract (.t 50) 0),
o_ 57 (.extract (.t 50) 1),
o_ 8 (.newv [.int .i64 0, .int .i64 0, .int .i64 0]),
⟨none, .store 3 (.t 8) (.t 56), none⟩,
m_ 9 57] false)
(.seq
(.seq
(.region [
m_ 58 9,
o_ 59 (.not (.t 58))] false)
(.cond (.t 59)
(.seq
(.region [
m_ 60 0,
m_ 61 0,
o_ 62 (.fadr 1 (.t 7)),
o_ 63 (.loadF false 1 (.t 62)),
o_ 64 (.nilck (.t 60)),
o_ 65 (.fadr 4 (.t 64)),
⟨none, .storeF 1 (.t 65) (.c (.bool true)), none⟩,
o_ 66 (.nilck (.t 61)),
o_ 67 (.fadr 5 (.t 66)),
⟨none, .store 1 (.t 67) (.t 63), none⟩] true)
(.seq
(.region [
o_ 4 (.mv (.c (.nils)))] false)
.ret))
.skip))
(.seq
(.region [
o_ 68 (.load true 3 (.t 8)),
o_ 69 (.build [.bool false, .int .i64 0, .int .i64 0, .int .i64 0, .bool false, .int .i64 0] [(0, 1, .c (.bool true)), (1, 3, .t 68)]),
o_ 70 (.box 6 (.t 69)),
m_ 10 70] false)
(.seq
(.region [
m_ 71 5,
m_ 72 10,
o_ 73 (.fadr 13 (.t 7)),
o_ 74 (.load false 1 (.t 73)),
o_ 75 (.call false (.c (.fn 54 [] [])) [.t 72, .t 74]),
o_ 76 (.append 14 160 (.t 71) (.t 75)),
m_ 5 76] false)
(.region [
m_ 77 0,
m_ 78 0,
m_ 79 10,
o_ 80 (.nilck (.t 79)),
o_ 81 (.fadr 4 (.t 80)),
o_ 82 (.load false 1 (.t 81)),
m_ 83 10,
o_ 84 (.nilck (.t 83)),
o_ 85 (.fadr 5 (.t 84)),
o_ 86 (.load false 1 (.t 85)),
o_ 87 (.nilck (.t 77)),
o_ 88 (.fadr 4 (.t 87)),
⟨none, .store 1 (.t 88) (.t 82), none⟩,
o_ 89 (.nilck (.t 78)),
o_ 90 (.fadr 5 (.t 89)),
⟨none, .store 1 (.t 90) (.t 86), none⟩] true)))))
(.seq
(.region [
m_ 30 0,
o_ 31 (.fadr 13 (.t 7)),
o_ 32 (.load false 1 (.t 31)),
o_ 33 (.call false (.c (.fn 54 [] [])) [.t 30, .t 32]),
o_ 34 (.fadr 13 (.t 7)),
⟨none, .store 1 (.t 34) (.t 33), none⟩] false)
(.region [
m_ 35 5,
o_ 36 (.load true 14 (.t 7)),
o_ 37 (.btsl 14 1 [.int .i64 0, .int .i64 0, .nils, .bool false, .int .i64 0, .int .i64 0, .bool false, .int .i64 0, .int .i64 0, .str ⟨#[]⟩, .int .i64 0, .int .i64 0, .str ⟨#[]⟩, .nils] [(0, .t 36)]),
o_ 38 (.append 14 160 (.t 35) (.t 37)),
m_ 5 38] false))))))))))
(.region [
m_ 22 6,
o_ 23 (.bin .add (.t 22) (.c (.int .i64 1))),
m_ 6 23] false))))))
(.seq
(.region [
m_ 91 5,
m_ 4 91] false)
.ret)))),
[.t 4]⟩
theorem ok54 : okFunc Go.Proofs.Tryz.prog 54 lf54 = true := by kernel_rfl
def lf55 : LFunc := ⟨76, 2,
(.seq
(.region [
o_ 4 (.mv (.c (.nils)))] false)
(.seq
(.region [
o_ 5 (.own 14)] false)
(.seq
(.seq
(.region [
o_ 6 (.mv (.c (.int .i64 0)))] false)
(.block 0
(.loop
(.seq
(.seq
(.region [
m_ 9 6,
m_ 10 1,
o_ 11 (.len .sli (.t 10)),
o_ 12 (.bin .lss (.t 9) (.t 11)),
m_ 13 12,
g_ 14 (.mv (.t 0)) 13 true,
g_ 15 (.nilck (.t 14)) 13 true,
g_ 16 (.fadr 1 (.t 15)) 13 true,
g_ 17 (.load false 1 (.t 16)) 13 true,
g_ 18 (.not (.t 17)) 13 true,
o_ 19 (.pick (.t 13) (.t 18) (.c (.bool false)))] false)
(.cond (.t 19)
.skip
(.exit 0)))
(.seq
(.block 1
(.seq
(.region [
m_ 22 1,
m_ 23 6,
o_ 24 (.idxa 14 (.t 22) (.t 23)),
o_ 25 (.load true 14 (.t 24)),
o_ 7 (.newv [.int .i64 0, .int .i64 0, .nils, .bool false, .int .i64 0, .int .i64 0, .bool false, .int .i64 0, .int .i64 0, .str ⟨#[]⟩, .int .i64 0, .int .i64 0, .str ⟨#[]⟩, .nils]),
⟨none, .store 14 (.t 7) (.t 25), none⟩] false)
(.seq
(.seq
(.region [
o_ 26 (.fadr 0 (.t 7)),
o_ 27 (.load false 1 (.t 26)),
o_ 28 (.bin .eql (.t 27) (.c (.int .i64 7)))] false)
(.cond (.t 28)
(.seq
(.seq
(.region [
o_ 8 (.mv (.c (.int .i64 0)))] false)
(.block 2
(.loop
(.seq
(.seq
(.region [
m_ 29 8,
o_ 30 (.fadr 10 (.t 7)),
o_ 31 (.load false 1 (.t 30)),
o_ 32 (.bin .lss (.t 29) (.t 31)),
m_ 33 32,
g_ 34 (.fadr 13 (.t 7)) 33 true,
g_ 35 (.load false 1 (.t 34)) 33 true,
g_ 36 (.call false (.c (.fn 91 [] [])) [.t 35]) 33 true,
o_ 37 (.pick (.t 33) (.t 36) (.c (.bool false)))] false)
(.cond (.t 37)
.skip
(.exit 2)))
(.seq
(.block 3
(.region [
m_ 40 5,
m_ 41 0,
o_ 42 (.fadr 13 (.t 7)),
o_ 43 (.load false 1 (.t 42)),
o_ 44 (.call false (.c (.fn 55 [] [])) [.t 41, .t 43]),
o_ 45 (.append 14 160 (.t 40) (.t 44)),
m_ 5 45] false))
(.region [
m_ 38 8,
o_ 39 (.bin .add (.t 38) (.c (.int .i64 1))),
m_ 8 39] false))))))
(.exit 1))
.skip))
(.seq
(.seq
(.region [
m_ 46 0,
o_ 47 (.nilck (.t 46)),
o_ 48 (.fadr 0 (.t 47)),
o_ 49 (.load false 1 (.t 48)),
o_ 50 (.bin .eql (.t 49) (.c (.int .i64 0)))] false)
(.cond (.t 50)
(.seq
(.region [
m_ 51 0,
m_ 52 0,
o_ 53 (.fadr 1 (.t 7)),
o_ 54 (.loadF false 1 (.t 53)),
o_ 55 (.nilck (.t 51)),
o_ 56 (.fadr 1 (.t 55)),
⟨none, .storeF 1 (.t 56) (.c (.bool true)), none⟩,
o_ 57 (.nilck (.t 52)),
o_ 58 (.fadr 2 (.t 57)),
⟨none, .store 1 (.t 58) (.t 54), none⟩] true)
(.seq
(.region [
o_ 4 (.mv (.c (.nils)))] false)
.ret))
.skip))
(.seq
(.region [
m_ 59 0,
o_ 60 (.nilck (.t 59)),
o_ 61 (.fadr 0 (.t 60)),
o_ 62 (.load false 1 (.t 61)),
o_ 63 (.bin .sub (.t 62) (.c (.int .i64 1))),
o_ 64 (.nilck (.t 59)),
o_ 65 (.fadr 0 (.t 64)),
⟨none, .store 1 (.t 65) (.t 63), none⟩] false)
(.seq
(.region [
m_ 66 0,
o_ 67 (.fadr 13 (.t 7)),
o_ 68 (.load false 1 (.t 67)),
o_ 69 (.call false (.c (.fn 55 [] [])) [.t 66, .t 68]),
o_ 70 (.fadr 13 (.t 7)),
⟨none, .store 1 (.t 70) (.t 69), none⟩] false)
(.region [
m_ 71 5,
o_ 72 (.load true 14 (.t 7)),
o_ 73 (.btsl 14 1 [.int .i64 0, .int .i64 0, .nils, .bool false, .int .i64 0, .int .i64 0, .bool false, .int .i64 0, .int .i64 0, .str ⟨#[]⟩, .int .i64 0, .int .i64 0, .str ⟨#[]⟩, .nils] [(0, .t 72)]),
o_ 74 (.append 14 160 (.t 71) (.t 73)),
m_ 5 74] false)))))))
(.region [
m_ 20 6,
o_ 21 (.bin .add (.t 20) (.c (.int .i64 1))),
m_ 6 21] false))))))
(.seq
(.region [
m_ 75 5,
m_ 4 75] false)
.ret)))),
[.t 4]⟩
theorem ok55 : okFunc Go.Proofs.Tryz.prog 55 lf55 = true := by kernel_rfl
def lf56 : LFunc := ⟨6, 1,
(.seq
(.region [
o_ 2 (.mv (.c (.bool false)))] false)
(.seq
(.region [
m_ 3 0,
o_ 4 (.call false (.c (.fn 92 [] [])) [.t 3, .c (.int .i64 0), .c (.int .i64 4096), .c (.int .i64 62)]),
o_ 5 (.bin .geq (.t 4) (.c (.int .i64 0))),
m_ 2 5] false)
.ret)),
[.t 2]⟩
theorem ok56 : okFunc Go.Proofs.Tryz.prog 56 lf56 = true := by kernel_rfl
def lf57 : LFunc := ⟨33, 1,
(.seq
(.region [
o_ 2 (.mv (.c (.bool false)))] false)
(.seq
(.seq
(.region [
o_ 3 (.mv (.c (.int .i64 0)))] false)
(.block 0
(.loop
(.seq
(.seq
(.region [
m_ 4 3,
m_ 5 0,
o_ 6 (.len .sli (.t 5)),
o_ 7 (.bin .lss (.t 4) (.t 6))] false)
(.cond (.t 7)
.skip
(.exit 0)))
(.seq
(.block 1
(.seq
(.region [
m_ 10 0,
m_ 11 3,
o_ 12 (.idxa 14 (.t 10) (.t 11)),
o_ 13 (.fadr 0 (.t 12)),
o_ 14 (.load false 1 (.t 13)),
o_ 15 (.bin .eql (.t 14) (.c (.int .i64 7))),
m_ 16 15,
g_ 17 (.mv (.t 0)) 16 false,
g_ 18 (.mv (.t 3)) 16 false,
g_ 19 (.idxa 14 (.t 17) (.t 18)) 16 false,
g_ 20 (.fadr 0 (.t 19)) 16 false,
g_ 21 (.load false 1 (.t 20)) 16 false,
g_ 22 (.bin .eql (.t 21) (.c (.int .i64 8))) 16 false,
o_ 23 (.pick (.t 16) (.c (.bool true)) (.t 22)),
m_ 24 23,
g_ 25 (.mv (.t 0)) 24 false,
g_ 26 (.mv (.t 3)) 24 false,
g_ 27 (.idxa 14 (.t 25) (.t 26)) 24 false,
g_ 28 (.fadr 13 (.t 27)) 24 false,
g_ 29 (.load false 1 (.t 28)) 24 false,
g_ 30 (.call false (.c (.fn 57 [] [])) [.t 29]) 24 false,
g_ 31 (.not (.t 30)) 24 false,
o_ 32 (.pick (.t 24) (.c (.bool true)) (.t 31))] false)
(.cond (.t 32)
(.seq
(.region [
o_ 2 (.mv (.c (.bool false)))] false)
.ret)
.skip)))
(.region [
m_ 8 3,
o_ 9 (.bin .add (.t 8) (.c (.int .i64 1))),
m_ 3 9] false))))))
(.seq
(.region [
o_ 2 (.mv (.c (.bool true)))] false)
.ret))),
[.t 2]⟩
theorem ok57 : okFunc Go.Proofs.Tryz.prog 57 lf57 = true := by kernel_rfl
def lf58 : LFunc := ⟨53, 3,
(.seq
(.region [
o_ 6 (.mv (.c (.int .i64 0)))] false)
(.seq
(.seq
(.region [
o_ 7 (.mv (.c (.int .i64 0)))] false)
(.block 0
(.loop
(.seq
(.seq
(.region [
m_ 9 7,
m_ 10 1,
o_ 11 (.len .sli (.t 10)),
o_ 12 (.bin .lss (.t 9) (.t 11)),
m_ 13 12,
g_ 14 (.mv (.t 0)) 13 true,
g_ 15 (.nilck (.t 14)) 13 true,
g_ 16 (.fadr 16 (.t 15)) 13 true,
g_ 17 (.fadr 0 (.t 16)) 13 true,
g_ 18 (.load false 1 (.t 17)) 13 true,
g_ 19 (.bin .eql (.t 18) (.c (.int .i64 0))) 13 true,
o_ 20 (.pick (.t 13) (.t 19) (.c (.bool false)))] false)
(.cond (.t 20)
.skip
(.exit 0)))
(.seq
(.block 1
(.seq
(.region [
m_ 23 1,
m_ 24 7,
o_ 25 (.idxa 14 (.t 23) (.t 24)),
o_ 26 (.load true 14 (.t 25)),
o_ 8 (.newv [.int .i64 0, .int .i64 0, .nils, .bool false, .int .i64 0, .int .i64 0, .bool false, .int .i64 0, .int .i64 0, .str ⟨#[]⟩, .int .i64 0, .int .i64 0, .str ⟨#[]⟩, .nils]),
⟨none, .store 14 (.t 8) (.t 26), none⟩] false)
(.seq
(.region [
o_ 27 (.fadr 0 (.t 8)),
o_ 28 (.load false 1 (.t 27))] false)
(.block 2
(.seq
(.seq
(.region [
o_ 33 (.bin .eql (.t 28) (.c (.int .i64 1))),
m_ 32 33] false)
(.cond (.t 32)
.skip
(.seq
(.region [
o_ 34 (.bin .eql (.t 28) (.c (.int .i64 2))),
m_ 32 34] false)
(.cond (.t 32)
.skip
(.seq
(.region [
o_ 35 (.bin .eql (.t 28) (.c (.int .i64 3))),
m_ 32 35] false)
(.cond (.t 32)
.skip
(.region [
o_ 36 (.bin .eql (.t 28) (.c (.int .i64 4))),
m_ 32 36] false)))))))
(.cond (.t 32)
(.seq
(.region [
m_ 37 0,
o_ 38 (.load true 14 (.t 8)),
o_ 39 (.call false (.c (.fn 93 [] [])) [.t 37, .t 38])] false)
(.region [
o_ 2 (.mv (.c (.int .i64 0)))] false))
(.seq
(.region [
o_ 41 (.bin .eql (.t 28) (.c (.int .i64 5))),
m_ 40 41] false)
(.cond (.t 40)
(.region [
m_ 42 0,
o_ 43 (.load true 14 (.t 8)),
m_ 44 2,
o_ 45 (.call false (.c (.fn 94 [] [])) [.t 42, .t 43, .t 44]),
m_ 2 45] false)
(.seq
(.region [
o_ 47 (.bin .eql (.t 28) (.c (.int .i64 6))),
m_ 46 47] false)
(.cond (.t 46)
(.region [
m_ 48 0,
o_ 49 (.load true 14 (.t 8)),
m_ 50 2,
o_ 51 (.call false (.c (.fn 95 [] [])) [.t 48, .t 49, .t 50]),
m_ 2 51] false)
(.region [
m_ 29 0,
o_ 30 (.load true 14 (.t 8)),
o_ 31 (.call false (.c (.fn 96 [] [])) [.t 29, .t 30])] false)))))))))))
(.region [
m_ 21 7,
o_ 22 (.bin .add (.t 21) (.c (.int .i64 1))),
m_ 7 22] false))))))
(.seq
(.region [
m_ 52 2,
m_ 6 52] false)
.ret))),
[.t 6]⟩
theorem ok58 : okFunc Go.Proofs.Tryz.prog 58 lf58 = true := by kernel_rfl
def lf59 : LFunc := ⟨89, 1,
(.seq
(.region [
m_ 6 0,
o_ 7 (.nilck (.t 6)),
o_ 8 (.fadr 0 (.t 7)),
o_ 9 (.fadr 2 (.t 8)),
o_ 10 (.load false 1 (.t 9)),
m_ 2 10] false)
(.seq
(.seq
(.region [
o_ 3 (.mv (.c (.int .i64 0)))] false)
(.block 0
(.loop
(.seq
(.seq
(.region [
m_ 11 3,
m_ 12 2,
o_ 13 (.len .sli (.t 12)),
o_ 14 (.bin .lss (.t 11) (.t 13))] false)
(.cond (.t 14)
.skip
(.exit 0)))
(.seq
(.block 1
(.seq
(.seq
(.region [
m_ 17 2,
m_ 18 3,
o_ 19 (.idxa 18 (.t 17) (.t 18)),
o_ 20 (.fadr 9 (.t 19)),
o_ 21 (.fadr 0 (.t 20)),
o_ 22 (.load false 1 (.t 21)),
o_ 23 (.not (.t 22))] false)
(.cond (.t 23)
(.exit 1)
.skip))
(.seq
(.region [
m_ 24 2,
m_ 25 3,
o_ 26 (.call false (.c (.fn 97 [] [])) [.t 24, .t 25]),
m_ 4 26] false)
(.seq
(.region [
m_ 27 4,
o_ 28 (.bin .lss (.t 27) (.c (.int .i64 0))),
m_ 29 28,
g_ 30 (.mv (.t 2)) 29 false,
g_ 31 (.mv (.t 4)) 29 false,
g_ 32 (.idxa 18 (.t 30) (.t 31)) 29 false,
g_ 33 (.fadr 0 (.t 32)) 29 false,
g_ 34 (.load false 1 (.t 33)) 29 false,
g_ 35 (.bin .neq (.t 34) (.c (.int .i64 1))) 29 false,
o_ 36 (.pick (.t 29) (.c (.bool true)) (.t 35)),
m_ 37 36,
g_ 38 (.mv (.t 2)) 37 false,
g_ 39 (.mv (.t 4)) 37 false,
g_ 40 (.idxa 18 (.t 38) (.t 39)) 37 false,
g_ 41 (.fadr 8 (.t 40)) 37 false,
g_ 42 (.load false 1 (.t 41)) 37 false,
g_ 43 (.mv (.t 2)) 37 false,
g_ 44 (.mv (.t 3)) 37 false,
g_ 45 (.idxa 18 (.t 43) (.t 44)) 37 false,
g_ 46 (.fadr 8 (.t 45)) 37 false,
g_ 47 (.load false 1 (.t 46)) 37 false,
g_ 48 (.call false (.c (.fn 98 [] [])) [.t 42, .t 47]) 37 false,
g_ 49 (.not (.t 48)) 37 false,
o_ 50 (.pick (.t 37) (.c (.bool true)) (.t 49))] true)
(.cond (.t 50)
(.seq
(.region [
m_ 51 0,
m_ 52 2,
m_ 53 3,
o_ 54 (.idxa 18 (.t 52) (.t 53)),
o_ 55 (.fadr 1 (.t 54)),
o_ 56 (.load false 1 (.t 55)),
o_ 57 (.call false (.c (.fn 99 [] [])) [.t 51, .c (.int .i64 24), .t 56])] false)
.ret)
.skip)))))
(.region [
m_ 15 3,
o_ 16 (.bin .add (.t 15) (.c (.int .i64 1))),
m_ 3 16] false))))))
(.seq
(.seq
(.region [
m_ 58 0,
o_ 59 (.nilck (.t 58)),
o_ 60 (.fadr 15 (.t 59)),
o_ 61 (.load false 1 (.t 60)),
o_ 62 (.len .sli (.t 61)),
o_ 63 (.bin .gtr (.t 62) (.c (.int .i64 0)))] false)
(.cond (.t 63)
(.seq
(.region [
m_ 64 0,
m_ 65 0,
o_ 66 (.nilck (.t 65)),
o_ 67 (.fadr 15 (.t 66)),
o_ 68 (.load false 1 (.t 67)),
m_ 69 0,
o_ 70 (.nilck (.t 69)),
o_ 71 (.fadr 15 (.t 70)),
o_ 72 (.load false 1 (.t 71)),
o_ 73 (.len .sli (.t 72)),
o_ 74 (.bin .sub (.t 73) (.c (.int .i64 1))),
o_ 75 (.idxa 1 (.t 68) (.t 74)),
o_ 76 (.load false 1 (.t 75)),
o_ 77 (.call false (.c (.fn 99 [] [])) [.t 64, .c (.int .i64 24), .t 76])] true)
.ret)
.skip))
(.seq
(.region [
m_ 78 2,
o_ 79 (.call false (.c (.fn 79 [] [])) [.t 78]),
m_ 5 79] false)
(.seq
(.region [
m_ 80 5,
o_ 81 (.bin .geq (.t 80) (.c (.int .i64 0)))] false)
(.cond (.t 81)
(.region [
m_ 82 0,
m_ 83 2,
m_ 84 5,
o_ 85 (.idxa 18 (.t 83) (.t 84)),
o_ 86 (.fadr 1 (.t 85)),
o_ 87 (.load false 1 (.t 86)),
o_ 88 (.call false (.c (.fn 99 [] [])) [.t 82, .c (.int .i64 3), .t 87])] false)
.skip)))))),
[]⟩
theorem ok59 : okFunc Go.Proofs.Tryz.prog 59 lf59 = true := by kernel_rfl
def lf60 : LFunc := ⟨33, 2,
(.seq
(.region [
o_ 4 (.newv [.int .i64 0, .int .i64 0, .nils, .nils, .int .i64 0, .int .i64 0, .nils])] false)
(.seq
(.seq
(.region [
m_ 7 0,
o_ 8 (.len .sli (.t 7)),
o_ 9 (.bin .lss (.t 8) (.c (.int .i64 1)))] false)
(.cond (.t 9)
(.region [
o_ 10 (.bad),
⟨none, .bad, none⟩] false)
.skip))
(.seq
(.region [
m_ 11 0,
o_ 12 (.idxa 7 (.t 11) (.c (.int .i64 0))),
o_ 13 (.load true 7 (.t 12)),
o_ 5 (.newv [.int .i64 0, .int .i64 0, .nils, .nils, .int .i64 0, .int .i64 0, .nils]),
⟨none, .store 7 (.t 5) (.t 13), none⟩] false)
(.seq
(.seq
(.region [
o_ 6 (.mv (.c (.int .i64 1)))] false)
(.block 0
(.loop
(.seq
(.seq
(.region [
m_ 14 6,
m_ 15 0,
o_ 16 (.len .sli (.t 15)),
o_ 17 (.bin .lss (.t 14) (.t 16))] false)
(.cond (.t 17)
.skip
(.exit 0)))
(.seq
(.block 1
(.seq
(.region [
m_ 20 1,
m_ 21 0,
m_ 22 6,
o_ 23 (.idxa 7 (.t 21) (.t 22)),
o_ 24 (.load true 7 (.t 23)),
o_ 25 (.load true 7 (.t 5)),
o_ 26 (.call false (.t 20) [.t 24, .t 25]),
o_ 27 (.bin .gtr (.t 26) (.c (.int .i64 0)))] true)
(.cond (.t 27)
(.region [
m_ 28 0,
m_ 29 6,
o_ 30 (.idxa 7 (.t 28) (.t 29)),
o_ 31 (.load true 7 (.t 30)),
⟨none, .store 7 (.t 5) (.t 31), none⟩] false)
.skip)))
(.region [
m_ 18 6,
o_ 19 (.bin .add (.t 18) (.c (.int .i64 1))),
m_ 6 19] false))))))
(.seq
(.region [
o_ 32 (.load true 7 (.t 5)),
⟨none, .store 7 (.t 4) (.t 32), none⟩] false)
.ret))))),
[.cell true 7 4]⟩
theorem ok60 : okFunc Go.Proofs.Tryz.prog 60 lf60 = true := by kernel_rfl
def lf61 : LFunc := ⟨10, 2,
(.seq
(.region [
o_ 2 (.boxt 7 (.t 0)),
o_ 3 (.boxt 7 (.t 1)),
o_ 4 (.mv (.c (.int .i64 0)))] false)
(.seq
(.region [
o_ 5 (.fadr 4 (.t 2)),
o_ 6 (.load true 2 (.t 5)),
o_ 7 (.fadr 4 (.t 3)),
o_ 8 (.load true 2 (.t 7)),
o_ 9 (.call false (.c (.fn 62 [] [])) [.t 6, .t 8]),
m_ 4 9] false)
.ret)),
[.t 4]⟩
theorem ok61 : okFunc Go.Proofs.Tryz.prog 61 lf61 = true := by kernel_rfl
def lf62 : LFunc := ⟨27, 2,
(.seq
(.region [
o_ 2 (.boxt 2 (.t 0)),
o_ 3 (.boxt 2 (.t 1)),
o_ 4 (.mv (.c (.int .i64 0)))] false)
(.seq
(.seq
(.region [
o_ 7 (.load true 2 (.t 2)),
o_ 8 (.load true 2 (.t 3)),
o_ 9 (.call false (.c (.fn 100 [] [])) [.t 7, .t 8]),
o_ 10 (.not (.t 9))] false)
(.cond (.t 10)
(.seq
(.region [
o_ 4 (.mv (.c (.int .i64 0)))] false)
.ret)
.skip))
(.seq
(.region [
o_ 11 (.fadr 0 (.t 2)),
o_ 12 (.load false 1 (.t 11)),
o_ 13 (.fadr 1 (.t 3)),
o_ 14 (.load false 1 (.t 13)),
o_ 15 (.bin .mul (.t 12) (.t 14)),
o_ 16 (.fadr 0 (.t 3)),
o_ 17 (.load false 1 (.t 16)),
o_ 18 (.fadr 1 (.t 2)),
o_ 19 (.load false 1 (.t 18)),
o_ 20 (.bin .mul (.t 17) (.t 19)),
m_ 5 15,
m_ 6 20] true)
(.seq
(.seq
(.region [
m_ 21 5,
m_ 22 6,
o_ 23 (.bin .eql (.t 21) (.t 22))] false)
(.cond (.t 23)
(.seq
(.region [
o_ 4 (.mv (.c (.int .i64 0)))] false)
.ret)
.skip))
(.seq
(.seq
(.region [
m_ 24 5,
m_ 25 6,
o_ 26 (.bin .lss (.t 24) (.t 25))] false)
(.cond (.t 26)
(.seq
(.region [
o_ 4 (.mv (.c (.int .i64 (-1))))] false)
.ret)
.skip))
(.seq
(.region [
o_ 4 (.mv (.c (.int .i64 1)))] false)
.ret)))))),
[.t 4]⟩
theorem ok62 : okFunc Go.Proofs.Tryz.prog 62 lf62 = true := by kernel_rfl
def lf63 : LFunc := ⟨42, 2,
(.seq
(.region [
o_ 2 (.boxt 7 (.t 0)),
o_ 3 (.boxt 2 (.t 1)),
o_ 4 (.mv (.c (.nils))),
o_ 5 (.mv (.c (.bool false)))] false)
(.seq
(.region [
o_ 11 (.load true 7 (.t 2)),
o_ 12 (.call false (.c (.fn 101 [] [])) [.t 11]),
m_ 6 12] false)
(.seq
(.region [
o_ 13 (.call false (.c (.fn 102 [] [])) []),
o_ 14 (.build [.int .i64 0, .int .i64 0] [(0, 1, .c (.int .i64 4)), (1, 1, .c (.int .i64 4))]),
o_ 15 (.build [.int .i64 0, .int .i64 0, .int .i64 0, .int .i64 0] [(0, 2, .t 13), (2, 2, .t 14)]),
o_ 7 (.newv [.int .i64 0, .int .i64 0, .int .i64 0, .int .i64 0]),
⟨none, .store 4 (.t 7) (.t 15), none⟩] false)
(.seq
(.region [
o_ 8 (.own 4)] false)
(.seq
(.block 0
(.loop
(.seq
(.seq
(.region [
m_ 16 8,
o_ 17 (.len .sli (.t 16)),
o_ 18 (.bin .lss (.t 17) (.c (.int .i64 4096)))] false)
(.cond (.t 18)
.skip
(.exit 0)))
(.block 1
(.seq
(.seq
(.region [
m_ 20 6,
o_ 21 (.fadr 0 (.t 7)),
o_ 22 (.load true 2 (.t 21)),
o_ 23 (.lookup true (.ag [.i, .i]) (.agg [.int .i64 0, .int .i64 0]) (.t 20) (.t 22)),
m_ 19 23,
o_ 24 (.extract (.t 19) 0),
o_ 25 (.extract (.t 19) 1),
o_ 9 (.newv [.int .i64 0, .int .i64 0]),
⟨none, .store 2 (.t 9) (.t 24), none⟩,
m_ 10 25] false)
(.seq
(.region [
m_ 26 10] false)
(.cond (.t 26)
(.region [
o_ 27 (.load true 2 (.t 9)),
o_ 28 (.fadr 2 (.t 7)),
⟨none, .store 2 (.t 28) (.t 27), none⟩] false)
.skip)))
(.seq
(.region [
m_ 29 8,
o_ 30 (.load true 4 (.t 7)),
o_ 31 (.btsl 4 1 [.int .i64 0, .int .i64 0, .int .i64 0, .int .i64 0] [(0, .t 30)]),
o_ 32 (.append 4 32 (.t 29) (.t 31)),
m_ 8 32] false)
(.seq
(.region [
o_ 33 (.load true 4 (.t 7)),
o_ 34 (.call false (.c (.fn 103 [] [])) [.t 33]),
o_ 35 (.fadr 0 (.t 7)),
⟨none, .store 2 (.t 35) (.t 34), none⟩] false)
(.seq
(.region [
o_ 36 (.fadr 0 (.t 7)),
o_ 37 (.load true 2 (.t 36)),
o_ 38 (.load true 2 (.t 3)),
o_ 39 (.call false (.c (.fn 62 [] [])) [.t 37, .t 38]),
o_ 40 (.bin .geq (.t 39) (.c (.int .i64 0)))] false)
(.cond (.t 40)
(.seq
(.region [
m_ 41 8,
m_ 4 41,
o_ 5 (.mv (.c (.bool true)))] false)
.ret)
.skip)))))))))
(.seq
(.region [
o_ 4 (.mv (.c (.nils))),
o_ 5 (.mv (.c (.bool false)))] false)
.ret)))))),
[.t 4, .t 5]⟩
theorem ok63 : okFunc Go.Proofs.Tryz.prog 63 lf63 = true := by kernel_rfl
def lf64 : LFunc := ⟨71, 2,
(.seq
(.region [
o_ 4 (.newv [.int .i64 0, .int .i64 0, .int .i64 0, .int .i64 0, .int .i64 0, .int .i64 0, .int .i64 0, .int .i64 0, .nils, .bool false, .int .i64 0, .int .i64 0, .str ⟨#[]⟩, .nils, .int .i64 0, .int .i64 0, .int .i64 0, .int .i64 0]),
o_ 5 (.mv (.c (.bool false)))] false)
(.scope
(.seq
(.seq
(.region [
m_ 12 0,
o_ 13 (.idxa 7 (.t 12) (.c (.int .i64 0))),
o_ 14 (.fadr 2 (.t 13)),
o_ 15 (.load false 1 (.t 14)),
o_ 16 (.len .sli (.t 15)),
o_ 17 (.mv (.c (.int .i64 0)))] false)
(.block 0
(.loop
(.seq
(.region [
o_ 18 (.bin .lss (.t 17) (.t 16))] false)
(.seq
(.cond (.t 18)
.skip
(.exit 0))
(.seq
(.block 1
(.seq
(.region [
o_ 19 (.idxa 18 (.t 15) (.t 17)),
o_ 20 (.load true 18 (.t 19)),
o_ 7 (.newv [.int .i64 0, .int .i64 0, .int .i64 0, .int .i64 0, .int .i64 0, .int .i64 0, .int .i64 0, .int .i64 0, .nils, .bool false, .int .i64 0, .int .i64 0, .str ⟨#[]⟩, .nils, .int .i64 0, .int .i64 0, .int .i64 0, .int .i64 0]),
⟨none, .store 18 (.t 7) (.t 20), none⟩] false)
(.seq
(.region [
o_ 21 (.fadr 0 (.t 7)),
o_ 22 (.load false 1 (.t 21)),
o_ 23 (.bin .eql (.t 22) (.c (.int .i64 11))),
m_ 24 23,
g_ 25 (.mv (.t 1)) 24 true,
g_ 26 (.fadr 2 (.t 7)) 24 true,
g_ 27 (.load true 2 (.t 26)) 24 true,
g_ 28 (.call false (.c (.fn 104 [] [])) [.t 25, .t 27]) 24 true,
g_ 29 (.not (.t 28)) 24 true,
o_ 30 (.pick (.t 24) (.t 29) (.c (.bool false)))] false)
(.cond (.t 30)
(.seq
(.region [
o_ 31 (.load true 18 (.t 7)),
⟨none, .store 18 (.t 4) (.t 31), none⟩,
o_ 5 (.mv (.c (.bool true)))] false)
.ret)
.skip))))
(.region [
o_ 32 (.bin .add (.t 17) (.c (.int .i64 1))),
m_ 17 32] false)))))))
(.seq
.skip
(.seq
(.seq
(.region [
m_ 33 0,
o_ 34 (.len .sli (.t 33)),
o_ 35 (.mv (.c (.int .i64 0)))] false)
(.block 2
(.loop
(.seq
(.region [
o_ 36 (.bin .lss (.t 35) (.t 34))] false)
(.seq
(.cond (.t 36)
.skip
(.exit 2))
(.seq
(.block 3
(.seq
(.region [
o_ 37 (.idxa 7 (.t 33) (.t 35)),
o_ 38 (.load true 7 (.t 37)),
o_ 9 (.newv [.int .i64 0, .int .i64 0, .nils, .nils, .int .i64 0, .int .i64 0, .nils]),
⟨none, .store 7 (.t 9) (.t 38), none⟩] false)
(.seq
(.region [
o_ 39 (.fadr 2 (.t 9)),
o_ 40 (.load false 1 (.t 39)),
o_ 41 (.len .sli (.t 40)),
o_ 42 (.mv (.c (.int .i64 0)))] false)
(.block 4
(.loop
(.seq
(.region [
o_ 43 (.bin .lss (.t 42) (.t 41))] false)
(.seq
(.cond (.t 43)
.skip
(.exit 4))
(.seq
(.block 5
(.seq
(.region [
o_ 44 (.idxa 18 (.t 40) (.t 42)),
o_ 45 (.load true 18 (.t 44)),
o_ 11 (.newv [.int .i64 0, .int .i64 0, .int .i64 0, .int .i64 0, .int .i64 0, .int .i64 0, .int .i64 0, .int .i64 0, .nils, .bool false, .int .i64 0, .int .i64 0, .str ⟨#[]⟩, .nils, .int .i64 0, .int .i64 0, .int .i64 0, .int .i64 0]),
⟨none, .store 18 (.t 11) (.t 45), none⟩] false)
(.block 6
(.seq
(.region [
o_ 47 (.fadr 2 (.t 11)),
o_ 48 (.load true 2 (.t 47)),
o_ 49 (.fadr 4 (.t 9)),
o_ 50 (.load true 2 (.t 49)),
o_ 51 (.call false (.c (.fn 62 [] [])) [.t 48, .t 50]),
o_ 52 (.bin .gtr (.t 51) (.c (.int .i64 0))),
m_ 46 52] false)
(.cond (.t 46)
(.exit 3)
(.seq
(.seq
(.region [
o_ 54 (.fadr 0 (.t 11)),
o_ 55 (.load false 1 (.t 54)),
o_ 56 (.bin .eql (.t 55) (.c (.int .i64 12))),
m_ 57 56,
g_ 58 (.mv (.t 1)) 57 true,
g_ 59 (.fadr 2 (.t 11)) 57 true,
g_ 60 (.load true 2 (.t 59)) 57 true,
g_ 61 (.call false (.c (.fn 104 [] [])) [.t 58, .t 60]) 57 true,
g_ 62 (.not (.t 61)) 57 true,
o_ 63 (.pick (.t 57) (.t 62) (.c (.bool false))),
m_ 53 63] false)
(.cond (.t 53)
.skip
(.region [
m_ 64 1,
o_ 65 (.load true 18 (.t 11)),
o_ 66 (.call false (.c (.fn 105 [] [])) [.t 64, .t 65]),
m_ 53 66] false)))
(.cond (.t 53)
(.seq
(.region [
o_ 67 (.load true 18 (.t 11)),
⟨none, .store 18 (.t 4) (.t 67), none⟩,
o_ 5 (.mv (.c (.bool true)))] false)
.ret)
.skip)))))))
(.region [
o_ 68 (.bin .add (.t 42) (.c (.int .i64 1))),
m_ 42 68] false)))))))))
(.region [
o_ 69 (.bin .add (.t 35) (.c (.int .i64 1))),
m_ 35 69] false)))))))
(.seq
(.region [
o_ 70 (.build [.int .i64 0, .int .i64 0, .int .i64 0, .int .i64 0, .int .i64 0, .int .i64 0, .int .i64 0, .int .i64 0, .nils, .bool false, .int .i64 0, .int .i64 0, .str ⟨#[]⟩, .nils, .int .i64 0, .int .i64 0, .int .i64 0, .int .i64 0] []),
⟨none, .store 18 (.t 4) (.t 70), none⟩,
o_ 5 (.mv (.c (.bool false)))] false)
.ret)))))),
[.cell true 18 4, .t 5]⟩
theorem ok64 : okFunc Go.Proofs.Tryz.prog 64 lf64 = true := by kernel_rfl
def lf65 : LFunc := ⟨29, 1,
(.seq
(.seq
(.region [
m_ 2 0,
o_ 3 (.nilck (.t 2)),
o_ 4 (.fadr 1 (.t 3)),
o_ 5 (.load false 1 (.t 4)),
o_ 6 (.len .sli (.t 5)),
o_ 7 (.bin .gtr (.t 6) (.c (.int .i64 1)))] false)
(.cond (.t 7)
(.regionH [
(m_ 8 0, 0, 0),
(m_ 9 0, 0, 1),
(o_ 10 (.nilck (.t 9)), 0, 2),
(o_ 11 (.fadr 4 (.t 10)), 0, 3),
(o_ 12 (.load false 1 (.t 11)), 1, 4),
(m_ 13 0, 0, 5),
(o_ 14 (.nilck (.t 13)), 0, 6),
(o_ 15 (.fadr 0 (.t 14)), 0, 7),
(o_ 16 (.load false 1 (.t 15)), 1, 8),
(m_ 17 0, 0, 9),
(o_ 18 (.nilck (.t 17)), 0, 10),
(o_ 19 (.fadr 1 (.t 18)), 0, 11),
(o_ 20 (.load false 1 (.t 19)), 1, 12),
(o_ 21 (.build [.int .i64 0, .nils] [(0, 1, .t 16), (1, 1, .t 20)]), 0, 13),
(o_ 22 (.btsl 2 1 [.int .i64 0, .nils] [(0, .t 21)]), 0, 14),
(o_ 23 (.append 2 32 (.t 12) (.t 22)), 2, 15),
(o_ 24 (.nilck (.t 8)), 0, 16),
(o_ 25 (.fadr 4 (.t 24)), 0, 17),
(⟨none, .store 1 (.t 25) (.t 23), none⟩, 2, 18)])
.skip))
(.region [
m_ 26 0,
o_ 27 (.nilck (.t 26)),
o_ 28 (.fadr 1 (.t 27)),
⟨none, .store 1 (.t 28) (.c (.nils)), none⟩] false)),
[]⟩
theorem ok65 : okFunc Go.Proofs.Tryz.prog 65 lf65 = true := by kernel_rfl
def lf66 : LFunc := ⟨11, 1,
(.seq
(.region [
o_ 1 (.boxt 18 (.t 0)),
o_ 2 (.mv (.c (.bool false)))] false)
(.seq
(.region [
o_ 3 (.fadr 0 (.t 1)),
o_ 4 (.load false 1 (.t 3)),
o_ 5 (.bin .leq (.t 4) (.c (.int .i64 4))),
m_ 6 5,
g_ 7 (.fadr 14 (.t 1)) 6 true,
g_ 8 (.load false 1 (.t 7)) 6 true,
g_ 9 (.bin .gtr (.t 8) (.c (.int .i64 0))) 6 true,
o_ 10 (.pick (.t 6) (.t 9) (.c (.bool false))),
m_ 2 10] false)
.ret)),
[.t 2]⟩
theorem ok66 : okFunc Go.Proofs.Tryz.prog 66 lf66 = true := by kernel_rfl
def lf67 : LFunc := ⟨17, 1,
(.seq
(.region [
o_ 1 (.boxt 18 (.t 0)),
o_ 2 (.mv (.c (.bool false)))] false)
(.seq
(.region [
o_ 3 (.fadr 0 (.t 1)),
o_ 4 (.load false 1 (.t 3)),
o_ 5 (.bin .eql (.t 4) (.c (.int .i64 1))),
m_ 6 5,
g_ 7 (.fadr 14 (.t 1)) 6 true,
g_ 8 (.load false 1 (.t 7)) 6 true,
g_ 9 (.bin .eql (.t 8) (.c (.int .i64 0))) 6 true,
o_ 10 (.pick (.t 6) (.t 9) (.c (.bool false))),
m_ 11 10,
g_ 12 (.fadr 6 (.t 1)) 11 true,
g_ 13 (.load true 2 (.t 12)) 11 true,
g_ 14 (.call false (.c (.fn 22 [] [])) [.t 13]) 11 true,
g_ 15 (.bin .gtr (.t 14) (.c (.int .i64 0))) 11 true,
o_ 16 (.pick (.t 11) (.t 15) (.c (.bool false))),
m_ 2 16] false)
.ret)),
[.t 2]⟩
theorem ok67 : okFunc Go.Proofs.Tryz.prog 67 lf67 = true := by kernel_rfl
def lf68 : LFunc := ⟨28, 3,
(.seq
(.region [
o_ 5 (.boxt 2 (.t 2))] false)
(.seq
(.seq
(.region [
o_ 6 (.load true 2 (.t 5)),
m_ 7 0,
o_ 8 (.nilck (.t 7)),
o_ 9 (.fadr 2 (.t 8)),
o_ 10 (.load true 2 (.t 9)),
o_ 11 (.eq true (.ag [.i, .i]) (.t 6) (.t 10))] true)
(.cond (.t 11)
(.region [
m_ 12 0,
o_ 13 (.call false (.c (.fn 65 [] [])) [.t 12])] false)
.skip))
(.regionH [
(m_ 14 0, 0, 0),
(m_ 15 0, 0, 1),
(m_ 16 0, 0, 2),
(o_ 17 (.nilck (.t 16)), 0, 3),
(o_ 18 (.fadr 1 (.t 17)), 0, 4),
(o_ 19 (.load false 1 (.t 18)), 1, 5),
(m_ 20 1, 0, 6),
(o_ 21 (.btsl 1 1 [.int .i64 0] [(0, .t 20)]), 0, 7),
(o_ 23 (.load true 2 (.t 5)), 0, 9),
(o_ 22 (.append 1 8 (.t 19) (.t 21)), 2, 8),
(o_ 24 (.nilck (.t 14)), 0, 10),
(o_ 25 (.fadr 1 (.t 24)), 0, 11),
(⟨none, .store 1 (.t 25) (.t 22), none⟩, 2, 12),
(o_ 26 (.nilck (.t 15)), 0, 13),
(o_ 27 (.fadr 2 (.t 26)), 0, 14),
(⟨none, .store 2 (.t 27) (.t 23), none⟩, 2, 15)]))),
[]⟩
theorem ok68 : okFunc Go.Proofs.Tryz.prog 68 lf68 = true := by kernel_rfl
def lf69 : LFunc := ⟨38, 2,
(.seq
(.region [
o_ 3 (.boxt 18 (.t 1)),
o_ 4 (.newv [.int .i64 0, .int .i64 0])] false)
(.seq
(.region [
m_ 12 0,
o_ 13 (.fadr 2 (.t 3)),
o_ 14 (.load true 2 (.t 13)),
o_ 15 (.call false (.c (.fn 106 [] [])) [.t 12, .t 14]),
m_ 11 15,
o_ 16 (.extract (.t 11) 0),
o_ 17 (.extract (.t 11) 1),
m_ 5 16,
m_ 6 17] false)
(.seq
(.region [
m_ 19 0,
o_ 20 (.fadr 2 (.t 3)),
o_ 21 (.load true 2 (.t 20)),
o_ 22 (.call false (.c (.fn 107 [] [])) [.t 19, .t 21]),
m_ 18 22,
o_ 23 (.extract (.t 18) 0),
o_ 24 (.extract (.t 18) 1),
o_ 7 (.newv [.int .i64 0, .int .i64 0]),
⟨none, .store 2 (.t 7) (.t 23), none⟩,
m_ 8 24] false)
(.seq
(.region [
m_ 26 0,
m_ 27 5,
o_ 28 (.idxa 4 (.t 26) (.t 27)),
o_ 29 (.fadr 2 (.t 28)),
o_ 30 (.load true 2 (.t 29)),
o_ 31 (.load true 2 (.t 7)),
o_ 32 (.call false (.c (.fn 108 [] [])) [.t 30, .t 31]),
m_ 25 32,
o_ 33 (.extract (.t 25) 0),
o_ 34 (.extract (.t 25) 1),
m_ 9 33,
m_ 10 34] true)
(.seq
(.region [
m_ 35 5,
m_ 36 9,
o_ 37 (.build [.int .i64 0, .int .i64 0] [(0, 1, .t 35), (1, 1, .t 36)]),
⟨none, .store 2 (.t 4) (.t 37), none⟩] false)
.ret))))),
[.cell true 2 4]⟩
theorem ok69 : okFunc Go.Proofs.Tryz.prog 69 lf69 = true := by kernel_rfl
def lf70 : LFunc := ⟨45, 2,
(.seq
(.region [
o_ 2 (.boxt 7 (.t 0)),
o_ 3 (.boxt 4 (.t 1)),
o_ 4 (.mv (.c (.bool false)))] false)
(.seq
(.region [
o_ 6 (.fadr 0 (.t 3)),
o_ 7 (.load false 1 (.t 6)),
o_ 8 (.bin .geq (.t 7) (.c (.int .i64 0))),
m_ 9 8,
g_ 10 (.fadr 0 (.t 3)) 9 true,
g_ 11 (.load false 1 (.t 10)) 9 true,
g_ 12 (.fadr 1 (.t 3)) 9 true,
g_ 13 (.load false 1 (.t 12)) 9 true,
g_ 14 (.bin .leq (.t 11) (.t 13)) 9 true,
o_ 15 (.pick (.t 9) (.t 14) (.c (.bool false))),
m_ 16 15,
g_ 17 (.fadr 1 (.t 3)) 16 true,
g_ 18 (.load false 1 (.t 17)) 16 true,
g_ 19 (.fadr 2 (.t 2)) 16 true,
g_ 20 (.load false 1 (.t 19)) 16 true,
g_ 21 (.len .sli (.t 20)) 16 true,
g_ 22 (.bin .lss (.t 18) (.t 21)) 16 true,
o_ 23 (.pick (.t 16) (.t 22) (.c (.bool false))),
m_ 5 23] false)
(.seq
(.region [
m_ 24 5,
m_ 25 24,
g_ 26 (.fadr 2 (.t 3)) 25 true,
g_ 27 (.load false 1 (.t 26)) 25 true,
g_ 28 (.bin .geq (.t 27) (.c (.int .i64 1))) 25 true,
o_ 29 (.pick (.t 25) (.t 28) (.c (.bool false))),
m_ 30 29,
g_ 31 (.fadr 2 (.t 3)) 30 true,
g_ 32 (.load false 1 (.t 31)) 30 true,
g_ 33 (.bin .leq (.t 32) (.c (.int .i64 16))) 30 true,
o_ 34 (.pick (.t 30) (.t 33) (.c (.bool false))),
m_ 35 34,
g_ 36 (.fadr 3 (.t 3)) 35 true,
g_ 37 (.load false 1 (.t 36)) 35 true,
g_ 38 (.bin .geq (.t 37) (.c (.int .i64 1))) 35 true,
o_ 39 (.pick (.t 35) (.t 38) (.c (.bool false))),
m_ 40 39,
g_ 41 (.fadr 3 (.t 3)) 40 true,
g_ 42 (.load false 1 (.t 41)) 40 true,
g_ 43 (.bin .leq (.t 42) (.c (.int .i64 16))) 40 true,
o_ 44 (.pick (.t 40) (.t 43) (.c (.bool false))),
m_ 4 44] false)
.ret))),
[.t 4]⟩
theorem ok70 : okFunc Go.Proofs.Tryz.prog 70 lf70 = true := by kernel_rfl
def lf71 : LFunc := ⟨5, 1,
(.seq
(.region [
o_ 2 (.newv [.int .i64 0, .int .i64 0])] false)
(.seq
(.region [
m_ 3 0,
o_ 4 (.build [.int .i64 0, .int .i64 0] [(0, 1, .t 3), (1, 1, .c (.int .i64 1))]),
⟨none, .store 2 (.t 2) (.t 4), none⟩] false)
.ret)),
[.cell true 2 2]⟩
theorem ok71 : okFunc Go.Proofs.Tryz.prog 71 lf71 = true := by kernel_rfl
def lf72 : LFunc := ⟨91, 2,
(.seq
(.region [
o_ 2 (.boxt 7 (.t 0)),
o_ 4 (.mv (.c (.bool false)))] false)
(.seq
(.region [
o_ 8 (.fadr 2 (.t 2)),
o_ 9 (.load false 1 (.t 8)),
m_ 10 1,
o_ 11 (.idxa 18 (.t 9) (.t 10)),
o_ 12 (.load true 18 (.t 11)),
o_ 5 (.newv [.int .i64 0, .int .i64 0, .int .i64 0, .int .i64 0, .int .i64 0, .int .i64 0, .int .i64 0, .int .i64 0, .nils, .bool false, .int .i64 0, .int .i64 0, .str ⟨#[]⟩, .nils, .int .i64 0, .int .i64 0, .int .i64 0, .int .i64 0]),
⟨none, .store 18 (.t 5) (.t 12), none⟩] false)
(.seq
(.region [
o_ 13 (.load true 18 (.t 5)),
o_ 14 (.call false (.c (.fn 109 [] [])) [.t 13]),
m_ 15 14,
g_ 16 (.fadr 0 (.t 5)) 15 true,
g_ 17 (.load false 1 (.t 16)) 15 true,
g_ 18 (.bin .neq (.t 17) (.c (.int .i64 2))) 15 true,
o_ 19 (.pick (.t 15) (.t 18) (.c (.bool false))),
m_ 20 19,
g_ 21 (.fadr 0 (.t 5)) 20 false,
g_ 22 (.load false 1 (.t 21)) 20 false,
g_ 23 (.bin .geq (.t 22) (.c (.int .i64 9))) 20 false,
g_ 24 (.mv (.t 23)) 20 false,
g_ 25 (.fadr 0 (.t 5)) 24 true,
g_ 26 (.load false 1 (.t 25)) 24 true,
g_ 27 (.bin .leq (.t 26) (.c (.int .i64 12))) 24 true,
g_ 28 (.pick (.t 24) (.t 27) (.c (.bool false))) 20 false,
o_ 29 (.pick (.t 20) (.c (.bool true)) (.t 28)),
m_ 6 29] false)
(.seq
(.seq
(.region [
m_ 30 6,
o_ 31 (.not (.t 30)),
m_ 32 31,
g_ 33 (.fadr 2 (.t 5)) 32 false,
g_ 34 (.load true 2 (.t 33)) 32 false,
g_ 35 (.call false (.c (.fn 110 [] [])) [.t 34]) 32 false,
g_ 36 (.not (.t 35)) 32 false,
o_ 37 (.pick (.t 32) (.c (.bool true)) (.t 36)),
m_ 38 37,
g_ 39 (.fadr 4 (.t 5)) 38 false,
g_ 40 (.load true 2 (.t 39)) 38 false,
g_ 41 (.call false (.c (.fn 110 [] [])) [.t 40]) 38 false,
g_ 42 (.not (.t 41)) 38 false,
o_ 43 (.pick (.t 38) (.c (.bool true)) (.t 42)),
m_ 44 43,
g_ 45 (.fadr 14 (.t 5)) 44 false,
g_ 46 (.load false 1 (.t 45)) 44 false,
g_ 47 (.bin .lss (.t 46) (.c (.int .i64 0))) 44 false,
o_ 48 (.pick (.t 44) (.c (.bool true)) (.t 47)),
m_ 49 48,
g_ 50 (.fadr 13 (.t 5)) 49 false,
g_ 51 (.load false 1 (.t 50)) 49 false,
g_ 52 (.load true 7 (.t 2)) 49 false,
g_ 53 (.mv (.t 1)) 49 false,
g_ 54 (.call false (.c (.fn 112 [] [])) [.t 52, .t 53]) 49 false,
g_ 55 (.call false (.c (.fn 111 [] [])) [.t 51, .t 54]) 49 false,
g_ 56 (.not (.t 55)) 49 false,
o_ 57 (.pick (.t 49) (.c (.bool true)) (.t 56))] true)
(.cond (.t 57)
(.seq
(.region [
o_ 4 (.mv (.c (.bool false)))] false)
.ret)
.skip))
(.seq
(.region [
o_ 58 (.fadr 0 (.t 5)),
o_ 59 (.load false 1 (.t 58)),
o_ 60 (.bin .eql (.t 59) (.c (.int .i64 1))),
m_ 7 60] false)
(.seq
(.seq
(.region [
m_ 61 7,
o_ 62 (.fadr 8 (.t 5)),
o_ 63 (.load false 1 (.t 62)),
o_ 64 (.len .sli (.t 63)),
o_ 65 (.bin .gtr (.t 64) (.c (.int .i64 0))),
o_ 66 (.eq true (.sc .b) (.t 61) (.t 65)),
m_ 67 66,
g_ 68 (.fadr 8 (.t 5)) 67 false,
g_ 69 (.load false 1 (.t 68)) 67 false,
g_ 70 (.call false (.c (.fn 113 [] [])) [.t 69]) 67 false,
g_ 71 (.not (.t 70)) 67 false,
o_ 72 (.pick (.t 67) (.c (.bool true)) (.t 71)),
m_ 73 72,
g_ 74 (.mv (.t 7)) 73 false,
g_ 75 (.not (.t 74)) 73 false,
g_ 76 (.mv (.t 75)) 73 false,
g_ 77 (.fadr 9 (.t 5)) 76 true,
g_ 78 (.load true 4 (.t 77)) 76 true,
g_ 79 (.build [.bool false, .int .i64 0, .int .i64 0, .str ⟨#[]⟩] []) 76 true,
g_ 80 (.eq true (.ag [.b, .i, .i, .s]) (.t 78) (.t 79)) 76 true,
g_ 81 (.pick (.t 76) (.t 80) (.c (.bool false))) 73 false,
o_ 82 (.pick (.t 73) (.c (.bool true)) (.t 81))] false)
(.cond (.t 82)
(.seq
(.region [
o_ 4 (.mv (.c (.bool false)))] false)
.ret)
.skip))
(.seq
(.region [
o_ 83 (.load true 7 (.t 2)),
o_ 84 (.load true 18 (.t 5)),
o_ 85 (.call false (.c (.fn 114 [] [])) [.t 83, .t 84]),
m_ 86 85,
g_ 87 (.load true 7 (.t 2)) 86 true,
g_ 88 (.load true 18 (.t 5)) 86 true,
g_ 89 (.call false (.c (.fn 115 [] [])) [.t 87, .t 88]) 86 true,
o_ 90 (.pick (.t 86) (.t 89) (.c (.bool false))),
m_ 4 90] false)
.ret))))))),
[.t 4]⟩
theorem ok72 : okFunc Go.Proofs.Tryz.prog 72 lf72 = true := by kernel_rfl
def lf73 : LFunc := ⟨39, 2,
(.seq
(.region [
o_ 4 (.mv (.c (.bool false)))] false)
(.seq
(.seq
(.region [
m_ 6 0,
m_ 7 1,
o_ 8 (.idxa 18 (.t 6) (.t 7)),
o_ 9 (.fadr 9 (.t 8)),
o_ 10 (.fadr 0 (.t 9)),
o_ 11 (.load false 1 (.t 10)),
o_ 12 (.not (.t 11))] false)
(.cond (.t 12)
(.seq
(.region [
o_ 4 (.mv (.c (.bool true)))] false)
.ret)
.skip))
(.seq
(.region [
m_ 13 0,
m_ 14 1,
o_ 15 (.call false (.c (.fn 116 [] [])) [.t 13, .t 14]),
m_ 5 15] false)
(.seq
(.region [
m_ 16 5,
o_ 17 (.bin .geq (.t 16) (.c (.int .i64 0))),
m_ 18 17,
g_ 19 (.mv (.t 0)) 18 true,
g_ 20 (.mv (.t 5)) 18 true,
g_ 21 (.idxa 18 (.t 19) (.t 20)) 18 true,
g_ 22 (.fadr 0 (.t 21)) 18 true,
g_ 23 (.load false 1 (.t 22)) 18 true,
g_ 24 (.bin .eql (.t 23) (.c (.int .i64 1))) 18 true,
o_ 25 (.pick (.t 18) (.t 24) (.c (.bool false))),
m_ 26 25,
g_ 27 (.mv (.t 0)) 26 true,
g_ 28 (.mv (.t 5)) 26 true,
g_ 29 (.idxa 18 (.t 27) (.t 28)) 26 true,
g_ 30 (.fadr 8 (.t 29)) 26 true,
g_ 31 (.load false 1 (.t 30)) 26 true,
g_ 32 (.mv (.t 0)) 26 true,
g_ 33 (.mv (.t 1)) 26 true,
g_ 34 (.idxa 18 (.t 32) (.t 33)) 26 true,
g_ 35 (.fadr 8 (.t 34)) 26 true,
g_ 36 (.load false 1 (.t 35)) 26 true,
g_ 37 (.call false (.c (.fn 117 [] [])) [.t 31, .t 36]) 26 true,
o_ 38 (.pick (.t 26) (.t 37) (.c (.bool false))),
m_ 4 38] true)
.ret)))),
[.t 4]⟩
theorem ok73 : okFunc Go.Proofs.Tryz.prog 73 lf73 = true := by kernel_rfl
def lf74 : LFunc := ⟨42, 2,
(.seq
(.region [
o_ 2 (.boxt 2 (.t 0)),
o_ 3 (.boxt 2 (.t 1)),
o_ 4 (.newv [.int .i64 0, .int .i64 0]),
o_ 5 (.mv (.c (.int .i64 0)))] false)
(.seq
(.seq
(.region [
o_ 7 (.load true 2 (.t 2)),
o_ 8 (.load true 2 (.t 3)),
o_ 9 (.call false (.c (.fn 100 [] [])) [.t 7, .t 8]),
o_ 10 (.not (.t 9))] false)
(.cond (.t 10)
(.seq
(.region [
o_ 11 (.call false (.c (.fn 118 [] [])) []),
⟨none, .store 2 (.t 4) (.t 11), none⟩,
o_ 5 (.mv (.c (.int .i64 2)))] false)
.ret)
.skip))
(.seq
(.region [
o_ 12 (.fadr 1 (.t 2)),
o_ 13 (.load false 1 (.t 12)),
o_ 14 (.fadr 1 (.t 3)),
o_ 15 (.load false 1 (.t 14)),
o_ 16 (.call false (.c (.fn 119 [] [])) [.t 13, .t 15]),
m_ 6 16] false)
(.seq
(.region [
o_ 17 (.fadr 0 (.t 2)),
o_ 18 (.load false 1 (.t 17)),
o_ 19 (.fadr 1 (.t 3)),
o_ 20 (.load false 1 (.t 19)),
m_ 21 6,
o_ 22 (.bin .quo (.t 20) (.t 21)),
o_ 23 (.bin .mul (.t 18) (.t 22)),
o_ 24 (.fadr 0 (.t 3)),
o_ 25 (.load false 1 (.t 24)),
o_ 26 (.fadr 1 (.t 2)),
o_ 27 (.load false 1 (.t 26)),
m_ 28 6,
o_ 29 (.bin .quo (.t 27) (.t 28)),
o_ 30 (.bin .mul (.t 25) (.t 29)),
o_ 31 (.bin .add (.t 23) (.t 30)),
o_ 32 (.fadr 1 (.t 2)),
o_ 33 (.load false 1 (.t 32)),
m_ 34 6,
o_ 35 (.bin .quo (.t 33) (.t 34)),
o_ 36 (.fadr 1 (.t 3)),
o_ 37 (.load false 1 (.t 36)),
o_ 38 (.bin .mul (.t 35) (.t 37)),
o_ 39 (.call false (.c (.fn 120 [] [])) [.t 31, .t 38]),
o_ 40 (.extract (.t 39) 0),
o_ 41 (.extract (.t 39) 1),
⟨none, .store 2 (.t 4) (.t 40), none⟩,
m_ 5 41] true)
.ret)))),
[.cell true 2 4, .t 5]⟩
theorem ok74 : okFunc Go.Proofs.Tryz.prog 74 lf74 = true := by kernel_rfl
def lf75 : LFunc := ⟨88, 1,
(.seq
(.region [
o_ 2 (.mv (.c (.int .i64 0)))] false)
(.seq
(.region [
o_ 3 (.mv (.c (.int .i64 (-1))))] false)
(.seq
(.region [
o_ 14 (.mkmap),
m_ 4 14] false)
(.seq
(.seq
(.region [
m_ 15 0,
o_ 16 (.len .sli (.t 15)),
o_ 17 (.mv (.c (.int .i64 0)))] false)
(.block 0
(.loop
(.seq
(.region [
o_ 18 (.bin .lss (.t 17) (.t 16))] false)
(.seq
(.cond (.t 18)
.skip
(.exit 0))
(.seq
(.block 1
(.seq
(.region [
m_ 19 17,
o_ 20 (.idxa 18 (.t 15) (.t 17)),
o_ 21 (.load true 18 (.t 20)),
o_ 6 (.newv [.int .i64 0, .int .i64 0, .int .i64 0, .int .i64 0, .int .i64 0, .int .i64 0, .int .i64 0, .int .i64 0, .nils, .bool false, .int .i64 0, .int .i64 0, .str ⟨#[]⟩, .nils, .int .i64 0, .int .i64 0, .int .i64 0, .int .i64 0]),
m_ 5 19,
⟨none, .store 18 (.t 6) (.t 21), none⟩] false)
(.seq
(.seq
(.region [
o_ 22 (.load true 18 (.t 6)),
o_ 23 (.call false (.c (.fn 109 [] [])) [.t 22]),
o_ 24 (.not (.t 23)),
m_ 25 24,
g_ 26 (.fadr 14 (.t 6)) 25 false,
g_ 27 (.load false 1 (.t 26)) 25 false,
g_ 28 (.bin .gtr (.t 27) (.c (.int .i64 0))) 25 false,
o_ 29 (.pick (.t 25) (.c (.bool true)) (.t 28))] false)
(.cond (.t 29)
(.exit 1)
.skip))
(.seq
(.region [
o_ 30 (.mkmap),
m_ 7 30] false)
(.seq
(.seq
(.region [
o_ 31 (.fadr 8 (.t 6)),
o_ 32 (.load false 1 (.t 31)),
o_ 33 (.len .sli (.t 32)),
o_ 34 (.mv (.c (.int .i64 0)))] false)
(.block 2
(.loop
(.seq
(.region [
o_ 35 (.bin .lss (.t 34) (.t 33))] false)
(.seq
(.cond (.t 35)
.skip
(.exit 2))
(.seq
(.block 3
(.seq
(.region [
o_ 36 (.idxa 3 (.t 32) (.t 34)),
o_ 37 (.load true 3 (.t 36)),
o_ 9 (.newv [.int .i64 0, .int .i64 0, .int .i64 0]),
⟨none, .store 3 (.t 9) (.t 37), none⟩] false)
(.seq
(.region [
m_ 39 4,
o_ 40 (.load true 3 (.t 9)),
o_ 41 (.lookup true (.ag [.i, .i, .i]) (.agg [.int .i64 0, .int .i64 0, .int .i64 0]) (.t 39) (.t 40)),
m_ 38 41,
o_ 42 (.extract (.t 38) 0),
o_ 43 (.extract (.t 38) 1),
o_ 10 (.newv [.int .i64 0, .int .i64 0, .int .i64 0]),
⟨none, .store 3 (.t 10) (.t 42), none⟩,
m_ 11 43] false)
(.seq
(.seq
(.region [
m_ 44 11,
o_ 45 (.not (.t 44))] false)
(.cond (.t 45)
(.region [
m_ 46 5,
o_ 47 (.call false (.c (.fn 71 [] [])) [.c (.int .i64 0)]),
o_ 48 (.build [.int .i64 0, .int .i64 0, .int .i64 0] [(0, 1, .t 46), (1, 2, .t 47)]),
⟨none, .store 3 (.t 10) (.t 48), none⟩] false)
.skip))
(.seq
(.region [
o_ 50 (.fadr 1 (.t 10)),
o_ 51 (.load true 2 (.t 50)),
o_ 52 (.fadr 4 (.t 6)),
o_ 53 (.load true 2 (.t 52)),
o_ 54 (.call false (.c (.fn 74 [] [])) [.t 51, .t 53]),
m_ 49 54,
o_ 55 (.extract (.t 49) 0),
o_ 56 (.extract (.t 49) 1),
o_ 12 (.newv [.int .i64 0, .int .i64 0]),
⟨none, .store 2 (.t 12) (.t 55), none⟩,
m_ 13 56] false)
(.seq
(.seq
(.region [
m_ 57 13,
o_ 58 (.bin .neq (.t 57) (.c (.int .i64 0))),
m_ 59 58,
g_ 60 (.mv (.t 3)) 59 true,
g_ 61 (.bin .lss (.t 60) (.c (.int .i64 0))) 59 true,
g_ 62 (.mv (.t 61)) 59 true,
g_ 63 (.fadr 0 (.t 10)) 62 false,
g_ 64 (.load false 1 (.t 63)) 62 false,
g_ 65 (.mv (.t 3)) 62 false,
g_ 66 (.bin .lss (.t 64) (.t 65)) 62 false,
g_ 67 (.pick (.t 62) (.c (.bool true)) (.t 66)) 59 true,
o_ 68 (.pick (.t 59) (.t 67) (.c (.bool false)))] false)
(.cond (.t 68)
(.region [
o_ 69 (.fadr 0 (.t 10)),
o_ 70 (.load false 1 (.t 69)),
m_ 3 70] false)
.skip))
(.seq
(.region [
m_ 71 13,
o_ 72 (.bin .eql (.t 71) (.c (.int .i64 0))),
m_ 73 72,
g_ 74 (.fadr 9 (.t 6)) 73 true,
g_ 75 (.fadr 0 (.t 74)) 73 true,
g_ 76 (.load false 1 (.t 75)) 73 true,
o_ 77 (.pick (.t 73) (.t 76) (.c (.bool false)))] false)
(.cond (.t 77)
(.region [
m_ 78 7,
o_ 79 (.load true 3 (.t 9)),
o_ 80 (.fadr 0 (.t 10)),
o_ 81 (.load false 1 (.t 80)),
o_ 82 (.load true 2 (.t 12)),
o_ 83 (.build [.int .i64 0, .int .i64 0, .int .i64 0] [(0, 1, .t 81), (1, 2, .t 82)]),
⟨none, .mapupd (.ag [.i, .i, .i]) (.t 78) (.t 79) (.t 83), none⟩] false)
.skip))))))))
(.region [
o_ 84 (.bin .add (.t 34) (.c (.int .i64 1))),
m_ 34 84] false)))))))
(.region [
m_ 85 7,
m_ 4 85] false))))))
(.region [
o_ 86 (.bin .add (.t 17) (.c (.int .i64 1))),
m_ 17 86] false)))))))
(.seq
(.region [
m_ 87 3,
m_ 2 87] false)
.ret))))),
[.t 2]⟩
theorem ok75 : okFunc Go.Proofs.Tryz.prog 75 lf75 = true := by kernel_rfl
def lf76 : LFunc := ⟨145, 2,
(.seq
(.region [
o_ 2 (.boxt 7 (.t 0)),
o_ 4 (.mv (.c (.bool false)))] false)
(.seq
(.region [
o_ 8 (.fadr 2 (.t 2)),
o_ 9 (.load false 1 (.t 8)),
m_ 10 1,
o_ 11 (.idxa 18 (.t 9) (.t 10)),
o_ 12 (.load true 18 (.t 11)),
o_ 5 (.newv [.int .i64 0, .int .i64 0, .int .i64 0, .int .i64 0, .int .i64 0, .int .i64 0, .int .i64 0, .int .i64 0, .nils, .bool false, .int .i64 0, .int .i64 0, .str ⟨#[]⟩, .nils, .int .i64 0, .int .i64 0, .int .i64 0, .int .i64 0]),
⟨none, .store 18 (.t 5) (.t 12), none⟩] false)
(.seq
(.seq
(.region [
o_ 13 (.fadr 0 (.t 5)),
o_ 14 (.load false 1 (.t 13)),
o_ 15 (.bin .lss (.t 14) (.c (.int .i64 1))),
m_ 16 15,
g_ 17 (.fadr 0 (.t 5)) 16 false,
g_ 18 (.load false 1 (.t 17)) 16 false,
g_ 19 (.bin .gtr (.t 18) (.c (.int .i64 12))) 16 false,
o_ 20 (.pick (.t 16) (.c (.bool true)) (.t 19)),
m_ 21 20,
g_ 22 (.fadr 2 (.t 5)) 21 false,
g_ 23 (.load true 2 (.t 22)) 21 false,
g_ 24 (.call false (.c (.fn 121 [] [])) [.t 23]) 21 false,
g_ 25 (.not (.t 24)) 21 false,
o_ 26 (.pick (.t 21) (.c (.bool true)) (.t 25)),
m_ 27 26,
g_ 28 (.fadr 4 (.t 5)) 27 false,
g_ 29 (.load true 2 (.t 28)) 27 false,
g_ 30 (.call false (.c (.fn 121 [] [])) [.t 29]) 27 false,
g_ 31 (.not (.t 30)) 27 false,
o_ 32 (.pick (.t 27) (.c (.bool true)) (.t 31)),
m_ 33 32,
g_ 34 (.fadr 4 (.t 5)) 33 false,
g_ 35 (.fadr 0 (.t 34)) 33 false,
g_ 36 (.load false 1 (.t 35)) 33 false,
g_ 37 (.bin .lss (.t 36) (.c (.int .i64 0))) 33 false,
o_ 38 (.pick (.t 33) (.c (.bool true)) (.t 37)),
m_ 39 38,
g_ 40 (.fadr 14 (.t 5)) 39 false,
g_ 41 (.load false 1 (.t 40)) 39 false,
g_ 42 (.bin .lss (.t 41) (.c (.int .i64 0))) 39 false,
o_ 43 (.pick (.t 39) (.c (.bool true)) (.t 42)),
m_ 44 43,
g_ 45 (.fadr 8 (.t 5)) 44 false,
g_ 46 (.load false 1 (.t 45)) 44 false,
g_ 47 (.call false (.c (.fn 122 [] [])) [.t 46]) 44 false,
g_ 48 (.not (.t 47)) 44 false,
o_ 49 (.pick (.t 44) (.c (.bool true)) (.t 48)),
m_ 50 49,
g_ 51 (.load true 7 (.t 2)) 50 false,
g_ 52 (.mv (.t 1)) 50 false,
g_ 53 (.call false (.c (.fn 123 [] [])) [.t 51, .t 52]) 50 false,
g_ 54 (.not (.t 53)) 50 false,
o_ 55 (.pick (.t 50) (.c (.bool true)) (.t 54))] false)
(.cond (.t 55)
(.seq
(.region [
o_ 4 (.mv (.c (.bool false)))] false)
.ret)
.skip))
(.seq
(.seq
(.region [
o_ 56 (.fadr 0 (.t 5)),
o_ 57 (.load false 1 (.t 56)),
o_ 58 (.bin .eql (.t 57) (.c (.int .i64 1))),
o_ 59 (.fadr 8 (.t 5)),
o_ 60 (.load false 1 (.t 59)),
o_ 61 (.len .sli (.t 60)),
o_ 62 (.bin .gtr (.t 61) (.c (.int .i64 0))),
o_ 63 (.eq true (.sc .b) (.t 58) (.t 62))] false)
(.cond (.t 63)
(.seq
(.region [
o_ 4 (.mv (.c (.bool false)))] false)
.ret)
.skip))
(.seq
(.seq
(.region [
o_ 64 (.fadr 0 (.t 5)),
o_ 65 (.load false 1 (.t 64)),
o_ 66 (.bin .neq (.t 65) (.c (.int .i64 1))),
m_ 67 66,
g_ 68 (.fadr 9 (.t 5)) 67 true,
g_ 69 (.load true 4 (.t 68)) 67 true,
g_ 70 (.build [.bool false, .int .i64 0, .int .i64 0, .str ⟨#[]⟩] []) 67 true,
g_ 71 (.eq true (.ag [.b, .i, .i, .s]) (.t 69) (.t 70)) 67 true,
o_ 72 (.pick (.t 67) (.t 71) (.c (.bool false)))] false)
(.cond (.t 72)
(.seq
(.region [
o_ 4 (.mv (.c (.bool false)))] false)
.ret)
.skip))
(.seq
(.seq
(.region [
o_ 73 (.load true 18 (.t 5)),
o_ 74 (.call false (.c (.fn 124 [] [])) [.t 73]),
o_ 75 (.not (.t 74))] false)
(.cond (.t 75)
(.seq
(.region [
o_ 76 (.fadr 0 (.t 5)),
o_ 77 (.load false 1 (.t 76)),
o_ 78 (.bin .geq (.t 77) (.c (.int .i64 9))),
m_ 79 78,
g_ 80 (.fadr 4 (.t 5)) 79 true,
g_ 81 (.fadr 0 (.t 80)) 79 true,
g_ 82 (.load false 1 (.t 81)) 79 true,
g_ 83 (.bin .eql (.t 82) (.c (.int .i64 0))) 79 true,
o_ 84 (.pick (.t 79) (.t 83) (.c (.bool false))),
m_ 85 84,
g_ 86 (.fadr 14 (.t 5)) 85 true,
g_ 87 (.load false 1 (.t 86)) 85 true,
g_ 88 (.bin .eql (.t 87) (.c (.int .i64 0))) 85 true,
o_ 89 (.pick (.t 85) (.t 88) (.c (.bool false))),
m_ 90 89,
g_ 91 (.fadr 6 (.t 5)) 90 true,
g_ 92 (.load true 2 (.t 91)) 90 true,
g_ 93 (.build [.int .i64 0, .int .i64 0] []) 90 true,
g_ 94 (.eq false (.ag [.i, .i]) (.t 92) (.t 93)) 90 true,
o_ 95 (.pick (.t 90) (.t 94) (.c (.bool false))),
m_ 96 95,
g_ 97 (.load true 7 (.t 2)) 96 true,
g_ 98 (.load true 18 (.t 5)) 96 true,
g_ 99 (.call false (.c (.fn 125 [] [])) [.t 97, .t 98]) 96 true,
o_ 100 (.pick (.t 96) (.t 99) (.c (.bool false))),
m_ 4 100] false)
.ret)
.skip))
(.seq
(.seq
(.region [
o_ 101 (.fadr 15 (.t 5)),
o_ 102 (.load false 1 (.t 101)),
o_ 103 (.bin .neq (.t 102) (.c (.int .i64 0))),
m_ 104 103,
g_ 105 (.fadr 16 (.t 5)) 104 false,
g_ 106 (.load false 1 (.t 105)) 104 false,
g_ 107 (.bin .neq (.t 106) (.c (.int .i64 0))) 104 false,
o_ 108 (.pick (.t 104) (.c (.bool true)) (.t 107)),
m_ 109 108,
g_ 110 (.fadr 17 (.t 5)) 109 false,
g_ 111 (.load false 1 (.t 110)) 109 false,
g_ 112 (.bin .neq (.t 111) (.c (.int .i64 0))) 109 false,
o_ 113 (.pick (.t 109) (.c (.bool true)) (.t 112)),
m_ 114 113,
g_ 115 (.fadr 6 (.t 5)) 114 false,
g_ 116 (.load true 2 (.t 115)) 114 false,
g_ 117 (.call false (.c (.fn 45 [] [])) [.t 116]) 114 false,
g_ 118 (.not (.t 117)) 114 false,
o_ 119 (.pick (.t 114) (.c (.bool true)) (.t 118))] false)
(.cond (.t 119)
(.seq
(.region [
o_ 4 (.mv (.c (.bool false)))] false)
.ret)
.skip))
(.seq
(.seq
(.region [
o_ 120 (.fadr 14 (.t 5)),
o_ 121 (.load false 1 (.t 120)),
o_ 122 (.bin .gtr (.t 121) (.c (.int .i64 0)))] false)
(.cond (.t 122)
(.seq
(.region [
o_ 123 (.fadr 4 (.t 5)),
o_ 124 (.fadr 0 (.t 123)),
o_ 125 (.load false 1 (.t 124)),
o_ 126 (.bin .eql (.t 125) (.c (.int .i64 0))),
m_ 127 126,
g_ 128 (.fadr 0 (.t 5)) 127 true,
g_ 129 (.load false 1 (.t 128)) 127 true,
g_ 130 (.bin .neq (.t 129) (.c (.int .i64 4))) 127 true,
o_ 131 (.pick (.t 127) (.t 130) (.c (.bool false))),
m_ 4 131] false)
.ret)
.skip))
(.seq
(.region [
o_ 133 (.load true 7 (.t 2)),
o_ 134 (.load true 18 (.t 5)),
o_ 135 (.call false (.c (.fn 126 [] [])) [.t 133, .t 134]),
m_ 132 135,
o_ 136 (.extract (.t 132) 0),
o_ 137 (.extract (.t 132) 1),
o_ 6 (.newv [.int .i64 0, .int .i64 0]),
⟨none, .store 2 (.t 6) (.t 136), none⟩,
m_ 7 137] false)
(.seq
(.region [
m_ 138 7,
m_ 139 138,
g_ 140 (.load true 2 (.t 6)) 139 true,
g_ 141 (.fadr 4 (.t 5)) 139 true,
g_ 142 (.load true 2 (.t 141)) 139 true,
g_ 143 (.eq false (.ag [.i, .i]) (.t 140) (.t 142)) 139 true,
o_ 144 (.pick (.t 139) (.t 143) (.c (.bool false))),
m_ 4 144] false)
.ret)))))))))),
[.t 4]⟩
theorem ok76 : okFunc Go.Proofs.Tryz.prog 76 lf76 = true := by kernel_rfl
def lf77 : LFunc := ⟨48, 2,
(.seq
(.region [
o_ 2 (.boxt 2 (.t 0)),
o_ 3 (.boxt 2 (.t 1)),
o_ 4 (.newv [.int .i64 0, .int .i64 0]),
o_ 5 (.mv (.c (.int .i64 0)))] false)
(.seq
(.seq
(.region [
o_ 8 (.load true 2 (.t 2)),
o_ 9 (.call false (.c (.fn 121 [] [])) [.t 8]),
o_ 10 (.not (.t 9)),
m_ 11 10,
g_ 12 (.load true 2 (.t 3)) 11 false,
g_ 13 (.call false (.c (.fn 121 [] [])) [.t 12]) 11 false,
g_ 14 (.not (.t 13)) 11 false,
o_ 15 (.pick (.t 11) (.c (.bool true)) (.t 14))] false)
(.cond (.t 15)
(.seq
(.region [
o_ 16 (.build [.int .i64 0, .int .i64 0] []),
⟨none, .store 2 (.t 4) (.t 16), none⟩,
o_ 5 (.mv (.c (.int .i64 2)))] false)
.ret)
.skip))
(.seq
(.region [
o_ 17 (.fadr 1 (.t 2)),
o_ 18 (.load false 1 (.t 17)),
o_ 19 (.fadr 1 (.t 3)),
o_ 20 (.load false 1 (.t 19)),
o_ 21 (.call false (.c (.fn 127 [] [])) [.t 18, .t 20]),
m_ 6 21] false)
(.seq
(.region [
o_ 22 (.fadr 0 (.t 2)),
o_ 23 (.load false 1 (.t 22)),
o_ 24 (.fadr 1 (.t 3)),
o_ 25 (.load false 1 (.t 24)),
m_ 26 6,
o_ 27 (.bin .quo (.t 25) (.t 26)),
o_ 28 (.bin .mul (.t 23) (.t 27)),
o_ 29 (.fadr 0 (.t 3)),
o_ 30 (.load false 1 (.t 29)),
o_ 31 (.fadr 1 (.t 2)),
o_ 32 (.load false 1 (.t 31)),
m_ 33 6,
o_ 34 (.bin .quo (.t 32) (.t 33)),
o_ 35 (.bin .mul (.t 30) (.t 34)),
o_ 36 (.bin .add (.t 28) (.t 35)),
m_ 7 36] true)
(.seq
(.region [
m_ 37 7,
o_ 38 (.fadr 1 (.t 2)),
o_ 39 (.load false 1 (.t 38)),
m_ 40 6,
o_ 41 (.bin .quo (.t 39) (.t 40)),
o_ 42 (.fadr 1 (.t 3)),
o_ 43 (.load false 1 (.t 42)),
o_ 44 (.bin .mul (.t 41) (.t 43)),
o_ 45 (.call false (.c (.fn 128 [] [])) [.t 37, .t 44]),
o_ 46 (.extract (.t 45) 0),
o_ 47 (.extract (.t 45) 1),
⟨none, .store 2 (.t 4) (.t 46), none⟩,
m_ 5 47] true)
.ret))))),
[.cell true 2 4, .t 5]⟩
theorem ok77 : okFunc Go.Proofs.Tryz.prog 77 lf77 = true := by kernel_rfl
def lf78 : LFunc := ⟨44, 1,
(.seq
(.region [
o_ 2 (.mv (.c (.bool false)))] false)
(.seq
(.seq
(.region [
o_ 3 (.mv (.c (.int .i64 0)))] false)
(.block 0
(.loop
(.seq
(.seq
(.region [
m_ 5 3,
m_ 6 0,
o_ 7 (.len .sli (.t 6)),
o_ 8 (.bin .lss (.t 5) (.t 7))] false)
(.cond (.t 8)
.skip
(.exit 0)))
(.seq
(.block 1
(.seq
(.region [
m_ 11 0,
m_ 12 3,
o_ 13 (.idxa 18 (.t 11) (.t 12)),
o_ 14 (.fadr 9 (.t 13)),
o_ 15 (.fadr 0 (.t 14)),
o_ 16 (.load false 1 (.t 15))] false)
(.cond (.t 16)
(.seq
(.region [
m_ 17 0,
m_ 18 3,
o_ 19 (.call false (.c (.fn 97 [] [])) [.t 17, .t 18]),
m_ 4 19] false)
(.seq
(.region [
m_ 20 4,
o_ 21 (.bin .lss (.t 20) (.c (.int .i64 0))),
m_ 22 21,
g_ 23 (.mv (.t 0)) 22 false,
g_ 24 (.mv (.t 4)) 22 false,
g_ 25 (.idxa 18 (.t 23) (.t 24)) 22 false,
g_ 26 (.fadr 0 (.t 25)) 22 false,
g_ 27 (.load false 1 (.t 26)) 22 false,
g_ 28 (.bin .neq (.t 27) (.c (.int .i64 1))) 22 false,
o_ 29 (.pick (.t 22) (.c (.bool true)) (.t 28)),
m_ 30 29,
g_ 31 (.mv (.t 0)) 30 false,
g_ 32 (.mv (.t 4)) 30 false,
g_ 33 (.idxa 18 (.t 31) (.t 32)) 30 false,
g_ 34 (.fadr 8 (.t 33)) 30 false,
g_ 35 (.load false 1 (.t 34)) 30 false,
g_ 36 (.mv (.t 0)) 30 false,
g_ 37 (.mv (.t 3)) 30 false,
g_ 38 (.idxa 18 (.t 36) (.t 37)) 30 false,
g_ 39 (.fadr 8 (.t 38)) 30 false,
g_ 40 (.load false 1 (.t 39)) 30 false,
g_ 41 (.call false (.c (.fn 98 [] [])) [.t 35, .t 40]) 30 false,
g_ 42 (.not (.t 41)) 30 false,
o_ 43 (.pick (.t 30) (.c (.bool true)) (.t 42))] true)
(.cond (.t 43)
(.seq
(.region [
o_ 2 (.mv (.c (.bool false)))] false)
.ret)
.skip)))
.skip)))
(.region [
m_ 9 3,
o_ 10 (.bin .add (.t 9) (.c (.int .i64 1))),
m_ 3 10] false))))))
(.seq
(.region [
o_ 2 (.mv (.c (.bool true)))] false)
.ret))),
[.t 2]⟩
theorem ok78 : okFunc Go.Proofs.Tryz.prog 78 lf78 = true := by kernel_rfl
def lf79 : LFunc := ⟨89, 1,
(.seq
(.region [
o_ 2 (.mv (.c (.int .i64 0)))] false)
(.seq
(.seq
(.region [
o_ 3 (.mv (.c (.int .i64 0)))] false)
(.block 0
(.loop
(.seq
(.seq
(.region [
m_ 10 3,
m_ 11 0,
o_ 12 (.len .sli (.t 11)),
o_ 13 (.bin .lss (.t 10) (.t 12))] false)
(.cond (.t 13)
.skip
(.exit 0)))
(.seq
(.block 1
(.seq
(.region [
o_ 4 (.mv (.c (.bool false)))] false)
(.seq
(.seq
(.region [
o_ 5 (.mv (.c (.int .i64 0)))] false)
(.block 2
(.loop
(.seq
(.seq
(.region [
m_ 16 5,
m_ 17 0,
m_ 18 3,
o_ 19 (.idxa 18 (.t 17) (.t 18)),
o_ 20 (.fadr 8 (.t 19)),
o_ 21 (.load false 1 (.t 20)),
o_ 22 (.len .sli (.t 21)),
o_ 23 (.bin .lss (.t 16) (.t 22)),
m_ 24 23,
g_ 25 (.mv (.t 0)) 24 true,
g_ 26 (.mv (.t 3)) 24 true,
g_ 27 (.idxa 18 (.t 25) (.t 26)) 24 true,
g_ 28 (.fadr 9 (.t 27)) 24 true,
g_ 29 (.fadr 0 (.t 28)) 24 true,
g_ 30 (.load false 1 (.t 29)) 24 true,
o_ 31 (.pick (.t 24) (.t 30) (.c (.bool false))),
m_ 32 31,
g_ 33 (.mv (.t 0)) 32 true,
g_ 34 (.mv (.t 3)) 32 true,
g_ 35 (.idxa 18 (.t 33) (.t 34)) 32 true,
g_ 36 (.fadr 14 (.t 35)) 32 true,
g_ 37 (.load false 1 (.t 36)) 32 true,
g_ 38 (.bin .eql (.t 37) (.c (.int .i64 0))) 32 true,
o_ 39 (.pick (.t 32) (.t 38) (.c (.bool false)))] false)
(.cond (.t 39)
.skip
(.exit 2)))
(.seq
(.block 3
(.region [
m_ 42 4,
m_ 43 42,
g_ 44 (.mv (.t 0)) 43 false,
g_ 45 (.mv (.t 3)) 43 false,
g_ 46 (.mv (.t 0)) 43 false,
g_ 47 (.mv (.t 3)) 43 false,
g_ 48 (.idxa 18 (.t 46) (.t 47)) 43 false,
g_ 49 (.fadr 8 (.t 48)) 43 false,
g_ 50 (.load false 1 (.t 49)) 43 false,
g_ 51 (.mv (.t 5)) 43 false,
g_ 52 (.idxa 3 (.t 50) (.t 51)) 43 false,
g_ 53 (.load true 3 (.t 52)) 43 false,
g_ 54 (.call false (.c (.fn 129 [] [])) [.t 44, .t 45, .t 53]) 43 false,
g_ 55 (.not (.t 54)) 43 false,
o_ 56 (.pick (.t 43) (.c (.bool true)) (.t 55)),
m_ 4 56] false))
(.region [
m_ 40 5,
o_ 41 (.bin .add (.t 40) (.c (.int .i64 1))),
m_ 5 41] false))))))
(.seq
(.region [
m_ 57 0,
m_ 58 3,
o_ 59 (.idxa 18 (.t 57) (.t 58)),
o_ 60 (.fadr 4 (.t 59)),
o_ 61 (.load true 2 (.t 60)),
m_ 62 3,
o_ 6 (.newv [.int .i64 0, .int .i64 0]),
⟨none, .store 2 (.t 6) (.t 61), none⟩,
m_ 7 62] false)
(.block 4
(.loop
(.seq
(.seq
(.region [
m_ 63 4,
m_ 64 63,
g_ 65 (.mv (.t 0)) 64 true,
g_ 66 (.mv (.t 7)) 64 true,
g_ 67 (.idxa 18 (.t 65) (.t 66)) 64 true,
g_ 68 (.fadr 9 (.t 67)) 64 true,
g_ 69 (.fadr 0 (.t 68)) 64 true,
g_ 70 (.load false 1 (.t 69)) 64 true,
o_ 71 (.pick (.t 64) (.t 70) (.c (.bool false)))] false)
(.cond (.t 71)
.skip
(.exit 4)))
(.block 5
(.seq
(.region [
m_ 72 0,
m_ 73 7,
o_ 74 (.call false (.c (.fn 97 [] [])) [.t 72, .t 73]),
m_ 7 74] false)
(.seq
(.region [
o_ 76 (.load true 2 (.t 6)),
m_ 77 0,
m_ 78 7,
o_ 79 (.idxa 18 (.t 77) (.t 78)),
o_ 80 (.fadr 4 (.t 79)),
o_ 81 (.load true 2 (.t 80)),
o_ 82 (.call false (.c (.fn 77 [] [])) [.t 76, .t 81]),
m_ 75 82,
o_ 83 (.extract (.t 75) 0),
o_ 84 (.extract (.t 75) 1),
o_ 8 (.newv [.int .i64 0, .int .i64 0]),
⟨none, .store 2 (.t 8) (.t 83), none⟩,
m_ 9 84] true)
(.seq
(.seq
(.region [
m_ 85 9,
o_ 86 (.bin .neq (.t 85) (.c (.int .i64 0)))] false)
(.cond (.t 86)
(.seq
(.region [
m_ 87 3,
m_ 2 87] false)
.ret)
.skip))
(.region [
o_ 88 (.load true 2 (.t 8)),
⟨none, .store 2 (.t 6) (.t 88), none⟩] false))))))))))))
(.region [
m_ 14 3,
o_ 15 (.bin .add (.t 14) (.c (.int .i64 1))),
m_ 3 15] false))))))
(.seq
(.region [
o_ 2 (.mv (.c (.int .i64 (-1))))] false)
.ret))),
[.t 2]⟩
theorem ok79 : okFunc Go.Proofs.Tryz.prog 79 lf79 = true := by kernel_rfl
def lf80 : LFunc := ⟨16, 1,
(.seq
(.region [
o_ 2 (.mv (.c (.bool false)))] false)
(.seq
(.region [
o_ 3 (.mv (.c (.str ⟨#[123, 125, 60, 62, 124, 126, 40, 41, 47, 33, 46]⟩)))] false)
(.seq
(.seq
(.region [
o_ 4 (.mv (.c (.int .i64 0)))] false)
(.block 0
(.loop
(.seq
(.seq
(.region [
m_ 5 4,
m_ 6 3,
o_ 7 (.len .str (.t 6)),
o_ 8 (.bin .lss (.t 5) (.t 7))] false)
(.cond (.t 8)
.skip
(.exit 0)))
(.seq
(.block 1
(.seq
(.region [
m_ 11 3,
m_ 12 4,
o_ 13 (.idxs (.t 11) (.t 12)),
m_ 14 0,
o_ 15 (.bin .eql (.t 13) (.t 14))] false)
(.cond (.t 15)
(.seq
(.region [
o_ 2 (.mv (.c (.bool true)))] false)
.ret)
.skip)))
(.region [
m_ 9 4,
o_ 10 (.bin .add (.t 9) (.c (.int .i64 1))),
m_ 4 10] false))))))
(.seq
(.region [
o_ 2 (.mv (.c (.bool false)))] false)
.ret)))),
[.t 2]⟩
theorem ok80 : okFunc Go.Proofs.Tryz.prog 80 lf80 = true := by kernel_rfl
def lf81 : LFunc := ⟨46, 2,
(.seq
(.region [
o_ 4 (.mv (.c (.int .i64 0))),
o_ 5 (.newv [.int .i64 0, .int .i64 0])] false)
(.seq
(.seq
(.region [
m_ 9 1,
o_ 10 (.bin .add (.t 9) (.c (.int .i64 1))),
m_ 6 10] false)
(.block 0
(.loop
(.seq
(.seq
(.region [
m_ 11 6,
m_ 12 0,
o_ 13 (.len .str (.t 12)),
o_ 14 (.bin .lss (.t 11) (.t 13))] false)
(.cond (.t 14)
.skip
(.exit 0)))
(.block 1
(.seq
(.region [
m_ 15 0,
m_ 16 6,
o_ 17 (.idxs (.t 15) (.t 16)),
m_ 7 17] false)
(.seq
(.seq
(.region [
m_ 18 7,
o_ 19 (.bin .eql (.t 18) (.c (.int .u8 34)))] false)
(.cond (.t 19)
(.seq
(.region [
m_ 20 6,
o_ 21 (.bin .add (.t 20) (.c (.int .i64 1))),
o_ 22 (.build [.int .i64 0, .int .i64 0] []),
m_ 4 21,
⟨none, .store 2 (.t 5) (.t 22), none⟩] false)
.ret)
.skip))
(.seq
(.region [
o_ 8 (.mv (.c (.int .i64 1)))] false)
(.seq
(.seq
(.region [
m_ 23 7,
o_ 24 (.bin .geq (.t 23) (.c (.int .u8 128)))] false)
(.cond (.t 24)
(.region [
m_ 25 0,
m_ 26 6,
o_ 27 (.call false (.c (.fn 130 [] [])) [.t 25, .t 26]),
m_ 8 27] false)
.skip))
(.seq
(.seq
(.region [
m_ 28 7,
o_ 29 (.bin .lss (.t 28) (.c (.int .u8 32))),
m_ 30 29,
g_ 31 (.mv (.t 7)) 30 false,
g_ 32 (.bin .eql (.t 31) (.c (.int .u8 127))) 30 false,
o_ 33 (.pick (.t 30) (.c (.bool true)) (.t 32)),
m_ 34 33,
g_ 35 (.mv (.t 8)) 34 false,
g_ 36 (.bin .eql (.t 35) (.c (.int .i64 0))) 34 false,
o_ 37 (.pick (.t 34) (.c (.bool true)) (.t 36))] false)
(.cond (.t 37)
(.seq
(.region [
m_ 38 6,
o_ 39 (.call false (.c (.fn 47 [] [])) [.c (.int .i64 10), .t 38]),
o_ 4 (.mv (.c (.int .i64 0))),
⟨none, .store 2 (.t 5) (.t 39), none⟩] false)
.ret)
.skip))
(.region [
m_ 40 6,
m_ 41 8,
o_ 42 (.bin .add (.t 40) (.t 41)),
m_ 6 42] false)))))))))))
(.seq
(.region [
m_ 43 0,
o_ 44 (.len .str (.t 43)),
o_ 45 (.call false (.c (.fn 47 [] [])) [.c (.int .i64 14), .t 44]),
o_ 4 (.mv (.c (.int .i64 0))),
⟨none, .store 2 (.t 5) (.t 45), none⟩] false)
.ret))),
[.t 4, .cell true 2 5]⟩
theorem ok81 : okFunc Go.Proofs.Tryz.prog 81 lf81 = true := by kernel_rfl
def lf82 : LFunc := ⟨28, 2,
(.seq
(.region [
o_ 4 (.mv (.c (.int .i64 0))),
o_ 5 (.newv [.int .i64 0, .int .i64 0])] false)
(.seq
(.seq
(.region [
m_ 6 1,
o_ 7 (.bin .add (.t 6) (.c (.int .i64 1))),
m_ 8 0,
o_ 9 (.len .str (.t 8)),
o_ 10 (.bin .eql (.t 7) (.t 9))] false)
(.cond (.t 10)
(.seq
(.region [
m_ 11 0,
o_ 12 (.len .str (.t 11)),
o_ 13 (.call false (.c (.fn 47 [] [])) [.c (.int .i64 14), .t 12]),
o_ 4 (.mv (.c (.int .i64 0))),
⟨none, .store 2 (.t 5) (.t 13), none⟩] false)
.ret)
.skip))
(.seq
(.seq
(.region [
m_ 14 0,
m_ 15 1,
o_ 16 (.bin .add (.t 15) (.c (.int .i64 1))),
o_ 17 (.idxs (.t 14) (.t 16)),
m_ 18 0,
m_ 19 1,
o_ 20 (.idxs (.t 18) (.t 19)),
o_ 21 (.bin .neq (.t 17) (.t 20))] true)
(.cond (.t 21)
(.seq
(.region [
m_ 22 1,
o_ 23 (.bin .add (.t 22) (.c (.int .i64 1))),
o_ 24 (.call false (.c (.fn 47 [] [])) [.c (.int .i64 10), .t 23]),
o_ 4 (.mv (.c (.int .i64 0))),
⟨none, .store 2 (.t 5) (.t 24), none⟩] false)
.ret)
.skip))
(.seq
(.region [
m_ 25 1,
o_ 26 (.bin .add (.t 25) (.c (.int .i64 2))),
o_ 27 (.build [.int .i64 0, .int .i64 0] []),
m_ 4 26,
⟨none, .store 2 (.t 5) (.t 27), none⟩] false)
.ret)))),
[.t 4, .cell true 2 5]⟩
theorem ok82 : okFunc Go.Proofs.Tryz.prog 82 lf82 = true := by kernel_rfl
def lf83 : LFunc := ⟨9, 1,
(.seq
(.region [
o_ 2 (.mv (.c (.bool false)))] false)
(.seq
(.region [
m_ 3 0,
o_ 4 (.bin .geq (.t 3) (.c (.int .u8 48))),
m_ 5 4,
g_ 6 (.mv (.t 0)) 5 true,
g_ 7 (.bin .leq (.t 6) (.c (.int .u8 57))) 5 true,
o_ 8 (.pick (.t 5) (.t 7) (.c (.bool false))),
m_ 2 8] false)
.ret)),
[.t 2]⟩
theorem ok83 : okFunc Go.Proofs.Tryz.prog 83 lf83 = true := by kernel_rfl
def lf84 : LFunc := ⟨28, 2,
(.seq
(.region [
o_ 4 (.mv (.c (.int .i64 0)))] false)
(.seq
(.region [
m_ 6 0,
m_ 7 1,
o_ 8 (.idxs (.t 6) (.t 7)),
m_ 5 8] false)
(.seq
(.seq
(.region [
m_ 9 5,
o_ 10 (.bin .geq (.t 9) (.c (.int .u8 97))),
m_ 11 10,
g_ 12 (.mv (.t 5)) 11 true,
g_ 13 (.bin .leq (.t 12) (.c (.int .u8 122))) 11 true,
o_ 14 (.pick (.t 11) (.t 13) (.c (.bool false))),
m_ 15 14,
g_ 16 (.mv (.t 5)) 15 false,
g_ 17 (.bin .geq (.t 16) (.c (.int .u8 65))) 15 false,
g_ 18 (.mv (.t 17)) 15 false,
g_ 19 (.mv (.t 5)) 18 true,
g_ 20 (.bin .leq (.t 19) (.c (.int .u8 90))) 18 true,
g_ 21 (.pick (.t 18) (.t 20) (.c (.bool false))) 15 false,
o_ 22 (.pick (.t 15) (.c (.bool true)) (.t 21))] false)
(.cond (.t 22)
(.seq
(.region [
o_ 4 (.mv (.c (.int .i64 1)))] false)
.ret)
.skip))
(.seq
(.seq
(.region [
m_ 23 5,
o_ 24 (.bin .geq (.t 23) (.c (.int .u8 128)))] false)
(.cond (.t 24)
(.seq
(.region [
m_ 25 0,
m_ 26 1,
o_ 27 (.call false (.c (.fn 130 [] [])) [.t 25, .t 26]),
m_ 4 27] false)
.ret)
.skip))
(.seq
(.region [
o_ 4 (.mv (.c (.int .i64 0)))] false)
.ret))))),
[.t 4]⟩
theorem ok84 : okFunc Go.Proofs.Tryz.prog 84 lf84 = true := by kernel_rfl
def lf85 : LFunc := ⟨17, 2,
(.seq
(.seq
(.region [
m_ 4 0,
m_ 5 1,
o_ 6 (.call false (.c (.fn 30 [] [])) [.t 4, .c (.int .i64 4), .t 5]),
o_ 7 (.not (.t 6))] false)
(.cond (.t 7)
(.seq
(.region [
m_ 8 0,
o_ 9 (.call false (.c (.fn 31 [] [])) [.t 8])] false)
.ret)
.skip))
(.region [
m_ 10 0,
o_ 11 (.nilck (.t 10)),
o_ 12 (.fadr 1 (.t 11)),
o_ 13 (.load false 1 (.t 12)),
o_ 14 (.bin .add (.t 13) (.c (.int .i64 1))),
o_ 15 (.nilck (.t 10)),
o_ 16 (.fadr 1 (.t 15)),
⟨none, .store 1 (.t 16) (.t 14), none⟩] false)),
[]⟩
theorem ok85 : okFunc Go.Proofs.Tryz.prog 85 lf85 = true := by kernel_rfl
def lf86 : LFunc := ⟨14, 2,
(.seq
(.region [
o_ 4 (.mv (.c (.nils)))] false)
(.seq
(.region [
m_ 6 0,
o_ 7 (.call false (.c (.fn 50 [] [])) [.t 6])] false)
(.seq
(.region [
m_ 8 0,
m_ 9 1,
o_ 10 (.call false (.c (.fn 131 [] [])) [.t 8, .t 9]),
m_ 5 10] false)
(.seq
(.region [
m_ 11 0,
o_ 12 (.call false (.c (.fn 52 [] [])) [.t 11])] false)
(.seq
(.region [
m_ 13 5,
m_ 4 13] false)
.ret))))),
[.t 4]⟩
theorem ok86 : okFunc Go.Proofs.Tryz.prog 86 lf86 = true := by kernel_rfl
def lf87 : LFunc := ⟨78, 1,
(.seq
(.region [
o_ 2 (.mv (.c (.nils)))] false)
(.seq
(.region [
o_ 3 (.own 4)] false)
(.seq
(.region [
m_ 5 0,
o_ 6 (.nilck (.t 5)),
o_ 7 (.fadr 1 (.t 6)),
o_ 8 (.load false 1 (.t 7)),
o_ 9 (.bin .add (.t 8) (.c (.int .i64 1))),
o_ 10 (.nilck (.t 5)),
o_ 11 (.fadr 1 (.t 10)),
⟨none, .store 1 (.t 11) (.t 9), none⟩] false)
(.seq
(.region [
m_ 12 0,
o_ 13 (.call false (.c (.fn 50 [] [])) [.t 12])] false)
(.seq
(.block 0
(.loop
(.seq
(.seq
(.region [
m_ 14 0,
o_ 15 (.call false (.c (.fn 34 [] [])) [.t 14]),
o_ 16 (.not (.t 15)),
m_ 17 16,
g_ 18 (.mv (.t 0)) 17 true,
g_ 19 (.call false (.c (.fn 35 [] [])) [.t 18]) 17 true,
g_ 20 (.field false 0 1 (.t 19)) 17 true,
g_ 21 (.bin .eql (.t 20) (.c (.int .i64 1))) 17 true,
g_ 22 (.mv (.t 21)) 17 true,
g_ 23 (.mv (.t 0)) 22 false,
g_ 24 (.call false (.c (.fn 35 [] [])) [.t 23]) 22 false,
g_ 25 (.field false 0 1 (.t 24)) 22 false,
g_ 26 (.bin .eql (.t 25) (.c (.int .i64 5))) 22 false,
g_ 27 (.pick (.t 22) (.c (.bool true)) (.t 26)) 17 true,
o_ 28 (.pick (.t 17) (.t 27) (.c (.bool false)))] false)
(.cond (.t 28)
.skip
(.exit 0)))
(.block 1
(.seq
(.region [
m_ 29 0,
o_ 30 (.call false (.c (.fn 35 [] [])) [.t 29]),
o_ 31 (.field false 2 1 (.t 30)),
m_ 32 0,
o_ 33 (.call false (.c (.fn 35 [] [])) [.t 32]),
o_ 34 (.field false 1 1 (.t 33)),
o_ 35 (.build [.int .i64 0, .str ⟨#[]⟩, .bool false, .bool false] [(0, 1, .t 31), (1, 1, .t 34)]),
o_ 4 (.newv [.int .i64 0, .str ⟨#[]⟩, .bool false, .bool false]),
⟨none, .store 4 (.t 4) (.t 35), none⟩] false)
(.seq
(.region [
m_ 36 0,
o_ 37 (.call false (.c (.fn 132 [] [])) [.t 36])] false)
(.seq
(.seq
(.region [
m_ 38 0,
o_ 39 (.call false (.c (.fn 34 [] [])) [.t 38])] false)
(.cond (.t 39)
(.seq
(.region [
m_ 40 3,
m_ 2 40] false)
.ret)
.skip))
(.seq
(.region [
m_ 41 0,
o_ 42 (.nilck (.t 41)),
o_ 43 (.fadr 1 (.t 42)),
o_ 44 (.load false 1 (.t 43)),
o_ 45 (.bin .add (.t 44) (.c (.int .i64 1))),
o_ 46 (.nilck (.t 41)),
o_ 47 (.fadr 1 (.t 46)),
⟨none, .store 1 (.t 47) (.t 45), none⟩] false)
(.seq
(.region [
m_ 48 0,
o_ 49 (.call false (.c (.fn 35 [] [])) [.t 48]),
o_ 50 (.field false 0 1 (.t 49)),
o_ 51 (.bin .eql (.t 50) (.c (.int .i64 6))),
m_ 52 0,
o_ 53 (.call false (.c (.fn 35 [] [])) [.t 52]),
o_ 54 (.field false 0 1 (.t 53)),
o_ 55 (.bin .eql (.t 54) (.c (.int .i64 7))),
o_ 56 (.fadr 2 (.t 4)),
⟨none, .store 1 (.t 56) (.t 51), none⟩,
o_ 57 (.fadr 3 (.t 4)),
⟨none, .store 1 (.t 57) (.t 55), none⟩] false)
(.seq
(.seq
(.region [
o_ 58 (.fadr 2 (.t 4)),
o_ 59 (.load false 1 (.t 58)),
m_ 60 59,
g_ 61 (.fadr 3 (.t 4)) 60 false,
g_ 62 (.load false 1 (.t 61)) 60 false,
o_ 63 (.pick (.t 60) (.c (.bool true)) (.t 62))] false)
(.cond (.t 63)
(.region [
m_ 64 0,
o_ 65 (.nilck (.t 64)),
o_ 66 (.fadr 1 (.t 65)),
o_ 67 (.load false 1 (.t 66)),
o_ 68 (.bin .add (.t 67) (.c (.int .i64 1))),
o_ 69 (.nilck (.t 64)),
o_ 70 (.fadr 1 (.t 69)),
⟨none, .store 1 (.t 70) (.t 68), none⟩] false)
.skip))
(.region [
m_ 71 3,
o_ 72 (.load true 4 (.t 4)),
o_ 73 (.btsl 4 1 [.int .i64 0, .str ⟨#[]⟩, .bool false, .bool false] [(0, .t 72)]),
o_ 74 (.append 4 32 (.t 71) (.t 73)),
m_ 3 74] false)))))))))))
(.seq
(.region [
m_ 75 0,
o_ 76 (.call false (.c (.fn 52 [] [])) [.t 75])] false)
(.seq
(.region [
m_ 77 3,
m_ 2 77] false)
.ret))))))),
[.t 2]⟩
theorem ok87 : okFunc Go.Proofs.Tryz.prog 87 lf87 = true := by kernel_rfl
def lf88 : LFunc := ⟨73, 1,
(.seq
(.region [
o_ 1 (.boxt 1 (.t 0)),
o_ 2 (.mv (.c (.int .i64 0)))] false)
(.seq
(.seq
(.region [
o_ 7 (.fadr 0 (.t 1)),
o_ 8 (.load false 1 (.t 7)),
o_ 9 (.len .sli (.t 8)),
o_ 10 (.bin .lss (.t 9) (.c (.int .i64 1))),
m_ 11 10,
g_ 12 (.fadr 0 (.t 1)) 11 false,
g_ 13 (.load false 1 (.t 12)) 11 false,
g_ 14 (.len .sli (.t 13)) 11 false,
g_ 15 (.bin .gtr (.t 14) (.c (.int .i64 16))) 11 false,
o_ 16 (.pick (.t 11) (.c (.bool true)) (.t 15))] false)
(.cond (.t 16)
(.seq
(.region [
o_ 2 (.mv (.c (.int .i64 (-1))))] false)
.ret)
.skip))
(.seq
(.region [
o_ 3 (.mv (.c (.int .i64 4096)))] false)
(.seq
(.seq
(.region [
o_ 4 (.mv (.c (.int .i64 0)))] false)
(.block 0
(.loop
(.seq
(.seq
(.region [
m_ 17 4,
o_ 18 (.fadr 0 (.t 1)),
o_ 19 (.load false 1 (.t 18)),
o_ 20 (.len .sli (.t 19)),
o_ 21 (.bin .lss (.t 17) (.t 20))] false)
(.cond (.t 21)
.skip
(.exit 0)))
(.seq
(.block 1
(.seq
(.region [
o_ 24 (.fadr 0 (.t 1)),
o_ 25 (.load false 1 (.t 24)),
m_ 26 4,
o_ 27 (.idxa 3 (.t 25) (.t 26)),
o_ 28 (.fadr 2 (.t 27)),
o_ 29 (.load false 1 (.t 28)),
m_ 5 29] false)
(.seq
(.seq
(.region [
m_ 30 5,
o_ 31 (.len .sli (.t 30)),
o_ 32 (.bin .lss (.t 31) (.c (.int .i64 1))),
m_ 33 32,
g_ 34 (.mv (.t 5)) 33 false,
g_ 35 (.len .sli (.t 34)) 33 false,
g_ 36 (.bin .gtr (.t 35) (.c (.int .i64 4))) 33 false,
o_ 37 (.pick (.t 33) (.c (.bool true)) (.t 36)),
m_ 38 37,
g_ 39 (.fadr 0 (.t 1)) 38 false,
g_ 40 (.load false 1 (.t 39)) 38 false,
g_ 41 (.mv (.t 4)) 38 false,
g_ 42 (.idxa 3 (.t 40) (.t 41)) 38 false,
g_ 43 (.fadr 1 (.t 42)) 38 false,
g_ 44 (.load false 1 (.t 43)) 38 false,
g_ 45 (.call false (.c (.fn 133 [] [])) [.t 44]) 38 false,
g_ 46 (.not (.t 45)) 38 false,
o_ 47 (.pick (.t 38) (.c (.bool true)) (.t 46))] false)
(.cond (.t 47)
(.seq
(.region [
o_ 2 (.mv (.c (.int .i64 (-1))))] false)
.ret)
.skip))
(.seq
(.region [
o_ 6 (.mv (.c (.int .i64 0)))] false)
(.block 2
(.loop
(.seq
(.seq
(.region [
m_ 48 6,
m_ 49 5,
o_ 50 (.len .sli (.t 49)),
o_ 51 (.bin .lss (.t 48) (.t 50))] false)
(.cond (.t 51)
.skip
(.exit 2)))
(.seq
(.block 3
(.seq
(.region [
m_ 54 5,
m_ 55 6,
o_ 56 (.idxa 3 (.t 54) (.t 55)),
o_ 57 (.fadr 1 (.t 56)),
o_ 58 (.load false 1 (.t 57)),
m_ 59 3,
o_ 60 (.call false (.c (.fn 92 [] [])) [.t 58, .c (.int .i64 0), .t 59, .c (.int .i64 62)]),
m_ 3 60] false)
(.seq
(.seq
(.region [
m_ 61 3,
o_ 62 (.bin .geq (.t 61) (.c (.int .i64 0)))] false)
(.cond (.t 62)
(.region [
m_ 63 5,
m_ 64 6,
o_ 65 (.idxa 3 (.t 63) (.t 64)),
o_ 66 (.fadr 2 (.t 65)),
o_ 67 (.load false 1 (.t 66)),
m_ 68 3,
o_ 69 (.call false (.c (.fn 134 [] [])) [.t 67, .t 68]),
m_ 3 69] false)
.skip))
(.seq
(.region [
m_ 70 3,
o_ 71 (.bin .lss (.t 70) (.c (.int .i64 0)))] false)
(.cond (.t 71)
(.seq
(.region [
o_ 2 (.mv (.c (.int .i64 (-1))))] false)
.ret)
.skip)))))
(.region [
m_ 52 6,
o_ 53 (.bin .add (.t 52) (.c (.int .i64 1))),
m_ 6 53] false)))))))))
(.region [
m_ 22 4,
o_ 23 (.bin .add (.t 22) (.c (.int .i64 1))),
m_ 4 23] false))))))
(.seq
(.region [
m_ 72 3,
m_ 2 72] false)
.ret))))),
[.t 2]⟩
theorem ok88 : okFunc Go.Proofs.Tryz.prog 88 lf88 = true := by kernel_rfl
def lf89 : LFunc := ⟨67, 2,
(.seq
(.region [
o_ 3 (.box 14 (.t 1)),
o_ 4 (.newv [.int .i64 0, .int .i64 0, .nils, .bool false, .int .i64 0, .int .i64 0, .bool false, .int .i64 0, .int .i64 0, .str ⟨#[]⟩, .int .i64 0, .int .i64 0, .str ⟨#[]⟩, .nils])] false)
(.seq
(.region [
o_ 5 (.own 3)] false)
(.seq
(.region [
m_ 12 0,
o_ 13 (.nilck (.t 12)),
o_ 14 (.fadr 1 (.t 13)),
o_ 15 (.load true 3 (.t 14)),
o_ 6 (.newv [.int .i64 0, .int .i64 0, .int .i64 0]),
⟨none, .store 3 (.t 6) (.t 15), none⟩] false)
(.seq
(.seq
(.region [
o_ 7 (.mv (.c (.int .i64 0)))] false)
(.block 0
(.loop
(.seq
(.seq
(.region [
m_ 16 7,
o_ 17 (.fadr 2 (.t 3)),
o_ 18 (.load false 1 (.t 17)),
o_ 19 (.len .sli (.t 18)),
o_ 20 (.bin .lss (.t 16) (.t 19))] false)
(.cond (.t 20)
.skip
(.exit 0)))
(.seq
(.block 1
(.seq
(.region [
m_ 24 0,
o_ 25 (.fadr 2 (.t 3)),
o_ 26 (.load false 1 (.t 25)),
m_ 27 7,
o_ 28 (.idxa 3 (.t 26) (.t 27)),
o_ 29 (.load true 3 (.t 28)),
o_ 30 (.call false (.c (.fn 135 [] [])) [.t 24, .t 29]),
m_ 23 30,
o_ 31 (.extract (.t 23) 0),
o_ 32 (.extract (.t 23) 1),
o_ 8 (.newv [.int .i64 0, .int .i64 0, .int .i64 0]),
⟨none, .store 3 (.t 8) (.t 31), none⟩,
m_ 9 32] false)
(.seq
(.seq
(.region [
m_ 33 9,
o_ 34 (.not (.t 33))] false)
(.cond (.t 34)
(.seq
(.region [
m_ 35 0,
m_ 36 0,
o_ 37 (.fadr 1 (.t 3)),
o_ 38 (.loadF false 1 (.t 37)),
o_ 39 (.nilck (.t 35)),
o_ 40 (.fadr 4 (.t 39)),
⟨none, .storeF 1 (.t 40) (.c (.bool true)), none⟩,
o_ 41 (.nilck (.t 36)),
o_ 42 (.fadr 5 (.t 41)),
⟨none, .store 1 (.t 42) (.t 38), none⟩] true)
(.seq
(.region [
o_ 43 (.load true 14 (.t 3)),
⟨none, .store 14 (.t 4) (.t 43), none⟩] false)
.ret))
.skip))
(.seq
(.seq
(.region [
m_ 44 7,
o_ 45 (.bin .eql (.t 44) (.c (.int .i64 0)))] false)
(.cond (.t 45)
(.region [
o_ 46 (.load true 3 (.t 8)),
⟨none, .store 3 (.t 6) (.t 46), none⟩] false)
.skip))
(.seq
(.region [
o_ 48 (.load true 3 (.t 8)),
o_ 49 (.call false (.c (.fn 136 [] [])) [.t 48]),
m_ 47 49,
o_ 50 (.extract (.t 47) 0),
o_ 51 (.extract (.t 47) 1),
o_ 10 (.newv [.int .i64 0, .int .i64 0, .int .i64 0]),
⟨none, .store 3 (.t 10) (.t 50), none⟩,
m_ 11 51] false)
(.region [
m_ 52 5,
o_ 53 (.load true 3 (.t 10)),
o_ 54 (.btsl 3 1 [.int .i64 0, .int .i64 0, .int .i64 0] [(0, .t 53)]),
o_ 55 (.append 3 24 (.t 52) (.t 54)),
m_ 5 55] false))))))
(.region [
m_ 21 7,
o_ 22 (.bin .add (.t 21) (.c (.int .i64 1))),
m_ 7 22] false))))))
(.seq
(.seq
(.region [
m_ 56 0,
o_ 57 (.nilck (.t 56)),
o_ 58 (.fadr 0 (.t 57)),
o_ 59 (.load false 1 (.t 58))] false)
(.cond (.t 59)
(.region [
m_ 60 0,
o_ 61 (.load true 3 (.t 6)),
o_ 62 (.nilck (.t 60)),
o_ 63 (.fadr 1 (.t 62)),
⟨none, .store 3 (.t 63) (.t 61), none⟩] false)
.skip))
(.seq
(.region [
m_ 64 5,
o_ 65 (.fadr 2 (.t 3)),
⟨none, .store 1 (.t 65) (.t 64), none⟩] false)
(.seq
(.region [
o_ 66 (.load true 14 (.t 3)),
⟨none, .store 14 (.t 4) (.t 66), none⟩] false)
.ret))))))),
[.cell true 14 4]⟩
theorem ok89 : okFunc Go.Proofs.Tryz.prog 89 lf89 = true := by kernel_rfl
def lf90 : LFunc := ⟨27, 1,
(.seq
(.region [
o_ 1 (.boxt 3 (.t 0)),
o_ 2 (.newv [.int .i64 0, .int .i64 0, .int .i64 0]),
o_ 3 (.mv (.c (.bool false)))] false)
(.seq
(.seq
(.region [
o_ 5 (.fadr 2 (.t 1)),
o_ 6 (.load false 1 (.t 5)),
o_ 7 (.bin .lss (.t 6) (.c (.int .i64 (-9)))),
m_ 8 7,
g_ 9 (.fadr 2 (.t 1)) 8 false,
g_ 10 (.load false 1 (.t 9)) 8 false,
g_ 11 (.bin .gtr (.t 10) (.c (.int .i64 9))) 8 false,
o_ 12 (.pick (.t 8) (.c (.bool true)) (.t 11))] false)
(.cond (.t 12)
(.seq
(.region [
o_ 13 (.build [.int .i64 0, .int .i64 0, .int .i64 0] []),
⟨none, .store 3 (.t 2) (.t 13), none⟩,
o_ 3 (.mv (.c (.bool false)))] false)
.ret)
.skip))
(.seq
(.region [
o_ 14 (.fadr 0 (.t 1)),
o_ 15 (.load false 1 (.t 14)),
o_ 16 (.fadr 1 (.t 1)),
o_ 17 (.load false 1 (.t 16)),
o_ 18 (.fadr 2 (.t 1)),
o_ 19 (.load false 1 (.t 18)),
o_ 20 (.bin .add (.c (.int .i64 3)) (.t 19)),
o_ 21 (.build [.int .i64 0, .int .i64 0, .int .i64 0] [(0, 1, .t 15), (1, 1, .t 17), (2, 1, .t 20)]),
o_ 4 (.newv [.int .i64 0, .int .i64 0, .int .i64 0]),
⟨none, .store 3 (.t 4) (.t 21), none⟩] false)
(.seq
(.seq
(.region [
o_ 22 (.load true 3 (.t 4)),
o_ 23 (.call false (.c (.fn 137 [] [])) [.t 22]),
o_ 24 (.not (.t 23))] false)
(.cond (.t 24)
(.seq
(.region [
o_ 25 (.build [.int .i64 0, .int .i64 0, .int .i64 0] []),
⟨none, .store 3 (.t 2) (.t 25), none⟩,
o_ 3 (.mv (.c (.bool false)))] false)
.ret)
.skip))
(.seq
(.region [
o_ 26 (.load true 3 (.t 4)),
⟨none, .store 3 (.t 2) (.t 26), none⟩,
o_ 3 (.mv (.c (.bool true)))] false)
.ret))))),
[.cell true 3 2, .t 3]⟩
theorem ok90 : okFunc Go.Proofs.Tryz.prog 90 lf90 = true := by kernel_rfl
def lf91 : LFunc := ⟨24, 1,
(.seq
(.region [
o_ 2 (.mv (.c (.bool false)))] false)
(.seq
(.seq
(.region [
o_ 3 (.mv (.c (.int .i64 0)))] false)
(.block 0
(.loop
(.seq
(.seq
(.region [
m_ 4 3,
m_ 5 0,
o_ 6 (.len .sli (.t 5)),
o_ 7 (.bin .lss (.t 4) (.t 6))] false)
(.cond (.t 7)
.skip
(.exit 0)))
(.seq
(.block 1
(.seq
(.region [
m_ 10 0,
m_ 11 3,
o_ 12 (.idxa 14 (.t 10) (.t 11)),
o_ 13 (.fadr 0 (.t 12)),
o_ 14 (.load false 1 (.t 13)),
o_ 15 (.bin .neq (.t 14) (.c (.int .i64 7))),
m_ 16 15,
g_ 17 (.mv (.t 0)) 16 false,
g_ 18 (.mv (.t 3)) 16 false,
g_ 19 (.idxa 14 (.t 17) (.t 18)) 16 false,
g_ 20 (.fadr 13 (.t 19)) 16 false,
g_ 21 (.load false 1 (.t 20)) 16 false,
g_ 22 (.call false (.c (.fn 91 [] [])) [.t 21]) 16 false,
o_ 23 (.pick (.t 16) (.c (.bool true)) (.t 22))] false)
(.cond (.t 23)
(.seq
(.region [
o_ 2 (.mv (.c (.bool true)))] false)
.ret)
.skip)))
(.region [
m_ 8 3,
o_ 9 (.bin .add (.t 8) (.c (.int .i64 1))),
m_ 3 9] false))))))
(.seq
(.region [
o_ 2 (.mv (.c (.bool false)))] false)
.ret))),
[.t 2]⟩
theorem ok91 : okFunc Go.Proofs.Tryz.prog 91 lf91 = true := by kernel_rfl
def lf92 : LFunc := ⟨74, 4,
(.seq
(.region [
o_ 8 (.mv (.c (.int .i64 0)))] false)
(.seq
(.seq
(.region [
o_ 9 (.mv (.c (.int .i64 0)))] false)
(.block 0
(.loop
(.seq
(.seq
(.region [
m_ 11 9,
m_ 12 0,
o_ 13 (.len .sli (.t 12)),
o_ 14 (.bin .lss (.t 11) (.t 13))] false)
(.cond (.t 14)
.skip
(.exit 0)))
(.seq
(.block 1
(.seq
(.region [
m_ 17 0,
m_ 18 9,
o_ 19 (.idxa 14 (.t 17) (.t 18)),
o_ 20 (.load true 14 (.t 19)),
o_ 10 (.newv [.int .i64 0, .int .i64 0, .nils, .bool false, .int .i64 0, .int .i64 0, .bool false, .int .i64 0, .int .i64 0, .str ⟨#[]⟩, .int .i64 0, .int .i64 0, .str ⟨#[]⟩, .nils]),
⟨none, .store 14 (.t 10) (.t 20), none⟩] false)
(.seq
(.seq
(.region [
m_ 21 2,
o_ 22 (.bin .eql (.t 21) (.c (.int .i64 0))),
m_ 23 22,
g_ 24 (.fadr 0 (.t 10)) 23 false,
g_ 25 (.load false 1 (.t 24)) 23 false,
g_ 26 (.bin .lss (.t 25) (.c (.int .i64 1))) 23 false,
o_ 27 (.pick (.t 23) (.c (.bool true)) (.t 26)),
m_ 28 27,
g_ 29 (.fadr 0 (.t 10)) 28 false,
g_ 30 (.load false 1 (.t 29)) 28 false,
g_ 31 (.bin .gtr (.t 30) (.c (.int .i64 12))) 28 false,
o_ 32 (.pick (.t 28) (.c (.bool true)) (.t 31)),
m_ 33 32,
g_ 34 (.fadr 0 (.t 10)) 33 false,
g_ 35 (.load false 1 (.t 34)) 33 false,
g_ 36 (.mv (.t 1)) 33 false,
g_ 37 (.call false (.c (.fn 138 [] [])) [.t 35, .t 36]) 33 false,
o_ 38 (.pick (.t 33) (.c (.bool true)) (.t 37))] false)
(.cond (.t 38)
(.seq
(.region [
o_ 8 (.mv (.c (.int .i64 (-1))))] false)
.ret)
.skip))
(.seq
(.region [
m_ 39 2,
o_ 40 (.bin .sub (.t 39) (.c (.int .i64 1))),
m_ 2 40] false)
(.block 2
(.seq
(.region [
o_ 60 (.fadr 0 (.t 10)),
o_ 61 (.load false 1 (.t 60)),
o_ 62 (.bin .leq (.t 61) (.c (.int .i64 4))),
m_ 59 62] false)
(.cond (.t 59)
(.seq
(.region [
o_ 63 (.load true 14 (.t 10)),
o_ 64 (.call false (.c (.fn 139 [] [])) [.t 63]),
o_ 65 (.not (.t 64))] false)
(.cond (.t 65)
(.seq
(.region [
o_ 8 (.mv (.c (.int .i64 (-1))))] false)
.ret)
.skip))
(.seq
(.region [
o_ 67 (.fadr 0 (.t 10)),
o_ 68 (.load false 1 (.t 67)),
o_ 69 (.bin .geq (.t 68) (.c (.int .i64 9))),
m_ 66 69] false)
(.cond (.t 66)
(.seq
(.region [
o_ 70 (.load true 14 (.t 10)),
o_ 71 (.call false (.c (.fn 140 [] [])) [.t 70]),
o_ 72 (.not (.t 71))] false)
(.cond (.t 72)
(.seq
(.region [
o_ 8 (.mv (.c (.int .i64 (-1))))] false)
.ret)
.skip))
(.seq
(.seq
(.region [
m_ 41 3,
o_ 42 (.bin .eql (.t 41) (.c (.int .i64 0))),
m_ 43 42,
g_ 44 (.load true 14 (.t 10)) 43 false,
g_ 45 (.call false (.c (.fn 141 [] [])) [.t 44]) 43 false,
g_ 46 (.not (.t 45)) 43 false,
o_ 47 (.pick (.t 43) (.c (.bool true)) (.t 46))] false)
(.cond (.t 47)
(.seq
(.region [
o_ 8 (.mv (.c (.int .i64 (-1))))] false)
.ret)
.skip))
(.seq
(.region [
o_ 48 (.fadr 13 (.t 10)),
o_ 49 (.load false 1 (.t 48)),
o_ 50 (.fadr 0 (.t 10)),
o_ 51 (.load false 1 (.t 50)),
o_ 52 (.call false (.c (.fn 142 [] [])) [.t 51]),
m_ 53 2,
m_ 54 3,
o_ 55 (.bin .sub (.t 54) (.c (.int .i64 1))),
o_ 56 (.call false (.c (.fn 92 [] [])) [.t 49, .t 52, .t 53, .t 55]),
m_ 2 56] true)
(.seq
(.region [
m_ 57 2,
o_ 58 (.bin .lss (.t 57) (.c (.int .i64 0)))] false)
(.cond (.t 58)
(.seq
(.region [
o_ 8 (.mv (.c (.int .i64 (-1))))] false)
.ret)
.skip)))))))))))))
(.region [
m_ 15 9,
o_ 16 (.bin .add (.t 15) (.c (.int .i64 1))),
m_ 9 16] false))))))
(.seq
(.region [
m_ 73 2,
m_ 8 73] false)
.ret))),
[.t 8]⟩
theorem ok92 : okFunc Go.Proofs.Tryz.prog 92 lf92 = true := by kernel_rfl
def lf93 : LFunc := ⟨122, 2,
(.seq
(.region [
o_ 3 (.boxt 14 (.t 1))] false)
(.seq
(.region [
o_ 13 (.fadr 0 (.t 3)),
o_ 14 (.load false 1 (.t 13)),
o_ 15 (.fadr 1 (.t 3)),
o_ 16 (.load false 1 (.t 15)),
o_ 17 (.fadr 6 (.t 3)),
o_ 18 (.load true 4 (.t 17)),
o_ 19 (.build [.int .i64 0, .int .i64 0] [(1, 1, .c (.int .i64 1))]),
o_ 20 (.build [.int .i64 0, .int .i64 0, .int .i64 0, .int .i64 0, .int .i64 0, .int .i64 0, .int .i64 0, .int .i64 0, .nils, .bool false, .int .i64 0, .int .i64 0, .str ⟨#[]⟩, .nils, .int .i64 0, .int .i64 0, .int .i64 0, .int .i64 0] [(0, 1, .t 14), (1, 1, .t 16), (9, 4, .t 18), (4, 2, .t 19)]),
o_ 4 (.newv [.int .i64 0, .int .i64 0, .int .i64 0, .int .i64 0, .int .i64 0, .int .i64 0, .int .i64 0, .int .i64 0, .nils, .bool false, .int .i64 0, .int .i64 0, .str ⟨#[]⟩, .nils, .int .i64 0, .int .i64 0, .int .i64 0, .int .i64 0]),
⟨none, .store 18 (.t 4) (.t 20), none⟩] false)
(.seq
(.seq
(.region [
o_ 21 (.fadr 0 (.t 3)),
o_ 22 (.load false 1 (.t 21)),
o_ 23 (.bin .eql (.t 22) (.c (.int .i64 2)))] false)
(.cond (.t 23)
(.region [
o_ 24 (.fadr 0 (.t 4)),
⟨none, .store 1 (.t 24) (.c (.int .i64 1)), none⟩] false)
.skip))
(.seq
(.region [
o_ 26 (.fadr 2 (.t 3)),
o_ 27 (.load false 1 (.t 26)),
o_ 28 (.call false (.c (.fn 143 [] [])) [.t 27]),
m_ 25 28,
o_ 29 (.extract (.t 25) 0),
o_ 30 (.extract (.t 25) 1),
m_ 5 29,
m_ 6 30] false)
(.seq
(.seq
(.region [
m_ 31 6,
o_ 32 (.not (.t 31))] false)
(.cond (.t 32)
(.seq
(.region [
m_ 33 0,
o_ 34 (.fadr 1 (.t 3)),
o_ 35 (.load false 1 (.t 34)),
o_ 36 (.call false (.c (.fn 99 [] [])) [.t 33, .c (.int .i64 20), .t 35])] false)
.ret)
.skip))
(.seq
(.seq
(.region [
o_ 37 (.fadr 3 (.t 3)),
o_ 38 (.load false 1 (.t 37))] false)
(.cond (.t 38)
(.region [
m_ 39 0,
o_ 40 (.fadr 4 (.t 3)),
o_ 41 (.load true 2 (.t 40)),
o_ 42 (.nilck (.t 39)),
o_ 43 (.fadr 9 (.t 42)),
⟨none, .store 2 (.t 43) (.t 41), none⟩] false)
.skip))
(.seq
(.region [
m_ 44 5,
m_ 45 0,
o_ 46 (.nilck (.t 45)),
o_ 47 (.fadr 9 (.t 46)),
o_ 48 (.loadF true 2 (.t 47)),
o_ 49 (.fadr 8 (.t 4)),
⟨none, .storeF 1 (.t 49) (.t 44), none⟩,
o_ 50 (.fadr 6 (.t 4)),
⟨none, .store 2 (.t 50) (.t 48), none⟩] true)
(.seq
(.seq
(.region [
m_ 51 0,
o_ 52 (.nilck (.t 51)),
o_ 53 (.fadr 14 (.t 52)),
o_ 54 (.load false 1 (.t 53)),
o_ 55 (.bin .gtr (.t 54) (.c (.int .i64 0)))] false)
(.cond (.t 55)
(.seq
(.region [
m_ 56 0,
o_ 57 (.nilck (.t 56)),
o_ 58 (.fadr 14 (.t 57)),
o_ 59 (.load false 1 (.t 58)),
o_ 60 (.fadr 14 (.t 4)),
⟨none, .store 1 (.t 60) (.t 59), none⟩] false)
(.region [
m_ 61 0,
o_ 62 (.nilck (.t 61)),
o_ 63 (.fadr 14 (.t 62)),
o_ 64 (.load false 1 (.t 63)),
o_ 65 (.bin .add (.t 64) (.c (.int .i64 1))),
o_ 66 (.nilck (.t 61)),
o_ 67 (.fadr 14 (.t 66)),
⟨none, .store 1 (.t 67) (.t 65), none⟩] false))
(.seq
(.region [
m_ 69 0,
o_ 70 (.nilck (.t 69)),
o_ 71 (.fadr 9 (.t 70)),
o_ 72 (.load true 2 (.t 71)),
o_ 73 (.call false (.c (.fn 144 [] [])) [.t 72]),
m_ 68 73,
o_ 74 (.extract (.t 68) 0),
o_ 75 (.extract (.t 68) 1),
o_ 7 (.newv [.int .i64 0, .int .i64 0]),
⟨none, .store 2 (.t 7) (.t 74), none⟩,
m_ 8 75] false)
(.seq
(.region [
o_ 77 (.load true 2 (.t 7)),
m_ 78 0,
o_ 79 (.nilck (.t 78)),
o_ 80 (.fadr 12 (.t 79)),
o_ 81 (.load true 2 (.t 80)),
o_ 82 (.call false (.c (.fn 145 [] [])) [.t 77, .t 81]),
m_ 76 82,
o_ 83 (.extract (.t 76) 0),
o_ 84 (.extract (.t 76) 1),
o_ 9 (.newv [.int .i64 0, .int .i64 0]),
⟨none, .store 2 (.t 9) (.t 83), none⟩,
m_ 10 84] true)
(.seq
(.region [
m_ 86 0,
o_ 87 (.nilck (.t 86)),
o_ 88 (.fadr 7 (.t 87)),
o_ 89 (.load true 2 (.t 88)),
o_ 90 (.load true 2 (.t 9)),
o_ 91 (.call false (.c (.fn 77 [] [])) [.t 89, .t 90]),
m_ 85 91,
o_ 92 (.extract (.t 85) 0),
o_ 93 (.extract (.t 85) 1),
o_ 11 (.newv [.int .i64 0, .int .i64 0]),
⟨none, .store 2 (.t 11) (.t 92), none⟩,
m_ 12 93] true)
(.seq
(.seq
(.region [
m_ 94 10,
o_ 95 (.bin .neq (.t 94) (.c (.int .i64 0))),
m_ 96 95,
g_ 97 (.mv (.t 12)) 96 false,
g_ 98 (.bin .neq (.t 97) (.c (.int .i64 0))) 96 false,
o_ 99 (.pick (.t 96) (.c (.bool true)) (.t 98))] false)
(.cond (.t 99)
(.seq
(.region [
m_ 100 0,
o_ 101 (.fadr 1 (.t 3)),
o_ 102 (.load false 1 (.t 101)),
o_ 103 (.call false (.c (.fn 99 [] [])) [.t 100, .c (.int .i64 3), .t 102])] false)
.ret)
.skip))
(.seq
(.region [
o_ 104 (.load true 2 (.t 9)),
o_ 105 (.fadr 4 (.t 4)),
⟨none, .store 2 (.t 105) (.t 104), none⟩] false)
(.seq
(.region [
m_ 106 0,
o_ 107 (.load true 14 (.t 3)),
o_ 108 (.call false (.c (.fn 146 [] [])) [.t 106, .t 107])] false)
(.seq
(.region [
m_ 109 0,
o_ 110 (.load true 18 (.t 4)),
o_ 111 (.call false (.c (.fn 147 [] [])) [.t 109, .t 110])] false)
(.seq
(.region [
m_ 112 0,
o_ 113 (.load true 2 (.t 11)),
o_ 114 (.nilck (.t 112)),
o_ 115 (.fadr 7 (.t 114)),
⟨none, .store 2 (.t 115) (.t 113), none⟩] false)
.ret))))))))))
(.seq
(.region [
m_ 116 0,
o_ 117 (.load true 14 (.t 3)),
o_ 118 (.call false (.c (.fn 146 [] [])) [.t 116, .t 117])] false)
(.region [
m_ 119 0,
o_ 120 (.load true 18 (.t 4)),
o_ 121 (.call false (.c (.fn 147 [] [])) [.t 119, .t 120])] false)))))))))),
[]⟩
theorem ok93 : okFunc Go.Proofs.Tryz.prog 93 lf93 = true := by kernel_rfl
def lf94 : LFunc := ⟨128, 3,
(.seq
(.region [
o_ 4 (.boxt 14 (.t 1)),
o_ 6 (.mv (.c (.int .i64 0)))] false)
(.seq
(.region [
m_ 14 0,
o_ 15 (.nilck (.t 14)),
o_ 16 (.fadr 12 (.t 15)),
o_ 17 (.load true 2 (.t 16)),
o_ 18 (.fadr 11 (.t 4)),
o_ 19 (.load false 1 (.t 18)),
o_ 20 (.fadr 10 (.t 4)),
o_ 21 (.load false 1 (.t 20)),
o_ 22 (.call false (.c (.fn 148 [] [])) [.t 19, .t 21]),
o_ 23 (.call false (.c (.fn 145 [] [])) [.t 17, .t 22]),
m_ 13 23,
o_ 24 (.extract (.t 13) 0),
o_ 25 (.extract (.t 13) 1),
o_ 7 (.newv [.int .i64 0, .int .i64 0]),
⟨none, .store 2 (.t 7) (.t 24), none⟩,
m_ 8 25] true)
(.seq
(.seq
(.region [
m_ 26 8,
o_ 27 (.bin .neq (.t 26) (.c (.int .i64 0)))] false)
(.cond (.t 27)
(.region [
o_ 28 (.build [.int .i64 0, .int .i64 0] []),
⟨none, .store 2 (.t 7) (.t 28), none⟩] false)
.skip))
(.seq
(.region [
m_ 29 0,
o_ 30 (.nilck (.t 29)),
o_ 31 (.fadr 12 (.t 30)),
o_ 32 (.load true 2 (.t 31)),
m_ 33 0,
o_ 34 (.nilck (.t 33)),
o_ 35 (.fadr 11 (.t 34)),
o_ 36 (.loadF false 1 (.t 35)),
o_ 9 (.newv [.int .i64 0, .int .i64 0]),
⟨none, .storeF 2 (.t 9) (.t 32), none⟩,
m_ 10 36] true)
(.seq
(.region [
m_ 37 0,
o_ 38 (.nilck (.t 37)),
o_ 39 (.fadr 0 (.t 38)),
o_ 40 (.fadr 3 (.t 39)),
o_ 41 (.load false 1 (.t 40)),
o_ 42 (.len .sli (.t 41)),
m_ 11 42] false)
(.seq
(.region [
m_ 43 0,
o_ 44 (.nilck (.t 43)),
o_ 45 (.fadr 0 (.t 44)),
o_ 46 (.fadr 2 (.t 45)),
o_ 47 (.load false 1 (.t 46)),
o_ 48 (.len .sli (.t 47)),
m_ 12 48] false)
(.seq
(.region [
m_ 49 0,
m_ 50 0,
o_ 51 (.nilck (.t 50)),
o_ 52 (.fadr 0 (.t 51)),
o_ 53 (.fadr 3 (.t 52)),
o_ 54 (.load false 1 (.t 53)),
m_ 55 12,
o_ 56 (.fadr 10 (.t 4)),
o_ 57 (.load false 1 (.t 56)),
o_ 58 (.fadr 11 (.t 4)),
o_ 59 (.load false 1 (.t 58)),
o_ 60 (.build [.int .i64 0, .int .i64 0, .int .i64 0, .int .i64 0] [(0, 1, .t 55), (2, 1, .t 57), (3, 1, .t 59)]),
o_ 61 (.btsl 4 1 [.int .i64 0, .int .i64 0, .int .i64 0, .int .i64 0] [(0, .t 60)]),
o_ 62 (.append 4 32 (.t 54) (.t 61)),
o_ 63 (.nilck (.t 49)),
o_ 64 (.fadr 0 (.t 63)),
o_ 65 (.fadr 3 (.t 64)),
⟨none, .store 1 (.t 65) (.t 62), none⟩] true)
(.seq
(.region [
m_ 66 0,
o_ 67 (.load true 2 (.t 7)),
o_ 68 (.nilck (.t 66)),
o_ 69 (.fadr 12 (.t 68)),
⟨none, .store 2 (.t 69) (.t 67), none⟩] false)
(.seq
(.region [
m_ 70 0,
o_ 71 (.bsl 1 0 [.int .i64 0] []),
m_ 72 10,
o_ 73 (.append 1 8 (.t 71) (.t 72)),
m_ 74 11,
o_ 75 (.btsl 1 1 [.int .i64 0] [(0, .t 74)]),
o_ 76 (.append 1 8 (.t 73) (.t 75)),
o_ 77 (.nilck (.t 70)),
o_ 78 (.fadr 11 (.t 77)),
⟨none, .store 1 (.t 78) (.t 76), none⟩] false)
(.seq
(.region [
m_ 79 0,
o_ 80 (.fadr 13 (.t 4)),
o_ 81 (.load false 1 (.t 80)),
m_ 82 2,
o_ 83 (.call false (.c (.fn 58 [] [])) [.t 79, .t 81, .t 82]),
m_ 2 83] false)
(.seq
(.region [
m_ 84 0,
m_ 85 0,
o_ 86 (.load true 2 (.t 9)),
m_ 87 10,
o_ 88 (.nilck (.t 84)),
o_ 89 (.fadr 12 (.t 88)),
⟨none, .store 2 (.t 89) (.t 86), none⟩,
o_ 90 (.nilck (.t 85)),
o_ 91 (.fadr 11 (.t 90)),
⟨none, .store 1 (.t 91) (.t 87), none⟩] false)
(.seq
(.seq
(.region [
m_ 92 0,
o_ 93 (.nilck (.t 92)),
o_ 94 (.fadr 0 (.t 93)),
o_ 95 (.fadr 2 (.t 94)),
o_ 96 (.load false 1 (.t 95)),
o_ 97 (.len .sli (.t 96)),
m_ 98 12,
o_ 99 (.bin .eql (.t 97) (.t 98))] false)
(.cond (.t 99)
(.seq
(.region [
m_ 100 0,
m_ 101 0,
o_ 102 (.nilck (.t 101)),
o_ 103 (.fadr 0 (.t 102)),
o_ 104 (.fadr 3 (.t 103)),
o_ 105 (.load false 1 (.t 104)),
m_ 106 11,
o_ 107 (.slice 4 (.t 105) none (some (.t 106)) none),
o_ 108 (.nilck (.t 100)),
o_ 109 (.fadr 0 (.t 108)),
o_ 110 (.fadr 3 (.t 109)),
⟨none, .store 1 (.t 110) (.t 107), none⟩] false)
(.seq
(.region [
m_ 111 2,
m_ 6 111] false)
.ret))
.skip))
(.seq
(.region [
m_ 112 0,
o_ 113 (.nilck (.t 112)),
o_ 114 (.fadr 0 (.t 113)),
o_ 115 (.fadr 3 (.t 114)),
o_ 116 (.load false 1 (.t 115)),
m_ 117 11,
m_ 118 0,
o_ 119 (.nilck (.t 118)),
o_ 120 (.fadr 0 (.t 119)),
o_ 121 (.fadr 2 (.t 120)),
o_ 122 (.load false 1 (.t 121)),
o_ 123 (.len .sli (.t 122)),
o_ 124 (.bin .sub (.t 123) (.c (.int .i64 1))),
o_ 125 (.idxa 4 (.t 116) (.t 117)),
o_ 126 (.fadr 1 (.t 125)),
⟨none, .store 1 (.t 126) (.t 124), none⟩] true)
(.seq
(.region [
m_ 127 2,
m_ 6 127] false)
.ret)))))))))))))),
[.t 6]⟩
theorem ok94 : okFunc Go.Proofs.Tryz.prog 94 lf94 = true := by kernel_rfl
def lf95 : LFunc := ⟨38, 3,
(.seq
(.region [
o_ 4 (.boxt 14 (.t 1)),
o_ 6 (.mv (.c (.int .i64 0)))] false)
(.seq
(.region [
m_ 8 0,
o_ 9 (.nilck (.t 8)),
o_ 10 (.fadr 9 (.t 9)),
o_ 11 (.load true 2 (.t 10)),
o_ 7 (.newv [.int .i64 0, .int .i64 0]),
⟨none, .store 2 (.t 7) (.t 11), none⟩] false)
(.seq
(.region [
m_ 12 0,
o_ 13 (.build [.int .i64 0, .int .i64 0] [(0, 1, .c (.int .i64 3))]),
o_ 14 (.nilck (.t 12)),
o_ 15 (.fadr 9 (.t 14)),
⟨none, .store 2 (.t 15) (.t 13), none⟩] false)
(.seq
(.region [
m_ 16 0,
m_ 17 2,
o_ 18 (.bin .add (.t 17) (.c (.int .i64 1))),
o_ 19 (.nilck (.t 16)),
o_ 20 (.fadr 14 (.t 19)),
⟨none, .store 1 (.t 20) (.t 18), none⟩] false)
(.seq
(.region [
m_ 21 0,
o_ 22 (.fadr 13 (.t 4)),
o_ 23 (.load false 1 (.t 22)),
o_ 24 (.call false (.c (.fn 58 [] [])) [.t 21, .t 23, .c (.int .i64 0)])] false)
(.seq
(.region [
m_ 25 0,
o_ 26 (.nilck (.t 25)),
o_ 27 (.fadr 14 (.t 26)),
o_ 28 (.load false 1 (.t 27)),
o_ 29 (.bin .sub (.t 28) (.c (.int .i64 1))),
m_ 2 29] false)
(.seq
(.region [
m_ 30 0,
m_ 31 0,
o_ 32 (.load true 2 (.t 7)),
o_ 33 (.nilck (.t 30)),
o_ 34 (.fadr 9 (.t 33)),
⟨none, .store 2 (.t 34) (.t 32), none⟩,
o_ 35 (.nilck (.t 31)),
o_ 36 (.fadr 14 (.t 35)),
⟨none, .store 1 (.t 36) (.c (.int .i64 0)), none⟩] false)
(.seq
(.region [
m_ 37 2,
m_ 6 37] false)
.ret)))))))),
[.t 6]⟩
theorem ok95 : okFunc Go.Proofs.Tryz.prog 95 lf95 = true := by kernel_rfl
def lf96 : LFunc := ⟨95, 2,
(.seq
(.region [
o_ 3 (.boxt 14 (.t 1))] false)
(.seq
(.region [
o_ 7 (.fadr 0 (.t 3)),
o_ 8 (.load false 1 (.t 7)),
o_ 9 (.fadr 1 (.t 3)),
o_ 10 (.load false 1 (.t 9)),
o_ 11 (.build [.int .i64 0, .int .i64 0] [(1, 1, .c (.int .i64 1))]),
o_ 12 (.build [.int .i64 0, .int .i64 0, .int .i64 0, .int .i64 0, .int .i64 0, .int .i64 0, .int .i64 0, .int .i64 0, .nils, .bool false, .int .i64 0, .int .i64 0, .str ⟨#[]⟩, .nils, .int .i64 0, .int .i64 0, .int .i64 0, .int .i64 0] [(0, 1, .t 8), (1, 1, .t 10), (4, 2, .t 11)]),
o_ 4 (.newv [.int .i64 0, .int .i64 0, .int .i64 0, .int .i64 0, .int .i64 0, .int .i64 0, .int .i64 0, .int .i64 0, .nils, .bool false, .int .i64 0, .int .i64 0, .str ⟨#[]⟩, .nils, .int .i64 0, .int .i64 0, .int .i64 0, .int .i64 0]),
⟨none, .store 18 (.t 4) (.t 12), none⟩] false)
(.seq
(.seq
(.region [
o_ 13 (.fadr 0 (.t 3)),
o_ 14 (.load false 1 (.t 13))] false)
(.block 0
(.seq
(.seq
(.region [
o_ 16 (.bin .eql (.t 14) (.c (.int .i64 9))),
m_ 15 16] false)
(.cond (.t 15)
.skip
(.region [
o_ 17 (.bin .eql (.t 14) (.c (.int .i64 10))),
m_ 15 17] false)))
(.cond (.t 15)
(.seq
(.region [
m_ 18 0,
o_ 19 (.nilck (.t 18)),
o_ 20 (.fadr 0 (.t 19)),
o_ 21 (.fadr 1 (.t 20)),
o_ 22 (.load false 1 (.t 21)),
o_ 23 (.bin .neq (.t 22) (.c (.int .i64 0)))] false)
(.cond (.t 23)
(.seq
(.region [
m_ 24 0,
o_ 25 (.fadr 1 (.t 3)),
o_ 26 (.load false 1 (.t 25)),
o_ 27 (.call false (.c (.fn 99 [] [])) [.t 24, .c (.int .i64 22), .t 26])] false)
.ret)
.skip))
(.seq
(.region [
o_ 29 (.bin .eql (.t 14) (.c (.int .i64 11))),
m_ 28 29] false)
(.cond (.t 28)
(.seq
(.seq
(.region [
m_ 30 0,
o_ 31 (.nilck (.t 30)),
o_ 32 (.fadr 0 (.t 31)),
o_ 33 (.fadr 1 (.t 32)),
o_ 34 (.load false 1 (.t 33)),
o_ 35 (.bin .neq (.t 34) (.c (.int .i64 0))),
m_ 36 35,
g_ 37 (.mv (.t 0)) 36 false,
g_ 38 (.nilck (.t 37)) 36 false,
g_ 39 (.fadr 0 (.t 38)) 36 false,
g_ 40 (.fadr 0 (.t 39)) 36 false,
g_ 41 (.load false 1 (.t 40)) 36 false,
g_ 42 (.bin .neq (.t 41) (.c (.int .i64 0))) 36 false,
o_ 43 (.pick (.t 36) (.c (.bool true)) (.t 42))] false)
(.cond (.t 43)
(.seq
(.region [
m_ 44 0,
o_ 45 (.fadr 1 (.t 3)),
o_ 46 (.load false 1 (.t 45)),
o_ 47 (.call false (.c (.fn 99 [] [])) [.t 44, .c (.int .i64 22), .t 46])] false)
.ret)
.skip))
(.region [
o_ 48 (.fadr 10 (.t 3)),
o_ 49 (.load false 1 (.t 48)),
o_ 50 (.fadr 11 (.t 3)),
o_ 51 (.loadF false 1 (.t 50)),
o_ 52 (.fadr 15 (.t 4)),
⟨none, .storeF 1 (.t 52) (.t 49), none⟩,
o_ 53 (.fadr 16 (.t 4)),
⟨none, .store 1 (.t 53) (.t 51), none⟩] true))
.skip))))))
(.seq
(.seq
(.region [
o_ 54 (.fadr 0 (.t 3)),
o_ 55 (.load false 1 (.t 54)),
o_ 56 (.bin .eql (.t 55) (.c (.int .i64 9)))] false)
(.cond (.t 56)
(.region [
o_ 58 (.fadr 12 (.t 3)),
o_ 59 (.load false 1 (.t 58)),
o_ 60 (.call false (.c (.fn 149 [] [])) [.t 59]),
m_ 57 60,
o_ 61 (.extract (.t 57) 0),
o_ 62 (.extract (.t 57) 1),
o_ 63 (.fadr 17 (.t 4)),
⟨none, .store 1 (.t 63) (.t 61), none⟩] false)
.skip))
(.seq
(.seq
(.region [
o_ 64 (.fadr 0 (.t 3)),
o_ 65 (.load false 1 (.t 64)),
o_ 66 (.bin .eql (.t 65) (.c (.int .i64 10)))] false)
(.cond (.t 66)
(.seq
(.region [
o_ 68 (.fadr 2 (.t 3)),
o_ 69 (.load false 1 (.t 68)),
o_ 70 (.idxa 3 (.t 69) (.c (.int .i64 0))),
o_ 71 (.fadr 0 (.t 70)),
o_ 72 (.load false 1 (.t 71)),
o_ 73 (.fadr 2 (.t 3)),
o_ 74 (.load false 1 (.t 73)),
o_ 75 (.idxa 3 (.t 74) (.c (.int .i64 0))),
o_ 76 (.fadr 1 (.t 75)),
o_ 77 (.load false 1 (.t 76)),
o_ 78 (.fadr 12 (.t 3)),
o_ 79 (.load false 1 (.t 78)),
o_ 80 (.bin .eql (.t 79) (.c (.str ⟨#[109, 105, 110, 111, 114]⟩))),
o_ 81 (.call false (.c (.fn 150 [] [])) [.t 72, .t 77, .t 80]),
m_ 67 81,
o_ 82 (.extract (.t 67) 0),
o_ 83 (.extract (.t 67) 1),
m_ 5 82,
m_ 6 83] true)
(.seq
(.seq
(.region [
m_ 84 6,
o_ 85 (.not (.t 84))] false)
(.cond (.t 85)
(.seq
(.region [
m_ 86 0,
o_ 87 (.fadr 1 (.t 3)),
o_ 88 (.load false 1 (.t 87)),
o_ 89 (.call false (.c (.fn 99 [] [])) [.t 86, .c (.int .i64 20), .t 88])] false)
.ret)
.skip))
(.region [
m_ 90 5,
o_ 91 (.fadr 15 (.t 4)),
⟨none, .store 1 (.t 91) (.t 90), none⟩] false)))
.skip))
(.region [
m_ 92 0,
o_ 93 (.load true 18 (.t 4)),
o_ 94 (.call false (.c (.fn 147 [] [])) [.t 92, .t 93])] false)))))),
[]⟩
theorem ok96 : okFunc Go.Proofs.Tryz.prog 96 lf96 = true := by kernel_rfl
def lf97 : LFunc := ⟨37, 2,
(.seq
(.region [
o_ 4 (.mv (.c (.int .i64 0)))] false)
(.seq
(.seq
(.region [
m_ 6 1,
o_ 7 (.bin .add (.t 6) (.c (.int .i64 1))),
m_ 5 7] false)
(.block 0
(.loop
(.seq
(.seq
(.region [
m_ 8 5,
m_ 9 0,
o_ 10 (.len .sli (.t 9)),
o_ 11 (.bin .lss (.t 8) (.t 10))] false)
(.cond (.t 11)
.skip
(.exit 0)))
(.seq
(.block 1
(.seq
(.region [
m_ 14 0,
m_ 15 5,
o_ 16 (.idxa 18 (.t 14) (.t 15)),
o_ 17 (.fadr 0 (.t 16)),
o_ 18 (.load false 1 (.t 17)),
o_ 19 (.bin .leq (.t 18) (.c (.int .i64 4))),
m_ 20 19,
g_ 21 (.mv (.t 0)) 20 true,
g_ 22 (.mv (.t 5)) 20 true,
g_ 23 (.idxa 18 (.t 21) (.t 22)) 20 true,
g_ 24 (.fadr 14 (.t 23)) 20 true,
g_ 25 (.load false 1 (.t 24)) 20 true,
g_ 26 (.bin .eql (.t 25) (.c (.int .i64 0))) 20 true,
g_ 27 (.mv (.t 26)) 20 true,
g_ 28 (.mv (.t 0)) 27 false,
g_ 29 (.mv (.t 1)) 27 false,
g_ 30 (.idxa 18 (.t 28) (.t 29)) 27 false,
g_ 31 (.fadr 14 (.t 30)) 27 false,
g_ 32 (.load false 1 (.t 31)) 27 false,
g_ 33 (.bin .gtr (.t 32) (.c (.int .i64 0))) 27 false,
g_ 34 (.pick (.t 27) (.c (.bool true)) (.t 33)) 20 true,
o_ 35 (.pick (.t 20) (.t 34) (.c (.bool false)))] false)
(.cond (.t 35)
(.seq
(.region [
m_ 36 5,
m_ 4 36] false)
.ret)
.skip)))
(.region [
m_ 12 5,
o_ 13 (.bin .add (.t 12) (.c (.int .i64 1))),
m_ 5 13] false))))))
(.seq
(.region [
o_ 4 (.mv (.c (.int .i64 (-1))))] false)
.ret))),
[.t 4]⟩
theorem ok97 : okFunc Go.Proofs.Tryz.prog 97 lf97 = true := by kernel_rfl
def lf98 : LFunc := ⟨34, 2,
(.seq
(.region [
o_ 4 (.mv (.c (.bool false)))] false)
(.seq
(.seq
(.region [
o_ 5 (.mv (.c (.int .i64 0)))] false)
(.block 0
(.loop
(.seq
(.seq
(.region [
m_ 8 5,
m_ 9 1,
o_ 10 (.len .sli (.t 9)),
o_ 11 (.bin .lss (.t 8) (.t 10))] false)
(.cond (.t 11)
.skip
(.exit 0)))
(.seq
(.block 1
(.seq
(.region [
o_ 6 (.mv (.c (.bool false)))] false)
(.seq
(.seq
(.region [
o_ 7 (.mv (.c (.int .i64 0)))] false)
(.block 2
(.loop
(.seq
(.seq
(.region [
m_ 14 7,
m_ 15 0,
o_ 16 (.len .sli (.t 15)),
o_ 17 (.bin .lss (.t 14) (.t 16))] false)
(.cond (.t 17)
.skip
(.exit 2)))
(.seq
(.block 3
(.region [
m_ 20 6,
m_ 21 20,
g_ 22 (.mv (.t 0)) 21 false,
g_ 23 (.mv (.t 7)) 21 false,
g_ 24 (.idxa 3 (.t 22) (.t 23)) 21 false,
g_ 25 (.load true 3 (.t 24)) 21 false,
g_ 26 (.mv (.t 1)) 21 false,
g_ 27 (.mv (.t 5)) 21 false,
g_ 28 (.idxa 3 (.t 26) (.t 27)) 21 false,
g_ 29 (.load true 3 (.t 28)) 21 false,
g_ 30 (.eq false (.ag [.i, .i, .i]) (.t 25) (.t 29)) 21 false,
o_ 31 (.pick (.t 21) (.c (.bool true)) (.t 30)),
m_ 6 31] true))
(.region [
m_ 18 7,
o_ 19 (.bin .add (.t 18) (.c (.int .i64 1))),
m_ 7 19] false))))))
(.seq
(.region [
m_ 32 6,
o_ 33 (.not (.t 32))] false)
(.cond (.t 33)
(.seq
(.region [
o_ 4 (.mv (.c (.bool false)))] false)
.ret)
.skip)))))
(.region [
m_ 12 5,
o_ 13 (.bin .add (.t 12) (.c (.int .i64 1))),
m_ 5 13] false))))))
(.seq
(.region [
o_ 4 (.mv (.c (.bool true)))] false)
.ret))),
[.t 4]⟩
theorem ok98 : okFunc Go.Proofs.Tryz.prog 98 lf98 = true := by kernel_rfl
def lf99 : LFunc := ⟨18, 3,
(.seq
(.region [
m_ 6 0,
o_ 7 (.nilck (.t 6)),
o_ 8 (.fadr 16 (.t 7)),
o_ 9 (.fadr 0 (.t 8)),
o_ 10 (.load false 1 (.t 9)),
o_ 11 (.bin .eql (.t 10) (.c (.int .i64 0)))] false)
(.cond (.t 11)
(.region [
m_ 12 0,
m_ 13 1,
m_ 14 2,
o_ 15 (.build [.int .i64 0, .int .i64 0] [(0, 1, .t 13), (1, 1, .t 14)]),
o_ 16 (.nilck (.t 12)),
o_ 17 (.fadr 16 (.t 16)),
⟨none, .store 2 (.t 17) (.t 15), none⟩] false)
.skip)),
[]⟩
theorem ok99 : okFunc Go.Proofs.Tryz.prog 99 lf99 = true := by kernel_rfl
def lf100 : LFunc := ⟨11, 2,
(.seq
(.region [
o_ 2 (.boxt 2 (.t 0)),
o_ 3 (.boxt 2 (.t 1)),
o_ 4 (.mv (.c (.bool false)))] false)
(.seq
(.region [
o_ 5 (.load true 2 (.t 2)),
o_ 6 (.call false (.c (.fn 110 [] [])) [.t 5]),
m_ 7 6,
g_ 8 (.load true 2 (.t 3)) 7 true,
g_ 9 (.call false (.c (.fn 110 [] [])) [.t 8]) 7 true,
o_ 10 (.pick (.t 7) (.t 9) (.c (.bool false))),
m_ 4 10] false)
.ret)),
[.t 4]⟩
theorem ok100 : okFunc Go.Proofs.Tryz.prog 100 lf100 = true := by kernel_rfl
def lf101 : LFunc := ⟨27, 1,
(.seq
(.region [
o_ 1 (.boxt 7 (.t 0)),
o_ 2 (.mv (.c (.nilm)))] false)
(.seq
(.region [
o_ 6 (.mkmap),
m_ 3 6] false)
(.seq
(.seq
(.region [
o_ 7 (.fadr 2 (.t 1)),
o_ 8 (.load false 1 (.t 7)),
o_ 9 (.len .sli (.t 8)),
o_ 10 (.mv (.c (.int .i64 0)))] false)
(.block 0
(.loop
(.seq
(.region [
o_ 11 (.bin .lss (.t 10) (.t 9))] false)
(.seq
(.cond (.t 11)
.skip
(.exit 0))
(.seq
(.block 1
(.seq
(.region [
o_ 12 (.idxa 18 (.t 8) (.t 10)),
o_ 13 (.load true 18 (.t 12)),
o_ 5 (.newv [.int .i64 0, .int .i64 0, .int .i64 0, .int .i64 0, .int .i64 0, .int .i64 0, .int .i64 0, .int .i64 0, .nils, .bool false, .int .i64 0, .int .i64 0, .str ⟨#[]⟩, .nils, .int .i64 0, .int .i64 0, .int .i64 0, .int .i64 0]),
⟨none, .store 18 (.t 5) (.t 13), none⟩] false)
(.seq
(.region [
o_ 14 (.fadr 0 (.t 5)),
o_ 15 (.load false 1 (.t 14)),
o_ 16 (.bin .eql (.t 15) (.c (.int .i64 11)))] false)
(.cond (.t 16)
(.region [
m_ 17 3,
o_ 18 (.fadr 2 (.t 5)),
o_ 19 (.load true 2 (.t 18)),
o_ 20 (.fadr 15 (.t 5)),
o_ 21 (.load false 1 (.t 20)),
o_ 22 (.fadr 16 (.t 5)),
o_ 23 (.load false 1 (.t 22)),
o_ 24 (.build [.int .i64 0, .int .i64 0] [(0, 1, .t 21), (1, 1, .t 23)]),
⟨none, .mapupd (.ag [.i, .i]) (.t 17) (.t 19) (.t 24), none⟩] false)
.skip))))
(.region [
o_ 25 (.bin .add (.t 10) (.c (.int .i64 1))),
m_ 10 25] false)))))))
(.seq
(.region [
m_ 26 3,
m_ 2 26] false)
.ret)))),
[.t 2]⟩
theorem ok101 : okFunc Go.Proofs.Tryz.prog 101 lf101 = true := by kernel_rfl
def lf102 : LFunc := ⟨2, 0,
(.seq
(.region [
o_ 0 (.newv [.int .i64 0, .int .i64 0])] false)
(.seq
(.region [
o_ 1 (.build [.int .i64 0, .int .i64 0] [(1, 1, .c (.int .i64 1))]),
⟨none, .store 2 (.t 0) (.t 1), none⟩] false)
.ret)),
[.cell true 2 0]⟩
theorem ok102 : okFunc Go.Proofs.Tryz.prog 102 lf102 = true := by kernel_rfl
def lf103 : LFunc := ⟨21, 1,
(.seq
(.region [
o_ 1 (.boxt 4 (.t 0)),
o_ 2 (.newv [.int .i64 0, .int .i64 0])] false)
(.seq
(.region [
o_ 8 (.fadr 2 (.t 1)),
o_ 9 (.load true 2 (.t 8)),
o_ 10 (.call false (.c (.fn 151 [] [])) [.t 9]),
m_ 7 10,
o_ 11 (.extract (.t 7) 0),
o_ 12 (.extract (.t 7) 1),
o_ 3 (.newv [.int .i64 0, .int .i64 0]),
⟨none, .store 2 (.t 3) (.t 11), none⟩,
m_ 4 12] false)
(.seq
(.region [
o_ 14 (.fadr 0 (.t 1)),
o_ 15 (.load true 2 (.t 14)),
o_ 16 (.load true 2 (.t 3)),
o_ 17 (.call false (.c (.fn 74 [] [])) [.t 15, .t 16]),
m_ 13 17,
o_ 18 (.extract (.t 13) 0),
o_ 19 (.extract (.t 13) 1),
o_ 5 (.newv [.int .i64 0, .int .i64 0]),
⟨none, .store 2 (.t 5) (.t 18), none⟩,
m_ 6 19] false)
(.seq
(.region [
o_ 20 (.load true 2 (.t 5)),
⟨none, .store 2 (.t 2) (.t 20), none⟩] false)
.ret)))),
[.cell true 2 2]⟩
theorem ok103 : okFunc Go.Proofs.Tryz.prog 103 lf103 = true := by kernel_rfl
def lf104 : LFunc := ⟨33, 2,
(.seq
(.region [
o_ 3 (.boxt 2 (.t 1)),
o_ 4 (.mv (.c (.bool false)))] false)
(.seq
(.region [
m_ 6 0,
o_ 7 (.load true 2 (.t 3)),
o_ 8 (.call false (.c (.fn 152 [] [])) [.t 6, .t 7]),
m_ 5 8] false)
(.seq
(.region [
m_ 9 5,
m_ 10 0,
o_ 11 (.len .sli (.t 10)),
o_ 12 (.bin .lss (.t 9) (.t 11)),
m_ 13 12,
g_ 14 (.mv (.t 0)) 13 true,
g_ 15 (.mv (.t 5)) 13 true,
g_ 16 (.idxa 4 (.t 14) (.t 15)) 13 true,
g_ 17 (.fadr 0 (.t 16)) 13 true,
g_ 18 (.load true 2 (.t 17)) 13 true,
g_ 19 (.load true 2 (.t 3)) 13 true,
g_ 20 (.eq false (.ag [.i, .i]) (.t 18) (.t 19)) 13 true,
o_ 21 (.pick (.t 13) (.t 20) (.c (.bool false))),
m_ 22 21,
g_ 23 (.mv (.t 0)) 22 false,
g_ 24 (.mv (.t 0)) 22 false,
g_ 25 (.len .sli (.t 24)) 22 false,
g_ 26 (.bin .sub (.t 25) (.c (.int .i64 1))) 22 false,
g_ 27 (.idxa 4 (.t 23) (.t 26)) 22 false,
g_ 28 (.load true 4 (.t 27)) 22 false,
g_ 29 (.call false (.c (.fn 103 [] [])) [.t 28]) 22 false,
g_ 30 (.load true 2 (.t 3)) 22 false,
g_ 31 (.eq false (.ag [.i, .i]) (.t 29) (.t 30)) 22 false,
o_ 32 (.pick (.t 22) (.c (.bool true)) (.t 31)),
m_ 4 32] true)
.ret))),
[.t 4]⟩
theorem ok104 : okFunc Go.Proofs.Tryz.prog 104 lf104 = true := by kernel_rfl
def lf105 : LFunc := ⟨37, 2,
(.seq
(.region [
o_ 3 (.boxt 18 (.t 1)),
o_ 4 (.mv (.c (.bool false)))] false)
(.seq
(.region [
m_ 8 0,
o_ 9 (.fadr 2 (.t 3)),
o_ 10 (.load true 2 (.t 9)),
o_ 11 (.call false (.c (.fn 152 [] [])) [.t 8, .t 10]),
m_ 5 11] false)
(.seq
(.seq
(.region [
m_ 12 5,
m_ 13 0,
o_ 14 (.len .sli (.t 13)),
o_ 15 (.bin .eql (.t 12) (.t 14)),
m_ 16 15,
g_ 17 (.fadr 0 (.t 3)) 16 false,
g_ 18 (.load false 1 (.t 17)) 16 false,
g_ 19 (.bin .gtr (.t 18) (.c (.int .i64 4))) 16 false,
o_ 20 (.pick (.t 16) (.c (.bool true)) (.t 19))] false)
(.cond (.t 20)
(.seq
(.region [
o_ 4 (.mv (.c (.bool false)))] false)
.ret)
.skip))
(.seq
(.region [
o_ 22 (.fadr 2 (.t 3)),
o_ 23 (.load true 2 (.t 22)),
o_ 24 (.fadr 4 (.t 3)),
o_ 25 (.load true 2 (.t 24)),
o_ 26 (.call false (.c (.fn 74 [] [])) [.t 23, .t 25]),
m_ 21 26,
o_ 27 (.extract (.t 21) 0),
o_ 28 (.extract (.t 21) 1),
o_ 6 (.newv [.int .i64 0, .int .i64 0]),
⟨none, .store 2 (.t 6) (.t 27), none⟩,
m_ 7 28] false)
(.seq
(.region [
o_ 29 (.load true 2 (.t 6)),
m_ 30 0,
m_ 31 5,
o_ 32 (.idxa 4 (.t 30) (.t 31)),
o_ 33 (.load true 4 (.t 32)),
o_ 34 (.call false (.c (.fn 103 [] [])) [.t 33]),
o_ 35 (.call false (.c (.fn 62 [] [])) [.t 29, .t 34]),
o_ 36 (.bin .gtr (.t 35) (.c (.int .i64 0))),
m_ 4 36] true)
.ret))))),
[.t 4]⟩
theorem ok105 : okFunc Go.Proofs.Tryz.prog 105 lf105 = true := by kernel_rfl
def lf106 : LFunc := ⟨28, 2,
(.seq
(.region [
o_ 3 (.boxt 2 (.t 1)),
o_ 4 (.mv (.c (.int .i64 0))),
o_ 5 (.mv (.c (.bool false)))] false)
(.seq
(.seq
(.region [
m_ 7 0,
o_ 8 (.call false (.c (.fn 153 [] [])) [.t 7]),
o_ 9 (.not (.t 8)),
m_ 10 9,
g_ 11 (.load true 2 (.t 3)) 10 false,
g_ 12 (.call false (.c (.fn 110 [] [])) [.t 11]) 10 false,
g_ 13 (.not (.t 12)) 10 false,
o_ 14 (.pick (.t 10) (.c (.bool true)) (.t 13)),
m_ 15 14,
g_ 16 (.fadr 0 (.t 3)) 15 false,
g_ 17 (.load false 1 (.t 16)) 15 false,
g_ 18 (.bin .lss (.t 17) (.c (.int .i64 0))) 15 false,
o_ 19 (.pick (.t 15) (.c (.bool true)) (.t 18))] false)
(.cond (.t 19)
(.seq
(.region [
o_ 4 (.mv (.c (.int .i64 0))),
o_ 5 (.mv (.c (.bool false)))] false)
.ret)
.skip))
(.seq
(.region [
m_ 20 0,
o_ 21 (.load true 2 (.t 3)),
o_ 22 (.call false (.c (.fn 152 [] [])) [.t 20, .t 21]),
m_ 6 22] false)
(.seq
(.seq
(.region [
m_ 23 6,
m_ 24 0,
o_ 25 (.len .sli (.t 24)),
o_ 26 (.bin .eql (.t 23) (.t 25))] false)
(.cond (.t 26)
(.seq
(.region [
o_ 4 (.mv (.c (.int .i64 0))),
o_ 5 (.mv (.c (.bool false)))] false)
.ret)
.skip))
(.seq
(.region [
m_ 27 6,
m_ 4 27,
o_ 5 (.mv (.c (.bool true)))] false)
.ret))))),
[.t 4, .t 5]⟩
theorem ok106 : okFunc Go.Proofs.Tryz.prog 106 lf106 = true := by kernel_rfl
def lf107 : LFunc := ⟨33, 2,
(.seq
(.region [
o_ 3 (.boxt 2 (.t 1)),
o_ 4 (.newv [.int .i64 0, .int .i64 0]),
o_ 5 (.mv (.c (.bool false)))] false)
(.seq
(.region [
m_ 11 0,
o_ 12 (.load true 2 (.t 3)),
o_ 13 (.call false (.c (.fn 106 [] [])) [.t 11, .t 12]),
m_ 10 13,
o_ 14 (.extract (.t 10) 0),
o_ 15 (.extract (.t 10) 1),
m_ 6 14,
m_ 7 15] false)
(.seq
(.seq
(.region [
m_ 16 7,
o_ 17 (.not (.t 16))] false)
(.cond (.t 17)
(.seq
(.region [
o_ 18 (.build [.int .i64 0, .int .i64 0] []),
⟨none, .store 2 (.t 4) (.t 18), none⟩,
o_ 5 (.mv (.c (.bool false)))] false)
.ret)
.skip))
(.seq
(.region [
o_ 20 (.load true 2 (.t 3)),
m_ 21 0,
m_ 22 6,
o_ 23 (.idxa 4 (.t 21) (.t 22)),
o_ 24 (.fadr 0 (.t 23)),
o_ 25 (.load true 2 (.t 24)),
o_ 26 (.call false (.c (.fn 154 [] [])) [.t 20, .t 25]),
m_ 19 26,
o_ 27 (.extract (.t 19) 0),
o_ 28 (.extract (.t 19) 1),
o_ 8 (.newv [.int .i64 0, .int .i64 0]),
⟨none, .store 2 (.t 8) (.t 27), none⟩,
m_ 9 28] true)
(.seq
(.seq
(.region [
m_ 29 9,
o_ 30 (.bin .neq (.t 29) (.c (.int .i64 0)))] false)
(.cond (.t 30)
(.seq
(.region [
o_ 31 (.build [.int .i64 0, .int .i64 0] []),
⟨none, .store 2 (.t 4) (.t 31), none⟩,
o_ 5 (.mv (.c (.bool false)))] false)
.ret)
.skip))
(.seq
(.region [
o_ 32 (.load true 2 (.t 8)),
⟨none, .store 2 (.t 4) (.t 32), none⟩,
o_ 5 (.mv (.c (.bool true)))] false)
.ret)))))),
[.cell true 2 4, .t 5]⟩
theorem ok107 : okFunc Go.Proofs.Tryz.prog 107 lf107 = true := by kernel_rfl
def lf108 : LFunc := ⟨74, 2,
(.seq
(.region [
o_ 2 (.boxt 2 (.t 0)),
o_ 3 (.boxt 2 (.t 1)),
o_ 4 (.mv (.c (.int .i64 0))),
o_ 5 (.mv (.c (.int .i64 0)))] false)
(.seq
(.region [
o_ 17 (.load true 2 (.t 2)),
o_ 18 (.call false (.c (.fn 151 [] [])) [.t 17]),
m_ 16 18,
o_ 19 (.extract (.t 16) 0),
o_ 20 (.extract (.t 16) 1),
o_ 6 (.newv [.int .i64 0, .int .i64 0]),
⟨none, .store 2 (.t 6) (.t 19), none⟩,
m_ 7 20] false)
(.seq
(.seq
(.region [
m_ 21 7,
o_ 22 (.bin .neq (.t 21) (.c (.int .i64 0))),
m_ 23 22,
g_ 24 (.load true 2 (.t 3)) 23 false,
g_ 25 (.call false (.c (.fn 110 [] [])) [.t 24]) 23 false,
g_ 26 (.not (.t 25)) 23 false,
o_ 27 (.pick (.t 23) (.c (.bool true)) (.t 26)),
m_ 28 27,
g_ 29 (.fadr 0 (.t 3)) 28 false,
g_ 30 (.load false 1 (.t 29)) 28 false,
g_ 31 (.bin .lss (.t 30) (.c (.int .i64 0))) 28 false,
o_ 32 (.pick (.t 28) (.c (.bool true)) (.t 31)),
m_ 33 32,
g_ 34 (.load true 2 (.t 3)) 33 false,
g_ 35 (.load true 2 (.t 6)) 33 false,
g_ 36 (.call false (.c (.fn 62 [] [])) [.t 34, .t 35]) 33 false,
g_ 37 (.bin .geq (.t 36) (.c (.int .i64 0))) 33 false,
o_ 38 (.pick (.t 33) (.c (.bool true)) (.t 37))] false)
(.cond (.t 38)
(.seq
(.region [
o_ 4 (.mv (.c (.int .i64 0))),
o_ 5 (.mv (.c (.int .i64 2)))] false)
.ret)
.skip))
(.seq
(.region [
o_ 40 (.fadr 1 (.t 2)),
o_ 41 (.load false 1 (.t 40)),
o_ 42 (.call false (.c (.fn 155 [] [])) [.t 41, .c (.int .i64 1)]),
m_ 39 42,
o_ 43 (.extract (.t 39) 0),
o_ 44 (.extract (.t 39) 1),
o_ 8 (.newv [.int .i64 0, .int .i64 0]),
⟨none, .store 2 (.t 8) (.t 43), none⟩,
m_ 9 44] false)
(.seq
(.region [
o_ 46 (.load true 2 (.t 3)),
o_ 47 (.load true 2 (.t 8)),
o_ 48 (.call false (.c (.fn 156 [] [])) [.t 46, .t 47]),
m_ 45 48,
o_ 49 (.extract (.t 45) 0),
o_ 50 (.extract (.t 45) 1),
o_ 10 (.newv [.int .i64 0, .int .i64 0]),
⟨none, .store 2 (.t 10) (.t 49), none⟩,
m_ 11 50] false)
(.seq
(.seq
(.region [
m_ 51 11,
o_ 52 (.bin .neq (.t 51) (.c (.int .i64 0)))] false)
(.cond (.t 52)
(.seq
(.region [
o_ 54 (.load true 2 (.t 2)),
o_ 55 (.call false (.c (.fn 157 [] [])) [.t 54]),
m_ 53 55,
o_ 56 (.extract (.t 53) 0),
o_ 57 (.extract (.t 53) 1),
m_ 12 56,
m_ 13 57] false)
(.seq
(.region [
m_ 59 12,
o_ 60 (.load true 2 (.t 3)),
o_ 61 (.call false (.c (.fn 158 [] [])) [.t 59, .t 60, .c (.fn 62 [] [])]),
m_ 58 61,
o_ 62 (.extract (.t 58) 0),
o_ 63 (.extract (.t 58) 1),
m_ 14 62,
m_ 15 63] false)
(.seq
(.seq
(.region [
m_ 64 15,
o_ 65 (.not (.t 64))] false)
(.cond (.t 65)
(.region [
m_ 66 14,
o_ 67 (.bin .sub (.t 66) (.c (.int .i64 1))),
m_ 14 67] false)
.skip))
(.seq
(.region [
m_ 68 14,
m_ 4 68,
o_ 5 (.mv (.c (.int .i64 0)))] false)
.ret))))
.skip))
(.seq
(.region [
o_ 69 (.load true 2 (.t 10)),
o_ 70 (.call false (.c (.fn 159 [] [])) [.t 69]),
o_ 71 (.load true 2 (.t 2)),
o_ 72 (.call false (.c (.fn 160 [] [])) [.t 71]),
o_ 73 (.bin .quo (.t 70) (.t 72)),
m_ 4 73,
o_ 5 (.mv (.c (.int .i64 0)))] true)
.ret))))))),
[.t 4, .t 5]⟩
theorem ok108 : okFunc Go.Proofs.Tryz.prog 108 lf108 = true := by kernel_rfl
def lf109 : LFunc := ⟨11, 1,
(.seq
(.region [
o_ 1 (.boxt 18 (.t 0)),
o_ 2 (.mv (.c (.bool false)))] false)
(.seq
(.region [
o_ 3 (.fadr 0 (.t 1)),
o_ 4 (.load false 1 (.t 3)),
o_ 5 (.bin .geq (.t 4) (.c (.int .i64 1))),
m_ 6 5,
g_ 7 (.fadr 0 (.t 1)) 6 true,
g_ 8 (.load false 1 (.t 7)) 6 true,
g_ 9 (.bin .leq (.t 8) (.c (.int .i64 4))) 6 true,
o_ 10 (.pick (.t 6) (.t 9) (.c (.bool false))),
m_ 2 10] false)
.ret)),
[.t 2]⟩
theorem ok109 : okFunc Go.Proofs.Tryz.prog 109 lf109 = true := by kernel_rfl
def lf110 : LFunc := ⟨28, 1,
(.seq
(.region [
o_ 1 (.boxt 2 (.t 0)),
o_ 2 (.mv (.c (.bool false)))] false)
(.seq
(.seq
(.region [
o_ 3 (.fadr 1 (.t 1)),
o_ 4 (.load false 1 (.t 3)),
o_ 5 (.bin .lss (.t 4) (.c (.int .i64 1))),
m_ 6 5,
g_ 7 (.fadr 1 (.t 1)) 6 false,
g_ 8 (.load false 1 (.t 7)) 6 false,
g_ 9 (.bin .gtr (.t 8) (.c (.int .i64 1048576))) 6 false,
o_ 10 (.pick (.t 6) (.c (.bool true)) (.t 9)),
m_ 11 10,
g_ 12 (.fadr 0 (.t 1)) 11 false,
g_ 13 (.load false 1 (.t 12)) 11 false,
g_ 14 (.bin .lss (.t 13) (.c (.int .i64 (-1099511627776)))) 11 false,
o_ 15 (.pick (.t 11) (.c (.bool true)) (.t 14)),
m_ 16 15,
g_ 17 (.fadr 0 (.t 1)) 16 false,
g_ 18 (.load false 1 (.t 17)) 16 false,
g_ 19 (.bin .gtr (.t 18) (.c (.int .i64 1099511627776))) 16 false,
o_ 20 (.pick (.t 16) (.c (.bool true)) (.t 19))] false)
(.cond (.t 20)
(.seq
(.region [
o_ 2 (.mv (.c (.bool false)))] false)
.ret)
.skip))
(.seq
(.region [
o_ 21 (.fadr 0 (.t 1)),
o_ 22 (.load false 1 (.t 21)),
o_ 23 (.call false (.c (.fn 161 [] [])) [.t 22]),
o_ 24 (.fadr 1 (.t 1)),
o_ 25 (.load false 1 (.t 24)),
o_ 26 (.call false (.c (.fn 119 [] [])) [.t 23, .t 25]),
o_ 27 (.bin .eql (.t 26) (.c (.int .i64 1))),
m_ 2 27] true)
.ret))),
[.t 2]⟩
theorem ok110 : okFunc Go.Proofs.Tryz.prog 110 lf110 = true := by kernel_rfl
def lf111 : LFunc := ⟨26, 2,
(.seq
(.region [
o_ 4 (.mv (.c (.bool false)))] false)
(.seq
(.seq
(.region [
m_ 6 0,
o_ 7 (.len .sli (.t 6)),
m_ 8 1,
o_ 9 (.len .sli (.t 8)),
o_ 10 (.bin .neq (.t 7) (.t 9))] false)
(.cond (.t 10)
(.seq
(.region [
o_ 4 (.mv (.c (.bool false)))] false)
.ret)
.skip))
(.seq
(.seq
(.region [
m_ 11 0,
o_ 12 (.len .sli (.t 11)),
o_ 13 (.mv (.c (.int .i64 0)))] false)
(.block 0
(.loop
(.seq
(.region [
o_ 14 (.bin .lss (.t 13) (.t 12))] false)
(.seq
(.cond (.t 14)
.skip
(.exit 0))
(.seq
(.block 1
(.seq
(.region [
m_ 15 13,
m_ 5 15] false)
(.seq
(.region [
m_ 16 0,
m_ 17 5,
o_ 18 (.idxa 1 (.t 16) (.t 17)),
o_ 19 (.load false 1 (.t 18)),
m_ 20 1,
m_ 21 5,
o_ 22 (.idxa 1 (.t 20) (.t 21)),
o_ 23 (.load false 1 (.t 22)),
o_ 24 (.bin .neq (.t 19) (.t 23))] true)
(.cond (.t 24)
(.seq
(.region [
o_ 4 (.mv (.c (.bool false)))] false)
.ret)
.skip))))
(.region [
o_ 25 (.bin .add (.t 13) (.c (.int .i64 1))),
m_ 13 25] false)))))))
(.seq
(.region [
o_ 4 (.mv (.c (.bool true)))] false)
.ret)))),
[.t 4]⟩
theorem ok111 : okFunc Go.Proofs.Tryz.prog 111 lf111 = true := by kernel_rfl
def lf112 : LFunc := ⟨32, 2,
(.seq
(.region [
o_ 2 (.boxt 7 (.t 0)),
o_ 4 (.mv (.c (.nils)))] false)
(.seq
(.region [
o_ 5 (.own 1)] false)
(.seq
(.seq
(.region [
o_ 8 (.fadr 3 (.t 2)),
o_ 9 (.load false 1 (.t 8)),
o_ 10 (.len .sli (.t 9)),
o_ 11 (.mv (.c (.int .i64 0)))] false)
(.block 0
(.loop
(.seq
(.region [
o_ 12 (.bin .lss (.t 11) (.t 10))] false)
(.seq
(.cond (.t 12)
.skip
(.exit 0))
(.seq
(.block 1
(.seq
(.region [
m_ 13 11,
o_ 14 (.idxa 4 (.t 9) (.t 11)),
o_ 15 (.load true 4 (.t 14)),
o_ 7 (.newv [.int .i64 0, .int .i64 0, .int .i64 0, .int .i64 0]),
m_ 6 13,
⟨none, .store 4 (.t 7) (.t 15), none⟩] false)
(.seq
(.region [
o_ 16 (.fadr 0 (.t 7)),
o_ 17 (.load false 1 (.t 16)),
m_ 18 1,
o_ 19 (.bin .leq (.t 17) (.t 18)),
m_ 20 19,
g_ 21 (.mv (.t 1)) 20 true,
g_ 22 (.fadr 1 (.t 7)) 20 true,
g_ 23 (.load false 1 (.t 22)) 20 true,
g_ 24 (.bin .leq (.t 21) (.t 23)) 20 true,
o_ 25 (.pick (.t 20) (.t 24) (.c (.bool false)))] false)
(.cond (.t 25)
(.region [
m_ 26 5,
m_ 27 6,
o_ 28 (.btsl 1 1 [.int .i64 0] [(0, .t 27)]),
o_ 29 (.append 1 8 (.t 26) (.t 28)),
m_ 5 29] false)
.skip))))
(.region [
o_ 30 (.bin .add (.t 11) (.c (.int .i64 1))),
m_ 11 30] false)))))))
(.seq
(.region [
m_ 31 5,
m_ 4 31] false)
.ret)))),
[.t 4]⟩
theorem ok112 : okFunc Go.Proofs.Tryz.prog 112 lf112 = true := by kernel_rfl
def lf113 : LFunc := ⟨33, 1,
(.seq
(.region [
o_ 2 (.mv (.c (.bool false)))] false)
(.seq
(.seq
(.region [
m_ 5 0,
o_ 6 (.len .sli (.t 5)),
o_ 7 (.mv (.c (.int .i64 0)))] false)
(.block 0
(.loop
(.seq
(.region [
o_ 8 (.bin .lss (.t 7) (.t 6))] false)
(.seq
(.cond (.t 8)
.skip
(.exit 0))
(.seq
(.block 1
(.seq
(.region [
m_ 9 7,
o_ 10 (.idxa 3 (.t 5) (.t 7)),
o_ 11 (.load true 3 (.t 10)),
o_ 4 (.newv [.int .i64 0, .int .i64 0, .int .i64 0]),
m_ 3 9,
⟨none, .store 3 (.t 4) (.t 11), none⟩] false)
(.seq
(.region [
o_ 12 (.load true 3 (.t 4)),
o_ 13 (.call false (.c (.fn 162 [] [])) [.t 12]),
o_ 14 (.not (.t 13)),
m_ 15 14,
g_ 16 (.mv (.t 3)) 15 false,
g_ 17 (.bin .gtr (.t 16) (.c (.int .i64 0))) 15 false,
g_ 18 (.mv (.t 17)) 15 false,
g_ 19 (.mv (.t 0)) 18 true,
g_ 20 (.mv (.t 3)) 18 true,
g_ 21 (.bin .sub (.t 20) (.c (.int .i64 1))) 18 true,
g_ 22 (.idxa 3 (.t 19) (.t 21)) 18 true,
g_ 23 (.load true 3 (.t 22)) 18 true,
g_ 24 (.load true 3 (.t 4)) 18 true,
g_ 25 (.call false (.c (.fn 163 [] [])) [.t 23, .t 24]) 18 true,
g_ 26 (.bin .geq (.t 25) (.c (.int .i64 0))) 18 true,
g_ 27 (.pick (.t 18) (.t 26) (.c (.bool false))) 15 false,
o_ 28 (.pick (.t 15) (.c (.bool true)) (.t 27))] true)
(.cond (.t 28)
(.seq
(.region [
o_ 2 (.mv (.c (.bool false)))] false)
.ret)
.skip))))
(.region [
o_ 29 (.bin .add (.t 7) (.c (.int .i64 1))),
m_ 7 29] false)))))))
(.seq
(.region [
m_ 30 0,
o_ 31 (.len .sli (.t 30)),
o_ 32 (.bin .leq (.t 31) (.c (.int .i64 16))),
m_ 2 32] false)
.ret))),
[.t 2]⟩
theorem ok113 : okFunc Go.Proofs.Tryz.prog 113 lf113 = true := by kernel_rfl
def lf114 : LFunc := ⟨93, 2,
(.seq
(.region [
o_ 2 (.boxt 7 (.t 0)),
o_ 3 (.boxt 18 (.t 1)),
o_ 4 (.mv (.c (.bool false)))] false)
(.seq
(.seq
(.region [
o_ 5 (.fadr 0 (.t 3)),
o_ 6 (.load false 1 (.t 5))] false)
(.block 0
(.seq
(.region [
o_ 8 (.bin .eql (.t 6) (.c (.int .i64 9))),
m_ 7 8] false)
(.cond (.t 7)
(.seq
(.region [
o_ 9 (.fadr 1 (.t 2)),
o_ 10 (.load false 1 (.t 9)),
o_ 11 (.bin .eql (.t 10) (.c (.int .i64 0))),
m_ 12 11,
g_ 13 (.fadr 17 (.t 3)) 12 true,
g_ 14 (.load false 1 (.t 13)) 12 true,
g_ 15 (.bin .geq (.t 14) (.c (.int .i64 26))) 12 true,
o_ 16 (.pick (.t 12) (.t 15) (.c (.bool false))),
m_ 17 16,
g_ 18 (.fadr 17 (.t 3)) 17 true,
g_ 19 (.load false 1 (.t 18)) 17 true,
g_ 20 (.bin .leq (.t 19) (.c (.int .i64 29))) 17 true,
o_ 21 (.pick (.t 17) (.t 20) (.c (.bool false))),
m_ 22 21,
g_ 23 (.fadr 15 (.t 3)) 22 true,
g_ 24 (.load false 1 (.t 23)) 22 true,
g_ 25 (.bin .eql (.t 24) (.c (.int .i64 0))) 22 true,
o_ 26 (.pick (.t 22) (.t 25) (.c (.bool false))),
m_ 27 26,
g_ 28 (.fadr 16 (.t 3)) 27 true,
g_ 29 (.load false 1 (.t 28)) 27 true,
g_ 30 (.bin .eql (.t 29) (.c (.int .i64 0))) 27 true,
o_ 31 (.pick (.t 27) (.t 30) (.c (.bool false))),
m_ 4 31] false)
.ret)
(.seq
(.region [
o_ 33 (.bin .eql (.t 6) (.c (.int .i64 10))),
m_ 32 33] false)
(.cond (.t 32)
(.seq
(.region [
o_ 34 (.fadr 1 (.t 2)),
o_ 35 (.load false 1 (.t 34)),
o_ 36 (.bin .eql (.t 35) (.c (.int .i64 0))),
m_ 37 36,
g_ 38 (.fadr 15 (.t 3)) 37 true,
g_ 39 (.load false 1 (.t 38)) 37 true,
g_ 40 (.bin .geq (.t 39) (.c (.int .i64 (-7)))) 37 true,
o_ 41 (.pick (.t 37) (.t 40) (.c (.bool false))),
m_ 42 41,
g_ 43 (.fadr 15 (.t 3)) 42 true,
g_ 44 (.load false 1 (.t 43)) 42 true,
g_ 45 (.bin .leq (.t 44) (.c (.int .i64 7))) 42 true,
o_ 46 (.pick (.t 42) (.t 45) (.c (.bool false))),
m_ 47 46,
g_ 48 (.fadr 16 (.t 3)) 47 true,
g_ 49 (.load false 1 (.t 48)) 47 true,
g_ 50 (.bin .eql (.t 49) (.c (.int .i64 0))) 47 true,
o_ 51 (.pick (.t 47) (.t 50) (.c (.bool false))),
m_ 52 51,
g_ 53 (.fadr 17 (.t 3)) 52 true,
g_ 54 (.load false 1 (.t 53)) 52 true,
g_ 55 (.bin .eql (.t 54) (.c (.int .i64 0))) 52 true,
o_ 56 (.pick (.t 52) (.t 55) (.c (.bool false))),
m_ 4 56] false)
.ret)
(.seq
(.region [
o_ 58 (.bin .eql (.t 6) (.c (.int .i64 11))),
m_ 57 58] false)
(.cond (.t 57)
(.seq
(.region [
o_ 59 (.fadr 1 (.t 2)),
o_ 60 (.load false 1 (.t 59)),
o_ 61 (.bin .eql (.t 60) (.c (.int .i64 0))),
m_ 62 61,
g_ 63 (.fadr 0 (.t 2)) 62 true,
g_ 64 (.load false 1 (.t 63)) 62 true,
g_ 65 (.bin .eql (.t 64) (.c (.int .i64 0))) 62 true,
o_ 66 (.pick (.t 62) (.t 65) (.c (.bool false))),
m_ 67 66,
g_ 68 (.fadr 17 (.t 3)) 67 true,
g_ 69 (.load false 1 (.t 68)) 67 true,
g_ 70 (.bin .eql (.t 69) (.c (.int .i64 0))) 67 true,
o_ 71 (.pick (.t 67) (.t 70) (.c (.bool false))),
m_ 72 71,
g_ 73 (.fadr 15 (.t 3)) 72 true,
g_ 74 (.load false 1 (.t 73)) 72 true,
g_ 75 (.fadr 16 (.t 3)) 72 true,
g_ 76 (.load false 1 (.t 75)) 72 true,
g_ 77 (.build [.int .i64 0, .int .i64 0] [(0, 1, .t 74), (1, 1, .t 76)]) 72 true,
g_ 78 (.call false (.c (.fn 164 [] [])) [.t 77]) 72 true,
o_ 79 (.pick (.t 72) (.t 78) (.c (.bool false))),
m_ 4 79] false)
.ret)
.skip))))))))
(.seq
(.region [
o_ 80 (.fadr 15 (.t 3)),
o_ 81 (.load false 1 (.t 80)),
o_ 82 (.bin .eql (.t 81) (.c (.int .i64 0))),
m_ 83 82,
g_ 84 (.fadr 16 (.t 3)) 83 true,
g_ 85 (.load false 1 (.t 84)) 83 true,
g_ 86 (.bin .eql (.t 85) (.c (.int .i64 0))) 83 true,
o_ 87 (.pick (.t 83) (.t 86) (.c (.bool false))),
m_ 88 87,
g_ 89 (.fadr 17 (.t 3)) 88 true,
g_ 90 (.load false 1 (.t 89)) 88 true,
g_ 91 (.bin .eql (.t 90) (.c (.int .i64 0))) 88 true,
o_ 92 (.pick (.t 88) (.t 91) (.c (.bool false))),
m_ 4 92] false)
.ret))),
[.t 4]⟩
theorem ok114 : okFunc Go.Proofs.Tryz.prog 114 lf114 = true := by kernel_rfl
def lf115 : LFunc := ⟨75, 2,
(.seq
(.region [
o_ 2 (.boxt 7 (.t 0)),
o_ 3 (.boxt 18 (.t 1)),
o_ 4 (.mv (.c (.bool false)))] false)
(.seq
(.seq
(.region [
o_ 11 (.load true 18 (.t 3)),
o_ 12 (.call false (.c (.fn 109 [] [])) [.t 11]),
o_ 13 (.not (.t 12))] false)
(.cond (.t 13)
(.seq
(.region [
o_ 14 (.fadr 4 (.t 3)),
o_ 15 (.load true 2 (.t 14)),
o_ 16 (.call false (.c (.fn 71 [] [])) [.c (.int .i64 0)]),
o_ 17 (.eq false (.ag [.i, .i]) (.t 15) (.t 16)),
m_ 18 17,
g_ 19 (.fadr 14 (.t 3)) 18 true,
g_ 20 (.load false 1 (.t 19)) 18 true,
g_ 21 (.bin .eql (.t 20) (.c (.int .i64 0))) 18 true,
o_ 22 (.pick (.t 18) (.t 21) (.c (.bool false))),
m_ 23 22,
g_ 24 (.fadr 6 (.t 3)) 23 true,
g_ 25 (.load true 2 (.t 24)) 23 true,
g_ 26 (.build [.int .i64 0, .int .i64 0] []) 23 true,
g_ 27 (.eq false (.ag [.i, .i]) (.t 25) (.t 26)) 23 true,
o_ 28 (.pick (.t 23) (.t 27) (.c (.bool false))),
m_ 4 28] true)
.ret)
.skip))
(.seq
(.seq
(.region [
o_ 29 (.fadr 6 (.t 3)),
o_ 30 (.load true 2 (.t 29)),
o_ 31 (.call false (.c (.fn 43 [] [])) [.t 30]),
o_ 32 (.not (.t 31))] false)
(.cond (.t 32)
(.seq
(.region [
o_ 4 (.mv (.c (.bool false)))] false)
.ret)
.skip))
(.seq
(.seq
(.region [
o_ 33 (.fadr 14 (.t 3)),
o_ 34 (.load false 1 (.t 33)),
o_ 35 (.bin .gtr (.t 34) (.c (.int .i64 0)))] false)
(.cond (.t 35)
(.seq
(.region [
o_ 36 (.fadr 4 (.t 3)),
o_ 37 (.load true 2 (.t 36)),
o_ 38 (.call false (.c (.fn 71 [] [])) [.c (.int .i64 0)]),
o_ 39 (.eq false (.ag [.i, .i]) (.t 37) (.t 38)),
m_ 40 39,
g_ 41 (.fadr 0 (.t 3)) 40 true,
g_ 42 (.load false 1 (.t 41)) 40 true,
g_ 43 (.bin .neq (.t 42) (.c (.int .i64 4))) 40 true,
o_ 44 (.pick (.t 40) (.t 43) (.c (.bool false))),
m_ 4 44] true)
.ret)
.skip))
(.seq
(.region [
o_ 46 (.fadr 6 (.t 3)),
o_ 47 (.load true 2 (.t 46)),
o_ 48 (.call false (.c (.fn 165 [] [])) [.t 47]),
m_ 45 48,
o_ 49 (.extract (.t 45) 0),
o_ 50 (.extract (.t 45) 1),
o_ 5 (.newv [.int .i64 0, .int .i64 0]),
⟨none, .store 2 (.t 5) (.t 49), none⟩,
m_ 6 50] false)
(.seq
(.region [
o_ 52 (.load true 7 (.t 2)),
o_ 53 (.fadr 13 (.t 3)),
o_ 54 (.load false 1 (.t 53)),
o_ 55 (.call false (.c (.fn 166 [] [])) [.t 52, .t 54]),
m_ 51 55,
o_ 56 (.extract (.t 51) 0),
o_ 57 (.extract (.t 51) 1),
o_ 7 (.newv [.int .i64 0, .int .i64 0]),
⟨none, .store 2 (.t 7) (.t 56), none⟩,
m_ 8 57] false)
(.seq
(.region [
o_ 59 (.load true 2 (.t 5)),
o_ 60 (.load true 2 (.t 7)),
o_ 61 (.call false (.c (.fn 156 [] [])) [.t 59, .t 60]),
m_ 58 61,
o_ 62 (.extract (.t 58) 0),
o_ 63 (.extract (.t 58) 1),
o_ 9 (.newv [.int .i64 0, .int .i64 0]),
⟨none, .store 2 (.t 9) (.t 62), none⟩,
m_ 10 63] false)
(.seq
(.region [
m_ 64 8,
m_ 65 64,
g_ 66 (.mv (.t 10)) 65 true,
g_ 67 (.bin .eql (.t 66) (.c (.int .i64 0))) 65 true,
o_ 68 (.pick (.t 65) (.t 67) (.c (.bool false))),
m_ 69 68,
g_ 70 (.load true 2 (.t 9)) 69 true,
g_ 71 (.fadr 4 (.t 3)) 69 true,
g_ 72 (.load true 2 (.t 71)) 69 true,
g_ 73 (.eq false (.ag [.i, .i]) (.t 70) (.t 72)) 69 true,
o_ 74 (.pick (.t 69) (.t 73) (.c (.bool false))),
m_ 4 74] false)
.ret)))))))),
[.t 4]⟩
theorem ok115 : okFunc Go.Proofs.Tryz.prog 115 lf115 = true := by kernel_rfl
def lf116 : LFunc := ⟨36, 2,
(.seq
(.region [
o_ 4 (.mv (.c (.int .i64 0)))] false)
(.seq
(.seq
(.region [
m_ 6 1,
o_ 7 (.bin .add (.t 6) (.c (.int .i64 1))),
m_ 5 7] false)
(.block 0
(.loop
(.seq
(.seq
(.region [
m_ 8 5,
m_ 9 0,
o_ 10 (.len .sli (.t 9)),
o_ 11 (.bin .lss (.t 8) (.t 10))] false)
(.cond (.t 11)
.skip
(.exit 0)))
(.seq
(.block 1
(.seq
(.region [
m_ 14 0,
m_ 15 5,
o_ 16 (.idxa 18 (.t 14) (.t 15)),
o_ 17 (.load true 18 (.t 16)),
o_ 18 (.call false (.c (.fn 109 [] [])) [.t 17]),
m_ 19 18,
g_ 20 (.mv (.t 0)) 19 true,
g_ 21 (.mv (.t 5)) 19 true,
g_ 22 (.idxa 18 (.t 20) (.t 21)) 19 true,
g_ 23 (.fadr 14 (.t 22)) 19 true,
g_ 24 (.load false 1 (.t 23)) 19 true,
g_ 25 (.bin .eql (.t 24) (.c (.int .i64 0))) 19 true,
g_ 26 (.mv (.t 25)) 19 true,
g_ 27 (.mv (.t 0)) 26 false,
g_ 28 (.mv (.t 1)) 26 false,
g_ 29 (.idxa 18 (.t 27) (.t 28)) 26 false,
g_ 30 (.fadr 14 (.t 29)) 26 false,
g_ 31 (.load false 1 (.t 30)) 26 false,
g_ 32 (.bin .gtr (.t 31) (.c (.int .i64 0))) 26 false,
g_ 33 (.pick (.t 26) (.c (.bool true)) (.t 32)) 19 true,
o_ 34 (.pick (.t 19) (.t 33) (.c (.bool false)))] false)
(.cond (.t 34)
(.seq
(.region [
m_ 35 5,
m_ 4 35] false)
.ret)
.skip)))
(.region [
m_ 12 5,
o_ 13 (.bin .add (.t 12) (.c (.int .i64 1))),
m_ 5 13] false))))))
(.seq
(.region [
o_ 4 (.mv (.c (.int .i64 (-1))))] false)
.ret))),
[.t 4]⟩
theorem ok116 : okFunc Go.Proofs.Tryz.prog 116 lf116 = true := by kernel_rfl
def lf117 : LFunc := ⟨9, 2,
(.seq
(.region [
o_ 2 (.box 1 (.t 0)),
o_ 4 (.mv (.c (.bool false)))] false)
(.seq
(.region [
m_ 5 1,
o_ 6 (.mkfn 168 [] [.t 2]),
o_ 7 (.call false (.c (.fn 167 [] [])) [.t 5, .t 6]),
o_ 8 (.not (.t 7)),
m_ 4 8] false)
.ret)),
[.t 4]⟩
theorem ok117 : okFunc Go.Proofs.Tryz.prog 117 lf117 = true := by kernel_rfl
def lf118 : LFunc := ⟨2, 0,
(.seq
(.region [
o_ 0 (.newv [.int .i64 0, .int .i64 0])] false)
(.seq
(.region [
o_ 1 (.build [.int .i64 0, .int .i64 0] []),
⟨none, .store 2 (.t 0) (.t 1), none⟩] false)
.ret)),
[.cell true 2 0]⟩
theorem ok118 : okFunc Go.Proofs.Tryz.prog 118 lf118 = true := by kernel_rfl
def lf119 : LFunc := ⟨13, 2,
(.seq
(.region [
o_ 4 (.mv (.c (.int .i64 0)))] false)
(.seq
(.seq
(.region [
m_ 5 1,
o_ 6 (.bin .eql (.t 5) (.c (.int .i64 0)))] false)
(.cond (.t 6)
(.seq
(.region [
m_ 7 0,
m_ 4 7] false)
.ret)
.skip))
(.seq
(.region [
m_ 8 1,
m_ 9 0,
m_ 10 1,
o_ 11 (.bin .rem (.t 9) (.t 10)),
o_ 12 (.call false (.c (.fn 119 [] [])) [.t 8, .t 11]),
m_ 4 12] false)
.ret))),
[.t 4]⟩
theorem ok119 : okFunc Go.Proofs.Tryz.prog 119 lf119 = true := by kernel_rfl
def lf120 : LFunc := ⟨25, 2,
(.seq
(.region [
o_ 4 (.newv [.int .i64 0, .int .i64 0]),
o_ 5 (.mv (.c (.int .i64 0)))] false)
(.seq
(.region [
m_ 7 0,
o_ 8 (.call false (.c (.fn 161 [] [])) [.t 7]),
m_ 9 1,
o_ 10 (.call false (.c (.fn 161 [] [])) [.t 9]),
o_ 11 (.call false (.c (.fn 119 [] [])) [.t 8, .t 10]),
m_ 6 11] false)
(.seq
(.seq
(.region [
m_ 12 1,
o_ 13 (.bin .lss (.t 12) (.c (.int .i64 0)))] false)
(.cond (.t 13)
(.region [
m_ 14 6,
o_ 15 (.neg (.t 14)),
m_ 6 15] false)
.skip))
(.seq
(.region [
m_ 16 0,
m_ 17 6,
o_ 18 (.bin .quo (.t 16) (.t 17)),
m_ 19 1,
m_ 20 6,
o_ 21 (.bin .quo (.t 19) (.t 20)),
o_ 22 (.call false (.c (.fn 170 [] [])) [.t 18, .t 21]),
o_ 23 (.extract (.t 22) 0),
o_ 24 (.extract (.t 22) 1),
⟨none, .store 2 (.t 4) (.t 23), none⟩,
m_ 5 24] true)
.ret)))),
[.cell true 2 4, .t 5]⟩
theorem ok120 : okFunc Go.Proofs.Tryz.prog 120 lf120 = true := by kernel_rfl
def lf121 : LFunc := ⟨30, 1,
(.seq
(.region [
o_ 1 (.boxt 2 (.t 0)),
o_ 2 (.mv (.c (.bool false)))] false)
(.seq
(.region [
o_ 3 (.fadr 1 (.t 1)),
o_ 4 (.load false 1 (.t 3)),
o_ 5 (.bin .geq (.t 4) (.c (.int .i64 1))),
m_ 6 5,
g_ 7 (.fadr 1 (.t 1)) 6 true,
g_ 8 (.load false 1 (.t 7)) 6 true,
g_ 9 (.bin .leq (.t 8) (.c (.int .i64 1048576))) 6 true,
o_ 10 (.pick (.t 6) (.t 9) (.c (.bool false))),
m_ 11 10,
g_ 12 (.fadr 0 (.t 1)) 11 true,
g_ 13 (.load false 1 (.t 12)) 11 true,
g_ 14 (.bin .geq (.t 13) (.c (.int .i64 (-1099511627776)))) 11 true,
o_ 15 (.pick (.t 11) (.t 14) (.c (.bool false))),
m_ 16 15,
g_ 17 (.fadr 0 (.t 1)) 16 true,
g_ 18 (.load false 1 (.t 17)) 16 true,
g_ 19 (.bin .leq (.t 18) (.c (.int .i64 1099511627776))) 16 true,
o_ 20 (.pick (.t 16) (.t 19) (.c (.bool false))),
m_ 21 20,
g_ 22 (.fadr 0 (.t 1)) 21 true,
g_ 23 (.load false 1 (.t 22)) 21 true,
g_ 24 (.call false (.c (.fn 171 [] [])) [.t 23]) 21 true,
g_ 25 (.fadr 1 (.t 1)) 21 true,
g_ 26 (.load false 1 (.t 25)) 21 true,
g_ 27 (.call false (.c (.fn 127 [] [])) [.t 24, .t 26]) 21 true,
g_ 28 (.bin .eql (.t 27) (.c (.int .i64 1))) 21 true,
o_ 29 (.pick (.t 21) (.t 28) (.c (.bool false))),
m_ 2 29] true)
.ret)),
[.t 2]⟩
theorem ok121 : okFunc Go.Proofs.Tryz.prog 121 lf121 = true := by kernel_rfl
def lf122 : LFunc := ⟨36, 1,
(.seq
(.region [
o_ 2 (.mv (.c (.bool false)))] false)
(.seq
(.seq
(.region [
o_ 3 (.mv (.c (.int .i64 0)))] false)
(.block 0
(.loop
(.seq
(.seq
(.region [
m_ 4 3,
m_ 5 0,
o_ 6 (.len .sli (.t 5)),
o_ 7 (.bin .lss (.t 4) (.t 6))] false)
(.cond (.t 7)
.skip
(.exit 0)))
(.seq
(.block 1
(.seq
(.region [
m_ 10 0,
m_ 11 3,
o_ 12 (.idxa 3 (.t 10) (.t 11)),
o_ 13 (.load true 3 (.t 12)),
o_ 14 (.call false (.c (.fn 137 [] [])) [.t 13]),
o_ 15 (.not (.t 14)),
m_ 16 15,
g_ 17 (.mv (.t 3)) 16 false,
g_ 18 (.bin .gtr (.t 17) (.c (.int .i64 0))) 16 false,
g_ 19 (.mv (.t 18)) 16 false,
g_ 20 (.mv (.t 0)) 19 true,
g_ 21 (.mv (.t 3)) 19 true,
g_ 22 (.bin .sub (.t 21) (.c (.int .i64 1))) 19 true,
g_ 23 (.idxa 3 (.t 20) (.t 22)) 19 true,
g_ 24 (.load true 3 (.t 23)) 19 true,
g_ 25 (.mv (.t 0)) 19 true,
g_ 26 (.mv (.t 3)) 19 true,
g_ 27 (.idxa 3 (.t 25) (.t 26)) 19 true,
g_ 28 (.load true 3 (.t 27)) 19 true,
g_ 29 (.call false (.c (.fn 172 [] [])) [.t 24, .t 28]) 19 true,
g_ 30 (.not (.t 29)) 19 true,
g_ 31 (.pick (.t 19) (.t 30) (.c (.bool false))) 16 false,
o_ 32 (.pick (.t 16) (.c (.bool true)) (.t 31))] true)
(.cond (.t 32)
(.seq
(.region [
o_ 2 (.mv (.c (.bool false)))] false)
.ret)
.skip)))
(.region [
m_ 8 3,
o_ 9 (.bin .add (.t 8) (.c (.int .i64 1))),
m_ 3 9] false))))))
(.seq
(.region [
m_ 33 0,
o_ 34 (.len .sli (.t 33)),
o_ 35 (.bin .leq (.t 34) (.c (.int .i64 16))),
m_ 2 35] false)
.ret))),
[.t 2]⟩
theorem ok122 : okFunc Go.Proofs.Tryz.prog 122 lf122 = true := by kernel_rfl
def lf123 : LFunc := ⟨59, 2,
(.seq
(.region [
o_ 2 (.boxt 7 (.t 0)),
o_ 4 (.mv (.c (.bool false)))] false)
(.seq
(.region [
o_ 8 (.fadr 2 (.t 2)),
o_ 9 (.load false 1 (.t 8)),
m_ 10 1,
o_ 11 (.idxa 18 (.t 9) (.t 10)),
o_ 12 (.load true 18 (.t 11)),
o_ 5 (.newv [.int .i64 0, .int .i64 0, .int .i64 0, .int .i64 0, .int .i64 0, .int .i64 0, .int .i64 0, .int .i64 0, .nils, .bool false, .int .i64 0, .int .i64 0, .str ⟨#[]⟩, .nils, .int .i64 0, .int .i64 0, .int .i64 0, .int .i64 0]),
⟨none, .store 18 (.t 5) (.t 12), none⟩] false)
(.seq
(.region [
o_ 6 (.mv (.c (.int .i64 0)))] false)
(.seq
(.seq
(.region [
o_ 7 (.mv (.c (.int .i64 0)))] false)
(.block 0
(.loop
(.seq
(.seq
(.region [
m_ 13 7,
o_ 14 (.fadr 3 (.t 2)),
o_ 15 (.load false 1 (.t 14)),
o_ 16 (.len .sli (.t 15)),
o_ 17 (.bin .lss (.t 13) (.t 16))] false)
(.cond (.t 17)
.skip
(.exit 0)))
(.seq
(.block 1
(.seq
(.region [
o_ 20 (.fadr 3 (.t 2)),
o_ 21 (.load false 1 (.t 20)),
m_ 22 7,
o_ 23 (.idxa 4 (.t 21) (.t 22)),
o_ 24 (.fadr 0 (.t 23)),
o_ 25 (.load false 1 (.t 24)),
m_ 26 1,
o_ 27 (.bin .leq (.t 25) (.t 26)),
m_ 28 27,
g_ 29 (.mv (.t 1)) 28 true,
g_ 30 (.fadr 3 (.t 2)) 28 true,
g_ 31 (.load false 1 (.t 30)) 28 true,
g_ 32 (.mv (.t 7)) 28 true,
g_ 33 (.idxa 4 (.t 31) (.t 32)) 28 true,
g_ 34 (.fadr 1 (.t 33)) 28 true,
g_ 35 (.load false 1 (.t 34)) 28 true,
g_ 36 (.bin .leq (.t 29) (.t 35)) 28 true,
o_ 37 (.pick (.t 28) (.t 36) (.c (.bool false)))] false)
(.cond (.t 37)
(.seq
(.seq
(.region [
m_ 38 6,
o_ 39 (.fadr 13 (.t 5)),
o_ 40 (.load false 1 (.t 39)),
o_ 41 (.len .sli (.t 40)),
o_ 42 (.bin .geq (.t 38) (.t 41)),
m_ 43 42,
g_ 44 (.fadr 13 (.t 5)) 43 false,
g_ 45 (.load false 1 (.t 44)) 43 false,
g_ 46 (.mv (.t 6)) 43 false,
g_ 47 (.idxa 1 (.t 45) (.t 46)) 43 false,
g_ 48 (.load false 1 (.t 47)) 43 false,
g_ 49 (.mv (.t 7)) 43 false,
g_ 50 (.bin .neq (.t 48) (.t 49)) 43 false,
o_ 51 (.pick (.t 43) (.c (.bool true)) (.t 50))] false)
(.cond (.t 51)
(.seq
(.region [
o_ 4 (.mv (.c (.bool false)))] false)
.ret)
.skip))
(.region [
m_ 52 6,
o_ 53 (.bin .add (.t 52) (.c (.int .i64 1))),
m_ 6 53] false))
.skip)))
(.region [
m_ 18 7,
o_ 19 (.bin .add (.t 18) (.c (.int .i64 1))),
m_ 7 19] false))))))
(.seq
(.region [
m_ 54 6,
o_ 55 (.fadr 13 (.t 5)),
o_ 56 (.load false 1 (.t 55)),
o_ 57 (.len .sli (.t 56)),
o_ 58 (.bin .eql (.t 54) (.t 57)),
m_ 4 58] false)
.ret))))),
[.t 4]⟩
theorem ok123 : okFunc Go.Proofs.Tryz.prog 123 lf123 = true := by kernel_rfl
def lf124 : LFunc := ⟨16, 1,
(.seq
(.region [
o_ 1 (.boxt 18 (.t 0)),
o_ 2 (.mv (.c (.bool false)))] false)
(.seq
(.region [
o_ 3 (.fadr 0 (.t 1)),
o_ 4 (.load false 1 (.t 3)),
o_ 5 (.bin .eql (.t 4) (.c (.int .i64 1))),
m_ 6 5,
g_ 7 (.fadr 0 (.t 1)) 6 false,
g_ 8 (.load false 1 (.t 7)) 6 false,
g_ 9 (.bin .eql (.t 8) (.c (.int .i64 3))) 6 false,
o_ 10 (.pick (.t 6) (.c (.bool true)) (.t 9)),
m_ 11 10,
g_ 12 (.fadr 0 (.t 1)) 11 false,
g_ 13 (.load false 1 (.t 12)) 11 false,
g_ 14 (.bin .eql (.t 13) (.c (.int .i64 4))) 11 false,
o_ 15 (.pick (.t 11) (.c (.bool true)) (.t 14)),
m_ 2 15] false)
.ret)),
[.t 2]⟩
theorem ok124 : okFunc Go.Proofs.Tryz.prog 124 lf124 = true := by kernel_rfl
def lf125 : LFunc := ⟨93, 2,
(.seq
(.region [
o_ 2 (.boxt 7 (.t 0)),
o_ 3 (.boxt 18 (.t 1)),
o_ 4 (.mv (.c (.bool false)))] false)
(.seq
(.seq
(.region [
o_ 5 (.fadr 0 (.t 3)),
o_ 6 (.load false 1 (.t 5))] false)
(.block 0
(.seq
(.region [
o_ 8 (.bin .eql (.t 6) (.c (.int .i64 9))),
m_ 7 8] false)
(.cond (.t 7)
(.seq
(.region [
o_ 9 (.fadr 1 (.t 2)),
o_ 10 (.load false 1 (.t 9)),
o_ 11 (.bin .eql (.t 10) (.c (.int .i64 0))),
m_ 12 11,
g_ 13 (.fadr 17 (.t 3)) 12 true,
g_ 14 (.load false 1 (.t 13)) 12 true,
g_ 15 (.bin .geq (.t 14) (.c (.int .i64 26))) 12 true,
o_ 16 (.pick (.t 12) (.t 15) (.c (.bool false))),
m_ 17 16,
g_ 18 (.fadr 17 (.t 3)) 17 true,
g_ 19 (.load false 1 (.t 18)) 17 true,
g_ 20 (.bin .leq (.t 19) (.c (.int .i64 29))) 17 true,
o_ 21 (.pick (.t 17) (.t 20) (.c (.bool false))),
m_ 22 21,
g_ 23 (.fadr 15 (.t 3)) 22 true,
g_ 24 (.load false 1 (.t 23)) 22 true,
g_ 25 (.bin .eql (.t 24) (.c (.int .i64 0))) 22 true,
o_ 26 (.pick (.t 22) (.t 25) (.c (.bool false))),
m_ 27 26,
g_ 28 (.fadr 16 (.t 3)) 27 true,
g_ 29 (.load false 1 (.t 28)) 27 true,
g_ 30 (.bin .eql (.t 29) (.c (.int .i64 0))) 27 true,
o_ 31 (.pick (.t 27) (.t 30) (.c (.bool false))),
m_ 4 31] false)
.ret)
(.seq
(.region [
o_ 33 (.bin .eql (.t 6) (.c (.int .i64 10))),
m_ 32 33] false)
(.cond (.t 32)
(.seq
(.region [
o_ 34 (.fadr 1 (.t 2)),
o_ 35 (.load false 1 (.t 34)),
o_ 36 (.bin .eql (.t 35) (.c (.int .i64 0))),
m_ 37 36,
g_ 38 (.fadr 15 (.t 3)) 37 true,
g_ 39 (.load false 1 (.t 38)) 37 true,
g_ 40 (.bin .geq (.t 39) (.c (.int .i64 (-7)))) 37 true,
o_ 41 (.pick (.t 37) (.t 40) (.c (.bool false))),
m_ 42 41,
g_ 43 (.fadr 15 (.t 3)) 42 true,
g_ 44 (.load false 1 (.t 43)) 42 true,
g_ 45 (.bin .leq (.t 44) (.c (.int .i64 7))) 42 true,
o_ 46 (.pick (.t 42) (.t 45) (.c (.bool false))),
m_ 47 46,
g_ 48 (.fadr 16 (.t 3)) 47 true,
g_ 49 (.load false 1 (.t 48)) 47 true,
g_ 50 (.bin .eql (.t 49) (.c (.int .i64 0))) 47 true,
o_ 51 (.pick (.t 47) (.t 50) (.c (.bool false))),
m_ 52 51,
g_ 53 (.fadr 17 (.t 3)) 52 true,
g_ 54 (.load false 1 (.t 53)) 52 true,
g_ 55 (.bin .eql (.t 54) (.c (.int .i64 0))) 52 true,
o_ 56 (.pick (.t 52) (.t 55) (.c (.bool false))),
m_ 4 56] false)
.ret)
(.seq
(.region [
o_ 58 (.bin .eql (.t 6) (.c (.int .i64 11))),
m_ 57 58] false)
(.cond (.t 57)
(.seq
(.region [
o_ 59 (.fadr 1 (.t 2)),
o_ 60 (.load false 1 (.t 59)),
o_ 61 (.bin .eql (.t 60) (.c (.int .i64 0))),
m_ 62 61,
g_ 63 (.fadr 0 (.t 2)) 62 true,
g_ 64 (.load false 1 (.t 63)) 62 true,
g_ 65 (.bin .eql (.t 64) (.c (.int .i64 0))) 62 true,
o_ 66 (.pick (.t 62) (.t 65) (.c (.bool false))),
m_ 67 66,
g_ 68 (.fadr 15 (.t 3)) 67 true,
g_ 69 (.load false 1 (.t 68)) 67 true,
g_ 70 (.fadr 16 (.t 3)) 67 true,
g_ 71 (.load false 1 (.t 70)) 67 true,
g_ 72 (.build [.int .i64 0, .int .i64 0] [(0, 1, .t 69), (1, 1, .t 71)]) 67 true,
g_ 73 (.call false (.c (.fn 173 [] [])) [.t 72]) 67 true,
o_ 74 (.pick (.t 67) (.t 73) (.c (.bool false))),
m_ 75 74,
g_ 76 (.fadr 17 (.t 3)) 75 true,
g_ 77 (.load false 1 (.t 76)) 75 true,
g_ 78 (.bin .eql (.t 77) (.c (.int .i64 0))) 75 true,
o_ 79 (.pick (.t 75) (.t 78) (.c (.bool false))),
m_ 4 79] false)
.ret)
.skip))))))))
(.seq
(.region [
o_ 80 (.fadr 15 (.t 3)),
o_ 81 (.load false 1 (.t 80)),
o_ 82 (.bin .eql (.t 81) (.c (.int .i64 0))),
m_ 83 82,
g_ 84 (.fadr 16 (.t 3)) 83 true,
g_ 85 (.load false 1 (.t 84)) 83 true,
g_ 86 (.bin .eql (.t 85) (.c (.int .i64 0))) 83 true,
o_ 87 (.pick (.t 83) (.t 86) (.c (.bool false))),
m_ 88 87,
g_ 89 (.fadr 17 (.t 3)) 88 true,
g_ 90 (.load false 1 (.t 89)) 88 true,
g_ 91 (.bin .eql (.t 90) (.c (.int .i64 0))) 88 true,
o_ 92 (.pick (.t 88) (.t 91) (.c (.bool false))),
m_ 4 92] false)
.ret))),
[.t 4]⟩
theorem ok125 : okFunc Go.Proofs.Tryz.prog 125 lf125 = true := by kernel_rfl
def lf126 : LFunc := ⟨65, 2,
(.seq
(.region [
o_ 2 (.boxt 7 (.t 0)),
o_ 3 (.boxt 18 (.t 1)),
o_ 4 (.newv [.int .i64 0, .int .i64 0]),
o_ 5 (.mv (.c (.bool false)))] false)
(.seq
(.region [
o_ 15 (.build [.int .i64 0, .int .i64 0] [(0, 1, .c (.int .i64 1)), (1, 1, .c (.int .i64 1))]),
o_ 6 (.newv [.int .i64 0, .int .i64 0]),
⟨none, .store 2 (.t 6) (.t 15), none⟩] false)
(.seq
(.seq
(.region [
o_ 7 (.mv (.c (.int .i64 0)))] false)
(.block 0
(.loop
(.seq
(.seq
(.region [
m_ 16 7,
o_ 17 (.fadr 13 (.t 3)),
o_ 18 (.load false 1 (.t 17)),
o_ 19 (.len .sli (.t 18)),
o_ 20 (.bin .lss (.t 16) (.t 19))] false)
(.cond (.t 20)
.skip
(.exit 0)))
(.seq
(.block 1
(.seq
(.region [
o_ 23 (.fadr 3 (.t 2)),
o_ 24 (.load false 1 (.t 23)),
o_ 25 (.fadr 13 (.t 3)),
o_ 26 (.load false 1 (.t 25)),
m_ 27 7,
o_ 28 (.idxa 1 (.t 26) (.t 27)),
o_ 29 (.load false 1 (.t 28)),
o_ 30 (.idxa 4 (.t 24) (.t 29)),
o_ 31 (.load true 4 (.t 30)),
o_ 8 (.newv [.int .i64 0, .int .i64 0, .int .i64 0, .int .i64 0]),
⟨none, .store 4 (.t 8) (.t 31), none⟩] true)
(.seq
(.region [
o_ 33 (.load true 2 (.t 6)),
o_ 34 (.fadr 3 (.t 8)),
o_ 35 (.load false 1 (.t 34)),
o_ 36 (.fadr 2 (.t 8)),
o_ 37 (.load false 1 (.t 36)),
o_ 38 (.call false (.c (.fn 148 [] [])) [.t 35, .t 37]),
o_ 39 (.call false (.c (.fn 145 [] [])) [.t 33, .t 38]),
m_ 32 39,
o_ 40 (.extract (.t 32) 0),
o_ 41 (.extract (.t 32) 1),
o_ 9 (.newv [.int .i64 0, .int .i64 0]),
⟨none, .store 2 (.t 9) (.t 40), none⟩,
m_ 10 41] true)
(.seq
(.seq
(.region [
m_ 42 10,
o_ 43 (.bin .neq (.t 42) (.c (.int .i64 0)))] false)
(.cond (.t 43)
(.seq
(.region [
o_ 44 (.build [.int .i64 0, .int .i64 0] []),
⟨none, .store 2 (.t 4) (.t 44), none⟩,
o_ 5 (.mv (.c (.bool false)))] false)
.ret)
.skip))
(.region [
o_ 45 (.load true 2 (.t 9)),
⟨none, .store 2 (.t 6) (.t 45), none⟩] false)))))
(.region [
m_ 21 7,
o_ 22 (.bin .add (.t 21) (.c (.int .i64 1))),
m_ 7 22] false))))))
(.seq
(.region [
o_ 47 (.fadr 6 (.t 3)),
o_ 48 (.load true 2 (.t 47)),
o_ 49 (.call false (.c (.fn 144 [] [])) [.t 48]),
m_ 46 49,
o_ 50 (.extract (.t 46) 0),
o_ 51 (.extract (.t 46) 1),
o_ 11 (.newv [.int .i64 0, .int .i64 0]),
⟨none, .store 2 (.t 11) (.t 50), none⟩,
m_ 12 51] false)
(.seq
(.region [
o_ 53 (.load true 2 (.t 11)),
o_ 54 (.load true 2 (.t 6)),
o_ 55 (.call false (.c (.fn 145 [] [])) [.t 53, .t 54]),
m_ 52 55,
o_ 56 (.extract (.t 52) 0),
o_ 57 (.extract (.t 52) 1),
o_ 13 (.newv [.int .i64 0, .int .i64 0]),
⟨none, .store 2 (.t 13) (.t 56), none⟩,
m_ 14 57] false)
(.seq
(.region [
o_ 58 (.load true 2 (.t 13)),
m_ 59 12,
o_ 60 (.bin .eql (.t 59) (.c (.int .i64 0))),
m_ 61 60,
g_ 62 (.mv (.t 14)) 61 true,
g_ 63 (.bin .eql (.t 62) (.c (.int .i64 0))) 61 true,
o_ 64 (.pick (.t 61) (.t 63) (.c (.bool false))),
⟨none, .store 2 (.t 4) (.t 58), none⟩,
m_ 5 64] false)
.ret)))))),
[.cell true 2 4, .t 5]⟩
theorem ok126 : okFunc Go.Proofs.Tryz.prog 126 lf126 = true := by kernel_rfl
def lf127 : LFunc := ⟨12, 2,
(.seq
(.region [
o_ 4 (.mv (.c (.int .i64 0)))] false)
(.seq
(.block 0
(.loop
(.seq
(.seq
(.region [
m_ 5 1,
o_ 6 (.bin .neq (.t 5) (.c (.int .i64 0)))] false)
(.cond (.t 6)
.skip
(.exit 0)))
(.block 1
(.region [
m_ 7 1,
m_ 8 0,
m_ 9 1,
o_ 10 (.bin .rem (.t 8) (.t 9)),
m_ 0 7,
m_ 1 10] true)))))
(.seq
(.region [
m_ 11 0,
m_ 4 11] false)
.ret))),
[.t 4]⟩
theorem ok127 : okFunc Go.Proofs.Tryz.prog 127 lf127 = true := by kernel_rfl
def lf128 : LFunc := ⟨36, 2,
(.seq
(.region [
o_ 4 (.newv [.int .i64 0, .int .i64 0]),
o_ 5 (.mv (.c (.int .i64 0)))] false)
(.seq
(.seq
(.region [
m_ 8 1,
o_ 9 (.bin .lss (.t 8) (.c (.int .i64 0)))] false)
(.cond (.t 9)
(.region [
m_ 10 0,
o_ 11 (.bin .sub (.c (.int .i64 0)) (.t 10)),
m_ 12 1,
o_ 13 (.bin .sub (.c (.int .i64 0)) (.t 12)),
m_ 0 11,
m_ 1 13] false)
.skip))
(.seq
(.region [
m_ 14 0,
o_ 15 (.call false (.c (.fn 171 [] [])) [.t 14]),
m_ 16 1,
o_ 17 (.call false (.c (.fn 127 [] [])) [.t 15, .t 16]),
m_ 6 17] false)
(.seq
(.region [
m_ 18 0,
m_ 19 6,
o_ 20 (.bin .quo (.t 18) (.t 19)),
m_ 21 1,
m_ 22 6,
o_ 23 (.bin .quo (.t 21) (.t 22)),
o_ 24 (.build [.int .i64 0, .int .i64 0] [(0, 1, .t 20), (1, 1, .t 23)]),
o_ 7 (.newv [.int .i64 0, .int .i64 0]),
⟨none, .store 2 (.t 7) (.t 24), none⟩] true)
(.seq
(.seq
(.region [
o_ 25 (.fadr 0 (.t 7)),
o_ 26 (.load false 1 (.t 25)),
o_ 27 (.call false (.c (.fn 171 [] [])) [.t 26]),
o_ 28 (.bin .gtr (.t 27) (.c (.int .i64 1099511627776))),
m_ 29 28,
g_ 30 (.fadr 1 (.t 7)) 29 false,
g_ 31 (.load false 1 (.t 30)) 29 false,
g_ 32 (.bin .gtr (.t 31) (.c (.int .i64 1048576))) 29 false,
o_ 33 (.pick (.t 29) (.c (.bool true)) (.t 32))] false)
(.cond (.t 33)
(.seq
(.region [
o_ 34 (.build [.int .i64 0, .int .i64 0] []),
⟨none, .store 2 (.t 4) (.t 34), none⟩,
o_ 5 (.mv (.c (.int .i64 3)))] false)
.ret)
.skip))
(.seq
(.region [
o_ 35 (.load true 2 (.t 7)),
⟨none, .store 2 (.t 4) (.t 35), none⟩,
o_ 5 (.mv (.c (.int .i64 0)))] false)
.ret)))))),
[.cell true 2 4, .t 5]⟩
theorem ok128 : okFunc Go.Proofs.Tryz.prog 128 lf128 = true := by kernel_rfl
def lf129 : LFunc := ⟨43, 3,
(.seq
(.region [
o_ 5 (.boxt 3 (.t 2)),
o_ 6 (.mv (.c (.bool false)))] false)
(.seq
(.seq
(.region [
o_ 7 (.mv (.c (.int .i64 0)))] false)
(.block 0
(.loop
(.seq
(.seq
(.region [
m_ 8 7,
m_ 9 1,
o_ 10 (.bin .lss (.t 8) (.t 9))] false)
(.cond (.t 10)
.skip
(.exit 0)))
(.seq
(.block 1
(.seq
(.region [
m_ 13 0,
m_ 14 7,
o_ 15 (.idxa 18 (.t 13) (.t 14)),
o_ 16 (.fadr 9 (.t 15)),
o_ 17 (.fadr 0 (.t 16)),
o_ 18 (.load false 1 (.t 17)),
m_ 19 18,
g_ 20 (.mv (.t 0)) 19 true,
g_ 21 (.mv (.t 7)) 19 true,
g_ 22 (.idxa 18 (.t 20) (.t 21)) 19 true,
g_ 23 (.fadr 14 (.t 22)) 19 true,
g_ 24 (.load false 1 (.t 23)) 19 true,
g_ 25 (.bin .eql (.t 24) (.c (.int .i64 0))) 19 true,
o_ 26 (.pick (.t 19) (.t 25) (.c (.bool false))),
m_ 27 26,
g_ 28 (.mv (.t 0)) 27 true,
g_ 29 (.mv (.t 7)) 27 true,
g_ 30 (.call false (.c (.fn 97 [] [])) [.t 28, .t 29]) 27 true,
g_ 31 (.mv (.t 1)) 27 true,
g_ 32 (.bin .eql (.t 30) (.t 31)) 27 true,
o_ 33 (.pick (.t 27) (.t 32) (.c (.bool false))),
m_ 34 33,
g_ 35 (.mv (.t 0)) 34 true,
g_ 36 (.mv (.t 7)) 34 true,
g_ 37 (.idxa 18 (.t 35) (.t 36)) 34 true,
g_ 38 (.fadr 8 (.t 37)) 34 true,
g_ 39 (.load false 1 (.t 38)) 34 true,
g_ 40 (.load true 3 (.t 5)) 34 true,
g_ 41 (.call false (.c (.fn 174 [] [])) [.t 39, .t 40]) 34 true,
o_ 42 (.pick (.t 34) (.t 41) (.c (.bool false)))] true)
(.cond (.t 42)
(.seq
(.region [
o_ 6 (.mv (.c (.bool true)))] false)
.ret)
.skip)))
(.region [
m_ 11 7,
o_ 12 (.bin .add (.t 11) (.c (.int .i64 1))),
m_ 7 12] false))))))
(.seq
(.region [
o_ 6 (.mv (.c (.bool false)))] false)
.ret))),
[.t 6]⟩
theorem ok129 : okFunc Go.Proofs.Tryz.prog 129 lf129 = true := by kernel_rfl
def lf130 : LFunc := ⟨39, 2,
(.seq
(.region [
o_ 4 (.mv (.c (.int .i64 0)))] false)
(.seq
(.seq
(.region [
m_ 7 0,
m_ 8 1,
o_ 9 (.substr (.t 7) (some (.t 8)) none),
o_ 10 (.rng (.t 9))] false)
(.block 0
(.loop
(.seq
(.region [
o_ 11 (.nxt (.t 10)),
o_ 12 (.extract (.t 11) 0)] false)
(.seq
(.cond (.t 12)
.skip
(.exit 0))
(.block 1
(.seq
(.region [
o_ 13 (.extract (.t 11) 1),
o_ 14 (.extract (.t 11) 2),
m_ 5 13,
m_ 6 14] false)
(.seq
(.seq
(.region [
m_ 15 5,
o_ 16 (.bin .gtr (.t 15) (.c (.int .i64 0)))] false)
(.cond (.t 16)
(.seq
(.region [
m_ 17 5,
m_ 4 17] false)
.ret)
.skip))
(.seq
(.region [
m_ 18 6,
o_ 19 (.bin .eql (.t 18) (.c (.int .i32 65533))),
m_ 20 19,
g_ 21 (.mv (.t 0)) 20 true,
g_ 22 (.len .str (.t 21)) 20 true,
g_ 23 (.mv (.t 1)) 20 true,
g_ 24 (.bin .sub (.t 22) (.t 23)) 20 true,
g_ 25 (.bin .lss (.t 24) (.c (.int .i64 3))) 20 true,
g_ 26 (.mv (.t 25)) 20 true,
g_ 27 (.mv (.t 0)) 26 false,
g_ 28 (.mv (.t 1)) 26 false,
g_ 29 (.mv (.t 1)) 26 false,
g_ 30 (.bin .add (.t 29) (.c (.int .i64 3))) 26 false,
g_ 31 (.substr (.t 27) (some (.t 28)) (some (.t 30))) 26 false,
g_ 32 (.bin .neq (.t 31) (.c (.str ⟨#[239, 191, 189]⟩))) 26 false,
g_ 33 (.pick (.t 26) (.c (.bool true)) (.t 32)) 20 true,
o_ 34 (.pick (.t 20) (.t 33) (.c (.bool false)))] false)
(.cond (.t 34)
(.seq
(.region [
o_ 4 (.mv (.c (.int .i64 0)))] false)
.ret)
.skip))))))))))
(.seq
(.region [
m_ 35 0,
o_ 36 (.len .str (.t 35)),
m_ 37 1,
o_ 38 (.bin .sub (.t 36) (.t 37)),
m_ 4 38] false)
.ret))),
[.t 4]⟩
theorem ok130 : okFunc Go.Proofs.Tryz.prog 130 lf130 = true := by kernel_rfl
end Go.AM.Bm
