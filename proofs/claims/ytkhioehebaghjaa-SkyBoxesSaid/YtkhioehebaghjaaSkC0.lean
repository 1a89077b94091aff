/- A part of a proof about the given program: what its name says. No premise beyond the statements'. -/
import Derived.Test.YtkhioehebaghjaaFD
import Derived.Test.YtkhioehebaghjaaProg
import Derived.KernelRfl
set_option linter.unusedSimpArgs false
set_option linter.unusedVariables false
/- A part of the program's functions in the short form, each checked against the program. -/
namespace Go.AM.Sk
open Go.AM
abbrev m_ (d x : Nat) : LOper := ⟨some d, .mv (.t x), none⟩
abbrev o_ (d : Nat) (op : LOp) : LOper := ⟨some d, op, none⟩
abbrev g_ (d : Nat) (op : LOp) (x : Nat) (b : Bool) : LOper := ⟨some d, op, some (x, b)⟩
def lf3 : LFunc := ⟨56, 1,
(.seq
(.region [
o_ 2 (.mv (.c (.bool false)))] false)
(.seq
(.seq
(.region [
m_ 11 0,
o_ 12 (.len .sli (.t 11)),
o_ 13 (.bin .gtr (.t 12) (.c (.int .i64 60)))] false)
(.cond (.t 13)
(.seq
(.region [
o_ 14 (.call false (.c (.fn 8 [] [])) []),
m_ 2 14] false)
.ret)
.skip))
(.seq
(.region [
m_ 16 0,
o_ 17 (.call false (.c (.fn 9 [] [])) [.t 16]),
m_ 15 17,
o_ 18 (.extract (.t 15) 0),
o_ 19 (.extract (.t 15) 1),
m_ 3 18,
m_ 4 19] false)
(.seq
(.region [
m_ 21 0,
o_ 22 (.call false (.c (.fn 10 [] [])) [.t 21]),
m_ 20 22,
o_ 23 (.extract (.t 20) 0),
o_ 24 (.extract (.t 20) 1),
m_ 5 23,
m_ 6 24] false)
(.seq
(.region [
m_ 26 0,
o_ 27 (.call false (.c (.fn 11 [] [])) [.t 26]),
m_ 25 27,
o_ 28 (.extract (.t 25) 0),
o_ 29 (.extract (.t 25) 1),
m_ 7 28,
m_ 8 29] false)
(.seq
(.region [
m_ 31 0,
o_ 32 (.call false (.c (.fn 12 [] [])) [.t 31]),
m_ 30 32,
o_ 33 (.extract (.t 30) 0),
o_ 34 (.extract (.t 30) 1),
m_ 9 33,
m_ 10 34] false)
(.seq
(.region [
m_ 35 3,
m_ 36 5,
o_ 37 (.call false (.c (.fn 13 [] [])) [.t 35, .t 36]),
m_ 38 37,
g_ 39 (.mv (.t 4)) 38 true,
g_ 40 (.mv (.t 6)) 38 true,
g_ 41 (.bin .eql (.t 39) (.t 40)) 38 true,
o_ 42 (.pick (.t 38) (.t 41) (.c (.bool false))),
m_ 43 42,
g_ 44 (.mv (.t 7)) 43 true,
g_ 45 (.mv (.t 9)) 43 true,
g_ 46 (.call false (.c (.fn 13 [] [])) [.t 44, .t 45]) 43 true,
o_ 47 (.pick (.t 43) (.t 46) (.c (.bool false))),
m_ 48 47,
g_ 49 (.mv (.t 8)) 48 true,
g_ 50 (.mv (.t 10)) 48 true,
g_ 51 (.bin .eql (.t 49) (.t 50)) 48 true,
o_ 52 (.pick (.t 48) (.t 51) (.c (.bool false))),
m_ 53 52,
g_ 54 (.call false (.c (.fn 8 [] [])) []) 53 true,
o_ 55 (.pick (.t 53) (.t 54) (.c (.bool false))),
m_ 2 55] false)
.ret))))))),
[.t 2]⟩
theorem ok3 : okFunc Go.Proofs.Try.prog 3 lf3 = true := by kernel_rfl
def lf8 : LFunc := ⟨131, 0,
(.seq
(.region [
o_ 0 (.mv (.c (.bool false)))] false)
(.seq
(.region [
o_ 16 (.build [.int .i64 0, .int .i64 0, .int .i64 0, .int .i64 0] [(2, 1, .c (.int .i64 4)), (3, 1, .c (.int .i64 2))]),
o_ 17 (.build [.int .i64 0, .int .i64 0, .int .i64 0, .int .i64 0] [(0, 1, .c (.int .i64 1)), (2, 1, .c (.int .i64 2)), (3, 1, .c (.int .i64 5))]),
o_ 18 (.btsl 4 2 [.int .i64 0, .int .i64 0, .int .i64 0, .int .i64 0] [(0, .t 16), (1, .t 17)]),
o_ 19 (.call false (.c (.fn 9 [] [])) [.t 18]),
m_ 15 19,
o_ 20 (.extract (.t 15) 0),
o_ 21 (.extract (.t 15) 1),
m_ 1 20,
m_ 2 21] false)
(.seq
(.region [
o_ 23 (.build [.int .i64 0, .int .i64 0, .int .i64 0, .int .i64 0] [(1, 1, .c (.int .i64 (-3))), (2, 1, .c (.int .i64 3))]),
o_ 24 (.btsl 4 1 [.int .i64 0, .int .i64 0, .int .i64 0, .int .i64 0] [(0, .t 23)]),
o_ 25 (.call false (.c (.fn 11 [] [])) [.t 24]),
m_ 22 25,
o_ 26 (.extract (.t 22) 0),
o_ 27 (.extract (.t 22) 1),
m_ 3 26,
m_ 4 27] false)
(.seq
(.region [
m_ 29 1,
m_ 30 1,
o_ 31 (.call false (.c (.fn 14 [] [])) [.t 29, .t 30]),
m_ 28 31,
o_ 32 (.extract (.t 28) 0),
o_ 33 (.extract (.t 28) 1),
m_ 5 32,
m_ 6 33] false)
(.seq
(.region [
m_ 35 1,
o_ 36 (.call false (.c (.fn 16 [] [])) [.t 35, .c (.int .i64 1), .c (.int .i64 1)]),
m_ 34 36,
o_ 37 (.extract (.t 34) 0),
o_ 38 (.extract (.t 34) 1),
m_ 7 37,
m_ 8 38] false)
(.seq
(.region [
m_ 40 1,
o_ 41 (.call false (.c (.fn 18 [] [])) [.t 40, .c (.int .i64 1)]),
m_ 39 41,
o_ 42 (.extract (.t 39) 0),
o_ 43 (.extract (.t 39) 1),
m_ 9 42,
m_ 10 43] false)
(.seq
(.region [
m_ 45 1,
o_ 46 (.call false (.c (.fn 18 [] [])) [.t 45, .c (.int .i64 4)]),
m_ 44 46,
o_ 47 (.extract (.t 44) 0),
o_ 48 (.extract (.t 44) 1),
m_ 11 47,
m_ 12 48] false)
(.seq
(.region [
o_ 50 (.build [.int .i64 0, .int .i64 0, .int .i64 0, .int .i64 0] [(0, 1, .c (.int .i64 1))]),
o_ 51 (.btsl 4 1 [.int .i64 0, .int .i64 0, .int .i64 0, .int .i64 0] [(0, .t 50)]),
o_ 52 (.call false (.c (.fn 9 [] [])) [.t 51]),
m_ 49 52,
o_ 53 (.extract (.t 49) 0),
o_ 54 (.extract (.t 49) 1),
m_ 13 53,
m_ 14 54] false)
(.seq
(.region [
m_ 55 2,
o_ 56 (.bin .eql (.t 55) (.c (.int .i64 0))),
m_ 57 56,
g_ 58 (.mv (.t 1)) 57 true,
g_ 59 (.build [.int .i64 0, .int .i64 0, .int .i64 0] [(0, 1, .c (.int .i64 0)), (1, 1, .c (.int .i64 1)), (2, 1, .c (.int .i64 2))]) 57 true,
g_ 60 (.build [.int .i64 0, .int .i64 0, .int .i64 0] [(0, 1, .c (.int .i64 1)), (1, 1, .c (.int .i64 2)), (2, 1, .c (.int .i64 5))]) 57 true,
g_ 61 (.build [.int .i64 0, .int .i64 0, .int .i64 0] [(0, 1, .c (.int .i64 2)), (1, 1, .c (.int .i64 4)), (2, 1, .c (.int .i64 2))]) 57 true,
g_ 62 (.btsl 3 3 [.int .i64 0, .int .i64 0, .int .i64 0] [(0, .t 59), (1, .t 60), (2, .t 61)]) 57 true,
g_ 63 (.call false (.c (.fn 13 [] [])) [.t 58, .t 62]) 57 true,
o_ 64 (.pick (.t 57) (.t 63) (.c (.bool false))),
m_ 65 64,
g_ 66 (.mv (.t 4)) 65 true,
g_ 67 (.bin .eql (.t 66) (.c (.int .i64 0))) 65 true,
o_ 68 (.pick (.t 65) (.t 67) (.c (.bool false))),
m_ 69 68,
g_ 70 (.mv (.t 3)) 69 true,
g_ 71 (.len .sli (.t 70)) 69 true,
g_ 72 (.bin .eql (.t 71) (.c (.int .i64 1))) 69 true,
o_ 73 (.pick (.t 69) (.t 72) (.c (.bool false))),
m_ 74 73,
g_ 75 (.mv (.t 3)) 74 true,
g_ 76 (.idxa 3 (.t 75) (.c (.int .i64 0))) 74 true,
g_ 77 (.fadr 2 (.t 76)) 74 true,
g_ 78 (.load false 1 (.t 77)) 74 true,
g_ 79 (.bin .eql (.t 78) (.c (.int .i64 3))) 74 true,
o_ 80 (.pick (.t 74) (.t 79) (.c (.bool false))),
m_ 81 80,
g_ 82 (.mv (.t 6)) 81 true,
g_ 83 (.bin .eql (.t 82) (.c (.int .i64 0))) 81 true,
o_ 84 (.pick (.t 81) (.t 83) (.c (.bool false))),
m_ 85 84,
g_ 86 (.mv (.t 5)) 85 true,
g_ 87 (.mv (.t 1)) 85 true,
g_ 88 (.call false (.c (.fn 13 [] [])) [.t 86, .t 87]) 85 true,
o_ 89 (.pick (.t 85) (.t 88) (.c (.bool false))),
m_ 90 89,
g_ 91 (.mv (.t 8)) 90 true,
g_ 92 (.bin .eql (.t 91) (.c (.int .i64 0))) 90 true,
o_ 93 (.pick (.t 90) (.t 92) (.c (.bool false))),
m_ 94 93,
g_ 95 (.mv (.t 7)) 94 true,
g_ 96 (.len .sli (.t 95)) 94 true,
g_ 97 (.bin .eql (.t 96) (.c (.int .i64 3))) 94 true,
o_ 98 (.pick (.t 94) (.t 97) (.c (.bool false))),
m_ 99 98,
g_ 100 (.mv (.t 7)) 99 true,
g_ 101 (.idxa 3 (.t 100) (.c (.int .i64 0))) 99 true,
g_ 102 (.load true 3 (.t 101)) 99 true,
g_ 103 (.build [.int .i64 0, .int .i64 0, .int .i64 0] [(0, 1, .c (.int .i64 1)), (1, 1, .c (.int .i64 2)), (2, 1, .c (.int .i64 3))]) 99 true,
g_ 104 (.eq false (.ag [.i, .i, .i]) (.t 102) (.t 103)) 99 true,
o_ 105 (.pick (.t 99) (.t 104) (.c (.bool false))),
m_ 106 105,
g_ 107 (.mv (.t 9)) 106 true,
g_ 108 (.bin .eql (.t 107) (.c (.int .i64 5))) 106 true,
o_ 109 (.pick (.t 106) (.t 108) (.c (.bool false))),
m_ 110 109,
g_ 111 (.mv (.t 10)) 110 true,
o_ 112 (.pick (.t 110) (.t 111) (.c (.bool false))),
m_ 113 112,
g_ 114 (.mv (.t 12)) 113 true,
g_ 115 (.not (.t 114)) 113 true,
o_ 116 (.pick (.t 113) (.t 115) (.c (.bool false))),
m_ 117 116,
g_ 118 (.mv (.t 14)) 117 true,
g_ 119 (.bin .eql (.t 118) (.c (.int .i64 2))) 117 true,
o_ 120 (.pick (.t 117) (.t 119) (.c (.bool false))),
m_ 121 120,
g_ 122 (.mv (.t 1)) 121 true,
g_ 123 (.mv (.t 3)) 121 true,
g_ 124 (.call false (.c (.fn 22 [] [])) [.t 122, .t 123]) 121 true,
g_ 125 (.bin .eql (.t 124) (.c (.int .i64 8))) 121 true,
o_ 126 (.pick (.t 121) (.t 125) (.c (.bool false))),
m_ 127 126,
g_ 128 (.mv (.t 1)) 127 true,
g_ 129 (.call false (.c (.fn 20 [] [])) [.t 128]) 127 true,
o_ 130 (.pick (.t 127) (.t 129) (.c (.bool false))),
m_ 0 130] false)
.ret))))))))),
[.t 0]⟩
theorem ok8 : okFunc Go.Proofs.Try.prog 8 lf8 = true := by kernel_rfl
def lf9 : LFunc := ⟨8, 1,
(.seq
(.region [
o_ 2 (.mv (.c (.nils))),
o_ 3 (.mv (.c (.int .i64 0)))] false)
(.seq
(.region [
m_ 4 0,
o_ 5 (.call false (.c (.fn 24 [] [])) [.t 4, .c (.fn 25 [] [])]),
o_ 6 (.extract (.t 5) 0),
o_ 7 (.extract (.t 5) 1),
m_ 2 6,
m_ 3 7] false)
.ret)),
[.t 2, .t 3]⟩
theorem ok9 : okFunc Go.Proofs.Try.prog 9 lf9 = true := by kernel_rfl
def lf10 : LFunc := ⟨8, 1,
(.seq
(.region [
o_ 2 (.mv (.c (.nils))),
o_ 3 (.mv (.c (.int .i64 0)))] false)
(.seq
(.region [
m_ 4 0,
o_ 5 (.call false (.c (.fn 26 [] [])) [.t 4, .c (.bool false)]),
o_ 6 (.extract (.t 5) 0),
o_ 7 (.extract (.t 5) 1),
m_ 2 6,
m_ 3 7] false)
.ret)),
[.t 2, .t 3]⟩
theorem ok10 : okFunc Go.Proofs.Try.prog 10 lf10 = true := by kernel_rfl
def lf11 : LFunc := ⟨8, 1,
(.seq
(.region [
o_ 2 (.mv (.c (.nils))),
o_ 3 (.mv (.c (.int .i64 0)))] false)
(.seq
(.region [
m_ 4 0,
o_ 5 (.call false (.c (.fn 24 [] [])) [.t 4, .c (.fn 27 [] [])]),
o_ 6 (.extract (.t 5) 0),
o_ 7 (.extract (.t 5) 1),
m_ 2 6,
m_ 3 7] false)
.ret)),
[.t 2, .t 3]⟩
theorem ok11 : okFunc Go.Proofs.Try.prog 11 lf11 = true := by kernel_rfl
def lf12 : LFunc := ⟨8, 1,
(.seq
(.region [
o_ 2 (.mv (.c (.nils))),
o_ 3 (.mv (.c (.int .i64 0)))] false)
(.seq
(.region [
m_ 4 0,
o_ 5 (.call false (.c (.fn 26 [] [])) [.t 4, .c (.bool true)]),
o_ 6 (.extract (.t 5) 0),
o_ 7 (.extract (.t 5) 1),
m_ 2 6,
m_ 3 7] false)
.ret)),
[.t 2, .t 3]⟩
theorem ok12 : okFunc Go.Proofs.Try.prog 12 lf12 = true := by kernel_rfl
def lf13 : LFunc := ⟨26, 2,
(.seq
(.region [
o_ 4 (.mv (.c (.bool false)))] false)
(.seq
(.seq
(.region [
m_ 6 0,
o_ 7 (.len .sli (.t 6)),
m_ 8 1,
o_ 9 (.len .sli (.t 8)),
o_ 10 (.bin .neq (.t 7) (.t 9))] false)
(.cond (.t 10)
(.seq
(.region [
o_ 4 (.mv (.c (.bool false)))] false)
.ret)
.skip))
(.seq
(.seq
(.region [
o_ 5 (.mv (.c (.int .i64 0)))] false)
(.block 0
(.loop
(.seq
(.seq
(.region [
m_ 11 5,
m_ 12 0,
o_ 13 (.len .sli (.t 12)),
o_ 14 (.bin .lss (.t 11) (.t 13))] false)
(.cond (.t 14)
.skip
(.exit 0)))
(.seq
(.block 1
(.seq
(.region [
m_ 17 0,
m_ 18 5,
o_ 19 (.idxa 3 (.t 17) (.t 18)),
o_ 20 (.load true 3 (.t 19)),
m_ 21 1,
m_ 22 5,
o_ 23 (.idxa 3 (.t 21) (.t 22)),
o_ 24 (.load true 3 (.t 23)),
o_ 25 (.eq true (.ag [.i, .i, .i]) (.t 20) (.t 24))] true)
(.cond (.t 25)
(.seq
(.region [
o_ 4 (.mv (.c (.bool false)))] false)
.ret)
.skip)))
(.region [
m_ 15 5,
o_ 16 (.bin .add (.t 15) (.c (.int .i64 1))),
m_ 5 16] false))))))
(.seq
(.region [
o_ 4 (.mv (.c (.bool true)))] false)
.ret)))),
[.t 4]⟩
theorem ok13 : okFunc Go.Proofs.Try.prog 13 lf13 = true := by kernel_rfl
def lf14 : LFunc := ⟨24, 2,
(.seq
(.region [
o_ 4 (.mv (.c (.nils))),
o_ 5 (.mv (.c (.int .i64 0)))] false)
(.seq
(.seq
(.region [
m_ 7 0,
o_ 8 (.call false (.c (.fn 20 [] [])) [.t 7]),
o_ 9 (.not (.t 8)),
m_ 10 9,
g_ 11 (.mv (.t 1)) 10 false,
g_ 12 (.call false (.c (.fn 20 [] [])) [.t 11]) 10 false,
g_ 13 (.not (.t 12)) 10 false,
o_ 14 (.pick (.t 10) (.c (.bool true)) (.t 13))] false)
(.cond (.t 14)
(.seq
(.region [
o_ 4 (.mv (.c (.nils))),
o_ 5 (.mv (.c (.int .i64 2)))] false)
.ret)
.skip))
(.seq
(.region [
m_ 15 0,
m_ 16 1,
o_ 17 (.btsl 1 2 [.nils] [(0, .t 15), (1, .t 16)]),
o_ 18 (.call false (.c (.fn 29 [] [])) [.t 17]),
o_ 19 (.call false (.c (.fn 28 [] [])) [.t 18]),
m_ 6 19] false)
(.seq
(.seq
(.region [
m_ 20 6,
o_ 21 (.len .sli (.t 20)),
o_ 22 (.bin .gtr (.t 21) (.c (.int .i64 8192)))] false)
(.cond (.t 22)
(.seq
(.region [
o_ 4 (.mv (.c (.nils))),
o_ 5 (.mv (.c (.int .i64 2)))] false)
.ret)
.skip))
(.seq
(.region [
m_ 23 6,
m_ 4 23,
o_ 5 (.mv (.c (.int .i64 0)))] false)
.ret))))),
[.t 4, .t 5]⟩
theorem ok14 : okFunc Go.Proofs.Try.prog 14 lf14 = true := by kernel_rfl
def lf16 : LFunc := ⟨55, 3,
(.seq
(.region [
o_ 6 (.mv (.c (.nils))),
o_ 7 (.mv (.c (.int .i64 0)))] false)
(.seq
(.block 0
(.seq
(.region [
m_ 12 0,
o_ 13 (.call false (.c (.fn 20 [] [])) [.t 12]),
o_ 14 (.not (.t 13)),
m_ 11 14] false)
(.cond (.t 11)
(.seq
(.region [
o_ 6 (.mv (.c (.nils))),
o_ 7 (.mv (.c (.int .i64 2)))] false)
.ret)
(.seq
(.region [
m_ 16 1,
o_ 17 (.call false (.c (.fn 31 [] [])) [.t 16]),
o_ 18 (.not (.t 17)),
m_ 19 18,
g_ 20 (.mv (.t 2)) 19 false,
g_ 21 (.call false (.c (.fn 31 [] [])) [.t 20]) 19 false,
g_ 22 (.not (.t 21)) 19 false,
o_ 23 (.pick (.t 19) (.c (.bool true)) (.t 22)),
m_ 15 23] false)
(.cond (.t 15)
(.seq
(.region [
o_ 6 (.mv (.c (.nils))),
o_ 7 (.mv (.c (.int .i64 3)))] false)
.ret)
.skip)))))
(.seq
(.region [
m_ 24 0,
o_ 25 (.len .sli (.t 24)),
o_ 26 (.mksl 3 [.int .i64 0, .int .i64 0, .int .i64 0] 24 (.c (.int .i64 0)) (.t 25)),
m_ 8 26] false)
(.seq
(.seq
(.region [
m_ 27 0,
o_ 28 (.len .sli (.t 27)),
o_ 29 (.mv (.c (.int .i64 0)))] false)
(.block 1
(.loop
(.seq
(.region [
o_ 30 (.bin .lss (.t 29) (.t 28))] false)
(.seq
(.cond (.t 30)
.skip
(.exit 1))
(.seq
(.block 2
(.seq
(.region [
o_ 31 (.idxa 3 (.t 27) (.t 29)),
o_ 32 (.load true 3 (.t 31)),
o_ 10 (.newv [.int .i64 0, .int .i64 0, .int .i64 0]),
⟨none, .store 3 (.t 10) (.t 32), none⟩] false)
(.seq
(.region [
o_ 33 (.fadr 0 (.t 10)),
o_ 34 (.load false 1 (.t 33)),
m_ 35 1,
o_ 36 (.bin .add (.t 34) (.t 35)),
o_ 37 (.fadr 1 (.t 10)),
o_ 38 (.load false 1 (.t 37)),
m_ 39 1,
o_ 40 (.bin .add (.t 38) (.t 39)),
o_ 41 (.fadr 2 (.t 10)),
o_ 42 (.load false 1 (.t 41)),
m_ 43 2,
o_ 44 (.bin .add (.t 42) (.t 43)),
o_ 45 (.build [.int .i64 0, .int .i64 0, .int .i64 0] [(0, 1, .t 36), (1, 1, .t 40), (2, 1, .t 44)]),
⟨none, .store 3 (.t 10) (.t 45), none⟩] false)
(.seq
(.seq
(.region [
o_ 46 (.load true 3 (.t 10)),
o_ 47 (.call false (.c (.fn 32 [] [])) [.t 46]),
o_ 48 (.not (.t 47))] false)
(.cond (.t 48)
(.seq
(.region [
o_ 6 (.mv (.c (.nils))),
o_ 7 (.mv (.c (.int .i64 3)))] false)
.ret)
.skip))
(.region [
m_ 49 8,
o_ 50 (.load true 3 (.t 10)),
o_ 51 (.btsl 3 1 [.int .i64 0, .int .i64 0, .int .i64 0] [(0, .t 50)]),
o_ 52 (.append 3 24 (.t 49) (.t 51)),
m_ 8 52] false)))))
(.region [
o_ 53 (.bin .add (.t 29) (.c (.int .i64 1))),
m_ 29 53] false)))))))
(.seq
(.region [
m_ 54 8,
m_ 6 54,
o_ 7 (.mv (.c (.int .i64 0)))] false)
.ret))))),
[.t 6, .t 7]⟩
theorem ok16 : okFunc Go.Proofs.Try.prog 16 lf16 = true := by kernel_rfl
def lf18 : LFunc := ⟨24, 2,
(.seq
(.region [
o_ 4 (.mv (.c (.int .i64 0))),
o_ 5 (.mv (.c (.bool false)))] false)
(.seq
(.seq
(.region [
m_ 8 0,
o_ 9 (.call false (.c (.fn 20 [] [])) [.t 8]),
o_ 10 (.not (.t 9))] false)
(.cond (.t 10)
(.seq
(.region [
o_ 4 (.mv (.c (.int .i64 0))),
o_ 5 (.mv (.c (.bool false)))] false)
.ret)
.skip))
(.seq
(.region [
m_ 12 0,
m_ 13 1,
o_ 14 (.call false (.c (.fn 34 [] [])) [.t 12, .t 13, .c (.fn 35 [] [])]),
m_ 11 14,
o_ 15 (.extract (.t 11) 0),
o_ 16 (.extract (.t 11) 1),
m_ 6 15,
m_ 7 16] false)
(.seq
(.seq
(.region [
m_ 17 7,
o_ 18 (.not (.t 17))] false)
(.cond (.t 18)
(.seq
(.region [
o_ 4 (.mv (.c (.int .i64 0))),
o_ 5 (.mv (.c (.bool false)))] false)
.ret)
.skip))
(.seq
(.region [
m_ 19 0,
m_ 20 6,
o_ 21 (.idxa 3 (.t 19) (.t 20)),
o_ 22 (.fadr 2 (.t 21)),
o_ 23 (.load false 1 (.t 22)),
m_ 4 23,
o_ 5 (.mv (.c (.bool true)))] false)
.ret))))),
[.t 4, .t 5]⟩
theorem ok18 : okFunc Go.Proofs.Try.prog 18 lf18 = true := by kernel_rfl
def lf20 : LFunc := ⟨33, 1,
(.seq
(.region [
o_ 2 (.mv (.c (.bool false)))] false)
(.seq
(.seq
(.region [
m_ 5 0,
o_ 6 (.len .sli (.t 5)),
o_ 7 (.bin .gtr (.t 6) (.c (.int .i64 8192)))] false)
(.cond (.t 7)
(.seq
(.region [
o_ 2 (.mv (.c (.bool false)))] false)
.ret)
.skip))
(.seq
(.seq
(.region [
m_ 8 0,
o_ 9 (.len .sli (.t 8)),
o_ 10 (.mv (.c (.int .i64 0)))] false)
(.block 0
(.loop
(.seq
(.region [
o_ 11 (.bin .lss (.t 10) (.t 9))] false)
(.seq
(.cond (.t 11)
.skip
(.exit 0))
(.seq
(.block 1
(.seq
(.region [
m_ 12 10,
o_ 13 (.idxa 3 (.t 8) (.t 10)),
o_ 14 (.load true 3 (.t 13)),
o_ 4 (.newv [.int .i64 0, .int .i64 0, .int .i64 0]),
m_ 3 12,
⟨none, .store 3 (.t 4) (.t 14), none⟩] false)
(.seq
(.region [
o_ 15 (.load true 3 (.t 4)),
o_ 16 (.call false (.c (.fn 32 [] [])) [.t 15]),
o_ 17 (.not (.t 16)),
m_ 18 17,
g_ 19 (.mv (.t 3)) 18 false,
g_ 20 (.bin .gtr (.t 19) (.c (.int .i64 0))) 18 false,
g_ 21 (.mv (.t 20)) 18 false,
g_ 22 (.mv (.t 0)) 21 true,
g_ 23 (.mv (.t 3)) 21 true,
g_ 24 (.bin .sub (.t 23) (.c (.int .i64 1))) 21 true,
g_ 25 (.idxa 3 (.t 22) (.t 24)) 21 true,
g_ 26 (.load true 3 (.t 25)) 21 true,
g_ 27 (.load true 3 (.t 4)) 21 true,
g_ 28 (.call false (.c (.fn 36 [] [])) [.t 26, .t 27]) 21 true,
g_ 29 (.not (.t 28)) 21 true,
g_ 30 (.pick (.t 21) (.t 29) (.c (.bool false))) 18 false,
o_ 31 (.pick (.t 18) (.c (.bool true)) (.t 30))] true)
(.cond (.t 31)
(.seq
(.region [
o_ 2 (.mv (.c (.bool false)))] false)
.ret)
.skip))))
(.region [
o_ 32 (.bin .add (.t 10) (.c (.int .i64 1))),
m_ 10 32] false)))))))
(.seq
(.region [
o_ 2 (.mv (.c (.bool true)))] false)
.ret)))),
[.t 2]⟩
theorem ok20 : okFunc Go.Proofs.Try.prog 20 lf20 = true := by kernel_rfl
def lf22 : LFunc := ⟨64, 2,
(.seq
(.region [
o_ 4 (.mv (.c (.int .i64 0)))] false)
(.seq
(.seq
(.region [
m_ 10 0,
o_ 11 (.call false (.c (.fn 20 [] [])) [.t 10]),
o_ 12 (.not (.t 11)),
m_ 13 12,
g_ 14 (.mv (.t 1)) 13 false,
g_ 15 (.call false (.c (.fn 20 [] [])) [.t 14]) 13 false,
g_ 16 (.not (.t 15)) 13 false,
o_ 17 (.pick (.t 13) (.c (.bool true)) (.t 16))] false)
(.cond (.t 17)
(.seq
(.region [
o_ 4 (.mv (.c (.int .i64 0)))] false)
.ret)
.skip))
(.seq
(.region [
o_ 5 (.mv (.c (.int .i64 0)))] false)
(.seq
(.region [
o_ 6 (.mv (.c (.int .i64 0))),
o_ 7 (.mv (.c (.int .i64 0)))] false)
(.seq
(.block 0
(.loop
(.seq
(.seq
(.region [
m_ 18 6,
m_ 19 0,
o_ 20 (.len .sli (.t 19)),
o_ 21 (.bin .lss (.t 18) (.t 20)),
m_ 22 21,
g_ 23 (.mv (.t 7)) 22 true,
g_ 24 (.mv (.t 1)) 22 true,
g_ 25 (.len .sli (.t 24)) 22 true,
g_ 26 (.bin .lss (.t 23) (.t 25)) 22 true,
o_ 27 (.pick (.t 22) (.t 26) (.c (.bool false)))] false)
(.cond (.t 27)
.skip
(.exit 0)))
(.block 1
(.seq
(.region [
m_ 28 0,
m_ 29 6,
o_ 30 (.idxa 3 (.t 28) (.t 29)),
o_ 31 (.load true 3 (.t 30)),
m_ 32 1,
m_ 33 7,
o_ 34 (.idxa 3 (.t 32) (.t 33)),
o_ 35 (.loadF true 3 (.t 34)),
o_ 8 (.newv [.int .i64 0, .int .i64 0, .int .i64 0]),
o_ 9 (.newv [.int .i64 0, .int .i64 0, .int .i64 0]),
⟨none, .storeF 3 (.t 8) (.t 31), none⟩,
⟨none, .store 3 (.t 9) (.t 35), none⟩] true)
(.seq
(.seq
(.region [
o_ 36 (.fadr 0 (.t 8)),
o_ 37 (.load false 1 (.t 36)),
o_ 38 (.fadr 0 (.t 9)),
o_ 39 (.load false 1 (.t 38)),
o_ 40 (.maxs [.t 37, .t 39]),
o_ 41 (.fadr 1 (.t 8)),
o_ 42 (.load false 1 (.t 41)),
o_ 43 (.fadr 1 (.t 9)),
o_ 44 (.load false 1 (.t 43)),
o_ 45 (.mins [.t 42, .t 44]),
o_ 46 (.bin .lss (.t 40) (.t 45))] false)
(.cond (.t 46)
(.region [
m_ 47 5,
o_ 48 (.fadr 2 (.t 8)),
o_ 49 (.load false 1 (.t 48)),
o_ 50 (.fadr 2 (.t 9)),
o_ 51 (.load false 1 (.t 50)),
o_ 52 (.bin .add (.t 49) (.t 51)),
o_ 53 (.maxs [.t 47, .t 52]),
m_ 5 53] false)
.skip))
(.seq
(.region [
o_ 54 (.fadr 1 (.t 8)),
o_ 55 (.load false 1 (.t 54)),
o_ 56 (.fadr 1 (.t 9)),
o_ 57 (.load false 1 (.t 56)),
o_ 58 (.bin .leq (.t 55) (.t 57))] false)
(.cond (.t 58)
(.region [
m_ 59 6,
o_ 60 (.bin .add (.t 59) (.c (.int .i64 1))),
m_ 6 60] false)
(.region [
m_ 61 7,
o_ 62 (.bin .add (.t 61) (.c (.int .i64 1))),
m_ 7 62] false)))))))))
(.seq
(.region [
m_ 63 5,
m_ 4 63] false)
.ret)))))),
[.t 4]⟩
theorem ok22 : okFunc Go.Proofs.Try.prog 22 lf22 = true := by kernel_rfl
def lf24 : LFunc := ⟨40, 2,
(.seq
(.region [
o_ 4 (.mv (.c (.nils))),
o_ 5 (.mv (.c (.int .i64 0)))] false)
(.seq
(.seq
(.region [
m_ 9 0,
o_ 10 (.len .sli (.t 9)),
o_ 11 (.bin .gtr (.t 10) (.c (.int .i64 4096)))] false)
(.cond (.t 11)
(.seq
(.region [
o_ 4 (.mv (.c (.nils))),
o_ 5 (.mv (.c (.int .i64 2)))] false)
.ret)
.skip))
(.seq
(.region [
o_ 6 (.mv (.c (.nils)))] false)
(.seq
(.seq
(.region [
m_ 12 0,
o_ 13 (.len .sli (.t 12)),
o_ 14 (.mv (.c (.int .i64 0)))] false)
(.block 0
(.loop
(.seq
(.region [
o_ 15 (.bin .lss (.t 14) (.t 13))] false)
(.seq
(.cond (.t 15)
.skip
(.exit 0))
(.seq
(.block 1
(.seq
(.region [
o_ 16 (.idxa 4 (.t 12) (.t 14)),
o_ 17 (.load true 4 (.t 16)),
o_ 8 (.newv [.int .i64 0, .int .i64 0, .int .i64 0, .int .i64 0]),
⟨none, .store 4 (.t 8) (.t 17), none⟩] false)
(.seq
(.seq
(.region [
o_ 18 (.load true 4 (.t 8)),
o_ 19 (.call false (.c (.fn 37 [] [])) [.t 18]),
o_ 20 (.not (.t 19))] false)
(.cond (.t 20)
(.seq
(.region [
o_ 4 (.mv (.c (.nils))),
o_ 5 (.mv (.c (.int .i64 2)))] false)
.ret)
.skip))
(.seq
(.region [
o_ 21 (.fadr 0 (.t 8)),
o_ 22 (.load false 1 (.t 21)),
o_ 23 (.fadr 2 (.t 8)),
o_ 24 (.load false 1 (.t 23)),
o_ 25 (.bin .lss (.t 22) (.t 24))] false)
(.cond (.t 25)
(.region [
m_ 26 6,
o_ 27 (.fadr 0 (.t 8)),
o_ 28 (.load false 1 (.t 27)),
o_ 29 (.fadr 2 (.t 8)),
o_ 30 (.load false 1 (.t 29)),
m_ 31 1,
o_ 32 (.load true 4 (.t 8)),
o_ 33 (.call false (.t 31) [.t 32]),
o_ 34 (.build [.int .i64 0, .int .i64 0, .int .i64 0] [(0, 1, .t 28), (1, 1, .t 30), (2, 1, .t 33)]),
o_ 35 (.btsl 3 1 [.int .i64 0, .int .i64 0, .int .i64 0] [(0, .t 34)]),
o_ 36 (.append 3 24 (.t 26) (.t 35)),
m_ 6 36] true)
.skip)))))
(.region [
o_ 37 (.bin .add (.t 14) (.c (.int .i64 1))),
m_ 14 37] false)))))))
(.seq
(.region [
m_ 38 6,
o_ 39 (.call false (.c (.fn 28 [] [])) [.t 38]),
m_ 4 39,
o_ 5 (.mv (.c (.int .i64 0)))] false)
.ret))))),
[.t 4, .t 5]⟩
theorem ok24 : okFunc Go.Proofs.Try.prog 24 lf24 = true := by kernel_rfl
def lf25 : LFunc := ⟨5, 1,
(.seq
(.region [
o_ 1 (.box 4 (.t 0)),
o_ 2 (.mv (.c (.int .i64 0)))] false)
(.seq
(.region [
o_ 3 (.fadr 3 (.t 1)),
o_ 4 (.load false 1 (.t 3)),
m_ 2 4] false)
.ret)),
[.t 2]⟩
theorem ok25 : okFunc Go.Proofs.Try.prog 25 lf25 = true := by kernel_rfl
def lf26 : LFunc := ⟨48, 2,
(.seq
(.region [
o_ 4 (.mv (.c (.nils))),
o_ 5 (.mv (.c (.int .i64 0)))] false)
(.seq
(.seq
(.region [
m_ 10 0,
o_ 11 (.len .sli (.t 10)),
o_ 12 (.bin .gtr (.t 11) (.c (.int .i64 4096)))] false)
(.cond (.t 12)
(.seq
(.region [
o_ 4 (.mv (.c (.nils))),
o_ 5 (.mv (.c (.int .i64 2)))] false)
.ret)
.skip))
(.seq
(.region [
o_ 6 (.own 3)] false)
(.seq
(.seq
(.region [
o_ 7 (.mv (.c (.int .i64 0)))] false)
(.block 0
(.loop
(.seq
(.seq
(.region [
m_ 13 7,
m_ 14 0,
o_ 15 (.len .sli (.t 14)),
o_ 16 (.bin .lss (.t 13) (.t 15))] false)
(.cond (.t 16)
.skip
(.exit 0)))
(.seq
(.block 1
(.seq
(.region [
m_ 19 0,
m_ 20 7,
o_ 21 (.idxa 4 (.t 19) (.t 20)),
o_ 22 (.load true 4 (.t 21)),
o_ 8 (.newv [.int .i64 0, .int .i64 0, .int .i64 0, .int .i64 0]),
⟨none, .store 4 (.t 8) (.t 22), none⟩] false)
(.seq
(.seq
(.region [
o_ 23 (.load true 4 (.t 8)),
o_ 24 (.call false (.c (.fn 38 [] [])) [.t 23]),
o_ 25 (.not (.t 24))] false)
(.cond (.t 25)
(.seq
(.region [
o_ 4 (.mv (.c (.nils))),
o_ 5 (.mv (.c (.int .i64 2)))] false)
.ret)
.skip))
(.seq
(.region [
o_ 26 (.fadr 3 (.t 8)),
o_ 27 (.load false 1 (.t 26)),
m_ 9 27] false)
(.seq
(.seq
(.region [
m_ 28 1] false)
(.cond (.t 28)
(.region [
o_ 29 (.fadr 1 (.t 8)),
o_ 30 (.load false 1 (.t 29)),
o_ 31 (.bin .sub (.c (.int .i64 0)) (.t 30)),
m_ 9 31] false)
.skip))
(.seq
(.region [
o_ 32 (.fadr 0 (.t 8)),
o_ 33 (.load false 1 (.t 32)),
o_ 34 (.fadr 2 (.t 8)),
o_ 35 (.load false 1 (.t 34)),
o_ 36 (.bin .lss (.t 33) (.t 35))] false)
(.cond (.t 36)
(.region [
m_ 37 6,
o_ 38 (.fadr 0 (.t 8)),
o_ 39 (.load false 1 (.t 38)),
o_ 40 (.fadr 2 (.t 8)),
o_ 41 (.load false 1 (.t 40)),
m_ 42 9,
o_ 43 (.build [.int .i64 0, .int .i64 0, .int .i64 0] [(0, 1, .t 39), (1, 1, .t 41), (2, 1, .t 42)]),
o_ 44 (.btsl 3 1 [.int .i64 0, .int .i64 0, .int .i64 0] [(0, .t 43)]),
o_ 45 (.append 3 24 (.t 37) (.t 44)),
m_ 6 45] false)
.skip)))))))
(.region [
m_ 17 7,
o_ 18 (.bin .add (.t 17) (.c (.int .i64 1))),
m_ 7 18] false))))))
(.seq
(.region [
m_ 46 6,
o_ 47 (.call false (.c (.fn 30 [] [])) [.t 46]),
m_ 4 47,
o_ 5 (.mv (.c (.int .i64 0)))] false)
.ret))))),
[.t 4, .t 5]⟩
theorem ok26 : okFunc Go.Proofs.Try.prog 26 lf26 = true := by kernel_rfl
def lf27 : LFunc := ⟨6, 1,
(.seq
(.region [
o_ 1 (.box 4 (.t 0)),
o_ 2 (.mv (.c (.int .i64 0)))] false)
(.seq
(.region [
o_ 3 (.fadr 1 (.t 1)),
o_ 4 (.load false 1 (.t 3)),
o_ 5 (.neg (.t 4)),
m_ 2 5] false)
.ret)),
[.t 2]⟩
theorem ok27 : okFunc Go.Proofs.Try.prog 27 lf27 = true := by kernel_rfl
def lf28 : LFunc := ⟨121, 1,
(.seq
(.region [
o_ 2 (.mv (.c (.nils)))] false)
(.seq
(.region [
o_ 3 (.own 1)] false)
(.seq
(.seq
(.region [
m_ 14 0,
o_ 15 (.len .sli (.t 14)),
o_ 16 (.mv (.c (.int .i64 0)))] false)
(.block 0
(.loop
(.seq
(.region [
o_ 17 (.bin .lss (.t 16) (.t 15))] false)
(.seq
(.cond (.t 17)
.skip
(.exit 0))
(.seq
(.block 1
(.seq
(.region [
o_ 18 (.idxa 3 (.t 14) (.t 16)),
o_ 19 (.load true 3 (.t 18)),
o_ 5 (.newv [.int .i64 0, .int .i64 0, .int .i64 0]),
⟨none, .store 3 (.t 5) (.t 19), none⟩] false)
(.region [
m_ 20 3,
o_ 21 (.fadr 0 (.t 5)),
o_ 22 (.load false 1 (.t 21)),
o_ 23 (.fadr 1 (.t 5)),
o_ 24 (.load false 1 (.t 23)),
o_ 25 (.btsl 1 2 [.int .i64 0] [(0, .t 22), (1, .t 24)]),
o_ 26 (.append 1 8 (.t 20) (.t 25)),
m_ 3 26] false)))
(.region [
o_ 27 (.bin .add (.t 16) (.c (.int .i64 1))),
m_ 16 27] false)))))))
(.seq
(.region [
m_ 28 3,
o_ 29 (.call false (.c (.fn 39 [] [])) [.t 28])] false)
(.seq
(.region [
m_ 30 3,
o_ 31 (.call false (.c (.fn 40 [] [])) [.t 30]),
m_ 3 31] false)
(.seq
(.region [
m_ 32 0,
o_ 33 (.call false (.c (.fn 41 [] [])) [.t 32]),
m_ 6 33] false)
(.seq
(.region [
m_ 34 6,
o_ 35 (.call false (.c (.fn 42 [] [])) [.t 34, .c (.fn 43 [] [])])] false)
(.seq
(.region [
o_ 7 (.own 3),
o_ 8 (.own 3)] false)
(.seq
(.seq
(.region [
m_ 36 3,
o_ 37 (.len .sli (.t 36)),
o_ 38 (.bin .sub (.t 37) (.c (.int .i64 1))),
o_ 39 (.maxs [.c (.int .i64 0), .t 38]),
o_ 40 (.mv (.c (.int .i64 0)))] false)
(.block 2
(.loop
(.seq
(.region [
o_ 41 (.bin .lss (.t 40) (.t 39))] false)
(.seq
(.cond (.t 41)
.skip
(.exit 2))
(.seq
(.block 3
(.seq
(.region [
m_ 42 40,
m_ 9 42] false)
(.seq
(.region [
m_ 43 3,
m_ 44 9,
o_ 45 (.idxa 1 (.t 43) (.t 44)),
o_ 46 (.load false 1 (.t 45)),
m_ 47 3,
m_ 48 9,
o_ 49 (.bin .add (.t 48) (.c (.int .i64 1))),
o_ 50 (.idxa 1 (.t 47) (.t 49)),
o_ 51 (.loadF false 1 (.t 50)),
o_ 10 (.newv [.int .i64 0]),
⟨none, .storeF 1 (.t 10) (.t 46), none⟩,
m_ 11 51] true)
(.seq
(.block 4
(.loop
(.seq
(.seq
(.region [
m_ 52 6,
o_ 53 (.len .sli (.t 52)),
o_ 54 (.bin .gtr (.t 53) (.c (.int .i64 0))),
m_ 55 54,
g_ 56 (.mv (.t 6)) 55 true,
g_ 57 (.idxa 3 (.t 56) (.c (.int .i64 0))) 55 true,
g_ 58 (.fadr 0 (.t 57)) 55 true,
g_ 59 (.load false 1 (.t 58)) 55 true,
g_ 60 (.load false 1 (.t 10)) 55 true,
g_ 61 (.bin .leq (.t 59) (.t 60)) 55 true,
o_ 62 (.pick (.t 55) (.t 61) (.c (.bool false)))] true)
(.cond (.t 62)
.skip
(.exit 4)))
(.block 5
(.seq
(.region [
m_ 63 8,
m_ 64 6,
o_ 65 (.idxa 3 (.t 64) (.c (.int .i64 0))),
o_ 66 (.load true 3 (.t 65)),
o_ 67 (.btsl 3 1 [.int .i64 0, .int .i64 0, .int .i64 0] [(0, .t 66)]),
o_ 68 (.append 3 24 (.t 63) (.t 67)),
m_ 8 68] false)
(.region [
m_ 69 6,
o_ 70 (.slice 3 (.t 69) (some (.c (.int .i64 1))) none none),
m_ 6 70] false))))))
(.seq
(.region [
m_ 71 8,
o_ 72 (.mkfn 46 [] [.t 10]),
o_ 73 (.call false (.c (.fn 45 [] [])) [.t 71, .t 72]),
m_ 8 73] false)
(.seq
(.seq
(.region [
m_ 74 8,
o_ 75 (.len .sli (.t 74)),
o_ 76 (.bin .eql (.t 75) (.c (.int .i64 0)))] false)
(.cond (.t 76)
(.exit 3)
.skip))
(.seq
(.region [
m_ 77 8,
o_ 78 (.call false (.c (.fn 47 [] [])) [.t 77, .c (.fn 48 [] [])]),
o_ 79 (.field false 2 1 (.t 78)),
m_ 12 79] false)
(.seq
(.region [
m_ 80 7,
o_ 81 (.len .sli (.t 80)),
m_ 13 81] false)
(.seq
(.seq
(.region [
m_ 82 13,
o_ 83 (.bin .gtr (.t 82) (.c (.int .i64 0))),
m_ 84 83,
g_ 85 (.mv (.t 7)) 84 true,
g_ 86 (.mv (.t 13)) 84 true,
g_ 87 (.bin .sub (.t 86) (.c (.int .i64 1))) 84 true,
g_ 88 (.idxa 3 (.t 85) (.t 87)) 84 true,
g_ 89 (.load true 3 (.t 88)) 84 true,
g_ 90 (.mv (.t 7)) 84 true,
g_ 91 (.mv (.t 13)) 84 true,
g_ 92 (.bin .sub (.t 91) (.c (.int .i64 1))) 84 true,
g_ 93 (.idxa 3 (.t 90) (.t 92)) 84 true,
g_ 94 (.fadr 0 (.t 93)) 84 true,
g_ 95 (.load false 1 (.t 94)) 84 true,
g_ 96 (.load false 1 (.t 10)) 84 true,
g_ 97 (.mv (.t 12)) 84 true,
g_ 98 (.build [.int .i64 0, .int .i64 0, .int .i64 0] [(0, 1, .t 95), (1, 1, .t 96), (2, 1, .t 97)]) 84 true,
g_ 99 (.eq false (.ag [.i, .i, .i]) (.t 89) (.t 98)) 84 true,
o_ 100 (.pick (.t 84) (.t 99) (.c (.bool false)))] true)
(.cond (.t 100)
(.seq
(.region [
m_ 101 7,
m_ 102 13,
o_ 103 (.bin .sub (.t 102) (.c (.int .i64 1))),
m_ 104 11,
o_ 105 (.idxa 3 (.t 101) (.t 103)),
o_ 106 (.fadr 1 (.t 105)),
⟨none, .store 1 (.t 106) (.t 104), none⟩] false)
(.exit 3))
.skip))
(.region [
m_ 107 7,
o_ 108 (.load false 1 (.t 10)),
m_ 109 11,
m_ 110 12,
o_ 111 (.build [.int .i64 0, .int .i64 0, .int .i64 0] [(0, 1, .t 108), (1, 1, .t 109), (2, 1, .t 110)]),
o_ 112 (.btsl 3 1 [.int .i64 0, .int .i64 0, .int .i64 0] [(0, .t 111)]),
o_ 113 (.append 3 24 (.t 107) (.t 112)),
m_ 7 113] false))))))))))
(.region [
o_ 114 (.bin .add (.t 40) (.c (.int .i64 1))),
m_ 40 114] false)))))))
(.seq
(.region [
m_ 115 7,
m_ 116 7,
o_ 117 (.len .sli (.t 116)),
m_ 118 7,
o_ 119 (.len .sli (.t 118)),
o_ 120 (.slice 3 (.t 115) none (some (.t 117)) (some (.t 119))),
m_ 2 120] false)
.ret)))))))))),
[.t 2]⟩
theorem ok28 : okFunc Go.Proofs.Try.prog 28 lf28 = true := by kernel_rfl
def lf29 : LFunc := ⟨36, 1,
(.seq
(.region [
o_ 2 (.mv (.c (.nils)))] false)
(.seq
(.region [
o_ 3 (.mv (.c (.int .i64 0)))] false)
(.seq
(.seq
(.region [
m_ 9 0,
o_ 10 (.len .sli (.t 9)),
o_ 11 (.mv (.c (.int .i64 0)))] false)
(.block 0
(.loop
(.seq
(.region [
o_ 12 (.bin .lss (.t 11) (.t 10))] false)
(.seq
(.cond (.t 12)
.skip
(.exit 0))
(.seq
(.block 1
(.seq
(.region [
o_ 13 (.idxa 1 (.t 9) (.t 11)),
o_ 14 (.load false 1 (.t 13)),
m_ 5 14] false)
(.seq
(.region [
m_ 15 3,
m_ 16 5,
o_ 17 (.len .sli (.t 16)),
o_ 18 (.bin .add (.t 15) (.t 17)),
m_ 3 18] false)
(.seq
(.region [
m_ 19 3,
o_ 20 (.bin .lss (.t 19) (.c (.int .i64 0)))] false)
(.cond (.t 20)
(.region [
o_ 21 (.bad),
⟨none, .bad, none⟩] false)
.skip)))))
(.region [
o_ 22 (.bin .add (.t 11) (.c (.int .i64 1))),
m_ 11 22] false)))))))
(.seq
(.region [
m_ 23 3,
o_ 24 (.call false (.c (.fn 49 [] [])) [.c (.nils), .t 23]),
m_ 6 24] false)
(.seq
(.seq
(.region [
m_ 25 0,
o_ 26 (.len .sli (.t 25)),
o_ 27 (.mv (.c (.int .i64 0)))] false)
(.block 2
(.loop
(.seq
(.region [
o_ 28 (.bin .lss (.t 27) (.t 26))] false)
(.seq
(.cond (.t 28)
.skip
(.exit 2))
(.seq
(.block 3
(.seq
(.region [
o_ 29 (.idxa 1 (.t 25) (.t 27)),
o_ 30 (.load false 1 (.t 29)),
m_ 8 30] false)
(.region [
m_ 31 6,
m_ 32 8,
o_ 33 (.append 3 24 (.t 31) (.t 32)),
m_ 6 33] false)))
(.region [
o_ 34 (.bin .add (.t 27) (.c (.int .i64 1))),
m_ 27 34] false)))))))
(.seq
(.region [
m_ 35 6,
m_ 2 35] false)
.ret)))))),
[.t 2]⟩
theorem ok29 : okFunc Go.Proofs.Try.prog 29 lf29 = true := by kernel_rfl
def lf30 : LFunc := ⟨86, 1,
(.seq
(.region [
o_ 2 (.mv (.c (.nils)))] false)
(.seq
(.region [
m_ 9 0,
o_ 10 (.call false (.c (.fn 50 [] [])) [.t 9]),
m_ 3 10] false)
(.seq
(.region [
o_ 4 (.own 3)] false)
(.seq
(.seq
(.region [
o_ 5 (.mv (.c (.int .i64 0)))] false)
(.block 0
(.loop
(.seq
(.seq
(.region [
m_ 11 5,
o_ 12 (.bin .add (.t 11) (.c (.int .i64 1))),
m_ 13 3,
o_ 14 (.len .sli (.t 13)),
o_ 15 (.bin .lss (.t 12) (.t 14))] false)
(.cond (.t 15)
.skip
(.exit 0)))
(.seq
(.block 1
(.seq
(.region [
m_ 19 0,
m_ 20 3,
m_ 21 5,
o_ 22 (.idxa 1 (.t 20) (.t 21)),
o_ 23 (.load false 1 (.t 22)),
m_ 24 3,
m_ 25 5,
o_ 26 (.bin .add (.t 25) (.c (.int .i64 1))),
o_ 27 (.idxa 1 (.t 24) (.t 26)),
o_ 28 (.load false 1 (.t 27)),
o_ 29 (.call false (.c (.fn 51 [] [])) [.t 19, .t 23, .t 28]),
m_ 18 29,
o_ 30 (.extract (.t 18) 0),
o_ 31 (.extract (.t 18) 1),
m_ 6 30,
m_ 7 31] true)
(.seq
(.seq
(.region [
m_ 32 7,
o_ 33 (.not (.t 32))] false)
(.cond (.t 33)
(.exit 1)
.skip))
(.seq
(.region [
m_ 34 4,
o_ 35 (.len .sli (.t 34)),
m_ 8 35] false)
(.seq
(.region [
m_ 36 8,
o_ 37 (.bin .gtr (.t 36) (.c (.int .i64 0))),
m_ 38 37,
g_ 39 (.mv (.t 4)) 38 true,
g_ 40 (.mv (.t 8)) 38 true,
g_ 41 (.bin .sub (.t 40) (.c (.int .i64 1))) 38 true,
g_ 42 (.idxa 3 (.t 39) (.t 41)) 38 true,
g_ 43 (.fadr 1 (.t 42)) 38 true,
g_ 44 (.load false 1 (.t 43)) 38 true,
g_ 45 (.mv (.t 3)) 38 true,
g_ 46 (.mv (.t 5)) 38 true,
g_ 47 (.idxa 1 (.t 45) (.t 46)) 38 true,
g_ 48 (.load false 1 (.t 47)) 38 true,
g_ 49 (.bin .eql (.t 44) (.t 48)) 38 true,
o_ 50 (.pick (.t 38) (.t 49) (.c (.bool false))),
m_ 51 50,
g_ 52 (.mv (.t 4)) 51 true,
g_ 53 (.mv (.t 8)) 51 true,
g_ 54 (.bin .sub (.t 53) (.c (.int .i64 1))) 51 true,
g_ 55 (.idxa 3 (.t 52) (.t 54)) 51 true,
g_ 56 (.fadr 2 (.t 55)) 51 true,
g_ 57 (.load false 1 (.t 56)) 51 true,
g_ 58 (.mv (.t 6)) 51 true,
g_ 59 (.bin .eql (.t 57) (.t 58)) 51 true,
o_ 60 (.pick (.t 51) (.t 59) (.c (.bool false)))] true)
(.cond (.t 60)
(.region [
m_ 61 4,
m_ 62 8,
o_ 63 (.bin .sub (.t 62) (.c (.int .i64 1))),
m_ 64 3,
m_ 65 5,
o_ 66 (.bin .add (.t 65) (.c (.int .i64 1))),
o_ 67 (.idxa 1 (.t 64) (.t 66)),
o_ 68 (.load false 1 (.t 67)),
o_ 69 (.idxa 3 (.t 61) (.t 63)),
o_ 70 (.fadr 1 (.t 69)),
⟨none, .store 1 (.t 70) (.t 68), none⟩] false)
(.region [
m_ 71 4,
m_ 72 3,
m_ 73 5,
o_ 74 (.idxa 1 (.t 72) (.t 73)),
o_ 75 (.load false 1 (.t 74)),
m_ 76 3,
m_ 77 5,
o_ 78 (.bin .add (.t 77) (.c (.int .i64 1))),
o_ 79 (.idxa 1 (.t 76) (.t 78)),
o_ 80 (.load false 1 (.t 79)),
m_ 81 6,
o_ 82 (.build [.int .i64 0, .int .i64 0, .int .i64 0] [(0, 1, .t 75), (1, 1, .t 80), (2, 1, .t 81)]),
o_ 83 (.btsl 3 1 [.int .i64 0, .int .i64 0, .int .i64 0] [(0, .t 82)]),
o_ 84 (.append 3 24 (.t 71) (.t 83)),
m_ 4 84] true)))))))
(.region [
m_ 16 5,
o_ 17 (.bin .add (.t 16) (.c (.int .i64 1))),
m_ 5 17] false))))))
(.seq
(.region [
m_ 85 4,
m_ 2 85] false)
.ret))))),
[.t 2]⟩
theorem ok30 : okFunc Go.Proofs.Try.prog 30 lf30 = true := by kernel_rfl
def lf31 : LFunc := ⟨9, 1,
(.seq
(.region [
o_ 2 (.mv (.c (.bool false)))] false)
(.seq
(.region [
m_ 3 0,
o_ 4 (.bin .leq (.c (.int .i64 (-1099511627776))) (.t 3)),
m_ 5 4,
g_ 6 (.mv (.t 0)) 5 true,
g_ 7 (.bin .leq (.t 6) (.c (.int .i64 1099511627776))) 5 true,
o_ 8 (.pick (.t 5) (.t 7) (.c (.bool false))),
m_ 2 8] false)
.ret)),
[.t 2]⟩
theorem ok31 : okFunc Go.Proofs.Try.prog 31 lf31 = true := by kernel_rfl
def lf32 : LFunc := ⟨23, 1,
(.seq
(.region [
o_ 1 (.box 3 (.t 0)),
o_ 2 (.mv (.c (.bool false)))] false)
(.seq
(.region [
o_ 3 (.fadr 0 (.t 1)),
o_ 4 (.load false 1 (.t 3)),
o_ 5 (.call false (.c (.fn 31 [] [])) [.t 4]),
m_ 6 5,
g_ 7 (.fadr 1 (.t 1)) 6 true,
g_ 8 (.load false 1 (.t 7)) 6 true,
g_ 9 (.call false (.c (.fn 31 [] [])) [.t 8]) 6 true,
o_ 10 (.pick (.t 6) (.t 9) (.c (.bool false))),
m_ 11 10,
g_ 12 (.fadr 2 (.t 1)) 11 true,
g_ 13 (.load false 1 (.t 12)) 11 true,
g_ 14 (.call false (.c (.fn 31 [] [])) [.t 13]) 11 true,
o_ 15 (.pick (.t 11) (.t 14) (.c (.bool false))),
m_ 16 15,
g_ 17 (.fadr 0 (.t 1)) 16 true,
g_ 18 (.load false 1 (.t 17)) 16 true,
g_ 19 (.fadr 1 (.t 1)) 16 true,
g_ 20 (.load false 1 (.t 19)) 16 true,
g_ 21 (.bin .lss (.t 18) (.t 20)) 16 true,
o_ 22 (.pick (.t 16) (.t 21) (.c (.bool false))),
m_ 2 22] false)
.ret)),
[.t 2]⟩
theorem ok32 : okFunc Go.Proofs.Try.prog 32 lf32 = true := by kernel_rfl
def lf33 : LFunc := ⟨9, 1,
(.seq
(.region [
o_ 2 (.mv (.c (.bool false)))] false)
(.seq
(.region [
m_ 3 0,
o_ 4 (.bin .geq (.t 3) (.c (.int .i64 (-1099511627776)))),
m_ 5 4,
g_ 6 (.mv (.t 0)) 5 true,
g_ 7 (.bin .leq (.t 6) (.c (.int .i64 1099511627776))) 5 true,
o_ 8 (.pick (.t 5) (.t 7) (.c (.bool false))),
m_ 2 8] false)
.ret)),
[.t 2]⟩
theorem ok33 : okFunc Go.Proofs.Try.prog 33 lf33 = true := by kernel_rfl
def lf34 : LFunc := ⟨49, 3,
(.seq
(.region [
o_ 6 (.mv (.c (.int .i64 0))),
o_ 7 (.mv (.c (.bool false)))] false)
(.seq
(.region [
m_ 12 0,
o_ 13 (.len .sli (.t 12)),
m_ 8 13] false)
(.seq
(.region [
m_ 14 8,
o_ 9 (.mv (.c (.int .i64 0))),
m_ 10 14] false)
(.seq
(.block 0
(.loop
(.seq
(.seq
(.region [
m_ 15 9,
m_ 16 10,
o_ 17 (.bin .lss (.t 15) (.t 16))] false)
(.cond (.t 17)
.skip
(.exit 0)))
(.block 1
(.seq
(.region [
m_ 18 9,
m_ 19 10,
o_ 20 (.bin .add (.t 18) (.t 19)),
o_ 21 (.conv .u64 (.t 20)),
o_ 22 (.bin .shr (.t 21) (.c (.int .u64 1))),
o_ 23 (.conv .i64 (.t 22)),
m_ 11 23] false)
(.seq
(.region [
m_ 24 2,
m_ 25 0,
m_ 26 11,
o_ 27 (.idxa 3 (.t 25) (.t 26)),
o_ 28 (.load true 3 (.t 27)),
m_ 29 1,
o_ 30 (.call false (.t 24) [.t 28, .t 29]),
o_ 31 (.bin .lss (.t 30) (.c (.int .i64 0)))] false)
(.cond (.t 31)
(.region [
m_ 32 11,
o_ 33 (.bin .add (.t 32) (.c (.int .i64 1))),
m_ 9 33] false)
(.region [
m_ 34 11,
m_ 10 34] false))))))))
(.seq
(.region [
m_ 35 9,
m_ 36 9,
m_ 37 8,
o_ 38 (.bin .lss (.t 36) (.t 37)),
m_ 39 38,
g_ 40 (.mv (.t 2)) 39 true,
g_ 41 (.mv (.t 0)) 39 true,
g_ 42 (.mv (.t 9)) 39 true,
g_ 43 (.idxa 3 (.t 41) (.t 42)) 39 true,
g_ 44 (.load true 3 (.t 43)) 39 true,
g_ 45 (.mv (.t 1)) 39 true,
g_ 46 (.call false (.t 40) [.t 44, .t 45]) 39 true,
g_ 47 (.bin .eql (.t 46) (.c (.int .i64 0))) 39 true,
o_ 48 (.pick (.t 39) (.t 47) (.c (.bool false))),
m_ 6 35,
m_ 7 48] false)
.ret))))),
[.t 6, .t 7]⟩
theorem ok34 : okFunc Go.Proofs.Try.prog 34 lf34 = true := by kernel_rfl
def lf35 : LFunc := ⟨15, 2,
(.seq
(.region [
o_ 2 (.box 3 (.t 0)),
o_ 4 (.mv (.c (.int .i64 0)))] false)
(.seq
(.block 0
(.seq
(.region [
o_ 6 (.fadr 1 (.t 2)),
o_ 7 (.load false 1 (.t 6)),
m_ 8 1,
o_ 9 (.bin .leq (.t 7) (.t 8)),
m_ 5 9] false)
(.cond (.t 5)
(.seq
(.region [
o_ 4 (.mv (.c (.int .i64 (-1))))] false)
.ret)
(.seq
(.region [
o_ 11 (.fadr 0 (.t 2)),
o_ 12 (.load false 1 (.t 11)),
m_ 13 1,
o_ 14 (.bin .gtr (.t 12) (.t 13)),
m_ 10 14] false)
(.cond (.t 10)
(.seq
(.region [
o_ 4 (.mv (.c (.int .i64 1)))] false)
.ret)
.skip)))))
(.seq
(.region [
o_ 4 (.mv (.c (.int .i64 0)))] false)
.ret))),
[.t 4]⟩
theorem ok35 : okFunc Go.Proofs.Try.prog 35 lf35 = true := by kernel_rfl
def lf36 : LFunc := ⟨20, 2,
(.seq
(.region [
o_ 2 (.box 3 (.t 0)),
o_ 3 (.box 3 (.t 1)),
o_ 4 (.mv (.c (.bool false)))] false)
(.seq
(.seq
(.region [
o_ 5 (.fadr 0 (.t 3)),
o_ 6 (.load false 1 (.t 5)),
o_ 7 (.fadr 1 (.t 2)),
o_ 8 (.load false 1 (.t 7)),
o_ 9 (.bin .eql (.t 6) (.t 8))] false)
(.cond (.t 9)
(.seq
(.region [
o_ 10 (.fadr 2 (.t 3)),
o_ 11 (.load false 1 (.t 10)),
o_ 12 (.fadr 2 (.t 2)),
o_ 13 (.load false 1 (.t 12)),
o_ 14 (.bin .neq (.t 11) (.t 13)),
m_ 4 14] false)
.ret)
.skip))
(.seq
(.region [
o_ 15 (.fadr 0 (.t 3)),
o_ 16 (.load false 1 (.t 15)),
o_ 17 (.fadr 1 (.t 2)),
o_ 18 (.load false 1 (.t 17)),
o_ 19 (.bin .gtr (.t 16) (.t 18)),
m_ 4 19] false)
.ret))),
[.t 4]⟩
theorem ok36 : okFunc Go.Proofs.Try.prog 36 lf36 = true := by kernel_rfl
def lf37 : LFunc := ⟨33, 1,
(.seq
(.region [
o_ 1 (.box 4 (.t 0)),
o_ 2 (.mv (.c (.bool false)))] false)
(.seq
(.seq
(.region [
o_ 5 (.fadr 0 (.t 1)),
o_ 6 (.load false 1 (.t 5)),
o_ 7 (.fadr 1 (.t 1)),
o_ 8 (.load false 1 (.t 7)),
o_ 9 (.fadr 2 (.t 1)),
o_ 10 (.load false 1 (.t 9)),
o_ 11 (.fadr 3 (.t 1)),
o_ 12 (.load false 1 (.t 11)),
o_ 13 (.build [.int .i64 0, .int .i64 0, .int .i64 0, .int .i64 0] [(0, 1, .t 6), (1, 1, .t 8), (2, 1, .t 10), (3, 1, .t 12)]),
o_ 14 (.mv (.c (.int .i64 0)))] false)
(.block 0
(.loop
(.seq
(.region [
o_ 15 (.bin .lss (.t 14) (.c (.int .i64 4)))] false)
(.seq
(.cond (.t 15)
.skip
(.exit 0))
(.seq
(.block 1
(.seq
(.region [
o_ 16 (.idxc false 1 4 (.t 13) (.t 14)),
m_ 4 16] false)
(.seq
(.region [
m_ 17 4,
o_ 18 (.call false (.c (.fn 31 [] [])) [.t 17]),
o_ 19 (.not (.t 18))] false)
(.cond (.t 19)
(.seq
(.region [
o_ 2 (.mv (.c (.bool false)))] false)
.ret)
.skip))))
(.region [
o_ 20 (.bin .add (.t 14) (.c (.int .i64 1))),
m_ 14 20] false)))))))
(.seq
(.region [
o_ 21 (.fadr 0 (.t 1)),
o_ 22 (.load false 1 (.t 21)),
o_ 23 (.fadr 2 (.t 1)),
o_ 24 (.load false 1 (.t 23)),
o_ 25 (.bin .leq (.t 22) (.t 24)),
m_ 26 25,
g_ 27 (.fadr 1 (.t 1)) 26 true,
g_ 28 (.load false 1 (.t 27)) 26 true,
g_ 29 (.fadr 3 (.t 1)) 26 true,
g_ 30 (.load false 1 (.t 29)) 26 true,
g_ 31 (.bin .leq (.t 28) (.t 30)) 26 true,
o_ 32 (.pick (.t 26) (.t 31) (.c (.bool false))),
m_ 2 32] false)
.ret))),
[.t 2]⟩
theorem ok37 : okFunc Go.Proofs.Try.prog 37 lf37 = true := by kernel_rfl
def lf38 : LFunc := ⟨35, 1,
(.seq
(.region [
o_ 1 (.box 4 (.t 0)),
o_ 2 (.mv (.c (.bool false)))] false)
(.seq
(.region [
o_ 3 (.fadr 0 (.t 1)),
o_ 4 (.load false 1 (.t 3)),
o_ 5 (.call false (.c (.fn 33 [] [])) [.t 4]),
m_ 6 5,
g_ 7 (.fadr 1 (.t 1)) 6 true,
g_ 8 (.load false 1 (.t 7)) 6 true,
g_ 9 (.call false (.c (.fn 33 [] [])) [.t 8]) 6 true,
o_ 10 (.pick (.t 6) (.t 9) (.c (.bool false))),
m_ 11 10,
g_ 12 (.fadr 2 (.t 1)) 11 true,
g_ 13 (.load false 1 (.t 12)) 11 true,
g_ 14 (.call false (.c (.fn 33 [] [])) [.t 13]) 11 true,
o_ 15 (.pick (.t 11) (.t 14) (.c (.bool false))),
m_ 16 15,
g_ 17 (.fadr 3 (.t 1)) 16 true,
g_ 18 (.load false 1 (.t 17)) 16 true,
g_ 19 (.call false (.c (.fn 33 [] [])) [.t 18]) 16 true,
o_ 20 (.pick (.t 16) (.t 19) (.c (.bool false))),
m_ 21 20,
g_ 22 (.fadr 0 (.t 1)) 21 true,
g_ 23 (.load false 1 (.t 22)) 21 true,
g_ 24 (.fadr 2 (.t 1)) 21 true,
g_ 25 (.load false 1 (.t 24)) 21 true,
g_ 26 (.bin .leq (.t 23) (.t 25)) 21 true,
o_ 27 (.pick (.t 21) (.t 26) (.c (.bool false))),
m_ 28 27,
g_ 29 (.fadr 1 (.t 1)) 28 true,
g_ 30 (.load false 1 (.t 29)) 28 true,
g_ 31 (.fadr 3 (.t 1)) 28 true,
g_ 32 (.load false 1 (.t 31)) 28 true,
g_ 33 (.bin .leq (.t 30) (.t 32)) 28 true,
o_ 34 (.pick (.t 28) (.t 33) (.c (.bool false))),
m_ 2 34] false)
.ret)),
[.t 2]⟩
theorem ok38 : okFunc Go.Proofs.Try.prog 38 lf38 = true := by kernel_rfl
def lf39 : LFunc := ⟨11, 1,
(.seq
(.region [
m_ 3 0,
o_ 4 (.len .sli (.t 3)),
m_ 2 4] false)
(.region [
m_ 5 0,
m_ 6 2,
m_ 7 2,
o_ 8 (.conv .u64 (.t 7)),
o_ 9 (.call false (.c (.fn 53 [] [])) [.t 8]),
o_ 10 (.call false (.c (.fn 52 [] [])) [.t 5, .c (.int .i64 0), .t 6, .t 9])] false)),
[]⟩
theorem ok39 : okFunc Go.Proofs.Try.prog 39 lf39 = true := by kernel_rfl
def lf40 : LFunc := ⟨61, 1,
(.seq
(.region [
o_ 2 (.mv (.c (.nils)))] false)
(.seq
(.seq
(.region [
m_ 6 0,
o_ 7 (.len .sli (.t 6)),
o_ 8 (.bin .lss (.t 7) (.c (.int .i64 2)))] false)
(.cond (.t 8)
(.seq
(.region [
m_ 9 0,
m_ 2 9] false)
.ret)
.skip))
(.seq
(.seq
(.region [
o_ 3 (.mv (.c (.int .i64 1)))] false)
(.block 0
(.loop
(.seq
(.seq
(.region [
m_ 10 3,
m_ 11 0,
o_ 12 (.len .sli (.t 11)),
o_ 13 (.bin .lss (.t 10) (.t 12))] false)
(.cond (.t 13)
.skip
(.exit 0)))
(.seq
(.block 1
(.seq
(.region [
m_ 16 0,
m_ 17 3,
o_ 18 (.idxa 1 (.t 16) (.t 17)),
o_ 19 (.load false 1 (.t 18)),
m_ 20 0,
m_ 21 3,
o_ 22 (.bin .sub (.t 21) (.c (.int .i64 1))),
o_ 23 (.idxa 1 (.t 20) (.t 22)),
o_ 24 (.load false 1 (.t 23)),
o_ 25 (.bin .eql (.t 19) (.t 24))] true)
(.cond (.t 25)
(.seq
(.region [
m_ 26 0,
m_ 27 3,
o_ 28 (.slice 1 (.t 26) (some (.t 27)) none none),
m_ 4 28] false)
(.seq
(.seq
(.region [
o_ 5 (.mv (.c (.int .i64 1)))] false)
(.block 2
(.loop
(.seq
(.seq
(.region [
m_ 29 5,
m_ 30 4,
o_ 31 (.len .sli (.t 30)),
o_ 32 (.bin .lss (.t 29) (.t 31))] false)
(.cond (.t 32)
.skip
(.exit 2)))
(.seq
(.block 3
(.seq
(.region [
m_ 35 4,
m_ 36 5,
o_ 37 (.idxa 1 (.t 35) (.t 36)),
o_ 38 (.load false 1 (.t 37)),
m_ 39 4,
m_ 40 5,
o_ 41 (.bin .sub (.t 40) (.c (.int .i64 1))),
o_ 42 (.idxa 1 (.t 39) (.t 41)),
o_ 43 (.load false 1 (.t 42)),
o_ 44 (.bin .neq (.t 38) (.t 43))] true)
(.cond (.t 44)
(.seq
(.region [
m_ 45 0,
m_ 46 3,
m_ 47 4,
m_ 48 5,
o_ 49 (.idxa 1 (.t 47) (.t 48)),
o_ 50 (.load false 1 (.t 49)),
o_ 51 (.idxa 1 (.t 45) (.t 46)),
⟨none, .store 1 (.t 51) (.t 50), none⟩] false)
(.region [
m_ 52 3,
o_ 53 (.bin .add (.t 52) (.c (.int .i64 1))),
m_ 3 53] false))
.skip)))
(.region [
m_ 33 5,
o_ 34 (.bin .add (.t 33) (.c (.int .i64 1))),
m_ 5 34] false))))))
(.seq
(.region [
m_ 54 0,
m_ 55 3,
o_ 56 (.slice 1 (.t 54) (some (.t 55)) none none),
⟨none, .clr 1 [.int .i64 0] (.t 56), none⟩] false)
(.seq
(.region [
m_ 57 0,
m_ 58 3,
o_ 59 (.slice 1 (.t 57) none (some (.t 58)) none),
m_ 2 59] false)
.ret))))
.skip)))
(.region [
m_ 14 3,
o_ 15 (.bin .add (.t 14) (.c (.int .i64 1))),
m_ 3 15] false))))))
(.seq
(.region [
m_ 60 0,
m_ 2 60] false)
.ret)))),
[.t 2]⟩
theorem ok40 : okFunc Go.Proofs.Try.prog 40 lf40 = true := by kernel_rfl
def lf41 : LFunc := ⟨8, 1,
(.seq
(.region [
o_ 2 (.mv (.c (.nils)))] false)
(.seq
(.seq
(.region [
m_ 3 0,
o_ 4 (.nilS false (.t 3))] false)
(.cond (.t 4)
(.seq
(.region [
o_ 2 (.mv (.c (.nils)))] false)
.ret)
.skip))
(.seq
(.region [
o_ 5 (.bsl 3 0 [.int .i64 0, .int .i64 0, .int .i64 0] []),
m_ 6 0,
o_ 7 (.append 3 24 (.t 5) (.t 6)),
m_ 2 7] false)
.ret))),
[.t 2]⟩
theorem ok41 : okFunc Go.Proofs.Try.prog 41 lf41 = true := by kernel_rfl
def lf42 : LFunc := ⟨14, 2,
(.seq
(.region [
m_ 5 0,
o_ 6 (.len .sli (.t 5)),
m_ 4 6] false)
(.region [
m_ 7 0,
m_ 8 4,
m_ 9 4,
o_ 10 (.conv .u64 (.t 9)),
o_ 11 (.call false (.c (.fn 53 [] [])) [.t 10]),
m_ 12 1,
o_ 13 (.call false (.c (.fn 54 [] [])) [.t 7, .c (.int .i64 0), .t 8, .t 11, .t 12])] false)),
[]⟩
theorem ok42 : okFunc Go.Proofs.Try.prog 42 lf42 = true := by kernel_rfl
def lf43 : LFunc := ⟨10, 2,
(.seq
(.region [
o_ 2 (.box 3 (.t 0)),
o_ 3 (.box 3 (.t 1)),
o_ 4 (.mv (.c (.int .i64 0)))] false)
(.seq
(.region [
o_ 5 (.fadr 0 (.t 2)),
o_ 6 (.load false 1 (.t 5)),
o_ 7 (.fadr 0 (.t 3)),
o_ 8 (.load false 1 (.t 7)),
o_ 9 (.call false (.c (.fn 44 [] [])) [.t 6, .t 8]),
m_ 4 9] false)
.ret)),
[.t 4]⟩
theorem ok43 : okFunc Go.Proofs.Try.prog 43 lf43 = true := by kernel_rfl
def lf44 : LFunc := ⟨20, 2,
(.seq
(.region [
o_ 4 (.mv (.c (.int .i64 0)))] false)
(.seq
(.region [
m_ 7 0,
o_ 8 (.call false (.c (.fn 55 [] [])) [.t 7]),
m_ 5 8] false)
(.seq
(.region [
m_ 9 1,
o_ 10 (.call false (.c (.fn 55 [] [])) [.t 9]),
m_ 6 10] false)
(.seq
(.seq
(.region [
m_ 11 5] false)
(.cond (.t 11)
(.seq
(.seq
(.region [
m_ 12 6] false)
(.cond (.t 12)
(.seq
(.region [
o_ 4 (.mv (.c (.int .i64 0)))] false)
.ret)
.skip))
(.seq
(.region [
o_ 4 (.mv (.c (.int .i64 (-1))))] false)
.ret))
.skip))
(.seq
(.seq
(.region [
m_ 13 6] false)
(.cond (.t 13)
(.seq
(.region [
o_ 4 (.mv (.c (.int .i64 1)))] false)
.ret)
.skip))
(.seq
(.seq
(.region [
m_ 14 0,
m_ 15 1,
o_ 16 (.bin .lss (.t 14) (.t 15))] false)
(.cond (.t 16)
(.seq
(.region [
o_ 4 (.mv (.c (.int .i64 (-1))))] false)
.ret)
.skip))
(.seq
(.seq
(.region [
m_ 17 0,
m_ 18 1,
o_ 19 (.bin .gtr (.t 17) (.t 18))] false)
(.cond (.t 19)
(.seq
(.region [
o_ 4 (.mv (.c (.int .i64 1)))] false)
.ret)
.skip))
(.seq
(.region [
o_ 4 (.mv (.c (.int .i64 0)))] false)
.ret)))))))),
[.t 4]⟩
theorem ok44 : okFunc Go.Proofs.Try.prog 44 lf44 = true := by kernel_rfl
def lf45 : LFunc := ⟨42, 2,
(.seq
(.region [
o_ 4 (.mv (.c (.nils)))] false)
(.seq
(.region [
m_ 8 0,
m_ 9 1,
o_ 10 (.call false (.c (.fn 56 [] [])) [.t 8, .t 9]),
m_ 5 10] false)
(.seq
(.seq
(.region [
m_ 11 5,
o_ 12 (.bin .eql (.t 11) (.c (.int .i64 (-1))))] false)
(.cond (.t 12)
(.seq
(.region [
m_ 13 0,
m_ 4 13] false)
.ret)
.skip))
(.seq
(.seq
(.region [
m_ 14 5,
o_ 15 (.bin .add (.t 14) (.c (.int .i64 1))),
m_ 6 15] false)
(.block 0
(.loop
(.seq
(.seq
(.region [
m_ 16 6,
m_ 17 0,
o_ 18 (.len .sli (.t 17)),
o_ 19 (.bin .lss (.t 16) (.t 18))] false)
(.cond (.t 19)
.skip
(.exit 0)))
(.seq
(.block 1
(.seq
(.region [
m_ 22 0,
m_ 23 6,
o_ 24 (.idxa 3 (.t 22) (.t 23)),
o_ 25 (.load true 3 (.t 24)),
o_ 7 (.newv [.int .i64 0, .int .i64 0, .int .i64 0]),
⟨none, .store 3 (.t 7) (.t 25), none⟩] false)
(.seq
(.region [
m_ 26 1,
o_ 27 (.load true 3 (.t 7)),
o_ 28 (.call false (.t 26) [.t 27]),
o_ 29 (.not (.t 28))] false)
(.cond (.t 29)
(.seq
(.region [
m_ 30 0,
m_ 31 5,
o_ 32 (.load true 3 (.t 7)),
o_ 33 (.idxa 3 (.t 30) (.t 31)),
⟨none, .store 3 (.t 33) (.t 32), none⟩] false)
(.region [
m_ 34 5,
o_ 35 (.bin .add (.t 34) (.c (.int .i64 1))),
m_ 5 35] false))
.skip))))
(.region [
m_ 20 6,
o_ 21 (.bin .add (.t 20) (.c (.int .i64 1))),
m_ 6 21] false))))))
(.seq
(.region [
m_ 36 0,
m_ 37 5,
o_ 38 (.slice 3 (.t 36) (some (.t 37)) none none),
⟨none, .clr 3 [.int .i64 0, .int .i64 0, .int .i64 0] (.t 38), none⟩] false)
(.seq
(.region [
m_ 39 0,
m_ 40 5,
o_ 41 (.slice 3 (.t 39) none (some (.t 40)) none),
m_ 4 41] false)
.ret)))))),
[.t 4]⟩
theorem ok45 : okFunc Go.Proofs.Try.prog 45 lf45 = true := by kernel_rfl
def lf46 : LFunc := ⟨8, 2,
(.seq
(.region [
o_ 2 (.box 3 (.t 0)),
o_ 3 (.mv (.c (.bool false)))] false)
(.seq
(.region [
o_ 4 (.fadr 1 (.t 2)),
o_ 5 (.load false 1 (.t 4)),
o_ 6 (.load false 1 (.t 1)),
o_ 7 (.bin .leq (.t 5) (.t 6)),
m_ 3 7] false)
.ret)),
[.t 3]⟩
theorem ok46 : okFunc Go.Proofs.Try.prog 46 lf46 = true := by kernel_rfl
def lf47 : LFunc := ⟨33, 2,
(.seq
(.region [
o_ 4 (.newv [.int .i64 0, .int .i64 0, .int .i64 0])] false)
(.seq
(.seq
(.region [
m_ 7 0,
o_ 8 (.len .sli (.t 7)),
o_ 9 (.bin .lss (.t 8) (.c (.int .i64 1)))] false)
(.cond (.t 9)
(.region [
o_ 10 (.bad),
⟨none, .bad, none⟩] false)
.skip))
(.seq
(.region [
m_ 11 0,
o_ 12 (.idxa 3 (.t 11) (.c (.int .i64 0))),
o_ 13 (.load true 3 (.t 12)),
o_ 5 (.newv [.int .i64 0, .int .i64 0, .int .i64 0]),
⟨none, .store 3 (.t 5) (.t 13), none⟩] false)
(.seq
(.seq
(.region [
o_ 6 (.mv (.c (.int .i64 1)))] false)
(.block 0
(.loop
(.seq
(.seq
(.region [
m_ 14 6,
m_ 15 0,
o_ 16 (.len .sli (.t 15)),
o_ 17 (.bin .lss (.t 14) (.t 16))] false)
(.cond (.t 17)
.skip
(.exit 0)))
(.seq
(.block 1
(.seq
(.region [
m_ 20 1,
m_ 21 0,
m_ 22 6,
o_ 23 (.idxa 3 (.t 21) (.t 22)),
o_ 24 (.load true 3 (.t 23)),
o_ 25 (.load true 3 (.t 5)),
o_ 26 (.call false (.t 20) [.t 24, .t 25]),
o_ 27 (.bin .gtr (.t 26) (.c (.int .i64 0)))] true)
(.cond (.t 27)
(.region [
m_ 28 0,
m_ 29 6,
o_ 30 (.idxa 3 (.t 28) (.t 29)),
o_ 31 (.load true 3 (.t 30)),
⟨none, .store 3 (.t 5) (.t 31), none⟩] false)
.skip)))
(.region [
m_ 18 6,
o_ 19 (.bin .add (.t 18) (.c (.int .i64 1))),
m_ 6 19] false))))))
(.seq
(.region [
o_ 32 (.load true 3 (.t 5)),
⟨none, .store 3 (.t 4) (.t 32), none⟩] false)
.ret))))),
[.cell true 3 4]⟩
theorem ok47 : okFunc Go.Proofs.Try.prog 47 lf47 = true := by kernel_rfl
def lf48 : LFunc := ⟨10, 2,
(.seq
(.region [
o_ 2 (.box 3 (.t 0)),
o_ 3 (.box 3 (.t 1)),
o_ 4 (.mv (.c (.int .i64 0)))] false)
(.seq
(.region [
o_ 5 (.fadr 2 (.t 2)),
o_ 6 (.load false 1 (.t 5)),
o_ 7 (.fadr 2 (.t 3)),
o_ 8 (.load false 1 (.t 7)),
o_ 9 (.call false (.c (.fn 44 [] [])) [.t 6, .t 8]),
m_ 4 9] false)
.ret)),
[.t 4]⟩
theorem ok48 : okFunc Go.Proofs.Try.prog 48 lf48 = true := by kernel_rfl
def lf49 : LFunc := ⟨27, 2,
(.seq
(.region [
o_ 4 (.mv (.c (.nils)))] false)
(.seq
(.seq
(.region [
m_ 5 1,
o_ 6 (.bin .lss (.t 5) (.c (.int .i64 0)))] false)
(.cond (.t 6)
(.region [
o_ 7 (.bad),
⟨none, .bad, none⟩] false)
.skip))
(.seq
(.seq
(.region [
m_ 8 1,
m_ 9 0,
o_ 10 (.capn (.t 9)),
m_ 11 0,
o_ 12 (.len .sli (.t 11)),
o_ 13 (.bin .sub (.t 10) (.t 12)),
o_ 14 (.bin .sub (.t 8) (.t 13)),
m_ 1 14] false)
(.seq
(.region [
m_ 15 1,
o_ 16 (.bin .gtr (.t 15) (.c (.int .i64 0)))] false)
(.cond (.t 16)
(.region [
m_ 17 0,
m_ 18 0,
o_ 19 (.capn (.t 18)),
o_ 20 (.slice 3 (.t 17) none (some (.t 19)) none),
m_ 21 1,
o_ 22 (.appz 3 [.int .i64 0, .int .i64 0, .int .i64 0] 24 (.t 20) (.t 21)),
m_ 23 0,
o_ 24 (.len .sli (.t 23)),
o_ 25 (.slice 3 (.t 22) none (some (.t 24)) none),
m_ 0 25] false)
.skip)))
(.seq
(.region [
m_ 26 0,
m_ 4 26] false)
.ret)))),
[.t 4]⟩
theorem ok49 : okFunc Go.Proofs.Try.prog 49 lf49 = true := by kernel_rfl
def lf50 : LFunc := ⟨25, 1,
(.seq
(.region [
o_ 2 (.mv (.c (.nils)))] false)
(.seq
(.region [
o_ 3 (.own 1)] false)
(.seq
(.seq
(.region [
o_ 4 (.mv (.c (.int .i64 0)))] false)
(.block 0
(.loop
(.seq
(.seq
(.region [
m_ 5 4,
m_ 6 0,
o_ 7 (.len .sli (.t 6)),
o_ 8 (.bin .lss (.t 5) (.t 7))] false)
(.cond (.t 8)
.skip
(.exit 0)))
(.seq
(.block 1
(.regionH [
(m_ 11 3, 0, 0),
(m_ 12 0, 0, 1),
(m_ 13 4, 0, 2),
(o_ 14 (.idxa 3 (.t 12) (.t 13)), 0, 3),
(o_ 15 (.fadr 0 (.t 14)), 0, 4),
(o_ 16 (.load false 1 (.t 15)), 1, 5),
(m_ 18 0, 0, 7),
(m_ 19 4, 0, 8),
(o_ 20 (.idxa 3 (.t 18) (.t 19)), 0, 9),
(o_ 21 (.fadr 1 (.t 20)), 0, 10),
(o_ 22 (.load false 1 (.t 21)), 0, 11),
(o_ 17 (.call false (.c (.fn 57 [] [])) [.t 11, .t 16]), 2, 6),
(o_ 23 (.call false (.c (.fn 57 [] [])) [.t 17, .t 22]), 2, 12),
(m_ 3 23, 0, 13)]))
(.region [
m_ 9 4,
o_ 10 (.bin .add (.t 9) (.c (.int .i64 1))),
m_ 4 10] false))))))
(.seq
(.region [
m_ 24 3,
m_ 2 24] false)
.ret)))),
[.t 2]⟩
theorem ok50 : okFunc Go.Proofs.Try.prog 50 lf50 = true := by kernel_rfl
def lf51 : LFunc := ⟨53, 3,
(.seq
(.region [
o_ 6 (.mv (.c (.int .i64 0))),
o_ 7 (.mv (.c (.bool false)))] false)
(.seq
(.region [
o_ 8 (.mv (.c (.int .i64 0))),
o_ 9 (.mv (.c (.bool false)))] false)
(.seq
(.seq
(.region [
o_ 10 (.mv (.c (.int .i64 0)))] false)
(.block 0
(.loop
(.seq
(.seq
(.region [
m_ 11 10,
m_ 12 0,
o_ 13 (.len .sli (.t 12)),
o_ 14 (.bin .lss (.t 11) (.t 13))] false)
(.cond (.t 14)
.skip
(.exit 0)))
(.seq
(.block 1
(.seq
(.region [
m_ 17 0,
m_ 18 10,
o_ 19 (.idxa 3 (.t 17) (.t 18)),
o_ 20 (.fadr 0 (.t 19)),
o_ 21 (.load false 1 (.t 20)),
m_ 22 1,
o_ 23 (.bin .leq (.t 21) (.t 22)),
m_ 24 23,
g_ 25 (.mv (.t 0)) 24 true,
g_ 26 (.mv (.t 10)) 24 true,
g_ 27 (.idxa 3 (.t 25) (.t 26)) 24 true,
g_ 28 (.fadr 1 (.t 27)) 24 true,
g_ 29 (.load false 1 (.t 28)) 24 true,
g_ 30 (.mv (.t 2)) 24 true,
g_ 31 (.bin .geq (.t 29) (.t 30)) 24 true,
o_ 32 (.pick (.t 24) (.t 31) (.c (.bool false))),
m_ 33 32,
g_ 34 (.mv (.t 9)) 33 true,
g_ 35 (.not (.t 34)) 33 true,
g_ 36 (.mv (.t 35)) 33 true,
g_ 37 (.mv (.t 0)) 36 false,
g_ 38 (.mv (.t 10)) 36 false,
g_ 39 (.idxa 3 (.t 37) (.t 38)) 36 false,
g_ 40 (.fadr 2 (.t 39)) 36 false,
g_ 41 (.load false 1 (.t 40)) 36 false,
g_ 42 (.mv (.t 8)) 36 false,
g_ 43 (.bin .gtr (.t 41) (.t 42)) 36 false,
g_ 44 (.pick (.t 36) (.c (.bool true)) (.t 43)) 33 true,
o_ 45 (.pick (.t 33) (.t 44) (.c (.bool false)))] false)
(.cond (.t 45)
(.region [
m_ 46 0,
m_ 47 10,
o_ 48 (.idxa 3 (.t 46) (.t 47)),
o_ 49 (.fadr 2 (.t 48)),
o_ 50 (.load false 1 (.t 49)),
m_ 8 50,
o_ 9 (.mv (.c (.bool true)))] false)
.skip)))
(.region [
m_ 15 10,
o_ 16 (.bin .add (.t 15) (.c (.int .i64 1))),
m_ 10 16] false))))))
(.seq
(.region [
m_ 51 8,
m_ 52 9,
m_ 6 51,
m_ 7 52] false)
.ret)))),
[.t 6, .t 7]⟩
theorem ok51 : okFunc Go.Proofs.Try.prog 51 lf51 = true := by kernel_rfl
def lf52 : LFunc := ⟨134, 4,
(.seq
(.region [
o_ 8 (.mv (.c (.bool true)))] false)
(.seq
(.region [
o_ 9 (.mv (.c (.bool true)))] false)
(.block 0
(.loop
(.block 1
(.seq
(.region [
m_ 19 2,
m_ 20 1,
o_ 21 (.bin .sub (.t 19) (.t 20)),
m_ 10 21] false)
(.seq
(.seq
(.region [
m_ 22 10,
o_ 23 (.bin .leq (.t 22) (.c (.int .i64 12)))] false)
(.cond (.t 23)
(.seq
(.region [
m_ 24 0,
m_ 25 1,
m_ 26 2,
o_ 27 (.call false (.c (.fn 58 [] [])) [.t 24, .t 25, .t 26])] false)
.ret)
.skip))
(.seq
(.seq
(.region [
m_ 28 3,
o_ 29 (.bin .eql (.t 28) (.c (.int .i64 0)))] false)
(.cond (.t 29)
(.seq
(.region [
m_ 30 0,
m_ 31 1,
m_ 32 2,
o_ 33 (.call false (.c (.fn 59 [] [])) [.t 30, .t 31, .t 32])] false)
.ret)
.skip))
(.seq
(.seq
(.region [
m_ 34 8,
o_ 35 (.not (.t 34))] false)
(.cond (.t 35)
(.seq
(.region [
m_ 36 0,
m_ 37 1,
m_ 38 2,
o_ 39 (.call false (.c (.fn 60 [] [])) [.t 36, .t 37, .t 38])] false)
(.region [
m_ 40 3,
o_ 41 (.bin .sub (.t 40) (.c (.int .i64 1))),
m_ 3 41] false))
.skip))
(.seq
(.region [
m_ 43 0,
m_ 44 1,
m_ 45 2,
o_ 46 (.call false (.c (.fn 61 [] [])) [.t 43, .t 44, .t 45]),
m_ 42 46,
o_ 47 (.extract (.t 42) 0),
o_ 48 (.extract (.t 42) 1),
m_ 11 47,
m_ 12 48] false)
(.seq
(.seq
(.region [
m_ 49 12,
o_ 50 (.bin .eql (.t 49) (.c (.int .i64 2)))] false)
(.cond (.t 50)
(.seq
(.region [
m_ 51 0,
m_ 52 1,
m_ 53 2,
o_ 54 (.call false (.c (.fn 62 [] [])) [.t 51, .t 52, .t 53])] false)
(.seq
(.region [
m_ 55 2,
o_ 56 (.bin .sub (.t 55) (.c (.int .i64 1))),
m_ 57 11,
m_ 58 1,
o_ 59 (.bin .sub (.t 57) (.t 58)),
o_ 60 (.bin .sub (.t 56) (.t 59)),
m_ 11 60] false)
(.region [
o_ 12 (.mv (.c (.int .i64 1)))] false)))
.skip))
(.seq
(.seq
(.region [
m_ 61 8,
m_ 62 61,
g_ 63 (.mv (.t 9)) 62 true,
o_ 64 (.pick (.t 62) (.t 63) (.c (.bool false))),
m_ 65 64,
g_ 66 (.mv (.t 12)) 65 true,
g_ 67 (.bin .eql (.t 66) (.c (.int .i64 1))) 65 true,
o_ 68 (.pick (.t 65) (.t 67) (.c (.bool false)))] false)
(.cond (.t 68)
(.seq
(.region [
m_ 69 0,
m_ 70 1,
m_ 71 2,
o_ 72 (.call false (.c (.fn 63 [] [])) [.t 69, .t 70, .t 71])] false)
(.cond (.t 72)
.ret
.skip))
.skip))
(.seq
(.seq
(.region [
m_ 73 1,
o_ 74 (.bin .gtr (.t 73) (.c (.int .i64 0))),
m_ 75 74,
g_ 76 (.mv (.t 0)) 75 true,
g_ 77 (.mv (.t 1)) 75 true,
g_ 78 (.bin .sub (.t 77) (.c (.int .i64 1))) 75 true,
g_ 79 (.idxa 1 (.t 76) (.t 78)) 75 true,
g_ 80 (.load false 1 (.t 79)) 75 true,
g_ 81 (.mv (.t 0)) 75 true,
g_ 82 (.mv (.t 11)) 75 true,
g_ 83 (.idxa 1 (.t 81) (.t 82)) 75 true,
g_ 84 (.load false 1 (.t 83)) 75 true,
g_ 85 (.call false (.c (.fn 64 [] [])) [.t 80, .t 84]) 75 true,
g_ 86 (.not (.t 85)) 75 true,
o_ 87 (.pick (.t 75) (.t 86) (.c (.bool false)))] true)
(.cond (.t 87)
(.seq
(.region [
m_ 88 0,
m_ 89 1,
m_ 90 2,
m_ 91 11,
o_ 92 (.call false (.c (.fn 65 [] [])) [.t 88, .t 89, .t 90, .t 91]),
m_ 13 92] false)
(.seq
(.region [
m_ 93 13,
m_ 1 93] false)
(.exit 1)))
.skip))
(.seq
(.region [
m_ 95 0,
m_ 96 1,
m_ 97 2,
m_ 98 11,
o_ 99 (.call false (.c (.fn 66 [] [])) [.t 95, .t 96, .t 97, .t 98]),
m_ 94 99,
o_ 100 (.extract (.t 94) 0),
o_ 101 (.extract (.t 94) 1),
m_ 14 100,
m_ 15 101] false)
(.seq
(.region [
m_ 102 15,
m_ 9 102] false)
(.seq
(.region [
m_ 103 14,
m_ 104 1,
o_ 105 (.bin .sub (.t 103) (.t 104)),
m_ 106 2,
m_ 107 14,
o_ 108 (.bin .sub (.t 106) (.t 107)),
m_ 16 105,
m_ 17 108] false)
(.seq
(.region [
m_ 109 10,
o_ 110 (.bin .quo (.t 109) (.c (.int .i64 8))),
m_ 18 110] false)
(.seq
(.region [
m_ 111 16,
m_ 112 17,
o_ 113 (.bin .lss (.t 111) (.t 112))] false)
(.cond (.t 113)
(.seq
(.region [
m_ 114 16,
m_ 115 18,
o_ 116 (.bin .geq (.t 114) (.t 115)),
m_ 8 116] false)
(.seq
(.region [
m_ 117 0,
m_ 118 1,
m_ 119 14,
m_ 120 3,
o_ 121 (.call false (.c (.fn 52 [] [])) [.t 117, .t 118, .t 119, .t 120])] false)
(.region [
m_ 122 14,
o_ 123 (.bin .add (.t 122) (.c (.int .i64 1))),
m_ 1 123] false)))
(.seq
(.region [
m_ 124 17,
m_ 125 18,
o_ 126 (.bin .geq (.t 124) (.t 125)),
m_ 8 126] false)
(.seq
(.region [
m_ 127 0,
m_ 128 14,
o_ 129 (.bin .add (.t 128) (.c (.int .i64 1))),
m_ 130 2,
m_ 131 3,
o_ 132 (.call false (.c (.fn 52 [] [])) [.t 127, .t 129, .t 130, .t 131])] false)
(.region [
m_ 133 14,
m_ 2 133] false)))))))))))))))))))))),
[]⟩
theorem ok52 : okFunc Go.Proofs.Try.prog 52 lf52 = true := by kernel_rfl
def lf53 : LFunc := ⟨8, 1,
(.seq
(.region [
o_ 2 (.mv (.c (.int .i64 0)))] false)
(.seq
(.cond (.c (.bool false))
(.seq
(.region [
m_ 3 0,
o_ 4 (.conv .u32 (.t 3)),
o_ 5 (.call false (.c (.fn 67 [] [])) [.t 4]),
m_ 2 5] false)
.ret)
.skip)
(.seq
(.region [
m_ 6 0,
o_ 7 (.call false (.c (.fn 68 [] [])) [.t 6]),
m_ 2 7] false)
.ret))),
[.t 2]⟩
theorem ok53 : okFunc Go.Proofs.Try.prog 53 lf53 = true := by kernel_rfl
def lf54 : LFunc := ⟨148, 5,
(.seq
(.region [
o_ 10 (.mv (.c (.bool true)))] false)
(.seq
(.region [
o_ 11 (.mv (.c (.bool true)))] false)
(.block 0
(.loop
(.block 1
(.seq
(.region [
m_ 21 2,
m_ 22 1,
o_ 23 (.bin .sub (.t 21) (.t 22)),
m_ 12 23] false)
(.seq
(.seq
(.region [
m_ 24 12,
o_ 25 (.bin .leq (.t 24) (.c (.int .i64 12)))] false)
(.cond (.t 25)
(.seq
(.region [
m_ 26 0,
m_ 27 1,
m_ 28 2,
m_ 29 4,
o_ 30 (.call false (.c (.fn 69 [] [])) [.t 26, .t 27, .t 28, .t 29])] false)
.ret)
.skip))
(.seq
(.seq
(.region [
m_ 31 3,
o_ 32 (.bin .eql (.t 31) (.c (.int .i64 0)))] false)
(.cond (.t 32)
(.seq
(.region [
m_ 33 0,
m_ 34 1,
m_ 35 2,
m_ 36 4,
o_ 37 (.call false (.c (.fn 70 [] [])) [.t 33, .t 34, .t 35, .t 36])] false)
.ret)
.skip))
(.seq
(.seq
(.region [
m_ 38 10,
o_ 39 (.not (.t 38))] false)
(.cond (.t 39)
(.seq
(.region [
m_ 40 0,
m_ 41 1,
m_ 42 2,
m_ 43 4,
o_ 44 (.call false (.c (.fn 71 [] [])) [.t 40, .t 41, .t 42, .t 43])] false)
(.region [
m_ 45 3,
o_ 46 (.bin .sub (.t 45) (.c (.int .i64 1))),
m_ 3 46] false))
.skip))
(.seq
(.region [
m_ 48 0,
m_ 49 1,
m_ 50 2,
m_ 51 4,
o_ 52 (.call false (.c (.fn 72 [] [])) [.t 48, .t 49, .t 50, .t 51]),
m_ 47 52,
o_ 53 (.extract (.t 47) 0),
o_ 54 (.extract (.t 47) 1),
m_ 13 53,
m_ 14 54] false)
(.seq
(.seq
(.region [
m_ 55 14,
o_ 56 (.bin .eql (.t 55) (.c (.int .i64 2)))] false)
(.cond (.t 56)
(.seq
(.region [
m_ 57 0,
m_ 58 1,
m_ 59 2,
m_ 60 4,
o_ 61 (.call false (.c (.fn 73 [] [])) [.t 57, .t 58, .t 59, .t 60])] false)
(.seq
(.region [
m_ 62 2,
o_ 63 (.bin .sub (.t 62) (.c (.int .i64 1))),
m_ 64 13,
m_ 65 1,
o_ 66 (.bin .sub (.t 64) (.t 65)),
o_ 67 (.bin .sub (.t 63) (.t 66)),
m_ 13 67] false)
(.region [
o_ 14 (.mv (.c (.int .i64 1)))] false)))
.skip))
(.seq
(.seq
(.region [
m_ 68 10,
m_ 69 68,
g_ 70 (.mv (.t 11)) 69 true,
o_ 71 (.pick (.t 69) (.t 70) (.c (.bool false))),
m_ 72 71,
g_ 73 (.mv (.t 14)) 72 true,
g_ 74 (.bin .eql (.t 73) (.c (.int .i64 1))) 72 true,
o_ 75 (.pick (.t 72) (.t 74) (.c (.bool false)))] false)
(.cond (.t 75)
(.seq
(.region [
m_ 76 0,
m_ 77 1,
m_ 78 2,
m_ 79 4,
o_ 80 (.call false (.c (.fn 74 [] [])) [.t 76, .t 77, .t 78, .t 79])] false)
(.cond (.t 80)
.ret
.skip))
.skip))
(.seq
(.seq
(.region [
m_ 81 1,
o_ 82 (.bin .gtr (.t 81) (.c (.int .i64 0))),
m_ 83 82,
g_ 84 (.mv (.t 4)) 83 true,
g_ 85 (.mv (.t 0)) 83 true,
g_ 86 (.mv (.t 1)) 83 true,
g_ 87 (.bin .sub (.t 86) (.c (.int .i64 1))) 83 true,
g_ 88 (.idxa 3 (.t 85) (.t 87)) 83 true,
g_ 89 (.load true 3 (.t 88)) 83 true,
g_ 90 (.mv (.t 0)) 83 true,
g_ 91 (.mv (.t 13)) 83 true,
g_ 92 (.idxa 3 (.t 90) (.t 91)) 83 true,
g_ 93 (.load true 3 (.t 92)) 83 true,
g_ 94 (.call false (.t 84) [.t 89, .t 93]) 83 true,
g_ 95 (.bin .lss (.t 94) (.c (.int .i64 0))) 83 true,
g_ 96 (.not (.t 95)) 83 true,
o_ 97 (.pick (.t 83) (.t 96) (.c (.bool false)))] true)
(.cond (.t 97)
(.seq
(.region [
m_ 98 0,
m_ 99 1,
m_ 100 2,
m_ 101 13,
m_ 102 4,
o_ 103 (.call false (.c (.fn 75 [] [])) [.t 98, .t 99, .t 100, .t 101, .t 102]),
m_ 15 103] false)
(.seq
(.region [
m_ 104 15,
m_ 1 104] false)
(.exit 1)))
.skip))
(.seq
(.region [
m_ 106 0,
m_ 107 1,
m_ 108 2,
m_ 109 13,
m_ 110 4,
o_ 111 (.call false (.c (.fn 76 [] [])) [.t 106, .t 107, .t 108, .t 109, .t 110]),
m_ 105 111,
o_ 112 (.extract (.t 105) 0),
o_ 113 (.extract (.t 105) 1),
m_ 16 112,
m_ 17 113] false)
(.seq
(.region [
m_ 114 17,
m_ 11 114] false)
(.seq
(.region [
m_ 115 16,
m_ 116 1,
o_ 117 (.bin .sub (.t 115) (.t 116)),
m_ 118 2,
m_ 119 16,
o_ 120 (.bin .sub (.t 118) (.t 119)),
m_ 18 117,
m_ 19 120] false)
(.seq
(.region [
m_ 121 12,
o_ 122 (.bin .quo (.t 121) (.c (.int .i64 8))),
m_ 20 122] false)
(.seq
(.region [
m_ 123 18,
m_ 124 19,
o_ 125 (.bin .lss (.t 123) (.t 124))] false)
(.cond (.t 125)
(.seq
(.region [
m_ 126 18,
m_ 127 20,
o_ 128 (.bin .geq (.t 126) (.t 127)),
m_ 10 128] false)
(.seq
(.region [
m_ 129 0,
m_ 130 1,
m_ 131 16,
m_ 132 3,
m_ 133 4,
o_ 134 (.call false (.c (.fn 54 [] [])) [.t 129, .t 130, .t 131, .t 132, .t 133])] false)
(.region [
m_ 135 16,
o_ 136 (.bin .add (.t 135) (.c (.int .i64 1))),
m_ 1 136] false)))
(.seq
(.region [
m_ 137 19,
m_ 138 20,
o_ 139 (.bin .geq (.t 137) (.t 138)),
m_ 10 139] false)
(.seq
(.region [
m_ 140 0,
m_ 141 16,
o_ 142 (.bin .add (.t 141) (.c (.int .i64 1))),
m_ 143 2,
m_ 144 3,
m_ 145 4,
o_ 146 (.call false (.c (.fn 54 [] [])) [.t 140, .t 142, .t 143, .t 144, .t 145])] false)
(.region [
m_ 147 16,
m_ 2 147] false)))))))))))))))))))))),
[]⟩
theorem ok54 : okFunc Go.Proofs.Try.prog 54 lf54 = true := by kernel_rfl
def lf55 : LFunc := ⟨6, 1,
(.seq
(.region [
o_ 2 (.mv (.c (.bool false)))] false)
(.seq
(.region [
m_ 3 0,
m_ 4 0,
o_ 5 (.bin .neq (.t 3) (.t 4)),
m_ 2 5] false)
.ret)),
[.t 2]⟩
theorem ok55 : okFunc Go.Proofs.Try.prog 55 lf55 = true := by kernel_rfl
def lf56 : LFunc := ⟨19, 2,
(.seq
(.region [
o_ 4 (.mv (.c (.int .i64 0)))] false)
(.seq
(.seq
(.region [
m_ 6 0,
o_ 7 (.len .sli (.t 6)),
o_ 8 (.mv (.c (.int .i64 0)))] false)
(.block 0
(.loop
(.seq
(.region [
o_ 9 (.bin .lss (.t 8) (.t 7))] false)
(.seq
(.cond (.t 9)
.skip
(.exit 0))
(.seq
(.block 1
(.seq
(.region [
m_ 10 8,
m_ 5 10] false)
(.seq
(.region [
m_ 11 1,
m_ 12 0,
m_ 13 5,
o_ 14 (.idxa 3 (.t 12) (.t 13)),
o_ 15 (.load true 3 (.t 14)),
o_ 16 (.call false (.t 11) [.t 15])] false)
(.cond (.t 16)
(.seq
(.region [
m_ 17 5,
m_ 4 17] false)
.ret)
.skip))))
(.region [
o_ 18 (.bin .add (.t 8) (.c (.int .i64 1))),
m_ 8 18] false)))))))
(.seq
(.region [
o_ 4 (.mv (.c (.int .i64 (-1))))] false)
.ret))),
[.t 4]⟩
theorem ok56 : okFunc Go.Proofs.Try.prog 56 lf56 = true := by kernel_rfl
def lf57 : LFunc := ⟨58, 2,
(.seq
(.region [
o_ 4 (.mv (.c (.nils)))] false)
(.seq
(.region [
o_ 5 (.mv (.c (.int .i64 0)))] false)
(.seq
(.block 0
(.loop
(.seq
(.seq
(.region [
m_ 7 5,
m_ 8 0,
o_ 9 (.len .sli (.t 8)),
o_ 10 (.bin .lss (.t 7) (.t 9)),
m_ 11 10,
g_ 12 (.mv (.t 0)) 11 true,
g_ 13 (.mv (.t 5)) 11 true,
g_ 14 (.idxa 1 (.t 12) (.t 13)) 11 true,
g_ 15 (.load false 1 (.t 14)) 11 true,
g_ 16 (.mv (.t 1)) 11 true,
g_ 17 (.bin .lss (.t 15) (.t 16)) 11 true,
o_ 18 (.pick (.t 11) (.t 17) (.c (.bool false)))] false)
(.cond (.t 18)
.skip
(.exit 0)))
(.block 1
(.region [
m_ 19 5,
o_ 20 (.bin .add (.t 19) (.c (.int .i64 1))),
m_ 5 20] false)))))
(.seq
(.seq
(.region [
m_ 21 5,
m_ 22 0,
o_ 23 (.len .sli (.t 22)),
o_ 24 (.bin .lss (.t 21) (.t 23)),
m_ 25 24,
g_ 26 (.mv (.t 0)) 25 true,
g_ 27 (.mv (.t 5)) 25 true,
g_ 28 (.idxa 1 (.t 26) (.t 27)) 25 true,
g_ 29 (.load false 1 (.t 28)) 25 true,
g_ 30 (.mv (.t 1)) 25 true,
g_ 31 (.bin .eql (.t 29) (.t 30)) 25 true,
o_ 32 (.pick (.t 25) (.t 31) (.c (.bool false)))] false)
(.cond (.t 32)
(.seq
(.region [
m_ 33 0,
m_ 4 33] false)
.ret)
.skip))
(.seq
(.region [
m_ 34 0,
o_ 35 (.btsl 1 1 [.int .i64 0] [(0, .c (.int .i64 0))]),
o_ 36 (.append 1 8 (.t 34) (.t 35)),
m_ 0 36] false)
(.seq
(.seq
(.region [
m_ 37 0,
o_ 38 (.len .sli (.t 37)),
o_ 39 (.bin .sub (.t 38) (.c (.int .i64 1))),
m_ 6 39] false)
(.block 2
(.loop
(.seq
(.seq
(.region [
m_ 40 6,
m_ 41 5,
o_ 42 (.bin .gtr (.t 40) (.t 41))] false)
(.cond (.t 42)
.skip
(.exit 2)))
(.seq
(.block 3
(.region [
m_ 45 0,
m_ 46 6,
m_ 47 0,
m_ 48 6,
o_ 49 (.bin .sub (.t 48) (.c (.int .i64 1))),
o_ 50 (.idxa 1 (.t 47) (.t 49)),
o_ 51 (.load false 1 (.t 50)),
o_ 52 (.idxa 1 (.t 45) (.t 46)),
⟨none, .store 1 (.t 52) (.t 51), none⟩] false))
(.region [
m_ 43 6,
o_ 44 (.bin .sub (.t 43) (.c (.int .i64 1))),
m_ 6 44] false))))))
(.seq
(.region [
m_ 53 0,
m_ 54 5,
m_ 55 1,
o_ 56 (.idxa 1 (.t 53) (.t 54)),
⟨none, .store 1 (.t 56) (.t 55), none⟩] false)
(.seq
(.region [
m_ 57 0,
m_ 4 57] false)
.ret)))))))),
[.t 4]⟩
theorem ok57 : okFunc Go.Proofs.Try.prog 57 lf57 = true := by kernel_rfl
def lf58 : LFunc := ⟨49, 3,
(.seq
(.region [
m_ 8 1,
o_ 9 (.bin .add (.t 8) (.c (.int .i64 1))),
m_ 6 9] false)
(.block 0
(.loop
(.seq
(.seq
(.region [
m_ 10 6,
m_ 11 2,
o_ 12 (.bin .lss (.t 10) (.t 11))] false)
(.cond (.t 12)
.skip
(.exit 0)))
(.seq
(.block 1
(.seq
(.region [
m_ 15 6,
m_ 7 15] false)
(.block 2
(.loop
(.seq
(.seq
(.region [
m_ 16 7,
m_ 17 1,
o_ 18 (.bin .gtr (.t 16) (.t 17)),
m_ 19 18,
g_ 20 (.mv (.t 0)) 19 true,
g_ 21 (.mv (.t 7)) 19 true,
g_ 22 (.idxa 1 (.t 20) (.t 21)) 19 true,
g_ 23 (.load false 1 (.t 22)) 19 true,
g_ 24 (.mv (.t 0)) 19 true,
g_ 25 (.mv (.t 7)) 19 true,
g_ 26 (.bin .sub (.t 25) (.c (.int .i64 1))) 19 true,
g_ 27 (.idxa 1 (.t 24) (.t 26)) 19 true,
g_ 28 (.load false 1 (.t 27)) 19 true,
g_ 29 (.call false (.c (.fn 64 [] [])) [.t 23, .t 28]) 19 true,
o_ 30 (.pick (.t 19) (.t 29) (.c (.bool false)))] true)
(.cond (.t 30)
.skip
(.exit 2)))
(.seq
(.block 3
(.region [
m_ 33 0,
m_ 34 7,
m_ 35 0,
m_ 36 7,
o_ 37 (.bin .sub (.t 36) (.c (.int .i64 1))),
m_ 38 0,
m_ 39 7,
o_ 40 (.bin .sub (.t 39) (.c (.int .i64 1))),
o_ 41 (.idxa 1 (.t 38) (.t 40)),
o_ 42 (.load false 1 (.t 41)),
m_ 43 0,
m_ 44 7,
o_ 45 (.idxa 1 (.t 43) (.t 44)),
o_ 46 (.load false 1 (.t 45)),
o_ 47 (.idxa 1 (.t 33) (.t 34)),
⟨none, .store 1 (.t 47) (.t 42), none⟩,
o_ 48 (.idxa 1 (.t 35) (.t 37)),
⟨none, .store 1 (.t 48) (.t 46), none⟩] true))
(.region [
m_ 31 7,
o_ 32 (.bin .sub (.t 31) (.c (.int .i64 1))),
m_ 7 32] false)))))))
(.region [
m_ 13 6,
o_ 14 (.bin .add (.t 13) (.c (.int .i64 1))),
m_ 6 14] false)))))),
[]⟩
theorem ok58 : okFunc Go.Proofs.Try.prog 58 lf58 = true := by kernel_rfl
def lf59 : LFunc := ⟨56, 3,
(.seq
(.region [
m_ 11 1,
m_ 6 11] false)
(.seq
(.region [
o_ 7 (.mv (.c (.int .i64 0)))] false)
(.seq
(.region [
m_ 12 2,
m_ 13 1,
o_ 14 (.bin .sub (.t 12) (.t 13)),
m_ 8 14] false)
(.seq
(.seq
(.region [
m_ 15 8,
o_ 16 (.bin .sub (.t 15) (.c (.int .i64 1))),
o_ 17 (.bin .quo (.t 16) (.c (.int .i64 2))),
m_ 9 17] false)
(.block 0
(.loop
(.seq
(.seq
(.region [
m_ 18 9,
o_ 19 (.bin .geq (.t 18) (.c (.int .i64 0)))] false)
(.cond (.t 19)
.skip
(.exit 0)))
(.seq
(.block 1
(.region [
m_ 22 0,
m_ 23 9,
m_ 24 8,
m_ 25 6,
o_ 26 (.call false (.c (.fn 77 [] [])) [.t 22, .t 23, .t 24, .t 25])] false))
(.region [
m_ 20 9,
o_ 21 (.bin .sub (.t 20) (.c (.int .i64 1))),
m_ 9 21] false))))))
(.seq
(.region [
m_ 27 8,
o_ 28 (.bin .sub (.t 27) (.c (.int .i64 1))),
m_ 10 28] false)
(.block 2
(.loop
(.seq
(.seq
(.region [
m_ 29 10,
o_ 30 (.bin .geq (.t 29) (.c (.int .i64 0)))] false)
(.cond (.t 30)
.skip
(.exit 2)))
(.seq
(.block 3
(.seq
(.region [
m_ 33 0,
m_ 34 6,
m_ 35 0,
m_ 36 6,
m_ 37 10,
o_ 38 (.bin .add (.t 36) (.t 37)),
m_ 39 0,
m_ 40 6,
m_ 41 10,
o_ 42 (.bin .add (.t 40) (.t 41)),
o_ 43 (.idxa 1 (.t 39) (.t 42)),
o_ 44 (.load false 1 (.t 43)),
m_ 45 0,
m_ 46 6,
o_ 47 (.idxa 1 (.t 45) (.t 46)),
o_ 48 (.load false 1 (.t 47)),
o_ 49 (.idxa 1 (.t 33) (.t 34)),
⟨none, .store 1 (.t 49) (.t 44), none⟩,
o_ 50 (.idxa 1 (.t 35) (.t 38)),
⟨none, .store 1 (.t 50) (.t 48), none⟩] true)
(.region [
m_ 51 0,
m_ 52 7,
m_ 53 10,
m_ 54 6,
o_ 55 (.call false (.c (.fn 77 [] [])) [.t 51, .t 52, .t 53, .t 54])] false)))
(.region [
m_ 31 10,
o_ 32 (.bin .sub (.t 31) (.c (.int .i64 1))),
m_ 10 32] false)))))))))),
[]⟩
theorem ok59 : okFunc Go.Proofs.Try.prog 59 lf59 = true := by kernel_rfl
def lf60 : LFunc := ⟨65, 3,
(.seq
(.region [
m_ 11 2,
m_ 12 1,
o_ 13 (.bin .sub (.t 11) (.t 12)),
m_ 6 13] false)
(.seq
(.region [
m_ 14 6,
o_ 15 (.bin .geq (.t 14) (.c (.int .i64 8)))] false)
(.cond (.t 15)
(.seq
(.region [
m_ 16 6,
o_ 17 (.conv .u64 (.t 16)),
o_ 7 (.newv [.int .u64 0]),
⟨none, .store 1 (.t 7) (.t 17), none⟩] false)
(.seq
(.region [
m_ 18 6,
o_ 19 (.call false (.c (.fn 78 [] [])) [.t 18]),
m_ 8 19] false)
(.seq
(.region [
m_ 20 1,
m_ 21 6,
o_ 22 (.bin .quo (.t 21) (.c (.int .i64 4))),
o_ 23 (.bin .mul (.t 22) (.c (.int .i64 2))),
o_ 24 (.bin .add (.t 20) (.t 23)),
o_ 25 (.bin .sub (.t 24) (.c (.int .i64 1))),
m_ 9 25] false)
(.block 0
(.loop
(.seq
(.seq
(.region [
m_ 26 9,
m_ 27 1,
m_ 28 6,
o_ 29 (.bin .quo (.t 28) (.c (.int .i64 4))),
o_ 30 (.bin .mul (.t 29) (.c (.int .i64 2))),
o_ 31 (.bin .add (.t 27) (.t 30)),
o_ 32 (.bin .add (.t 31) (.c (.int .i64 1))),
o_ 33 (.bin .leq (.t 26) (.t 32))] false)
(.cond (.t 33)
.skip
(.exit 0)))
(.seq
(.block 1
(.seq
(.region [
o_ 36 (.call false (.c (.fn 79 [] [])) [.t 7]),
m_ 37 8,
o_ 38 (.bin .sub (.t 37) (.c (.int .u64 1))),
o_ 39 (.bin .and (.t 36) (.t 38)),
o_ 40 (.conv .i64 (.t 39)),
m_ 10 40] false)
(.seq
(.seq
(.region [
m_ 41 10,
m_ 42 6,
o_ 43 (.bin .geq (.t 41) (.t 42))] false)
(.cond (.t 43)
(.region [
m_ 44 10,
m_ 45 6,
o_ 46 (.bin .sub (.t 44) (.t 45)),
m_ 10 46] false)
.skip))
(.region [
m_ 47 0,
m_ 48 9,
m_ 49 0,
m_ 50 1,
m_ 51 10,
o_ 52 (.bin .add (.t 50) (.t 51)),
m_ 53 0,
m_ 54 1,
m_ 55 10,
o_ 56 (.bin .add (.t 54) (.t 55)),
o_ 57 (.idxa 1 (.t 53) (.t 56)),
o_ 58 (.load false 1 (.t 57)),
m_ 59 0,
m_ 60 9,
o_ 61 (.idxa 1 (.t 59) (.t 60)),
o_ 62 (.load false 1 (.t 61)),
o_ 63 (.idxa 1 (.t 47) (.t 48)),
⟨none, .store 1 (.t 63) (.t 58), none⟩,
o_ 64 (.idxa 1 (.t 49) (.t 52)),
⟨none, .store 1 (.t 64) (.t 62), none⟩] true))))
(.region [
m_ 34 9,
o_ 35 (.bin .add (.t 34) (.c (.int .i64 1))),
m_ 9 35] false))))))))
.skip))),
[]⟩
theorem ok60 : okFunc Go.Proofs.Try.prog 60 lf60 = true := by kernel_rfl
def lf61 : LFunc := ⟨57, 3,
(.seq
(.region [
o_ 6 (.mv (.c (.int .i64 0))),
o_ 7 (.mv (.c (.int .i64 0)))] false)
(.seq
(.region [
m_ 13 2,
m_ 14 1,
o_ 15 (.bin .sub (.t 13) (.t 14)),
m_ 8 15] false)
(.seq
(.region [
o_ 9 (.newv [.int .i64 0])] false)
(.seq
(.region [
m_ 16 1,
m_ 17 8,
o_ 18 (.bin .quo (.t 17) (.c (.int .i64 4))),
o_ 19 (.bin .mul (.t 18) (.c (.int .i64 1))),
o_ 20 (.bin .add (.t 16) (.t 19)),
m_ 10 20] false)
(.seq
(.region [
m_ 21 1,
m_ 22 8,
o_ 23 (.bin .quo (.t 22) (.c (.int .i64 4))),
o_ 24 (.bin .mul (.t 23) (.c (.int .i64 2))),
o_ 25 (.bin .add (.t 21) (.t 24)),
m_ 11 25] false)
(.seq
(.region [
m_ 26 1,
m_ 27 8,
o_ 28 (.bin .quo (.t 27) (.c (.int .i64 4))),
o_ 29 (.bin .mul (.t 28) (.c (.int .i64 3))),
o_ 30 (.bin .add (.t 26) (.t 29)),
m_ 12 30] false)
(.seq
(.seq
(.region [
m_ 31 8,
o_ 32 (.bin .geq (.t 31) (.c (.int .i64 8)))] false)
(.cond (.t 32)
(.seq
(.seq
(.region [
m_ 33 8,
o_ 34 (.bin .geq (.t 33) (.c (.int .i64 50)))] false)
(.cond (.t 34)
(.seq
(.region [
m_ 35 0,
m_ 36 10,
o_ 37 (.call false (.c (.fn 80 [] [])) [.t 35, .t 36, .t 9]),
m_ 10 37] false)
(.seq
(.region [
m_ 38 0,
m_ 39 11,
o_ 40 (.call false (.c (.fn 80 [] [])) [.t 38, .t 39, .t 9]),
m_ 11 40] false)
(.region [
m_ 41 0,
m_ 42 12,
o_ 43 (.call false (.c (.fn 80 [] [])) [.t 41, .t 42, .t 9]),
m_ 12 43] false)))
.skip))
(.region [
m_ 44 0,
m_ 45 10,
m_ 46 11,
m_ 47 12,
o_ 48 (.call false (.c (.fn 81 [] [])) [.t 44, .t 45, .t 46, .t 47, .t 9]),
m_ 11 48] false))
.skip))
(.seq
(.region [
o_ 49 (.load false 1 (.t 9))] false)
(.block 0
(.seq
(.region [
o_ 52 (.bin .eql (.t 49) (.c (.int .i64 0))),
m_ 51 52] false)
(.cond (.t 51)
(.seq
(.region [
m_ 53 11,
m_ 6 53,
o_ 7 (.mv (.c (.int .i64 1)))] false)
.ret)
(.seq
(.region [
o_ 55 (.bin .eql (.t 49) (.c (.int .i64 12))),
m_ 54 55] false)
(.cond (.t 54)
(.seq
(.region [
m_ 56 11,
m_ 6 56,
o_ 7 (.mv (.c (.int .i64 2)))] false)
.ret)
(.seq
(.region [
m_ 50 11,
m_ 6 50,
o_ 7 (.mv (.c (.int .i64 0)))] false)
.ret)))))))))))))),
[.t 6, .t 7]⟩
theorem ok61 : okFunc Go.Proofs.Try.prog 61 lf61 = true := by kernel_rfl
def lf62 : LFunc := ⟨32, 3,
(.seq
(.region [
m_ 8 1,
m_ 6 8] false)
(.seq
(.region [
m_ 9 2,
o_ 10 (.bin .sub (.t 9) (.c (.int .i64 1))),
m_ 7 10] false)
(.block 0
(.loop
(.seq
(.seq
(.region [
m_ 11 6,
m_ 12 7,
o_ 13 (.bin .lss (.t 11) (.t 12))] false)
(.cond (.t 13)
.skip
(.exit 0)))
(.block 1
(.seq
(.region [
m_ 14 0,
m_ 15 6,
m_ 16 0,
m_ 17 7,
m_ 18 0,
m_ 19 7,
o_ 20 (.idxa 1 (.t 18) (.t 19)),
o_ 21 (.load false 1 (.t 20)),
m_ 22 0,
m_ 23 6,
o_ 24 (.idxa 1 (.t 22) (.t 23)),
o_ 25 (.load false 1 (.t 24)),
o_ 26 (.idxa 1 (.t 14) (.t 15)),
⟨none, .store 1 (.t 26) (.t 21), none⟩,
o_ 27 (.idxa 1 (.t 16) (.t 17)),
⟨none, .store 1 (.t 27) (.t 25), none⟩] true)
(.seq
(.region [
m_ 28 6,
o_ 29 (.bin .add (.t 28) (.c (.int .i64 1))),
m_ 6 29] false)
(.region [
m_ 30 7,
o_ 31 (.bin .sub (.t 30) (.c (.int .i64 1))),
m_ 7 31] false))))))))),
[]⟩
theorem ok62 : okFunc Go.Proofs.Try.prog 62 lf62 = true := by kernel_rfl
def lf63 : LFunc := ⟨133, 3,
(.seq
(.region [
o_ 6 (.mv (.c (.bool false)))] false)
(.seq
(.region [
m_ 11 1,
o_ 12 (.bin .add (.t 11) (.c (.int .i64 1))),
m_ 7 12] false)
(.seq
(.seq
(.region [
o_ 8 (.mv (.c (.int .i64 0)))] false)
(.block 0
(.loop
(.seq
(.seq
(.region [
m_ 13 8,
o_ 14 (.bin .lss (.t 13) (.c (.int .i64 5)))] false)
(.cond (.t 14)
.skip
(.exit 0)))
(.seq
(.block 1
(.seq
(.block 2
(.loop
(.seq
(.seq
(.region [
m_ 17 7,
m_ 18 2,
o_ 19 (.bin .lss (.t 17) (.t 18)),
m_ 20 19,
g_ 21 (.mv (.t 0)) 20 true,
g_ 22 (.mv (.t 7)) 20 true,
g_ 23 (.idxa 1 (.t 21) (.t 22)) 20 true,
g_ 24 (.load false 1 (.t 23)) 20 true,
g_ 25 (.mv (.t 0)) 20 true,
g_ 26 (.mv (.t 7)) 20 true,
g_ 27 (.bin .sub (.t 26) (.c (.int .i64 1))) 20 true,
g_ 28 (.idxa 1 (.t 25) (.t 27)) 20 true,
g_ 29 (.load false 1 (.t 28)) 20 true,
g_ 30 (.call false (.c (.fn 64 [] [])) [.t 24, .t 29]) 20 true,
g_ 31 (.not (.t 30)) 20 true,
o_ 32 (.pick (.t 20) (.t 31) (.c (.bool false)))] true)
(.cond (.t 32)
.skip
(.exit 2)))
(.block 3
(.region [
m_ 33 7,
o_ 34 (.bin .add (.t 33) (.c (.int .i64 1))),
m_ 7 34] false)))))
(.seq
(.seq
(.region [
m_ 35 7,
m_ 36 2,
o_ 37 (.bin .eql (.t 35) (.t 36))] false)
(.cond (.t 37)
(.seq
(.region [
o_ 6 (.mv (.c (.bool true)))] false)
.ret)
.skip))
(.seq
(.seq
(.region [
m_ 38 2,
m_ 39 1,
o_ 40 (.bin .sub (.t 38) (.t 39)),
o_ 41 (.bin .lss (.t 40) (.c (.int .i64 50)))] false)
(.cond (.t 41)
(.seq
(.region [
o_ 6 (.mv (.c (.bool false)))] false)
.ret)
.skip))
(.seq
(.region [
m_ 42 0,
m_ 43 7,
m_ 44 0,
m_ 45 7,
o_ 46 (.bin .sub (.t 45) (.c (.int .i64 1))),
m_ 47 0,
m_ 48 7,
o_ 49 (.bin .sub (.t 48) (.c (.int .i64 1))),
o_ 50 (.idxa 1 (.t 47) (.t 49)),
o_ 51 (.load false 1 (.t 50)),
m_ 52 0,
m_ 53 7,
o_ 54 (.idxa 1 (.t 52) (.t 53)),
o_ 55 (.load false 1 (.t 54)),
o_ 56 (.idxa 1 (.t 42) (.t 43)),
⟨none, .store 1 (.t 56) (.t 51), none⟩,
o_ 57 (.idxa 1 (.t 44) (.t 46)),
⟨none, .store 1 (.t 57) (.t 55), none⟩] true)
(.seq
(.seq
(.region [
m_ 58 7,
m_ 59 1,
o_ 60 (.bin .sub (.t 58) (.t 59)),
o_ 61 (.bin .geq (.t 60) (.c (.int .i64 2)))] false)
(.cond (.t 61)
(.seq
(.region [
m_ 62 7,
o_ 63 (.bin .sub (.t 62) (.c (.int .i64 1))),
m_ 9 63] false)
(.block 4
(.loop
(.seq
(.seq
(.region [
m_ 64 9,
o_ 65 (.bin .geq (.t 64) (.c (.int .i64 1)))] false)
(.cond (.t 65)
.skip
(.exit 4)))
(.seq
(.block 5
(.seq
(.seq
(.region [
m_ 68 0,
m_ 69 9,
o_ 70 (.idxa 1 (.t 68) (.t 69)),
o_ 71 (.load false 1 (.t 70)),
m_ 72 0,
m_ 73 9,
o_ 74 (.bin .sub (.t 73) (.c (.int .i64 1))),
o_ 75 (.idxa 1 (.t 72) (.t 74)),
o_ 76 (.load false 1 (.t 75)),
o_ 77 (.call false (.c (.fn 64 [] [])) [.t 71, .t 76]),
o_ 78 (.not (.t 77))] true)
(.cond (.t 78)
(.exit 4)
.skip))
(.region [
m_ 79 0,
m_ 80 9,
m_ 81 0,
m_ 82 9,
o_ 83 (.bin .sub (.t 82) (.c (.int .i64 1))),
m_ 84 0,
m_ 85 9,
o_ 86 (.bin .sub (.t 85) (.c (.int .i64 1))),
o_ 87 (.idxa 1 (.t 84) (.t 86)),
o_ 88 (.load false 1 (.t 87)),
m_ 89 0,
m_ 90 9,
o_ 91 (.idxa 1 (.t 89) (.t 90)),
o_ 92 (.load false 1 (.t 91)),
o_ 93 (.idxa 1 (.t 79) (.t 80)),
⟨none, .store 1 (.t 93) (.t 88), none⟩,
o_ 94 (.idxa 1 (.t 81) (.t 83)),
⟨none, .store 1 (.t 94) (.t 92), none⟩] true)))
(.region [
m_ 66 9,
o_ 67 (.bin .sub (.t 66) (.c (.int .i64 1))),
m_ 9 67] false))))))
.skip))
(.seq
(.region [
m_ 95 2,
m_ 96 7,
o_ 97 (.bin .sub (.t 95) (.t 96)),
o_ 98 (.bin .geq (.t 97) (.c (.int .i64 2)))] false)
(.cond (.t 98)
(.seq
(.region [
m_ 99 7,
o_ 100 (.bin .add (.t 99) (.c (.int .i64 1))),
m_ 10 100] false)
(.block 6
(.loop
(.seq
(.seq
(.region [
m_ 101 10,
m_ 102 2,
o_ 103 (.bin .lss (.t 101) (.t 102))] false)
(.cond (.t 103)
.skip
(.exit 6)))
(.seq
(.block 7
(.seq
(.seq
(.region [
m_ 106 0,
m_ 107 10,
o_ 108 (.idxa 1 (.t 106) (.t 107)),
o_ 109 (.load false 1 (.t 108)),
m_ 110 0,
m_ 111 10,
o_ 112 (.bin .sub (.t 111) (.c (.int .i64 1))),
o_ 113 (.idxa 1 (.t 110) (.t 112)),
o_ 114 (.load false 1 (.t 113)),
o_ 115 (.call false (.c (.fn 64 [] [])) [.t 109, .t 114]),
o_ 116 (.not (.t 115))] true)
(.cond (.t 116)
(.exit 6)
.skip))
(.region [
m_ 117 0,
m_ 118 10,
m_ 119 0,
m_ 120 10,
o_ 121 (.bin .sub (.t 120) (.c (.int .i64 1))),
m_ 122 0,
m_ 123 10,
o_ 124 (.bin .sub (.t 123) (.c (.int .i64 1))),
o_ 125 (.idxa 1 (.t 122) (.t 124)),
o_ 126 (.load false 1 (.t 125)),
m_ 127 0,
m_ 128 10,
o_ 129 (.idxa 1 (.t 127) (.t 128)),
o_ 130 (.load false 1 (.t 129)),
o_ 131 (.idxa 1 (.t 117) (.t 118)),
⟨none, .store 1 (.t 131) (.t 126), none⟩,
o_ 132 (.idxa 1 (.t 119) (.t 121)),
⟨none, .store 1 (.t 132) (.t 130), none⟩] true)))
(.region [
m_ 104 10,
o_ 105 (.bin .add (.t 104) (.c (.int .i64 1))),
m_ 10 105] false))))))
.skip))))))))
(.region [
m_ 15 8,
o_ 16 (.bin .add (.t 15) (.c (.int .i64 1))),
m_ 8 16] false))))))
(.seq
(.region [
o_ 6 (.mv (.c (.bool false)))] false)
.ret)))),
[.t 6]⟩
theorem ok63 : okFunc Go.Proofs.Try.prog 63 lf63 = true := by kernel_rfl
def lf64 : LFunc := ⟨17, 2,
(.seq
(.region [
o_ 4 (.mv (.c (.bool false)))] false)
(.seq
(.region [
m_ 5 0,
o_ 6 (.call false (.c (.fn 55 [] [])) [.t 5]),
m_ 7 6,
g_ 8 (.mv (.t 1)) 7 true,
g_ 9 (.call false (.c (.fn 55 [] [])) [.t 8]) 7 true,
g_ 10 (.not (.t 9)) 7 true,
o_ 11 (.pick (.t 7) (.t 10) (.c (.bool false))),
m_ 12 11,
g_ 13 (.mv (.t 0)) 12 false,
g_ 14 (.mv (.t 1)) 12 false,
g_ 15 (.bin .lss (.t 13) (.t 14)) 12 false,
o_ 16 (.pick (.t 12) (.c (.bool true)) (.t 15)),
m_ 4 16] false)
.ret)),
[.t 4]⟩
theorem ok64 : okFunc Go.Proofs.Try.prog 64 lf64 = true := by kernel_rfl
def lf65 : LFunc := ⟨84, 4,
(.seq
(.region [
o_ 8 (.mv (.c (.int .i64 0)))] false)
(.seq
(.region [
m_ 11 0,
m_ 12 1,
m_ 13 0,
m_ 14 3,
m_ 15 0,
m_ 16 3,
o_ 17 (.idxa 1 (.t 15) (.t 16)),
o_ 18 (.load false 1 (.t 17)),
m_ 19 0,
m_ 20 1,
o_ 21 (.idxa 1 (.t 19) (.t 20)),
o_ 22 (.load false 1 (.t 21)),
o_ 23 (.idxa 1 (.t 11) (.t 12)),
⟨none, .store 1 (.t 23) (.t 18), none⟩,
o_ 24 (.idxa 1 (.t 13) (.t 14)),
⟨none, .store 1 (.t 24) (.t 22), none⟩] true)
(.seq
(.region [
m_ 25 1,
o_ 26 (.bin .add (.t 25) (.c (.int .i64 1))),
m_ 27 2,
o_ 28 (.bin .sub (.t 27) (.c (.int .i64 1))),
m_ 9 26,
m_ 10 28] false)
(.seq
(.block 0
(.loop
(.block 1
(.seq
(.block 2
(.loop
(.seq
(.seq
(.region [
m_ 29 9,
m_ 30 10,
o_ 31 (.bin .leq (.t 29) (.t 30)),
m_ 32 31,
g_ 33 (.mv (.t 0)) 32 true,
g_ 34 (.mv (.t 1)) 32 true,
g_ 35 (.idxa 1 (.t 33) (.t 34)) 32 true,
g_ 36 (.load false 1 (.t 35)) 32 true,
g_ 37 (.mv (.t 0)) 32 true,
g_ 38 (.mv (.t 9)) 32 true,
g_ 39 (.idxa 1 (.t 37) (.t 38)) 32 true,
g_ 40 (.load false 1 (.t 39)) 32 true,
g_ 41 (.call false (.c (.fn 64 [] [])) [.t 36, .t 40]) 32 true,
g_ 42 (.not (.t 41)) 32 true,
o_ 43 (.pick (.t 32) (.t 42) (.c (.bool false)))] true)
(.cond (.t 43)
.skip
(.exit 2)))
(.block 3
(.region [
m_ 44 9,
o_ 45 (.bin .add (.t 44) (.c (.int .i64 1))),
m_ 9 45] false)))))
(.seq
(.block 4
(.loop
(.seq
(.seq
(.region [
m_ 46 9,
m_ 47 10,
o_ 48 (.bin .leq (.t 46) (.t 47)),
m_ 49 48,
g_ 50 (.mv (.t 0)) 49 true,
g_ 51 (.mv (.t 1)) 49 true,
g_ 52 (.idxa 1 (.t 50) (.t 51)) 49 true,
g_ 53 (.load false 1 (.t 52)) 49 true,
g_ 54 (.mv (.t 0)) 49 true,
g_ 55 (.mv (.t 10)) 49 true,
g_ 56 (.idxa 1 (.t 54) (.t 55)) 49 true,
g_ 57 (.load false 1 (.t 56)) 49 true,
g_ 58 (.call false (.c (.fn 64 [] [])) [.t 53, .t 57]) 49 true,
o_ 59 (.pick (.t 49) (.t 58) (.c (.bool false)))] true)
(.cond (.t 59)
.skip
(.exit 4)))
(.block 5
(.region [
m_ 60 10,
o_ 61 (.bin .sub (.t 60) (.c (.int .i64 1))),
m_ 10 61] false)))))
(.seq
(.seq
(.region [
m_ 62 9,
m_ 63 10,
o_ 64 (.bin .gtr (.t 62) (.t 63))] false)
(.cond (.t 64)
(.exit 0)
.skip))
(.seq
(.region [
m_ 65 0,
m_ 66 9,
m_ 67 0,
m_ 68 10,
m_ 69 0,
m_ 70 10,
o_ 71 (.idxa 1 (.t 69) (.t 70)),
o_ 72 (.load false 1 (.t 71)),
m_ 73 0,
m_ 74 9,
o_ 75 (.idxa 1 (.t 73) (.t 74)),
o_ 76 (.load false 1 (.t 75)),
o_ 77 (.idxa 1 (.t 65) (.t 66)),
⟨none, .store 1 (.t 77) (.t 72), none⟩,
o_ 78 (.idxa 1 (.t 67) (.t 68)),
⟨none, .store 1 (.t 78) (.t 76), none⟩] true)
(.seq
(.region [
m_ 79 9,
o_ 80 (.bin .add (.t 79) (.c (.int .i64 1))),
m_ 9 80] false)
(.region [
m_ 81 10,
o_ 82 (.bin .sub (.t 81) (.c (.int .i64 1))),
m_ 10 82] false)))))))))
(.seq
(.region [
m_ 83 9,
m_ 8 83] false)
.ret))))),
[.t 8]⟩
theorem ok65 : okFunc Go.Proofs.Try.prog 65 lf65 = true := by kernel_rfl
def lf66 : LFunc := ⟨168, 4,
(.seq
(.region [
o_ 8 (.mv (.c (.int .i64 0))),
o_ 9 (.mv (.c (.bool false)))] false)
(.seq
(.region [
m_ 12 0,
m_ 13 1,
m_ 14 0,
m_ 15 3,
m_ 16 0,
m_ 17 3,
o_ 18 (.idxa 1 (.t 16) (.t 17)),
o_ 19 (.load false 1 (.t 18)),
m_ 20 0,
m_ 21 1,
o_ 22 (.idxa 1 (.t 20) (.t 21)),
o_ 23 (.load false 1 (.t 22)),
o_ 24 (.idxa 1 (.t 12) (.t 13)),
⟨none, .store 1 (.t 24) (.t 19), none⟩,
o_ 25 (.idxa 1 (.t 14) (.t 15)),
⟨none, .store 1 (.t 25) (.t 23), none⟩] true)
(.seq
(.region [
m_ 26 1,
o_ 27 (.bin .add (.t 26) (.c (.int .i64 1))),
m_ 28 2,
o_ 29 (.bin .sub (.t 28) (.c (.int .i64 1))),
m_ 10 27,
m_ 11 29] false)
(.seq
(.block 0
(.loop
(.seq
(.seq
(.region [
m_ 30 10,
m_ 31 11,
o_ 32 (.bin .leq (.t 30) (.t 31)),
m_ 33 32,
g_ 34 (.mv (.t 0)) 33 true,
g_ 35 (.mv (.t 10)) 33 true,
g_ 36 (.idxa 1 (.t 34) (.t 35)) 33 true,
g_ 37 (.load false 1 (.t 36)) 33 true,
g_ 38 (.mv (.t 0)) 33 true,
g_ 39 (.mv (.t 1)) 33 true,
g_ 40 (.idxa 1 (.t 38) (.t 39)) 33 true,
g_ 41 (.load false 1 (.t 40)) 33 true,
g_ 42 (.call false (.c (.fn 64 [] [])) [.t 37, .t 41]) 33 true,
o_ 43 (.pick (.t 33) (.t 42) (.c (.bool false)))] true)
(.cond (.t 43)
.skip
(.exit 0)))
(.block 1
(.region [
m_ 44 10,
o_ 45 (.bin .add (.t 44) (.c (.int .i64 1))),
m_ 10 45] false)))))
(.seq
(.block 2
(.loop
(.seq
(.seq
(.region [
m_ 46 10,
m_ 47 11,
o_ 48 (.bin .leq (.t 46) (.t 47)),
m_ 49 48,
g_ 50 (.mv (.t 0)) 49 true,
g_ 51 (.mv (.t 11)) 49 true,
g_ 52 (.idxa 1 (.t 50) (.t 51)) 49 true,
g_ 53 (.load false 1 (.t 52)) 49 true,
g_ 54 (.mv (.t 0)) 49 true,
g_ 55 (.mv (.t 1)) 49 true,
g_ 56 (.idxa 1 (.t 54) (.t 55)) 49 true,
g_ 57 (.load false 1 (.t 56)) 49 true,
g_ 58 (.call false (.c (.fn 64 [] [])) [.t 53, .t 57]) 49 true,
g_ 59 (.not (.t 58)) 49 true,
o_ 60 (.pick (.t 49) (.t 59) (.c (.bool false)))] true)
(.cond (.t 60)
.skip
(.exit 2)))
(.block 3
(.region [
m_ 61 11,
o_ 62 (.bin .sub (.t 61) (.c (.int .i64 1))),
m_ 11 62] false)))))
(.seq
(.seq
(.region [
m_ 63 10,
m_ 64 11,
o_ 65 (.bin .gtr (.t 63) (.t 64))] false)
(.cond (.t 65)
(.seq
(.region [
m_ 66 0,
m_ 67 11,
m_ 68 0,
m_ 69 1,
m_ 70 0,
m_ 71 1,
o_ 72 (.idxa 1 (.t 70) (.t 71)),
o_ 73 (.load false 1 (.t 72)),
m_ 74 0,
m_ 75 11,
o_ 76 (.idxa 1 (.t 74) (.t 75)),
o_ 77 (.load false 1 (.t 76)),
o_ 78 (.idxa 1 (.t 66) (.t 67)),
⟨none, .store 1 (.t 78) (.t 73), none⟩,
o_ 79 (.idxa 1 (.t 68) (.t 69)),
⟨none, .store 1 (.t 79) (.t 77), none⟩] true)
(.seq
(.region [
m_ 80 11,
m_ 8 80,
o_ 9 (.mv (.c (.bool true)))] false)
.ret))
.skip))
(.seq
(.region [
m_ 81 0,
m_ 82 10,
m_ 83 0,
m_ 84 11,
m_ 85 0,
m_ 86 11,
o_ 87 (.idxa 1 (.t 85) (.t 86)),
o_ 88 (.load false 1 (.t 87)),
m_ 89 0,
m_ 90 10,
o_ 91 (.idxa 1 (.t 89) (.t 90)),
o_ 92 (.load false 1 (.t 91)),
o_ 93 (.idxa 1 (.t 81) (.t 82)),
⟨none, .store 1 (.t 93) (.t 88), none⟩,
o_ 94 (.idxa 1 (.t 83) (.t 84)),
⟨none, .store 1 (.t 94) (.t 92), none⟩] true)
(.seq
(.region [
m_ 95 10,
o_ 96 (.bin .add (.t 95) (.c (.int .i64 1))),
m_ 10 96] false)
(.seq
(.region [
m_ 97 11,
o_ 98 (.bin .sub (.t 97) (.c (.int .i64 1))),
m_ 11 98] false)
(.seq
(.block 4
(.loop
(.block 5
(.seq
(.block 6
(.loop
(.seq
(.seq
(.region [
m_ 99 10,
m_ 100 11,
o_ 101 (.bin .leq (.t 99) (.t 100)),
m_ 102 101,
g_ 103 (.mv (.t 0)) 102 true,
g_ 104 (.mv (.t 10)) 102 true,
g_ 105 (.idxa 1 (.t 103) (.t 104)) 102 true,
g_ 106 (.load false 1 (.t 105)) 102 true,
g_ 107 (.mv (.t 0)) 102 true,
g_ 108 (.mv (.t 1)) 102 true,
g_ 109 (.idxa 1 (.t 107) (.t 108)) 102 true,
g_ 110 (.load false 1 (.t 109)) 102 true,
g_ 111 (.call false (.c (.fn 64 [] [])) [.t 106, .t 110]) 102 true,
o_ 112 (.pick (.t 102) (.t 111) (.c (.bool false)))] true)
(.cond (.t 112)
.skip
(.exit 6)))
(.block 7
(.region [
m_ 113 10,
o_ 114 (.bin .add (.t 113) (.c (.int .i64 1))),
m_ 10 114] false)))))
(.seq
(.block 8
(.loop
(.seq
(.seq
(.region [
m_ 115 10,
m_ 116 11,
o_ 117 (.bin .leq (.t 115) (.t 116)),
m_ 118 117,
g_ 119 (.mv (.t 0)) 118 true,
g_ 120 (.mv (.t 11)) 118 true,
g_ 121 (.idxa 1 (.t 119) (.t 120)) 118 true,
g_ 122 (.load false 1 (.t 121)) 118 true,
g_ 123 (.mv (.t 0)) 118 true,
g_ 124 (.mv (.t 1)) 118 true,
g_ 125 (.idxa 1 (.t 123) (.t 124)) 118 true,
g_ 126 (.load false 1 (.t 125)) 118 true,
g_ 127 (.call false (.c (.fn 64 [] [])) [.t 122, .t 126]) 118 true,
g_ 128 (.not (.t 127)) 118 true,
o_ 129 (.pick (.t 118) (.t 128) (.c (.bool false)))] true)
(.cond (.t 129)
.skip
(.exit 8)))
(.block 9
(.region [
m_ 130 11,
o_ 131 (.bin .sub (.t 130) (.c (.int .i64 1))),
m_ 11 131] false)))))
(.seq
(.seq
(.region [
m_ 132 10,
m_ 133 11,
o_ 134 (.bin .gtr (.t 132) (.t 133))] false)
(.cond (.t 134)
(.exit 4)
.skip))
(.seq
(.region [
m_ 135 0,
m_ 136 10,
m_ 137 0,
m_ 138 11,
m_ 139 0,
m_ 140 11,
o_ 141 (.idxa 1 (.t 139) (.t 140)),
o_ 142 (.load false 1 (.t 141)),
m_ 143 0,
m_ 144 10,
o_ 145 (.idxa 1 (.t 143) (.t 144)),
o_ 146 (.load false 1 (.t 145)),
o_ 147 (.idxa 1 (.t 135) (.t 136)),
⟨none, .store 1 (.t 147) (.t 142), none⟩,
o_ 148 (.idxa 1 (.t 137) (.t 138)),
⟨none, .store 1 (.t 148) (.t 146), none⟩] true)
(.seq
(.region [
m_ 149 10,
o_ 150 (.bin .add (.t 149) (.c (.int .i64 1))),
m_ 10 150] false)
(.region [
m_ 151 11,
o_ 152 (.bin .sub (.t 151) (.c (.int .i64 1))),
m_ 11 152] false)))))))))
(.seq
(.region [
m_ 153 0,
m_ 154 11,
m_ 155 0,
m_ 156 1,
m_ 157 0,
m_ 158 1,
o_ 159 (.idxa 1 (.t 157) (.t 158)),
o_ 160 (.load false 1 (.t 159)),
m_ 161 0,
m_ 162 11,
o_ 163 (.idxa 1 (.t 161) (.t 162)),
o_ 164 (.load false 1 (.t 163)),
o_ 165 (.idxa 1 (.t 153) (.t 154)),
⟨none, .store 1 (.t 165) (.t 160), none⟩,
o_ 166 (.idxa 1 (.t 155) (.t 156)),
⟨none, .store 1 (.t 166) (.t 164), none⟩] true)
(.seq
(.region [
m_ 167 11,
m_ 8 167,
o_ 9 (.mv (.c (.bool false)))] false)
.ret)))))))))))),
[.t 8, .t 9]⟩
theorem ok66 : okFunc Go.Proofs.Try.prog 66 lf66 = true := by kernel_rfl
def lf67 : LFunc := ⟨19, 1,
(.seq
(.region [
o_ 2 (.mv (.c (.int .i64 0)))] false)
(.seq
(.seq
(.region [
m_ 3 0,
o_ 4 (.bin .geq (.t 3) (.c (.int .u32 65536)))] false)
(.cond (.t 4)
(.seq
(.region [
m_ 5 0,
o_ 6 (.bin .shr (.t 5) (.c (.int .u64 16))),
m_ 0 6] false)
(.region [
o_ 2 (.mv (.c (.int .i64 16)))] false))
.skip))
(.seq
(.seq
(.region [
m_ 7 0,
o_ 8 (.bin .geq (.t 7) (.c (.int .u32 256)))] false)
(.cond (.t 8)
(.seq
(.region [
m_ 9 0,
o_ 10 (.bin .shr (.t 9) (.c (.int .u64 8))),
m_ 0 10] false)
(.region [
m_ 11 2,
o_ 12 (.bin .add (.t 11) (.c (.int .i64 8))),
m_ 2 12] false))
.skip))
(.seq
(.region [
m_ 13 2,
m_ 14 0,
o_ 15 (.conv .u8 (.t 14)),
o_ 16 (.idxs (.c (.str ⟨#[0, 1, 2, 2, 3, 3, 3, 3, 4, 4, 4, 4, 4, 4, 4, 4, 5, 5, 5, 5, 5, 5, 5, 5, 5, 5, 5, 5, 5, 5, 5, 5, 6, 6, 6, 6, 6, 6, 6, 6, 6, 6, 6, 6, 6, 6, 6, 6, 6, 6, 6, 6, 6, 6, 6, 6, 6, 6, 6, 6, 6, 6, 6, 6, 7, 7, 7, 7, 7, 7, 7, 7, 7, 7, 7, 7, 7, 7, 7, 7, 7, 7, 7, 7, 7, 7, 7, 7, 7, 7, 7, 7, 7, 7, 7, 7, 7, 7, 7, 7, 7, 7, 7, 7, 7, 7, 7, 7, 7, 7, 7, 7, 7, 7, 7, 7, 7, 7, 7, 7, 7, 7, 7, 7, 7, 7, 7, 7, 8, 8, 8, 8, 8, 8, 8, 8, 8, 8, 8, 8, 8, 8, 8, 8, 8, 8, 8, 8, 8, 8, 8, 8, 8, 8, 8, 8, 8, 8, 8, 8, 8, 8, 8, 8, 8, 8, 8, 8, 8, 8, 8, 8, 8, 8, 8, 8, 8, 8, 8, 8, 8, 8, 8, 8, 8, 8, 8, 8, 8, 8, 8, 8, 8, 8, 8, 8, 8, 8, 8, 8, 8, 8, 8, 8, 8, 8, 8, 8, 8, 8, 8, 8, 8, 8, 8, 8, 8, 8, 8, 8, 8, 8, 8, 8, 8, 8, 8, 8, 8, 8, 8, 8, 8, 8, 8, 8, 8, 8, 8, 8, 8, 8, 8, 8, 8, 8, 8, 8, 8, 8, 8, 8, 8, 8, 8, 8]⟩)) (.t 15)),
o_ 17 (.conv .i64 (.t 16)),
o_ 18 (.bin .add (.t 13) (.t 17)),
m_ 2 18] false)
.ret)))),
[.t 2]⟩
theorem ok67 : okFunc Go.Proofs.Try.prog 67 lf67 = true := by kernel_rfl
def lf68 : LFunc := ⟨25, 1,
(.seq
(.region [
o_ 2 (.mv (.c (.int .i64 0)))] false)
(.seq
(.seq
(.region [
m_ 3 0,
o_ 4 (.bin .geq (.t 3) (.c (.int .u64 4294967296)))] false)
(.cond (.t 4)
(.seq
(.region [
m_ 5 0,
o_ 6 (.bin .shr (.t 5) (.c (.int .u64 32))),
m_ 0 6] false)
(.region [
o_ 2 (.mv (.c (.int .i64 32)))] false))
.skip))
(.seq
(.seq
(.region [
m_ 7 0,
o_ 8 (.bin .geq (.t 7) (.c (.int .u64 65536)))] false)
(.cond (.t 8)
(.seq
(.region [
m_ 9 0,
o_ 10 (.bin .shr (.t 9) (.c (.int .u64 16))),
m_ 0 10] false)
(.region [
m_ 11 2,
o_ 12 (.bin .add (.t 11) (.c (.int .i64 16))),
m_ 2 12] false))
.skip))
(.seq
(.seq
(.region [
m_ 13 0,
o_ 14 (.bin .geq (.t 13) (.c (.int .u64 256)))] false)
(.cond (.t 14)
(.seq
(.region [
m_ 15 0,
o_ 16 (.bin .shr (.t 15) (.c (.int .u64 8))),
m_ 0 16] false)
(.region [
m_ 17 2,
o_ 18 (.bin .add (.t 17) (.c (.int .i64 8))),
m_ 2 18] false))
.skip))
(.seq
(.region [
m_ 19 2,
m_ 20 0,
o_ 21 (.conv .u8 (.t 20)),
o_ 22 (.idxs (.c (.str ⟨#[0, 1, 2, 2, 3, 3, 3, 3, 4, 4, 4, 4, 4, 4, 4, 4, 5, 5, 5, 5, 5, 5, 5, 5, 5, 5, 5, 5, 5, 5, 5, 5, 6, 6, 6, 6, 6, 6, 6, 6, 6, 6, 6, 6, 6, 6, 6, 6, 6, 6, 6, 6, 6, 6, 6, 6, 6, 6, 6, 6, 6, 6, 6, 6, 7, 7, 7, 7, 7, 7, 7, 7, 7, 7, 7, 7, 7, 7, 7, 7, 7, 7, 7, 7, 7, 7, 7, 7, 7, 7, 7, 7, 7, 7, 7, 7, 7, 7, 7, 7, 7, 7, 7, 7, 7, 7, 7, 7, 7, 7, 7, 7, 7, 7, 7, 7, 7, 7, 7, 7, 7, 7, 7, 7, 7, 7, 7, 7, 8, 8, 8, 8, 8, 8, 8, 8, 8, 8, 8, 8, 8, 8, 8, 8, 8, 8, 8, 8, 8, 8, 8, 8, 8, 8, 8, 8, 8, 8, 8, 8, 8, 8, 8, 8, 8, 8, 8, 8, 8, 8, 8, 8, 8, 8, 8, 8, 8, 8, 8, 8, 8, 8, 8, 8, 8, 8, 8, 8, 8, 8, 8, 8, 8, 8, 8, 8, 8, 8, 8, 8, 8, 8, 8, 8, 8, 8, 8, 8, 8, 8, 8, 8, 8, 8, 8, 8, 8, 8, 8, 8, 8, 8, 8, 8, 8, 8, 8, 8, 8, 8, 8, 8, 8, 8, 8, 8, 8, 8, 8, 8, 8, 8, 8, 8, 8, 8, 8, 8, 8, 8, 8, 8, 8, 8, 8, 8]⟩)) (.t 21)),
o_ 23 (.conv .i64 (.t 22)),
o_ 24 (.bin .add (.t 19) (.t 23)),
m_ 2 24] false)
.ret))))),
[.t 2]⟩
theorem ok68 : okFunc Go.Proofs.Try.prog 68 lf68 = true := by kernel_rfl
def lf69 : LFunc := ⟨53, 4,
(.seq
(.region [
m_ 10 1,
o_ 11 (.bin .add (.t 10) (.c (.int .i64 1))),
m_ 8 11] false)
(.block 0
(.loop
(.seq
(.seq
(.region [
m_ 12 8,
m_ 13 2,
o_ 14 (.bin .lss (.t 12) (.t 13))] false)
(.cond (.t 14)
.skip
(.exit 0)))
(.seq
(.block 1
(.seq
(.region [
m_ 17 8,
m_ 9 17] false)
(.block 2
(.loop
(.seq
(.seq
(.region [
m_ 18 9,
m_ 19 1,
o_ 20 (.bin .gtr (.t 18) (.t 19)),
m_ 21 20,
g_ 22 (.mv (.t 3)) 21 true,
g_ 23 (.mv (.t 0)) 21 true,
g_ 24 (.mv (.t 9)) 21 true,
g_ 25 (.idxa 3 (.t 23) (.t 24)) 21 true,
g_ 26 (.load true 3 (.t 25)) 21 true,
g_ 27 (.mv (.t 0)) 21 true,
g_ 28 (.mv (.t 9)) 21 true,
g_ 29 (.bin .sub (.t 28) (.c (.int .i64 1))) 21 true,
g_ 30 (.idxa 3 (.t 27) (.t 29)) 21 true,
g_ 31 (.load true 3 (.t 30)) 21 true,
g_ 32 (.call false (.t 22) [.t 26, .t 31]) 21 true,
g_ 33 (.bin .lss (.t 32) (.c (.int .i64 0))) 21 true,
o_ 34 (.pick (.t 21) (.t 33) (.c (.bool false)))] true)
(.cond (.t 34)
.skip
(.exit 2)))
(.seq
(.block 3
(.region [
m_ 37 0,
m_ 38 9,
m_ 39 0,
m_ 40 9,
o_ 41 (.bin .sub (.t 40) (.c (.int .i64 1))),
m_ 42 0,
m_ 43 9,
o_ 44 (.bin .sub (.t 43) (.c (.int .i64 1))),
o_ 45 (.idxa 3 (.t 42) (.t 44)),
o_ 46 (.load true 3 (.t 45)),
m_ 47 0,
m_ 48 9,
o_ 49 (.idxa 3 (.t 47) (.t 48)),
o_ 50 (.load true 3 (.t 49)),
o_ 51 (.idxa 3 (.t 37) (.t 38)),
⟨none, .store 3 (.t 51) (.t 46), none⟩,
o_ 52 (.idxa 3 (.t 39) (.t 41)),
⟨none, .store 3 (.t 52) (.t 50), none⟩] true))
(.region [
m_ 35 9,
o_ 36 (.bin .sub (.t 35) (.c (.int .i64 1))),
m_ 9 36] false)))))))
(.region [
m_ 15 8,
o_ 16 (.bin .add (.t 15) (.c (.int .i64 1))),
m_ 8 16] false)))))),
[]⟩
theorem ok69 : okFunc Go.Proofs.Try.prog 69 lf69 = true := by kernel_rfl
def lf70 : LFunc := ⟨60, 4,
(.seq
(.region [
m_ 13 1,
m_ 8 13] false)
(.seq
(.region [
o_ 9 (.mv (.c (.int .i64 0)))] false)
(.seq
(.region [
m_ 14 2,
m_ 15 1,
o_ 16 (.bin .sub (.t 14) (.t 15)),
m_ 10 16] false)
(.seq
(.seq
(.region [
m_ 17 10,
o_ 18 (.bin .sub (.t 17) (.c (.int .i64 1))),
o_ 19 (.bin .quo (.t 18) (.c (.int .i64 2))),
m_ 11 19] false)
(.block 0
(.loop
(.seq
(.seq
(.region [
m_ 20 11,
o_ 21 (.bin .geq (.t 20) (.c (.int .i64 0)))] false)
(.cond (.t 21)
.skip
(.exit 0)))
(.seq
(.block 1
(.region [
m_ 24 0,
m_ 25 11,
m_ 26 10,
m_ 27 8,
m_ 28 3,
o_ 29 (.call false (.c (.fn 82 [] [])) [.t 24, .t 25, .t 26, .t 27, .t 28])] false))
(.region [
m_ 22 11,
o_ 23 (.bin .sub (.t 22) (.c (.int .i64 1))),
m_ 11 23] false))))))
(.seq
(.region [
m_ 30 10,
o_ 31 (.bin .sub (.t 30) (.c (.int .i64 1))),
m_ 12 31] false)
(.block 2
(.loop
(.seq
(.seq
(.region [
m_ 32 12,
o_ 33 (.bin .geq (.t 32) (.c (.int .i64 0)))] false)
(.cond (.t 33)
.skip
(.exit 2)))
(.seq
(.block 3
(.seq
(.region [
m_ 36 0,
m_ 37 8,
m_ 38 0,
m_ 39 8,
m_ 40 12,
o_ 41 (.bin .add (.t 39) (.t 40)),
m_ 42 0,
m_ 43 8,
m_ 44 12,
o_ 45 (.bin .add (.t 43) (.t 44)),
o_ 46 (.idxa 3 (.t 42) (.t 45)),
o_ 47 (.load true 3 (.t 46)),
m_ 48 0,
m_ 49 8,
o_ 50 (.idxa 3 (.t 48) (.t 49)),
o_ 51 (.load true 3 (.t 50)),
o_ 52 (.idxa 3 (.t 36) (.t 37)),
⟨none, .store 3 (.t 52) (.t 47), none⟩,
o_ 53 (.idxa 3 (.t 38) (.t 41)),
⟨none, .store 3 (.t 53) (.t 51), none⟩] true)
(.region [
m_ 54 0,
m_ 55 9,
m_ 56 12,
m_ 57 8,
m_ 58 3,
o_ 59 (.call false (.c (.fn 82 [] [])) [.t 54, .t 55, .t 56, .t 57, .t 58])] false)))
(.region [
m_ 34 12,
o_ 35 (.bin .sub (.t 34) (.c (.int .i64 1))),
m_ 12 35] false)))))))))),
[]⟩
theorem ok70 : okFunc Go.Proofs.Try.prog 70 lf70 = true := by kernel_rfl
def lf71 : LFunc := ⟨67, 4,
(.seq
(.region [
m_ 13 2,
m_ 14 1,
o_ 15 (.bin .sub (.t 13) (.t 14)),
m_ 8 15] false)
(.seq
(.region [
m_ 16 8,
o_ 17 (.bin .geq (.t 16) (.c (.int .i64 8)))] false)
(.cond (.t 17)
(.seq
(.region [
m_ 18 8,
o_ 19 (.conv .u64 (.t 18)),
o_ 9 (.newv [.int .u64 0]),
⟨none, .store 1 (.t 9) (.t 19), none⟩] false)
(.seq
(.region [
m_ 20 8,
o_ 21 (.call false (.c (.fn 78 [] [])) [.t 20]),
m_ 10 21] false)
(.seq
(.region [
m_ 22 1,
m_ 23 8,
o_ 24 (.bin .quo (.t 23) (.c (.int .i64 4))),
o_ 25 (.bin .mul (.t 24) (.c (.int .i64 2))),
o_ 26 (.bin .add (.t 22) (.t 25)),
o_ 27 (.bin .sub (.t 26) (.c (.int .i64 1))),
m_ 11 27] false)
(.block 0
(.loop
(.seq
(.seq
(.region [
m_ 28 11,
m_ 29 1,
m_ 30 8,
o_ 31 (.bin .quo (.t 30) (.c (.int .i64 4))),
o_ 32 (.bin .mul (.t 31) (.c (.int .i64 2))),
o_ 33 (.bin .add (.t 29) (.t 32)),
o_ 34 (.bin .add (.t 33) (.c (.int .i64 1))),
o_ 35 (.bin .leq (.t 28) (.t 34))] false)
(.cond (.t 35)
.skip
(.exit 0)))
(.seq
(.block 1
(.seq
(.region [
o_ 38 (.call false (.c (.fn 79 [] [])) [.t 9]),
m_ 39 10,
o_ 40 (.bin .sub (.t 39) (.c (.int .u64 1))),
o_ 41 (.bin .and (.t 38) (.t 40)),
o_ 42 (.conv .i64 (.t 41)),
m_ 12 42] false)
(.seq
(.seq
(.region [
m_ 43 12,
m_ 44 8,
o_ 45 (.bin .geq (.t 43) (.t 44))] false)
(.cond (.t 45)
(.region [
m_ 46 12,
m_ 47 8,
o_ 48 (.bin .sub (.t 46) (.t 47)),
m_ 12 48] false)
.skip))
(.region [
m_ 49 0,
m_ 50 11,
m_ 51 0,
m_ 52 1,
m_ 53 12,
o_ 54 (.bin .add (.t 52) (.t 53)),
m_ 55 0,
m_ 56 1,
m_ 57 12,
o_ 58 (.bin .add (.t 56) (.t 57)),
o_ 59 (.idxa 3 (.t 55) (.t 58)),
o_ 60 (.load true 3 (.t 59)),
m_ 61 0,
m_ 62 11,
o_ 63 (.idxa 3 (.t 61) (.t 62)),
o_ 64 (.load true 3 (.t 63)),
o_ 65 (.idxa 3 (.t 49) (.t 50)),
⟨none, .store 3 (.t 65) (.t 60), none⟩,
o_ 66 (.idxa 3 (.t 51) (.t 54)),
⟨none, .store 3 (.t 66) (.t 64), none⟩] true))))
(.region [
m_ 36 11,
o_ 37 (.bin .add (.t 36) (.c (.int .i64 1))),
m_ 11 37] false))))))))
.skip))),
[]⟩
theorem ok71 : okFunc Go.Proofs.Try.prog 71 lf71 = true := by kernel_rfl
def lf72 : LFunc := ⟨63, 4,
(.seq
(.region [
o_ 8 (.mv (.c (.int .i64 0))),
o_ 9 (.mv (.c (.int .i64 0)))] false)
(.seq
(.region [
m_ 15 2,
m_ 16 1,
o_ 17 (.bin .sub (.t 15) (.t 16)),
m_ 10 17] false)
(.seq
(.region [
o_ 11 (.newv [.int .i64 0])] false)
(.seq
(.region [
m_ 18 1,
m_ 19 10,
o_ 20 (.bin .quo (.t 19) (.c (.int .i64 4))),
o_ 21 (.bin .mul (.t 20) (.c (.int .i64 1))),
o_ 22 (.bin .add (.t 18) (.t 21)),
m_ 12 22] false)
(.seq
(.region [
m_ 23 1,
m_ 24 10,
o_ 25 (.bin .quo (.t 24) (.c (.int .i64 4))),
o_ 26 (.bin .mul (.t 25) (.c (.int .i64 2))),
o_ 27 (.bin .add (.t 23) (.t 26)),
m_ 13 27] false)
(.seq
(.region [
m_ 28 1,
m_ 29 10,
o_ 30 (.bin .quo (.t 29) (.c (.int .i64 4))),
o_ 31 (.bin .mul (.t 30) (.c (.int .i64 3))),
o_ 32 (.bin .add (.t 28) (.t 31)),
m_ 14 32] false)
(.seq
(.seq
(.region [
m_ 33 10,
o_ 34 (.bin .geq (.t 33) (.c (.int .i64 8)))] false)
(.cond (.t 34)
(.seq
(.seq
(.region [
m_ 35 10,
o_ 36 (.bin .geq (.t 35) (.c (.int .i64 50)))] false)
(.cond (.t 36)
(.seq
(.region [
m_ 37 0,
m_ 38 12,
m_ 39 3,
o_ 40 (.call false (.c (.fn 83 [] [])) [.t 37, .t 38, .t 11, .t 39]),
m_ 12 40] false)
(.seq
(.region [
m_ 41 0,
m_ 42 13,
m_ 43 3,
o_ 44 (.call false (.c (.fn 83 [] [])) [.t 41, .t 42, .t 11, .t 43]),
m_ 13 44] false)
(.region [
m_ 45 0,
m_ 46 14,
m_ 47 3,
o_ 48 (.call false (.c (.fn 83 [] [])) [.t 45, .t 46, .t 11, .t 47]),
m_ 14 48] false)))
.skip))
(.region [
m_ 49 0,
m_ 50 12,
m_ 51 13,
m_ 52 14,
m_ 53 3,
o_ 54 (.call false (.c (.fn 84 [] [])) [.t 49, .t 50, .t 51, .t 52, .t 11, .t 53]),
m_ 13 54] false))
.skip))
(.seq
(.region [
o_ 55 (.load false 1 (.t 11))] false)
(.block 0
(.seq
(.region [
o_ 58 (.bin .eql (.t 55) (.c (.int .i64 0))),
m_ 57 58] false)
(.cond (.t 57)
(.seq
(.region [
m_ 59 13,
m_ 8 59,
o_ 9 (.mv (.c (.int .i64 1)))] false)
.ret)
(.seq
(.region [
o_ 61 (.bin .eql (.t 55) (.c (.int .i64 12))),
m_ 60 61] false)
(.cond (.t 60)
(.seq
(.region [
m_ 62 13,
m_ 8 62,
o_ 9 (.mv (.c (.int .i64 2)))] false)
.ret)
(.seq
(.region [
m_ 56 13,
m_ 8 56,
o_ 9 (.mv (.c (.int .i64 0)))] false)
.ret)))))))))))))),
[.t 8, .t 9]⟩
theorem ok72 : okFunc Go.Proofs.Try.prog 72 lf72 = true := by kernel_rfl
def lf73 : LFunc := ⟨34, 4,
(.seq
(.region [
m_ 10 1,
m_ 8 10] false)
(.seq
(.region [
m_ 11 2,
o_ 12 (.bin .sub (.t 11) (.c (.int .i64 1))),
m_ 9 12] false)
(.block 0
(.loop
(.seq
(.seq
(.region [
m_ 13 8,
m_ 14 9,
o_ 15 (.bin .lss (.t 13) (.t 14))] false)
(.cond (.t 15)
.skip
(.exit 0)))
(.block 1
(.seq
(.region [
m_ 16 0,
m_ 17 8,
m_ 18 0,
m_ 19 9,
m_ 20 0,
m_ 21 9,
o_ 22 (.idxa 3 (.t 20) (.t 21)),
o_ 23 (.load true 3 (.t 22)),
m_ 24 0,
m_ 25 8,
o_ 26 (.idxa 3 (.t 24) (.t 25)),
o_ 27 (.load true 3 (.t 26)),
o_ 28 (.idxa 3 (.t 16) (.t 17)),
⟨none, .store 3 (.t 28) (.t 23), none⟩,
o_ 29 (.idxa 3 (.t 18) (.t 19)),
⟨none, .store 3 (.t 29) (.t 27), none⟩] true)
(.seq
(.region [
m_ 30 8,
o_ 31 (.bin .add (.t 30) (.c (.int .i64 1))),
m_ 8 31] false)
(.region [
m_ 32 9,
o_ 33 (.bin .sub (.t 32) (.c (.int .i64 1))),
m_ 9 33] false))))))))),
[]⟩
theorem ok73 : okFunc Go.Proofs.Try.prog 73 lf73 = true := by kernel_rfl
def lf74 : LFunc := ⟨141, 4,
(.seq
(.region [
o_ 8 (.mv (.c (.bool false)))] false)
(.seq
(.region [
m_ 13 1,
o_ 14 (.bin .add (.t 13) (.c (.int .i64 1))),
m_ 9 14] false)
(.seq
(.seq
(.region [
o_ 10 (.mv (.c (.int .i64 0)))] false)
(.block 0
(.loop
(.seq
(.seq
(.region [
m_ 15 10,
o_ 16 (.bin .lss (.t 15) (.c (.int .i64 5)))] false)
(.cond (.t 16)
.skip
(.exit 0)))
(.seq
(.block 1
(.seq
(.block 2
(.loop
(.seq
(.seq
(.region [
m_ 19 9,
m_ 20 2,
o_ 21 (.bin .lss (.t 19) (.t 20)),
m_ 22 21,
g_ 23 (.mv (.t 3)) 22 true,
g_ 24 (.mv (.t 0)) 22 true,
g_ 25 (.mv (.t 9)) 22 true,
g_ 26 (.idxa 3 (.t 24) (.t 25)) 22 true,
g_ 27 (.load true 3 (.t 26)) 22 true,
g_ 28 (.mv (.t 0)) 22 true,
g_ 29 (.mv (.t 9)) 22 true,
g_ 30 (.bin .sub (.t 29) (.c (.int .i64 1))) 22 true,
g_ 31 (.idxa 3 (.t 28) (.t 30)) 22 true,
g_ 32 (.load true 3 (.t 31)) 22 true,
g_ 33 (.call false (.t 23) [.t 27, .t 32]) 22 true,
g_ 34 (.bin .lss (.t 33) (.c (.int .i64 0))) 22 true,
g_ 35 (.not (.t 34)) 22 true,
o_ 36 (.pick (.t 22) (.t 35) (.c (.bool false)))] true)
(.cond (.t 36)
.skip
(.exit 2)))
(.block 3
(.region [
m_ 37 9,
o_ 38 (.bin .add (.t 37) (.c (.int .i64 1))),
m_ 9 38] false)))))
(.seq
(.seq
(.region [
m_ 39 9,
m_ 40 2,
o_ 41 (.bin .eql (.t 39) (.t 40))] false)
(.cond (.t 41)
(.seq
(.region [
o_ 8 (.mv (.c (.bool true)))] false)
.ret)
.skip))
(.seq
(.seq
(.region [
m_ 42 2,
m_ 43 1,
o_ 44 (.bin .sub (.t 42) (.t 43)),
o_ 45 (.bin .lss (.t 44) (.c (.int .i64 50)))] false)
(.cond (.t 45)
(.seq
(.region [
o_ 8 (.mv (.c (.bool false)))] false)
.ret)
.skip))
(.seq
(.region [
m_ 46 0,
m_ 47 9,
m_ 48 0,
m_ 49 9,
o_ 50 (.bin .sub (.t 49) (.c (.int .i64 1))),
m_ 51 0,
m_ 52 9,
o_ 53 (.bin .sub (.t 52) (.c (.int .i64 1))),
o_ 54 (.idxa 3 (.t 51) (.t 53)),
o_ 55 (.load true 3 (.t 54)),
m_ 56 0,
m_ 57 9,
o_ 58 (.idxa 3 (.t 56) (.t 57)),
o_ 59 (.load true 3 (.t 58)),
o_ 60 (.idxa 3 (.t 46) (.t 47)),
⟨none, .store 3 (.t 60) (.t 55), none⟩,
o_ 61 (.idxa 3 (.t 48) (.t 50)),
⟨none, .store 3 (.t 61) (.t 59), none⟩] true)
(.seq
(.seq
(.region [
m_ 62 9,
m_ 63 1,
o_ 64 (.bin .sub (.t 62) (.t 63)),
o_ 65 (.bin .geq (.t 64) (.c (.int .i64 2)))] false)
(.cond (.t 65)
(.seq
(.region [
m_ 66 9,
o_ 67 (.bin .sub (.t 66) (.c (.int .i64 1))),
m_ 11 67] false)
(.block 4
(.loop
(.seq
(.seq
(.region [
m_ 68 11,
o_ 69 (.bin .geq (.t 68) (.c (.int .i64 1)))] false)
(.cond (.t 69)
.skip
(.exit 4)))
(.seq
(.block 5
(.seq
(.seq
(.region [
m_ 72 3,
m_ 73 0,
m_ 74 11,
o_ 75 (.idxa 3 (.t 73) (.t 74)),
o_ 76 (.load true 3 (.t 75)),
m_ 77 0,
m_ 78 11,
o_ 79 (.bin .sub (.t 78) (.c (.int .i64 1))),
o_ 80 (.idxa 3 (.t 77) (.t 79)),
o_ 81 (.load true 3 (.t 80)),
o_ 82 (.call false (.t 72) [.t 76, .t 81]),
o_ 83 (.bin .lss (.t 82) (.c (.int .i64 0))),
o_ 84 (.not (.t 83))] true)
(.cond (.t 84)
(.exit 4)
.skip))
(.region [
m_ 85 0,
m_ 86 11,
m_ 87 0,
m_ 88 11,
o_ 89 (.bin .sub (.t 88) (.c (.int .i64 1))),
m_ 90 0,
m_ 91 11,
o_ 92 (.bin .sub (.t 91) (.c (.int .i64 1))),
o_ 93 (.idxa 3 (.t 90) (.t 92)),
o_ 94 (.load true 3 (.t 93)),
m_ 95 0,
m_ 96 11,
o_ 97 (.idxa 3 (.t 95) (.t 96)),
o_ 98 (.load true 3 (.t 97)),
o_ 99 (.idxa 3 (.t 85) (.t 86)),
⟨none, .store 3 (.t 99) (.t 94), none⟩,
o_ 100 (.idxa 3 (.t 87) (.t 89)),
⟨none, .store 3 (.t 100) (.t 98), none⟩] true)))
(.region [
m_ 70 11,
o_ 71 (.bin .sub (.t 70) (.c (.int .i64 1))),
m_ 11 71] false))))))
.skip))
(.seq
(.region [
m_ 101 2,
m_ 102 9,
o_ 103 (.bin .sub (.t 101) (.t 102)),
o_ 104 (.bin .geq (.t 103) (.c (.int .i64 2)))] false)
(.cond (.t 104)
(.seq
(.region [
m_ 105 9,
o_ 106 (.bin .add (.t 105) (.c (.int .i64 1))),
m_ 12 106] false)
(.block 6
(.loop
(.seq
(.seq
(.region [
m_ 107 12,
m_ 108 2,
o_ 109 (.bin .lss (.t 107) (.t 108))] false)
(.cond (.t 109)
.skip
(.exit 6)))
(.seq
(.block 7
(.seq
(.seq
(.region [
m_ 112 3,
m_ 113 0,
m_ 114 12,
o_ 115 (.idxa 3 (.t 113) (.t 114)),
o_ 116 (.load true 3 (.t 115)),
m_ 117 0,
m_ 118 12,
o_ 119 (.bin .sub (.t 118) (.c (.int .i64 1))),
o_ 120 (.idxa 3 (.t 117) (.t 119)),
o_ 121 (.load true 3 (.t 120)),
o_ 122 (.call false (.t 112) [.t 116, .t 121]),
o_ 123 (.bin .lss (.t 122) (.c (.int .i64 0))),
o_ 124 (.not (.t 123))] true)
(.cond (.t 124)
(.exit 6)
.skip))
(.region [
m_ 125 0,
m_ 126 12,
m_ 127 0,
m_ 128 12,
o_ 129 (.bin .sub (.t 128) (.c (.int .i64 1))),
m_ 130 0,
m_ 131 12,
o_ 132 (.bin .sub (.t 131) (.c (.int .i64 1))),
o_ 133 (.idxa 3 (.t 130) (.t 132)),
o_ 134 (.load true 3 (.t 133)),
m_ 135 0,
m_ 136 12,
o_ 137 (.idxa 3 (.t 135) (.t 136)),
o_ 138 (.load true 3 (.t 137)),
o_ 139 (.idxa 3 (.t 125) (.t 126)),
⟨none, .store 3 (.t 139) (.t 134), none⟩,
o_ 140 (.idxa 3 (.t 127) (.t 129)),
⟨none, .store 3 (.t 140) (.t 138), none⟩] true)))
(.region [
m_ 110 12,
o_ 111 (.bin .add (.t 110) (.c (.int .i64 1))),
m_ 12 111] false))))))
.skip))))))))
(.region [
m_ 17 10,
o_ 18 (.bin .add (.t 17) (.c (.int .i64 1))),
m_ 10 18] false))))))
(.seq
(.region [
o_ 8 (.mv (.c (.bool false)))] false)
.ret)))),
[.t 8]⟩
theorem ok74 : okFunc Go.Proofs.Try.prog 74 lf74 = true := by kernel_rfl
def lf75 : LFunc := ⟨90, 5,
(.seq
(.region [
o_ 10 (.mv (.c (.int .i64 0)))] false)
(.seq
(.region [
m_ 13 0,
m_ 14 1,
m_ 15 0,
m_ 16 3,
m_ 17 0,
m_ 18 3,
o_ 19 (.idxa 3 (.t 17) (.t 18)),
o_ 20 (.load true 3 (.t 19)),
m_ 21 0,
m_ 22 1,
o_ 23 (.idxa 3 (.t 21) (.t 22)),
o_ 24 (.load true 3 (.t 23)),
o_ 25 (.idxa 3 (.t 13) (.t 14)),
⟨none, .store 3 (.t 25) (.t 20), none⟩,
o_ 26 (.idxa 3 (.t 15) (.t 16)),
⟨none, .store 3 (.t 26) (.t 24), none⟩] true)
(.seq
(.region [
m_ 27 1,
o_ 28 (.bin .add (.t 27) (.c (.int .i64 1))),
m_ 29 2,
o_ 30 (.bin .sub (.t 29) (.c (.int .i64 1))),
m_ 11 28,
m_ 12 30] false)
(.seq
(.block 0
(.loop
(.block 1
(.seq
(.block 2
(.loop
(.seq
(.seq
(.region [
m_ 31 11,
m_ 32 12,
o_ 33 (.bin .leq (.t 31) (.t 32)),
m_ 34 33,
g_ 35 (.mv (.t 4)) 34 true,
g_ 36 (.mv (.t 0)) 34 true,
g_ 37 (.mv (.t 1)) 34 true,
g_ 38 (.idxa 3 (.t 36) (.t 37)) 34 true,
g_ 39 (.load true 3 (.t 38)) 34 true,
g_ 40 (.mv (.t 0)) 34 true,
g_ 41 (.mv (.t 11)) 34 true,
g_ 42 (.idxa 3 (.t 40) (.t 41)) 34 true,
g_ 43 (.load true 3 (.t 42)) 34 true,
g_ 44 (.call false (.t 35) [.t 39, .t 43]) 34 true,
g_ 45 (.bin .lss (.t 44) (.c (.int .i64 0))) 34 true,
g_ 46 (.not (.t 45)) 34 true,
o_ 47 (.pick (.t 34) (.t 46) (.c (.bool false)))] true)
(.cond (.t 47)
.skip
(.exit 2)))
(.block 3
(.region [
m_ 48 11,
o_ 49 (.bin .add (.t 48) (.c (.int .i64 1))),
m_ 11 49] false)))))
(.seq
(.block 4
(.loop
(.seq
(.seq
(.region [
m_ 50 11,
m_ 51 12,
o_ 52 (.bin .leq (.t 50) (.t 51)),
m_ 53 52,
g_ 54 (.mv (.t 4)) 53 true,
g_ 55 (.mv (.t 0)) 53 true,
g_ 56 (.mv (.t 1)) 53 true,
g_ 57 (.idxa 3 (.t 55) (.t 56)) 53 true,
g_ 58 (.load true 3 (.t 57)) 53 true,
g_ 59 (.mv (.t 0)) 53 true,
g_ 60 (.mv (.t 12)) 53 true,
g_ 61 (.idxa 3 (.t 59) (.t 60)) 53 true,
g_ 62 (.load true 3 (.t 61)) 53 true,
g_ 63 (.call false (.t 54) [.t 58, .t 62]) 53 true,
g_ 64 (.bin .lss (.t 63) (.c (.int .i64 0))) 53 true,
o_ 65 (.pick (.t 53) (.t 64) (.c (.bool false)))] true)
(.cond (.t 65)
.skip
(.exit 4)))
(.block 5
(.region [
m_ 66 12,
o_ 67 (.bin .sub (.t 66) (.c (.int .i64 1))),
m_ 12 67] false)))))
(.seq
(.seq
(.region [
m_ 68 11,
m_ 69 12,
o_ 70 (.bin .gtr (.t 68) (.t 69))] false)
(.cond (.t 70)
(.exit 0)
.skip))
(.seq
(.region [
m_ 71 0,
m_ 72 11,
m_ 73 0,
m_ 74 12,
m_ 75 0,
m_ 76 12,
o_ 77 (.idxa 3 (.t 75) (.t 76)),
o_ 78 (.load true 3 (.t 77)),
m_ 79 0,
m_ 80 11,
o_ 81 (.idxa 3 (.t 79) (.t 80)),
o_ 82 (.load true 3 (.t 81)),
o_ 83 (.idxa 3 (.t 71) (.t 72)),
⟨none, .store 3 (.t 83) (.t 78), none⟩,
o_ 84 (.idxa 3 (.t 73) (.t 74)),
⟨none, .store 3 (.t 84) (.t 82), none⟩] true)
(.seq
(.region [
m_ 85 11,
o_ 86 (.bin .add (.t 85) (.c (.int .i64 1))),
m_ 11 86] false)
(.region [
m_ 87 12,
o_ 88 (.bin .sub (.t 87) (.c (.int .i64 1))),
m_ 12 88] false)))))))))
(.seq
(.region [
m_ 89 11,
m_ 10 89] false)
.ret))))),
[.t 10]⟩
theorem ok75 : okFunc Go.Proofs.Try.prog 75 lf75 = true := by kernel_rfl
def lf76 : LFunc := ⟨178, 5,
(.seq
(.region [
o_ 10 (.mv (.c (.int .i64 0))),
o_ 11 (.mv (.c (.bool false)))] false)
(.seq
(.region [
m_ 14 0,
m_ 15 1,
m_ 16 0,
m_ 17 3,
m_ 18 0,
m_ 19 3,
o_ 20 (.idxa 3 (.t 18) (.t 19)),
o_ 21 (.load true 3 (.t 20)),
m_ 22 0,
m_ 23 1,
o_ 24 (.idxa 3 (.t 22) (.t 23)),
o_ 25 (.load true 3 (.t 24)),
o_ 26 (.idxa 3 (.t 14) (.t 15)),
⟨none, .store 3 (.t 26) (.t 21), none⟩,
o_ 27 (.idxa 3 (.t 16) (.t 17)),
⟨none, .store 3 (.t 27) (.t 25), none⟩] true)
(.seq
(.region [
m_ 28 1,
o_ 29 (.bin .add (.t 28) (.c (.int .i64 1))),
m_ 30 2,
o_ 31 (.bin .sub (.t 30) (.c (.int .i64 1))),
m_ 12 29,
m_ 13 31] false)
(.seq
(.block 0
(.loop
(.seq
(.seq
(.region [
m_ 32 12,
m_ 33 13,
o_ 34 (.bin .leq (.t 32) (.t 33)),
m_ 35 34,
g_ 36 (.mv (.t 4)) 35 true,
g_ 37 (.mv (.t 0)) 35 true,
g_ 38 (.mv (.t 12)) 35 true,
g_ 39 (.idxa 3 (.t 37) (.t 38)) 35 true,
g_ 40 (.load true 3 (.t 39)) 35 true,
g_ 41 (.mv (.t 0)) 35 true,
g_ 42 (.mv (.t 1)) 35 true,
g_ 43 (.idxa 3 (.t 41) (.t 42)) 35 true,
g_ 44 (.load true 3 (.t 43)) 35 true,
g_ 45 (.call false (.t 36) [.t 40, .t 44]) 35 true,
g_ 46 (.bin .lss (.t 45) (.c (.int .i64 0))) 35 true,
o_ 47 (.pick (.t 35) (.t 46) (.c (.bool false)))] true)
(.cond (.t 47)
.skip
(.exit 0)))
(.block 1
(.region [
m_ 48 12,
o_ 49 (.bin .add (.t 48) (.c (.int .i64 1))),
m_ 12 49] false)))))
(.seq
(.block 2
(.loop
(.seq
(.seq
(.region [
m_ 50 12,
m_ 51 13,
o_ 52 (.bin .leq (.t 50) (.t 51)),
m_ 53 52,
g_ 54 (.mv (.t 4)) 53 true,
g_ 55 (.mv (.t 0)) 53 true,
g_ 56 (.mv (.t 13)) 53 true,
g_ 57 (.idxa 3 (.t 55) (.t 56)) 53 true,
g_ 58 (.load true 3 (.t 57)) 53 true,
g_ 59 (.mv (.t 0)) 53 true,
g_ 60 (.mv (.t 1)) 53 true,
g_ 61 (.idxa 3 (.t 59) (.t 60)) 53 true,
g_ 62 (.load true 3 (.t 61)) 53 true,
g_ 63 (.call false (.t 54) [.t 58, .t 62]) 53 true,
g_ 64 (.bin .lss (.t 63) (.c (.int .i64 0))) 53 true,
g_ 65 (.not (.t 64)) 53 true,
o_ 66 (.pick (.t 53) (.t 65) (.c (.bool false)))] true)
(.cond (.t 66)
.skip
(.exit 2)))
(.block 3
(.region [
m_ 67 13,
o_ 68 (.bin .sub (.t 67) (.c (.int .i64 1))),
m_ 13 68] false)))))
(.seq
(.seq
(.region [
m_ 69 12,
m_ 70 13,
o_ 71 (.bin .gtr (.t 69) (.t 70))] false)
(.cond (.t 71)
(.seq
(.region [
m_ 72 0,
m_ 73 13,
m_ 74 0,
m_ 75 1,
m_ 76 0,
m_ 77 1,
o_ 78 (.idxa 3 (.t 76) (.t 77)),
o_ 79 (.load true 3 (.t 78)),
m_ 80 0,
m_ 81 13,
o_ 82 (.idxa 3 (.t 80) (.t 81)),
o_ 83 (.load true 3 (.t 82)),
o_ 84 (.idxa 3 (.t 72) (.t 73)),
⟨none, .store 3 (.t 84) (.t 79), none⟩,
o_ 85 (.idxa 3 (.t 74) (.t 75)),
⟨none, .store 3 (.t 85) (.t 83), none⟩] true)
(.seq
(.region [
m_ 86 13,
m_ 10 86,
o_ 11 (.mv (.c (.bool true)))] false)
.ret))
.skip))
(.seq
(.region [
m_ 87 0,
m_ 88 12,
m_ 89 0,
m_ 90 13,
m_ 91 0,
m_ 92 13,
o_ 93 (.idxa 3 (.t 91) (.t 92)),
o_ 94 (.load true 3 (.t 93)),
m_ 95 0,
m_ 96 12,
o_ 97 (.idxa 3 (.t 95) (.t 96)),
o_ 98 (.load true 3 (.t 97)),
o_ 99 (.idxa 3 (.t 87) (.t 88)),
⟨none, .store 3 (.t 99) (.t 94), none⟩,
o_ 100 (.idxa 3 (.t 89) (.t 90)),
⟨none, .store 3 (.t 100) (.t 98), none⟩] true)
(.seq
(.region [
m_ 101 12,
o_ 102 (.bin .add (.t 101) (.c (.int .i64 1))),
m_ 12 102] false)
(.seq
(.region [
m_ 103 13,
o_ 104 (.bin .sub (.t 103) (.c (.int .i64 1))),
m_ 13 104] false)
(.seq
(.block 4
(.loop
(.block 5
(.seq
(.block 6
(.loop
(.seq
(.seq
(.region [
m_ 105 12,
m_ 106 13,
o_ 107 (.bin .leq (.t 105) (.t 106)),
m_ 108 107,
g_ 109 (.mv (.t 4)) 108 true,
g_ 110 (.mv (.t 0)) 108 true,
g_ 111 (.mv (.t 12)) 108 true,
g_ 112 (.idxa 3 (.t 110) (.t 111)) 108 true,
g_ 113 (.load true 3 (.t 112)) 108 true,
g_ 114 (.mv (.t 0)) 108 true,
g_ 115 (.mv (.t 1)) 108 true,
g_ 116 (.idxa 3 (.t 114) (.t 115)) 108 true,
g_ 117 (.load true 3 (.t 116)) 108 true,
g_ 118 (.call false (.t 109) [.t 113, .t 117]) 108 true,
g_ 119 (.bin .lss (.t 118) (.c (.int .i64 0))) 108 true,
o_ 120 (.pick (.t 108) (.t 119) (.c (.bool false)))] true)
(.cond (.t 120)
.skip
(.exit 6)))
(.block 7
(.region [
m_ 121 12,
o_ 122 (.bin .add (.t 121) (.c (.int .i64 1))),
m_ 12 122] false)))))
(.seq
(.block 8
(.loop
(.seq
(.seq
(.region [
m_ 123 12,
m_ 124 13,
o_ 125 (.bin .leq (.t 123) (.t 124)),
m_ 126 125,
g_ 127 (.mv (.t 4)) 126 true,
g_ 128 (.mv (.t 0)) 126 true,
g_ 129 (.mv (.t 13)) 126 true,
g_ 130 (.idxa 3 (.t 128) (.t 129)) 126 true,
g_ 131 (.load true 3 (.t 130)) 126 true,
g_ 132 (.mv (.t 0)) 126 true,
g_ 133 (.mv (.t 1)) 126 true,
g_ 134 (.idxa 3 (.t 132) (.t 133)) 126 true,
g_ 135 (.load true 3 (.t 134)) 126 true,
g_ 136 (.call false (.t 127) [.t 131, .t 135]) 126 true,
g_ 137 (.bin .lss (.t 136) (.c (.int .i64 0))) 126 true,
g_ 138 (.not (.t 137)) 126 true,
o_ 139 (.pick (.t 126) (.t 138) (.c (.bool false)))] true)
(.cond (.t 139)
.skip
(.exit 8)))
(.block 9
(.region [
m_ 140 13,
o_ 141 (.bin .sub (.t 140) (.c (.int .i64 1))),
m_ 13 141] false)))))
(.seq
(.seq
(.region [
m_ 142 12,
m_ 143 13,
o_ 144 (.bin .gtr (.t 142) (.t 143))] false)
(.cond (.t 144)
(.exit 4)
.skip))
(.seq
(.region [
m_ 145 0,
m_ 146 12,
m_ 147 0,
m_ 148 13,
m_ 149 0,
m_ 150 13,
o_ 151 (.idxa 3 (.t 149) (.t 150)),
o_ 152 (.load true 3 (.t 151)),
m_ 153 0,
m_ 154 12,
o_ 155 (.idxa 3 (.t 153) (.t 154)),
o_ 156 (.load true 3 (.t 155)),
o_ 157 (.idxa 3 (.t 145) (.t 146)),
⟨none, .store 3 (.t 157) (.t 152), none⟩,
o_ 158 (.idxa 3 (.t 147) (.t 148)),
⟨none, .store 3 (.t 158) (.t 156), none⟩] true)
(.seq
(.region [
m_ 159 12,
o_ 160 (.bin .add (.t 159) (.c (.int .i64 1))),
m_ 12 160] false)
(.region [
m_ 161 13,
o_ 162 (.bin .sub (.t 161) (.c (.int .i64 1))),
m_ 13 162] false)))))))))
(.seq
(.region [
m_ 163 0,
m_ 164 13,
m_ 165 0,
m_ 166 1,
m_ 167 0,
m_ 168 1,
o_ 169 (.idxa 3 (.t 167) (.t 168)),
o_ 170 (.load true 3 (.t 169)),
m_ 171 0,
m_ 172 13,
o_ 173 (.idxa 3 (.t 171) (.t 172)),
o_ 174 (.load true 3 (.t 173)),
o_ 175 (.idxa 3 (.t 163) (.t 164)),
⟨none, .store 3 (.t 175) (.t 170), none⟩,
o_ 176 (.idxa 3 (.t 165) (.t 166)),
⟨none, .store 3 (.t 176) (.t 174), none⟩] true)
(.seq
(.region [
m_ 177 13,
m_ 10 177,
o_ 11 (.mv (.c (.bool false)))] false)
.ret)))))))))))),
[.t 10, .t 11]⟩
theorem ok76 : okFunc Go.Proofs.Try.prog 76 lf76 = true := by kernel_rfl
def lf77 : LFunc := ⟨76, 4,
(.seq
(.region [
m_ 10 1,
m_ 8 10] false)
(.block 0
(.loop
(.block 1
(.seq
(.region [
m_ 11 8,
o_ 12 (.bin .mul (.c (.int .i64 2)) (.t 11)),
o_ 13 (.bin .add (.t 12) (.c (.int .i64 1))),
m_ 9 13] false)
(.seq
(.seq
(.region [
m_ 14 9,
m_ 15 2,
o_ 16 (.bin .geq (.t 14) (.t 15))] false)
(.cond (.t 16)
(.exit 0)
.skip))
(.seq
(.seq
(.region [
m_ 17 9,
o_ 18 (.bin .add (.t 17) (.c (.int .i64 1))),
m_ 19 2,
o_ 20 (.bin .lss (.t 18) (.t 19)),
m_ 21 20,
g_ 22 (.mv (.t 0)) 21 true,
g_ 23 (.mv (.t 3)) 21 true,
g_ 24 (.mv (.t 9)) 21 true,
g_ 25 (.bin .add (.t 23) (.t 24)) 21 true,
g_ 26 (.idxa 1 (.t 22) (.t 25)) 21 true,
g_ 27 (.load false 1 (.t 26)) 21 true,
g_ 28 (.mv (.t 0)) 21 true,
g_ 29 (.mv (.t 3)) 21 true,
g_ 30 (.mv (.t 9)) 21 true,
g_ 31 (.bin .add (.t 29) (.t 30)) 21 true,
g_ 32 (.bin .add (.t 31) (.c (.int .i64 1))) 21 true,
g_ 33 (.idxa 1 (.t 28) (.t 32)) 21 true,
g_ 34 (.load false 1 (.t 33)) 21 true,
g_ 35 (.call false (.c (.fn 64 [] [])) [.t 27, .t 34]) 21 true,
o_ 36 (.pick (.t 21) (.t 35) (.c (.bool false)))] true)
(.cond (.t 36)
(.region [
m_ 37 9,
o_ 38 (.bin .add (.t 37) (.c (.int .i64 1))),
m_ 9 38] false)
.skip))
(.seq
(.seq
(.region [
m_ 39 0,
m_ 40 3,
m_ 41 8,
o_ 42 (.bin .add (.t 40) (.t 41)),
o_ 43 (.idxa 1 (.t 39) (.t 42)),
o_ 44 (.load false 1 (.t 43)),
m_ 45 0,
m_ 46 3,
m_ 47 9,
o_ 48 (.bin .add (.t 46) (.t 47)),
o_ 49 (.idxa 1 (.t 45) (.t 48)),
o_ 50 (.load false 1 (.t 49)),
o_ 51 (.call false (.c (.fn 64 [] [])) [.t 44, .t 50]),
o_ 52 (.not (.t 51))] true)
(.cond (.t 52)
.ret
.skip))
(.seq
(.region [
m_ 53 0,
m_ 54 3,
m_ 55 8,
o_ 56 (.bin .add (.t 54) (.t 55)),
m_ 57 0,
m_ 58 3,
m_ 59 9,
o_ 60 (.bin .add (.t 58) (.t 59)),
m_ 61 0,
m_ 62 3,
m_ 63 9,
o_ 64 (.bin .add (.t 62) (.t 63)),
o_ 65 (.idxa 1 (.t 61) (.t 64)),
o_ 66 (.load false 1 (.t 65)),
m_ 67 0,
m_ 68 3,
m_ 69 8,
o_ 70 (.bin .add (.t 68) (.t 69)),
o_ 71 (.idxa 1 (.t 67) (.t 70)),
o_ 72 (.load false 1 (.t 71)),
o_ 73 (.idxa 1 (.t 53) (.t 56)),
⟨none, .store 1 (.t 73) (.t 66), none⟩,
o_ 74 (.idxa 1 (.t 57) (.t 60)),
⟨none, .store 1 (.t 74) (.t 72), none⟩] true)
(.region [
m_ 75 9,
m_ 8 75] false)))))))))),
[]⟩
theorem ok77 : okFunc Go.Proofs.Try.prog 77 lf77 = true := by kernel_rfl
def lf78 : LFunc := ⟨7, 1,
(.seq
(.region [
o_ 2 (.mv (.c (.int .u64 0)))] false)
(.seq
(.region [
m_ 3 0,
o_ 4 (.conv .u64 (.t 3)),
o_ 5 (.call false (.c (.fn 53 [] [])) [.t 4]),
o_ 6 (.bin .shl (.c (.int .u64 1)) (.t 5)),
m_ 2 6] false)
.ret)),
[.t 2]⟩
theorem ok78 : okFunc Go.Proofs.Try.prog 78 lf78 = true := by kernel_rfl
def lf79 : LFunc := ⟨33, 1,
(.seq
(.region [
o_ 2 (.mv (.c (.int .u64 0)))] false)
(.seq
(.region [
m_ 3 0,
o_ 4 (.nilck (.t 3)),
o_ 5 (.load false 1 (.t 4)),
m_ 6 0,
o_ 7 (.nilck (.t 6)),
o_ 8 (.load false 1 (.t 7)),
o_ 9 (.bin .shl (.t 8) (.c (.int .u64 13))),
o_ 10 (.bin .xor (.t 5) (.t 9)),
o_ 11 (.nilck (.t 3)),
⟨none, .store 1 (.t 11) (.t 10), none⟩] true)
(.seq
(.region [
m_ 12 0,
o_ 13 (.nilck (.t 12)),
o_ 14 (.load false 1 (.t 13)),
m_ 15 0,
o_ 16 (.nilck (.t 15)),
o_ 17 (.load false 1 (.t 16)),
o_ 18 (.bin .shr (.t 17) (.c (.int .u64 7))),
o_ 19 (.bin .xor (.t 14) (.t 18)),
o_ 20 (.nilck (.t 12)),
⟨none, .store 1 (.t 20) (.t 19), none⟩] true)
(.seq
(.region [
m_ 21 0,
o_ 22 (.nilck (.t 21)),
o_ 23 (.load false 1 (.t 22)),
m_ 24 0,
o_ 25 (.nilck (.t 24)),
o_ 26 (.load false 1 (.t 25)),
o_ 27 (.bin .shl (.t 26) (.c (.int .u64 17))),
o_ 28 (.bin .xor (.t 23) (.t 27)),
o_ 29 (.nilck (.t 21)),
⟨none, .store 1 (.t 29) (.t 28), none⟩] true)
(.seq
(.region [
m_ 30 0,
o_ 31 (.nilck (.t 30)),
o_ 32 (.load false 1 (.t 31)),
m_ 2 32] false)
.ret))))),
[.t 2]⟩
theorem ok79 : okFunc Go.Proofs.Try.prog 79 lf79 = true := by kernel_rfl
def lf80 : LFunc := ⟨15, 3,
(.seq
(.region [
o_ 6 (.mv (.c (.int .i64 0)))] false)
(.seq
(.region [
m_ 7 0,
m_ 8 1,
o_ 9 (.bin .sub (.t 8) (.c (.int .i64 1))),
m_ 10 1,
m_ 11 1,
o_ 12 (.bin .add (.t 11) (.c (.int .i64 1))),
m_ 13 2,
o_ 14 (.call false (.c (.fn 81 [] [])) [.t 7, .t 9, .t 10, .t 12, .t 13]),
m_ 6 14] false)
.ret)),
[.t 6]⟩
theorem ok80 : okFunc Go.Proofs.Try.prog 80 lf80 = true := by kernel_rfl
def lf81 : LFunc := ⟨36, 5,
(.seq
(.region [
o_ 10 (.mv (.c (.int .i64 0)))] false)
(.seq
(.region [
m_ 12 0,
m_ 13 1,
m_ 14 2,
m_ 15 4,
o_ 16 (.call false (.c (.fn 85 [] [])) [.t 12, .t 13, .t 14, .t 15]),
m_ 11 16,
o_ 17 (.extract (.t 11) 0),
o_ 18 (.extract (.t 11) 1),
m_ 1 17,
m_ 2 18] false)
(.seq
(.region [
m_ 20 0,
m_ 21 2,
m_ 22 3,
m_ 23 4,
o_ 24 (.call false (.c (.fn 85 [] [])) [.t 20, .t 21, .t 22, .t 23]),
m_ 19 24,
o_ 25 (.extract (.t 19) 0),
o_ 26 (.extract (.t 19) 1),
m_ 2 25,
m_ 3 26] false)
(.seq
(.region [
m_ 28 0,
m_ 29 1,
m_ 30 2,
m_ 31 4,
o_ 32 (.call false (.c (.fn 85 [] [])) [.t 28, .t 29, .t 30, .t 31]),
m_ 27 32,
o_ 33 (.extract (.t 27) 0),
o_ 34 (.extract (.t 27) 1),
m_ 1 33,
m_ 2 34] false)
(.seq
(.region [
m_ 35 2,
m_ 10 35] false)
.ret))))),
[.t 10]⟩
theorem ok81 : okFunc Go.Proofs.Try.prog 81 lf81 = true := by kernel_rfl
def lf82 : LFunc := ⟨82, 5,
(.seq
(.region [
m_ 12 1,
m_ 10 12] false)
(.block 0
(.loop
(.block 1
(.seq
(.region [
m_ 13 10,
o_ 14 (.bin .mul (.c (.int .i64 2)) (.t 13)),
o_ 15 (.bin .add (.t 14) (.c (.int .i64 1))),
m_ 11 15] false)
(.seq
(.seq
(.region [
m_ 16 11,
m_ 17 2,
o_ 18 (.bin .geq (.t 16) (.t 17))] false)
(.cond (.t 18)
(.exit 0)
.skip))
(.seq
(.seq
(.region [
m_ 19 11,
o_ 20 (.bin .add (.t 19) (.c (.int .i64 1))),
m_ 21 2,
o_ 22 (.bin .lss (.t 20) (.t 21)),
m_ 23 22,
g_ 24 (.mv (.t 4)) 23 true,
g_ 25 (.mv (.t 0)) 23 true,
g_ 26 (.mv (.t 3)) 23 true,
g_ 27 (.mv (.t 11)) 23 true,
g_ 28 (.bin .add (.t 26) (.t 27)) 23 true,
g_ 29 (.idxa 3 (.t 25) (.t 28)) 23 true,
g_ 30 (.load true 3 (.t 29)) 23 true,
g_ 31 (.mv (.t 0)) 23 true,
g_ 32 (.mv (.t 3)) 23 true,
g_ 33 (.mv (.t 11)) 23 true,
g_ 34 (.bin .add (.t 32) (.t 33)) 23 true,
g_ 35 (.bin .add (.t 34) (.c (.int .i64 1))) 23 true,
g_ 36 (.idxa 3 (.t 31) (.t 35)) 23 true,
g_ 37 (.load true 3 (.t 36)) 23 true,
g_ 38 (.call false (.t 24) [.t 30, .t 37]) 23 true,
g_ 39 (.bin .lss (.t 38) (.c (.int .i64 0))) 23 true,
o_ 40 (.pick (.t 23) (.t 39) (.c (.bool false)))] true)
(.cond (.t 40)
(.region [
m_ 41 11,
o_ 42 (.bin .add (.t 41) (.c (.int .i64 1))),
m_ 11 42] false)
.skip))
(.seq
(.seq
(.region [
m_ 43 4,
m_ 44 0,
m_ 45 3,
m_ 46 10,
o_ 47 (.bin .add (.t 45) (.t 46)),
o_ 48 (.idxa 3 (.t 44) (.t 47)),
o_ 49 (.load true 3 (.t 48)),
m_ 50 0,
m_ 51 3,
m_ 52 11,
o_ 53 (.bin .add (.t 51) (.t 52)),
o_ 54 (.idxa 3 (.t 50) (.t 53)),
o_ 55 (.load true 3 (.t 54)),
o_ 56 (.call false (.t 43) [.t 49, .t 55]),
o_ 57 (.bin .lss (.t 56) (.c (.int .i64 0))),
o_ 58 (.not (.t 57))] true)
(.cond (.t 58)
.ret
.skip))
(.seq
(.region [
m_ 59 0,
m_ 60 3,
m_ 61 10,
o_ 62 (.bin .add (.t 60) (.t 61)),
m_ 63 0,
m_ 64 3,
m_ 65 11,
o_ 66 (.bin .add (.t 64) (.t 65)),
m_ 67 0,
m_ 68 3,
m_ 69 11,
o_ 70 (.bin .add (.t 68) (.t 69)),
o_ 71 (.idxa 3 (.t 67) (.t 70)),
o_ 72 (.load true 3 (.t 71)),
m_ 73 0,
m_ 74 3,
m_ 75 10,
o_ 76 (.bin .add (.t 74) (.t 75)),
o_ 77 (.idxa 3 (.t 73) (.t 76)),
o_ 78 (.load true 3 (.t 77)),
o_ 79 (.idxa 3 (.t 59) (.t 62)),
⟨none, .store 3 (.t 79) (.t 72), none⟩,
o_ 80 (.idxa 3 (.t 63) (.t 66)),
⟨none, .store 3 (.t 80) (.t 78), none⟩] true)
(.region [
m_ 81 11,
m_ 10 81] false)))))))))),
[]⟩
theorem ok82 : okFunc Go.Proofs.Try.prog 82 lf82 = true := by kernel_rfl
def lf83 : LFunc := ⟨18, 4,
(.seq
(.region [
o_ 8 (.mv (.c (.int .i64 0)))] false)
(.seq
(.region [
m_ 9 0,
m_ 10 1,
o_ 11 (.bin .sub (.t 10) (.c (.int .i64 1))),
m_ 12 1,
m_ 13 1,
o_ 14 (.bin .add (.t 13) (.c (.int .i64 1))),
m_ 15 2,
m_ 16 3,
o_ 17 (.call false (.c (.fn 84 [] [])) [.t 9, .t 11, .t 12, .t 14, .t 15, .t 16]),
m_ 8 17] false)
.ret)),
[.t 8]⟩
theorem ok83 : okFunc Go.Proofs.Try.prog 83 lf83 = true := by kernel_rfl
def lf84 : LFunc := ⟨41, 6,
(.seq
(.region [
o_ 12 (.mv (.c (.int .i64 0)))] false)
(.seq
(.region [
m_ 14 0,
m_ 15 1,
m_ 16 2,
m_ 17 4,
m_ 18 5,
o_ 19 (.call false (.c (.fn 86 [] [])) [.t 14, .t 15, .t 16, .t 17, .t 18]),
m_ 13 19,
o_ 20 (.extract (.t 13) 0),
o_ 21 (.extract (.t 13) 1),
m_ 1 20,
m_ 2 21] false)
(.seq
(.region [
m_ 23 0,
m_ 24 2,
m_ 25 3,
m_ 26 4,
m_ 27 5,
o_ 28 (.call false (.c (.fn 86 [] [])) [.t 23, .t 24, .t 25, .t 26, .t 27]),
m_ 22 28,
o_ 29 (.extract (.t 22) 0),
o_ 30 (.extract (.t 22) 1),
m_ 2 29,
m_ 3 30] false)
(.seq
(.region [
m_ 32 0,
m_ 33 1,
m_ 34 2,
m_ 35 4,
m_ 36 5,
o_ 37 (.call false (.c (.fn 86 [] [])) [.t 32, .t 33, .t 34, .t 35, .t 36]),
m_ 31 37,
o_ 38 (.extract (.t 31) 0),
o_ 39 (.extract (.t 31) 1),
m_ 1 38,
m_ 2 39] false)
(.seq
(.region [
m_ 40 2,
m_ 12 40] false)
.ret))))),
[.t 12]⟩
theorem ok84 : okFunc Go.Proofs.Try.prog 84 lf84 = true := by kernel_rfl
def lf85 : LFunc := ⟨28, 4,
(.seq
(.region [
o_ 8 (.mv (.c (.int .i64 0))),
o_ 9 (.mv (.c (.int .i64 0)))] false)
(.seq
(.seq
(.region [
m_ 10 0,
m_ 11 2,
o_ 12 (.idxa 1 (.t 10) (.t 11)),
o_ 13 (.load false 1 (.t 12)),
m_ 14 0,
m_ 15 1,
o_ 16 (.idxa 1 (.t 14) (.t 15)),
o_ 17 (.load false 1 (.t 16)),
o_ 18 (.call false (.c (.fn 64 [] [])) [.t 13, .t 17])] true)
(.cond (.t 18)
(.seq
(.region [
m_ 19 3,
o_ 20 (.nilck (.t 19)),
o_ 21 (.load false 1 (.t 20)),
o_ 22 (.bin .add (.t 21) (.c (.int .i64 1))),
o_ 23 (.nilck (.t 19)),
⟨none, .store 1 (.t 23) (.t 22), none⟩] false)
(.seq
(.region [
m_ 24 2,
m_ 25 1,
m_ 8 24,
m_ 9 25] false)
.ret))
.skip))
(.seq
(.region [
m_ 26 1,
m_ 27 2,
m_ 8 26,
m_ 9 27] false)
.ret))),
[.t 8, .t 9]⟩
theorem ok85 : okFunc Go.Proofs.Try.prog 85 lf85 = true := by kernel_rfl
def lf86 : LFunc := ⟨32, 5,
(.seq
(.region [
o_ 10 (.mv (.c (.int .i64 0))),
o_ 11 (.mv (.c (.int .i64 0)))] false)
(.seq
(.seq
(.region [
m_ 12 4,
m_ 13 0,
m_ 14 2,
o_ 15 (.idxa 3 (.t 13) (.t 14)),
o_ 16 (.load true 3 (.t 15)),
m_ 17 0,
m_ 18 1,
o_ 19 (.idxa 3 (.t 17) (.t 18)),
o_ 20 (.load true 3 (.t 19)),
o_ 21 (.call false (.t 12) [.t 16, .t 20]),
o_ 22 (.bin .lss (.t 21) (.c (.int .i64 0)))] true)
(.cond (.t 22)
(.seq
(.region [
m_ 23 3,
o_ 24 (.nilck (.t 23)),
o_ 25 (.load false 1 (.t 24)),
o_ 26 (.bin .add (.t 25) (.c (.int .i64 1))),
o_ 27 (.nilck (.t 23)),
⟨none, .store 1 (.t 27) (.t 26), none⟩] false)
(.seq
(.region [
m_ 28 2,
m_ 29 1,
m_ 10 28,
m_ 11 29] false)
.ret))
.skip))
(.seq
(.region [
m_ 30 1,
m_ 31 2,
m_ 10 30,
m_ 11 31] false)
.ret))),
[.t 10, .t 11]⟩
theorem ok86 : okFunc Go.Proofs.Try.prog 86 lf86 = true := by kernel_rfl
end Go.AM.Sk
