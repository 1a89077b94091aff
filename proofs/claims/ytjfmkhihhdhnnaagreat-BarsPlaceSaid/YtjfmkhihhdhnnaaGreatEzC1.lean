/- A part of a proof about the given program: what its name says. No premise beyond the statements'. -/
import Derived.Test.YtjfmkhihhdhnnaaGreatEzC0
set_option linter.unusedSimpArgs false
set_option linter.unusedVariables false
/- A part of the program's functions in the short form, each checked against the program. -/
namespace Go.AM.Ez
open Go.AM
def lf224 : LFunc := ⟨31, 1,
(.seq
(.region [
o_ 1 (.box 3 (.t 0)),
o_ 2 (.mv (.c (.bool false)))] false)
(.seq
(.region [
o_ 3 (.fadr 0 (.t 1)),
o_ 4 (.load false 1 (.t 3)),
o_ 5 (.bin .geq (.t 4) (.c (.int .i64 0))),
m_ 6 5,
g_ 7 (.fadr 0 (.t 1)) 6 true,
g_ 8 (.load false 1 (.t 7)) 6 true,
g_ 9 (.bin .leq (.t 8) (.c (.int .i64 6))) 6 true,
o_ 10 (.pick (.t 6) (.t 9) (.c (.bool false))),
m_ 11 10,
g_ 12 (.fadr 1 (.t 1)) 11 true,
g_ 13 (.load false 1 (.t 12)) 11 true,
g_ 14 (.bin .geq (.t 13) (.c (.int .i64 (-2)))) 11 true,
o_ 15 (.pick (.t 11) (.t 14) (.c (.bool false))),
m_ 16 15,
g_ 17 (.fadr 1 (.t 1)) 16 true,
g_ 18 (.load false 1 (.t 17)) 16 true,
g_ 19 (.bin .leq (.t 18) (.c (.int .i64 2))) 16 true,
o_ 20 (.pick (.t 16) (.t 19) (.c (.bool false))),
m_ 21 20,
g_ 22 (.fadr 2 (.t 1)) 21 true,
g_ 23 (.load false 1 (.t 22)) 21 true,
g_ 24 (.bin .geq (.t 23) (.c (.int .i64 (-9)))) 21 true,
o_ 25 (.pick (.t 21) (.t 24) (.c (.bool false))),
m_ 26 25,
g_ 27 (.fadr 2 (.t 1)) 26 true,
g_ 28 (.load false 1 (.t 27)) 26 true,
g_ 29 (.bin .leq (.t 28) (.c (.int .i64 9))) 26 true,
o_ 30 (.pick (.t 26) (.t 29) (.c (.bool false))),
m_ 2 30] false)
.ret)),
[.t 2]⟩
theorem ok224 : okFunc Go.Proofs.Tryz.prog 224 lf224 = true := by kernel_rfl
def lf225 : LFunc := ⟨18, 1,
(.seq
(.region [
o_ 1 (.box 14 (.t 0)),
o_ 2 (.mv (.c (.bool false)))] false)
(.seq
(.region [
o_ 3 (.fadr 3 (.t 1)),
o_ 4 (.load false 1 (.t 3)),
o_ 5 (.not (.t 4)),
m_ 6 5,
g_ 7 (.fadr 4 (.t 1)) 6 true,
g_ 8 (.load true 2 (.t 7)) 6 true,
g_ 9 (.build [.int .i64 0, .int .i64 0] []) 6 true,
g_ 10 (.eq false (.ag [.i, .i]) (.t 8) (.t 9)) 6 true,
o_ 11 (.pick (.t 6) (.t 10) (.c (.bool false))),
m_ 12 11,
g_ 13 (.fadr 6 (.t 1)) 12 true,
g_ 14 (.load true 4 (.t 13)) 12 true,
g_ 15 (.build [.bool false, .int .i64 0, .int .i64 0, .str ⟨#[]⟩] []) 12 true,
g_ 16 (.eq false (.ag [.b, .i, .i, .s]) (.t 14) (.t 15)) 12 true,
o_ 17 (.pick (.t 12) (.t 16) (.c (.bool false))),
m_ 2 17] false)
.ret)),
[.t 2]⟩
theorem ok225 : okFunc Go.Proofs.Tryz.prog 225 lf225 = true := by kernel_rfl
def lf226 : LFunc := ⟨18, 2,
(.seq
(.region [
o_ 4 (.mv (.c (.bool false)))] false)
(.seq
(.seq
(.region [
o_ 5 (.mv (.c (.int .i64 0)))] false)
(.block 0
(.loop
(.seq
(.seq
(.region [
m_ 6 5,
m_ 7 0,
o_ 8 (.len .sli (.t 7)),
o_ 9 (.bin .lss (.t 6) (.t 8))] false)
(.cond (.t 9)
.skip
(.exit 0)))
(.seq
(.block 1
(.seq
(.region [
m_ 12 0,
m_ 13 5,
o_ 14 (.idxa 1 (.t 12) (.t 13)),
o_ 15 (.load false 1 (.t 14)),
m_ 16 1,
o_ 17 (.bin .eql (.t 15) (.t 16))] false)
(.cond (.t 17)
(.seq
(.region [
o_ 4 (.mv (.c (.bool true)))] false)
.ret)
.skip)))
(.region [
m_ 10 5,
o_ 11 (.bin .add (.t 10) (.c (.int .i64 1))),
m_ 5 11] false))))))
(.seq
(.region [
o_ 4 (.mv (.c (.bool false)))] false)
.ret))),
[.t 4]⟩
theorem ok226 : okFunc Go.Proofs.Tryz.prog 226 lf226 = true := by kernel_rfl
def lf227 : LFunc := ⟨2, 0,
(.seq
(.region [
o_ 0 (.mv (.c (.nils)))] false)
(.seq
(.region [
o_ 1 (.bsl 1 4 [.str ⟨#[]⟩] [(0, .c (.str ⟨#[116, 114, 101, 98, 108, 101]⟩)), (1, .c (.str ⟨#[98, 97, 115, 115]⟩)), (2, .c (.str ⟨#[97, 108, 116, 111]⟩)), (3, .c (.str ⟨#[116, 101, 110, 111, 114]⟩))]),
m_ 0 1] false)
.ret)),
[.t 0]⟩
theorem ok227 : okFunc Go.Proofs.Tryz.prog 227 lf227 = true := by kernel_rfl
def lf228 : LFunc := ⟨2, 0,
(.seq
(.region [
o_ 0 (.mv (.c (.nils)))] false)
(.seq
(.region [
o_ 1 (.bsl 1 2 [.str ⟨#[]⟩] [(0, .c (.str ⟨#[109, 97, 106, 111, 114]⟩)), (1, .c (.str ⟨#[109, 105, 110, 111, 114]⟩))]),
m_ 0 1] false)
.ret)),
[.t 0]⟩
theorem ok228 : okFunc Go.Proofs.Tryz.prog 228 lf228 = true := by kernel_rfl
def lf229 : LFunc := ⟨45, 2,
(.seq
(.region [
o_ 3 (.box 3 (.t 1)),
o_ 4 (.mv (.c (.nils)))] false)
(.seq
(.region [
o_ 5 (.mv (.c (.int .i64 0)))] false)
(.seq
(.block 0
(.loop
(.seq
(.seq
(.region [
m_ 6 5,
m_ 7 0,
o_ 8 (.len .sli (.t 7)),
o_ 9 (.bin .lss (.t 6) (.t 8)),
m_ 10 9,
g_ 11 (.mv (.t 0)) 10 true,
g_ 12 (.mv (.t 5)) 10 true,
g_ 13 (.idxa 3 (.t 11) (.t 12)) 10 true,
g_ 14 (.load true 3 (.t 13)) 10 true,
g_ 15 (.load true 3 (.t 3)) 10 true,
g_ 16 (.call false (.c (.fn 254 [] [])) [.t 14, .t 15]) 10 true,
o_ 17 (.pick (.t 10) (.t 16) (.c (.bool false)))] true)
(.cond (.t 17)
.skip
(.exit 0)))
(.block 1
(.region [
m_ 18 5,
o_ 19 (.bin .add (.t 18) (.c (.int .i64 1))),
m_ 5 19] false)))))
(.seq
(.seq
(.region [
m_ 20 5,
m_ 21 0,
o_ 22 (.len .sli (.t 21)),
o_ 23 (.bin .lss (.t 20) (.t 22)),
m_ 24 23,
g_ 25 (.mv (.t 0)) 24 true,
g_ 26 (.mv (.t 5)) 24 true,
g_ 27 (.idxa 3 (.t 25) (.t 26)) 24 true,
g_ 28 (.load true 3 (.t 27)) 24 true,
g_ 29 (.load true 3 (.t 3)) 24 true,
g_ 30 (.eq false (.ag [.i, .i, .i]) (.t 28) (.t 29)) 24 true,
o_ 31 (.pick (.t 24) (.t 30) (.c (.bool false)))] true)
(.cond (.t 31)
(.seq
(.region [
m_ 32 0,
m_ 4 32] false)
.ret)
.skip))
(.seq
(.region [
o_ 33 (.bsl 3 0 [.int .i64 0, .int .i64 0, .int .i64 0] []),
m_ 34 0,
m_ 35 5,
o_ 36 (.slice 3 (.t 34) none (some (.t 35)) none),
o_ 37 (.appendH 3 24 (.t 33) (.t 36)),
o_ 38 (.load true 3 (.t 3)),
o_ 39 (.btsl 3 1 [.int .i64 0, .int .i64 0, .int .i64 0] [(0, .t 38)]),
o_ 40 (.appendH 3 24 (.t 37) (.t 39)),
m_ 41 0,
m_ 42 5,
o_ 43 (.slice 3 (.t 41) (some (.t 42)) none none),
o_ 44 (.appendH 3 24 (.t 40) (.t 43)),
m_ 4 44] true)
.ret))))),
[.t 4]⟩
theorem ok229 : okFunc Go.Proofs.Tryz.prog 229 lf229 = true := by kernel_rfl
def lf230 : LFunc := ⟨21, 1,
(.seq
(.region [
o_ 1 (.box 2 (.t 0)),
o_ 2 (.mv (.c (.bool false)))] false)
(.seq
(.region [
o_ 3 (.fadr 0 (.t 1)),
o_ 4 (.load false 1 (.t 3)),
o_ 5 (.bin .geq (.t 4) (.c (.int .i64 (-1)))),
m_ 6 5,
g_ 7 (.fadr 0 (.t 1)) 6 true,
g_ 8 (.load false 1 (.t 7)) 6 true,
g_ 9 (.bin .leq (.t 8) (.c (.int .i64 6))) 6 true,
o_ 10 (.pick (.t 6) (.t 9) (.c (.bool false))),
m_ 11 10,
g_ 12 (.fadr 1 (.t 1)) 11 true,
g_ 13 (.load false 1 (.t 12)) 11 true,
g_ 14 (.bin .geq (.t 13) (.c (.int .i64 0))) 11 true,
o_ 15 (.pick (.t 11) (.t 14) (.c (.bool false))),
m_ 16 15,
g_ 17 (.fadr 1 (.t 1)) 16 true,
g_ 18 (.load false 1 (.t 17)) 16 true,
g_ 19 (.bin .leq (.t 18) (.c (.int .i64 3))) 16 true,
o_ 20 (.pick (.t 16) (.t 19) (.c (.bool false))),
m_ 2 20] false)
.ret)),
[.t 2]⟩
theorem ok230 : okFunc Go.Proofs.Tryz.prog 230 lf230 = true := by kernel_rfl
def lf231 : LFunc := ⟨24, 1,
(.seq
(.region [
o_ 1 (.box 2 (.t 0)),
o_ 2 (.mv (.c (.int .i64 0)))] false)
(.seq
(.region [
o_ 6 (.fadr 0 (.t 1)),
o_ 7 (.load false 1 (.t 6)),
o_ 8 (.bin .add (.t 7) (.c (.int .i64 1))),
o_ 9 (.conv .u64 (.t 8)),
o_ 10 (.bin .shr (.c (.int .i64 2048)) (.t 9)),
m_ 3 10] false)
(.seq
(.region [
m_ 11 3,
m_ 4 11] false)
(.seq
(.seq
(.region [
o_ 5 (.mv (.c (.int .i64 0)))] false)
(.block 0
(.loop
(.seq
(.seq
(.region [
m_ 12 5,
o_ 13 (.fadr 1 (.t 1)),
o_ 14 (.load false 1 (.t 13)),
o_ 15 (.bin .lss (.t 12) (.t 14))] false)
(.cond (.t 15)
.skip
(.exit 0)))
(.seq
(.block 1
(.seq
(.region [
m_ 18 3,
o_ 19 (.bin .quo (.t 18) (.c (.int .i64 2))),
m_ 3 19] false)
(.region [
m_ 20 4,
m_ 21 3,
o_ 22 (.bin .add (.t 20) (.t 21)),
m_ 4 22] false)))
(.region [
m_ 16 5,
o_ 17 (.bin .add (.t 16) (.c (.int .i64 1))),
m_ 5 17] false))))))
(.seq
(.region [
m_ 23 4,
m_ 2 23] false)
.ret))))),
[.t 2]⟩
theorem ok231 : okFunc Go.Proofs.Tryz.prog 231 lf231 = true := by kernel_rfl
def lf232 : LFunc := ⟨2, 0,
(.seq
(.region [
o_ 0 (.mv (.c (.nils)))] false)
(.seq
(.region [
o_ 1 (.bsl 1 47 [.str ⟨#[]⟩] [(0, .c (.str ⟨#[98, 114, 101, 118, 101]⟩)), (1, .c (.str ⟨#[119, 104, 111, 108, 101]⟩)), (2, .c (.str ⟨#[104, 97, 108, 102]⟩)), (3, .c (.str ⟨#[98, 108, 97, 99, 107]⟩)), (4, .c (.str ⟨#[114, 101, 115, 116, 45, 98, 114, 101, 118, 101]⟩)), (5, .c (.str ⟨#[114, 101, 115, 116, 45, 49]⟩)), (6, .c (.str ⟨#[114, 101, 115, 116, 45, 50]⟩)), (7, .c (.str ⟨#[114, 101, 115, 116, 45, 52]⟩)), (8, .c (.str ⟨#[114, 101, 115, 116, 45, 56]⟩)), (9, .c (.str ⟨#[114, 101, 115, 116, 45, 49, 54]⟩)), (10, .c (.str ⟨#[114, 101, 115, 116, 45, 51, 50]⟩)), (11, .c (.str ⟨#[114, 101, 115, 116, 45, 54, 52]⟩)), (12, .c (.str ⟨#[117, 112, 45, 56]⟩)), (13, .c (.str ⟨#[117, 112, 45, 49, 54]⟩)), (14, .c (.str ⟨#[117, 112, 45, 51, 50]⟩)), (15, .c (.str ⟨#[117, 112, 45, 54, 52]⟩)), (16, .c (.str ⟨#[100, 111, 119, 110, 45, 56]⟩)), (17, .c (.str ⟨#[100, 111, 119, 110, 45, 49, 54]⟩)), (18, .c (.str ⟨#[100, 111, 119, 110, 45, 51, 50]⟩)), (19, .c (.str ⟨#[100, 111, 119, 110, 45, 54, 52]⟩)), (20, .c (.str ⟨#[115, 104, 97, 114, 112]⟩)), (21, .c (.str ⟨#[102, 108, 97, 116]⟩)), (22, .c (.str ⟨#[110, 97, 116, 117, 114, 97, 108]⟩)), (23, .c (.str ⟨#[100, 111, 117, 98, 108, 101, 45, 115, 104, 97, 114, 112]⟩)), (24, .c (.str ⟨#[100, 111, 117, 98, 108, 101, 45, 102, 108, 97, 116]⟩)), (25, .c (.str ⟨#[116, 114, 101, 98, 108, 101]⟩)), (26, .c (.str ⟨#[98, 97, 115, 115]⟩)), (27, .c (.str ⟨#[97, 108, 116, 111]⟩)), (28, .c (.str ⟨#[116, 101, 110, 111, 114]⟩)), (29, .c (.str ⟨#[48]⟩)), (30, .c (.str ⟨#[49]⟩)), (31, .c (.str ⟨#[50]⟩)), (32, .c (.str ⟨#[51]⟩)), (33, .c (.str ⟨#[52]⟩)), (34, .c (.str ⟨#[53]⟩)), (35, .c (.str ⟨#[54]⟩)), (36, .c (.str ⟨#[55]⟩)), (37, .c (.str ⟨#[56]⟩)), (38, .c (.str ⟨#[57]⟩)), (39, .c (.str ⟨#[100, 111, 116]⟩)), (40, .c (.str ⟨#[98, 97, 114]⟩)), (41, .c (.str ⟨#[98, 97, 114, 45, 100, 111, 117, 98, 108, 101]⟩)), (42, .c (.str ⟨#[98, 97, 114, 45, 101, 110, 100]⟩)), (43, .c (.str ⟨#[112]⟩)), (44, .c (.str ⟨#[109]⟩)), (45, .c (.str ⟨#[102]⟩)), (46, .c (.str ⟨#[98, 114, 97, 99, 101]⟩))]),
m_ 0 1] false)
.ret)),
[.t 0]⟩
theorem ok232 : okFunc Go.Proofs.Tryz.prog 232 lf232 = true := by kernel_rfl
def lf233 : LFunc := ⟨9, 2,
(.seq
(.region [
o_ 3 (.box 3 (.t 1)),
o_ 4 (.mv (.c (.bool false)))] false)
(.seq
(.region [
m_ 5 0,
o_ 6 (.load true 3 (.t 3)),
o_ 7 (.btsl 3 1 [.int .i64 0, .int .i64 0, .int .i64 0] [(0, .t 6)]),
o_ 8 (.call false (.c (.fn 149 [] [])) [.t 5, .t 7]),
m_ 4 8] false)
.ret)),
[.t 4]⟩
theorem ok233 : okFunc Go.Proofs.Tryz.prog 233 lf233 = true := by kernel_rfl
def lf234 : LFunc := ⟨21, 1,
(.seq
(.region [
o_ 1 (.box 2 (.t 0)),
o_ 2 (.mv (.c (.int .i64 0)))] false)
(.seq
(.region [
o_ 5 (.fadr 0 (.t 1)),
o_ 6 (.load false 1 (.t 5)),
o_ 7 (.bin .sub (.t 6) (.c (.int .i64 (-1)))),
o_ 8 (.bin .shr (.c (.int .i64 2048)) (.t 7)),
m_ 3 8] false)
(.seq
(.region [
m_ 9 3,
m_ 4 9] false)
(.seq
(.seq
(.region [
o_ 10 (.fadr 1 (.t 1)),
o_ 11 (.load false 1 (.t 10)),
o_ 12 (.mv (.c (.int .i64 0)))] false)
(.block 0
(.loop
(.seq
(.region [
o_ 13 (.bin .lss (.t 12) (.t 11))] false)
(.seq
(.cond (.t 13)
.skip
(.exit 0))
(.seq
(.block 1
(.seq
(.region [
m_ 14 3,
o_ 15 (.bin .quo (.t 14) (.c (.int .i64 2))),
m_ 3 15] false)
(.region [
m_ 16 4,
m_ 17 3,
o_ 18 (.bin .add (.t 16) (.t 17)),
m_ 4 18] false)))
(.region [
o_ 19 (.bin .add (.t 12) (.c (.int .i64 1))),
m_ 12 19] false)))))))
(.seq
(.region [
m_ 20 4,
m_ 2 20] false)
.ret))))),
[.t 2]⟩
theorem ok234 : okFunc Go.Proofs.Tryz.prog 234 lf234 = true := by kernel_rfl
def lf235 : LFunc := ⟨5, 1,
(.seq
(.region [
o_ 2 (.newv [.int .i64 0, .int .i64 0])] false)
(.seq
(.region [
m_ 3 0,
o_ 4 (.build [.int .i64 0, .int .i64 0] [(0, 1, .t 3), (1, 1, .c (.int .i64 1))]),
⟨none, .store 2 (.t 2) (.t 4), none⟩] false)
.ret)),
[.cell true 2 2]⟩
theorem ok235 : okFunc Go.Proofs.Tryz.prog 235 lf235 = true := by kernel_rfl
def lf236 : LFunc := ⟨66, 2,
(.seq
(.region [
o_ 2 (.box 2 (.t 0)),
o_ 3 (.box 2 (.t 1)),
o_ 4 (.newv [.int .i64 0, .int .i64 0]),
o_ 5 (.mv (.c (.int .i64 0)))] false)
(.seq
(.region [
o_ 12 (.fadr 0 (.t 2)),
o_ 13 (.load false 1 (.t 12)),
o_ 14 (.call false (.c (.fn 64 [] [])) [.t 13]),
o_ 15 (.fadr 1 (.t 3)),
o_ 16 (.load false 1 (.t 15)),
o_ 17 (.call false (.c (.fn 63 [] [])) [.t 14, .t 16]),
o_ 18 (.fadr 0 (.t 3)),
o_ 19 (.load false 1 (.t 18)),
o_ 20 (.call false (.c (.fn 64 [] [])) [.t 19]),
o_ 21 (.fadr 1 (.t 2)),
o_ 22 (.load false 1 (.t 21)),
o_ 23 (.call false (.c (.fn 63 [] [])) [.t 20, .t 22]),
m_ 6 17,
m_ 7 23] true)
(.seq
(.region [
o_ 24 (.fadr 0 (.t 2)),
o_ 25 (.load false 1 (.t 24)),
m_ 26 6,
o_ 27 (.bin .quo (.t 25) (.t 26)),
o_ 28 (.fadr 0 (.t 3)),
o_ 29 (.load false 1 (.t 28)),
m_ 30 7,
o_ 31 (.bin .quo (.t 29) (.t 30)),
m_ 8 27,
m_ 9 31] true)
(.seq
(.region [
o_ 32 (.fadr 1 (.t 2)),
o_ 33 (.load false 1 (.t 32)),
m_ 34 7,
o_ 35 (.bin .quo (.t 33) (.t 34)),
o_ 36 (.fadr 1 (.t 3)),
o_ 37 (.load false 1 (.t 36)),
m_ 38 6,
o_ 39 (.bin .quo (.t 37) (.t 38)),
m_ 10 35,
m_ 11 39] true)
(.seq
(.seq
(.region [
m_ 40 9,
o_ 41 (.bin .neq (.t 40) (.c (.int .i64 0))),
m_ 42 41,
g_ 43 (.mv (.t 8)) 42 true,
g_ 44 (.call false (.c (.fn 64 [] [])) [.t 43]) 42 true,
g_ 45 (.mv (.t 9)) 42 true,
g_ 46 (.call false (.c (.fn 64 [] [])) [.t 45]) 42 true,
g_ 47 (.bin .quo (.c (.int .i64 1099511627776)) (.t 46)) 42 true,
g_ 48 (.bin .gtr (.t 44) (.t 47)) 42 true,
o_ 49 (.pick (.t 42) (.t 48) (.c (.bool false))),
m_ 50 49,
g_ 51 (.mv (.t 10)) 50 false,
g_ 52 (.mv (.t 11)) 50 false,
g_ 53 (.bin .quo (.c (.int .i64 1048576)) (.t 52)) 50 false,
g_ 54 (.bin .gtr (.t 51) (.t 53)) 50 false,
o_ 55 (.pick (.t 50) (.c (.bool true)) (.t 54))] false)
(.cond (.t 55)
(.seq
(.region [
o_ 56 (.call false (.c (.fn 68 [] [])) []),
⟨none, .store 2 (.t 4) (.t 56), none⟩,
o_ 5 (.mv (.c (.int .i64 3)))] false)
.ret)
.skip))
(.seq
(.region [
m_ 57 8,
m_ 58 9,
o_ 59 (.bin .mul (.t 57) (.t 58)),
m_ 60 10,
m_ 61 11,
o_ 62 (.bin .mul (.t 60) (.t 61)),
o_ 63 (.call false (.c (.fn 163 [] [])) [.t 59, .t 62]),
o_ 64 (.extract (.t 63) 0),
o_ 65 (.extract (.t 63) 1),
⟨none, .store 2 (.t 4) (.t 64), none⟩,
m_ 5 65] false)
.ret)))))),
[.cell true 2 4, .t 5]⟩
theorem ok236 : okFunc Go.Proofs.Tryz.prog 236 lf236 = true := by kernel_rfl
def lf237 : LFunc := ⟨19, 2,
(.seq
(.region [
o_ 4 (.mv (.c (.int .i64 0)))] false)
(.seq
(.seq
(.region [
m_ 6 0,
o_ 7 (.len .sli (.t 6)),
o_ 8 (.mv (.c (.int .i64 0)))] false)
(.block 0
(.loop
(.seq
(.region [
o_ 9 (.bin .lss (.t 8) (.t 7))] false)
(.seq
(.cond (.t 9)
.skip
(.exit 0))
(.seq
(.block 1
(.seq
(.region [
m_ 10 8,
m_ 5 10] false)
(.seq
(.region [
m_ 11 1,
m_ 12 0,
m_ 13 5,
o_ 14 (.idxa 3 (.t 12) (.t 13)),
o_ 15 (.load true 3 (.t 14)),
o_ 16 (.call false (.t 11) [.t 15])] false)
(.cond (.t 16)
(.seq
(.region [
m_ 17 5,
m_ 4 17] false)
.ret)
.skip))))
(.region [
o_ 18 (.bin .add (.t 8) (.c (.int .i64 1))),
m_ 8 18] false)))))))
(.seq
(.region [
o_ 4 (.mv (.c (.int .i64 (-1))))] false)
.ret))),
[.t 4]⟩
theorem ok237 : okFunc Go.Proofs.Tryz.prog 237 lf237 = true := by kernel_rfl
def lf239 : LFunc := ⟨54, 3,
(.seq
(.region [
o_ 6 (.mv (.c (.bool false)))] false)
(.block 0
(.loop
(.block 1
(.seq
(.seq
(.region [
m_ 14 2,
m_ 15 14,
g_ 16 (.mv (.t 0)) 15 true,
g_ 17 (.mv (.t 1)) 15 true,
g_ 18 (.bad) 15 true,
o_ 19 (.pick (.t 15) (.t 18) (.c (.bool false)))] false)
(.cond (.t 19)
(.seq
(.region [
o_ 6 (.mv (.c (.bool true)))] false)
.ret)
.skip))
(.seq
(.seq
(.region [
m_ 21 0,
o_ 22 (.bad),
m_ 20 22,
o_ 23 (.extract (.t 20) 0),
o_ 24 (.extract (.t 20) 1),
m_ 7 23,
m_ 8 24] false)
(.seq
(.region [
m_ 25 8,
m_ 26 25,
g_ 27 (.mv (.t 7)) 26 true,
g_ 28 (.mv (.t 1)) 26 true,
g_ 29 (.bad) 26 true,
o_ 30 (.pick (.t 26) (.t 29) (.c (.bool false)))] false)
(.cond (.t 30)
(.seq
(.region [
o_ 6 (.mv (.c (.bool true)))] false)
.ret)
.skip)))
(.seq
(.region [
m_ 31 0] false)
(.block 2
(.seq
(.region [
o_ 32 (.bad),
o_ 33 (.extract (.t 32) 1),
o_ 34 (.extract (.t 32) 0)] false)
(.cond (.t 33)
(.seq
(.region [
m_ 9 34] false)
(.seq
(.region [
m_ 35 9,
o_ 36 (.bad),
m_ 0 36] false)
(.seq
(.region [
m_ 37 0,
o_ 38 (.ifnil false (.t 37))] false)
(.cond (.t 38)
(.seq
(.region [
o_ 6 (.mv (.c (.bool false)))] false)
.ret)
.skip))))
(.seq
(.region [
o_ 39 (.bad),
o_ 40 (.extract (.t 39) 1),
o_ 41 (.extract (.t 39) 0)] false)
(.cond (.t 40)
(.seq
(.region [
m_ 10 41] false)
(.seq
(.seq
(.region [
m_ 42 10,
o_ 43 (.bad),
o_ 44 (.len .sli (.t 43)),
o_ 45 (.mv (.c (.int .i64 0)))] false)
(.block 3
(.loop
(.seq
(.region [
o_ 46 (.bin .lss (.t 45) (.t 44))] false)
(.seq
(.cond (.t 46)
.skip
(.exit 3))
(.seq
(.block 4
(.seq
(.region [
o_ 47 (.idxa 1 (.t 43) (.t 45)),
o_ 48 (.load false 1 (.t 47)),
m_ 12 48] false)
(.seq
(.region [
m_ 49 12,
m_ 50 1,
m_ 51 2,
o_ 52 (.call false (.c (.fn 239 [] [])) [.t 49, .t 50, .t 51])] false)
(.cond (.t 52)
(.seq
(.region [
o_ 6 (.mv (.c (.bool true)))] false)
.ret)
.skip))))
(.region [
o_ 53 (.bin .add (.t 45) (.c (.int .i64 1))),
m_ 45 53] false)))))))
(.seq
(.region [
o_ 6 (.mv (.c (.bool false)))] false)
.ret)))
(.seq
(.region [
m_ 13 31] false)
(.seq
(.region [
o_ 6 (.mv (.c (.bool false)))] false)
.ret)))))))))))))),
[.t 6]⟩
theorem ok239 : okFunc Go.Proofs.Tryz.prog 239 lf239 = true := by kernel_rfl
def lf245 : LFunc := ⟨32, 1,
(.seq
(.region [
o_ 2 (.newv [.int .i64 0, .int .i64 0, .int .i64 0]),
o_ 3 (.mv (.c (.bool false)))] false)
(.seq
(.region [
o_ 7 (.bsl 1 5 [.str ⟨#[]⟩] [(0, .c (.str ⟨#[101, 115, 101, 115]⟩)), (1, .c (.str ⟨#[101, 115]⟩)), (2, .c (.str ⟨#[]⟩)), (3, .c (.str ⟨#[105, 115]⟩)), (4, .c (.str ⟨#[105, 115, 105, 115]⟩))]),
m_ 4 7] false)
(.seq
(.seq
(.region [
o_ 5 (.mv (.c (.int .i64 0)))] false)
(.block 0
(.loop
(.seq
(.seq
(.region [
m_ 8 5,
o_ 9 (.bin .lss (.t 8) (.c (.int .i64 7)))] false)
(.cond (.t 9)
.skip
(.exit 0)))
(.seq
(.block 1
(.seq
(.region [
o_ 6 (.mv (.c (.int .i64 0)))] false)
(.block 2
(.loop
(.seq
(.seq
(.region [
m_ 12 6,
o_ 13 (.bin .lss (.t 12) (.c (.int .i64 5)))] false)
(.cond (.t 13)
.skip
(.exit 2)))
(.seq
(.block 3
(.seq
(.region [
m_ 16 0,
m_ 17 5,
m_ 18 5,
o_ 19 (.bin .add (.t 18) (.c (.int .i64 1))),
o_ 20 (.substr (.c (.str ⟨#[99, 100, 101, 102, 103, 97, 98]⟩)) (some (.t 17)) (some (.t 19))),
m_ 21 4,
m_ 22 6,
o_ 23 (.idxa 1 (.t 21) (.t 22)),
o_ 24 (.load false 1 (.t 23)),
o_ 25 (.bin .add (.t 20) (.t 24)),
o_ 26 (.bin .eql (.t 16) (.t 25))] true)
(.cond (.t 26)
(.seq
(.region [
m_ 27 5,
m_ 28 6,
o_ 29 (.bin .sub (.t 28) (.c (.int .i64 2))),
o_ 30 (.build [.int .i64 0, .int .i64 0, .int .i64 0] [(0, 1, .t 27), (1, 1, .t 29)]),
⟨none, .store 3 (.t 2) (.t 30), none⟩,
o_ 3 (.mv (.c (.bool true)))] false)
.ret)
.skip)))
(.region [
m_ 14 6,
o_ 15 (.bin .add (.t 14) (.c (.int .i64 1))),
m_ 6 15] false)))))))
(.region [
m_ 10 5,
o_ 11 (.bin .add (.t 10) (.c (.int .i64 1))),
m_ 5 11] false))))))
(.seq
(.region [
o_ 31 (.build [.int .i64 0, .int .i64 0, .int .i64 0] []),
⟨none, .store 3 (.t 2) (.t 31), none⟩,
o_ 3 (.mv (.c (.bool false)))] false)
.ret)))),
[.cell true 3 2, .t 3]⟩
theorem ok245 : okFunc Go.Proofs.Tryz.prog 245 lf245 = true := by kernel_rfl
def lf246 : LFunc := ⟨59, 1,
(.seq
(.region [
o_ 2 (.newv [.int .i64 0, .int .i64 0, .int .i64 0])] false)
(.seq
(.region [
m_ 6 0,
o_ 7 (.call false (.c (.fn 256 [] [])) [.t 6]),
o_ 3 (.newv [.int .i64 0, .int .i64 0, .int .i64 0]),
⟨none, .store 3 (.t 3) (.t 7), none⟩] false)
(.seq
(.region [
o_ 4 (.mv (.c (.str ⟨#[]⟩)))] false)
(.seq
(.block 0
(.loop
(.seq
(.seq
(.region [
m_ 8 0,
o_ 9 (.call false (.c (.fn 48 [] [])) [.t 8]),
o_ 10 (.not (.t 9)),
m_ 11 10,
g_ 12 (.mv (.t 0)) 11 true,
g_ 13 (.call false (.c (.fn 49 [] [])) [.t 12]) 11 true,
g_ 14 (.field false 0 1 (.t 13)) 11 true,
g_ 15 (.bin .eql (.t 14) (.c (.int .i64 3))) 11 true,
o_ 16 (.pick (.t 11) (.t 15) (.c (.bool false)))] false)
(.cond (.t 16)
.skip
(.exit 0)))
(.block 1
(.seq
(.region [
m_ 17 0,
o_ 18 (.call false (.c (.fn 49 [] [])) [.t 17]),
o_ 19 (.field false 1 1 (.t 18)),
m_ 5 19] false)
(.seq
(.seq
(.region [
m_ 20 4,
o_ 21 (.bin .neq (.t 20) (.c (.str ⟨#[]⟩))),
m_ 22 21,
g_ 23 (.mv (.t 5)) 22 true,
g_ 24 (.mv (.t 4)) 22 true,
g_ 25 (.bin .neq (.t 23) (.t 24)) 22 true,
o_ 26 (.pick (.t 22) (.t 25) (.c (.bool false))),
m_ 27 26,
g_ 28 (.fadr 2 (.t 3)) 27 false,
g_ 29 (.load false 1 (.t 28)) 27 false,
g_ 30 (.bin .eql (.t 29) (.c (.int .i64 9))) 27 false,
o_ 31 (.pick (.t 27) (.c (.bool true)) (.t 30)),
m_ 32 31,
g_ 33 (.fadr 2 (.t 3)) 32 false,
g_ 34 (.load false 1 (.t 33)) 32 false,
g_ 35 (.bin .eql (.t 34) (.c (.int .i64 (-9)))) 32 false,
o_ 36 (.pick (.t 32) (.c (.bool true)) (.t 35))] false)
(.cond (.t 36)
(.seq
(.region [
m_ 37 0,
o_ 38 (.call false (.c (.fn 45 [] [])) [.t 37])] false)
(.seq
(.region [
o_ 39 (.load true 3 (.t 3)),
⟨none, .store 3 (.t 2) (.t 39), none⟩] false)
.ret))
.skip))
(.seq
(.region [
m_ 40 5,
m_ 4 40] false)
(.seq
(.region [
o_ 41 (.fadr 2 (.t 3)),
o_ 42 (.load false 1 (.t 41)),
o_ 43 (.bin .add (.t 42) (.c (.int .i64 1))),
o_ 44 (.fadr 2 (.t 3)),
⟨none, .store 1 (.t 44) (.t 43), none⟩] false)
(.seq
(.seq
(.region [
m_ 45 5,
o_ 46 (.bin .eql (.t 45) (.c (.str ⟨#[44]⟩)))] false)
(.cond (.t 46)
(.region [
o_ 47 (.fadr 2 (.t 3)),
o_ 48 (.load false 1 (.t 47)),
o_ 49 (.bin .sub (.t 48) (.c (.int .i64 2))),
o_ 50 (.fadr 2 (.t 3)),
⟨none, .store 1 (.t 50) (.t 49), none⟩] false)
.skip))
(.region [
m_ 51 0,
o_ 52 (.nilck (.t 51)),
o_ 53 (.fadr 1 (.t 52)),
o_ 54 (.load false 1 (.t 53)),
o_ 55 (.bin .add (.t 54) (.c (.int .i64 1))),
o_ 56 (.nilck (.t 51)),
o_ 57 (.fadr 1 (.t 56)),
⟨none, .store 1 (.t 57) (.t 55), none⟩] false))))))))))
(.seq
(.region [
o_ 58 (.load true 3 (.t 3)),
⟨none, .store 3 (.t 2) (.t 58), none⟩] false)
.ret))))),
[.cell true 3 2]⟩
theorem ok246 : okFunc Go.Proofs.Tryz.prog 246 lf246 = true := by kernel_rfl
def lf247 : LFunc := ⟨98, 2,
(.seq
(.region [
o_ 3 (.box 14 (.t 1)),
o_ 4 (.newv [.int .i64 0, .int .i64 0, .nils, .bool false, .int .i64 0, .int .i64 0, .bool false, .int .i64 0, .int .i64 0, .str ⟨#[]⟩, .int .i64 0, .int .i64 0, .str ⟨#[]⟩, .nils])] false)
(.seq
(.block 0
(.loop
(.seq
(.seq
(.region [
m_ 6 0,
o_ 7 (.call false (.c (.fn 48 [] [])) [.t 6]),
o_ 8 (.not (.t 7))] false)
(.cond (.t 8)
.skip
(.exit 0)))
(.block 1
(.seq
(.region [
o_ 9 (.fadr 6 (.t 3)),
o_ 10 (.load true 4 (.t 9)),
o_ 5 (.newv [.bool false, .int .i64 0, .int .i64 0, .str ⟨#[]⟩]),
⟨none, .store 4 (.t 5) (.t 10), none⟩] false)
(.seq
(.block 2
(.seq
(.region [
m_ 13 0,
o_ 14 (.call false (.c (.fn 44 [] [])) [.t 13, .c (.int .i64 4), .c (.str ⟨#[126]⟩)]),
m_ 15 14,
g_ 16 (.fadr 0 (.t 5)) 15 true,
g_ 17 (.load false 1 (.t 16)) 15 true,
g_ 18 (.not (.t 17)) 15 true,
o_ 19 (.pick (.t 15) (.t 18) (.c (.bool false))),
m_ 12 19] false)
(.cond (.t 12)
(.region [
o_ 20 (.fadr 0 (.t 5)),
⟨none, .store 1 (.t 20) (.c (.bool true)), none⟩] false)
(.seq
(.region [
m_ 22 0,
o_ 23 (.call false (.c (.fn 44 [] [])) [.t 22, .c (.int .i64 4), .c (.str ⟨#[40]⟩)]),
m_ 24 23,
g_ 25 (.fadr 1 (.t 5)) 24 true,
g_ 26 (.load false 1 (.t 25)) 24 true,
g_ 27 (.bin .lss (.t 26) (.c (.int .i64 4))) 24 true,
o_ 28 (.pick (.t 24) (.t 27) (.c (.bool false))),
m_ 21 28] false)
(.cond (.t 21)
(.region [
o_ 29 (.fadr 1 (.t 5)),
o_ 30 (.load false 1 (.t 29)),
o_ 31 (.bin .add (.t 30) (.c (.int .i64 1))),
o_ 32 (.fadr 1 (.t 5)),
⟨none, .store 1 (.t 32) (.t 31), none⟩] false)
(.seq
(.region [
m_ 34 0,
o_ 35 (.call false (.c (.fn 44 [] [])) [.t 34, .c (.int .i64 4), .c (.str ⟨#[41]⟩)]),
m_ 36 35,
g_ 37 (.fadr 2 (.t 5)) 36 true,
g_ 38 (.load false 1 (.t 37)) 36 true,
g_ 39 (.bin .lss (.t 38) (.c (.int .i64 4))) 36 true,
o_ 40 (.pick (.t 36) (.t 39) (.c (.bool false))),
m_ 33 40] false)
(.cond (.t 33)
(.region [
o_ 41 (.fadr 2 (.t 5)),
o_ 42 (.load false 1 (.t 41)),
o_ 43 (.bin .add (.t 42) (.c (.int .i64 1))),
o_ 44 (.fadr 2 (.t 5)),
⟨none, .store 1 (.t 44) (.t 43), none⟩] false)
(.seq
(.region [
m_ 46 0,
o_ 47 (.call false (.c (.fn 44 [] [])) [.t 46, .c (.int .i64 4), .c (.str ⟨#[33]⟩)]),
m_ 48 47,
g_ 49 (.fadr 3 (.t 5)) 48 true,
g_ 50 (.load false 1 (.t 49)) 48 true,
g_ 51 (.bin .eql (.t 50) (.c (.str ⟨#[]⟩))) 48 true,
o_ 52 (.pick (.t 48) (.t 51) (.c (.bool false))),
m_ 45 52] false)
(.cond (.t 45)
(.seq
(.region [
m_ 53 0,
o_ 54 (.nilck (.t 53)),
o_ 55 (.fadr 1 (.t 54)),
o_ 56 (.load false 1 (.t 55)),
o_ 57 (.bin .add (.t 56) (.c (.int .i64 1))),
o_ 58 (.nilck (.t 53)),
o_ 59 (.fadr 1 (.t 58)),
⟨none, .store 1 (.t 59) (.t 57), none⟩] false)
(.seq
(.region [
m_ 60 0,
o_ 61 (.call false (.c (.fn 253 [] [])) []),
o_ 62 (.call false (.c (.fn 257 [] [])) [.t 60, .t 61]),
o_ 63 (.fadr 3 (.t 5)),
⟨none, .store 1 (.t 63) (.t 62), none⟩] false)
(.region [
m_ 64 0,
o_ 65 (.nilck (.t 64)),
o_ 66 (.fadr 1 (.t 65)),
o_ 67 (.load false 1 (.t 66)),
o_ 68 (.bin .sub (.t 67) (.c (.int .i64 1))),
o_ 69 (.nilck (.t 64)),
o_ 70 (.fadr 1 (.t 69)),
⟨none, .store 1 (.t 70) (.t 68), none⟩] false)))
(.seq
(.region [
m_ 72 0,
o_ 73 (.call false (.c (.fn 44 [] [])) [.t 72, .c (.int .i64 4), .c (.str ⟨#[126]⟩)]),
m_ 74 73,
g_ 75 (.mv (.t 0)) 74 false,
g_ 76 (.call false (.c (.fn 44 [] [])) [.t 75, .c (.int .i64 4), .c (.str ⟨#[40]⟩)]) 74 false,
o_ 77 (.pick (.t 74) (.c (.bool true)) (.t 76)),
m_ 78 77,
g_ 79 (.mv (.t 0)) 78 false,
g_ 80 (.call false (.c (.fn 44 [] [])) [.t 79, .c (.int .i64 4), .c (.str ⟨#[41]⟩)]) 78 false,
o_ 81 (.pick (.t 78) (.c (.bool true)) (.t 80)),
m_ 82 81,
g_ 83 (.mv (.t 0)) 82 false,
g_ 84 (.call false (.c (.fn 44 [] [])) [.t 83, .c (.int .i64 4), .c (.str ⟨#[33]⟩)]) 82 false,
o_ 85 (.pick (.t 82) (.c (.bool true)) (.t 84)),
m_ 71 85] false)
(.cond (.t 71)
(.region [
m_ 86 0,
o_ 87 (.call false (.c (.fn 45 [] [])) [.t 86])] false)
(.seq
(.region [
o_ 11 (.load true 14 (.t 3)),
⟨none, .store 14 (.t 4) (.t 11), none⟩] false)
.ret))))))))))))
(.seq
(.region [
o_ 88 (.load true 4 (.t 5)),
o_ 89 (.fadr 6 (.t 3)),
⟨none, .store 4 (.t 89) (.t 88), none⟩] false)
(.region [
m_ 90 0,
o_ 91 (.nilck (.t 90)),
o_ 92 (.fadr 1 (.t 91)),
o_ 93 (.load false 1 (.t 92)),
o_ 94 (.bin .add (.t 93) (.c (.int .i64 1))),
o_ 95 (.nilck (.t 90)),
o_ 96 (.fadr 1 (.t 95)),
⟨none, .store 1 (.t 96) (.t 94), none⟩] false))))))))
(.seq
(.region [
o_ 97 (.load true 14 (.t 3)),
⟨none, .store 14 (.t 4) (.t 97), none⟩] false)
.ret))),
[.cell true 14 4]⟩
theorem ok247 : okFunc Go.Proofs.Tryz.prog 247 lf247 = true := by kernel_rfl
def lf248 : LFunc := ⟨63, 2,
(.seq
(.region [
o_ 3 (.box 14 (.t 1)),
o_ 4 (.newv [.int .i64 0, .int .i64 0, .nils, .bool false, .int .i64 0, .int .i64 0, .bool false, .int .i64 0, .int .i64 0, .str ⟨#[]⟩, .int .i64 0, .int .i64 0, .str ⟨#[]⟩, .nils])] false)
(.seq
(.seq
(.region [
m_ 7 0,
o_ 8 (.call false (.c (.fn 48 [] [])) [.t 7]),
m_ 9 8,
g_ 10 (.mv (.t 0)) 9 false,
g_ 11 (.call false (.c (.fn 49 [] [])) [.t 10]) 9 false,
g_ 12 (.field false 0 1 (.t 11)) 9 false,
g_ 13 (.bin .neq (.t 12) (.c (.int .i64 2))) 9 false,
g_ 14 (.mv (.t 13)) 9 false,
g_ 15 (.mv (.t 0)) 14 true,
g_ 16 (.call false (.c (.fn 44 [] [])) [.t 15, .c (.int .i64 1), .c (.str ⟨#[98, 114, 101, 118, 101]⟩)]) 14 true,
g_ 17 (.not (.t 16)) 14 true,
g_ 18 (.pick (.t 14) (.t 17) (.c (.bool false))) 9 false,
o_ 19 (.pick (.t 9) (.c (.bool true)) (.t 18))] false)
(.cond (.t 19)
(.seq
(.region [
o_ 20 (.load true 14 (.t 3)),
⟨none, .store 14 (.t 4) (.t 20), none⟩] false)
.ret)
.skip))
(.seq
(.region [
m_ 22 0,
o_ 23 (.call false (.c (.fn 49 [] [])) [.t 22]),
o_ 24 (.field false 1 1 (.t 23)),
o_ 25 (.call false (.c (.fn 258 [] [])) [.t 24]),
m_ 21 25,
o_ 26 (.extract (.t 21) 0),
o_ 27 (.extract (.t 21) 1),
o_ 5 (.newv [.int .i64 0, .int .i64 0]),
⟨none, .store 2 (.t 5) (.t 26), none⟩,
m_ 6 27] false)
(.seq
(.seq
(.region [
m_ 28 6,
o_ 29 (.not (.t 28))] false)
(.cond (.t 29)
(.seq
(.region [
m_ 30 0,
o_ 31 (.call false (.c (.fn 46 [] [])) [.t 30, .c (.int .i64 21)])] false)
(.seq
(.region [
o_ 32 (.load true 14 (.t 3)),
⟨none, .store 14 (.t 4) (.t 32), none⟩] false)
.ret))
.skip))
(.seq
(.region [
m_ 33 0,
o_ 34 (.nilck (.t 33)),
o_ 35 (.fadr 1 (.t 34)),
o_ 36 (.load false 1 (.t 35)),
o_ 37 (.bin .add (.t 36) (.c (.int .i64 1))),
o_ 38 (.nilck (.t 33)),
o_ 39 (.fadr 1 (.t 38)),
⟨none, .store 1 (.t 39) (.t 37), none⟩] false)
(.seq
(.block 0
(.loop
(.seq
(.seq
(.region [
m_ 40 0,
o_ 41 (.call false (.c (.fn 44 [] [])) [.t 40, .c (.int .i64 4), .c (.str ⟨#[46]⟩)])] false)
(.cond (.t 41)
.skip
(.exit 0)))
(.block 1
(.seq
(.seq
(.region [
o_ 42 (.fadr 1 (.t 5)),
o_ 43 (.load false 1 (.t 42)),
o_ 44 (.bin .eql (.t 43) (.c (.int .i64 3)))] false)
(.cond (.t 44)
(.seq
(.region [
m_ 45 0,
o_ 46 (.call false (.c (.fn 46 [] [])) [.t 45, .c (.int .i64 21)])] false)
(.seq
(.region [
o_ 47 (.load true 14 (.t 3)),
⟨none, .store 14 (.t 4) (.t 47), none⟩] false)
.ret))
.skip))
(.seq
(.region [
o_ 48 (.fadr 1 (.t 5)),
o_ 49 (.load false 1 (.t 48)),
o_ 50 (.bin .add (.t 49) (.c (.int .i64 1))),
o_ 51 (.fadr 1 (.t 5)),
⟨none, .store 1 (.t 51) (.t 50), none⟩] false)
(.region [
m_ 52 0,
o_ 53 (.nilck (.t 52)),
o_ 54 (.fadr 1 (.t 53)),
o_ 55 (.load false 1 (.t 54)),
o_ 56 (.bin .add (.t 55) (.c (.int .i64 1))),
o_ 57 (.nilck (.t 52)),
o_ 58 (.fadr 1 (.t 57)),
⟨none, .store 1 (.t 58) (.t 56), none⟩] false)))))))
(.seq
(.region [
o_ 59 (.loadF true 2 (.t 5)),
o_ 60 (.fadr 3 (.t 3)),
⟨none, .storeF 1 (.t 60) (.c (.bool true)), none⟩,
o_ 61 (.fadr 4 (.t 3)),
⟨none, .store 2 (.t 61) (.t 59), none⟩] true)
(.seq
(.region [
o_ 62 (.load true 14 (.t 3)),
⟨none, .store 14 (.t 4) (.t 62), none⟩] false)
.ret)))))))),
[.cell true 14 4]⟩
theorem ok248 : okFunc Go.Proofs.Tryz.prog 248 lf248 = true := by kernel_rfl
def lf249 : LFunc := ⟨63, 2,
(.seq
(.region [
o_ 3 (.box 14 (.t 1)),
o_ 4 (.newv [.int .i64 0, .int .i64 0, .nils, .bool false, .int .i64 0, .int .i64 0, .bool false, .int .i64 0, .int .i64 0, .str ⟨#[]⟩, .int .i64 0, .int .i64 0, .str ⟨#[]⟩, .nils])] false)
(.seq
(.region [
m_ 7 0,
o_ 8 (.nilck (.t 7)),
o_ 9 (.fadr 1 (.t 8)),
o_ 10 (.load false 1 (.t 9)),
o_ 11 (.bin .add (.t 10) (.c (.int .i64 1))),
o_ 12 (.nilck (.t 7)),
o_ 13 (.fadr 1 (.t 12)),
⟨none, .store 1 (.t 13) (.t 11), none⟩] false)
(.seq
(.region [
o_ 14 (.fadr 2 (.t 3)),
o_ 15 (.load false 1 (.t 14)),
m_ 16 0,
o_ 17 (.call false (.c (.fn 246 [] [])) [.t 16]),
o_ 18 (.btsl 3 1 [.int .i64 0, .int .i64 0, .int .i64 0] [(0, .t 17)]),
o_ 19 (.append 3 24 (.t 15) (.t 18)),
o_ 20 (.fadr 2 (.t 3)),
⟨none, .store 1 (.t 20) (.t 19), none⟩] true)
(.seq
(.block 0
(.loop
(.seq
(.seq
(.region [
m_ 21 0,
o_ 22 (.call false (.c (.fn 48 [] [])) [.t 21]),
o_ 23 (.not (.t 22)),
m_ 24 23,
g_ 25 (.mv (.t 0)) 24 true,
g_ 26 (.call false (.c (.fn 44 [] [])) [.t 25, .c (.int .i64 4), .c (.str ⟨#[62]⟩)]) 24 true,
g_ 27 (.not (.t 26)) 24 true,
o_ 28 (.pick (.t 24) (.t 27) (.c (.bool false)))] false)
(.cond (.t 28)
.skip
(.exit 0)))
(.block 1
(.seq
(.seq
(.region [
o_ 29 (.fadr 2 (.t 3)),
o_ 30 (.load false 1 (.t 29)),
o_ 31 (.len .sli (.t 30)),
o_ 32 (.bin .eql (.t 31) (.c (.int .i64 16)))] false)
(.cond (.t 32)
(.seq
(.region [
m_ 34 0,
o_ 35 (.call false (.c (.fn 49 [] [])) [.t 34]),
o_ 36 (.field false 1 1 (.t 35)),
o_ 37 (.call false (.c (.fn 245 [] [])) [.t 36]),
m_ 33 37,
o_ 38 (.extract (.t 33) 0),
o_ 39 (.extract (.t 33) 1),
o_ 5 (.newv [.int .i64 0, .int .i64 0, .int .i64 0]),
⟨none, .store 3 (.t 5) (.t 38), none⟩,
m_ 6 39] false)
(.seq
(.region [
m_ 40 6,
m_ 41 40,
g_ 42 (.mv (.t 0)) 41 true,
g_ 43 (.call false (.c (.fn 49 [] [])) [.t 42]) 41 true,
g_ 44 (.field false 0 1 (.t 43)) 41 true,
g_ 45 (.bin .eql (.t 44) (.c (.int .i64 1))) 41 true,
o_ 46 (.pick (.t 41) (.t 45) (.c (.bool false)))] false)
(.cond (.t 46)
(.region [
m_ 47 0,
o_ 48 (.call false (.c (.fn 46 [] [])) [.t 47, .c (.int .i64 4)])] false)
.skip)))
.skip))
(.region [
o_ 49 (.fadr 2 (.t 3)),
o_ 50 (.load false 1 (.t 49)),
m_ 51 0,
o_ 52 (.call false (.c (.fn 246 [] [])) [.t 51]),
o_ 53 (.btsl 3 1 [.int .i64 0, .int .i64 0, .int .i64 0] [(0, .t 52)]),
o_ 54 (.append 3 24 (.t 50) (.t 53)),
o_ 55 (.fadr 2 (.t 3)),
⟨none, .store 1 (.t 55) (.t 54), none⟩] true))))))
(.seq
(.region [
m_ 56 0,
o_ 57 (.call false (.c (.fn 136 [] [])) [.t 56, .c (.str ⟨#[62]⟩)])] false)
(.seq
(.region [
m_ 58 0,
m_ 59 0,
o_ 60 (.load true 14 (.t 3)),
o_ 61 (.call false (.c (.fn 248 [] [])) [.t 59, .t 60]),
o_ 62 (.call false (.c (.fn 247 [] [])) [.t 58, .t 61]),
⟨none, .store 14 (.t 4) (.t 62), none⟩] false)
.ret)))))),
[.cell true 14 4]⟩
theorem ok249 : okFunc Go.Proofs.Tryz.prog 249 lf249 = true := by kernel_rfl
def lf250 : LFunc := ⟨71, 2,
(.seq
(.region [
o_ 3 (.box 14 (.t 1)),
o_ 4 (.newv [.int .i64 0, .int .i64 0, .nils, .bool false, .int .i64 0, .int .i64 0, .bool false, .int .i64 0, .int .i64 0, .str ⟨#[]⟩, .int .i64 0, .int .i64 0, .str ⟨#[]⟩, .nils])] false)
(.seq
(.region [
m_ 5 0,
o_ 6 (.nilck (.t 5)),
o_ 7 (.fadr 1 (.t 6)),
o_ 8 (.load false 1 (.t 7)),
o_ 9 (.bin .add (.t 8) (.c (.int .i64 1))),
o_ 10 (.nilck (.t 5)),
o_ 11 (.fadr 1 (.t 10)),
⟨none, .store 1 (.t 11) (.t 9), none⟩] false)
(.seq
(.seq
(.region [
o_ 12 (.fadr 0 (.t 3)),
o_ 13 (.load false 1 (.t 12))] false)
(.block 0
(.seq
(.region [
o_ 15 (.bin .eql (.t 13) (.c (.int .i64 5))),
m_ 14 15] false)
(.cond (.t 14)
(.seq
(.region [
m_ 16 0,
o_ 17 (.call false (.c (.fn 259 [] [])) [.t 16, .c (.int .i64 16)]),
o_ 18 (.fadr 10 (.t 3)),
⟨none, .store 1 (.t 18) (.t 17), none⟩] false)
(.seq
(.region [
m_ 19 0,
o_ 20 (.call false (.c (.fn 136 [] [])) [.t 19, .c (.str ⟨#[47]⟩)])] false)
(.seq
(.region [
m_ 21 0,
o_ 22 (.call false (.c (.fn 259 [] [])) [.t 21, .c (.int .i64 16)]),
o_ 23 (.fadr 11 (.t 3)),
⟨none, .store 1 (.t 23) (.t 22), none⟩] false)
(.region [
m_ 24 0,
o_ 25 (.call false (.c (.fn 137 [] [])) [.t 24, .c (.int .i64 1)]),
o_ 26 (.fadr 13 (.t 3)),
⟨none, .store 1 (.t 26) (.t 25), none⟩] false))))
(.seq
(.region [
o_ 28 (.bin .eql (.t 13) (.c (.int .i64 6))),
m_ 27 28] false)
(.cond (.t 27)
(.region [
m_ 29 0,
o_ 30 (.call false (.c (.fn 137 [] [])) [.t 29, .c (.int .i64 2)]),
o_ 31 (.fadr 13 (.t 3)),
⟨none, .store 1 (.t 31) (.t 30), none⟩] false)
(.seq
(.region [
o_ 33 (.bin .eql (.t 13) (.c (.int .i64 7))),
m_ 32 33] false)
(.cond (.t 32)
(.seq
(.region [
m_ 34 0,
o_ 35 (.call false (.c (.fn 259 [] [])) [.t 34, .c (.int .i64 8)]),
o_ 36 (.fadr 10 (.t 3)),
⟨none, .store 1 (.t 36) (.t 35), none⟩] false)
(.region [
m_ 37 0,
o_ 38 (.call false (.c (.fn 137 [] [])) [.t 37, .c (.int .i64 0)]),
o_ 39 (.fadr 13 (.t 3)),
⟨none, .store 1 (.t 39) (.t 38), none⟩] false))
(.seq
(.region [
o_ 41 (.bin .eql (.t 13) (.c (.int .i64 8))),
m_ 40 41] false)
(.cond (.t 40)
(.seq
(.region [
m_ 42 0,
o_ 43 (.call false (.c (.fn 246 [] [])) [.t 42]),
o_ 44 (.bsl 3 1 [.int .i64 0, .int .i64 0, .int .i64 0] [(0, .t 43)]),
o_ 45 (.fadr 2 (.t 3)),
⟨none, .store 1 (.t 45) (.t 44), none⟩] false)
(.region [
m_ 46 0,
o_ 47 (.call false (.c (.fn 137 [] [])) [.t 46, .c (.int .i64 0)]),
o_ 48 (.fadr 13 (.t 3)),
⟨none, .store 1 (.t 48) (.t 47), none⟩] false))
(.seq
(.region [
o_ 50 (.bin .eql (.t 13) (.c (.int .i64 9))),
m_ 49 50] false)
(.cond (.t 49)
(.region [
m_ 51 0,
o_ 52 (.call false (.c (.fn 227 [] [])) []),
o_ 53 (.call false (.c (.fn 257 [] [])) [.t 51, .t 52]),
o_ 54 (.fadr 12 (.t 3)),
⟨none, .store 1 (.t 54) (.t 53), none⟩] false)
(.seq
(.region [
o_ 56 (.bin .eql (.t 13) (.c (.int .i64 10))),
m_ 55 56] false)
(.cond (.t 55)
(.seq
(.region [
m_ 57 0,
o_ 58 (.call false (.c (.fn 256 [] [])) [.t 57]),
o_ 59 (.bsl 3 1 [.int .i64 0, .int .i64 0, .int .i64 0] [(0, .t 58)]),
o_ 60 (.fadr 2 (.t 3)),
⟨none, .store 1 (.t 60) (.t 59), none⟩] false)
(.region [
m_ 61 0,
o_ 62 (.call false (.c (.fn 228 [] [])) []),
o_ 63 (.call false (.c (.fn 257 [] [])) [.t 61, .t 62]),
o_ 64 (.fadr 12 (.t 3)),
⟨none, .store 1 (.t 64) (.t 63), none⟩] false))
(.seq
(.region [
o_ 66 (.bin .eql (.t 13) (.c (.int .i64 11))),
m_ 65 66] false)
(.cond (.t 65)
(.seq
(.region [
m_ 67 0,
o_ 68 (.load true 14 (.t 3)),
o_ 69 (.call false (.c (.fn 260 [] [])) [.t 67, .t 68]),
⟨none, .store 14 (.t 4) (.t 69), none⟩] false)
.ret)
.skip))))))))))))))))
(.seq
(.region [
o_ 70 (.load true 14 (.t 3)),
⟨none, .store 14 (.t 4) (.t 70), none⟩] false)
.ret)))),
[.cell true 14 4]⟩
theorem ok250 : okFunc Go.Proofs.Tryz.prog 250 lf250 = true := by kernel_rfl
def lf251 : LFunc := ⟨12, 1,
(.seq
(.region [
o_ 1 (.box 3 (.t 0)),
o_ 2 (.mv (.c (.int .i64 0)))] false)
(.seq
(.seq
(.region [
o_ 3 (.load true 3 (.t 1)),
o_ 4 (.call false (.c (.fn 181 [] [])) [.t 3]),
o_ 5 (.not (.t 4))] false)
(.cond (.t 5)
(.seq
(.region [
o_ 2 (.mv (.c (.int .i64 (-1))))] false)
.ret)
.skip))
(.seq
(.region [
o_ 6 (.fadr 2 (.t 1)),
o_ 7 (.load false 1 (.t 6)),
o_ 8 (.bin .mul (.c (.int .i64 7)) (.t 7)),
o_ 9 (.fadr 0 (.t 1)),
o_ 10 (.load false 1 (.t 9)),
o_ 11 (.bin .add (.t 8) (.t 10)),
m_ 2 11] false)
.ret))),
[.t 2]⟩
theorem ok251 : okFunc Go.Proofs.Tryz.prog 251 lf251 = true := by kernel_rfl
def lf252 : LFunc := ⟨16, 1,
(.seq
(.region [
o_ 2 (.newv [.int .i64 0, .int .i64 0, .int .i64 0]),
o_ 3 (.mv (.c (.bool false)))] false)
(.seq
(.seq
(.region [
m_ 4 0,
o_ 5 (.bin .lss (.t 4) (.c (.int .i64 0))),
m_ 6 5,
g_ 7 (.mv (.t 0)) 6 false,
g_ 8 (.bin .gtr (.t 7) (.c (.int .i64 69))) 6 false,
o_ 9 (.pick (.t 6) (.c (.bool true)) (.t 8))] false)
(.cond (.t 9)
(.seq
(.region [
o_ 10 (.build [.int .i64 0, .int .i64 0, .int .i64 0] []),
⟨none, .store 3 (.t 2) (.t 10), none⟩,
o_ 3 (.mv (.c (.bool false)))] false)
.ret)
.skip))
(.seq
(.region [
m_ 11 0,
o_ 12 (.bin .rem (.t 11) (.c (.int .i64 7))),
m_ 13 0,
o_ 14 (.bin .quo (.t 13) (.c (.int .i64 7))),
o_ 15 (.build [.int .i64 0, .int .i64 0, .int .i64 0] [(0, 1, .t 12), (2, 1, .t 14)]),
⟨none, .store 3 (.t 2) (.t 15), none⟩,
o_ 3 (.mv (.c (.bool true)))] false)
.ret))),
[.cell true 3 2, .t 3]⟩
theorem ok252 : okFunc Go.Proofs.Tryz.prog 252 lf252 = true := by kernel_rfl
def lf253 : LFunc := ⟨2, 0,
(.seq
(.region [
o_ 0 (.mv (.c (.nils)))] false)
(.seq
(.region [
o_ 1 (.bsl 1 6 [.str ⟨#[]⟩] [(0, .c (.str ⟨#[112, 112]⟩)), (1, .c (.str ⟨#[112]⟩)), (2, .c (.str ⟨#[109, 112]⟩)), (3, .c (.str ⟨#[109, 102]⟩)), (4, .c (.str ⟨#[102]⟩)), (5, .c (.str ⟨#[102, 102]⟩))]),
m_ 0 1] false)
.ret)),
[.t 0]⟩
theorem ok253 : okFunc Go.Proofs.Tryz.prog 253 lf253 = true := by kernel_rfl
def lf254 : LFunc := ⟨26, 2,
(.seq
(.region [
o_ 2 (.box 3 (.t 0)),
o_ 3 (.box 3 (.t 1)),
o_ 4 (.mv (.c (.bool false)))] false)
(.seq
(.region [
o_ 7 (.load true 3 (.t 2)),
o_ 8 (.call false (.c (.fn 251 [] [])) [.t 7]),
o_ 9 (.load true 3 (.t 3)),
o_ 10 (.call false (.c (.fn 251 [] [])) [.t 9]),
m_ 5 8,
m_ 6 10] true)
(.seq
(.region [
m_ 11 5,
m_ 12 6,
o_ 13 (.bin .lss (.t 11) (.t 12)),
m_ 14 13,
g_ 15 (.mv (.t 5)) 14 false,
g_ 16 (.mv (.t 6)) 14 false,
g_ 17 (.bin .eql (.t 15) (.t 16)) 14 false,
g_ 18 (.mv (.t 17)) 14 false,
g_ 19 (.fadr 1 (.t 2)) 18 true,
g_ 20 (.load false 1 (.t 19)) 18 true,
g_ 21 (.fadr 1 (.t 3)) 18 true,
g_ 22 (.load false 1 (.t 21)) 18 true,
g_ 23 (.bin .lss (.t 20) (.t 22)) 18 true,
g_ 24 (.pick (.t 18) (.t 23) (.c (.bool false))) 14 false,
o_ 25 (.pick (.t 14) (.c (.bool true)) (.t 24)),
m_ 4 25] false)
.ret))),
[.t 4]⟩
theorem ok254 : okFunc Go.Proofs.Tryz.prog 254 lf254 = true := by kernel_rfl
def lf256 : LFunc := ⟨35, 1,
(.seq
(.region [
o_ 2 (.newv [.int .i64 0, .int .i64 0, .int .i64 0])] false)
(.seq
(.region [
m_ 6 0,
o_ 7 (.call false (.c (.fn 49 [] [])) [.t 6]),
o_ 8 (.field false 1 1 (.t 7)),
o_ 9 (.call false (.c (.fn 245 [] [])) [.t 8]),
m_ 5 9,
o_ 10 (.extract (.t 5) 0),
o_ 11 (.extract (.t 5) 1),
o_ 3 (.newv [.int .i64 0, .int .i64 0, .int .i64 0]),
⟨none, .store 3 (.t 3) (.t 10), none⟩,
m_ 4 11] false)
(.seq
(.seq
(.region [
m_ 12 0,
o_ 13 (.call false (.c (.fn 48 [] [])) [.t 12]),
m_ 14 13,
g_ 15 (.mv (.t 0)) 14 false,
g_ 16 (.call false (.c (.fn 49 [] [])) [.t 15]) 14 false,
g_ 17 (.field false 0 1 (.t 16)) 14 false,
g_ 18 (.bin .neq (.t 17) (.c (.int .i64 1))) 14 false,
o_ 19 (.pick (.t 14) (.c (.bool true)) (.t 18)),
m_ 20 19,
g_ 21 (.mv (.t 4)) 20 false,
g_ 22 (.not (.t 21)) 20 false,
o_ 23 (.pick (.t 20) (.c (.bool true)) (.t 22))] false)
(.cond (.t 23)
(.seq
(.region [
m_ 24 0,
o_ 25 (.call false (.c (.fn 45 [] [])) [.t 24])] false)
(.seq
(.region [
o_ 26 (.build [.int .i64 0, .int .i64 0, .int .i64 0] []),
⟨none, .store 3 (.t 2) (.t 26), none⟩] false)
.ret))
.skip))
(.seq
(.region [
m_ 27 0,
o_ 28 (.nilck (.t 27)),
o_ 29 (.fadr 1 (.t 28)),
o_ 30 (.load false 1 (.t 29)),
o_ 31 (.bin .add (.t 30) (.c (.int .i64 1))),
o_ 32 (.nilck (.t 27)),
o_ 33 (.fadr 1 (.t 32)),
⟨none, .store 1 (.t 33) (.t 31), none⟩] false)
(.seq
(.region [
o_ 34 (.load true 3 (.t 3)),
⟨none, .store 3 (.t 2) (.t 34), none⟩] false)
.ret))))),
[.cell true 3 2]⟩
theorem ok256 : okFunc Go.Proofs.Tryz.prog 256 lf256 = true := by kernel_rfl
def lf257 : LFunc := ⟨42, 2,
(.seq
(.region [
o_ 4 (.mv (.c (.str ⟨#[]⟩)))] false)
(.seq
(.seq
(.region [
m_ 5 0,
o_ 6 (.call false (.c (.fn 48 [] [])) [.t 5]),
m_ 7 6,
g_ 8 (.mv (.t 0)) 7 false,
g_ 9 (.call false (.c (.fn 49 [] [])) [.t 8]) 7 false,
g_ 10 (.field false 0 1 (.t 9)) 7 false,
g_ 11 (.bin .neq (.t 10) (.c (.int .i64 1))) 7 false,
o_ 12 (.pick (.t 7) (.c (.bool true)) (.t 11)),
m_ 13 12,
g_ 14 (.mv (.t 1)) 13 false,
g_ 15 (.mv (.t 0)) 13 false,
g_ 16 (.call false (.c (.fn 49 [] [])) [.t 15]) 13 false,
g_ 17 (.field false 1 1 (.t 16)) 13 false,
g_ 18 (.call false (.c (.fn 226 [] [])) [.t 14, .t 17]) 13 false,
g_ 19 (.not (.t 18)) 13 false,
o_ 20 (.pick (.t 13) (.c (.bool true)) (.t 19))] false)
(.cond (.t 20)
(.seq
(.region [
m_ 21 0,
o_ 22 (.call false (.c (.fn 45 [] [])) [.t 21])] false)
(.seq
(.region [
o_ 4 (.mv (.c (.str ⟨#[]⟩)))] false)
.ret))
.skip))
(.seq
(.region [
m_ 23 0,
o_ 24 (.nilck (.t 23)),
o_ 25 (.fadr 1 (.t 24)),
o_ 26 (.load false 1 (.t 25)),
o_ 27 (.bin .add (.t 26) (.c (.int .i64 1))),
o_ 28 (.nilck (.t 23)),
o_ 29 (.fadr 1 (.t 28)),
⟨none, .store 1 (.t 29) (.t 27), none⟩] false)
(.seq
(.region [
m_ 30 0,
o_ 31 (.nilck (.t 30)),
o_ 32 (.fadr 0 (.t 31)),
o_ 33 (.load false 1 (.t 32)),
m_ 34 0,
o_ 35 (.nilck (.t 34)),
o_ 36 (.fadr 1 (.t 35)),
o_ 37 (.load false 1 (.t 36)),
o_ 38 (.bin .sub (.t 37) (.c (.int .i64 1))),
o_ 39 (.idxa 3 (.t 33) (.t 38)),
o_ 40 (.fadr 1 (.t 39)),
o_ 41 (.load false 1 (.t 40)),
m_ 4 41] true)
.ret)))),
[.t 4]⟩
theorem ok257 : okFunc Go.Proofs.Tryz.prog 257 lf257 = true := by kernel_rfl
def lf258 : LFunc := ⟨25, 1,
(.seq
(.region [
o_ 2 (.newv [.int .i64 0, .int .i64 0]),
o_ 3 (.mv (.c (.bool false)))] false)
(.seq
(.region [
o_ 6 (.call false (.c (.fn 261 [] [])) []),
m_ 4 6] false)
(.seq
(.seq
(.region [
o_ 5 (.mv (.c (.int .i64 0)))] false)
(.block 0
(.loop
(.seq
(.seq
(.region [
m_ 7 5,
m_ 8 4,
o_ 9 (.len .sli (.t 8)),
o_ 10 (.bin .lss (.t 7) (.t 9))] false)
(.cond (.t 10)
.skip
(.exit 0)))
(.seq
(.block 1
(.seq
(.region [
m_ 13 4,
m_ 14 5,
o_ 15 (.idxa 2 (.t 13) (.t 14)),
o_ 16 (.load true 2 (.t 15)),
o_ 17 (.call false (.c (.fn 262 [] [])) [.t 16]),
m_ 18 0,
o_ 19 (.bin .eql (.t 17) (.t 18))] false)
(.cond (.t 19)
(.seq
(.region [
m_ 20 4,
m_ 21 5,
o_ 22 (.idxa 2 (.t 20) (.t 21)),
o_ 23 (.load true 2 (.t 22)),
⟨none, .store 2 (.t 2) (.t 23), none⟩,
o_ 3 (.mv (.c (.bool true)))] false)
.ret)
.skip)))
(.region [
m_ 11 5,
o_ 12 (.bin .add (.t 11) (.c (.int .i64 1))),
m_ 5 12] false))))))
(.seq
(.region [
o_ 24 (.build [.int .i64 0, .int .i64 0] []),
⟨none, .store 2 (.t 2) (.t 24), none⟩,
o_ 3 (.mv (.c (.bool false)))] false)
.ret)))),
[.cell true 2 2, .t 3]⟩
theorem ok258 : okFunc Go.Proofs.Tryz.prog 258 lf258 = true := by kernel_rfl
def lf259 : LFunc := ⟨50, 2,
(.seq
(.region [
o_ 4 (.mv (.c (.int .i64 0)))] false)
(.seq
(.seq
(.region [
m_ 5 0,
o_ 6 (.call false (.c (.fn 48 [] [])) [.t 5]),
m_ 7 6,
g_ 8 (.mv (.t 0)) 7 false,
g_ 9 (.call false (.c (.fn 49 [] [])) [.t 8]) 7 false,
g_ 10 (.field false 0 1 (.t 9)) 7 false,
g_ 11 (.bin .neq (.t 10) (.c (.int .i64 2))) 7 false,
o_ 12 (.pick (.t 7) (.c (.bool true)) (.t 11)),
m_ 13 12,
g_ 14 (.mv (.t 0)) 13 false,
g_ 15 (.call false (.c (.fn 49 [] [])) [.t 14]) 13 false,
g_ 16 (.field false 1 1 (.t 15)) 13 false,
g_ 17 (.call false (.c (.fn 263 [] [])) [.t 16]) 13 false,
g_ 18 (.bin .lss (.t 17) (.c (.int .i64 1))) 13 false,
o_ 19 (.pick (.t 13) (.c (.bool true)) (.t 18)),
m_ 20 19,
g_ 21 (.mv (.t 0)) 20 false,
g_ 22 (.call false (.c (.fn 49 [] [])) [.t 21]) 20 false,
g_ 23 (.field false 1 1 (.t 22)) 20 false,
g_ 24 (.call false (.c (.fn 263 [] [])) [.t 23]) 20 false,
g_ 25 (.mv (.t 1)) 20 false,
g_ 26 (.bin .gtr (.t 24) (.t 25)) 20 false,
o_ 27 (.pick (.t 20) (.c (.bool true)) (.t 26))] false)
(.cond (.t 27)
(.seq
(.region [
m_ 28 0,
o_ 29 (.call false (.c (.fn 45 [] [])) [.t 28])] false)
(.seq
(.region [
o_ 4 (.mv (.c (.int .i64 0)))] false)
.ret))
.skip))
(.seq
(.region [
m_ 30 0,
o_ 31 (.nilck (.t 30)),
o_ 32 (.fadr 1 (.t 31)),
o_ 33 (.load false 1 (.t 32)),
o_ 34 (.bin .add (.t 33) (.c (.int .i64 1))),
o_ 35 (.nilck (.t 30)),
o_ 36 (.fadr 1 (.t 35)),
⟨none, .store 1 (.t 36) (.t 34), none⟩] false)
(.seq
(.region [
m_ 37 0,
o_ 38 (.nilck (.t 37)),
o_ 39 (.fadr 0 (.t 38)),
o_ 40 (.load false 1 (.t 39)),
m_ 41 0,
o_ 42 (.nilck (.t 41)),
o_ 43 (.fadr 1 (.t 42)),
o_ 44 (.load false 1 (.t 43)),
o_ 45 (.bin .sub (.t 44) (.c (.int .i64 1))),
o_ 46 (.idxa 3 (.t 40) (.t 45)),
o_ 47 (.fadr 1 (.t 46)),
o_ 48 (.load false 1 (.t 47)),
o_ 49 (.call false (.c (.fn 263 [] [])) [.t 48]),
m_ 4 49] true)
.ret)))),
[.t 4]⟩
theorem ok259 : okFunc Go.Proofs.Tryz.prog 259 lf259 = true := by kernel_rfl
def lf260 : LFunc := ⟨34, 2,
(.seq
(.region [
o_ 3 (.box 14 (.t 1)),
o_ 4 (.newv [.int .i64 0, .int .i64 0, .nils, .bool false, .int .i64 0, .int .i64 0, .bool false, .int .i64 0, .int .i64 0, .str ⟨#[]⟩, .int .i64 0, .int .i64 0, .str ⟨#[]⟩, .nils])] false)
(.seq
(.region [
m_ 5 0,
o_ 6 (.call false (.c (.fn 259 [] [])) [.t 5, .c (.int .i64 32)]),
o_ 7 (.fadr 10 (.t 3)),
⟨none, .store 1 (.t 7) (.t 6), none⟩] false)
(.seq
(.region [
m_ 8 0,
o_ 9 (.call false (.c (.fn 136 [] [])) [.t 8, .c (.str ⟨#[47]⟩)])] false)
(.seq
(.seq
(.region [
m_ 10 0,
o_ 11 (.call false (.c (.fn 48 [] [])) [.t 10]),
o_ 12 (.not (.t 11)),
m_ 13 12,
g_ 14 (.mv (.t 0)) 13 true,
g_ 15 (.call false (.c (.fn 49 [] [])) [.t 14]) 13 true,
g_ 16 (.field false 0 1 (.t 15)) 13 true,
g_ 17 (.bin .eql (.t 16) (.c (.int .i64 2))) 13 true,
o_ 18 (.pick (.t 13) (.t 17) (.c (.bool false))),
m_ 19 18,
g_ 20 (.mv (.t 0)) 19 true,
g_ 21 (.call false (.c (.fn 49 [] [])) [.t 20]) 19 true,
g_ 22 (.field false 1 1 (.t 21)) 19 true,
g_ 23 (.call false (.c (.fn 263 [] [])) [.t 22]) 19 true,
g_ 24 (.build [.int .i64 0, .int .i64 0] [(0, 1, .c (.int .i64 1)), (1, 1, .t 23)]) 19 true,
g_ 25 (.call false (.c (.fn 25 [] [])) [.t 24]) 19 true,
g_ 26 (.not (.t 25)) 19 true,
o_ 27 (.pick (.t 19) (.t 26) (.c (.bool false)))] false)
(.cond (.t 27)
(.region [
m_ 28 0,
o_ 29 (.call false (.c (.fn 45 [] [])) [.t 28])] false)
.skip))
(.seq
(.region [
m_ 30 0,
o_ 31 (.call false (.c (.fn 259 [] [])) [.t 30, .c (.int .i64 32)]),
o_ 32 (.fadr 11 (.t 3)),
⟨none, .store 1 (.t 32) (.t 31), none⟩] false)
(.seq
(.region [
o_ 33 (.load true 14 (.t 3)),
⟨none, .store 14 (.t 4) (.t 33), none⟩] false)
.ret)))))),
[.cell true 14 4]⟩
theorem ok260 : okFunc Go.Proofs.Tryz.prog 260 lf260 = true := by kernel_rfl
def lf261 : LFunc := ⟨19, 0,
(.seq
(.region [
o_ 0 (.mv (.c (.nils)))] false)
(.seq
(.region [
o_ 1 (.own 2)] false)
(.seq
(.seq
(.region [
o_ 2 (.mv (.c (.int .i64 (-1))))] false)
(.block 0
(.loop
(.seq
(.seq
(.region [
m_ 4 2,
o_ 5 (.bin .leq (.t 4) (.c (.int .i64 6)))] false)
(.cond (.t 5)
.skip
(.exit 0)))
(.seq
(.block 1
(.seq
(.region [
o_ 3 (.mv (.c (.int .i64 0)))] false)
(.block 2
(.loop
(.seq
(.seq
(.region [
m_ 8 3,
o_ 9 (.bin .leq (.t 8) (.c (.int .i64 3)))] false)
(.cond (.t 9)
.skip
(.exit 2)))
(.seq
(.block 3
(.region [
m_ 12 1,
m_ 13 2,
m_ 14 3,
o_ 15 (.build [.int .i64 0, .int .i64 0] [(0, 1, .t 13), (1, 1, .t 14)]),
o_ 16 (.btsl 2 1 [.int .i64 0, .int .i64 0] [(0, .t 15)]),
o_ 17 (.append 2 16 (.t 12) (.t 16)),
m_ 1 17] false))
(.region [
m_ 10 3,
o_ 11 (.bin .add (.t 10) (.c (.int .i64 1))),
m_ 3 11] false)))))))
(.region [
m_ 6 2,
o_ 7 (.bin .add (.t 6) (.c (.int .i64 1))),
m_ 2 7] false))))))
(.seq
(.region [
m_ 18 1,
m_ 0 18] false)
.ret)))),
[.t 0]⟩
theorem ok261 : okFunc Go.Proofs.Tryz.prog 261 lf261 = true := by kernel_rfl
def lf262 : LFunc := ⟨23, 1,
(.seq
(.region [
o_ 1 (.box 2 (.t 0)),
o_ 2 (.mv (.c (.str ⟨#[]⟩)))] false)
(.seq
(.seq
(.region [
o_ 5 (.load true 2 (.t 1)),
o_ 6 (.call false (.c (.fn 230 [] [])) [.t 5]),
o_ 7 (.not (.t 6))] false)
(.cond (.t 7)
(.seq
(.region [
o_ 2 (.mv (.c (.str ⟨#[]⟩)))] false)
.ret)
.skip))
(.seq
(.region [
o_ 8 (.bsl 1 8 [.str ⟨#[]⟩] [(0, .c (.str ⟨#[98, 114, 101, 118, 101]⟩)), (1, .c (.str ⟨#[49]⟩)), (2, .c (.str ⟨#[50]⟩)), (3, .c (.str ⟨#[52]⟩)), (4, .c (.str ⟨#[56]⟩)), (5, .c (.str ⟨#[49, 54]⟩)), (6, .c (.str ⟨#[51, 50]⟩)), (7, .c (.str ⟨#[54, 52]⟩))]),
o_ 9 (.fadr 0 (.t 1)),
o_ 10 (.load false 1 (.t 9)),
o_ 11 (.bin .add (.t 10) (.c (.int .i64 1))),
o_ 12 (.idxa 1 (.t 8) (.t 11)),
o_ 13 (.load false 1 (.t 12)),
m_ 3 13] false)
(.seq
(.seq
(.region [
o_ 4 (.mv (.c (.int .i64 0)))] false)
(.block 0
(.loop
(.seq
(.seq
(.region [
m_ 14 4,
o_ 15 (.fadr 1 (.t 1)),
o_ 16 (.load false 1 (.t 15)),
o_ 17 (.bin .lss (.t 14) (.t 16))] false)
(.cond (.t 17)
.skip
(.exit 0)))
(.seq
(.block 1
(.region [
m_ 20 3,
o_ 21 (.bin .add (.t 20) (.c (.str ⟨#[46]⟩))),
m_ 3 21] false))
(.region [
m_ 18 4,
o_ 19 (.bin .add (.t 18) (.c (.int .i64 1))),
m_ 4 19] false))))))
(.seq
(.region [
m_ 22 3,
m_ 2 22] false)
.ret))))),
[.t 2]⟩
theorem ok262 : okFunc Go.Proofs.Tryz.prog 262 lf262 = true := by kernel_rfl
def lf263 : LFunc := ⟨21, 1,
(.seq
(.region [
o_ 2 (.mv (.c (.int .i64 0)))] false)
(.seq
(.region [
o_ 3 (.mv (.c (.int .i64 0)))] false)
(.seq
(.seq
(.region [
o_ 4 (.mv (.c (.int .i64 0)))] false)
(.block 0
(.loop
(.seq
(.seq
(.region [
m_ 5 4,
m_ 6 0,
o_ 7 (.len .str (.t 6)),
o_ 8 (.bin .lss (.t 5) (.t 7))] false)
(.cond (.t 8)
.skip
(.exit 0)))
(.seq
(.block 1
(.region [
m_ 11 3,
o_ 12 (.bin .mul (.c (.int .i64 10)) (.t 11)),
m_ 13 0,
m_ 14 4,
o_ 15 (.idxs (.t 13) (.t 14)),
o_ 16 (.bin .sub (.t 15) (.c (.int .u8 48))),
o_ 17 (.conv .i64 (.t 16)),
o_ 18 (.bin .add (.t 12) (.t 17)),
o_ 19 (.mins [.c (.int .i64 9999), .t 18]),
m_ 3 19] false))
(.region [
m_ 9 4,
o_ 10 (.bin .add (.t 9) (.c (.int .i64 1))),
m_ 4 10] false))))))
(.seq
(.region [
m_ 20 3,
m_ 2 20] false)
.ret)))),
[.t 2]⟩
theorem ok263 : okFunc Go.Proofs.Tryz.prog 263 lf263 = true := by kernel_rfl
end Go.AM.Ez
