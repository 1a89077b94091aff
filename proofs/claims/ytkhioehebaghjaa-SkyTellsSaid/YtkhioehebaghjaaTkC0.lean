/- A part of a proof about the given program: what its name says. No premise beyond the statements'. -/
import Derived.Test.YtkhioehebaghjaaGD
import Derived.Test.YtkhioehebaghjaaTC
import Derived.Test.YtkhioehebaghjaaProg
import Derived.KernelRfl
set_option linter.unusedSimpArgs false
set_option linter.unusedVariables false
/- A part of the program's functions in the short form, each checked against the program. -/
namespace Go.AM.Sk
open Go.AM
def KI0 : Ord.SK:={ ag:=false,sz:=1,less:=64,srt:=39,pdq:=52,len:=53,len32:=67,len64:=68,ins:=58,heap:=59,brk:=60,piv:=61,rev:=62,par:=63,peq:=65,prt:=66,sift:=77,npo:=78,nxt:=79,madj:=80,med:=81,ord:=85 }
def KS0 : SK:={ ag:=true,sz:=3,srt:=42,pdq:=54,len:=53,len32:=67,len64:=68,ins:=69,heap:=70,brk:=71,piv:=72,rev:=73,par:=74,peq:=75,prt:=76,sift:=82,npo:=78,nxt:=79,madj:=83,med:=84,ord:=86 }
abbrev m_ (d x : Nat) : LOper:=⟨some d,.mv (.t x),none⟩
abbrev o_ (d : Nat) (op : LOp) : LOper:=⟨some d,op,none⟩
abbrev g_ (d : Nat) (op : LOp) (x : Nat) (b : Bool) : LOper:=⟨some d,op,some (x,b)⟩
def lf4 : LFunc:=⟨124,4,
(.seq
(.region [
o_ 8 (.mv (.c (.bool false)))] false)
(.seq
(.seq
(.region [
m_ 22 0,
o_ 23 (.len .sli (.t 22)),
o_ 24 (.bin .gtr (.t 23) (.c (.int .i64 60))),
m_ 25 24,
g_ 26 (.mv (.t 1)) 25 false,
g_ 27 (.len .sli (.t 26)) 25 false,
g_ 28 (.bin .gtr (.t 27) (.c (.int .i64 60))) 25 false,
o_ 29 (.pick (.t 25) (.c (.bool true)) (.t 28))] false)
(.cond (.t 29)
(.seq
(.region [
o_ 30 (.call false (.c (.fn 8 [] [])) []),
m_ 8 30] false)
.ret)
.skip))
(.seq
(.region [
o_ 31 (.bsl 3 0 [.int .i64 0,.int .i64 0,.int .i64 0] []),
m_ 32 0,
o_ 33 (.append 3 24 (.t 31) (.t 32)),
m_ 9 33] false)
(.seq
(.region [
m_ 35 9,
m_ 36 1,
o_ 37 (.call false (.c (.fn 14 [] [])) [.t 35,.t 36]),
m_ 34 37,
o_ 38 (.extract (.t 34) 0),
o_ 39 (.extract (.t 34) 1),
m_ 10 38,
m_ 11 39] false)
(.seq
(.region [
m_ 41 0,
m_ 42 1,
o_ 43 (.call false (.c (.fn 15 [] [])) [.t 41,.t 42]),
m_ 40 43,
o_ 44 (.extract (.t 40) 0),
o_ 45 (.extract (.t 40) 1),
m_ 12 44,
m_ 13 45] false)
(.seq
(.region [
m_ 47 9,
m_ 48 2,
m_ 49 3,
o_ 50 (.call false (.c (.fn 16 [] [])) [.t 47,.t 48,.t 49]),
m_ 46 50,
o_ 51 (.extract (.t 46) 0),
o_ 52 (.extract (.t 46) 1),
m_ 14 51,
m_ 15 52] false)
(.seq
(.region [
m_ 54 0,
m_ 55 2,
m_ 56 3,
o_ 57 (.call false (.c (.fn 17 [] [])) [.t 54,.t 55,.t 56]),
m_ 53 57,
o_ 58 (.extract (.t 53) 0),
o_ 59 (.extract (.t 53) 1),
m_ 16 58,
m_ 17 59] false)
(.seq
(.region [
m_ 61 9,
m_ 62 2,
o_ 63 (.call false (.c (.fn 18 [] [])) [.t 61,.t 62]),
m_ 60 63,
o_ 64 (.extract (.t 60) 0),
o_ 65 (.extract (.t 60) 1),
m_ 18 64,
m_ 19 65] false)
(.seq
(.region [
m_ 67 0,
m_ 68 2,
o_ 69 (.call false (.c (.fn 19 [] [])) [.t 67,.t 68]),
m_ 66 69,
o_ 70 (.extract (.t 66) 0),
o_ 71 (.extract (.t 66) 1),
m_ 20 70,
m_ 21 71] false)
(.seq
(.seq
(.region [
m_ 72 10,
m_ 73 12,
o_ 74 (.call false (.c (.fn 13 [] [])) [.t 72,.t 73]),
o_ 75 (.not (.t 74)),
m_ 76 75,
g_ 77 (.mv (.t 11)) 76 false,
g_ 78 (.mv (.t 13)) 76 false,
g_ 79 (.bin .neq (.t 77) (.t 78)) 76 false,
o_ 80 (.pick (.t 76) (.c (.bool true)) (.t 79)),
m_ 81 80,
g_ 82 (.mv (.t 14)) 81 false,
g_ 83 (.mv (.t 16)) 81 false,
g_ 84 (.call false (.c (.fn 13 [] [])) [.t 82,.t 83]) 81 false,
g_ 85 (.not (.t 84)) 81 false,
o_ 86 (.pick (.t 81) (.c (.bool true)) (.t 85)),
m_ 87 86,
g_ 88 (.mv (.t 15)) 87 false,
g_ 89 (.mv (.t 17)) 87 false,
g_ 90 (.bin .neq (.t 88) (.t 89)) 87 false,
o_ 91 (.pick (.t 87) (.c (.bool true)) (.t 90)),
m_ 92 91,
g_ 93 (.mv (.t 18)) 92 false,
g_ 94 (.mv (.t 20)) 92 false,
g_ 95 (.bin .neq (.t 93) (.t 94)) 92 false,
o_ 96 (.pick (.t 92) (.c (.bool true)) (.t 95)),
m_ 97 96,
g_ 98 (.mv (.t 19)) 97 false,
g_ 99 (.mv (.t 21)) 97 false,
g_ 100 (.eq true (.sc .b) (.t 98) (.t 99)) 97 false,
o_ 101 (.pick (.t 97) (.c (.bool true)) (.t 100))] false)
(.cond (.t 101)
(.seq
(.region [
o_ 8 (.mv (.c (.bool false)))] false)
.ret)
.skip))
(.seq
(.region [
m_ 102 9,
o_ 103 (.call false (.c (.fn 20 [] [])) [.t 102]),
m_ 104 0,
o_ 105 (.call false (.c (.fn 21 [] [])) [.t 104]),
o_ 106 (.eq false (.sc .b) (.t 103) (.t 105)),
m_ 107 106,
g_ 108 (.mv (.t 9)) 107 true,
g_ 109 (.mv (.t 1)) 107 true,
g_ 110 (.call false (.c (.fn 22 [] [])) [.t 108,.t 109]) 107 true,
g_ 111 (.mv (.t 0)) 107 true,
g_ 112 (.mv (.t 1)) 107 true,
g_ 113 (.call false (.c (.fn 23 [] [])) [.t 111,.t 112]) 107 true,
g_ 114 (.bin .eql (.t 110) (.t 113)) 107 true,
o_ 115 (.pick (.t 107) (.t 114) (.c (.bool false))),
m_ 116 115,
g_ 117 (.mv (.t 9)) 116 true,
g_ 118 (.mv (.t 0)) 116 true,
g_ 119 (.call false (.c (.fn 13 [] [])) [.t 117,.t 118]) 116 true,
o_ 120 (.pick (.t 116) (.t 119) (.c (.bool false))),
m_ 121 120,
g_ 122 (.call false (.c (.fn 8 [] [])) []) 121 true,
o_ 123 (.pick (.t 121) (.t 122) (.c (.bool false))),
m_ 8 123] false)
.ret))))))))))),
[.t 8]⟩
theorem ok4 : okFunc Go.Proofs.Try.prog 4 lf4 = true:=by kernel_rfl
def lf8 : LFunc:=⟨131,0,
(.seq
(.region [
o_ 0 (.mv (.c (.bool false)))] false)
(.seq
(.region [
o_ 16 (.build [.int .i64 0,.int .i64 0,.int .i64 0,.int .i64 0] [(2,1,.c (.int .i64 4)),(3,1,.c (.int .i64 2))]),
o_ 17 (.build [.int .i64 0,.int .i64 0,.int .i64 0,.int .i64 0] [(0,1,.c (.int .i64 1)),(2,1,.c (.int .i64 2)),(3,1,.c (.int .i64 5))]),
o_ 18 (.btsl 4 2 [.int .i64 0,.int .i64 0,.int .i64 0,.int .i64 0] [(0,.t 16),(1,.t 17)]),
o_ 19 (.call false (.c (.fn 9 [] [])) [.t 18]),
m_ 15 19,
o_ 20 (.extract (.t 15) 0),
o_ 21 (.extract (.t 15) 1),
m_ 1 20,
m_ 2 21] false)
(.seq
(.region [
o_ 23 (.build [.int .i64 0,.int .i64 0,.int .i64 0,.int .i64 0] [(1,1,.c (.int .i64 (-3))),(2,1,.c (.int .i64 3))]),
o_ 24 (.btsl 4 1 [.int .i64 0,.int .i64 0,.int .i64 0,.int .i64 0] [(0,.t 23)]),
o_ 25 (.call false (.c (.fn 11 [] [])) [.t 24]),
m_ 22 25,
o_ 26 (.extract (.t 22) 0),
o_ 27 (.extract (.t 22) 1),
m_ 3 26,
m_ 4 27] false)
(.seq
(.region [
m_ 29 1,
m_ 30 1,
o_ 31 (.call false (.c (.fn 14 [] [])) [.t 29,.t 30]),
m_ 28 31,
o_ 32 (.extract (.t 28) 0),
o_ 33 (.extract (.t 28) 1),
m_ 5 32,
m_ 6 33] false)
(.seq
(.region [
m_ 35 1,
o_ 36 (.call false (.c (.fn 16 [] [])) [.t 35,.c (.int .i64 1),.c (.int .i64 1)]),
m_ 34 36,
o_ 37 (.extract (.t 34) 0),
o_ 38 (.extract (.t 34) 1),
m_ 7 37,
m_ 8 38] false)
(.seq
(.region [
m_ 40 1,
o_ 41 (.call false (.c (.fn 18 [] [])) [.t 40,.c (.int .i64 1)]),
m_ 39 41,
o_ 42 (.extract (.t 39) 0),
o_ 43 (.extract (.t 39) 1),
m_ 9 42,
m_ 10 43] false)
(.seq
(.region [
m_ 45 1,
o_ 46 (.call false (.c (.fn 18 [] [])) [.t 45,.c (.int .i64 4)]),
m_ 44 46,
o_ 47 (.extract (.t 44) 0),
o_ 48 (.extract (.t 44) 1),
m_ 11 47,
m_ 12 48] false)
(.seq
(.region [
o_ 50 (.build [.int .i64 0,.int .i64 0,.int .i64 0,.int .i64 0] [(0,1,.c (.int .i64 1))]),
o_ 51 (.btsl 4 1 [.int .i64 0,.int .i64 0,.int .i64 0,.int .i64 0] [(0,.t 50)]),
o_ 52 (.call false (.c (.fn 9 [] [])) [.t 51]),
m_ 49 52,
o_ 53 (.extract (.t 49) 0),
o_ 54 (.extract (.t 49) 1),
m_ 13 53,
m_ 14 54] false)
(.seq
(.region [
m_ 55 2,
o_ 56 (.bin .eql (.t 55) (.c (.int .i64 0))),
m_ 57 56,
g_ 58 (.mv (.t 1)) 57 true,
g_ 59 (.build [.int .i64 0,.int .i64 0,.int .i64 0] [(0,1,.c (.int .i64 0)),(1,1,.c (.int .i64 1)),(2,1,.c (.int .i64 2))]) 57 true,
g_ 60 (.build [.int .i64 0,.int .i64 0,.int .i64 0] [(0,1,.c (.int .i64 1)),(1,1,.c (.int .i64 2)),(2,1,.c (.int .i64 5))]) 57 true,
g_ 61 (.build [.int .i64 0,.int .i64 0,.int .i64 0] [(0,1,.c (.int .i64 2)),(1,1,.c (.int .i64 4)),(2,1,.c (.int .i64 2))]) 57 true,
g_ 62 (.btsl 3 3 [.int .i64 0,.int .i64 0,.int .i64 0] [(0,.t 59),(1,.t 60),(2,.t 61)]) 57 true,
g_ 63 (.call false (.c (.fn 13 [] [])) [.t 58,.t 62]) 57 true,
o_ 64 (.pick (.t 57) (.t 63) (.c (.bool false))),
m_ 65 64,
g_ 66 (.mv (.t 4)) 65 true,
g_ 67 (.bin .eql (.t 66) (.c (.int .i64 0))) 65 true,
o_ 68 (.pick (.t 65) (.t 67) (.c (.bool false))),
m_ 69 68,
g_ 70 (.mv (.t 3)) 69 true,
g_ 71 (.len .sli (.t 70)) 69 true,
g_ 72 (.bin .eql (.t 71) (.c (.int .i64 1))) 69 true,
o_ 73 (.pick (.t 69) (.t 72) (.c (.bool false))),
m_ 74 73,
g_ 75 (.mv (.t 3)) 74 true,
g_ 76 (.idxa 3 (.t 75) (.c (.int .i64 0))) 74 true,
g_ 77 (.fadr 2 (.t 76)) 74 true,
g_ 78 (.load false 1 (.t 77)) 74 true,
g_ 79 (.bin .eql (.t 78) (.c (.int .i64 3))) 74 true,
o_ 80 (.pick (.t 74) (.t 79) (.c (.bool false))),
m_ 81 80,
g_ 82 (.mv (.t 6)) 81 true,
g_ 83 (.bin .eql (.t 82) (.c (.int .i64 0))) 81 true,
o_ 84 (.pick (.t 81) (.t 83) (.c (.bool false))),
m_ 85 84,
g_ 86 (.mv (.t 5)) 85 true,
g_ 87 (.mv (.t 1)) 85 true,
g_ 88 (.call false (.c (.fn 13 [] [])) [.t 86,.t 87]) 85 true,
o_ 89 (.pick (.t 85) (.t 88) (.c (.bool false))),
m_ 90 89,
g_ 91 (.mv (.t 8)) 90 true,
g_ 92 (.bin .eql (.t 91) (.c (.int .i64 0))) 90 true,
o_ 93 (.pick (.t 90) (.t 92) (.c (.bool false))),
m_ 94 93,
g_ 95 (.mv (.t 7)) 94 true,
g_ 96 (.len .sli (.t 95)) 94 true,
g_ 97 (.bin .eql (.t 96) (.c (.int .i64 3))) 94 true,
o_ 98 (.pick (.t 94) (.t 97) (.c (.bool false))),
m_ 99 98,
g_ 100 (.mv (.t 7)) 99 true,
g_ 101 (.idxa 3 (.t 100) (.c (.int .i64 0))) 99 true,
g_ 102 (.load true 3 (.t 101)) 99 true,
g_ 103 (.build [.int .i64 0,.int .i64 0,.int .i64 0] [(0,1,.c (.int .i64 1)),(1,1,.c (.int .i64 2)),(2,1,.c (.int .i64 3))]) 99 true,
g_ 104 (.eq false (.ag [.i,.i,.i]) (.t 102) (.t 103)) 99 true,
o_ 105 (.pick (.t 99) (.t 104) (.c (.bool false))),
m_ 106 105,
g_ 107 (.mv (.t 9)) 106 true,
g_ 108 (.bin .eql (.t 107) (.c (.int .i64 5))) 106 true,
o_ 109 (.pick (.t 106) (.t 108) (.c (.bool false))),
m_ 110 109,
g_ 111 (.mv (.t 10)) 110 true,
o_ 112 (.pick (.t 110) (.t 111) (.c (.bool false))),
m_ 113 112,
g_ 114 (.mv (.t 12)) 113 true,
g_ 115 (.not (.t 114)) 113 true,
o_ 116 (.pick (.t 113) (.t 115) (.c (.bool false))),
m_ 117 116,
g_ 118 (.mv (.t 14)) 117 true,
g_ 119 (.bin .eql (.t 118) (.c (.int .i64 2))) 117 true,
o_ 120 (.pick (.t 117) (.t 119) (.c (.bool false))),
m_ 121 120,
g_ 122 (.mv (.t 1)) 121 true,
g_ 123 (.mv (.t 3)) 121 true,
g_ 124 (.call false (.c (.fn 22 [] [])) [.t 122,.t 123]) 121 true,
g_ 125 (.bin .eql (.t 124) (.c (.int .i64 8))) 121 true,
o_ 126 (.pick (.t 121) (.t 125) (.c (.bool false))),
m_ 127 126,
g_ 128 (.mv (.t 1)) 127 true,
g_ 129 (.call false (.c (.fn 20 [] [])) [.t 128]) 127 true,
o_ 130 (.pick (.t 127) (.t 129) (.c (.bool false))),
m_ 0 130] false)
.ret))))))))),
[.t 0]⟩
theorem ok8 : okFunc Go.Proofs.Try.prog 8 lf8 = true:=by kernel_rfl
def lf9 : LFunc:=⟨8,1,
(.seq
(.region [
o_ 2 (.mv (.c (.nils))),
o_ 3 (.mv (.c (.int .i64 0)))] false)
(.seq
(.region [
m_ 4 0,
o_ 5 (.call false (.c (.fn 24 [] [])) [.t 4,.c (.fn 25 [] [])]),
o_ 6 (.extract (.t 5) 0),
o_ 7 (.extract (.t 5) 1),
m_ 2 6,
m_ 3 7] false)
.ret)),
[.t 2,.t 3]⟩
theorem ok9 : okFunc Go.Proofs.Try.prog 9 lf9 = true:=by kernel_rfl
def lf11 : LFunc:=⟨8,1,
(.seq
(.region [
o_ 2 (.mv (.c (.nils))),
o_ 3 (.mv (.c (.int .i64 0)))] false)
(.seq
(.region [
m_ 4 0,
o_ 5 (.call false (.c (.fn 24 [] [])) [.t 4,.c (.fn 27 [] [])]),
o_ 6 (.extract (.t 5) 0),
o_ 7 (.extract (.t 5) 1),
m_ 2 6,
m_ 3 7] false)
.ret)),
[.t 2,.t 3]⟩
theorem ok11 : okFunc Go.Proofs.Try.prog 11 lf11 = true:=by kernel_rfl
def lf13 : LFunc:=⟨26,2,
(.seq
(.region [
o_ 4 (.mv (.c (.bool false)))] false)
(.seq
(.seq
(.region [
m_ 6 0,
o_ 7 (.len .sli (.t 6)),
m_ 8 1,
o_ 9 (.len .sli (.t 8)),
o_ 10 (.bin .neq (.t 7) (.t 9))] false)
(.cond (.t 10)
(.seq
(.region [
o_ 4 (.mv (.c (.bool false)))] false)
.ret)
.skip))
(.seq
(.seq
(.region [
o_ 5 (.mv (.c (.int .i64 0)))] false)
(.block 0
(.loop
(.seq
(.seq
(.region [
m_ 11 5,
m_ 12 0,
o_ 13 (.len .sli (.t 12)),
o_ 14 (.bin .lss (.t 11) (.t 13))] false)
(.cond (.t 14)
.skip
(.exit 0)))
(.seq
(.block 1
(.seq
(.region [
m_ 17 0,
m_ 18 5,
o_ 19 (.idxa 3 (.t 17) (.t 18)),
o_ 20 (.load true 3 (.t 19)),
m_ 21 1,
m_ 22 5,
o_ 23 (.idxa 3 (.t 21) (.t 22)),
o_ 24 (.load true 3 (.t 23)),
o_ 25 (.eq true (.ag [.i,.i,.i]) (.t 20) (.t 24))] true)
(.cond (.t 25)
(.seq
(.region [
o_ 4 (.mv (.c (.bool false)))] false)
.ret)
.skip)))
(.region [
m_ 15 5,
o_ 16 (.bin .add (.t 15) (.c (.int .i64 1))),
m_ 5 16] false))))))
(.seq
(.region [
o_ 4 (.mv (.c (.bool true)))] false)
.ret)))),
[.t 4]⟩
theorem ok13 : okFunc Go.Proofs.Try.prog 13 lf13 = true:=by kernel_rfl
def lf14 : LFunc:=⟨24,2,
(.seq
(.region [
o_ 4 (.mv (.c (.nils))),
o_ 5 (.mv (.c (.int .i64 0)))] false)
(.seq
(.seq
(.region [
m_ 7 0,
o_ 8 (.call false (.c (.fn 20 [] [])) [.t 7]),
o_ 9 (.not (.t 8)),
m_ 10 9,
g_ 11 (.mv (.t 1)) 10 false,
g_ 12 (.call false (.c (.fn 20 [] [])) [.t 11]) 10 false,
g_ 13 (.not (.t 12)) 10 false,
o_ 14 (.pick (.t 10) (.c (.bool true)) (.t 13))] false)
(.cond (.t 14)
(.seq
(.region [
o_ 4 (.mv (.c (.nils))),
o_ 5 (.mv (.c (.int .i64 2)))] false)
.ret)
.skip))
(.seq
(.region [
m_ 15 0,
m_ 16 1,
o_ 17 (.btsl 1 2 [.nils] [(0,.t 15),(1,.t 16)]),
o_ 18 (.call false (.c (.fn 29 [] [])) [.t 17]),
o_ 19 (.call false (.c (.fn 28 [] [])) [.t 18]),
m_ 6 19] false)
(.seq
(.seq
(.region [
m_ 20 6,
o_ 21 (.len .sli (.t 20)),
o_ 22 (.bin .gtr (.t 21) (.c (.int .i64 8192)))] false)
(.cond (.t 22)
(.seq
(.region [
o_ 4 (.mv (.c (.nils))),
o_ 5 (.mv (.c (.int .i64 2)))] false)
.ret)
.skip))
(.seq
(.region [
m_ 23 6,
m_ 4 23,
o_ 5 (.mv (.c (.int .i64 0)))] false)
.ret))))),
[.t 4,.t 5]⟩
theorem ok14 : okFunc Go.Proofs.Try.prog 14 lf14 = true:=by kernel_rfl
def lf15 : LFunc:=⟨25,2,
(.seq
(.region [
o_ 4 (.mv (.c (.nils))),
o_ 5 (.mv (.c (.int .i64 0)))] false)
(.seq
(.seq
(.region [
m_ 7 0,
o_ 8 (.call false (.c (.fn 21 [] [])) [.t 7]),
o_ 9 (.not (.t 8)),
m_ 10 9,
g_ 11 (.mv (.t 1)) 10 false,
g_ 12 (.call false (.c (.fn 21 [] [])) [.t 11]) 10 false,
g_ 13 (.not (.t 12)) 10 false,
o_ 14 (.pick (.t 10) (.c (.bool true)) (.t 13))] false)
(.cond (.t 14)
(.seq
(.region [
o_ 4 (.mv (.c (.nils))),
o_ 5 (.mv (.c (.int .i64 2)))] false)
.ret)
.skip))
(.seq
(.region [
o_ 15 (.bsl 3 0 [.int .i64 0,.int .i64 0,.int .i64 0] []),
m_ 16 0,
o_ 17 (.append 3 24 (.t 15) (.t 16)),
m_ 18 1,
o_ 19 (.append 3 24 (.t 17) (.t 18)),
o_ 20 (.call false (.c (.fn 30 [] [])) [.t 19]),
m_ 6 20] false)
(.seq
(.seq
(.region [
m_ 21 6,
o_ 22 (.len .sli (.t 21)),
o_ 23 (.bin .gtr (.t 22) (.c (.int .i64 8192)))] false)
(.cond (.t 23)
(.seq
(.region [
o_ 4 (.mv (.c (.nils))),
o_ 5 (.mv (.c (.int .i64 2)))] false)
.ret)
.skip))
(.seq
(.region [
m_ 24 6,
m_ 4 24,
o_ 5 (.mv (.c (.int .i64 0)))] false)
.ret))))),
[.t 4,.t 5]⟩
theorem ok15 : okFunc Go.Proofs.Try.prog 15 lf15 = true:=by kernel_rfl
def lf16 : LFunc:=⟨55,3,
(.seq
(.region [
o_ 6 (.mv (.c (.nils))),
o_ 7 (.mv (.c (.int .i64 0)))] false)
(.seq
(.block 0
(.seq
(.region [
m_ 12 0,
o_ 13 (.call false (.c (.fn 20 [] [])) [.t 12]),
o_ 14 (.not (.t 13)),
m_ 11 14] false)
(.cond (.t 11)
(.seq
(.region [
o_ 6 (.mv (.c (.nils))),
o_ 7 (.mv (.c (.int .i64 2)))] false)
.ret)
(.seq
(.region [
m_ 16 1,
o_ 17 (.call false (.c (.fn 31 [] [])) [.t 16]),
o_ 18 (.not (.t 17)),
m_ 19 18,
g_ 20 (.mv (.t 2)) 19 false,
g_ 21 (.call false (.c (.fn 31 [] [])) [.t 20]) 19 false,
g_ 22 (.not (.t 21)) 19 false,
o_ 23 (.pick (.t 19) (.c (.bool true)) (.t 22)),
m_ 15 23] false)
(.cond (.t 15)
(.seq
(.region [
o_ 6 (.mv (.c (.nils))),
o_ 7 (.mv (.c (.int .i64 3)))] false)
.ret)
.skip)))))
(.seq
(.region [
m_ 24 0,
o_ 25 (.len .sli (.t 24)),
o_ 26 (.mksl 3 [.int .i64 0,.int .i64 0,.int .i64 0] 24 (.c (.int .i64 0)) (.t 25)),
m_ 8 26] false)
(.seq
(.seq
(.region [
m_ 27 0,
o_ 28 (.len .sli (.t 27)),
o_ 29 (.mv (.c (.int .i64 0)))] false)
(.block 1
(.loop
(.seq
(.region [
o_ 30 (.bin .lss (.t 29) (.t 28))] false)
(.seq
(.cond (.t 30)
.skip
(.exit 1))
(.seq
(.block 2
(.seq
(.region [
o_ 31 (.idxa 3 (.t 27) (.t 29)),
o_ 32 (.load true 3 (.t 31)),
o_ 10 (.newv [.int .i64 0,.int .i64 0,.int .i64 0]),
⟨none,.store 3 (.t 10) (.t 32),none⟩] false)
(.seq
(.region [
o_ 33 (.fadr 0 (.t 10)),
o_ 34 (.load false 1 (.t 33)),
m_ 35 1,
o_ 36 (.bin .add (.t 34) (.t 35)),
o_ 37 (.fadr 1 (.t 10)),
o_ 38 (.load false 1 (.t 37)),
m_ 39 1,
o_ 40 (.bin .add (.t 38) (.t 39)),
o_ 41 (.fadr 2 (.t 10)),
o_ 42 (.load false 1 (.t 41)),
m_ 43 2,
o_ 44 (.bin .add (.t 42) (.t 43)),
o_ 45 (.build [.int .i64 0,.int .i64 0,.int .i64 0] [(0,1,.t 36),(1,1,.t 40),(2,1,.t 44)]),
⟨none,.store 3 (.t 10) (.t 45),none⟩] false)
(.seq
(.seq
(.region [
o_ 46 (.load true 3 (.t 10)),
o_ 47 (.call false (.c (.fn 32 [] [])) [.t 46]),
o_ 48 (.not (.t 47))] false)
(.cond (.t 48)
(.seq
(.region [
o_ 6 (.mv (.c (.nils))),
o_ 7 (.mv (.c (.int .i64 3)))] false)
.ret)
.skip))
(.region [
m_ 49 8,
o_ 50 (.load true 3 (.t 10)),
o_ 51 (.btsl 3 1 [.int .i64 0,.int .i64 0,.int .i64 0] [(0,.t 50)]),
o_ 52 (.append 3 24 (.t 49) (.t 51)),
m_ 8 52] false)))))
(.region [
o_ 53 (.bin .add (.t 29) (.c (.int .i64 1))),
m_ 29 53] false)))))))
(.seq
(.region [
m_ 54 8,
m_ 6 54,
o_ 7 (.mv (.c (.int .i64 0)))] false)
.ret))))),
[.t 6,.t 7]⟩
theorem ok16 : okFunc Go.Proofs.Try.prog 16 lf16 = true:=by kernel_rfl
def lf17 : LFunc:=⟨71,3,
(.seq
(.region [
o_ 6 (.mv (.c (.nils))),
o_ 7 (.mv (.c (.int .i64 0)))] false)
(.seq
(.seq
(.region [
m_ 11 0,
o_ 12 (.call false (.c (.fn 21 [] [])) [.t 11]),
o_ 13 (.not (.t 12))] false)
(.cond (.t 13)
(.seq
(.region [
o_ 6 (.mv (.c (.nils))),
o_ 7 (.mv (.c (.int .i64 2)))] false)
.ret)
.skip))
(.seq
(.seq
(.region [
m_ 14 1,
o_ 15 (.call false (.c (.fn 33 [] [])) [.t 14]),
o_ 16 (.not (.t 15)),
m_ 17 16,
g_ 18 (.mv (.t 2)) 17 false,
g_ 19 (.call false (.c (.fn 33 [] [])) [.t 18]) 17 false,
g_ 20 (.not (.t 19)) 17 false,
o_ 21 (.pick (.t 17) (.c (.bool true)) (.t 20))] false)
(.cond (.t 21)
(.seq
(.region [
o_ 6 (.mv (.c (.nils))),
o_ 7 (.mv (.c (.int .i64 3)))] false)
.ret)
.skip))
(.seq
(.region [
o_ 8 (.own 3)] false)
(.seq
(.seq
(.region [
o_ 9 (.mv (.c (.int .i64 0)))] false)
(.block 0
(.loop
(.seq
(.seq
(.region [
m_ 22 9,
m_ 23 0,
o_ 24 (.len .sli (.t 23)),
o_ 25 (.bin .lss (.t 22) (.t 24))] false)
(.cond (.t 25)
.skip
(.exit 0)))
(.seq
(.block 1
(.seq
(.region [
m_ 28 0,
m_ 29 9,
o_ 30 (.idxa 3 (.t 28) (.t 29)),
o_ 31 (.fadr 0 (.t 30)),
o_ 32 (.load false 1 (.t 31)),
m_ 33 1,
o_ 34 (.bin .add (.t 32) (.t 33)),
m_ 35 0,
m_ 36 9,
o_ 37 (.idxa 3 (.t 35) (.t 36)),
o_ 38 (.fadr 1 (.t 37)),
o_ 39 (.load false 1 (.t 38)),
m_ 40 1,
o_ 41 (.bin .add (.t 39) (.t 40)),
m_ 42 0,
m_ 43 9,
o_ 44 (.idxa 3 (.t 42) (.t 43)),
o_ 45 (.fadr 2 (.t 44)),
o_ 46 (.load false 1 (.t 45)),
m_ 47 2,
o_ 48 (.bin .add (.t 46) (.t 47)),
o_ 49 (.build [.int .i64 0,.int .i64 0,.int .i64 0] [(0,1,.t 34),(1,1,.t 41),(2,1,.t 48)]),
o_ 10 (.newv [.int .i64 0,.int .i64 0,.int .i64 0]),
⟨none,.store 3 (.t 10) (.t 49),none⟩] true)
(.seq
(.seq
(.region [
o_ 50 (.fadr 0 (.t 10)),
o_ 51 (.load false 1 (.t 50)),
o_ 52 (.call false (.c (.fn 33 [] [])) [.t 51]),
o_ 53 (.not (.t 52)),
m_ 54 53,
g_ 55 (.fadr 1 (.t 10)) 54 false,
g_ 56 (.load false 1 (.t 55)) 54 false,
g_ 57 (.call false (.c (.fn 33 [] [])) [.t 56]) 54 false,
g_ 58 (.not (.t 57)) 54 false,
o_ 59 (.pick (.t 54) (.c (.bool true)) (.t 58)),
m_ 60 59,
g_ 61 (.fadr 2 (.t 10)) 60 false,
g_ 62 (.load false 1 (.t 61)) 60 false,
g_ 63 (.call false (.c (.fn 33 [] [])) [.t 62]) 60 false,
g_ 64 (.not (.t 63)) 60 false,
o_ 65 (.pick (.t 60) (.c (.bool true)) (.t 64))] false)
(.cond (.t 65)
(.seq
(.region [
o_ 6 (.mv (.c (.nils))),
o_ 7 (.mv (.c (.int .i64 3)))] false)
.ret)
.skip))
(.region [
m_ 66 8,
o_ 67 (.load true 3 (.t 10)),
o_ 68 (.btsl 3 1 [.int .i64 0,.int .i64 0,.int .i64 0] [(0,.t 67)]),
o_ 69 (.append 3 24 (.t 66) (.t 68)),
m_ 8 69] false))))
(.region [
m_ 26 9,
o_ 27 (.bin .add (.t 26) (.c (.int .i64 1))),
m_ 9 27] false))))))
(.seq
(.region [
m_ 70 8,
m_ 6 70,
o_ 7 (.mv (.c (.int .i64 0)))] false)
.ret)))))),
[.t 6,.t 7]⟩
theorem ok17 : okFunc Go.Proofs.Try.prog 17 lf17 = true:=by kernel_rfl
def lf18 : LFunc:=⟨24,2,
(.seq
(.region [
o_ 4 (.mv (.c (.int .i64 0))),
o_ 5 (.mv (.c (.bool false)))] false)
(.seq
(.seq
(.region [
m_ 8 0,
o_ 9 (.call false (.c (.fn 20 [] [])) [.t 8]),
o_ 10 (.not (.t 9))] false)
(.cond (.t 10)
(.seq
(.region [
o_ 4 (.mv (.c (.int .i64 0))),
o_ 5 (.mv (.c (.bool false)))] false)
.ret)
.skip))
(.seq
(.region [
m_ 12 0,
m_ 13 1,
o_ 14 (.call false (.c (.fn 34 [] [])) [.t 12,.t 13,.c (.fn 35 [] [])]),
m_ 11 14,
o_ 15 (.extract (.t 11) 0),
o_ 16 (.extract (.t 11) 1),
m_ 6 15,
m_ 7 16] false)
(.seq
(.seq
(.region [
m_ 17 7,
o_ 18 (.not (.t 17))] false)
(.cond (.t 18)
(.seq
(.region [
o_ 4 (.mv (.c (.int .i64 0))),
o_ 5 (.mv (.c (.bool false)))] false)
.ret)
.skip))
(.seq
(.region [
m_ 19 0,
m_ 20 6,
o_ 21 (.idxa 3 (.t 19) (.t 20)),
o_ 22 (.fadr 2 (.t 21)),
o_ 23 (.load false 1 (.t 22)),
m_ 4 23,
o_ 5 (.mv (.c (.bool true)))] false)
.ret))))),
[.t 4,.t 5]⟩
theorem ok18 : okFunc Go.Proofs.Try.prog 18 lf18 = true:=by kernel_rfl
def lf19 : LFunc:=⟨37,2,
(.seq
(.region [
o_ 4 (.mv (.c (.int .i64 0))),
o_ 5 (.mv (.c (.bool false)))] false)
(.seq
(.seq
(.region [
m_ 7 0,
o_ 8 (.call false (.c (.fn 21 [] [])) [.t 7]),
o_ 9 (.not (.t 8))] false)
(.cond (.t 9)
(.seq
(.region [
o_ 4 (.mv (.c (.int .i64 0))),
o_ 5 (.mv (.c (.bool false)))] false)
.ret)
.skip))
(.seq
(.seq
(.region [
o_ 6 (.mv (.c (.int .i64 0)))] false)
(.block 0
(.loop
(.seq
(.seq
(.region [
m_ 10 6,
m_ 11 0,
o_ 12 (.len .sli (.t 11)),
o_ 13 (.bin .lss (.t 10) (.t 12))] false)
(.cond (.t 13)
.skip
(.exit 0)))
(.seq
(.block 1
(.seq
(.region [
m_ 16 0,
m_ 17 6,
o_ 18 (.idxa 3 (.t 16) (.t 17)),
o_ 19 (.fadr 0 (.t 18)),
o_ 20 (.load false 1 (.t 19)),
m_ 21 1,
o_ 22 (.bin .leq (.t 20) (.t 21)),
m_ 23 22,
g_ 24 (.mv (.t 1)) 23 true,
g_ 25 (.mv (.t 0)) 23 true,
g_ 26 (.mv (.t 6)) 23 true,
g_ 27 (.idxa 3 (.t 25) (.t 26)) 23 true,
g_ 28 (.fadr 1 (.t 27)) 23 true,
g_ 29 (.load false 1 (.t 28)) 23 true,
g_ 30 (.bin .lss (.t 24) (.t 29)) 23 true,
o_ 31 (.pick (.t 23) (.t 30) (.c (.bool false)))] false)
(.cond (.t 31)
(.seq
(.region [
m_ 32 0,
m_ 33 6,
o_ 34 (.idxa 3 (.t 32) (.t 33)),
o_ 35 (.fadr 2 (.t 34)),
o_ 36 (.load false 1 (.t 35)),
m_ 4 36,
o_ 5 (.mv (.c (.bool true)))] false)
.ret)
.skip)))
(.region [
m_ 14 6,
o_ 15 (.bin .add (.t 14) (.c (.int .i64 1))),
m_ 6 15] false))))))
(.seq
(.region [
o_ 4 (.mv (.c (.int .i64 0))),
o_ 5 (.mv (.c (.bool false)))] false)
.ret)))),
[.t 4,.t 5]⟩
theorem ok19 : okFunc Go.Proofs.Try.prog 19 lf19 = true:=by kernel_rfl
def lf20 : LFunc:=⟨33,1,
(.seq
(.region [
o_ 2 (.mv (.c (.bool false)))] false)
(.seq
(.seq
(.region [
m_ 5 0,
o_ 6 (.len .sli (.t 5)),
o_ 7 (.bin .gtr (.t 6) (.c (.int .i64 8192)))] false)
(.cond (.t 7)
(.seq
(.region [
o_ 2 (.mv (.c (.bool false)))] false)
.ret)
.skip))
(.seq
(.seq
(.region [
m_ 8 0,
o_ 9 (.len .sli (.t 8)),
o_ 10 (.mv (.c (.int .i64 0)))] false)
(.block 0
(.loop
(.seq
(.region [
o_ 11 (.bin .lss (.t 10) (.t 9))] false)
(.seq
(.cond (.t 11)
.skip
(.exit 0))
(.seq
(.block 1
(.seq
(.region [
m_ 12 10,
o_ 13 (.idxa 3 (.t 8) (.t 10)),
o_ 14 (.load true 3 (.t 13)),
o_ 4 (.newv [.int .i64 0,.int .i64 0,.int .i64 0]),
m_ 3 12,
⟨none,.store 3 (.t 4) (.t 14),none⟩] false)
(.seq
(.region [
o_ 15 (.load true 3 (.t 4)),
o_ 16 (.call false (.c (.fn 32 [] [])) [.t 15]),
o_ 17 (.not (.t 16)),
m_ 18 17,
g_ 19 (.mv (.t 3)) 18 false,
g_ 20 (.bin .gtr (.t 19) (.c (.int .i64 0))) 18 false,
g_ 21 (.mv (.t 20)) 18 false,
g_ 22 (.mv (.t 0)) 21 true,
g_ 23 (.mv (.t 3)) 21 true,
g_ 24 (.bin .sub (.t 23) (.c (.int .i64 1))) 21 true,
g_ 25 (.idxa 3 (.t 22) (.t 24)) 21 true,
g_ 26 (.load true 3 (.t 25)) 21 true,
g_ 27 (.load true 3 (.t 4)) 21 true,
g_ 28 (.call false (.c (.fn 36 [] [])) [.t 26,.t 27]) 21 true,
g_ 29 (.not (.t 28)) 21 true,
g_ 30 (.pick (.t 21) (.t 29) (.c (.bool false))) 18 false,
o_ 31 (.pick (.t 18) (.c (.bool true)) (.t 30))] true)
(.cond (.t 31)
(.seq
(.region [
o_ 2 (.mv (.c (.bool false)))] false)
.ret)
.skip))))
(.region [
o_ 32 (.bin .add (.t 10) (.c (.int .i64 1))),
m_ 10 32] false)))))))
(.seq
(.region [
o_ 2 (.mv (.c (.bool true)))] false)
.ret)))),
[.t 2]⟩
theorem ok20 : okFunc Go.Proofs.Try.prog 20 lf20 = true:=by kernel_rfl
def lf21 : LFunc:=⟨76,1,
(.seq
(.region [
o_ 2 (.mv (.c (.bool false)))] false)
(.seq
(.seq
(.region [
m_ 5 0,
o_ 6 (.len .sli (.t 5)),
o_ 7 (.bin .gtr (.t 6) (.c (.int .i64 8192)))] false)
(.cond (.t 7)
(.seq
(.region [
o_ 2 (.mv (.c (.bool false)))] false)
.ret)
.skip))
(.seq
(.seq
(.region [
o_ 3 (.mv (.c (.int .i64 0)))] false)
(.block 0
(.loop
(.seq
(.seq
(.region [
m_ 8 3,
m_ 9 0,
o_ 10 (.len .sli (.t 9)),
o_ 11 (.bin .lss (.t 8) (.t 10))] false)
(.cond (.t 11)
.skip
(.exit 0)))
(.seq
(.block 1
(.seq
(.region [
m_ 14 0,
m_ 15 3,
o_ 16 (.idxa 3 (.t 14) (.t 15)),
o_ 17 (.load true 3 (.t 16)),
o_ 4 (.newv [.int .i64 0,.int .i64 0,.int .i64 0]),
⟨none,.store 3 (.t 4) (.t 17),none⟩] false)
(.seq
(.seq
(.region [
o_ 18 (.fadr 0 (.t 4)),
o_ 19 (.load false 1 (.t 18)),
o_ 20 (.call false (.c (.fn 33 [] [])) [.t 19]),
o_ 21 (.not (.t 20)),
m_ 22 21,
g_ 23 (.fadr 1 (.t 4)) 22 false,
g_ 24 (.load false 1 (.t 23)) 22 false,
g_ 25 (.call false (.c (.fn 33 [] [])) [.t 24]) 22 false,
g_ 26 (.not (.t 25)) 22 false,
o_ 27 (.pick (.t 22) (.c (.bool true)) (.t 26)),
m_ 28 27,
g_ 29 (.fadr 2 (.t 4)) 28 false,
g_ 30 (.load false 1 (.t 29)) 28 false,
g_ 31 (.call false (.c (.fn 33 [] [])) [.t 30]) 28 false,
g_ 32 (.not (.t 31)) 28 false,
o_ 33 (.pick (.t 28) (.c (.bool true)) (.t 32)),
m_ 34 33,
g_ 35 (.fadr 0 (.t 4)) 34 false,
g_ 36 (.load false 1 (.t 35)) 34 false,
g_ 37 (.fadr 1 (.t 4)) 34 false,
g_ 38 (.load false 1 (.t 37)) 34 false,
g_ 39 (.bin .geq (.t 36) (.t 38)) 34 false,
o_ 40 (.pick (.t 34) (.c (.bool true)) (.t 39))] false)
(.cond (.t 40)
(.seq
(.region [
o_ 2 (.mv (.c (.bool false)))] false)
.ret)
.skip))
(.seq
(.region [
m_ 41 3,
o_ 42 (.bin .gtr (.t 41) (.c (.int .i64 0))),
m_ 43 42,
g_ 44 (.fadr 0 (.t 4)) 43 true,
g_ 45 (.load false 1 (.t 44)) 43 true,
g_ 46 (.mv (.t 0)) 43 true,
g_ 47 (.mv (.t 3)) 43 true,
g_ 48 (.bin .sub (.t 47) (.c (.int .i64 1))) 43 true,
g_ 49 (.idxa 3 (.t 46) (.t 48)) 43 true,
g_ 50 (.fadr 1 (.t 49)) 43 true,
g_ 51 (.load false 1 (.t 50)) 43 true,
g_ 52 (.bin .lss (.t 45) (.t 51)) 43 true,
g_ 53 (.mv (.t 52)) 43 true,
g_ 54 (.fadr 0 (.t 4)) 53 false,
g_ 55 (.load false 1 (.t 54)) 53 false,
g_ 56 (.mv (.t 0)) 53 false,
g_ 57 (.mv (.t 3)) 53 false,
g_ 58 (.bin .sub (.t 57) (.c (.int .i64 1))) 53 false,
g_ 59 (.idxa 3 (.t 56) (.t 58)) 53 false,
g_ 60 (.fadr 1 (.t 59)) 53 false,
g_ 61 (.load false 1 (.t 60)) 53 false,
g_ 62 (.bin .eql (.t 55) (.t 61)) 53 false,
g_ 63 (.mv (.t 62)) 53 false,
g_ 64 (.fadr 2 (.t 4)) 63 true,
g_ 65 (.load false 1 (.t 64)) 63 true,
g_ 66 (.mv (.t 0)) 63 true,
g_ 67 (.mv (.t 3)) 63 true,
g_ 68 (.bin .sub (.t 67) (.c (.int .i64 1))) 63 true,
g_ 69 (.idxa 3 (.t 66) (.t 68)) 63 true,
g_ 70 (.fadr 2 (.t 69)) 63 true,
g_ 71 (.load false 1 (.t 70)) 63 true,
g_ 72 (.bin .eql (.t 65) (.t 71)) 63 true,
g_ 73 (.pick (.t 63) (.t 72) (.c (.bool false))) 53 false,
g_ 74 (.pick (.t 53) (.c (.bool true)) (.t 73)) 43 true,
o_ 75 (.pick (.t 43) (.t 74) (.c (.bool false)))] true)
(.cond (.t 75)
(.seq
(.region [
o_ 2 (.mv (.c (.bool false)))] false)
.ret)
.skip)))))
(.region [
m_ 12 3,
o_ 13 (.bin .add (.t 12) (.c (.int .i64 1))),
m_ 3 13] false))))))
(.seq
(.region [
o_ 2 (.mv (.c (.bool true)))] false)
.ret)))),
[.t 2]⟩
theorem ok21 : okFunc Go.Proofs.Try.prog 21 lf21 = true:=by kernel_rfl
def lf22 : LFunc:=⟨64,2,
(.seq
(.region [
o_ 4 (.mv (.c (.int .i64 0)))] false)
(.seq
(.seq
(.region [
m_ 10 0,
o_ 11 (.call false (.c (.fn 20 [] [])) [.t 10]),
o_ 12 (.not (.t 11)),
m_ 13 12,
g_ 14 (.mv (.t 1)) 13 false,
g_ 15 (.call false (.c (.fn 20 [] [])) [.t 14]) 13 false,
g_ 16 (.not (.t 15)) 13 false,
o_ 17 (.pick (.t 13) (.c (.bool true)) (.t 16))] false)
(.cond (.t 17)
(.seq
(.region [
o_ 4 (.mv (.c (.int .i64 0)))] false)
.ret)
.skip))
(.seq
(.region [
o_ 5 (.mv (.c (.int .i64 0)))] false)
(.seq
(.region [
o_ 6 (.mv (.c (.int .i64 0))),
o_ 7 (.mv (.c (.int .i64 0)))] false)
(.seq
(.block 0
(.loop
(.seq
(.seq
(.region [
m_ 18 6,
m_ 19 0,
o_ 20 (.len .sli (.t 19)),
o_ 21 (.bin .lss (.t 18) (.t 20)),
m_ 22 21,
g_ 23 (.mv (.t 7)) 22 true,
g_ 24 (.mv (.t 1)) 22 true,
g_ 25 (.len .sli (.t 24)) 22 true,
g_ 26 (.bin .lss (.t 23) (.t 25)) 22 true,
o_ 27 (.pick (.t 22) (.t 26) (.c (.bool false)))] false)
(.cond (.t 27)
.skip
(.exit 0)))
(.block 1
(.seq
(.region [
m_ 28 0,
m_ 29 6,
o_ 30 (.idxa 3 (.t 28) (.t 29)),
o_ 31 (.load true 3 (.t 30)),
m_ 32 1,
m_ 33 7,
o_ 34 (.idxa 3 (.t 32) (.t 33)),
o_ 35 (.loadF true 3 (.t 34)),
o_ 8 (.newv [.int .i64 0,.int .i64 0,.int .i64 0]),
o_ 9 (.newv [.int .i64 0,.int .i64 0,.int .i64 0]),
⟨none,.storeF 3 (.t 8) (.t 31),none⟩,
⟨none,.store 3 (.t 9) (.t 35),none⟩] true)
(.seq
(.seq
(.region [
o_ 36 (.fadr 0 (.t 8)),
o_ 37 (.load false 1 (.t 36)),
o_ 38 (.fadr 0 (.t 9)),
o_ 39 (.load false 1 (.t 38)),
o_ 40 (.maxs [.t 37,.t 39]),
o_ 41 (.fadr 1 (.t 8)),
o_ 42 (.load false 1 (.t 41)),
o_ 43 (.fadr 1 (.t 9)),
o_ 44 (.load false 1 (.t 43)),
o_ 45 (.mins [.t 42,.t 44]),
o_ 46 (.bin .lss (.t 40) (.t 45))] false)
(.cond (.t 46)
(.region [
m_ 47 5,
o_ 48 (.fadr 2 (.t 8)),
o_ 49 (.load false 1 (.t 48)),
o_ 50 (.fadr 2 (.t 9)),
o_ 51 (.load false 1 (.t 50)),
o_ 52 (.bin .add (.t 49) (.t 51)),
o_ 53 (.maxs [.t 47,.t 52]),
m_ 5 53] false)
.skip))
(.seq
(.region [
o_ 54 (.fadr 1 (.t 8)),
o_ 55 (.load false 1 (.t 54)),
o_ 56 (.fadr 1 (.t 9)),
o_ 57 (.load false 1 (.t 56)),
o_ 58 (.bin .leq (.t 55) (.t 57))] false)
(.cond (.t 58)
(.region [
m_ 59 6,
o_ 60 (.bin .add (.t 59) (.c (.int .i64 1))),
m_ 6 60] false)
(.region [
m_ 61 7,
o_ 62 (.bin .add (.t 61) (.c (.int .i64 1))),
m_ 7 62] false)))))))))
(.seq
(.region [
m_ 63 5,
m_ 4 63] false)
.ret)))))),
[.t 4]⟩
theorem ok22 : okFunc Go.Proofs.Try.prog 22 lf22 = true:=by kernel_rfl
def lf23 : LFunc:=⟨65,2,
(.seq
(.region [
o_ 4 (.mv (.c (.int .i64 0)))] false)
(.seq
(.seq
(.region [
m_ 8 0,
o_ 9 (.call false (.c (.fn 21 [] [])) [.t 8]),
o_ 10 (.not (.t 9)),
m_ 11 10,
g_ 12 (.mv (.t 1)) 11 false,
g_ 13 (.call false (.c (.fn 21 [] [])) [.t 12]) 11 false,
g_ 14 (.not (.t 13)) 11 false,
o_ 15 (.pick (.t 11) (.c (.bool true)) (.t 14))] false)
(.cond (.t 15)
(.seq
(.region [
o_ 4 (.mv (.c (.int .i64 0)))] false)
.ret)
.skip))
(.seq
(.region [
o_ 5 (.mv (.c (.int .i64 0)))] false)
(.seq
(.seq
(.region [
o_ 6 (.mv (.c (.int .i64 0)))] false)
(.block 0
(.loop
(.seq
(.seq
(.region [
m_ 16 6,
m_ 17 0,
o_ 18 (.len .sli (.t 17)),
o_ 19 (.bin .lss (.t 16) (.t 18))] false)
(.cond (.t 19)
.skip
(.exit 0)))
(.seq
(.block 1
(.seq
(.region [
o_ 7 (.mv (.c (.int .i64 0)))] false)
(.block 2
(.loop
(.seq
(.seq
(.region [
m_ 22 7,
m_ 23 1,
o_ 24 (.len .sli (.t 23)),
o_ 25 (.bin .lss (.t 22) (.t 24))] false)
(.cond (.t 25)
.skip
(.exit 2)))
(.seq
(.block 3
(.seq
(.region [
m_ 28 0,
m_ 29 6,
o_ 30 (.idxa 3 (.t 28) (.t 29)),
o_ 31 (.fadr 0 (.t 30)),
o_ 32 (.load false 1 (.t 31)),
m_ 33 1,
m_ 34 7,
o_ 35 (.idxa 3 (.t 33) (.t 34)),
o_ 36 (.fadr 0 (.t 35)),
o_ 37 (.load false 1 (.t 36)),
o_ 38 (.maxs [.t 32,.t 37]),
m_ 39 0,
m_ 40 6,
o_ 41 (.idxa 3 (.t 39) (.t 40)),
o_ 42 (.fadr 1 (.t 41)),
o_ 43 (.load false 1 (.t 42)),
m_ 44 1,
m_ 45 7,
o_ 46 (.idxa 3 (.t 44) (.t 45)),
o_ 47 (.fadr 1 (.t 46)),
o_ 48 (.load false 1 (.t 47)),
o_ 49 (.mins [.t 43,.t 48]),
o_ 50 (.bin .lss (.t 38) (.t 49))] true)
(.cond (.t 50)
(.region [
m_ 51 5,
m_ 52 0,
m_ 53 6,
o_ 54 (.idxa 3 (.t 52) (.t 53)),
o_ 55 (.fadr 2 (.t 54)),
o_ 56 (.load false 1 (.t 55)),
m_ 57 1,
m_ 58 7,
o_ 59 (.idxa 3 (.t 57) (.t 58)),
o_ 60 (.fadr 2 (.t 59)),
o_ 61 (.load false 1 (.t 60)),
o_ 62 (.bin .add (.t 56) (.t 61)),
o_ 63 (.maxs [.t 51,.t 62]),
m_ 5 63] true)
.skip)))
(.region [
m_ 26 7,
o_ 27 (.bin .add (.t 26) (.c (.int .i64 1))),
m_ 7 27] false)))))))
(.region [
m_ 20 6,
o_ 21 (.bin .add (.t 20) (.c (.int .i64 1))),
m_ 6 21] false))))))
(.seq
(.region [
m_ 64 5,
m_ 4 64] false)
.ret))))),
[.t 4]⟩
theorem ok23 : okFunc Go.Proofs.Try.prog 23 lf23 = true:=by kernel_rfl
def lf24 : LFunc:=⟨40,2,
(.seq
(.region [
o_ 4 (.mv (.c (.nils))),
o_ 5 (.mv (.c (.int .i64 0)))] false)
(.seq
(.seq
(.region [
m_ 9 0,
o_ 10 (.len .sli (.t 9)),
o_ 11 (.bin .gtr (.t 10) (.c (.int .i64 4096)))] false)
(.cond (.t 11)
(.seq
(.region [
o_ 4 (.mv (.c (.nils))),
o_ 5 (.mv (.c (.int .i64 2)))] false)
.ret)
.skip))
(.seq
(.region [
o_ 6 (.mv (.c (.nils)))] false)
(.seq
(.seq
(.region [
m_ 12 0,
o_ 13 (.len .sli (.t 12)),
o_ 14 (.mv (.c (.int .i64 0)))] false)
(.block 0
(.loop
(.seq
(.region [
o_ 15 (.bin .lss (.t 14) (.t 13))] false)
(.seq
(.cond (.t 15)
.skip
(.exit 0))
(.seq
(.block 1
(.seq
(.region [
o_ 16 (.idxa 4 (.t 12) (.t 14)),
o_ 17 (.load true 4 (.t 16)),
o_ 8 (.newv [.int .i64 0,.int .i64 0,.int .i64 0,.int .i64 0]),
⟨none,.store 4 (.t 8) (.t 17),none⟩] false)
(.seq
(.seq
(.region [
o_ 18 (.load true 4 (.t 8)),
o_ 19 (.call false (.c (.fn 37 [] [])) [.t 18]),
o_ 20 (.not (.t 19))] false)
(.cond (.t 20)
(.seq
(.region [
o_ 4 (.mv (.c (.nils))),
o_ 5 (.mv (.c (.int .i64 2)))] false)
.ret)
.skip))
(.seq
(.region [
o_ 21 (.fadr 0 (.t 8)),
o_ 22 (.load false 1 (.t 21)),
o_ 23 (.fadr 2 (.t 8)),
o_ 24 (.load false 1 (.t 23)),
o_ 25 (.bin .lss (.t 22) (.t 24))] false)
(.cond (.t 25)
(.region [
m_ 26 6,
o_ 27 (.fadr 0 (.t 8)),
o_ 28 (.load false 1 (.t 27)),
o_ 29 (.fadr 2 (.t 8)),
o_ 30 (.load false 1 (.t 29)),
m_ 31 1,
o_ 32 (.load true 4 (.t 8)),
o_ 33 (.call false (.t 31) [.t 32]),
o_ 34 (.build [.int .i64 0,.int .i64 0,.int .i64 0] [(0,1,.t 28),(1,1,.t 30),(2,1,.t 33)]),
o_ 35 (.btsl 3 1 [.int .i64 0,.int .i64 0,.int .i64 0] [(0,.t 34)]),
o_ 36 (.append 3 24 (.t 26) (.t 35)),
m_ 6 36] true)
.skip)))))
(.region [
o_ 37 (.bin .add (.t 14) (.c (.int .i64 1))),
m_ 14 37] false)))))))
(.seq
(.region [
m_ 38 6,
o_ 39 (.call false (.c (.fn 28 [] [])) [.t 38]),
m_ 4 39,
o_ 5 (.mv (.c (.int .i64 0)))] false)
.ret))))),
[.t 4,.t 5]⟩
theorem ok24 : okFunc Go.Proofs.Try.prog 24 lf24 = true:=by kernel_rfl
def lf25 : LFunc:=⟨5,1,
(.seq
(.region [
o_ 1 (.box 4 (.t 0)),
o_ 2 (.mv (.c (.int .i64 0)))] false)
(.seq
(.region [
o_ 3 (.fadr 3 (.t 1)),
o_ 4 (.load false 1 (.t 3)),
m_ 2 4] false)
.ret)),
[.t 2]⟩
theorem ok25 : okFunc Go.Proofs.Try.prog 25 lf25 = true:=by kernel_rfl
def lf27 : LFunc:=⟨6,1,
(.seq
(.region [
o_ 1 (.box 4 (.t 0)),
o_ 2 (.mv (.c (.int .i64 0)))] false)
(.seq
(.region [
o_ 3 (.fadr 1 (.t 1)),
o_ 4 (.load false 1 (.t 3)),
o_ 5 (.neg (.t 4)),
m_ 2 5] false)
.ret)),
[.t 2]⟩
theorem ok27 : okFunc Go.Proofs.Try.prog 27 lf27 = true:=by kernel_rfl
def lf28 : LFunc:=⟨121,1,
(.seq
(.region [
o_ 2 (.mv (.c (.nils)))] false)
(.seq
(.region [
o_ 3 (.own 1)] false)
(.seq
(.seq
(.region [
m_ 14 0,
o_ 15 (.len .sli (.t 14)),
o_ 16 (.mv (.c (.int .i64 0)))] false)
(.block 0
(.loop
(.seq
(.region [
o_ 17 (.bin .lss (.t 16) (.t 15))] false)
(.seq
(.cond (.t 17)
.skip
(.exit 0))
(.seq
(.block 1
(.seq
(.region [
o_ 18 (.idxa 3 (.t 14) (.t 16)),
o_ 19 (.load true 3 (.t 18)),
o_ 5 (.newv [.int .i64 0,.int .i64 0,.int .i64 0]),
⟨none,.store 3 (.t 5) (.t 19),none⟩] false)
(.region [
m_ 20 3,
o_ 21 (.fadr 0 (.t 5)),
o_ 22 (.load false 1 (.t 21)),
o_ 23 (.fadr 1 (.t 5)),
o_ 24 (.load false 1 (.t 23)),
o_ 25 (.btsl 1 2 [.int .i64 0] [(0,.t 22),(1,.t 24)]),
o_ 26 (.append 1 8 (.t 20) (.t 25)),
m_ 3 26] false)))
(.region [
o_ 27 (.bin .add (.t 16) (.c (.int .i64 1))),
m_ 16 27] false)))))))
(.seq
(.region [
m_ 28 3,
o_ 29 (.call false (.c (.fn 39 [] [])) [.t 28])] false)
(.seq
(.region [
m_ 30 3,
o_ 31 (.call false (.c (.fn 40 [] [])) [.t 30]),
m_ 3 31] false)
(.seq
(.region [
m_ 32 0,
o_ 33 (.call false (.c (.fn 41 [] [])) [.t 32]),
m_ 6 33] false)
(.seq
(.region [
m_ 34 6,
o_ 35 (.call false (.c (.fn 42 [] [])) [.t 34,.c (.fn 43 [] [])])] false)
(.seq
(.region [
o_ 7 (.own 3),
o_ 8 (.own 3)] false)
(.seq
(.seq
(.region [
m_ 36 3,
o_ 37 (.len .sli (.t 36)),
o_ 38 (.bin .sub (.t 37) (.c (.int .i64 1))),
o_ 39 (.maxs [.c (.int .i64 0),.t 38]),
o_ 40 (.mv (.c (.int .i64 0)))] false)
(.block 2
(.loop
(.seq
(.region [
o_ 41 (.bin .lss (.t 40) (.t 39))] false)
(.seq
(.cond (.t 41)
.skip
(.exit 2))
(.seq
(.block 3
(.seq
(.region [
m_ 42 40,
m_ 9 42] false)
(.seq
(.region [
m_ 43 3,
m_ 44 9,
o_ 45 (.idxa 1 (.t 43) (.t 44)),
o_ 46 (.load false 1 (.t 45)),
m_ 47 3,
m_ 48 9,
o_ 49 (.bin .add (.t 48) (.c (.int .i64 1))),
o_ 50 (.idxa 1 (.t 47) (.t 49)),
o_ 51 (.loadF false 1 (.t 50)),
o_ 10 (.newv [.int .i64 0]),
⟨none,.storeF 1 (.t 10) (.t 46),none⟩,
m_ 11 51] true)
(.seq
(.block 4
(.loop
(.seq
(.seq
(.region [
m_ 52 6,
o_ 53 (.len .sli (.t 52)),
o_ 54 (.bin .gtr (.t 53) (.c (.int .i64 0))),
m_ 55 54,
g_ 56 (.mv (.t 6)) 55 true,
g_ 57 (.idxa 3 (.t 56) (.c (.int .i64 0))) 55 true,
g_ 58 (.fadr 0 (.t 57)) 55 true,
g_ 59 (.load false 1 (.t 58)) 55 true,
g_ 60 (.load false 1 (.t 10)) 55 true,
g_ 61 (.bin .leq (.t 59) (.t 60)) 55 true,
o_ 62 (.pick (.t 55) (.t 61) (.c (.bool false)))] true)
(.cond (.t 62)
.skip
(.exit 4)))
(.block 5
(.seq
(.region [
m_ 63 8,
m_ 64 6,
o_ 65 (.idxa 3 (.t 64) (.c (.int .i64 0))),
o_ 66 (.load true 3 (.t 65)),
o_ 67 (.btsl 3 1 [.int .i64 0,.int .i64 0,.int .i64 0] [(0,.t 66)]),
o_ 68 (.append 3 24 (.t 63) (.t 67)),
m_ 8 68] false)
(.region [
m_ 69 6,
o_ 70 (.slice 3 (.t 69) (some (.c (.int .i64 1))) none none),
m_ 6 70] false))))))
(.seq
(.region [
m_ 71 8,
o_ 72 (.mkfn 46 [] [.t 10]),
o_ 73 (.call false (.c (.fn 45 [] [])) [.t 71,.t 72]),
m_ 8 73] false)
(.seq
(.seq
(.region [
m_ 74 8,
o_ 75 (.len .sli (.t 74)),
o_ 76 (.bin .eql (.t 75) (.c (.int .i64 0)))] false)
(.cond (.t 76)
(.exit 3)
.skip))
(.seq
(.region [
m_ 77 8,
o_ 78 (.call false (.c (.fn 47 [] [])) [.t 77,.c (.fn 48 [] [])]),
o_ 79 (.field false 2 1 (.t 78)),
m_ 12 79] false)
(.seq
(.region [
m_ 80 7,
o_ 81 (.len .sli (.t 80)),
m_ 13 81] false)
(.seq
(.seq
(.region [
m_ 82 13,
o_ 83 (.bin .gtr (.t 82) (.c (.int .i64 0))),
m_ 84 83,
g_ 85 (.mv (.t 7)) 84 true,
g_ 86 (.mv (.t 13)) 84 true,
g_ 87 (.bin .sub (.t 86) (.c (.int .i64 1))) 84 true,
g_ 88 (.idxa 3 (.t 85) (.t 87)) 84 true,
g_ 89 (.load true 3 (.t 88)) 84 true,
g_ 90 (.mv (.t 7)) 84 true,
g_ 91 (.mv (.t 13)) 84 true,
g_ 92 (.bin .sub (.t 91) (.c (.int .i64 1))) 84 true,
g_ 93 (.idxa 3 (.t 90) (.t 92)) 84 true,
g_ 94 (.fadr 0 (.t 93)) 84 true,
g_ 95 (.load false 1 (.t 94)) 84 true,
g_ 96 (.load false 1 (.t 10)) 84 true,
g_ 97 (.mv (.t 12)) 84 true,
g_ 98 (.build [.int .i64 0,.int .i64 0,.int .i64 0] [(0,1,.t 95),(1,1,.t 96),(2,1,.t 97)]) 84 true,
g_ 99 (.eq false (.ag [.i,.i,.i]) (.t 89) (.t 98)) 84 true,
o_ 100 (.pick (.t 84) (.t 99) (.c (.bool false)))] true)
(.cond (.t 100)
(.seq
(.region [
m_ 101 7,
m_ 102 13,
o_ 103 (.bin .sub (.t 102) (.c (.int .i64 1))),
m_ 104 11,
o_ 105 (.idxa 3 (.t 101) (.t 103)),
o_ 106 (.fadr 1 (.t 105)),
⟨none,.store 1 (.t 106) (.t 104),none⟩] false)
(.exit 3))
.skip))
(.region [
m_ 107 7,
o_ 108 (.load false 1 (.t 10)),
m_ 109 11,
m_ 110 12,
o_ 111 (.build [.int .i64 0,.int .i64 0,.int .i64 0] [(0,1,.t 108),(1,1,.t 109),(2,1,.t 110)]),
o_ 112 (.btsl 3 1 [.int .i64 0,.int .i64 0,.int .i64 0] [(0,.t 111)]),
o_ 113 (.append 3 24 (.t 107) (.t 112)),
m_ 7 113] false))))))))))
(.region [
o_ 114 (.bin .add (.t 40) (.c (.int .i64 1))),
m_ 40 114] false)))))))
(.seq
(.region [
m_ 115 7,
m_ 116 7,
o_ 117 (.len .sli (.t 116)),
m_ 118 7,
o_ 119 (.len .sli (.t 118)),
o_ 120 (.slice 3 (.t 115) none (some (.t 117)) (some (.t 119))),
m_ 2 120] false)
.ret)))))))))),
[.t 2]⟩
theorem ok28 : okFunc Go.Proofs.Try.prog 28 lf28 = true:=by kernel_rfl
def lf29 : LFunc:=⟨36,1,
(.seq
(.region [
o_ 2 (.mv (.c (.nils)))] false)
(.seq
(.region [
o_ 3 (.mv (.c (.int .i64 0)))] false)
(.seq
(.seq
(.region [
m_ 9 0,
o_ 10 (.len .sli (.t 9)),
o_ 11 (.mv (.c (.int .i64 0)))] false)
(.block 0
(.loop
(.seq
(.region [
o_ 12 (.bin .lss (.t 11) (.t 10))] false)
(.seq
(.cond (.t 12)
.skip
(.exit 0))
(.seq
(.block 1
(.seq
(.region [
o_ 13 (.idxa 1 (.t 9) (.t 11)),
o_ 14 (.load false 1 (.t 13)),
m_ 5 14] false)
(.seq
(.region [
m_ 15 3,
m_ 16 5,
o_ 17 (.len .sli (.t 16)),
o_ 18 (.bin .add (.t 15) (.t 17)),
m_ 3 18] false)
(.seq
(.region [
m_ 19 3,
o_ 20 (.bin .lss (.t 19) (.c (.int .i64 0)))] false)
(.cond (.t 20)
(.region [
o_ 21 (.bad),
⟨none,.bad,none⟩] false)
.skip)))))
(.region [
o_ 22 (.bin .add (.t 11) (.c (.int .i64 1))),
m_ 11 22] false)))))))
(.seq
(.region [
m_ 23 3,
o_ 24 (.call false (.c (.fn 49 [] [])) [.c (.nils),.t 23]),
m_ 6 24] false)
(.seq
(.seq
(.region [
m_ 25 0,
o_ 26 (.len .sli (.t 25)),
o_ 27 (.mv (.c (.int .i64 0)))] false)
(.block 2
(.loop
(.seq
(.region [
o_ 28 (.bin .lss (.t 27) (.t 26))] false)
(.seq
(.cond (.t 28)
.skip
(.exit 2))
(.seq
(.block 3
(.seq
(.region [
o_ 29 (.idxa 1 (.t 25) (.t 27)),
o_ 30 (.load false 1 (.t 29)),
m_ 8 30] false)
(.region [
m_ 31 6,
m_ 32 8,
o_ 33 (.append 3 24 (.t 31) (.t 32)),
m_ 6 33] false)))
(.region [
o_ 34 (.bin .add (.t 27) (.c (.int .i64 1))),
m_ 27 34] false)))))))
(.seq
(.region [
m_ 35 6,
m_ 2 35] false)
.ret)))))),
[.t 2]⟩
theorem ok29 : okFunc Go.Proofs.Try.prog 29 lf29 = true:=by kernel_rfl
def lf30 : LFunc:=⟨86,1,
(.seq
(.region [
o_ 2 (.mv (.c (.nils)))] false)
(.seq
(.region [
m_ 9 0,
o_ 10 (.call false (.c (.fn 50 [] [])) [.t 9]),
m_ 3 10] false)
(.seq
(.region [
o_ 4 (.own 3)] false)
(.seq
(.seq
(.region [
o_ 5 (.mv (.c (.int .i64 0)))] false)
(.block 0
(.loop
(.seq
(.seq
(.region [
m_ 11 5,
o_ 12 (.bin .add (.t 11) (.c (.int .i64 1))),
m_ 13 3,
o_ 14 (.len .sli (.t 13)),
o_ 15 (.bin .lss (.t 12) (.t 14))] false)
(.cond (.t 15)
.skip
(.exit 0)))
(.seq
(.block 1
(.seq
(.region [
m_ 19 0,
m_ 20 3,
m_ 21 5,
o_ 22 (.idxa 1 (.t 20) (.t 21)),
o_ 23 (.load false 1 (.t 22)),
m_ 24 3,
m_ 25 5,
o_ 26 (.bin .add (.t 25) (.c (.int .i64 1))),
o_ 27 (.idxa 1 (.t 24) (.t 26)),
o_ 28 (.load false 1 (.t 27)),
o_ 29 (.call false (.c (.fn 51 [] [])) [.t 19,.t 23,.t 28]),
m_ 18 29,
o_ 30 (.extract (.t 18) 0),
o_ 31 (.extract (.t 18) 1),
m_ 6 30,
m_ 7 31] true)
(.seq
(.seq
(.region [
m_ 32 7,
o_ 33 (.not (.t 32))] false)
(.cond (.t 33)
(.exit 1)
.skip))
(.seq
(.region [
m_ 34 4,
o_ 35 (.len .sli (.t 34)),
m_ 8 35] false)
(.seq
(.region [
m_ 36 8,
o_ 37 (.bin .gtr (.t 36) (.c (.int .i64 0))),
m_ 38 37,
g_ 39 (.mv (.t 4)) 38 true,
g_ 40 (.mv (.t 8)) 38 true,
g_ 41 (.bin .sub (.t 40) (.c (.int .i64 1))) 38 true,
g_ 42 (.idxa 3 (.t 39) (.t 41)) 38 true,
g_ 43 (.fadr 1 (.t 42)) 38 true,
g_ 44 (.load false 1 (.t 43)) 38 true,
g_ 45 (.mv (.t 3)) 38 true,
g_ 46 (.mv (.t 5)) 38 true,
g_ 47 (.idxa 1 (.t 45) (.t 46)) 38 true,
g_ 48 (.load false 1 (.t 47)) 38 true,
g_ 49 (.bin .eql (.t 44) (.t 48)) 38 true,
o_ 50 (.pick (.t 38) (.t 49) (.c (.bool false))),
m_ 51 50,
g_ 52 (.mv (.t 4)) 51 true,
g_ 53 (.mv (.t 8)) 51 true,
g_ 54 (.bin .sub (.t 53) (.c (.int .i64 1))) 51 true,
g_ 55 (.idxa 3 (.t 52) (.t 54)) 51 true,
g_ 56 (.fadr 2 (.t 55)) 51 true,
g_ 57 (.load false 1 (.t 56)) 51 true,
g_ 58 (.mv (.t 6)) 51 true,
g_ 59 (.bin .eql (.t 57) (.t 58)) 51 true,
o_ 60 (.pick (.t 51) (.t 59) (.c (.bool false)))] true)
(.cond (.t 60)
(.region [
m_ 61 4,
m_ 62 8,
o_ 63 (.bin .sub (.t 62) (.c (.int .i64 1))),
m_ 64 3,
m_ 65 5,
o_ 66 (.bin .add (.t 65) (.c (.int .i64 1))),
o_ 67 (.idxa 1 (.t 64) (.t 66)),
o_ 68 (.load false 1 (.t 67)),
o_ 69 (.idxa 3 (.t 61) (.t 63)),
o_ 70 (.fadr 1 (.t 69)),
⟨none,.store 1 (.t 70) (.t 68),none⟩] false)
(.region [
m_ 71 4,
m_ 72 3,
m_ 73 5,
o_ 74 (.idxa 1 (.t 72) (.t 73)),
o_ 75 (.load false 1 (.t 74)),
m_ 76 3,
m_ 77 5,
o_ 78 (.bin .add (.t 77) (.c (.int .i64 1))),
o_ 79 (.idxa 1 (.t 76) (.t 78)),
o_ 80 (.load false 1 (.t 79)),
m_ 81 6,
o_ 82 (.build [.int .i64 0,.int .i64 0,.int .i64 0] [(0,1,.t 75),(1,1,.t 80),(2,1,.t 81)]),
o_ 83 (.btsl 3 1 [.int .i64 0,.int .i64 0,.int .i64 0] [(0,.t 82)]),
o_ 84 (.append 3 24 (.t 71) (.t 83)),
m_ 4 84] true)))))))
(.region [
m_ 16 5,
o_ 17 (.bin .add (.t 16) (.c (.int .i64 1))),
m_ 5 17] false))))))
(.seq
(.region [
m_ 85 4,
m_ 2 85] false)
.ret))))),
[.t 2]⟩
theorem ok30 : okFunc Go.Proofs.Try.prog 30 lf30 = true:=by kernel_rfl
def lf31 : LFunc:=⟨9,1,
(.seq
(.region [
o_ 2 (.mv (.c (.bool false)))] false)
(.seq
(.region [
m_ 3 0,
o_ 4 (.bin .leq (.c (.int .i64 (-1099511627776))) (.t 3)),
m_ 5 4,
g_ 6 (.mv (.t 0)) 5 true,
g_ 7 (.bin .leq (.t 6) (.c (.int .i64 1099511627776))) 5 true,
o_ 8 (.pick (.t 5) (.t 7) (.c (.bool false))),
m_ 2 8] false)
.ret)),
[.t 2]⟩
theorem ok31 : okFunc Go.Proofs.Try.prog 31 lf31 = true:=by kernel_rfl
def lf32 : LFunc:=⟨23,1,
(.seq
(.region [
o_ 1 (.box 3 (.t 0)),
o_ 2 (.mv (.c (.bool false)))] false)
(.seq
(.region [
o_ 3 (.fadr 0 (.t 1)),
o_ 4 (.load false 1 (.t 3)),
o_ 5 (.call false (.c (.fn 31 [] [])) [.t 4]),
m_ 6 5,
g_ 7 (.fadr 1 (.t 1)) 6 true,
g_ 8 (.load false 1 (.t 7)) 6 true,
g_ 9 (.call false (.c (.fn 31 [] [])) [.t 8]) 6 true,
o_ 10 (.pick (.t 6) (.t 9) (.c (.bool false))),
m_ 11 10,
g_ 12 (.fadr 2 (.t 1)) 11 true,
g_ 13 (.load false 1 (.t 12)) 11 true,
g_ 14 (.call false (.c (.fn 31 [] [])) [.t 13]) 11 true,
o_ 15 (.pick (.t 11) (.t 14) (.c (.bool false))),
m_ 16 15,
g_ 17 (.fadr 0 (.t 1)) 16 true,
g_ 18 (.load false 1 (.t 17)) 16 true,
g_ 19 (.fadr 1 (.t 1)) 16 true,
g_ 20 (.load false 1 (.t 19)) 16 true,
g_ 21 (.bin .lss (.t 18) (.t 20)) 16 true,
o_ 22 (.pick (.t 16) (.t 21) (.c (.bool false))),
m_ 2 22] false)
.ret)),
[.t 2]⟩
theorem ok32 : okFunc Go.Proofs.Try.prog 32 lf32 = true:=by kernel_rfl
def lf33 : LFunc:=⟨9,1,
(.seq
(.region [
o_ 2 (.mv (.c (.bool false)))] false)
(.seq
(.region [
m_ 3 0,
o_ 4 (.bin .geq (.t 3) (.c (.int .i64 (-1099511627776)))),
m_ 5 4,
g_ 6 (.mv (.t 0)) 5 true,
g_ 7 (.bin .leq (.t 6) (.c (.int .i64 1099511627776))) 5 true,
o_ 8 (.pick (.t 5) (.t 7) (.c (.bool false))),
m_ 2 8] false)
.ret)),
[.t 2]⟩
theorem ok33 : okFunc Go.Proofs.Try.prog 33 lf33 = true:=by kernel_rfl
def lf34 : LFunc:=⟨49,3,
(.seq
(.region [
o_ 6 (.mv (.c (.int .i64 0))),
o_ 7 (.mv (.c (.bool false)))] false)
(.seq
(.region [
m_ 12 0,
o_ 13 (.len .sli (.t 12)),
m_ 8 13] false)
(.seq
(.region [
m_ 14 8,
o_ 9 (.mv (.c (.int .i64 0))),
m_ 10 14] false)
(.seq
(.block 0
(.loop
(.seq
(.seq
(.region [
m_ 15 9,
m_ 16 10,
o_ 17 (.bin .lss (.t 15) (.t 16))] false)
(.cond (.t 17)
.skip
(.exit 0)))
(.block 1
(.seq
(.region [
m_ 18 9,
m_ 19 10,
o_ 20 (.bin .add (.t 18) (.t 19)),
o_ 21 (.conv .u64 (.t 20)),
o_ 22 (.bin .shr (.t 21) (.c (.int .u64 1))),
o_ 23 (.conv .i64 (.t 22)),
m_ 11 23] false)
(.seq
(.region [
m_ 24 2,
m_ 25 0,
m_ 26 11,
o_ 27 (.idxa 3 (.t 25) (.t 26)),
o_ 28 (.load true 3 (.t 27)),
m_ 29 1,
o_ 30 (.call false (.t 24) [.t 28,.t 29]),
o_ 31 (.bin .lss (.t 30) (.c (.int .i64 0)))] false)
(.cond (.t 31)
(.region [
m_ 32 11,
o_ 33 (.bin .add (.t 32) (.c (.int .i64 1))),
m_ 9 33] false)
(.region [
m_ 34 11,
m_ 10 34] false))))))))
(.seq
(.region [
m_ 35 9,
m_ 36 9,
m_ 37 8,
o_ 38 (.bin .lss (.t 36) (.t 37)),
m_ 39 38,
g_ 40 (.mv (.t 2)) 39 true,
g_ 41 (.mv (.t 0)) 39 true,
g_ 42 (.mv (.t 9)) 39 true,
g_ 43 (.idxa 3 (.t 41) (.t 42)) 39 true,
g_ 44 (.load true 3 (.t 43)) 39 true,
g_ 45 (.mv (.t 1)) 39 true,
g_ 46 (.call false (.t 40) [.t 44,.t 45]) 39 true,
g_ 47 (.bin .eql (.t 46) (.c (.int .i64 0))) 39 true,
o_ 48 (.pick (.t 39) (.t 47) (.c (.bool false))),
m_ 6 35,
m_ 7 48] false)
.ret))))),
[.t 6,.t 7]⟩
theorem ok34 : okFunc Go.Proofs.Try.prog 34 lf34 = true:=by kernel_rfl
def lf35 : LFunc:=⟨15,2,
(.seq
(.region [
o_ 2 (.box 3 (.t 0)),
o_ 4 (.mv (.c (.int .i64 0)))] false)
(.seq
(.block 0
(.seq
(.region [
o_ 6 (.fadr 1 (.t 2)),
o_ 7 (.load false 1 (.t 6)),
m_ 8 1,
o_ 9 (.bin .leq (.t 7) (.t 8)),
m_ 5 9] false)
(.cond (.t 5)
(.seq
(.region [
o_ 4 (.mv (.c (.int .i64 (-1))))] false)
.ret)
(.seq
(.region [
o_ 11 (.fadr 0 (.t 2)),
o_ 12 (.load false 1 (.t 11)),
m_ 13 1,
o_ 14 (.bin .gtr (.t 12) (.t 13)),
m_ 10 14] false)
(.cond (.t 10)
(.seq
(.region [
o_ 4 (.mv (.c (.int .i64 1)))] false)
.ret)
.skip)))))
(.seq
(.region [
o_ 4 (.mv (.c (.int .i64 0)))] false)
.ret))),
[.t 4]⟩
theorem ok35 : okFunc Go.Proofs.Try.prog 35 lf35 = true:=by kernel_rfl
def lf36 : LFunc:=⟨20,2,
(.seq
(.region [
o_ 2 (.box 3 (.t 0)),
o_ 3 (.box 3 (.t 1)),
o_ 4 (.mv (.c (.bool false)))] false)
(.seq
(.seq
(.region [
o_ 5 (.fadr 0 (.t 3)),
o_ 6 (.load false 1 (.t 5)),
o_ 7 (.fadr 1 (.t 2)),
o_ 8 (.load false 1 (.t 7)),
o_ 9 (.bin .eql (.t 6) (.t 8))] false)
(.cond (.t 9)
(.seq
(.region [
o_ 10 (.fadr 2 (.t 3)),
o_ 11 (.load false 1 (.t 10)),
o_ 12 (.fadr 2 (.t 2)),
o_ 13 (.load false 1 (.t 12)),
o_ 14 (.bin .neq (.t 11) (.t 13)),
m_ 4 14] false)
.ret)
.skip))
(.seq
(.region [
o_ 15 (.fadr 0 (.t 3)),
o_ 16 (.load false 1 (.t 15)),
o_ 17 (.fadr 1 (.t 2)),
o_ 18 (.load false 1 (.t 17)),
o_ 19 (.bin .gtr (.t 16) (.t 18)),
m_ 4 19] false)
.ret))),
[.t 4]⟩
theorem ok36 : okFunc Go.Proofs.Try.prog 36 lf36 = true:=by kernel_rfl
def lf37 : LFunc:=⟨33,1,
(.seq
(.region [
o_ 1 (.box 4 (.t 0)),
o_ 2 (.mv (.c (.bool false)))] false)
(.seq
(.seq
(.region [
o_ 5 (.fadr 0 (.t 1)),
o_ 6 (.load false 1 (.t 5)),
o_ 7 (.fadr 1 (.t 1)),
o_ 8 (.load false 1 (.t 7)),
o_ 9 (.fadr 2 (.t 1)),
o_ 10 (.load false 1 (.t 9)),
o_ 11 (.fadr 3 (.t 1)),
o_ 12 (.load false 1 (.t 11)),
o_ 13 (.build [.int .i64 0,.int .i64 0,.int .i64 0,.int .i64 0] [(0,1,.t 6),(1,1,.t 8),(2,1,.t 10),(3,1,.t 12)]),
o_ 14 (.mv (.c (.int .i64 0)))] false)
(.block 0
(.loop
(.seq
(.region [
o_ 15 (.bin .lss (.t 14) (.c (.int .i64 4)))] false)
(.seq
(.cond (.t 15)
.skip
(.exit 0))
(.seq
(.block 1
(.seq
(.region [
o_ 16 (.idxc false 1 4 (.t 13) (.t 14)),
m_ 4 16] false)
(.seq
(.region [
m_ 17 4,
o_ 18 (.call false (.c (.fn 31 [] [])) [.t 17]),
o_ 19 (.not (.t 18))] false)
(.cond (.t 19)
(.seq
(.region [
o_ 2 (.mv (.c (.bool false)))] false)
.ret)
.skip))))
(.region [
o_ 20 (.bin .add (.t 14) (.c (.int .i64 1))),
m_ 14 20] false)))))))
(.seq
(.region [
o_ 21 (.fadr 0 (.t 1)),
o_ 22 (.load false 1 (.t 21)),
o_ 23 (.fadr 2 (.t 1)),
o_ 24 (.load false 1 (.t 23)),
o_ 25 (.bin .leq (.t 22) (.t 24)),
m_ 26 25,
g_ 27 (.fadr 1 (.t 1)) 26 true,
g_ 28 (.load false 1 (.t 27)) 26 true,
g_ 29 (.fadr 3 (.t 1)) 26 true,
g_ 30 (.load false 1 (.t 29)) 26 true,
g_ 31 (.bin .leq (.t 28) (.t 30)) 26 true,
o_ 32 (.pick (.t 26) (.t 31) (.c (.bool false))),
m_ 2 32] false)
.ret))),
[.t 2]⟩
theorem ok37 : okFunc Go.Proofs.Try.prog 37 lf37 = true:=by kernel_rfl
def lf39 : LFunc:=Ord.cSrt KI0
theorem ok39 : okFunc Go.Proofs.Try.prog 39 lf39 = true:=by kernel_rfl
def lf40 : LFunc:=⟨61,1,
(.seq
(.region [
o_ 2 (.mv (.c (.nils)))] false)
(.seq
(.seq
(.region [
m_ 6 0,
o_ 7 (.len .sli (.t 6)),
o_ 8 (.bin .lss (.t 7) (.c (.int .i64 2)))] false)
(.cond (.t 8)
(.seq
(.region [
m_ 9 0,
m_ 2 9] false)
.ret)
.skip))
(.seq
(.seq
(.region [
o_ 3 (.mv (.c (.int .i64 1)))] false)
(.block 0
(.loop
(.seq
(.seq
(.region [
m_ 10 3,
m_ 11 0,
o_ 12 (.len .sli (.t 11)),
o_ 13 (.bin .lss (.t 10) (.t 12))] false)
(.cond (.t 13)
.skip
(.exit 0)))
(.seq
(.block 1
(.seq
(.region [
m_ 16 0,
m_ 17 3,
o_ 18 (.idxa 1 (.t 16) (.t 17)),
o_ 19 (.load false 1 (.t 18)),
m_ 20 0,
m_ 21 3,
o_ 22 (.bin .sub (.t 21) (.c (.int .i64 1))),
o_ 23 (.idxa 1 (.t 20) (.t 22)),
o_ 24 (.load false 1 (.t 23)),
o_ 25 (.bin .eql (.t 19) (.t 24))] true)
(.cond (.t 25)
(.seq
(.region [
m_ 26 0,
m_ 27 3,
o_ 28 (.slice 1 (.t 26) (some (.t 27)) none none),
m_ 4 28] false)
(.seq
(.seq
(.region [
o_ 5 (.mv (.c (.int .i64 1)))] false)
(.block 2
(.loop
(.seq
(.seq
(.region [
m_ 29 5,
m_ 30 4,
o_ 31 (.len .sli (.t 30)),
o_ 32 (.bin .lss (.t 29) (.t 31))] false)
(.cond (.t 32)
.skip
(.exit 2)))
(.seq
(.block 3
(.seq
(.region [
m_ 35 4,
m_ 36 5,
o_ 37 (.idxa 1 (.t 35) (.t 36)),
o_ 38 (.load false 1 (.t 37)),
m_ 39 4,
m_ 40 5,
o_ 41 (.bin .sub (.t 40) (.c (.int .i64 1))),
o_ 42 (.idxa 1 (.t 39) (.t 41)),
o_ 43 (.load false 1 (.t 42)),
o_ 44 (.bin .neq (.t 38) (.t 43))] true)
(.cond (.t 44)
(.seq
(.region [
m_ 45 0,
m_ 46 3,
m_ 47 4,
m_ 48 5,
o_ 49 (.idxa 1 (.t 47) (.t 48)),
o_ 50 (.load false 1 (.t 49)),
o_ 51 (.idxa 1 (.t 45) (.t 46)),
⟨none,.store 1 (.t 51) (.t 50),none⟩] false)
(.region [
m_ 52 3,
o_ 53 (.bin .add (.t 52) (.c (.int .i64 1))),
m_ 3 53] false))
.skip)))
(.region [
m_ 33 5,
o_ 34 (.bin .add (.t 33) (.c (.int .i64 1))),
m_ 5 34] false))))))
(.seq
(.region [
m_ 54 0,
m_ 55 3,
o_ 56 (.slice 1 (.t 54) (some (.t 55)) none none),
⟨none,.clr 1 [.int .i64 0] (.t 56),none⟩] false)
(.seq
(.region [
m_ 57 0,
m_ 58 3,
o_ 59 (.slice 1 (.t 57) none (some (.t 58)) none),
m_ 2 59] false)
.ret))))
.skip)))
(.region [
m_ 14 3,
o_ 15 (.bin .add (.t 14) (.c (.int .i64 1))),
m_ 3 15] false))))))
(.seq
(.region [
m_ 60 0,
m_ 2 60] false)
.ret)))),
[.t 2]⟩
theorem ok40 : okFunc Go.Proofs.Try.prog 40 lf40 = true:=by kernel_rfl
def lf41 : LFunc:=⟨8,1,
(.seq
(.region [
o_ 2 (.mv (.c (.nils)))] false)
(.seq
(.seq
(.region [
m_ 3 0,
o_ 4 (.nilS false (.t 3))] false)
(.cond (.t 4)
(.seq
(.region [
o_ 2 (.mv (.c (.nils)))] false)
.ret)
.skip))
(.seq
(.region [
o_ 5 (.bsl 3 0 [.int .i64 0,.int .i64 0,.int .i64 0] []),
m_ 6 0,
o_ 7 (.append 3 24 (.t 5) (.t 6)),
m_ 2 7] false)
.ret))),
[.t 2]⟩
theorem ok41 : okFunc Go.Proofs.Try.prog 41 lf41 = true:=by kernel_rfl
def lf42 : LFunc:=cSrt KS0
theorem ok42 : okFunc Go.Proofs.Try.prog 42 lf42 = true:=by kernel_rfl
def lf43 : LFunc:=⟨10,2,
(.seq
(.region [
o_ 2 (.box 3 (.t 0)),
o_ 3 (.box 3 (.t 1)),
o_ 4 (.mv (.c (.int .i64 0)))] false)
(.seq
(.region [
o_ 5 (.fadr 0 (.t 2)),
o_ 6 (.load false 1 (.t 5)),
o_ 7 (.fadr 0 (.t 3)),
o_ 8 (.load false 1 (.t 7)),
o_ 9 (.call false (.c (.fn 44 [] [])) [.t 6,.t 8]),
m_ 4 9] false)
.ret)),
[.t 4]⟩
theorem ok43 : okFunc Go.Proofs.Try.prog 43 lf43 = true:=by kernel_rfl
def lf44 : LFunc:=⟨20,2,
(.seq
(.region [
o_ 4 (.mv (.c (.int .i64 0)))] false)
(.seq
(.region [
m_ 7 0,
o_ 8 (.call false (.c (.fn 55 [] [])) [.t 7]),
m_ 5 8] false)
(.seq
(.region [
m_ 9 1,
o_ 10 (.call false (.c (.fn 55 [] [])) [.t 9]),
m_ 6 10] false)
(.seq
(.seq
(.region [
m_ 11 5] false)
(.cond (.t 11)
(.seq
(.seq
(.region [
m_ 12 6] false)
(.cond (.t 12)
(.seq
(.region [
o_ 4 (.mv (.c (.int .i64 0)))] false)
.ret)
.skip))
(.seq
(.region [
o_ 4 (.mv (.c (.int .i64 (-1))))] false)
.ret))
.skip))
(.seq
(.seq
(.region [
m_ 13 6] false)
(.cond (.t 13)
(.seq
(.region [
o_ 4 (.mv (.c (.int .i64 1)))] false)
.ret)
.skip))
(.seq
(.seq
(.region [
m_ 14 0,
m_ 15 1,
o_ 16 (.bin .lss (.t 14) (.t 15))] false)
(.cond (.t 16)
(.seq
(.region [
o_ 4 (.mv (.c (.int .i64 (-1))))] false)
.ret)
.skip))
(.seq
(.seq
(.region [
m_ 17 0,
m_ 18 1,
o_ 19 (.bin .gtr (.t 17) (.t 18))] false)
(.cond (.t 19)
(.seq
(.region [
o_ 4 (.mv (.c (.int .i64 1)))] false)
.ret)
.skip))
(.seq
(.region [
o_ 4 (.mv (.c (.int .i64 0)))] false)
.ret)))))))),
[.t 4]⟩
theorem ok44 : okFunc Go.Proofs.Try.prog 44 lf44 = true:=by kernel_rfl
def lf45 : LFunc:=⟨42,2,
(.seq
(.region [
o_ 4 (.mv (.c (.nils)))] false)
(.seq
(.region [
m_ 8 0,
m_ 9 1,
o_ 10 (.call false (.c (.fn 56 [] [])) [.t 8,.t 9]),
m_ 5 10] false)
(.seq
(.seq
(.region [
m_ 11 5,
o_ 12 (.bin .eql (.t 11) (.c (.int .i64 (-1))))] false)
(.cond (.t 12)
(.seq
(.region [
m_ 13 0,
m_ 4 13] false)
.ret)
.skip))
(.seq
(.seq
(.region [
m_ 14 5,
o_ 15 (.bin .add (.t 14) (.c (.int .i64 1))),
m_ 6 15] false)
(.block 0
(.loop
(.seq
(.seq
(.region [
m_ 16 6,
m_ 17 0,
o_ 18 (.len .sli (.t 17)),
o_ 19 (.bin .lss (.t 16) (.t 18))] false)
(.cond (.t 19)
.skip
(.exit 0)))
(.seq
(.block 1
(.seq
(.region [
m_ 22 0,
m_ 23 6,
o_ 24 (.idxa 3 (.t 22) (.t 23)),
o_ 25 (.load true 3 (.t 24)),
o_ 7 (.newv [.int .i64 0,.int .i64 0,.int .i64 0]),
⟨none,.store 3 (.t 7) (.t 25),none⟩] false)
(.seq
(.region [
m_ 26 1,
o_ 27 (.load true 3 (.t 7)),
o_ 28 (.call false (.t 26) [.t 27]),
o_ 29 (.not (.t 28))] false)
(.cond (.t 29)
(.seq
(.region [
m_ 30 0,
m_ 31 5,
o_ 32 (.load true 3 (.t 7)),
o_ 33 (.idxa 3 (.t 30) (.t 31)),
⟨none,.store 3 (.t 33) (.t 32),none⟩] false)
(.region [
m_ 34 5,
o_ 35 (.bin .add (.t 34) (.c (.int .i64 1))),
m_ 5 35] false))
.skip))))
(.region [
m_ 20 6,
o_ 21 (.bin .add (.t 20) (.c (.int .i64 1))),
m_ 6 21] false))))))
(.seq
(.region [
m_ 36 0,
m_ 37 5,
o_ 38 (.slice 3 (.t 36) (some (.t 37)) none none),
⟨none,.clr 3 [.int .i64 0,.int .i64 0,.int .i64 0] (.t 38),none⟩] false)
(.seq
(.region [
m_ 39 0,
m_ 40 5,
o_ 41 (.slice 3 (.t 39) none (some (.t 40)) none),
m_ 4 41] false)
.ret)))))),
[.t 4]⟩
theorem ok45 : okFunc Go.Proofs.Try.prog 45 lf45 = true:=by kernel_rfl
def lf46 : LFunc:=⟨8,2,
(.seq
(.region [
o_ 2 (.box 3 (.t 0)),
o_ 3 (.mv (.c (.bool false)))] false)
(.seq
(.region [
o_ 4 (.fadr 1 (.t 2)),
o_ 5 (.load false 1 (.t 4)),
o_ 6 (.load false 1 (.t 1)),
o_ 7 (.bin .leq (.t 5) (.t 6)),
m_ 3 7] false)
.ret)),
[.t 3]⟩
theorem ok46 : okFunc Go.Proofs.Try.prog 46 lf46 = true:=by kernel_rfl
def lf47 : LFunc:=⟨33,2,
(.seq
(.region [
o_ 4 (.newv [.int .i64 0,.int .i64 0,.int .i64 0])] false)
(.seq
(.seq
(.region [
m_ 7 0,
o_ 8 (.len .sli (.t 7)),
o_ 9 (.bin .lss (.t 8) (.c (.int .i64 1)))] false)
(.cond (.t 9)
(.region [
o_ 10 (.bad),
⟨none,.bad,none⟩] false)
.skip))
(.seq
(.region [
m_ 11 0,
o_ 12 (.idxa 3 (.t 11) (.c (.int .i64 0))),
o_ 13 (.load true 3 (.t 12)),
o_ 5 (.newv [.int .i64 0,.int .i64 0,.int .i64 0]),
⟨none,.store 3 (.t 5) (.t 13),none⟩] false)
(.seq
(.seq
(.region [
o_ 6 (.mv (.c (.int .i64 1)))] false)
(.block 0
(.loop
(.seq
(.seq
(.region [
m_ 14 6,
m_ 15 0,
o_ 16 (.len .sli (.t 15)),
o_ 17 (.bin .lss (.t 14) (.t 16))] false)
(.cond (.t 17)
.skip
(.exit 0)))
(.seq
(.block 1
(.seq
(.region [
m_ 20 1,
m_ 21 0,
m_ 22 6,
o_ 23 (.idxa 3 (.t 21) (.t 22)),
o_ 24 (.load true 3 (.t 23)),
o_ 25 (.load true 3 (.t 5)),
o_ 26 (.call false (.t 20) [.t 24,.t 25]),
o_ 27 (.bin .gtr (.t 26) (.c (.int .i64 0)))] true)
(.cond (.t 27)
(.region [
m_ 28 0,
m_ 29 6,
o_ 30 (.idxa 3 (.t 28) (.t 29)),
o_ 31 (.load true 3 (.t 30)),
⟨none,.store 3 (.t 5) (.t 31),none⟩] false)
.skip)))
(.region [
m_ 18 6,
o_ 19 (.bin .add (.t 18) (.c (.int .i64 1))),
m_ 6 19] false))))))
(.seq
(.region [
o_ 32 (.load true 3 (.t 5)),
⟨none,.store 3 (.t 4) (.t 32),none⟩] false)
.ret))))),
[.cell true 3 4]⟩
theorem ok47 : okFunc Go.Proofs.Try.prog 47 lf47 = true:=by kernel_rfl
def lf48 : LFunc:=⟨10,2,
(.seq
(.region [
o_ 2 (.box 3 (.t 0)),
o_ 3 (.box 3 (.t 1)),
o_ 4 (.mv (.c (.int .i64 0)))] false)
(.seq
(.region [
o_ 5 (.fadr 2 (.t 2)),
o_ 6 (.load false 1 (.t 5)),
o_ 7 (.fadr 2 (.t 3)),
o_ 8 (.load false 1 (.t 7)),
o_ 9 (.call false (.c (.fn 44 [] [])) [.t 6,.t 8]),
m_ 4 9] false)
.ret)),
[.t 4]⟩
theorem ok48 : okFunc Go.Proofs.Try.prog 48 lf48 = true:=by kernel_rfl
def lf49 : LFunc:=⟨27,2,
(.seq
(.region [
o_ 4 (.mv (.c (.nils)))] false)
(.seq
(.seq
(.region [
m_ 5 1,
o_ 6 (.bin .lss (.t 5) (.c (.int .i64 0)))] false)
(.cond (.t 6)
(.region [
o_ 7 (.bad),
⟨none,.bad,none⟩] false)
.skip))
(.seq
(.seq
(.region [
m_ 8 1,
m_ 9 0,
o_ 10 (.capn (.t 9)),
m_ 11 0,
o_ 12 (.len .sli (.t 11)),
o_ 13 (.bin .sub (.t 10) (.t 12)),
o_ 14 (.bin .sub (.t 8) (.t 13)),
m_ 1 14] false)
(.seq
(.region [
m_ 15 1,
o_ 16 (.bin .gtr (.t 15) (.c (.int .i64 0)))] false)
(.cond (.t 16)
(.region [
m_ 17 0,
m_ 18 0,
o_ 19 (.capn (.t 18)),
o_ 20 (.slice 3 (.t 17) none (some (.t 19)) none),
m_ 21 1,
o_ 22 (.appz 3 [.int .i64 0,.int .i64 0,.int .i64 0] 24 (.t 20) (.t 21)),
m_ 23 0,
o_ 24 (.len .sli (.t 23)),
o_ 25 (.slice 3 (.t 22) none (some (.t 24)) none),
m_ 0 25] false)
.skip)))
(.seq
(.region [
m_ 26 0,
m_ 4 26] false)
.ret)))),
[.t 4]⟩
theorem ok49 : okFunc Go.Proofs.Try.prog 49 lf49 = true:=by kernel_rfl
def lf50 : LFunc:=⟨25,1,
(.seq
(.region [
o_ 2 (.mv (.c (.nils)))] false)
(.seq
(.region [
o_ 3 (.own 1)] false)
(.seq
(.seq
(.region [
o_ 4 (.mv (.c (.int .i64 0)))] false)
(.block 0
(.loop
(.seq
(.seq
(.region [
m_ 5 4,
m_ 6 0,
o_ 7 (.len .sli (.t 6)),
o_ 8 (.bin .lss (.t 5) (.t 7))] false)
(.cond (.t 8)
.skip
(.exit 0)))
(.seq
(.block 1
(.regionH [
(m_ 11 3,0,0),
(m_ 12 0,0,1),
(m_ 13 4,0,2),
(o_ 14 (.idxa 3 (.t 12) (.t 13)),0,3),
(o_ 15 (.fadr 0 (.t 14)),0,4),
(o_ 16 (.load false 1 (.t 15)),1,5),
(m_ 18 0,0,7),
(m_ 19 4,0,8),
(o_ 20 (.idxa 3 (.t 18) (.t 19)),0,9),
(o_ 21 (.fadr 1 (.t 20)),0,10),
(o_ 22 (.load false 1 (.t 21)),0,11),
(o_ 17 (.call false (.c (.fn 57 [] [])) [.t 11,.t 16]),2,6),
(o_ 23 (.call false (.c (.fn 57 [] [])) [.t 17,.t 22]),2,12),
(m_ 3 23,0,13)]))
(.region [
m_ 9 4,
o_ 10 (.bin .add (.t 9) (.c (.int .i64 1))),
m_ 4 10] false))))))
(.seq
(.region [
m_ 24 3,
m_ 2 24] false)
.ret)))),
[.t 2]⟩
theorem ok50 : okFunc Go.Proofs.Try.prog 50 lf50 = true:=by kernel_rfl
def lf51 : LFunc:=⟨53,3,
(.seq
(.region [
o_ 6 (.mv (.c (.int .i64 0))),
o_ 7 (.mv (.c (.bool false)))] false)
(.seq
(.region [
o_ 8 (.mv (.c (.int .i64 0))),
o_ 9 (.mv (.c (.bool false)))] false)
(.seq
(.seq
(.region [
o_ 10 (.mv (.c (.int .i64 0)))] false)
(.block 0
(.loop
(.seq
(.seq
(.region [
m_ 11 10,
m_ 12 0,
o_ 13 (.len .sli (.t 12)),
o_ 14 (.bin .lss (.t 11) (.t 13))] false)
(.cond (.t 14)
.skip
(.exit 0)))
(.seq
(.block 1
(.seq
(.region [
m_ 17 0,
m_ 18 10,
o_ 19 (.idxa 3 (.t 17) (.t 18)),
o_ 20 (.fadr 0 (.t 19)),
o_ 21 (.load false 1 (.t 20)),
m_ 22 1,
o_ 23 (.bin .leq (.t 21) (.t 22)),
m_ 24 23,
g_ 25 (.mv (.t 0)) 24 true,
g_ 26 (.mv (.t 10)) 24 true,
g_ 27 (.idxa 3 (.t 25) (.t 26)) 24 true,
g_ 28 (.fadr 1 (.t 27)) 24 true,
g_ 29 (.load false 1 (.t 28)) 24 true,
g_ 30 (.mv (.t 2)) 24 true,
g_ 31 (.bin .geq (.t 29) (.t 30)) 24 true,
o_ 32 (.pick (.t 24) (.t 31) (.c (.bool false))),
m_ 33 32,
g_ 34 (.mv (.t 9)) 33 true,
g_ 35 (.not (.t 34)) 33 true,
g_ 36 (.mv (.t 35)) 33 true,
g_ 37 (.mv (.t 0)) 36 false,
g_ 38 (.mv (.t 10)) 36 false,
g_ 39 (.idxa 3 (.t 37) (.t 38)) 36 false,
g_ 40 (.fadr 2 (.t 39)) 36 false,
g_ 41 (.load false 1 (.t 40)) 36 false,
g_ 42 (.mv (.t 8)) 36 false,
g_ 43 (.bin .gtr (.t 41) (.t 42)) 36 false,
g_ 44 (.pick (.t 36) (.c (.bool true)) (.t 43)) 33 true,
o_ 45 (.pick (.t 33) (.t 44) (.c (.bool false)))] false)
(.cond (.t 45)
(.region [
m_ 46 0,
m_ 47 10,
o_ 48 (.idxa 3 (.t 46) (.t 47)),
o_ 49 (.fadr 2 (.t 48)),
o_ 50 (.load false 1 (.t 49)),
m_ 8 50,
o_ 9 (.mv (.c (.bool true)))] false)
.skip)))
(.region [
m_ 15 10,
o_ 16 (.bin .add (.t 15) (.c (.int .i64 1))),
m_ 10 16] false))))))
(.seq
(.region [
m_ 51 8,
m_ 52 9,
m_ 6 51,
m_ 7 52] false)
.ret)))),
[.t 6,.t 7]⟩
theorem ok51 : okFunc Go.Proofs.Try.prog 51 lf51 = true:=by kernel_rfl
def lf52 : LFunc:=Ord.cPdq KI0
theorem ok52 : okFunc Go.Proofs.Try.prog 52 lf52 = true:=by kernel_rfl
def lf53 : LFunc:=cLen KS0
theorem ok53 : okFunc Go.Proofs.Try.prog 53 lf53 = true:=by kernel_rfl
def lf54 : LFunc:=cPdq KS0
theorem ok54 : okFunc Go.Proofs.Try.prog 54 lf54 = true:=by kernel_rfl
def lf55 : LFunc:=⟨6,1,
(.seq
(.region [
o_ 2 (.mv (.c (.bool false)))] false)
(.seq
(.region [
m_ 3 0,
m_ 4 0,
o_ 5 (.bin .neq (.t 3) (.t 4)),
m_ 2 5] false)
.ret)),
[.t 2]⟩
theorem ok55 : okFunc Go.Proofs.Try.prog 55 lf55 = true:=by kernel_rfl
def lf56 : LFunc:=⟨19,2,
(.seq
(.region [
o_ 4 (.mv (.c (.int .i64 0)))] false)
(.seq
(.seq
(.region [
m_ 6 0,
o_ 7 (.len .sli (.t 6)),
o_ 8 (.mv (.c (.int .i64 0)))] false)
(.block 0
(.loop
(.seq
(.region [
o_ 9 (.bin .lss (.t 8) (.t 7))] false)
(.seq
(.cond (.t 9)
.skip
(.exit 0))
(.seq
(.block 1
(.seq
(.region [
m_ 10 8,
m_ 5 10] false)
(.seq
(.region [
m_ 11 1,
m_ 12 0,
m_ 13 5,
o_ 14 (.idxa 3 (.t 12) (.t 13)),
o_ 15 (.load true 3 (.t 14)),
o_ 16 (.call false (.t 11) [.t 15])] false)
(.cond (.t 16)
(.seq
(.region [
m_ 17 5,
m_ 4 17] false)
.ret)
.skip))))
(.region [
o_ 18 (.bin .add (.t 8) (.c (.int .i64 1))),
m_ 8 18] false)))))))
(.seq
(.region [
o_ 4 (.mv (.c (.int .i64 (-1))))] false)
.ret))),
[.t 4]⟩
theorem ok56 : okFunc Go.Proofs.Try.prog 56 lf56 = true:=by kernel_rfl
def lf57 : LFunc:=⟨58,2,
(.seq
(.region [
o_ 4 (.mv (.c (.nils)))] false)
(.seq
(.region [
o_ 5 (.mv (.c (.int .i64 0)))] false)
(.seq
(.block 0
(.loop
(.seq
(.seq
(.region [
m_ 7 5,
m_ 8 0,
o_ 9 (.len .sli (.t 8)),
o_ 10 (.bin .lss (.t 7) (.t 9)),
m_ 11 10,
g_ 12 (.mv (.t 0)) 11 true,
g_ 13 (.mv (.t 5)) 11 true,
g_ 14 (.idxa 1 (.t 12) (.t 13)) 11 true,
g_ 15 (.load false 1 (.t 14)) 11 true,
g_ 16 (.mv (.t 1)) 11 true,
g_ 17 (.bin .lss (.t 15) (.t 16)) 11 true,
o_ 18 (.pick (.t 11) (.t 17) (.c (.bool false)))] false)
(.cond (.t 18)
.skip
(.exit 0)))
(.block 1
(.region [
m_ 19 5,
o_ 20 (.bin .add (.t 19) (.c (.int .i64 1))),
m_ 5 20] false)))))
(.seq
(.seq
(.region [
m_ 21 5,
m_ 22 0,
o_ 23 (.len .sli (.t 22)),
o_ 24 (.bin .lss (.t 21) (.t 23)),
m_ 25 24,
g_ 26 (.mv (.t 0)) 25 true,
g_ 27 (.mv (.t 5)) 25 true,
g_ 28 (.idxa 1 (.t 26) (.t 27)) 25 true,
g_ 29 (.load false 1 (.t 28)) 25 true,
g_ 30 (.mv (.t 1)) 25 true,
g_ 31 (.bin .eql (.t 29) (.t 30)) 25 true,
o_ 32 (.pick (.t 25) (.t 31) (.c (.bool false)))] false)
(.cond (.t 32)
(.seq
(.region [
m_ 33 0,
m_ 4 33] false)
.ret)
.skip))
(.seq
(.region [
m_ 34 0,
o_ 35 (.btsl 1 1 [.int .i64 0] [(0,.c (.int .i64 0))]),
o_ 36 (.append 1 8 (.t 34) (.t 35)),
m_ 0 36] false)
(.seq
(.seq
(.region [
m_ 37 0,
o_ 38 (.len .sli (.t 37)),
o_ 39 (.bin .sub (.t 38) (.c (.int .i64 1))),
m_ 6 39] false)
(.block 2
(.loop
(.seq
(.seq
(.region [
m_ 40 6,
m_ 41 5,
o_ 42 (.bin .gtr (.t 40) (.t 41))] false)
(.cond (.t 42)
.skip
(.exit 2)))
(.seq
(.block 3
(.region [
m_ 45 0,
m_ 46 6,
m_ 47 0,
m_ 48 6,
o_ 49 (.bin .sub (.t 48) (.c (.int .i64 1))),
o_ 50 (.idxa 1 (.t 47) (.t 49)),
o_ 51 (.load false 1 (.t 50)),
o_ 52 (.idxa 1 (.t 45) (.t 46)),
⟨none,.store 1 (.t 52) (.t 51),none⟩] false))
(.region [
m_ 43 6,
o_ 44 (.bin .sub (.t 43) (.c (.int .i64 1))),
m_ 6 44] false))))))
(.seq
(.region [
m_ 53 0,
m_ 54 5,
m_ 55 1,
o_ 56 (.idxa 1 (.t 53) (.t 54)),
⟨none,.store 1 (.t 56) (.t 55),none⟩] false)
(.seq
(.region [
m_ 57 0,
m_ 4 57] false)
.ret)))))))),
[.t 4]⟩
theorem ok57 : okFunc Go.Proofs.Try.prog 57 lf57 = true:=by kernel_rfl
def lf58 : LFunc:=Ord.cIns KI0
theorem ok58 : okFunc Go.Proofs.Try.prog 58 lf58 = true:=by kernel_rfl
def lf59 : LFunc:=Ord.cHeap KI0
theorem ok59 : okFunc Go.Proofs.Try.prog 59 lf59 = true:=by kernel_rfl
def lf60 : LFunc:=Ord.cBrk KI0
theorem ok60 : okFunc Go.Proofs.Try.prog 60 lf60 = true:=by kernel_rfl
def lf61 : LFunc:=Ord.cPiv KI0
theorem ok61 : okFunc Go.Proofs.Try.prog 61 lf61 = true:=by kernel_rfl
def lf62 : LFunc:=Ord.cRev KI0
theorem ok62 : okFunc Go.Proofs.Try.prog 62 lf62 = true:=by kernel_rfl
def lf63 : LFunc:=Ord.cPar KI0
theorem ok63 : okFunc Go.Proofs.Try.prog 63 lf63 = true:=by kernel_rfl
def lf64 : LFunc:=⟨17,2,
(.seq
(.region [
o_ 4 (.mv (.c (.bool false)))] false)
(.seq
(.region [
m_ 5 0,
o_ 6 (.call false (.c (.fn 55 [] [])) [.t 5]),
m_ 7 6,
g_ 8 (.mv (.t 1)) 7 true,
g_ 9 (.call false (.c (.fn 55 [] [])) [.t 8]) 7 true,
g_ 10 (.not (.t 9)) 7 true,
o_ 11 (.pick (.t 7) (.t 10) (.c (.bool false))),
m_ 12 11,
g_ 13 (.mv (.t 0)) 12 false,
g_ 14 (.mv (.t 1)) 12 false,
g_ 15 (.bin .lss (.t 13) (.t 14)) 12 false,
o_ 16 (.pick (.t 12) (.c (.bool true)) (.t 15)),
m_ 4 16] false)
.ret)),
[.t 4]⟩
theorem ok64 : okFunc Go.Proofs.Try.prog 64 lf64 = true:=by kernel_rfl
def lf65 : LFunc:=Ord.cPeq KI0
theorem ok65 : okFunc Go.Proofs.Try.prog 65 lf65 = true:=by kernel_rfl
def lf66 : LFunc:=Ord.cPrt KI0
theorem ok66 : okFunc Go.Proofs.Try.prog 66 lf66 = true:=by kernel_rfl
def lf67 : LFunc:=cLen32 KS0
theorem ok67 : okFunc Go.Proofs.Try.prog 67 lf67 = true:=by kernel_rfl
def lf68 : LFunc:=cLen64 KS0
theorem ok68 : okFunc Go.Proofs.Try.prog 68 lf68 = true:=by kernel_rfl
def lf69 : LFunc:=cIns KS0
theorem ok69 : okFunc Go.Proofs.Try.prog 69 lf69 = true:=by kernel_rfl
def lf70 : LFunc:=cHeap KS0
theorem ok70 : okFunc Go.Proofs.Try.prog 70 lf70 = true:=by kernel_rfl
def lf71 : LFunc:=cBrk KS0
theorem ok71 : okFunc Go.Proofs.Try.prog 71 lf71 = true:=by kernel_rfl
def lf72 : LFunc:=cPiv KS0
theorem ok72 : okFunc Go.Proofs.Try.prog 72 lf72 = true:=by kernel_rfl
def lf73 : LFunc:=cRev KS0
theorem ok73 : okFunc Go.Proofs.Try.prog 73 lf73 = true:=by kernel_rfl
def lf74 : LFunc:=cPar KS0
theorem ok74 : okFunc Go.Proofs.Try.prog 74 lf74 = true:=by kernel_rfl
def lf75 : LFunc:=cPeq KS0
theorem ok75 : okFunc Go.Proofs.Try.prog 75 lf75 = true:=by kernel_rfl
def lf76 : LFunc:=cPrt KS0
theorem ok76 : okFunc Go.Proofs.Try.prog 76 lf76 = true:=by kernel_rfl
def lf77 : LFunc:=Ord.cSift KI0
theorem ok77 : okFunc Go.Proofs.Try.prog 77 lf77 = true:=by kernel_rfl
def lf78 : LFunc:=cNpo KS0
theorem ok78 : okFunc Go.Proofs.Try.prog 78 lf78 = true:=by kernel_rfl
def lf79 : LFunc:=cNxt KS0
theorem ok79 : okFunc Go.Proofs.Try.prog 79 lf79 = true:=by kernel_rfl
def lf80 : LFunc:=Ord.cMadj KI0
theorem ok80 : okFunc Go.Proofs.Try.prog 80 lf80 = true:=by kernel_rfl
def lf81 : LFunc:=Ord.cMed KI0
theorem ok81 : okFunc Go.Proofs.Try.prog 81 lf81 = true:=by kernel_rfl
def lf82 : LFunc:=cSift KS0
theorem ok82 : okFunc Go.Proofs.Try.prog 82 lf82 = true:=by kernel_rfl
def lf83 : LFunc:=cMadj KS0
theorem ok83 : okFunc Go.Proofs.Try.prog 83 lf83 = true:=by kernel_rfl
def lf84 : LFunc:=cMed KS0
theorem ok84 : okFunc Go.Proofs.Try.prog 84 lf84 = true:=by kernel_rfl
def lf85 : LFunc:=Ord.cOrd KI0
theorem ok85 : okFunc Go.Proofs.Try.prog 85 lf85 = true:=by kernel_rfl
def lf86 : LFunc:=cOrd KS0
theorem ok86 : okFunc Go.Proofs.Try.prog 86 lf86 = true:=by kernel_rfl
end Go.AM.Sk
