/- A part of a proof about the given program: what its name says. No premise beyond the statements'. -/
import Derived.Test.YteiapnjcelnfdaaFC
import Derived.Sort.AssemblyPlain
import Derived.Sort.LotD5
set_option linter.unusedSimpArgs false
set_option linter.unusedVariables false
/- The library's sort by a comparison, in the short form, general over the numbers that its functions have in a program. -/
namespace Go.AM
/-- The numbers of the sort's functions, and how an element lies. -/
structure SK where
  ag : Bool
  sz : Nat
  srt : Nat
  pdq : Nat
  len : Nat
  len32 : Nat
  len64 : Nat
  ins : Nat
  heap : Nat
  brk : Nat
  piv : Nat
  rev : Nat
  par : Nat
  peq : Nat
  prt : Nat
  sift : Nat
  npo : Nat
  nxt : Nat
  madj : Nat
  med : Nat
  ord : Nat

def tab8 : List UInt8 := [0, 1, 2, 2, 3, 3, 3, 3, 4, 4, 4, 4, 4, 4, 4, 4, 5, 5, 5, 5, 5, 5, 5, 5, 5, 5, 5, 5, 5, 5, 5, 5, 6, 6, 6, 6, 6, 6, 6, 6, 6, 6, 6, 6, 6, 6, 6, 6, 6, 6, 6, 6, 6, 6, 6, 6, 6, 6, 6, 6, 6, 6, 6, 6, 7, 7, 7, 7, 7, 7, 7, 7, 7, 7, 7, 7, 7, 7, 7, 7, 7, 7, 7, 7, 7, 7, 7, 7, 7, 7, 7, 7, 7, 7, 7, 7, 7, 7, 7, 7, 7, 7, 7, 7, 7, 7, 7, 7, 7, 7, 7, 7, 7, 7, 7, 7, 7, 7, 7, 7, 7, 7, 7, 7, 7, 7, 7, 7, 8, 8, 8, 8, 8, 8, 8, 8, 8, 8, 8, 8, 8, 8, 8, 8, 8, 8, 8, 8, 8, 8, 8, 8, 8, 8, 8, 8, 8, 8, 8, 8, 8, 8, 8, 8, 8, 8, 8, 8, 8, 8, 8, 8, 8, 8, 8, 8, 8, 8, 8, 8, 8, 8, 8, 8, 8, 8, 8, 8, 8, 8, 8, 8, 8, 8, 8, 8, 8, 8, 8, 8, 8, 8, 8, 8, 8, 8, 8, 8, 8, 8, 8, 8, 8, 8, 8, 8, 8, 8, 8, 8, 8, 8, 8, 8, 8, 8, 8, 8, 8, 8, 8, 8, 8, 8, 8, 8, 8, 8, 8, 8, 8, 8, 8, 8, 8, 8, 8, 8, 8, 8, 8, 8, 8, 8, 8, 8]
def tab8S : ByteArray := ⟨tab8.toArray⟩

def cSrt (K : SK) : LFunc := ⟨14, 2,
 (.seq
  (.region [
    ⟨(some 5), .mv (.t 0), none⟩,
    ⟨(some 6), .len .sli (.t 5), none⟩,
    ⟨(some 4), .mv (.t 6), none⟩] false)
  (.region [
    ⟨(some 7), .mv (.t 0), none⟩,
    ⟨(some 8), .mv (.t 4), none⟩,
    ⟨(some 9), .mv (.t 4), none⟩,
    ⟨(some 10), .conv .u64 (.t 9), none⟩,
    ⟨(some 11), .call false (.c (.fn K.len [] [])) [.t 10], none⟩,
    ⟨(some 12), .mv (.t 1), none⟩,
    ⟨(some 13), .call false (.c (.fn K.pdq [] [])) [.t 7, .c (.int .i64 0), .t 8, .t 11, .t 12], none⟩] false)),
 []⟩

def cPdq (K : SK) : LFunc := ⟨148, 5,
 (.seq
  (.region [
    ⟨(some 10), .mv (.c (.bool true)), none⟩] false)
  (.seq
   (.region [
     ⟨(some 11), .mv (.c (.bool true)), none⟩] false)
   (.block 0
    (.loop
     (.block 1
      (.seq
       (.region [
         ⟨(some 21), .mv (.t 2), none⟩,
         ⟨(some 22), .mv (.t 1), none⟩,
         ⟨(some 23), .bin .sub (.t 21) (.t 22), none⟩,
         ⟨(some 12), .mv (.t 23), none⟩] false)
       (.seq
        (.seq
         (.region [
           ⟨(some 24), .mv (.t 12), none⟩,
           ⟨(some 25), .bin .leq (.t 24) (.c (.int .i64 12)), none⟩] false)
         (.cond (.t 25)
          (.seq
           (.region [
             ⟨(some 26), .mv (.t 0), none⟩,
             ⟨(some 27), .mv (.t 1), none⟩,
             ⟨(some 28), .mv (.t 2), none⟩,
             ⟨(some 29), .mv (.t 4), none⟩,
             ⟨(some 30), .call false (.c (.fn K.ins [] [])) [.t 26, .t 27, .t 28, .t 29], none⟩] false)
           .ret)
          .skip))
        (.seq
         (.seq
          (.region [
            ⟨(some 31), .mv (.t 3), none⟩,
            ⟨(some 32), .bin .eql (.t 31) (.c (.int .i64 0)), none⟩] false)
          (.cond (.t 32)
           (.seq
            (.region [
              ⟨(some 33), .mv (.t 0), none⟩,
              ⟨(some 34), .mv (.t 1), none⟩,
              ⟨(some 35), .mv (.t 2), none⟩,
              ⟨(some 36), .mv (.t 4), none⟩,
              ⟨(some 37), .call false (.c (.fn K.heap [] [])) [.t 33, .t 34, .t 35, .t 36], none⟩] false)
            .ret)
           .skip))
         (.seq
          (.seq
           (.region [
             ⟨(some 38), .mv (.t 10), none⟩,
             ⟨(some 39), .not (.t 38), none⟩] false)
           (.cond (.t 39)
            (.seq
             (.region [
               ⟨(some 40), .mv (.t 0), none⟩,
               ⟨(some 41), .mv (.t 1), none⟩,
               ⟨(some 42), .mv (.t 2), none⟩,
               ⟨(some 43), .mv (.t 4), none⟩,
               ⟨(some 44), .call false (.c (.fn K.brk [] [])) [.t 40, .t 41, .t 42, .t 43], none⟩] false)
             (.region [
               ⟨(some 45), .mv (.t 3), none⟩,
               ⟨(some 46), .bin .sub (.t 45) (.c (.int .i64 1)), none⟩,
               ⟨(some 3), .mv (.t 46), none⟩] false))
            .skip))
          (.seq
           (.region [
             ⟨(some 48), .mv (.t 0), none⟩,
             ⟨(some 49), .mv (.t 1), none⟩,
             ⟨(some 50), .mv (.t 2), none⟩,
             ⟨(some 51), .mv (.t 4), none⟩,
             ⟨(some 52), .call false (.c (.fn K.piv [] [])) [.t 48, .t 49, .t 50, .t 51], none⟩,
             ⟨(some 47), .mv (.t 52), none⟩,
             ⟨(some 53), .extract (.t 47) 0, none⟩,
             ⟨(some 54), .extract (.t 47) 1, none⟩,
             ⟨(some 13), .mv (.t 53), none⟩,
             ⟨(some 14), .mv (.t 54), none⟩] false)
           (.seq
            (.seq
             (.region [
               ⟨(some 55), .mv (.t 14), none⟩,
               ⟨(some 56), .bin .eql (.t 55) (.c (.int .i64 2)), none⟩] false)
             (.cond (.t 56)
              (.seq
               (.region [
                 ⟨(some 57), .mv (.t 0), none⟩,
                 ⟨(some 58), .mv (.t 1), none⟩,
                 ⟨(some 59), .mv (.t 2), none⟩,
                 ⟨(some 60), .mv (.t 4), none⟩,
                 ⟨(some 61), .call false (.c (.fn K.rev [] [])) [.t 57, .t 58, .t 59, .t 60], none⟩] false)
               (.seq
                (.region [
                  ⟨(some 62), .mv (.t 2), none⟩,
                  ⟨(some 63), .bin .sub (.t 62) (.c (.int .i64 1)), none⟩,
                  ⟨(some 64), .mv (.t 13), none⟩,
                  ⟨(some 65), .mv (.t 1), none⟩,
                  ⟨(some 66), .bin .sub (.t 64) (.t 65), none⟩,
                  ⟨(some 67), .bin .sub (.t 63) (.t 66), none⟩,
                  ⟨(some 13), .mv (.t 67), none⟩] false)
                (.region [
                  ⟨(some 14), .mv (.c (.int .i64 1)), none⟩] false)))
              .skip))
            (.seq
             (.seq
              (.region [
                ⟨(some 68), .mv (.t 10), none⟩,
                ⟨(some 69), .mv (.t 68), none⟩,
                ⟨(some 70), .mv (.t 11), (some (69, true))⟩,
                ⟨(some 71), .pick (.t 69) (.t 70) (.c (.bool false)), none⟩,
                ⟨(some 72), .mv (.t 71), none⟩,
                ⟨(some 73), .mv (.t 14), (some (72, true))⟩,
                ⟨(some 74), .bin .eql (.t 73) (.c (.int .i64 1)), (some (72, true))⟩,
                ⟨(some 75), .pick (.t 72) (.t 74) (.c (.bool false)), none⟩] false)
              (.cond (.t 75)
               (.seq
                (.region [
                  ⟨(some 76), .mv (.t 0), none⟩,
                  ⟨(some 77), .mv (.t 1), none⟩,
                  ⟨(some 78), .mv (.t 2), none⟩,
                  ⟨(some 79), .mv (.t 4), none⟩,
                  ⟨(some 80), .call false (.c (.fn K.par [] [])) [.t 76, .t 77, .t 78, .t 79], none⟩] false)
                (.cond (.t 80)
                 .ret
                 .skip))
               .skip))
             (.seq
              (.seq
               (.region [
                 ⟨(some 81), .mv (.t 1), none⟩,
                 ⟨(some 82), .bin .gtr (.t 81) (.c (.int .i64 0)), none⟩,
                 ⟨(some 83), .mv (.t 82), none⟩,
                 ⟨(some 84), .mv (.t 4), (some (83, true))⟩,
                 ⟨(some 85), .mv (.t 0), (some (83, true))⟩,
                 ⟨(some 86), .mv (.t 1), (some (83, true))⟩,
                 ⟨(some 87), .bin .sub (.t 86) (.c (.int .i64 1)), (some (83, true))⟩,
                 ⟨(some 88), .idxa K.sz (.t 85) (.t 87), (some (83, true))⟩,
                 ⟨(some 89), .load K.ag K.sz (.t 88), (some (83, true))⟩,
                 ⟨(some 90), .mv (.t 0), (some (83, true))⟩,
                 ⟨(some 91), .mv (.t 13), (some (83, true))⟩,
                 ⟨(some 92), .idxa K.sz (.t 90) (.t 91), (some (83, true))⟩,
                 ⟨(some 93), .load K.ag K.sz (.t 92), (some (83, true))⟩,
                 ⟨(some 94), .call false (.t 84) [.t 89, .t 93], (some (83, true))⟩,
                 ⟨(some 95), .bin .lss (.t 94) (.c (.int .i64 0)), (some (83, true))⟩,
                 ⟨(some 96), .not (.t 95), (some (83, true))⟩,
                 ⟨(some 97), .pick (.t 83) (.t 96) (.c (.bool false)), none⟩] true)
               (.cond (.t 97)
                (.seq
                 (.region [
                   ⟨(some 98), .mv (.t 0), none⟩,
                   ⟨(some 99), .mv (.t 1), none⟩,
                   ⟨(some 100), .mv (.t 2), none⟩,
                   ⟨(some 101), .mv (.t 13), none⟩,
                   ⟨(some 102), .mv (.t 4), none⟩,
                   ⟨(some 103), .call false (.c (.fn K.peq [] [])) [.t 98, .t 99, .t 100, .t 101, .t 102], none⟩,
                   ⟨(some 15), .mv (.t 103), none⟩] false)
                 (.seq
                  (.region [
                    ⟨(some 104), .mv (.t 15), none⟩,
                    ⟨(some 1), .mv (.t 104), none⟩] false)
                  (.exit 1)))
                .skip))
              (.seq
               (.region [
                 ⟨(some 106), .mv (.t 0), none⟩,
                 ⟨(some 107), .mv (.t 1), none⟩,
                 ⟨(some 108), .mv (.t 2), none⟩,
                 ⟨(some 109), .mv (.t 13), none⟩,
                 ⟨(some 110), .mv (.t 4), none⟩,
                 ⟨(some 111), .call false (.c (.fn K.prt [] [])) [.t 106, .t 107, .t 108, .t 109, .t 110], none⟩,
                 ⟨(some 105), .mv (.t 111), none⟩,
                 ⟨(some 112), .extract (.t 105) 0, none⟩,
                 ⟨(some 113), .extract (.t 105) 1, none⟩,
                 ⟨(some 16), .mv (.t 112), none⟩,
                 ⟨(some 17), .mv (.t 113), none⟩] false)
               (.seq
                (.region [
                  ⟨(some 114), .mv (.t 17), none⟩,
                  ⟨(some 11), .mv (.t 114), none⟩] false)
                (.seq
                 (.region [
                   ⟨(some 115), .mv (.t 16), none⟩,
                   ⟨(some 116), .mv (.t 1), none⟩,
                   ⟨(some 117), .bin .sub (.t 115) (.t 116), none⟩,
                   ⟨(some 118), .mv (.t 2), none⟩,
                   ⟨(some 119), .mv (.t 16), none⟩,
                   ⟨(some 120), .bin .sub (.t 118) (.t 119), none⟩,
                   ⟨(some 18), .mv (.t 117), none⟩,
                   ⟨(some 19), .mv (.t 120), none⟩] false)
                 (.seq
                  (.region [
                    ⟨(some 121), .mv (.t 12), none⟩,
                    ⟨(some 122), .bin .quo (.t 121) (.c (.int .i64 8)), none⟩,
                    ⟨(some 20), .mv (.t 122), none⟩] false)
                  (.seq
                   (.region [
                     ⟨(some 123), .mv (.t 18), none⟩,
                     ⟨(some 124), .mv (.t 19), none⟩,
                     ⟨(some 125), .bin .lss (.t 123) (.t 124), none⟩] false)
                   (.cond (.t 125)
                    (.seq
                     (.region [
                       ⟨(some 126), .mv (.t 18), none⟩,
                       ⟨(some 127), .mv (.t 20), none⟩,
                       ⟨(some 128), .bin .geq (.t 126) (.t 127), none⟩,
                       ⟨(some 10), .mv (.t 128), none⟩] false)
                     (.seq
                      (.region [
                        ⟨(some 129), .mv (.t 0), none⟩,
                        ⟨(some 130), .mv (.t 1), none⟩,
                        ⟨(some 131), .mv (.t 16), none⟩,
                        ⟨(some 132), .mv (.t 3), none⟩,
                        ⟨(some 133), .mv (.t 4), none⟩,
                        ⟨(some 134), .call false (.c (.fn K.pdq [] [])) [.t 129, .t 130, .t 131, .t 132, .t 133], none⟩] false)
                      (.region [
                        ⟨(some 135), .mv (.t 16), none⟩,
                        ⟨(some 136), .bin .add (.t 135) (.c (.int .i64 1)), none⟩,
                        ⟨(some 1), .mv (.t 136), none⟩] false)))
                    (.seq
                     (.region [
                       ⟨(some 137), .mv (.t 19), none⟩,
                       ⟨(some 138), .mv (.t 20), none⟩,
                       ⟨(some 139), .bin .geq (.t 137) (.t 138), none⟩,
                       ⟨(some 10), .mv (.t 139), none⟩] false)
                     (.seq
                      (.region [
                        ⟨(some 140), .mv (.t 0), none⟩,
                        ⟨(some 141), .mv (.t 16), none⟩,
                        ⟨(some 142), .bin .add (.t 141) (.c (.int .i64 1)), none⟩,
                        ⟨(some 143), .mv (.t 2), none⟩,
                        ⟨(some 144), .mv (.t 3), none⟩,
                        ⟨(some 145), .mv (.t 4), none⟩,
                        ⟨(some 146), .call false (.c (.fn K.pdq [] [])) [.t 140, .t 142, .t 143, .t 144, .t 145], none⟩] false)
                      (.region [
                        ⟨(some 147), .mv (.t 16), none⟩,
                        ⟨(some 2), .mv (.t 147), none⟩] false)))))))))))))))))))))),
 []⟩

def cLen (K : SK) : LFunc := ⟨8, 1,
 (.seq
  (.region [
    ⟨(some 2), .mv (.c (.int .i64 0)), none⟩] false)
  (.seq
   (.cond (.c (.bool false))
    (.seq
     (.region [
       ⟨(some 3), .mv (.t 0), none⟩,
       ⟨(some 4), .conv .u32 (.t 3), none⟩,
       ⟨(some 5), .call false (.c (.fn K.len32 [] [])) [.t 4], none⟩,
       ⟨(some 2), .mv (.t 5), none⟩] false)
     .ret)
    .skip)
   (.seq
    (.region [
      ⟨(some 6), .mv (.t 0), none⟩,
      ⟨(some 7), .call false (.c (.fn K.len64 [] [])) [.t 6], none⟩,
      ⟨(some 2), .mv (.t 7), none⟩] false)
    .ret))),
 [.t 2]⟩

def cIns (K : SK) : LFunc := ⟨53, 4,
 (.seq
  (.region [
    ⟨(some 10), .mv (.t 1), none⟩,
    ⟨(some 11), .bin .add (.t 10) (.c (.int .i64 1)), none⟩,
    ⟨(some 8), .mv (.t 11), none⟩] false)
  (.block 0
   (.loop
    (.seq
     (.seq
      (.region [
        ⟨(some 12), .mv (.t 8), none⟩,
        ⟨(some 13), .mv (.t 2), none⟩,
        ⟨(some 14), .bin .lss (.t 12) (.t 13), none⟩] false)
      (.cond (.t 14)
       .skip
       (.exit 0)))
     (.seq
      (.block 1
       (.seq
        (.region [
          ⟨(some 17), .mv (.t 8), none⟩,
          ⟨(some 9), .mv (.t 17), none⟩] false)
        (.block 2
         (.loop
          (.seq
           (.seq
            (.region [
              ⟨(some 18), .mv (.t 9), none⟩,
              ⟨(some 19), .mv (.t 1), none⟩,
              ⟨(some 20), .bin .gtr (.t 18) (.t 19), none⟩,
              ⟨(some 21), .mv (.t 20), none⟩,
              ⟨(some 22), .mv (.t 3), (some (21, true))⟩,
              ⟨(some 23), .mv (.t 0), (some (21, true))⟩,
              ⟨(some 24), .mv (.t 9), (some (21, true))⟩,
              ⟨(some 25), .idxa K.sz (.t 23) (.t 24), (some (21, true))⟩,
              ⟨(some 26), .load K.ag K.sz (.t 25), (some (21, true))⟩,
              ⟨(some 27), .mv (.t 0), (some (21, true))⟩,
              ⟨(some 28), .mv (.t 9), (some (21, true))⟩,
              ⟨(some 29), .bin .sub (.t 28) (.c (.int .i64 1)), (some (21, true))⟩,
              ⟨(some 30), .idxa K.sz (.t 27) (.t 29), (some (21, true))⟩,
              ⟨(some 31), .load K.ag K.sz (.t 30), (some (21, true))⟩,
              ⟨(some 32), .call false (.t 22) [.t 26, .t 31], (some (21, true))⟩,
              ⟨(some 33), .bin .lss (.t 32) (.c (.int .i64 0)), (some (21, true))⟩,
              ⟨(some 34), .pick (.t 21) (.t 33) (.c (.bool false)), none⟩] true)
            (.cond (.t 34)
             .skip
             (.exit 2)))
           (.seq
            (.block 3
             (.region [
               ⟨(some 37), .mv (.t 0), none⟩,
               ⟨(some 38), .mv (.t 9), none⟩,
               ⟨(some 39), .mv (.t 0), none⟩,
               ⟨(some 40), .mv (.t 9), none⟩,
               ⟨(some 41), .bin .sub (.t 40) (.c (.int .i64 1)), none⟩,
               ⟨(some 42), .mv (.t 0), none⟩,
               ⟨(some 43), .mv (.t 9), none⟩,
               ⟨(some 44), .bin .sub (.t 43) (.c (.int .i64 1)), none⟩,
               ⟨(some 45), .idxa K.sz (.t 42) (.t 44), none⟩,
               ⟨(some 46), .load K.ag K.sz (.t 45), none⟩,
               ⟨(some 47), .mv (.t 0), none⟩,
               ⟨(some 48), .mv (.t 9), none⟩,
               ⟨(some 49), .idxa K.sz (.t 47) (.t 48), none⟩,
               ⟨(some 50), .load K.ag K.sz (.t 49), none⟩,
               ⟨(some 51), .idxa K.sz (.t 37) (.t 38), none⟩,
               ⟨none, .store K.sz (.t 51) (.t 46), none⟩,
               ⟨(some 52), .idxa K.sz (.t 39) (.t 41), none⟩,
               ⟨none, .store K.sz (.t 52) (.t 50), none⟩] true))
            (.region [
              ⟨(some 35), .mv (.t 9), none⟩,
              ⟨(some 36), .bin .sub (.t 35) (.c (.int .i64 1)), none⟩,
              ⟨(some 9), .mv (.t 36), none⟩] false)))))))
      (.region [
        ⟨(some 15), .mv (.t 8), none⟩,
        ⟨(some 16), .bin .add (.t 15) (.c (.int .i64 1)), none⟩,
        ⟨(some 8), .mv (.t 16), none⟩] false)))))),
 []⟩

def cHeap (K : SK) : LFunc := ⟨60, 4,
 (.seq
  (.region [
    ⟨(some 13), .mv (.t 1), none⟩,
    ⟨(some 8), .mv (.t 13), none⟩] false)
  (.seq
   (.region [
     ⟨(some 9), .mv (.c (.int .i64 0)), none⟩] false)
   (.seq
    (.region [
      ⟨(some 14), .mv (.t 2), none⟩,
      ⟨(some 15), .mv (.t 1), none⟩,
      ⟨(some 16), .bin .sub (.t 14) (.t 15), none⟩,
      ⟨(some 10), .mv (.t 16), none⟩] false)
    (.seq
     (.seq
      (.region [
        ⟨(some 17), .mv (.t 10), none⟩,
        ⟨(some 18), .bin .sub (.t 17) (.c (.int .i64 1)), none⟩,
        ⟨(some 19), .bin .quo (.t 18) (.c (.int .i64 2)), none⟩,
        ⟨(some 11), .mv (.t 19), none⟩] false)
      (.block 0
       (.loop
        (.seq
         (.seq
          (.region [
            ⟨(some 20), .mv (.t 11), none⟩,
            ⟨(some 21), .bin .geq (.t 20) (.c (.int .i64 0)), none⟩] false)
          (.cond (.t 21)
           .skip
           (.exit 0)))
         (.seq
          (.block 1
           (.region [
             ⟨(some 24), .mv (.t 0), none⟩,
             ⟨(some 25), .mv (.t 11), none⟩,
             ⟨(some 26), .mv (.t 10), none⟩,
             ⟨(some 27), .mv (.t 8), none⟩,
             ⟨(some 28), .mv (.t 3), none⟩,
             ⟨(some 29), .call false (.c (.fn K.sift [] [])) [.t 24, .t 25, .t 26, .t 27, .t 28], none⟩] false))
          (.region [
            ⟨(some 22), .mv (.t 11), none⟩,
            ⟨(some 23), .bin .sub (.t 22) (.c (.int .i64 1)), none⟩,
            ⟨(some 11), .mv (.t 23), none⟩] false))))))
     (.seq
      (.region [
        ⟨(some 30), .mv (.t 10), none⟩,
        ⟨(some 31), .bin .sub (.t 30) (.c (.int .i64 1)), none⟩,
        ⟨(some 12), .mv (.t 31), none⟩] false)
      (.block 2
       (.loop
        (.seq
         (.seq
          (.region [
            ⟨(some 32), .mv (.t 12), none⟩,
            ⟨(some 33), .bin .geq (.t 32) (.c (.int .i64 0)), none⟩] false)
          (.cond (.t 33)
           .skip
           (.exit 2)))
         (.seq
          (.block 3
           (.seq
            (.region [
              ⟨(some 36), .mv (.t 0), none⟩,
              ⟨(some 37), .mv (.t 8), none⟩,
              ⟨(some 38), .mv (.t 0), none⟩,
              ⟨(some 39), .mv (.t 8), none⟩,
              ⟨(some 40), .mv (.t 12), none⟩,
              ⟨(some 41), .bin .add (.t 39) (.t 40), none⟩,
              ⟨(some 42), .mv (.t 0), none⟩,
              ⟨(some 43), .mv (.t 8), none⟩,
              ⟨(some 44), .mv (.t 12), none⟩,
              ⟨(some 45), .bin .add (.t 43) (.t 44), none⟩,
              ⟨(some 46), .idxa K.sz (.t 42) (.t 45), none⟩,
              ⟨(some 47), .load K.ag K.sz (.t 46), none⟩,
              ⟨(some 48), .mv (.t 0), none⟩,
              ⟨(some 49), .mv (.t 8), none⟩,
              ⟨(some 50), .idxa K.sz (.t 48) (.t 49), none⟩,
              ⟨(some 51), .load K.ag K.sz (.t 50), none⟩,
              ⟨(some 52), .idxa K.sz (.t 36) (.t 37), none⟩,
              ⟨none, .store K.sz (.t 52) (.t 47), none⟩,
              ⟨(some 53), .idxa K.sz (.t 38) (.t 41), none⟩,
              ⟨none, .store K.sz (.t 53) (.t 51), none⟩] true)
            (.region [
              ⟨(some 54), .mv (.t 0), none⟩,
              ⟨(some 55), .mv (.t 9), none⟩,
              ⟨(some 56), .mv (.t 12), none⟩,
              ⟨(some 57), .mv (.t 8), none⟩,
              ⟨(some 58), .mv (.t 3), none⟩,
              ⟨(some 59), .call false (.c (.fn K.sift [] [])) [.t 54, .t 55, .t 56, .t 57, .t 58], none⟩] false)))
          (.region [
            ⟨(some 34), .mv (.t 12), none⟩,
            ⟨(some 35), .bin .sub (.t 34) (.c (.int .i64 1)), none⟩,
            ⟨(some 12), .mv (.t 35), none⟩] false)))))))))),
 []⟩

def cBrk (K : SK) : LFunc := ⟨67, 4,
 (.seq
  (.region [
    ⟨(some 13), .mv (.t 2), none⟩,
    ⟨(some 14), .mv (.t 1), none⟩,
    ⟨(some 15), .bin .sub (.t 13) (.t 14), none⟩,
    ⟨(some 8), .mv (.t 15), none⟩] false)
  (.seq
   (.region [
     ⟨(some 16), .mv (.t 8), none⟩,
     ⟨(some 17), .bin .geq (.t 16) (.c (.int .i64 8)), none⟩] false)
   (.cond (.t 17)
    (.seq
     (.region [
       ⟨(some 18), .mv (.t 8), none⟩,
       ⟨(some 19), .conv .u64 (.t 18), none⟩,
       ⟨(some 9), .newv [.int .u64 0], none⟩,
       ⟨none, .store 1 (.t 9) (.t 19), none⟩] false)
     (.seq
      (.region [
        ⟨(some 20), .mv (.t 8), none⟩,
        ⟨(some 21), .call false (.c (.fn K.npo [] [])) [.t 20], none⟩,
        ⟨(some 10), .mv (.t 21), none⟩] false)
      (.seq
       (.region [
         ⟨(some 22), .mv (.t 1), none⟩,
         ⟨(some 23), .mv (.t 8), none⟩,
         ⟨(some 24), .bin .quo (.t 23) (.c (.int .i64 4)), none⟩,
         ⟨(some 25), .bin .mul (.t 24) (.c (.int .i64 2)), none⟩,
         ⟨(some 26), .bin .add (.t 22) (.t 25), none⟩,
         ⟨(some 27), .bin .sub (.t 26) (.c (.int .i64 1)), none⟩,
         ⟨(some 11), .mv (.t 27), none⟩] false)
       (.block 0
        (.loop
         (.seq
          (.seq
           (.region [
             ⟨(some 28), .mv (.t 11), none⟩,
             ⟨(some 29), .mv (.t 1), none⟩,
             ⟨(some 30), .mv (.t 8), none⟩,
             ⟨(some 31), .bin .quo (.t 30) (.c (.int .i64 4)), none⟩,
             ⟨(some 32), .bin .mul (.t 31) (.c (.int .i64 2)), none⟩,
             ⟨(some 33), .bin .add (.t 29) (.t 32), none⟩,
             ⟨(some 34), .bin .add (.t 33) (.c (.int .i64 1)), none⟩,
             ⟨(some 35), .bin .leq (.t 28) (.t 34), none⟩] false)
           (.cond (.t 35)
            .skip
            (.exit 0)))
          (.seq
           (.block 1
            (.seq
             (.region [
               ⟨(some 38), .call false (.c (.fn K.nxt [] [])) [.t 9], none⟩,
               ⟨(some 39), .mv (.t 10), none⟩,
               ⟨(some 40), .bin .sub (.t 39) (.c (.int .u64 1)), none⟩,
               ⟨(some 41), .bin .and (.t 38) (.t 40), none⟩,
               ⟨(some 42), .conv .i64 (.t 41), none⟩,
               ⟨(some 12), .mv (.t 42), none⟩] false)
             (.seq
              (.seq
               (.region [
                 ⟨(some 43), .mv (.t 12), none⟩,
                 ⟨(some 44), .mv (.t 8), none⟩,
                 ⟨(some 45), .bin .geq (.t 43) (.t 44), none⟩] false)
               (.cond (.t 45)
                (.region [
                  ⟨(some 46), .mv (.t 12), none⟩,
                  ⟨(some 47), .mv (.t 8), none⟩,
                  ⟨(some 48), .bin .sub (.t 46) (.t 47), none⟩,
                  ⟨(some 12), .mv (.t 48), none⟩] false)
                .skip))
              (.region [
                ⟨(some 49), .mv (.t 0), none⟩,
                ⟨(some 50), .mv (.t 11), none⟩,
                ⟨(some 51), .mv (.t 0), none⟩,
                ⟨(some 52), .mv (.t 1), none⟩,
                ⟨(some 53), .mv (.t 12), none⟩,
                ⟨(some 54), .bin .add (.t 52) (.t 53), none⟩,
                ⟨(some 55), .mv (.t 0), none⟩,
                ⟨(some 56), .mv (.t 1), none⟩,
                ⟨(some 57), .mv (.t 12), none⟩,
                ⟨(some 58), .bin .add (.t 56) (.t 57), none⟩,
                ⟨(some 59), .idxa K.sz (.t 55) (.t 58), none⟩,
                ⟨(some 60), .load K.ag K.sz (.t 59), none⟩,
                ⟨(some 61), .mv (.t 0), none⟩,
                ⟨(some 62), .mv (.t 11), none⟩,
                ⟨(some 63), .idxa K.sz (.t 61) (.t 62), none⟩,
                ⟨(some 64), .load K.ag K.sz (.t 63), none⟩,
                ⟨(some 65), .idxa K.sz (.t 49) (.t 50), none⟩,
                ⟨none, .store K.sz (.t 65) (.t 60), none⟩,
                ⟨(some 66), .idxa K.sz (.t 51) (.t 54), none⟩,
                ⟨none, .store K.sz (.t 66) (.t 64), none⟩] true))))
           (.region [
             ⟨(some 36), .mv (.t 11), none⟩,
             ⟨(some 37), .bin .add (.t 36) (.c (.int .i64 1)), none⟩,
             ⟨(some 11), .mv (.t 37), none⟩] false))))))))
    .skip))),
 []⟩

def cPiv (K : SK) : LFunc := ⟨63, 4,
 (.seq
  (.region [
    ⟨(some 8), .mv (.c (.int .i64 0)), none⟩,
    ⟨(some 9), .mv (.c (.int .i64 0)), none⟩] false)
  (.seq
   (.region [
     ⟨(some 15), .mv (.t 2), none⟩,
     ⟨(some 16), .mv (.t 1), none⟩,
     ⟨(some 17), .bin .sub (.t 15) (.t 16), none⟩,
     ⟨(some 10), .mv (.t 17), none⟩] false)
   (.seq
    (.region [
      ⟨(some 11), .newv [.int .i64 0], none⟩] false)
    (.seq
     (.region [
       ⟨(some 18), .mv (.t 1), none⟩,
       ⟨(some 19), .mv (.t 10), none⟩,
       ⟨(some 20), .bin .quo (.t 19) (.c (.int .i64 4)), none⟩,
       ⟨(some 21), .bin .mul (.t 20) (.c (.int .i64 1)), none⟩,
       ⟨(some 22), .bin .add (.t 18) (.t 21), none⟩,
       ⟨(some 12), .mv (.t 22), none⟩] false)
     (.seq
      (.region [
        ⟨(some 23), .mv (.t 1), none⟩,
        ⟨(some 24), .mv (.t 10), none⟩,
        ⟨(some 25), .bin .quo (.t 24) (.c (.int .i64 4)), none⟩,
        ⟨(some 26), .bin .mul (.t 25) (.c (.int .i64 2)), none⟩,
        ⟨(some 27), .bin .add (.t 23) (.t 26), none⟩,
        ⟨(some 13), .mv (.t 27), none⟩] false)
      (.seq
       (.region [
         ⟨(some 28), .mv (.t 1), none⟩,
         ⟨(some 29), .mv (.t 10), none⟩,
         ⟨(some 30), .bin .quo (.t 29) (.c (.int .i64 4)), none⟩,
         ⟨(some 31), .bin .mul (.t 30) (.c (.int .i64 3)), none⟩,
         ⟨(some 32), .bin .add (.t 28) (.t 31), none⟩,
         ⟨(some 14), .mv (.t 32), none⟩] false)
       (.seq
        (.seq
         (.region [
           ⟨(some 33), .mv (.t 10), none⟩,
           ⟨(some 34), .bin .geq (.t 33) (.c (.int .i64 8)), none⟩] false)
         (.cond (.t 34)
          (.seq
           (.seq
            (.region [
              ⟨(some 35), .mv (.t 10), none⟩,
              ⟨(some 36), .bin .geq (.t 35) (.c (.int .i64 50)), none⟩] false)
            (.cond (.t 36)
             (.seq
              (.region [
                ⟨(some 37), .mv (.t 0), none⟩,
                ⟨(some 38), .mv (.t 12), none⟩,
                ⟨(some 39), .mv (.t 3), none⟩,
                ⟨(some 40), .call false (.c (.fn K.madj [] [])) [.t 37, .t 38, .t 11, .t 39], none⟩,
                ⟨(some 12), .mv (.t 40), none⟩] false)
              (.seq
               (.region [
                 ⟨(some 41), .mv (.t 0), none⟩,
                 ⟨(some 42), .mv (.t 13), none⟩,
                 ⟨(some 43), .mv (.t 3), none⟩,
                 ⟨(some 44), .call false (.c (.fn K.madj [] [])) [.t 41, .t 42, .t 11, .t 43], none⟩,
                 ⟨(some 13), .mv (.t 44), none⟩] false)
               (.region [
                 ⟨(some 45), .mv (.t 0), none⟩,
                 ⟨(some 46), .mv (.t 14), none⟩,
                 ⟨(some 47), .mv (.t 3), none⟩,
                 ⟨(some 48), .call false (.c (.fn K.madj [] [])) [.t 45, .t 46, .t 11, .t 47], none⟩,
                 ⟨(some 14), .mv (.t 48), none⟩] false)))
             .skip))
           (.region [
             ⟨(some 49), .mv (.t 0), none⟩,
             ⟨(some 50), .mv (.t 12), none⟩,
             ⟨(some 51), .mv (.t 13), none⟩,
             ⟨(some 52), .mv (.t 14), none⟩,
             ⟨(some 53), .mv (.t 3), none⟩,
             ⟨(some 54), .call false (.c (.fn K.med [] [])) [.t 49, .t 50, .t 51, .t 52, .t 11, .t 53], none⟩,
             ⟨(some 13), .mv (.t 54), none⟩] false))
          .skip))
        (.seq
         (.region [
           ⟨(some 55), .load false 1 (.t 11), none⟩] false)
         (.block 0
          (.seq
           (.region [
             ⟨(some 58), .bin .eql (.t 55) (.c (.int .i64 0)), none⟩,
             ⟨(some 57), .mv (.t 58), none⟩] false)
           (.cond (.t 57)
            (.seq
             (.region [
               ⟨(some 59), .mv (.t 13), none⟩,
               ⟨(some 8), .mv (.t 59), none⟩,
               ⟨(some 9), .mv (.c (.int .i64 1)), none⟩] false)
             .ret)
            (.seq
             (.region [
               ⟨(some 61), .bin .eql (.t 55) (.c (.int .i64 12)), none⟩,
               ⟨(some 60), .mv (.t 61), none⟩] false)
             (.cond (.t 60)
              (.seq
               (.region [
                 ⟨(some 62), .mv (.t 13), none⟩,
                 ⟨(some 8), .mv (.t 62), none⟩,
                 ⟨(some 9), .mv (.c (.int .i64 2)), none⟩] false)
               .ret)
              (.seq
               (.region [
                 ⟨(some 56), .mv (.t 13), none⟩,
                 ⟨(some 8), .mv (.t 56), none⟩,
                 ⟨(some 9), .mv (.c (.int .i64 0)), none⟩] false)
               .ret)))))))))))))),
 [.t 8, .t 9]⟩

def cRev (K : SK) : LFunc := ⟨34, 4,
 (.seq
  (.region [
    ⟨(some 10), .mv (.t 1), none⟩,
    ⟨(some 8), .mv (.t 10), none⟩] false)
  (.seq
   (.region [
     ⟨(some 11), .mv (.t 2), none⟩,
     ⟨(some 12), .bin .sub (.t 11) (.c (.int .i64 1)), none⟩,
     ⟨(some 9), .mv (.t 12), none⟩] false)
   (.block 0
    (.loop
     (.seq
      (.seq
       (.region [
         ⟨(some 13), .mv (.t 8), none⟩,
         ⟨(some 14), .mv (.t 9), none⟩,
         ⟨(some 15), .bin .lss (.t 13) (.t 14), none⟩] false)
       (.cond (.t 15)
        .skip
        (.exit 0)))
      (.block 1
       (.seq
        (.region [
          ⟨(some 16), .mv (.t 0), none⟩,
          ⟨(some 17), .mv (.t 8), none⟩,
          ⟨(some 18), .mv (.t 0), none⟩,
          ⟨(some 19), .mv (.t 9), none⟩,
          ⟨(some 20), .mv (.t 0), none⟩,
          ⟨(some 21), .mv (.t 9), none⟩,
          ⟨(some 22), .idxa K.sz (.t 20) (.t 21), none⟩,
          ⟨(some 23), .load K.ag K.sz (.t 22), none⟩,
          ⟨(some 24), .mv (.t 0), none⟩,
          ⟨(some 25), .mv (.t 8), none⟩,
          ⟨(some 26), .idxa K.sz (.t 24) (.t 25), none⟩,
          ⟨(some 27), .load K.ag K.sz (.t 26), none⟩,
          ⟨(some 28), .idxa K.sz (.t 16) (.t 17), none⟩,
          ⟨none, .store K.sz (.t 28) (.t 23), none⟩,
          ⟨(some 29), .idxa K.sz (.t 18) (.t 19), none⟩,
          ⟨none, .store K.sz (.t 29) (.t 27), none⟩] true)
        (.seq
         (.region [
           ⟨(some 30), .mv (.t 8), none⟩,
           ⟨(some 31), .bin .add (.t 30) (.c (.int .i64 1)), none⟩,
           ⟨(some 8), .mv (.t 31), none⟩] false)
         (.region [
           ⟨(some 32), .mv (.t 9), none⟩,
           ⟨(some 33), .bin .sub (.t 32) (.c (.int .i64 1)), none⟩,
           ⟨(some 9), .mv (.t 33), none⟩] false))))))))),
 []⟩

def cPar (K : SK) : LFunc := ⟨141, 4,
 (.seq
  (.region [
    ⟨(some 8), .mv (.c (.bool false)), none⟩] false)
  (.seq
   (.region [
     ⟨(some 13), .mv (.t 1), none⟩,
     ⟨(some 14), .bin .add (.t 13) (.c (.int .i64 1)), none⟩,
     ⟨(some 9), .mv (.t 14), none⟩] false)
   (.seq
    (.seq
     (.region [
       ⟨(some 10), .mv (.c (.int .i64 0)), none⟩] false)
     (.block 0
      (.loop
       (.seq
        (.seq
         (.region [
           ⟨(some 15), .mv (.t 10), none⟩,
           ⟨(some 16), .bin .lss (.t 15) (.c (.int .i64 5)), none⟩] false)
         (.cond (.t 16)
          .skip
          (.exit 0)))
        (.seq
         (.block 1
          (.seq
           (.block 2
            (.loop
             (.seq
              (.seq
               (.region [
                 ⟨(some 19), .mv (.t 9), none⟩,
                 ⟨(some 20), .mv (.t 2), none⟩,
                 ⟨(some 21), .bin .lss (.t 19) (.t 20), none⟩,
                 ⟨(some 22), .mv (.t 21), none⟩,
                 ⟨(some 23), .mv (.t 3), (some (22, true))⟩,
                 ⟨(some 24), .mv (.t 0), (some (22, true))⟩,
                 ⟨(some 25), .mv (.t 9), (some (22, true))⟩,
                 ⟨(some 26), .idxa K.sz (.t 24) (.t 25), (some (22, true))⟩,
                 ⟨(some 27), .load K.ag K.sz (.t 26), (some (22, true))⟩,
                 ⟨(some 28), .mv (.t 0), (some (22, true))⟩,
                 ⟨(some 29), .mv (.t 9), (some (22, true))⟩,
                 ⟨(some 30), .bin .sub (.t 29) (.c (.int .i64 1)), (some (22, true))⟩,
                 ⟨(some 31), .idxa K.sz (.t 28) (.t 30), (some (22, true))⟩,
                 ⟨(some 32), .load K.ag K.sz (.t 31), (some (22, true))⟩,
                 ⟨(some 33), .call false (.t 23) [.t 27, .t 32], (some (22, true))⟩,
                 ⟨(some 34), .bin .lss (.t 33) (.c (.int .i64 0)), (some (22, true))⟩,
                 ⟨(some 35), .not (.t 34), (some (22, true))⟩,
                 ⟨(some 36), .pick (.t 22) (.t 35) (.c (.bool false)), none⟩] true)
               (.cond (.t 36)
                .skip
                (.exit 2)))
              (.block 3
               (.region [
                 ⟨(some 37), .mv (.t 9), none⟩,
                 ⟨(some 38), .bin .add (.t 37) (.c (.int .i64 1)), none⟩,
                 ⟨(some 9), .mv (.t 38), none⟩] false)))))
           (.seq
            (.seq
             (.region [
               ⟨(some 39), .mv (.t 9), none⟩,
               ⟨(some 40), .mv (.t 2), none⟩,
               ⟨(some 41), .bin .eql (.t 39) (.t 40), none⟩] false)
             (.cond (.t 41)
              (.seq
               (.region [
                 ⟨(some 8), .mv (.c (.bool true)), none⟩] false)
               .ret)
              .skip))
            (.seq
             (.seq
              (.region [
                ⟨(some 42), .mv (.t 2), none⟩,
                ⟨(some 43), .mv (.t 1), none⟩,
                ⟨(some 44), .bin .sub (.t 42) (.t 43), none⟩,
                ⟨(some 45), .bin .lss (.t 44) (.c (.int .i64 50)), none⟩] false)
              (.cond (.t 45)
               (.seq
                (.region [
                  ⟨(some 8), .mv (.c (.bool false)), none⟩] false)
                .ret)
               .skip))
             (.seq
              (.region [
                ⟨(some 46), .mv (.t 0), none⟩,
                ⟨(some 47), .mv (.t 9), none⟩,
                ⟨(some 48), .mv (.t 0), none⟩,
                ⟨(some 49), .mv (.t 9), none⟩,
                ⟨(some 50), .bin .sub (.t 49) (.c (.int .i64 1)), none⟩,
                ⟨(some 51), .mv (.t 0), none⟩,
                ⟨(some 52), .mv (.t 9), none⟩,
                ⟨(some 53), .bin .sub (.t 52) (.c (.int .i64 1)), none⟩,
                ⟨(some 54), .idxa K.sz (.t 51) (.t 53), none⟩,
                ⟨(some 55), .load K.ag K.sz (.t 54), none⟩,
                ⟨(some 56), .mv (.t 0), none⟩,
                ⟨(some 57), .mv (.t 9), none⟩,
                ⟨(some 58), .idxa K.sz (.t 56) (.t 57), none⟩,
                ⟨(some 59), .load K.ag K.sz (.t 58), none⟩,
                ⟨(some 60), .idxa K.sz (.t 46) (.t 47), none⟩,
                ⟨none, .store K.sz (.t 60) (.t 55), none⟩,
                ⟨(some 61), .idxa K.sz (.t 48) (.t 50), none⟩,
                ⟨none, .store K.sz (.t 61) (.t 59), none⟩] true)
              (.seq
               (.seq
                (.region [
                  ⟨(some 62), .mv (.t 9), none⟩,
                  ⟨(some 63), .mv (.t 1), none⟩,
                  ⟨(some 64), .bin .sub (.t 62) (.t 63), none⟩,
                  ⟨(some 65), .bin .geq (.t 64) (.c (.int .i64 2)), none⟩] false)
                (.cond (.t 65)
                 (.seq
                  (.region [
                    ⟨(some 66), .mv (.t 9), none⟩,
                    ⟨(some 67), .bin .sub (.t 66) (.c (.int .i64 1)), none⟩,
                    ⟨(some 11), .mv (.t 67), none⟩] false)
                  (.block 4
                   (.loop
                    (.seq
                     (.seq
                      (.region [
                        ⟨(some 68), .mv (.t 11), none⟩,
                        ⟨(some 69), .bin .geq (.t 68) (.c (.int .i64 1)), none⟩] false)
                      (.cond (.t 69)
                       .skip
                       (.exit 4)))
                     (.seq
                      (.block 5
                       (.seq
                        (.seq
                         (.region [
                           ⟨(some 72), .mv (.t 3), none⟩,
                           ⟨(some 73), .mv (.t 0), none⟩,
                           ⟨(some 74), .mv (.t 11), none⟩,
                           ⟨(some 75), .idxa K.sz (.t 73) (.t 74), none⟩,
                           ⟨(some 76), .load K.ag K.sz (.t 75), none⟩,
                           ⟨(some 77), .mv (.t 0), none⟩,
                           ⟨(some 78), .mv (.t 11), none⟩,
                           ⟨(some 79), .bin .sub (.t 78) (.c (.int .i64 1)), none⟩,
                           ⟨(some 80), .idxa K.sz (.t 77) (.t 79), none⟩,
                           ⟨(some 81), .load K.ag K.sz (.t 80), none⟩,
                           ⟨(some 82), .call false (.t 72) [.t 76, .t 81], none⟩,
                           ⟨(some 83), .bin .lss (.t 82) (.c (.int .i64 0)), none⟩,
                           ⟨(some 84), .not (.t 83), none⟩] true)
                         (.cond (.t 84)
                          (.exit 4)
                          .skip))
                        (.region [
                          ⟨(some 85), .mv (.t 0), none⟩,
                          ⟨(some 86), .mv (.t 11), none⟩,
                          ⟨(some 87), .mv (.t 0), none⟩,
                          ⟨(some 88), .mv (.t 11), none⟩,
                          ⟨(some 89), .bin .sub (.t 88) (.c (.int .i64 1)), none⟩,
                          ⟨(some 90), .mv (.t 0), none⟩,
                          ⟨(some 91), .mv (.t 11), none⟩,
                          ⟨(some 92), .bin .sub (.t 91) (.c (.int .i64 1)), none⟩,
                          ⟨(some 93), .idxa K.sz (.t 90) (.t 92), none⟩,
                          ⟨(some 94), .load K.ag K.sz (.t 93), none⟩,
                          ⟨(some 95), .mv (.t 0), none⟩,
                          ⟨(some 96), .mv (.t 11), none⟩,
                          ⟨(some 97), .idxa K.sz (.t 95) (.t 96), none⟩,
                          ⟨(some 98), .load K.ag K.sz (.t 97), none⟩,
                          ⟨(some 99), .idxa K.sz (.t 85) (.t 86), none⟩,
                          ⟨none, .store K.sz (.t 99) (.t 94), none⟩,
                          ⟨(some 100), .idxa K.sz (.t 87) (.t 89), none⟩,
                          ⟨none, .store K.sz (.t 100) (.t 98), none⟩] true)))
                      (.region [
                        ⟨(some 70), .mv (.t 11), none⟩,
                        ⟨(some 71), .bin .sub (.t 70) (.c (.int .i64 1)), none⟩,
                        ⟨(some 11), .mv (.t 71), none⟩] false))))))
                 .skip))
               (.seq
                (.region [
                  ⟨(some 101), .mv (.t 2), none⟩,
                  ⟨(some 102), .mv (.t 9), none⟩,
                  ⟨(some 103), .bin .sub (.t 101) (.t 102), none⟩,
                  ⟨(some 104), .bin .geq (.t 103) (.c (.int .i64 2)), none⟩] false)
                (.cond (.t 104)
                 (.seq
                  (.region [
                    ⟨(some 105), .mv (.t 9), none⟩,
                    ⟨(some 106), .bin .add (.t 105) (.c (.int .i64 1)), none⟩,
                    ⟨(some 12), .mv (.t 106), none⟩] false)
                  (.block 6
                   (.loop
                    (.seq
                     (.seq
                      (.region [
                        ⟨(some 107), .mv (.t 12), none⟩,
                        ⟨(some 108), .mv (.t 2), none⟩,
                        ⟨(some 109), .bin .lss (.t 107) (.t 108), none⟩] false)
                      (.cond (.t 109)
                       .skip
                       (.exit 6)))
                     (.seq
                      (.block 7
                       (.seq
                        (.seq
                         (.region [
                           ⟨(some 112), .mv (.t 3), none⟩,
                           ⟨(some 113), .mv (.t 0), none⟩,
                           ⟨(some 114), .mv (.t 12), none⟩,
                           ⟨(some 115), .idxa K.sz (.t 113) (.t 114), none⟩,
                           ⟨(some 116), .load K.ag K.sz (.t 115), none⟩,
                           ⟨(some 117), .mv (.t 0), none⟩,
                           ⟨(some 118), .mv (.t 12), none⟩,
                           ⟨(some 119), .bin .sub (.t 118) (.c (.int .i64 1)), none⟩,
                           ⟨(some 120), .idxa K.sz (.t 117) (.t 119), none⟩,
                           ⟨(some 121), .load K.ag K.sz (.t 120), none⟩,
                           ⟨(some 122), .call false (.t 112) [.t 116, .t 121], none⟩,
                           ⟨(some 123), .bin .lss (.t 122) (.c (.int .i64 0)), none⟩,
                           ⟨(some 124), .not (.t 123), none⟩] true)
                         (.cond (.t 124)
                          (.exit 6)
                          .skip))
                        (.region [
                          ⟨(some 125), .mv (.t 0), none⟩,
                          ⟨(some 126), .mv (.t 12), none⟩,
                          ⟨(some 127), .mv (.t 0), none⟩,
                          ⟨(some 128), .mv (.t 12), none⟩,
                          ⟨(some 129), .bin .sub (.t 128) (.c (.int .i64 1)), none⟩,
                          ⟨(some 130), .mv (.t 0), none⟩,
                          ⟨(some 131), .mv (.t 12), none⟩,
                          ⟨(some 132), .bin .sub (.t 131) (.c (.int .i64 1)), none⟩,
                          ⟨(some 133), .idxa K.sz (.t 130) (.t 132), none⟩,
                          ⟨(some 134), .load K.ag K.sz (.t 133), none⟩,
                          ⟨(some 135), .mv (.t 0), none⟩,
                          ⟨(some 136), .mv (.t 12), none⟩,
                          ⟨(some 137), .idxa K.sz (.t 135) (.t 136), none⟩,
                          ⟨(some 138), .load K.ag K.sz (.t 137), none⟩,
                          ⟨(some 139), .idxa K.sz (.t 125) (.t 126), none⟩,
                          ⟨none, .store K.sz (.t 139) (.t 134), none⟩,
                          ⟨(some 140), .idxa K.sz (.t 127) (.t 129), none⟩,
                          ⟨none, .store K.sz (.t 140) (.t 138), none⟩] true)))
                      (.region [
                        ⟨(some 110), .mv (.t 12), none⟩,
                        ⟨(some 111), .bin .add (.t 110) (.c (.int .i64 1)), none⟩,
                        ⟨(some 12), .mv (.t 111), none⟩] false))))))
                 .skip))))))))
         (.region [
           ⟨(some 17), .mv (.t 10), none⟩,
           ⟨(some 18), .bin .add (.t 17) (.c (.int .i64 1)), none⟩,
           ⟨(some 10), .mv (.t 18), none⟩] false))))))
    (.seq
     (.region [
       ⟨(some 8), .mv (.c (.bool false)), none⟩] false)
     .ret)))),
 [.t 8]⟩

def cPeq (K : SK) : LFunc := ⟨90, 5,
 (.seq
  (.region [
    ⟨(some 10), .mv (.c (.int .i64 0)), none⟩] false)
  (.seq
   (.region [
     ⟨(some 13), .mv (.t 0), none⟩,
     ⟨(some 14), .mv (.t 1), none⟩,
     ⟨(some 15), .mv (.t 0), none⟩,
     ⟨(some 16), .mv (.t 3), none⟩,
     ⟨(some 17), .mv (.t 0), none⟩,
     ⟨(some 18), .mv (.t 3), none⟩,
     ⟨(some 19), .idxa K.sz (.t 17) (.t 18), none⟩,
     ⟨(some 20), .load K.ag K.sz (.t 19), none⟩,
     ⟨(some 21), .mv (.t 0), none⟩,
     ⟨(some 22), .mv (.t 1), none⟩,
     ⟨(some 23), .idxa K.sz (.t 21) (.t 22), none⟩,
     ⟨(some 24), .load K.ag K.sz (.t 23), none⟩,
     ⟨(some 25), .idxa K.sz (.t 13) (.t 14), none⟩,
     ⟨none, .store K.sz (.t 25) (.t 20), none⟩,
     ⟨(some 26), .idxa K.sz (.t 15) (.t 16), none⟩,
     ⟨none, .store K.sz (.t 26) (.t 24), none⟩] true)
   (.seq
    (.region [
      ⟨(some 27), .mv (.t 1), none⟩,
      ⟨(some 28), .bin .add (.t 27) (.c (.int .i64 1)), none⟩,
      ⟨(some 29), .mv (.t 2), none⟩,
      ⟨(some 30), .bin .sub (.t 29) (.c (.int .i64 1)), none⟩,
      ⟨(some 11), .mv (.t 28), none⟩,
      ⟨(some 12), .mv (.t 30), none⟩] false)
    (.seq
     (.block 0
      (.loop
       (.block 1
        (.seq
         (.block 2
          (.loop
           (.seq
            (.seq
             (.region [
               ⟨(some 31), .mv (.t 11), none⟩,
               ⟨(some 32), .mv (.t 12), none⟩,
               ⟨(some 33), .bin .leq (.t 31) (.t 32), none⟩,
               ⟨(some 34), .mv (.t 33), none⟩,
               ⟨(some 35), .mv (.t 4), (some (34, true))⟩,
               ⟨(some 36), .mv (.t 0), (some (34, true))⟩,
               ⟨(some 37), .mv (.t 1), (some (34, true))⟩,
               ⟨(some 38), .idxa K.sz (.t 36) (.t 37), (some (34, true))⟩,
               ⟨(some 39), .load K.ag K.sz (.t 38), (some (34, true))⟩,
               ⟨(some 40), .mv (.t 0), (some (34, true))⟩,
               ⟨(some 41), .mv (.t 11), (some (34, true))⟩,
               ⟨(some 42), .idxa K.sz (.t 40) (.t 41), (some (34, true))⟩,
               ⟨(some 43), .load K.ag K.sz (.t 42), (some (34, true))⟩,
               ⟨(some 44), .call false (.t 35) [.t 39, .t 43], (some (34, true))⟩,
               ⟨(some 45), .bin .lss (.t 44) (.c (.int .i64 0)), (some (34, true))⟩,
               ⟨(some 46), .not (.t 45), (some (34, true))⟩,
               ⟨(some 47), .pick (.t 34) (.t 46) (.c (.bool false)), none⟩] true)
             (.cond (.t 47)
              .skip
              (.exit 2)))
            (.block 3
             (.region [
               ⟨(some 48), .mv (.t 11), none⟩,
               ⟨(some 49), .bin .add (.t 48) (.c (.int .i64 1)), none⟩,
               ⟨(some 11), .mv (.t 49), none⟩] false)))))
         (.seq
          (.block 4
           (.loop
            (.seq
             (.seq
              (.region [
                ⟨(some 50), .mv (.t 11), none⟩,
                ⟨(some 51), .mv (.t 12), none⟩,
                ⟨(some 52), .bin .leq (.t 50) (.t 51), none⟩,
                ⟨(some 53), .mv (.t 52), none⟩,
                ⟨(some 54), .mv (.t 4), (some (53, true))⟩,
                ⟨(some 55), .mv (.t 0), (some (53, true))⟩,
                ⟨(some 56), .mv (.t 1), (some (53, true))⟩,
                ⟨(some 57), .idxa K.sz (.t 55) (.t 56), (some (53, true))⟩,
                ⟨(some 58), .load K.ag K.sz (.t 57), (some (53, true))⟩,
                ⟨(some 59), .mv (.t 0), (some (53, true))⟩,
                ⟨(some 60), .mv (.t 12), (some (53, true))⟩,
                ⟨(some 61), .idxa K.sz (.t 59) (.t 60), (some (53, true))⟩,
                ⟨(some 62), .load K.ag K.sz (.t 61), (some (53, true))⟩,
                ⟨(some 63), .call false (.t 54) [.t 58, .t 62], (some (53, true))⟩,
                ⟨(some 64), .bin .lss (.t 63) (.c (.int .i64 0)), (some (53, true))⟩,
                ⟨(some 65), .pick (.t 53) (.t 64) (.c (.bool false)), none⟩] true)
              (.cond (.t 65)
               .skip
               (.exit 4)))
             (.block 5
              (.region [
                ⟨(some 66), .mv (.t 12), none⟩,
                ⟨(some 67), .bin .sub (.t 66) (.c (.int .i64 1)), none⟩,
                ⟨(some 12), .mv (.t 67), none⟩] false)))))
          (.seq
           (.seq
            (.region [
              ⟨(some 68), .mv (.t 11), none⟩,
              ⟨(some 69), .mv (.t 12), none⟩,
              ⟨(some 70), .bin .gtr (.t 68) (.t 69), none⟩] false)
            (.cond (.t 70)
             (.exit 0)
             .skip))
           (.seq
            (.region [
              ⟨(some 71), .mv (.t 0), none⟩,
              ⟨(some 72), .mv (.t 11), none⟩,
              ⟨(some 73), .mv (.t 0), none⟩,
              ⟨(some 74), .mv (.t 12), none⟩,
              ⟨(some 75), .mv (.t 0), none⟩,
              ⟨(some 76), .mv (.t 12), none⟩,
              ⟨(some 77), .idxa K.sz (.t 75) (.t 76), none⟩,
              ⟨(some 78), .load K.ag K.sz (.t 77), none⟩,
              ⟨(some 79), .mv (.t 0), none⟩,
              ⟨(some 80), .mv (.t 11), none⟩,
              ⟨(some 81), .idxa K.sz (.t 79) (.t 80), none⟩,
              ⟨(some 82), .load K.ag K.sz (.t 81), none⟩,
              ⟨(some 83), .idxa K.sz (.t 71) (.t 72), none⟩,
              ⟨none, .store K.sz (.t 83) (.t 78), none⟩,
              ⟨(some 84), .idxa K.sz (.t 73) (.t 74), none⟩,
              ⟨none, .store K.sz (.t 84) (.t 82), none⟩] true)
            (.seq
             (.region [
               ⟨(some 85), .mv (.t 11), none⟩,
               ⟨(some 86), .bin .add (.t 85) (.c (.int .i64 1)), none⟩,
               ⟨(some 11), .mv (.t 86), none⟩] false)
             (.region [
               ⟨(some 87), .mv (.t 12), none⟩,
               ⟨(some 88), .bin .sub (.t 87) (.c (.int .i64 1)), none⟩,
               ⟨(some 12), .mv (.t 88), none⟩] false)))))))))
     (.seq
      (.region [
        ⟨(some 89), .mv (.t 11), none⟩,
        ⟨(some 10), .mv (.t 89), none⟩] false)
      .ret))))),
 [.t 10]⟩

def cPrt (K : SK) : LFunc := ⟨178, 5,
 (.seq
  (.region [
    ⟨(some 10), .mv (.c (.int .i64 0)), none⟩,
    ⟨(some 11), .mv (.c (.bool false)), none⟩] false)
  (.seq
   (.region [
     ⟨(some 14), .mv (.t 0), none⟩,
     ⟨(some 15), .mv (.t 1), none⟩,
     ⟨(some 16), .mv (.t 0), none⟩,
     ⟨(some 17), .mv (.t 3), none⟩,
     ⟨(some 18), .mv (.t 0), none⟩,
     ⟨(some 19), .mv (.t 3), none⟩,
     ⟨(some 20), .idxa K.sz (.t 18) (.t 19), none⟩,
     ⟨(some 21), .load K.ag K.sz (.t 20), none⟩,
     ⟨(some 22), .mv (.t 0), none⟩,
     ⟨(some 23), .mv (.t 1), none⟩,
     ⟨(some 24), .idxa K.sz (.t 22) (.t 23), none⟩,
     ⟨(some 25), .load K.ag K.sz (.t 24), none⟩,
     ⟨(some 26), .idxa K.sz (.t 14) (.t 15), none⟩,
     ⟨none, .store K.sz (.t 26) (.t 21), none⟩,
     ⟨(some 27), .idxa K.sz (.t 16) (.t 17), none⟩,
     ⟨none, .store K.sz (.t 27) (.t 25), none⟩] true)
   (.seq
    (.region [
      ⟨(some 28), .mv (.t 1), none⟩,
      ⟨(some 29), .bin .add (.t 28) (.c (.int .i64 1)), none⟩,
      ⟨(some 30), .mv (.t 2), none⟩,
      ⟨(some 31), .bin .sub (.t 30) (.c (.int .i64 1)), none⟩,
      ⟨(some 12), .mv (.t 29), none⟩,
      ⟨(some 13), .mv (.t 31), none⟩] false)
    (.seq
     (.block 0
      (.loop
       (.seq
        (.seq
         (.region [
           ⟨(some 32), .mv (.t 12), none⟩,
           ⟨(some 33), .mv (.t 13), none⟩,
           ⟨(some 34), .bin .leq (.t 32) (.t 33), none⟩,
           ⟨(some 35), .mv (.t 34), none⟩,
           ⟨(some 36), .mv (.t 4), (some (35, true))⟩,
           ⟨(some 37), .mv (.t 0), (some (35, true))⟩,
           ⟨(some 38), .mv (.t 12), (some (35, true))⟩,
           ⟨(some 39), .idxa K.sz (.t 37) (.t 38), (some (35, true))⟩,
           ⟨(some 40), .load K.ag K.sz (.t 39), (some (35, true))⟩,
           ⟨(some 41), .mv (.t 0), (some (35, true))⟩,
           ⟨(some 42), .mv (.t 1), (some (35, true))⟩,
           ⟨(some 43), .idxa K.sz (.t 41) (.t 42), (some (35, true))⟩,
           ⟨(some 44), .load K.ag K.sz (.t 43), (some (35, true))⟩,
           ⟨(some 45), .call false (.t 36) [.t 40, .t 44], (some (35, true))⟩,
           ⟨(some 46), .bin .lss (.t 45) (.c (.int .i64 0)), (some (35, true))⟩,
           ⟨(some 47), .pick (.t 35) (.t 46) (.c (.bool false)), none⟩] true)
         (.cond (.t 47)
          .skip
          (.exit 0)))
        (.block 1
         (.region [
           ⟨(some 48), .mv (.t 12), none⟩,
           ⟨(some 49), .bin .add (.t 48) (.c (.int .i64 1)), none⟩,
           ⟨(some 12), .mv (.t 49), none⟩] false)))))
     (.seq
      (.block 2
       (.loop
        (.seq
         (.seq
          (.region [
            ⟨(some 50), .mv (.t 12), none⟩,
            ⟨(some 51), .mv (.t 13), none⟩,
            ⟨(some 52), .bin .leq (.t 50) (.t 51), none⟩,
            ⟨(some 53), .mv (.t 52), none⟩,
            ⟨(some 54), .mv (.t 4), (some (53, true))⟩,
            ⟨(some 55), .mv (.t 0), (some (53, true))⟩,
            ⟨(some 56), .mv (.t 13), (some (53, true))⟩,
            ⟨(some 57), .idxa K.sz (.t 55) (.t 56), (some (53, true))⟩,
            ⟨(some 58), .load K.ag K.sz (.t 57), (some (53, true))⟩,
            ⟨(some 59), .mv (.t 0), (some (53, true))⟩,
            ⟨(some 60), .mv (.t 1), (some (53, true))⟩,
            ⟨(some 61), .idxa K.sz (.t 59) (.t 60), (some (53, true))⟩,
            ⟨(some 62), .load K.ag K.sz (.t 61), (some (53, true))⟩,
            ⟨(some 63), .call false (.t 54) [.t 58, .t 62], (some (53, true))⟩,
            ⟨(some 64), .bin .lss (.t 63) (.c (.int .i64 0)), (some (53, true))⟩,
            ⟨(some 65), .not (.t 64), (some (53, true))⟩,
            ⟨(some 66), .pick (.t 53) (.t 65) (.c (.bool false)), none⟩] true)
          (.cond (.t 66)
           .skip
           (.exit 2)))
         (.block 3
          (.region [
            ⟨(some 67), .mv (.t 13), none⟩,
            ⟨(some 68), .bin .sub (.t 67) (.c (.int .i64 1)), none⟩,
            ⟨(some 13), .mv (.t 68), none⟩] false)))))
      (.seq
       (.seq
        (.region [
          ⟨(some 69), .mv (.t 12), none⟩,
          ⟨(some 70), .mv (.t 13), none⟩,
          ⟨(some 71), .bin .gtr (.t 69) (.t 70), none⟩] false)
        (.cond (.t 71)
         (.seq
          (.region [
            ⟨(some 72), .mv (.t 0), none⟩,
            ⟨(some 73), .mv (.t 13), none⟩,
            ⟨(some 74), .mv (.t 0), none⟩,
            ⟨(some 75), .mv (.t 1), none⟩,
            ⟨(some 76), .mv (.t 0), none⟩,
            ⟨(some 77), .mv (.t 1), none⟩,
            ⟨(some 78), .idxa K.sz (.t 76) (.t 77), none⟩,
            ⟨(some 79), .load K.ag K.sz (.t 78), none⟩,
            ⟨(some 80), .mv (.t 0), none⟩,
            ⟨(some 81), .mv (.t 13), none⟩,
            ⟨(some 82), .idxa K.sz (.t 80) (.t 81), none⟩,
            ⟨(some 83), .load K.ag K.sz (.t 82), none⟩,
            ⟨(some 84), .idxa K.sz (.t 72) (.t 73), none⟩,
            ⟨none, .store K.sz (.t 84) (.t 79), none⟩,
            ⟨(some 85), .idxa K.sz (.t 74) (.t 75), none⟩,
            ⟨none, .store K.sz (.t 85) (.t 83), none⟩] true)
          (.seq
           (.region [
             ⟨(some 86), .mv (.t 13), none⟩,
             ⟨(some 10), .mv (.t 86), none⟩,
             ⟨(some 11), .mv (.c (.bool true)), none⟩] false)
           .ret))
         .skip))
       (.seq
        (.region [
          ⟨(some 87), .mv (.t 0), none⟩,
          ⟨(some 88), .mv (.t 12), none⟩,
          ⟨(some 89), .mv (.t 0), none⟩,
          ⟨(some 90), .mv (.t 13), none⟩,
          ⟨(some 91), .mv (.t 0), none⟩,
          ⟨(some 92), .mv (.t 13), none⟩,
          ⟨(some 93), .idxa K.sz (.t 91) (.t 92), none⟩,
          ⟨(some 94), .load K.ag K.sz (.t 93), none⟩,
          ⟨(some 95), .mv (.t 0), none⟩,
          ⟨(some 96), .mv (.t 12), none⟩,
          ⟨(some 97), .idxa K.sz (.t 95) (.t 96), none⟩,
          ⟨(some 98), .load K.ag K.sz (.t 97), none⟩,
          ⟨(some 99), .idxa K.sz (.t 87) (.t 88), none⟩,
          ⟨none, .store K.sz (.t 99) (.t 94), none⟩,
          ⟨(some 100), .idxa K.sz (.t 89) (.t 90), none⟩,
          ⟨none, .store K.sz (.t 100) (.t 98), none⟩] true)
        (.seq
         (.region [
           ⟨(some 101), .mv (.t 12), none⟩,
           ⟨(some 102), .bin .add (.t 101) (.c (.int .i64 1)), none⟩,
           ⟨(some 12), .mv (.t 102), none⟩] false)
         (.seq
          (.region [
            ⟨(some 103), .mv (.t 13), none⟩,
            ⟨(some 104), .bin .sub (.t 103) (.c (.int .i64 1)), none⟩,
            ⟨(some 13), .mv (.t 104), none⟩] false)
          (.seq
           (.block 4
            (.loop
             (.block 5
              (.seq
               (.block 6
                (.loop
                 (.seq
                  (.seq
                   (.region [
                     ⟨(some 105), .mv (.t 12), none⟩,
                     ⟨(some 106), .mv (.t 13), none⟩,
                     ⟨(some 107), .bin .leq (.t 105) (.t 106), none⟩,
                     ⟨(some 108), .mv (.t 107), none⟩,
                     ⟨(some 109), .mv (.t 4), (some (108, true))⟩,
                     ⟨(some 110), .mv (.t 0), (some (108, true))⟩,
                     ⟨(some 111), .mv (.t 12), (some (108, true))⟩,
                     ⟨(some 112), .idxa K.sz (.t 110) (.t 111), (some (108, true))⟩,
                     ⟨(some 113), .load K.ag K.sz (.t 112), (some (108, true))⟩,
                     ⟨(some 114), .mv (.t 0), (some (108, true))⟩,
                     ⟨(some 115), .mv (.t 1), (some (108, true))⟩,
                     ⟨(some 116), .idxa K.sz (.t 114) (.t 115), (some (108, true))⟩,
                     ⟨(some 117), .load K.ag K.sz (.t 116), (some (108, true))⟩,
                     ⟨(some 118), .call false (.t 109) [.t 113, .t 117], (some (108, true))⟩,
                     ⟨(some 119), .bin .lss (.t 118) (.c (.int .i64 0)), (some (108, true))⟩,
                     ⟨(some 120), .pick (.t 108) (.t 119) (.c (.bool false)), none⟩] true)
                   (.cond (.t 120)
                    .skip
                    (.exit 6)))
                  (.block 7
                   (.region [
                     ⟨(some 121), .mv (.t 12), none⟩,
                     ⟨(some 122), .bin .add (.t 121) (.c (.int .i64 1)), none⟩,
                     ⟨(some 12), .mv (.t 122), none⟩] false)))))
               (.seq
                (.block 8
                 (.loop
                  (.seq
                   (.seq
                    (.region [
                      ⟨(some 123), .mv (.t 12), none⟩,
                      ⟨(some 124), .mv (.t 13), none⟩,
                      ⟨(some 125), .bin .leq (.t 123) (.t 124), none⟩,
                      ⟨(some 126), .mv (.t 125), none⟩,
                      ⟨(some 127), .mv (.t 4), (some (126, true))⟩,
                      ⟨(some 128), .mv (.t 0), (some (126, true))⟩,
                      ⟨(some 129), .mv (.t 13), (some (126, true))⟩,
                      ⟨(some 130), .idxa K.sz (.t 128) (.t 129), (some (126, true))⟩,
                      ⟨(some 131), .load K.ag K.sz (.t 130), (some (126, true))⟩,
                      ⟨(some 132), .mv (.t 0), (some (126, true))⟩,
                      ⟨(some 133), .mv (.t 1), (some (126, true))⟩,
                      ⟨(some 134), .idxa K.sz (.t 132) (.t 133), (some (126, true))⟩,
                      ⟨(some 135), .load K.ag K.sz (.t 134), (some (126, true))⟩,
                      ⟨(some 136), .call false (.t 127) [.t 131, .t 135], (some (126, true))⟩,
                      ⟨(some 137), .bin .lss (.t 136) (.c (.int .i64 0)), (some (126, true))⟩,
                      ⟨(some 138), .not (.t 137), (some (126, true))⟩,
                      ⟨(some 139), .pick (.t 126) (.t 138) (.c (.bool false)), none⟩] true)
                    (.cond (.t 139)
                     .skip
                     (.exit 8)))
                   (.block 9
                    (.region [
                      ⟨(some 140), .mv (.t 13), none⟩,
                      ⟨(some 141), .bin .sub (.t 140) (.c (.int .i64 1)), none⟩,
                      ⟨(some 13), .mv (.t 141), none⟩] false)))))
                (.seq
                 (.seq
                  (.region [
                    ⟨(some 142), .mv (.t 12), none⟩,
                    ⟨(some 143), .mv (.t 13), none⟩,
                    ⟨(some 144), .bin .gtr (.t 142) (.t 143), none⟩] false)
                  (.cond (.t 144)
                   (.exit 4)
                   .skip))
                 (.seq
                  (.region [
                    ⟨(some 145), .mv (.t 0), none⟩,
                    ⟨(some 146), .mv (.t 12), none⟩,
                    ⟨(some 147), .mv (.t 0), none⟩,
                    ⟨(some 148), .mv (.t 13), none⟩,
                    ⟨(some 149), .mv (.t 0), none⟩,
                    ⟨(some 150), .mv (.t 13), none⟩,
                    ⟨(some 151), .idxa K.sz (.t 149) (.t 150), none⟩,
                    ⟨(some 152), .load K.ag K.sz (.t 151), none⟩,
                    ⟨(some 153), .mv (.t 0), none⟩,
                    ⟨(some 154), .mv (.t 12), none⟩,
                    ⟨(some 155), .idxa K.sz (.t 153) (.t 154), none⟩,
                    ⟨(some 156), .load K.ag K.sz (.t 155), none⟩,
                    ⟨(some 157), .idxa K.sz (.t 145) (.t 146), none⟩,
                    ⟨none, .store K.sz (.t 157) (.t 152), none⟩,
                    ⟨(some 158), .idxa K.sz (.t 147) (.t 148), none⟩,
                    ⟨none, .store K.sz (.t 158) (.t 156), none⟩] true)
                  (.seq
                   (.region [
                     ⟨(some 159), .mv (.t 12), none⟩,
                     ⟨(some 160), .bin .add (.t 159) (.c (.int .i64 1)), none⟩,
                     ⟨(some 12), .mv (.t 160), none⟩] false)
                   (.region [
                     ⟨(some 161), .mv (.t 13), none⟩,
                     ⟨(some 162), .bin .sub (.t 161) (.c (.int .i64 1)), none⟩,
                     ⟨(some 13), .mv (.t 162), none⟩] false)))))))))
           (.seq
            (.region [
              ⟨(some 163), .mv (.t 0), none⟩,
              ⟨(some 164), .mv (.t 13), none⟩,
              ⟨(some 165), .mv (.t 0), none⟩,
              ⟨(some 166), .mv (.t 1), none⟩,
              ⟨(some 167), .mv (.t 0), none⟩,
              ⟨(some 168), .mv (.t 1), none⟩,
              ⟨(some 169), .idxa K.sz (.t 167) (.t 168), none⟩,
              ⟨(some 170), .load K.ag K.sz (.t 169), none⟩,
              ⟨(some 171), .mv (.t 0), none⟩,
              ⟨(some 172), .mv (.t 13), none⟩,
              ⟨(some 173), .idxa K.sz (.t 171) (.t 172), none⟩,
              ⟨(some 174), .load K.ag K.sz (.t 173), none⟩,
              ⟨(some 175), .idxa K.sz (.t 163) (.t 164), none⟩,
              ⟨none, .store K.sz (.t 175) (.t 170), none⟩,
              ⟨(some 176), .idxa K.sz (.t 165) (.t 166), none⟩,
              ⟨none, .store K.sz (.t 176) (.t 174), none⟩] true)
            (.seq
             (.region [
               ⟨(some 177), .mv (.t 13), none⟩,
               ⟨(some 10), .mv (.t 177), none⟩,
               ⟨(some 11), .mv (.c (.bool false)), none⟩] false)
             .ret)))))))))))),
 [.t 10, .t 11]⟩

def cLen32 (K : SK) : LFunc := ⟨19, 1,
 (.seq
  (.region [
    ⟨(some 2), .mv (.c (.int .i64 0)), none⟩] false)
  (.seq
   (.seq
    (.region [
      ⟨(some 3), .mv (.t 0), none⟩,
      ⟨(some 4), .bin .geq (.t 3) (.c (.int .u32 65536)), none⟩] false)
    (.cond (.t 4)
     (.seq
      (.region [
        ⟨(some 5), .mv (.t 0), none⟩,
        ⟨(some 6), .bin .shr (.t 5) (.c (.int .u64 16)), none⟩,
        ⟨(some 0), .mv (.t 6), none⟩] false)
      (.region [
        ⟨(some 2), .mv (.c (.int .i64 16)), none⟩] false))
     .skip))
   (.seq
    (.seq
     (.region [
       ⟨(some 7), .mv (.t 0), none⟩,
       ⟨(some 8), .bin .geq (.t 7) (.c (.int .u32 256)), none⟩] false)
     (.cond (.t 8)
      (.seq
       (.region [
         ⟨(some 9), .mv (.t 0), none⟩,
         ⟨(some 10), .bin .shr (.t 9) (.c (.int .u64 8)), none⟩,
         ⟨(some 0), .mv (.t 10), none⟩] false)
       (.region [
         ⟨(some 11), .mv (.t 2), none⟩,
         ⟨(some 12), .bin .add (.t 11) (.c (.int .i64 8)), none⟩,
         ⟨(some 2), .mv (.t 12), none⟩] false))
      .skip))
    (.seq
     (.region [
       ⟨(some 13), .mv (.t 2), none⟩,
       ⟨(some 14), .mv (.t 0), none⟩,
       ⟨(some 15), .conv .u8 (.t 14), none⟩,
       ⟨(some 16), .idxs (.c (.str tab8S)) (.t 15), none⟩,
       ⟨(some 17), .conv .i64 (.t 16), none⟩,
       ⟨(some 18), .bin .add (.t 13) (.t 17), none⟩,
       ⟨(some 2), .mv (.t 18), none⟩] false)
     .ret)))),
 [.t 2]⟩

def cLen64 (K : SK) : LFunc := ⟨25, 1,
 (.seq
  (.region [
    ⟨(some 2), .mv (.c (.int .i64 0)), none⟩] false)
  (.seq
   (.seq
    (.region [
      ⟨(some 3), .mv (.t 0), none⟩,
      ⟨(some 4), .bin .geq (.t 3) (.c (.int .u64 4294967296)), none⟩] false)
    (.cond (.t 4)
     (.seq
      (.region [
        ⟨(some 5), .mv (.t 0), none⟩,
        ⟨(some 6), .bin .shr (.t 5) (.c (.int .u64 32)), none⟩,
        ⟨(some 0), .mv (.t 6), none⟩] false)
      (.region [
        ⟨(some 2), .mv (.c (.int .i64 32)), none⟩] false))
     .skip))
   (.seq
    (.seq
     (.region [
       ⟨(some 7), .mv (.t 0), none⟩,
       ⟨(some 8), .bin .geq (.t 7) (.c (.int .u64 65536)), none⟩] false)
     (.cond (.t 8)
      (.seq
       (.region [
         ⟨(some 9), .mv (.t 0), none⟩,
         ⟨(some 10), .bin .shr (.t 9) (.c (.int .u64 16)), none⟩,
         ⟨(some 0), .mv (.t 10), none⟩] false)
       (.region [
         ⟨(some 11), .mv (.t 2), none⟩,
         ⟨(some 12), .bin .add (.t 11) (.c (.int .i64 16)), none⟩,
         ⟨(some 2), .mv (.t 12), none⟩] false))
      .skip))
    (.seq
     (.seq
      (.region [
        ⟨(some 13), .mv (.t 0), none⟩,
        ⟨(some 14), .bin .geq (.t 13) (.c (.int .u64 256)), none⟩] false)
      (.cond (.t 14)
       (.seq
        (.region [
          ⟨(some 15), .mv (.t 0), none⟩,
          ⟨(some 16), .bin .shr (.t 15) (.c (.int .u64 8)), none⟩,
          ⟨(some 0), .mv (.t 16), none⟩] false)
        (.region [
          ⟨(some 17), .mv (.t 2), none⟩,
          ⟨(some 18), .bin .add (.t 17) (.c (.int .i64 8)), none⟩,
          ⟨(some 2), .mv (.t 18), none⟩] false))
       .skip))
     (.seq
      (.region [
        ⟨(some 19), .mv (.t 2), none⟩,
        ⟨(some 20), .mv (.t 0), none⟩,
        ⟨(some 21), .conv .u8 (.t 20), none⟩,
        ⟨(some 22), .idxs (.c (.str tab8S)) (.t 21), none⟩,
        ⟨(some 23), .conv .i64 (.t 22), none⟩,
        ⟨(some 24), .bin .add (.t 19) (.t 23), none⟩,
        ⟨(some 2), .mv (.t 24), none⟩] false)
      .ret))))),
 [.t 2]⟩

def cSift (K : SK) : LFunc := ⟨82, 5,
 (.seq
  (.region [
    ⟨(some 12), .mv (.t 1), none⟩,
    ⟨(some 10), .mv (.t 12), none⟩] false)
  (.block 0
   (.loop
    (.block 1
     (.seq
      (.region [
        ⟨(some 13), .mv (.t 10), none⟩,
        ⟨(some 14), .bin .mul (.c (.int .i64 2)) (.t 13), none⟩,
        ⟨(some 15), .bin .add (.t 14) (.c (.int .i64 1)), none⟩,
        ⟨(some 11), .mv (.t 15), none⟩] false)
      (.seq
       (.seq
        (.region [
          ⟨(some 16), .mv (.t 11), none⟩,
          ⟨(some 17), .mv (.t 2), none⟩,
          ⟨(some 18), .bin .geq (.t 16) (.t 17), none⟩] false)
        (.cond (.t 18)
         (.exit 0)
         .skip))
       (.seq
        (.seq
         (.region [
           ⟨(some 19), .mv (.t 11), none⟩,
           ⟨(some 20), .bin .add (.t 19) (.c (.int .i64 1)), none⟩,
           ⟨(some 21), .mv (.t 2), none⟩,
           ⟨(some 22), .bin .lss (.t 20) (.t 21), none⟩,
           ⟨(some 23), .mv (.t 22), none⟩,
           ⟨(some 24), .mv (.t 4), (some (23, true))⟩,
           ⟨(some 25), .mv (.t 0), (some (23, true))⟩,
           ⟨(some 26), .mv (.t 3), (some (23, true))⟩,
           ⟨(some 27), .mv (.t 11), (some (23, true))⟩,
           ⟨(some 28), .bin .add (.t 26) (.t 27), (some (23, true))⟩,
           ⟨(some 29), .idxa K.sz (.t 25) (.t 28), (some (23, true))⟩,
           ⟨(some 30), .load K.ag K.sz (.t 29), (some (23, true))⟩,
           ⟨(some 31), .mv (.t 0), (some (23, true))⟩,
           ⟨(some 32), .mv (.t 3), (some (23, true))⟩,
           ⟨(some 33), .mv (.t 11), (some (23, true))⟩,
           ⟨(some 34), .bin .add (.t 32) (.t 33), (some (23, true))⟩,
           ⟨(some 35), .bin .add (.t 34) (.c (.int .i64 1)), (some (23, true))⟩,
           ⟨(some 36), .idxa K.sz (.t 31) (.t 35), (some (23, true))⟩,
           ⟨(some 37), .load K.ag K.sz (.t 36), (some (23, true))⟩,
           ⟨(some 38), .call false (.t 24) [.t 30, .t 37], (some (23, true))⟩,
           ⟨(some 39), .bin .lss (.t 38) (.c (.int .i64 0)), (some (23, true))⟩,
           ⟨(some 40), .pick (.t 23) (.t 39) (.c (.bool false)), none⟩] true)
         (.cond (.t 40)
          (.region [
            ⟨(some 41), .mv (.t 11), none⟩,
            ⟨(some 42), .bin .add (.t 41) (.c (.int .i64 1)), none⟩,
            ⟨(some 11), .mv (.t 42), none⟩] false)
          .skip))
        (.seq
         (.seq
          (.region [
            ⟨(some 43), .mv (.t 4), none⟩,
            ⟨(some 44), .mv (.t 0), none⟩,
            ⟨(some 45), .mv (.t 3), none⟩,
            ⟨(some 46), .mv (.t 10), none⟩,
            ⟨(some 47), .bin .add (.t 45) (.t 46), none⟩,
            ⟨(some 48), .idxa K.sz (.t 44) (.t 47), none⟩,
            ⟨(some 49), .load K.ag K.sz (.t 48), none⟩,
            ⟨(some 50), .mv (.t 0), none⟩,
            ⟨(some 51), .mv (.t 3), none⟩,
            ⟨(some 52), .mv (.t 11), none⟩,
            ⟨(some 53), .bin .add (.t 51) (.t 52), none⟩,
            ⟨(some 54), .idxa K.sz (.t 50) (.t 53), none⟩,
            ⟨(some 55), .load K.ag K.sz (.t 54), none⟩,
            ⟨(some 56), .call false (.t 43) [.t 49, .t 55], none⟩,
            ⟨(some 57), .bin .lss (.t 56) (.c (.int .i64 0)), none⟩,
            ⟨(some 58), .not (.t 57), none⟩] true)
          (.cond (.t 58)
           .ret
           .skip))
         (.seq
          (.region [
            ⟨(some 59), .mv (.t 0), none⟩,
            ⟨(some 60), .mv (.t 3), none⟩,
            ⟨(some 61), .mv (.t 10), none⟩,
            ⟨(some 62), .bin .add (.t 60) (.t 61), none⟩,
            ⟨(some 63), .mv (.t 0), none⟩,
            ⟨(some 64), .mv (.t 3), none⟩,
            ⟨(some 65), .mv (.t 11), none⟩,
            ⟨(some 66), .bin .add (.t 64) (.t 65), none⟩,
            ⟨(some 67), .mv (.t 0), none⟩,
            ⟨(some 68), .mv (.t 3), none⟩,
            ⟨(some 69), .mv (.t 11), none⟩,
            ⟨(some 70), .bin .add (.t 68) (.t 69), none⟩,
            ⟨(some 71), .idxa K.sz (.t 67) (.t 70), none⟩,
            ⟨(some 72), .load K.ag K.sz (.t 71), none⟩,
            ⟨(some 73), .mv (.t 0), none⟩,
            ⟨(some 74), .mv (.t 3), none⟩,
            ⟨(some 75), .mv (.t 10), none⟩,
            ⟨(some 76), .bin .add (.t 74) (.t 75), none⟩,
            ⟨(some 77), .idxa K.sz (.t 73) (.t 76), none⟩,
            ⟨(some 78), .load K.ag K.sz (.t 77), none⟩,
            ⟨(some 79), .idxa K.sz (.t 59) (.t 62), none⟩,
            ⟨none, .store K.sz (.t 79) (.t 72), none⟩,
            ⟨(some 80), .idxa K.sz (.t 63) (.t 66), none⟩,
            ⟨none, .store K.sz (.t 80) (.t 78), none⟩] true)
          (.region [
            ⟨(some 81), .mv (.t 11), none⟩,
            ⟨(some 10), .mv (.t 81), none⟩] false)))))))))),
 []⟩

def cNpo (K : SK) : LFunc := ⟨7, 1,
 (.seq
  (.region [
    ⟨(some 2), .mv (.c (.int .u64 0)), none⟩] false)
  (.seq
   (.region [
     ⟨(some 3), .mv (.t 0), none⟩,
     ⟨(some 4), .conv .u64 (.t 3), none⟩,
     ⟨(some 5), .call false (.c (.fn K.len [] [])) [.t 4], none⟩,
     ⟨(some 6), .bin .shl (.c (.int .u64 1)) (.t 5), none⟩,
     ⟨(some 2), .mv (.t 6), none⟩] false)
   .ret)),
 [.t 2]⟩

def cNxt (K : SK) : LFunc := ⟨33, 1,
 (.seq
  (.region [
    ⟨(some 2), .mv (.c (.int .u64 0)), none⟩] false)
  (.seq
   (.region [
     ⟨(some 3), .mv (.t 0), none⟩,
     ⟨(some 4), .nilck (.t 3), none⟩,
     ⟨(some 5), .load false 1 (.t 4), none⟩,
     ⟨(some 6), .mv (.t 0), none⟩,
     ⟨(some 7), .nilck (.t 6), none⟩,
     ⟨(some 8), .load false 1 (.t 7), none⟩,
     ⟨(some 9), .bin .shl (.t 8) (.c (.int .u64 13)), none⟩,
     ⟨(some 10), .bin .xor (.t 5) (.t 9), none⟩,
     ⟨(some 11), .nilck (.t 3), none⟩,
     ⟨none, .store 1 (.t 11) (.t 10), none⟩] true)
   (.seq
    (.region [
      ⟨(some 12), .mv (.t 0), none⟩,
      ⟨(some 13), .nilck (.t 12), none⟩,
      ⟨(some 14), .load false 1 (.t 13), none⟩,
      ⟨(some 15), .mv (.t 0), none⟩,
      ⟨(some 16), .nilck (.t 15), none⟩,
      ⟨(some 17), .load false 1 (.t 16), none⟩,
      ⟨(some 18), .bin .shr (.t 17) (.c (.int .u64 7)), none⟩,
      ⟨(some 19), .bin .xor (.t 14) (.t 18), none⟩,
      ⟨(some 20), .nilck (.t 12), none⟩,
      ⟨none, .store 1 (.t 20) (.t 19), none⟩] true)
    (.seq
     (.region [
       ⟨(some 21), .mv (.t 0), none⟩,
       ⟨(some 22), .nilck (.t 21), none⟩,
       ⟨(some 23), .load false 1 (.t 22), none⟩,
       ⟨(some 24), .mv (.t 0), none⟩,
       ⟨(some 25), .nilck (.t 24), none⟩,
       ⟨(some 26), .load false 1 (.t 25), none⟩,
       ⟨(some 27), .bin .shl (.t 26) (.c (.int .u64 17)), none⟩,
       ⟨(some 28), .bin .xor (.t 23) (.t 27), none⟩,
       ⟨(some 29), .nilck (.t 21), none⟩,
       ⟨none, .store 1 (.t 29) (.t 28), none⟩] true)
     (.seq
      (.region [
        ⟨(some 30), .mv (.t 0), none⟩,
        ⟨(some 31), .nilck (.t 30), none⟩,
        ⟨(some 32), .load false 1 (.t 31), none⟩,
        ⟨(some 2), .mv (.t 32), none⟩] false)
      .ret))))),
 [.t 2]⟩

def cMadj (K : SK) : LFunc := ⟨18, 4,
 (.seq
  (.region [
    ⟨(some 8), .mv (.c (.int .i64 0)), none⟩] false)
  (.seq
   (.region [
     ⟨(some 9), .mv (.t 0), none⟩,
     ⟨(some 10), .mv (.t 1), none⟩,
     ⟨(some 11), .bin .sub (.t 10) (.c (.int .i64 1)), none⟩,
     ⟨(some 12), .mv (.t 1), none⟩,
     ⟨(some 13), .mv (.t 1), none⟩,
     ⟨(some 14), .bin .add (.t 13) (.c (.int .i64 1)), none⟩,
     ⟨(some 15), .mv (.t 2), none⟩,
     ⟨(some 16), .mv (.t 3), none⟩,
     ⟨(some 17), .call false (.c (.fn K.med [] [])) [.t 9, .t 11, .t 12, .t 14, .t 15, .t 16], none⟩,
     ⟨(some 8), .mv (.t 17), none⟩] false)
   .ret)),
 [.t 8]⟩

def cMed (K : SK) : LFunc := ⟨41, 6,
 (.seq
  (.region [
    ⟨(some 12), .mv (.c (.int .i64 0)), none⟩] false)
  (.seq
   (.region [
     ⟨(some 14), .mv (.t 0), none⟩,
     ⟨(some 15), .mv (.t 1), none⟩,
     ⟨(some 16), .mv (.t 2), none⟩,
     ⟨(some 17), .mv (.t 4), none⟩,
     ⟨(some 18), .mv (.t 5), none⟩,
     ⟨(some 19), .call false (.c (.fn K.ord [] [])) [.t 14, .t 15, .t 16, .t 17, .t 18], none⟩,
     ⟨(some 13), .mv (.t 19), none⟩,
     ⟨(some 20), .extract (.t 13) 0, none⟩,
     ⟨(some 21), .extract (.t 13) 1, none⟩,
     ⟨(some 1), .mv (.t 20), none⟩,
     ⟨(some 2), .mv (.t 21), none⟩] false)
   (.seq
    (.region [
      ⟨(some 23), .mv (.t 0), none⟩,
      ⟨(some 24), .mv (.t 2), none⟩,
      ⟨(some 25), .mv (.t 3), none⟩,
      ⟨(some 26), .mv (.t 4), none⟩,
      ⟨(some 27), .mv (.t 5), none⟩,
      ⟨(some 28), .call false (.c (.fn K.ord [] [])) [.t 23, .t 24, .t 25, .t 26, .t 27], none⟩,
      ⟨(some 22), .mv (.t 28), none⟩,
      ⟨(some 29), .extract (.t 22) 0, none⟩,
      ⟨(some 30), .extract (.t 22) 1, none⟩,
      ⟨(some 2), .mv (.t 29), none⟩,
      ⟨(some 3), .mv (.t 30), none⟩] false)
    (.seq
     (.region [
       ⟨(some 32), .mv (.t 0), none⟩,
       ⟨(some 33), .mv (.t 1), none⟩,
       ⟨(some 34), .mv (.t 2), none⟩,
       ⟨(some 35), .mv (.t 4), none⟩,
       ⟨(some 36), .mv (.t 5), none⟩,
       ⟨(some 37), .call false (.c (.fn K.ord [] [])) [.t 32, .t 33, .t 34, .t 35, .t 36], none⟩,
       ⟨(some 31), .mv (.t 37), none⟩,
       ⟨(some 38), .extract (.t 31) 0, none⟩,
       ⟨(some 39), .extract (.t 31) 1, none⟩,
       ⟨(some 1), .mv (.t 38), none⟩,
       ⟨(some 2), .mv (.t 39), none⟩] false)
     (.seq
      (.region [
        ⟨(some 40), .mv (.t 2), none⟩,
        ⟨(some 12), .mv (.t 40), none⟩] false)
      .ret))))),
 [.t 12]⟩

def cOrd (K : SK) : LFunc := ⟨32, 5,
 (.seq
  (.region [
    ⟨(some 10), .mv (.c (.int .i64 0)), none⟩,
    ⟨(some 11), .mv (.c (.int .i64 0)), none⟩] false)
  (.seq
   (.seq
    (.region [
      ⟨(some 12), .mv (.t 4), none⟩,
      ⟨(some 13), .mv (.t 0), none⟩,
      ⟨(some 14), .mv (.t 2), none⟩,
      ⟨(some 15), .idxa K.sz (.t 13) (.t 14), none⟩,
      ⟨(some 16), .load K.ag K.sz (.t 15), none⟩,
      ⟨(some 17), .mv (.t 0), none⟩,
      ⟨(some 18), .mv (.t 1), none⟩,
      ⟨(some 19), .idxa K.sz (.t 17) (.t 18), none⟩,
      ⟨(some 20), .load K.ag K.sz (.t 19), none⟩,
      ⟨(some 21), .call false (.t 12) [.t 16, .t 20], none⟩,
      ⟨(some 22), .bin .lss (.t 21) (.c (.int .i64 0)), none⟩] true)
    (.cond (.t 22)
     (.seq
      (.region [
        ⟨(some 23), .mv (.t 3), none⟩,
        ⟨(some 24), .nilck (.t 23), none⟩,
        ⟨(some 25), .load false 1 (.t 24), none⟩,
        ⟨(some 26), .bin .add (.t 25) (.c (.int .i64 1)), none⟩,
        ⟨(some 27), .nilck (.t 23), none⟩,
        ⟨none, .store 1 (.t 27) (.t 26), none⟩] false)
      (.seq
       (.region [
         ⟨(some 28), .mv (.t 2), none⟩,
         ⟨(some 29), .mv (.t 1), none⟩,
         ⟨(some 10), .mv (.t 28), none⟩,
         ⟨(some 11), .mv (.t 29), none⟩] false)
       .ret))
     .skip))
   (.seq
    (.region [
      ⟨(some 30), .mv (.t 1), none⟩,
      ⟨(some 31), .mv (.t 2), none⟩,
      ⟨(some 10), .mv (.t 30), none⟩,
      ⟨(some 11), .mv (.t 31), none⟩] false)
    .ret))),
 [.t 10, .t 11]⟩

/-- The sort's functions stand in a program. -/
structure Lays (P : Program) (K : SK) : Prop where
  srt : okFunc P K.srt (cSrt K) = true
  pdq : okFunc P K.pdq (cPdq K) = true
  len : okFunc P K.len (cLen K) = true
  len64 : okFunc P K.len64 (cLen64 K) = true
  ins : okFunc P K.ins (cIns K) = true
  heap : okFunc P K.heap (cHeap K) = true
  brk : okFunc P K.brk (cBrk K) = true
  piv : okFunc P K.piv (cPiv K) = true
  rev : okFunc P K.rev (cRev K) = true
  par : okFunc P K.par (cPar K) = true
  peq : okFunc P K.peq (cPeq K) = true
  prt : okFunc P K.prt (cPrt K) = true
  sift : okFunc P K.sift (cSift K) = true
  npo : okFunc P K.npo (cNpo K) = true
  nxt : okFunc P K.nxt (cNxt K) = true
  madj : okFunc P K.madj (cMadj K) = true
  med : okFunc P K.med (cMed K) = true
  ord : okFunc P K.ord (cOrd K) = true
end Go.AM

/- The library's sort: how elements lie; insertion. -/

namespace Go.AM
open Go.Sort

/-- How elements lie, and what compares them. -/
structure Cmp (P : Program) (K : SK) (α : Type) where
  enc : α → List AV
  val : α → AV
  g : Nat
  first : List AV
  caps : List AV
  c : α → α → Int
  ld : ∀ x, ldCells K.ag K.sz (enc x) = some (val x)
  st : ∀ x, (val x).cells = enc x
  sc : ∀ x, (enc x).all AV.scalar = true
  len : ∀ x, (enc x).length = K.sz
  pu : ∀ x, pureL (enc x) = true
  pv : ∀ x, (val x).pure = true
  pf : pureL first = true
  pc : pureL caps = true
  call : ∀ x y, ACalls P g (first ++ [val x, val y] ++ caps) [] 0 (fun r _ _ => r = .int .i64 (c x y))

section
variable {P : Program} {K : SK} {α : Type}

def Cmp.lt (C : Cmp P K α) (x y : α) : Bool := decide (C.c x y < 0)
def Cmp.fn (C : Cmp P K α) : AV := .fn C.g C.first C.caps
def rws (C : Cmp P K α) (d : Array α) : List (List AV) := d.toList.map C.enc

theorem rws_len (C : Cmp P K α) (d : Array α) : (rws C d).length = d.size := by simp [rws]
theorem rws_set (C : Cmp P K α) {d : Array α} {i : Nat} (x : α) : (rws C d).set i (C.enc x) = rws C (d.setIfInBounds i x) := by
  simp [rws, List.map_set]
theorem setAt_enc (C : Cmp P K α) (x y : α) : setAt (C.enc y) 0 (C.enc x) = C.enc x := by
  simp [setAt, C.len]
variable [Inhabited α]
/-- An element. -/
def el (d : Array α) (i : Nat) : α := d[i]!
theorem rws_get (C : Cmp P K α) {d : Array α} {i : Nat} (h : i < (rws C d).length) : (rws C d)[i] = C.enc (el d i) := by
  have h' : i < d.size := by simpa [rws] using h
  simp [rws, h', getElem!_pos, el]
theorem ld1 (x : AV) (l : List AV) : ldCells false 1 (x :: l) = some x := rfl
theorem setAt_one (x y : AV) : setAt [x] 0 [y] = [y] := rfl
theorem cells_int (k : IntKind) (n : Int) : (AV.int k n).cells = [.int k n] := rfl
theorem rws_swp (C : Cmp P K α) (d : Array α) (i j : Nat) : rws C ((d.setIfInBounds i (el d j)).setIfInBounds j (el d i)) = rws C (swp d i j) := rfl
theorem get_ins_same {α : Type} {b c : Nat} {x v : α} {H : List (Nat × α)} (hb : get H b = some x) (h : get (ins b x H) c = some v) : get H c = some v := by
  rw [get_ins] at h
  split at h
  · rename_i e; subst e; rw [← h]; exact hb
  · exact h
theorem ins_ins {α : Type} (b : Nat) (x y : α) : ∀ H : List (Nat × α), ins b x (ins b y H) = ins b x H
  | [] => by simp [ins]
  | (k, u) :: l => by
    simp only [ins]
    split
    · simp [ins]
    · split
      · simp [ins]
      · rename_i h1 h2; simp [ins, h1, h2, ins_ins b x y l]
theorem pureL_append {a b : List AV} : pureL (a ++ b) = (pureL a && pureL b) := by
  induction a with
  | nil => simp [pureL]
  | cons x a ih => simp [pureL, ih, Bool.and_assoc]

abbrev slA (K : SK) (b m : Nat) : AV := .sl K.sz b 0 m

theorem ins_ok (L : Lays P K) (C : Cmp P K α) {H : Heap} {n b m : Nat} (hbn : b < n) {d : Array α} (hm : d.size = m) (hd : m < 1073741824) (a e : Nat) (he : e ≤ m) (hae : a ≤ e) (hb : get H b = some (.rows K.sz (rws C d))) :
    ACalls P K.ins [slA K b m, .int .i64 a, .int .i64 e, C.fn] H n (postO n (.tup []) (ins b (.rows K.sz (rws C (insertionSort C.lt d a e))) H)) := by
  refine own_body L.ins rfl ?_
  simp only [parV, cIns]
  refine LWP_seq ?_
  apply LWP_run
  · simp -implicitDefEqProofs [stepsS, stepS, gd, opEff, LArg.ev, app_val, app_new, app_upd, app_kill, putV, ins, get, binV, binI, grd, bnd, AV.scalar, AV.known, fillL, chunks, elems, mxI, mnI, del, Nat.add_assoc, nlt_self, nne_self, nne_self', List.take_of_length_le, ld1, cells_int, setAt_one]; rfl
  have w1 : IntKind.i64.wrap ((a : Int) + 1) = ((a + 1 : Nat) : Int) := wrap_succ (by omega)
  refine LWP_block (LWP_inv (fun q : Nat × Array α × Nat => ⟨[(0, slA K b m), (1, .int .i64 a), (2, .int .i64 e), (3, C.fn), (8, .int .i64 q.1)], ins b (.rows K.sz (rws C q.2.1)) H, q.2.2⟩) (fun q => e - q.1)
    (fun q => a < q.1 ∧ (q.1 ≤ e ∨ q.1 = a + 1) ∧ q.2.1.size = m ∧ n ≤ q.2.2 ∧ insOuter C.lt a e q.1 q.2.1 = insertionSort C.lt d a e) (a + 1, d, n) ?_ ⟨by simp only; omega, .inr rfl, hm, Nat.le_refl _, rfl⟩ ?_)
  · refine .mk' ?_ (fun c v h => get_ins_same hb h) (by simp)
    simp [leV, get, wkV.refl, w1]
  rintro ⟨i, d1, nx⟩ ⟨h1, h2, h3, h5, h4⟩
  simp only at h1 h2 h3 h4 h5 ⊢
  refine LWP_seq (LWP_seq ?_)
  apply LWP_run
  · simp -implicitDefEqProofs [stepsS, stepS, gd, opEff, LArg.ev, app_val, app_new, app_upd, app_kill, putV, ins, get, binV, binI, grd, bnd, AV.scalar, AV.known, fillL, chunks, elems, mxI, mnI, del, Nat.add_assoc, nlt_self, nne_self, nne_self', List.take_of_length_le, ld1, cells_int, setAt_one]; rfl
  refine LWP_cond (t := decide (i < e)) (by simp [LArg.ev, get]) (fun hc => LWP_skip ?_) (fun hc => LWP_exit ?_)
  · have hc' : i < e := by simpa using hc
    refine LWP_seq (LWP_block (LWP_seq ?_))
    apply LWP_run
    · simp -implicitDefEqProofs [stepsS, stepS, gd, opEff, LArg.ev, app_val, app_new, app_upd, app_kill, putV, ins, get, binV, binI, grd, bnd, AV.scalar, AV.known, fillL, chunks, elems, mxI, mnI, del, Nat.add_assoc, nlt_self, nne_self, nne_self', List.take_of_length_le, ld1, cells_int, setAt_one]; rfl
    refine LWP_block (LWP_inv (fun q : Nat × Array α × Nat => ⟨[(0, slA K b m), (1, .int .i64 a), (2, .int .i64 e), (3, C.fn), (8, .int .i64 i), (9, .int .i64 q.1)], ins b (.rows K.sz (rws C q.2.1)) H, q.2.2⟩) (fun q => q.1)
      (fun q => a ≤ q.1 ∧ q.1 ≤ i ∧ q.2.1.size = m ∧ n ≤ q.2.2 ∧ insInner C.lt a q.1 q.2.1 = insInner C.lt a i d1) (i, d1, nx) ?_ ⟨by simp only; omega, Nat.le_refl _, h3, h5, rfl⟩ ?_)
    · refine .mk' ?_ (fun c v h => h) (by simp)
      simp [leV, get, wkV.refl]
    rintro ⟨j, d2, ny⟩ ⟨k1, k2, k3, k5, k4⟩
    simp only at k1 k2 k3 k4 k5 ⊢
    have hb2 : ∀ k, b < ny + k := fun k => by omega
    have hb3 : b < ny := by omega
    refine LWP_seq (LWP_seq ?_)
    by_cases hj : a < j
    · obtain ⟨j, rfl⟩ : ∃ j', j = j' + 1 := ⟨j - 1, by omega⟩
      have e1 : ((j : Int) + 1).toNat = j + 1 := by omega
      have e2 : 0 ≤ (j : Int) + 1 := by omega
      have e3 : (j : Int) + 1 < (m : Int) := by omega
      have e4 : j < m := by omega
      have e5 : j + 1 < d2.size := by omega
      have e6 : j < d2.size := by omega
      have e7 : (a : Int) < (j : Int) + 1 := by omega
      have e8 := wrap_nat (n := j) (by omega)
      refine LWP_regD' fun K' hK => ?_
      apply rgnD_pre 14
      · simp -implicitDefEqProofs [stepsD, stepD, ST.as, dEffF, LOp.cls, softOK, LOp.args, AV.ids, gd, opEff, LArg.ev, appD_val, appD_new, appD_upd, appD_kill, AS.flush, delAll, putV, ins, get, binV, binI, grd, bnd, AV.scalar, AV.known, fillL, chunks, elems, mxI, mnI, del, Nat.add_assoc, nlt_self, nne_self, nne_self', List.take_of_length_le, ld1, cells_int, setAt_one, Cmp.fn, e1, e2, e3, e4, e5, e6, e7, e8, rws_len, rws_get, C.ld, get_ins, hb2, hb3]; rfl
      refine rgnD_call (C.call (el d2 (j + 1)) (el d2 j)) rfl rfl (by simp [pureL, AV.pure, pureL_append, C.pv, C.pf, C.pc]) (by simp [AV.pure, pureL_append, C.pv, C.pf, C.pc]) (by simp [gd, get, LArg.ev]) (by simp [get]) ?_
      apply rgnD_pre 99
      · simp -implicitDefEqProofs [stepsD, stepD, ST.as, dEffF, LOp.cls, softOK, LOp.args, AV.ids, gd, opEff, LArg.ev, appD_val, appD_new, appD_upd, appD_kill, AS.flush, delAll, putV, ins, get, binV, binI, grd, bnd, AV.scalar, AV.known, fillL, chunks, elems, mxI, mnI, del, Nat.add_assoc, nlt_self, nne_self, nne_self', List.take_of_length_le, ld1, cells_int, setAt_one]; rfl
      refine hK _ _ (by simp [AS.fin, delAll, del, Nat.add_assoc]; rfl) ?_; clear hK
      have hlt : decide (C.c (el d2 (j + 1)) (el d2 j) < 0) = C.lt d2[j + 1]! d2[j]! := rfl
      cases ht : C.lt d2[j + 1]! d2[j]! with
      | true =>
        rw [ht] at hlt
        refine LWP_cond (t := true) (by simp [LArg.ev, get, hlt]) (fun _ => LWP_skip ?_) (fun h => by cases h)
        refine LWP_seq (LWP_block ?_)
        apply LWP_runD
        · simp -implicitDefEqProofs [stepsD, stepD, ST.as, dEffF, LOp.cls, softOK, LOp.args, AV.ids, gd, opEff, LArg.ev, appD_val, appD_new, appD_upd, appD_kill, AS.flush, delAll, putV, ins, get, binV, binI, grd, bnd, AV.scalar, AV.known, fillL, chunks, elems, mxI, mnI, del, Nat.add_assoc, nlt_self, nne_self, nne_self', List.take_of_length_le, ld1, cells_int, setAt_one, Cmp.fn, e1, e2, e3, e4, e5, e6, e7, e8, rws_len, rws_get, C.ld, C.st, C.len, C.sc, get_ins, hb2, hb3, rws_set, setAt_enc, rws_swp, ins_ins]; rfl
        · simp [AS.fin, delAll, del, Nat.add_assoc]; rfl
        apply LWP_run
        · simp -implicitDefEqProofs [stepsS, stepS, gd, opEff, LArg.ev, app_val, app_new, app_upd, app_kill, putV, ins, get, binV, binI, grd, bnd, AV.scalar, AV.known, fillL, chunks, elems, mxI, mnI, del, Nat.add_assoc, nlt_self, nne_self, nne_self', List.take_of_length_le, ld1, cells_int, setAt_one, e8]; rfl
        refine ⟨(j, swp d2 (j + 1) j, _), ⟨by simp only; omega, by simp only; omega, by simp [swp, k3], ?_, ?_⟩, by simp only; omega, .mk' ?_ (fun _ _ h => h) rfl⟩
        · simp only; omega
        · rw [← k4]
          simp only [insInner]
          rw [if_pos (by simp [ht]; omega)]
        · simp [leV, get, wkV.refl, Cmp.fn]
      | false =>
        rw [ht] at hlt
        refine LWP_cond (t := false) (by simp [LArg.ev, get, hlt]) (fun h => by cases h) (fun _ => LWP_exit ?_)
        have h6 : d2 = insInner C.lt a i d1 := by rw [← k4]; first | exact ht.symm | (simp only [insInner]; rw [if_neg (by simp [ht])])
        apply LWP_run
        · simp -implicitDefEqProofs [stepsS, stepS, gd, opEff, LArg.ev, app_val, app_new, app_upd, app_kill, putV, ins, get, binV, binI, grd, bnd, AV.scalar, AV.known, fillL, chunks, elems, mxI, mnI, del, Nat.add_assoc, nlt_self, nne_self, nne_self', List.take_of_length_le, ld1, cells_int, setAt_one]; rfl
        refine ⟨(i + 1, d2, _), ⟨by simp only; omega, by simp only; omega, k3, ?_, ?_⟩, by simp only; omega, .mk' ?_ (fun _ _ h => h) rfl⟩
        · simp only; omega
        · rw [← h4, h6]
          conv => rhs; rw [insOuter, if_pos hc']
        · simp [leV, get, wkV.refl, Cmp.fn, wrap_succ (n := i) (by omega)]
    · have e7 : ¬ (a : Int) < (j : Int) := by omega
      apply LWP_runD
      · simp -implicitDefEqProofs [stepsD, stepD, ST.as, dEffF, LOp.cls, softOK, LOp.args, AV.ids, gd, opEff, LArg.ev, appD_val, appD_new, appD_upd, appD_kill, AS.flush, delAll, putV, ins, get, binV, binI, grd, bnd, AV.scalar, AV.known, fillL, chunks, elems, mxI, mnI, del, Nat.add_assoc, nlt_self, nne_self, nne_self', List.take_of_length_le, ld1, cells_int, setAt_one, e7]; rfl
      · simp [AS.fin, delAll, del, Nat.add_assoc]; rfl
      refine LWP_cond (t := false) (by simp [LArg.ev, get]) (fun h => by cases h) (fun _ => LWP_exit ?_)
      have ht : insInner C.lt a j d2 = d2 := by
        cases j with
        | zero => rfl
        | succ j => simp only [insInner]; rw [if_neg (by simp; omega)]
      have h6 : d2 = insInner C.lt a i d1 := by rw [← k4]; first | exact ht.symm | (simp only [insInner]; rw [if_neg (by simp [ht])])
      apply LWP_run
      · simp -implicitDefEqProofs [stepsS, stepS, gd, opEff, LArg.ev, app_val, app_new, app_upd, app_kill, putV, ins, get, binV, binI, grd, bnd, AV.scalar, AV.known, fillL, chunks, elems, mxI, mnI, del, Nat.add_assoc, nlt_self, nne_self, nne_self', List.take_of_length_le, ld1, cells_int, setAt_one]; rfl
      refine ⟨(i + 1, d2, _), ⟨by simp only; omega, by simp only; omega, k3, ?_, ?_⟩, by simp only; omega, .mk' ?_ (fun _ _ h => h) rfl⟩
      · simp only; omega
      · rw [← h4, h6]
        conv => rhs; rw [insOuter, if_pos hc']
      · simp [leV, get, wkV.refl, Cmp.fn, wrap_succ (n := i) (by omega)]
  · have hc' : ¬ i < e := by simpa using hc
    have hr : insOuter C.lt a e i d1 = d1 := by rw [insOuter, if_neg hc']
    rw [hr] at h4
    show retO [] n (.tup []) _ Exit.normal _
    refine ⟨by simp only; omega, ⟨_, rfl, wkV.refl _⟩, fun c v h => ?_⟩
    rw [h4]; exact h
end
end Go.AM

/- The library's sort: the heap, and the turning round. -/

namespace Go.AM
open Go.Sort
section
variable {P : Program} {K : SK} {α : Type} [Inhabited α]

theorem rev_ok (L : Lays P K) (C : Cmp P K α) {H : Heap} {n b m : Nat} (hbn : b < n) {d : Array α} (hm : d.size = m) (hd : m < 1073741824) (a e : Nat) (he : e ≤ m) (hae : a < e) (hb : get H b = some (.rows K.sz (rws C d))) :
    ACalls P K.rev [slA K b m, .int .i64 a, .int .i64 e, C.fn] H n (postO n (.tup []) (ins b (.rows K.sz (rws C (reverseRange d a e))) H)) := by
  refine own_body L.rev rfl ?_
  simp only [parV, cRev]
  refine LWP_seq ?_
  apply LWP_run
  · simp -implicitDefEqProofs [stepsS, stepS, gd, opEff, LArg.ev, app_val, app_new, app_upd, app_kill, putV, ins, get, binV, binI, grd, bnd, AV.scalar, AV.known, fillL, chunks, elems, mxI, mnI, del, Nat.add_assoc, nlt_self, nne_self, nne_self', List.take_of_length_le, ld1, cells_int, setAt_one]; rfl
  refine LWP_seq ?_
  apply LWP_run
  · simp -implicitDefEqProofs [stepsS, stepS, gd, opEff, LArg.ev, app_val, app_new, app_upd, app_kill, putV, ins, get, binV, binI, grd, bnd, AV.scalar, AV.known, fillL, chunks, elems, mxI, mnI, del, Nat.add_assoc, nlt_self, nne_self, nne_self', List.take_of_length_le, ld1, cells_int, setAt_one]; rfl
  have w1 : IntKind.i64.wrap ((e : Int) - 1) = ((e - 1 : Nat) : Int) := by rw [wrap_i64 (by omega) (by omega)]; omega
  refine LWP_block (LWP_inv (fun q : Nat × Nat × Array α × Nat => ⟨[(0, slA K b m), (8, .int .i64 q.1), (9, .int .i64 q.2.1)], ins b (.rows K.sz (rws C q.2.2.1)) H, q.2.2.2⟩) (fun q => q.2.1 - q.1)
    (fun q => q.2.1 < m ∧ q.2.2.1.size = m ∧ n ≤ q.2.2.2 ∧ reverseLoop q.1 q.2.1 q.2.2.1 = reverseRange d a e) (a, e - 1, d, n) ?_ ⟨by simp only; omega, hm, Nat.le_refl _, rfl⟩ ?_)
  · refine .mk' ?_ (fun c v h => get_ins_same hb h) (by simp)
    simp [leV, get, wkV.refl, w1]
  rintro ⟨i, j, d1, nx⟩ ⟨h1, h2, h3, h4⟩
  simp only at h1 h2 h3 h4 ⊢
  have hb2 : ∀ k, b < nx + k := fun k => by omega
  have hb3 : b < nx := by omega
  refine LWP_seq (LWP_seq ?_)
  apply LWP_run
  · simp -implicitDefEqProofs [stepsS, stepS, gd, opEff, LArg.ev, app_val, app_new, app_upd, app_kill, putV, ins, get, binV, binI, grd, bnd, AV.scalar, AV.known, fillL, chunks, elems, mxI, mnI, del, Nat.add_assoc, nlt_self, nne_self, nne_self', List.take_of_length_le, ld1, cells_int, setAt_one]; rfl
  refine LWP_cond (t := decide (i < j)) (by simp [LArg.ev, get]) (fun hc => LWP_skip ?_) (fun hc => LWP_exit ?_)
  · have hc' : i < j := by simpa using hc
    have e1 : i < m := by omega
    refine LWP_block (LWP_seq ?_)
    apply LWP_runD
    · simp -implicitDefEqProofs [stepsD, stepD, ST.as, dEffF, LOp.cls, softOK, LOp.args, AV.ids, gd, opEff, LArg.ev, appD_val, appD_new, appD_upd, appD_kill, AS.flush, delAll, putV, ins, get, binV, binI, grd, bnd, AV.scalar, AV.known, fillL, chunks, elems, mxI, mnI, del, Nat.add_assoc, nlt_self, nne_self, nne_self', List.take_of_length_le, ld1, cells_int, setAt_one, Cmp.fn, rws_len, rws_get, C.ld, C.st, C.len, C.sc, get_ins, hb2, hb3, rws_set, setAt_enc, rws_swp, ins_ins, e1, h1, h2]; rfl
    · simp [AS.fin, delAll, del, Nat.add_assoc]; rfl
    refine LWP_seq ?_
    apply LWP_run
    · simp -implicitDefEqProofs [stepsS, stepS, gd, opEff, LArg.ev, app_val, app_new, app_upd, app_kill, putV, ins, get, binV, binI, grd, bnd, AV.scalar, AV.known, fillL, chunks, elems, mxI, mnI, del, Nat.add_assoc, nlt_self, nne_self, nne_self', List.take_of_length_le, ld1, cells_int, setAt_one, wrap_succ (n := i) (by omega)]; rfl
    have w2 : IntKind.i64.wrap ((j : Int) - 1) = ((j - 1 : Nat) : Int) := by rw [wrap_i64 (by omega) (by omega)]; omega
    apply LWP_run
    · simp -implicitDefEqProofs [stepsS, stepS, gd, opEff, LArg.ev, app_val, app_new, app_upd, app_kill, putV, ins, get, binV, binI, grd, bnd, AV.scalar, AV.known, fillL, chunks, elems, mxI, mnI, del, Nat.add_assoc, nlt_self, nne_self, nne_self', List.take_of_length_le, ld1, cells_int, setAt_one, w2]; rfl
    refine ⟨(i + 1, j - 1, swp d1 i j, _), ⟨by simp only; omega, by simp [swp, h2], ?_, ?_⟩, by simp only; omega, .mk' (by simp [leV, get, wkV.refl, Cmp.fn]) (fun _ _ h => h) rfl⟩
    · simp only; omega
    · rw [← h4]
      conv => rhs; rw [reverseLoop, if_pos hc']
  · have hc' : ¬ i < j := by simpa using hc
    have hr : reverseLoop i j d1 = d1 := by rw [reverseLoop, if_neg hc']
    rw [hr] at h4
    show retO [] n (.tup []) _ Exit.normal _
    refine ⟨by simp only; omega, ⟨_, rfl, wkV.refl _⟩, fun c v h => ?_⟩
    rw [h4]; exact h

theorem sift_ok (L : Lays P K) (C : Cmp P K α) {H : Heap} {n b m : Nat} (hbn : b < n) {d : Array α} (hm : d.size = m) (hd : m < 1073741824) (lo hi fi : Nat) (he : fi + hi ≤ m) (hlo : lo < 1073741824) (hb : get H b = some (.rows K.sz (rws C d))) :
    ACalls P K.sift [slA K b m, .int .i64 lo, .int .i64 hi, .int .i64 fi, C.fn] H n (postO n (.tup []) (ins b (.rows K.sz (rws C (siftDown C.lt hi fi lo d))) H)) := by
  refine own_body L.sift rfl ?_
  simp only [parV, cSift]
  refine LWP_seq ?_
  apply LWP_run
  · simp -implicitDefEqProofs [stepsS, stepS, gd, opEff, LArg.ev, app_val, app_new, app_upd, app_kill, putV, ins, get, binV, binI, grd, bnd, AV.scalar, AV.known, fillL, chunks, elems, mxI, mnI, del, Nat.add_assoc, nlt_self, nne_self, nne_self', List.take_of_length_le, ld1, cells_int, setAt_one]; rfl
  refine LWP_block (LWP_inv (fun q : Nat × Array α × Nat => ⟨[(0, slA K b m), (2, .int .i64 hi), (3, .int .i64 fi), (4, C.fn), (10, .int .i64 q.1)], ins b (.rows K.sz (rws C q.2.1)) H, q.2.2⟩) (fun q => hi - q.1)
    (fun q => q.1 < 1073741824 ∧ q.2.1.size = m ∧ n ≤ q.2.2 ∧ siftDown C.lt hi fi q.1 q.2.1 = siftDown C.lt hi fi lo d) (lo, d, n) ?_ ⟨hlo, hm, Nat.le_refl _, rfl⟩ ?_)
  · refine .mk' ?_ (fun c v h => get_ins_same hb h) (by simp)
    simp [leV, get, wkV.refl]
  rintro ⟨r, d1, nx⟩ ⟨h1, h2, h3, h4⟩
  simp only at h1 h2 h3 h4 ⊢
  have hb2 : ∀ k, b < nx + k := fun k => by omega
  have hb3 : b < nx := by omega
  have w1 : IntKind.i64.wrap (2 * (r : Int)) = 2 * (r : Int) := wrap_i64 (by omega) (by omega)
  have w2 : IntKind.i64.wrap (2 * (r : Int) + 1) = 2 * (r : Int) + 1 := wrap_i64 (by omega) (by omega)
  refine LWP_block (LWP_seq ?_)
  apply LWP_run
  · simp -implicitDefEqProofs [stepsS, stepS, gd, opEff, LArg.ev, app_val, app_new, app_upd, app_kill, putV, ins, get, binV, binI, grd, bnd, AV.scalar, AV.known, fillL, chunks, elems, mxI, mnI, del, Nat.add_assoc, nlt_self, nne_self, nne_self', List.take_of_length_le, ld1, cells_int, setAt_one, w1, w2]; rfl
  refine LWP_seq (LWP_seq ?_)
  apply LWP_run
  · simp -implicitDefEqProofs [stepsS, stepS, gd, opEff, LArg.ev, app_val, app_new, app_upd, app_kill, putV, ins, get, binV, binI, grd, bnd, AV.scalar, AV.known, fillL, chunks, elems, mxI, mnI, del, Nat.add_assoc, nlt_self, nne_self, nne_self', List.take_of_length_le, ld1, cells_int, setAt_one]; rfl
  refine LWP_cond (t := decide (hi ≤ 2 * r + 1)) (by simp [LArg.ev, get]; omega) (fun hc => LWP_exit ?_) (fun hc => LWP_skip ?_)
  · have hc' : hi ≤ 2 * r + 1 := by simpa using hc
    have hr : siftDown C.lt hi fi r d1 = d1 := by rw [siftDown, dif_pos (by omega)]
    rw [hr] at h4
    show retO [] n (.tup []) _ Exit.normal _
    refine ⟨by simp only; omega, ⟨_, rfl, wkV.refl _⟩, fun c v h => ?_⟩
    rw [h4]; exact h
  have hc' : ¬ hi ≤ 2 * r + 1 := by simpa using hc
  refine LWP_cut (fun q : Nat × Nat => ⟨[(0, slA K b m), (2, .int .i64 hi), (3, .int .i64 fi), (4, C.fn), (10, .int .i64 r), (11, .int .i64 q.1)], ins b (.rows K.sz (rws C d1)) H, q.2⟩)
    (fun q => n ≤ q.2 ∧ r < q.1 ∧ q.1 < hi ∧ siftDown C.lt hi fi r d1 = if !C.lt d1[fi + r]! d1[fi + q.1]! then d1 else siftDown C.lt hi fi q.1 (swp d1 (fi + r) (fi + q.1))) ?_ ?_
  · have w3 : IntKind.i64.wrap (2 * (r : Int) + 2) = 2 * (r : Int) + 2 := wrap_i64 (by omega) (by omega)
    have w3' : IntKind.i64.wrap (2 * (r : Int) + (1 + 1)) = 2 * (r : Int) + 2 := wrap_i64 (by omega) (by omega)
    have w3a : IntKind.i64.wrap (2 * (r : Int) + 1 + 1) = 2 * (r : Int) + 2 := by rw [wrap_i64 (by omega) (by omega)]; omega
    by_cases hc2 : 2 * r + 2 < hi
    · obtain ⟨p, hp⟩ : ∃ p, p = fi + (2 * r + 1) := ⟨_, rfl⟩
      obtain ⟨p2, hp2⟩ : ∃ p, p = fi + (2 * r + 2) := ⟨_, rfl⟩
      have w4 : IntKind.i64.wrap ((fi : Int) + (2 * r + 1)) = (p : Int) := by rw [wrap_i64 (by omega) (by omega)]; omega
      have w5 : IntKind.i64.wrap ((p : Int) + 1) = (p2 : Int) := by rw [wrap_i64 (by omega) (by omega)]; omega
      have e1 : p < m := by omega
      have e2 : p2 < m := by omega
      have e3 : (2 * r : Int) + 2 < (hi : Int) := by omega
      refine LWP_seq (LWP_regD' fun K' hK => ?_)
      apply rgnD_pre 19
      · simp -implicitDefEqProofs [stepsD, stepD, ST.as, dEffF, LOp.cls, softOK, LOp.args, AV.ids, gd, opEff, LArg.ev, appD_val, appD_new, appD_upd, appD_kill, AS.flush, delAll, putV, ins, get, binV, binI, grd, bnd, AV.scalar, AV.known, fillL, chunks, elems, mxI, mnI, del, Nat.add_assoc, nlt_self, nne_self, nne_self', List.take_of_length_le, ld1, cells_int, setAt_one, Cmp.fn, rws_len, rws_get, C.ld, C.st, C.len, C.sc, get_ins, hb2, hb3, rws_set, setAt_enc, rws_swp, ins_ins, w3, w3a, w4, w5, e1, e2, e3, h2]; rfl
      refine rgnD_call (C.call (el d1 p) (el d1 p2)) rfl rfl (by simp [pureL, AV.pure, pureL_append, C.pv, C.pf, C.pc]) (by simp [AV.pure, pureL_append, C.pv, C.pf, C.pc]) (by simp [gd, get, LArg.ev]) (by simp [get]) ?_
      apply rgnD_pre 99
      · simp -implicitDefEqProofs [stepsD, stepD, ST.as, dEffF, LOp.cls, softOK, LOp.args, AV.ids, gd, opEff, LArg.ev, appD_val, appD_new, appD_upd, appD_kill, AS.flush, delAll, putV, ins, get, binV, binI, grd, bnd, AV.scalar, AV.known, fillL, chunks, elems, mxI, mnI, del, Nat.add_assoc, nlt_self, nne_self, nne_self', List.take_of_length_le, ld1, cells_int, setAt_one]; rfl
      refine hK _ _ (by simp [AS.fin, delAll, del, Nat.add_assoc]; rfl) ?_; clear hK
      have hlt : decide (C.c (el d1 p) (el d1 p2) < 0) = C.lt d1[p]! d1[p2]! := rfl
      have hs : siftDown C.lt hi fi r d1 = if C.lt d1[p]! d1[p2]! then (if !C.lt d1[fi + r]! d1[p2]! then d1 else siftDown C.lt hi fi (2 * r + 2) (swp d1 (fi + r) p2)) else (if !C.lt d1[fi + r]! d1[p]! then d1 else siftDown C.lt hi fi (2 * r + 1) (swp d1 (fi + r) p)) := by
        subst hp hp2
        conv => lhs; rw [siftDown, dif_neg (by omega)]
        have : (2 * r + 1 + 1 < hi) = True := by simp; omega
        simp only [this, decide_true, Bool.true_and, Nat.add_assoc, dif_pos hc2]
        simp
      cases ht : C.lt d1[p]! d1[p2]! with
      | true =>
        rw [ht] at hlt
        rw [ht, if_pos rfl] at hs
        refine LWP_cond (t := true) (by simp [LArg.ev, get, hlt]) (fun _ => ?_) (fun h => by cases h)
        apply LWP_run
        · simp -implicitDefEqProofs [stepsS, stepS, gd, opEff, LArg.ev, app_val, app_new, app_upd, app_kill, putV, ins, get, binV, binI, grd, bnd, AV.scalar, AV.known, fillL, chunks, elems, mxI, mnI, del, Nat.add_assoc, nlt_self, nne_self, nne_self', List.take_of_length_le, ld1, cells_int, setAt_one, w3, w3a]; rfl
        refine ⟨(2 * r + 2, _), ⟨?_, by simp only; omega, by simp only; omega, by subst hp2; exact hs⟩, .mk' (by simp [leV, get, wkV.refl, Cmp.fn]) (fun _ _ h => h) rfl⟩
        simp only; omega
      | false =>
        rw [ht] at hlt
        rw [ht, if_neg (by simp)] at hs
        refine LWP_cond (t := false) (by simp [LArg.ev, get, hlt]) (fun h => by cases h) (fun _ => LWP_skip ?_)
        refine ⟨(2 * r + 1, _), ⟨?_, by simp only; omega, by simp only; omega, by subst hp; exact hs⟩, .mk' (by simp [leV, get, wkV.refl, Cmp.fn]) (fun _ _ h => h) rfl⟩
        simp only; omega
    · have e3 : ¬ (2 * r : Int) + 2 < (hi : Int) := by omega
      refine LWP_seq ?_
      apply LWP_runD
      · simp -implicitDefEqProofs [stepsD, stepD, ST.as, dEffF, LOp.cls, softOK, LOp.args, AV.ids, gd, opEff, LArg.ev, appD_val, appD_new, appD_upd, appD_kill, AS.flush, delAll, putV, ins, get, binV, binI, grd, bnd, AV.scalar, AV.known, fillL, chunks, elems, mxI, mnI, del, Nat.add_assoc, nlt_self, nne_self, nne_self', List.take_of_length_le, ld1, cells_int, setAt_one, w3, w3a, e3]; rfl
      · simp [AS.fin, delAll, del, Nat.add_assoc]; rfl
      refine LWP_cond (t := false) (by simp [LArg.ev, get]) (fun h => by cases h) (fun _ => LWP_skip ?_)
      refine ⟨(2 * r + 1, _), ⟨?_, by simp only; omega, by simp only; omega, ?_⟩, .mk' (by simp [leV, get, wkV.refl, Cmp.fn]) (fun _ _ h => h) rfl⟩
      · simp only; omega
      · conv => lhs; rw [siftDown, dif_neg (by omega)]
        have : (2 * r + 1 + 1 < hi) = False := by simp; omega
        simp only [this, decide_false, Bool.false_and, Bool.false_eq_true, if_false]
  · rintro ⟨c, ny⟩ ⟨k1, k2, k3, k4⟩
    simp only at k1 k2 k3 k4 ⊢
    have hb2 : ∀ k, b < ny + k := fun k => by omega
    have hb3 : b < ny := by omega
    obtain ⟨p, hp⟩ : ∃ p, p = fi + r := ⟨_, rfl⟩
    obtain ⟨p2, hp2⟩ : ∃ p, p = fi + c := ⟨_, rfl⟩
    have w4 : IntKind.i64.wrap ((fi : Int) + r) = (p : Int) := by rw [wrap_i64 (by omega) (by omega)]; omega
    have w5 : IntKind.i64.wrap ((fi : Int) + c) = (p2 : Int) := by rw [wrap_i64 (by omega) (by omega)]; omega
    have e1 : p < m := by omega
    have e2 : p2 < m := by omega
    rw [← hp, ← hp2] at k4
    refine LWP_seq (LWP_seq (LWP_regD' fun K' hK => ?_))
    apply rgnD_pre 13
    · simp -implicitDefEqProofs [stepsD, stepD, ST.as, dEffF, LOp.cls, softOK, LOp.args, AV.ids, gd, opEff, LArg.ev, appD_val, appD_new, appD_upd, appD_kill, AS.flush, delAll, putV, ins, get, binV, binI, grd, bnd, AV.scalar, AV.known, fillL, chunks, elems, mxI, mnI, del, Nat.add_assoc, nlt_self, nne_self, nne_self', List.take_of_length_le, ld1, cells_int, setAt_one, Cmp.fn, rws_len, rws_get, C.ld, C.st, C.len, C.sc, get_ins, hb2, hb3, rws_set, setAt_enc, rws_swp, ins_ins, w4, w5, e1, e2, h2]; rfl
    refine rgnD_call (C.call (el d1 p) (el d1 p2)) rfl rfl (by simp [pureL, AV.pure, pureL_append, C.pv, C.pf, C.pc]) (by simp [AV.pure, pureL_append, C.pv, C.pf, C.pc]) (by simp [gd, get, LArg.ev]) (by simp [get]) ?_
    apply rgnD_pre 99
    · simp -implicitDefEqProofs [stepsD, stepD, ST.as, dEffF, LOp.cls, softOK, LOp.args, AV.ids, gd, opEff, LArg.ev, appD_val, appD_new, appD_upd, appD_kill, AS.flush, delAll, putV, ins, get, binV, binI, grd, bnd, AV.scalar, AV.known, fillL, chunks, elems, mxI, mnI, del, Nat.add_assoc, nlt_self, nne_self, nne_self', List.take_of_length_le, ld1, cells_int, setAt_one]; rfl
    refine hK _ _ (by simp [AS.fin, delAll, del, Nat.add_assoc]; rfl) ?_; clear hK
    have hlt : decide (C.c (el d1 p) (el d1 p2) < 0) = C.lt d1[p]! d1[p2]! := rfl
    cases ht : C.lt d1[p]! d1[p2]! with
    | true =>
      rw [ht] at hlt
      rw [ht] at k4
      simp only [Bool.not_true, Bool.false_eq_true, if_false] at k4
      refine LWP_cond (t := false) (by simp [LArg.ev, get, hlt]) (fun h => by cases h) (fun _ => LWP_skip ?_)
      refine LWP_seq ?_
      apply LWP_runD
      · simp -implicitDefEqProofs [stepsD, stepD, ST.as, dEffF, LOp.cls, softOK, LOp.args, AV.ids, gd, opEff, LArg.ev, appD_val, appD_new, appD_upd, appD_kill, AS.flush, delAll, putV, ins, get, binV, binI, grd, bnd, AV.scalar, AV.known, fillL, chunks, elems, mxI, mnI, del, Nat.add_assoc, nlt_self, nne_self, nne_self', List.take_of_length_le, ld1, cells_int, setAt_one, Cmp.fn, rws_len, rws_get, C.ld, C.st, C.len, C.sc, get_ins, hb2, hb3, rws_set, setAt_enc, rws_swp, ins_ins, w4, w5, e1, e2, h2]; rfl
      · simp [AS.fin, delAll, del, Nat.add_assoc]; rfl
      apply LWP_run
      · simp -implicitDefEqProofs [stepsS, stepS, gd, opEff, LArg.ev, app_val, app_new, app_upd, app_kill, putV, ins, get, binV, binI, grd, bnd, AV.scalar, AV.known, fillL, chunks, elems, mxI, mnI, del, Nat.add_assoc, nlt_self, nne_self, nne_self', List.take_of_length_le, ld1, cells_int, setAt_one]; rfl
      refine ⟨(c, swp d1 p p2, _), ⟨by simp only; omega, by simp [swp, h2], ?_, by rw [← h4]; exact k4.symm⟩, by simp only; omega, .mk' (by simp [leV, get, wkV.refl, Cmp.fn]) (fun _ _ h => h) rfl⟩
      simp only; omega
    | false =>
      rw [ht] at hlt
      rw [ht] at k4
      simp only [Bool.not_false, if_true] at k4
      refine LWP_cond (t := true) (by simp [LArg.ev, get, hlt]) (fun _ => LWP_ret ?_) (fun h => by cases h)
      show retO [] n (.tup []) _ Exit.ret _
      refine ⟨by simp only; omega, ⟨_, rfl, wkV.refl _⟩, fun c v h => ?_⟩
      rw [← h4, k4] at h; exact h
end
end Go.AM

/- The library's sort: heapSort. -/

namespace Go.AM
open Go.Sort
section
variable {P : Program} {K : SK} {α : Type} [Inhabited α]

theorem sift_size (lt : α → α → Bool) (hi fi : Nat) : ∀ (k r : Nat) (d : Array α), hi - r ≤ k → (siftDown lt hi fi r d).size = d.size
  | 0, r, d, h => by rw [siftDown, dif_pos (by omega)]
  | k + 1, r, d, h => by
    rw [siftDown]
    split
    · rfl
    · split
      · split
        · rfl
        · split
          · rw [sift_size lt hi fi k _ _ (by omega)]; simp [swp]
          · rfl
      · split
        · rfl
        · rw [sift_size lt hi fi k _ _ (by omega)]; simp [swp]

theorem heap_ok (L : Lays P K) (C : Cmp P K α) {H : Heap} {n b m : Nat} (hbn : b < n) {d : Array α} (hm : d.size = m) (hd : m < 1073741824) (a e : Nat) (he : e ≤ m) (hae : a < e) (hb : get H b = some (.rows K.sz (rws C d))) :
    ACalls P K.heap [slA K b m, .int .i64 a, .int .i64 e, C.fn] H n (postO n (.tup []) (ins b (.rows K.sz (rws C (heapSort C.lt d a e))) H)) := by
  refine own_body L.heap rfl ?_
  simp only [parV, cHeap]
  refine LWP_seq ?_
  apply LWP_run
  · simp -implicitDefEqProofs [stepsS, stepS, gd, opEff, LArg.ev, app_val, app_new, app_upd, app_kill, putV, ins, get, binV, binI, grd, bnd, AV.scalar, AV.known, fillL, chunks, elems, mxI, mnI, del, Nat.add_assoc, nlt_self, nne_self, nne_self', List.take_of_length_le, ld1, cells_int, setAt_one]; rfl
  refine LWP_seq ?_
  apply LWP_run
  · simp -implicitDefEqProofs [stepsS, stepS, gd, opEff, LArg.ev, app_val, app_new, app_upd, app_kill, putV, ins, get, binV, binI, grd, bnd, AV.scalar, AV.known, fillL, chunks, elems, mxI, mnI, del, Nat.add_assoc, nlt_self, nne_self, nne_self', List.take_of_length_le, ld1, cells_int, setAt_one]; rfl
  refine LWP_seq ?_
  have w1 : IntKind.i64.wrap ((e : Int) - a) = ((e - a : Nat) : Int) := by rw [wrap_i64 (by omega) (by omega)]; omega
  apply LWP_run
  · simp -implicitDefEqProofs [stepsS, stepS, gd, opEff, LArg.ev, app_val, app_new, app_upd, app_kill, putV, ins, get, binV, binI, grd, bnd, AV.scalar, AV.known, fillL, chunks, elems, mxI, mnI, del, Nat.add_assoc, nlt_self, nne_self, nne_self', List.take_of_length_le, ld1, cells_int, setAt_one, w1]; rfl
  obtain ⟨hi, hhi⟩ : ∃ h, h = e - a := ⟨_, rfl⟩
  have w2 : IntKind.i64.wrap ((hi : Int) - 1) = ((hi - 1 : Nat) : Int) := by rw [wrap_i64 (by omega) (by omega)]; omega
  have w3 : IntKind.i64.wrap (Int.tdiv ((hi - 1 : Nat) : Int) 2) = (((hi - 1) / 2 : Nat) : Int) := by
    rw [show Int.tdiv ((hi - 1 : Nat) : Int) 2 = (((hi - 1) / 2 : Nat) : Int) from rfl]; exact wrap_nat (by omega)
  have w3' : IntKind.i64.wrap (((hi - 1 : Nat) : Int) / 2) = ((hi - 1 : Nat) : Int) / 2 := wrap_i64 (by omega) (by omega)
  rw [← hhi]
  refine LWP_cut (fun q : Array α × Nat => ⟨[(0, slA K b m), (3, C.fn), (8, .int .i64 a), (9, .int .i64 0), (10, .int .i64 hi)], ins b (.rows K.sz (rws C q.1)) H, q.2⟩)
    (fun q => n ≤ q.2 ∧ q.1.size = m ∧ heapPop C.lt a hi q.1 = heapSort C.lt d a e) ?_ ?_
  · refine LWP_seq ?_
    apply LWP_run
    · simp -implicitDefEqProofs [stepsS, stepS, gd, opEff, LArg.ev, app_val, app_new, app_upd, app_kill, putV, ins, get, binV, binI, grd, bnd, AV.scalar, AV.known, fillL, chunks, elems, mxI, mnI, del, Nat.add_assoc, nlt_self, nne_self, nne_self', List.take_of_length_le, ld1, cells_int, setAt_one, w2, w3, w3']; rfl
    refine LWP_block (LWP_inv (fun q : Nat × Array α × Nat => ⟨[(0, slA K b m), (3, C.fn), (8, .int .i64 a), (9, .int .i64 0), (10, .int .i64 hi), (11, .int .i64 ((q.1 : Int) - 1))], ins b (.rows K.sz (rws C q.2.1)) H, q.2.2⟩) (fun q => q.1)
      (fun q => q.1 ≤ m + 1 ∧ n ≤ q.2.2 ∧ q.2.1.size = m ∧ heapPop C.lt a hi (heapBuild C.lt hi a q.1 q.2.1) = heapSort C.lt d a e) ((hi - 1) / 2 + 1, d, n) ?_ ⟨by simp only; omega, Nat.le_refl _, hm, by simp only [heapSort, hhi]⟩ ?_)
    · refine .mk' ?_ (fun c v h => get_ins_same hb h) (by simp)
      simp [leV, get, wkV.refl, w3']
    rintro ⟨k, d1, nx⟩ ⟨h1, h2, h3, h4⟩
    simp only at h1 h2 h3 h4 ⊢
    refine LWP_seq (LWP_seq ?_)
    cases k with
    | zero =>
      apply LWP_run
      · simp -implicitDefEqProofs [stepsS, stepS, gd, opEff, LArg.ev, app_val, app_new, app_upd, app_kill, putV, ins, get, binV, binI, grd, bnd, AV.scalar, AV.known, fillL, chunks, elems, mxI, mnI, del, Nat.add_assoc, nlt_self, nne_self, nne_self', List.take_of_length_le, ld1, cells_int, setAt_one]; rfl
      refine LWP_cond (t := false) (by simp [LArg.ev, get]) (fun h => by cases h) (fun _ => LWP_exit ?_)
      refine ⟨(d1, _), ⟨h2, h3, h4⟩, .mk' (by simp [leV, get, wkV.refl, Cmp.fn]) (fun _ _ h => h) rfl⟩
    | succ k =>
      have w4 : ((k + 1 : Nat) : Int) - 1 = (k : Int) := by omega
      rw [w4]
      apply LWP_run
      · simp -implicitDefEqProofs [stepsS, stepS, gd, opEff, LArg.ev, app_val, app_new, app_upd, app_kill, putV, ins, get, binV, binI, grd, bnd, AV.scalar, AV.known, fillL, chunks, elems, mxI, mnI, del, Nat.add_assoc, nlt_self, nne_self, nne_self', List.take_of_length_le, ld1, cells_int, setAt_one]; rfl
      refine LWP_cond (t := true) (by simp [LArg.ev, get]) (fun _ => LWP_skip ?_) (fun h => by cases h)
      refine LWP_seq (LWP_block (LWP_reg fun K' hK => ?_))
      apply rgnS_pre 5
      · simp -implicitDefEqProofs [stepsS, stepS, gd, opEff, LArg.ev, app_val, app_new, app_upd, app_kill, putV, ins, get, binV, binI, grd, bnd, AV.scalar, AV.known, fillL, chunks, elems, mxI, mnI, del, Nat.add_assoc, nlt_self, nne_self, nne_self', List.take_of_length_le, ld1, cells_int, setAt_one]; rfl
      refine rgnS_callO (sift_ok L C (b := b) (m := m) (by simp only; omega) h3 hd k hi a (by omega) (by omega) (by simp [get_ins])) rfl rfl (by simp [gd, get, LArg.ev]) ?_
      intro n' hn'
      simp only [ins_ins]
      apply rgnS_pre 99
      · simp -implicitDefEqProofs [stepsS, stepS, gd, opEff, LArg.ev, app_val, app_new, app_upd, app_kill, putV, ins, get, binV, binI, grd, bnd, AV.scalar, AV.known, fillL, chunks, elems, mxI, mnI, del, Nat.add_assoc, nlt_self, nne_self, nne_self', List.take_of_length_le, ld1, cells_int, setAt_one]; rfl
      refine hK _ ?_; clear hK
      apply LWP_run
      · simp -implicitDefEqProofs [stepsS, stepS, gd, opEff, LArg.ev, app_val, app_new, app_upd, app_kill, putV, ins, get, binV, binI, grd, bnd, AV.scalar, AV.known, fillL, chunks, elems, mxI, mnI, del, Nat.add_assoc, nlt_self, nne_self, nne_self', List.take_of_length_le, ld1, cells_int, setAt_one]; rfl
      refine ⟨(k, siftDown C.lt hi a k d1, n'), ⟨by simp only; omega, ?_, by simp only; rw [sift_size _ _ _ _ _ _ (Nat.le_refl _)]; exact h3, h4⟩, by simp only; omega, ?_⟩
      · simp only at hn' ⊢; omega
      · refine .mk' ?_ (fun _ _ h => h) rfl
        simp [leV, get, wkV.refl, Cmp.fn, wrap_i64 (n := (k : Int) - 1) (by omega) (by omega)]
  · rintro ⟨d1, nx⟩ ⟨h1, h2, h3⟩
    simp only at h1 h2 h3 ⊢
    refine LWP_seq ?_
    apply LWP_run
    · simp -implicitDefEqProofs [stepsS, stepS, gd, opEff, LArg.ev, app_val, app_new, app_upd, app_kill, putV, ins, get, binV, binI, grd, bnd, AV.scalar, AV.known, fillL, chunks, elems, mxI, mnI, del, Nat.add_assoc, nlt_self, nne_self, nne_self', List.take_of_length_le, ld1, cells_int, setAt_one]; rfl
    refine LWP_block (LWP_inv (fun q : Nat × Array α × Nat => ⟨[(0, slA K b m), (3, C.fn), (8, .int .i64 a), (9, .int .i64 0), (10, .int .i64 hi), (12, .int .i64 ((q.1 : Int) - 1))], ins b (.rows K.sz (rws C q.2.1)) H, q.2.2⟩) (fun q => q.1)
      (fun q => q.1 ≤ hi ∧ n ≤ q.2.2 ∧ q.2.1.size = m ∧ heapPop C.lt a q.1 q.2.1 = heapSort C.lt d a e) (hi, d1, nx) ?_ ⟨Nat.le_refl _, h1, h2, h3⟩ ?_)
    · refine .mk' ?_ (fun c v h => h) (by simp)
      simp [leV, get, wkV.refl, wrap_i64 (n := (hi : Int) - 1) (by omega) (by omega)]
    rintro ⟨k, d2, ny⟩ ⟨k1, k2, k3, k4⟩
    simp only at k1 k2 k3 k4 ⊢
    have hb2 : ∀ k, b < ny + k := fun k => by omega
    have hb3 : b < ny := by omega
    refine LWP_seq (LWP_seq ?_)
    cases k with
    | zero =>
      apply LWP_run
      · simp -implicitDefEqProofs [stepsS, stepS, gd, opEff, LArg.ev, app_val, app_new, app_upd, app_kill, putV, ins, get, binV, binI, grd, bnd, AV.scalar, AV.known, fillL, chunks, elems, mxI, mnI, del, Nat.add_assoc, nlt_self, nne_self, nne_self', List.take_of_length_le, ld1, cells_int, setAt_one]; rfl
      refine LWP_cond (t := false) (by simp [LArg.ev, get]) (fun h => by cases h) (fun _ => LWP_exit ?_)
      show retO [] n (.tup []) _ Exit.normal _
      refine ⟨by simp only; omega, ⟨_, rfl, wkV.refl _⟩, fun c v h => ?_⟩
      simp only [heapPop] at k4
      rw [k4]; exact h
    | succ k =>
      have w4 : ((k + 1 : Nat) : Int) - 1 = (k : Int) := by omega
      rw [w4]
      obtain ⟨p, hp⟩ : ∃ p, p = a + k := ⟨_, rfl⟩
      have w5 : IntKind.i64.wrap ((a : Int) + k) = (p : Int) := by rw [wrap_i64 (by omega) (by omega)]; omega
      have e1 : p < m := by omega
      have e2 : a < m := by omega
      apply LWP_run
      · simp -implicitDefEqProofs [stepsS, stepS, gd, opEff, LArg.ev, app_val, app_new, app_upd, app_kill, putV, ins, get, binV, binI, grd, bnd, AV.scalar, AV.known, fillL, chunks, elems, mxI, mnI, del, Nat.add_assoc, nlt_self, nne_self, nne_self', List.take_of_length_le, ld1, cells_int, setAt_one]; rfl
      refine LWP_cond (t := true) (by simp [LArg.ev, get]) (fun _ => LWP_skip ?_) (fun h => by cases h)
      refine LWP_seq (LWP_block (LWP_seq ?_))
      apply LWP_runD
      · simp -implicitDefEqProofs [stepsD, stepD, ST.as, dEffF, LOp.cls, softOK, LOp.args, AV.ids, gd, opEff, LArg.ev, appD_val, appD_new, appD_upd, appD_kill, AS.flush, delAll, putV, ins, get, binV, binI, grd, bnd, AV.scalar, AV.known, fillL, chunks, elems, mxI, mnI, del, Nat.add_assoc, nlt_self, nne_self, nne_self', List.take_of_length_le, ld1, cells_int, setAt_one, Cmp.fn, rws_len, rws_get, C.ld, C.st, C.len, C.sc, get_ins, hb2, hb3, rws_set, setAt_enc, rws_swp, ins_ins, w5, e1, e2, k3]; rfl
      · simp [AS.fin, delAll, del, Nat.add_assoc]; rfl
      refine LWP_reg fun K' hK => ?_
      apply rgnS_pre 5
      · simp -implicitDefEqProofs [stepsS, stepS, gd, opEff, LArg.ev, app_val, app_new, app_upd, app_kill, putV, ins, get, binV, binI, grd, bnd, AV.scalar, AV.known, fillL, chunks, elems, mxI, mnI, del, Nat.add_assoc, nlt_self, nne_self, nne_self', List.take_of_length_le, ld1, cells_int, setAt_one]; rfl
      refine rgnS_callO (sift_ok L C (b := b) (m := m) (d := swp d2 a p) (by simp only; omega) (by simp [swp, k3]) hd 0 k a (by omega) (by omega) (by simp [get_ins])) rfl rfl (by simp [gd, get, LArg.ev]) ?_
      intro n' hn'
      simp only [ins_ins]
      apply rgnS_pre 99
      · simp -implicitDefEqProofs [stepsS, stepS, gd, opEff, LArg.ev, app_val, app_new, app_upd, app_kill, putV, ins, get, binV, binI, grd, bnd, AV.scalar, AV.known, fillL, chunks, elems, mxI, mnI, del, Nat.add_assoc, nlt_self, nne_self, nne_self', List.take_of_length_le, ld1, cells_int, setAt_one]; rfl
      refine hK _ ?_; clear hK
      apply LWP_run
      · simp -implicitDefEqProofs [stepsS, stepS, gd, opEff, LArg.ev, app_val, app_new, app_upd, app_kill, putV, ins, get, binV, binI, grd, bnd, AV.scalar, AV.known, fillL, chunks, elems, mxI, mnI, del, Nat.add_assoc, nlt_self, nne_self, nne_self', List.take_of_length_le, ld1, cells_int, setAt_one]; rfl
      refine ⟨(k, siftDown C.lt k a 0 (swp d2 a p), n'), ⟨by simp only; omega, ?_, by simp only; rw [sift_size _ _ _ _ _ _ (Nat.le_refl _)]; simp [swp, k3], ?_⟩, by simp only; omega, ?_⟩
      · simp only at hn' ⊢; omega
      · rw [← k4, hp]; rfl
      · refine .mk' ?_ (fun _ _ h => h) rfl
        simp [leV, get, wkV.refl, Cmp.fn, wrap_i64 (n := (k : Int) - 1) (by omega) (by omega)]
end
end Go.AM

/- The library's sort: the partitions. -/

namespace Go.AM
open Go.Sort
section
variable {P : Program} {K : SK} {α : Type} [Inhabited α]

theorem peq_ok (L : Lays P K) (C : Cmp P K α) {H : Heap} {n b m : Nat} (hbn : b < n) {d : Array α} (hm : d.size = m) (hd : m < 1073741824) (a e pv : Nat) (he : e ≤ m) (hap : a ≤ pv) (hpe : pv < e) (hb : get H b = some (.rows K.sz (rws C d))) :
    ACalls P K.peq [slA K b m, .int .i64 a, .int .i64 e, .int .i64 pv, C.fn] H n (postO n (.int .i64 (partitionEqual C.lt d a e pv).1) (ins b (.rows K.sz (rws C (partitionEqual C.lt d a e pv).2)) H)) := by
  refine own_body L.peq rfl ?_
  simp only [parV, cPeq]
  have ha : a < m := by omega
  have hp : pv < m := by omega
  have hb2 : ∀ k, b < n + k := fun k => by omega
  have hb3 : b < n := hbn
  refine LWP_seq ?_
  apply LWP_run
  · simp -implicitDefEqProofs [stepsS, stepS, gd, opEff, LArg.ev, app_val, app_new, app_upd, app_kill, putV, ins, get, binV, binI, grd, bnd, AV.scalar, AV.known, fillL, chunks, elems, mxI, mnI, del, Nat.add_assoc, nlt_self, nne_self, nne_self', List.take_of_length_le, ld1, cells_int, setAt_one]; rfl
  refine LWP_seq ?_
  apply LWP_runD
  · simp -implicitDefEqProofs [stepsD, stepD, ST.as, dEffF, LOp.cls, softOK, LOp.args, AV.ids, gd, opEff, LArg.ev, appD_val, appD_new, appD_upd, appD_kill, AS.flush, delAll, putV, ins, get, binV, binI, grd, bnd, AV.scalar, AV.known, fillL, chunks, elems, mxI, mnI, del, Nat.add_assoc, nlt_self, nne_self, nne_self', List.take_of_length_le, ld1, cells_int, setAt_one, Cmp.fn, rws_len, rws_get, C.ld, C.st, C.len, C.sc, get_ins, hb2, hb3, rws_set, setAt_enc, rws_swp, ins_ins, ha, hp, hm, hb]; rfl
  · simp [AS.fin, delAll, del, Nat.add_assoc]; rfl
  refine LWP_seq ?_
  have w1 : IntKind.i64.wrap ((e : Int) - 1) = ((e - 1 : Nat) : Int) := by rw [wrap_i64 (by omega) (by omega)]; omega
  apply LWP_run
  · simp -implicitDefEqProofs [stepsS, stepS, gd, opEff, LArg.ev, app_val, app_new, app_upd, app_kill, putV, ins, get, binV, binI, grd, bnd, AV.scalar, AV.known, fillL, chunks, elems, mxI, mnI, del, Nat.add_assoc, nlt_self, nne_self, nne_self', List.take_of_length_le, ld1, cells_int, setAt_one, w1, wrap_succ (n := a) (by omega)]; rfl
  refine LWP_cut (fun q : Nat × Nat × Array α × Nat => ⟨[(11, .int .i64 q.1)], ins b (.rows K.sz (rws C q.2.2.1)) H, q.2.2.2⟩) (fun q => n ≤ q.2.2.2 ∧ (q.1, q.2.2.1) = partitionEqual C.lt d a e pv) ?_ ?_
  · refine LWP_block (LWP_inv (fun q : Nat × Nat × Array α × Nat => ⟨[(0, slA K b m), (1, .int .i64 a), (4, C.fn), (11, .int .i64 q.1), (12, .int .i64 q.2.1)], ins b (.rows K.sz (rws C q.2.2.1)) H, q.2.2.2⟩) (fun q => q.2.1 + 1 - q.1)
      (fun q => a < q.1 ∧ q.1 ≤ q.2.1 + 1 ∧ q.2.1 < m ∧ q.2.2.1.size = m ∧ n ≤ q.2.2.2 ∧ partEqLoop C.lt a q.1 q.2.1 q.2.2.1 = partitionEqual C.lt d a e pv) (a + 1, e - 1, swp d a pv, n + 16) ?_ ⟨by simp only; omega, by simp only; omega, by simp only; omega, by simp [swp, hm], by simp, rfl⟩ ?_)
    · refine .mk' ?_ (fun c v h => h) (by simp)
      simp [leV, get, wkV.refl, Cmp.fn]
    rintro ⟨ii, jj, d1, ny⟩ ⟨h1, hii, hjj, hd1, hny, h6⟩
    simp only at h1 hii hjj hd1 hny h6 ⊢
    refine LWP_block (LWP_cut (fun q : Nat × Nat => ⟨[(0, slA K b m), (1, .int .i64 a), (4, C.fn), (11, .int .i64 q.1), (12, .int .i64 jj)], ins b (.rows K.sz (rws C d1)) H, q.2⟩) (fun q => n ≤ q.2 ∧ q.1 = scanUp (fun x => !C.lt d1[a]! x) d1 jj ii) ?_ ?_)
    · skip
      refine LWP_block (LWP_inv (fun q : Nat × Nat => ⟨[(0, slA K b m), (1, .int .i64 a), (4, C.fn), (11, .int .i64 q.1), (12, .int .i64 jj)], ins b (.rows K.sz (rws C d1)) H, q.2⟩) (fun q => jj + 1 - q.1) (fun q => q.1 ≤ jj + 1 ∧ n ≤ q.2 ∧ scanUp (fun x => !C.lt d1[a]! x) d1 jj q.1 = scanUp (fun x => !C.lt d1[a]! x) d1 jj ii) (ii, ny) ?_ ⟨hii, hny, rfl⟩ ?_)
      · refine .mk' ?_ (fun c v h => h) (by simp)
        simp [leV, get, wkV.refl, Cmp.fn]
      rintro ⟨s, nz⟩ ⟨g1, g2, g3⟩
      simp only at g1 g2 g3 ⊢
      have hb2 : ∀ k, b < nz + k := fun k => by omega
      have hb3 : b < nz := by omega
      refine LWP_seq (LWP_seq ?_)
      by_cases hs : s ≤ jj
      · have e1 : s < m := by omega
        refine LWP_regD' fun K' hK => ?_
        apply rgnD_pre 13
        · simp -implicitDefEqProofs [stepsD, stepD, ST.as, dEffF, LOp.cls, softOK, LOp.args, AV.ids, gd, opEff, LArg.ev, appD_val, appD_new, appD_upd, appD_kill, AS.flush, delAll, putV, ins, get, binV, binI, grd, bnd, AV.scalar, AV.known, fillL, chunks, elems, mxI, mnI, del, Nat.add_assoc, nlt_self, nne_self, nne_self', List.take_of_length_le, ld1, cells_int, setAt_one, Cmp.fn, rws_len, rws_get, C.ld, C.st, C.len, C.sc, get_ins, hb2, hb3, rws_set, setAt_enc, rws_swp, ins_ins, hs, e1, ha, hd1]; rfl
        refine rgnD_call (C.call (el d1 a) (el d1 s)) rfl rfl (by simp [pureL, AV.pure, pureL_append, C.pv, C.pf, C.pc]) (by simp [AV.pure, pureL_append, C.pv, C.pf, C.pc]) (by simp [gd, get, LArg.ev]) (by simp [get]) ?_
        apply rgnD_pre 99
        · simp -implicitDefEqProofs [stepsD, stepD, ST.as, dEffF, LOp.cls, softOK, LOp.args, AV.ids, gd, opEff, LArg.ev, appD_val, appD_new, appD_upd, appD_kill, AS.flush, delAll, putV, ins, get, binV, binI, grd, bnd, AV.scalar, AV.known, fillL, chunks, elems, mxI, mnI, del, Nat.add_assoc, nlt_self, nne_self, nne_self', List.take_of_length_le, ld1, cells_int, setAt_one]; rfl
        refine hK _ _ (by simp [AS.fin, delAll, del, Nat.add_assoc]; rfl) ?_; clear hK
        have hlt : decide (C.c (el d1 a) (el d1 s) < 0) = C.lt d1[a]! d1[s]! := rfl
        cases ht : C.lt d1[a]! d1[s]! with
        | false =>
          rw [ht] at hlt
          refine LWP_cond (t := true) (by simp [LArg.ev, get, hlt]) (fun _ => LWP_skip ?_) (fun h => by cases h)
          refine LWP_block ?_
          apply LWP_run
          · simp -implicitDefEqProofs [stepsS, stepS, gd, opEff, LArg.ev, app_val, app_new, app_upd, app_kill, putV, ins, get, binV, binI, grd, bnd, AV.scalar, AV.known, fillL, chunks, elems, mxI, mnI, del, Nat.add_assoc, nlt_self, nne_self, nne_self', List.take_of_length_le, ld1, cells_int, setAt_one, wrap_succ (n := s) (by omega)]; rfl
          refine ⟨(s + 1, _), ⟨by simp only; omega, ?_, ?_⟩, by simp only; omega, .mk' (by simp [leV, get, wkV.refl, Cmp.fn]) (fun _ _ h => h) rfl⟩
          · simp only; omega
          · rw [← g3]
            conv => rhs; rw [scanUp, if_pos (by simp [hs, ht])]
        | true =>
          rw [ht] at hlt
          refine LWP_cond (t := false) (by simp [LArg.ev, get, hlt]) (fun h => by cases h) (fun _ => LWP_exit ?_)
          have hx : scanUp (fun x => !C.lt d1[a]! x) d1 jj s = s := by rw [scanUp, if_neg (by simp [ht])]
          refine ⟨(s, _), ⟨?_, by rw [← g3, hx]⟩, .mk' (by simp [leV, get, wkV.refl, Cmp.fn]) (fun _ _ h => h) rfl⟩
          simp only; omega
      · apply LWP_runD
        · simp -implicitDefEqProofs [stepsD, stepD, ST.as, dEffF, LOp.cls, softOK, LOp.args, AV.ids, gd, opEff, LArg.ev, appD_val, appD_new, appD_upd, appD_kill, AS.flush, delAll, putV, ins, get, binV, binI, grd, bnd, AV.scalar, AV.known, fillL, chunks, elems, mxI, mnI, del, Nat.add_assoc, nlt_self, nne_self, nne_self', List.take_of_length_le, ld1, cells_int, setAt_one, hs]; rfl
        · simp [AS.fin, delAll, del, Nat.add_assoc]; rfl
        refine LWP_cond (t := false) (by simp [LArg.ev, get]) (fun h => by cases h) (fun _ => LWP_exit ?_)
        have hx : scanUp (fun x => !C.lt d1[a]! x) d1 jj s = s := by rw [scanUp, if_neg (by simp [hs])]
        refine ⟨(s, _), ⟨?_, by rw [← g3, hx]⟩, .mk' (by simp [leV, get, wkV.refl, Cmp.fn]) (fun _ _ h => h) rfl⟩
        simp only; omega
    rintro ⟨i2, nz⟩ ⟨q1, q2⟩
    simp only at q1 q2 ⊢
    obtain ⟨u1, u2, _, u4⟩ := scanUp_spec (fun x => !C.lt d1[a]! x) d1 jj _ ii rfl
    have u2' := u2 hii
    rw [← q2] at u1 u2' u4
    refine LWP_cut (fun q : Nat × Nat => ⟨[(0, slA K b m), (1, .int .i64 a), (4, C.fn), (11, .int .i64 i2), (12, .int .i64 q.1)], ins b (.rows K.sz (rws C d1)) H, q.2⟩) (fun q => n ≤ q.2 ∧ q.1 = scanDown (fun x => C.lt d1[a]! x) d1 i2 jj) ?_ ?_
    · clear hny
      obtain ⟨ny, hny⟩ : ∃ x, x = nz := ⟨_, rfl⟩
      rw [← hny]
      replace hny : n ≤ ny := by omega
      clear q2 h6
      obtain ⟨ii, hii'⟩ : ∃ x, x = i2 := ⟨_, rfl⟩
      clear u4
      rw [← hii'] at u1 u2' ⊢
      refine LWP_block (LWP_inv (fun q : Nat × Nat => ⟨[(0, slA K b m), (1, .int .i64 a), (4, C.fn), (11, .int .i64 ii), (12, .int .i64 q.1)], ins b (.rows K.sz (rws C d1)) H, q.2⟩) (fun q => q.1) (fun q => q.1 ≤ jj ∧ n ≤ q.2 ∧ scanDown (fun x => C.lt d1[a]! x) d1 ii q.1 = scanDown (fun x => C.lt d1[a]! x) d1 ii jj) (jj, ny) ?_ ⟨Nat.le_refl _, hny, rfl⟩ ?_)
      · refine .mk' ?_ (fun c v h => h) (by simp)
        simp [leV, get, wkV.refl, Cmp.fn]
      rintro ⟨s, nz⟩ ⟨g1, g2, g3⟩
      simp only at g1 g2 g3 ⊢
      have hb2 : ∀ k, b < nz + k := fun k => by omega
      have hb3 : b < nz := by omega
      refine LWP_seq (LWP_seq ?_)
      by_cases hs : ii ≤ s
      · have e1 : s < m := by omega
        obtain ⟨s', hs'⟩ : ∃ s', s = s' + 1 := ⟨s - 1, by omega⟩
        refine LWP_regD' fun K' hK => ?_
        apply rgnD_pre 13
        · simp -implicitDefEqProofs [stepsD, stepD, ST.as, dEffF, LOp.cls, softOK, LOp.args, AV.ids, gd, opEff, LArg.ev, appD_val, appD_new, appD_upd, appD_kill, AS.flush, delAll, putV, ins, get, binV, binI, grd, bnd, AV.scalar, AV.known, fillL, chunks, elems, mxI, mnI, del, Nat.add_assoc, nlt_self, nne_self, nne_self', List.take_of_length_le, ld1, cells_int, setAt_one, Cmp.fn, rws_len, rws_get, C.ld, C.st, C.len, C.sc, get_ins, hb2, hb3, rws_set, setAt_enc, rws_swp, ins_ins, hs, e1, ha, hd1]; rfl
        refine rgnD_call (C.call (el d1 a) (el d1 s)) rfl rfl (by simp [pureL, AV.pure, pureL_append, C.pv, C.pf, C.pc]) (by simp [AV.pure, pureL_append, C.pv, C.pf, C.pc]) (by simp [gd, get, LArg.ev]) (by simp [get]) ?_
        apply rgnD_pre 99
        · simp -implicitDefEqProofs [stepsD, stepD, ST.as, dEffF, LOp.cls, softOK, LOp.args, AV.ids, gd, opEff, LArg.ev, appD_val, appD_new, appD_upd, appD_kill, AS.flush, delAll, putV, ins, get, binV, binI, grd, bnd, AV.scalar, AV.known, fillL, chunks, elems, mxI, mnI, del, Nat.add_assoc, nlt_self, nne_self, nne_self', List.take_of_length_le, ld1, cells_int, setAt_one]; rfl
        refine hK _ _ (by simp [AS.fin, delAll, del, Nat.add_assoc]; rfl) ?_; clear hK
        have hlt : decide (C.c (el d1 a) (el d1 s) < 0) = C.lt d1[a]! d1[s]! := rfl
        cases ht : C.lt d1[a]! d1[s]! with
        | true =>
          rw [ht] at hlt
          refine LWP_cond (t := true) (by simp [LArg.ev, get, hlt]) (fun _ => LWP_skip ?_) (fun h => by cases h)
          refine LWP_block ?_
          apply LWP_run
          · simp -implicitDefEqProofs [stepsS, stepS, gd, opEff, LArg.ev, app_val, app_new, app_upd, app_kill, putV, ins, get, binV, binI, grd, bnd, AV.scalar, AV.known, fillL, chunks, elems, mxI, mnI, del, Nat.add_assoc, nlt_self, nne_self, nne_self', List.take_of_length_le, ld1, cells_int, setAt_one, wrap_i64 (n := (s : Int) - 1) (by omega) (by omega)]; rfl
          refine ⟨(s', _), ⟨by simp only; omega, ?_, ?_⟩, by simp only; omega, .mk' (by simp [leV, get, wkV.refl, Cmp.fn, hs']) (fun _ _ h => h) rfl⟩
          · simp only; omega
          · rw [← g3]
            subst hs'
            conv => rhs; rw [scanDown, if_pos (by simp [hs, ht])]
        | false =>
          rw [ht] at hlt
          refine LWP_cond (t := false) (by simp [LArg.ev, get, hlt]) (fun h => by cases h) (fun _ => LWP_exit ?_)
          have hx : scanDown (fun x => C.lt d1[a]! x) d1 ii s = s := by subst hs'; rw [scanDown, if_neg (by simp [ht])]
          refine ⟨(s, _), ⟨?_, by rw [← g3, hx]⟩, .mk' (by simp [leV, get, wkV.refl, Cmp.fn]) (fun _ _ h => h) rfl⟩
          simp only; omega
      · apply LWP_runD
        · simp -implicitDefEqProofs [stepsD, stepD, ST.as, dEffF, LOp.cls, softOK, LOp.args, AV.ids, gd, opEff, LArg.ev, appD_val, appD_new, appD_upd, appD_kill, AS.flush, delAll, putV, ins, get, binV, binI, grd, bnd, AV.scalar, AV.known, fillL, chunks, elems, mxI, mnI, del, Nat.add_assoc, nlt_self, nne_self, nne_self', List.take_of_length_le, ld1, cells_int, setAt_one, hs]; rfl
        · simp [AS.fin, delAll, del, Nat.add_assoc]; rfl
        refine LWP_cond (t := false) (by simp [LArg.ev, get]) (fun h => by cases h) (fun _ => LWP_exit ?_)
        have hx : scanDown (fun x => C.lt d1[a]! x) d1 ii s = s := by
          cases s with
          | zero => rfl
          | succ s => rw [scanDown, if_neg (by simp [hs])]
        refine ⟨(s, _), ⟨?_, by rw [← g3, hx]⟩, .mk' (by simp [leV, get, wkV.refl, Cmp.fn]) (fun _ _ h => h) rfl⟩
        simp only; omega
    rintro ⟨j2, no⟩ ⟨q3, q4⟩
    simp only at q3 q4 ⊢
    obtain ⟨v1, v2, _, v4⟩ := scanDown_spec (fun x => C.lt d1[a]! x) d1 i2 jj
    have v2' := v2 u2'
    rw [← q4] at v1 v2' v4
    have hq := partEqLoop_eq C.lt a ii jj d1
    rw [← q2, ← q4, h6] at hq
    have hb2 : ∀ k, b < no + k := fun k => by omega
    have hb3 : b < no := by omega
    refine LWP_seq (LWP_seq ?_)
    apply LWP_run
    · simp -implicitDefEqProofs [stepsS, stepS, gd, opEff, LArg.ev, app_val, app_new, app_upd, app_kill, putV, ins, get, binV, binI, grd, bnd, AV.scalar, AV.known, fillL, chunks, elems, mxI, mnI, del, Nat.add_assoc, nlt_self, nne_self, nne_self', List.take_of_length_le, ld1, cells_int, setAt_one]; rfl
    refine LWP_cond (t := decide (j2 < i2)) (by simp [LArg.ev, get]) (fun hc => LWP_exit ?_) (fun hc => LWP_skip ?_)
    · have hc' : i2 > j2 := by simpa using hc
      rw [if_pos hc'] at hq
      refine ⟨(i2, j2, d1, no), ⟨q3, hq.symm⟩, .mk' (by simp [leV, get, wkV.refl, Cmp.fn]) (fun _ _ h => h) rfl⟩
    · have hc' : ¬ i2 > j2 := by simpa using hc
      rw [if_neg hc'] at hq
      have hne : i2 ≠ j2 := fun h => by
        subst h
        have x1 := u4 (by omega)
        have x2 := v4 (by omega) (by omega)
        simp at x1 x2
        rw [x2] at x1
        cases x1
      have e1 : i2 < m := by omega
      have e2 : j2 < m := by omega
      refine LWP_seq ?_
      apply LWP_runD
      · simp -implicitDefEqProofs [stepsD, stepD, ST.as, dEffF, LOp.cls, softOK, LOp.args, AV.ids, gd, opEff, LArg.ev, appD_val, appD_new, appD_upd, appD_kill, AS.flush, delAll, putV, ins, get, binV, binI, grd, bnd, AV.scalar, AV.known, fillL, chunks, elems, mxI, mnI, del, Nat.add_assoc, nlt_self, nne_self, nne_self', List.take_of_length_le, ld1, cells_int, setAt_one, Cmp.fn, rws_len, rws_get, C.ld, C.st, C.len, C.sc, get_ins, hb2, hb3, rws_set, setAt_enc, rws_swp, ins_ins, e1, e2, hd1]; rfl
      · simp [AS.fin, delAll, del, Nat.add_assoc]; rfl
      refine LWP_seq ?_
      apply LWP_run
      · simp -implicitDefEqProofs [stepsS, stepS, gd, opEff, LArg.ev, app_val, app_new, app_upd, app_kill, putV, ins, get, binV, binI, grd, bnd, AV.scalar, AV.known, fillL, chunks, elems, mxI, mnI, del, Nat.add_assoc, nlt_self, nne_self, nne_self', List.take_of_length_le, ld1, cells_int, setAt_one, wrap_succ (n := i2) (by omega)]; rfl
      have w2 : IntKind.i64.wrap ((j2 : Int) - 1) = ((j2 - 1 : Nat) : Int) := by rw [wrap_i64 (by omega) (by omega)]; omega
      apply LWP_run
      · simp -implicitDefEqProofs [stepsS, stepS, gd, opEff, LArg.ev, app_val, app_new, app_upd, app_kill, putV, ins, get, binV, binI, grd, bnd, AV.scalar, AV.known, fillL, chunks, elems, mxI, mnI, del, Nat.add_assoc, nlt_self, nne_self, nne_self', List.take_of_length_le, ld1, cells_int, setAt_one, w2]; rfl
      refine ⟨(i2 + 1, j2 - 1, swp d1 i2 j2, _), ⟨by simp only; omega, by simp only; omega, by simp only; omega, by simp [swp, hd1], ?_, by simp only; exact hq.symm⟩, by simp only; omega, .mk' (by simp [leV, get, wkV.refl, Cmp.fn]) (fun _ _ h => h) rfl⟩
      simp only; omega
  · rintro ⟨i2, j2, d1, ny⟩ ⟨q1, q2⟩
    simp only at q1 q2 ⊢
    refine LWP_seq ?_
    apply LWP_run
    · simp -implicitDefEqProofs [stepsS, stepS, gd, opEff, LArg.ev, app_val, app_new, app_upd, app_kill, putV, ins, get, binV, binI, grd, bnd, AV.scalar, AV.known, fillL, chunks, elems, mxI, mnI, del, Nat.add_assoc, nlt_self, nne_self, nne_self', List.take_of_length_le, ld1, cells_int, setAt_one]; rfl
    refine LWP_ret ?_
    show retO [.t 10] n _ _ Exit.ret _
    refine ⟨q1, ⟨_, rfl, ?_⟩, fun c v h => ?_⟩
    · rw [← q2]; exact wkV.refl _
    · rw [← q2] at h; exact h

set_option maxHeartbeats 2000000 in
theorem prt_ok (L : Lays P K) (C : Cmp P K α) {H : Heap} {n b m : Nat} (hbn : b < n) {d : Array α} (hm : d.size = m) (hd : m < 1073741824) (a e pv : Nat) (he : e ≤ m) (hap : a ≤ pv) (hpe : pv < e) (hb : get H b = some (.rows K.sz (rws C d))) :
    ACalls P K.prt [slA K b m, .int .i64 a, .int .i64 e, .int .i64 pv, C.fn] H n (postO n (.tup [.int .i64 (partition C.lt d a e pv).1, .bool (partition C.lt d a e pv).2.1]) (ins b (.rows K.sz (rws C (partition C.lt d a e pv).2.2)) H)) := by
  refine own_body L.prt rfl ?_
  simp only [parV, cPrt]
  have ha : a < m := by omega
  have hp : pv < m := by omega
  have hb2 : ∀ k, b < n + k := fun k => by omega
  have hb3 : b < n := hbn
  refine LWP_seq ?_
  apply LWP_run
  · simp -implicitDefEqProofs [stepsS, stepS, gd, opEff, LArg.ev, app_val, app_new, app_upd, app_kill, putV, ins, get, binV, binI, grd, bnd, AV.scalar, AV.known, fillL, chunks, elems, mxI, mnI, del, Nat.add_assoc, nlt_self, nne_self, nne_self', List.take_of_length_le, ld1, cells_int, setAt_one]; rfl
  refine LWP_seq ?_
  apply LWP_runD
  · simp -implicitDefEqProofs [stepsD, stepD, ST.as, dEffF, LOp.cls, softOK, LOp.args, AV.ids, gd, opEff, LArg.ev, appD_val, appD_new, appD_upd, appD_kill, AS.flush, delAll, putV, ins, get, binV, binI, grd, bnd, AV.scalar, AV.known, fillL, chunks, elems, mxI, mnI, del, Nat.add_assoc, nlt_self, nne_self, nne_self', List.take_of_length_le, ld1, cells_int, setAt_one, Cmp.fn, rws_len, rws_get, C.ld, C.st, C.len, C.sc, get_ins, hb2, hb3, rws_set, setAt_enc, rws_swp, ins_ins, ha, hp, hm, hb]; rfl
  · simp [AS.fin, delAll, del, Nat.add_assoc]; rfl
  refine LWP_seq ?_
  have w1 : IntKind.i64.wrap ((e : Int) - 1) = ((e - 1 : Nat) : Int) := by rw [wrap_i64 (by omega) (by omega)]; omega
  apply LWP_run
  · simp -implicitDefEqProofs [stepsS, stepS, gd, opEff, LArg.ev, app_val, app_new, app_upd, app_kill, putV, ins, get, binV, binI, grd, bnd, AV.scalar, AV.known, fillL, chunks, elems, mxI, mnI, del, Nat.add_assoc, nlt_self, nne_self, nne_self', List.take_of_length_le, ld1, cells_int, setAt_one, w1, wrap_succ (n := a) (by omega)]; rfl
  obtain ⟨d1, hd1'⟩ : ∃ x, x = swp d a pv := ⟨_, rfl⟩
  have hd1 : d1.size = m := by simp [hd1', swp, hm]
  obtain ⟨ii, hii0⟩ : ∃ x, x = a + 1 := ⟨_, rfl⟩
  obtain ⟨jj, hjj0⟩ : ∃ x, x = e - 1 := ⟨_, rfl⟩
  obtain ⟨ny, hny0⟩ : ∃ x, x = n + 16 := ⟨_, rfl⟩
  have hii : ii ≤ jj + 1 := by omega
  have hjj : jj < m := by omega
  have hny : n ≤ ny := by omega
  have hR : partition C.lt d a e pv = (let i := scanUp (fun x => C.lt x d1[a]!) d1 jj ii; let j := scanDown (fun x => !C.lt x d1[a]!) d1 i jj; if i > j then (j, true, swp d1 j a) else ((partLoop C.lt a (i + 1) (j - 1) (swp d1 i j)).1, false, swp (partLoop C.lt a (i + 1) (j - 1) (swp d1 i j)).2 (partLoop C.lt a (i + 1) (j - 1) (swp d1 i j)).1 a)) := by
    subst hd1' hii0 hjj0; rfl
  refine LWP_cut (fun q : Nat × Nat => ⟨[(0, slA K b m), (1, .int .i64 a), (4, C.fn), (12, .int .i64 q.1), (13, .int .i64 jj)], ins b (.rows K.sz (rws C d1)) H, q.2⟩) (fun q => n ≤ q.2 ∧ q.1 = scanUp (fun x => C.lt x d1[a]!) d1 jj ii) ?_ ?_
  · refine LWP_sub (T := ⟨[(0, slA K b m), (1, .int .i64 a), (4, C.fn), (12, .int .i64 ii), (13, .int .i64 jj)], ins b (.rows K.sz (rws C d1)) H, ny⟩) (.mk' (by simp [leV, get, wkV.refl, Cmp.fn, hii0, hjj0]) (fun c v h => by simpa [ins_ins, hd1'] using h) (by simp [hny0])) ?_
    clear hd1' hii0 hjj0 hny0 hR
    refine LWP_block (LWP_inv (fun q : Nat × Nat => ⟨[(0, slA K b m), (1, .int .i64 a), (4, C.fn), (12, .int .i64 q.1), (13, .int .i64 jj)], ins b (.rows K.sz (rws C d1)) H, q.2⟩) (fun q => jj + 1 - q.1) (fun q => q.1 ≤ jj + 1 ∧ n ≤ q.2 ∧ scanUp (fun x => C.lt x d1[a]!) d1 jj q.1 = scanUp (fun x => C.lt x d1[a]!) d1 jj ii) (ii, ny) ?_ ⟨hii, hny, rfl⟩ ?_)
    · refine .mk' ?_ (fun c v h => h) (by simp)
      simp [leV, get, wkV.refl, Cmp.fn]
    rintro ⟨s, nz⟩ ⟨g1, g2, g3⟩
    simp only at g1 g2 g3 ⊢
    have hb2 : ∀ k, b < nz + k := fun k => by omega
    have hb3 : b < nz := by omega
    refine LWP_seq (LWP_seq ?_)
    by_cases hs : s ≤ jj
    · have e1 : s < m := by omega
      refine LWP_regD' fun K' hK => ?_
      apply rgnD_pre 13
      · simp -implicitDefEqProofs [stepsD, stepD, ST.as, dEffF, LOp.cls, softOK, LOp.args, AV.ids, gd, opEff, LArg.ev, appD_val, appD_new, appD_upd, appD_kill, AS.flush, delAll, putV, ins, get, binV, binI, grd, bnd, AV.scalar, AV.known, fillL, chunks, elems, mxI, mnI, del, Nat.add_assoc, nlt_self, nne_self, nne_self', List.take_of_length_le, ld1, cells_int, setAt_one, Cmp.fn, rws_len, rws_get, C.ld, C.st, C.len, C.sc, get_ins, hb2, hb3, rws_set, setAt_enc, rws_swp, ins_ins, hs, e1, ha, hd1]; rfl
      refine rgnD_call (C.call (el d1 s) (el d1 a)) rfl rfl (by simp [pureL, AV.pure, pureL_append, C.pv, C.pf, C.pc]) (by simp [AV.pure, pureL_append, C.pv, C.pf, C.pc]) (by simp [gd, get, LArg.ev]) (by simp [get]) ?_
      apply rgnD_pre 99
      · simp -implicitDefEqProofs [stepsD, stepD, ST.as, dEffF, LOp.cls, softOK, LOp.args, AV.ids, gd, opEff, LArg.ev, appD_val, appD_new, appD_upd, appD_kill, AS.flush, delAll, putV, ins, get, binV, binI, grd, bnd, AV.scalar, AV.known, fillL, chunks, elems, mxI, mnI, del, Nat.add_assoc, nlt_self, nne_self, nne_self', List.take_of_length_le, ld1, cells_int, setAt_one]; rfl
      refine hK _ _ (by simp [AS.fin, delAll, del, Nat.add_assoc]; rfl) ?_; clear hK
      have hlt : decide (C.c (el d1 s) (el d1 a) < 0) = C.lt d1[s]! d1[a]! := rfl
      cases ht : C.lt d1[s]! d1[a]! with
      | true =>
        rw [ht] at hlt
        refine LWP_cond (t := true) (by simp [LArg.ev, get, hlt]) (fun _ => LWP_skip ?_) (fun h => by cases h)
        refine LWP_block ?_
        apply LWP_run
        · simp -implicitDefEqProofs [stepsS, stepS, gd, opEff, LArg.ev, app_val, app_new, app_upd, app_kill, putV, ins, get, binV, binI, grd, bnd, AV.scalar, AV.known, fillL, chunks, elems, mxI, mnI, del, Nat.add_assoc, nlt_self, nne_self, nne_self', List.take_of_length_le, ld1, cells_int, setAt_one, wrap_succ (n := s) (by omega)]; rfl
        refine ⟨(s + 1, _), ⟨by simp only; omega, ?_, ?_⟩, by simp only; omega, .mk' (by simp [leV, get, wkV.refl, Cmp.fn]) (fun _ _ h => h) rfl⟩
        · simp only; omega
        · rw [← g3]
          conv => rhs; rw [scanUp, if_pos (by simp [hs, ht])]
      | false =>
        rw [ht] at hlt
        refine LWP_cond (t := false) (by simp [LArg.ev, get, hlt]) (fun h => by cases h) (fun _ => LWP_exit ?_)
        have hx : scanUp (fun x => C.lt x d1[a]!) d1 jj s = s := by rw [scanUp, if_neg (by simp [ht])]
        refine ⟨(s, _), ⟨?_, by rw [← g3, hx]⟩, .mk' (by simp [leV, get, wkV.refl, Cmp.fn]) (fun _ _ h => h) rfl⟩
        simp only; omega
    · apply LWP_runD
      · simp -implicitDefEqProofs [stepsD, stepD, ST.as, dEffF, LOp.cls, softOK, LOp.args, AV.ids, gd, opEff, LArg.ev, appD_val, appD_new, appD_upd, appD_kill, AS.flush, delAll, putV, ins, get, binV, binI, grd, bnd, AV.scalar, AV.known, fillL, chunks, elems, mxI, mnI, del, Nat.add_assoc, nlt_self, nne_self, nne_self', List.take_of_length_le, ld1, cells_int, setAt_one, hs]; rfl
      · simp [AS.fin, delAll, del, Nat.add_assoc]; rfl
      refine LWP_cond (t := false) (by simp [LArg.ev, get]) (fun h => by cases h) (fun _ => LWP_exit ?_)
      have hx : scanUp (fun x => C.lt x d1[a]!) d1 jj s = s := by rw [scanUp, if_neg (by simp [hs])]
      refine ⟨(s, _), ⟨?_, by rw [← g3, hx]⟩, .mk' (by simp [leV, get, wkV.refl, Cmp.fn]) (fun _ _ h => h) rfl⟩
      simp only; omega
  rintro ⟨i2, nz⟩ ⟨q1, q2⟩
  simp only at q1 q2 ⊢
  obtain ⟨u1, u2, _, u4⟩ := scanUp_spec (fun x => C.lt x d1[a]!) d1 jj _ ii rfl
  have u2' := u2 hii
  rw [← q2] at u1 u2' u4
  refine LWP_cut (fun q : Nat × Nat => ⟨[(0, slA K b m), (1, .int .i64 a), (4, C.fn), (12, .int .i64 i2), (13, .int .i64 q.1)], ins b (.rows K.sz (rws C d1)) H, q.2⟩) (fun q => n ≤ q.2 ∧ q.1 = scanDown (fun x => !C.lt x d1[a]!) d1 i2 jj) ?_ ?_
  · clear hny hR
    obtain ⟨ny, hny⟩ : ∃ x, x = nz := ⟨_, rfl⟩
    rw [← hny]
    replace hny : n ≤ ny := by omega
    clear q2 u4
    obtain ⟨ii', hii'⟩ : ∃ x, x = i2 := ⟨_, rfl⟩
    rw [← hii'] at u1 u2' ⊢
    have hi1 : 1 ≤ ii' := by omega
    clear hii' hii hii0 u1
    obtain ⟨ii, hii'⟩ : ∃ x, x = ii' := ⟨_, rfl⟩
    rw [← hii'] at u2' hi1 ⊢
    refine LWP_block (LWP_inv (fun q : Nat × Nat => ⟨[(0, slA K b m), (1, .int .i64 a), (4, C.fn), (12, .int .i64 ii), (13, .int .i64 q.1)], ins b (.rows K.sz (rws C d1)) H, q.2⟩) (fun q => q.1) (fun q => q.1 ≤ jj ∧ n ≤ q.2 ∧ scanDown (fun x => !C.lt x d1[a]!) d1 ii q.1 = scanDown (fun x => !C.lt x d1[a]!) d1 ii jj) (jj, ny) ?_ ⟨Nat.le_refl _, hny, rfl⟩ ?_)
    · refine .mk' ?_ (fun c v h => h) (by simp)
      simp [leV, get, wkV.refl, Cmp.fn]
    rintro ⟨s, nz⟩ ⟨g1, g2, g3⟩
    simp only at g1 g2 g3 ⊢
    have hb2 : ∀ k, b < nz + k := fun k => by omega
    have hb3 : b < nz := by omega
    refine LWP_seq (LWP_seq ?_)
    by_cases hs : ii ≤ s
    · have e1 : s < m := by omega
      obtain ⟨s', hs'⟩ : ∃ s', s = s' + 1 := ⟨s - 1, by omega⟩
      refine LWP_regD' fun K' hK => ?_
      apply rgnD_pre 13
      · simp -implicitDefEqProofs [stepsD, stepD, ST.as, dEffF, LOp.cls, softOK, LOp.args, AV.ids, gd, opEff, LArg.ev, appD_val, appD_new, appD_upd, appD_kill, AS.flush, delAll, putV, ins, get, binV, binI, grd, bnd, AV.scalar, AV.known, fillL, chunks, elems, mxI, mnI, del, Nat.add_assoc, nlt_self, nne_self, nne_self', List.take_of_length_le, ld1, cells_int, setAt_one, Cmp.fn, rws_len, rws_get, C.ld, C.st, C.len, C.sc, get_ins, hb2, hb3, rws_set, setAt_enc, rws_swp, ins_ins, hs, e1, ha, hd1]; rfl
      refine rgnD_call (C.call (el d1 s) (el d1 a)) rfl rfl (by simp [pureL, AV.pure, pureL_append, C.pv, C.pf, C.pc]) (by simp [AV.pure, pureL_append, C.pv, C.pf, C.pc]) (by simp [gd, get, LArg.ev]) (by simp [get]) ?_
      apply rgnD_pre 99
      · simp -implicitDefEqProofs [stepsD, stepD, ST.as, dEffF, LOp.cls, softOK, LOp.args, AV.ids, gd, opEff, LArg.ev, appD_val, appD_new, appD_upd, appD_kill, AS.flush, delAll, putV, ins, get, binV, binI, grd, bnd, AV.scalar, AV.known, fillL, chunks, elems, mxI, mnI, del, Nat.add_assoc, nlt_self, nne_self, nne_self', List.take_of_length_le, ld1, cells_int, setAt_one]; rfl
      refine hK _ _ (by simp [AS.fin, delAll, del, Nat.add_assoc]; rfl) ?_; clear hK
      have hlt : decide (C.c (el d1 s) (el d1 a) < 0) = C.lt d1[s]! d1[a]! := rfl
      cases ht : C.lt d1[s]! d1[a]! with
      | false =>
        rw [ht] at hlt
        refine LWP_cond (t := true) (by simp [LArg.ev, get, hlt]) (fun _ => LWP_skip ?_) (fun h => by cases h)
        refine LWP_block ?_
        apply LWP_run
        · simp -implicitDefEqProofs [stepsS, stepS, gd, opEff, LArg.ev, app_val, app_new, app_upd, app_kill, putV, ins, get, binV, binI, grd, bnd, AV.scalar, AV.known, fillL, chunks, elems, mxI, mnI, del, Nat.add_assoc, nlt_self, nne_self, nne_self', List.take_of_length_le, ld1, cells_int, setAt_one, wrap_i64 (n := (s : Int) - 1) (by omega) (by omega)]; rfl
        refine ⟨(s', _), ⟨by simp only; omega, ?_, ?_⟩, by simp only; omega, .mk' (by simp [leV, get, wkV.refl, Cmp.fn, hs']) (fun _ _ h => h) rfl⟩
        · simp only; omega
        · rw [← g3]
          subst hs'
          conv => rhs; rw [scanDown, if_pos (by simp [hs, ht])]
      | true =>
        rw [ht] at hlt
        refine LWP_cond (t := false) (by simp [LArg.ev, get, hlt]) (fun h => by cases h) (fun _ => LWP_exit ?_)
        have hx : scanDown (fun x => !C.lt x d1[a]!) d1 ii s = s := by subst hs'; rw [scanDown, if_neg (by simp [ht])]
        refine ⟨(s, _), ⟨?_, by rw [← g3, hx]⟩, .mk' (by simp [leV, get, wkV.refl, Cmp.fn]) (fun _ _ h => h) rfl⟩
        simp only; omega
    · apply LWP_runD
      · simp -implicitDefEqProofs [stepsD, stepD, ST.as, dEffF, LOp.cls, softOK, LOp.args, AV.ids, gd, opEff, LArg.ev, appD_val, appD_new, appD_upd, appD_kill, AS.flush, delAll, putV, ins, get, binV, binI, grd, bnd, AV.scalar, AV.known, fillL, chunks, elems, mxI, mnI, del, Nat.add_assoc, nlt_self, nne_self, nne_self', List.take_of_length_le, ld1, cells_int, setAt_one, hs]; rfl
      · simp [AS.fin, delAll, del, Nat.add_assoc]; rfl
      refine LWP_cond (t := false) (by simp [LArg.ev, get]) (fun h => by cases h) (fun _ => LWP_exit ?_)
      have hx : scanDown (fun x => !C.lt x d1[a]!) d1 ii s = s := by
        cases s with
        | zero => rfl
        | succ s => rw [scanDown, if_neg (by simp [hs])]
      refine ⟨(s, _), ⟨?_, by rw [← g3, hx]⟩, .mk' (by simp [leV, get, wkV.refl, Cmp.fn]) (fun _ _ h => h) rfl⟩
      simp only; omega
  rintro ⟨j2, no⟩ ⟨q3, q4⟩
  simp only at q3 q4 ⊢
  obtain ⟨v1, v2, _, v4⟩ := scanDown_spec (fun x => !C.lt x d1[a]!) d1 i2 jj
  have v2' := v2 u2'
  rw [← q4] at v1 v2' v4
  simp only at hR
  rw [← q2, ← q4] at hR
  have hb2 : ∀ k, b < no + k := fun k => by omega
  have hb3 : b < no := by omega
  refine LWP_seq (LWP_seq ?_)
  apply LWP_run
  · simp -implicitDefEqProofs [stepsS, stepS, gd, opEff, LArg.ev, app_val, app_new, app_upd, app_kill, putV, ins, get, binV, binI, grd, bnd, AV.scalar, AV.known, fillL, chunks, elems, mxI, mnI, del, Nat.add_assoc, nlt_self, nne_self, nne_self', List.take_of_length_le, ld1, cells_int, setAt_one]; rfl
  have e1 : j2 < m := by omega
  refine LWP_cond (t := decide (j2 < i2)) (by simp [LArg.ev, get]) (fun hc => ?_) (fun hc => LWP_skip ?_)
  · have hc' : i2 > j2 := by simpa using hc
    rw [if_pos hc'] at hR
    refine LWP_seq ?_
    apply LWP_runD
    · simp -implicitDefEqProofs [stepsD, stepD, ST.as, dEffF, LOp.cls, softOK, LOp.args, AV.ids, gd, opEff, LArg.ev, appD_val, appD_new, appD_upd, appD_kill, AS.flush, delAll, putV, ins, get, binV, binI, grd, bnd, AV.scalar, AV.known, fillL, chunks, elems, mxI, mnI, del, Nat.add_assoc, nlt_self, nne_self, nne_self', List.take_of_length_le, ld1, cells_int, setAt_one, Cmp.fn, rws_len, rws_get, C.ld, C.st, C.len, C.sc, get_ins, hb2, hb3, rws_set, setAt_enc, rws_swp, ins_ins, e1, ha, hd1]; rfl
    · simp [AS.fin, delAll, del, Nat.add_assoc]; rfl
    refine LWP_seq ?_
    apply LWP_run
    · simp -implicitDefEqProofs [stepsS, stepS, gd, opEff, LArg.ev, app_val, app_new, app_upd, app_kill, putV, ins, get, binV, binI, grd, bnd, AV.scalar, AV.known, fillL, chunks, elems, mxI, mnI, del, Nat.add_assoc, nlt_self, nne_self, nne_self', List.take_of_length_le, ld1, cells_int, setAt_one]; rfl
    refine LWP_ret ?_
    show retO [.t 10, .t 11] n _ _ Exit.ret _
    refine ⟨by simp only; omega, ⟨_, rfl, ?_⟩, fun c v h => ?_⟩
    · rw [hR]; exact wkV.refl _
    · rw [hR] at h; exact h
  have hc' : ¬ i2 > j2 := by simpa using hc
  rw [if_neg hc'] at hR
  have hne : i2 ≠ j2 := fun h => by
    subst h
    have x1 := u4 (by omega)
    have x2 := v4 (by omega) (by omega)
    simp at x1 x2
    rw [x2] at x1
    cases x1
  have e2 : i2 < m := by omega
  refine LWP_seq ?_
  apply LWP_runD
  · simp -implicitDefEqProofs [stepsD, stepD, ST.as, dEffF, LOp.cls, softOK, LOp.args, AV.ids, gd, opEff, LArg.ev, appD_val, appD_new, appD_upd, appD_kill, AS.flush, delAll, putV, ins, get, binV, binI, grd, bnd, AV.scalar, AV.known, fillL, chunks, elems, mxI, mnI, del, Nat.add_assoc, nlt_self, nne_self, nne_self', List.take_of_length_le, ld1, cells_int, setAt_one, Cmp.fn, rws_len, rws_get, C.ld, C.st, C.len, C.sc, get_ins, hb2, hb3, rws_set, setAt_enc, rws_swp, ins_ins, e1, e2, hd1]; rfl
  · simp [AS.fin, delAll, del, Nat.add_assoc]; rfl
  refine LWP_seq ?_
  apply LWP_run
  · simp -implicitDefEqProofs [stepsS, stepS, gd, opEff, LArg.ev, app_val, app_new, app_upd, app_kill, putV, ins, get, binV, binI, grd, bnd, AV.scalar, AV.known, fillL, chunks, elems, mxI, mnI, del, Nat.add_assoc, nlt_self, nne_self, nne_self', List.take_of_length_le, ld1, cells_int, setAt_one, wrap_succ (n := i2) (by omega)]; rfl
  refine LWP_seq ?_
  have w2 : IntKind.i64.wrap ((j2 : Int) - 1) = ((j2 - 1 : Nat) : Int) := by rw [wrap_i64 (by omega) (by omega)]; omega
  apply LWP_run
  · simp -implicitDefEqProofs [stepsS, stepS, gd, opEff, LArg.ev, app_val, app_new, app_upd, app_kill, putV, ins, get, binV, binI, grd, bnd, AV.scalar, AV.known, fillL, chunks, elems, mxI, mnI, del, Nat.add_assoc, nlt_self, nne_self, nne_self', List.take_of_length_le, ld1, cells_int, setAt_one, w2]; rfl
  obtain ⟨R, hRR⟩ : ∃ x, x = partLoop C.lt a (i2 + 1) (j2 - 1) (swp d1 i2 j2) := ⟨_, rfl⟩
  rw [← hRR] at hR
  refine LWP_cut (fun q : Nat × Nat × Array α × Nat => ⟨[(0, slA K b m), (1, .int .i64 a), (13, .int .i64 q.2.1)], ins b (.rows K.sz (rws C q.2.2.1)) H, q.2.2.2⟩) (fun q => n ≤ q.2.2.2 ∧ q.2.2.1.size = m ∧ q.2.1 < m ∧ (q.2.1, q.2.2.1) = R) ?_ ?_
  · refine LWP_block (LWP_inv (fun q : Nat × Nat × Array α × Nat => ⟨[(0, slA K b m), (1, .int .i64 a), (4, C.fn), (12, .int .i64 q.1), (13, .int .i64 q.2.1)], ins b (.rows K.sz (rws C q.2.2.1)) H, q.2.2.2⟩) (fun q => q.2.1 + 1 - q.1)
      (fun q => a < q.1 ∧ q.1 ≤ q.2.1 + 1 ∧ q.2.1 < m ∧ q.2.2.1.size = m ∧ n ≤ q.2.2.2 ∧ partLoop C.lt a q.1 q.2.1 q.2.2.1 = R) (i2 + 1, j2 - 1, swp d1 i2 j2, no + 16) ?_ ⟨by simp only; omega, by simp only; omega, by simp only; omega, by simp [swp, hd1], by simp only; omega, hRR.symm⟩ ?_)
    · refine .mk' ?_ (fun c v h => by simpa [ins_ins] using h) (by simp)
      simp [leV, get, wkV.refl, Cmp.fn]
    clear hR hRR hne v4 v1 v2 v2' q4 u4 u1 u2 u2' q2 hd1' hd1 hii hii0 hjj hjj0 hny hny0 q1 q3 hb2 hb3 e1 e2 hc hc' w2
    rintro ⟨ii, jj, d1, ny⟩ ⟨h1, hii, hjj, hd1, hny, h6⟩
    simp only at h1 hii hjj hd1 hny h6 ⊢
    refine LWP_block (LWP_cut (fun q : Nat × Nat => ⟨[(0, slA K b m), (1, .int .i64 a), (4, C.fn), (12, .int .i64 q.1), (13, .int .i64 jj)], ins b (.rows K.sz (rws C d1)) H, q.2⟩) (fun q => n ≤ q.2 ∧ q.1 = scanUp (fun x => C.lt x d1[a]!) d1 jj ii) ?_ ?_)
    · skip
      refine LWP_block (LWP_inv (fun q : Nat × Nat => ⟨[(0, slA K b m), (1, .int .i64 a), (4, C.fn), (12, .int .i64 q.1), (13, .int .i64 jj)], ins b (.rows K.sz (rws C d1)) H, q.2⟩) (fun q => jj + 1 - q.1) (fun q => q.1 ≤ jj + 1 ∧ n ≤ q.2 ∧ scanUp (fun x => C.lt x d1[a]!) d1 jj q.1 = scanUp (fun x => C.lt x d1[a]!) d1 jj ii) (ii, ny) ?_ ⟨hii, hny, rfl⟩ ?_)
      · refine .mk' ?_ (fun c v h => h) (by simp)
        simp [leV, get, wkV.refl, Cmp.fn]
      rintro ⟨s, nz⟩ ⟨g1, g2, g3⟩
      simp only at g1 g2 g3 ⊢
      have hb2 : ∀ k, b < nz + k := fun k => by omega
      have hb3 : b < nz := by omega
      refine LWP_seq (LWP_seq ?_)
      by_cases hs : s ≤ jj
      · have e1 : s < m := by omega
        refine LWP_regD' fun K' hK => ?_
        apply rgnD_pre 13
        · simp -implicitDefEqProofs [stepsD, stepD, ST.as, dEffF, LOp.cls, softOK, LOp.args, AV.ids, gd, opEff, LArg.ev, appD_val, appD_new, appD_upd, appD_kill, AS.flush, delAll, putV, ins, get, binV, binI, grd, bnd, AV.scalar, AV.known, fillL, chunks, elems, mxI, mnI, del, Nat.add_assoc, nlt_self, nne_self, nne_self', List.take_of_length_le, ld1, cells_int, setAt_one, Cmp.fn, rws_len, rws_get, C.ld, C.st, C.len, C.sc, get_ins, hb2, hb3, rws_set, setAt_enc, rws_swp, ins_ins, hs, e1, ha, hd1]; rfl
        refine rgnD_call (C.call (el d1 s) (el d1 a)) rfl rfl (by simp [pureL, AV.pure, pureL_append, C.pv, C.pf, C.pc]) (by simp [AV.pure, pureL_append, C.pv, C.pf, C.pc]) (by simp [gd, get, LArg.ev]) (by simp [get]) ?_
        apply rgnD_pre 99
        · simp -implicitDefEqProofs [stepsD, stepD, ST.as, dEffF, LOp.cls, softOK, LOp.args, AV.ids, gd, opEff, LArg.ev, appD_val, appD_new, appD_upd, appD_kill, AS.flush, delAll, putV, ins, get, binV, binI, grd, bnd, AV.scalar, AV.known, fillL, chunks, elems, mxI, mnI, del, Nat.add_assoc, nlt_self, nne_self, nne_self', List.take_of_length_le, ld1, cells_int, setAt_one]; rfl
        refine hK _ _ (by simp [AS.fin, delAll, del, Nat.add_assoc]; rfl) ?_; clear hK
        have hlt : decide (C.c (el d1 s) (el d1 a) < 0) = C.lt d1[s]! d1[a]! := rfl
        cases ht : C.lt d1[s]! d1[a]! with
        | true =>
          rw [ht] at hlt
          refine LWP_cond (t := true) (by simp [LArg.ev, get, hlt]) (fun _ => LWP_skip ?_) (fun h => by cases h)
          refine LWP_block ?_
          apply LWP_run
          · simp -implicitDefEqProofs [stepsS, stepS, gd, opEff, LArg.ev, app_val, app_new, app_upd, app_kill, putV, ins, get, binV, binI, grd, bnd, AV.scalar, AV.known, fillL, chunks, elems, mxI, mnI, del, Nat.add_assoc, nlt_self, nne_self, nne_self', List.take_of_length_le, ld1, cells_int, setAt_one, wrap_succ (n := s) (by omega)]; rfl
          refine ⟨(s + 1, _), ⟨by simp only; omega, ?_, ?_⟩, by simp only; omega, .mk' (by simp [leV, get, wkV.refl, Cmp.fn]) (fun _ _ h => h) rfl⟩
          · simp only; omega
          · rw [← g3]
            conv => rhs; rw [scanUp, if_pos (by simp [hs, ht])]
        | false =>
          rw [ht] at hlt
          refine LWP_cond (t := false) (by simp [LArg.ev, get, hlt]) (fun h => by cases h) (fun _ => LWP_exit ?_)
          have hx : scanUp (fun x => C.lt x d1[a]!) d1 jj s = s := by rw [scanUp, if_neg (by simp [ht])]
          refine ⟨(s, _), ⟨?_, by rw [← g3, hx]⟩, .mk' (by simp [leV, get, wkV.refl, Cmp.fn]) (fun _ _ h => h) rfl⟩
          simp only; omega
      · apply LWP_runD
        · simp -implicitDefEqProofs [stepsD, stepD, ST.as, dEffF, LOp.cls, softOK, LOp.args, AV.ids, gd, opEff, LArg.ev, appD_val, appD_new, appD_upd, appD_kill, AS.flush, delAll, putV, ins, get, binV, binI, grd, bnd, AV.scalar, AV.known, fillL, chunks, elems, mxI, mnI, del, Nat.add_assoc, nlt_self, nne_self, nne_self', List.take_of_length_le, ld1, cells_int, setAt_one, hs]; rfl
        · simp [AS.fin, delAll, del, Nat.add_assoc]; rfl
        refine LWP_cond (t := false) (by simp [LArg.ev, get]) (fun h => by cases h) (fun _ => LWP_exit ?_)
        have hx : scanUp (fun x => C.lt x d1[a]!) d1 jj s = s := by rw [scanUp, if_neg (by simp [hs])]
        refine ⟨(s, _), ⟨?_, by rw [← g3, hx]⟩, .mk' (by simp [leV, get, wkV.refl, Cmp.fn]) (fun _ _ h => h) rfl⟩
        simp only; omega
    rintro ⟨i2, nz⟩ ⟨q1, q2⟩
    simp only at q1 q2 ⊢
    obtain ⟨u1, u2, _, u4⟩ := scanUp_spec (fun x => C.lt x d1[a]!) d1 jj _ ii rfl
    have u2' := u2 hii
    rw [← q2] at u1 u2' u4
    refine LWP_cut (fun q : Nat × Nat => ⟨[(0, slA K b m), (1, .int .i64 a), (4, C.fn), (12, .int .i64 i2), (13, .int .i64 q.1)], ins b (.rows K.sz (rws C d1)) H, q.2⟩) (fun q => n ≤ q.2 ∧ q.1 = scanDown (fun x => !C.lt x d1[a]!) d1 i2 jj) ?_ ?_
    · clear hny
      obtain ⟨ny, hny⟩ : ∃ x, x = nz := ⟨_, rfl⟩
      rw [← hny]
      replace hny : n ≤ ny := by omega
      clear q2 h6 u4
      obtain ⟨ii, hii'⟩ : ∃ x, x = i2 := ⟨_, rfl⟩
      rw [← hii'] at u1 u2' ⊢
      refine LWP_block (LWP_inv (fun q : Nat × Nat => ⟨[(0, slA K b m), (1, .int .i64 a), (4, C.fn), (12, .int .i64 ii), (13, .int .i64 q.1)], ins b (.rows K.sz (rws C d1)) H, q.2⟩) (fun q => q.1) (fun q => q.1 ≤ jj ∧ n ≤ q.2 ∧ scanDown (fun x => !C.lt x d1[a]!) d1 ii q.1 = scanDown (fun x => !C.lt x d1[a]!) d1 ii jj) (jj, ny) ?_ ⟨Nat.le_refl _, hny, rfl⟩ ?_)
      · refine .mk' ?_ (fun c v h => h) (by simp)
        simp [leV, get, wkV.refl, Cmp.fn]
      rintro ⟨s, nz⟩ ⟨g1, g2, g3⟩
      simp only at g1 g2 g3 ⊢
      have hb2 : ∀ k, b < nz + k := fun k => by omega
      have hb3 : b < nz := by omega
      refine LWP_seq (LWP_seq ?_)
      by_cases hs : ii ≤ s
      · have e1 : s < m := by omega
        obtain ⟨s', hs'⟩ : ∃ s', s = s' + 1 := ⟨s - 1, by omega⟩
        refine LWP_regD' fun K' hK => ?_
        apply rgnD_pre 13
        · simp -implicitDefEqProofs [stepsD, stepD, ST.as, dEffF, LOp.cls, softOK, LOp.args, AV.ids, gd, opEff, LArg.ev, appD_val, appD_new, appD_upd, appD_kill, AS.flush, delAll, putV, ins, get, binV, binI, grd, bnd, AV.scalar, AV.known, fillL, chunks, elems, mxI, mnI, del, Nat.add_assoc, nlt_self, nne_self, nne_self', List.take_of_length_le, ld1, cells_int, setAt_one, Cmp.fn, rws_len, rws_get, C.ld, C.st, C.len, C.sc, get_ins, hb2, hb3, rws_set, setAt_enc, rws_swp, ins_ins, hs, e1, ha, hd1]; rfl
        refine rgnD_call (C.call (el d1 s) (el d1 a)) rfl rfl (by simp [pureL, AV.pure, pureL_append, C.pv, C.pf, C.pc]) (by simp [AV.pure, pureL_append, C.pv, C.pf, C.pc]) (by simp [gd, get, LArg.ev]) (by simp [get]) ?_
        apply rgnD_pre 99
        · simp -implicitDefEqProofs [stepsD, stepD, ST.as, dEffF, LOp.cls, softOK, LOp.args, AV.ids, gd, opEff, LArg.ev, appD_val, appD_new, appD_upd, appD_kill, AS.flush, delAll, putV, ins, get, binV, binI, grd, bnd, AV.scalar, AV.known, fillL, chunks, elems, mxI, mnI, del, Nat.add_assoc, nlt_self, nne_self, nne_self', List.take_of_length_le, ld1, cells_int, setAt_one]; rfl
        refine hK _ _ (by simp [AS.fin, delAll, del, Nat.add_assoc]; rfl) ?_; clear hK
        have hlt : decide (C.c (el d1 s) (el d1 a) < 0) = C.lt d1[s]! d1[a]! := rfl
        cases ht : C.lt d1[s]! d1[a]! with
        | false =>
          rw [ht] at hlt
          refine LWP_cond (t := true) (by simp [LArg.ev, get, hlt]) (fun _ => LWP_skip ?_) (fun h => by cases h)
          refine LWP_block ?_
          apply LWP_run
          · simp -implicitDefEqProofs [stepsS, stepS, gd, opEff, LArg.ev, app_val, app_new, app_upd, app_kill, putV, ins, get, binV, binI, grd, bnd, AV.scalar, AV.known, fillL, chunks, elems, mxI, mnI, del, Nat.add_assoc, nlt_self, nne_self, nne_self', List.take_of_length_le, ld1, cells_int, setAt_one, wrap_i64 (n := (s : Int) - 1) (by omega) (by omega)]; rfl
          refine ⟨(s', _), ⟨by simp only; omega, ?_, ?_⟩, by simp only; omega, .mk' (by simp [leV, get, wkV.refl, Cmp.fn, hs']) (fun _ _ h => h) rfl⟩
          · simp only; omega
          · rw [← g3]
            subst hs'
            conv => rhs; rw [scanDown, if_pos (by simp [hs, ht])]
        | true =>
          rw [ht] at hlt
          refine LWP_cond (t := false) (by simp [LArg.ev, get, hlt]) (fun h => by cases h) (fun _ => LWP_exit ?_)
          have hx : scanDown (fun x => !C.lt x d1[a]!) d1 ii s = s := by subst hs'; rw [scanDown, if_neg (by simp [ht])]
          refine ⟨(s, _), ⟨?_, by rw [← g3, hx]⟩, .mk' (by simp [leV, get, wkV.refl, Cmp.fn]) (fun _ _ h => h) rfl⟩
          simp only; omega
      · apply LWP_runD
        · simp -implicitDefEqProofs [stepsD, stepD, ST.as, dEffF, LOp.cls, softOK, LOp.args, AV.ids, gd, opEff, LArg.ev, appD_val, appD_new, appD_upd, appD_kill, AS.flush, delAll, putV, ins, get, binV, binI, grd, bnd, AV.scalar, AV.known, fillL, chunks, elems, mxI, mnI, del, Nat.add_assoc, nlt_self, nne_self, nne_self', List.take_of_length_le, ld1, cells_int, setAt_one, hs]; rfl
        · simp [AS.fin, delAll, del, Nat.add_assoc]; rfl
        refine LWP_cond (t := false) (by simp [LArg.ev, get]) (fun h => by cases h) (fun _ => LWP_exit ?_)
        have hx : scanDown (fun x => !C.lt x d1[a]!) d1 ii s = s := by
          cases s with
          | zero => rfl
          | succ s => rw [scanDown, if_neg (by simp [hs])]
        refine ⟨(s, _), ⟨?_, by rw [← g3, hx]⟩, .mk' (by simp [leV, get, wkV.refl, Cmp.fn]) (fun _ _ h => h) rfl⟩
        simp only; omega
    rintro ⟨j2, no⟩ ⟨q3, q4⟩
    simp only at q3 q4 ⊢
    obtain ⟨v1, v2, _, v4⟩ := scanDown_spec (fun x => !C.lt x d1[a]!) d1 i2 jj
    have v2' := v2 u2'
    rw [← q4] at v1 v2' v4
    have hq := partLoop_eq C.lt a ii jj d1
    rw [← q2, ← q4, h6] at hq
    have hb2 : ∀ k, b < no + k := fun k => by omega
    have hb3 : b < no := by omega
    refine LWP_seq (LWP_seq ?_)
    apply LWP_run
    · simp -implicitDefEqProofs [stepsS, stepS, gd, opEff, LArg.ev, app_val, app_new, app_upd, app_kill, putV, ins, get, binV, binI, grd, bnd, AV.scalar, AV.known, fillL, chunks, elems, mxI, mnI, del, Nat.add_assoc, nlt_self, nne_self, nne_self', List.take_of_length_le, ld1, cells_int, setAt_one]; rfl
    refine LWP_cond (t := decide (j2 < i2)) (by simp [LArg.ev, get]) (fun hc => LWP_exit ?_) (fun hc => LWP_skip ?_)
    · have hc' : i2 > j2 := by simpa using hc
      rw [if_pos hc'] at hq
      refine ⟨(i2, j2, d1, no), ⟨q3, hd1, by simp only; omega, hq.symm⟩, .mk' (by simp [leV, get, wkV.refl, Cmp.fn]) (fun _ _ h => h) rfl⟩
    · have hc' : ¬ i2 > j2 := by simpa using hc
      rw [if_neg hc'] at hq
      have hne : i2 ≠ j2 := fun h => by
        subst h
        have x1 := u4 (by omega)
        have x2 := v4 (by omega) (by omega)
        simp at x1 x2
        rw [x2] at x1
        cases x1
      have e1 : i2 < m := by omega
      have e2 : j2 < m := by omega
      refine LWP_seq ?_
      apply LWP_runD
      · simp -implicitDefEqProofs [stepsD, stepD, ST.as, dEffF, LOp.cls, softOK, LOp.args, AV.ids, gd, opEff, LArg.ev, appD_val, appD_new, appD_upd, appD_kill, AS.flush, delAll, putV, ins, get, binV, binI, grd, bnd, AV.scalar, AV.known, fillL, chunks, elems, mxI, mnI, del, Nat.add_assoc, nlt_self, nne_self, nne_self', List.take_of_length_le, ld1, cells_int, setAt_one, Cmp.fn, rws_len, rws_get, C.ld, C.st, C.len, C.sc, get_ins, hb2, hb3, rws_set, setAt_enc, rws_swp, ins_ins, e1, e2, hd1]; rfl
      · simp [AS.fin, delAll, del, Nat.add_assoc]; rfl
      refine LWP_seq ?_
      apply LWP_run
      · simp -implicitDefEqProofs [stepsS, stepS, gd, opEff, LArg.ev, app_val, app_new, app_upd, app_kill, putV, ins, get, binV, binI, grd, bnd, AV.scalar, AV.known, fillL, chunks, elems, mxI, mnI, del, Nat.add_assoc, nlt_self, nne_self, nne_self', List.take_of_length_le, ld1, cells_int, setAt_one, wrap_succ (n := i2) (by omega)]; rfl
      have w2 : IntKind.i64.wrap ((j2 : Int) - 1) = ((j2 - 1 : Nat) : Int) := by rw [wrap_i64 (by omega) (by omega)]; omega
      apply LWP_run
      · simp -implicitDefEqProofs [stepsS, stepS, gd, opEff, LArg.ev, app_val, app_new, app_upd, app_kill, putV, ins, get, binV, binI, grd, bnd, AV.scalar, AV.known, fillL, chunks, elems, mxI, mnI, del, Nat.add_assoc, nlt_self, nne_self, nne_self', List.take_of_length_le, ld1, cells_int, setAt_one, w2]; rfl
      refine ⟨(i2 + 1, j2 - 1, swp d1 i2 j2, _), ⟨by simp only; omega, by simp only; omega, by simp only; omega, by simp [swp, hd1], ?_, by simp only; exact hq.symm⟩, by simp only; omega, .mk' (by simp [leV, get, wkV.refl, Cmp.fn]) (fun _ _ h => h) rfl⟩
      simp only; omega
  · rintro ⟨_, j3, d3, nq⟩ ⟨k1, k2, k3, k4⟩
    simp only at k1 k2 k3 k4 ⊢
    have hb2 : ∀ k, b < nq + k := fun k => by omega
    have hb3 : b < nq := by omega
    refine LWP_seq ?_
    apply LWP_runD
    · simp -implicitDefEqProofs [stepsD, stepD, ST.as, dEffF, LOp.cls, softOK, LOp.args, AV.ids, gd, opEff, LArg.ev, appD_val, appD_new, appD_upd, appD_kill, AS.flush, delAll, putV, ins, get, binV, binI, grd, bnd, AV.scalar, AV.known, fillL, chunks, elems, mxI, mnI, del, Nat.add_assoc, nlt_self, nne_self, nne_self', List.take_of_length_le, ld1, cells_int, setAt_one, Cmp.fn, rws_len, rws_get, C.ld, C.st, C.len, C.sc, get_ins, hb2, hb3, rws_set, setAt_enc, rws_swp, ins_ins, k3, ha, k2]; rfl
    · simp [AS.fin, delAll, del, Nat.add_assoc]; rfl
    refine LWP_seq ?_
    apply LWP_run
    · simp -implicitDefEqProofs [stepsS, stepS, gd, opEff, LArg.ev, app_val, app_new, app_upd, app_kill, putV, ins, get, binV, binI, grd, bnd, AV.scalar, AV.known, fillL, chunks, elems, mxI, mnI, del, Nat.add_assoc, nlt_self, nne_self, nne_self', List.take_of_length_le, ld1, cells_int, setAt_one]; rfl
    refine LWP_ret ?_
    show retO [.t 10, .t 11] n _ _ Exit.ret _
    refine ⟨by simp only; omega, ⟨_, rfl, ?_⟩, fun c v h => ?_⟩
    · rw [hR, ← k4]; exact wkV.refl _
    · rw [hR, ← k4] at h; exact h
end
end Go.AM
