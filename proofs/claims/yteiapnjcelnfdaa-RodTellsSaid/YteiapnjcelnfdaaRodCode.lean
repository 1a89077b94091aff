/- A part of a proof about the given program: what its name says. No premise beyond the statements'. -/
import Derived.Test.YteiapnjcelnfdaaFD
import Derived.Test.YteiapnjcelnfdaaProg
import Derived.KernelRfl
set_option linter.unusedSimpArgs false
set_option linter.unusedVariables false
/- The functions of the program in the short form, each checked against the program. -/
namespace Go.AM.Rod
open Go.AM

/-- neume/neumelaw27.RodRods -/
def lf3 : LFunc := ⟨53, 2,
 (.seq
  (.region [
    ⟨(some 4), .mv (.c (.bool false)), none⟩] false)
  (.seq
   (.seq
    (.region [
      ⟨(some 9), .mv (.t 0), none⟩,
      ⟨(some 10), .call false (.c (.fn 8 [] [])) [.t 9], none⟩,
      ⟨(some 11), .not (.t 10), none⟩] false)
    (.cond (.t 11)
     (.seq
      (.region [
        ⟨(some 12), .call false (.c (.fn 9 [] [])) [], none⟩,
        ⟨(some 4), .mv (.t 12), none⟩] false)
      .ret)
     .skip))
   (.seq
    (.region [
      ⟨(some 14), .mv (.t 0), none⟩,
      ⟨(some 15), .mv (.t 1), none⟩,
      ⟨(some 16), .call false (.c (.fn 10 [] [])) [.t 14, .t 15], none⟩,
      ⟨(some 13), .mv (.t 16), none⟩,
      ⟨(some 17), .extract (.t 13) 0, none⟩,
      ⟨(some 18), .extract (.t 13) 1, none⟩,
      ⟨(some 5), .mv (.t 17), none⟩,
      ⟨(some 6), .mv (.t 18), none⟩] false)
    (.seq
     (.region [
       ⟨(some 20), .mv (.t 0), none⟩,
       ⟨(some 21), .mv (.t 1), none⟩,
       ⟨(some 22), .call false (.c (.fn 11 [] [])) [.t 20, .t 21], none⟩,
       ⟨(some 19), .mv (.t 22), none⟩,
       ⟨(some 23), .extract (.t 19) 0, none⟩,
       ⟨(some 24), .extract (.t 19) 1, none⟩,
       ⟨(some 7), .mv (.t 23), none⟩,
       ⟨(some 8), .mv (.t 24), none⟩] false)
     (.seq
      (.region [
        ⟨(some 25), .mv (.t 5), none⟩,
        ⟨(some 26), .mv (.t 7), none⟩,
        ⟨(some 27), .call false (.c (.fn 12 [] [])) [.t 25, .t 26], none⟩,
        ⟨(some 28), .mv (.t 27), none⟩,
        ⟨(some 29), .mv (.t 6), (some (28, true))⟩,
        ⟨(some 30), .mv (.t 8), (some (28, true))⟩,
        ⟨(some 31), .bin .eql (.t 29) (.t 30), (some (28, true))⟩,
        ⟨(some 32), .pick (.t 28) (.t 31) (.c (.bool false)), none⟩,
        ⟨(some 33), .mv (.t 32), none⟩,
        ⟨(some 34), .mv (.t 6), (some (33, true))⟩,
        ⟨(some 35), .bin .neq (.t 34) (.c (.int .i64 0)), (some (33, true))⟩,
        ⟨(some 36), .mv (.t 35), (some (33, true))⟩,
        ⟨(some 37), .mv (.t 0), (some (36, false))⟩,
        ⟨(some 38), .len .sli (.t 37), (some (36, false))⟩,
        ⟨(some 39), .bin .eql (.t 38) (.c (.int .i64 0)), (some (36, false))⟩,
        ⟨(some 40), .pick (.t 36) (.c (.bool true)) (.t 39), (some (33, true))⟩,
        ⟨(some 41), .mv (.t 40), (some (33, true))⟩,
        ⟨(some 42), .mv (.t 5), (some (41, false))⟩,
        ⟨(some 43), .mv (.t 0), (some (41, false))⟩,
        ⟨(some 44), .idxa 1 (.t 43) (.c (.int .i64 0)), (some (41, false))⟩,
        ⟨(some 45), .load false 1 (.t 44), (some (41, false))⟩,
        ⟨(some 46), .len .sli (.t 45), (some (41, false))⟩,
        ⟨(some 47), .call false (.c (.fn 13 [] [])) [.t 42, .t 46], (some (41, false))⟩,
        ⟨(some 48), .pick (.t 41) (.c (.bool true)) (.t 47), (some (33, true))⟩,
        ⟨(some 49), .pick (.t 33) (.t 48) (.c (.bool false)), none⟩,
        ⟨(some 50), .mv (.t 49), none⟩,
        ⟨(some 51), .call false (.c (.fn 9 [] [])) [], (some (50, true))⟩,
        ⟨(some 52), .pick (.t 50) (.t 51) (.c (.bool false)), none⟩,
        ⟨(some 4), .mv (.t 52), none⟩] false)
      .ret))))),
 [.t 4]⟩

/-- neume/neumelaw27.RodTells -/
def lf4 : LFunc := ⟨71, 3,
 (.seq
  (.region [
    ⟨(some 6), .mv (.c (.bool false)), none⟩] false)
  (.seq
   (.seq
    (.region [
      ⟨(some 12), .mv (.t 0), none⟩,
      ⟨(some 13), .len .sli (.t 12), none⟩,
      ⟨(some 14), .bin .gtr (.t 13) (.c (.int .i64 200)), none⟩,
      ⟨(some 15), .mv (.t 14), none⟩,
      ⟨(some 16), .mv (.t 1), (some (15, false))⟩,
      ⟨(some 17), .len .sli (.t 16), (some (15, false))⟩,
      ⟨(some 18), .bin .gtr (.t 17) (.c (.int .i64 100)), (some (15, false))⟩,
      ⟨(some 19), .pick (.t 15) (.c (.bool true)) (.t 18), none⟩] false)
    (.cond (.t 19)
     (.seq
      (.region [
        ⟨(some 20), .call false (.c (.fn 9 [] [])) [], none⟩,
        ⟨(some 6), .mv (.t 20), none⟩] false)
      .ret)
     .skip))
   (.seq
    (.region [
      ⟨(some 21), .mv (.t 2), none⟩,
      ⟨(some 22), .mins [.t 21, .c (.int .i64 200)], none⟩,
      ⟨(some 7), .mv (.t 22), none⟩] false)
    (.seq
     (.region [
       ⟨(some 24), .mv (.t 0), none⟩,
       ⟨(some 25), .mv (.t 7), none⟩,
       ⟨(some 26), .call false (.c (.fn 14 [] [])) [.t 24, .t 25], none⟩,
       ⟨(some 23), .mv (.t 26), none⟩,
       ⟨(some 27), .extract (.t 23) 0, none⟩,
       ⟨(some 28), .extract (.t 23) 1, none⟩,
       ⟨(some 8), .mv (.t 27), none⟩,
       ⟨(some 9), .mv (.t 28), none⟩] false)
     (.seq
      (.region [
        ⟨(some 30), .mv (.t 0), none⟩,
        ⟨(some 31), .mv (.t 7), none⟩,
        ⟨(some 32), .call false (.c (.fn 15 [] [])) [.t 30, .t 31], none⟩,
        ⟨(some 29), .mv (.t 32), none⟩,
        ⟨(some 33), .extract (.t 29) 0, none⟩,
        ⟨(some 34), .extract (.t 29) 1, none⟩,
        ⟨(some 10), .mv (.t 33), none⟩,
        ⟨(some 11), .mv (.t 34), none⟩] false)
      (.seq
       (.region [
         ⟨(some 35), .mv (.t 8), none⟩,
         ⟨(some 36), .mv (.t 10), none⟩,
         ⟨(some 37), .call false (.c (.fn 16 [] [])) [.t 35, .t 36], none⟩,
         ⟨(some 38), .mv (.t 37), none⟩,
         ⟨(some 39), .mv (.t 9), (some (38, true))⟩,
         ⟨(some 40), .mv (.t 11), (some (38, true))⟩,
         ⟨(some 41), .bin .eql (.t 39) (.t 40), (some (38, true))⟩,
         ⟨(some 42), .pick (.t 38) (.t 41) (.c (.bool false)), none⟩,
         ⟨(some 43), .mv (.t 42), none⟩,
         ⟨(some 44), .mv (.t 0), (some (43, true))⟩,
         ⟨(some 45), .mv (.t 2), (some (43, true))⟩,
         ⟨(some 46), .call false (.c (.fn 13 [] [])) [.t 44, .t 45], (some (43, true))⟩,
         ⟨(some 47), .mv (.t 0), (some (43, true))⟩,
         ⟨(some 48), .mv (.t 2), (some (43, true))⟩,
         ⟨(some 49), .call false (.c (.fn 17 [] [])) [.t 47, .t 48], (some (43, true))⟩,
         ⟨(some 50), .eq false (.sc .b) (.t 46) (.t 49), (some (43, true))⟩,
         ⟨(some 51), .pick (.t 43) (.t 50) (.c (.bool false)), none⟩,
         ⟨(some 52), .mv (.t 51), none⟩,
         ⟨(some 53), .mv (.t 0), (some (52, true))⟩,
         ⟨(some 54), .mv (.t 1), (some (52, true))⟩,
         ⟨(some 55), .call false (.c (.fn 18 [] [])) [.t 53, .t 54], (some (52, true))⟩,
         ⟨(some 56), .mv (.t 0), (some (52, true))⟩,
         ⟨(some 57), .mv (.t 1), (some (52, true))⟩,
         ⟨(some 58), .call false (.c (.fn 19 [] [])) [.t 56, .t 57], (some (52, true))⟩,
         ⟨(some 59), .eq false (.sc .b) (.t 55) (.t 58), (some (52, true))⟩,
         ⟨(some 60), .pick (.t 52) (.t 59) (.c (.bool false)), none⟩,
         ⟨(some 61), .mv (.t 60), none⟩,
         ⟨(some 62), .mv (.t 0), (some (61, true))⟩,
         ⟨(some 63), .call false (.c (.fn 20 [] [])) [.t 62], (some (61, true))⟩,
         ⟨(some 64), .mv (.t 0), (some (61, true))⟩,
         ⟨(some 65), .call false (.c (.fn 21 [] [])) [.t 64], (some (61, true))⟩,
         ⟨(some 66), .call false (.c (.fn 12 [] [])) [.t 63, .t 65], (some (61, true))⟩,
         ⟨(some 67), .pick (.t 61) (.t 66) (.c (.bool false)), none⟩,
         ⟨(some 68), .mv (.t 67), none⟩,
         ⟨(some 69), .call false (.c (.fn 9 [] [])) [], (some (68, true))⟩,
         ⟨(some 70), .pick (.t 68) (.t 69) (.c (.bool false)), none⟩,
         ⟨(some 6), .mv (.t 70), none⟩] false)
       .ret)))))),
 [.t 6]⟩

/-- neume/neumelaw27.RodLeast -/
def lf5 : LFunc := ⟨118, 2,
 (.seq
  (.region [
    ⟨(some 4), .mv (.c (.bool false)), none⟩] false)
  (.seq
   (.seq
    (.region [
      ⟨(some 10), .mv (.t 0), none⟩,
      ⟨(some 11), .len .sli (.t 10), none⟩,
      ⟨(some 12), .bin .gtr (.t 11) (.c (.int .i64 200)), none⟩,
      ⟨(some 13), .mv (.t 12), none⟩,
      ⟨(some 14), .mv (.t 1), (some (13, false))⟩,
      ⟨(some 15), .len .sli (.t 14), (some (13, false))⟩,
      ⟨(some 16), .bin .gtr (.t 15) (.c (.int .i64 100)), (some (13, false))⟩,
      ⟨(some 17), .pick (.t 13) (.c (.bool true)) (.t 16), none⟩] false)
    (.cond (.t 17)
     (.seq
      (.region [
        ⟨(some 18), .call false (.c (.fn 9 [] [])) [], none⟩,
        ⟨(some 4), .mv (.t 18), none⟩] false)
      .ret)
     .skip))
   (.seq
    (.region [
      ⟨(some 20), .mv (.t 0), none⟩,
      ⟨(some 21), .mv (.t 1), none⟩,
      ⟨(some 22), .len .sli (.t 21), none⟩,
      ⟨(some 23), .call false (.c (.fn 14 [] [])) [.t 20, .t 22], none⟩,
      ⟨(some 19), .mv (.t 23), none⟩,
      ⟨(some 24), .extract (.t 19) 0, none⟩,
      ⟨(some 25), .extract (.t 19) 1, none⟩,
      ⟨(some 5), .mv (.t 24), none⟩,
      ⟨(some 6), .mv (.t 25), none⟩] false)
    (.seq
     (.seq
      (.region [
        ⟨(some 26), .mv (.t 6), none⟩,
        ⟨(some 27), .bin .neq (.t 26) (.c (.int .i64 0)), none⟩] false)
      (.cond (.t 27)
       (.seq
        (.region [
          ⟨(some 28), .mv (.t 5), none⟩,
          ⟨(some 29), .len .sli (.t 28), none⟩,
          ⟨(some 30), .bin .eql (.t 29) (.c (.int .i64 0)), none⟩,
          ⟨(some 31), .mv (.t 30), none⟩,
          ⟨(some 32), .call false (.c (.fn 9 [] [])) [], (some (31, true))⟩,
          ⟨(some 33), .pick (.t 31) (.t 32) (.c (.bool false)), none⟩,
          ⟨(some 4), .mv (.t 33), none⟩] false)
        .ret)
       .skip))
     (.seq
      (.seq
       (.region [
         ⟨(some 34), .mv (.t 5), none⟩,
         ⟨(some 35), .len .sli (.t 34), none⟩,
         ⟨(some 36), .mv (.t 1), none⟩,
         ⟨(some 37), .len .sli (.t 36), none⟩,
         ⟨(some 38), .bin .neq (.t 35) (.t 37), none⟩,
         ⟨(some 39), .mv (.t 38), none⟩,
         ⟨(some 40), .mv (.t 0), (some (39, false))⟩,
         ⟨(some 41), .mv (.t 5), (some (39, false))⟩,
         ⟨(some 42), .call false (.c (.fn 18 [] [])) [.t 40, .t 41], (some (39, false))⟩,
         ⟨(some 43), .not (.t 42), (some (39, false))⟩,
         ⟨(some 44), .pick (.t 39) (.c (.bool true)) (.t 43), none⟩] false)
       (.cond (.t 44)
        (.seq
         (.region [
           ⟨(some 4), .mv (.c (.bool false)), none⟩] false)
         .ret)
        .skip))
      (.seq
       (.region [
         ⟨(some 45), .mv (.t 0), none⟩,
         ⟨(some 46), .mv (.t 1), none⟩,
         ⟨(some 47), .call false (.c (.fn 18 [] [])) [.t 45, .t 46], none⟩,
         ⟨(some 48), .mv (.t 47), none⟩,
         ⟨(some 49), .mv (.t 1), (some (48, true))⟩,
         ⟨(some 50), .len .sli (.t 49), (some (48, true))⟩,
         ⟨(some 51), .bin .eql (.t 50) (.c (.int .i64 0)), (some (48, true))⟩,
         ⟨(some 52), .mv (.t 51), (some (48, true))⟩,
         ⟨(some 53), .mv (.t 1), (some (52, false))⟩,
         ⟨(some 54), .idxa 1 (.t 53) (.c (.int .i64 0)), (some (52, false))⟩,
         ⟨(some 55), .load false 1 (.t 54), (some (52, false))⟩,
         ⟨(some 56), .bin .geq (.t 55) (.c (.int .i64 0)), (some (52, false))⟩,
         ⟨(some 57), .pick (.t 52) (.c (.bool true)) (.t 56), (some (48, true))⟩,
         ⟨(some 58), .pick (.t 48) (.t 57) (.c (.bool false)), none⟩,
         ⟨(some 7), .mv (.t 58), none⟩] false)
       (.seq
        (.seq
         (.region [
           ⟨(some 8), .mv (.c (.int .i64 1)), none⟩] false)
         (.block 0
          (.loop
           (.seq
            (.seq
             (.region [
               ⟨(some 59), .mv (.t 8), none⟩,
               ⟨(some 60), .mv (.t 5), none⟩,
               ⟨(some 61), .len .sli (.t 60), none⟩,
               ⟨(some 62), .bin .lss (.t 59) (.t 61), none⟩] false)
             (.cond (.t 62)
              .skip
              (.exit 0)))
            (.seq
             (.block 1
              (.seq
               (.seq
                (.region [
                  ⟨(some 65), .mv (.t 5), none⟩,
                  ⟨(some 66), .mv (.t 8), none⟩,
                  ⟨(some 67), .idxa 1 (.t 65) (.t 66), none⟩,
                  ⟨(some 68), .load false 1 (.t 67), none⟩,
                  ⟨(some 69), .mv (.t 5), none⟩,
                  ⟨(some 70), .mv (.t 8), none⟩,
                  ⟨(some 71), .bin .sub (.t 70) (.c (.int .i64 1)), none⟩,
                  ⟨(some 72), .idxa 1 (.t 69) (.t 71), none⟩,
                  ⟨(some 73), .load false 1 (.t 72), none⟩,
                  ⟨(some 74), .bin .leq (.t 68) (.t 73), none⟩] true)
                (.cond (.t 74)
                 (.seq
                  (.region [
                    ⟨(some 4), .mv (.c (.bool false)), none⟩] false)
                  .ret)
                 .skip))
               (.region [
                 ⟨(some 75), .mv (.t 7), none⟩,
                 ⟨(some 76), .mv (.t 75), none⟩,
                 ⟨(some 77), .mv (.t 1), (some (76, true))⟩,
                 ⟨(some 78), .mv (.t 8), (some (76, true))⟩,
                 ⟨(some 79), .idxa 1 (.t 77) (.t 78), (some (76, true))⟩,
                 ⟨(some 80), .load false 1 (.t 79), (some (76, true))⟩,
                 ⟨(some 81), .mv (.t 1), (some (76, true))⟩,
                 ⟨(some 82), .mv (.t 8), (some (76, true))⟩,
                 ⟨(some 83), .bin .sub (.t 82) (.c (.int .i64 1)), (some (76, true))⟩,
                 ⟨(some 84), .idxa 1 (.t 81) (.t 83), (some (76, true))⟩,
                 ⟨(some 85), .load false 1 (.t 84), (some (76, true))⟩,
                 ⟨(some 86), .bin .gtr (.t 80) (.t 85), (some (76, true))⟩,
                 ⟨(some 87), .pick (.t 76) (.t 86) (.c (.bool false)), none⟩,
                 ⟨(some 7), .mv (.t 87), none⟩] true)))
             (.region [
               ⟨(some 63), .mv (.t 8), none⟩,
               ⟨(some 64), .bin .add (.t 63) (.c (.int .i64 1)), none⟩,
               ⟨(some 8), .mv (.t 64), none⟩] false))))))
        (.seq
         (.seq
          (.region [
            ⟨(some 9), .mv (.c (.int .i64 0)), none⟩] false)
          (.block 2
           (.loop
            (.seq
             (.seq
              (.region [
                ⟨(some 88), .mv (.t 9), none⟩,
                ⟨(some 89), .mv (.t 5), none⟩,
                ⟨(some 90), .len .sli (.t 89), none⟩,
                ⟨(some 91), .bin .lss (.t 88) (.t 90), none⟩,
                ⟨(some 92), .mv (.t 91), none⟩,
                ⟨(some 93), .mv (.t 7), (some (92, true))⟩,
                ⟨(some 94), .pick (.t 92) (.t 93) (.c (.bool false)), none⟩] false)
              (.cond (.t 94)
               .skip
               (.exit 2)))
             (.seq
              (.block 3
               (.seq
                (.region [
                  ⟨(some 97), .mv (.t 5), none⟩,
                  ⟨(some 98), .mv (.t 9), none⟩,
                  ⟨(some 99), .idxa 1 (.t 97) (.t 98), none⟩,
                  ⟨(some 100), .load false 1 (.t 99), none⟩,
                  ⟨(some 101), .mv (.t 1), none⟩,
                  ⟨(some 102), .mv (.t 9), none⟩,
                  ⟨(some 103), .idxa 1 (.t 101) (.t 102), none⟩,
                  ⟨(some 104), .load false 1 (.t 103), none⟩,
                  ⟨(some 105), .bin .gtr (.t 100) (.t 104), none⟩] true)
                (.cond (.t 105)
                 (.seq
                  (.region [
                    ⟨(some 4), .mv (.c (.bool false)), none⟩] false)
                  .ret)
                 .skip)))
              (.region [
                ⟨(some 95), .mv (.t 9), none⟩,
                ⟨(some 96), .bin .add (.t 95) (.c (.int .i64 1)), none⟩,
                ⟨(some 9), .mv (.t 96), none⟩] false))))))
         (.seq
          (.region [
            ⟨(some 106), .mv (.t 5), none⟩,
            ⟨(some 107), .len .sli (.t 106), none⟩,
            ⟨(some 108), .bin .eql (.t 107) (.c (.int .i64 0)), none⟩,
            ⟨(some 109), .mv (.t 108), none⟩,
            ⟨(some 110), .mv (.t 5), (some (109, false))⟩,
            ⟨(some 111), .idxa 1 (.t 110) (.c (.int .i64 0)), (some (109, false))⟩,
            ⟨(some 112), .load false 1 (.t 111), (some (109, false))⟩,
            ⟨(some 113), .bin .eql (.t 112) (.c (.int .i64 0)), (some (109, false))⟩,
            ⟨(some 114), .pick (.t 109) (.c (.bool true)) (.t 113), none⟩,
            ⟨(some 115), .mv (.t 114), none⟩,
            ⟨(some 116), .call false (.c (.fn 9 [] [])) [], (some (115, true))⟩,
            ⟨(some 117), .pick (.t 115) (.t 116) (.c (.bool false)), none⟩,
            ⟨(some 4), .mv (.t 117), none⟩] false)
          .ret))))))))),
 [.t 4]⟩

/-- neume/neumelaw27.RodSure -/
def lf6 : LFunc := ⟨88, 2,
 (.seq
  (.region [
    ⟨(some 4), .mv (.c (.bool false)), none⟩] false)
  (.seq
   (.seq
    (.region [
      ⟨(some 7), .mv (.t 0), none⟩,
      ⟨(some 8), .len .sli (.t 7), none⟩,
      ⟨(some 9), .bin .gtr (.t 8) (.c (.int .i64 200)), none⟩,
      ⟨(some 10), .mv (.t 9), none⟩,
      ⟨(some 11), .mv (.t 1), (some (10, false))⟩,
      ⟨(some 12), .len .sli (.t 11), (some (10, false))⟩,
      ⟨(some 13), .bin .gtr (.t 12) (.c (.int .i64 100)), (some (10, false))⟩,
      ⟨(some 14), .pick (.t 10) (.c (.bool true)) (.t 13), none⟩,
      ⟨(some 15), .mv (.t 14), none⟩,
      ⟨(some 16), .mv (.t 0), (some (15, false))⟩,
      ⟨(some 17), .mv (.t 1), (some (15, false))⟩,
      ⟨(some 18), .len .sli (.t 17), (some (15, false))⟩,
      ⟨(some 19), .call false (.c (.fn 13 [] [])) [.t 16, .t 18], (some (15, false))⟩,
      ⟨(some 20), .not (.t 19), (some (15, false))⟩,
      ⟨(some 21), .pick (.t 15) (.c (.bool true)) (.t 20), none⟩] false)
    (.cond (.t 21)
     (.seq
      (.region [
        ⟨(some 22), .call false (.c (.fn 9 [] [])) [], none⟩,
        ⟨(some 4), .mv (.t 22), none⟩] false)
      .ret)
     .skip))
   (.seq
    (.region [
      ⟨(some 23), .mv (.t 0), none⟩,
      ⟨(some 24), .call false (.c (.fn 20 [] [])) [.t 23], none⟩,
      ⟨(some 5), .mv (.t 24), none⟩] false)
    (.seq
     (.seq
      (.region [
        ⟨(some 6), .mv (.c (.int .i64 1)), none⟩] false)
      (.block 0
       (.loop
        (.seq
         (.seq
          (.region [
            ⟨(some 25), .mv (.t 6), none⟩,
            ⟨(some 26), .mv (.t 5), none⟩,
            ⟨(some 27), .len .sli (.t 26), none⟩,
            ⟨(some 28), .bin .lss (.t 25) (.t 27), none⟩] false)
          (.cond (.t 28)
           .skip
           (.exit 0)))
         (.seq
          (.block 1
           (.seq
            (.region [
              ⟨(some 31), .mv (.t 5), none⟩,
              ⟨(some 32), .mv (.t 6), none⟩,
              ⟨(some 33), .idxa 3 (.t 31) (.t 32), none⟩,
              ⟨(some 34), .fadr 0 (.t 33), none⟩,
              ⟨(some 35), .load false 1 (.t 34), none⟩,
              ⟨(some 36), .mv (.t 5), none⟩,
              ⟨(some 37), .mv (.t 6), none⟩,
              ⟨(some 38), .bin .sub (.t 37) (.c (.int .i64 1)), none⟩,
              ⟨(some 39), .idxa 3 (.t 36) (.t 38), none⟩,
              ⟨(some 40), .fadr 0 (.t 39), none⟩,
              ⟨(some 41), .load false 1 (.t 40), none⟩,
              ⟨(some 42), .bin .lss (.t 35) (.t 41), none⟩,
              ⟨(some 43), .mv (.t 42), none⟩,
              ⟨(some 44), .mv (.t 5), (some (43, false))⟩,
              ⟨(some 45), .mv (.t 6), (some (43, false))⟩,
              ⟨(some 46), .idxa 3 (.t 44) (.t 45), (some (43, false))⟩,
              ⟨(some 47), .fadr 0 (.t 46), (some (43, false))⟩,
              ⟨(some 48), .load false 1 (.t 47), (some (43, false))⟩,
              ⟨(some 49), .mv (.t 5), (some (43, false))⟩,
              ⟨(some 50), .mv (.t 6), (some (43, false))⟩,
              ⟨(some 51), .bin .sub (.t 50) (.c (.int .i64 1)), (some (43, false))⟩,
              ⟨(some 52), .idxa 3 (.t 49) (.t 51), (some (43, false))⟩,
              ⟨(some 53), .fadr 0 (.t 52), (some (43, false))⟩,
              ⟨(some 54), .load false 1 (.t 53), (some (43, false))⟩,
              ⟨(some 55), .bin .eql (.t 48) (.t 54), (some (43, false))⟩,
              ⟨(some 56), .mv (.t 55), (some (43, false))⟩,
              ⟨(some 57), .mv (.t 5), (some (56, true))⟩,
              ⟨(some 58), .mv (.t 6), (some (56, true))⟩,
              ⟨(some 59), .idxa 3 (.t 57) (.t 58), (some (56, true))⟩,
              ⟨(some 60), .fadr 1 (.t 59), (some (56, true))⟩,
              ⟨(some 61), .load false 1 (.t 60), (some (56, true))⟩,
              ⟨(some 62), .mv (.t 5), (some (56, true))⟩,
              ⟨(some 63), .mv (.t 6), (some (56, true))⟩,
              ⟨(some 64), .bin .sub (.t 63) (.c (.int .i64 1)), (some (56, true))⟩,
              ⟨(some 65), .idxa 3 (.t 62) (.t 64), (some (56, true))⟩,
              ⟨(some 66), .fadr 1 (.t 65), (some (56, true))⟩,
              ⟨(some 67), .load false 1 (.t 66), (some (56, true))⟩,
              ⟨(some 68), .bin .leq (.t 61) (.t 67), (some (56, true))⟩,
              ⟨(some 69), .pick (.t 56) (.t 68) (.c (.bool false)), (some (43, false))⟩,
              ⟨(some 70), .pick (.t 43) (.c (.bool true)) (.t 69), none⟩] true)
            (.cond (.t 70)
             (.seq
              (.region [
                ⟨(some 4), .mv (.c (.bool false)), none⟩] false)
              .ret)
             .skip)))
          (.region [
            ⟨(some 29), .mv (.t 6), none⟩,
            ⟨(some 30), .bin .add (.t 29) (.c (.int .i64 1)), none⟩,
            ⟨(some 6), .mv (.t 30), none⟩] false))))))
     (.seq
      (.region [
        ⟨(some 71), .mv (.t 5), none⟩,
        ⟨(some 72), .len .sli (.t 71), none⟩,
        ⟨(some 73), .mv (.t 0), none⟩,
        ⟨(some 74), .len .sli (.t 73), none⟩,
        ⟨(some 75), .bin .leq (.t 72) (.t 74), none⟩,
        ⟨(some 76), .mv (.t 75), none⟩,
        ⟨(some 77), .mv (.t 5), (some (76, true))⟩,
        ⟨(some 78), .mv (.t 1), (some (76, true))⟩,
        ⟨(some 79), .call false (.c (.fn 18 [] [])) [.t 77, .t 78], (some (76, true))⟩,
        ⟨(some 80), .mv (.t 0), (some (76, true))⟩,
        ⟨(some 81), .mv (.t 1), (some (76, true))⟩,
        ⟨(some 82), .call false (.c (.fn 18 [] [])) [.t 80, .t 81], (some (76, true))⟩,
        ⟨(some 83), .eq false (.sc .b) (.t 79) (.t 82), (some (76, true))⟩,
        ⟨(some 84), .pick (.t 76) (.t 83) (.c (.bool false)), none⟩,
        ⟨(some 85), .mv (.t 84), none⟩,
        ⟨(some 86), .call false (.c (.fn 9 [] [])) [], (some (85, true))⟩,
        ⟨(some 87), .pick (.t 85) (.t 86) (.c (.bool false)), none⟩,
        ⟨(some 4), .mv (.t 87), none⟩] false)
      .ret))))),
 [.t 4]⟩

/-- neume/neumelaw27.RodApart -/
def lf7 : LFunc := ⟨131, 3,
 (.seq
  (.region [
    ⟨(some 6), .mv (.c (.bool false)), none⟩] false)
  (.seq
   (.seq
    (.region [
      ⟨(some 12), .mv (.t 0), none⟩,
      ⟨(some 13), .call false (.c (.fn 8 [] [])) [.t 12], none⟩,
      ⟨(some 14), .not (.t 13), none⟩,
      ⟨(some 15), .mv (.t 14), none⟩,
      ⟨(some 16), .mv (.t 2), (some (15, false))⟩,
      ⟨(some 17), .len .sli (.t 16), (some (15, false))⟩,
      ⟨(some 18), .bin .gtr (.t 17) (.c (.int .i64 60)), (some (15, false))⟩,
      ⟨(some 19), .pick (.t 15) (.c (.bool true)) (.t 18), none⟩] false)
    (.cond (.t 19)
     (.seq
      (.region [
        ⟨(some 20), .call false (.c (.fn 9 [] [])) [], none⟩,
        ⟨(some 6), .mv (.t 20), none⟩] false)
      .ret)
     .skip))
   (.seq
    (.region [
      ⟨(some 22), .mv (.t 0), none⟩,
      ⟨(some 23), .mv (.t 1), none⟩,
      ⟨(some 24), .call false (.c (.fn 10 [] [])) [.t 22, .t 23], none⟩,
      ⟨(some 21), .mv (.t 24), none⟩,
      ⟨(some 25), .extract (.t 21) 0, none⟩,
      ⟨(some 26), .extract (.t 21) 1, none⟩,
      ⟨(some 7), .mv (.t 25), none⟩,
      ⟨(some 8), .mv (.t 26), none⟩] false)
    (.seq
     (.seq
      (.region [
        ⟨(some 27), .mv (.t 8), none⟩,
        ⟨(some 28), .bin .neq (.t 27) (.c (.int .i64 0)), none⟩,
        ⟨(some 29), .mv (.t 28), none⟩,
        ⟨(some 30), .mv (.t 0), (some (29, false))⟩,
        ⟨(some 31), .len .sli (.t 30), (some (29, false))⟩,
        ⟨(some 32), .bin .eql (.t 31) (.c (.int .i64 0)), (some (29, false))⟩,
        ⟨(some 33), .pick (.t 29) (.c (.bool true)) (.t 32), none⟩,
        ⟨(some 34), .mv (.t 33), none⟩,
        ⟨(some 35), .mv (.t 2), (some (34, false))⟩,
        ⟨(some 36), .len .sli (.t 35), (some (34, false))⟩,
        ⟨(some 37), .mv (.t 0), (some (34, false))⟩,
        ⟨(some 38), .idxa 1 (.t 37) (.c (.int .i64 0)), (some (34, false))⟩,
        ⟨(some 39), .load false 1 (.t 38), (some (34, false))⟩,
        ⟨(some 40), .len .sli (.t 39), (some (34, false))⟩,
        ⟨(some 41), .bin .neq (.t 36) (.t 40), (some (34, false))⟩,
        ⟨(some 42), .pick (.t 34) (.c (.bool true)) (.t 41), none⟩,
        ⟨(some 43), .mv (.t 42), none⟩,
        ⟨(some 44), .mv (.t 7), (some (43, false))⟩,
        ⟨(some 45), .mv (.t 2), (some (43, false))⟩,
        ⟨(some 46), .call false (.c (.fn 18 [] [])) [.t 44, .t 45], (some (43, false))⟩,
        ⟨(some 47), .not (.t 46), (some (43, false))⟩,
        ⟨(some 48), .pick (.t 43) (.c (.bool true)) (.t 47), none⟩] false)
      (.cond (.t 48)
       (.seq
        (.region [
          ⟨(some 49), .call false (.c (.fn 9 [] [])) [], none⟩,
          ⟨(some 6), .mv (.t 49), none⟩] false)
        .ret)
       .skip))
     (.seq
      (.seq
       (.region [
         ⟨(some 9), .mv (.c (.int .i64 0)), none⟩] false)
       (.block 0
        (.loop
         (.seq
          (.seq
           (.region [
             ⟨(some 50), .mv (.t 9), none⟩,
             ⟨(some 51), .mv (.t 0), none⟩,
             ⟨(some 52), .len .sli (.t 51), none⟩,
             ⟨(some 53), .bin .lss (.t 50) (.t 52), none⟩] false)
           (.cond (.t 53)
            .skip
            (.exit 0)))
          (.seq
           (.block 1
            (.seq
             (.region [
               ⟨(some 10), .mv (.c (.int .i64 (-1))), none⟩] false)
             (.seq
              (.region [
                ⟨(some 11), .mv (.c (.int .i64 0)), none⟩] false)
              (.block 2
               (.loop
                (.seq
                 (.seq
                  (.region [
                    ⟨(some 56), .mv (.t 11), none⟩,
                    ⟨(some 57), .mv (.t 0), none⟩,
                    ⟨(some 58), .mv (.t 9), none⟩,
                    ⟨(some 59), .idxa 1 (.t 57) (.t 58), none⟩,
                    ⟨(some 60), .load false 1 (.t 59), none⟩,
                    ⟨(some 61), .len .sli (.t 60), none⟩,
                    ⟨(some 62), .bin .lss (.t 56) (.t 61), none⟩] false)
                  (.cond (.t 62)
                   .skip
                   (.exit 2)))
                 (.seq
                  (.block 3
                   (.seq
                    (.seq
                     (.region [
                       ⟨(some 65), .mv (.t 0), none⟩,
                       ⟨(some 66), .mv (.t 9), none⟩,
                       ⟨(some 67), .idxa 1 (.t 65) (.t 66), none⟩,
                       ⟨(some 68), .load false 1 (.t 67), none⟩,
                       ⟨(some 69), .mv (.t 11), none⟩,
                       ⟨(some 70), .idxa 3 (.t 68) (.t 69), none⟩,
                       ⟨(some 71), .fadr 0 (.t 70), none⟩,
                       ⟨(some 72), .load false 1 (.t 71), none⟩,
                       ⟨(some 73), .not (.t 72), none⟩] false)
                     (.cond (.t 73)
                      (.exit 3)
                      .skip))
                    (.seq
                     (.seq
                      (.region [
                        ⟨(some 74), .mv (.t 10), none⟩,
                        ⟨(some 75), .bin .geq (.t 74) (.c (.int .i64 0)), none⟩,
                        ⟨(some 76), .mv (.t 75), none⟩,
                        ⟨(some 77), .mv (.t 0), (some (76, true))⟩,
                        ⟨(some 78), .mv (.t 9), (some (76, true))⟩,
                        ⟨(some 79), .idxa 1 (.t 77) (.t 78), (some (76, true))⟩,
                        ⟨(some 80), .load false 1 (.t 79), (some (76, true))⟩,
                        ⟨(some 81), .mv (.t 10), (some (76, true))⟩,
                        ⟨(some 82), .idxa 3 (.t 80) (.t 81), (some (76, true))⟩,
                        ⟨(some 83), .fadr 2 (.t 82), (some (76, true))⟩,
                        ⟨(some 84), .load false 1 (.t 83), (some (76, true))⟩,
                        ⟨(some 85), .mv (.t 0), (some (76, true))⟩,
                        ⟨(some 86), .mv (.t 9), (some (76, true))⟩,
                        ⟨(some 87), .idxa 1 (.t 85) (.t 86), (some (76, true))⟩,
                        ⟨(some 88), .load false 1 (.t 87), (some (76, true))⟩,
                        ⟨(some 89), .mv (.t 11), (some (76, true))⟩,
                        ⟨(some 90), .idxa 3 (.t 88) (.t 89), (some (76, true))⟩,
                        ⟨(some 91), .fadr 1 (.t 90), (some (76, true))⟩,
                        ⟨(some 92), .load false 1 (.t 91), (some (76, true))⟩,
                        ⟨(some 93), .bin .sub (.t 84) (.t 92), (some (76, true))⟩,
                        ⟨(some 94), .mv (.t 1), (some (76, true))⟩,
                        ⟨(some 95), .bin .add (.t 93) (.t 94), (some (76, true))⟩,
                        ⟨(some 96), .bin .leq (.t 95) (.c (.int .i64 1073741824)), (some (76, true))⟩,
                        ⟨(some 97), .pick (.t 76) (.t 96) (.c (.bool false)), none⟩,
                        ⟨(some 98), .mv (.t 97), none⟩,
                        ⟨(some 99), .mv (.t 2), (some (98, true))⟩,
                        ⟨(some 100), .mv (.t 11), (some (98, true))⟩,
                        ⟨(some 101), .idxa 1 (.t 99) (.t 100), (some (98, true))⟩,
                        ⟨(some 102), .load false 1 (.t 101), (some (98, true))⟩,
                        ⟨(some 103), .mv (.t 0), (some (98, true))⟩,
                        ⟨(some 104), .mv (.t 9), (some (98, true))⟩,
                        ⟨(some 105), .idxa 1 (.t 103) (.t 104), (some (98, true))⟩,
                        ⟨(some 106), .load false 1 (.t 105), (some (98, true))⟩,
                        ⟨(some 107), .mv (.t 11), (some (98, true))⟩,
                        ⟨(some 108), .idxa 3 (.t 106) (.t 107), (some (98, true))⟩,
                        ⟨(some 109), .fadr 1 (.t 108), (some (98, true))⟩,
                        ⟨(some 110), .load false 1 (.t 109), (some (98, true))⟩,
                        ⟨(some 111), .bin .add (.t 102) (.t 110), (some (98, true))⟩,
                        ⟨(some 112), .mv (.t 2), (some (98, true))⟩,
                        ⟨(some 113), .mv (.t 10), (some (98, true))⟩,
                        ⟨(some 114), .idxa 1 (.t 112) (.t 113), (some (98, true))⟩,
                        ⟨(some 115), .load false 1 (.t 114), (some (98, true))⟩,
                        ⟨(some 116), .bin .sub (.t 111) (.t 115), (some (98, true))⟩,
                        ⟨(some 117), .mv (.t 0), (some (98, true))⟩,
                        ⟨(some 118), .mv (.t 9), (some (98, true))⟩,
                        ⟨(some 119), .idxa 1 (.t 117) (.t 118), (some (98, true))⟩,
                        ⟨(some 120), .load false 1 (.t 119), (some (98, true))⟩,
                        ⟨(some 121), .mv (.t 10), (some (98, true))⟩,
                        ⟨(some 122), .idxa 3 (.t 120) (.t 121), (some (98, true))⟩,
                        ⟨(some 123), .fadr 2 (.t 122), (some (98, true))⟩,
                        ⟨(some 124), .load false 1 (.t 123), (some (98, true))⟩,
                        ⟨(some 125), .bin .sub (.t 116) (.t 124), (some (98, true))⟩,
                        ⟨(some 126), .mv (.t 1), (some (98, true))⟩,
                        ⟨(some 127), .bin .lss (.t 125) (.t 126), (some (98, true))⟩,
                        ⟨(some 128), .pick (.t 98) (.t 127) (.c (.bool false)), none⟩] true)
                      (.cond (.t 128)
                       (.seq
                        (.region [
                          ⟨(some 6), .mv (.c (.bool false)), none⟩] false)
                        .ret)
                       .skip))
                     (.region [
                       ⟨(some 129), .mv (.t 11), none⟩,
                       ⟨(some 10), .mv (.t 129), none⟩] false))))
                  (.region [
                    ⟨(some 63), .mv (.t 11), none⟩,
                    ⟨(some 64), .bin .add (.t 63) (.c (.int .i64 1)), none⟩,
                    ⟨(some 11), .mv (.t 64), none⟩] false))))))))
           (.region [
             ⟨(some 54), .mv (.t 9), none⟩,
             ⟨(some 55), .bin .add (.t 54) (.c (.int .i64 1)), none⟩,
             ⟨(some 9), .mv (.t 55), none⟩] false))))))
      (.seq
       (.region [
         ⟨(some 130), .call false (.c (.fn 9 [] [])) [], none⟩,
         ⟨(some 6), .mv (.t 130), none⟩] false)
       .ret)))))),
 [.t 6]⟩

/-- neume/neumelaw27.few -/
def lf8 : LFunc := ⟨24, 1,
 (.seq
  (.region [
    ⟨(some 2), .mv (.c (.bool false)), none⟩] false)
  (.seq
   (.seq
    (.region [
      ⟨(some 3), .mv (.c (.int .i64 0)), none⟩] false)
    (.block 0
     (.loop
      (.seq
       (.seq
        (.region [
          ⟨(some 4), .mv (.t 3), none⟩,
          ⟨(some 5), .mv (.t 0), none⟩,
          ⟨(some 6), .len .sli (.t 5), none⟩,
          ⟨(some 7), .bin .lss (.t 4) (.t 6), none⟩,
          ⟨(some 8), .mv (.t 7), none⟩,
          ⟨(some 9), .mv (.t 0), (some (8, true))⟩,
          ⟨(some 10), .len .sli (.t 9), (some (8, true))⟩,
          ⟨(some 11), .bin .leq (.t 10) (.c (.int .i64 20)), (some (8, true))⟩,
          ⟨(some 12), .pick (.t 8) (.t 11) (.c (.bool false)), none⟩] false)
        (.cond (.t 12)
         .skip
         (.exit 0)))
       (.seq
        (.block 1
         (.seq
          (.region [
            ⟨(some 15), .mv (.t 0), none⟩,
            ⟨(some 16), .mv (.t 3), none⟩,
            ⟨(some 17), .idxa 1 (.t 15) (.t 16), none⟩,
            ⟨(some 18), .load false 1 (.t 17), none⟩,
            ⟨(some 19), .len .sli (.t 18), none⟩,
            ⟨(some 20), .bin .gtr (.t 19) (.c (.int .i64 60)), none⟩] false)
          (.cond (.t 20)
           (.seq
            (.region [
              ⟨(some 2), .mv (.c (.bool false)), none⟩] false)
            .ret)
           .skip)))
        (.region [
          ⟨(some 13), .mv (.t 3), none⟩,
          ⟨(some 14), .bin .add (.t 13) (.c (.int .i64 1)), none⟩,
          ⟨(some 3), .mv (.t 14), none⟩] false))))))
   (.seq
    (.region [
      ⟨(some 21), .mv (.t 0), none⟩,
      ⟨(some 22), .len .sli (.t 21), none⟩,
      ⟨(some 23), .bin .leq (.t 22) (.c (.int .i64 20)), none⟩,
      ⟨(some 2), .mv (.t 23), none⟩] false)
    .ret))),
 [.t 2]⟩

/-- neume/neumelaw27.heads -/
def lf9 : LFunc := ⟨77, 0,
 (.seq
  (.region [
    ⟨(some 0), .mv (.c (.bool false)), none⟩] false)
  (.seq
   (.region [
     ⟨(some 9), .build [.bool false, .int .i64 0, .int .i64 0] [(0, 1, .c (.bool true)), (2, 1, .c (.int .i64 10))], none⟩,
     ⟨(some 10), .build [.bool false, .int .i64 0, .int .i64 0] [], none⟩,
     ⟨(some 11), .build [.bool false, .int .i64 0, .int .i64 0] [(0, 1, .c (.bool true)), (1, 1, .c (.int .i64 (-5))), (2, 1, .c (.int .i64 3))], none⟩,
     ⟨(some 12), .bsl 3 3 [.bool false, .int .i64 0, .int .i64 0] [(0, .t 9), (1, .t 10), (2, .t 11)], none⟩,
     ⟨(some 13), .btsl 1 1 [.nils] [(0, .t 12)], none⟩,
     ⟨(some 14), .call false (.c (.fn 10 [] [])) [.t 13, .c (.int .i64 2)], none⟩,
     ⟨(some 8), .mv (.t 14), none⟩,
     ⟨(some 15), .extract (.t 8) 0, none⟩,
     ⟨(some 16), .extract (.t 8) 1, none⟩,
     ⟨(some 1), .mv (.t 15), none⟩,
     ⟨(some 2), .mv (.t 16), none⟩] false)
   (.seq
    (.region [
      ⟨(some 18), .build [.int .i64 0, .int .i64 0, .int .i64 0] [(0, 1, .c (.int .i64 0)), (1, 1, .c (.int .i64 2)), (2, 1, .c (.int .i64 17))], none⟩,
      ⟨(some 19), .btsl 3 1 [.int .i64 0, .int .i64 0, .int .i64 0] [(0, .t 18)], none⟩,
      ⟨(some 20), .call false (.c (.fn 14 [] [])) [.t 19, .c (.int .i64 4)], none⟩,
      ⟨(some 17), .mv (.t 20), none⟩,
      ⟨(some 21), .extract (.t 17) 0, none⟩,
      ⟨(some 22), .extract (.t 17) 1, none⟩,
      ⟨(some 3), .mv (.t 21), none⟩,
      ⟨(some 4), .mv (.t 22), none⟩] false)
    (.seq
     (.region [
       ⟨(some 24), .build [.int .i64 0, .int .i64 0, .int .i64 0] [(0, 1, .c (.int .i64 2)), (1, 1, .c (.int .i64 1)), (2, 1, .c (.int .i64 1))], none⟩,
       ⟨(some 25), .btsl 3 1 [.int .i64 0, .int .i64 0, .int .i64 0] [(0, .t 24)], none⟩,
       ⟨(some 26), .call false (.c (.fn 14 [] [])) [.t 25, .c (.int .i64 4)], none⟩,
       ⟨(some 23), .mv (.t 26), none⟩,
       ⟨(some 27), .extract (.t 23) 0, none⟩,
       ⟨(some 28), .extract (.t 23) 1, none⟩,
       ⟨(some 5), .mv (.t 27), none⟩,
       ⟨(some 6), .mv (.t 28), none⟩] false)
     (.seq
      (.region [
        ⟨(some 29), .build [.int .i64 0, .int .i64 0, .int .i64 0] [(0, 1, .c (.int .i64 1)), (1, 1, .c (.int .i64 2)), (2, 1, .c (.int .i64 5))], none⟩,
        ⟨(some 30), .build [.int .i64 0, .int .i64 0, .int .i64 0] [(0, 1, .c (.int .i64 0)), (1, 1, .c (.int .i64 2)), (2, 1, .c (.int .i64 1))], none⟩,
        ⟨(some 31), .build [.int .i64 0, .int .i64 0, .int .i64 0] [(0, 1, .c (.int .i64 1)), (1, 1, .c (.int .i64 2)), (2, 1, .c (.int .i64 9))], none⟩,
        ⟨(some 32), .btsl 3 3 [.int .i64 0, .int .i64 0, .int .i64 0] [(0, .t 29), (1, .t 30), (2, .t 31)], none⟩,
        ⟨(some 33), .call false (.c (.fn 20 [] [])) [.t 32], none⟩,
        ⟨(some 7), .mv (.t 33), none⟩] false)
      (.seq
       (.region [
         ⟨(some 34), .mv (.t 1), none⟩,
         ⟨(some 35), .build [.int .i64 0, .int .i64 0, .int .i64 0] [(0, 1, .c (.int .i64 0)), (1, 1, .c (.int .i64 2)), (2, 1, .c (.int .i64 17))], none⟩,
         ⟨(some 36), .btsl 3 1 [.int .i64 0, .int .i64 0, .int .i64 0] [(0, .t 35)], none⟩,
         ⟨(some 37), .call false (.c (.fn 12 [] [])) [.t 34, .t 36], none⟩,
         ⟨(some 38), .mv (.t 37), none⟩,
         ⟨(some 39), .mv (.t 2), (some (38, true))⟩,
         ⟨(some 40), .bin .eql (.t 39) (.c (.int .i64 0)), (some (38, true))⟩,
         ⟨(some 41), .pick (.t 38) (.t 40) (.c (.bool false)), none⟩,
         ⟨(some 42), .mv (.t 41), none⟩,
         ⟨(some 43), .mv (.t 3), (some (42, true))⟩,
         ⟨(some 44), .btsl 1 4 [.int .i64 0] [(0, .c (.int .i64 0)), (1, .c (.int .i64 1)), (2, .c (.int .i64 17)), (3, .c (.int .i64 18))], (some (42, true))⟩,
         ⟨(some 45), .call false (.c (.fn 16 [] [])) [.t 43, .t 44], (some (42, true))⟩,
         ⟨(some 46), .pick (.t 42) (.t 45) (.c (.bool false)), none⟩,
         ⟨(some 47), .mv (.t 46), none⟩,
         ⟨(some 48), .mv (.t 4), (some (47, true))⟩,
         ⟨(some 49), .bin .eql (.t 48) (.c (.int .i64 0)), (some (47, true))⟩,
         ⟨(some 50), .pick (.t 47) (.t 49) (.c (.bool false)), none⟩,
         ⟨(some 51), .mv (.t 50), none⟩,
         ⟨(some 52), .mv (.t 6), (some (51, true))⟩,
         ⟨(some 53), .bin .eql (.t 52) (.c (.int .i64 2)), (some (51, true))⟩,
         ⟨(some 54), .pick (.t 51) (.t 53) (.c (.bool false)), none⟩,
         ⟨(some 55), .mv (.t 54), none⟩,
         ⟨(some 56), .mv (.t 7), (some (55, true))⟩,
         ⟨(some 57), .build [.int .i64 0, .int .i64 0, .int .i64 0] [(0, 1, .c (.int .i64 0)), (1, 1, .c (.int .i64 2)), (2, 1, .c (.int .i64 1))], (some (55, true))⟩,
         ⟨(some 58), .build [.int .i64 0, .int .i64 0, .int .i64 0] [(0, 1, .c (.int .i64 1)), (1, 1, .c (.int .i64 2)), (2, 1, .c (.int .i64 9))], (some (55, true))⟩,
         ⟨(some 59), .btsl 3 2 [.int .i64 0, .int .i64 0, .int .i64 0] [(0, .t 57), (1, .t 58)], (some (55, true))⟩,
         ⟨(some 60), .call false (.c (.fn 12 [] [])) [.t 56, .t 59], (some (55, true))⟩,
         ⟨(some 61), .pick (.t 55) (.t 60) (.c (.bool false)), none⟩,
         ⟨(some 62), .mv (.t 61), none⟩,
         ⟨(some 63), .mv (.t 1), (some (62, true))⟩,
         ⟨(some 64), .btsl 1 3 [.int .i64 0] [(0, .c (.int .i64 0)), (1, .c (.int .i64 5)), (2, .c (.int .i64 17))], (some (62, true))⟩,
         ⟨(some 65), .call false (.c (.fn 18 [] [])) [.t 63, .t 64], (some (62, true))⟩,
         ⟨(some 66), .pick (.t 62) (.t 65) (.c (.bool false)), none⟩,
         ⟨(some 67), .mv (.t 66), none⟩,
         ⟨(some 68), .mv (.t 1), (some (67, true))⟩,
         ⟨(some 69), .btsl 1 3 [.int .i64 0] [(0, .c (.int .i64 0)), (1, .c (.int .i64 5)), (2, .c (.int .i64 16))], (some (67, true))⟩,
         ⟨(some 70), .call false (.c (.fn 18 [] [])) [.t 68, .t 69], (some (67, true))⟩,
         ⟨(some 71), .not (.t 70), (some (67, true))⟩,
         ⟨(some 72), .pick (.t 67) (.t 71) (.c (.bool false)), none⟩,
         ⟨(some 73), .mv (.t 72), none⟩,
         ⟨(some 74), .mv (.t 1), (some (73, true))⟩,
         ⟨(some 75), .call false (.c (.fn 13 [] [])) [.t 74, .c (.int .i64 3)], (some (73, true))⟩,
         ⟨(some 76), .pick (.t 73) (.t 75) (.c (.bool false)), none⟩,
         ⟨(some 0), .mv (.t 76), none⟩] false)
       .ret)))))),
 [.t 0]⟩

/-- neume/rod.Rods -/
def lf10 : LFunc := ⟨30, 2,
 (.seq
  (.region [
    ⟨(some 4), .mv (.c (.nils)), none⟩,
    ⟨(some 5), .mv (.c (.int .i64 0)), none⟩] false)
  (.seq
   (.seq
    (.region [
      ⟨(some 9), .mv (.t 0), none⟩,
      ⟨(some 10), .call false (.c (.fn 22 [] [])) [.t 9], none⟩,
      ⟨(some 11), .not (.t 10), none⟩,
      ⟨(some 12), .mv (.t 11), none⟩,
      ⟨(some 13), .mv (.t 1), (some (12, false))⟩,
      ⟨(some 14), .call false (.c (.fn 23 [] [])) [.t 13, .c (.int .i64 0), .c (.int .i64 1048576)], (some (12, false))⟩,
      ⟨(some 15), .not (.t 14), (some (12, false))⟩,
      ⟨(some 16), .pick (.t 12) (.c (.bool true)) (.t 15), none⟩] false)
    (.cond (.t 16)
     (.seq
      (.region [
        ⟨(some 4), .mv (.c (.nils)), none⟩,
        ⟨(some 5), .mv (.c (.int .i64 2)), none⟩] false)
      .ret)
     .skip))
   (.seq
    (.region [
      ⟨(some 6), .own 3, none⟩] false)
    (.seq
     (.seq
      (.region [
        ⟨(some 17), .mv (.t 0), none⟩,
        ⟨(some 18), .len .sli (.t 17), none⟩,
        ⟨(some 19), .mv (.c (.int .i64 0)), none⟩] false)
      (.block 0
       (.loop
        (.seq
         (.region [
           ⟨(some 20), .bin .lss (.t 19) (.t 18), none⟩] false)
         (.seq
          (.cond (.t 20)
           .skip
           (.exit 0))
          (.seq
           (.block 1
            (.seq
             (.region [
               ⟨(some 21), .idxa 1 (.t 17) (.t 19), none⟩,
               ⟨(some 22), .load false 1 (.t 21), none⟩,
               ⟨(some 8), .mv (.t 22), none⟩] false)
             (.region [
               ⟨(some 23), .mv (.t 6), none⟩,
               ⟨(some 24), .mv (.t 8), none⟩,
               ⟨(some 25), .mv (.t 1), none⟩,
               ⟨(some 26), .call false (.c (.fn 24 [] [])) [.t 24, .t 25], none⟩,
               ⟨(some 27), .append 3 24 (.t 23) (.t 26), none⟩,
               ⟨(some 6), .mv (.t 27), none⟩] false)))
           (.region [
             ⟨(some 28), .bin .add (.t 19) (.c (.int .i64 1)), none⟩,
             ⟨(some 19), .mv (.t 28), none⟩] false)))))))
     (.seq
      (.region [
        ⟨(some 29), .mv (.t 6), none⟩,
        ⟨(some 4), .mv (.t 29), none⟩,
        ⟨(some 5), .mv (.c (.int .i64 0)), none⟩] false)
      .ret))))),
 [.t 4, .t 5]⟩

/-- neume/neumeref27.Rods -/
def lf11 : LFunc := ⟨78, 2,
 (.seq
  (.region [
    ⟨(some 4), .mv (.c (.nils)), none⟩,
    ⟨(some 5), .mv (.c (.int .i64 0)), none⟩] false)
  (.seq
   (.seq
    (.region [
      ⟨(some 11), .mv (.t 0), none⟩,
      ⟨(some 12), .call false (.c (.fn 25 [] [])) [.t 11], none⟩,
      ⟨(some 13), .not (.t 12), none⟩,
      ⟨(some 14), .mv (.t 13), none⟩,
      ⟨(some 15), .mv (.t 1), (some (14, false))⟩,
      ⟨(some 16), .bin .lss (.t 15) (.c (.int .i64 0)), (some (14, false))⟩,
      ⟨(some 17), .pick (.t 14) (.c (.bool true)) (.t 16), none⟩,
      ⟨(some 18), .mv (.t 17), none⟩,
      ⟨(some 19), .mv (.t 1), (some (18, false))⟩,
      ⟨(some 20), .bin .gtr (.t 19) (.c (.int .i64 1048576)), (some (18, false))⟩,
      ⟨(some 21), .pick (.t 18) (.c (.bool true)) (.t 20), none⟩] false)
    (.cond (.t 21)
     (.seq
      (.region [
        ⟨(some 4), .mv (.c (.nils)), none⟩,
        ⟨(some 5), .mv (.c (.int .i64 2)), none⟩] false)
      .ret)
     .skip))
   (.seq
    (.region [
      ⟨(some 6), .own 3, none⟩] false)
    (.seq
     (.seq
      (.region [
        ⟨(some 7), .mv (.c (.int .i64 0)), none⟩] false)
      (.block 0
       (.loop
        (.seq
         (.seq
          (.region [
            ⟨(some 22), .mv (.t 7), none⟩,
            ⟨(some 23), .mv (.t 0), none⟩,
            ⟨(some 24), .len .sli (.t 23), none⟩,
            ⟨(some 25), .bin .lss (.t 22) (.t 24), none⟩] false)
          (.cond (.t 25)
           .skip
           (.exit 0)))
         (.seq
          (.block 1
           (.seq
            (.region [
              ⟨(some 8), .mv (.c (.int .i64 (-1))), none⟩] false)
            (.seq
             (.region [
               ⟨(some 9), .mv (.c (.int .i64 0)), none⟩] false)
             (.block 2
              (.loop
               (.seq
                (.seq
                 (.region [
                   ⟨(some 28), .mv (.t 9), none⟩,
                   ⟨(some 29), .mv (.t 0), none⟩,
                   ⟨(some 30), .mv (.t 7), none⟩,
                   ⟨(some 31), .idxa 1 (.t 29) (.t 30), none⟩,
                   ⟨(some 32), .load false 1 (.t 31), none⟩,
                   ⟨(some 33), .len .sli (.t 32), none⟩,
                   ⟨(some 34), .bin .lss (.t 28) (.t 33), none⟩] false)
                 (.cond (.t 34)
                  .skip
                  (.exit 2)))
                (.seq
                 (.block 3
                  (.seq
                   (.seq
                    (.region [
                      ⟨(some 37), .mv (.t 0), none⟩,
                      ⟨(some 38), .mv (.t 7), none⟩,
                      ⟨(some 39), .idxa 1 (.t 37) (.t 38), none⟩,
                      ⟨(some 40), .load false 1 (.t 39), none⟩,
                      ⟨(some 41), .mv (.t 9), none⟩,
                      ⟨(some 42), .idxa 3 (.t 40) (.t 41), none⟩,
                      ⟨(some 43), .fadr 0 (.t 42), none⟩,
                      ⟨(some 44), .load false 1 (.t 43), none⟩,
                      ⟨(some 45), .not (.t 44), none⟩] false)
                    (.cond (.t 45)
                     (.exit 3)
                     .skip))
                   (.seq
                    (.seq
                     (.region [
                       ⟨(some 46), .mv (.t 8), none⟩,
                       ⟨(some 47), .bin .geq (.t 46) (.c (.int .i64 0)), none⟩] false)
                     (.cond (.t 47)
                      (.seq
                       (.region [
                         ⟨(some 48), .mv (.t 0), none⟩,
                         ⟨(some 49), .mv (.t 7), none⟩,
                         ⟨(some 50), .idxa 1 (.t 48) (.t 49), none⟩,
                         ⟨(some 51), .load false 1 (.t 50), none⟩,
                         ⟨(some 52), .mv (.t 8), none⟩,
                         ⟨(some 53), .idxa 3 (.t 51) (.t 52), none⟩,
                         ⟨(some 54), .fadr 2 (.t 53), none⟩,
                         ⟨(some 55), .load false 1 (.t 54), none⟩,
                         ⟨(some 56), .mv (.t 0), none⟩,
                         ⟨(some 57), .mv (.t 7), none⟩,
                         ⟨(some 58), .idxa 1 (.t 56) (.t 57), none⟩,
                         ⟨(some 59), .load false 1 (.t 58), none⟩,
                         ⟨(some 60), .mv (.t 9), none⟩,
                         ⟨(some 61), .idxa 3 (.t 59) (.t 60), none⟩,
                         ⟨(some 62), .fadr 1 (.t 61), none⟩,
                         ⟨(some 63), .load false 1 (.t 62), none⟩,
                         ⟨(some 64), .bin .sub (.t 55) (.t 63), none⟩,
                         ⟨(some 65), .mv (.t 1), none⟩,
                         ⟨(some 66), .bin .add (.t 64) (.t 65), none⟩,
                         ⟨(some 10), .mv (.t 66), none⟩] true)
                       (.region [
                         ⟨(some 67), .mv (.t 6), none⟩,
                         ⟨(some 68), .mv (.t 8), none⟩,
                         ⟨(some 69), .mv (.t 9), none⟩,
                         ⟨(some 70), .mv (.t 10), none⟩,
                         ⟨(some 71), .mins [.t 70, .c (.int .i64 1073741824)], none⟩,
                         ⟨(some 72), .maxs [.c (.int .i64 1), .t 71], none⟩,
                         ⟨(some 73), .build [.int .i64 0, .int .i64 0, .int .i64 0] [(0, 1, .t 68), (1, 1, .t 69), (2, 1, .t 72)], none⟩,
                         ⟨(some 74), .btsl 3 1 [.int .i64 0, .int .i64 0, .int .i64 0] [(0, .t 73)], none⟩,
                         ⟨(some 75), .append 3 24 (.t 67) (.t 74), none⟩,
                         ⟨(some 6), .mv (.t 75), none⟩] false))
                      .skip))
                    (.region [
                      ⟨(some 76), .mv (.t 9), none⟩,
                      ⟨(some 8), .mv (.t 76), none⟩] false))))
                 (.region [
                   ⟨(some 35), .mv (.t 9), none⟩,
                   ⟨(some 36), .bin .add (.t 35) (.c (.int .i64 1)), none⟩,
                   ⟨(some 9), .mv (.t 36), none⟩] false))))))))
          (.region [
            ⟨(some 26), .mv (.t 7), none⟩,
            ⟨(some 27), .bin .add (.t 26) (.c (.int .i64 1)), none⟩,
            ⟨(some 7), .mv (.t 27), none⟩] false))))))
     (.seq
      (.region [
        ⟨(some 77), .mv (.t 6), none⟩,
        ⟨(some 4), .mv (.t 77), none⟩,
        ⟨(some 5), .mv (.c (.int .i64 0)), none⟩] false)
      .ret))))),
 [.t 4, .t 5]⟩

/-- neume/neumeref27.Same -/
def lf12 : LFunc := ⟨26, 2,
 (.seq
  (.region [
    ⟨(some 4), .mv (.c (.bool false)), none⟩] false)
  (.seq
   (.seq
    (.region [
      ⟨(some 6), .mv (.t 0), none⟩,
      ⟨(some 7), .len .sli (.t 6), none⟩,
      ⟨(some 8), .mv (.t 1), none⟩,
      ⟨(some 9), .len .sli (.t 8), none⟩,
      ⟨(some 10), .bin .neq (.t 7) (.t 9), none⟩] false)
    (.cond (.t 10)
     (.seq
      (.region [
        ⟨(some 4), .mv (.c (.bool false)), none⟩] false)
      .ret)
     .skip))
   (.seq
    (.seq
     (.region [
       ⟨(some 5), .mv (.c (.int .i64 0)), none⟩] false)
     (.block 0
      (.loop
       (.seq
        (.seq
         (.region [
           ⟨(some 11), .mv (.t 5), none⟩,
           ⟨(some 12), .mv (.t 0), none⟩,
           ⟨(some 13), .len .sli (.t 12), none⟩,
           ⟨(some 14), .bin .lss (.t 11) (.t 13), none⟩] false)
         (.cond (.t 14)
          .skip
          (.exit 0)))
        (.seq
         (.block 1
          (.seq
           (.region [
             ⟨(some 17), .mv (.t 0), none⟩,
             ⟨(some 18), .mv (.t 5), none⟩,
             ⟨(some 19), .idxa 3 (.t 17) (.t 18), none⟩,
             ⟨(some 20), .load true 3 (.t 19), none⟩,
             ⟨(some 21), .mv (.t 1), none⟩,
             ⟨(some 22), .mv (.t 5), none⟩,
             ⟨(some 23), .idxa 3 (.t 21) (.t 22), none⟩,
             ⟨(some 24), .load true 3 (.t 23), none⟩,
             ⟨(some 25), .eq true (.ag [.i, .i, .i]) (.t 20) (.t 24), none⟩] true)
           (.cond (.t 25)
            (.seq
             (.region [
               ⟨(some 4), .mv (.c (.bool false)), none⟩] false)
             .ret)
            .skip)))
         (.region [
           ⟨(some 15), .mv (.t 5), none⟩,
           ⟨(some 16), .bin .add (.t 15) (.c (.int .i64 1)), none⟩,
           ⟨(some 5), .mv (.t 16), none⟩] false))))))
    (.seq
     (.region [
       ⟨(some 4), .mv (.c (.bool true)), none⟩] false)
     .ret)))),
 [.t 4]⟩

/-- neume/rod.Check -/
def lf13 : LFunc := ⟨44, 2,
 (.seq
  (.region [
    ⟨(some 4), .mv (.c (.bool false)), none⟩] false)
  (.seq
   (.seq
    (.region [
      ⟨(some 7), .mv (.t 1), none⟩,
      ⟨(some 8), .call false (.c (.fn 23 [] [])) [.t 7, .c (.int .i64 0), .c (.int .i64 4096)], none⟩,
      ⟨(some 9), .not (.t 8), none⟩,
      ⟨(some 10), .mv (.t 9), none⟩,
      ⟨(some 11), .mv (.t 0), (some (10, false))⟩,
      ⟨(some 12), .len .sli (.t 11), (some (10, false))⟩,
      ⟨(some 13), .bin .gtr (.t 12) (.c (.int .i64 400000)), (some (10, false))⟩,
      ⟨(some 14), .pick (.t 10) (.c (.bool true)) (.t 13), none⟩] false)
    (.cond (.t 14)
     (.seq
      (.region [
        ⟨(some 4), .mv (.c (.bool false)), none⟩] false)
      .ret)
     .skip))
   (.seq
    (.seq
     (.region [
       ⟨(some 15), .mv (.t 0), none⟩,
       ⟨(some 16), .len .sli (.t 15), none⟩,
       ⟨(some 17), .mv (.c (.int .i64 0)), none⟩] false)
     (.block 0
      (.loop
       (.seq
        (.region [
          ⟨(some 18), .bin .lss (.t 17) (.t 16), none⟩] false)
        (.seq
         (.cond (.t 18)
          .skip
          (.exit 0))
         (.seq
          (.block 1
           (.seq
            (.region [
              ⟨(some 19), .idxa 3 (.t 15) (.t 17), none⟩,
              ⟨(some 20), .load true 3 (.t 19), none⟩,
              ⟨(some 6), .newv [.int .i64 0, .int .i64 0, .int .i64 0], none⟩,
              ⟨none, .store 3 (.t 6) (.t 20), none⟩] false)
            (.seq
             (.region [
               ⟨(some 21), .fadr 0 (.t 6), none⟩,
               ⟨(some 22), .load false 1 (.t 21), none⟩,
               ⟨(some 23), .bin .lss (.t 22) (.c (.int .i64 0)), none⟩,
               ⟨(some 24), .mv (.t 23), none⟩,
               ⟨(some 25), .fadr 1 (.t 6), (some (24, false))⟩,
               ⟨(some 26), .load false 1 (.t 25), (some (24, false))⟩,
               ⟨(some 27), .fadr 0 (.t 6), (some (24, false))⟩,
               ⟨(some 28), .load false 1 (.t 27), (some (24, false))⟩,
               ⟨(some 29), .bin .leq (.t 26) (.t 28), (some (24, false))⟩,
               ⟨(some 30), .pick (.t 24) (.c (.bool true)) (.t 29), none⟩,
               ⟨(some 31), .mv (.t 30), none⟩,
               ⟨(some 32), .fadr 1 (.t 6), (some (31, false))⟩,
               ⟨(some 33), .load false 1 (.t 32), (some (31, false))⟩,
               ⟨(some 34), .mv (.t 1), (some (31, false))⟩,
               ⟨(some 35), .bin .geq (.t 33) (.t 34), (some (31, false))⟩,
               ⟨(some 36), .pick (.t 31) (.c (.bool true)) (.t 35), none⟩,
               ⟨(some 37), .mv (.t 36), none⟩,
               ⟨(some 38), .fadr 2 (.t 6), (some (37, false))⟩,
               ⟨(some 39), .load false 1 (.t 38), (some (37, false))⟩,
               ⟨(some 40), .call false (.c (.fn 23 [] [])) [.t 39, .c (.int .i64 1), .c (.int .i64 1073741824)], (some (37, false))⟩,
               ⟨(some 41), .not (.t 40), (some (37, false))⟩,
               ⟨(some 42), .pick (.t 37) (.c (.bool true)) (.t 41), none⟩] false)
             (.cond (.t 42)
              (.seq
               (.region [
                 ⟨(some 4), .mv (.c (.bool false)), none⟩] false)
               .ret)
              .skip))))
          (.region [
            ⟨(some 43), .bin .add (.t 17) (.c (.int .i64 1)), none⟩,
            ⟨(some 17), .mv (.t 43), none⟩] false)))))))
    (.seq
     (.region [
       ⟨(some 4), .mv (.c (.bool true)), none⟩] false)
     .ret)))),
 [.t 4]⟩

/-- neume/rod.Least -/
def lf14 : LFunc := ⟨59, 2,
 (.seq
  (.region [
    ⟨(some 4), .mv (.c (.nils)), none⟩,
    ⟨(some 5), .mv (.c (.int .i64 0)), none⟩] false)
  (.seq
   (.seq
    (.region [
      ⟨(some 12), .mv (.t 0), none⟩,
      ⟨(some 13), .mv (.t 1), none⟩,
      ⟨(some 14), .call false (.c (.fn 13 [] [])) [.t 12, .t 13], none⟩,
      ⟨(some 15), .not (.t 14), none⟩] false)
    (.cond (.t 15)
     (.seq
      (.region [
        ⟨(some 4), .mv (.c (.nils)), none⟩,
        ⟨(some 5), .mv (.c (.int .i64 2)), none⟩] false)
      .ret)
     .skip))
   (.seq
    (.region [
      ⟨(some 16), .mv (.t 0), none⟩,
      ⟨(some 17), .mv (.t 1), none⟩,
      ⟨(some 18), .call false (.c (.fn 26 [] [])) [.t 16, .t 17], none⟩,
      ⟨(some 6), .mv (.t 18), none⟩] false)
    (.seq
     (.region [
       ⟨(some 19), .mv (.t 1), none⟩,
       ⟨(some 20), .mksl 1 [.int .i64 0] 8 (.t 19) (.t 19), none⟩,
       ⟨(some 7), .mv (.t 20), none⟩] false)
     (.seq
      (.seq
       (.region [
         ⟨(some 8), .mv (.c (.int .i64 1)), none⟩] false)
       (.block 0
        (.loop
         (.seq
          (.seq
           (.region [
             ⟨(some 21), .mv (.t 8), none⟩,
             ⟨(some 22), .mv (.t 1), none⟩,
             ⟨(some 23), .bin .lss (.t 21) (.t 22), none⟩] false)
           (.cond (.t 23)
            .skip
            (.exit 0)))
          (.seq
           (.block 1
            (.seq
             (.region [
               ⟨(some 26), .mv (.t 7), none⟩,
               ⟨(some 27), .mv (.t 8), none⟩,
               ⟨(some 28), .bin .sub (.t 27) (.c (.int .i64 1)), none⟩,
               ⟨(some 29), .idxa 1 (.t 26) (.t 28), none⟩,
               ⟨(some 30), .load false 1 (.t 29), none⟩,
               ⟨(some 31), .bin .add (.t 30) (.c (.int .i64 1)), none⟩,
               ⟨(some 9), .mv (.t 31), none⟩] false)
             (.seq
              (.seq
               (.region [
                 ⟨(some 32), .mv (.t 6), none⟩,
                 ⟨(some 33), .mv (.t 8), none⟩,
                 ⟨(some 34), .idxa 1 (.t 32) (.t 33), none⟩,
                 ⟨(some 35), .load false 1 (.t 34), none⟩,
                 ⟨(some 36), .len .sli (.t 35), none⟩,
                 ⟨(some 37), .mv (.c (.int .i64 0)), none⟩] false)
               (.block 2
                (.loop
                 (.seq
                  (.region [
                    ⟨(some 38), .bin .lss (.t 37) (.t 36), none⟩] false)
                  (.seq
                   (.cond (.t 38)
                    .skip
                    (.exit 2))
                   (.seq
                    (.block 3
                     (.seq
                      (.region [
                        ⟨(some 39), .idxa 3 (.t 35) (.t 37), none⟩,
                        ⟨(some 40), .load true 3 (.t 39), none⟩,
                        ⟨(some 11), .newv [.int .i64 0, .int .i64 0, .int .i64 0], none⟩,
                        ⟨none, .store 3 (.t 11) (.t 40), none⟩] false)
                      (.region [
                        ⟨(some 41), .mv (.t 9), none⟩,
                        ⟨(some 42), .mv (.t 7), none⟩,
                        ⟨(some 43), .fadr 0 (.t 11), none⟩,
                        ⟨(some 44), .load false 1 (.t 43), none⟩,
                        ⟨(some 45), .idxa 1 (.t 42) (.t 44), none⟩,
                        ⟨(some 46), .load false 1 (.t 45), none⟩,
                        ⟨(some 47), .fadr 2 (.t 11), none⟩,
                        ⟨(some 48), .load false 1 (.t 47), none⟩,
                        ⟨(some 49), .bin .add (.t 46) (.t 48), none⟩,
                        ⟨(some 50), .maxs [.t 41, .t 49], none⟩,
                        ⟨(some 9), .mv (.t 50), none⟩] true)))
                    (.region [
                      ⟨(some 51), .bin .add (.t 37) (.c (.int .i64 1)), none⟩,
                      ⟨(some 37), .mv (.t 51), none⟩] false)))))))
              (.seq
               (.seq
                (.region [
                  ⟨(some 52), .mv (.t 9), none⟩,
                  ⟨(some 53), .bin .gtr (.t 52) (.c (.int .i64 1125899906842624)), none⟩] false)
                (.cond (.t 53)
                 (.seq
                  (.region [
                    ⟨(some 4), .mv (.c (.nils)), none⟩,
                    ⟨(some 5), .mv (.c (.int .i64 3)), none⟩] false)
                  .ret)
                 .skip))
               (.region [
                 ⟨(some 54), .mv (.t 7), none⟩,
                 ⟨(some 55), .mv (.t 8), none⟩,
                 ⟨(some 56), .mv (.t 9), none⟩,
                 ⟨(some 57), .idxa 1 (.t 54) (.t 55), none⟩,
                 ⟨none, .store 1 (.t 57) (.t 56), none⟩] false)))))
           (.region [
             ⟨(some 24), .mv (.t 8), none⟩,
             ⟨(some 25), .bin .add (.t 24) (.c (.int .i64 1)), none⟩,
             ⟨(some 8), .mv (.t 25), none⟩] false))))))
      (.seq
       (.region [
         ⟨(some 58), .mv (.t 7), none⟩,
         ⟨(some 4), .mv (.t 58), none⟩,
         ⟨(some 5), .mv (.c (.int .i64 0)), none⟩] false)
       .ret)))))),
 [.t 4, .t 5]⟩

/-- neume/neumeref27.Least -/
def lf15 : LFunc := ⟨70, 2,
 (.seq
  (.region [
    ⟨(some 4), .mv (.c (.nils)), none⟩,
    ⟨(some 5), .mv (.c (.int .i64 0)), none⟩] false)
  (.seq
   (.seq
    (.region [
      ⟨(some 9), .mv (.t 0), none⟩,
      ⟨(some 10), .mv (.t 1), none⟩,
      ⟨(some 11), .call false (.c (.fn 17 [] [])) [.t 9, .t 10], none⟩,
      ⟨(some 12), .not (.t 11), none⟩] false)
    (.cond (.t 12)
     (.seq
      (.region [
        ⟨(some 4), .mv (.c (.nils)), none⟩,
        ⟨(some 5), .mv (.c (.int .i64 2)), none⟩] false)
      .ret)
     .skip))
   (.seq
    (.region [
      ⟨(some 13), .mv (.t 1), none⟩,
      ⟨(some 14), .mksl 1 [.int .i64 0] 8 (.t 13) (.t 13), none⟩,
      ⟨(some 6), .mv (.t 14), none⟩] false)
    (.seq
     (.seq
      (.region [
        ⟨(some 7), .mv (.c (.int .i64 1)), none⟩] false)
      (.block 0
       (.loop
        (.seq
         (.seq
          (.region [
            ⟨(some 15), .mv (.t 7), none⟩,
            ⟨(some 16), .mv (.t 1), none⟩,
            ⟨(some 17), .bin .lss (.t 15) (.t 16), none⟩] false)
          (.cond (.t 17)
           .skip
           (.exit 0)))
         (.seq
          (.block 1
           (.seq
            (.region [
              ⟨(some 20), .mv (.t 6), none⟩,
              ⟨(some 21), .mv (.t 7), none⟩,
              ⟨(some 22), .mv (.t 6), none⟩,
              ⟨(some 23), .mv (.t 7), none⟩,
              ⟨(some 24), .bin .sub (.t 23) (.c (.int .i64 1)), none⟩,
              ⟨(some 25), .idxa 1 (.t 22) (.t 24), none⟩,
              ⟨(some 26), .load false 1 (.t 25), none⟩,
              ⟨(some 27), .bin .add (.t 26) (.c (.int .i64 1)), none⟩,
              ⟨(some 28), .idxa 1 (.t 20) (.t 21), none⟩,
              ⟨none, .store 1 (.t 28) (.t 27), none⟩] false)
            (.seq
             (.seq
              (.region [
                ⟨(some 8), .mv (.c (.int .i64 0)), none⟩] false)
              (.block 2
               (.loop
                (.seq
                 (.seq
                  (.region [
                    ⟨(some 29), .mv (.t 8), none⟩,
                    ⟨(some 30), .mv (.t 0), none⟩,
                    ⟨(some 31), .len .sli (.t 30), none⟩,
                    ⟨(some 32), .bin .lss (.t 29) (.t 31), none⟩] false)
                  (.cond (.t 32)
                   .skip
                   (.exit 2)))
                 (.seq
                  (.block 3
                   (.seq
                    (.region [
                      ⟨(some 35), .mv (.t 0), none⟩,
                      ⟨(some 36), .mv (.t 8), none⟩,
                      ⟨(some 37), .idxa 3 (.t 35) (.t 36), none⟩,
                      ⟨(some 38), .fadr 1 (.t 37), none⟩,
                      ⟨(some 39), .load false 1 (.t 38), none⟩,
                      ⟨(some 40), .mv (.t 7), none⟩,
                      ⟨(some 41), .bin .eql (.t 39) (.t 40), none⟩] false)
                    (.cond (.t 41)
                     (.region [
                       ⟨(some 42), .mv (.t 6), none⟩,
                       ⟨(some 43), .mv (.t 7), none⟩,
                       ⟨(some 44), .mv (.t 6), none⟩,
                       ⟨(some 45), .mv (.t 7), none⟩,
                       ⟨(some 46), .idxa 1 (.t 44) (.t 45), none⟩,
                       ⟨(some 47), .load false 1 (.t 46), none⟩,
                       ⟨(some 48), .mv (.t 6), none⟩,
                       ⟨(some 49), .mv (.t 0), none⟩,
                       ⟨(some 50), .mv (.t 8), none⟩,
                       ⟨(some 51), .idxa 3 (.t 49) (.t 50), none⟩,
                       ⟨(some 52), .fadr 0 (.t 51), none⟩,
                       ⟨(some 53), .load false 1 (.t 52), none⟩,
                       ⟨(some 54), .idxa 1 (.t 48) (.t 53), none⟩,
                       ⟨(some 55), .load false 1 (.t 54), none⟩,
                       ⟨(some 56), .mv (.t 0), none⟩,
                       ⟨(some 57), .mv (.t 8), none⟩,
                       ⟨(some 58), .idxa 3 (.t 56) (.t 57), none⟩,
                       ⟨(some 59), .fadr 2 (.t 58), none⟩,
                       ⟨(some 60), .load false 1 (.t 59), none⟩,
                       ⟨(some 61), .bin .add (.t 55) (.t 60), none⟩,
                       ⟨(some 62), .maxs [.t 47, .t 61], none⟩,
                       ⟨(some 63), .idxa 1 (.t 42) (.t 43), none⟩,
                       ⟨none, .store 1 (.t 63) (.t 62), none⟩] true)
                     .skip)))
                  (.region [
                    ⟨(some 33), .mv (.t 8), none⟩,
                    ⟨(some 34), .bin .add (.t 33) (.c (.int .i64 1)), none⟩,
                    ⟨(some 8), .mv (.t 34), none⟩] false))))))
             (.seq
              (.region [
                ⟨(some 64), .mv (.t 6), none⟩,
                ⟨(some 65), .mv (.t 7), none⟩,
                ⟨(some 66), .idxa 1 (.t 64) (.t 65), none⟩,
                ⟨(some 67), .load false 1 (.t 66), none⟩,
                ⟨(some 68), .bin .gtr (.t 67) (.c (.int .i64 1125899906842624)), none⟩] false)
              (.cond (.t 68)
               (.seq
                (.region [
                  ⟨(some 4), .mv (.c (.nils)), none⟩,
                  ⟨(some 5), .mv (.c (.int .i64 3)), none⟩] false)
                .ret)
               .skip)))))
          (.region [
            ⟨(some 18), .mv (.t 7), none⟩,
            ⟨(some 19), .bin .add (.t 18) (.c (.int .i64 1)), none⟩,
            ⟨(some 7), .mv (.t 19), none⟩] false))))))
     (.seq
      (.region [
        ⟨(some 69), .mv (.t 6), none⟩,
        ⟨(some 4), .mv (.t 69), none⟩,
        ⟨(some 5), .mv (.c (.int .i64 0)), none⟩] false)
      .ret))))),
 [.t 4, .t 5]⟩

/-- neume/neumeref18.Numbers -/
def lf16 : LFunc := ⟨26, 2,
 (.seq
  (.region [
    ⟨(some 4), .mv (.c (.bool false)), none⟩] false)
  (.seq
   (.seq
    (.region [
      ⟨(some 6), .mv (.t 0), none⟩,
      ⟨(some 7), .len .sli (.t 6), none⟩,
      ⟨(some 8), .mv (.t 1), none⟩,
      ⟨(some 9), .len .sli (.t 8), none⟩,
      ⟨(some 10), .bin .neq (.t 7) (.t 9), none⟩] false)
    (.cond (.t 10)
     (.seq
      (.region [
        ⟨(some 4), .mv (.c (.bool false)), none⟩] false)
      .ret)
     .skip))
   (.seq
    (.seq
     (.region [
       ⟨(some 5), .mv (.c (.int .i64 0)), none⟩] false)
     (.block 0
      (.loop
       (.seq
        (.seq
         (.region [
           ⟨(some 11), .mv (.t 5), none⟩,
           ⟨(some 12), .mv (.t 0), none⟩,
           ⟨(some 13), .len .sli (.t 12), none⟩,
           ⟨(some 14), .bin .lss (.t 11) (.t 13), none⟩] false)
         (.cond (.t 14)
          .skip
          (.exit 0)))
        (.seq
         (.block 1
          (.seq
           (.region [
             ⟨(some 17), .mv (.t 0), none⟩,
             ⟨(some 18), .mv (.t 5), none⟩,
             ⟨(some 19), .idxa 1 (.t 17) (.t 18), none⟩,
             ⟨(some 20), .load false 1 (.t 19), none⟩,
             ⟨(some 21), .mv (.t 1), none⟩,
             ⟨(some 22), .mv (.t 5), none⟩,
             ⟨(some 23), .idxa 1 (.t 21) (.t 22), none⟩,
             ⟨(some 24), .load false 1 (.t 23), none⟩,
             ⟨(some 25), .bin .neq (.t 20) (.t 24), none⟩] true)
           (.cond (.t 25)
            (.seq
             (.region [
               ⟨(some 4), .mv (.c (.bool false)), none⟩] false)
             .ret)
            .skip)))
         (.region [
           ⟨(some 15), .mv (.t 5), none⟩,
           ⟨(some 16), .bin .add (.t 15) (.c (.int .i64 1)), none⟩,
           ⟨(some 5), .mv (.t 16), none⟩] false))))))
    (.seq
     (.region [
       ⟨(some 4), .mv (.c (.bool true)), none⟩] false)
     .ret)))),
 [.t 4]⟩

/-- neume/neumeref27.Check -/
def lf17 : LFunc := ⟨30, 2,
 (.seq
  (.region [
    ⟨(some 4), .mv (.c (.bool false)), none⟩] false)
  (.seq
   (.seq
    (.region [
      ⟨(some 6), .mv (.t 1), none⟩,
      ⟨(some 7), .bin .lss (.t 6) (.c (.int .i64 0)), none⟩,
      ⟨(some 8), .mv (.t 7), none⟩,
      ⟨(some 9), .mv (.t 1), (some (8, false))⟩,
      ⟨(some 10), .bin .gtr (.t 9) (.c (.int .i64 4096)), (some (8, false))⟩,
      ⟨(some 11), .pick (.t 8) (.c (.bool true)) (.t 10), none⟩,
      ⟨(some 12), .mv (.t 11), none⟩,
      ⟨(some 13), .mv (.t 0), (some (12, false))⟩,
      ⟨(some 14), .len .sli (.t 13), (some (12, false))⟩,
      ⟨(some 15), .bin .gtr (.t 14) (.c (.int .i64 400000)), (some (12, false))⟩,
      ⟨(some 16), .pick (.t 12) (.c (.bool true)) (.t 15), none⟩] false)
    (.cond (.t 16)
     (.seq
      (.region [
        ⟨(some 4), .mv (.c (.bool false)), none⟩] false)
      .ret)
     .skip))
   (.seq
    (.seq
     (.region [
       ⟨(some 5), .mv (.c (.int .i64 0)), none⟩] false)
     (.block 0
      (.loop
       (.seq
        (.seq
         (.region [
           ⟨(some 17), .mv (.t 5), none⟩,
           ⟨(some 18), .mv (.t 0), none⟩,
           ⟨(some 19), .len .sli (.t 18), none⟩,
           ⟨(some 20), .bin .lss (.t 17) (.t 19), none⟩] false)
         (.cond (.t 20)
          .skip
          (.exit 0)))
        (.seq
         (.block 1
          (.seq
           (.region [
             ⟨(some 23), .mv (.t 0), none⟩,
             ⟨(some 24), .mv (.t 5), none⟩,
             ⟨(some 25), .idxa 3 (.t 23) (.t 24), none⟩,
             ⟨(some 26), .load true 3 (.t 25), none⟩,
             ⟨(some 27), .mv (.t 1), none⟩,
             ⟨(some 28), .call false (.c (.fn 27 [] [])) [.t 26, .t 27], none⟩,
             ⟨(some 29), .not (.t 28), none⟩] false)
           (.cond (.t 29)
            (.seq
             (.region [
               ⟨(some 4), .mv (.c (.bool false)), none⟩] false)
             .ret)
            .skip)))
         (.region [
           ⟨(some 21), .mv (.t 5), none⟩,
           ⟨(some 22), .bin .add (.t 21) (.c (.int .i64 1)), none⟩,
           ⟨(some 5), .mv (.t 22), none⟩] false))))))
    (.seq
     (.region [
       ⟨(some 4), .mv (.c (.bool true)), none⟩] false)
     .ret)))),
 [.t 4]⟩

/-- neume/rod.Holds -/
def lf18 : LFunc := ⟨18, 2,
 (.seq
  (.region [
    ⟨(some 3), .box 1 (.t 1), none⟩,
    ⟨(some 4), .mv (.c (.bool false)), none⟩] false)
  (.seq
   (.seq
    (.region [
      ⟨(some 5), .mv (.t 0), none⟩,
      ⟨(some 6), .load false 1 (.t 3), none⟩,
      ⟨(some 7), .len .sli (.t 6), none⟩,
      ⟨(some 8), .call false (.c (.fn 13 [] [])) [.t 5, .t 7], none⟩,
      ⟨(some 9), .not (.t 8), none⟩,
      ⟨(some 10), .mv (.t 9), none⟩,
      ⟨(some 11), .load false 1 (.t 3), (some (10, false))⟩,
      ⟨(some 12), .call false (.c (.fn 28 [] [])) [.t 11, .c (.fn 29 [] [])], (some (10, false))⟩,
      ⟨(some 13), .pick (.t 10) (.c (.bool true)) (.t 12), none⟩] false)
    (.cond (.t 13)
     (.seq
      (.region [
        ⟨(some 4), .mv (.c (.bool false)), none⟩] false)
      .ret)
     .skip))
   (.seq
    (.region [
      ⟨(some 14), .mv (.t 0), none⟩,
      ⟨(some 15), .mkfn 31 [] [.t 3], none⟩,
      ⟨(some 16), .call false (.c (.fn 30 [] [])) [.t 14, .t 15], none⟩,
      ⟨(some 17), .not (.t 16), none⟩,
      ⟨(some 4), .mv (.t 17), none⟩] false)
    .ret))),
 [.t 4]⟩

/-- neume/neumeref27.Holds -/
def lf19 : LFunc := ⟨59, 2,
 (.seq
  (.region [
    ⟨(some 4), .mv (.c (.bool false)), none⟩] false)
  (.seq
   (.seq
    (.region [
      ⟨(some 7), .mv (.t 0), none⟩,
      ⟨(some 8), .mv (.t 1), none⟩,
      ⟨(some 9), .len .sli (.t 8), none⟩,
      ⟨(some 10), .call false (.c (.fn 17 [] [])) [.t 7, .t 9], none⟩,
      ⟨(some 11), .not (.t 10), none⟩] false)
    (.cond (.t 11)
     (.seq
      (.region [
        ⟨(some 4), .mv (.c (.bool false)), none⟩] false)
      .ret)
     .skip))
   (.seq
    (.seq
     (.region [
       ⟨(some 5), .mv (.c (.int .i64 0)), none⟩] false)
     (.block 0
      (.loop
       (.seq
        (.seq
         (.region [
           ⟨(some 12), .mv (.t 5), none⟩,
           ⟨(some 13), .mv (.t 1), none⟩,
           ⟨(some 14), .len .sli (.t 13), none⟩,
           ⟨(some 15), .bin .lss (.t 12) (.t 14), none⟩] false)
         (.cond (.t 15)
          .skip
          (.exit 0)))
        (.seq
         (.block 1
          (.seq
           (.region [
             ⟨(some 18), .mv (.t 1), none⟩,
             ⟨(some 19), .mv (.t 5), none⟩,
             ⟨(some 20), .idxa 1 (.t 18) (.t 19), none⟩,
             ⟨(some 21), .load false 1 (.t 20), none⟩,
             ⟨(some 22), .bin .lss (.t 21) (.c (.int .i64 (-1125899906842624))), none⟩,
             ⟨(some 23), .mv (.t 22), none⟩,
             ⟨(some 24), .mv (.t 1), (some (23, false))⟩,
             ⟨(some 25), .mv (.t 5), (some (23, false))⟩,
             ⟨(some 26), .idxa 1 (.t 24) (.t 25), (some (23, false))⟩,
             ⟨(some 27), .load false 1 (.t 26), (some (23, false))⟩,
             ⟨(some 28), .bin .gtr (.t 27) (.c (.int .i64 1125899906842624)), (some (23, false))⟩,
             ⟨(some 29), .pick (.t 23) (.c (.bool true)) (.t 28), none⟩] false)
           (.cond (.t 29)
            (.seq
             (.region [
               ⟨(some 4), .mv (.c (.bool false)), none⟩] false)
             .ret)
            .skip)))
         (.region [
           ⟨(some 16), .mv (.t 5), none⟩,
           ⟨(some 17), .bin .add (.t 16) (.c (.int .i64 1)), none⟩,
           ⟨(some 5), .mv (.t 17), none⟩] false))))))
    (.seq
     (.seq
      (.region [
        ⟨(some 6), .mv (.c (.int .i64 0)), none⟩] false)
      (.block 2
       (.loop
        (.seq
         (.seq
          (.region [
            ⟨(some 30), .mv (.t 6), none⟩,
            ⟨(some 31), .mv (.t 0), none⟩,
            ⟨(some 32), .len .sli (.t 31), none⟩,
            ⟨(some 33), .bin .lss (.t 30) (.t 32), none⟩] false)
          (.cond (.t 33)
           .skip
           (.exit 2)))
         (.seq
          (.block 3
           (.seq
            (.region [
              ⟨(some 36), .mv (.t 1), none⟩,
              ⟨(some 37), .mv (.t 0), none⟩,
              ⟨(some 38), .mv (.t 6), none⟩,
              ⟨(some 39), .idxa 3 (.t 37) (.t 38), none⟩,
              ⟨(some 40), .fadr 1 (.t 39), none⟩,
              ⟨(some 41), .load false 1 (.t 40), none⟩,
              ⟨(some 42), .idxa 1 (.t 36) (.t 41), none⟩,
              ⟨(some 43), .load false 1 (.t 42), none⟩,
              ⟨(some 44), .mv (.t 1), none⟩,
              ⟨(some 45), .mv (.t 0), none⟩,
              ⟨(some 46), .mv (.t 6), none⟩,
              ⟨(some 47), .idxa 3 (.t 45) (.t 46), none⟩,
              ⟨(some 48), .fadr 0 (.t 47), none⟩,
              ⟨(some 49), .load false 1 (.t 48), none⟩,
              ⟨(some 50), .idxa 1 (.t 44) (.t 49), none⟩,
              ⟨(some 51), .load false 1 (.t 50), none⟩,
              ⟨(some 52), .bin .sub (.t 43) (.t 51), none⟩,
              ⟨(some 53), .mv (.t 0), none⟩,
              ⟨(some 54), .mv (.t 6), none⟩,
              ⟨(some 55), .idxa 3 (.t 53) (.t 54), none⟩,
              ⟨(some 56), .fadr 2 (.t 55), none⟩,
              ⟨(some 57), .load false 1 (.t 56), none⟩,
              ⟨(some 58), .bin .lss (.t 52) (.t 57), none⟩] true)
            (.cond (.t 58)
             (.seq
              (.region [
                ⟨(some 4), .mv (.c (.bool false)), none⟩] false)
              .ret)
             .skip)))
          (.region [
            ⟨(some 34), .mv (.t 6), none⟩,
            ⟨(some 35), .bin .add (.t 34) (.c (.int .i64 1)), none⟩,
            ⟨(some 6), .mv (.t 35), none⟩] false))))))
     (.seq
      (.region [
        ⟨(some 4), .mv (.c (.bool true)), none⟩] false)
      .ret))))),
 [.t 4]⟩

/-- neume/rod.Sure -/
def lf20 : LFunc := ⟨74, 1,
 (.seq
  (.region [
    ⟨(some 2), .mv (.c (.nils)), none⟩] false)
  (.seq
   (.region [
     ⟨(some 13), .mkmap, none⟩,
     ⟨(some 3), .mv (.t 13), none⟩] false)
   (.seq
    (.region [
      ⟨(some 4), .own 2, none⟩] false)
    (.seq
     (.seq
      (.region [
        ⟨(some 14), .mv (.t 0), none⟩,
        ⟨(some 15), .len .sli (.t 14), none⟩,
        ⟨(some 16), .mv (.c (.int .i64 0)), none⟩] false)
      (.block 0
       (.loop
        (.seq
         (.region [
           ⟨(some 17), .bin .lss (.t 16) (.t 15), none⟩] false)
         (.seq
          (.cond (.t 17)
           .skip
           (.exit 0))
          (.seq
           (.block 1
            (.seq
             (.region [
               ⟨(some 18), .idxa 3 (.t 14) (.t 16), none⟩,
               ⟨(some 19), .load true 3 (.t 18), none⟩,
               ⟨(some 6), .newv [.int .i64 0, .int .i64 0, .int .i64 0], none⟩,
               ⟨none, .store 3 (.t 6) (.t 19), none⟩] false)
             (.seq
              (.seq
               (.region [
                 ⟨(some 20), .fadr 0 (.t 6), none⟩,
                 ⟨(some 21), .load false 1 (.t 20), none⟩,
                 ⟨(some 22), .bin .lss (.t 21) (.c (.int .i64 0)), none⟩,
                 ⟨(some 23), .mv (.t 22), none⟩,
                 ⟨(some 24), .fadr 1 (.t 6), (some (23, false))⟩,
                 ⟨(some 25), .load false 1 (.t 24), (some (23, false))⟩,
                 ⟨(some 26), .fadr 0 (.t 6), (some (23, false))⟩,
                 ⟨(some 27), .load false 1 (.t 26), (some (23, false))⟩,
                 ⟨(some 28), .bin .leq (.t 25) (.t 27), (some (23, false))⟩,
                 ⟨(some 29), .pick (.t 23) (.c (.bool true)) (.t 28), none⟩] false)
               (.cond (.t 29)
                (.exit 1)
                .skip))
              (.seq
               (.region [
                 ⟨(some 30), .fadr 0 (.t 6), none⟩,
                 ⟨(some 31), .load false 1 (.t 30), none⟩,
                 ⟨(some 32), .fadr 1 (.t 6), none⟩,
                 ⟨(some 33), .load false 1 (.t 32), none⟩,
                 ⟨(some 34), .build [.int .i64 0, .int .i64 0] [(0, 1, .t 31), (1, 1, .t 33)], none⟩,
                 ⟨(some 7), .newv [.int .i64 0, .int .i64 0], none⟩,
                 ⟨none, .store 2 (.t 7) (.t 34), none⟩] false)
               (.seq
                (.seq
                 (.region [
                   ⟨(some 36), .mv (.t 3), none⟩,
                   ⟨(some 37), .load true 2 (.t 7), none⟩,
                   ⟨(some 38), .lookup true (.ag [.i, .i]) (.int .i64 0) (.t 36) (.t 37), none⟩,
                   ⟨(some 35), .mv (.t 38), none⟩,
                   ⟨(some 39), .extract (.t 35) 0, none⟩,
                   ⟨(some 40), .extract (.t 35) 1, none⟩,
                   ⟨(some 8), .mv (.t 39), none⟩,
                   ⟨(some 9), .mv (.t 40), none⟩] false)
                 (.seq
                  (.region [
                    ⟨(some 41), .mv (.t 9), none⟩,
                    ⟨(some 42), .not (.t 41), none⟩] false)
                  (.cond (.t 42)
                   (.region [
                     ⟨(some 43), .mv (.t 4), none⟩,
                     ⟨(some 44), .load true 2 (.t 7), none⟩,
                     ⟨(some 45), .btsl 2 1 [.int .i64 0, .int .i64 0] [(0, .t 44)], none⟩,
                     ⟨(some 46), .append 2 16 (.t 43) (.t 45), none⟩,
                     ⟨(some 4), .mv (.t 46), none⟩] false)
                   .skip)))
                (.region [
                  ⟨(some 47), .mv (.t 3), none⟩,
                  ⟨(some 48), .load true 2 (.t 7), none⟩,
                  ⟨(some 49), .fadr 2 (.t 6), none⟩,
                  ⟨(some 50), .load false 1 (.t 49), none⟩,
                  ⟨(some 51), .call false (.c (.fn 32 [] [])) [.t 47, .t 48, .t 50], none⟩] false))))))
           (.region [
             ⟨(some 52), .bin .add (.t 16) (.c (.int .i64 1)), none⟩,
             ⟨(some 16), .mv (.t 52), none⟩] false)))))))
     (.seq
      (.region [
        ⟨(some 53), .mv (.t 4), none⟩,
        ⟨(some 54), .call false (.c (.fn 33 [] [])) [.t 53, .c (.fn 34 [] [])], none⟩] false)
      (.seq
       (.region [
         ⟨(some 10), .own 3, none⟩] false)
       (.seq
        (.seq
         (.region [
           ⟨(some 55), .mv (.t 4), none⟩,
           ⟨(some 56), .len .sli (.t 55), none⟩,
           ⟨(some 57), .mv (.c (.int .i64 0)), none⟩] false)
         (.block 2
          (.loop
           (.seq
            (.region [
              ⟨(some 58), .bin .lss (.t 57) (.t 56), none⟩] false)
            (.seq
             (.cond (.t 58)
              .skip
              (.exit 2))
             (.seq
              (.block 3
               (.seq
                (.region [
                  ⟨(some 59), .idxa 2 (.t 55) (.t 57), none⟩,
                  ⟨(some 60), .load true 2 (.t 59), none⟩,
                  ⟨(some 12), .newv [.int .i64 0, .int .i64 0], none⟩,
                  ⟨none, .store 2 (.t 12) (.t 60), none⟩] false)
                (.region [
                  ⟨(some 61), .mv (.t 10), none⟩,
                  ⟨(some 62), .fadr 0 (.t 12), none⟩,
                  ⟨(some 63), .load false 1 (.t 62), none⟩,
                  ⟨(some 64), .fadr 1 (.t 12), none⟩,
                  ⟨(some 65), .load false 1 (.t 64), none⟩,
                  ⟨(some 66), .mv (.t 3), none⟩,
                  ⟨(some 67), .load true 2 (.t 12), none⟩,
                  ⟨(some 68), .lookup false (.ag [.i, .i]) (.int .i64 0) (.t 66) (.t 67), none⟩,
                  ⟨(some 69), .build [.int .i64 0, .int .i64 0, .int .i64 0] [(0, 1, .t 63), (1, 1, .t 65), (2, 1, .t 68)], none⟩,
                  ⟨(some 70), .btsl 3 1 [.int .i64 0, .int .i64 0, .int .i64 0] [(0, .t 69)], none⟩,
                  ⟨(some 71), .append 3 24 (.t 61) (.t 70), none⟩,
                  ⟨(some 10), .mv (.t 71), none⟩] true)))
              (.region [
                ⟨(some 72), .bin .add (.t 57) (.c (.int .i64 1)), none⟩,
                ⟨(some 57), .mv (.t 72), none⟩] false)))))))
        (.seq
         (.region [
           ⟨(some 73), .mv (.t 10), none⟩,
           ⟨(some 2), .mv (.t 73), none⟩] false)
         .ret)))))))),
 [.t 2]⟩

/-- neume/neumeref27.Sure -/
def lf21 : LFunc := ⟨125, 1,
 (.seq
  (.region [
    ⟨(some 2), .mv (.c (.nils)), none⟩] false)
  (.seq
   (.region [
     ⟨(some 3), .own 3, none⟩] false)
   (.seq
    (.seq
     (.region [
       ⟨(some 4), .mv (.c (.int .i64 0)), none⟩] false)
     (.block 0
      (.loop
       (.seq
        (.seq
         (.region [
           ⟨(some 8), .mv (.t 4), none⟩,
           ⟨(some 9), .mv (.t 0), none⟩,
           ⟨(some 10), .len .sli (.t 9), none⟩,
           ⟨(some 11), .bin .lss (.t 8) (.t 10), none⟩] false)
         (.cond (.t 11)
          .skip
          (.exit 0)))
        (.seq
         (.block 1
          (.seq
           (.region [
             ⟨(some 14), .mv (.t 0), none⟩,
             ⟨(some 15), .mv (.t 4), none⟩,
             ⟨(some 16), .idxa 3 (.t 14) (.t 15), none⟩,
             ⟨(some 17), .load true 3 (.t 16), none⟩,
             ⟨(some 5), .newv [.int .i64 0, .int .i64 0, .int .i64 0], none⟩,
             ⟨none, .store 3 (.t 5) (.t 17), none⟩] false)
           (.seq
            (.seq
             (.region [
               ⟨(some 18), .fadr 0 (.t 5), none⟩,
               ⟨(some 19), .load false 1 (.t 18), none⟩,
               ⟨(some 20), .bin .lss (.t 19) (.c (.int .i64 0)), none⟩,
               ⟨(some 21), .mv (.t 20), none⟩,
               ⟨(some 22), .fadr 1 (.t 5), (some (21, false))⟩,
               ⟨(some 23), .load false 1 (.t 22), (some (21, false))⟩,
               ⟨(some 24), .fadr 0 (.t 5), (some (21, false))⟩,
               ⟨(some 25), .load false 1 (.t 24), (some (21, false))⟩,
               ⟨(some 26), .bin .leq (.t 23) (.t 25), (some (21, false))⟩,
               ⟨(some 27), .pick (.t 21) (.c (.bool true)) (.t 26), none⟩] false)
             (.cond (.t 27)
              (.exit 1)
              .skip))
            (.seq
             (.region [
               ⟨(some 6), .mv (.c (.int .i64 0)), none⟩] false)
             (.seq
              (.block 2
               (.loop
                (.seq
                 (.seq
                  (.region [
                    ⟨(some 28), .mv (.t 6), none⟩,
                    ⟨(some 29), .mv (.t 3), none⟩,
                    ⟨(some 30), .len .sli (.t 29), none⟩,
                    ⟨(some 31), .bin .lss (.t 28) (.t 30), none⟩,
                    ⟨(some 32), .mv (.t 31), none⟩,
                    ⟨(some 33), .mv (.t 3), (some (32, true))⟩,
                    ⟨(some 34), .mv (.t 6), (some (32, true))⟩,
                    ⟨(some 35), .idxa 3 (.t 33) (.t 34), (some (32, true))⟩,
                    ⟨(some 36), .fadr 0 (.t 35), (some (32, true))⟩,
                    ⟨(some 37), .load false 1 (.t 36), (some (32, true))⟩,
                    ⟨(some 38), .fadr 0 (.t 5), (some (32, true))⟩,
                    ⟨(some 39), .load false 1 (.t 38), (some (32, true))⟩,
                    ⟨(some 40), .bin .lss (.t 37) (.t 39), (some (32, true))⟩,
                    ⟨(some 41), .mv (.t 40), (some (32, true))⟩,
                    ⟨(some 42), .mv (.t 3), (some (41, false))⟩,
                    ⟨(some 43), .mv (.t 6), (some (41, false))⟩,
                    ⟨(some 44), .idxa 3 (.t 42) (.t 43), (some (41, false))⟩,
                    ⟨(some 45), .fadr 0 (.t 44), (some (41, false))⟩,
                    ⟨(some 46), .load false 1 (.t 45), (some (41, false))⟩,
                    ⟨(some 47), .fadr 0 (.t 5), (some (41, false))⟩,
                    ⟨(some 48), .load false 1 (.t 47), (some (41, false))⟩,
                    ⟨(some 49), .bin .eql (.t 46) (.t 48), (some (41, false))⟩,
                    ⟨(some 50), .mv (.t 49), (some (41, false))⟩,
                    ⟨(some 51), .mv (.t 3), (some (50, true))⟩,
                    ⟨(some 52), .mv (.t 6), (some (50, true))⟩,
                    ⟨(some 53), .idxa 3 (.t 51) (.t 52), (some (50, true))⟩,
                    ⟨(some 54), .fadr 1 (.t 53), (some (50, true))⟩,
                    ⟨(some 55), .load false 1 (.t 54), (some (50, true))⟩,
                    ⟨(some 56), .fadr 1 (.t 5), (some (50, true))⟩,
                    ⟨(some 57), .load false 1 (.t 56), (some (50, true))⟩,
                    ⟨(some 58), .bin .lss (.t 55) (.t 57), (some (50, true))⟩,
                    ⟨(some 59), .pick (.t 50) (.t 58) (.c (.bool false)), (some (41, false))⟩,
                    ⟨(some 60), .pick (.t 41) (.c (.bool true)) (.t 59), (some (32, true))⟩,
                    ⟨(some 61), .pick (.t 32) (.t 60) (.c (.bool false)), none⟩] true)
                  (.cond (.t 61)
                   .skip
                   (.exit 2)))
                 (.block 3
                  (.region [
                    ⟨(some 62), .mv (.t 6), none⟩,
                    ⟨(some 63), .bin .add (.t 62) (.c (.int .i64 1)), none⟩,
                    ⟨(some 6), .mv (.t 63), none⟩] false)))))
              (.seq
               (.seq
                (.region [
                  ⟨(some 64), .mv (.t 6), none⟩,
                  ⟨(some 65), .mv (.t 3), none⟩,
                  ⟨(some 66), .len .sli (.t 65), none⟩,
                  ⟨(some 67), .bin .lss (.t 64) (.t 66), none⟩,
                  ⟨(some 68), .mv (.t 67), none⟩,
                  ⟨(some 69), .mv (.t 3), (some (68, true))⟩,
                  ⟨(some 70), .mv (.t 6), (some (68, true))⟩,
                  ⟨(some 71), .idxa 3 (.t 69) (.t 70), (some (68, true))⟩,
                  ⟨(some 72), .fadr 0 (.t 71), (some (68, true))⟩,
                  ⟨(some 73), .load false 1 (.t 72), (some (68, true))⟩,
                  ⟨(some 74), .fadr 0 (.t 5), (some (68, true))⟩,
                  ⟨(some 75), .load false 1 (.t 74), (some (68, true))⟩,
                  ⟨(some 76), .bin .eql (.t 73) (.t 75), (some (68, true))⟩,
                  ⟨(some 77), .pick (.t 68) (.t 76) (.c (.bool false)), none⟩,
                  ⟨(some 78), .mv (.t 77), none⟩,
                  ⟨(some 79), .mv (.t 3), (some (78, true))⟩,
                  ⟨(some 80), .mv (.t 6), (some (78, true))⟩,
                  ⟨(some 81), .idxa 3 (.t 79) (.t 80), (some (78, true))⟩,
                  ⟨(some 82), .fadr 1 (.t 81), (some (78, true))⟩,
                  ⟨(some 83), .load false 1 (.t 82), (some (78, true))⟩,
                  ⟨(some 84), .fadr 1 (.t 5), (some (78, true))⟩,
                  ⟨(some 85), .load false 1 (.t 84), (some (78, true))⟩,
                  ⟨(some 86), .bin .eql (.t 83) (.t 85), (some (78, true))⟩,
                  ⟨(some 87), .pick (.t 78) (.t 86) (.c (.bool false)), none⟩] true)
                (.cond (.t 87)
                 (.seq
                  (.region [
                    ⟨(some 88), .mv (.t 3), none⟩,
                    ⟨(some 89), .mv (.t 6), none⟩,
                    ⟨(some 90), .mv (.t 3), none⟩,
                    ⟨(some 91), .mv (.t 6), none⟩,
                    ⟨(some 92), .idxa 3 (.t 90) (.t 91), none⟩,
                    ⟨(some 93), .fadr 2 (.t 92), none⟩,
                    ⟨(some 94), .load false 1 (.t 93), none⟩,
                    ⟨(some 95), .fadr 2 (.t 5), none⟩,
                    ⟨(some 96), .load false 1 (.t 95), none⟩,
                    ⟨(some 97), .maxs [.t 94, .t 96], none⟩,
                    ⟨(some 98), .idxa 3 (.t 88) (.t 89), none⟩,
                    ⟨(some 99), .fadr 2 (.t 98), none⟩,
                    ⟨none, .store 1 (.t 99) (.t 97), none⟩] true)
                  (.exit 1))
                 .skip))
               (.seq
                (.region [
                  ⟨(some 100), .mv (.t 3), none⟩,
                  ⟨(some 101), .load true 3 (.t 5), none⟩,
                  ⟨(some 102), .btsl 3 1 [.int .i64 0, .int .i64 0, .int .i64 0] [(0, .t 101)], none⟩,
                  ⟨(some 103), .append 3 24 (.t 100) (.t 102), none⟩,
                  ⟨(some 3), .mv (.t 103), none⟩] false)
                (.seq
                 (.seq
                  (.region [
                    ⟨(some 104), .mv (.t 3), none⟩,
                    ⟨(some 105), .len .sli (.t 104), none⟩,
                    ⟨(some 106), .bin .sub (.t 105) (.c (.int .i64 1)), none⟩,
                    ⟨(some 7), .mv (.t 106), none⟩] false)
                  (.block 4
                   (.loop
                    (.seq
                     (.seq
                      (.region [
                        ⟨(some 107), .mv (.t 7), none⟩,
                        ⟨(some 108), .mv (.t 6), none⟩,
                        ⟨(some 109), .bin .gtr (.t 107) (.t 108), none⟩] false)
                      (.cond (.t 109)
                       .skip
                       (.exit 4)))
                     (.seq
                      (.block 5
                       (.region [
                         ⟨(some 112), .mv (.t 3), none⟩,
                         ⟨(some 113), .mv (.t 7), none⟩,
                         ⟨(some 114), .mv (.t 3), none⟩,
                         ⟨(some 115), .mv (.t 7), none⟩,
                         ⟨(some 116), .bin .sub (.t 115) (.c (.int .i64 1)), none⟩,
                         ⟨(some 117), .idxa 3 (.t 114) (.t 116), none⟩,
                         ⟨(some 118), .load true 3 (.t 117), none⟩,
                         ⟨(some 119), .idxa 3 (.t 112) (.t 113), none⟩,
                         ⟨none, .store 3 (.t 119) (.t 118), none⟩] false))
                      (.region [
                        ⟨(some 110), .mv (.t 7), none⟩,
                        ⟨(some 111), .bin .sub (.t 110) (.c (.int .i64 1)), none⟩,
                        ⟨(some 7), .mv (.t 111), none⟩] false))))))
                 (.region [
                   ⟨(some 120), .mv (.t 3), none⟩,
                   ⟨(some 121), .mv (.t 6), none⟩,
                   ⟨(some 122), .load true 3 (.t 5), none⟩,
                   ⟨(some 123), .idxa 3 (.t 120) (.t 121), none⟩,
                   ⟨none, .store 3 (.t 123) (.t 122), none⟩] false)))))))))
         (.region [
           ⟨(some 12), .mv (.t 4), none⟩,
           ⟨(some 13), .bin .add (.t 12) (.c (.int .i64 1)), none⟩,
           ⟨(some 4), .mv (.t 13), none⟩] false))))))
    (.seq
     (.region [
       ⟨(some 124), .mv (.t 3), none⟩,
       ⟨(some 2), .mv (.t 124), none⟩] false)
     .ret)))),
 [.t 2]⟩

/-- neume/rod.fits -/
def lf22 : LFunc := ⟨46, 1,
 (.seq
  (.region [
    ⟨(some 2), .mv (.c (.bool false)), none⟩] false)
  (.seq
   (.seq
    (.region [
      ⟨(some 7), .mv (.t 0), none⟩,
      ⟨(some 8), .len .sli (.t 7), none⟩,
      ⟨(some 9), .bin .gtr (.t 8) (.c (.int .i64 100)), none⟩] false)
    (.cond (.t 9)
     (.seq
      (.region [
        ⟨(some 2), .mv (.c (.bool false)), none⟩] false)
      .ret)
     .skip))
   (.seq
    (.seq
     (.region [
       ⟨(some 10), .mv (.t 0), none⟩,
       ⟨(some 11), .len .sli (.t 10), none⟩,
       ⟨(some 12), .mv (.c (.int .i64 0)), none⟩] false)
     (.block 0
      (.loop
       (.seq
        (.region [
          ⟨(some 13), .bin .lss (.t 12) (.t 11), none⟩] false)
        (.seq
         (.cond (.t 13)
          .skip
          (.exit 0))
         (.seq
          (.block 1
           (.seq
            (.region [
              ⟨(some 14), .idxa 1 (.t 10) (.t 12), none⟩,
              ⟨(some 15), .load false 1 (.t 14), none⟩,
              ⟨(some 4), .mv (.t 15), none⟩] false)
            (.seq
             (.seq
              (.region [
                ⟨(some 16), .mv (.t 4), none⟩,
                ⟨(some 17), .len .sli (.t 16), none⟩,
                ⟨(some 18), .bin .gtr (.t 17) (.c (.int .i64 4096)), none⟩,
                ⟨(some 19), .mv (.t 18), none⟩,
                ⟨(some 20), .mv (.t 4), (some (19, false))⟩,
                ⟨(some 21), .len .sli (.t 20), (some (19, false))⟩,
                ⟨(some 22), .mv (.t 0), (some (19, false))⟩,
                ⟨(some 23), .idxa 1 (.t 22) (.c (.int .i64 0)), (some (19, false))⟩,
                ⟨(some 24), .load false 1 (.t 23), (some (19, false))⟩,
                ⟨(some 25), .len .sli (.t 24), (some (19, false))⟩,
                ⟨(some 26), .bin .neq (.t 21) (.t 25), (some (19, false))⟩,
                ⟨(some 27), .pick (.t 19) (.c (.bool true)) (.t 26), none⟩] false)
              (.cond (.t 27)
               (.seq
                (.region [
                  ⟨(some 2), .mv (.c (.bool false)), none⟩] false)
                .ret)
               .skip))
             (.seq
              (.region [
                ⟨(some 28), .mv (.t 4), none⟩,
                ⟨(some 29), .len .sli (.t 28), none⟩,
                ⟨(some 30), .mv (.c (.int .i64 0)), none⟩] false)
              (.block 2
               (.loop
                (.seq
                 (.region [
                   ⟨(some 31), .bin .lss (.t 30) (.t 29), none⟩] false)
                 (.seq
                  (.cond (.t 31)
                   .skip
                   (.exit 2))
                  (.seq
                   (.block 3
                    (.seq
                     (.region [
                       ⟨(some 32), .idxa 3 (.t 28) (.t 30), none⟩,
                       ⟨(some 33), .load true 3 (.t 32), none⟩,
                       ⟨(some 6), .newv [.bool false, .int .i64 0, .int .i64 0], none⟩,
                       ⟨none, .store 3 (.t 6) (.t 33), none⟩] false)
                     (.seq
                      (.region [
                        ⟨(some 34), .fadr 1 (.t 6), none⟩,
                        ⟨(some 35), .load false 1 (.t 34), none⟩,
                        ⟨(some 36), .call false (.c (.fn 23 [] [])) [.t 35, .c (.int .i64 (-1073741824)), .c (.int .i64 1073741824)], none⟩,
                        ⟨(some 37), .not (.t 36), none⟩,
                        ⟨(some 38), .mv (.t 37), none⟩,
                        ⟨(some 39), .fadr 2 (.t 6), (some (38, false))⟩,
                        ⟨(some 40), .load false 1 (.t 39), (some (38, false))⟩,
                        ⟨(some 41), .call false (.c (.fn 23 [] [])) [.t 40, .c (.int .i64 (-1073741824)), .c (.int .i64 1073741824)], (some (38, false))⟩,
                        ⟨(some 42), .not (.t 41), (some (38, false))⟩,
                        ⟨(some 43), .pick (.t 38) (.c (.bool true)) (.t 42), none⟩] false)
                      (.cond (.t 43)
                       (.seq
                        (.region [
                          ⟨(some 2), .mv (.c (.bool false)), none⟩] false)
                        .ret)
                       .skip))))
                   (.region [
                     ⟨(some 44), .bin .add (.t 30) (.c (.int .i64 1)), none⟩,
                     ⟨(some 30), .mv (.t 44), none⟩] false))))))))))
          (.region [
            ⟨(some 45), .bin .add (.t 12) (.c (.int .i64 1)), none⟩,
            ⟨(some 12), .mv (.t 45), none⟩] false)))))))
    (.seq
     (.region [
       ⟨(some 2), .mv (.c (.bool true)), none⟩] false)
     .ret)))),
 [.t 2]⟩

/-- neume/rod.within -/
def lf23 : LFunc := ⟨15, 3,
 (.seq
  (.region [
    ⟨(some 6), .mv (.c (.bool false)), none⟩] false)
  (.seq
   (.region [
     ⟨(some 7), .mv (.t 1), none⟩,
     ⟨(some 8), .mv (.t 0), none⟩,
     ⟨(some 9), .bin .leq (.t 7) (.t 8), none⟩,
     ⟨(some 10), .mv (.t 9), none⟩,
     ⟨(some 11), .mv (.t 0), (some (10, true))⟩,
     ⟨(some 12), .mv (.t 2), (some (10, true))⟩,
     ⟨(some 13), .bin .leq (.t 11) (.t 12), (some (10, true))⟩,
     ⟨(some 14), .pick (.t 10) (.t 13) (.c (.bool false)), none⟩,
     ⟨(some 6), .mv (.t 14), none⟩] false)
   .ret)),
 [.t 6]⟩

/-- neume/rod.row -/
def lf24 : LFunc := ⟨44, 2,
 (.seq
  (.region [
    ⟨(some 4), .mv (.c (.nils)), none⟩] false)
  (.seq
   (.region [
     ⟨(some 5), .own 3, none⟩] false)
   (.seq
    (.region [
      ⟨(some 6), .mv (.c (.int .i64 (-1))), none⟩] false)
    (.seq
     (.seq
      (.region [
        ⟨(some 10), .mv (.t 0), none⟩,
        ⟨(some 11), .len .sli (.t 10), none⟩,
        ⟨(some 12), .mv (.c (.int .i64 0)), none⟩] false)
      (.block 0
       (.loop
        (.seq
         (.region [
           ⟨(some 13), .bin .lss (.t 12) (.t 11), none⟩] false)
         (.seq
          (.cond (.t 13)
           .skip
           (.exit 0))
          (.seq
           (.block 1
            (.seq
             (.region [
               ⟨(some 14), .mv (.t 12), none⟩,
               ⟨(some 15), .idxa 3 (.t 10) (.t 12), none⟩,
               ⟨(some 16), .load true 3 (.t 15), none⟩,
               ⟨(some 8), .newv [.bool false, .int .i64 0, .int .i64 0], none⟩,
               ⟨(some 7), .mv (.t 14), none⟩,
               ⟨none, .store 3 (.t 8) (.t 16), none⟩] false)
             (.seq
              (.seq
               (.region [
                 ⟨(some 17), .fadr 0 (.t 8), none⟩,
                 ⟨(some 18), .load false 1 (.t 17), none⟩,
                 ⟨(some 19), .not (.t 18), none⟩] false)
               (.cond (.t 19)
                (.exit 1)
                .skip))
              (.seq
               (.seq
                (.region [
                  ⟨(some 20), .mv (.t 6), none⟩,
                  ⟨(some 21), .bin .geq (.t 20) (.c (.int .i64 0)), none⟩] false)
                (.cond (.t 21)
                 (.seq
                  (.region [
                    ⟨(some 22), .mv (.t 0), none⟩,
                    ⟨(some 23), .mv (.t 6), none⟩,
                    ⟨(some 24), .idxa 3 (.t 22) (.t 23), none⟩,
                    ⟨(some 25), .fadr 2 (.t 24), none⟩,
                    ⟨(some 26), .load false 1 (.t 25), none⟩,
                    ⟨(some 27), .fadr 1 (.t 8), none⟩,
                    ⟨(some 28), .load false 1 (.t 27), none⟩,
                    ⟨(some 29), .bin .sub (.t 26) (.t 28), none⟩,
                    ⟨(some 30), .mv (.t 1), none⟩,
                    ⟨(some 31), .bin .add (.t 29) (.t 30), none⟩,
                    ⟨(some 9), .mv (.t 31), none⟩] true)
                  (.region [
                    ⟨(some 32), .mv (.t 5), none⟩,
                    ⟨(some 33), .mv (.t 6), none⟩,
                    ⟨(some 34), .mv (.t 7), none⟩,
                    ⟨(some 35), .mv (.t 9), none⟩,
                    ⟨(some 36), .mins [.c (.int .i64 1073741824), .t 35], none⟩,
                    ⟨(some 37), .maxs [.c (.int .i64 1), .t 36], none⟩,
                    ⟨(some 38), .build [.int .i64 0, .int .i64 0, .int .i64 0] [(0, 1, .t 33), (1, 1, .t 34), (2, 1, .t 37)], none⟩,
                    ⟨(some 39), .btsl 3 1 [.int .i64 0, .int .i64 0, .int .i64 0] [(0, .t 38)], none⟩,
                    ⟨(some 40), .append 3 24 (.t 32) (.t 39), none⟩,
                    ⟨(some 5), .mv (.t 40), none⟩] false))
                 .skip))
               (.region [
                 ⟨(some 41), .mv (.t 7), none⟩,
                 ⟨(some 6), .mv (.t 41), none⟩] false)))))
           (.region [
             ⟨(some 42), .bin .add (.t 12) (.c (.int .i64 1)), none⟩,
             ⟨(some 12), .mv (.t 42), none⟩] false)))))))
     (.seq
      (.region [
        ⟨(some 43), .mv (.t 5), none⟩,
        ⟨(some 4), .mv (.t 43), none⟩] false)
      .ret))))),
 [.t 4]⟩

/-- neume/neumeref27.fits -/
def lf25 : LFunc := ⟨50, 1,
 (.seq
  (.region [
    ⟨(some 2), .mv (.c (.bool false)), none⟩] false)
  (.seq
   (.seq
    (.region [
      ⟨(some 5), .mv (.t 0), none⟩,
      ⟨(some 6), .len .sli (.t 5), none⟩,
      ⟨(some 7), .bin .gtr (.t 6) (.c (.int .i64 100)), none⟩] false)
    (.cond (.t 7)
     (.seq
      (.region [
        ⟨(some 2), .mv (.c (.bool false)), none⟩] false)
      .ret)
     .skip))
   (.seq
    (.seq
     (.region [
       ⟨(some 3), .mv (.c (.int .i64 0)), none⟩] false)
     (.block 0
      (.loop
       (.seq
        (.seq
         (.region [
           ⟨(some 8), .mv (.t 3), none⟩,
           ⟨(some 9), .mv (.t 0), none⟩,
           ⟨(some 10), .len .sli (.t 9), none⟩,
           ⟨(some 11), .bin .lss (.t 8) (.t 10), none⟩] false)
         (.cond (.t 11)
          .skip
          (.exit 0)))
        (.seq
         (.block 1
          (.seq
           (.seq
            (.region [
              ⟨(some 14), .mv (.t 0), none⟩,
              ⟨(some 15), .mv (.t 3), none⟩,
              ⟨(some 16), .idxa 1 (.t 14) (.t 15), none⟩,
              ⟨(some 17), .load false 1 (.t 16), none⟩,
              ⟨(some 18), .len .sli (.t 17), none⟩,
              ⟨(some 19), .bin .gtr (.t 18) (.c (.int .i64 4096)), none⟩,
              ⟨(some 20), .mv (.t 19), none⟩,
              ⟨(some 21), .mv (.t 0), (some (20, false))⟩,
              ⟨(some 22), .mv (.t 3), (some (20, false))⟩,
              ⟨(some 23), .idxa 1 (.t 21) (.t 22), (some (20, false))⟩,
              ⟨(some 24), .load false 1 (.t 23), (some (20, false))⟩,
              ⟨(some 25), .len .sli (.t 24), (some (20, false))⟩,
              ⟨(some 26), .mv (.t 0), (some (20, false))⟩,
              ⟨(some 27), .idxa 1 (.t 26) (.c (.int .i64 0)), (some (20, false))⟩,
              ⟨(some 28), .load false 1 (.t 27), (some (20, false))⟩,
              ⟨(some 29), .len .sli (.t 28), (some (20, false))⟩,
              ⟨(some 30), .bin .neq (.t 25) (.t 29), (some (20, false))⟩,
              ⟨(some 31), .pick (.t 20) (.c (.bool true)) (.t 30), none⟩] true)
            (.cond (.t 31)
             (.seq
              (.region [
                ⟨(some 2), .mv (.c (.bool false)), none⟩] false)
              .ret)
             .skip))
           (.seq
            (.region [
              ⟨(some 4), .mv (.c (.int .i64 0)), none⟩] false)
            (.block 2
             (.loop
              (.seq
               (.seq
                (.region [
                  ⟨(some 32), .mv (.t 4), none⟩,
                  ⟨(some 33), .mv (.t 0), none⟩,
                  ⟨(some 34), .mv (.t 3), none⟩,
                  ⟨(some 35), .idxa 1 (.t 33) (.t 34), none⟩,
                  ⟨(some 36), .load false 1 (.t 35), none⟩,
                  ⟨(some 37), .len .sli (.t 36), none⟩,
                  ⟨(some 38), .bin .lss (.t 32) (.t 37), none⟩] false)
                (.cond (.t 38)
                 .skip
                 (.exit 2)))
               (.seq
                (.block 3
                 (.seq
                  (.region [
                    ⟨(some 41), .mv (.t 0), none⟩,
                    ⟨(some 42), .mv (.t 3), none⟩,
                    ⟨(some 43), .idxa 1 (.t 41) (.t 42), none⟩,
                    ⟨(some 44), .load false 1 (.t 43), none⟩,
                    ⟨(some 45), .mv (.t 4), none⟩,
                    ⟨(some 46), .idxa 3 (.t 44) (.t 45), none⟩,
                    ⟨(some 47), .load true 3 (.t 46), none⟩,
                    ⟨(some 48), .call false (.c (.fn 37 [] [])) [.t 47], none⟩,
                    ⟨(some 49), .not (.t 48), none⟩] false)
                  (.cond (.t 49)
                   (.seq
                    (.region [
                      ⟨(some 2), .mv (.c (.bool false)), none⟩] false)
                    .ret)
                   .skip)))
                (.region [
                  ⟨(some 39), .mv (.t 4), none⟩,
                  ⟨(some 40), .bin .add (.t 39) (.c (.int .i64 1)), none⟩,
                  ⟨(some 4), .mv (.t 40), none⟩] false))))))))
         (.region [
           ⟨(some 12), .mv (.t 3), none⟩,
           ⟨(some 13), .bin .add (.t 12) (.c (.int .i64 1)), none⟩,
           ⟨(some 3), .mv (.t 13), none⟩] false))))))
    (.seq
     (.region [
       ⟨(some 2), .mv (.c (.bool true)), none⟩] false)
     .ret)))),
 [.t 2]⟩

/-- neume/rod.by -/
def lf26 : LFunc := ⟨30, 2,
 (.seq
  (.region [
    ⟨(some 4), .mv (.c (.nils)), none⟩] false)
  (.seq
   (.region [
     ⟨(some 8), .mv (.t 1), none⟩,
     ⟨(some 9), .mksl 1 [.nils] 24 (.t 8) (.t 8), none⟩,
     ⟨(some 5), .mv (.t 9), none⟩] false)
   (.seq
    (.seq
     (.region [
       ⟨(some 10), .mv (.t 0), none⟩,
       ⟨(some 11), .len .sli (.t 10), none⟩,
       ⟨(some 12), .mv (.c (.int .i64 0)), none⟩] false)
     (.block 0
      (.loop
       (.seq
        (.region [
          ⟨(some 13), .bin .lss (.t 12) (.t 11), none⟩] false)
        (.seq
         (.cond (.t 13)
          .skip
          (.exit 0))
         (.seq
          (.block 1
           (.seq
            (.region [
              ⟨(some 14), .idxa 3 (.t 10) (.t 12), none⟩,
              ⟨(some 15), .load true 3 (.t 14), none⟩,
              ⟨(some 7), .newv [.int .i64 0, .int .i64 0, .int .i64 0], none⟩,
              ⟨none, .store 3 (.t 7) (.t 15), none⟩] false)
            (.region [
              ⟨(some 16), .mv (.t 5), none⟩,
              ⟨(some 17), .fadr 1 (.t 7), none⟩,
              ⟨(some 18), .load false 1 (.t 17), none⟩,
              ⟨(some 19), .mv (.t 5), none⟩,
              ⟨(some 20), .fadr 1 (.t 7), none⟩,
              ⟨(some 21), .load false 1 (.t 20), none⟩,
              ⟨(some 22), .idxa 1 (.t 19) (.t 21), none⟩,
              ⟨(some 23), .load false 1 (.t 22), none⟩,
              ⟨(some 24), .load true 3 (.t 7), none⟩,
              ⟨(some 25), .btsl 3 1 [.int .i64 0, .int .i64 0, .int .i64 0] [(0, .t 24)], none⟩,
              ⟨(some 26), .append 3 24 (.t 23) (.t 25), none⟩,
              ⟨(some 27), .idxa 1 (.t 16) (.t 18), none⟩,
              ⟨none, .store 1 (.t 27) (.t 26), none⟩] true)))
          (.region [
            ⟨(some 28), .bin .add (.t 12) (.c (.int .i64 1)), none⟩,
            ⟨(some 12), .mv (.t 28), none⟩] false)))))))
    (.seq
     (.region [
       ⟨(some 29), .mv (.t 5), none⟩,
       ⟨(some 4), .mv (.t 29), none⟩] false)
     .ret)))),
 [.t 4]⟩

/-- neume/neumeref27.rod -/
def lf27 : LFunc := ⟨31, 2,
 (.seq
  (.region [
    ⟨(some 2), .box 3 (.t 0), none⟩,
    ⟨(some 4), .mv (.c (.bool false)), none⟩] false)
  (.seq
   (.region [
     ⟨(some 5), .fadr 0 (.t 2), none⟩,
     ⟨(some 6), .load false 1 (.t 5), none⟩,
     ⟨(some 7), .bin .geq (.t 6) (.c (.int .i64 0)), none⟩,
     ⟨(some 8), .mv (.t 7), none⟩,
     ⟨(some 9), .fadr 1 (.t 2), (some (8, true))⟩,
     ⟨(some 10), .load false 1 (.t 9), (some (8, true))⟩,
     ⟨(some 11), .fadr 0 (.t 2), (some (8, true))⟩,
     ⟨(some 12), .load false 1 (.t 11), (some (8, true))⟩,
     ⟨(some 13), .bin .gtr (.t 10) (.t 12), (some (8, true))⟩,
     ⟨(some 14), .pick (.t 8) (.t 13) (.c (.bool false)), none⟩,
     ⟨(some 15), .mv (.t 14), none⟩,
     ⟨(some 16), .fadr 1 (.t 2), (some (15, true))⟩,
     ⟨(some 17), .load false 1 (.t 16), (some (15, true))⟩,
     ⟨(some 18), .mv (.t 1), (some (15, true))⟩,
     ⟨(some 19), .bin .lss (.t 17) (.t 18), (some (15, true))⟩,
     ⟨(some 20), .pick (.t 15) (.t 19) (.c (.bool false)), none⟩,
     ⟨(some 21), .mv (.t 20), none⟩,
     ⟨(some 22), .fadr 2 (.t 2), (some (21, true))⟩,
     ⟨(some 23), .load false 1 (.t 22), (some (21, true))⟩,
     ⟨(some 24), .bin .geq (.t 23) (.c (.int .i64 1)), (some (21, true))⟩,
     ⟨(some 25), .pick (.t 21) (.t 24) (.c (.bool false)), none⟩,
     ⟨(some 26), .mv (.t 25), none⟩,
     ⟨(some 27), .fadr 2 (.t 2), (some (26, true))⟩,
     ⟨(some 28), .load false 1 (.t 27), (some (26, true))⟩,
     ⟨(some 29), .bin .leq (.t 28) (.c (.int .i64 1073741824)), (some (26, true))⟩,
     ⟨(some 30), .pick (.t 26) (.t 29) (.c (.bool false)), none⟩,
     ⟨(some 4), .mv (.t 30), none⟩] false)
   .ret)),
 [.t 4]⟩

/-- slices.ContainsFunc[[]int,int] -/
def lf28 : LFunc := ⟨9, 2,
 (.seq
  (.region [
    ⟨(some 4), .mv (.c (.bool false)), none⟩] false)
  (.seq
   (.region [
     ⟨(some 5), .mv (.t 0), none⟩,
     ⟨(some 6), .mv (.t 1), none⟩,
     ⟨(some 7), .call false (.c (.fn 38 [] [])) [.t 5, .t 6], none⟩,
     ⟨(some 8), .bin .geq (.t 7) (.c (.int .i64 0)), none⟩,
     ⟨(some 4), .mv (.t 8), none⟩] false)
   .ret)),
 [.t 4]⟩

/-- neume/rod.Holds literal 1 -/
def lf29 : LFunc := ⟨6, 1,
 (.seq
  (.region [
    ⟨(some 2), .mv (.c (.bool false)), none⟩] false)
  (.seq
   (.region [
     ⟨(some 3), .mv (.t 0), none⟩,
     ⟨(some 4), .call false (.c (.fn 23 [] [])) [.t 3, .c (.int .i64 (-1125899906842624)), .c (.int .i64 1125899906842624)], none⟩,
     ⟨(some 5), .not (.t 4), none⟩,
     ⟨(some 2), .mv (.t 5), none⟩] false)
   .ret)),
 [.t 2]⟩

/-- slices.ContainsFunc[[]neume/api.Rod,neume/api.Rod] -/
def lf30 : LFunc := ⟨9, 2,
 (.seq
  (.region [
    ⟨(some 4), .mv (.c (.bool false)), none⟩] false)
  (.seq
   (.region [
     ⟨(some 5), .mv (.t 0), none⟩,
     ⟨(some 6), .mv (.t 1), none⟩,
     ⟨(some 7), .call false (.c (.fn 39 [] [])) [.t 5, .t 6], none⟩,
     ⟨(some 8), .bin .geq (.t 7) (.c (.int .i64 0)), none⟩,
     ⟨(some 4), .mv (.t 8), none⟩] false)
   .ret)),
 [.t 4]⟩

/-- neume/rod.Holds literal 2 -/
def lf31 : LFunc := ⟨18, 2,
 (.seq
  (.region [
    ⟨(some 2), .box 3 (.t 0), none⟩,
    ⟨(some 3), .mv (.c (.bool false)), none⟩] false)
  (.seq
   (.region [
     ⟨(some 4), .load false 1 (.t 1), none⟩,
     ⟨(some 5), .fadr 1 (.t 2), none⟩,
     ⟨(some 6), .load false 1 (.t 5), none⟩,
     ⟨(some 7), .idxa 1 (.t 4) (.t 6), none⟩,
     ⟨(some 8), .load false 1 (.t 7), none⟩,
     ⟨(some 9), .load false 1 (.t 1), none⟩,
     ⟨(some 10), .fadr 0 (.t 2), none⟩,
     ⟨(some 11), .load false 1 (.t 10), none⟩,
     ⟨(some 12), .idxa 1 (.t 9) (.t 11), none⟩,
     ⟨(some 13), .load false 1 (.t 12), none⟩,
     ⟨(some 14), .bin .sub (.t 8) (.t 13), none⟩,
     ⟨(some 15), .fadr 2 (.t 2), none⟩,
     ⟨(some 16), .load false 1 (.t 15), none⟩,
     ⟨(some 17), .bin .lss (.t 14) (.t 16), none⟩,
     ⟨(some 3), .mv (.t 17), none⟩] true)
   .ret)),
 [.t 3]⟩

/-- neume/rod.keep[neume/rod.pair,int] -/
def lf32 : LFunc := ⟨24, 3,
 (.seq
  (.region [
    ⟨(some 4), .box 2 (.t 1), none⟩] false)
  (.seq
   (.region [
     ⟨(some 9), .mv (.t 0), none⟩,
     ⟨(some 10), .load true 2 (.t 4), none⟩,
     ⟨(some 11), .lookup true (.ag [.i, .i]) (.int .i64 0) (.t 9) (.t 10), none⟩,
     ⟨(some 8), .mv (.t 11), none⟩,
     ⟨(some 12), .extract (.t 8) 0, none⟩,
     ⟨(some 13), .extract (.t 8) 1, none⟩,
     ⟨(some 6), .mv (.t 12), none⟩,
     ⟨(some 7), .mv (.t 13), none⟩] false)
   (.seq
    (.region [
      ⟨(some 14), .mv (.t 7), none⟩,
      ⟨(some 15), .not (.t 14), none⟩,
      ⟨(some 16), .mv (.t 15), none⟩,
      ⟨(some 17), .mv (.t 2), (some (16, false))⟩,
      ⟨(some 18), .mv (.t 6), (some (16, false))⟩,
      ⟨(some 19), .bin .gtr (.t 17) (.t 18), (some (16, false))⟩,
      ⟨(some 20), .pick (.t 16) (.c (.bool true)) (.t 19), none⟩] false)
    (.cond (.t 20)
     (.region [
       ⟨(some 21), .mv (.t 0), none⟩,
       ⟨(some 22), .load true 2 (.t 4), none⟩,
       ⟨(some 23), .mv (.t 2), none⟩,
       ⟨none, .mapupd (.ag [.i, .i]) (.t 21) (.t 22) (.t 23), none⟩] false)
     .skip)))),
 []⟩

/-- slices.SortFunc[[]neume/rod.pair,neume/rod.pair] -/
def lf33 : LFunc := ⟨14, 2,
 (.seq
  (.region [
    ⟨(some 5), .mv (.t 0), none⟩,
    ⟨(some 6), .len .sli (.t 5), none⟩,
    ⟨(some 4), .mv (.t 6), none⟩] false)
  (.region [
    ⟨(some 7), .mv (.t 0), none⟩,
    ⟨(some 8), .mv (.t 4), none⟩,
    ⟨(some 9), .mv (.t 4), none⟩,
    ⟨(some 10), .conv .u64 (.t 9), none⟩,
    ⟨(some 11), .call false (.c (.fn 41 [] [])) [.t 10], none⟩,
    ⟨(some 12), .mv (.t 1), none⟩,
    ⟨(some 13), .call false (.c (.fn 40 [] [])) [.t 7, .c (.int .i64 0), .t 8, .t 11, .t 12], none⟩] false)),
 []⟩

/-- neume/rod.Sure literal 1 -/
def lf34 : LFunc := ⟨17, 2,
 (.seq
  (.region [
    ⟨(some 2), .box 2 (.t 0), none⟩,
    ⟨(some 3), .box 2 (.t 1), none⟩,
    ⟨(some 4), .mv (.c (.int .i64 0)), none⟩] false)
  (.seq
   (.region [
     ⟨(some 5), .fadr 0 (.t 2), none⟩,
     ⟨(some 6), .load false 1 (.t 5), none⟩,
     ⟨(some 7), .fadr 0 (.t 3), none⟩,
     ⟨(some 8), .load false 1 (.t 7), none⟩,
     ⟨(some 9), .call false (.c (.fn 36 [] [])) [.t 6, .t 8], none⟩,
     ⟨(some 10), .fadr 1 (.t 2), none⟩,
     ⟨(some 11), .load false 1 (.t 10), none⟩,
     ⟨(some 12), .fadr 1 (.t 3), none⟩,
     ⟨(some 13), .load false 1 (.t 12), none⟩,
     ⟨(some 14), .call false (.c (.fn 36 [] [])) [.t 11, .t 13], none⟩,
     ⟨(some 15), .btsl 1 2 [.int .i64 0] [(0, .t 9), (1, .t 14)], none⟩,
     ⟨(some 16), .call false (.c (.fn 35 [] [])) [.t 15], none⟩,
     ⟨(some 4), .mv (.t 16), none⟩] true)
   .ret)),
 [.t 4]⟩

/-- cmp.Or[int] -/
def lf35 : LFunc := ⟨18, 1,
 (.seq
  (.region [
    ⟨(some 2), .mv (.c (.int .i64 0)), none⟩] false)
  (.seq
   (.region [
     ⟨(some 3), .mv (.c (.int .i64 0)), none⟩] false)
   (.seq
    (.seq
     (.region [
       ⟨(some 6), .mv (.t 0), none⟩,
       ⟨(some 7), .len .sli (.t 6), none⟩,
       ⟨(some 8), .mv (.c (.int .i64 0)), none⟩] false)
     (.block 0
      (.loop
       (.seq
        (.region [
          ⟨(some 9), .bin .lss (.t 8) (.t 7), none⟩] false)
        (.seq
         (.cond (.t 9)
          .skip
          (.exit 0))
         (.seq
          (.block 1
           (.seq
            (.region [
              ⟨(some 10), .idxa 1 (.t 6) (.t 8), none⟩,
              ⟨(some 11), .load false 1 (.t 10), none⟩,
              ⟨(some 5), .mv (.t 11), none⟩] false)
            (.seq
             (.region [
               ⟨(some 12), .mv (.t 5), none⟩,
               ⟨(some 13), .mv (.t 3), none⟩,
               ⟨(some 14), .bin .neq (.t 12) (.t 13), none⟩] false)
             (.cond (.t 14)
              (.seq
               (.region [
                 ⟨(some 15), .mv (.t 5), none⟩,
                 ⟨(some 2), .mv (.t 15), none⟩] false)
               .ret)
              .skip))))
          (.region [
            ⟨(some 16), .bin .add (.t 8) (.c (.int .i64 1)), none⟩,
            ⟨(some 8), .mv (.t 16), none⟩] false)))))))
    (.seq
     (.region [
       ⟨(some 17), .mv (.t 3), none⟩,
       ⟨(some 2), .mv (.t 17), none⟩] false)
     .ret)))),
 [.t 2]⟩

/-- cmp.Compare[int] -/
def lf36 : LFunc := ⟨20, 2,
 (.seq
  (.region [
    ⟨(some 4), .mv (.c (.int .i64 0)), none⟩] false)
  (.seq
   (.region [
     ⟨(some 7), .mv (.t 0), none⟩,
     ⟨(some 8), .call false (.c (.fn 42 [] [])) [.t 7], none⟩,
     ⟨(some 5), .mv (.t 8), none⟩] false)
   (.seq
    (.region [
      ⟨(some 9), .mv (.t 1), none⟩,
      ⟨(some 10), .call false (.c (.fn 42 [] [])) [.t 9], none⟩,
      ⟨(some 6), .mv (.t 10), none⟩] false)
    (.seq
     (.seq
      (.region [
        ⟨(some 11), .mv (.t 5), none⟩] false)
      (.cond (.t 11)
       (.seq
        (.seq
         (.region [
           ⟨(some 12), .mv (.t 6), none⟩] false)
         (.cond (.t 12)
          (.seq
           (.region [
             ⟨(some 4), .mv (.c (.int .i64 0)), none⟩] false)
           .ret)
          .skip))
        (.seq
         (.region [
           ⟨(some 4), .mv (.c (.int .i64 (-1))), none⟩] false)
         .ret))
       .skip))
     (.seq
      (.seq
       (.region [
         ⟨(some 13), .mv (.t 6), none⟩] false)
       (.cond (.t 13)
        (.seq
         (.region [
           ⟨(some 4), .mv (.c (.int .i64 1)), none⟩] false)
         .ret)
        .skip))
      (.seq
       (.seq
        (.region [
          ⟨(some 14), .mv (.t 0), none⟩,
          ⟨(some 15), .mv (.t 1), none⟩,
          ⟨(some 16), .bin .lss (.t 14) (.t 15), none⟩] false)
        (.cond (.t 16)
         (.seq
          (.region [
            ⟨(some 4), .mv (.c (.int .i64 (-1))), none⟩] false)
          .ret)
         .skip))
       (.seq
        (.seq
         (.region [
           ⟨(some 17), .mv (.t 0), none⟩,
           ⟨(some 18), .mv (.t 1), none⟩,
           ⟨(some 19), .bin .gtr (.t 17) (.t 18), none⟩] false)
         (.cond (.t 19)
          (.seq
           (.region [
             ⟨(some 4), .mv (.c (.int .i64 1)), none⟩] false)
           .ret)
          .skip))
        (.seq
         (.region [
           ⟨(some 4), .mv (.c (.int .i64 0)), none⟩] false)
         .ret)))))))),
 [.t 4]⟩

/-- neume/neumeref27.extent -/
def lf37 : LFunc := ⟨21, 1,
 (.seq
  (.region [
    ⟨(some 1), .box 3 (.t 0), none⟩,
    ⟨(some 2), .mv (.c (.bool false)), none⟩] false)
  (.seq
   (.region [
     ⟨(some 3), .fadr 1 (.t 1), none⟩,
     ⟨(some 4), .load false 1 (.t 3), none⟩,
     ⟨(some 5), .bin .geq (.t 4) (.c (.int .i64 (-1073741824))), none⟩,
     ⟨(some 6), .mv (.t 5), none⟩,
     ⟨(some 7), .fadr 1 (.t 1), (some (6, true))⟩,
     ⟨(some 8), .load false 1 (.t 7), (some (6, true))⟩,
     ⟨(some 9), .bin .leq (.t 8) (.c (.int .i64 1073741824)), (some (6, true))⟩,
     ⟨(some 10), .pick (.t 6) (.t 9) (.c (.bool false)), none⟩,
     ⟨(some 11), .mv (.t 10), none⟩,
     ⟨(some 12), .fadr 2 (.t 1), (some (11, true))⟩,
     ⟨(some 13), .load false 1 (.t 12), (some (11, true))⟩,
     ⟨(some 14), .bin .geq (.t 13) (.c (.int .i64 (-1073741824))), (some (11, true))⟩,
     ⟨(some 15), .pick (.t 11) (.t 14) (.c (.bool false)), none⟩,
     ⟨(some 16), .mv (.t 15), none⟩,
     ⟨(some 17), .fadr 2 (.t 1), (some (16, true))⟩,
     ⟨(some 18), .load false 1 (.t 17), (some (16, true))⟩,
     ⟨(some 19), .bin .leq (.t 18) (.c (.int .i64 1073741824)), (some (16, true))⟩,
     ⟨(some 20), .pick (.t 16) (.t 19) (.c (.bool false)), none⟩,
     ⟨(some 2), .mv (.t 20), none⟩] false)
   .ret)),
 [.t 2]⟩

/-- slices.IndexFunc[[]int,int] -/
def lf38 : LFunc := ⟨19, 2,
 (.seq
  (.region [
    ⟨(some 4), .mv (.c (.int .i64 0)), none⟩] false)
  (.seq
   (.seq
    (.region [
      ⟨(some 6), .mv (.t 0), none⟩,
      ⟨(some 7), .len .sli (.t 6), none⟩,
      ⟨(some 8), .mv (.c (.int .i64 0)), none⟩] false)
    (.block 0
     (.loop
      (.seq
       (.region [
         ⟨(some 9), .bin .lss (.t 8) (.t 7), none⟩] false)
       (.seq
        (.cond (.t 9)
         .skip
         (.exit 0))
        (.seq
         (.block 1
          (.seq
           (.region [
             ⟨(some 10), .mv (.t 8), none⟩,
             ⟨(some 5), .mv (.t 10), none⟩] false)
           (.seq
            (.region [
              ⟨(some 11), .mv (.t 1), none⟩,
              ⟨(some 12), .mv (.t 0), none⟩,
              ⟨(some 13), .mv (.t 5), none⟩,
              ⟨(some 14), .idxa 1 (.t 12) (.t 13), none⟩,
              ⟨(some 15), .load false 1 (.t 14), none⟩,
              ⟨(some 16), .call false (.t 11) [.t 15], none⟩] false)
            (.cond (.t 16)
             (.seq
              (.region [
                ⟨(some 17), .mv (.t 5), none⟩,
                ⟨(some 4), .mv (.t 17), none⟩] false)
              .ret)
             .skip))))
         (.region [
           ⟨(some 18), .bin .add (.t 8) (.c (.int .i64 1)), none⟩,
           ⟨(some 8), .mv (.t 18), none⟩] false)))))))
   (.seq
    (.region [
      ⟨(some 4), .mv (.c (.int .i64 (-1))), none⟩] false)
    .ret))),
 [.t 4]⟩

/-- slices.IndexFunc[[]neume/api.Rod,neume/api.Rod] -/
def lf39 : LFunc := ⟨19, 2,
 (.seq
  (.region [
    ⟨(some 4), .mv (.c (.int .i64 0)), none⟩] false)
  (.seq
   (.seq
    (.region [
      ⟨(some 6), .mv (.t 0), none⟩,
      ⟨(some 7), .len .sli (.t 6), none⟩,
      ⟨(some 8), .mv (.c (.int .i64 0)), none⟩] false)
    (.block 0
     (.loop
      (.seq
       (.region [
         ⟨(some 9), .bin .lss (.t 8) (.t 7), none⟩] false)
       (.seq
        (.cond (.t 9)
         .skip
         (.exit 0))
        (.seq
         (.block 1
          (.seq
           (.region [
             ⟨(some 10), .mv (.t 8), none⟩,
             ⟨(some 5), .mv (.t 10), none⟩] false)
           (.seq
            (.region [
              ⟨(some 11), .mv (.t 1), none⟩,
              ⟨(some 12), .mv (.t 0), none⟩,
              ⟨(some 13), .mv (.t 5), none⟩,
              ⟨(some 14), .idxa 3 (.t 12) (.t 13), none⟩,
              ⟨(some 15), .load true 3 (.t 14), none⟩,
              ⟨(some 16), .call false (.t 11) [.t 15], none⟩] false)
            (.cond (.t 16)
             (.seq
              (.region [
                ⟨(some 17), .mv (.t 5), none⟩,
                ⟨(some 4), .mv (.t 17), none⟩] false)
              .ret)
             .skip))))
         (.region [
           ⟨(some 18), .bin .add (.t 8) (.c (.int .i64 1)), none⟩,
           ⟨(some 8), .mv (.t 18), none⟩] false)))))))
   (.seq
    (.region [
      ⟨(some 4), .mv (.c (.int .i64 (-1))), none⟩] false)
    .ret))),
 [.t 4]⟩

/-- slices.pdqsortCmpFunc[neume/rod.pair] -/
def lf40 : LFunc := ⟨148, 5,
 (.seq
  (.region [
    ⟨(some 10), .mv (.c (.bool true)), none⟩] false)
  (.seq
   (.region [
     ⟨(some 11), .mv (.c (.bool true)), none⟩] false)
   (.block 0
    (.loop
     (.block 1
      (.seq
       (.region [
         ⟨(some 21), .mv (.t 2), none⟩,
         ⟨(some 22), .mv (.t 1), none⟩,
         ⟨(some 23), .bin .sub (.t 21) (.t 22), none⟩,
         ⟨(some 12), .mv (.t 23), none⟩] false)
       (.seq
        (.seq
         (.region [
           ⟨(some 24), .mv (.t 12), none⟩,
           ⟨(some 25), .bin .leq (.t 24) (.c (.int .i64 12)), none⟩] false)
         (.cond (.t 25)
          (.seq
           (.region [
             ⟨(some 26), .mv (.t 0), none⟩,
             ⟨(some 27), .mv (.t 1), none⟩,
             ⟨(some 28), .mv (.t 2), none⟩,
             ⟨(some 29), .mv (.t 4), none⟩,
             ⟨(some 30), .call false (.c (.fn 43 [] [])) [.t 26, .t 27, .t 28, .t 29], none⟩] false)
           .ret)
          .skip))
        (.seq
         (.seq
          (.region [
            ⟨(some 31), .mv (.t 3), none⟩,
            ⟨(some 32), .bin .eql (.t 31) (.c (.int .i64 0)), none⟩] false)
          (.cond (.t 32)
           (.seq
            (.region [
              ⟨(some 33), .mv (.t 0), none⟩,
              ⟨(some 34), .mv (.t 1), none⟩,
              ⟨(some 35), .mv (.t 2), none⟩,
              ⟨(some 36), .mv (.t 4), none⟩,
              ⟨(some 37), .call false (.c (.fn 44 [] [])) [.t 33, .t 34, .t 35, .t 36], none⟩] false)
            .ret)
           .skip))
         (.seq
          (.seq
           (.region [
             ⟨(some 38), .mv (.t 10), none⟩,
             ⟨(some 39), .not (.t 38), none⟩] false)
           (.cond (.t 39)
            (.seq
             (.region [
               ⟨(some 40), .mv (.t 0), none⟩,
               ⟨(some 41), .mv (.t 1), none⟩,
               ⟨(some 42), .mv (.t 2), none⟩,
               ⟨(some 43), .mv (.t 4), none⟩,
               ⟨(some 44), .call false (.c (.fn 45 [] [])) [.t 40, .t 41, .t 42, .t 43], none⟩] false)
             (.region [
               ⟨(some 45), .mv (.t 3), none⟩,
               ⟨(some 46), .bin .sub (.t 45) (.c (.int .i64 1)), none⟩,
               ⟨(some 3), .mv (.t 46), none⟩] false))
            .skip))
          (.seq
           (.region [
             ⟨(some 48), .mv (.t 0), none⟩,
             ⟨(some 49), .mv (.t 1), none⟩,
             ⟨(some 50), .mv (.t 2), none⟩,
             ⟨(some 51), .mv (.t 4), none⟩,
             ⟨(some 52), .call false (.c (.fn 46 [] [])) [.t 48, .t 49, .t 50, .t 51], none⟩,
             ⟨(some 47), .mv (.t 52), none⟩,
             ⟨(some 53), .extract (.t 47) 0, none⟩,
             ⟨(some 54), .extract (.t 47) 1, none⟩,
             ⟨(some 13), .mv (.t 53), none⟩,
             ⟨(some 14), .mv (.t 54), none⟩] false)
           (.seq
            (.seq
             (.region [
               ⟨(some 55), .mv (.t 14), none⟩,
               ⟨(some 56), .bin .eql (.t 55) (.c (.int .i64 2)), none⟩] false)
             (.cond (.t 56)
              (.seq
               (.region [
                 ⟨(some 57), .mv (.t 0), none⟩,
                 ⟨(some 58), .mv (.t 1), none⟩,
                 ⟨(some 59), .mv (.t 2), none⟩,
                 ⟨(some 60), .mv (.t 4), none⟩,
                 ⟨(some 61), .call false (.c (.fn 47 [] [])) [.t 57, .t 58, .t 59, .t 60], none⟩] false)
               (.seq
                (.region [
                  ⟨(some 62), .mv (.t 2), none⟩,
                  ⟨(some 63), .bin .sub (.t 62) (.c (.int .i64 1)), none⟩,
                  ⟨(some 64), .mv (.t 13), none⟩,
                  ⟨(some 65), .mv (.t 1), none⟩,
                  ⟨(some 66), .bin .sub (.t 64) (.t 65), none⟩,
                  ⟨(some 67), .bin .sub (.t 63) (.t 66), none⟩,
                  ⟨(some 13), .mv (.t 67), none⟩] false)
                (.region [
                  ⟨(some 14), .mv (.c (.int .i64 1)), none⟩] false)))
              .skip))
            (.seq
             (.seq
              (.region [
                ⟨(some 68), .mv (.t 10), none⟩,
                ⟨(some 69), .mv (.t 68), none⟩,
                ⟨(some 70), .mv (.t 11), (some (69, true))⟩,
                ⟨(some 71), .pick (.t 69) (.t 70) (.c (.bool false)), none⟩,
                ⟨(some 72), .mv (.t 71), none⟩,
                ⟨(some 73), .mv (.t 14), (some (72, true))⟩,
                ⟨(some 74), .bin .eql (.t 73) (.c (.int .i64 1)), (some (72, true))⟩,
                ⟨(some 75), .pick (.t 72) (.t 74) (.c (.bool false)), none⟩] false)
              (.cond (.t 75)
               (.seq
                (.region [
                  ⟨(some 76), .mv (.t 0), none⟩,
                  ⟨(some 77), .mv (.t 1), none⟩,
                  ⟨(some 78), .mv (.t 2), none⟩,
                  ⟨(some 79), .mv (.t 4), none⟩,
                  ⟨(some 80), .call false (.c (.fn 48 [] [])) [.t 76, .t 77, .t 78, .t 79], none⟩] false)
                (.cond (.t 80)
                 .ret
                 .skip))
               .skip))
             (.seq
              (.seq
               (.region [
                 ⟨(some 81), .mv (.t 1), none⟩,
                 ⟨(some 82), .bin .gtr (.t 81) (.c (.int .i64 0)), none⟩,
                 ⟨(some 83), .mv (.t 82), none⟩,
                 ⟨(some 84), .mv (.t 4), (some (83, true))⟩,
                 ⟨(some 85), .mv (.t 0), (some (83, true))⟩,
                 ⟨(some 86), .mv (.t 1), (some (83, true))⟩,
                 ⟨(some 87), .bin .sub (.t 86) (.c (.int .i64 1)), (some (83, true))⟩,
                 ⟨(some 88), .idxa 2 (.t 85) (.t 87), (some (83, true))⟩,
                 ⟨(some 89), .load true 2 (.t 88), (some (83, true))⟩,
                 ⟨(some 90), .mv (.t 0), (some (83, true))⟩,
                 ⟨(some 91), .mv (.t 13), (some (83, true))⟩,
                 ⟨(some 92), .idxa 2 (.t 90) (.t 91), (some (83, true))⟩,
                 ⟨(some 93), .load true 2 (.t 92), (some (83, true))⟩,
                 ⟨(some 94), .call false (.t 84) [.t 89, .t 93], (some (83, true))⟩,
                 ⟨(some 95), .bin .lss (.t 94) (.c (.int .i64 0)), (some (83, true))⟩,
                 ⟨(some 96), .not (.t 95), (some (83, true))⟩,
                 ⟨(some 97), .pick (.t 83) (.t 96) (.c (.bool false)), none⟩] true)
               (.cond (.t 97)
                (.seq
                 (.region [
                   ⟨(some 98), .mv (.t 0), none⟩,
                   ⟨(some 99), .mv (.t 1), none⟩,
                   ⟨(some 100), .mv (.t 2), none⟩,
                   ⟨(some 101), .mv (.t 13), none⟩,
                   ⟨(some 102), .mv (.t 4), none⟩,
                   ⟨(some 103), .call false (.c (.fn 49 [] [])) [.t 98, .t 99, .t 100, .t 101, .t 102], none⟩,
                   ⟨(some 15), .mv (.t 103), none⟩] false)
                 (.seq
                  (.region [
                    ⟨(some 104), .mv (.t 15), none⟩,
                    ⟨(some 1), .mv (.t 104), none⟩] false)
                  (.exit 1)))
                .skip))
              (.seq
               (.region [
                 ⟨(some 106), .mv (.t 0), none⟩,
                 ⟨(some 107), .mv (.t 1), none⟩,
                 ⟨(some 108), .mv (.t 2), none⟩,
                 ⟨(some 109), .mv (.t 13), none⟩,
                 ⟨(some 110), .mv (.t 4), none⟩,
                 ⟨(some 111), .call false (.c (.fn 50 [] [])) [.t 106, .t 107, .t 108, .t 109, .t 110], none⟩,
                 ⟨(some 105), .mv (.t 111), none⟩,
                 ⟨(some 112), .extract (.t 105) 0, none⟩,
                 ⟨(some 113), .extract (.t 105) 1, none⟩,
                 ⟨(some 16), .mv (.t 112), none⟩,
                 ⟨(some 17), .mv (.t 113), none⟩] false)
               (.seq
                (.region [
                  ⟨(some 114), .mv (.t 17), none⟩,
                  ⟨(some 11), .mv (.t 114), none⟩] false)
                (.seq
                 (.region [
                   ⟨(some 115), .mv (.t 16), none⟩,
                   ⟨(some 116), .mv (.t 1), none⟩,
                   ⟨(some 117), .bin .sub (.t 115) (.t 116), none⟩,
                   ⟨(some 118), .mv (.t 2), none⟩,
                   ⟨(some 119), .mv (.t 16), none⟩,
                   ⟨(some 120), .bin .sub (.t 118) (.t 119), none⟩,
                   ⟨(some 18), .mv (.t 117), none⟩,
                   ⟨(some 19), .mv (.t 120), none⟩] false)
                 (.seq
                  (.region [
                    ⟨(some 121), .mv (.t 12), none⟩,
                    ⟨(some 122), .bin .quo (.t 121) (.c (.int .i64 8)), none⟩,
                    ⟨(some 20), .mv (.t 122), none⟩] false)
                  (.seq
                   (.region [
                     ⟨(some 123), .mv (.t 18), none⟩,
                     ⟨(some 124), .mv (.t 19), none⟩,
                     ⟨(some 125), .bin .lss (.t 123) (.t 124), none⟩] false)
                   (.cond (.t 125)
                    (.seq
                     (.region [
                       ⟨(some 126), .mv (.t 18), none⟩,
                       ⟨(some 127), .mv (.t 20), none⟩,
                       ⟨(some 128), .bin .geq (.t 126) (.t 127), none⟩,
                       ⟨(some 10), .mv (.t 128), none⟩] false)
                     (.seq
                      (.region [
                        ⟨(some 129), .mv (.t 0), none⟩,
                        ⟨(some 130), .mv (.t 1), none⟩,
                        ⟨(some 131), .mv (.t 16), none⟩,
                        ⟨(some 132), .mv (.t 3), none⟩,
                        ⟨(some 133), .mv (.t 4), none⟩,
                        ⟨(some 134), .call false (.c (.fn 40 [] [])) [.t 129, .t 130, .t 131, .t 132, .t 133], none⟩] false)
                      (.region [
                        ⟨(some 135), .mv (.t 16), none⟩,
                        ⟨(some 136), .bin .add (.t 135) (.c (.int .i64 1)), none⟩,
                        ⟨(some 1), .mv (.t 136), none⟩] false)))
                    (.seq
                     (.region [
                       ⟨(some 137), .mv (.t 19), none⟩,
                       ⟨(some 138), .mv (.t 20), none⟩,
                       ⟨(some 139), .bin .geq (.t 137) (.t 138), none⟩,
                       ⟨(some 10), .mv (.t 139), none⟩] false)
                     (.seq
                      (.region [
                        ⟨(some 140), .mv (.t 0), none⟩,
                        ⟨(some 141), .mv (.t 16), none⟩,
                        ⟨(some 142), .bin .add (.t 141) (.c (.int .i64 1)), none⟩,
                        ⟨(some 143), .mv (.t 2), none⟩,
                        ⟨(some 144), .mv (.t 3), none⟩,
                        ⟨(some 145), .mv (.t 4), none⟩,
                        ⟨(some 146), .call false (.c (.fn 40 [] [])) [.t 140, .t 142, .t 143, .t 144, .t 145], none⟩] false)
                      (.region [
                        ⟨(some 147), .mv (.t 16), none⟩,
                        ⟨(some 2), .mv (.t 147), none⟩] false)))))))))))))))))))))),
 []⟩

/-- math/bits.Len -/
def lf41 : LFunc := ⟨8, 1,
 (.seq
  (.region [
    ⟨(some 2), .mv (.c (.int .i64 0)), none⟩] false)
  (.seq
   (.cond (.c (.bool false))
    (.seq
     (.region [
       ⟨(some 3), .mv (.t 0), none⟩,
       ⟨(some 4), .conv .u32 (.t 3), none⟩,
       ⟨(some 5), .call false (.c (.fn 51 [] [])) [.t 4], none⟩,
       ⟨(some 2), .mv (.t 5), none⟩] false)
     .ret)
    .skip)
   (.seq
    (.region [
      ⟨(some 6), .mv (.t 0), none⟩,
      ⟨(some 7), .call false (.c (.fn 52 [] [])) [.t 6], none⟩,
      ⟨(some 2), .mv (.t 7), none⟩] false)
    .ret))),
 [.t 2]⟩

/-- cmp.isNaN[int] -/
def lf42 : LFunc := ⟨6, 1,
 (.seq
  (.region [
    ⟨(some 2), .mv (.c (.bool false)), none⟩] false)
  (.seq
   (.region [
     ⟨(some 3), .mv (.t 0), none⟩,
     ⟨(some 4), .mv (.t 0), none⟩,
     ⟨(some 5), .bin .neq (.t 3) (.t 4), none⟩,
     ⟨(some 2), .mv (.t 5), none⟩] false)
   .ret)),
 [.t 2]⟩

/-- slices.insertionSortCmpFunc[neume/rod.pair] -/
def lf43 : LFunc := ⟨53, 4,
 (.seq
  (.region [
    ⟨(some 10), .mv (.t 1), none⟩,
    ⟨(some 11), .bin .add (.t 10) (.c (.int .i64 1)), none⟩,
    ⟨(some 8), .mv (.t 11), none⟩] false)
  (.block 0
   (.loop
    (.seq
     (.seq
      (.region [
        ⟨(some 12), .mv (.t 8), none⟩,
        ⟨(some 13), .mv (.t 2), none⟩,
        ⟨(some 14), .bin .lss (.t 12) (.t 13), none⟩] false)
      (.cond (.t 14)
       .skip
       (.exit 0)))
     (.seq
      (.block 1
       (.seq
        (.region [
          ⟨(some 17), .mv (.t 8), none⟩,
          ⟨(some 9), .mv (.t 17), none⟩] false)
        (.block 2
         (.loop
          (.seq
           (.seq
            (.region [
              ⟨(some 18), .mv (.t 9), none⟩,
              ⟨(some 19), .mv (.t 1), none⟩,
              ⟨(some 20), .bin .gtr (.t 18) (.t 19), none⟩,
              ⟨(some 21), .mv (.t 20), none⟩,
              ⟨(some 22), .mv (.t 3), (some (21, true))⟩,
              ⟨(some 23), .mv (.t 0), (some (21, true))⟩,
              ⟨(some 24), .mv (.t 9), (some (21, true))⟩,
              ⟨(some 25), .idxa 2 (.t 23) (.t 24), (some (21, true))⟩,
              ⟨(some 26), .load true 2 (.t 25), (some (21, true))⟩,
              ⟨(some 27), .mv (.t 0), (some (21, true))⟩,
              ⟨(some 28), .mv (.t 9), (some (21, true))⟩,
              ⟨(some 29), .bin .sub (.t 28) (.c (.int .i64 1)), (some (21, true))⟩,
              ⟨(some 30), .idxa 2 (.t 27) (.t 29), (some (21, true))⟩,
              ⟨(some 31), .load true 2 (.t 30), (some (21, true))⟩,
              ⟨(some 32), .call false (.t 22) [.t 26, .t 31], (some (21, true))⟩,
              ⟨(some 33), .bin .lss (.t 32) (.c (.int .i64 0)), (some (21, true))⟩,
              ⟨(some 34), .pick (.t 21) (.t 33) (.c (.bool false)), none⟩] true)
            (.cond (.t 34)
             .skip
             (.exit 2)))
           (.seq
            (.block 3
             (.region [
               ⟨(some 37), .mv (.t 0), none⟩,
               ⟨(some 38), .mv (.t 9), none⟩,
               ⟨(some 39), .mv (.t 0), none⟩,
               ⟨(some 40), .mv (.t 9), none⟩,
               ⟨(some 41), .bin .sub (.t 40) (.c (.int .i64 1)), none⟩,
               ⟨(some 42), .mv (.t 0), none⟩,
               ⟨(some 43), .mv (.t 9), none⟩,
               ⟨(some 44), .bin .sub (.t 43) (.c (.int .i64 1)), none⟩,
               ⟨(some 45), .idxa 2 (.t 42) (.t 44), none⟩,
               ⟨(some 46), .load true 2 (.t 45), none⟩,
               ⟨(some 47), .mv (.t 0), none⟩,
               ⟨(some 48), .mv (.t 9), none⟩,
               ⟨(some 49), .idxa 2 (.t 47) (.t 48), none⟩,
               ⟨(some 50), .load true 2 (.t 49), none⟩,
               ⟨(some 51), .idxa 2 (.t 37) (.t 38), none⟩,
               ⟨none, .store 2 (.t 51) (.t 46), none⟩,
               ⟨(some 52), .idxa 2 (.t 39) (.t 41), none⟩,
               ⟨none, .store 2 (.t 52) (.t 50), none⟩] true))
            (.region [
              ⟨(some 35), .mv (.t 9), none⟩,
              ⟨(some 36), .bin .sub (.t 35) (.c (.int .i64 1)), none⟩,
              ⟨(some 9), .mv (.t 36), none⟩] false)))))))
      (.region [
        ⟨(some 15), .mv (.t 8), none⟩,
        ⟨(some 16), .bin .add (.t 15) (.c (.int .i64 1)), none⟩,
        ⟨(some 8), .mv (.t 16), none⟩] false)))))),
 []⟩

/-- slices.heapSortCmpFunc[neume/rod.pair] -/
def lf44 : LFunc := ⟨60, 4,
 (.seq
  (.region [
    ⟨(some 13), .mv (.t 1), none⟩,
    ⟨(some 8), .mv (.t 13), none⟩] false)
  (.seq
   (.region [
     ⟨(some 9), .mv (.c (.int .i64 0)), none⟩] false)
   (.seq
    (.region [
      ⟨(some 14), .mv (.t 2), none⟩,
      ⟨(some 15), .mv (.t 1), none⟩,
      ⟨(some 16), .bin .sub (.t 14) (.t 15), none⟩,
      ⟨(some 10), .mv (.t 16), none⟩] false)
    (.seq
     (.seq
      (.region [
        ⟨(some 17), .mv (.t 10), none⟩,
        ⟨(some 18), .bin .sub (.t 17) (.c (.int .i64 1)), none⟩,
        ⟨(some 19), .bin .quo (.t 18) (.c (.int .i64 2)), none⟩,
        ⟨(some 11), .mv (.t 19), none⟩] false)
      (.block 0
       (.loop
        (.seq
         (.seq
          (.region [
            ⟨(some 20), .mv (.t 11), none⟩,
            ⟨(some 21), .bin .geq (.t 20) (.c (.int .i64 0)), none⟩] false)
          (.cond (.t 21)
           .skip
           (.exit 0)))
         (.seq
          (.block 1
           (.region [
             ⟨(some 24), .mv (.t 0), none⟩,
             ⟨(some 25), .mv (.t 11), none⟩,
             ⟨(some 26), .mv (.t 10), none⟩,
             ⟨(some 27), .mv (.t 8), none⟩,
             ⟨(some 28), .mv (.t 3), none⟩,
             ⟨(some 29), .call false (.c (.fn 53 [] [])) [.t 24, .t 25, .t 26, .t 27, .t 28], none⟩] false))
          (.region [
            ⟨(some 22), .mv (.t 11), none⟩,
            ⟨(some 23), .bin .sub (.t 22) (.c (.int .i64 1)), none⟩,
            ⟨(some 11), .mv (.t 23), none⟩] false))))))
     (.seq
      (.region [
        ⟨(some 30), .mv (.t 10), none⟩,
        ⟨(some 31), .bin .sub (.t 30) (.c (.int .i64 1)), none⟩,
        ⟨(some 12), .mv (.t 31), none⟩] false)
      (.block 2
       (.loop
        (.seq
         (.seq
          (.region [
            ⟨(some 32), .mv (.t 12), none⟩,
            ⟨(some 33), .bin .geq (.t 32) (.c (.int .i64 0)), none⟩] false)
          (.cond (.t 33)
           .skip
           (.exit 2)))
         (.seq
          (.block 3
           (.seq
            (.region [
              ⟨(some 36), .mv (.t 0), none⟩,
              ⟨(some 37), .mv (.t 8), none⟩,
              ⟨(some 38), .mv (.t 0), none⟩,
              ⟨(some 39), .mv (.t 8), none⟩,
              ⟨(some 40), .mv (.t 12), none⟩,
              ⟨(some 41), .bin .add (.t 39) (.t 40), none⟩,
              ⟨(some 42), .mv (.t 0), none⟩,
              ⟨(some 43), .mv (.t 8), none⟩,
              ⟨(some 44), .mv (.t 12), none⟩,
              ⟨(some 45), .bin .add (.t 43) (.t 44), none⟩,
              ⟨(some 46), .idxa 2 (.t 42) (.t 45), none⟩,
              ⟨(some 47), .load true 2 (.t 46), none⟩,
              ⟨(some 48), .mv (.t 0), none⟩,
              ⟨(some 49), .mv (.t 8), none⟩,
              ⟨(some 50), .idxa 2 (.t 48) (.t 49), none⟩,
              ⟨(some 51), .load true 2 (.t 50), none⟩,
              ⟨(some 52), .idxa 2 (.t 36) (.t 37), none⟩,
              ⟨none, .store 2 (.t 52) (.t 47), none⟩,
              ⟨(some 53), .idxa 2 (.t 38) (.t 41), none⟩,
              ⟨none, .store 2 (.t 53) (.t 51), none⟩] true)
            (.region [
              ⟨(some 54), .mv (.t 0), none⟩,
              ⟨(some 55), .mv (.t 9), none⟩,
              ⟨(some 56), .mv (.t 12), none⟩,
              ⟨(some 57), .mv (.t 8), none⟩,
              ⟨(some 58), .mv (.t 3), none⟩,
              ⟨(some 59), .call false (.c (.fn 53 [] [])) [.t 54, .t 55, .t 56, .t 57, .t 58], none⟩] false)))
          (.region [
            ⟨(some 34), .mv (.t 12), none⟩,
            ⟨(some 35), .bin .sub (.t 34) (.c (.int .i64 1)), none⟩,
            ⟨(some 12), .mv (.t 35), none⟩] false)))))))))),
 []⟩

/-- slices.breakPatternsCmpFunc[neume/rod.pair] -/
def lf45 : LFunc := ⟨67, 4,
 (.seq
  (.region [
    ⟨(some 13), .mv (.t 2), none⟩,
    ⟨(some 14), .mv (.t 1), none⟩,
    ⟨(some 15), .bin .sub (.t 13) (.t 14), none⟩,
    ⟨(some 8), .mv (.t 15), none⟩] false)
  (.seq
   (.region [
     ⟨(some 16), .mv (.t 8), none⟩,
     ⟨(some 17), .bin .geq (.t 16) (.c (.int .i64 8)), none⟩] false)
   (.cond (.t 17)
    (.seq
     (.region [
       ⟨(some 18), .mv (.t 8), none⟩,
       ⟨(some 19), .conv .u64 (.t 18), none⟩,
       ⟨(some 9), .newv [.int .u64 0], none⟩,
       ⟨none, .store 1 (.t 9) (.t 19), none⟩] false)
     (.seq
      (.region [
        ⟨(some 20), .mv (.t 8), none⟩,
        ⟨(some 21), .call false (.c (.fn 54 [] [])) [.t 20], none⟩,
        ⟨(some 10), .mv (.t 21), none⟩] false)
      (.seq
       (.region [
         ⟨(some 22), .mv (.t 1), none⟩,
         ⟨(some 23), .mv (.t 8), none⟩,
         ⟨(some 24), .bin .quo (.t 23) (.c (.int .i64 4)), none⟩,
         ⟨(some 25), .bin .mul (.t 24) (.c (.int .i64 2)), none⟩,
         ⟨(some 26), .bin .add (.t 22) (.t 25), none⟩,
         ⟨(some 27), .bin .sub (.t 26) (.c (.int .i64 1)), none⟩,
         ⟨(some 11), .mv (.t 27), none⟩] false)
       (.block 0
        (.loop
         (.seq
          (.seq
           (.region [
             ⟨(some 28), .mv (.t 11), none⟩,
             ⟨(some 29), .mv (.t 1), none⟩,
             ⟨(some 30), .mv (.t 8), none⟩,
             ⟨(some 31), .bin .quo (.t 30) (.c (.int .i64 4)), none⟩,
             ⟨(some 32), .bin .mul (.t 31) (.c (.int .i64 2)), none⟩,
             ⟨(some 33), .bin .add (.t 29) (.t 32), none⟩,
             ⟨(some 34), .bin .add (.t 33) (.c (.int .i64 1)), none⟩,
             ⟨(some 35), .bin .leq (.t 28) (.t 34), none⟩] false)
           (.cond (.t 35)
            .skip
            (.exit 0)))
          (.seq
           (.block 1
            (.seq
             (.region [
               ⟨(some 38), .call false (.c (.fn 55 [] [])) [.t 9], none⟩,
               ⟨(some 39), .mv (.t 10), none⟩,
               ⟨(some 40), .bin .sub (.t 39) (.c (.int .u64 1)), none⟩,
               ⟨(some 41), .bin .and (.t 38) (.t 40), none⟩,
               ⟨(some 42), .conv .i64 (.t 41), none⟩,
               ⟨(some 12), .mv (.t 42), none⟩] false)
             (.seq
              (.seq
               (.region [
                 ⟨(some 43), .mv (.t 12), none⟩,
                 ⟨(some 44), .mv (.t 8), none⟩,
                 ⟨(some 45), .bin .geq (.t 43) (.t 44), none⟩] false)
               (.cond (.t 45)
                (.region [
                  ⟨(some 46), .mv (.t 12), none⟩,
                  ⟨(some 47), .mv (.t 8), none⟩,
                  ⟨(some 48), .bin .sub (.t 46) (.t 47), none⟩,
                  ⟨(some 12), .mv (.t 48), none⟩] false)
                .skip))
              (.region [
                ⟨(some 49), .mv (.t 0), none⟩,
                ⟨(some 50), .mv (.t 11), none⟩,
                ⟨(some 51), .mv (.t 0), none⟩,
                ⟨(some 52), .mv (.t 1), none⟩,
                ⟨(some 53), .mv (.t 12), none⟩,
                ⟨(some 54), .bin .add (.t 52) (.t 53), none⟩,
                ⟨(some 55), .mv (.t 0), none⟩,
                ⟨(some 56), .mv (.t 1), none⟩,
                ⟨(some 57), .mv (.t 12), none⟩,
                ⟨(some 58), .bin .add (.t 56) (.t 57), none⟩,
                ⟨(some 59), .idxa 2 (.t 55) (.t 58), none⟩,
                ⟨(some 60), .load true 2 (.t 59), none⟩,
                ⟨(some 61), .mv (.t 0), none⟩,
                ⟨(some 62), .mv (.t 11), none⟩,
                ⟨(some 63), .idxa 2 (.t 61) (.t 62), none⟩,
                ⟨(some 64), .load true 2 (.t 63), none⟩,
                ⟨(some 65), .idxa 2 (.t 49) (.t 50), none⟩,
                ⟨none, .store 2 (.t 65) (.t 60), none⟩,
                ⟨(some 66), .idxa 2 (.t 51) (.t 54), none⟩,
                ⟨none, .store 2 (.t 66) (.t 64), none⟩] true))))
           (.region [
             ⟨(some 36), .mv (.t 11), none⟩,
             ⟨(some 37), .bin .add (.t 36) (.c (.int .i64 1)), none⟩,
             ⟨(some 11), .mv (.t 37), none⟩] false))))))))
    .skip))),
 []⟩

/-- slices.choosePivotCmpFunc[neume/rod.pair] -/
def lf46 : LFunc := ⟨63, 4,
 (.seq
  (.region [
    ⟨(some 8), .mv (.c (.int .i64 0)), none⟩,
    ⟨(some 9), .mv (.c (.int .i64 0)), none⟩] false)
  (.seq
   (.region [
     ⟨(some 15), .mv (.t 2), none⟩,
     ⟨(some 16), .mv (.t 1), none⟩,
     ⟨(some 17), .bin .sub (.t 15) (.t 16), none⟩,
     ⟨(some 10), .mv (.t 17), none⟩] false)
   (.seq
    (.region [
      ⟨(some 11), .newv [.int .i64 0], none⟩] false)
    (.seq
     (.region [
       ⟨(some 18), .mv (.t 1), none⟩,
       ⟨(some 19), .mv (.t 10), none⟩,
       ⟨(some 20), .bin .quo (.t 19) (.c (.int .i64 4)), none⟩,
       ⟨(some 21), .bin .mul (.t 20) (.c (.int .i64 1)), none⟩,
       ⟨(some 22), .bin .add (.t 18) (.t 21), none⟩,
       ⟨(some 12), .mv (.t 22), none⟩] false)
     (.seq
      (.region [
        ⟨(some 23), .mv (.t 1), none⟩,
        ⟨(some 24), .mv (.t 10), none⟩,
        ⟨(some 25), .bin .quo (.t 24) (.c (.int .i64 4)), none⟩,
        ⟨(some 26), .bin .mul (.t 25) (.c (.int .i64 2)), none⟩,
        ⟨(some 27), .bin .add (.t 23) (.t 26), none⟩,
        ⟨(some 13), .mv (.t 27), none⟩] false)
      (.seq
       (.region [
         ⟨(some 28), .mv (.t 1), none⟩,
         ⟨(some 29), .mv (.t 10), none⟩,
         ⟨(some 30), .bin .quo (.t 29) (.c (.int .i64 4)), none⟩,
         ⟨(some 31), .bin .mul (.t 30) (.c (.int .i64 3)), none⟩,
         ⟨(some 32), .bin .add (.t 28) (.t 31), none⟩,
         ⟨(some 14), .mv (.t 32), none⟩] false)
       (.seq
        (.seq
         (.region [
           ⟨(some 33), .mv (.t 10), none⟩,
           ⟨(some 34), .bin .geq (.t 33) (.c (.int .i64 8)), none⟩] false)
         (.cond (.t 34)
          (.seq
           (.seq
            (.region [
              ⟨(some 35), .mv (.t 10), none⟩,
              ⟨(some 36), .bin .geq (.t 35) (.c (.int .i64 50)), none⟩] false)
            (.cond (.t 36)
             (.seq
              (.region [
                ⟨(some 37), .mv (.t 0), none⟩,
                ⟨(some 38), .mv (.t 12), none⟩,
                ⟨(some 39), .mv (.t 3), none⟩,
                ⟨(some 40), .call false (.c (.fn 56 [] [])) [.t 37, .t 38, .t 11, .t 39], none⟩,
                ⟨(some 12), .mv (.t 40), none⟩] false)
              (.seq
               (.region [
                 ⟨(some 41), .mv (.t 0), none⟩,
                 ⟨(some 42), .mv (.t 13), none⟩,
                 ⟨(some 43), .mv (.t 3), none⟩,
                 ⟨(some 44), .call false (.c (.fn 56 [] [])) [.t 41, .t 42, .t 11, .t 43], none⟩,
                 ⟨(some 13), .mv (.t 44), none⟩] false)
               (.region [
                 ⟨(some 45), .mv (.t 0), none⟩,
                 ⟨(some 46), .mv (.t 14), none⟩,
                 ⟨(some 47), .mv (.t 3), none⟩,
                 ⟨(some 48), .call false (.c (.fn 56 [] [])) [.t 45, .t 46, .t 11, .t 47], none⟩,
                 ⟨(some 14), .mv (.t 48), none⟩] false)))
             .skip))
           (.region [
             ⟨(some 49), .mv (.t 0), none⟩,
             ⟨(some 50), .mv (.t 12), none⟩,
             ⟨(some 51), .mv (.t 13), none⟩,
             ⟨(some 52), .mv (.t 14), none⟩,
             ⟨(some 53), .mv (.t 3), none⟩,
             ⟨(some 54), .call false (.c (.fn 57 [] [])) [.t 49, .t 50, .t 51, .t 52, .t 11, .t 53], none⟩,
             ⟨(some 13), .mv (.t 54), none⟩] false))
          .skip))
        (.seq
         (.region [
           ⟨(some 55), .load false 1 (.t 11), none⟩] false)
         (.block 0
          (.seq
           (.region [
             ⟨(some 58), .bin .eql (.t 55) (.c (.int .i64 0)), none⟩,
             ⟨(some 57), .mv (.t 58), none⟩] false)
           (.cond (.t 57)
            (.seq
             (.region [
               ⟨(some 59), .mv (.t 13), none⟩,
               ⟨(some 8), .mv (.t 59), none⟩,
               ⟨(some 9), .mv (.c (.int .i64 1)), none⟩] false)
             .ret)
            (.seq
             (.region [
               ⟨(some 61), .bin .eql (.t 55) (.c (.int .i64 12)), none⟩,
               ⟨(some 60), .mv (.t 61), none⟩] false)
             (.cond (.t 60)
              (.seq
               (.region [
                 ⟨(some 62), .mv (.t 13), none⟩,
                 ⟨(some 8), .mv (.t 62), none⟩,
                 ⟨(some 9), .mv (.c (.int .i64 2)), none⟩] false)
               .ret)
              (.seq
               (.region [
                 ⟨(some 56), .mv (.t 13), none⟩,
                 ⟨(some 8), .mv (.t 56), none⟩,
                 ⟨(some 9), .mv (.c (.int .i64 0)), none⟩] false)
               .ret)))))))))))))),
 [.t 8, .t 9]⟩

/-- slices.reverseRangeCmpFunc[neume/rod.pair] -/
def lf47 : LFunc := ⟨34, 4,
 (.seq
  (.region [
    ⟨(some 10), .mv (.t 1), none⟩,
    ⟨(some 8), .mv (.t 10), none⟩] false)
  (.seq
   (.region [
     ⟨(some 11), .mv (.t 2), none⟩,
     ⟨(some 12), .bin .sub (.t 11) (.c (.int .i64 1)), none⟩,
     ⟨(some 9), .mv (.t 12), none⟩] false)
   (.block 0
    (.loop
     (.seq
      (.seq
       (.region [
         ⟨(some 13), .mv (.t 8), none⟩,
         ⟨(some 14), .mv (.t 9), none⟩,
         ⟨(some 15), .bin .lss (.t 13) (.t 14), none⟩] false)
       (.cond (.t 15)
        .skip
        (.exit 0)))
      (.block 1
       (.seq
        (.region [
          ⟨(some 16), .mv (.t 0), none⟩,
          ⟨(some 17), .mv (.t 8), none⟩,
          ⟨(some 18), .mv (.t 0), none⟩,
          ⟨(some 19), .mv (.t 9), none⟩,
          ⟨(some 20), .mv (.t 0), none⟩,
          ⟨(some 21), .mv (.t 9), none⟩,
          ⟨(some 22), .idxa 2 (.t 20) (.t 21), none⟩,
          ⟨(some 23), .load true 2 (.t 22), none⟩,
          ⟨(some 24), .mv (.t 0), none⟩,
          ⟨(some 25), .mv (.t 8), none⟩,
          ⟨(some 26), .idxa 2 (.t 24) (.t 25), none⟩,
          ⟨(some 27), .load true 2 (.t 26), none⟩,
          ⟨(some 28), .idxa 2 (.t 16) (.t 17), none⟩,
          ⟨none, .store 2 (.t 28) (.t 23), none⟩,
          ⟨(some 29), .idxa 2 (.t 18) (.t 19), none⟩,
          ⟨none, .store 2 (.t 29) (.t 27), none⟩] true)
        (.seq
         (.region [
           ⟨(some 30), .mv (.t 8), none⟩,
           ⟨(some 31), .bin .add (.t 30) (.c (.int .i64 1)), none⟩,
           ⟨(some 8), .mv (.t 31), none⟩] false)
         (.region [
           ⟨(some 32), .mv (.t 9), none⟩,
           ⟨(some 33), .bin .sub (.t 32) (.c (.int .i64 1)), none⟩,
           ⟨(some 9), .mv (.t 33), none⟩] false))))))))),
 []⟩

/-- slices.partialInsertionSortCmpFunc[neume/rod.pair] -/
def lf48 : LFunc := ⟨141, 4,
 (.seq
  (.region [
    ⟨(some 8), .mv (.c (.bool false)), none⟩] false)
  (.seq
   (.region [
     ⟨(some 13), .mv (.t 1), none⟩,
     ⟨(some 14), .bin .add (.t 13) (.c (.int .i64 1)), none⟩,
     ⟨(some 9), .mv (.t 14), none⟩] false)
   (.seq
    (.seq
     (.region [
       ⟨(some 10), .mv (.c (.int .i64 0)), none⟩] false)
     (.block 0
      (.loop
       (.seq
        (.seq
         (.region [
           ⟨(some 15), .mv (.t 10), none⟩,
           ⟨(some 16), .bin .lss (.t 15) (.c (.int .i64 5)), none⟩] false)
         (.cond (.t 16)
          .skip
          (.exit 0)))
        (.seq
         (.block 1
          (.seq
           (.block 2
            (.loop
             (.seq
              (.seq
               (.region [
                 ⟨(some 19), .mv (.t 9), none⟩,
                 ⟨(some 20), .mv (.t 2), none⟩,
                 ⟨(some 21), .bin .lss (.t 19) (.t 20), none⟩,
                 ⟨(some 22), .mv (.t 21), none⟩,
                 ⟨(some 23), .mv (.t 3), (some (22, true))⟩,
                 ⟨(some 24), .mv (.t 0), (some (22, true))⟩,
                 ⟨(some 25), .mv (.t 9), (some (22, true))⟩,
                 ⟨(some 26), .idxa 2 (.t 24) (.t 25), (some (22, true))⟩,
                 ⟨(some 27), .load true 2 (.t 26), (some (22, true))⟩,
                 ⟨(some 28), .mv (.t 0), (some (22, true))⟩,
                 ⟨(some 29), .mv (.t 9), (some (22, true))⟩,
                 ⟨(some 30), .bin .sub (.t 29) (.c (.int .i64 1)), (some (22, true))⟩,
                 ⟨(some 31), .idxa 2 (.t 28) (.t 30), (some (22, true))⟩,
                 ⟨(some 32), .load true 2 (.t 31), (some (22, true))⟩,
                 ⟨(some 33), .call false (.t 23) [.t 27, .t 32], (some (22, true))⟩,
                 ⟨(some 34), .bin .lss (.t 33) (.c (.int .i64 0)), (some (22, true))⟩,
                 ⟨(some 35), .not (.t 34), (some (22, true))⟩,
                 ⟨(some 36), .pick (.t 22) (.t 35) (.c (.bool false)), none⟩] true)
               (.cond (.t 36)
                .skip
                (.exit 2)))
              (.block 3
               (.region [
                 ⟨(some 37), .mv (.t 9), none⟩,
                 ⟨(some 38), .bin .add (.t 37) (.c (.int .i64 1)), none⟩,
                 ⟨(some 9), .mv (.t 38), none⟩] false)))))
           (.seq
            (.seq
             (.region [
               ⟨(some 39), .mv (.t 9), none⟩,
               ⟨(some 40), .mv (.t 2), none⟩,
               ⟨(some 41), .bin .eql (.t 39) (.t 40), none⟩] false)
             (.cond (.t 41)
              (.seq
               (.region [
                 ⟨(some 8), .mv (.c (.bool true)), none⟩] false)
               .ret)
              .skip))
            (.seq
             (.seq
              (.region [
                ⟨(some 42), .mv (.t 2), none⟩,
                ⟨(some 43), .mv (.t 1), none⟩,
                ⟨(some 44), .bin .sub (.t 42) (.t 43), none⟩,
                ⟨(some 45), .bin .lss (.t 44) (.c (.int .i64 50)), none⟩] false)
              (.cond (.t 45)
               (.seq
                (.region [
                  ⟨(some 8), .mv (.c (.bool false)), none⟩] false)
                .ret)
               .skip))
             (.seq
              (.region [
                ⟨(some 46), .mv (.t 0), none⟩,
                ⟨(some 47), .mv (.t 9), none⟩,
                ⟨(some 48), .mv (.t 0), none⟩,
                ⟨(some 49), .mv (.t 9), none⟩,
                ⟨(some 50), .bin .sub (.t 49) (.c (.int .i64 1)), none⟩,
                ⟨(some 51), .mv (.t 0), none⟩,
                ⟨(some 52), .mv (.t 9), none⟩,
                ⟨(some 53), .bin .sub (.t 52) (.c (.int .i64 1)), none⟩,
                ⟨(some 54), .idxa 2 (.t 51) (.t 53), none⟩,
                ⟨(some 55), .load true 2 (.t 54), none⟩,
                ⟨(some 56), .mv (.t 0), none⟩,
                ⟨(some 57), .mv (.t 9), none⟩,
                ⟨(some 58), .idxa 2 (.t 56) (.t 57), none⟩,
                ⟨(some 59), .load true 2 (.t 58), none⟩,
                ⟨(some 60), .idxa 2 (.t 46) (.t 47), none⟩,
                ⟨none, .store 2 (.t 60) (.t 55), none⟩,
                ⟨(some 61), .idxa 2 (.t 48) (.t 50), none⟩,
                ⟨none, .store 2 (.t 61) (.t 59), none⟩] true)
              (.seq
               (.seq
                (.region [
                  ⟨(some 62), .mv (.t 9), none⟩,
                  ⟨(some 63), .mv (.t 1), none⟩,
                  ⟨(some 64), .bin .sub (.t 62) (.t 63), none⟩,
                  ⟨(some 65), .bin .geq (.t 64) (.c (.int .i64 2)), none⟩] false)
                (.cond (.t 65)
                 (.seq
                  (.region [
                    ⟨(some 66), .mv (.t 9), none⟩,
                    ⟨(some 67), .bin .sub (.t 66) (.c (.int .i64 1)), none⟩,
                    ⟨(some 11), .mv (.t 67), none⟩] false)
                  (.block 4
                   (.loop
                    (.seq
                     (.seq
                      (.region [
                        ⟨(some 68), .mv (.t 11), none⟩,
                        ⟨(some 69), .bin .geq (.t 68) (.c (.int .i64 1)), none⟩] false)
                      (.cond (.t 69)
                       .skip
                       (.exit 4)))
                     (.seq
                      (.block 5
                       (.seq
                        (.seq
                         (.region [
                           ⟨(some 72), .mv (.t 3), none⟩,
                           ⟨(some 73), .mv (.t 0), none⟩,
                           ⟨(some 74), .mv (.t 11), none⟩,
                           ⟨(some 75), .idxa 2 (.t 73) (.t 74), none⟩,
                           ⟨(some 76), .load true 2 (.t 75), none⟩,
                           ⟨(some 77), .mv (.t 0), none⟩,
                           ⟨(some 78), .mv (.t 11), none⟩,
                           ⟨(some 79), .bin .sub (.t 78) (.c (.int .i64 1)), none⟩,
                           ⟨(some 80), .idxa 2 (.t 77) (.t 79), none⟩,
                           ⟨(some 81), .load true 2 (.t 80), none⟩,
                           ⟨(some 82), .call false (.t 72) [.t 76, .t 81], none⟩,
                           ⟨(some 83), .bin .lss (.t 82) (.c (.int .i64 0)), none⟩,
                           ⟨(some 84), .not (.t 83), none⟩] true)
                         (.cond (.t 84)
                          (.exit 4)
                          .skip))
                        (.region [
                          ⟨(some 85), .mv (.t 0), none⟩,
                          ⟨(some 86), .mv (.t 11), none⟩,
                          ⟨(some 87), .mv (.t 0), none⟩,
                          ⟨(some 88), .mv (.t 11), none⟩,
                          ⟨(some 89), .bin .sub (.t 88) (.c (.int .i64 1)), none⟩,
                          ⟨(some 90), .mv (.t 0), none⟩,
                          ⟨(some 91), .mv (.t 11), none⟩,
                          ⟨(some 92), .bin .sub (.t 91) (.c (.int .i64 1)), none⟩,
                          ⟨(some 93), .idxa 2 (.t 90) (.t 92), none⟩,
                          ⟨(some 94), .load true 2 (.t 93), none⟩,
                          ⟨(some 95), .mv (.t 0), none⟩,
                          ⟨(some 96), .mv (.t 11), none⟩,
                          ⟨(some 97), .idxa 2 (.t 95) (.t 96), none⟩,
                          ⟨(some 98), .load true 2 (.t 97), none⟩,
                          ⟨(some 99), .idxa 2 (.t 85) (.t 86), none⟩,
                          ⟨none, .store 2 (.t 99) (.t 94), none⟩,
                          ⟨(some 100), .idxa 2 (.t 87) (.t 89), none⟩,
                          ⟨none, .store 2 (.t 100) (.t 98), none⟩] true)))
                      (.region [
                        ⟨(some 70), .mv (.t 11), none⟩,
                        ⟨(some 71), .bin .sub (.t 70) (.c (.int .i64 1)), none⟩,
                        ⟨(some 11), .mv (.t 71), none⟩] false))))))
                 .skip))
               (.seq
                (.region [
                  ⟨(some 101), .mv (.t 2), none⟩,
                  ⟨(some 102), .mv (.t 9), none⟩,
                  ⟨(some 103), .bin .sub (.t 101) (.t 102), none⟩,
                  ⟨(some 104), .bin .geq (.t 103) (.c (.int .i64 2)), none⟩] false)
                (.cond (.t 104)
                 (.seq
                  (.region [
                    ⟨(some 105), .mv (.t 9), none⟩,
                    ⟨(some 106), .bin .add (.t 105) (.c (.int .i64 1)), none⟩,
                    ⟨(some 12), .mv (.t 106), none⟩] false)
                  (.block 6
                   (.loop
                    (.seq
                     (.seq
                      (.region [
                        ⟨(some 107), .mv (.t 12), none⟩,
                        ⟨(some 108), .mv (.t 2), none⟩,
                        ⟨(some 109), .bin .lss (.t 107) (.t 108), none⟩] false)
                      (.cond (.t 109)
                       .skip
                       (.exit 6)))
                     (.seq
                      (.block 7
                       (.seq
                        (.seq
                         (.region [
                           ⟨(some 112), .mv (.t 3), none⟩,
                           ⟨(some 113), .mv (.t 0), none⟩,
                           ⟨(some 114), .mv (.t 12), none⟩,
                           ⟨(some 115), .idxa 2 (.t 113) (.t 114), none⟩,
                           ⟨(some 116), .load true 2 (.t 115), none⟩,
                           ⟨(some 117), .mv (.t 0), none⟩,
                           ⟨(some 118), .mv (.t 12), none⟩,
                           ⟨(some 119), .bin .sub (.t 118) (.c (.int .i64 1)), none⟩,
                           ⟨(some 120), .idxa 2 (.t 117) (.t 119), none⟩,
                           ⟨(some 121), .load true 2 (.t 120), none⟩,
                           ⟨(some 122), .call false (.t 112) [.t 116, .t 121], none⟩,
                           ⟨(some 123), .bin .lss (.t 122) (.c (.int .i64 0)), none⟩,
                           ⟨(some 124), .not (.t 123), none⟩] true)
                         (.cond (.t 124)
                          (.exit 6)
                          .skip))
                        (.region [
                          ⟨(some 125), .mv (.t 0), none⟩,
                          ⟨(some 126), .mv (.t 12), none⟩,
                          ⟨(some 127), .mv (.t 0), none⟩,
                          ⟨(some 128), .mv (.t 12), none⟩,
                          ⟨(some 129), .bin .sub (.t 128) (.c (.int .i64 1)), none⟩,
                          ⟨(some 130), .mv (.t 0), none⟩,
                          ⟨(some 131), .mv (.t 12), none⟩,
                          ⟨(some 132), .bin .sub (.t 131) (.c (.int .i64 1)), none⟩,
                          ⟨(some 133), .idxa 2 (.t 130) (.t 132), none⟩,
                          ⟨(some 134), .load true 2 (.t 133), none⟩,
                          ⟨(some 135), .mv (.t 0), none⟩,
                          ⟨(some 136), .mv (.t 12), none⟩,
                          ⟨(some 137), .idxa 2 (.t 135) (.t 136), none⟩,
                          ⟨(some 138), .load true 2 (.t 137), none⟩,
                          ⟨(some 139), .idxa 2 (.t 125) (.t 126), none⟩,
                          ⟨none, .store 2 (.t 139) (.t 134), none⟩,
                          ⟨(some 140), .idxa 2 (.t 127) (.t 129), none⟩,
                          ⟨none, .store 2 (.t 140) (.t 138), none⟩] true)))
                      (.region [
                        ⟨(some 110), .mv (.t 12), none⟩,
                        ⟨(some 111), .bin .add (.t 110) (.c (.int .i64 1)), none⟩,
                        ⟨(some 12), .mv (.t 111), none⟩] false))))))
                 .skip))))))))
         (.region [
           ⟨(some 17), .mv (.t 10), none⟩,
           ⟨(some 18), .bin .add (.t 17) (.c (.int .i64 1)), none⟩,
           ⟨(some 10), .mv (.t 18), none⟩] false))))))
    (.seq
     (.region [
       ⟨(some 8), .mv (.c (.bool false)), none⟩] false)
     .ret)))),
 [.t 8]⟩

/-- slices.partitionEqualCmpFunc[neume/rod.pair] -/
def lf49 : LFunc := ⟨90, 5,
 (.seq
  (.region [
    ⟨(some 10), .mv (.c (.int .i64 0)), none⟩] false)
  (.seq
   (.region [
     ⟨(some 13), .mv (.t 0), none⟩,
     ⟨(some 14), .mv (.t 1), none⟩,
     ⟨(some 15), .mv (.t 0), none⟩,
     ⟨(some 16), .mv (.t 3), none⟩,
     ⟨(some 17), .mv (.t 0), none⟩,
     ⟨(some 18), .mv (.t 3), none⟩,
     ⟨(some 19), .idxa 2 (.t 17) (.t 18), none⟩,
     ⟨(some 20), .load true 2 (.t 19), none⟩,
     ⟨(some 21), .mv (.t 0), none⟩,
     ⟨(some 22), .mv (.t 1), none⟩,
     ⟨(some 23), .idxa 2 (.t 21) (.t 22), none⟩,
     ⟨(some 24), .load true 2 (.t 23), none⟩,
     ⟨(some 25), .idxa 2 (.t 13) (.t 14), none⟩,
     ⟨none, .store 2 (.t 25) (.t 20), none⟩,
     ⟨(some 26), .idxa 2 (.t 15) (.t 16), none⟩,
     ⟨none, .store 2 (.t 26) (.t 24), none⟩] true)
   (.seq
    (.region [
      ⟨(some 27), .mv (.t 1), none⟩,
      ⟨(some 28), .bin .add (.t 27) (.c (.int .i64 1)), none⟩,
      ⟨(some 29), .mv (.t 2), none⟩,
      ⟨(some 30), .bin .sub (.t 29) (.c (.int .i64 1)), none⟩,
      ⟨(some 11), .mv (.t 28), none⟩,
      ⟨(some 12), .mv (.t 30), none⟩] false)
    (.seq
     (.block 0
      (.loop
       (.block 1
        (.seq
         (.block 2
          (.loop
           (.seq
            (.seq
             (.region [
               ⟨(some 31), .mv (.t 11), none⟩,
               ⟨(some 32), .mv (.t 12), none⟩,
               ⟨(some 33), .bin .leq (.t 31) (.t 32), none⟩,
               ⟨(some 34), .mv (.t 33), none⟩,
               ⟨(some 35), .mv (.t 4), (some (34, true))⟩,
               ⟨(some 36), .mv (.t 0), (some (34, true))⟩,
               ⟨(some 37), .mv (.t 1), (some (34, true))⟩,
               ⟨(some 38), .idxa 2 (.t 36) (.t 37), (some (34, true))⟩,
               ⟨(some 39), .load true 2 (.t 38), (some (34, true))⟩,
               ⟨(some 40), .mv (.t 0), (some (34, true))⟩,
               ⟨(some 41), .mv (.t 11), (some (34, true))⟩,
               ⟨(some 42), .idxa 2 (.t 40) (.t 41), (some (34, true))⟩,
               ⟨(some 43), .load true 2 (.t 42), (some (34, true))⟩,
               ⟨(some 44), .call false (.t 35) [.t 39, .t 43], (some (34, true))⟩,
               ⟨(some 45), .bin .lss (.t 44) (.c (.int .i64 0)), (some (34, true))⟩,
               ⟨(some 46), .not (.t 45), (some (34, true))⟩,
               ⟨(some 47), .pick (.t 34) (.t 46) (.c (.bool false)), none⟩] true)
             (.cond (.t 47)
              .skip
              (.exit 2)))
            (.block 3
             (.region [
               ⟨(some 48), .mv (.t 11), none⟩,
               ⟨(some 49), .bin .add (.t 48) (.c (.int .i64 1)), none⟩,
               ⟨(some 11), .mv (.t 49), none⟩] false)))))
         (.seq
          (.block 4
           (.loop
            (.seq
             (.seq
              (.region [
                ⟨(some 50), .mv (.t 11), none⟩,
                ⟨(some 51), .mv (.t 12), none⟩,
                ⟨(some 52), .bin .leq (.t 50) (.t 51), none⟩,
                ⟨(some 53), .mv (.t 52), none⟩,
                ⟨(some 54), .mv (.t 4), (some (53, true))⟩,
                ⟨(some 55), .mv (.t 0), (some (53, true))⟩,
                ⟨(some 56), .mv (.t 1), (some (53, true))⟩,
                ⟨(some 57), .idxa 2 (.t 55) (.t 56), (some (53, true))⟩,
                ⟨(some 58), .load true 2 (.t 57), (some (53, true))⟩,
                ⟨(some 59), .mv (.t 0), (some (53, true))⟩,
                ⟨(some 60), .mv (.t 12), (some (53, true))⟩,
                ⟨(some 61), .idxa 2 (.t 59) (.t 60), (some (53, true))⟩,
                ⟨(some 62), .load true 2 (.t 61), (some (53, true))⟩,
                ⟨(some 63), .call false (.t 54) [.t 58, .t 62], (some (53, true))⟩,
                ⟨(some 64), .bin .lss (.t 63) (.c (.int .i64 0)), (some (53, true))⟩,
                ⟨(some 65), .pick (.t 53) (.t 64) (.c (.bool false)), none⟩] true)
              (.cond (.t 65)
               .skip
               (.exit 4)))
             (.block 5
              (.region [
                ⟨(some 66), .mv (.t 12), none⟩,
                ⟨(some 67), .bin .sub (.t 66) (.c (.int .i64 1)), none⟩,
                ⟨(some 12), .mv (.t 67), none⟩] false)))))
          (.seq
           (.seq
            (.region [
              ⟨(some 68), .mv (.t 11), none⟩,
              ⟨(some 69), .mv (.t 12), none⟩,
              ⟨(some 70), .bin .gtr (.t 68) (.t 69), none⟩] false)
            (.cond (.t 70)
             (.exit 0)
             .skip))
           (.seq
            (.region [
              ⟨(some 71), .mv (.t 0), none⟩,
              ⟨(some 72), .mv (.t 11), none⟩,
              ⟨(some 73), .mv (.t 0), none⟩,
              ⟨(some 74), .mv (.t 12), none⟩,
              ⟨(some 75), .mv (.t 0), none⟩,
              ⟨(some 76), .mv (.t 12), none⟩,
              ⟨(some 77), .idxa 2 (.t 75) (.t 76), none⟩,
              ⟨(some 78), .load true 2 (.t 77), none⟩,
              ⟨(some 79), .mv (.t 0), none⟩,
              ⟨(some 80), .mv (.t 11), none⟩,
              ⟨(some 81), .idxa 2 (.t 79) (.t 80), none⟩,
              ⟨(some 82), .load true 2 (.t 81), none⟩,
              ⟨(some 83), .idxa 2 (.t 71) (.t 72), none⟩,
              ⟨none, .store 2 (.t 83) (.t 78), none⟩,
              ⟨(some 84), .idxa 2 (.t 73) (.t 74), none⟩,
              ⟨none, .store 2 (.t 84) (.t 82), none⟩] true)
            (.seq
             (.region [
               ⟨(some 85), .mv (.t 11), none⟩,
               ⟨(some 86), .bin .add (.t 85) (.c (.int .i64 1)), none⟩,
               ⟨(some 11), .mv (.t 86), none⟩] false)
             (.region [
               ⟨(some 87), .mv (.t 12), none⟩,
               ⟨(some 88), .bin .sub (.t 87) (.c (.int .i64 1)), none⟩,
               ⟨(some 12), .mv (.t 88), none⟩] false)))))))))
     (.seq
      (.region [
        ⟨(some 89), .mv (.t 11), none⟩,
        ⟨(some 10), .mv (.t 89), none⟩] false)
      .ret))))),
 [.t 10]⟩

/-- slices.partitionCmpFunc[neume/rod.pair] -/
def lf50 : LFunc := ⟨178, 5,
 (.seq
  (.region [
    ⟨(some 10), .mv (.c (.int .i64 0)), none⟩,
    ⟨(some 11), .mv (.c (.bool false)), none⟩] false)
  (.seq
   (.region [
     ⟨(some 14), .mv (.t 0), none⟩,
     ⟨(some 15), .mv (.t 1), none⟩,
     ⟨(some 16), .mv (.t 0), none⟩,
     ⟨(some 17), .mv (.t 3), none⟩,
     ⟨(some 18), .mv (.t 0), none⟩,
     ⟨(some 19), .mv (.t 3), none⟩,
     ⟨(some 20), .idxa 2 (.t 18) (.t 19), none⟩,
     ⟨(some 21), .load true 2 (.t 20), none⟩,
     ⟨(some 22), .mv (.t 0), none⟩,
     ⟨(some 23), .mv (.t 1), none⟩,
     ⟨(some 24), .idxa 2 (.t 22) (.t 23), none⟩,
     ⟨(some 25), .load true 2 (.t 24), none⟩,
     ⟨(some 26), .idxa 2 (.t 14) (.t 15), none⟩,
     ⟨none, .store 2 (.t 26) (.t 21), none⟩,
     ⟨(some 27), .idxa 2 (.t 16) (.t 17), none⟩,
     ⟨none, .store 2 (.t 27) (.t 25), none⟩] true)
   (.seq
    (.region [
      ⟨(some 28), .mv (.t 1), none⟩,
      ⟨(some 29), .bin .add (.t 28) (.c (.int .i64 1)), none⟩,
      ⟨(some 30), .mv (.t 2), none⟩,
      ⟨(some 31), .bin .sub (.t 30) (.c (.int .i64 1)), none⟩,
      ⟨(some 12), .mv (.t 29), none⟩,
      ⟨(some 13), .mv (.t 31), none⟩] false)
    (.seq
     (.block 0
      (.loop
       (.seq
        (.seq
         (.region [
           ⟨(some 32), .mv (.t 12), none⟩,
           ⟨(some 33), .mv (.t 13), none⟩,
           ⟨(some 34), .bin .leq (.t 32) (.t 33), none⟩,
           ⟨(some 35), .mv (.t 34), none⟩,
           ⟨(some 36), .mv (.t 4), (some (35, true))⟩,
           ⟨(some 37), .mv (.t 0), (some (35, true))⟩,
           ⟨(some 38), .mv (.t 12), (some (35, true))⟩,
           ⟨(some 39), .idxa 2 (.t 37) (.t 38), (some (35, true))⟩,
           ⟨(some 40), .load true 2 (.t 39), (some (35, true))⟩,
           ⟨(some 41), .mv (.t 0), (some (35, true))⟩,
           ⟨(some 42), .mv (.t 1), (some (35, true))⟩,
           ⟨(some 43), .idxa 2 (.t 41) (.t 42), (some (35, true))⟩,
           ⟨(some 44), .load true 2 (.t 43), (some (35, true))⟩,
           ⟨(some 45), .call false (.t 36) [.t 40, .t 44], (some (35, true))⟩,
           ⟨(some 46), .bin .lss (.t 45) (.c (.int .i64 0)), (some (35, true))⟩,
           ⟨(some 47), .pick (.t 35) (.t 46) (.c (.bool false)), none⟩] true)
         (.cond (.t 47)
          .skip
          (.exit 0)))
        (.block 1
         (.region [
           ⟨(some 48), .mv (.t 12), none⟩,
           ⟨(some 49), .bin .add (.t 48) (.c (.int .i64 1)), none⟩,
           ⟨(some 12), .mv (.t 49), none⟩] false)))))
     (.seq
      (.block 2
       (.loop
        (.seq
         (.seq
          (.region [
            ⟨(some 50), .mv (.t 12), none⟩,
            ⟨(some 51), .mv (.t 13), none⟩,
            ⟨(some 52), .bin .leq (.t 50) (.t 51), none⟩,
            ⟨(some 53), .mv (.t 52), none⟩,
            ⟨(some 54), .mv (.t 4), (some (53, true))⟩,
            ⟨(some 55), .mv (.t 0), (some (53, true))⟩,
            ⟨(some 56), .mv (.t 13), (some (53, true))⟩,
            ⟨(some 57), .idxa 2 (.t 55) (.t 56), (some (53, true))⟩,
            ⟨(some 58), .load true 2 (.t 57), (some (53, true))⟩,
            ⟨(some 59), .mv (.t 0), (some (53, true))⟩,
            ⟨(some 60), .mv (.t 1), (some (53, true))⟩,
            ⟨(some 61), .idxa 2 (.t 59) (.t 60), (some (53, true))⟩,
            ⟨(some 62), .load true 2 (.t 61), (some (53, true))⟩,
            ⟨(some 63), .call false (.t 54) [.t 58, .t 62], (some (53, true))⟩,
            ⟨(some 64), .bin .lss (.t 63) (.c (.int .i64 0)), (some (53, true))⟩,
            ⟨(some 65), .not (.t 64), (some (53, true))⟩,
            ⟨(some 66), .pick (.t 53) (.t 65) (.c (.bool false)), none⟩] true)
          (.cond (.t 66)
           .skip
           (.exit 2)))
         (.block 3
          (.region [
            ⟨(some 67), .mv (.t 13), none⟩,
            ⟨(some 68), .bin .sub (.t 67) (.c (.int .i64 1)), none⟩,
            ⟨(some 13), .mv (.t 68), none⟩] false)))))
      (.seq
       (.seq
        (.region [
          ⟨(some 69), .mv (.t 12), none⟩,
          ⟨(some 70), .mv (.t 13), none⟩,
          ⟨(some 71), .bin .gtr (.t 69) (.t 70), none⟩] false)
        (.cond (.t 71)
         (.seq
          (.region [
            ⟨(some 72), .mv (.t 0), none⟩,
            ⟨(some 73), .mv (.t 13), none⟩,
            ⟨(some 74), .mv (.t 0), none⟩,
            ⟨(some 75), .mv (.t 1), none⟩,
            ⟨(some 76), .mv (.t 0), none⟩,
            ⟨(some 77), .mv (.t 1), none⟩,
            ⟨(some 78), .idxa 2 (.t 76) (.t 77), none⟩,
            ⟨(some 79), .load true 2 (.t 78), none⟩,
            ⟨(some 80), .mv (.t 0), none⟩,
            ⟨(some 81), .mv (.t 13), none⟩,
            ⟨(some 82), .idxa 2 (.t 80) (.t 81), none⟩,
            ⟨(some 83), .load true 2 (.t 82), none⟩,
            ⟨(some 84), .idxa 2 (.t 72) (.t 73), none⟩,
            ⟨none, .store 2 (.t 84) (.t 79), none⟩,
            ⟨(some 85), .idxa 2 (.t 74) (.t 75), none⟩,
            ⟨none, .store 2 (.t 85) (.t 83), none⟩] true)
          (.seq
           (.region [
             ⟨(some 86), .mv (.t 13), none⟩,
             ⟨(some 10), .mv (.t 86), none⟩,
             ⟨(some 11), .mv (.c (.bool true)), none⟩] false)
           .ret))
         .skip))
       (.seq
        (.region [
          ⟨(some 87), .mv (.t 0), none⟩,
          ⟨(some 88), .mv (.t 12), none⟩,
          ⟨(some 89), .mv (.t 0), none⟩,
          ⟨(some 90), .mv (.t 13), none⟩,
          ⟨(some 91), .mv (.t 0), none⟩,
          ⟨(some 92), .mv (.t 13), none⟩,
          ⟨(some 93), .idxa 2 (.t 91) (.t 92), none⟩,
          ⟨(some 94), .load true 2 (.t 93), none⟩,
          ⟨(some 95), .mv (.t 0), none⟩,
          ⟨(some 96), .mv (.t 12), none⟩,
          ⟨(some 97), .idxa 2 (.t 95) (.t 96), none⟩,
          ⟨(some 98), .load true 2 (.t 97), none⟩,
          ⟨(some 99), .idxa 2 (.t 87) (.t 88), none⟩,
          ⟨none, .store 2 (.t 99) (.t 94), none⟩,
          ⟨(some 100), .idxa 2 (.t 89) (.t 90), none⟩,
          ⟨none, .store 2 (.t 100) (.t 98), none⟩] true)
        (.seq
         (.region [
           ⟨(some 101), .mv (.t 12), none⟩,
           ⟨(some 102), .bin .add (.t 101) (.c (.int .i64 1)), none⟩,
           ⟨(some 12), .mv (.t 102), none⟩] false)
         (.seq
          (.region [
            ⟨(some 103), .mv (.t 13), none⟩,
            ⟨(some 104), .bin .sub (.t 103) (.c (.int .i64 1)), none⟩,
            ⟨(some 13), .mv (.t 104), none⟩] false)
          (.seq
           (.block 4
            (.loop
             (.block 5
              (.seq
               (.block 6
                (.loop
                 (.seq
                  (.seq
                   (.region [
                     ⟨(some 105), .mv (.t 12), none⟩,
                     ⟨(some 106), .mv (.t 13), none⟩,
                     ⟨(some 107), .bin .leq (.t 105) (.t 106), none⟩,
                     ⟨(some 108), .mv (.t 107), none⟩,
                     ⟨(some 109), .mv (.t 4), (some (108, true))⟩,
                     ⟨(some 110), .mv (.t 0), (some (108, true))⟩,
                     ⟨(some 111), .mv (.t 12), (some (108, true))⟩,
                     ⟨(some 112), .idxa 2 (.t 110) (.t 111), (some (108, true))⟩,
                     ⟨(some 113), .load true 2 (.t 112), (some (108, true))⟩,
                     ⟨(some 114), .mv (.t 0), (some (108, true))⟩,
                     ⟨(some 115), .mv (.t 1), (some (108, true))⟩,
                     ⟨(some 116), .idxa 2 (.t 114) (.t 115), (some (108, true))⟩,
                     ⟨(some 117), .load true 2 (.t 116), (some (108, true))⟩,
                     ⟨(some 118), .call false (.t 109) [.t 113, .t 117], (some (108, true))⟩,
                     ⟨(some 119), .bin .lss (.t 118) (.c (.int .i64 0)), (some (108, true))⟩,
                     ⟨(some 120), .pick (.t 108) (.t 119) (.c (.bool false)), none⟩] true)
                   (.cond (.t 120)
                    .skip
                    (.exit 6)))
                  (.block 7
                   (.region [
                     ⟨(some 121), .mv (.t 12), none⟩,
                     ⟨(some 122), .bin .add (.t 121) (.c (.int .i64 1)), none⟩,
                     ⟨(some 12), .mv (.t 122), none⟩] false)))))
               (.seq
                (.block 8
                 (.loop
                  (.seq
                   (.seq
                    (.region [
                      ⟨(some 123), .mv (.t 12), none⟩,
                      ⟨(some 124), .mv (.t 13), none⟩,
                      ⟨(some 125), .bin .leq (.t 123) (.t 124), none⟩,
                      ⟨(some 126), .mv (.t 125), none⟩,
                      ⟨(some 127), .mv (.t 4), (some (126, true))⟩,
                      ⟨(some 128), .mv (.t 0), (some (126, true))⟩,
                      ⟨(some 129), .mv (.t 13), (some (126, true))⟩,
                      ⟨(some 130), .idxa 2 (.t 128) (.t 129), (some (126, true))⟩,
                      ⟨(some 131), .load true 2 (.t 130), (some (126, true))⟩,
                      ⟨(some 132), .mv (.t 0), (some (126, true))⟩,
                      ⟨(some 133), .mv (.t 1), (some (126, true))⟩,
                      ⟨(some 134), .idxa 2 (.t 132) (.t 133), (some (126, true))⟩,
                      ⟨(some 135), .load true 2 (.t 134), (some (126, true))⟩,
                      ⟨(some 136), .call false (.t 127) [.t 131, .t 135], (some (126, true))⟩,
                      ⟨(some 137), .bin .lss (.t 136) (.c (.int .i64 0)), (some (126, true))⟩,
                      ⟨(some 138), .not (.t 137), (some (126, true))⟩,
                      ⟨(some 139), .pick (.t 126) (.t 138) (.c (.bool false)), none⟩] true)
                    (.cond (.t 139)
                     .skip
                     (.exit 8)))
                   (.block 9
                    (.region [
                      ⟨(some 140), .mv (.t 13), none⟩,
                      ⟨(some 141), .bin .sub (.t 140) (.c (.int .i64 1)), none⟩,
                      ⟨(some 13), .mv (.t 141), none⟩] false)))))
                (.seq
                 (.seq
                  (.region [
                    ⟨(some 142), .mv (.t 12), none⟩,
                    ⟨(some 143), .mv (.t 13), none⟩,
                    ⟨(some 144), .bin .gtr (.t 142) (.t 143), none⟩] false)
                  (.cond (.t 144)
                   (.exit 4)
                   .skip))
                 (.seq
                  (.region [
                    ⟨(some 145), .mv (.t 0), none⟩,
                    ⟨(some 146), .mv (.t 12), none⟩,
                    ⟨(some 147), .mv (.t 0), none⟩,
                    ⟨(some 148), .mv (.t 13), none⟩,
                    ⟨(some 149), .mv (.t 0), none⟩,
                    ⟨(some 150), .mv (.t 13), none⟩,
                    ⟨(some 151), .idxa 2 (.t 149) (.t 150), none⟩,
                    ⟨(some 152), .load true 2 (.t 151), none⟩,
                    ⟨(some 153), .mv (.t 0), none⟩,
                    ⟨(some 154), .mv (.t 12), none⟩,
                    ⟨(some 155), .idxa 2 (.t 153) (.t 154), none⟩,
                    ⟨(some 156), .load true 2 (.t 155), none⟩,
                    ⟨(some 157), .idxa 2 (.t 145) (.t 146), none⟩,
                    ⟨none, .store 2 (.t 157) (.t 152), none⟩,
                    ⟨(some 158), .idxa 2 (.t 147) (.t 148), none⟩,
                    ⟨none, .store 2 (.t 158) (.t 156), none⟩] true)
                  (.seq
                   (.region [
                     ⟨(some 159), .mv (.t 12), none⟩,
                     ⟨(some 160), .bin .add (.t 159) (.c (.int .i64 1)), none⟩,
                     ⟨(some 12), .mv (.t 160), none⟩] false)
                   (.region [
                     ⟨(some 161), .mv (.t 13), none⟩,
                     ⟨(some 162), .bin .sub (.t 161) (.c (.int .i64 1)), none⟩,
                     ⟨(some 13), .mv (.t 162), none⟩] false)))))))))
           (.seq
            (.region [
              ⟨(some 163), .mv (.t 0), none⟩,
              ⟨(some 164), .mv (.t 13), none⟩,
              ⟨(some 165), .mv (.t 0), none⟩,
              ⟨(some 166), .mv (.t 1), none⟩,
              ⟨(some 167), .mv (.t 0), none⟩,
              ⟨(some 168), .mv (.t 1), none⟩,
              ⟨(some 169), .idxa 2 (.t 167) (.t 168), none⟩,
              ⟨(some 170), .load true 2 (.t 169), none⟩,
              ⟨(some 171), .mv (.t 0), none⟩,
              ⟨(some 172), .mv (.t 13), none⟩,
              ⟨(some 173), .idxa 2 (.t 171) (.t 172), none⟩,
              ⟨(some 174), .load true 2 (.t 173), none⟩,
              ⟨(some 175), .idxa 2 (.t 163) (.t 164), none⟩,
              ⟨none, .store 2 (.t 175) (.t 170), none⟩,
              ⟨(some 176), .idxa 2 (.t 165) (.t 166), none⟩,
              ⟨none, .store 2 (.t 176) (.t 174), none⟩] true)
            (.seq
             (.region [
               ⟨(some 177), .mv (.t 13), none⟩,
               ⟨(some 10), .mv (.t 177), none⟩,
               ⟨(some 11), .mv (.c (.bool false)), none⟩] false)
             .ret)))))))))))),
 [.t 10, .t 11]⟩

/-- math/bits.Len32 -/
def lf51 : LFunc := ⟨19, 1,
 (.seq
  (.region [
    ⟨(some 2), .mv (.c (.int .i64 0)), none⟩] false)
  (.seq
   (.seq
    (.region [
      ⟨(some 3), .mv (.t 0), none⟩,
      ⟨(some 4), .bin .geq (.t 3) (.c (.int .u32 65536)), none⟩] false)
    (.cond (.t 4)
     (.seq
      (.region [
        ⟨(some 5), .mv (.t 0), none⟩,
        ⟨(some 6), .bin .shr (.t 5) (.c (.int .u64 16)), none⟩,
        ⟨(some 0), .mv (.t 6), none⟩] false)
      (.region [
        ⟨(some 2), .mv (.c (.int .i64 16)), none⟩] false))
     .skip))
   (.seq
    (.seq
     (.region [
       ⟨(some 7), .mv (.t 0), none⟩,
       ⟨(some 8), .bin .geq (.t 7) (.c (.int .u32 256)), none⟩] false)
     (.cond (.t 8)
      (.seq
       (.region [
         ⟨(some 9), .mv (.t 0), none⟩,
         ⟨(some 10), .bin .shr (.t 9) (.c (.int .u64 8)), none⟩,
         ⟨(some 0), .mv (.t 10), none⟩] false)
       (.region [
         ⟨(some 11), .mv (.t 2), none⟩,
         ⟨(some 12), .bin .add (.t 11) (.c (.int .i64 8)), none⟩,
         ⟨(some 2), .mv (.t 12), none⟩] false))
      .skip))
    (.seq
     (.region [
       ⟨(some 13), .mv (.t 2), none⟩,
       ⟨(some 14), .mv (.t 0), none⟩,
       ⟨(some 15), .conv .u8 (.t 14), none⟩,
       ⟨(some 16), .idxs (.c (.str ⟨#[0, 1, 2, 2, 3, 3, 3, 3, 4, 4, 4, 4, 4, 4, 4, 4, 5, 5, 5, 5, 5, 5, 5, 5, 5, 5, 5, 5, 5, 5, 5, 5, 6, 6, 6, 6, 6, 6, 6, 6, 6, 6, 6, 6, 6, 6, 6, 6, 6, 6, 6, 6, 6, 6, 6, 6, 6, 6, 6, 6, 6, 6, 6, 6, 7, 7, 7, 7, 7, 7, 7, 7, 7, 7, 7, 7, 7, 7, 7, 7, 7, 7, 7, 7, 7, 7, 7, 7, 7, 7, 7, 7, 7, 7, 7, 7, 7, 7, 7, 7, 7, 7, 7, 7, 7, 7, 7, 7, 7, 7, 7, 7, 7, 7, 7, 7, 7, 7, 7, 7, 7, 7, 7, 7, 7, 7, 7, 7, 8, 8, 8, 8, 8, 8, 8, 8, 8, 8, 8, 8, 8, 8, 8, 8, 8, 8, 8, 8, 8, 8, 8, 8, 8, 8, 8, 8, 8, 8, 8, 8, 8, 8, 8, 8, 8, 8, 8, 8, 8, 8, 8, 8, 8, 8, 8, 8, 8, 8, 8, 8, 8, 8, 8, 8, 8, 8, 8, 8, 8, 8, 8, 8, 8, 8, 8, 8, 8, 8, 8, 8, 8, 8, 8, 8, 8, 8, 8, 8, 8, 8, 8, 8, 8, 8, 8, 8, 8, 8, 8, 8, 8, 8, 8, 8, 8, 8, 8, 8, 8, 8, 8, 8, 8, 8, 8, 8, 8, 8, 8, 8, 8, 8, 8, 8, 8, 8, 8, 8, 8, 8, 8, 8, 8, 8, 8, 8]⟩)) (.t 15), none⟩,
       ⟨(some 17), .conv .i64 (.t 16), none⟩,
       ⟨(some 18), .bin .add (.t 13) (.t 17), none⟩,
       ⟨(some 2), .mv (.t 18), none⟩] false)
     .ret)))),
 [.t 2]⟩

/-- math/bits.Len64 -/
def lf52 : LFunc := ⟨25, 1,
 (.seq
  (.region [
    ⟨(some 2), .mv (.c (.int .i64 0)), none⟩] false)
  (.seq
   (.seq
    (.region [
      ⟨(some 3), .mv (.t 0), none⟩,
      ⟨(some 4), .bin .geq (.t 3) (.c (.int .u64 4294967296)), none⟩] false)
    (.cond (.t 4)
     (.seq
      (.region [
        ⟨(some 5), .mv (.t 0), none⟩,
        ⟨(some 6), .bin .shr (.t 5) (.c (.int .u64 32)), none⟩,
        ⟨(some 0), .mv (.t 6), none⟩] false)
      (.region [
        ⟨(some 2), .mv (.c (.int .i64 32)), none⟩] false))
     .skip))
   (.seq
    (.seq
     (.region [
       ⟨(some 7), .mv (.t 0), none⟩,
       ⟨(some 8), .bin .geq (.t 7) (.c (.int .u64 65536)), none⟩] false)
     (.cond (.t 8)
      (.seq
       (.region [
         ⟨(some 9), .mv (.t 0), none⟩,
         ⟨(some 10), .bin .shr (.t 9) (.c (.int .u64 16)), none⟩,
         ⟨(some 0), .mv (.t 10), none⟩] false)
       (.region [
         ⟨(some 11), .mv (.t 2), none⟩,
         ⟨(some 12), .bin .add (.t 11) (.c (.int .i64 16)), none⟩,
         ⟨(some 2), .mv (.t 12), none⟩] false))
      .skip))
    (.seq
     (.seq
      (.region [
        ⟨(some 13), .mv (.t 0), none⟩,
        ⟨(some 14), .bin .geq (.t 13) (.c (.int .u64 256)), none⟩] false)
      (.cond (.t 14)
       (.seq
        (.region [
          ⟨(some 15), .mv (.t 0), none⟩,
          ⟨(some 16), .bin .shr (.t 15) (.c (.int .u64 8)), none⟩,
          ⟨(some 0), .mv (.t 16), none⟩] false)
        (.region [
          ⟨(some 17), .mv (.t 2), none⟩,
          ⟨(some 18), .bin .add (.t 17) (.c (.int .i64 8)), none⟩,
          ⟨(some 2), .mv (.t 18), none⟩] false))
       .skip))
     (.seq
      (.region [
        ⟨(some 19), .mv (.t 2), none⟩,
        ⟨(some 20), .mv (.t 0), none⟩,
        ⟨(some 21), .conv .u8 (.t 20), none⟩,
        ⟨(some 22), .idxs (.c (.str ⟨#[0, 1, 2, 2, 3, 3, 3, 3, 4, 4, 4, 4, 4, 4, 4, 4, 5, 5, 5, 5, 5, 5, 5, 5, 5, 5, 5, 5, 5, 5, 5, 5, 6, 6, 6, 6, 6, 6, 6, 6, 6, 6, 6, 6, 6, 6, 6, 6, 6, 6, 6, 6, 6, 6, 6, 6, 6, 6, 6, 6, 6, 6, 6, 6, 7, 7, 7, 7, 7, 7, 7, 7, 7, 7, 7, 7, 7, 7, 7, 7, 7, 7, 7, 7, 7, 7, 7, 7, 7, 7, 7, 7, 7, 7, 7, 7, 7, 7, 7, 7, 7, 7, 7, 7, 7, 7, 7, 7, 7, 7, 7, 7, 7, 7, 7, 7, 7, 7, 7, 7, 7, 7, 7, 7, 7, 7, 7, 7, 8, 8, 8, 8, 8, 8, 8, 8, 8, 8, 8, 8, 8, 8, 8, 8, 8, 8, 8, 8, 8, 8, 8, 8, 8, 8, 8, 8, 8, 8, 8, 8, 8, 8, 8, 8, 8, 8, 8, 8, 8, 8, 8, 8, 8, 8, 8, 8, 8, 8, 8, 8, 8, 8, 8, 8, 8, 8, 8, 8, 8, 8, 8, 8, 8, 8, 8, 8, 8, 8, 8, 8, 8, 8, 8, 8, 8, 8, 8, 8, 8, 8, 8, 8, 8, 8, 8, 8, 8, 8, 8, 8, 8, 8, 8, 8, 8, 8, 8, 8, 8, 8, 8, 8, 8, 8, 8, 8, 8, 8, 8, 8, 8, 8, 8, 8, 8, 8, 8, 8, 8, 8, 8, 8, 8, 8, 8, 8]⟩)) (.t 21), none⟩,
        ⟨(some 23), .conv .i64 (.t 22), none⟩,
        ⟨(some 24), .bin .add (.t 19) (.t 23), none⟩,
        ⟨(some 2), .mv (.t 24), none⟩] false)
      .ret))))),
 [.t 2]⟩

/-- slices.siftDownCmpFunc[neume/rod.pair] -/
def lf53 : LFunc := ⟨82, 5,
 (.seq
  (.region [
    ⟨(some 12), .mv (.t 1), none⟩,
    ⟨(some 10), .mv (.t 12), none⟩] false)
  (.block 0
   (.loop
    (.block 1
     (.seq
      (.region [
        ⟨(some 13), .mv (.t 10), none⟩,
        ⟨(some 14), .bin .mul (.c (.int .i64 2)) (.t 13), none⟩,
        ⟨(some 15), .bin .add (.t 14) (.c (.int .i64 1)), none⟩,
        ⟨(some 11), .mv (.t 15), none⟩] false)
      (.seq
       (.seq
        (.region [
          ⟨(some 16), .mv (.t 11), none⟩,
          ⟨(some 17), .mv (.t 2), none⟩,
          ⟨(some 18), .bin .geq (.t 16) (.t 17), none⟩] false)
        (.cond (.t 18)
         (.exit 0)
         .skip))
       (.seq
        (.seq
         (.region [
           ⟨(some 19), .mv (.t 11), none⟩,
           ⟨(some 20), .bin .add (.t 19) (.c (.int .i64 1)), none⟩,
           ⟨(some 21), .mv (.t 2), none⟩,
           ⟨(some 22), .bin .lss (.t 20) (.t 21), none⟩,
           ⟨(some 23), .mv (.t 22), none⟩,
           ⟨(some 24), .mv (.t 4), (some (23, true))⟩,
           ⟨(some 25), .mv (.t 0), (some (23, true))⟩,
           ⟨(some 26), .mv (.t 3), (some (23, true))⟩,
           ⟨(some 27), .mv (.t 11), (some (23, true))⟩,
           ⟨(some 28), .bin .add (.t 26) (.t 27), (some (23, true))⟩,
           ⟨(some 29), .idxa 2 (.t 25) (.t 28), (some (23, true))⟩,
           ⟨(some 30), .load true 2 (.t 29), (some (23, true))⟩,
           ⟨(some 31), .mv (.t 0), (some (23, true))⟩,
           ⟨(some 32), .mv (.t 3), (some (23, true))⟩,
           ⟨(some 33), .mv (.t 11), (some (23, true))⟩,
           ⟨(some 34), .bin .add (.t 32) (.t 33), (some (23, true))⟩,
           ⟨(some 35), .bin .add (.t 34) (.c (.int .i64 1)), (some (23, true))⟩,
           ⟨(some 36), .idxa 2 (.t 31) (.t 35), (some (23, true))⟩,
           ⟨(some 37), .load true 2 (.t 36), (some (23, true))⟩,
           ⟨(some 38), .call false (.t 24) [.t 30, .t 37], (some (23, true))⟩,
           ⟨(some 39), .bin .lss (.t 38) (.c (.int .i64 0)), (some (23, true))⟩,
           ⟨(some 40), .pick (.t 23) (.t 39) (.c (.bool false)), none⟩] true)
         (.cond (.t 40)
          (.region [
            ⟨(some 41), .mv (.t 11), none⟩,
            ⟨(some 42), .bin .add (.t 41) (.c (.int .i64 1)), none⟩,
            ⟨(some 11), .mv (.t 42), none⟩] false)
          .skip))
        (.seq
         (.seq
          (.region [
            ⟨(some 43), .mv (.t 4), none⟩,
            ⟨(some 44), .mv (.t 0), none⟩,
            ⟨(some 45), .mv (.t 3), none⟩,
            ⟨(some 46), .mv (.t 10), none⟩,
            ⟨(some 47), .bin .add (.t 45) (.t 46), none⟩,
            ⟨(some 48), .idxa 2 (.t 44) (.t 47), none⟩,
            ⟨(some 49), .load true 2 (.t 48), none⟩,
            ⟨(some 50), .mv (.t 0), none⟩,
            ⟨(some 51), .mv (.t 3), none⟩,
            ⟨(some 52), .mv (.t 11), none⟩,
            ⟨(some 53), .bin .add (.t 51) (.t 52), none⟩,
            ⟨(some 54), .idxa 2 (.t 50) (.t 53), none⟩,
            ⟨(some 55), .load true 2 (.t 54), none⟩,
            ⟨(some 56), .call false (.t 43) [.t 49, .t 55], none⟩,
            ⟨(some 57), .bin .lss (.t 56) (.c (.int .i64 0)), none⟩,
            ⟨(some 58), .not (.t 57), none⟩] true)
          (.cond (.t 58)
           .ret
           .skip))
         (.seq
          (.region [
            ⟨(some 59), .mv (.t 0), none⟩,
            ⟨(some 60), .mv (.t 3), none⟩,
            ⟨(some 61), .mv (.t 10), none⟩,
            ⟨(some 62), .bin .add (.t 60) (.t 61), none⟩,
            ⟨(some 63), .mv (.t 0), none⟩,
            ⟨(some 64), .mv (.t 3), none⟩,
            ⟨(some 65), .mv (.t 11), none⟩,
            ⟨(some 66), .bin .add (.t 64) (.t 65), none⟩,
            ⟨(some 67), .mv (.t 0), none⟩,
            ⟨(some 68), .mv (.t 3), none⟩,
            ⟨(some 69), .mv (.t 11), none⟩,
            ⟨(some 70), .bin .add (.t 68) (.t 69), none⟩,
            ⟨(some 71), .idxa 2 (.t 67) (.t 70), none⟩,
            ⟨(some 72), .load true 2 (.t 71), none⟩,
            ⟨(some 73), .mv (.t 0), none⟩,
            ⟨(some 74), .mv (.t 3), none⟩,
            ⟨(some 75), .mv (.t 10), none⟩,
            ⟨(some 76), .bin .add (.t 74) (.t 75), none⟩,
            ⟨(some 77), .idxa 2 (.t 73) (.t 76), none⟩,
            ⟨(some 78), .load true 2 (.t 77), none⟩,
            ⟨(some 79), .idxa 2 (.t 59) (.t 62), none⟩,
            ⟨none, .store 2 (.t 79) (.t 72), none⟩,
            ⟨(some 80), .idxa 2 (.t 63) (.t 66), none⟩,
            ⟨none, .store 2 (.t 80) (.t 78), none⟩] true)
          (.region [
            ⟨(some 81), .mv (.t 11), none⟩,
            ⟨(some 10), .mv (.t 81), none⟩] false)))))))))),
 []⟩

/-- slices.nextPowerOfTwo -/
def lf54 : LFunc := ⟨7, 1,
 (.seq
  (.region [
    ⟨(some 2), .mv (.c (.int .u64 0)), none⟩] false)
  (.seq
   (.region [
     ⟨(some 3), .mv (.t 0), none⟩,
     ⟨(some 4), .conv .u64 (.t 3), none⟩,
     ⟨(some 5), .call false (.c (.fn 41 [] [])) [.t 4], none⟩,
     ⟨(some 6), .bin .shl (.c (.int .u64 1)) (.t 5), none⟩,
     ⟨(some 2), .mv (.t 6), none⟩] false)
   .ret)),
 [.t 2]⟩

/-- (*slices.xorshift).Next -/
def lf55 : LFunc := ⟨33, 1,
 (.seq
  (.region [
    ⟨(some 2), .mv (.c (.int .u64 0)), none⟩] false)
  (.seq
   (.region [
     ⟨(some 3), .mv (.t 0), none⟩,
     ⟨(some 4), .nilck (.t 3), none⟩,
     ⟨(some 5), .load false 1 (.t 4), none⟩,
     ⟨(some 6), .mv (.t 0), none⟩,
     ⟨(some 7), .nilck (.t 6), none⟩,
     ⟨(some 8), .load false 1 (.t 7), none⟩,
     ⟨(some 9), .bin .shl (.t 8) (.c (.int .u64 13)), none⟩,
     ⟨(some 10), .bin .xor (.t 5) (.t 9), none⟩,
     ⟨(some 11), .nilck (.t 3), none⟩,
     ⟨none, .store 1 (.t 11) (.t 10), none⟩] true)
   (.seq
    (.region [
      ⟨(some 12), .mv (.t 0), none⟩,
      ⟨(some 13), .nilck (.t 12), none⟩,
      ⟨(some 14), .load false 1 (.t 13), none⟩,
      ⟨(some 15), .mv (.t 0), none⟩,
      ⟨(some 16), .nilck (.t 15), none⟩,
      ⟨(some 17), .load false 1 (.t 16), none⟩,
      ⟨(some 18), .bin .shr (.t 17) (.c (.int .u64 7)), none⟩,
      ⟨(some 19), .bin .xor (.t 14) (.t 18), none⟩,
      ⟨(some 20), .nilck (.t 12), none⟩,
      ⟨none, .store 1 (.t 20) (.t 19), none⟩] true)
    (.seq
     (.region [
       ⟨(some 21), .mv (.t 0), none⟩,
       ⟨(some 22), .nilck (.t 21), none⟩,
       ⟨(some 23), .load false 1 (.t 22), none⟩,
       ⟨(some 24), .mv (.t 0), none⟩,
       ⟨(some 25), .nilck (.t 24), none⟩,
       ⟨(some 26), .load false 1 (.t 25), none⟩,
       ⟨(some 27), .bin .shl (.t 26) (.c (.int .u64 17)), none⟩,
       ⟨(some 28), .bin .xor (.t 23) (.t 27), none⟩,
       ⟨(some 29), .nilck (.t 21), none⟩,
       ⟨none, .store 1 (.t 29) (.t 28), none⟩] true)
     (.seq
      (.region [
        ⟨(some 30), .mv (.t 0), none⟩,
        ⟨(some 31), .nilck (.t 30), none⟩,
        ⟨(some 32), .load false 1 (.t 31), none⟩,
        ⟨(some 2), .mv (.t 32), none⟩] false)
      .ret))))),
 [.t 2]⟩

/-- slices.medianAdjacentCmpFunc[neume/rod.pair] -/
def lf56 : LFunc := ⟨18, 4,
 (.seq
  (.region [
    ⟨(some 8), .mv (.c (.int .i64 0)), none⟩] false)
  (.seq
   (.region [
     ⟨(some 9), .mv (.t 0), none⟩,
     ⟨(some 10), .mv (.t 1), none⟩,
     ⟨(some 11), .bin .sub (.t 10) (.c (.int .i64 1)), none⟩,
     ⟨(some 12), .mv (.t 1), none⟩,
     ⟨(some 13), .mv (.t 1), none⟩,
     ⟨(some 14), .bin .add (.t 13) (.c (.int .i64 1)), none⟩,
     ⟨(some 15), .mv (.t 2), none⟩,
     ⟨(some 16), .mv (.t 3), none⟩,
     ⟨(some 17), .call false (.c (.fn 57 [] [])) [.t 9, .t 11, .t 12, .t 14, .t 15, .t 16], none⟩,
     ⟨(some 8), .mv (.t 17), none⟩] false)
   .ret)),
 [.t 8]⟩

/-- slices.medianCmpFunc[neume/rod.pair] -/
def lf57 : LFunc := ⟨41, 6,
 (.seq
  (.region [
    ⟨(some 12), .mv (.c (.int .i64 0)), none⟩] false)
  (.seq
   (.region [
     ⟨(some 14), .mv (.t 0), none⟩,
     ⟨(some 15), .mv (.t 1), none⟩,
     ⟨(some 16), .mv (.t 2), none⟩,
     ⟨(some 17), .mv (.t 4), none⟩,
     ⟨(some 18), .mv (.t 5), none⟩,
     ⟨(some 19), .call false (.c (.fn 58 [] [])) [.t 14, .t 15, .t 16, .t 17, .t 18], none⟩,
     ⟨(some 13), .mv (.t 19), none⟩,
     ⟨(some 20), .extract (.t 13) 0, none⟩,
     ⟨(some 21), .extract (.t 13) 1, none⟩,
     ⟨(some 1), .mv (.t 20), none⟩,
     ⟨(some 2), .mv (.t 21), none⟩] false)
   (.seq
    (.region [
      ⟨(some 23), .mv (.t 0), none⟩,
      ⟨(some 24), .mv (.t 2), none⟩,
      ⟨(some 25), .mv (.t 3), none⟩,
      ⟨(some 26), .mv (.t 4), none⟩,
      ⟨(some 27), .mv (.t 5), none⟩,
      ⟨(some 28), .call false (.c (.fn 58 [] [])) [.t 23, .t 24, .t 25, .t 26, .t 27], none⟩,
      ⟨(some 22), .mv (.t 28), none⟩,
      ⟨(some 29), .extract (.t 22) 0, none⟩,
      ⟨(some 30), .extract (.t 22) 1, none⟩,
      ⟨(some 2), .mv (.t 29), none⟩,
      ⟨(some 3), .mv (.t 30), none⟩] false)
    (.seq
     (.region [
       ⟨(some 32), .mv (.t 0), none⟩,
       ⟨(some 33), .mv (.t 1), none⟩,
       ⟨(some 34), .mv (.t 2), none⟩,
       ⟨(some 35), .mv (.t 4), none⟩,
       ⟨(some 36), .mv (.t 5), none⟩,
       ⟨(some 37), .call false (.c (.fn 58 [] [])) [.t 32, .t 33, .t 34, .t 35, .t 36], none⟩,
       ⟨(some 31), .mv (.t 37), none⟩,
       ⟨(some 38), .extract (.t 31) 0, none⟩,
       ⟨(some 39), .extract (.t 31) 1, none⟩,
       ⟨(some 1), .mv (.t 38), none⟩,
       ⟨(some 2), .mv (.t 39), none⟩] false)
     (.seq
      (.region [
        ⟨(some 40), .mv (.t 2), none⟩,
        ⟨(some 12), .mv (.t 40), none⟩] false)
      .ret))))),
 [.t 12]⟩

/-- slices.order2CmpFunc[neume/rod.pair] -/
def lf58 : LFunc := ⟨32, 5,
 (.seq
  (.region [
    ⟨(some 10), .mv (.c (.int .i64 0)), none⟩,
    ⟨(some 11), .mv (.c (.int .i64 0)), none⟩] false)
  (.seq
   (.seq
    (.region [
      ⟨(some 12), .mv (.t 4), none⟩,
      ⟨(some 13), .mv (.t 0), none⟩,
      ⟨(some 14), .mv (.t 2), none⟩,
      ⟨(some 15), .idxa 2 (.t 13) (.t 14), none⟩,
      ⟨(some 16), .load true 2 (.t 15), none⟩,
      ⟨(some 17), .mv (.t 0), none⟩,
      ⟨(some 18), .mv (.t 1), none⟩,
      ⟨(some 19), .idxa 2 (.t 17) (.t 18), none⟩,
      ⟨(some 20), .load true 2 (.t 19), none⟩,
      ⟨(some 21), .call false (.t 12) [.t 16, .t 20], none⟩,
      ⟨(some 22), .bin .lss (.t 21) (.c (.int .i64 0)), none⟩] true)
    (.cond (.t 22)
     (.seq
      (.region [
        ⟨(some 23), .mv (.t 3), none⟩,
        ⟨(some 24), .nilck (.t 23), none⟩,
        ⟨(some 25), .load false 1 (.t 24), none⟩,
        ⟨(some 26), .bin .add (.t 25) (.c (.int .i64 1)), none⟩,
        ⟨(some 27), .nilck (.t 23), none⟩,
        ⟨none, .store 1 (.t 27) (.t 26), none⟩] false)
      (.seq
       (.region [
         ⟨(some 28), .mv (.t 2), none⟩,
         ⟨(some 29), .mv (.t 1), none⟩,
         ⟨(some 10), .mv (.t 28), none⟩,
         ⟨(some 11), .mv (.t 29), none⟩] false)
       .ret))
     .skip))
   (.seq
    (.region [
      ⟨(some 30), .mv (.t 1), none⟩,
      ⟨(some 31), .mv (.t 2), none⟩,
      ⟨(some 10), .mv (.t 30), none⟩,
      ⟨(some 11), .mv (.t 31), none⟩] false)
    .ret))),
 [.t 10, .t 11]⟩

theorem ok3 : okFunc Go.Proofs.Try.prog 3 lf3 = true := by kernel_rfl

theorem ok4 : okFunc Go.Proofs.Try.prog 4 lf4 = true := by kernel_rfl

theorem ok5 : okFunc Go.Proofs.Try.prog 5 lf5 = true := by kernel_rfl

theorem ok6 : okFunc Go.Proofs.Try.prog 6 lf6 = true := by kernel_rfl

theorem ok7 : okFunc Go.Proofs.Try.prog 7 lf7 = true := by kernel_rfl

theorem ok8 : okFunc Go.Proofs.Try.prog 8 lf8 = true := by kernel_rfl

theorem ok9 : okFunc Go.Proofs.Try.prog 9 lf9 = true := by kernel_rfl

theorem ok10 : okFunc Go.Proofs.Try.prog 10 lf10 = true := by kernel_rfl

theorem ok11 : okFunc Go.Proofs.Try.prog 11 lf11 = true := by kernel_rfl

theorem ok12 : okFunc Go.Proofs.Try.prog 12 lf12 = true := by kernel_rfl

theorem ok13 : okFunc Go.Proofs.Try.prog 13 lf13 = true := by kernel_rfl

theorem ok14 : okFunc Go.Proofs.Try.prog 14 lf14 = true := by kernel_rfl

theorem ok15 : okFunc Go.Proofs.Try.prog 15 lf15 = true := by kernel_rfl

theorem ok16 : okFunc Go.Proofs.Try.prog 16 lf16 = true := by kernel_rfl

theorem ok17 : okFunc Go.Proofs.Try.prog 17 lf17 = true := by kernel_rfl

theorem ok18 : okFunc Go.Proofs.Try.prog 18 lf18 = true := by kernel_rfl

theorem ok19 : okFunc Go.Proofs.Try.prog 19 lf19 = true := by kernel_rfl

theorem ok20 : okFunc Go.Proofs.Try.prog 20 lf20 = true := by kernel_rfl

theorem ok21 : okFunc Go.Proofs.Try.prog 21 lf21 = true := by kernel_rfl

theorem ok22 : okFunc Go.Proofs.Try.prog 22 lf22 = true := by kernel_rfl

theorem ok23 : okFunc Go.Proofs.Try.prog 23 lf23 = true := by kernel_rfl

theorem ok24 : okFunc Go.Proofs.Try.prog 24 lf24 = true := by kernel_rfl

theorem ok25 : okFunc Go.Proofs.Try.prog 25 lf25 = true := by kernel_rfl

theorem ok26 : okFunc Go.Proofs.Try.prog 26 lf26 = true := by kernel_rfl

theorem ok27 : okFunc Go.Proofs.Try.prog 27 lf27 = true := by kernel_rfl

theorem ok28 : okFunc Go.Proofs.Try.prog 28 lf28 = true := by kernel_rfl

theorem ok29 : okFunc Go.Proofs.Try.prog 29 lf29 = true := by kernel_rfl

theorem ok30 : okFunc Go.Proofs.Try.prog 30 lf30 = true := by kernel_rfl

theorem ok31 : okFunc Go.Proofs.Try.prog 31 lf31 = true := by kernel_rfl

theorem ok32 : okFunc Go.Proofs.Try.prog 32 lf32 = true := by kernel_rfl

theorem ok33 : okFunc Go.Proofs.Try.prog 33 lf33 = true := by kernel_rfl

theorem ok34 : okFunc Go.Proofs.Try.prog 34 lf34 = true := by kernel_rfl

theorem ok35 : okFunc Go.Proofs.Try.prog 35 lf35 = true := by kernel_rfl

theorem ok36 : okFunc Go.Proofs.Try.prog 36 lf36 = true := by kernel_rfl

theorem ok37 : okFunc Go.Proofs.Try.prog 37 lf37 = true := by kernel_rfl

theorem ok38 : okFunc Go.Proofs.Try.prog 38 lf38 = true := by kernel_rfl

theorem ok39 : okFunc Go.Proofs.Try.prog 39 lf39 = true := by kernel_rfl

theorem ok40 : okFunc Go.Proofs.Try.prog 40 lf40 = true := by kernel_rfl

theorem ok41 : okFunc Go.Proofs.Try.prog 41 lf41 = true := by kernel_rfl

theorem ok42 : okFunc Go.Proofs.Try.prog 42 lf42 = true := by kernel_rfl

theorem ok43 : okFunc Go.Proofs.Try.prog 43 lf43 = true := by kernel_rfl

theorem ok44 : okFunc Go.Proofs.Try.prog 44 lf44 = true := by kernel_rfl

theorem ok45 : okFunc Go.Proofs.Try.prog 45 lf45 = true := by kernel_rfl

theorem ok46 : okFunc Go.Proofs.Try.prog 46 lf46 = true := by kernel_rfl

theorem ok47 : okFunc Go.Proofs.Try.prog 47 lf47 = true := by kernel_rfl

theorem ok48 : okFunc Go.Proofs.Try.prog 48 lf48 = true := by kernel_rfl

theorem ok49 : okFunc Go.Proofs.Try.prog 49 lf49 = true := by kernel_rfl

theorem ok50 : okFunc Go.Proofs.Try.prog 50 lf50 = true := by kernel_rfl

theorem ok51 : okFunc Go.Proofs.Try.prog 51 lf51 = true := by kernel_rfl

theorem ok52 : okFunc Go.Proofs.Try.prog 52 lf52 = true := by kernel_rfl

theorem ok53 : okFunc Go.Proofs.Try.prog 53 lf53 = true := by kernel_rfl

theorem ok54 : okFunc Go.Proofs.Try.prog 54 lf54 = true := by kernel_rfl

theorem ok55 : okFunc Go.Proofs.Try.prog 55 lf55 = true := by kernel_rfl

theorem ok56 : okFunc Go.Proofs.Try.prog 56 lf56 = true := by kernel_rfl

theorem ok57 : okFunc Go.Proofs.Try.prog 57 lf57 = true := by kernel_rfl

theorem ok58 : okFunc Go.Proofs.Try.prog 58 lf58 = true := by kernel_rfl

def tblL : List (Nat × LFunc) := [(3, lf3), (4, lf4), (5, lf5), (6, lf6), (7, lf7), (8, lf8), (9, lf9), (10, lf10), (11, lf11), (12, lf12), (13, lf13), (14, lf14), (15, lf15), (16, lf16), (17, lf17), (18, lf18), (19, lf19), (20, lf20), (21, lf21), (22, lf22), (23, lf23), (24, lf24), (25, lf25), (26, lf26), (27, lf27), (28, lf28), (29, lf29), (30, lf30), (31, lf31), (32, lf32), (33, lf33), (34, lf34), (35, lf35), (36, lf36), (37, lf37), (38, lf38), (39, lf39), (40, lf40), (41, lf41), (42, lf42), (43, lf43), (44, lf44), (45, lf45), (46, lf46), (47, lf47), (48, lf48), (49, lf49), (50, lf50), (51, lf51), (52, lf52), (53, lf53), (54, lf54), (55, lf55), (56, lf56), (57, lf57), (58, lf58)]

def tbl (f : Nat) : Option LFunc := get tblL f

theorem tbl_ok : ∀ f lf, tbl f = some lf → okFunc Go.Proofs.Try.prog f lf = true := by
  refine get_all (p := fun f lf => okFunc Go.Proofs.Try.prog f lf = true) ?_
  simp only [tblL, List.forall_mem_cons, List.not_mem_nil, false_implies, implies_true, and_true]
  exact ⟨ok3, ok4, ok5, ok6, ok7, ok8, ok9, ok10, ok11, ok12, ok13, ok14, ok15, ok16, ok17, ok18, ok19, ok20, ok21, ok22, ok23, ok24, ok25, ok26, ok27, ok28, ok29, ok30, ok31, ok32, ok33, ok34, ok35, ok36, ok37, ok38, ok39, ok40, ok41, ok42, ok43, ok44, ok45, ok46, ok47, ok48, ok49, ok50, ok51, ok52, ok53, ok54, ok55, ok56, ok57, ok58⟩

end Go.AM.Rod
