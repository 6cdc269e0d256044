/-
  Functions in short (out of the program's form in Lean, by the kernel).
-/
import Derived.Test.YthdmpeghlkhncaaDoorSepCode
import Derived.Test.YthdmpeghlkhncaaDoorProg
namespace Go.Proofs.YthdmpeghlkhncaaDoor.Low
open Go Go.Proofs.YthdmpeghlkhncaaDoor.Sep
theorem mixed : Tryd.prog.follows .mixedOrders = true := by kernel_rfl
/-- satchel/satchelref20.Class -/
def L5_0 : LCode :=
 (.cond (.tmp 39)
  (.seq
  (.reg [⟨0, .q .mv, [.const (.int .i64 203)], (some 2), none, [], false⟩])
  .ret)
  (.seq
  (.reg [⟨0, .q (.bin .eql), [.tmp 3, .const (.int .i64 193)], (some 44), none, [], false⟩,
    ⟨1, .q .mv, [.tmp 44], (some 43), none, [], false⟩])
  (.cond (.tmp 43)
   (.seq
   (.reg [⟨0, .q .mv, [.const (.int .i64 204)], (some 2), none, [], false⟩])
   .ret)
   (.seq
   (.reg [⟨0, .q (.bin .eql), [.tmp 3, .const (.int .i64 105)], (some 46), none, [], false⟩,
     ⟨1, .q .mv, [.tmp 46], (some 45), none, [], false⟩])
   (.cond (.tmp 45)
    (.seq
    (.reg [⟨0, .q .mv, [.const (.int .i64 205)], (some 2), none, [], false⟩])
    .ret)
    .skip)))))
def L5_1 : LCode :=
 (.cond (.tmp 30)
  (.seq
  (.reg [⟨0, .q .mv, [.const (.int .i64 202)], (some 2), none, [], false⟩])
  .ret)
  (.seq
  (.seq
  (.reg [⟨0, .q (.bin .eql), [.tmp 3, .const (.int .i64 180)], (some 40), none, [], false⟩,
    ⟨1, .q .mv, [.tmp 40], (some 39), none, [], false⟩])
  (.cond (.tmp 39)
   .skip
   (.seq
   (.reg [⟨0, .q (.bin .eql), [.tmp 3, .const (.int .i64 181)], (some 41), none, [], false⟩,
     ⟨1, .q .mv, [.tmp 41], (some 39), none, [], false⟩])
   (.cond (.tmp 39)
    .skip
    (.reg [⟨0, .q (.bin .eql), [.tmp 3, .const (.int .i64 182)], (some 42), none, [], false⟩,
      ⟨1, .q .mv, [.tmp 42], (some 39), none, [], false⟩])))))
  L5_0))
def L5_2 : LCode :=
 (.cond (.tmp 21)
  (.seq
  (.reg [⟨0, .q .mv, [.const (.int .i64 201)], (some 2), none, [], false⟩])
  .ret)
  (.seq
  (.seq
  (.reg [⟨0, .q (.bin .eql), [.tmp 3, .const (.int .i64 103)], (some 31), none, [], false⟩,
    ⟨1, .q .mv, [.tmp 31], (some 30), none, [], false⟩])
  (.cond (.tmp 30)
   .skip
   (.seq
   (.reg [⟨0, .q (.bin .eql), [.tmp 3, .const (.int .i64 110)], (some 32), none, [], false⟩,
     ⟨1, .q .mv, [.tmp 32], (some 30), none, [], false⟩])
   (.cond (.tmp 30)
    .skip
    (.seq
    (.reg [⟨0, .q (.bin .eql), [.tmp 3, .const (.int .i64 111)], (some 33), none, [], false⟩,
      ⟨1, .q .mv, [.tmp 33], (some 30), none, [], false⟩])
    (.cond (.tmp 30)
     .skip
     (.seq
     (.reg [⟨0, .q (.bin .eql), [.tmp 3, .const (.int .i64 112)], (some 34), none, [], false⟩,
       ⟨1, .q .mv, [.tmp 34], (some 30), none, [], false⟩])
     (.cond (.tmp 30)
      .skip
      (.seq
      (.reg [⟨0, .q (.bin .eql), [.tmp 3, .const (.int .i64 114)], (some 35), none, [], false⟩,
        ⟨1, .q .mv, [.tmp 35], (some 30), none, [], false⟩])
      (.cond (.tmp 30)
       .skip
       (.seq
       (.reg [⟨0, .q (.bin .eql), [.tmp 3, .const (.int .i64 104)], (some 36), none, [], false⟩,
         ⟨1, .q .mv, [.tmp 36], (some 30), none, [], false⟩])
       (.cond (.tmp 30)
        .skip
        (.seq
        (.reg [⟨0, .q (.bin .eql), [.tmp 3, .const (.int .i64 106)], (some 37), none, [], false⟩,
          ⟨1, .q .mv, [.tmp 37], (some 30), none, [], false⟩])
        (.cond (.tmp 30)
         .skip
         (.reg [⟨0, .q (.bin .eql), [.tmp 3, .const (.int .i64 191)], (some 38), none, [], false⟩,
           ⟨1, .q .mv, [.tmp 38], (some 30), none, [], false⟩])))))))))))))))
  L5_1))
def L5_3 : LCode :=
 (.cond (.tmp 6)
  (.seq
  (.reg [⟨0, .q .mv, [.const (.int .i64 200)], (some 2), none, [], false⟩])
  .ret)
  (.seq
  (.seq
  (.reg [⟨0, .q (.bin .eql), [.tmp 3, .const (.int .i64 90)], (some 22), none, [], false⟩,
    ⟨1, .q .mv, [.tmp 22], (some 21), none, [], false⟩])
  (.cond (.tmp 21)
   .skip
   (.seq
   (.reg [⟨0, .q (.bin .eql), [.tmp 3, .const (.int .i64 91)], (some 23), none, [], false⟩,
     ⟨1, .q .mv, [.tmp 23], (some 21), none, [], false⟩])
   (.cond (.tmp 21)
    .skip
    (.seq
    (.reg [⟨0, .q (.bin .eql), [.tmp 3, .const (.int .i64 92)], (some 24), none, [], false⟩,
      ⟨1, .q .mv, [.tmp 24], (some 21), none, [], false⟩])
    (.cond (.tmp 21)
     .skip
     (.seq
     (.reg [⟨0, .q (.bin .eql), [.tmp 3, .const (.int .i64 93)], (some 25), none, [], false⟩,
       ⟨1, .q .mv, [.tmp 25], (some 21), none, [], false⟩])
     (.cond (.tmp 21)
      .skip
      (.seq
      (.reg [⟨0, .q (.bin .eql), [.tmp 3, .const (.int .i64 94)], (some 26), none, [], false⟩,
        ⟨1, .q .mv, [.tmp 26], (some 21), none, [], false⟩])
      (.cond (.tmp 21)
       .skip
       (.seq
       (.reg [⟨0, .q (.bin .eql), [.tmp 3, .const (.int .i64 95)], (some 27), none, [], false⟩,
         ⟨1, .q .mv, [.tmp 27], (some 21), none, [], false⟩])
       (.cond (.tmp 21)
        .skip
        (.seq
        (.reg [⟨0, .q (.bin .eql), [.tmp 3, .const (.int .i64 190)], (some 28), none, [], false⟩,
          ⟨1, .q .mv, [.tmp 28], (some 21), none, [], false⟩])
        (.cond (.tmp 21)
         .skip
         (.reg [⟨0, .q (.bin .eql), [.tmp 3, .const (.int .i64 107)], (some 29), none, [], false⟩,
           ⟨1, .q .mv, [.tmp 29], (some 21), none, [], false⟩])))))))))))))))
  L5_2))
def L5 : LFn :=
 ⟨47, [.t 2],
 (.seq
 (.reg [⟨0, .q .mv, [.const (.int .i64 0)], (some 2), none, [], false⟩])
 (.seq
 (.seq
 (.reg [⟨0, .q .mv, [.tmp 0], (some 3), none, [], false⟩])
 (.block 0
  (.seq
  (.reg [⟨0, .q (.bin .eql), [.tmp 3, .const (.int .i64 0)], (some 5), none, [], false⟩,
    ⟨1, .q .mv, [.tmp 5], (some 4), none, [], false⟩])
  (.cond (.tmp 4)
   (.seq
   (.reg [⟨0, .q .mv, [.const (.int .i64 0)], (some 2), none, [], false⟩])
   .ret)
   (.seq
   (.seq
   (.reg [⟨0, .q (.bin .eql), [.tmp 3, .const (.int .i64 4)], (some 7), none, [], false⟩,
     ⟨1, .q .mv, [.tmp 7], (some 6), none, [], false⟩])
   (.cond (.tmp 6)
    .skip
    (.seq
    (.reg [⟨0, .q (.bin .eql), [.tmp 3, .const (.int .i64 2)], (some 8), none, [], false⟩,
      ⟨1, .q .mv, [.tmp 8], (some 6), none, [], false⟩])
    (.cond (.tmp 6)
     .skip
     (.seq
     (.reg [⟨0, .q (.bin .eql), [.tmp 3, .const (.int .i64 120)], (some 9), none, [], false⟩,
       ⟨1, .q .mv, [.tmp 9], (some 6), none, [], false⟩])
     (.cond (.tmp 6)
      .skip
      (.seq
      (.reg [⟨0, .q (.bin .eql), [.tmp 3, .const (.int .i64 121)], (some 10), none, [], false⟩,
        ⟨1, .q .mv, [.tmp 10], (some 6), none, [], false⟩])
      (.cond (.tmp 6)
       .skip
       (.seq
       (.reg [⟨0, .q (.bin .eql), [.tmp 3, .const (.int .i64 130)], (some 11), none, [], false⟩,
         ⟨1, .q .mv, [.tmp 11], (some 6), none, [], false⟩])
       (.cond (.tmp 6)
        .skip
        (.seq
        (.reg [⟨0, .q (.bin .eql), [.tmp 3, .const (.int .i64 131)], (some 12), none, [], false⟩,
          ⟨1, .q .mv, [.tmp 12], (some 6), none, [], false⟩])
        (.cond (.tmp 6)
         .skip
         (.seq
         (.reg [⟨0, .q (.bin .eql), [.tmp 3, .const (.int .i64 132)], (some 13), none, [], false⟩,
           ⟨1, .q .mv, [.tmp 13], (some 6), none, [], false⟩])
         (.cond (.tmp 6)
          .skip
          (.seq
          (.reg [⟨0, .q (.bin .eql), [.tmp 3, .const (.int .i64 140)], (some 14), none, [], false⟩,
            ⟨1, .q .mv, [.tmp 14], (some 6), none, [], false⟩])
          (.cond (.tmp 6)
           .skip
           (.seq
           (.reg [⟨0, .q (.bin .eql), [.tmp 3, .const (.int .i64 141)], (some 15), none, [], false⟩,
             ⟨1, .q .mv, [.tmp 15], (some 6), none, [], false⟩])
           (.cond (.tmp 6)
            .skip
            (.seq
            (.reg [⟨0, .q (.bin .eql), [.tmp 3, .const (.int .i64 142)], (some 16), none, [], false⟩,
              ⟨1, .q .mv, [.tmp 16], (some 6), none, [], false⟩])
            (.cond (.tmp 6)
             .skip
             (.seq
             (.reg [⟨0, .q (.bin .eql), [.tmp 3, .const (.int .i64 160)], (some 17), none, [], false⟩,
               ⟨1, .q .mv, [.tmp 17], (some 6), none, [], false⟩])
             (.cond (.tmp 6)
              .skip
              (.seq
              (.reg [⟨0, .q (.bin .eql), [.tmp 3, .const (.int .i64 161)], (some 18), none, [], false⟩,
                ⟨1, .q .mv, [.tmp 18], (some 6), none, [], false⟩])
              (.cond (.tmp 6)
               .skip
               (.seq
               (.reg [⟨0, .q (.bin .eql), [.tmp 3, .const (.int .i64 3)], (some 19), none, [], false⟩,
                 ⟨1, .q .mv, [.tmp 19], (some 6), none, [], false⟩])
               (.cond (.tmp 6)
                .skip
                (.reg [⟨0, .q (.bin .eql), [.tmp 3, .const (.int .i64 192)], (some 20), none, [], false⟩,
                  ⟨1, .q .mv, [.tmp 20], (some 6), none, [], false⟩])))))))))))))))))))))))))))
   L5_3)))))
 (.seq
 (.reg [⟨0, .q .mv, [.const (.int .i64 206)], (some 2), none, [], false⟩])
 .ret)))⟩
theorem low5 : lowFn Tryd.prog Tryd.f5 = some L5 := by kernel_rfl
theorem call5 {args : List Value} {H : Heap} {S : Ending → Heap → Prop} (hn : args.length ≤ L5.n) (h : awpC Tryd.prog L5.body (retQ L5.results S) (fun ch H => S (.panicked ch) H) (env0 args) H) : ACalls Tryd.prog 5 args.toArray H S := acalls mixed Tryd.func5 low5 hn h
end Go.Proofs.YthdmpeghlkhncaaDoor.Low
