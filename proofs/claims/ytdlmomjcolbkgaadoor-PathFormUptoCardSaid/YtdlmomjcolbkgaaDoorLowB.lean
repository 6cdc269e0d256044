/-
  Functions in short (out of the program's form in Lean, by the kernel).
-/
import Derived.Test.YtdlmomjcolbkgaaDoorSepCode
import Derived.Test.YtdlmomjcolbkgaaDoorProg
namespace Go.Proofs.YtdlmomjcolbkgaaDoor.Low
open Go Go.Proofs.YtdlmomjcolbkgaaDoor.Sep
theorem mixed : Tryd.prog.follows .mixedOrders = true := by kernel_rfl
/-- satchel/satchellaw09.PathNames -/
def L4 : LFn :=
 ⟨83, [.t 2],
 (.seq
 (.reg [⟨0, .q .mv, [.const (.bool false)], (some 2), none, [], false⟩])
 (.seq
 (.reg [⟨0, .q .mv, [.tmp 0], (some 16), none, [], false⟩,
   ⟨1, .e (.call 11), [.tmp 16], (some 17), none, [], false⟩,
   ⟨2, .q .mv, [.tmp 17], (some 15), none, [], false⟩,
   ⟨3, .q (.ext 0), [.tmp 15], (some 18), none, [], false⟩,
   ⟨4, .q (.ext 1), [.tmp 15], (some 19), none, [], false⟩,
   ⟨5, .q .mv, [.tmp 18], (some 3), none, [], false⟩,
   ⟨6, .q .mv, [.tmp 19], (some 4), none, [], false⟩])
 (.seq
 (.reg [⟨0, .q .mv, [.tmp 0], (some 21), none, [], false⟩,
   ⟨1, .e (.call 11), [.tmp 21], (some 22), none, [], false⟩,
   ⟨2, .q .mv, [.tmp 22], (some 20), none, [], false⟩,
   ⟨3, .q (.ext 0), [.tmp 20], (some 23), none, [], false⟩,
   ⟨4, .q (.ext 1), [.tmp 20], (some 24), none, [], false⟩,
   ⟨5, .q .mv, [.tmp 23], (some 5), none, [], false⟩,
   ⟨6, .q .mv, [.tmp 24], (some 6), none, [], false⟩])
 (.seq
 (.reg [⟨0, .q .mv, [.tmp 0], (some 26), none, [], false⟩,
   ⟨1, .e (.call 12), [.tmp 26], (some 27), none, [], false⟩,
   ⟨2, .q .mv, [.tmp 27], (some 25), none, [], false⟩,
   ⟨3, .q (.ext 0), [.tmp 25], (some 28), none, [], false⟩,
   ⟨4, .q (.ext 1), [.tmp 25], (some 29), none, [], false⟩,
   ⟨5, .q .mv, [.tmp 28], (some 7), none, [], false⟩,
   ⟨6, .q .mv, [.tmp 29], (some 8), none, [], false⟩])
 (.seq
 (.reg [⟨0, .q .mv, [.tmp 0], (some 31), none, [], false⟩,
   ⟨1, .e (.call 13), [.tmp 31], (some 32), none, [], false⟩,
   ⟨2, .q .mv, [.tmp 32], (some 30), none, [], false⟩,
   ⟨3, .q (.ext 0), [.tmp 30], (some 33), none, [], false⟩,
   ⟨4, .q (.ext 1), [.tmp 30], (some 34), none, [], false⟩,
   ⟨5, .q .mv, [.tmp 33], (some 9), none, [], false⟩,
   ⟨6, .q .mv, [.tmp 34], (some 10), none, [], false⟩])
 (.seq
 (.reg [⟨0, .q .mv, [.tmp 0], (some 36), none, [], false⟩,
   ⟨1, .e (.call 14), [.tmp 36], (some 37), none, [], false⟩,
   ⟨2, .q .mv, [.tmp 37], (some 35), none, [], false⟩,
   ⟨3, .q (.ext 0), [.tmp 35], (some 38), none, [], false⟩,
   ⟨4, .q (.ext 1), [.tmp 35], (some 39), none, [], false⟩,
   ⟨5, .q .mv, [.tmp 38], (some 11), none, [], false⟩,
   ⟨6, .q .mv, [.tmp 39], (some 12), none, [], false⟩])
 (.seq
 (.seq
 (.reg [⟨0, .q .mv, [.tmp 4], (some 40), none, [], false⟩,
   ⟨1, .q .mv, [.tmp 8], (some 41), none, [], false⟩,
   ⟨2, .q (.bin .neq), [.tmp 40, .tmp 41], (some 42), none, [], false⟩,
   ⟨3, .q .mv, [.tmp 42], (some 43), none, [], false⟩,
   ⟨4, .q .mv, [.tmp 3], (some 44), (some (43, false)), [], false⟩,
   ⟨5, .q .mv, [.tmp 7], (some 45), (some (43, false)), [], false⟩,
   ⟨6, .e (.call 10), [.tmp 44, .tmp 45], (some 46), (some (43, false)), [], false⟩,
   ⟨7, .q (.un .not), [.tmp 46], (some 47), (some (43, false)), [], false⟩,
   ⟨8, .q .pick, [.tmp 43, .const (.bool true), .tmp 47], (some 48), none, [], false⟩,
   ⟨9, .q .mv, [.tmp 48], (some 49), none, [], false⟩,
   ⟨10, .q .mv, [.tmp 5], (some 50), (some (49, false)), [], false⟩,
   ⟨11, .q .mv, [.tmp 7], (some 51), (some (49, false)), [], false⟩,
   ⟨12, .e (.call 10), [.tmp 50, .tmp 51], (some 52), (some (49, false)), [], false⟩,
   ⟨13, .q (.un .not), [.tmp 52], (some 53), (some (49, false)), [], false⟩,
   ⟨14, .q .pick, [.tmp 49, .const (.bool true), .tmp 53], (some 54), none, [], false⟩,
   ⟨15, .q .mv, [.tmp 54], (some 55), none, [], false⟩,
   ⟨16, .q .mv, [.tmp 9], (some 56), (some (55, false)), [], false⟩,
   ⟨17, .q .mv, [.tmp 11], (some 57), (some (55, false)), [], false⟩,
   ⟨18, .q (.bin .neq), [.tmp 56, .tmp 57], (some 58), (some (55, false)), [], false⟩,
   ⟨19, .q .pick, [.tmp 55, .const (.bool true), .tmp 58], (some 59), none, [], false⟩,
   ⟨20, .q .mv, [.tmp 59], (some 60), none, [], false⟩,
   ⟨21, .q .mv, [.tmp 10], (some 61), (some (60, false)), [], false⟩,
   ⟨22, .q .mv, [.tmp 12], (some 62), (some (60, false)), [], false⟩,
   ⟨23, .q (.bin .neq), [.tmp 61, .tmp 62], (some 63), (some (60, false)), [], false⟩,
   ⟨24, .q .pick, [.tmp 60, .const (.bool true), .tmp 63], (some 64), none, [], false⟩])
 (.cond (.tmp 64)
  (.seq
  (.reg [⟨0, .q .mv, [.const (.bool false)], (some 2), none, [], false⟩])
  .ret)
  .skip))
 (.seq
 (.reg [⟨0, .q .mv, [.tmp 3], (some 65), none, [], false⟩,
   ⟨1, .e (.call 15), [.tmp 65], (some 66), none, [], false⟩])
 (.seq
 (.reg [⟨0, .e (.call 11), [.const (.string ⟨#[97, 47, 98]⟩)], (some 68), none, [], false⟩,
   ⟨1, .q .mv, [.tmp 68], (some 67), none, [], false⟩,
   ⟨2, .q (.ext 0), [.tmp 67], (some 69), none, [], false⟩,
   ⟨3, .q (.ext 1), [.tmp 67], (some 70), none, [], false⟩,
   ⟨4, .q .mv, [.tmp 69], (some 13), none, [], false⟩,
   ⟨5, .q .mv, [.tmp 70], (some 14), none, [], false⟩])
 (.seq
 (.reg [⟨0, .q .mv, [.tmp 5], (some 71), none, [], false⟩,
   ⟨1, .q .mv, [.tmp 7], (some 72), none, [], false⟩,
   ⟨2, .e (.call 10), [.tmp 71, .tmp 72], (some 73), none, [], false⟩,
   ⟨3, .q .mv, [.tmp 73], (some 74), none, [], false⟩,
   ⟨4, .q .mv, [.tmp 14], (some 75), (some (74, true)), [], false⟩,
   ⟨5, .q (.bin .eql), [.tmp 75, .const (.int .i64 0)], (some 76), (some (74, true)), [], false⟩,
   ⟨6, .q .pick, [.tmp 74, .tmp 76, .const (.bool false)], (some 77), none, [], false⟩,
   ⟨7, .q .mv, [.tmp 77], (some 78), none, [], false⟩,
   ⟨8, .q .mv, [.tmp 13], (some 79), (some (78, true)), [], false⟩,
   ⟨9, .q .len, [.tmp 79], (some 80), (some (78, true)), [], false⟩,
   ⟨10, .q (.bin .eql), [.tmp 80, .const (.int .i64 2)], (some 81), (some (78, true)), [], false⟩,
   ⟨11, .q .pick, [.tmp 78, .tmp 81, .const (.bool false)], (some 82), none, [], false⟩,
   ⟨12, .q .mv, [.tmp 82], (some 2), none, [], false⟩])
 .ret))))))))))⟩
theorem low4 : lowFn Tryd.prog Tryd.f4 = some L4 := by kernel_rfl
theorem call4 {args : List Value} {H : Heap} {S : Ending → Heap → Prop} (hn : args.length ≤ L4.n) (h : awpC Tryd.prog L4.body (retQ L4.results S) (fun ch H => S (.panicked ch) H) (env0 args) H) : ACalls Tryd.prog 4 args.toArray H S := acalls mixed Tryd.func4 low4 hn h
/-- satchel/path.parts -/
def L24_0 : LCode :=
 (.cond (.tmp 18)
  .skip
  (.seq
  (.reg [⟨0, .q (.bin .eql), [.tmp 13, .const (.string ⟨#[46, 46]⟩)], (some 22), none, [], false⟩,
    ⟨1, .q .mv, [.tmp 22], (some 21), none, [], false⟩])
  (.cond (.tmp 21)
   (.reg [⟨0, .q .mv, [.const (.bool true)], (some 3), none, [], false⟩])
   (.reg [⟨0, .q .mv, [.tmp 2], (some 14), none, [], false⟩,
     ⟨1, .q .mv, [.tmp 5], (some 15), none, [], false⟩,
     ⟨2, .e (.lits 9 #[(.string ⟨#[]⟩)] 1 [(0, 1)]), [.tmp 15], (some 16), none, [], false⟩,
     ⟨3, .e (.app 9 1 16 #[(.string ⟨#[]⟩)]), [.tmp 14, .tmp 16], (some 17), none, [], false⟩,
     ⟨4, .q .mv, [.tmp 17], (some 2), none, [], false⟩]))))
def L24_1 : LCode :=
 (.reg [⟨0, .q (.bin .add), [.tmp 9, .const (.int .i64 1)], (some 23), none, [], false⟩,
   ⟨1, .q .mv, [.tmp 23], (some 9), none, [], false⟩])
def L24_2 : LCode :=
 (.seq
 (.reg [⟨0, .q (.bin .lss), [.tmp 9, .tmp 8], (some 10), none, [], false⟩])
 (.seq
 (.cond (.tmp 10)
  .skip
  (.exit 0))
 (.seq
 (.block 1
  (.seq
  (.reg [⟨0, .q (.iad 1), [.tmp 7, .tmp 9], (some 11), none, [], false⟩,
    ⟨1, .q .ld, [.tmp 11], (some 12), none, [], false⟩,
    ⟨2, .q .mv, [.tmp 12], (some 5), none, [], false⟩])
  (.seq
  (.reg [⟨0, .q .mv, [.tmp 5], (some 13), none, [], false⟩])
  (.block 2
   (.seq
   (.seq
   (.reg [⟨0, .q (.bin .eql), [.tmp 13, .const (.string ⟨#[]⟩)], (some 19), none, [], false⟩,
     ⟨1, .q .mv, [.tmp 19], (some 18), none, [], false⟩])
   (.cond (.tmp 18)
    .skip
    (.reg [⟨0, .q (.bin .eql), [.tmp 13, .const (.string ⟨#[46]⟩)], (some 20), none, [], false⟩,
      ⟨1, .q .mv, [.tmp 20], (some 18), none, [], false⟩])))
   L24_0)))))
 L24_1)))
def L24 : LFn :=
 ⟨26, [.t 2, .t 3],
 (.seq
 (.reg [⟨0, .q .mv, [.const (.slice none 0 0)], (some 2), none, [], false⟩,
   ⟨1, .q .mv, [.const (.bool false)], (some 3), none, [], false⟩])
 (.seq
 (.seq
 (.reg [⟨0, .q .mv, [.tmp 0], (some 6), none, [], false⟩,
   ⟨1, .e (.call 22), [.tmp 6, .const (.string ⟨#[47]⟩)], (some 7), none, [], false⟩,
   ⟨2, .q .len, [.tmp 7], (some 8), none, [], false⟩,
   ⟨3, .q .mv, [.const (.int .i64 0)], (some 9), none, [], false⟩])
 (.block 0
  (.loop L24_2)))
 (.seq
 (.reg [⟨0, .q .mv, [.tmp 2], (some 24), none, [], false⟩,
   ⟨1, .q .mv, [.tmp 3], (some 25), none, [], false⟩,
   ⟨2, .q .mv, [.tmp 24], (some 2), none, [], false⟩,
   ⟨3, .q .mv, [.tmp 25], (some 3), none, [], false⟩])
 .ret)))⟩
theorem low24 : lowFn Tryd.prog Tryd.f24 = some L24 := by kernel_rfl
theorem call24 {args : List Value} {H : Heap} {S : Ending → Heap → Prop} (hn : args.length ≤ L24.n) (h : awpC Tryd.prog L24.body (retQ L24.results S) (fun ch H => S (.panicked ch) H) (env0 args) H) : ACalls Tryd.prog 24 args.toArray H S := acalls mixed Tryd.func24 low24 hn h
/-- satchel/path.Split -/
def L11 : LFn :=
 ⟨36, [.t 2, .t 3],
 (.seq
 (.reg [⟨0, .q .mv, [.const (.slice none 0 0)], (some 2), none, [], false⟩,
   ⟨1, .q .mv, [.const (.int .i64 0)], (some 3), none, [], false⟩])
 (.seq
 (.reg [⟨0, .q .mv, [.tmp 0], (some 7), none, [], false⟩,
   ⟨1, .e (.call 24), [.tmp 7], (some 8), none, [], false⟩,
   ⟨2, .q .mv, [.tmp 8], (some 6), none, [], false⟩,
   ⟨3, .q (.ext 0), [.tmp 6], (some 9), none, [], false⟩,
   ⟨4, .q (.ext 1), [.tmp 6], (some 10), none, [], false⟩,
   ⟨5, .q .mv, [.tmp 9], (some 4), none, [], false⟩,
   ⟨6, .q .mv, [.tmp 10], (some 5), none, [], false⟩])
 (.seq
 (.block 0
  (.seq
  (.reg [⟨0, .q .mv, [.tmp 0], (some 12), none, [], false⟩,
    ⟨1, .q .lens, [.tmp 12], (some 13), none, [], false⟩,
    ⟨2, .q (.bin .gtr), [.tmp 13, .const (.int .i64 4096)], (some 14), none, [], false⟩,
    ⟨3, .q .mv, [.tmp 14], (some 11), none, [], false⟩])
  (.cond (.tmp 11)
   (.seq
   (.reg [⟨0, .q .mv, [.const (.slice none 0 0)], (some 2), none, [], false⟩,
     ⟨1, .q .mv, [.const (.int .i64 2)], (some 3), none, [], false⟩])
   .ret)
   (.seq
   (.reg [⟨0, .q .mv, [.tmp 0], (some 16), none, [], false⟩,
     ⟨1, .e (.call 25), [.tmp 16, .const (.int .u8 0)], (some 17), none, [], false⟩,
     ⟨2, .q (.bin .geq), [.tmp 17, .const (.int .i64 0)], (some 18), none, [], false⟩,
     ⟨3, .q .mv, [.tmp 18], (some 15), none, [], false⟩])
   (.cond (.tmp 15)
    (.seq
    (.reg [⟨0, .q .mv, [.const (.slice none 0 0)], (some 2), none, [], false⟩,
      ⟨1, .q .mv, [.const (.int .i64 93)], (some 3), none, [], false⟩])
    .ret)
    (.seq
    (.reg [⟨0, .q .mv, [.tmp 0], (some 20), none, [], false⟩,
      ⟨1, .e (.call 21), [.tmp 20, .const (.string ⟨#[47]⟩)], (some 21), none, [], false⟩,
      ⟨2, .q .mv, [.tmp 21], (some 19), none, [], false⟩])
    (.cond (.tmp 19)
     (.seq
     (.reg [⟨0, .q .mv, [.const (.slice none 0 0)], (some 2), none, [], false⟩,
       ⟨1, .q .mv, [.const (.int .i64 91)], (some 3), none, [], false⟩])
     .ret)
     (.seq
     (.reg [⟨0, .q .mv, [.tmp 5], (some 23), none, [], false⟩,
       ⟨1, .q .mv, [.tmp 23], (some 22), none, [], false⟩])
     (.cond (.tmp 22)
      (.seq
      (.reg [⟨0, .q .mv, [.const (.slice none 0 0)], (some 2), none, [], false⟩,
        ⟨1, .q .mv, [.const (.int .i64 92)], (some 3), none, [], false⟩])
      .ret)
      (.seq
      (.reg [⟨0, .q .mv, [.tmp 4], (some 25), none, [], false⟩,
        ⟨1, .q .len, [.tmp 25], (some 26), none, [], false⟩,
        ⟨2, .q (.bin .eql), [.tmp 26, .const (.int .i64 0)], (some 27), none, [], false⟩,
        ⟨3, .q .mv, [.tmp 27], (some 24), none, [], false⟩])
      (.cond (.tmp 24)
       (.seq
       (.reg [⟨0, .q .mv, [.const (.slice none 0 0)], (some 2), none, [], false⟩,
         ⟨1, .q .mv, [.const (.int .i64 90)], (some 3), none, [], false⟩])
       .ret)
       (.seq
       (.reg [⟨0, .q .mv, [.tmp 4], (some 29), none, [], false⟩,
         ⟨1, .e (.call 26), [.tmp 29, .func 27], (some 30), none, [], false⟩,
         ⟨2, .q .mv, [.tmp 30], (some 28), none, [], false⟩])
       (.cond (.tmp 28)
        (.seq
        (.reg [⟨0, .q .mv, [.const (.slice none 0 0)], (some 2), none, [], false⟩,
          ⟨1, .q .mv, [.const (.int .i64 94)], (some 3), none, [], false⟩])
        .ret)
        (.seq
        (.reg [⟨0, .q .mv, [.tmp 4], (some 32), none, [], false⟩,
          ⟨1, .q .len, [.tmp 32], (some 33), none, [], false⟩,
          ⟨2, .q (.bin .gtr), [.tmp 33, .const (.int .i64 256)], (some 34), none, [], false⟩,
          ⟨3, .q .mv, [.tmp 34], (some 31), none, [], false⟩])
        (.cond (.tmp 31)
         (.seq
         (.reg [⟨0, .q .mv, [.const (.slice none 0 0)], (some 2), none, [], false⟩,
           ⟨1, .q .mv, [.const (.int .i64 95)], (some 3), none, [], false⟩])
         .ret)
         .skip)))))))))))))))
 (.seq
 (.reg [⟨0, .q .mv, [.tmp 4], (some 35), none, [], false⟩,
   ⟨1, .q .mv, [.tmp 35], (some 2), none, [], false⟩,
   ⟨2, .q .mv, [.const (.int .i64 0)], (some 3), none, [], false⟩])
 .ret))))⟩
theorem low11 : lowFn Tryd.prog Tryd.f11 = some L11 := by kernel_rfl
theorem call11 {args : List Value} {H : Heap} {S : Ending → Heap → Prop} (hn : args.length ≤ L11.n) (h : awpC Tryd.prog L11.body (retQ L11.results S) (fun ch H => S (.panicked ch) H) (env0 args) H) : ACalls Tryd.prog 11 args.toArray H S := acalls mixed Tryd.func11 low11 hn h
/-- satchel/path.Split$1 -/
def L27 : LFn :=
 ⟨6, [.t 2],
 (.seq
 (.reg [⟨0, .q .mv, [.const (.bool false)], (some 2), none, [], false⟩])
 (.seq
 (.reg [⟨0, .q .mv, [.tmp 0], (some 3), none, [], false⟩,
   ⟨1, .q .lens, [.tmp 3], (some 4), none, [], false⟩,
   ⟨2, .q (.bin .gtr), [.tmp 4, .const (.int .i64 255)], (some 5), none, [], false⟩,
   ⟨3, .q .mv, [.tmp 5], (some 2), none, [], false⟩])
 .ret))⟩
theorem low27 : lowFn Tryd.prog Tryd.f27 = some L27 := by kernel_rfl
theorem call27 {args : List Value} {H : Heap} {S : Ending → Heap → Prop} (hn : args.length ≤ L27.n) (h : awpC Tryd.prog L27.body (retQ L27.results S) (fun ch H => S (.panicked ch) H) (env0 args) H) : ACalls Tryd.prog 27 args.toArray H S := acalls mixed Tryd.func27 low27 hn h
/-- slices.IndexFunc[[]string,string] -/
def L39_0 : LCode :=
 (.seq
 (.reg [⟨0, .q (.bin .lss), [.tmp 8, .tmp 7], (some 9), none, [], false⟩])
 (.seq
 (.cond (.tmp 9)
  .skip
  (.exit 0))
 (.seq
 (.block 1
  (.seq
  (.reg [⟨0, .q .mv, [.tmp 8], (some 10), none, [], false⟩,
    ⟨1, .q .mv, [.tmp 10], (some 5), none, [], false⟩])
  (.seq
  (.reg [⟨0, .q .mv, [.tmp 1], (some 11), none, [], false⟩,
    ⟨1, .q .mv, [.tmp 0], (some 12), none, [], false⟩,
    ⟨2, .q .mv, [.tmp 5], (some 13), none, [], false⟩,
    ⟨3, .q (.iad 1), [.tmp 12, .tmp 13], (some 14), none, [], false⟩,
    ⟨4, .q .ld, [.tmp 14], (some 15), none, [], false⟩,
    ⟨5, .e .callv, [.tmp 11, .tmp 15], (some 16), none, [], false⟩])
  (.cond (.tmp 16)
   (.seq
   (.reg [⟨0, .q .mv, [.tmp 5], (some 17), none, [], false⟩,
     ⟨1, .q .mv, [.tmp 17], (some 4), none, [], false⟩])
   .ret)
   .skip))))
 (.reg [⟨0, .q (.bin .add), [.tmp 8, .const (.int .i64 1)], (some 18), none, [], false⟩,
   ⟨1, .q .mv, [.tmp 18], (some 8), none, [], false⟩]))))
def L39 : LFn :=
 ⟨19, [.t 4],
 (.seq
 (.reg [⟨0, .q .mv, [.const (.int .i64 0)], (some 4), none, [], false⟩])
 (.seq
 (.seq
 (.reg [⟨0, .q .mv, [.tmp 0], (some 6), none, [], false⟩,
   ⟨1, .q .len, [.tmp 6], (some 7), none, [], false⟩,
   ⟨2, .q .mv, [.const (.int .i64 0)], (some 8), none, [], false⟩])
 (.block 0
  (.loop L39_0)))
 (.seq
 (.reg [⟨0, .q .mv, [.const (.int .i64 (-1))], (some 4), none, [], false⟩])
 .ret)))⟩
theorem low39 : lowFn Tryd.prog Tryd.f39 = some L39 := by kernel_rfl
theorem call39 {args : List Value} {H : Heap} {S : Ending → Heap → Prop} (hn : args.length ≤ L39.n) (h : awpC Tryd.prog L39.body (retQ L39.results S) (fun ch H => S (.panicked ch) H) (env0 args) H) : ACalls Tryd.prog 39 args.toArray H S := acalls mixed Tryd.func39 low39 hn h
/-- slices.ContainsFunc[[]string,string] -/
def L26 : LFn :=
 ⟨9, [.t 4],
 (.seq
 (.reg [⟨0, .q .mv, [.const (.bool false)], (some 4), none, [], false⟩])
 (.seq
 (.reg [⟨0, .q .mv, [.tmp 0], (some 5), none, [], false⟩,
   ⟨1, .q .mv, [.tmp 1], (some 6), none, [], false⟩,
   ⟨2, .e (.call 39), [.tmp 5, .tmp 6], (some 7), none, [], false⟩,
   ⟨3, .q (.bin .geq), [.tmp 7, .const (.int .i64 0)], (some 8), none, [], false⟩,
   ⟨4, .q .mv, [.tmp 8], (some 4), none, [], false⟩])
 .ret))⟩
theorem low26 : lowFn Tryd.prog Tryd.f26 = some L26 := by kernel_rfl
theorem call26 {args : List Value} {H : Heap} {S : Ending → Heap → Prop} (hn : args.length ≤ L26.n) (h : awpC Tryd.prog L26.body (retQ L26.results S) (fun ch H => S (.panicked ch) H) (env0 args) H) : ACalls Tryd.prog 26 args.toArray H S := acalls mixed Tryd.func26 low26 hn h
/-- satchel/satchelref09.Split -/
def L12_0 : LCode :=
 (.reg [⟨0, .q .mv, [.tmp 7], (some 28), none, [], false⟩,
   ⟨1, .q (.bin .add), [.tmp 28, .const (.int .i64 1)], (some 29), none, [], false⟩,
   ⟨2, .q .mv, [.tmp 29], (some 7), none, [], false⟩])
def L12_1 : LCode :=
 (.seq
 (.seq
 (.reg [⟨0, .q .mv, [.tmp 7], (some 24), none, [], false⟩,
   ⟨1, .q .mv, [.tmp 4], (some 25), none, [], false⟩,
   ⟨2, .q .len, [.tmp 25], (some 26), none, [], false⟩,
   ⟨3, .q (.bin .lss), [.tmp 24, .tmp 26], (some 27), none, [], false⟩])
 (.cond (.tmp 27)
  .skip
  (.exit 0)))
 (.seq
 (.block 1
  (.seq
  (.seq
  (.reg [⟨0, .q .mv, [.tmp 4], (some 30), none, [], false⟩,
    ⟨1, .q .mv, [.tmp 7], (some 31), none, [], false⟩,
    ⟨2, .q (.iad 1), [.tmp 30, .tmp 31], (some 32), none, [], false⟩,
    ⟨3, .q .ld, [.tmp 32], (some 33), none, [], false⟩,
    ⟨4, .q (.bin .eql), [.tmp 33, .const (.string ⟨#[46, 46]⟩)], (some 34), none, [], false⟩])
  (.cond (.tmp 34)
   (.seq
   (.reg [⟨0, .q .mv, [.const (.slice none 0 0)], (some 2), none, [], false⟩,
     ⟨1, .q .mv, [.const (.int .i64 92)], (some 3), none, [], false⟩])
   .ret)
   .skip))
  (.seq
  (.reg [⟨0, .q .mv, [.tmp 4], (some 35), none, [], false⟩,
    ⟨1, .q .mv, [.tmp 7], (some 36), none, [], false⟩,
    ⟨2, .q (.iad 1), [.tmp 35, .tmp 36], (some 37), none, [], false⟩,
    ⟨3, .q .ld, [.tmp 37], (some 38), none, [], false⟩,
    ⟨4, .q (.bin .neq), [.tmp 38, .const (.string ⟨#[]⟩)], (some 39), none, [], false⟩,
    ⟨5, .q .mv, [.tmp 39], (some 40), none, [], false⟩,
    ⟨6, .q .mv, [.tmp 4], (some 41), (some (40, true)), [], false⟩,
    ⟨7, .q .mv, [.tmp 7], (some 42), (some (40, true)), [], false⟩,
    ⟨8, .q (.iad 1), [.tmp 41, .tmp 42], (some 43), (some (40, true)), [], false⟩,
    ⟨9, .q .ld, [.tmp 43], (some 44), (some (40, true)), [], false⟩,
    ⟨10, .q (.bin .neq), [.tmp 44, .const (.string ⟨#[46]⟩)], (some 45), (some (40, true)), [], false⟩,
    ⟨11, .q .pick, [.tmp 40, .tmp 45, .const (.bool false)], (some 46), none, [], false⟩])
  (.cond (.tmp 46)
   (.seq
   (.reg [⟨0, .q .mv, [.tmp 5], (some 47), none, [], false⟩,
     ⟨1, .q .mv, [.tmp 4], (some 48), none, [], false⟩,
     ⟨2, .q .mv, [.tmp 7], (some 49), none, [], false⟩,
     ⟨3, .q (.iad 1), [.tmp 48, .tmp 49], (some 50), none, [], false⟩,
     ⟨4, .q .ld, [.tmp 50], (some 51), none, [], false⟩,
     ⟨5, .e (.lits 9 #[(.string ⟨#[]⟩)] 1 [(0, 1)]), [.tmp 51], (some 52), none, [], false⟩,
     ⟨6, .e (.app 9 1 16 #[(.string ⟨#[]⟩)]), [.tmp 47, .tmp 52], (some 53), none, [], false⟩,
     ⟨7, .q .mv, [.tmp 53], (some 5), none, [], false⟩])
   (.reg [⟨0, .q .mv, [.tmp 6], (some 54), none, [], false⟩,
     ⟨1, .q .mv, [.tmp 54], (some 55), none, [], false⟩,
     ⟨2, .q .mv, [.tmp 4], (some 56), (some (55, false)), [], false⟩,
     ⟨3, .q .mv, [.tmp 7], (some 57), (some (55, false)), [], false⟩,
     ⟨4, .q (.iad 1), [.tmp 56, .tmp 57], (some 58), (some (55, false)), [], false⟩,
     ⟨5, .q .ld, [.tmp 58], (some 59), (some (55, false)), [], false⟩,
     ⟨6, .q .lens, [.tmp 59], (some 60), (some (55, false)), [], false⟩,
     ⟨7, .q (.bin .gtr), [.tmp 60, .const (.int .i64 255)], (some 61), (some (55, false)), [], false⟩,
     ⟨8, .q .pick, [.tmp 55, .const (.bool true), .tmp 61], (some 62), none, [], false⟩,
     ⟨9, .q .mv, [.tmp 62], (some 6), none, [], false⟩]))
   .skip))))
 L12_0))
def L12 : LFn :=
 ⟨71, [.t 2, .t 3],
 (.seq
 (.reg [⟨0, .q .mv, [.const (.slice none 0 0)], (some 2), none, [], false⟩,
   ⟨1, .q .mv, [.const (.int .i64 0)], (some 3), none, [], false⟩])
 (.seq
 (.seq
 (.reg [⟨0, .q .mv, [.tmp 0], (some 8), none, [], false⟩,
   ⟨1, .q .lens, [.tmp 8], (some 9), none, [], false⟩,
   ⟨2, .q (.bin .gtr), [.tmp 9, .const (.int .i64 4096)], (some 10), none, [], false⟩])
 (.cond (.tmp 10)
  (.seq
  (.reg [⟨0, .q .mv, [.const (.slice none 0 0)], (some 2), none, [], false⟩,
    ⟨1, .q .mv, [.const (.int .i64 2)], (some 3), none, [], false⟩])
  .ret)
  .skip))
 (.seq
 (.seq
 (.reg [⟨0, .q .mv, [.tmp 0], (some 11), none, [], false⟩,
   ⟨1, .e (.call 28), [.tmp 11, .const (.int .u8 0)], (some 12), none, [], false⟩])
 (.cond (.tmp 12)
  (.seq
  (.reg [⟨0, .q .mv, [.const (.slice none 0 0)], (some 2), none, [], false⟩,
    ⟨1, .q .mv, [.const (.int .i64 93)], (some 3), none, [], false⟩])
  .ret)
  .skip))
 (.seq
 (.seq
 (.reg [⟨0, .q .mv, [.tmp 0], (some 13), none, [], false⟩,
   ⟨1, .q .lens, [.tmp 13], (some 14), none, [], false⟩,
   ⟨2, .q (.bin .gtr), [.tmp 14, .const (.int .i64 0)], (some 15), none, [], false⟩,
   ⟨3, .q .mv, [.tmp 15], (some 16), none, [], false⟩,
   ⟨4, .q .mv, [.tmp 0], (some 17), (some (16, true)), [], false⟩,
   ⟨5, .q .ixs, [.tmp 17, .const (.int .i64 0)], (some 18), (some (16, true)), [], false⟩,
   ⟨6, .q (.bin .eql), [.tmp 18, .const (.int .u8 47)], (some 19), (some (16, true)), [], false⟩,
   ⟨7, .q .pick, [.tmp 16, .tmp 19, .const (.bool false)], (some 20), none, [], false⟩])
 (.cond (.tmp 20)
  (.seq
  (.reg [⟨0, .q .mv, [.const (.slice none 0 0)], (some 2), none, [], false⟩,
    ⟨1, .q .mv, [.const (.int .i64 91)], (some 3), none, [], false⟩])
  .ret)
  .skip))
 (.seq
 (.reg [⟨0, .q .mv, [.tmp 0], (some 21), none, [], false⟩,
   ⟨1, .e (.call 23), [.tmp 21], (some 22), none, [], false⟩,
   ⟨2, .q .mv, [.tmp 22], (some 4), none, [], false⟩])
 (.seq
 (.reg [⟨0, .e (.lits 9 #[] 0 []), [], (some 23), none, [], false⟩,
   ⟨1, .q .mv, [.tmp 23], (some 5), none, [], false⟩])
 (.seq
 (.reg [⟨0, .q .mv, [.const (.bool false)], (some 6), none, [], false⟩])
 (.seq
 (.seq
 (.reg [⟨0, .q .mv, [.const (.int .i64 0)], (some 7), none, [], false⟩])
 (.block 0
  (.loop L12_1)))
 (.seq
 (.seq
 (.reg [⟨0, .q .mv, [.tmp 5], (some 63), none, [], false⟩,
   ⟨1, .q .len, [.tmp 63], (some 64), none, [], false⟩,
   ⟨2, .q (.bin .eql), [.tmp 64, .const (.int .i64 0)], (some 65), none, [], false⟩])
 (.cond (.tmp 65)
  (.seq
  (.reg [⟨0, .q .mv, [.const (.slice none 0 0)], (some 2), none, [], false⟩,
    ⟨1, .q .mv, [.const (.int .i64 90)], (some 3), none, [], false⟩])
  .ret)
  .skip))
 (.seq
 (.seq
 (.reg [⟨0, .q .mv, [.tmp 6], (some 66), none, [], false⟩])
 (.cond (.tmp 66)
  (.seq
  (.reg [⟨0, .q .mv, [.const (.slice none 0 0)], (some 2), none, [], false⟩,
    ⟨1, .q .mv, [.const (.int .i64 94)], (some 3), none, [], false⟩])
  .ret)
  .skip))
 (.seq
 (.seq
 (.reg [⟨0, .q .mv, [.tmp 5], (some 67), none, [], false⟩,
   ⟨1, .q .len, [.tmp 67], (some 68), none, [], false⟩,
   ⟨2, .q (.bin .gtr), [.tmp 68, .const (.int .i64 256)], (some 69), none, [], false⟩])
 (.cond (.tmp 69)
  (.seq
  (.reg [⟨0, .q .mv, [.const (.slice none 0 0)], (some 2), none, [], false⟩,
    ⟨1, .q .mv, [.const (.int .i64 95)], (some 3), none, [], false⟩])
  .ret)
  .skip))
 (.seq
 (.reg [⟨0, .q .mv, [.tmp 5], (some 70), none, [], false⟩,
   ⟨1, .q .mv, [.tmp 70], (some 2), none, [], false⟩,
   ⟨2, .q .mv, [.const (.int .i64 0)], (some 3), none, [], false⟩])
 .ret))))))))))))⟩
theorem low12 : lowFn Tryd.prog Tryd.f12 = some L12 := by kernel_rfl
theorem call12 {args : List Value} {H : Heap} {S : Ending → Heap → Prop} (hn : args.length ≤ L12.n) (h : awpC Tryd.prog L12.body (retQ L12.results S) (fun ch H => S (.panicked ch) H) (env0 args) H) : ACalls Tryd.prog 12 args.toArray H S := acalls mixed Tryd.func12 low12 hn h
/-- satchel/path.Clean -/
def L13 : LFn :=
 ⟨16, [.t 2, .t 3],
 (.seq
 (.reg [⟨0, .q .mv, [.const (.string ⟨#[]⟩)], (some 2), none, [], false⟩,
   ⟨1, .q .mv, [.const (.int .i64 0)], (some 3), none, [], false⟩])
 (.seq
 (.reg [⟨0, .q .mv, [.tmp 0], (some 7), none, [], false⟩,
   ⟨1, .e (.call 11), [.tmp 7], (some 8), none, [], false⟩,
   ⟨2, .q .mv, [.tmp 8], (some 6), none, [], false⟩,
   ⟨3, .q (.ext 0), [.tmp 6], (some 9), none, [], false⟩,
   ⟨4, .q (.ext 1), [.tmp 6], (some 10), none, [], false⟩,
   ⟨5, .q .mv, [.tmp 9], (some 4), none, [], false⟩,
   ⟨6, .q .mv, [.tmp 10], (some 5), none, [], false⟩])
 (.seq
 (.seq
 (.reg [⟨0, .q .mv, [.tmp 5], (some 11), none, [], false⟩,
   ⟨1, .q (.bin .neq), [.tmp 11, .const (.int .i64 0)], (some 12), none, [], false⟩])
 (.cond (.tmp 12)
  (.seq
  (.reg [⟨0, .q .mv, [.tmp 5], (some 13), none, [], false⟩,
    ⟨1, .q .mv, [.const (.string ⟨#[]⟩)], (some 2), none, [], false⟩,
    ⟨2, .q .mv, [.tmp 13], (some 3), none, [], false⟩])
  .ret)
  .skip))
 (.seq
 (.reg [⟨0, .q .mv, [.tmp 4], (some 14), none, [], false⟩,
   ⟨1, .e (.call 29), [.tmp 14, .const (.string ⟨#[47]⟩)], (some 15), none, [], false⟩,
   ⟨2, .q .mv, [.tmp 15], (some 2), none, [], false⟩,
   ⟨3, .q .mv, [.const (.int .i64 0)], (some 3), none, [], false⟩])
 .ret))))⟩
theorem low13 : lowFn Tryd.prog Tryd.f13 = some L13 := by kernel_rfl
theorem call13 {args : List Value} {H : Heap} {S : Ending → Heap → Prop} (hn : args.length ≤ L13.n) (h : awpC Tryd.prog L13.body (retQ L13.results S) (fun ch H => S (.panicked ch) H) (env0 args) H) : ACalls Tryd.prog 13 args.toArray H S := acalls mixed Tryd.func13 low13 hn h
/-- satchel/satchelref09.Clean -/
def L14 : LFn :=
 ⟨18, [.t 2, .t 3],
 (.seq
 (.reg [⟨0, .q .mv, [.const (.string ⟨#[]⟩)], (some 2), none, [], false⟩,
   ⟨1, .q .mv, [.const (.int .i64 0)], (some 3), none, [], false⟩])
 (.seq
 (.reg [⟨0, .q .mv, [.tmp 0], (some 7), none, [], false⟩,
   ⟨1, .e (.call 12), [.tmp 7], (some 8), none, [], false⟩,
   ⟨2, .q .mv, [.tmp 8], (some 6), none, [], false⟩,
   ⟨3, .q (.ext 0), [.tmp 6], (some 9), none, [], false⟩,
   ⟨4, .q (.ext 1), [.tmp 6], (some 10), none, [], false⟩,
   ⟨5, .q .mv, [.tmp 9], (some 4), none, [], false⟩,
   ⟨6, .q .mv, [.tmp 10], (some 5), none, [], false⟩])
 (.seq
 (.seq
 (.reg [⟨0, .q .mv, [.tmp 5], (some 11), none, [], false⟩,
   ⟨1, .q (.bin .neq), [.tmp 11, .const (.int .i64 0)], (some 12), none, [], false⟩])
 (.cond (.tmp 12)
  (.seq
  (.reg [⟨0, .q .mv, [.tmp 5], (some 13), none, [], false⟩,
    ⟨1, .q .mv, [.const (.string ⟨#[]⟩)], (some 2), none, [], false⟩,
    ⟨2, .q .mv, [.tmp 13], (some 3), none, [], false⟩])
  .ret)
  .skip))
 (.seq
 (.reg [⟨0, .q .mv, [.tmp 4], (some 14), none, [], false⟩,
   ⟨1, .e (.call 30), [.tmp 14], (some 15), none, [], false⟩,
   ⟨2, .q (.ext 0), [.tmp 15], (some 16), none, [], false⟩,
   ⟨3, .q (.ext 1), [.tmp 15], (some 17), none, [], false⟩,
   ⟨4, .q .mv, [.tmp 16], (some 2), none, [], false⟩,
   ⟨5, .q .mv, [.tmp 17], (some 3), none, [], false⟩])
 .ret))))⟩
theorem low14 : lowFn Tryd.prog Tryd.f14 = some L14 := by kernel_rfl
theorem call14 {args : List Value} {H : Heap} {S : Ending → Heap → Prop} (hn : args.length ≤ L14.n) (h : awpC Tryd.prog L14.body (retQ L14.results S) (fun ch H => S (.panicked ch) H) (env0 args) H) : ACalls Tryd.prog 14 args.toArray H S := acalls mixed Tryd.func14 low14 hn h
end Go.Proofs.YtdlmomjcolbkgaaDoor.Low
