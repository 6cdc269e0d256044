/-
  Functions in short (out of the program's form in Lean, by the kernel).
-/
import Derived.Test.YtdlmomjcolbkgaaDoorSepCode
import Derived.Test.YtdlmomjcolbkgaaDoorProg
namespace Go.Proofs.YtdlmomjcolbkgaaDoor.Low
open Go Go.Proofs.YtdlmomjcolbkgaaDoor.Sep
theorem mixed : Tryd.prog.follows .mixedOrders = true := by kernel_rfl
/-- satchel/path.Join -/
def L17_0 : LCode :=
 (.seq
 (.reg [⟨0, .q (.bin .lss), [.tmp 13, .tmp 12], (some 14), none, [], false⟩])
 (.seq
 (.cond (.tmp 14)
  .skip
  (.exit 0))
 (.seq
 (.block 1
  (.seq
  (.reg [⟨0, .q (.iad 1), [.tmp 11, .tmp 13], (some 15), none, [], false⟩,
    ⟨1, .q .ld, [.tmp 15], (some 16), none, [], false⟩,
    ⟨2, .q .mv, [.tmp 16], (some 5), none, [], false⟩])
  (.seq
  (.reg [⟨0, .q .mv, [.tmp 5], (some 17), none, [], false⟩,
    ⟨1, .e (.call 32), [.tmp 17], (some 18), none, [], false⟩,
    ⟨2, .q .mv, [.tmp 18], (some 6), none, [], false⟩])
  (.seq
  (.reg [⟨0, .q .mv, [.tmp 6], (some 19), none, [], false⟩,
    ⟨1, .q (.bin .neq), [.tmp 19, .const (.int .i64 0)], (some 20), none, [], false⟩])
  (.cond (.tmp 20)
   (.seq
   (.reg [⟨0, .q .mv, [.tmp 6], (some 21), none, [], false⟩,
     ⟨1, .q .mv, [.const (.string ⟨#[]⟩)], (some 2), none, [], false⟩,
     ⟨2, .q .mv, [.tmp 21], (some 3), none, [], false⟩])
   .ret)
   .skip)))))
 (.reg [⟨0, .q (.bin .add), [.tmp 13, .const (.int .i64 1)], (some 22), none, [], false⟩,
   ⟨1, .q .mv, [.tmp 22], (some 13), none, [], false⟩]))))
def L17 : LFn :=
 ⟨34, [.t 2, .t 3],
 (.seq
 (.reg [⟨0, .q .mv, [.const (.string ⟨#[]⟩)], (some 2), none, [], false⟩,
   ⟨1, .q .mv, [.const (.int .i64 0)], (some 3), none, [], false⟩])
 (.seq
 (.seq
 (.reg [⟨0, .q .mv, [.tmp 0], (some 8), none, [], false⟩,
   ⟨1, .q .len, [.tmp 8], (some 9), none, [], false⟩,
   ⟨2, .q (.bin .eql), [.tmp 9, .const (.int .i64 0)], (some 10), none, [], false⟩])
 (.cond (.tmp 10)
  (.seq
  (.reg [⟨0, .q .mv, [.const (.string ⟨#[]⟩)], (some 2), none, [], false⟩,
    ⟨1, .q .mv, [.const (.int .i64 90)], (some 3), none, [], false⟩])
  .ret)
  .skip))
 (.seq
 (.seq
 (.reg [⟨0, .q .mv, [.tmp 0], (some 11), none, [], false⟩,
   ⟨1, .q .len, [.tmp 11], (some 12), none, [], false⟩,
   ⟨2, .q .mv, [.const (.int .i64 0)], (some 13), none, [], false⟩])
 (.block 0
  (.loop L17_0)))
 (.seq
 (.reg [⟨0, .q .mv, [.tmp 0], (some 23), none, [], false⟩,
   ⟨1, .e (.call 29), [.tmp 23, .const (.string ⟨#[47]⟩)], (some 24), none, [], false⟩,
   ⟨2, .q .mv, [.tmp 24], (some 7), none, [], false⟩])
 (.seq
 (.block 2
  (.seq
  (.reg [⟨0, .q .mv, [.tmp 0], (some 26), none, [], false⟩,
    ⟨1, .q .len, [.tmp 26], (some 27), none, [], false⟩,
    ⟨2, .q (.bin .gtr), [.tmp 27, .const (.int .i64 256)], (some 28), none, [], false⟩,
    ⟨3, .q .mv, [.tmp 28], (some 25), none, [], false⟩])
  (.cond (.tmp 25)
   (.seq
   (.reg [⟨0, .q .mv, [.const (.string ⟨#[]⟩)], (some 2), none, [], false⟩,
     ⟨1, .q .mv, [.const (.int .i64 95)], (some 3), none, [], false⟩])
   .ret)
   (.seq
   (.reg [⟨0, .q .mv, [.tmp 7], (some 30), none, [], false⟩,
     ⟨1, .q .lens, [.tmp 30], (some 31), none, [], false⟩,
     ⟨2, .q (.bin .gtr), [.tmp 31, .const (.int .i64 4096)], (some 32), none, [], false⟩,
     ⟨3, .q .mv, [.tmp 32], (some 29), none, [], false⟩])
   (.cond (.tmp 29)
    (.seq
    (.reg [⟨0, .q .mv, [.const (.string ⟨#[]⟩)], (some 2), none, [], false⟩,
      ⟨1, .q .mv, [.const (.int .i64 2)], (some 3), none, [], false⟩])
    .ret)
    .skip)))))
 (.seq
 (.reg [⟨0, .q .mv, [.tmp 7], (some 33), none, [], false⟩,
   ⟨1, .q .mv, [.tmp 33], (some 2), none, [], false⟩,
   ⟨2, .q .mv, [.const (.int .i64 0)], (some 3), none, [], false⟩])
 .ret))))))⟩
theorem low17 : lowFn Tryd.prog Tryd.f17 = some L17 := by kernel_rfl
theorem call17 {args : List Value} {H : Heap} {S : Ending → Heap → Prop} (hn : args.length ≤ L17.n) (h : awpC Tryd.prog L17.body (retQ L17.results S) (fun ch H => S (.panicked ch) H) (env0 args) H) : ACalls Tryd.prog 17 args.toArray H S := acalls mixed Tryd.func17 low17 hn h
/-- satchel/satchelref09.Join -/
def L30_0 : LCode :=
 (.seq
 (.seq
 (.reg [⟨0, .q .mv, [.tmp 4], (some 11), none, [], false⟩,
   ⟨1, .q .mv, [.tmp 0], (some 12), none, [], false⟩,
   ⟨2, .q .len, [.tmp 12], (some 13), none, [], false⟩,
   ⟨3, .q (.bin .lss), [.tmp 11, .tmp 13], (some 14), none, [], false⟩])
 (.cond (.tmp 14)
  .skip
  (.exit 0)))
 (.seq
 (.block 1
  (.seq
  (.reg [⟨0, .q .mv, [.tmp 0], (some 17), none, [], false⟩,
    ⟨1, .q .mv, [.tmp 4], (some 18), none, [], false⟩,
    ⟨2, .q (.iad 1), [.tmp 17, .tmp 18], (some 19), none, [], false⟩,
    ⟨3, .q .ld, [.tmp 19], (some 20), none, [], false⟩,
    ⟨4, .e (.call 43), [.tmp 20], (some 21), none, [], false⟩,
    ⟨5, .q .mv, [.tmp 21], (some 5), none, [], false⟩])
  (.seq
  (.reg [⟨0, .q .mv, [.tmp 5], (some 22), none, [], false⟩,
    ⟨1, .q (.bin .neq), [.tmp 22, .const (.int .i64 0)], (some 23), none, [], false⟩])
  (.cond (.tmp 23)
   (.seq
   (.reg [⟨0, .q .mv, [.tmp 5], (some 24), none, [], false⟩,
     ⟨1, .q .mv, [.const (.string ⟨#[]⟩)], (some 2), none, [], false⟩,
     ⟨2, .q .mv, [.tmp 24], (some 3), none, [], false⟩])
   .ret)
   .skip))))
 (.reg [⟨0, .q .mv, [.tmp 4], (some 15), none, [], false⟩,
   ⟨1, .q (.bin .add), [.tmp 15, .const (.int .i64 1)], (some 16), none, [], false⟩,
   ⟨2, .q .mv, [.tmp 16], (some 4), none, [], false⟩])))
def L30_1 : LCode :=
 (.seq
 (.seq
 (.reg [⟨0, .q .mv, [.tmp 7], (some 31), none, [], false⟩,
   ⟨1, .q .mv, [.tmp 0], (some 32), none, [], false⟩,
   ⟨2, .q .len, [.tmp 32], (some 33), none, [], false⟩,
   ⟨3, .q (.bin .lss), [.tmp 31, .tmp 33], (some 34), none, [], false⟩])
 (.cond (.tmp 34)
  .skip
  (.exit 2)))
 (.seq
 (.block 3
  (.reg [⟨0, .q .mv, [.tmp 6], (some 37), none, [], false⟩,
    ⟨1, .q (.bin .add), [.tmp 37, .const (.string ⟨#[47]⟩)], (some 38), none, [], false⟩,
    ⟨2, .q .mv, [.tmp 0], (some 39), none, [], false⟩,
    ⟨3, .q .mv, [.tmp 7], (some 40), none, [], false⟩,
    ⟨4, .q (.iad 1), [.tmp 39, .tmp 40], (some 41), none, [], false⟩,
    ⟨5, .q .ld, [.tmp 41], (some 42), none, [], false⟩,
    ⟨6, .q (.bin .add), [.tmp 38, .tmp 42], (some 43), none, [], false⟩,
    ⟨7, .q .mv, [.tmp 43], (some 6), none, [], false⟩]))
 (.reg [⟨0, .q .mv, [.tmp 7], (some 35), none, [], false⟩,
   ⟨1, .q (.bin .add), [.tmp 35, .const (.int .i64 1)], (some 36), none, [], false⟩,
   ⟨2, .q .mv, [.tmp 36], (some 7), none, [], false⟩])))
def L30 : LFn :=
 ⟨48, [.t 2, .t 3],
 (.seq
 (.reg [⟨0, .q .mv, [.const (.string ⟨#[]⟩)], (some 2), none, [], false⟩,
   ⟨1, .q .mv, [.const (.int .i64 0)], (some 3), none, [], false⟩])
 (.seq
 (.seq
 (.reg [⟨0, .q .mv, [.tmp 0], (some 8), none, [], false⟩,
   ⟨1, .q .len, [.tmp 8], (some 9), none, [], false⟩,
   ⟨2, .q (.bin .eql), [.tmp 9, .const (.int .i64 0)], (some 10), none, [], false⟩])
 (.cond (.tmp 10)
  (.seq
  (.reg [⟨0, .q .mv, [.const (.string ⟨#[]⟩)], (some 2), none, [], false⟩,
    ⟨1, .q .mv, [.const (.int .i64 90)], (some 3), none, [], false⟩])
  .ret)
  .skip))
 (.seq
 (.seq
 (.reg [⟨0, .q .mv, [.const (.int .i64 0)], (some 4), none, [], false⟩])
 (.block 0
  (.loop L30_0)))
 (.seq
 (.seq
 (.reg [⟨0, .q .mv, [.tmp 0], (some 25), none, [], false⟩,
   ⟨1, .q .len, [.tmp 25], (some 26), none, [], false⟩,
   ⟨2, .q (.bin .gtr), [.tmp 26, .const (.int .i64 256)], (some 27), none, [], false⟩])
 (.cond (.tmp 27)
  (.seq
  (.reg [⟨0, .q .mv, [.const (.string ⟨#[]⟩)], (some 2), none, [], false⟩,
    ⟨1, .q .mv, [.const (.int .i64 95)], (some 3), none, [], false⟩])
  .ret)
  .skip))
 (.seq
 (.reg [⟨0, .q .mv, [.tmp 0], (some 28), none, [], false⟩,
   ⟨1, .q (.iad 1), [.tmp 28, .const (.int .i64 0)], (some 29), none, [], false⟩,
   ⟨2, .q .ld, [.tmp 29], (some 30), none, [], false⟩,
   ⟨3, .q .mv, [.tmp 30], (some 6), none, [], false⟩])
 (.seq
 (.seq
 (.reg [⟨0, .q .mv, [.const (.int .i64 1)], (some 7), none, [], false⟩])
 (.block 2
  (.loop L30_1)))
 (.seq
 (.seq
 (.reg [⟨0, .q .mv, [.tmp 6], (some 44), none, [], false⟩,
   ⟨1, .q .lens, [.tmp 44], (some 45), none, [], false⟩,
   ⟨2, .q (.bin .gtr), [.tmp 45, .const (.int .i64 4096)], (some 46), none, [], false⟩])
 (.cond (.tmp 46)
  (.seq
  (.reg [⟨0, .q .mv, [.const (.string ⟨#[]⟩)], (some 2), none, [], false⟩,
    ⟨1, .q .mv, [.const (.int .i64 2)], (some 3), none, [], false⟩])
  .ret)
  .skip))
 (.seq
 (.reg [⟨0, .q .mv, [.tmp 6], (some 47), none, [], false⟩,
   ⟨1, .q .mv, [.tmp 47], (some 2), none, [], false⟩,
   ⟨2, .q .mv, [.const (.int .i64 0)], (some 3), none, [], false⟩])
 .ret))))))))⟩
theorem low30 : lowFn Tryd.prog Tryd.f30 = some L30 := by kernel_rfl
theorem call30 {args : List Value} {H : Heap} {S : Ending → Heap → Prop} (hn : args.length ≤ L30.n) (h : awpC Tryd.prog L30.body (retQ L30.results S) (fun ch H => S (.panicked ch) H) (env0 args) H) : ACalls Tryd.prog 30 args.toArray H S := acalls mixed Tryd.func30 low30 hn h
/-- satchel/path.wrong -/
def L32 : LFn :=
 ⟨24, [.t 2],
 (.seq
 (.reg [⟨0, .q .mv, [.const (.int .i64 0)], (some 2), none, [], false⟩])
 (.seq
 (.block 0
  (.seq
  (.reg [⟨0, .q .mv, [.tmp 0], (some 4), none, [], false⟩,
    ⟨1, .q (.bin .eql), [.tmp 4, .const (.string ⟨#[]⟩)], (some 5), none, [], false⟩,
    ⟨2, .q .mv, [.tmp 5], (some 6), none, [], false⟩,
    ⟨3, .q .mv, [.tmp 0], (some 7), (some (6, false)), [], false⟩,
    ⟨4, .q (.bin .eql), [.tmp 7, .const (.string ⟨#[46]⟩)], (some 8), (some (6, false)), [], false⟩,
    ⟨5, .q .pick, [.tmp 6, .const (.bool true), .tmp 8], (some 9), none, [], false⟩,
    ⟨6, .q .mv, [.tmp 9], (some 3), none, [], false⟩])
  (.cond (.tmp 3)
   (.seq
   (.reg [⟨0, .q .mv, [.const (.int .i64 90)], (some 2), none, [], false⟩])
   .ret)
   (.seq
   (.reg [⟨0, .q .mv, [.tmp 0], (some 11), none, [], false⟩,
     ⟨1, .q (.bin .eql), [.tmp 11, .const (.string ⟨#[46, 46]⟩)], (some 12), none, [], false⟩,
     ⟨2, .q .mv, [.tmp 12], (some 10), none, [], false⟩])
   (.cond (.tmp 10)
    (.seq
    (.reg [⟨0, .q .mv, [.const (.int .i64 92)], (some 2), none, [], false⟩])
    .ret)
    (.seq
    (.reg [⟨0, .q .mv, [.tmp 0], (some 14), none, [], false⟩,
      ⟨1, .e (.call 25), [.tmp 14, .const (.int .u8 0)], (some 15), none, [], false⟩,
      ⟨2, .q (.bin .geq), [.tmp 15, .const (.int .i64 0)], (some 16), none, [], false⟩,
      ⟨3, .q .mv, [.tmp 16], (some 13), none, [], false⟩])
    (.cond (.tmp 13)
     (.seq
     (.reg [⟨0, .q .mv, [.const (.int .i64 93)], (some 2), none, [], false⟩])
     .ret)
     (.seq
     (.reg [⟨0, .q .mv, [.tmp 0], (some 18), none, [], false⟩,
       ⟨1, .e (.call 45), [.tmp 18, .const (.string ⟨#[47]⟩)], (some 19), none, [], false⟩,
       ⟨2, .q .mv, [.tmp 19], (some 17), none, [], false⟩])
     (.cond (.tmp 17)
      (.seq
      (.reg [⟨0, .q .mv, [.const (.int .i64 91)], (some 2), none, [], false⟩])
      .ret)
      (.seq
      (.reg [⟨0, .q .mv, [.tmp 0], (some 21), none, [], false⟩,
        ⟨1, .q .lens, [.tmp 21], (some 22), none, [], false⟩,
        ⟨2, .q (.bin .gtr), [.tmp 22, .const (.int .i64 255)], (some 23), none, [], false⟩,
        ⟨3, .q .mv, [.tmp 23], (some 20), none, [], false⟩])
      (.cond (.tmp 20)
       (.seq
       (.reg [⟨0, .q .mv, [.const (.int .i64 94)], (some 2), none, [], false⟩])
       .ret)
       .skip)))))))))))
 (.seq
 (.reg [⟨0, .q .mv, [.const (.int .i64 0)], (some 2), none, [], false⟩])
 .ret)))⟩
theorem low32 : lowFn Tryd.prog Tryd.f32 = some L32 := by kernel_rfl
theorem call32 {args : List Value} {H : Heap} {S : Ending → Heap → Prop} (hn : args.length ≤ L32.n) (h : awpC Tryd.prog L32.body (retQ L32.results S) (fun ch H => S (.panicked ch) H) (env0 args) H) : ACalls Tryd.prog 32 args.toArray H S := acalls mixed Tryd.func32 low32 hn h
/-- satchel/satchelref09.part -/
def L43 : LFn :=
 ⟨18, [.t 2],
 (.seq
 (.reg [⟨0, .q .mv, [.const (.int .i64 0)], (some 2), none, [], false⟩])
 (.seq
 (.seq
 (.reg [⟨0, .q .mv, [.tmp 0], (some 3), none, [], false⟩,
   ⟨1, .q (.bin .eql), [.tmp 3, .const (.string ⟨#[]⟩)], (some 4), none, [], false⟩,
   ⟨2, .q .mv, [.tmp 4], (some 5), none, [], false⟩,
   ⟨3, .q .mv, [.tmp 0], (some 6), (some (5, false)), [], false⟩,
   ⟨4, .q (.bin .eql), [.tmp 6, .const (.string ⟨#[46]⟩)], (some 7), (some (5, false)), [], false⟩,
   ⟨5, .q .pick, [.tmp 5, .const (.bool true), .tmp 7], (some 8), none, [], false⟩])
 (.cond (.tmp 8)
  (.seq
  (.reg [⟨0, .q .mv, [.const (.int .i64 90)], (some 2), none, [], false⟩])
  .ret)
  .skip))
 (.seq
 (.seq
 (.reg [⟨0, .q .mv, [.tmp 0], (some 9), none, [], false⟩,
   ⟨1, .q (.bin .eql), [.tmp 9, .const (.string ⟨#[46, 46]⟩)], (some 10), none, [], false⟩])
 (.cond (.tmp 10)
  (.seq
  (.reg [⟨0, .q .mv, [.const (.int .i64 92)], (some 2), none, [], false⟩])
  .ret)
  .skip))
 (.seq
 (.seq
 (.reg [⟨0, .q .mv, [.tmp 0], (some 11), none, [], false⟩,
   ⟨1, .e (.call 28), [.tmp 11, .const (.int .u8 0)], (some 12), none, [], false⟩])
 (.cond (.tmp 12)
  (.seq
  (.reg [⟨0, .q .mv, [.const (.int .i64 93)], (some 2), none, [], false⟩])
  .ret)
  .skip))
 (.seq
 (.seq
 (.reg [⟨0, .q .mv, [.tmp 0], (some 13), none, [], false⟩,
   ⟨1, .e (.call 28), [.tmp 13, .const (.int .u8 47)], (some 14), none, [], false⟩])
 (.cond (.tmp 14)
  (.seq
  (.reg [⟨0, .q .mv, [.const (.int .i64 91)], (some 2), none, [], false⟩])
  .ret)
  .skip))
 (.seq
 (.seq
 (.reg [⟨0, .q .mv, [.tmp 0], (some 15), none, [], false⟩,
   ⟨1, .q .lens, [.tmp 15], (some 16), none, [], false⟩,
   ⟨2, .q (.bin .gtr), [.tmp 16, .const (.int .i64 255)], (some 17), none, [], false⟩])
 (.cond (.tmp 17)
  (.seq
  (.reg [⟨0, .q .mv, [.const (.int .i64 94)], (some 2), none, [], false⟩])
  .ret)
  .skip))
 (.seq
 (.reg [⟨0, .q .mv, [.const (.int .i64 0)], (some 2), none, [], false⟩])
 .ret)))))))⟩
theorem low43 : lowFn Tryd.prog Tryd.f43 = some L43 := by kernel_rfl
theorem call43 {args : List Value} {H : Heap} {S : Ending → Heap → Prop} (hn : args.length ≤ L43.n) (h : awpC Tryd.prog L43.body (retQ L43.results S) (fun ch H => S (.panicked ch) H) (env0 args) H) : ACalls Tryd.prog 43 args.toArray H S := acalls mixed Tryd.func43 low43 hn h
/-- satchel/satchelref09.has -/
def L28_0 : LCode :=
 (.seq
 (.seq
 (.reg [⟨0, .q .mv, [.tmp 5], (some 6), none, [], false⟩,
   ⟨1, .q .mv, [.tmp 0], (some 7), none, [], false⟩,
   ⟨2, .q .lens, [.tmp 7], (some 8), none, [], false⟩,
   ⟨3, .q (.bin .lss), [.tmp 6, .tmp 8], (some 9), none, [], false⟩])
 (.cond (.tmp 9)
  .skip
  (.exit 0)))
 (.seq
 (.block 1
  (.seq
  (.reg [⟨0, .q .mv, [.tmp 0], (some 12), none, [], false⟩,
    ⟨1, .q .mv, [.tmp 5], (some 13), none, [], false⟩,
    ⟨2, .q .ixs, [.tmp 12, .tmp 13], (some 14), none, [], false⟩,
    ⟨3, .q .mv, [.tmp 1], (some 15), none, [], false⟩,
    ⟨4, .q (.bin .eql), [.tmp 14, .tmp 15], (some 16), none, [], false⟩])
  (.cond (.tmp 16)
   (.seq
   (.reg [⟨0, .q .mv, [.const (.bool true)], (some 4), none, [], false⟩])
   .ret)
   .skip)))
 (.reg [⟨0, .q .mv, [.tmp 5], (some 10), none, [], false⟩,
   ⟨1, .q (.bin .add), [.tmp 10, .const (.int .i64 1)], (some 11), none, [], false⟩,
   ⟨2, .q .mv, [.tmp 11], (some 5), none, [], false⟩])))
def L28 : LFn :=
 ⟨17, [.t 4],
 (.seq
 (.reg [⟨0, .q .mv, [.const (.bool false)], (some 4), none, [], false⟩])
 (.seq
 (.seq
 (.reg [⟨0, .q .mv, [.const (.int .i64 0)], (some 5), none, [], false⟩])
 (.block 0
  (.loop L28_0)))
 (.seq
 (.reg [⟨0, .q .mv, [.const (.bool false)], (some 4), none, [], false⟩])
 .ret)))⟩
theorem low28 : lowFn Tryd.prog Tryd.f28 = some L28 := by kernel_rfl
theorem call28 {args : List Value} {H : Heap} {S : Ending → Heap → Prop} (hn : args.length ≤ L28.n) (h : awpC Tryd.prog L28.body (retQ L28.results S) (fun ch H => S (.panicked ch) H) (env0 args) H) : ACalls Tryd.prog 28 args.toArray H S := acalls mixed Tryd.func28 low28 hn h
/-- satchel/satchellaw09.written -/
def L15_0 : LCode :=
 (.seq
 (.seq
 (.reg [⟨0, .q .mv, [.tmp 2], (some 4), none, [], false⟩,
   ⟨1, .q .mv, [.tmp 0], (some 5), none, [], false⟩,
   ⟨2, .q .len, [.tmp 5], (some 6), none, [], false⟩,
   ⟨3, .q (.bin .lss), [.tmp 4, .tmp 6], (some 7), none, [], false⟩])
 (.cond (.tmp 7)
  .skip
  (.exit 0)))
 (.seq
 (.block 1
  (.reg [⟨0, .q .mv, [.tmp 0], (some 10), none, [], false⟩,
    ⟨1, .q .mv, [.tmp 2], (some 11), none, [], false⟩,
    ⟨2, .q (.iad 1), [.tmp 10, .tmp 11], (some 12), none, [], false⟩,
    ⟨3, .e (.st 1), [.tmp 12, .const (.string ⟨#[119, 114, 105, 116, 116, 101, 110]⟩)], none, none, [], false⟩]))
 (.reg [⟨0, .q .mv, [.tmp 2], (some 8), none, [], false⟩,
   ⟨1, .q (.bin .add), [.tmp 8, .const (.int .i64 1)], (some 9), none, [], false⟩,
   ⟨2, .q .mv, [.tmp 9], (some 2), none, [], false⟩])))
def L15_1 : LCode :=
 (.seq
 (.seq
 (.reg [⟨0, .q .mv, [.tmp 3], (some 13), none, [], false⟩,
   ⟨1, .q (.bin .lss), [.tmp 13, .const (.int .i64 40)], (some 14), none, [], false⟩])
 (.cond (.tmp 14)
  .skip
  (.exit 2)))
 (.seq
 (.block 3
  (.reg [⟨0, .q .mv, [.tmp 0], (some 17), none, [], false⟩,
    ⟨1, .e (.lits 9 #[(.string ⟨#[]⟩)] 1 [(0, 1)]), [.const (.string ⟨#[103, 114, 111, 119, 110]⟩)], (some 18), none, [], false⟩,
    ⟨2, .e (.app 9 1 16 #[(.string ⟨#[]⟩)]), [.tmp 17, .tmp 18], (some 19), none, [], false⟩,
    ⟨3, .q .mv, [.tmp 19], (some 0), none, [], false⟩]))
 (.reg [⟨0, .q .mv, [.tmp 3], (some 15), none, [], false⟩,
   ⟨1, .q (.bin .add), [.tmp 15, .const (.int .i64 1)], (some 16), none, [], false⟩,
   ⟨2, .q .mv, [.tmp 16], (some 3), none, [], false⟩])))
def L15 : LFn :=
 ⟨20, [],
 (.seq
 (.seq
 (.reg [⟨0, .q .mv, [.const (.int .i64 0)], (some 2), none, [], false⟩])
 (.block 0
  (.loop L15_0)))
 (.seq
 (.reg [⟨0, .q .mv, [.const (.int .i64 0)], (some 3), none, [], false⟩])
 (.block 2
  (.loop L15_1))))⟩
theorem low15 : lowFn Tryd.prog Tryd.f15 = some L15 := by kernel_rfl
theorem call15 {args : List Value} {H : Heap} {S : Ending → Heap → Prop} (hn : args.length ≤ L15.n) (h : awpC Tryd.prog L15.body (retQ L15.results S) (fun ch H => S (.panicked ch) H) (env0 args) H) : ACalls Tryd.prog 15 args.toArray H S := acalls mixed Tryd.func15 low15 hn h
end Go.Proofs.YtdlmomjcolbkgaaDoor.Low
