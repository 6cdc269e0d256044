/-
  Functions in short (out of the program's form in Lean, by the kernel).
-/
import Derived.Test.YtdlmomjcolbkgaaSepCode
import Derived.Test.YtdlmomjcolbkgaaProg
namespace Go.Proofs.Ytdlmomjcolbkgaa.Low
open Go Go.Proofs.Ytdlmomjcolbkgaa.Sep
theorem mixed : Try.prog.follows .mixedOrders = true := by kernel_rfl
/-- satchel/path.Compare -/
def L5 : LFn :=
 ⟨8, [.t 4],
 (.seq
 (.reg [⟨0, .q .mv, [.const (.int .i64 0)], (some 4), none, [], false⟩])
 (.seq
 (.reg [⟨0, .q .mv, [.tmp 0], (some 5), none, [], false⟩,
   ⟨1, .q .mv, [.tmp 1], (some 6), none, [], false⟩,
   ⟨2, .e (.call 17), [.tmp 5, .tmp 6], (some 7), none, [], false⟩,
   ⟨3, .q .mv, [.tmp 7], (some 4), none, [], false⟩])
 .ret))⟩
theorem low5 : lowFn Try.prog Try.f5 = some L5 := by kernel_rfl
theorem call5 {args : List Value} {H : Heap} {S : Ending → Heap → Prop} (hn : args.length ≤ L5.n) (h : awpC Try.prog L5.body (retQ L5.results S) (fun ch H => S (.panicked ch) H) (env0 args) H) : ACalls Try.prog 5 args.toArray H S := acalls mixed Try.func5 low5 hn h
/-- slices.Compare[[]string,string] -/
def L17_0 : LCode :=
 (.seq
 (.reg [⟨0, .q (.bin .lss), [.tmp 11, .tmp 10], (some 12), none, [], false⟩])
 (.seq
 (.cond (.tmp 12)
  .skip
  (.exit 0))
 (.seq
 (.block 1
  (.seq
  (.reg [⟨0, .q .mv, [.tmp 11], (some 13), none, [], false⟩,
    ⟨1, .q (.iad 1), [.tmp 9, .tmp 11], (some 14), none, [], false⟩,
    ⟨2, .q .ld, [.tmp 14], (some 15), none, [], false⟩,
    ⟨3, .q .mv, [.tmp 13], (some 5), none, [], false⟩,
    ⟨4, .q .mv, [.tmp 15], (some 6), none, [], false⟩])
  (.seq
  (.seq
  (.reg [⟨0, .q .mv, [.tmp 5], (some 16), none, [], false⟩,
    ⟨1, .q .mv, [.tmp 1], (some 17), none, [], false⟩,
    ⟨2, .q .len, [.tmp 17], (some 18), none, [], false⟩,
    ⟨3, .q (.bin .geq), [.tmp 16, .tmp 18], (some 19), none, [], false⟩])
  (.cond (.tmp 19)
   (.seq
   (.reg [⟨0, .q .mv, [.const (.int .i64 1)], (some 4), none, [], false⟩])
   .ret)
   .skip))
  (.seq
  (.reg [⟨0, .q .mv, [.tmp 1], (some 20), none, [], false⟩,
    ⟨1, .q .mv, [.tmp 5], (some 21), none, [], false⟩,
    ⟨2, .q (.iad 1), [.tmp 20, .tmp 21], (some 22), none, [], false⟩,
    ⟨3, .q .ld, [.tmp 22], (some 23), none, [], false⟩,
    ⟨4, .q .mv, [.tmp 23], (some 7), none, [], false⟩])
  (.seq
  (.reg [⟨0, .q .mv, [.tmp 6], (some 24), none, [], false⟩,
    ⟨1, .q .mv, [.tmp 7], (some 25), none, [], false⟩,
    ⟨2, .e (.call 24), [.tmp 24, .tmp 25], (some 26), none, [], false⟩,
    ⟨3, .q .mv, [.tmp 26], (some 8), none, [], false⟩])
  (.seq
  (.reg [⟨0, .q .mv, [.tmp 8], (some 27), none, [], false⟩,
    ⟨1, .q (.bin .neq), [.tmp 27, .const (.int .i64 0)], (some 28), none, [], false⟩])
  (.cond (.tmp 28)
   (.seq
   (.reg [⟨0, .q .mv, [.tmp 8], (some 29), none, [], false⟩,
     ⟨1, .q .mv, [.tmp 29], (some 4), none, [], false⟩])
   .ret)
   .skip)))))))
 (.reg [⟨0, .q (.bin .add), [.tmp 11, .const (.int .i64 1)], (some 30), none, [], false⟩,
   ⟨1, .q .mv, [.tmp 30], (some 11), none, [], false⟩]))))
def L17 : LFn :=
 ⟨36, [.t 4],
 (.seq
 (.reg [⟨0, .q .mv, [.const (.int .i64 0)], (some 4), none, [], false⟩])
 (.seq
 (.seq
 (.reg [⟨0, .q .mv, [.tmp 0], (some 9), none, [], false⟩,
   ⟨1, .q .len, [.tmp 9], (some 10), none, [], false⟩,
   ⟨2, .q .mv, [.const (.int .i64 0)], (some 11), none, [], false⟩])
 (.block 0
  (.loop L17_0)))
 (.seq
 (.seq
 (.reg [⟨0, .q .mv, [.tmp 0], (some 31), none, [], false⟩,
   ⟨1, .q .len, [.tmp 31], (some 32), none, [], false⟩,
   ⟨2, .q .mv, [.tmp 1], (some 33), none, [], false⟩,
   ⟨3, .q .len, [.tmp 33], (some 34), none, [], false⟩,
   ⟨4, .q (.bin .lss), [.tmp 32, .tmp 34], (some 35), none, [], false⟩])
 (.cond (.tmp 35)
  (.seq
  (.reg [⟨0, .q .mv, [.const (.int .i64 (-1))], (some 4), none, [], false⟩])
  .ret)
  .skip))
 (.seq
 (.reg [⟨0, .q .mv, [.const (.int .i64 0)], (some 4), none, [], false⟩])
 .ret))))⟩
theorem low17 : lowFn Try.prog Try.f17 = some L17 := by kernel_rfl
theorem call17 {args : List Value} {H : Heap} {S : Ending → Heap → Prop} (hn : args.length ≤ L17.n) (h : awpC Try.prog L17.body (retQ L17.results S) (fun ch H => S (.panicked ch) H) (env0 args) H) : ACalls Try.prog 17 args.toArray H S := acalls mixed Try.func17 low17 hn h
/-- cmp.Compare[string] -/
def L24 : LFn :=
 ⟨20, [.t 4],
 (.seq
 (.reg [⟨0, .q .mv, [.const (.int .i64 0)], (some 4), none, [], false⟩])
 (.seq
 (.reg [⟨0, .q .mv, [.tmp 0], (some 7), none, [], false⟩,
   ⟨1, .e (.call 32), [.tmp 7], (some 8), none, [], false⟩,
   ⟨2, .q .mv, [.tmp 8], (some 5), none, [], false⟩])
 (.seq
 (.reg [⟨0, .q .mv, [.tmp 1], (some 9), none, [], false⟩,
   ⟨1, .e (.call 32), [.tmp 9], (some 10), none, [], false⟩,
   ⟨2, .q .mv, [.tmp 10], (some 6), none, [], false⟩])
 (.seq
 (.seq
 (.reg [⟨0, .q .mv, [.tmp 5], (some 11), none, [], false⟩])
 (.cond (.tmp 11)
  (.seq
  (.seq
  (.reg [⟨0, .q .mv, [.tmp 6], (some 12), none, [], false⟩])
  (.cond (.tmp 12)
   (.seq
   (.reg [⟨0, .q .mv, [.const (.int .i64 0)], (some 4), none, [], false⟩])
   .ret)
   .skip))
  (.seq
  (.reg [⟨0, .q .mv, [.const (.int .i64 (-1))], (some 4), none, [], false⟩])
  .ret))
  .skip))
 (.seq
 (.seq
 (.reg [⟨0, .q .mv, [.tmp 6], (some 13), none, [], false⟩])
 (.cond (.tmp 13)
  (.seq
  (.reg [⟨0, .q .mv, [.const (.int .i64 1)], (some 4), none, [], false⟩])
  .ret)
  .skip))
 (.seq
 (.seq
 (.reg [⟨0, .q .mv, [.tmp 0], (some 14), none, [], false⟩,
   ⟨1, .q .mv, [.tmp 1], (some 15), none, [], false⟩,
   ⟨2, .q (.bin .lss), [.tmp 14, .tmp 15], (some 16), none, [], false⟩])
 (.cond (.tmp 16)
  (.seq
  (.reg [⟨0, .q .mv, [.const (.int .i64 (-1))], (some 4), none, [], false⟩])
  .ret)
  .skip))
 (.seq
 (.seq
 (.reg [⟨0, .q .mv, [.tmp 0], (some 17), none, [], false⟩,
   ⟨1, .q .mv, [.tmp 1], (some 18), none, [], false⟩,
   ⟨2, .q (.bin .gtr), [.tmp 17, .tmp 18], (some 19), none, [], false⟩])
 (.cond (.tmp 19)
  (.seq
  (.reg [⟨0, .q .mv, [.const (.int .i64 1)], (some 4), none, [], false⟩])
  .ret)
  .skip))
 (.seq
 (.reg [⟨0, .q .mv, [.const (.int .i64 0)], (some 4), none, [], false⟩])
 .ret))))))))⟩
theorem low24 : lowFn Try.prog Try.f24 = some L24 := by kernel_rfl
theorem call24 {args : List Value} {H : Heap} {S : Ending → Heap → Prop} (hn : args.length ≤ L24.n) (h : awpC Try.prog L24.body (retQ L24.results S) (fun ch H => S (.panicked ch) H) (env0 args) H) : ACalls Try.prog 24 args.toArray H S := acalls mixed Try.func24 low24 hn h
/-- cmp.isNaN[string] -/
def L32 : LFn :=
 ⟨6, [.t 2],
 (.seq
 (.reg [⟨0, .q .mv, [.const (.bool false)], (some 2), none, [], false⟩])
 (.seq
 (.reg [⟨0, .q .mv, [.tmp 0], (some 3), none, [], false⟩,
   ⟨1, .q .mv, [.tmp 0], (some 4), none, [], false⟩,
   ⟨2, .q (.bin .neq), [.tmp 3, .tmp 4], (some 5), none, [], false⟩,
   ⟨3, .q .mv, [.tmp 5], (some 2), none, [], false⟩])
 .ret))⟩
theorem low32 : lowFn Try.prog Try.f32 = some L32 := by kernel_rfl
theorem call32 {args : List Value} {H : Heap} {S : Ending → Heap → Prop} (hn : args.length ≤ L32.n) (h : awpC Try.prog L32.body (retQ L32.results S) (fun ch H => S (.panicked ch) H) (env0 args) H) : ACalls Try.prog 32 args.toArray H S := acalls mixed Try.func32 low32 hn h
end Go.Proofs.Ytdlmomjcolbkgaa.Low
