/-
  Functions in short (out of the program's form in Lean, by the kernel).
-/
import Derived.Test.YtdlmomjcolbkgaaSepCode
import Derived.Test.YtdlmomjcolbkgaaProg
namespace Go.Proofs.Ytdlmomjcolbkgaa.Low
open Go Go.Proofs.Ytdlmomjcolbkgaa.Sep
theorem mixed : Try.prog.follows .mixedOrders = true := by kernel_rfl
/-- satchel/satchellaw09.same -/
def L6_0 : LCode :=
 (.seq
 (.seq
 (.reg [⟨0, .q .mv, [.tmp 5], (some 11), none, [], false⟩,
   ⟨1, .q .mv, [.tmp 0], (some 12), none, [], false⟩,
   ⟨2, .q .len, [.tmp 12], (some 13), none, [], false⟩,
   ⟨3, .q (.bin .lss), [.tmp 11, .tmp 13], (some 14), none, [], false⟩])
 (.cond (.tmp 14)
  .skip
  (.exit 0)))
 (.seq
 (.block 1
  (.seq
  (.reg [⟨0, .q .mv, [.tmp 0], (some 17), none, [], false⟩,
    ⟨1, .q .mv, [.tmp 5], (some 18), none, [], false⟩,
    ⟨2, .q (.iad 1), [.tmp 17, .tmp 18], (some 19), none, [], false⟩,
    ⟨3, .q .ld, [.tmp 19], (some 20), none, [], false⟩,
    ⟨4, .q .mv, [.tmp 1], (some 21), none, [], false⟩,
    ⟨5, .q .mv, [.tmp 5], (some 22), none, [], false⟩,
    ⟨6, .q (.iad 1), [.tmp 21, .tmp 22], (some 23), none, [], false⟩,
    ⟨7, .q .ld, [.tmp 23], (some 24), none, [], false⟩,
    ⟨8, .q (.bin .neq), [.tmp 20, .tmp 24], (some 25), none, [], false⟩])
  (.cond (.tmp 25)
   (.seq
   (.reg [⟨0, .q .mv, [.const (.bool false)], (some 4), none, [], false⟩])
   .ret)
   .skip)))
 (.reg [⟨0, .q .mv, [.tmp 5], (some 15), none, [], false⟩,
   ⟨1, .q (.bin .add), [.tmp 15, .const (.int .i64 1)], (some 16), none, [], false⟩,
   ⟨2, .q .mv, [.tmp 16], (some 5), none, [], false⟩])))
def L6 : LFn :=
 ⟨26, [.t 4],
 (.seq
 (.reg [⟨0, .q .mv, [.const (.bool false)], (some 4), none, [], false⟩])
 (.seq
 (.seq
 (.reg [⟨0, .q .mv, [.tmp 0], (some 6), none, [], false⟩,
   ⟨1, .q .len, [.tmp 6], (some 7), none, [], false⟩,
   ⟨2, .q .mv, [.tmp 1], (some 8), none, [], false⟩,
   ⟨3, .q .len, [.tmp 8], (some 9), none, [], false⟩,
   ⟨4, .q (.bin .neq), [.tmp 7, .tmp 9], (some 10), none, [], false⟩])
 (.cond (.tmp 10)
  (.seq
  (.reg [⟨0, .q .mv, [.const (.bool false)], (some 4), none, [], false⟩])
  .ret)
  .skip))
 (.seq
 (.seq
 (.reg [⟨0, .q .mv, [.const (.int .i64 0)], (some 5), none, [], false⟩])
 (.block 0
  (.loop L6_0)))
 (.seq
 (.reg [⟨0, .q .mv, [.const (.bool true)], (some 4), none, [], false⟩])
 .ret))))⟩
theorem low6 : lowFn Try.prog Try.f6 = some L6 := by kernel_rfl
theorem call6 {args : List Value} {H : Heap} {S : Ending → Heap → Prop} (hn : args.length ≤ L6.n) (h : awpC Try.prog L6.body (retQ L6.results S) (fun ch H => S (.panicked ch) H) (env0 args) H) : ACalls Try.prog 6 args.toArray H S := acalls mixed Try.func6 low6 hn h
end Go.Proofs.Ytdlmomjcolbkgaa.Low
