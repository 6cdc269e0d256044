/-
  Functions in short (out of the program's form in Lean, by the kernel).
-/
import Derived.Test.YthflafgijfbpnaaDoorSepDfr
import Derived.Test.YthflafgijfbpnaaDoorProg
namespace Go.Proofs.YthflafgijfbpnaaDoor.Low
open Go Go.Proofs.YthflafgijfbpnaaDoor.Sep
theorem mixed : Tryd.prog.follows .mixedOrders = true := by kernel_rfl
/-- satchel/field.Number -/
def L43 : LFn :=
 ⟨22, [.t 2, .t 3],
 (.seq
 (.reg [⟨0, .q .mv, [.const (.int .i64 0)], (some 2), none, [], false⟩,
   ⟨1, .q .mv, [.const (.int .i64 0)], (some 3), none, [], false⟩])
 (.seq
 (.seq
 (.reg [⟨0, .q .mv, [.tmp 0], (some 4), none, [], false⟩,
   ⟨1, .q .len, [.tmp 4], (some 5), none, [], false⟩,
   ⟨2, .q (.bin .gtr), [.tmp 5, .const (.int .i64 0)], (some 6), none, [], false⟩,
   ⟨3, .q .mv, [.tmp 6], (some 7), none, [], false⟩,
   ⟨4, .q .mv, [.tmp 0], (some 8), (some (7, true)), [], false⟩,
   ⟨5, .q (.iad 1), [.tmp 8, .const (.int .i64 0)], (some 9), (some (7, true)), [], false⟩,
   ⟨6, .q .ld, [.tmp 9], (some 10), (some (7, true)), [], false⟩,
   ⟨7, .q (.bin .and), [.tmp 10, .const (.int .u8 128)], (some 11), (some (7, true)), [], false⟩,
   ⟨8, .q (.bin .neq), [.tmp 11, .const (.int .u8 0)], (some 12), (some (7, true)), [], false⟩,
   ⟨9, .q .pick, [.tmp 7, .tmp 12, .const (.bool false)], (some 13), none, [], false⟩])
 (.cond (.tmp 13)
  (.seq
  (.reg [⟨0, .q .mv, [.tmp 0], (some 14), none, [], false⟩,
    ⟨1, .e (.call 48), [.tmp 14], (some 15), none, [], false⟩,
    ⟨2, .q (.ext 0), [.tmp 15], (some 16), none, [], false⟩,
    ⟨3, .q (.ext 1), [.tmp 15], (some 17), none, [], false⟩,
    ⟨4, .q .mv, [.tmp 16], (some 2), none, [], false⟩,
    ⟨5, .q .mv, [.tmp 17], (some 3), none, [], false⟩])
  .ret)
  .skip))
 (.seq
 (.reg [⟨0, .q .mv, [.tmp 0], (some 18), none, [], false⟩,
   ⟨1, .e (.call 51), [.tmp 18], (some 19), none, [], false⟩,
   ⟨2, .q (.ext 0), [.tmp 19], (some 20), none, [], false⟩,
   ⟨3, .q (.ext 1), [.tmp 19], (some 21), none, [], false⟩,
   ⟨4, .q .mv, [.tmp 20], (some 2), none, [], false⟩,
   ⟨5, .q .mv, [.tmp 21], (some 3), none, [], false⟩])
 .ret)))⟩
theorem low43 : lowFn Tryd.prog Tryd.f43 = some L43 := by kernel_rfl
theorem call43 {args : List Value} {H : Heap} {S : Ending → Heap → Prop} (hn : args.length ≤ L43.n) (h : awpC Tryd.prog L43.body (retQ L43.results S) (fun ch H => S (.panicked ch) H) (env0 args) H) : ACalls Tryd.prog 43 args.toArray H S := acalls mixed Tryd.func43 low43 hn h
/-- satchel/satchelref12.Number -/
def L44 : LFn :=
 ⟨21, [.t 2, .t 3],
 (.seq
 (.reg [⟨0, .q .mv, [.const (.int .i64 0)], (some 2), none, [], false⟩,
   ⟨1, .q .mv, [.const (.int .i64 0)], (some 3), none, [], false⟩])
 (.seq
 (.seq
 (.reg [⟨0, .q .mv, [.tmp 0], (some 4), none, [], false⟩,
   ⟨1, .q .len, [.tmp 4], (some 5), none, [], false⟩,
   ⟨2, .q (.bin .gtr), [.tmp 5, .const (.int .i64 0)], (some 6), none, [], false⟩,
   ⟨3, .q .mv, [.tmp 6], (some 7), none, [], false⟩,
   ⟨4, .q .mv, [.tmp 0], (some 8), (some (7, true)), [], false⟩,
   ⟨5, .q (.iad 1), [.tmp 8, .const (.int .i64 0)], (some 9), (some (7, true)), [], false⟩,
   ⟨6, .q .ld, [.tmp 9], (some 10), (some (7, true)), [], false⟩,
   ⟨7, .q (.bin .geq), [.tmp 10, .const (.int .u8 128)], (some 11), (some (7, true)), [], false⟩,
   ⟨8, .q .pick, [.tmp 7, .tmp 11, .const (.bool false)], (some 12), none, [], false⟩])
 (.cond (.tmp 12)
  (.seq
  (.reg [⟨0, .q .mv, [.tmp 0], (some 13), none, [], false⟩,
    ⟨1, .e (.call 52), [.tmp 13], (some 14), none, [], false⟩,
    ⟨2, .q (.ext 0), [.tmp 14], (some 15), none, [], false⟩,
    ⟨3, .q (.ext 1), [.tmp 14], (some 16), none, [], false⟩,
    ⟨4, .q .mv, [.tmp 15], (some 2), none, [], false⟩,
    ⟨5, .q .mv, [.tmp 16], (some 3), none, [], false⟩])
  .ret)
  .skip))
 (.seq
 (.reg [⟨0, .q .mv, [.tmp 0], (some 17), none, [], false⟩,
   ⟨1, .e (.call 53), [.tmp 17], (some 18), none, [], false⟩,
   ⟨2, .q (.ext 0), [.tmp 18], (some 19), none, [], false⟩,
   ⟨3, .q (.ext 1), [.tmp 18], (some 20), none, [], false⟩,
   ⟨4, .q .mv, [.tmp 19], (some 2), none, [], false⟩,
   ⟨5, .q .mv, [.tmp 20], (some 3), none, [], false⟩])
 .ret)))⟩
theorem low44 : lowFn Tryd.prog Tryd.f44 = some L44 := by kernel_rfl
theorem call44 {args : List Value} {H : Heap} {S : Ending → Heap → Prop} (hn : args.length ≤ L44.n) (h : awpC Tryd.prog L44.body (retQ L44.results S) (fun ch H => S (.panicked ch) H) (env0 args) H) : ACalls Tryd.prog 44 args.toArray H S := acalls mixed Tryd.func44 low44 hn h
end Go.Proofs.YthflafgijfbpnaaDoor.Low
