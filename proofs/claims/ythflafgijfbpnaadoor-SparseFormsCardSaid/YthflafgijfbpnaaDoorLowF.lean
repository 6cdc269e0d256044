/-
  Functions in short (out of the program's form in Lean, by the kernel).
-/
import Derived.Test.YthflafgijfbpnaaDoorSepDfr
import Derived.Test.YthflafgijfbpnaaDoorProg
namespace Go.Proofs.YthflafgijfbpnaaDoor.Low
open Go Go.Proofs.YthflafgijfbpnaaDoor.Sep
theorem mixed : Tryd.prog.follows .mixedOrders = true := by kernel_rfl
/-- satchel/field.PutOctal -/
def L40 : LFn :=
 ⟨35, [.t 4, .t 5],
 (.seq
 (.reg [⟨0, .q .mv, [.const (.slice none 0 0)], (some 4), none, [], false⟩,
   ⟨1, .q .mv, [.const (.int .i64 0)], (some 5), none, [], false⟩])
 (.seq
 (.seq
 (.reg [⟨0, .q .mv, [.tmp 1], (some 7), none, [], false⟩,
   ⟨1, .q (.bin .lss), [.tmp 7, .const (.int .i64 2)], (some 8), none, [], false⟩,
   ⟨2, .q .mv, [.tmp 8], (some 9), none, [], false⟩,
   ⟨3, .q .mv, [.tmp 1], (some 10), (some (9, false)), [], false⟩,
   ⟨4, .q (.bin .gtr), [.tmp 10, .const (.int .i64 512)], (some 11), (some (9, false)), [], false⟩,
   ⟨5, .q .pick, [.tmp 9, .const (.bool true), .tmp 11], (some 12), none, [], false⟩])
 (.cond (.tmp 12)
  (.seq
  (.reg [⟨0, .q .mv, [.const (.slice none 0 0)], (some 4), none, [], false⟩,
    ⟨1, .q .mv, [.const (.int .i64 1)], (some 5), none, [], false⟩])
  .ret)
  .skip))
 (.seq
 (.reg [⟨0, .q .mv, [.tmp 0], (some 13), none, [], false⟩,
   ⟨1, .e (.call 46), [.tmp 13, .const (.int .i64 8)], (some 14), none, [], false⟩,
   ⟨2, .q .mv, [.tmp 14], (some 6), none, [], false⟩])
 (.seq
 (.seq
 (.reg [⟨0, .q .mv, [.tmp 0], (some 15), none, [], false⟩,
   ⟨1, .q (.bin .lss), [.tmp 15, .const (.int .i64 0)], (some 16), none, [], false⟩,
   ⟨2, .q .mv, [.tmp 16], (some 17), none, [], false⟩,
   ⟨3, .q .mv, [.tmp 6], (some 18), (some (17, false)), [], false⟩,
   ⟨4, .q .lens, [.tmp 18], (some 19), (some (17, false)), [], false⟩,
   ⟨5, .q .mv, [.tmp 1], (some 20), (some (17, false)), [], false⟩,
   ⟨6, .q (.bin .sub), [.tmp 20, .const (.int .i64 1)], (some 21), (some (17, false)), [], false⟩,
   ⟨7, .q (.bin .gtr), [.tmp 19, .tmp 21], (some 22), (some (17, false)), [], false⟩,
   ⟨8, .q .pick, [.tmp 17, .const (.bool true), .tmp 22], (some 23), none, [], false⟩])
 (.cond (.tmp 23)
  (.seq
  (.reg [⟨0, .q .mv, [.const (.slice none 0 0)], (some 4), none, [], false⟩,
    ⟨1, .q .mv, [.const (.int .i64 122)], (some 5), none, [], false⟩])
  .ret)
  .skip))
 (.seq
 (.reg [⟨0, .q .mv, [.tmp 1], (some 24), none, [], false⟩,
   ⟨1, .q (.bin .sub), [.tmp 24, .const (.int .i64 1)], (some 25), none, [], false⟩,
   ⟨2, .q .mv, [.tmp 6], (some 26), none, [], false⟩,
   ⟨3, .q .lens, [.tmp 26], (some 27), none, [], false⟩,
   ⟨4, .q (.bin .sub), [.tmp 25, .tmp 27], (some 28), none, [], false⟩,
   ⟨5, .e (.call 47), [.const (.string ⟨#[48]⟩), .tmp 28], (some 29), none, [], false⟩,
   ⟨6, .q .mv, [.tmp 6], (some 30), none, [], false⟩,
   ⟨7, .q (.bin .add), [.tmp 29, .tmp 30], (some 31), none, [], false⟩,
   ⟨8, .e (.s2b 5), [.tmp 31], (some 32), none, [], false⟩,
   ⟨9, .e (.lits 5 #[(.int .u8 0)] 1 [(0, 1)]), [.const (.int .u8 0)], (some 33), none, [], false⟩,
   ⟨10, .e (.app 5 1 1 #[(.int .u8 0)]), [.tmp 32, .tmp 33], (some 34), none, [], false⟩,
   ⟨11, .q .mv, [.tmp 34], (some 4), none, [], false⟩,
   ⟨12, .q .mv, [.const (.int .i64 0)], (some 5), none, [], false⟩])
 .ret)))))⟩
theorem low40 : lowFn Tryd.prog Tryd.f40 = some L40 := by kernel_rfl
theorem call40 {args : List Value} {H : Heap} {S : Ending → Heap → Prop} (hn : args.length ≤ L40.n) (h : awpC Tryd.prog L40.body (retQ L40.results S) (fun ch H => S (.panicked ch) H) (env0 args) H) : ACalls Tryd.prog 40 args.toArray H S := acalls mixed Tryd.func40 low40 hn h
/-- satchel/satchelref12.PutOctal -/
def L49_0 : LCode :=
 (.seq
 (.seq
 (.reg [⟨0, .q .mv, [.tmp 7], (some 17), none, [], false⟩,
   ⟨1, .q (.bin .geq), [.tmp 17, .const (.int .i64 0)], (some 18), none, [], false⟩])
 (.cond (.tmp 18)
  .skip
  (.exit 0)))
 (.seq
 (.block 1
  (.seq
  (.reg [⟨0, .q .mv, [.tmp 6], (some 21), none, [], false⟩,
    ⟨1, .q .mv, [.tmp 7], (some 22), none, [], false⟩,
    ⟨2, .q .mv, [.tmp 0], (some 23), none, [], false⟩,
    ⟨3, .q (.bin .rem), [.tmp 23, .const (.int .i64 8)], (some 24), none, [], false⟩,
    ⟨4, .q (.cvi .u8), [.tmp 24], (some 25), none, [], false⟩,
    ⟨5, .q (.bin .add), [.const (.int .u8 48), .tmp 25], (some 26), none, [], false⟩,
    ⟨6, .q (.iad 1), [.tmp 21, .tmp 22], (some 27), none, [], false⟩,
    ⟨7, .e (.st 1), [.tmp 27, .tmp 26], none, none, [], false⟩])
  (.reg [⟨0, .q .mv, [.tmp 0], (some 28), none, [], false⟩,
    ⟨1, .q (.bin .quo), [.tmp 28, .const (.int .i64 8)], (some 29), none, [], false⟩,
    ⟨2, .q .mv, [.tmp 29], (some 0), none, [], false⟩])))
 (.reg [⟨0, .q .mv, [.tmp 7], (some 19), none, [], false⟩,
   ⟨1, .q (.bin .sub), [.tmp 19, .const (.int .i64 1)], (some 20), none, [], false⟩,
   ⟨2, .q .mv, [.tmp 20], (some 7), none, [], false⟩])))
def L49 : LFn :=
 ⟨33, [.t 4, .t 5],
 (.seq
 (.reg [⟨0, .q .mv, [.const (.slice none 0 0)], (some 4), none, [], false⟩,
   ⟨1, .q .mv, [.const (.int .i64 0)], (some 5), none, [], false⟩])
 (.seq
 (.seq
 (.reg [⟨0, .q .mv, [.tmp 1], (some 8), none, [], false⟩,
   ⟨1, .e (.call 65), [.tmp 8], (some 9), none, [], false⟩,
   ⟨2, .q (.un .not), [.tmp 9], (some 10), none, [], false⟩])
 (.cond (.tmp 10)
  (.seq
  (.reg [⟨0, .q .mv, [.const (.slice none 0 0)], (some 4), none, [], false⟩,
    ⟨1, .q .mv, [.const (.int .i64 1)], (some 5), none, [], false⟩])
  .ret)
  .skip))
 (.seq
 (.seq
 (.reg [⟨0, .q .mv, [.tmp 0], (some 11), none, [], false⟩,
   ⟨1, .q (.bin .lss), [.tmp 11, .const (.int .i64 0)], (some 12), none, [], false⟩])
 (.cond (.tmp 12)
  (.seq
  (.reg [⟨0, .q .mv, [.const (.slice none 0 0)], (some 4), none, [], false⟩,
    ⟨1, .q .mv, [.const (.int .i64 122)], (some 5), none, [], false⟩])
  .ret)
  .skip))
 (.seq
 (.reg [⟨0, .q .mv, [.tmp 1], (some 13), none, [], false⟩,
   ⟨1, .e (.mks 5 1 1 #[(.int .u8 0)]), [.tmp 13, .tmp 13], (some 14), none, [], false⟩,
   ⟨2, .q .mv, [.tmp 14], (some 6), none, [], false⟩])
 (.seq
 (.seq
 (.reg [⟨0, .q .mv, [.tmp 1], (some 15), none, [], false⟩,
   ⟨1, .q (.bin .sub), [.tmp 15, .const (.int .i64 2)], (some 16), none, [], false⟩,
   ⟨2, .q .mv, [.tmp 16], (some 7), none, [], false⟩])
 (.block 0
  (.loop L49_0)))
 (.seq
 (.seq
 (.reg [⟨0, .q .mv, [.tmp 0], (some 30), none, [], false⟩,
   ⟨1, .q (.bin .gtr), [.tmp 30, .const (.int .i64 0)], (some 31), none, [], false⟩])
 (.cond (.tmp 31)
  (.seq
  (.reg [⟨0, .q .mv, [.const (.slice none 0 0)], (some 4), none, [], false⟩,
    ⟨1, .q .mv, [.const (.int .i64 122)], (some 5), none, [], false⟩])
  .ret)
  .skip))
 (.seq
 (.reg [⟨0, .q .mv, [.tmp 6], (some 32), none, [], false⟩,
   ⟨1, .q .mv, [.tmp 32], (some 4), none, [], false⟩,
   ⟨2, .q .mv, [.const (.int .i64 0)], (some 5), none, [], false⟩])
 .ret)))))))⟩
theorem low49 : lowFn Tryd.prog Tryd.f49 = some L49 := by kernel_rfl
theorem call49 {args : List Value} {H : Heap} {S : Ending → Heap → Prop} (hn : args.length ≤ L49.n) (h : awpC Tryd.prog L49.body (retQ L49.results S) (fun ch H => S (.panicked ch) H) (env0 args) H) : ACalls Tryd.prog 49 args.toArray H S := acalls mixed Tryd.func49 low49 hn h
/-- satchel/satchelref12.width -/
def L65 : LFn :=
 ⟨9, [.t 2],
 (.seq
 (.reg [⟨0, .q .mv, [.const (.bool false)], (some 2), none, [], false⟩])
 (.seq
 (.reg [⟨0, .q .mv, [.tmp 0], (some 3), none, [], false⟩,
   ⟨1, .q (.bin .geq), [.tmp 3, .const (.int .i64 2)], (some 4), none, [], false⟩,
   ⟨2, .q .mv, [.tmp 4], (some 5), none, [], false⟩,
   ⟨3, .q .mv, [.tmp 0], (some 6), (some (5, true)), [], false⟩,
   ⟨4, .q (.bin .leq), [.tmp 6, .const (.int .i64 512)], (some 7), (some (5, true)), [], false⟩,
   ⟨5, .q .pick, [.tmp 5, .tmp 7, .const (.bool false)], (some 8), none, [], false⟩,
   ⟨6, .q .mv, [.tmp 8], (some 2), none, [], false⟩])
 .ret))⟩
theorem low65 : lowFn Tryd.prog Tryd.f65 = some L65 := by kernel_rfl
theorem call65 {args : List Value} {H : Heap} {S : Ending → Heap → Prop} (hn : args.length ≤ L65.n) (h : awpC Tryd.prog L65.body (retQ L65.results S) (fun ch H => S (.panicked ch) H) (env0 args) H) : ACalls Tryd.prog 65 args.toArray H S := acalls mixed Tryd.func65 low65 hn h
end Go.Proofs.YthflafgijfbpnaaDoor.Low
