/-
  Functions in short (out of the program's form in Lean, by the kernel).
-/
import Derived.Test.YtmgpfdfbcnlocaaDoorSepDfr
import Derived.Test.YtmgpfdfbcnlocaaDoorProg
namespace Go.Proofs.YtmgpfdfbcnlocaaDoor.Low
open Go Go.Proofs.YtmgpfdfbcnlocaaDoor.Sep
theorem mixed : Tryd.prog.follows .mixedOrders = true := by kernel_rfl
/-- strings.genSplit -/
def L58_0 : LCode :=
 (.seq
 (.seq
 (.reg [⟨0, .q .mv, [.tmp 10], (some 34), none, [], false⟩,
   ⟨1, .q .mv, [.tmp 3], (some 35), none, [], false⟩,
   ⟨2, .q (.bin .lss), [.tmp 34, .tmp 35], (some 36), none, [], false⟩])
 (.cond (.tmp 36)
  .skip
  (.exit 0)))
 (.block 1
  (.seq
  (.reg [⟨0, .q .mv, [.tmp 0], (some 37), none, [], false⟩,
    ⟨1, .q .mv, [.tmp 1], (some 38), none, [], false⟩,
    ⟨2, .e (.call 62), [.tmp 37, .tmp 38], (some 39), none, [], false⟩,
    ⟨3, .q .mv, [.tmp 39], (some 11), none, [], false⟩])
  (.seq
  (.seq
  (.reg [⟨0, .q .mv, [.tmp 11], (some 40), none, [], false⟩,
    ⟨1, .q (.bin .lss), [.tmp 40, .const (.int .i64 0)], (some 41), none, [], false⟩])
  (.cond (.tmp 41)
   (.exit 0)
   .skip))
  (.seq
  (.reg [⟨0, .q .mv, [.tmp 9], (some 42), none, [], false⟩,
    ⟨1, .q .mv, [.tmp 10], (some 43), none, [], false⟩,
    ⟨2, .q .mv, [.tmp 0], (some 44), none, [], false⟩,
    ⟨3, .q .mv, [.tmp 11], (some 45), none, [], false⟩,
    ⟨4, .q .mv, [.tmp 2], (some 46), none, [], false⟩,
    ⟨5, .q (.bin .add), [.tmp 45, .tmp 46], (some 47), none, [], false⟩,
    ⟨6, .q (.sls false true), [.tmp 44, .tmp 47], (some 48), none, [], false⟩,
    ⟨7, .q (.iad 1), [.tmp 42, .tmp 43], (some 49), none, [], false⟩,
    ⟨8, .e (.st 1), [.tmp 49, .tmp 48], none, none, [], false⟩])
  (.seq
  (.reg [⟨0, .q .mv, [.tmp 0], (some 50), none, [], false⟩,
    ⟨1, .q .mv, [.tmp 11], (some 51), none, [], false⟩,
    ⟨2, .q .mv, [.tmp 1], (some 52), none, [], false⟩,
    ⟨3, .q .lens, [.tmp 52], (some 53), none, [], false⟩,
    ⟨4, .q (.bin .add), [.tmp 51, .tmp 53], (some 54), none, [], false⟩,
    ⟨5, .q (.sls true false), [.tmp 50, .tmp 54], (some 55), none, [], false⟩,
    ⟨6, .q .mv, [.tmp 55], (some 0), none, [], false⟩])
  (.reg [⟨0, .q .mv, [.tmp 10], (some 56), none, [], false⟩,
    ⟨1, .q (.bin .add), [.tmp 56, .const (.int .i64 1)], (some 57), none, [], false⟩,
    ⟨2, .q .mv, [.tmp 57], (some 10), none, [], false⟩])))))))
def L58_1 : LCode :=
 (.seq
 (.reg [⟨0, .q .mv, [.tmp 9], (some 58), none, [], false⟩,
   ⟨1, .q .mv, [.tmp 10], (some 59), none, [], false⟩,
   ⟨2, .q .mv, [.tmp 0], (some 60), none, [], false⟩,
   ⟨3, .q (.iad 1), [.tmp 58, .tmp 59], (some 61), none, [], false⟩,
   ⟨4, .e (.st 1), [.tmp 61, .tmp 60], none, none, [], false⟩])
 (.seq
 (.reg [⟨0, .q .mv, [.tmp 9], (some 62), none, [], false⟩,
   ⟨1, .q .mv, [.tmp 10], (some 63), none, [], false⟩,
   ⟨2, .q (.bin .add), [.tmp 63, .const (.int .i64 1)], (some 64), none, [], false⟩,
   ⟨3, .q (.slc 1 false true false), [.tmp 62, .tmp 64], (some 65), none, [], false⟩,
   ⟨4, .q .mv, [.tmp 65], (some 8), none, [], false⟩])
 .ret))
def L58_2 : LCode :=
 (.seq
 (.reg [⟨0, .q .mv, [.tmp 3], (some 25), none, [], false⟩,
   ⟨1, .q .mv, [.tmp 0], (some 26), none, [], false⟩,
   ⟨2, .q .lens, [.tmp 26], (some 27), none, [], false⟩,
   ⟨3, .q (.bin .add), [.tmp 27, .const (.int .i64 1)], (some 28), none, [], false⟩,
   ⟨4, .q .min2, [.tmp 25, .tmp 28], (some 29), none, [], false⟩,
   ⟨5, .q .mv, [.tmp 29], (some 3), none, [], false⟩])
 (.seq
 (.reg [⟨0, .q .mv, [.tmp 3], (some 30), none, [], false⟩,
   ⟨1, .e (.mks 9 1 16 #[(.string ⟨#[]⟩)]), [.tmp 30, .tmp 30], (some 31), none, [], false⟩,
   ⟨2, .q .mv, [.tmp 31], (some 9), none, [], false⟩])
 (.seq
 (.reg [⟨0, .q .mv, [.tmp 3], (some 32), none, [], false⟩,
   ⟨1, .q (.bin .sub), [.tmp 32, .const (.int .i64 1)], (some 33), none, [], false⟩,
   ⟨2, .q .mv, [.tmp 33], (some 3), none, [], false⟩])
 (.seq
 (.reg [⟨0, .q .mv, [.const (.int .i64 0)], (some 10), none, [], false⟩])
 (.seq
 (.block 0
  (.loop L58_0))
 L58_1)))))
def L58 : LFn :=
 ⟨66, [.t 8],
 (.seq
 (.reg [⟨0, .q .mv, [.const (.slice none 0 0)], (some 8), none, [], false⟩])
 (.seq
 (.seq
 (.reg [⟨0, .q .mv, [.tmp 3], (some 12), none, [], false⟩,
   ⟨1, .q (.bin .eql), [.tmp 12, .const (.int .i64 0)], (some 13), none, [], false⟩])
 (.cond (.tmp 13)
  (.seq
  (.reg [⟨0, .q .mv, [.const (.slice none 0 0)], (some 8), none, [], false⟩])
  .ret)
  .skip))
 (.seq
 (.seq
 (.reg [⟨0, .q .mv, [.tmp 1], (some 14), none, [], false⟩,
   ⟨1, .q (.bin .eql), [.tmp 14, .const (.string ⟨#[]⟩)], (some 15), none, [], false⟩])
 (.cond (.tmp 15)
  (.seq
  (.reg [⟨0, .q .mv, [.tmp 0], (some 16), none, [], false⟩,
    ⟨1, .q .mv, [.tmp 3], (some 17), none, [], false⟩,
    ⟨2, .e (.call 60), [.tmp 16, .tmp 17], (some 18), none, [], false⟩,
    ⟨3, .q .mv, [.tmp 18], (some 8), none, [], false⟩])
  .ret)
  .skip))
 (.seq
 (.seq
 (.reg [⟨0, .q .mv, [.tmp 3], (some 19), none, [], false⟩,
   ⟨1, .q (.bin .lss), [.tmp 19, .const (.int .i64 0)], (some 20), none, [], false⟩])
 (.cond (.tmp 20)
  (.reg [⟨0, .q .mv, [.tmp 0], (some 21), none, [], false⟩,
    ⟨1, .q .mv, [.tmp 1], (some 22), none, [], false⟩,
    ⟨2, .e (.call 61), [.tmp 21, .tmp 22], (some 23), none, [], false⟩,
    ⟨3, .q (.bin .add), [.tmp 23, .const (.int .i64 1)], (some 24), none, [], false⟩,
    ⟨4, .q .mv, [.tmp 24], (some 3), none, [], false⟩])
  .skip))
 L58_2))))⟩
theorem low58 : lowFn Tryd.prog Tryd.f58 = some L58 := by kernel_rfl
theorem call58 {args : List Value} {H : Heap} {S : Ending → Heap → Prop} (hn : args.length ≤ L58.n) (h : awpC Tryd.prog L58.body (retQ L58.results S) (fun ch H => S (.panicked ch) H) (env0 args) H) : ACalls Tryd.prog 58 args.toArray H S := acalls mixed Tryd.func58 low58 hn h
/-- strings.Split -/
def L47 : LFn :=
 ⟨8, [.t 4],
 (.seq
 (.reg [⟨0, .q .mv, [.const (.slice none 0 0)], (some 4), none, [], false⟩])
 (.seq
 (.reg [⟨0, .q .mv, [.tmp 0], (some 5), none, [], false⟩,
   ⟨1, .q .mv, [.tmp 1], (some 6), none, [], false⟩,
   ⟨2, .e (.call 58), [.tmp 5, .tmp 6, .const (.int .i64 0), .const (.int .i64 (-1))], (some 7), none, [], false⟩,
   ⟨3, .q .mv, [.tmp 7], (some 4), none, [], false⟩])
 .ret))⟩
theorem low47 : lowFn Tryd.prog Tryd.f47 = some L47 := by kernel_rfl
theorem call47 {args : List Value} {H : Heap} {S : Ending → Heap → Prop} (hn : args.length ≤ L47.n) (h : awpC Tryd.prog L47.body (retQ L47.results S) (fun ch H => S (.panicked ch) H) (env0 args) H) : ACalls Tryd.prog 47 args.toArray H S := acalls mixed Tryd.func47 low47 hn h
/-- satchel/satchelref09.Pieces -/
def L38_0 : LCode :=
 (.reg [⟨0, .q .mv, [.tmp 5], (some 11), none, [], false⟩,
   ⟨1, .q (.bin .add), [.tmp 11, .const (.int .i64 1)], (some 12), none, [], false⟩,
   ⟨2, .q .mv, [.tmp 12], (some 5), none, [], false⟩])
def L38_1 : LCode :=
 (.seq
 (.seq
 (.reg [⟨0, .q .mv, [.tmp 5], (some 7), none, [], false⟩,
   ⟨1, .q .mv, [.tmp 0], (some 8), none, [], false⟩,
   ⟨2, .q .lens, [.tmp 8], (some 9), none, [], false⟩,
   ⟨3, .q (.bin .leq), [.tmp 7, .tmp 9], (some 10), none, [], false⟩])
 (.cond (.tmp 10)
  .skip
  (.exit 0)))
 (.seq
 (.block 1
  (.seq
  (.reg [⟨0, .q .mv, [.tmp 5], (some 13), none, [], false⟩,
    ⟨1, .q .mv, [.tmp 0], (some 14), none, [], false⟩,
    ⟨2, .q .lens, [.tmp 14], (some 15), none, [], false⟩,
    ⟨3, .q (.bin .eql), [.tmp 13, .tmp 15], (some 16), none, [], false⟩,
    ⟨4, .q .mv, [.tmp 16], (some 17), none, [], false⟩,
    ⟨5, .q .mv, [.tmp 0], (some 18), (some (17, false)), [], false⟩,
    ⟨6, .q .mv, [.tmp 5], (some 19), (some (17, false)), [], false⟩,
    ⟨7, .q .ixs, [.tmp 18, .tmp 19], (some 20), (some (17, false)), [], false⟩,
    ⟨8, .q (.bin .eql), [.tmp 20, .const (.int .u8 47)], (some 21), (some (17, false)), [], false⟩,
    ⟨9, .q .pick, [.tmp 17, .const (.bool true), .tmp 21], (some 22), none, [], false⟩])
  (.cond (.tmp 22)
   (.seq
   (.reg [⟨0, .q .mv, [.tmp 3], (some 23), none, [], false⟩,
     ⟨1, .q .mv, [.tmp 0], (some 24), none, [], false⟩,
     ⟨2, .q .mv, [.tmp 4], (some 25), none, [], false⟩,
     ⟨3, .q .mv, [.tmp 5], (some 26), none, [], false⟩,
     ⟨4, .q (.sls true true), [.tmp 24, .tmp 25, .tmp 26], (some 27), none, [], false⟩,
     ⟨5, .e (.lits 9 #[(.string ⟨#[]⟩)] 1 [(0, 1)]), [.tmp 27], (some 28), none, [], false⟩,
     ⟨6, .e (.app 9 1 16 #[(.string ⟨#[]⟩)]), [.tmp 23, .tmp 28], (some 29), none, [], false⟩,
     ⟨7, .q .mv, [.tmp 29], (some 3), none, [], false⟩])
   (.reg [⟨0, .q .mv, [.tmp 5], (some 30), none, [], false⟩,
     ⟨1, .q (.bin .add), [.tmp 30, .const (.int .i64 1)], (some 31), none, [], false⟩,
     ⟨2, .q .mv, [.tmp 31], (some 4), none, [], false⟩]))
   .skip)))
 L38_0))
def L38 : LFn :=
 ⟨33, [.t 2],
 (.seq
 (.reg [⟨0, .q .mv, [.const (.slice none 0 0)], (some 2), none, [], false⟩])
 (.seq
 (.reg [⟨0, .e (.lits 9 #[] 0 []), [], (some 6), none, [], false⟩,
   ⟨1, .q .mv, [.tmp 6], (some 3), none, [], false⟩])
 (.seq
 (.reg [⟨0, .q .mv, [.const (.int .i64 0)], (some 4), none, [], false⟩])
 (.seq
 (.seq
 (.reg [⟨0, .q .mv, [.const (.int .i64 0)], (some 5), none, [], false⟩])
 (.block 0
  (.loop L38_1)))
 (.seq
 (.reg [⟨0, .q .mv, [.tmp 3], (some 32), none, [], false⟩,
   ⟨1, .q .mv, [.tmp 32], (some 2), none, [], false⟩])
 .ret)))))⟩
theorem low38 : lowFn Tryd.prog Tryd.f38 = some L38 := by kernel_rfl
theorem call38 {args : List Value} {H : Heap} {S : Ending → Heap → Prop} (hn : args.length ≤ L38.n) (h : awpC Tryd.prog L38.body (retQ L38.results S) (fun ch H => S (.panicked ch) H) (env0 args) H) : ACalls Tryd.prog 38 args.toArray H S := acalls mixed Tryd.func38 low38 hn h
end Go.Proofs.YtmgpfdfbcnlocaaDoor.Low
