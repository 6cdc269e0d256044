/-
  Functions in short (out of the program's form in Lean, by the kernel).
-/
import Derived.Test.YthflafgijfbpnaaDoorSepDfr
import Derived.Test.YthflafgijfbpnaaDoorProg
namespace Go.Proofs.YthflafgijfbpnaaDoor.Low
open Go Go.Proofs.YthflafgijfbpnaaDoor.Sep
theorem mixed : Tryd.prog.follows .mixedOrders = true := by kernel_rfl
/-- satchel/field.Octal -/
def L51_0 : LCode :=
 (.seq
 (.seq
 (.reg [⟨0, .q .mv, [.tmp 4], (some 10), none, [], false⟩,
   ⟨1, .q .mv, [.tmp 0], (some 11), none, [], false⟩,
   ⟨2, .q .len, [.tmp 11], (some 12), none, [], false⟩,
   ⟨3, .q (.bin .lss), [.tmp 10, .tmp 12], (some 13), none, [], false⟩,
   ⟨4, .q .mv, [.tmp 13], (some 14), none, [], false⟩,
   ⟨5, .q .mv, [.tmp 0], (some 15), (some (14, true)), [], false⟩,
   ⟨6, .q .mv, [.tmp 4], (some 16), (some (14, true)), [], false⟩,
   ⟨7, .q (.iad 1), [.tmp 15, .tmp 16], (some 17), (some (14, true)), [], false⟩,
   ⟨8, .q .ld, [.tmp 17], (some 18), (some (14, true)), [], false⟩,
   ⟨9, .q (.bin .geq), [.tmp 18, .const (.int .u8 48)], (some 19), (some (14, true)), [], false⟩,
   ⟨10, .q .pick, [.tmp 14, .tmp 19, .const (.bool false)], (some 20), none, [], false⟩,
   ⟨11, .q .mv, [.tmp 20], (some 21), none, [], false⟩,
   ⟨12, .q .mv, [.tmp 0], (some 22), (some (21, true)), [], false⟩,
   ⟨13, .q .mv, [.tmp 4], (some 23), (some (21, true)), [], false⟩,
   ⟨14, .q (.iad 1), [.tmp 22, .tmp 23], (some 24), (some (21, true)), [], false⟩,
   ⟨15, .q .ld, [.tmp 24], (some 25), (some (21, true)), [], false⟩,
   ⟨16, .q (.bin .leq), [.tmp 25, .const (.int .u8 55)], (some 26), (some (21, true)), [], false⟩,
   ⟨17, .q .pick, [.tmp 21, .tmp 26, .const (.bool false)], (some 27), none, [], false⟩])
 (.cond (.tmp 27)
  .skip
  (.exit 0)))
 (.block 1
  (.reg [⟨0, .q .mv, [.tmp 4], (some 28), none, [], false⟩,
    ⟨1, .q (.bin .add), [.tmp 28, .const (.int .i64 1)], (some 29), none, [], false⟩,
    ⟨2, .q .mv, [.tmp 29], (some 4), none, [], false⟩])))
def L51_1 : LCode :=
 (.seq
 (.reg [⟨0, .q (.bin .lss), [.tmp 40, .tmp 39], (some 41), none, [], false⟩])
 (.seq
 (.cond (.tmp 41)
  .skip
  (.exit 2))
 (.seq
 (.block 3
  (.seq
  (.reg [⟨0, .q (.iad 1), [.tmp 38, .tmp 40], (some 42), none, [], false⟩,
    ⟨1, .q .ld, [.tmp 42], (some 43), none, [], false⟩,
    ⟨2, .q .mv, [.tmp 43], (some 7), none, [], false⟩])
  (.seq
  (.seq
  (.reg [⟨0, .q .mv, [.tmp 5], (some 44), none, [], false⟩,
    ⟨1, .q .mv, [.tmp 7], (some 45), none, [], false⟩,
    ⟨2, .q (.bin .sub), [.tmp 45, .const (.int .u8 48)], (some 46), none, [], false⟩,
    ⟨3, .q (.cvi .i64), [.tmp 46], (some 47), none, [], false⟩,
    ⟨4, .q (.bin .sub), [.const (.int .i64 9223372036854775807), .tmp 47], (some 48), none, [], false⟩,
    ⟨5, .q (.bin .quo), [.tmp 48, .const (.int .i64 8)], (some 49), none, [], false⟩,
    ⟨6, .q (.bin .gtr), [.tmp 44, .tmp 49], (some 50), none, [], false⟩])
  (.cond (.tmp 50)
   (.seq
   (.reg [⟨0, .q .mv, [.const (.int .i64 0)], (some 2), none, [], false⟩,
     ⟨1, .q .mv, [.const (.int .i64 121)], (some 3), none, [], false⟩])
   .ret)
   .skip))
  (.reg [⟨0, .q .mv, [.tmp 5], (some 51), none, [], false⟩,
    ⟨1, .q (.bin .mul), [.const (.int .i64 8), .tmp 51], (some 52), none, [], false⟩,
    ⟨2, .q .mv, [.tmp 7], (some 53), none, [], false⟩,
    ⟨3, .q (.bin .sub), [.tmp 53, .const (.int .u8 48)], (some 54), none, [], false⟩,
    ⟨4, .q (.cvi .i64), [.tmp 54], (some 55), none, [], false⟩,
    ⟨5, .q (.bin .add), [.tmp 52, .tmp 55], (some 56), none, [], false⟩,
    ⟨6, .q .mv, [.tmp 56], (some 5), none, [], false⟩]))))
 (.reg [⟨0, .q (.bin .add), [.tmp 40, .const (.int .i64 1)], (some 57), none, [], false⟩,
   ⟨1, .q .mv, [.tmp 57], (some 40), none, [], false⟩]))))
def L51_30 : LCode :=
 (.seq
 (.seq
 (.reg [⟨0, .q .mv, [.tmp 0], (some 30), none, [], false⟩,
   ⟨1, .q .mv, [.tmp 4], (some 31), none, [], false⟩,
   ⟨2, .q (.slc 1 true false false), [.tmp 30, .tmp 31], (some 32), none, [], false⟩,
   ⟨3, .e (.call 67), [.tmp 32, .const (.string ⟨#[32, 0]⟩)], (some 33), none, [], false⟩,
   ⟨4, .q .len, [.tmp 33], (some 34), none, [], false⟩,
   ⟨5, .q (.bin .gtr), [.tmp 34, .const (.int .i64 0)], (some 35), none, [], false⟩])
 (.cond (.tmp 35)
  (.seq
  (.reg [⟨0, .q .mv, [.const (.int .i64 0)], (some 2), none, [], false⟩,
    ⟨1, .q .mv, [.const (.int .i64 120)], (some 3), none, [], false⟩])
  .ret)
  .skip))
 (.seq
 (.reg [⟨0, .q .mv, [.const (.int .i64 0)], (some 5), none, [], false⟩])
 (.seq
 (.seq
 (.reg [⟨0, .q .mv, [.tmp 0], (some 36), none, [], false⟩,
   ⟨1, .q .mv, [.tmp 4], (some 37), none, [], false⟩,
   ⟨2, .q (.slc 1 false true false), [.tmp 36, .tmp 37], (some 38), none, [], false⟩,
   ⟨3, .q .len, [.tmp 38], (some 39), none, [], false⟩,
   ⟨4, .q .mv, [.const (.int .i64 0)], (some 40), none, [], false⟩])
 (.block 2
  (.loop L51_1)))
 (.seq
 (.reg [⟨0, .q .mv, [.tmp 5], (some 58), none, [], false⟩,
   ⟨1, .q .mv, [.tmp 58], (some 2), none, [], false⟩,
   ⟨2, .q .mv, [.const (.int .i64 0)], (some 3), none, [], false⟩])
 .ret))))
def L51 : LFn :=
 ⟨59, [.t 2, .t 3],
 (.seq
 (.reg [⟨0, .q .mv, [.const (.int .i64 0)], (some 2), none, [], false⟩,
   ⟨1, .q .mv, [.const (.int .i64 0)], (some 3), none, [], false⟩])
 (.seq
 (.reg [⟨0, .q .mv, [.tmp 0], (some 8), none, [], false⟩,
   ⟨1, .e (.call 66), [.tmp 8, .const (.string ⟨#[32]⟩)], (some 9), none, [], false⟩,
   ⟨2, .q .mv, [.tmp 9], (some 0), none, [], false⟩])
 (.seq
 (.reg [⟨0, .q .mv, [.const (.int .i64 0)], (some 4), none, [], false⟩])
 (.seq
 (.block 0
  (.loop L51_0))
 L51_30))))⟩
theorem low51 : lowFn Tryd.prog Tryd.f51 = some L51 := by kernel_rfl
theorem call51 {args : List Value} {H : Heap} {S : Ending → Heap → Prop} (hn : args.length ≤ L51.n) (h : awpC Tryd.prog L51.body (retQ L51.results S) (fun ch H => S (.panicked ch) H) (env0 args) H) : ACalls Tryd.prog 51 args.toArray H S := acalls mixed Tryd.func51 low51 hn h
/-- satchel/satchelref12.Octal -/
def L53_0 : LCode :=
 (.seq
 (.seq
 (.reg [⟨0, .q .mv, [.tmp 4], (some 8), none, [], false⟩,
   ⟨1, .q .mv, [.tmp 0], (some 9), none, [], false⟩,
   ⟨2, .q .len, [.tmp 9], (some 10), none, [], false⟩,
   ⟨3, .q (.bin .lss), [.tmp 8, .tmp 10], (some 11), none, [], false⟩,
   ⟨4, .q .mv, [.tmp 11], (some 12), none, [], false⟩,
   ⟨5, .q .mv, [.tmp 0], (some 13), (some (12, true)), [], false⟩,
   ⟨6, .q .mv, [.tmp 4], (some 14), (some (12, true)), [], false⟩,
   ⟨7, .q (.iad 1), [.tmp 13, .tmp 14], (some 15), (some (12, true)), [], false⟩,
   ⟨8, .q .ld, [.tmp 15], (some 16), (some (12, true)), [], false⟩,
   ⟨9, .q (.bin .eql), [.tmp 16, .const (.int .u8 32)], (some 17), (some (12, true)), [], false⟩,
   ⟨10, .q .pick, [.tmp 12, .tmp 17, .const (.bool false)], (some 18), none, [], false⟩])
 (.cond (.tmp 18)
  .skip
  (.exit 0)))
 (.block 1
  (.reg [⟨0, .q .mv, [.tmp 4], (some 19), none, [], false⟩,
    ⟨1, .q (.bin .add), [.tmp 19, .const (.int .i64 1)], (some 20), none, [], false⟩,
    ⟨2, .q .mv, [.tmp 20], (some 4), none, [], false⟩])))
def L53_1 : LCode :=
 (.reg [⟨0, .q .mv, [.tmp 4], (some 54), none, [], false⟩,
   ⟨1, .q (.bin .add), [.tmp 54, .const (.int .i64 1)], (some 55), none, [], false⟩,
   ⟨2, .q .mv, [.tmp 55], (some 4), none, [], false⟩])
def L53_2 : LCode :=
 (.seq
 (.seq
 (.reg [⟨0, .q .mv, [.tmp 4], (some 21), none, [], false⟩,
   ⟨1, .q .mv, [.tmp 0], (some 22), none, [], false⟩,
   ⟨2, .q .len, [.tmp 22], (some 23), none, [], false⟩,
   ⟨3, .q (.bin .lss), [.tmp 21, .tmp 23], (some 24), none, [], false⟩,
   ⟨4, .q .mv, [.tmp 24], (some 25), none, [], false⟩,
   ⟨5, .q .mv, [.tmp 0], (some 26), (some (25, true)), [], false⟩,
   ⟨6, .q .mv, [.tmp 4], (some 27), (some (25, true)), [], false⟩,
   ⟨7, .q (.iad 1), [.tmp 26, .tmp 27], (some 28), (some (25, true)), [], false⟩,
   ⟨8, .q .ld, [.tmp 28], (some 29), (some (25, true)), [], false⟩,
   ⟨9, .q (.bin .geq), [.tmp 29, .const (.int .u8 48)], (some 30), (some (25, true)), [], false⟩,
   ⟨10, .q .pick, [.tmp 25, .tmp 30, .const (.bool false)], (some 31), none, [], false⟩,
   ⟨11, .q .mv, [.tmp 31], (some 32), none, [], false⟩,
   ⟨12, .q .mv, [.tmp 0], (some 33), (some (32, true)), [], false⟩,
   ⟨13, .q .mv, [.tmp 4], (some 34), (some (32, true)), [], false⟩,
   ⟨14, .q (.iad 1), [.tmp 33, .tmp 34], (some 35), (some (32, true)), [], false⟩,
   ⟨15, .q .ld, [.tmp 35], (some 36), (some (32, true)), [], false⟩,
   ⟨16, .q (.bin .leq), [.tmp 36, .const (.int .u8 55)], (some 37), (some (32, true)), [], false⟩,
   ⟨17, .q .pick, [.tmp 32, .tmp 37, .const (.bool false)], (some 38), none, [], false⟩])
 (.cond (.tmp 38)
  .skip
  (.exit 2)))
 (.block 3
  (.seq
  (.reg [⟨0, .q .mv, [.tmp 0], (some 39), none, [], false⟩,
    ⟨1, .q .mv, [.tmp 4], (some 40), none, [], false⟩,
    ⟨2, .q (.iad 1), [.tmp 39, .tmp 40], (some 41), none, [], false⟩,
    ⟨3, .q .ld, [.tmp 41], (some 42), none, [], false⟩,
    ⟨4, .q (.bin .sub), [.tmp 42, .const (.int .u8 48)], (some 43), none, [], false⟩,
    ⟨5, .q (.cvi .i64), [.tmp 43], (some 44), none, [], false⟩,
    ⟨6, .q .mv, [.tmp 44], (some 7), none, [], false⟩])
  (.seq
  (.seq
  (.reg [⟨0, .q .mv, [.tmp 5], (some 45), none, [], false⟩,
    ⟨1, .q .mv, [.tmp 7], (some 46), none, [], false⟩,
    ⟨2, .q (.bin .sub), [.const (.int .i64 9223372036854775807), .tmp 46], (some 47), none, [], false⟩,
    ⟨3, .q (.bin .quo), [.tmp 47, .const (.int .i64 8)], (some 48), none, [], false⟩,
    ⟨4, .q (.bin .gtr), [.tmp 45, .tmp 48], (some 49), none, [], false⟩])
  (.cond (.tmp 49)
   (.reg [⟨0, .q .mv, [.const (.bool true)], (some 6), none, [], false⟩])
   (.reg [⟨0, .q .mv, [.tmp 5], (some 50), none, [], false⟩,
     ⟨1, .q (.bin .mul), [.tmp 50, .const (.int .i64 8)], (some 51), none, [], false⟩,
     ⟨2, .q .mv, [.tmp 7], (some 52), none, [], false⟩,
     ⟨3, .q (.bin .add), [.tmp 51, .tmp 52], (some 53), none, [], false⟩,
     ⟨4, .q .mv, [.tmp 53], (some 5), none, [], false⟩])))
  L53_1))))
def L53_3 : LCode :=
 (.seq
 (.seq
 (.reg [⟨0, .q .mv, [.tmp 4], (some 56), none, [], false⟩,
   ⟨1, .q .mv, [.tmp 0], (some 57), none, [], false⟩,
   ⟨2, .q .len, [.tmp 57], (some 58), none, [], false⟩,
   ⟨3, .q (.bin .lss), [.tmp 56, .tmp 58], (some 59), none, [], false⟩])
 (.cond (.tmp 59)
  .skip
  (.exit 4)))
 (.seq
 (.block 5
  (.seq
  (.reg [⟨0, .q .mv, [.tmp 0], (some 62), none, [], false⟩,
    ⟨1, .q .mv, [.tmp 4], (some 63), none, [], false⟩,
    ⟨2, .q (.iad 1), [.tmp 62, .tmp 63], (some 64), none, [], false⟩,
    ⟨3, .q .ld, [.tmp 64], (some 65), none, [], false⟩,
    ⟨4, .q (.bin .neq), [.tmp 65, .const (.int .u8 32)], (some 66), none, [], false⟩,
    ⟨5, .q .mv, [.tmp 66], (some 67), none, [], false⟩,
    ⟨6, .q .mv, [.tmp 0], (some 68), (some (67, true)), [], false⟩,
    ⟨7, .q .mv, [.tmp 4], (some 69), (some (67, true)), [], false⟩,
    ⟨8, .q (.iad 1), [.tmp 68, .tmp 69], (some 70), (some (67, true)), [], false⟩,
    ⟨9, .q .ld, [.tmp 70], (some 71), (some (67, true)), [], false⟩,
    ⟨10, .q (.bin .neq), [.tmp 71, .const (.int .u8 0)], (some 72), (some (67, true)), [], false⟩,
    ⟨11, .q .pick, [.tmp 67, .tmp 72, .const (.bool false)], (some 73), none, [], false⟩])
  (.cond (.tmp 73)
   (.seq
   (.reg [⟨0, .q .mv, [.const (.int .i64 0)], (some 2), none, [], false⟩,
     ⟨1, .q .mv, [.const (.int .i64 120)], (some 3), none, [], false⟩])
   .ret)
   .skip)))
 (.reg [⟨0, .q .mv, [.tmp 4], (some 60), none, [], false⟩,
   ⟨1, .q (.bin .add), [.tmp 60, .const (.int .i64 1)], (some 61), none, [], false⟩,
   ⟨2, .q .mv, [.tmp 61], (some 4), none, [], false⟩])))
def L53_74 : LCode :=
 (.seq
 (.seq
 (.reg [⟨0, .q .mv, [.tmp 6], (some 74), none, [], false⟩])
 (.cond (.tmp 74)
  (.seq
  (.reg [⟨0, .q .mv, [.const (.int .i64 0)], (some 2), none, [], false⟩,
    ⟨1, .q .mv, [.const (.int .i64 121)], (some 3), none, [], false⟩])
  .ret)
  .skip))
 (.seq
 (.reg [⟨0, .q .mv, [.tmp 5], (some 75), none, [], false⟩,
   ⟨1, .q .mv, [.tmp 75], (some 2), none, [], false⟩,
   ⟨2, .q .mv, [.const (.int .i64 0)], (some 3), none, [], false⟩])
 .ret))
def L53_b4 : LCode :=
 (.seq
 (.block 4
  (.loop L53_3))
 L53_74)
def L53_5 : LCode :=
 (.seq
 (.reg [⟨0, .q .mv, [.const (.int .i64 0)], (some 5), none, [], false⟩])
 (.seq
 (.reg [⟨0, .q .mv, [.const (.bool false)], (some 6), none, [], false⟩])
 (.seq
 (.block 2
  (.loop L53_2))
 L53_b4)))
def L53 : LFn :=
 ⟨76, [.t 2, .t 3],
 (.seq
 (.reg [⟨0, .q .mv, [.const (.int .i64 0)], (some 2), none, [], false⟩,
   ⟨1, .q .mv, [.const (.int .i64 0)], (some 3), none, [], false⟩])
 (.seq
 (.reg [⟨0, .q .mv, [.const (.int .i64 0)], (some 4), none, [], false⟩])
 (.seq
 (.block 0
  (.loop L53_0))
 L53_5)))⟩
theorem low53 : lowFn Tryd.prog Tryd.f53 = some L53 := by kernel_rfl
theorem call53 {args : List Value} {H : Heap} {S : Ending → Heap → Prop} (hn : args.length ≤ L53.n) (h : awpC Tryd.prog L53.body (retQ L53.results S) (fun ch H => S (.panicked ch) H) (env0 args) H) : ACalls Tryd.prog 53 args.toArray H S := acalls mixed Tryd.func53 low53 hn h
end Go.Proofs.YthflafgijfbpnaaDoor.Low
