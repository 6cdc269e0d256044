/-
  Functions in short (out of the program's form in Lean, by the kernel).
-/
import Derived.Test.YthflafgijfbpnaaDoorSepDfr
import Derived.Test.YthflafgijfbpnaaDoorProg
namespace Go.Proofs.YthflafgijfbpnaaDoor.Low
open Go Go.Proofs.YthflafgijfbpnaaDoor.Sep
theorem mixed : Tryd.prog.follows .mixedOrders = true := by kernel_rfl
/-- satchel/field.Binary -/
def L48_0 : LCode :=
 (.seq
 (.seq
 (.reg [⟨0, .q .mv, [.tmp 0], (some 37), none, [], false⟩,
   ⟨1, .q .len, [.tmp 37], (some 38), none, [], false⟩,
   ⟨2, .q .mv, [.tmp 6], (some 39), none, [], false⟩,
   ⟨3, .q (.bin .sub), [.tmp 38, .tmp 39], (some 40), none, [], false⟩,
   ⟨4, .q (.bin .gtr), [.tmp 40, .const (.int .i64 8)], (some 41), none, [], false⟩,
   ⟨5, .q .mv, [.tmp 41], (some 42), none, [], false⟩,
   ⟨6, .q .mv, [.tmp 7], (some 43), (some (42, true)), [], false⟩,
   ⟨7, .q .mv, [.tmp 5], (some 44), (some (42, true)), [], false⟩,
   ⟨8, .q (.bin .neq), [.tmp 43, .tmp 44], (some 45), (some (42, true)), [], false⟩,
   ⟨9, .q .pick, [.tmp 42, .tmp 45, .const (.bool false)], (some 46), none, [], false⟩])
 (.cond (.tmp 46)
  (.seq
  (.reg [⟨0, .q .mv, [.const (.int .i64 0)], (some 2), none, [], false⟩,
    ⟨1, .q .mv, [.const (.int .i64 121)], (some 3), none, [], false⟩])
  .ret)
  .skip))
 (.seq
 (.seq
 (.reg [⟨0, .q .mv, [.tmp 0], (some 47), none, [], false⟩,
   ⟨1, .q .len, [.tmp 47], (some 48), none, [], false⟩,
   ⟨2, .q .mv, [.tmp 6], (some 49), none, [], false⟩,
   ⟨3, .q (.bin .sub), [.tmp 48, .tmp 49], (some 50), none, [], false⟩,
   ⟨4, .q (.bin .eql), [.tmp 50, .const (.int .i64 8)], (some 51), none, [], false⟩,
   ⟨5, .q .mv, [.tmp 51], (some 52), none, [], false⟩,
   ⟨6, .q .mv, [.tmp 7], (some 53), (some (52, true)), [], false⟩,
   ⟨7, .q .mv, [.tmp 5], (some 54), (some (52, true)), [], false⟩,
   ⟨8, .q (.bin .xor), [.tmp 53, .tmp 54], (some 55), (some (52, true)), [], false⟩,
   ⟨9, .q (.bin .and), [.tmp 55, .const (.int .u8 128)], (some 56), (some (52, true)), [], false⟩,
   ⟨10, .q (.bin .neq), [.tmp 56, .const (.int .u8 0)], (some 57), (some (52, true)), [], false⟩,
   ⟨11, .q .pick, [.tmp 52, .tmp 57, .const (.bool false)], (some 58), none, [], false⟩])
 (.cond (.tmp 58)
  (.seq
  (.reg [⟨0, .q .mv, [.const (.int .i64 0)], (some 2), none, [], false⟩,
    ⟨1, .q .mv, [.const (.int .i64 121)], (some 3), none, [], false⟩])
  .ret)
  .skip))
 (.reg [⟨0, .q .mv, [.tmp 4], (some 59), none, [], false⟩,
   ⟨1, .q (.bin .shl), [.tmp 59, .const (.int .u64 8)], (some 60), none, [], false⟩,
   ⟨2, .q .mv, [.tmp 7], (some 61), none, [], false⟩,
   ⟨3, .q (.cvi .i64), [.tmp 61], (some 62), none, [], false⟩,
   ⟨4, .q (.bin .or), [.tmp 60, .tmp 62], (some 63), none, [], false⟩,
   ⟨5, .q .mv, [.tmp 63], (some 4), none, [], false⟩])))
def L48_1 : LCode :=
 (.reg [⟨0, .q (.bin .add), [.tmp 25, .const (.int .i64 1)], (some 64), none, [], false⟩,
   ⟨1, .q .mv, [.tmp 64], (some 25), none, [], false⟩])
def L48_2 : LCode :=
 (.seq
 (.reg [⟨0, .q (.bin .lss), [.tmp 25, .tmp 24], (some 26), none, [], false⟩])
 (.seq
 (.cond (.tmp 26)
  .skip
  (.exit 0))
 (.seq
 (.block 1
  (.seq
  (.reg [⟨0, .q .mv, [.tmp 25], (some 27), none, [], false⟩,
    ⟨1, .q (.iad 1), [.tmp 23, .tmp 25], (some 28), none, [], false⟩,
    ⟨2, .q .ld, [.tmp 28], (some 29), none, [], false⟩,
    ⟨3, .q .mv, [.tmp 27], (some 6), none, [], false⟩,
    ⟨4, .q .mv, [.tmp 29], (some 7), none, [], false⟩])
  (.seq
  (.seq
  (.reg [⟨0, .q .mv, [.tmp 6], (some 30), none, [], false⟩,
    ⟨1, .q (.bin .eql), [.tmp 30, .const (.int .i64 0)], (some 31), none, [], false⟩])
  (.cond (.tmp 31)
   (.reg [⟨0, .q .mv, [.tmp 7], (some 32), none, [], false⟩,
     ⟨1, .q (.bin .andNot), [.tmp 32, .const (.int .u8 128)], (some 33), none, [], false⟩,
     ⟨2, .q .mv, [.tmp 5], (some 34), none, [], false⟩,
     ⟨3, .q (.bin .and), [.tmp 34, .const (.int .u8 128)], (some 35), none, [], false⟩,
     ⟨4, .q (.bin .or), [.tmp 33, .tmp 35], (some 36), none, [], false⟩,
     ⟨5, .q .mv, [.tmp 36], (some 7), none, [], false⟩])
   .skip))
  L48_0)))
 L48_1)))
def L48_3 : LCode :=
 (.seq
 (.seq
 (.reg [⟨0, .q .mv, [.tmp 0], (some 23), none, [], false⟩,
   ⟨1, .q .len, [.tmp 23], (some 24), none, [], false⟩,
   ⟨2, .q .mv, [.const (.int .i64 0)], (some 25), none, [], false⟩])
 (.block 0
  (.loop L48_2)))
 (.seq
 (.reg [⟨0, .q .mv, [.tmp 4], (some 65), none, [], false⟩,
   ⟨1, .q .mv, [.tmp 65], (some 2), none, [], false⟩,
   ⟨2, .q .mv, [.const (.int .i64 0)], (some 3), none, [], false⟩])
 .ret))
def L48 : LFn :=
 ⟨66, [.t 2, .t 3],
 (.seq
 (.reg [⟨0, .q .mv, [.const (.int .i64 0)], (some 2), none, [], false⟩,
   ⟨1, .q .mv, [.const (.int .i64 0)], (some 3), none, [], false⟩])
 (.seq
 (.seq
 (.reg [⟨0, .q .mv, [.tmp 0], (some 8), none, [], false⟩,
   ⟨1, .q .len, [.tmp 8], (some 9), none, [], false⟩,
   ⟨2, .q (.bin .lss), [.tmp 9, .const (.int .i64 2)], (some 10), none, [], false⟩,
   ⟨3, .q .mv, [.tmp 10], (some 11), none, [], false⟩,
   ⟨4, .q .mv, [.tmp 0], (some 12), (some (11, false)), [], false⟩,
   ⟨5, .q (.iad 1), [.tmp 12, .const (.int .i64 0)], (some 13), (some (11, false)), [], false⟩,
   ⟨6, .q .ld, [.tmp 13], (some 14), (some (11, false)), [], false⟩,
   ⟨7, .q (.bin .and), [.tmp 14, .const (.int .u8 128)], (some 15), (some (11, false)), [], false⟩,
   ⟨8, .q (.bin .eql), [.tmp 15, .const (.int .u8 0)], (some 16), (some (11, false)), [], false⟩,
   ⟨9, .q .pick, [.tmp 11, .const (.bool true), .tmp 16], (some 17), none, [], false⟩])
 (.cond (.tmp 17)
  (.seq
  (.reg [⟨0, .q .mv, [.const (.int .i64 0)], (some 2), none, [], false⟩,
    ⟨1, .q .mv, [.const (.int .i64 120)], (some 3), none, [], false⟩])
  .ret)
  .skip))
 (.seq
 (.reg [⟨0, .q .mv, [.const (.int .i64 0)], (some 4), none, [], false⟩,
   ⟨1, .q .mv, [.const (.int .u8 0)], (some 5), none, [], false⟩])
 (.seq
 (.seq
 (.reg [⟨0, .q .mv, [.tmp 0], (some 18), none, [], false⟩,
   ⟨1, .q (.iad 1), [.tmp 18, .const (.int .i64 0)], (some 19), none, [], false⟩,
   ⟨2, .q .ld, [.tmp 19], (some 20), none, [], false⟩,
   ⟨3, .q (.bin .and), [.tmp 20, .const (.int .u8 64)], (some 21), none, [], false⟩,
   ⟨4, .q (.bin .neq), [.tmp 21, .const (.int .u8 0)], (some 22), none, [], false⟩])
 (.cond (.tmp 22)
  (.reg [⟨0, .q .mv, [.const (.int .i64 (-1))], (some 4), none, [], false⟩,
    ⟨1, .q .mv, [.const (.int .u8 255)], (some 5), none, [], false⟩])
  .skip))
 L48_3))))⟩
theorem low48 : lowFn Tryd.prog Tryd.f48 = some L48 := by kernel_rfl
theorem call48 {args : List Value} {H : Heap} {S : Ending → Heap → Prop} (hn : args.length ≤ L48.n) (h : awpC Tryd.prog L48.body (retQ L48.results S) (fun ch H => S (.panicked ch) H) (env0 args) H) : ACalls Tryd.prog 48 args.toArray H S := acalls mixed Tryd.func48 low48 hn h
/-- satchel/satchelref12.Binary -/
def L52_0 : LCode :=
 (.reg [⟨0, .q .mv, [.tmp 5], (some 43), none, [], false⟩,
   ⟨1, .q .mv, [.tmp 7], (some 44), none, [], false⟩,
   ⟨2, .e (.lits 5 #[(.int .u8 0)] 1 [(0, 1)]), [.tmp 44], (some 45), none, [], false⟩,
   ⟨3, .e (.app 5 1 1 #[(.int .u8 0)]), [.tmp 43, .tmp 45], (some 46), none, [], false⟩,
   ⟨4, .q .mv, [.tmp 46], (some 5), none, [], false⟩])
def L52_1 : LCode :=
 (.reg [⟨0, .q .mv, [.tmp 6], (some 29), none, [], false⟩,
   ⟨1, .q (.bin .add), [.tmp 29, .const (.int .i64 1)], (some 30), none, [], false⟩,
   ⟨2, .q .mv, [.tmp 30], (some 6), none, [], false⟩])
def L52_2 : LCode :=
 (.seq
 (.seq
 (.reg [⟨0, .q .mv, [.tmp 6], (some 25), none, [], false⟩,
   ⟨1, .q .mv, [.tmp 0], (some 26), none, [], false⟩,
   ⟨2, .q .len, [.tmp 26], (some 27), none, [], false⟩,
   ⟨3, .q (.bin .lss), [.tmp 25, .tmp 27], (some 28), none, [], false⟩])
 (.cond (.tmp 28)
  .skip
  (.exit 0)))
 (.seq
 (.block 1
  (.seq
  (.reg [⟨0, .q .mv, [.tmp 0], (some 31), none, [], false⟩,
    ⟨1, .q .mv, [.tmp 6], (some 32), none, [], false⟩,
    ⟨2, .q (.iad 1), [.tmp 31, .tmp 32], (some 33), none, [], false⟩,
    ⟨3, .q .ld, [.tmp 33], (some 34), none, [], false⟩,
    ⟨4, .q .mv, [.tmp 34], (some 7), none, [], false⟩])
  (.seq
  (.seq
  (.reg [⟨0, .q .mv, [.tmp 6], (some 35), none, [], false⟩,
    ⟨1, .q (.bin .eql), [.tmp 35, .const (.int .i64 0)], (some 36), none, [], false⟩,
    ⟨2, .q .mv, [.tmp 36], (some 37), none, [], false⟩,
    ⟨3, .q .mv, [.tmp 4], (some 38), (some (37, true)), [], false⟩,
    ⟨4, .q (.un .not), [.tmp 38], (some 39), (some (37, true)), [], false⟩,
    ⟨5, .q .pick, [.tmp 37, .tmp 39, .const (.bool false)], (some 40), none, [], false⟩])
  (.cond (.tmp 40)
   (.reg [⟨0, .q .mv, [.tmp 7], (some 41), none, [], false⟩,
     ⟨1, .q (.bin .sub), [.tmp 41, .const (.int .u8 128)], (some 42), none, [], false⟩,
     ⟨2, .q .mv, [.tmp 42], (some 7), none, [], false⟩])
   .skip))
  L52_0)))
 L52_1))
def L52_3 : LCode :=
 (.seq
 (.seq
 (.reg [⟨0, .q .mv, [.tmp 5], (some 48), none, [], false⟩,
   ⟨1, .q .len, [.tmp 48], (some 49), none, [], false⟩,
   ⟨2, .q (.bin .gtr), [.tmp 49, .const (.int .i64 8)], (some 50), none, [], false⟩])
 (.cond (.tmp 50)
  .skip
  (.exit 2)))
 (.block 3
  (.seq
  (.seq
  (.reg [⟨0, .q .mv, [.tmp 5], (some 51), none, [], false⟩,
    ⟨1, .q (.iad 1), [.tmp 51, .const (.int .i64 0)], (some 52), none, [], false⟩,
    ⟨2, .q .ld, [.tmp 52], (some 53), none, [], false⟩,
    ⟨3, .q .mv, [.tmp 8], (some 54), none, [], false⟩,
    ⟨4, .q (.bin .neq), [.tmp 53, .tmp 54], (some 55), none, [], false⟩])
  (.cond (.tmp 55)
   (.seq
   (.reg [⟨0, .q .mv, [.const (.int .i64 0)], (some 2), none, [], false⟩,
     ⟨1, .q .mv, [.const (.int .i64 121)], (some 3), none, [], false⟩])
   .ret)
   .skip))
  (.reg [⟨0, .q .mv, [.tmp 5], (some 56), none, [], false⟩,
    ⟨1, .q (.slc 1 true false false), [.tmp 56, .const (.int .i64 1)], (some 57), none, [], false⟩,
    ⟨2, .q .mv, [.tmp 57], (some 5), none, [], false⟩]))))
def L52_4 : LCode :=
 (.seq
 (.seq
 (.reg [⟨0, .q .mv, [.tmp 5], (some 58), none, [], false⟩,
   ⟨1, .q .len, [.tmp 58], (some 59), none, [], false⟩,
   ⟨2, .q (.bin .lss), [.tmp 59, .const (.int .i64 8)], (some 60), none, [], false⟩])
 (.cond (.tmp 60)
  .skip
  (.exit 4)))
 (.block 5
  (.reg [⟨0, .q .mv, [.tmp 8], (some 61), none, [], false⟩,
    ⟨1, .e (.lits 5 #[(.int .u8 0)] 1 [(0, 1)]), [.tmp 61], (some 62), none, [], false⟩,
    ⟨2, .q .mv, [.tmp 5], (some 63), none, [], false⟩,
    ⟨3, .e (.app 5 1 1 #[(.int .u8 0)]), [.tmp 62, .tmp 63], (some 64), none, [], false⟩,
    ⟨4, .q .mv, [.tmp 64], (some 5), none, [], false⟩])))
def L52_5 : LCode :=
 (.seq
 (.seq
 (.reg [⟨0, .q .mv, [.tmp 10], (some 71), none, [], false⟩,
   ⟨1, .q (.bin .lss), [.tmp 71, .const (.int .i64 8)], (some 72), none, [], false⟩])
 (.cond (.tmp 72)
  .skip
  (.exit 6)))
 (.seq
 (.block 7
  (.reg [⟨0, .q .mv, [.tmp 9], (some 75), none, [], false⟩,
    ⟨1, .q (.bin .mul), [.tmp 75, .const (.int .u64 256)], (some 76), none, [], false⟩,
    ⟨2, .q .mv, [.tmp 5], (some 77), none, [], false⟩,
    ⟨3, .q .mv, [.tmp 10], (some 78), none, [], false⟩,
    ⟨4, .q (.iad 1), [.tmp 77, .tmp 78], (some 79), none, [], false⟩,
    ⟨5, .q .ld, [.tmp 79], (some 80), none, [], false⟩,
    ⟨6, .q (.cvi .u64), [.tmp 80], (some 81), none, [], false⟩,
    ⟨7, .q (.bin .add), [.tmp 76, .tmp 81], (some 82), none, [], false⟩,
    ⟨8, .q .mv, [.tmp 82], (some 9), none, [], false⟩]))
 (.reg [⟨0, .q .mv, [.tmp 10], (some 73), none, [], false⟩,
   ⟨1, .q (.bin .add), [.tmp 73, .const (.int .i64 1)], (some 74), none, [], false⟩,
   ⟨2, .q .mv, [.tmp 74], (some 10), none, [], false⟩])))
def L52_9 : LCode :=
 (.seq
 (.reg [⟨0, .q .mv, [.const (.int .u64 0)], (some 9), none, [], false⟩])
 (.seq
 (.seq
 (.reg [⟨0, .q .mv, [.const (.int .i64 0)], (some 10), none, [], false⟩])
 (.block 6
  (.loop L52_5)))
 (.seq
 (.reg [⟨0, .q .mv, [.tmp 9], (some 83), none, [], false⟩,
   ⟨1, .q (.cvi .i64), [.tmp 83], (some 84), none, [], false⟩,
   ⟨2, .q .mv, [.tmp 84], (some 2), none, [], false⟩,
   ⟨3, .q .mv, [.const (.int .i64 0)], (some 3), none, [], false⟩])
 .ret)))
def L52_65 : LCode :=
 (.seq
 (.seq
 (.reg [⟨0, .q .mv, [.tmp 5], (some 65), none, [], false⟩,
   ⟨1, .q (.iad 1), [.tmp 65, .const (.int .i64 0)], (some 66), none, [], false⟩,
   ⟨2, .q .ld, [.tmp 66], (some 67), none, [], false⟩,
   ⟨3, .q (.bin .geq), [.tmp 67, .const (.int .u8 128)], (some 68), none, [], false⟩,
   ⟨4, .q .mv, [.tmp 4], (some 69), none, [], false⟩,
   ⟨5, .q (.eqb true), [.tmp 68, .tmp 69], (some 70), none, [], false⟩])
 (.cond (.tmp 70)
  (.seq
  (.reg [⟨0, .q .mv, [.const (.int .i64 0)], (some 2), none, [], false⟩,
    ⟨1, .q .mv, [.const (.int .i64 121)], (some 3), none, [], false⟩])
  .ret)
  .skip))
 L52_9)
def L52_b4 : LCode :=
 (.seq
 (.block 4
  (.loop L52_4))
 L52_65)
def L52_6 : LCode :=
 (.seq
 (.block 2
  (.loop L52_3))
 L52_b4)
def L52 : LFn :=
 ⟨85, [.t 2, .t 3],
 (.seq
 (.reg [⟨0, .q .mv, [.const (.int .i64 0)], (some 2), none, [], false⟩,
   ⟨1, .q .mv, [.const (.int .i64 0)], (some 3), none, [], false⟩])
 (.seq
 (.seq
 (.reg [⟨0, .q .mv, [.tmp 0], (some 11), none, [], false⟩,
   ⟨1, .q .len, [.tmp 11], (some 12), none, [], false⟩,
   ⟨2, .q (.bin .lss), [.tmp 12, .const (.int .i64 2)], (some 13), none, [], false⟩,
   ⟨3, .q .mv, [.tmp 13], (some 14), none, [], false⟩,
   ⟨4, .q .mv, [.tmp 0], (some 15), (some (14, false)), [], false⟩,
   ⟨5, .q (.iad 1), [.tmp 15, .const (.int .i64 0)], (some 16), (some (14, false)), [], false⟩,
   ⟨6, .q .ld, [.tmp 16], (some 17), (some (14, false)), [], false⟩,
   ⟨7, .q (.bin .lss), [.tmp 17, .const (.int .u8 128)], (some 18), (some (14, false)), [], false⟩,
   ⟨8, .q .pick, [.tmp 14, .const (.bool true), .tmp 18], (some 19), none, [], false⟩])
 (.cond (.tmp 19)
  (.seq
  (.reg [⟨0, .q .mv, [.const (.int .i64 0)], (some 2), none, [], false⟩,
    ⟨1, .q .mv, [.const (.int .i64 120)], (some 3), none, [], false⟩])
  .ret)
  .skip))
 (.seq
 (.reg [⟨0, .q .mv, [.tmp 0], (some 20), none, [], false⟩,
   ⟨1, .q (.iad 1), [.tmp 20, .const (.int .i64 0)], (some 21), none, [], false⟩,
   ⟨2, .q .ld, [.tmp 21], (some 22), none, [], false⟩,
   ⟨3, .q (.bin .rem), [.tmp 22, .const (.int .u8 128)], (some 23), none, [], false⟩,
   ⟨4, .q (.bin .geq), [.tmp 23, .const (.int .u8 64)], (some 24), none, [], false⟩,
   ⟨5, .q .mv, [.tmp 24], (some 4), none, [], false⟩])
 (.seq
 (.reg [⟨0, .q .mv, [.const (.slice none 0 0)], (some 5), none, [], false⟩])
 (.seq
 (.seq
 (.reg [⟨0, .q .mv, [.const (.int .i64 0)], (some 6), none, [], false⟩])
 (.block 0
  (.loop L52_2)))
 (.seq
 (.reg [⟨0, .q .mv, [.const (.int .u8 0)], (some 8), none, [], false⟩])
 (.seq
 (.seq
 (.reg [⟨0, .q .mv, [.tmp 4], (some 47), none, [], false⟩])
 (.cond (.tmp 47)
  (.reg [⟨0, .q .mv, [.const (.int .u8 255)], (some 8), none, [], false⟩])
  .skip))
 L52_6)))))))⟩
theorem low52 : lowFn Tryd.prog Tryd.f52 = some L52 := by kernel_rfl
theorem call52 {args : List Value} {H : Heap} {S : Ending → Heap → Prop} (hn : args.length ≤ L52.n) (h : awpC Tryd.prog L52.body (retQ L52.results S) (fun ch H => S (.panicked ch) H) (env0 args) H) : ACalls Tryd.prog 52 args.toArray H S := acalls mixed Tryd.func52 low52 hn h
end Go.Proofs.YthflafgijfbpnaaDoor.Low
