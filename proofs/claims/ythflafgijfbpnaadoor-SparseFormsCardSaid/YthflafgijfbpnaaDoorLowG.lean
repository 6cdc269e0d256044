/-
  Functions in short (out of the program's form in Lean, by the kernel).
-/
import Derived.Test.YthflafgijfbpnaaDoorSepDfr
import Derived.Test.YthflafgijfbpnaaDoorProg
namespace Go.Proofs.YthflafgijfbpnaaDoor.Low
open Go Go.Proofs.YthflafgijfbpnaaDoor.Sep
theorem mixed : Tryd.prog.follows .mixedOrders = true := by kernel_rfl
/-- satchel/field.PutBinary -/
def L41_0 : LCode :=
 (.seq
 (.seq
 (.reg [⟨0, .q .mv, [.tmp 8], (some 22), none, [], false⟩,
   ⟨1, .q (.bin .geq), [.tmp 22, .const (.int .i64 0)], (some 23), none, [], false⟩])
 (.cond (.tmp 23)
  .skip
  (.exit 0)))
 (.seq
 (.block 1
  (.seq
  (.reg [⟨0, .q .mv, [.tmp 6], (some 26), none, [], false⟩,
    ⟨1, .q .mv, [.tmp 8], (some 27), none, [], false⟩,
    ⟨2, .q .mv, [.tmp 7], (some 28), none, [], false⟩,
    ⟨3, .q (.cvi .u8), [.tmp 28], (some 29), none, [], false⟩,
    ⟨4, .q (.iad 1), [.tmp 26, .tmp 27], (some 30), none, [], false⟩,
    ⟨5, .e (.st 1), [.tmp 30, .tmp 29], none, none, [], false⟩])
  (.reg [⟨0, .q .mv, [.tmp 7], (some 31), none, [], false⟩,
    ⟨1, .q (.bin .shr), [.tmp 31, .const (.int .u64 8)], (some 32), none, [], false⟩,
    ⟨2, .q .mv, [.tmp 32], (some 7), none, [], false⟩])))
 (.reg [⟨0, .q .mv, [.tmp 8], (some 24), none, [], false⟩,
   ⟨1, .q (.bin .sub), [.tmp 24, .const (.int .i64 1)], (some 25), none, [], false⟩,
   ⟨2, .q .mv, [.tmp 25], (some 8), none, [], false⟩])))
def L41 : LFn :=
 ⟨51, [.t 4, .t 5],
 (.seq
 (.reg [⟨0, .q .mv, [.const (.slice none 0 0)], (some 4), none, [], false⟩,
   ⟨1, .q .mv, [.const (.int .i64 0)], (some 5), none, [], false⟩])
 (.seq
 (.seq
 (.reg [⟨0, .q .mv, [.tmp 1], (some 11), none, [], false⟩,
   ⟨1, .q (.bin .lss), [.tmp 11, .const (.int .i64 2)], (some 12), none, [], false⟩,
   ⟨2, .q .mv, [.tmp 12], (some 13), none, [], false⟩,
   ⟨3, .q .mv, [.tmp 1], (some 14), (some (13, false)), [], false⟩,
   ⟨4, .q (.bin .gtr), [.tmp 14, .const (.int .i64 512)], (some 15), (some (13, false)), [], false⟩,
   ⟨5, .q .pick, [.tmp 13, .const (.bool true), .tmp 15], (some 16), none, [], false⟩])
 (.cond (.tmp 16)
  (.seq
  (.reg [⟨0, .q .mv, [.const (.slice none 0 0)], (some 4), none, [], false⟩,
    ⟨1, .q .mv, [.const (.int .i64 1)], (some 5), none, [], false⟩])
  .ret)
  .skip))
 (.seq
 (.reg [⟨0, .q .mv, [.tmp 1], (some 17), none, [], false⟩,
   ⟨1, .e (.mks 5 1 1 #[(.int .u8 0)]), [.tmp 17, .tmp 17], (some 18), none, [], false⟩,
   ⟨2, .q .mv, [.tmp 18], (some 6), none, [], false⟩])
 (.seq
 (.reg [⟨0, .q .mv, [.tmp 0], (some 19), none, [], false⟩,
   ⟨1, .q .mv, [.tmp 19], (some 7), none, [], false⟩])
 (.seq
 (.seq
 (.reg [⟨0, .q .mv, [.tmp 1], (some 20), none, [], false⟩,
   ⟨1, .q (.bin .sub), [.tmp 20, .const (.int .i64 1)], (some 21), none, [], false⟩,
   ⟨2, .q .mv, [.tmp 21], (some 8), none, [], false⟩])
 (.block 0
  (.loop L41_0)))
 (.seq
 (.reg [⟨0, .q .mv, [.tmp 6], (some 33), none, [], false⟩,
   ⟨1, .q (.iad 1), [.tmp 33, .const (.int .i64 0)], (some 34), none, [], false⟩,
   ⟨2, .q .ld, [.tmp 34], (some 35), none, [], false⟩,
   ⟨3, .q (.bin .or), [.tmp 35, .const (.int .u8 128)], (some 36), none, [], false⟩,
   ⟨4, .q (.iad 1), [.tmp 33, .const (.int .i64 0)], (some 37), none, [], false⟩,
   ⟨5, .e (.st 1), [.tmp 37, .tmp 36], none, none, [], false⟩])
 (.seq
 (.seq
 (.reg [⟨0, .q .mv, [.tmp 6], (some 39), none, [], false⟩,
   ⟨1, .e (.call 48), [.tmp 39], (some 40), none, [], false⟩,
   ⟨2, .q .mv, [.tmp 40], (some 38), none, [], false⟩,
   ⟨3, .q (.ext 0), [.tmp 38], (some 41), none, [], false⟩,
   ⟨4, .q (.ext 1), [.tmp 38], (some 42), none, [], false⟩,
   ⟨5, .q .mv, [.tmp 41], (some 9), none, [], false⟩,
   ⟨6, .q .mv, [.tmp 42], (some 10), none, [], false⟩])
 (.seq
 (.reg [⟨0, .q .mv, [.tmp 10], (some 43), none, [], false⟩,
   ⟨1, .q (.bin .neq), [.tmp 43, .const (.int .i64 0)], (some 44), none, [], false⟩,
   ⟨2, .q .mv, [.tmp 44], (some 45), none, [], false⟩,
   ⟨3, .q .mv, [.tmp 9], (some 46), (some (45, false)), [], false⟩,
   ⟨4, .q .mv, [.tmp 0], (some 47), (some (45, false)), [], false⟩,
   ⟨5, .q (.bin .neq), [.tmp 46, .tmp 47], (some 48), (some (45, false)), [], false⟩,
   ⟨6, .q .pick, [.tmp 45, .const (.bool true), .tmp 48], (some 49), none, [], false⟩])
 (.cond (.tmp 49)
  (.seq
  (.reg [⟨0, .q .mv, [.const (.slice none 0 0)], (some 4), none, [], false⟩,
    ⟨1, .q .mv, [.const (.int .i64 122)], (some 5), none, [], false⟩])
  .ret)
  .skip)))
 (.seq
 (.reg [⟨0, .q .mv, [.tmp 6], (some 50), none, [], false⟩,
   ⟨1, .q .mv, [.tmp 50], (some 4), none, [], false⟩,
   ⟨2, .q .mv, [.const (.int .i64 0)], (some 5), none, [], false⟩])
 .ret))))))))⟩
theorem low41 : lowFn Tryd.prog Tryd.f41 = some L41 := by kernel_rfl
theorem call41 {args : List Value} {H : Heap} {S : Ending → Heap → Prop} (hn : args.length ≤ L41.n) (h : awpC Tryd.prog L41.body (retQ L41.results S) (fun ch H => S (.panicked ch) H) (env0 args) H) : ACalls Tryd.prog 41 args.toArray H S := acalls mixed Tryd.func41 low41 hn h
/-- satchel/satchelref12.PutBinary -/
def L50_0 : LCode :=
 (.reg [⟨0, .q .mv, [.tmp 8], (some 22), none, [], false⟩,
   ⟨1, .q (.bin .sub), [.tmp 22, .const (.int .i64 1)], (some 23), none, [], false⟩,
   ⟨2, .q .mv, [.tmp 23], (some 8), none, [], false⟩])
def L50_1 : LCode :=
 (.seq
 (.seq
 (.reg [⟨0, .q .mv, [.tmp 8], (some 20), none, [], false⟩,
   ⟨1, .q (.bin .geq), [.tmp 20, .const (.int .i64 0)], (some 21), none, [], false⟩])
 (.cond (.tmp 21)
  .skip
  (.exit 0)))
 (.seq
 (.block 1
  (.seq
  (.reg [⟨0, .q .mv, [.tmp 6], (some 24), none, [], false⟩,
    ⟨1, .q .mv, [.tmp 8], (some 25), none, [], false⟩,
    ⟨2, .q .mv, [.tmp 7], (some 26), none, [], false⟩,
    ⟨3, .q (.cvi .u8), [.tmp 26], (some 27), none, [], false⟩,
    ⟨4, .q (.iad 1), [.tmp 24, .tmp 25], (some 28), none, [], false⟩,
    ⟨5, .e (.st 1), [.tmp 28, .tmp 27], none, none, [], false⟩])
  (.seq
  (.reg [⟨0, .q .mv, [.tmp 7], (some 29), none, [], false⟩,
    ⟨1, .q (.bin .shr), [.tmp 29, .const (.int .u64 8)], (some 30), none, [], false⟩,
    ⟨2, .q .mv, [.tmp 30], (some 7), none, [], false⟩])
  (.seq
  (.reg [⟨0, .q .mv, [.tmp 0], (some 31), none, [], false⟩,
    ⟨1, .q (.bin .lss), [.tmp 31, .const (.int .i64 0)], (some 32), none, [], false⟩])
  (.cond (.tmp 32)
   (.reg [⟨0, .q .mv, [.tmp 7], (some 33), none, [], false⟩,
     ⟨1, .q (.bin .add), [.tmp 33, .const (.int .u64 18374686479671623680)], (some 34), none, [], false⟩,
     ⟨2, .q .mv, [.tmp 34], (some 7), none, [], false⟩])
   .skip)))))
 L50_0))
def L50_2 : LCode :=
 (.seq
 (.reg [⟨0, .q .mv, [.tmp 6], (some 50), none, [], false⟩,
   ⟨1, .e (.call 52), [.tmp 50], (some 51), none, [], false⟩,
   ⟨2, .q .mv, [.tmp 51], (some 49), none, [], false⟩,
   ⟨3, .q (.ext 0), [.tmp 49], (some 52), none, [], false⟩,
   ⟨4, .q (.ext 1), [.tmp 49], (some 53), none, [], false⟩,
   ⟨5, .q .mv, [.tmp 52], (some 9), none, [], false⟩,
   ⟨6, .q .mv, [.tmp 53], (some 10), none, [], false⟩])
 (.seq
 (.seq
 (.reg [⟨0, .q .mv, [.tmp 10], (some 54), none, [], false⟩,
   ⟨1, .q (.bin .neq), [.tmp 54, .const (.int .i64 0)], (some 55), none, [], false⟩,
   ⟨2, .q .mv, [.tmp 55], (some 56), none, [], false⟩,
   ⟨3, .q .mv, [.tmp 9], (some 57), (some (56, false)), [], false⟩,
   ⟨4, .q .mv, [.tmp 0], (some 58), (some (56, false)), [], false⟩,
   ⟨5, .q (.bin .neq), [.tmp 57, .tmp 58], (some 59), (some (56, false)), [], false⟩,
   ⟨6, .q .pick, [.tmp 56, .const (.bool true), .tmp 59], (some 60), none, [], false⟩])
 (.cond (.tmp 60)
  (.seq
  (.reg [⟨0, .q .mv, [.const (.slice none 0 0)], (some 4), none, [], false⟩,
    ⟨1, .q .mv, [.const (.int .i64 122)], (some 5), none, [], false⟩])
  .ret)
  .skip))
 (.seq
 (.reg [⟨0, .q .mv, [.tmp 6], (some 61), none, [], false⟩,
   ⟨1, .q .mv, [.tmp 61], (some 4), none, [], false⟩,
   ⟨2, .q .mv, [.const (.int .i64 0)], (some 5), none, [], false⟩])
 .ret)))
def L50 : LFn :=
 ⟨62, [.t 4, .t 5],
 (.seq
 (.reg [⟨0, .q .mv, [.const (.slice none 0 0)], (some 4), none, [], false⟩,
   ⟨1, .q .mv, [.const (.int .i64 0)], (some 5), none, [], false⟩])
 (.seq
 (.seq
 (.reg [⟨0, .q .mv, [.tmp 1], (some 11), none, [], false⟩,
   ⟨1, .e (.call 65), [.tmp 11], (some 12), none, [], false⟩,
   ⟨2, .q (.un .not), [.tmp 12], (some 13), none, [], false⟩])
 (.cond (.tmp 13)
  (.seq
  (.reg [⟨0, .q .mv, [.const (.slice none 0 0)], (some 4), none, [], false⟩,
    ⟨1, .q .mv, [.const (.int .i64 1)], (some 5), none, [], false⟩])
  .ret)
  .skip))
 (.seq
 (.reg [⟨0, .q .mv, [.tmp 1], (some 14), none, [], false⟩,
   ⟨1, .e (.mks 5 1 1 #[(.int .u8 0)]), [.tmp 14, .tmp 14], (some 15), none, [], false⟩,
   ⟨2, .q .mv, [.tmp 15], (some 6), none, [], false⟩])
 (.seq
 (.reg [⟨0, .q .mv, [.tmp 0], (some 16), none, [], false⟩,
   ⟨1, .q (.cvi .u64), [.tmp 16], (some 17), none, [], false⟩,
   ⟨2, .q .mv, [.tmp 17], (some 7), none, [], false⟩])
 (.seq
 (.seq
 (.reg [⟨0, .q .mv, [.tmp 1], (some 18), none, [], false⟩,
   ⟨1, .q (.bin .sub), [.tmp 18, .const (.int .i64 1)], (some 19), none, [], false⟩,
   ⟨2, .q .mv, [.tmp 19], (some 8), none, [], false⟩])
 (.block 0
  (.loop L50_1)))
 (.seq
 (.seq
 (.reg [⟨0, .q .mv, [.tmp 0], (some 35), none, [], false⟩,
   ⟨1, .q (.bin .geq), [.tmp 35, .const (.int .i64 0)], (some 36), none, [], false⟩,
   ⟨2, .q .mv, [.tmp 36], (some 37), none, [], false⟩,
   ⟨3, .q .mv, [.tmp 6], (some 38), (some (37, true)), [], false⟩,
   ⟨4, .q (.iad 1), [.tmp 38, .const (.int .i64 0)], (some 39), (some (37, true)), [], false⟩,
   ⟨5, .q .ld, [.tmp 39], (some 40), (some (37, true)), [], false⟩,
   ⟨6, .q (.bin .lss), [.tmp 40, .const (.int .u8 64)], (some 41), (some (37, true)), [], false⟩,
   ⟨7, .q .pick, [.tmp 37, .tmp 41, .const (.bool false)], (some 42), none, [], false⟩])
 (.cond (.tmp 42)
  (.reg [⟨0, .q .mv, [.tmp 6], (some 43), none, [], false⟩,
    ⟨1, .q .mv, [.tmp 6], (some 44), none, [], false⟩,
    ⟨2, .q (.iad 1), [.tmp 44, .const (.int .i64 0)], (some 45), none, [], false⟩,
    ⟨3, .q .ld, [.tmp 45], (some 46), none, [], false⟩,
    ⟨4, .q (.bin .add), [.tmp 46, .const (.int .u8 128)], (some 47), none, [], false⟩,
    ⟨5, .q (.iad 1), [.tmp 43, .const (.int .i64 0)], (some 48), none, [], false⟩,
    ⟨6, .e (.st 1), [.tmp 48, .tmp 47], none, none, [], false⟩])
  .skip))
 L50_2))))))⟩
theorem low50 : lowFn Tryd.prog Tryd.f50 = some L50 := by kernel_rfl
theorem call50 {args : List Value} {H : Heap} {S : Ending → Heap → Prop} (hn : args.length ≤ L50.n) (h : awpC Tryd.prog L50.body (retQ L50.results S) (fun ch H => S (.panicked ch) H) (env0 args) H) : ACalls Tryd.prog 50 args.toArray H S := acalls mixed Tryd.func50 low50 hn h
/-- satchel/field.PutNumber -/
def L31 : LFn :=
 ⟨23, [.t 4, .t 5],
 (.seq
 (.reg [⟨0, .q .mv, [.const (.slice none 0 0)], (some 4), none, [], false⟩,
   ⟨1, .q .mv, [.const (.int .i64 0)], (some 5), none, [], false⟩])
 (.seq
 (.seq
 (.reg [⟨0, .q .mv, [.tmp 0], (some 9), none, [], false⟩,
   ⟨1, .q .mv, [.tmp 1], (some 10), none, [], false⟩,
   ⟨2, .e (.call 40), [.tmp 9, .tmp 10], (some 11), none, [], false⟩,
   ⟨3, .q .mv, [.tmp 11], (some 8), none, [], false⟩,
   ⟨4, .q (.ext 0), [.tmp 8], (some 12), none, [], false⟩,
   ⟨5, .q (.ext 1), [.tmp 8], (some 13), none, [], false⟩,
   ⟨6, .q .mv, [.tmp 12], (some 6), none, [], false⟩,
   ⟨7, .q .mv, [.tmp 13], (some 7), none, [], false⟩])
 (.seq
 (.reg [⟨0, .q .mv, [.tmp 7], (some 14), none, [], false⟩,
   ⟨1, .q (.bin .eql), [.tmp 14, .const (.int .i64 0)], (some 15), none, [], false⟩])
 (.cond (.tmp 15)
  (.seq
  (.reg [⟨0, .q .mv, [.tmp 6], (some 16), none, [], false⟩,
    ⟨1, .q .mv, [.tmp 7], (some 17), none, [], false⟩,
    ⟨2, .q .mv, [.tmp 16], (some 4), none, [], false⟩,
    ⟨3, .q .mv, [.tmp 17], (some 5), none, [], false⟩])
  .ret)
  .skip)))
 (.seq
 (.reg [⟨0, .q .mv, [.tmp 0], (some 18), none, [], false⟩,
   ⟨1, .q .mv, [.tmp 1], (some 19), none, [], false⟩,
   ⟨2, .e (.call 41), [.tmp 18, .tmp 19], (some 20), none, [], false⟩,
   ⟨3, .q (.ext 0), [.tmp 20], (some 21), none, [], false⟩,
   ⟨4, .q (.ext 1), [.tmp 20], (some 22), none, [], false⟩,
   ⟨5, .q .mv, [.tmp 21], (some 4), none, [], false⟩,
   ⟨6, .q .mv, [.tmp 22], (some 5), none, [], false⟩])
 .ret)))⟩
theorem low31 : lowFn Tryd.prog Tryd.f31 = some L31 := by kernel_rfl
theorem call31 {args : List Value} {H : Heap} {S : Ending → Heap → Prop} (hn : args.length ≤ L31.n) (h : awpC Tryd.prog L31.body (retQ L31.results S) (fun ch H => S (.panicked ch) H) (env0 args) H) : ACalls Tryd.prog 31 args.toArray H S := acalls mixed Tryd.func31 low31 hn h
/-- satchel/satchelref12.PutNumber -/
def L42 : LFn :=
 ⟨23, [.t 4, .t 5],
 (.seq
 (.reg [⟨0, .q .mv, [.const (.slice none 0 0)], (some 4), none, [], false⟩,
   ⟨1, .q .mv, [.const (.int .i64 0)], (some 5), none, [], false⟩])
 (.seq
 (.reg [⟨0, .q .mv, [.tmp 0], (some 9), none, [], false⟩,
   ⟨1, .q .mv, [.tmp 1], (some 10), none, [], false⟩,
   ⟨2, .e (.call 49), [.tmp 9, .tmp 10], (some 11), none, [], false⟩,
   ⟨3, .q .mv, [.tmp 11], (some 8), none, [], false⟩,
   ⟨4, .q (.ext 0), [.tmp 8], (some 12), none, [], false⟩,
   ⟨5, .q (.ext 1), [.tmp 8], (some 13), none, [], false⟩,
   ⟨6, .q .mv, [.tmp 12], (some 6), none, [], false⟩,
   ⟨7, .q .mv, [.tmp 13], (some 7), none, [], false⟩])
 (.seq
 (.seq
 (.reg [⟨0, .q .mv, [.tmp 7], (some 14), none, [], false⟩,
   ⟨1, .q (.bin .eql), [.tmp 14, .const (.int .i64 0)], (some 15), none, [], false⟩])
 (.cond (.tmp 15)
  (.seq
  (.reg [⟨0, .q .mv, [.tmp 6], (some 16), none, [], false⟩,
    ⟨1, .q .mv, [.tmp 7], (some 17), none, [], false⟩,
    ⟨2, .q .mv, [.tmp 16], (some 4), none, [], false⟩,
    ⟨3, .q .mv, [.tmp 17], (some 5), none, [], false⟩])
  .ret)
  .skip))
 (.seq
 (.reg [⟨0, .q .mv, [.tmp 0], (some 18), none, [], false⟩,
   ⟨1, .q .mv, [.tmp 1], (some 19), none, [], false⟩,
   ⟨2, .e (.call 50), [.tmp 18, .tmp 19], (some 20), none, [], false⟩,
   ⟨3, .q (.ext 0), [.tmp 20], (some 21), none, [], false⟩,
   ⟨4, .q (.ext 1), [.tmp 20], (some 22), none, [], false⟩,
   ⟨5, .q .mv, [.tmp 21], (some 4), none, [], false⟩,
   ⟨6, .q .mv, [.tmp 22], (some 5), none, [], false⟩])
 .ret))))⟩
theorem low42 : lowFn Tryd.prog Tryd.f42 = some L42 := by kernel_rfl
theorem call42 {args : List Value} {H : Heap} {S : Ending → Heap → Prop} (hn : args.length ≤ L42.n) (h : awpC Tryd.prog L42.body (retQ L42.results S) (fun ch H => S (.panicked ch) H) (env0 args) H) : ACalls Tryd.prog 42 args.toArray H S := acalls mixed Tryd.func42 low42 hn h
end Go.Proofs.YthflafgijfbpnaaDoor.Low
