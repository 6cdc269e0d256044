/-
  Functions in short (out of the program's form in Lean, by the kernel).
-/
import Derived.Test.YtigignkgblaoaaaDoorSepCode
import Derived.Test.YtigignkgblaoaaaDoorProg
namespace Go.Proofs.YtigignkgblaoaaaDoor.Low
open Go Go.Proofs.YtigignkgblaoaaaDoor.Sep
theorem mixed : Tryd.prog.follows .mixedOrders = true := by kernel_rfl
/-- satchel/field.PutBinary -/
def L20_0 : LCode :=
 (.seq
 (.seq
 (.reg [⟨0, .q .mv, [.tmp 8], (some 22), none, [], false⟩,
   ⟨1, .q (.bin .geq), [.tmp 22, .const (.int .i64 0)], (some 23), none, [], false⟩])
 (.cond (.tmp 23)
  .skip
  (.exit 0)))
 (.seq
 (.block 1
  (.seq
  (.reg [⟨0, .q .mv, [.tmp 6], (some 26), none, [], false⟩,
    ⟨1, .q .mv, [.tmp 8], (some 27), none, [], false⟩,
    ⟨2, .q .mv, [.tmp 7], (some 28), none, [], false⟩,
    ⟨3, .q (.cvi .u8), [.tmp 28], (some 29), none, [], false⟩,
    ⟨4, .q (.iad 1), [.tmp 26, .tmp 27], (some 30), none, [], false⟩,
    ⟨5, .e (.st 1), [.tmp 30, .tmp 29], none, none, [], false⟩])
  (.reg [⟨0, .q .mv, [.tmp 7], (some 31), none, [], false⟩,
    ⟨1, .q (.bin .shr), [.tmp 31, .const (.int .u64 8)], (some 32), none, [], false⟩,
    ⟨2, .q .mv, [.tmp 32], (some 7), none, [], false⟩])))
 (.reg [⟨0, .q .mv, [.tmp 8], (some 24), none, [], false⟩,
   ⟨1, .q (.bin .sub), [.tmp 24, .const (.int .i64 1)], (some 25), none, [], false⟩,
   ⟨2, .q .mv, [.tmp 25], (some 8), none, [], false⟩])))
def L20 : LFn :=
 ⟨51, [.t 4, .t 5],
 (.seq
 (.reg [⟨0, .q .mv, [.const (.slice none 0 0)], (some 4), none, [], false⟩,
   ⟨1, .q .mv, [.const (.int .i64 0)], (some 5), none, [], false⟩])
 (.seq
 (.seq
 (.reg [⟨0, .q .mv, [.tmp 1], (some 11), none, [], false⟩,
   ⟨1, .q (.bin .lss), [.tmp 11, .const (.int .i64 2)], (some 12), none, [], false⟩,
   ⟨2, .q .mv, [.tmp 12], (some 13), none, [], false⟩,
   ⟨3, .q .mv, [.tmp 1], (some 14), (some (13, false)), [], false⟩,
   ⟨4, .q (.bin .gtr), [.tmp 14, .const (.int .i64 512)], (some 15), (some (13, false)), [], false⟩,
   ⟨5, .q .pick, [.tmp 13, .const (.bool true), .tmp 15], (some 16), none, [], false⟩])
 (.cond (.tmp 16)
  (.seq
  (.reg [⟨0, .q .mv, [.const (.slice none 0 0)], (some 4), none, [], false⟩,
    ⟨1, .q .mv, [.const (.int .i64 1)], (some 5), none, [], false⟩])
  .ret)
  .skip))
 (.seq
 (.reg [⟨0, .q .mv, [.tmp 1], (some 17), none, [], false⟩,
   ⟨1, .e (.mks 5 1 1 #[(.int .u8 0)]), [.tmp 17, .tmp 17], (some 18), none, [], false⟩,
   ⟨2, .q .mv, [.tmp 18], (some 6), none, [], false⟩])
 (.seq
 (.reg [⟨0, .q .mv, [.tmp 0], (some 19), none, [], false⟩,
   ⟨1, .q .mv, [.tmp 19], (some 7), none, [], false⟩])
 (.seq
 (.seq
 (.reg [⟨0, .q .mv, [.tmp 1], (some 20), none, [], false⟩,
   ⟨1, .q (.bin .sub), [.tmp 20, .const (.int .i64 1)], (some 21), none, [], false⟩,
   ⟨2, .q .mv, [.tmp 21], (some 8), none, [], false⟩])
 (.block 0
  (.loop L20_0)))
 (.seq
 (.reg [⟨0, .q .mv, [.tmp 6], (some 33), none, [], false⟩,
   ⟨1, .q (.iad 1), [.tmp 33, .const (.int .i64 0)], (some 34), none, [], false⟩,
   ⟨2, .q .ld, [.tmp 34], (some 35), none, [], false⟩,
   ⟨3, .q (.bin .or), [.tmp 35, .const (.int .u8 128)], (some 36), none, [], false⟩,
   ⟨4, .q (.iad 1), [.tmp 33, .const (.int .i64 0)], (some 37), none, [], false⟩,
   ⟨5, .e (.st 1), [.tmp 37, .tmp 36], none, none, [], false⟩])
 (.seq
 (.seq
 (.reg [⟨0, .q .mv, [.tmp 6], (some 39), none, [], false⟩,
   ⟨1, .e (.call 12), [.tmp 39], (some 40), none, [], false⟩,
   ⟨2, .q .mv, [.tmp 40], (some 38), none, [], false⟩,
   ⟨3, .q (.ext 0), [.tmp 38], (some 41), none, [], false⟩,
   ⟨4, .q (.ext 1), [.tmp 38], (some 42), none, [], false⟩,
   ⟨5, .q .mv, [.tmp 41], (some 9), none, [], false⟩,
   ⟨6, .q .mv, [.tmp 42], (some 10), none, [], false⟩])
 (.seq
 (.reg [⟨0, .q .mv, [.tmp 10], (some 43), none, [], false⟩,
   ⟨1, .q (.bin .neq), [.tmp 43, .const (.int .i64 0)], (some 44), none, [], false⟩,
   ⟨2, .q .mv, [.tmp 44], (some 45), none, [], false⟩,
   ⟨3, .q .mv, [.tmp 9], (some 46), (some (45, false)), [], false⟩,
   ⟨4, .q .mv, [.tmp 0], (some 47), (some (45, false)), [], false⟩,
   ⟨5, .q (.bin .neq), [.tmp 46, .tmp 47], (some 48), (some (45, false)), [], false⟩,
   ⟨6, .q .pick, [.tmp 45, .const (.bool true), .tmp 48], (some 49), none, [], false⟩])
 (.cond (.tmp 49)
  (.seq
  (.reg [⟨0, .q .mv, [.const (.slice none 0 0)], (some 4), none, [], false⟩,
    ⟨1, .q .mv, [.const (.int .i64 122)], (some 5), none, [], false⟩])
  .ret)
  .skip)))
 (.seq
 (.reg [⟨0, .q .mv, [.tmp 6], (some 50), none, [], false⟩,
   ⟨1, .q .mv, [.tmp 50], (some 4), none, [], false⟩,
   ⟨2, .q .mv, [.const (.int .i64 0)], (some 5), none, [], false⟩])
 .ret))))))))⟩
theorem low20 : lowFn Tryd.prog Tryd.f20 = some L20 := by kernel_rfl
theorem call20 {args : List Value} {H : Heap} {S : Ending → Heap → Prop} (hn : args.length ≤ L20.n) (h : awpC Tryd.prog L20.body (retQ L20.results S) (fun ch H => S (.panicked ch) H) (env0 args) H) : ACalls Tryd.prog 20 args.toArray H S := acalls mixed Tryd.func20 low20 hn h
/-- satchel/satchelref12.PutBinary -/
def L21_0 : LCode :=
 (.reg [⟨0, .q .mv, [.tmp 8], (some 22), none, [], false⟩,
   ⟨1, .q (.bin .sub), [.tmp 22, .const (.int .i64 1)], (some 23), none, [], false⟩,
   ⟨2, .q .mv, [.tmp 23], (some 8), none, [], false⟩])
def L21_1 : LCode :=
 (.seq
 (.seq
 (.reg [⟨0, .q .mv, [.tmp 8], (some 20), none, [], false⟩,
   ⟨1, .q (.bin .geq), [.tmp 20, .const (.int .i64 0)], (some 21), none, [], false⟩])
 (.cond (.tmp 21)
  .skip
  (.exit 0)))
 (.seq
 (.block 1
  (.seq
  (.reg [⟨0, .q .mv, [.tmp 6], (some 24), none, [], false⟩,
    ⟨1, .q .mv, [.tmp 8], (some 25), none, [], false⟩,
    ⟨2, .q .mv, [.tmp 7], (some 26), none, [], false⟩,
    ⟨3, .q (.cvi .u8), [.tmp 26], (some 27), none, [], false⟩,
    ⟨4, .q (.iad 1), [.tmp 24, .tmp 25], (some 28), none, [], false⟩,
    ⟨5, .e (.st 1), [.tmp 28, .tmp 27], none, none, [], false⟩])
  (.seq
  (.reg [⟨0, .q .mv, [.tmp 7], (some 29), none, [], false⟩,
    ⟨1, .q (.bin .shr), [.tmp 29, .const (.int .u64 8)], (some 30), none, [], false⟩,
    ⟨2, .q .mv, [.tmp 30], (some 7), none, [], false⟩])
  (.seq
  (.reg [⟨0, .q .mv, [.tmp 0], (some 31), none, [], false⟩,
    ⟨1, .q (.bin .lss), [.tmp 31, .const (.int .i64 0)], (some 32), none, [], false⟩])
  (.cond (.tmp 32)
   (.reg [⟨0, .q .mv, [.tmp 7], (some 33), none, [], false⟩,
     ⟨1, .q (.bin .add), [.tmp 33, .const (.int .u64 18374686479671623680)], (some 34), none, [], false⟩,
     ⟨2, .q .mv, [.tmp 34], (some 7), none, [], false⟩])
   .skip)))))
 L21_0))
def L21_2 : LCode :=
 (.seq
 (.reg [⟨0, .q .mv, [.tmp 6], (some 50), none, [], false⟩,
   ⟨1, .e (.call 13), [.tmp 50], (some 51), none, [], false⟩,
   ⟨2, .q .mv, [.tmp 51], (some 49), none, [], false⟩,
   ⟨3, .q (.ext 0), [.tmp 49], (some 52), none, [], false⟩,
   ⟨4, .q (.ext 1), [.tmp 49], (some 53), none, [], false⟩,
   ⟨5, .q .mv, [.tmp 52], (some 9), none, [], false⟩,
   ⟨6, .q .mv, [.tmp 53], (some 10), none, [], false⟩])
 (.seq
 (.seq
 (.reg [⟨0, .q .mv, [.tmp 10], (some 54), none, [], false⟩,
   ⟨1, .q (.bin .neq), [.tmp 54, .const (.int .i64 0)], (some 55), none, [], false⟩,
   ⟨2, .q .mv, [.tmp 55], (some 56), none, [], false⟩,
   ⟨3, .q .mv, [.tmp 9], (some 57), (some (56, false)), [], false⟩,
   ⟨4, .q .mv, [.tmp 0], (some 58), (some (56, false)), [], false⟩,
   ⟨5, .q (.bin .neq), [.tmp 57, .tmp 58], (some 59), (some (56, false)), [], false⟩,
   ⟨6, .q .pick, [.tmp 56, .const (.bool true), .tmp 59], (some 60), none, [], false⟩])
 (.cond (.tmp 60)
  (.seq
  (.reg [⟨0, .q .mv, [.const (.slice none 0 0)], (some 4), none, [], false⟩,
    ⟨1, .q .mv, [.const (.int .i64 122)], (some 5), none, [], false⟩])
  .ret)
  .skip))
 (.seq
 (.reg [⟨0, .q .mv, [.tmp 6], (some 61), none, [], false⟩,
   ⟨1, .q .mv, [.tmp 61], (some 4), none, [], false⟩,
   ⟨2, .q .mv, [.const (.int .i64 0)], (some 5), none, [], false⟩])
 .ret)))
def L21 : LFn :=
 ⟨62, [.t 4, .t 5],
 (.seq
 (.reg [⟨0, .q .mv, [.const (.slice none 0 0)], (some 4), none, [], false⟩,
   ⟨1, .q .mv, [.const (.int .i64 0)], (some 5), none, [], false⟩])
 (.seq
 (.seq
 (.reg [⟨0, .q .mv, [.tmp 1], (some 11), none, [], false⟩,
   ⟨1, .e (.call 41), [.tmp 11], (some 12), none, [], false⟩,
   ⟨2, .q (.un .not), [.tmp 12], (some 13), none, [], false⟩])
 (.cond (.tmp 13)
  (.seq
  (.reg [⟨0, .q .mv, [.const (.slice none 0 0)], (some 4), none, [], false⟩,
    ⟨1, .q .mv, [.const (.int .i64 1)], (some 5), none, [], false⟩])
  .ret)
  .skip))
 (.seq
 (.reg [⟨0, .q .mv, [.tmp 1], (some 14), none, [], false⟩,
   ⟨1, .e (.mks 5 1 1 #[(.int .u8 0)]), [.tmp 14, .tmp 14], (some 15), none, [], false⟩,
   ⟨2, .q .mv, [.tmp 15], (some 6), none, [], false⟩])
 (.seq
 (.reg [⟨0, .q .mv, [.tmp 0], (some 16), none, [], false⟩,
   ⟨1, .q (.cvi .u64), [.tmp 16], (some 17), none, [], false⟩,
   ⟨2, .q .mv, [.tmp 17], (some 7), none, [], false⟩])
 (.seq
 (.seq
 (.reg [⟨0, .q .mv, [.tmp 1], (some 18), none, [], false⟩,
   ⟨1, .q (.bin .sub), [.tmp 18, .const (.int .i64 1)], (some 19), none, [], false⟩,
   ⟨2, .q .mv, [.tmp 19], (some 8), none, [], false⟩])
 (.block 0
  (.loop L21_1)))
 (.seq
 (.seq
 (.reg [⟨0, .q .mv, [.tmp 0], (some 35), none, [], false⟩,
   ⟨1, .q (.bin .geq), [.tmp 35, .const (.int .i64 0)], (some 36), none, [], false⟩,
   ⟨2, .q .mv, [.tmp 36], (some 37), none, [], false⟩,
   ⟨3, .q .mv, [.tmp 6], (some 38), (some (37, true)), [], false⟩,
   ⟨4, .q (.iad 1), [.tmp 38, .const (.int .i64 0)], (some 39), (some (37, true)), [], false⟩,
   ⟨5, .q .ld, [.tmp 39], (some 40), (some (37, true)), [], false⟩,
   ⟨6, .q (.bin .lss), [.tmp 40, .const (.int .u8 64)], (some 41), (some (37, true)), [], false⟩,
   ⟨7, .q .pick, [.tmp 37, .tmp 41, .const (.bool false)], (some 42), none, [], false⟩])
 (.cond (.tmp 42)
  (.reg [⟨0, .q .mv, [.tmp 6], (some 43), none, [], false⟩,
    ⟨1, .q .mv, [.tmp 6], (some 44), none, [], false⟩,
    ⟨2, .q (.iad 1), [.tmp 44, .const (.int .i64 0)], (some 45), none, [], false⟩,
    ⟨3, .q .ld, [.tmp 45], (some 46), none, [], false⟩,
    ⟨4, .q (.bin .add), [.tmp 46, .const (.int .u8 128)], (some 47), none, [], false⟩,
    ⟨5, .q (.iad 1), [.tmp 43, .const (.int .i64 0)], (some 48), none, [], false⟩,
    ⟨6, .e (.st 1), [.tmp 48, .tmp 47], none, none, [], false⟩])
  .skip))
 L21_2))))))⟩
theorem low21 : lowFn Tryd.prog Tryd.f21 = some L21 := by kernel_rfl
theorem call21 {args : List Value} {H : Heap} {S : Ending → Heap → Prop} (hn : args.length ≤ L21.n) (h : awpC Tryd.prog L21.body (retQ L21.results S) (fun ch H => S (.panicked ch) H) (env0 args) H) : ACalls Tryd.prog 21 args.toArray H S := acalls mixed Tryd.func21 low21 hn h
/-- satchel/field.PutNumber -/
def L22 : LFn :=
 ⟨23, [.t 4, .t 5],
 (.seq
 (.reg [⟨0, .q .mv, [.const (.slice none 0 0)], (some 4), none, [], false⟩,
   ⟨1, .q .mv, [.const (.int .i64 0)], (some 5), none, [], false⟩])
 (.seq
 (.seq
 (.reg [⟨0, .q .mv, [.tmp 0], (some 9), none, [], false⟩,
   ⟨1, .q .mv, [.tmp 1], (some 10), none, [], false⟩,
   ⟨2, .e (.call 18), [.tmp 9, .tmp 10], (some 11), none, [], false⟩,
   ⟨3, .q .mv, [.tmp 11], (some 8), none, [], false⟩,
   ⟨4, .q (.ext 0), [.tmp 8], (some 12), none, [], false⟩,
   ⟨5, .q (.ext 1), [.tmp 8], (some 13), none, [], false⟩,
   ⟨6, .q .mv, [.tmp 12], (some 6), none, [], false⟩,
   ⟨7, .q .mv, [.tmp 13], (some 7), none, [], false⟩])
 (.seq
 (.reg [⟨0, .q .mv, [.tmp 7], (some 14), none, [], false⟩,
   ⟨1, .q (.bin .eql), [.tmp 14, .const (.int .i64 0)], (some 15), none, [], false⟩])
 (.cond (.tmp 15)
  (.seq
  (.reg [⟨0, .q .mv, [.tmp 6], (some 16), none, [], false⟩,
    ⟨1, .q .mv, [.tmp 7], (some 17), none, [], false⟩,
    ⟨2, .q .mv, [.tmp 16], (some 4), none, [], false⟩,
    ⟨3, .q .mv, [.tmp 17], (some 5), none, [], false⟩])
  .ret)
  .skip)))
 (.seq
 (.reg [⟨0, .q .mv, [.tmp 0], (some 18), none, [], false⟩,
   ⟨1, .q .mv, [.tmp 1], (some 19), none, [], false⟩,
   ⟨2, .e (.call 20), [.tmp 18, .tmp 19], (some 20), none, [], false⟩,
   ⟨3, .q (.ext 0), [.tmp 20], (some 21), none, [], false⟩,
   ⟨4, .q (.ext 1), [.tmp 20], (some 22), none, [], false⟩,
   ⟨5, .q .mv, [.tmp 21], (some 4), none, [], false⟩,
   ⟨6, .q .mv, [.tmp 22], (some 5), none, [], false⟩])
 .ret)))⟩
theorem low22 : lowFn Tryd.prog Tryd.f22 = some L22 := by kernel_rfl
theorem call22 {args : List Value} {H : Heap} {S : Ending → Heap → Prop} (hn : args.length ≤ L22.n) (h : awpC Tryd.prog L22.body (retQ L22.results S) (fun ch H => S (.panicked ch) H) (env0 args) H) : ACalls Tryd.prog 22 args.toArray H S := acalls mixed Tryd.func22 low22 hn h
/-- satchel/satchelref12.PutNumber -/
def L23 : LFn :=
 ⟨23, [.t 4, .t 5],
 (.seq
 (.reg [⟨0, .q .mv, [.const (.slice none 0 0)], (some 4), none, [], false⟩,
   ⟨1, .q .mv, [.const (.int .i64 0)], (some 5), none, [], false⟩])
 (.seq
 (.reg [⟨0, .q .mv, [.tmp 0], (some 9), none, [], false⟩,
   ⟨1, .q .mv, [.tmp 1], (some 10), none, [], false⟩,
   ⟨2, .e (.call 19), [.tmp 9, .tmp 10], (some 11), none, [], false⟩,
   ⟨3, .q .mv, [.tmp 11], (some 8), none, [], false⟩,
   ⟨4, .q (.ext 0), [.tmp 8], (some 12), none, [], false⟩,
   ⟨5, .q (.ext 1), [.tmp 8], (some 13), none, [], false⟩,
   ⟨6, .q .mv, [.tmp 12], (some 6), none, [], false⟩,
   ⟨7, .q .mv, [.tmp 13], (some 7), none, [], false⟩])
 (.seq
 (.seq
 (.reg [⟨0, .q .mv, [.tmp 7], (some 14), none, [], false⟩,
   ⟨1, .q (.bin .eql), [.tmp 14, .const (.int .i64 0)], (some 15), none, [], false⟩])
 (.cond (.tmp 15)
  (.seq
  (.reg [⟨0, .q .mv, [.tmp 6], (some 16), none, [], false⟩,
    ⟨1, .q .mv, [.tmp 7], (some 17), none, [], false⟩,
    ⟨2, .q .mv, [.tmp 16], (some 4), none, [], false⟩,
    ⟨3, .q .mv, [.tmp 17], (some 5), none, [], false⟩])
  .ret)
  .skip))
 (.seq
 (.reg [⟨0, .q .mv, [.tmp 0], (some 18), none, [], false⟩,
   ⟨1, .q .mv, [.tmp 1], (some 19), none, [], false⟩,
   ⟨2, .e (.call 21), [.tmp 18, .tmp 19], (some 20), none, [], false⟩,
   ⟨3, .q (.ext 0), [.tmp 20], (some 21), none, [], false⟩,
   ⟨4, .q (.ext 1), [.tmp 20], (some 22), none, [], false⟩,
   ⟨5, .q .mv, [.tmp 21], (some 4), none, [], false⟩,
   ⟨6, .q .mv, [.tmp 22], (some 5), none, [], false⟩])
 .ret))))⟩
theorem low23 : lowFn Tryd.prog Tryd.f23 = some L23 := by kernel_rfl
theorem call23 {args : List Value} {H : Heap} {S : Ending → Heap → Prop} (hn : args.length ≤ L23.n) (h : awpC Tryd.prog L23.body (retQ L23.results S) (fun ch H => S (.panicked ch) H) (env0 args) H) : ACalls Tryd.prog 23 args.toArray H S := acalls mixed Tryd.func23 low23 hn h
/-- satchel/field.PutText -/
def L24 : LFn :=
 ⟨28, [.t 4, .t 5],
 (.seq
 (.reg [⟨0, .q .mv, [.const (.slice none 0 0)], (some 4), none, [], false⟩,
   ⟨1, .q .mv, [.const (.int .i64 0)], (some 5), none, [], false⟩])
 (.seq
 (.seq
 (.reg [⟨0, .q .mv, [.tmp 1], (some 7), none, [], false⟩,
   ⟨1, .q (.bin .lss), [.tmp 7, .const (.int .i64 1)], (some 8), none, [], false⟩,
   ⟨2, .q .mv, [.tmp 8], (some 9), none, [], false⟩,
   ⟨3, .q .mv, [.tmp 1], (some 10), (some (9, false)), [], false⟩,
   ⟨4, .q (.bin .gtr), [.tmp 10, .const (.int .i64 512)], (some 11), (some (9, false)), [], false⟩,
   ⟨5, .q .pick, [.tmp 9, .const (.bool true), .tmp 11], (some 12), none, [], false⟩,
   ⟨6, .q .mv, [.tmp 12], (some 13), none, [], false⟩,
   ⟨7, .q .mv, [.tmp 0], (some 14), (some (13, false)), [], false⟩,
   ⟨8, .e (.call 42), [.tmp 14, .const (.int .u8 0)], (some 15), (some (13, false)), [], false⟩,
   ⟨9, .q (.bin .geq), [.tmp 15, .const (.int .i64 0)], (some 16), (some (13, false)), [], false⟩,
   ⟨10, .q .pick, [.tmp 13, .const (.bool true), .tmp 16], (some 17), none, [], false⟩])
 (.cond (.tmp 17)
  (.seq
  (.reg [⟨0, .q .mv, [.const (.slice none 0 0)], (some 4), none, [], false⟩,
    ⟨1, .q .mv, [.const (.int .i64 1)], (some 5), none, [], false⟩])
  .ret)
  .skip))
 (.seq
 (.seq
 (.reg [⟨0, .q .mv, [.tmp 0], (some 18), none, [], false⟩,
   ⟨1, .q .lens, [.tmp 18], (some 19), none, [], false⟩,
   ⟨2, .q .mv, [.tmp 1], (some 20), none, [], false⟩,
   ⟨3, .q (.bin .gtr), [.tmp 19, .tmp 20], (some 21), none, [], false⟩])
 (.cond (.tmp 21)
  (.seq
  (.reg [⟨0, .q .mv, [.const (.slice none 0 0)], (some 4), none, [], false⟩,
    ⟨1, .q .mv, [.const (.int .i64 122)], (some 5), none, [], false⟩])
  .ret)
  .skip))
 (.seq
 (.reg [⟨0, .q .mv, [.tmp 1], (some 22), none, [], false⟩,
   ⟨1, .e (.mks 5 1 1 #[(.int .u8 0)]), [.tmp 22, .tmp 22], (some 23), none, [], false⟩,
   ⟨2, .q .mv, [.tmp 23], (some 6), none, [], false⟩])
 (.seq
 (.reg [⟨0, .q .mv, [.tmp 6], (some 24), none, [], false⟩,
   ⟨1, .q .mv, [.tmp 0], (some 25), none, [], false⟩,
   ⟨2, .e (.copy 1), [.tmp 24, .tmp 25], (some 26), none, [], false⟩])
 (.seq
 (.reg [⟨0, .q .mv, [.tmp 6], (some 27), none, [], false⟩,
   ⟨1, .q .mv, [.tmp 27], (some 4), none, [], false⟩,
   ⟨2, .q .mv, [.const (.int .i64 0)], (some 5), none, [], false⟩])
 .ret))))))⟩
theorem low24 : lowFn Tryd.prog Tryd.f24 = some L24 := by kernel_rfl
theorem call24 {args : List Value} {H : Heap} {S : Ending → Heap → Prop} (hn : args.length ≤ L24.n) (h : awpC Tryd.prog L24.body (retQ L24.results S) (fun ch H => S (.panicked ch) H) (env0 args) H) : ACalls Tryd.prog 24 args.toArray H S := acalls mixed Tryd.func24 low24 hn h
/-- satchel/satchelref12.PutText -/
def L25_0 : LCode :=
 (.seq
 (.seq
 (.reg [⟨0, .q .mv, [.tmp 6], (some 15), none, [], false⟩,
   ⟨1, .q .mv, [.tmp 0], (some 16), none, [], false⟩,
   ⟨2, .q .lens, [.tmp 16], (some 17), none, [], false⟩,
   ⟨3, .q (.bin .lss), [.tmp 15, .tmp 17], (some 18), none, [], false⟩])
 (.cond (.tmp 18)
  .skip
  (.exit 0)))
 (.seq
 (.block 1
  (.seq
  (.reg [⟨0, .q .mv, [.tmp 0], (some 21), none, [], false⟩,
    ⟨1, .q .mv, [.tmp 6], (some 22), none, [], false⟩,
    ⟨2, .q .ixs, [.tmp 21, .tmp 22], (some 23), none, [], false⟩,
    ⟨3, .q (.bin .eql), [.tmp 23, .const (.int .u8 0)], (some 24), none, [], false⟩])
  (.cond (.tmp 24)
   (.seq
   (.reg [⟨0, .q .mv, [.const (.slice none 0 0)], (some 4), none, [], false⟩,
     ⟨1, .q .mv, [.const (.int .i64 1)], (some 5), none, [], false⟩])
   .ret)
   .skip)))
 (.reg [⟨0, .q .mv, [.tmp 6], (some 19), none, [], false⟩,
   ⟨1, .q (.bin .add), [.tmp 19, .const (.int .i64 1)], (some 20), none, [], false⟩,
   ⟨2, .q .mv, [.tmp 20], (some 6), none, [], false⟩])))
def L25_1 : LCode :=
 (.seq
 (.seq
 (.reg [⟨0, .q .mv, [.tmp 8], (some 31), none, [], false⟩,
   ⟨1, .q .mv, [.tmp 0], (some 32), none, [], false⟩,
   ⟨2, .q .lens, [.tmp 32], (some 33), none, [], false⟩,
   ⟨3, .q (.bin .lss), [.tmp 31, .tmp 33], (some 34), none, [], false⟩])
 (.cond (.tmp 34)
  .skip
  (.exit 2)))
 (.seq
 (.block 3
  (.reg [⟨0, .q .mv, [.tmp 7], (some 37), none, [], false⟩,
    ⟨1, .q .mv, [.tmp 8], (some 38), none, [], false⟩,
    ⟨2, .q .mv, [.tmp 0], (some 39), none, [], false⟩,
    ⟨3, .q .mv, [.tmp 8], (some 40), none, [], false⟩,
    ⟨4, .q .ixs, [.tmp 39, .tmp 40], (some 41), none, [], false⟩,
    ⟨5, .q (.iad 1), [.tmp 37, .tmp 38], (some 42), none, [], false⟩,
    ⟨6, .e (.st 1), [.tmp 42, .tmp 41], none, none, [], false⟩]))
 (.reg [⟨0, .q .mv, [.tmp 8], (some 35), none, [], false⟩,
   ⟨1, .q (.bin .add), [.tmp 35, .const (.int .i64 1)], (some 36), none, [], false⟩,
   ⟨2, .q .mv, [.tmp 36], (some 8), none, [], false⟩])))
def L25 : LFn :=
 ⟨44, [.t 4, .t 5],
 (.seq
 (.reg [⟨0, .q .mv, [.const (.slice none 0 0)], (some 4), none, [], false⟩,
   ⟨1, .q .mv, [.const (.int .i64 0)], (some 5), none, [], false⟩])
 (.seq
 (.seq
 (.reg [⟨0, .q .mv, [.tmp 1], (some 9), none, [], false⟩,
   ⟨1, .q (.bin .lss), [.tmp 9, .const (.int .i64 1)], (some 10), none, [], false⟩,
   ⟨2, .q .mv, [.tmp 10], (some 11), none, [], false⟩,
   ⟨3, .q .mv, [.tmp 1], (some 12), (some (11, false)), [], false⟩,
   ⟨4, .q (.bin .gtr), [.tmp 12, .const (.int .i64 512)], (some 13), (some (11, false)), [], false⟩,
   ⟨5, .q .pick, [.tmp 11, .const (.bool true), .tmp 13], (some 14), none, [], false⟩])
 (.cond (.tmp 14)
  (.seq
  (.reg [⟨0, .q .mv, [.const (.slice none 0 0)], (some 4), none, [], false⟩,
    ⟨1, .q .mv, [.const (.int .i64 1)], (some 5), none, [], false⟩])
  .ret)
  .skip))
 (.seq
 (.seq
 (.reg [⟨0, .q .mv, [.const (.int .i64 0)], (some 6), none, [], false⟩])
 (.block 0
  (.loop L25_0)))
 (.seq
 (.seq
 (.reg [⟨0, .q .mv, [.tmp 0], (some 25), none, [], false⟩,
   ⟨1, .q .lens, [.tmp 25], (some 26), none, [], false⟩,
   ⟨2, .q .mv, [.tmp 1], (some 27), none, [], false⟩,
   ⟨3, .q (.bin .gtr), [.tmp 26, .tmp 27], (some 28), none, [], false⟩])
 (.cond (.tmp 28)
  (.seq
  (.reg [⟨0, .q .mv, [.const (.slice none 0 0)], (some 4), none, [], false⟩,
    ⟨1, .q .mv, [.const (.int .i64 122)], (some 5), none, [], false⟩])
  .ret)
  .skip))
 (.seq
 (.reg [⟨0, .q .mv, [.tmp 1], (some 29), none, [], false⟩,
   ⟨1, .e (.mks 5 1 1 #[(.int .u8 0)]), [.tmp 29, .tmp 29], (some 30), none, [], false⟩,
   ⟨2, .q .mv, [.tmp 30], (some 7), none, [], false⟩])
 (.seq
 (.seq
 (.reg [⟨0, .q .mv, [.const (.int .i64 0)], (some 8), none, [], false⟩])
 (.block 2
  (.loop L25_1)))
 (.seq
 (.reg [⟨0, .q .mv, [.tmp 7], (some 43), none, [], false⟩,
   ⟨1, .q .mv, [.tmp 43], (some 4), none, [], false⟩,
   ⟨2, .q .mv, [.const (.int .i64 0)], (some 5), none, [], false⟩])
 .ret)))))))⟩
theorem low25 : lowFn Tryd.prog Tryd.f25 = some L25 := by kernel_rfl
theorem call25 {args : List Value} {H : Heap} {S : Ending → Heap → Prop} (hn : args.length ≤ L25.n) (h : awpC Tryd.prog L25.body (retQ L25.results S) (fun ch H => S (.panicked ch) H) (env0 args) H) : ACalls Tryd.prog 25 args.toArray H S := acalls mixed Tryd.func25 low25 hn h
/-- satchel/satchellaw12.same -/
def L26_0 : LCode :=
 (.seq
 (.seq
 (.reg [⟨0, .q .mv, [.tmp 10], (some 21), none, [], false⟩,
   ⟨1, .q .mv, [.tmp 0], (some 22), none, [], false⟩,
   ⟨2, .q .len, [.tmp 22], (some 23), none, [], false⟩,
   ⟨3, .q (.bin .lss), [.tmp 21, .tmp 23], (some 24), none, [], false⟩])
 (.cond (.tmp 24)
  .skip
  (.exit 0)))
 (.seq
 (.block 1
  (.reg [⟨0, .q .mv, [.tmp 0], (some 27), none, [], false⟩,
    ⟨1, .q .mv, [.tmp 10], (some 28), none, [], false⟩,
    ⟨2, .q (.iad 1), [.tmp 27, .tmp 28], (some 29), none, [], false⟩,
    ⟨3, .e (.st 1), [.tmp 29, .const (.int .u8 238)], none, none, [], false⟩]))
 (.reg [⟨0, .q .mv, [.tmp 10], (some 25), none, [], false⟩,
   ⟨1, .q (.bin .add), [.tmp 25, .const (.int .i64 1)], (some 26), none, [], false⟩,
   ⟨2, .q .mv, [.tmp 26], (some 10), none, [], false⟩])))
def L26_b0 : LCode :=
 (.seq
 (.seq
 (.reg [⟨0, .q .mv, [.const (.int .i64 0)], (some 10), none, [], false⟩])
 (.block 0
  (.loop L26_0)))
 (.seq
 (.reg [⟨0, .q .mv, [.tmp 0], (some 30), none, [], false⟩,
   ⟨1, .e (.lits 5 #[(.int .u8 0), (.int .u8 0)] 2 [(0, 1), (1, 1)]), [.const (.int .u8 221), .const (.int .u8 221)], (some 31), none, [], false⟩,
   ⟨2, .e (.app 5 1 1 #[(.int .u8 0)]), [.tmp 30, .tmp 31], (some 32), none, [], false⟩])
 (.seq
 (.reg [⟨0, .q .mv, [.tmp 9], (some 33), none, [], false⟩,
   ⟨1, .q .mv, [.tmp 33], (some 8), none, [], false⟩])
 .ret)))
def L26 : LFn :=
 ⟨34, [.t 8],
 (.seq
 (.reg [⟨0, .q .mv, [.const (.bool false)], (some 8), none, [], false⟩])
 (.seq
 (.reg [⟨0, .q .mv, [.tmp 0], (some 11), none, [], false⟩,
   ⟨1, .q .b2s, [.tmp 11], (some 12), none, [], false⟩,
   ⟨2, .q .mv, [.tmp 1], (some 13), none, [], false⟩,
   ⟨3, .q .b2s, [.tmp 13], (some 14), none, [], false⟩,
   ⟨4, .q (.bin .eql), [.tmp 12, .tmp 14], (some 15), none, [], false⟩,
   ⟨5, .q .mv, [.tmp 15], (some 16), none, [], false⟩,
   ⟨6, .q .mv, [.tmp 2], (some 17), (some (16, true)), [], false⟩,
   ⟨7, .q .mv, [.tmp 3], (some 18), (some (16, true)), [], false⟩,
   ⟨8, .q (.bin .eql), [.tmp 17, .tmp 18], (some 19), (some (16, true)), [], false⟩,
   ⟨9, .q .pick, [.tmp 16, .tmp 19, .const (.bool false)], (some 20), none, [], false⟩,
   ⟨10, .q .mv, [.tmp 20], (some 9), none, [], false⟩])
 L26_b0))⟩
theorem low26 : lowFn Tryd.prog Tryd.f26 = some L26 := by kernel_rfl
theorem call26 {args : List Value} {H : Heap} {S : Ending → Heap → Prop} (hn : args.length ≤ L26.n) (h : awpC Tryd.prog L26.body (retQ L26.results S) (fun ch H => S (.panicked ch) H) (env0 args) H) : ACalls Tryd.prog 26 args.toArray H S := acalls mixed Tryd.func26 low26 hn h
end Go.Proofs.YtigignkgblaoaaaDoor.Low
