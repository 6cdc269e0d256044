/-
  Functions in short (out of the program's form in Lean, by the kernel).
-/
import Derived.Test.YthflafgijfbpnaaDoorSepDfr
import Derived.Test.YthflafgijfbpnaaDoorProg
namespace Go.Proofs.YthflafgijfbpnaaDoor.Low
open Go Go.Proofs.YthflafgijfbpnaaDoor.Sep
theorem mixed : Tryd.prog.follows .mixedOrders = true := by kernel_rfl
/-- satchel/sparse.PutOld -/
def L16_0 : LCode :=
 (.seq
 (.seq
 (.reg [⟨0, .q .mv, [.tmp 1], (some 44), none, [], false⟩,
   ⟨1, .q .len, [.tmp 44], (some 45), none, [], false⟩,
   ⟨2, .q (.bin .gtr), [.tmp 45, .const (.int .i64 0)], (some 46), none, [], false⟩])
 (.cond (.tmp 46)
  .skip
  (.exit 0)))
 (.block 1
  (.seq
  (.reg [⟨0, .e (.new (Array.replicate 512 (.int .u8 0)) 36), [], (some 14), none, [], false⟩])
  (.seq
  (.seq
  (.reg [⟨0, .q .mv, [.tmp 1], (some 48), none, [], false⟩,
    ⟨1, .e (.call 30), [.tmp 14, .const (.int .i64 0), .const (.int .i64 21), .tmp 48], (some 49), none, [], false⟩,
    ⟨2, .q .mv, [.tmp 49], (some 47), none, [], false⟩,
    ⟨3, .q (.ext 0), [.tmp 47], (some 50), none, [], false⟩,
    ⟨4, .q (.ext 1), [.tmp 47], (some 51), none, [], false⟩,
    ⟨5, .q .mv, [.tmp 50], (some 1), none, [], false⟩,
    ⟨6, .q .mv, [.tmp 51], (some 10), none, [], false⟩])
  (.seq
  (.reg [⟨0, .q .mv, [.tmp 10], (some 52), none, [], false⟩,
    ⟨1, .q (.bin .neq), [.tmp 52, .const (.int .i64 0)], (some 53), none, [], false⟩])
  (.cond (.tmp 53)
   (.seq
   (.reg [⟨0, .q (.ldn 512), [.tmp 3], (some 54), none, [], false⟩,
     ⟨1, .e (.st 512), [.tmp 6, .tmp 54], none, none, [], false⟩,
     ⟨2, .q .mv, [.const (.slice none 0 0)], (some 7), none, [], false⟩,
     ⟨3, .q .mv, [.const (.int .i64 133)], (some 8), none, [], false⟩])
   .ret)
   .skip)))
  (.seq
  (.reg [⟨0, .q .mv, [.tmp 1], (some 55), none, [], false⟩,
    ⟨1, .e (.call 32), [.tmp 55], (some 56), none, [], false⟩,
    ⟨2, .q (.iada 512 1), [.tmp 14, .const (.int .i64 504)], (some 57), none, [], false⟩,
    ⟨3, .e (.st 1), [.tmp 57, .tmp 56], none, none, [], false⟩])
  (.reg [⟨0, .q .mv, [.tmp 13], (some 58), none, [], false⟩,
    ⟨1, .q (.ldn 512), [.tmp 14], (some 59), none, [], false⟩,
    ⟨2, .e (.lits 36 (Array.replicate 512 (.int .u8 0)) 1 [(0, 512)]), [.tmp 59], (some 60), none, [], false⟩,
    ⟨3, .e (.app 36 512 512 (Array.replicate 512 (.int .u8 0))), [.tmp 58, .tmp 60], (some 61), none, [], false⟩,
    ⟨4, .q .mv, [.tmp 61], (some 13), none, [], false⟩]))))))
def L16 : LFn :=
 ⟨64, [.c 6 (some 512), .t 7, .t 8],
 (.seq
 (.reg [⟨0, .e (.box 36), [.tmp 0], (some 3), none, [], false⟩,
   ⟨1, .e (.new (Array.replicate 512 (.int .u8 0)) 36), [], (some 6), none, [], false⟩,
   ⟨2, .q .mv, [.const (.slice none 0 0)], (some 7), none, [], false⟩,
   ⟨3, .q .mv, [.const (.int .i64 0)], (some 8), none, [], false⟩])
 (.seq
 (.seq
 (.reg [⟨0, .q .mv, [.tmp 1], (some 15), none, [], false⟩,
   ⟨1, .q .mv, [.tmp 2], (some 16), none, [], false⟩,
   ⟨2, .e (.call 23), [.tmp 15, .tmp 16], (some 17), none, [], false⟩,
   ⟨3, .q (.un .not), [.tmp 17], (some 18), none, [], false⟩])
 (.cond (.tmp 18)
  (.seq
  (.reg [⟨0, .q (.ldn 512), [.tmp 3], (some 19), none, [], false⟩,
    ⟨1, .e (.st 512), [.tmp 6, .tmp 19], none, none, [], false⟩,
    ⟨2, .q .mv, [.const (.slice none 0 0)], (some 7), none, [], false⟩,
    ⟨3, .q .mv, [.const (.int .i64 1)], (some 8), none, [], false⟩])
  .ret)
  .skip))
 (.seq
 (.reg [⟨0, .q (.ldn 512), [.tmp 3], (some 20), none, [], false⟩,
   ⟨1, .e (.new (Array.replicate 512 (.int .u8 0)) 36), [], (some 9), none, [], false⟩,
   ⟨2, .e (.st 512), [.tmp 9, .tmp 20], none, none, [], false⟩])
 (.seq
 (.reg [⟨0, .q .mv, [.tmp 1], (some 22), none, [], false⟩,
   ⟨1, .e (.call 30), [.tmp 9, .const (.int .i64 386), .const (.int .i64 4), .tmp 22], (some 23), none, [], false⟩,
   ⟨2, .q .mv, [.tmp 23], (some 21), none, [], false⟩,
   ⟨3, .q (.ext 0), [.tmp 21], (some 24), none, [], false⟩,
   ⟨4, .q (.ext 1), [.tmp 21], (some 25), none, [], false⟩,
   ⟨5, .q .mv, [.tmp 24], (some 1), none, [], false⟩,
   ⟨6, .q .mv, [.tmp 25], (some 10), none, [], false⟩])
 (.seq
 (.reg [⟨0, .q .mv, [.tmp 2], (some 27), none, [], false⟩,
   ⟨1, .e (.call 31), [.tmp 27, .const (.int .i64 12)], (some 28), none, [], false⟩,
   ⟨2, .q .mv, [.tmp 28], (some 26), none, [], false⟩,
   ⟨3, .q (.ext 0), [.tmp 26], (some 29), none, [], false⟩,
   ⟨4, .q (.ext 1), [.tmp 26], (some 30), none, [], false⟩,
   ⟨5, .q .mv, [.tmp 29], (some 11), none, [], false⟩,
   ⟨6, .q .mv, [.tmp 30], (some 12), none, [], false⟩])
 (.seq
 (.seq
 (.reg [⟨0, .q .mv, [.tmp 10], (some 31), none, [], false⟩,
   ⟨1, .q (.bin .neq), [.tmp 31, .const (.int .i64 0)], (some 32), none, [], false⟩,
   ⟨2, .q .mv, [.tmp 32], (some 33), none, [], false⟩,
   ⟨3, .q .mv, [.tmp 12], (some 34), (some (33, false)), [], false⟩,
   ⟨4, .q (.bin .neq), [.tmp 34, .const (.int .i64 0)], (some 35), (some (33, false)), [], false⟩,
   ⟨5, .q .pick, [.tmp 33, .const (.bool true), .tmp 35], (some 36), none, [], false⟩])
 (.cond (.tmp 36)
  (.seq
  (.reg [⟨0, .q (.ldn 512), [.tmp 3], (some 37), none, [], false⟩,
    ⟨1, .e (.st 512), [.tmp 6, .tmp 37], none, none, [], false⟩,
    ⟨2, .q .mv, [.const (.slice none 0 0)], (some 7), none, [], false⟩,
    ⟨3, .q .mv, [.const (.int .i64 133)], (some 8), none, [], false⟩])
  .ret)
  .skip))
 (.seq
 (.reg [⟨0, .q .mv, [.tmp 1], (some 38), none, [], false⟩,
   ⟨1, .e (.call 32), [.tmp 38], (some 39), none, [], false⟩,
   ⟨2, .q (.iada 512 1), [.tmp 9, .const (.int .i64 482)], (some 40), none, [], false⟩,
   ⟨3, .e (.st 1), [.tmp 40, .tmp 39], none, none, [], false⟩])
 (.seq
 (.reg [⟨0, .q (.sla 512 1 true true), [.tmp 9, .const (.int .i64 483), .const (.int .i64 495)], (some 41), none, [], false⟩,
   ⟨1, .q .mv, [.tmp 11], (some 42), none, [], false⟩,
   ⟨2, .e (.copy 1), [.tmp 41, .tmp 42], (some 43), none, [], false⟩])
 (.seq
 (.reg [⟨0, .q .mv, [.const (.slice none 0 0)], (some 13), none, [], false⟩])
 (.seq
 (.block 0
  (.loop L16_0))
 (.seq
 (.reg [⟨0, .q (.ldn 512), [.tmp 9], (some 62), none, [], false⟩,
   ⟨1, .q .mv, [.tmp 13], (some 63), none, [], false⟩,
   ⟨2, .e (.st 512), [.tmp 6, .tmp 62], none, none, [], false⟩,
   ⟨3, .q .mv, [.tmp 63], (some 7), none, [], false⟩,
   ⟨4, .q .mv, [.const (.int .i64 0)], (some 8), none, [], false⟩])
 .ret)))))))))))⟩
theorem low16 : lowFn Tryd.prog Tryd.f16 = some L16 := by kernel_rfl
theorem call16 {args : List Value} {H : Heap} {S : Ending → Heap → Prop} (hn : args.length ≤ L16.n) (h : awpC Tryd.prog L16.body (retQ L16.results S) (fun ch H => S (.panicked ch) H) (env0 args) H) : ACalls Tryd.prog 16 args.toArray H S := acalls mixed Tryd.func16 low16 hn h
/-- satchel/satchelref15.PutOld -/
def L18_0 : LCode :=
 (.reg [⟨0, .q .mv, [.tmp 13], (some 68), none, [], false⟩,
   ⟨1, .q (.ldn 512), [.tmp 14], (some 69), none, [], false⟩,
   ⟨2, .e (.lits 36 (Array.replicate 512 (.int .u8 0)) 1 [(0, 512)]), [.tmp 69], (some 70), none, [], false⟩,
   ⟨3, .e (.app 36 512 512 (Array.replicate 512 (.int .u8 0))), [.tmp 68, .tmp 70], (some 71), none, [], false⟩,
   ⟨4, .q .mv, [.tmp 71], (some 13), none, [], false⟩])
def L18_1 : LCode :=
 (.seq
 (.seq
 (.reg [⟨0, .q .mv, [.tmp 11], (some 49), none, [], false⟩,
   ⟨1, .q .len, [.tmp 49], (some 50), none, [], false⟩,
   ⟨2, .q (.bin .gtr), [.tmp 50, .const (.int .i64 0)], (some 51), none, [], false⟩])
 (.cond (.tmp 51)
  .skip
  (.exit 0)))
 (.block 1
  (.seq
  (.reg [⟨0, .q (.build (Array.replicate 512 (.int .u8 0)) []), [], (some 53), none, [], false⟩,
    ⟨1, .q .mv, [.tmp 11], (some 54), none, [], false⟩,
    ⟨2, .e (.call 33), [.tmp 53, .const (.int .i64 0), .const (.int .i64 21), .tmp 54], (some 55), none, [], false⟩,
    ⟨3, .q .mv, [.tmp 55], (some 52), none, [], false⟩,
    ⟨4, .q (.ext 0), [.tmp 52], (some 56), none, [], false⟩,
    ⟨5, .q (.ext 1), [.tmp 52], (some 57), none, [], false⟩,
    ⟨6, .e (.new (Array.replicate 512 (.int .u8 0)) 36), [], (some 14), none, [], false⟩,
    ⟨7, .e (.st 512), [.tmp 14, .tmp 56], none, none, [], false⟩,
    ⟨8, .q .mv, [.tmp 57], (some 15), none, [], false⟩])
  (.seq
  (.reg [⟨0, .q .mv, [.tmp 10], (some 58), none, [], false⟩,
    ⟨1, .q .mv, [.tmp 58], (some 59), none, [], false⟩,
    ⟨2, .q .mv, [.tmp 15], (some 60), (some (59, true)), [], false⟩,
    ⟨3, .q .pick, [.tmp 59, .tmp 60, .const (.bool false)], (some 61), none, [], false⟩,
    ⟨4, .q .mv, [.tmp 61], (some 10), none, [], false⟩])
  (.seq
  (.seq
  (.reg [⟨0, .q .mv, [.tmp 11], (some 62), none, [], false⟩,
    ⟨1, .q .len, [.tmp 62], (some 63), none, [], false⟩,
    ⟨2, .q (.bin .gtr), [.tmp 63, .const (.int .i64 21)], (some 64), none, [], false⟩])
  (.cond (.tmp 64)
   (.seq
   (.reg [⟨0, .q (.iada 512 1), [.tmp 14, .const (.int .i64 504)], (some 65), none, [], false⟩,
     ⟨1, .e (.st 1), [.tmp 65, .const (.int .u8 1)], none, none, [], false⟩])
   (.reg [⟨0, .q .mv, [.tmp 11], (some 66), none, [], false⟩,
     ⟨1, .q (.slc 2 true false false), [.tmp 66, .const (.int .i64 21)], (some 67), none, [], false⟩,
     ⟨2, .q .mv, [.tmp 67], (some 11), none, [], false⟩]))
   (.reg [⟨0, .q .mv, [.const (.slice none 0 0)], (some 11), none, [], false⟩])))
  L18_0)))))
def L18_2 : LCode :=
 (.seq
 (.reg [⟨0, .q (.ldn 512), [.tmp 9], (some 39), none, [], false⟩,
   ⟨1, .q .mv, [.tmp 2], (some 40), none, [], false⟩,
   ⟨2, .e (.call 34), [.tmp 39, .const (.int .i64 483), .tmp 40], (some 41), none, [], false⟩,
   ⟨3, .q .mv, [.tmp 41], (some 38), none, [], false⟩,
   ⟨4, .q (.ext 0), [.tmp 38], (some 42), none, [], false⟩,
   ⟨5, .q (.ext 1), [.tmp 38], (some 43), none, [], false⟩,
   ⟨6, .e (.st 512), [.tmp 9, .tmp 42], none, none, [], false⟩,
   ⟨7, .q .mv, [.tmp 43], (some 12), none, [], false⟩])
 (.seq
 (.reg [⟨0, .q .mv, [.tmp 10], (some 44), none, [], false⟩,
   ⟨1, .q .mv, [.tmp 44], (some 45), none, [], false⟩,
   ⟨2, .q .mv, [.tmp 12], (some 46), (some (45, true)), [], false⟩,
   ⟨3, .q .pick, [.tmp 45, .tmp 46, .const (.bool false)], (some 47), none, [], false⟩,
   ⟨4, .q .mv, [.tmp 47], (some 10), none, [], false⟩])
 (.seq
 (.reg [⟨0, .e (.lits 36 #[] 0 []), [], (some 48), none, [], false⟩,
   ⟨1, .q .mv, [.tmp 48], (some 13), none, [], false⟩])
 (.seq
 (.block 0
  (.loop L18_1))
 (.seq
 (.seq
 (.reg [⟨0, .q .mv, [.tmp 10], (some 72), none, [], false⟩,
   ⟨1, .q (.un .not), [.tmp 72], (some 73), none, [], false⟩])
 (.cond (.tmp 73)
  (.seq
  (.reg [⟨0, .q (.ldn 512), [.tmp 3], (some 74), none, [], false⟩,
    ⟨1, .e (.st 512), [.tmp 6, .tmp 74], none, none, [], false⟩,
    ⟨2, .q .mv, [.const (.slice none 0 0)], (some 7), none, [], false⟩,
    ⟨3, .q .mv, [.const (.int .i64 133)], (some 8), none, [], false⟩])
  .ret)
  .skip))
 (.seq
 (.reg [⟨0, .q (.ldn 512), [.tmp 9], (some 75), none, [], false⟩,
   ⟨1, .q .mv, [.tmp 13], (some 76), none, [], false⟩,
   ⟨2, .e (.st 512), [.tmp 6, .tmp 75], none, none, [], false⟩,
   ⟨3, .q .mv, [.tmp 76], (some 7), none, [], false⟩,
   ⟨4, .q .mv, [.const (.int .i64 0)], (some 8), none, [], false⟩])
 .ret))))))
def L18_3 : LCode :=
 (.seq
 (.reg [⟨0, .q (.iada 512 1), [.tmp 9, .const (.int .i64 482)], (some 33), none, [], false⟩,
   ⟨1, .e (.st 1), [.tmp 33, .const (.int .u8 0)], none, none, [], false⟩])
 (.seq
 (.seq
 (.reg [⟨0, .q .mv, [.tmp 11], (some 34), none, [], false⟩,
   ⟨1, .q .len, [.tmp 34], (some 35), none, [], false⟩,
   ⟨2, .q (.bin .gtr), [.tmp 35, .const (.int .i64 0)], (some 36), none, [], false⟩])
 (.cond (.tmp 36)
  (.reg [⟨0, .q (.iada 512 1), [.tmp 9, .const (.int .i64 482)], (some 37), none, [], false⟩,
    ⟨1, .e (.st 1), [.tmp 37, .const (.int .u8 1)], none, none, [], false⟩])
  .skip))
 L18_2))
def L18 : LFn :=
 ⟨77, [.c 6 (some 512), .t 7, .t 8],
 (.seq
 (.reg [⟨0, .e (.box 36), [.tmp 0], (some 3), none, [], false⟩,
   ⟨1, .e (.new (Array.replicate 512 (.int .u8 0)) 36), [], (some 6), none, [], false⟩,
   ⟨2, .q .mv, [.const (.slice none 0 0)], (some 7), none, [], false⟩,
   ⟨3, .q .mv, [.const (.int .i64 0)], (some 8), none, [], false⟩])
 (.seq
 (.seq
 (.reg [⟨0, .q .mv, [.tmp 1], (some 16), none, [], false⟩,
   ⟨1, .q .mv, [.tmp 2], (some 17), none, [], false⟩,
   ⟨2, .e (.call 26), [.tmp 16, .tmp 17], (some 18), none, [], false⟩,
   ⟨3, .q (.un .not), [.tmp 18], (some 19), none, [], false⟩])
 (.cond (.tmp 19)
  (.seq
  (.reg [⟨0, .q (.ldn 512), [.tmp 3], (some 20), none, [], false⟩,
    ⟨1, .e (.st 512), [.tmp 6, .tmp 20], none, none, [], false⟩,
    ⟨2, .q .mv, [.const (.slice none 0 0)], (some 7), none, [], false⟩,
    ⟨3, .q .mv, [.const (.int .i64 1)], (some 8), none, [], false⟩])
  .ret)
  .skip))
 (.seq
 (.reg [⟨0, .q (.ldn 512), [.tmp 3], (some 22), none, [], false⟩,
   ⟨1, .q .mv, [.tmp 1], (some 23), none, [], false⟩,
   ⟨2, .e (.call 33), [.tmp 22, .const (.int .i64 386), .const (.int .i64 4), .tmp 23], (some 24), none, [], false⟩,
   ⟨3, .q .mv, [.tmp 24], (some 21), none, [], false⟩,
   ⟨4, .q (.ext 0), [.tmp 21], (some 25), none, [], false⟩,
   ⟨5, .q (.ext 1), [.tmp 21], (some 26), none, [], false⟩,
   ⟨6, .e (.new (Array.replicate 512 (.int .u8 0)) 36), [], (some 9), none, [], false⟩,
   ⟨7, .e (.st 512), [.tmp 9, .tmp 25], none, none, [], false⟩,
   ⟨8, .q .mv, [.tmp 26], (some 10), none, [], false⟩])
 (.seq
 (.reg [⟨0, .e (.lits 51 #[] 0 []), [], (some 27), none, [], false⟩,
   ⟨1, .q .mv, [.tmp 27], (some 11), none, [], false⟩])
 (.seq
 (.seq
 (.reg [⟨0, .q .mv, [.tmp 1], (some 28), none, [], false⟩,
   ⟨1, .q .len, [.tmp 28], (some 29), none, [], false⟩,
   ⟨2, .q (.bin .gtr), [.tmp 29, .const (.int .i64 4)], (some 30), none, [], false⟩])
 (.cond (.tmp 30)
  (.reg [⟨0, .q .mv, [.tmp 1], (some 31), none, [], false⟩,
    ⟨1, .q (.slc 2 true false false), [.tmp 31, .const (.int .i64 4)], (some 32), none, [], false⟩,
    ⟨2, .q .mv, [.tmp 32], (some 11), none, [], false⟩])
  .skip))
 L18_3)))))⟩
theorem low18 : lowFn Tryd.prog Tryd.f18 = some L18 := by kernel_rfl
theorem call18 {args : List Value} {H : Heap} {S : Ending → Heap → Prop} (hn : args.length ≤ L18.n) (h : awpC Tryd.prog L18.body (retQ L18.results S) (fun ch H => S (.panicked ch) H) (env0 args) H) : ACalls Tryd.prog 18 args.toArray H S := acalls mixed Tryd.func18 low18 hn h
/-- satchel/sparse.ReadOld -/
def L19 : LFn :=
 ⟨29, [.t 2, .t 3, .t 4, .t 5],
 (.seq
 (.reg [⟨0, .e (.box 36), [.tmp 0], (some 1), none, [], false⟩,
   ⟨1, .q .mv, [.const (.slice none 0 0)], (some 2), none, [], false⟩,
   ⟨2, .q .mv, [.const (.int .i64 0)], (some 3), none, [], false⟩,
   ⟨3, .q .mv, [.const (.bool false)], (some 4), none, [], false⟩,
   ⟨4, .q .mv, [.const (.int .i64 0)], (some 5), none, [], false⟩])
 (.seq
 (.reg [⟨0, .e (.call 35), [.tmp 1, .const (.int .i64 386), .const (.int .i64 4)], (some 10), none, [], false⟩,
   ⟨1, .q .mv, [.tmp 10], (some 9), none, [], false⟩,
   ⟨2, .q (.ext 0), [.tmp 9], (some 11), none, [], false⟩,
   ⟨3, .q (.ext 1), [.tmp 9], (some 12), none, [], false⟩,
   ⟨4, .q .mv, [.tmp 11], (some 6), none, [], false⟩,
   ⟨5, .q .mv, [.tmp 12], (some 7), none, [], false⟩])
 (.seq
 (.seq
 (.reg [⟨0, .q .mv, [.tmp 7], (some 13), none, [], false⟩,
   ⟨1, .q (.bin .neq), [.tmp 13, .const (.int .i64 0)], (some 14), none, [], false⟩])
 (.cond (.tmp 14)
  (.seq
  (.reg [⟨0, .q .mv, [.tmp 7], (some 15), none, [], false⟩,
    ⟨1, .q .mv, [.const (.slice none 0 0)], (some 2), none, [], false⟩,
    ⟨2, .q .mv, [.const (.int .i64 0)], (some 3), none, [], false⟩,
    ⟨3, .q .mv, [.const (.bool false)], (some 4), none, [], false⟩,
    ⟨4, .q .mv, [.tmp 15], (some 5), none, [], false⟩])
  .ret)
  .skip))
 (.seq
 (.reg [⟨0, .q (.sla 512 1 true true), [.tmp 1, .const (.int .i64 483), .const (.int .i64 495)], (some 17), none, [], false⟩,
   ⟨1, .e (.call 36), [.tmp 17], (some 18), none, [], false⟩,
   ⟨2, .q .mv, [.tmp 18], (some 16), none, [], false⟩,
   ⟨3, .q (.ext 0), [.tmp 16], (some 19), none, [], false⟩,
   ⟨4, .q (.ext 1), [.tmp 16], (some 20), none, [], false⟩,
   ⟨5, .q .mv, [.tmp 19], (some 8), none, [], false⟩,
   ⟨6, .q .mv, [.tmp 20], (some 7), none, [], false⟩])
 (.seq
 (.seq
 (.reg [⟨0, .q .mv, [.tmp 7], (some 21), none, [], false⟩,
   ⟨1, .q (.bin .neq), [.tmp 21, .const (.int .i64 0)], (some 22), none, [], false⟩])
 (.cond (.tmp 22)
  (.seq
  (.reg [⟨0, .q .mv, [.tmp 7], (some 23), none, [], false⟩,
    ⟨1, .q .mv, [.const (.slice none 0 0)], (some 2), none, [], false⟩,
    ⟨2, .q .mv, [.const (.int .i64 0)], (some 3), none, [], false⟩,
    ⟨3, .q .mv, [.const (.bool false)], (some 4), none, [], false⟩,
    ⟨4, .q .mv, [.tmp 23], (some 5), none, [], false⟩])
  .ret)
  .skip))
 (.seq
 (.reg [⟨0, .q .mv, [.tmp 6], (some 24), none, [], false⟩,
   ⟨1, .q .mv, [.tmp 8], (some 25), none, [], false⟩,
   ⟨2, .q (.iada 512 1), [.tmp 1, .const (.int .i64 482)], (some 26), none, [], false⟩,
   ⟨3, .q .ld, [.tmp 26], (some 27), none, [], false⟩,
   ⟨4, .q (.bin .neq), [.tmp 27, .const (.int .u8 0)], (some 28), none, [], false⟩,
   ⟨5, .q .mv, [.tmp 24], (some 2), none, [], false⟩,
   ⟨6, .q .mv, [.tmp 25], (some 3), none, [], false⟩,
   ⟨7, .q .mv, [.tmp 28], (some 4), none, [], false⟩,
   ⟨8, .q .mv, [.const (.int .i64 0)], (some 5), none, [], false⟩])
 .ret))))))⟩
theorem low19 : lowFn Tryd.prog Tryd.f19 = some L19 := by kernel_rfl
theorem call19 {args : List Value} {H : Heap} {S : Ending → Heap → Prop} (hn : args.length ≤ L19.n) (h : awpC Tryd.prog L19.body (retQ L19.results S) (fun ch H => S (.panicked ch) H) (env0 args) H) : ACalls Tryd.prog 19 args.toArray H S := acalls mixed Tryd.func19 low19 hn h
/-- satchel/satchelref15.ReadOld -/
def L20 : LFn :=
 ⟨30, [.t 2, .t 3, .t 4, .t 5],
 (.seq
 (.reg [⟨0, .e (.box 36), [.tmp 0], (some 1), none, [], false⟩,
   ⟨1, .q .mv, [.const (.slice none 0 0)], (some 2), none, [], false⟩,
   ⟨2, .q .mv, [.const (.int .i64 0)], (some 3), none, [], false⟩,
   ⟨3, .q .mv, [.const (.bool false)], (some 4), none, [], false⟩,
   ⟨4, .q .mv, [.const (.int .i64 0)], (some 5), none, [], false⟩])
 (.seq
 (.reg [⟨0, .q (.ldn 512), [.tmp 1], (some 10), none, [], false⟩,
   ⟨1, .e (.call 37), [.tmp 10, .const (.int .i64 386), .const (.int .i64 4)], (some 11), none, [], false⟩,
   ⟨2, .q .mv, [.tmp 11], (some 9), none, [], false⟩,
   ⟨3, .q (.ext 0), [.tmp 9], (some 12), none, [], false⟩,
   ⟨4, .q (.ext 1), [.tmp 9], (some 13), none, [], false⟩,
   ⟨5, .q .mv, [.tmp 12], (some 6), none, [], false⟩,
   ⟨6, .q .mv, [.tmp 13], (some 7), none, [], false⟩])
 (.seq
 (.seq
 (.reg [⟨0, .q .mv, [.tmp 7], (some 14), none, [], false⟩,
   ⟨1, .q (.bin .neq), [.tmp 14, .const (.int .i64 0)], (some 15), none, [], false⟩])
 (.cond (.tmp 15)
  (.seq
  (.reg [⟨0, .q .mv, [.tmp 7], (some 16), none, [], false⟩,
    ⟨1, .q .mv, [.const (.slice none 0 0)], (some 2), none, [], false⟩,
    ⟨2, .q .mv, [.const (.int .i64 0)], (some 3), none, [], false⟩,
    ⟨3, .q .mv, [.const (.bool false)], (some 4), none, [], false⟩,
    ⟨4, .q .mv, [.tmp 16], (some 5), none, [], false⟩])
  .ret)
  .skip))
 (.seq
 (.reg [⟨0, .q (.ldn 512), [.tmp 1], (some 18), none, [], false⟩,
   ⟨1, .e (.call 38), [.tmp 18, .const (.int .i64 483)], (some 19), none, [], false⟩,
   ⟨2, .q .mv, [.tmp 19], (some 17), none, [], false⟩,
   ⟨3, .q (.ext 0), [.tmp 17], (some 20), none, [], false⟩,
   ⟨4, .q (.ext 1), [.tmp 17], (some 21), none, [], false⟩,
   ⟨5, .q .mv, [.tmp 20], (some 8), none, [], false⟩,
   ⟨6, .q .mv, [.tmp 21], (some 7), none, [], false⟩])
 (.seq
 (.seq
 (.reg [⟨0, .q .mv, [.tmp 7], (some 22), none, [], false⟩,
   ⟨1, .q (.bin .neq), [.tmp 22, .const (.int .i64 0)], (some 23), none, [], false⟩])
 (.cond (.tmp 23)
  (.seq
  (.reg [⟨0, .q .mv, [.tmp 7], (some 24), none, [], false⟩,
    ⟨1, .q .mv, [.const (.slice none 0 0)], (some 2), none, [], false⟩,
    ⟨2, .q .mv, [.const (.int .i64 0)], (some 3), none, [], false⟩,
    ⟨3, .q .mv, [.const (.bool false)], (some 4), none, [], false⟩,
    ⟨4, .q .mv, [.tmp 24], (some 5), none, [], false⟩])
  .ret)
  .skip))
 (.seq
 (.reg [⟨0, .q .mv, [.tmp 6], (some 25), none, [], false⟩,
   ⟨1, .q .mv, [.tmp 8], (some 26), none, [], false⟩,
   ⟨2, .q (.iada 512 1), [.tmp 1, .const (.int .i64 482)], (some 27), none, [], false⟩,
   ⟨3, .q .ld, [.tmp 27], (some 28), none, [], false⟩,
   ⟨4, .q (.bin .neq), [.tmp 28, .const (.int .u8 0)], (some 29), none, [], false⟩,
   ⟨5, .q .mv, [.tmp 25], (some 2), none, [], false⟩,
   ⟨6, .q .mv, [.tmp 26], (some 3), none, [], false⟩,
   ⟨7, .q .mv, [.tmp 29], (some 4), none, [], false⟩,
   ⟨8, .q .mv, [.const (.int .i64 0)], (some 5), none, [], false⟩])
 .ret))))))⟩
theorem low20 : lowFn Tryd.prog Tryd.f20 = some L20 := by kernel_rfl
theorem call20 {args : List Value} {H : Heap} {S : Ending → Heap → Prop} (hn : args.length ≤ L20.n) (h : awpC Tryd.prog L20.body (retQ L20.results S) (fun ch H => S (.panicked ch) H) (env0 args) H) : ACalls Tryd.prog 20 args.toArray H S := acalls mixed Tryd.func20 low20 hn h
/-- satchel/sparse.ReadMore -/
def L21 : LFn :=
 ⟨18, [.t 2, .t 3, .t 4],
 (.seq
 (.reg [⟨0, .e (.box 36), [.tmp 0], (some 1), none, [], false⟩,
   ⟨1, .q .mv, [.const (.slice none 0 0)], (some 2), none, [], false⟩,
   ⟨2, .q .mv, [.const (.bool false)], (some 3), none, [], false⟩,
   ⟨3, .q .mv, [.const (.int .i64 0)], (some 4), none, [], false⟩])
 (.seq
 (.reg [⟨0, .e (.call 35), [.tmp 1, .const (.int .i64 0), .const (.int .i64 21)], (some 8), none, [], false⟩,
   ⟨1, .q .mv, [.tmp 8], (some 7), none, [], false⟩,
   ⟨2, .q (.ext 0), [.tmp 7], (some 9), none, [], false⟩,
   ⟨3, .q (.ext 1), [.tmp 7], (some 10), none, [], false⟩,
   ⟨4, .q .mv, [.tmp 9], (some 5), none, [], false⟩,
   ⟨5, .q .mv, [.tmp 10], (some 6), none, [], false⟩])
 (.seq
 (.seq
 (.reg [⟨0, .q .mv, [.tmp 6], (some 11), none, [], false⟩,
   ⟨1, .q (.bin .neq), [.tmp 11, .const (.int .i64 0)], (some 12), none, [], false⟩])
 (.cond (.tmp 12)
  (.seq
  (.reg [⟨0, .q .mv, [.tmp 6], (some 13), none, [], false⟩,
    ⟨1, .q .mv, [.const (.slice none 0 0)], (some 2), none, [], false⟩,
    ⟨2, .q .mv, [.const (.bool false)], (some 3), none, [], false⟩,
    ⟨3, .q .mv, [.tmp 13], (some 4), none, [], false⟩])
  .ret)
  .skip))
 (.seq
 (.reg [⟨0, .q .mv, [.tmp 5], (some 14), none, [], false⟩,
   ⟨1, .q (.iada 512 1), [.tmp 1, .const (.int .i64 504)], (some 15), none, [], false⟩,
   ⟨2, .q .ld, [.tmp 15], (some 16), none, [], false⟩,
   ⟨3, .q (.bin .neq), [.tmp 16, .const (.int .u8 0)], (some 17), none, [], false⟩,
   ⟨4, .q .mv, [.tmp 14], (some 2), none, [], false⟩,
   ⟨5, .q .mv, [.tmp 17], (some 3), none, [], false⟩,
   ⟨6, .q .mv, [.const (.int .i64 0)], (some 4), none, [], false⟩])
 .ret))))⟩
theorem low21 : lowFn Tryd.prog Tryd.f21 = some L21 := by kernel_rfl
theorem call21 {args : List Value} {H : Heap} {S : Ending → Heap → Prop} (hn : args.length ≤ L21.n) (h : awpC Tryd.prog L21.body (retQ L21.results S) (fun ch H => S (.panicked ch) H) (env0 args) H) : ACalls Tryd.prog 21 args.toArray H S := acalls mixed Tryd.func21 low21 hn h
/-- satchel/satchelref15.ReadMore -/
def L22 : LFn :=
 ⟨19, [.t 2, .t 3, .t 4],
 (.seq
 (.reg [⟨0, .e (.box 36), [.tmp 0], (some 1), none, [], false⟩,
   ⟨1, .q .mv, [.const (.slice none 0 0)], (some 2), none, [], false⟩,
   ⟨2, .q .mv, [.const (.bool false)], (some 3), none, [], false⟩,
   ⟨3, .q .mv, [.const (.int .i64 0)], (some 4), none, [], false⟩])
 (.seq
 (.reg [⟨0, .q (.ldn 512), [.tmp 1], (some 8), none, [], false⟩,
   ⟨1, .e (.call 37), [.tmp 8, .const (.int .i64 0), .const (.int .i64 21)], (some 9), none, [], false⟩,
   ⟨2, .q .mv, [.tmp 9], (some 7), none, [], false⟩,
   ⟨3, .q (.ext 0), [.tmp 7], (some 10), none, [], false⟩,
   ⟨4, .q (.ext 1), [.tmp 7], (some 11), none, [], false⟩,
   ⟨5, .q .mv, [.tmp 10], (some 5), none, [], false⟩,
   ⟨6, .q .mv, [.tmp 11], (some 6), none, [], false⟩])
 (.seq
 (.seq
 (.reg [⟨0, .q .mv, [.tmp 6], (some 12), none, [], false⟩,
   ⟨1, .q (.bin .neq), [.tmp 12, .const (.int .i64 0)], (some 13), none, [], false⟩])
 (.cond (.tmp 13)
  (.seq
  (.reg [⟨0, .q .mv, [.tmp 6], (some 14), none, [], false⟩,
    ⟨1, .q .mv, [.const (.slice none 0 0)], (some 2), none, [], false⟩,
    ⟨2, .q .mv, [.const (.bool false)], (some 3), none, [], false⟩,
    ⟨3, .q .mv, [.tmp 14], (some 4), none, [], false⟩])
  .ret)
  .skip))
 (.seq
 (.reg [⟨0, .q .mv, [.tmp 5], (some 15), none, [], false⟩,
   ⟨1, .q (.iada 512 1), [.tmp 1, .const (.int .i64 504)], (some 16), none, [], false⟩,
   ⟨2, .q .ld, [.tmp 16], (some 17), none, [], false⟩,
   ⟨3, .q (.bin .neq), [.tmp 17, .const (.int .u8 0)], (some 18), none, [], false⟩,
   ⟨4, .q .mv, [.tmp 15], (some 2), none, [], false⟩,
   ⟨5, .q .mv, [.tmp 18], (some 3), none, [], false⟩,
   ⟨6, .q .mv, [.const (.int .i64 0)], (some 4), none, [], false⟩])
 .ret))))⟩
theorem low22 : lowFn Tryd.prog Tryd.f22 = some L22 := by kernel_rfl
theorem call22 {args : List Value} {H : Heap} {S : Ending → Heap → Prop} (hn : args.length ≤ L22.n) (h : awpC Tryd.prog L22.body (retQ L22.results S) (fun ch H => S (.panicked ch) H) (env0 args) H) : ACalls Tryd.prog 22 args.toArray H S := acalls mixed Tryd.func22 low22 hn h
/-- satchel/sparse.put -/
def L30_0 : LCode :=
 (.seq
 (.reg [⟨0, .q (.bin .lss), [.tmp 17, .tmp 16], (some 18), none, [], false⟩])
 (.seq
 (.cond (.tmp 18)
  .skip
  (.exit 0))
 (.seq
 (.block 1
  (.seq
  (.reg [⟨0, .q .mv, [.tmp 17], (some 19), none, [], false⟩,
    ⟨1, .q .mv, [.tmp 19], (some 10), none, [], false⟩])
  (.seq
  (.reg [⟨0, .q .mv, [.tmp 0], (some 20), none, [], false⟩,
    ⟨1, .q .nilc, [.tmp 20], (some 21), none, [], false⟩,
    ⟨2, .q .mv, [.tmp 1], (some 22), none, [], false⟩,
    ⟨3, .q .mv, [.tmp 10], (some 23), none, [], false⟩,
    ⟨4, .q (.bin .mul), [.const (.int .i64 24), .tmp 23], (some 24), none, [], false⟩,
    ⟨5, .q (.bin .add), [.tmp 22, .tmp 24], (some 25), none, [], false⟩,
    ⟨6, .q .mv, [.tmp 1], (some 26), none, [], false⟩,
    ⟨7, .q .mv, [.tmp 10], (some 27), none, [], false⟩,
    ⟨8, .q (.bin .add), [.tmp 27, .const (.int .i64 1)], (some 28), none, [], false⟩,
    ⟨9, .q (.bin .mul), [.const (.int .i64 24), .tmp 28], (some 29), none, [], false⟩,
    ⟨10, .q (.bin .add), [.tmp 26, .tmp 29], (some 30), none, [], false⟩,
    ⟨11, .q (.sla 512 1 true true), [.tmp 21, .tmp 25, .tmp 30], (some 31), none, [], false⟩,
    ⟨12, .q .mv, [.tmp 31], (some 11), none, [], false⟩])
  (.seq
  (.reg [⟨0, .q .mv, [.tmp 11], (some 32), none, [], false⟩,
    ⟨1, .e (.clr 1 #[(.int .u8 0)]), [.tmp 32], none, none, [], false⟩])
  (.seq
  (.seq
  (.reg [⟨0, .q .mv, [.tmp 10], (some 33), none, [], false⟩,
    ⟨1, .q .mv, [.tmp 3], (some 34), none, [], false⟩,
    ⟨2, .q .len, [.tmp 34], (some 35), none, [], false⟩,
    ⟨3, .q (.bin .geq), [.tmp 33, .tmp 35], (some 36), none, [], false⟩])
  (.cond (.tmp 36)
   (.exit 1)
   .skip))
  (.seq
  (.reg [⟨0, .q .mv, [.tmp 3], (some 38), none, [], false⟩,
    ⟨1, .q .mv, [.tmp 10], (some 39), none, [], false⟩,
    ⟨2, .q (.iad 2), [.tmp 38, .tmp 39], (some 40), none, [], false⟩,
    ⟨3, .q (.fad 0), [.tmp 40], (some 41), none, [], false⟩,
    ⟨4, .q .ld, [.tmp 41], (some 42), none, [], false⟩,
    ⟨5, .e (.call 31), [.tmp 42, .const (.int .i64 12)], (some 43), none, [], false⟩,
    ⟨6, .q .mv, [.tmp 43], (some 37), none, [], false⟩,
    ⟨7, .q (.ext 0), [.tmp 37], (some 44), none, [], false⟩,
    ⟨8, .q (.ext 1), [.tmp 37], (some 45), none, [], false⟩,
    ⟨9, .q .mv, [.tmp 44], (some 12), none, [], false⟩,
    ⟨10, .q .mv, [.tmp 45], (some 13), none, [], false⟩])
  (.seq
  (.reg [⟨0, .q .mv, [.tmp 3], (some 47), none, [], false⟩,
    ⟨1, .q .mv, [.tmp 10], (some 48), none, [], false⟩,
    ⟨2, .q (.iad 2), [.tmp 47, .tmp 48], (some 49), none, [], false⟩,
    ⟨3, .q (.fad 1), [.tmp 49], (some 50), none, [], false⟩,
    ⟨4, .q .ld, [.tmp 50], (some 51), none, [], false⟩,
    ⟨5, .q .mv, [.tmp 3], (some 52), none, [], false⟩,
    ⟨6, .q .mv, [.tmp 10], (some 53), none, [], false⟩,
    ⟨7, .q (.iad 2), [.tmp 52, .tmp 53], (some 54), none, [], false⟩,
    ⟨8, .q (.fad 0), [.tmp 54], (some 55), none, [], false⟩,
    ⟨9, .q .ld, [.tmp 55], (some 56), none, [], false⟩,
    ⟨10, .q (.bin .sub), [.tmp 51, .tmp 56], (some 57), none, [], false⟩,
    ⟨11, .e (.call 31), [.tmp 57, .const (.int .i64 12)], (some 58), none, [], false⟩,
    ⟨12, .q .mv, [.tmp 58], (some 46), none, [], false⟩,
    ⟨13, .q (.ext 0), [.tmp 46], (some 59), none, [], false⟩,
    ⟨14, .q (.ext 1), [.tmp 46], (some 60), none, [], false⟩,
    ⟨15, .q .mv, [.tmp 59], (some 14), none, [], false⟩,
    ⟨16, .q .mv, [.tmp 60], (some 15), none, [], false⟩])
  (.seq
  (.seq
  (.reg [⟨0, .q .mv, [.tmp 13], (some 61), none, [], false⟩,
    ⟨1, .q (.bin .neq), [.tmp 61, .const (.int .i64 0)], (some 62), none, [], false⟩,
    ⟨2, .q .mv, [.tmp 62], (some 63), none, [], false⟩,
    ⟨3, .q .mv, [.tmp 15], (some 64), (some (63, false)), [], false⟩,
    ⟨4, .q (.bin .neq), [.tmp 64, .const (.int .i64 0)], (some 65), (some (63, false)), [], false⟩,
    ⟨5, .q .pick, [.tmp 63, .const (.bool true), .tmp 65], (some 66), none, [], false⟩])
  (.cond (.tmp 66)
   (.seq
   (.reg [⟨0, .q .mv, [.const (.slice none 0 0)], (some 8), none, [], false⟩,
     ⟨1, .q .mv, [.const (.int .i64 133)], (some 9), none, [], false⟩])
   .ret)
   .skip))
  (.seq
  (.reg [⟨0, .q .mv, [.tmp 11], (some 67), none, [], false⟩,
    ⟨1, .q .mv, [.tmp 12], (some 68), none, [], false⟩,
    ⟨2, .e (.copy 1), [.tmp 67, .tmp 68], (some 69), none, [], false⟩])
  (.reg [⟨0, .q .mv, [.tmp 11], (some 70), none, [], false⟩,
    ⟨1, .q (.slc 1 true false false), [.tmp 70, .const (.int .i64 12)], (some 71), none, [], false⟩,
    ⟨2, .q .mv, [.tmp 14], (some 72), none, [], false⟩,
    ⟨3, .e (.copy 1), [.tmp 71, .tmp 72], (some 73), none, [], false⟩]))))))))))
 (.reg [⟨0, .q (.bin .add), [.tmp 17, .const (.int .i64 1)], (some 74), none, [], false⟩,
   ⟨1, .q .mv, [.tmp 74], (some 17), none, [], false⟩]))))
def L30_1 : LCode :=
 (.seq
 (.reg [⟨0, .q .mv, [.tmp 3], (some 75), none, [], false⟩,
   ⟨1, .q .mv, [.tmp 2], (some 76), none, [], false⟩,
   ⟨2, .q .mv, [.tmp 3], (some 77), none, [], false⟩,
   ⟨3, .q .len, [.tmp 77], (some 78), none, [], false⟩,
   ⟨4, .q .min2, [.tmp 76, .tmp 78], (some 79), none, [], false⟩,
   ⟨5, .q (.slc 2 true false false), [.tmp 75, .tmp 79], (some 80), none, [], false⟩,
   ⟨6, .q .mv, [.tmp 80], (some 8), none, [], false⟩,
   ⟨7, .q .mv, [.const (.int .i64 0)], (some 9), none, [], false⟩])
 .ret)
def L30 : LFn :=
 ⟨81, [.t 8, .t 9],
 (.seq
 (.reg [⟨0, .q .mv, [.const (.slice none 0 0)], (some 8), none, [], false⟩,
   ⟨1, .q .mv, [.const (.int .i64 0)], (some 9), none, [], false⟩])
 (.seq
 (.seq
 (.reg [⟨0, .q .mv, [.tmp 2], (some 16), none, [], false⟩,
   ⟨1, .q .mv, [.const (.int .i64 0)], (some 17), none, [], false⟩])
 (.block 0
  (.loop L30_0)))
 L30_1))⟩
theorem low30 : lowFn Tryd.prog Tryd.f30 = some L30 := by kernel_rfl
theorem call30 {args : List Value} {H : Heap} {S : Ending → Heap → Prop} (hn : args.length ≤ L30.n) (h : awpC Tryd.prog L30.body (retQ L30.results S) (fun ch H => S (.panicked ch) H) (env0 args) H) : ACalls Tryd.prog 30 args.toArray H S := acalls mixed Tryd.func30 low30 hn h
/-- satchel/satchelref15.some -/
def L33_0 : LCode :=
 (.seq
 (.seq
 (.reg [⟨0, .q .mv, [.tmp 13], (some 25), none, [], false⟩,
   ⟨1, .q (.bin .lss), [.tmp 25, .const (.int .i64 24)], (some 26), none, [], false⟩])
 (.cond (.tmp 26)
  .skip
  (.exit 2)))
 (.seq
 (.block 3
  (.reg [⟨0, .q .mv, [.tmp 12], (some 29), none, [], false⟩,
    ⟨1, .q .mv, [.tmp 13], (some 30), none, [], false⟩,
    ⟨2, .q (.bin .add), [.tmp 29, .tmp 30], (some 31), none, [], false⟩,
    ⟨3, .q (.iada 512 1), [.tmp 4, .tmp 31], (some 32), none, [], false⟩,
    ⟨4, .e (.st 1), [.tmp 32, .const (.int .u8 0)], none, none, [], false⟩]))
 (.reg [⟨0, .q .mv, [.tmp 13], (some 27), none, [], false⟩,
   ⟨1, .q (.bin .add), [.tmp 27, .const (.int .i64 1)], (some 28), none, [], false⟩,
   ⟨2, .q .mv, [.tmp 28], (some 13), none, [], false⟩])))
def L33_1 : LCode :=
 (.reg [⟨0, .q .mv, [.tmp 11], (some 19), none, [], false⟩,
   ⟨1, .q (.bin .add), [.tmp 19, .const (.int .i64 1)], (some 20), none, [], false⟩,
   ⟨2, .q .mv, [.tmp 20], (some 11), none, [], false⟩])
def L33_2 : LCode :=
 (.seq
 (.seq
 (.reg [⟨0, .q .mv, [.tmp 11], (some 16), none, [], false⟩,
   ⟨1, .q .mv, [.tmp 2], (some 17), none, [], false⟩,
   ⟨2, .q (.bin .lss), [.tmp 16, .tmp 17], (some 18), none, [], false⟩])
 (.cond (.tmp 18)
  .skip
  (.exit 0)))
 (.seq
 (.block 1
  (.seq
  (.reg [⟨0, .q .mv, [.tmp 1], (some 21), none, [], false⟩,
    ⟨1, .q .mv, [.tmp 11], (some 22), none, [], false⟩,
    ⟨2, .q (.bin .mul), [.const (.int .i64 24), .tmp 22], (some 23), none, [], false⟩,
    ⟨3, .q (.bin .add), [.tmp 21, .tmp 23], (some 24), none, [], false⟩,
    ⟨4, .q .mv, [.tmp 24], (some 12), none, [], false⟩])
  (.seq
  (.seq
  (.reg [⟨0, .q .mv, [.const (.int .i64 0)], (some 13), none, [], false⟩])
  (.block 2
   (.loop L33_0)))
  (.seq
  (.seq
  (.reg [⟨0, .q .mv, [.tmp 11], (some 33), none, [], false⟩,
    ⟨1, .q .mv, [.tmp 3], (some 34), none, [], false⟩,
    ⟨2, .q .len, [.tmp 34], (some 35), none, [], false⟩,
    ⟨3, .q (.bin .geq), [.tmp 33, .tmp 35], (some 36), none, [], false⟩])
  (.cond (.tmp 36)
   (.exit 1)
   .skip))
  (.seq
  (.reg [⟨0, .q .mv, [.const (.bool false)], (some 14), none, [], false⟩,
    ⟨1, .q .mv, [.const (.bool false)], (some 15), none, [], false⟩])
  (.seq
  (.reg [⟨0, .q (.ldn 512), [.tmp 4], (some 38), none, [], false⟩,
    ⟨1, .q .mv, [.tmp 12], (some 39), none, [], false⟩,
    ⟨2, .q .mv, [.tmp 3], (some 40), none, [], false⟩,
    ⟨3, .q .mv, [.tmp 11], (some 41), none, [], false⟩,
    ⟨4, .q (.iad 2), [.tmp 40, .tmp 41], (some 42), none, [], false⟩,
    ⟨5, .q (.fad 0), [.tmp 42], (some 43), none, [], false⟩,
    ⟨6, .q .ld, [.tmp 43], (some 44), none, [], false⟩,
    ⟨7, .e (.call 34), [.tmp 38, .tmp 39, .tmp 44], (some 45), none, [], false⟩,
    ⟨8, .q .mv, [.tmp 45], (some 37), none, [], false⟩,
    ⟨9, .q (.ext 0), [.tmp 37], (some 46), none, [], false⟩,
    ⟨10, .q (.ext 1), [.tmp 37], (some 47), none, [], false⟩,
    ⟨11, .e (.st 512), [.tmp 4, .tmp 46], none, none, [], false⟩,
    ⟨12, .q .mv, [.tmp 47], (some 14), none, [], false⟩])
  (.seq
  (.reg [⟨0, .q (.ldn 512), [.tmp 4], (some 49), none, [], false⟩,
    ⟨1, .q .mv, [.tmp 12], (some 50), none, [], false⟩,
    ⟨2, .q (.bin .add), [.tmp 50, .const (.int .i64 12)], (some 51), none, [], false⟩,
    ⟨3, .q .mv, [.tmp 3], (some 52), none, [], false⟩,
    ⟨4, .q .mv, [.tmp 11], (some 53), none, [], false⟩,
    ⟨5, .q (.iad 2), [.tmp 52, .tmp 53], (some 54), none, [], false⟩,
    ⟨6, .q (.fad 1), [.tmp 54], (some 55), none, [], false⟩,
    ⟨7, .q .ld, [.tmp 55], (some 56), none, [], false⟩,
    ⟨8, .q .mv, [.tmp 3], (some 57), none, [], false⟩,
    ⟨9, .q .mv, [.tmp 11], (some 58), none, [], false⟩,
    ⟨10, .q (.iad 2), [.tmp 57, .tmp 58], (some 59), none, [], false⟩,
    ⟨11, .q (.fad 0), [.tmp 59], (some 60), none, [], false⟩,
    ⟨12, .q .ld, [.tmp 60], (some 61), none, [], false⟩,
    ⟨13, .q (.bin .sub), [.tmp 56, .tmp 61], (some 62), none, [], false⟩,
    ⟨14, .e (.call 34), [.tmp 49, .tmp 51, .tmp 62], (some 63), none, [], false⟩,
    ⟨15, .q .mv, [.tmp 63], (some 48), none, [], false⟩,
    ⟨16, .q (.ext 0), [.tmp 48], (some 64), none, [], false⟩,
    ⟨17, .q (.ext 1), [.tmp 48], (some 65), none, [], false⟩,
    ⟨18, .e (.st 512), [.tmp 4, .tmp 64], none, none, [], false⟩,
    ⟨19, .q .mv, [.tmp 65], (some 15), none, [], false⟩])
  (.reg [⟨0, .q .mv, [.tmp 10], (some 66), none, [], false⟩,
    ⟨1, .q .mv, [.tmp 66], (some 67), none, [], false⟩,
    ⟨2, .q .mv, [.tmp 14], (some 68), (some (67, true)), [], false⟩,
    ⟨3, .q .pick, [.tmp 67, .tmp 68, .const (.bool false)], (some 69), none, [], false⟩,
    ⟨4, .q .mv, [.tmp 69], (some 70), none, [], false⟩,
    ⟨5, .q .mv, [.tmp 15], (some 71), (some (70, true)), [], false⟩,
    ⟨6, .q .pick, [.tmp 70, .tmp 71, .const (.bool false)], (some 72), none, [], false⟩,
    ⟨7, .q .mv, [.tmp 72], (some 10), none, [], false⟩]))))))))
 L33_1))
def L33_3 : LCode :=
 (.seq
 (.reg [⟨0, .q (.ldn 512), [.tmp 4], (some 73), none, [], false⟩,
   ⟨1, .q .mv, [.tmp 10], (some 74), none, [], false⟩,
   ⟨2, .e (.st 512), [.tmp 8, .tmp 73], none, none, [], false⟩,
   ⟨3, .q .mv, [.tmp 74], (some 9), none, [], false⟩])
 .ret)
def L33 : LFn :=
 ⟨75, [.c 8 (some 512), .t 9],
 (.seq
 (.reg [⟨0, .e (.box 36), [.tmp 0], (some 4), none, [], false⟩,
   ⟨1, .e (.new (Array.replicate 512 (.int .u8 0)) 36), [], (some 8), none, [], false⟩,
   ⟨2, .q .mv, [.const (.bool false)], (some 9), none, [], false⟩])
 (.seq
 (.reg [⟨0, .q .mv, [.const (.bool true)], (some 10), none, [], false⟩])
 (.seq
 (.seq
 (.reg [⟨0, .q .mv, [.const (.int .i64 0)], (some 11), none, [], false⟩])
 (.block 0
  (.loop L33_2)))
 L33_3)))⟩
theorem low33 : lowFn Tryd.prog Tryd.f33 = some L33 := by kernel_rfl
theorem call33 {args : List Value} {H : Heap} {S : Ending → Heap → Prop} (hn : args.length ≤ L33.n) (h : awpC Tryd.prog L33.body (retQ L33.results S) (fun ch H => S (.panicked ch) H) (env0 args) H) : ACalls Tryd.prog 33 args.toArray H S := acalls mixed Tryd.func33 low33 hn h
/-- satchel/satchelref15.put -/
def L34_0 : LCode :=
 (.seq
 (.seq
 (.reg [⟨0, .q .mv, [.tmp 10], (some 19), none, [], false⟩,
   ⟨1, .q (.bin .lss), [.tmp 19, .const (.int .i64 12)], (some 20), none, [], false⟩])
 (.cond (.tmp 20)
  .skip
  (.exit 0)))
 (.seq
 (.block 1
  (.reg [⟨0, .q .mv, [.tmp 1], (some 23), none, [], false⟩,
    ⟨1, .q .mv, [.tmp 10], (some 24), none, [], false⟩,
    ⟨2, .q (.bin .add), [.tmp 23, .tmp 24], (some 25), none, [], false⟩,
    ⟨3, .q .mv, [.tmp 8], (some 26), none, [], false⟩,
    ⟨4, .q .mv, [.tmp 10], (some 27), none, [], false⟩,
    ⟨5, .q (.iad 1), [.tmp 26, .tmp 27], (some 28), none, [], false⟩,
    ⟨6, .q .ld, [.tmp 28], (some 29), none, [], false⟩,
    ⟨7, .q (.iada 512 1), [.tmp 3, .tmp 25], (some 30), none, [], false⟩,
    ⟨8, .e (.st 1), [.tmp 30, .tmp 29], none, none, [], false⟩]))
 (.reg [⟨0, .q .mv, [.tmp 10], (some 21), none, [], false⟩,
   ⟨1, .q (.bin .add), [.tmp 21, .const (.int .i64 1)], (some 22), none, [], false⟩,
   ⟨2, .q .mv, [.tmp 22], (some 10), none, [], false⟩])))
def L34 : LFn :=
 ⟨32, [.c 6 (some 512), .t 7],
 (.seq
 (.reg [⟨0, .e (.box 36), [.tmp 0], (some 3), none, [], false⟩,
   ⟨1, .e (.new (Array.replicate 512 (.int .u8 0)) 36), [], (some 6), none, [], false⟩,
   ⟨2, .q .mv, [.const (.bool false)], (some 7), none, [], false⟩])
 (.seq
 (.reg [⟨0, .q .mv, [.tmp 2], (some 12), none, [], false⟩,
   ⟨1, .e (.call 42), [.tmp 12, .const (.int .i64 12)], (some 13), none, [], false⟩,
   ⟨2, .q .mv, [.tmp 13], (some 11), none, [], false⟩,
   ⟨3, .q (.ext 0), [.tmp 11], (some 14), none, [], false⟩,
   ⟨4, .q (.ext 1), [.tmp 11], (some 15), none, [], false⟩,
   ⟨5, .q .mv, [.tmp 14], (some 8), none, [], false⟩,
   ⟨6, .q .mv, [.tmp 15], (some 9), none, [], false⟩])
 (.seq
 (.seq
 (.reg [⟨0, .q .mv, [.tmp 9], (some 16), none, [], false⟩,
   ⟨1, .q (.bin .neq), [.tmp 16, .const (.int .i64 0)], (some 17), none, [], false⟩])
 (.cond (.tmp 17)
  (.seq
  (.reg [⟨0, .q (.ldn 512), [.tmp 3], (some 18), none, [], false⟩,
    ⟨1, .e (.st 512), [.tmp 6, .tmp 18], none, none, [], false⟩,
    ⟨2, .q .mv, [.const (.bool false)], (some 7), none, [], false⟩])
  .ret)
  .skip))
 (.seq
 (.seq
 (.reg [⟨0, .q .mv, [.const (.int .i64 0)], (some 10), none, [], false⟩])
 (.block 0
  (.loop L34_0)))
 (.seq
 (.reg [⟨0, .q (.ldn 512), [.tmp 3], (some 31), none, [], false⟩,
   ⟨1, .e (.st 512), [.tmp 6, .tmp 31], none, none, [], false⟩,
   ⟨2, .q .mv, [.const (.bool true)], (some 7), none, [], false⟩])
 .ret)))))⟩
theorem low34 : lowFn Tryd.prog Tryd.f34 = some L34 := by kernel_rfl
theorem call34 {args : List Value} {H : Heap} {S : Ending → Heap → Prop} (hn : args.length ≤ L34.n) (h : awpC Tryd.prog L34.body (retQ L34.results S) (fun ch H => S (.panicked ch) H) (env0 args) H) : ACalls Tryd.prog 34 args.toArray H S := acalls mixed Tryd.func34 low34 hn h
/-- satchel/sparse.get -/
def L35_0 : LCode :=
 (.seq
 (.reg [⟨0, .q (.bin .lss), [.tmp 15, .tmp 14], (some 16), none, [], false⟩])
 (.seq
 (.cond (.tmp 16)
  .skip
  (.exit 0))
 (.seq
 (.block 1
  (.seq
  (.reg [⟨0, .q .mv, [.tmp 15], (some 17), none, [], false⟩,
    ⟨1, .q .mv, [.tmp 17], (some 9), none, [], false⟩])
  (.seq
  (.reg [⟨0, .q .mv, [.tmp 0], (some 18), none, [], false⟩,
    ⟨1, .q .nilc, [.tmp 18], (some 19), none, [], false⟩,
    ⟨2, .q .mv, [.tmp 1], (some 20), none, [], false⟩,
    ⟨3, .q .mv, [.tmp 9], (some 21), none, [], false⟩,
    ⟨4, .q (.bin .mul), [.const (.int .i64 24), .tmp 21], (some 22), none, [], false⟩,
    ⟨5, .q (.bin .add), [.tmp 20, .tmp 22], (some 23), none, [], false⟩,
    ⟨6, .q (.sla 512 1 true false), [.tmp 19, .tmp 23], (some 24), none, [], false⟩,
    ⟨7, .q (.s2a 24), [.tmp 24], (some 25), none, [], false⟩,
    ⟨8, .q (.ldn 24), [.tmp 25], (some 26), none, [], false⟩,
    ⟨9, .e (.new (Array.replicate 24 (.int .u8 0)) 72), [], (some 10), none, [], false⟩,
    ⟨10, .e (.st 24), [.tmp 10, .tmp 26], none, none, [], false⟩])
  (.seq
  (.seq
  (.reg [⟨0, .q (.ldn 24), [.tmp 10], (some 27), none, [], false⟩,
    ⟨1, .q (.build (Array.replicate 24 (.int .u8 0)) []), [], (some 28), none, [], false⟩,
    ⟨2, .q (.eqa [(0, .i), (1, .i), (2, .i), (3, .i), (4, .i), (5, .i), (6, .i), (7, .i), (8, .i), (9, .i), (10, .i), (11, .i), (12, .i), (13, .i), (14, .i), (15, .i), (16, .i), (17, .i), (18, .i), (19, .i), (20, .i), (21, .i), (22, .i), (23, .i)] false), [.tmp 27, .tmp 28], (some 29), none, [], false⟩])
  (.cond (.tmp 29)
   (.exit 0)
   .skip))
  (.seq
  (.reg [⟨0, .q (.sla 24 1 false true), [.tmp 10, .const (.int .i64 12)], (some 31), none, [], false⟩,
    ⟨1, .e (.call 36), [.tmp 31], (some 32), none, [], false⟩,
    ⟨2, .q .mv, [.tmp 32], (some 30), none, [], false⟩,
    ⟨3, .q (.ext 0), [.tmp 30], (some 33), none, [], false⟩,
    ⟨4, .q (.ext 1), [.tmp 30], (some 34), none, [], false⟩,
    ⟨5, .q .mv, [.tmp 33], (some 11), none, [], false⟩,
    ⟨6, .q .mv, [.tmp 34], (some 12), none, [], false⟩])
  (.seq
  (.seq
  (.reg [⟨0, .q .mv, [.tmp 12], (some 35), none, [], false⟩,
    ⟨1, .q (.bin .neq), [.tmp 35, .const (.int .i64 0)], (some 36), none, [], false⟩])
  (.cond (.tmp 36)
   (.seq
   (.reg [⟨0, .q .mv, [.tmp 12], (some 37), none, [], false⟩,
     ⟨1, .q .mv, [.const (.slice none 0 0)], (some 6), none, [], false⟩,
     ⟨2, .q .mv, [.tmp 37], (some 7), none, [], false⟩])
   .ret)
   .skip))
  (.seq
  (.reg [⟨0, .q (.sla 24 1 true false), [.tmp 10, .const (.int .i64 12)], (some 39), none, [], false⟩,
    ⟨1, .e (.call 36), [.tmp 39], (some 40), none, [], false⟩,
    ⟨2, .q .mv, [.tmp 40], (some 38), none, [], false⟩,
    ⟨3, .q (.ext 0), [.tmp 38], (some 41), none, [], false⟩,
    ⟨4, .q (.ext 1), [.tmp 38], (some 42), none, [], false⟩,
    ⟨5, .q .mv, [.tmp 41], (some 13), none, [], false⟩,
    ⟨6, .q .mv, [.tmp 42], (some 12), none, [], false⟩])
  (.seq
  (.seq
  (.reg [⟨0, .q .mv, [.tmp 12], (some 43), none, [], false⟩,
    ⟨1, .q (.bin .neq), [.tmp 43, .const (.int .i64 0)], (some 44), none, [], false⟩])
  (.cond (.tmp 44)
   (.seq
   (.reg [⟨0, .q .mv, [.tmp 12], (some 45), none, [], false⟩,
     ⟨1, .q .mv, [.const (.slice none 0 0)], (some 6), none, [], false⟩,
     ⟨2, .q .mv, [.tmp 45], (some 7), none, [], false⟩])
   .ret)
   .skip))
  (.seq
  (.seq
  (.reg [⟨0, .q .mv, [.tmp 13], (some 46), none, [], false⟩,
    ⟨1, .q .mv, [.tmp 11], (some 47), none, [], false⟩,
    ⟨2, .q (.bin .sub), [.const (.int .i64 9223372036854775807), .tmp 47], (some 48), none, [], false⟩,
    ⟨3, .q (.bin .gtr), [.tmp 46, .tmp 48], (some 49), none, [], false⟩])
  (.cond (.tmp 49)
   (.seq
   (.reg [⟨0, .q .mv, [.const (.slice none 0 0)], (some 6), none, [], false⟩,
     ⟨1, .q .mv, [.const (.int .i64 3)], (some 7), none, [], false⟩])
   .ret)
   .skip))
  (.reg [⟨0, .q .mv, [.tmp 8], (some 50), none, [], false⟩,
    ⟨1, .q .mv, [.tmp 11], (some 51), none, [], false⟩,
    ⟨2, .q .mv, [.tmp 11], (some 52), none, [], false⟩,
    ⟨3, .q .mv, [.tmp 13], (some 53), none, [], false⟩,
    ⟨4, .q (.bin .add), [.tmp 52, .tmp 53], (some 54), none, [], false⟩,
    ⟨5, .q (.build #[(.int .i64 0), (.int .i64 0)] [(0, 1), (1, 1)]), [.tmp 51, .tmp 54], (some 55), none, [], false⟩,
    ⟨6, .e (.lits 51 #[(.int .i64 0), (.int .i64 0)] 1 [(0, 2)]), [.tmp 55], (some 56), none, [], false⟩,
    ⟨7, .e (.app 51 2 16 #[(.int .i64 0), (.int .i64 0)]), [.tmp 50, .tmp 56], (some 57), none, [], false⟩,
    ⟨8, .q .mv, [.tmp 57], (some 8), none, [], false⟩]))))))))))
 (.reg [⟨0, .q (.bin .add), [.tmp 15, .const (.int .i64 1)], (some 58), none, [], false⟩,
   ⟨1, .q .mv, [.tmp 58], (some 15), none, [], false⟩]))))
def L35_1 : LCode :=
 (.seq
 (.reg [⟨0, .q .mv, [.tmp 8], (some 59), none, [], false⟩,
   ⟨1, .q .mv, [.tmp 59], (some 6), none, [], false⟩,
   ⟨2, .q .mv, [.const (.int .i64 0)], (some 7), none, [], false⟩])
 .ret)
def L35 : LFn :=
 ⟨60, [.t 6, .t 7],
 (.seq
 (.reg [⟨0, .q .mv, [.const (.slice none 0 0)], (some 6), none, [], false⟩,
   ⟨1, .q .mv, [.const (.int .i64 0)], (some 7), none, [], false⟩])
 (.seq
 (.reg [⟨0, .q .mv, [.const (.slice none 0 0)], (some 8), none, [], false⟩])
 (.seq
 (.seq
 (.reg [⟨0, .q .mv, [.tmp 2], (some 14), none, [], false⟩,
   ⟨1, .q .mv, [.const (.int .i64 0)], (some 15), none, [], false⟩])
 (.block 0
  (.loop L35_0)))
 L35_1)))⟩
theorem low35 : lowFn Tryd.prog Tryd.f35 = some L35 := by kernel_rfl
theorem call35 {args : List Value} {H : Heap} {S : Ending → Heap → Prop} (hn : args.length ≤ L35.n) (h : awpC Tryd.prog L35.body (retQ L35.results S) (fun ch H => S (.panicked ch) H) (env0 args) H) : ACalls Tryd.prog 35 args.toArray H S := acalls mixed Tryd.func35 low35 hn h
/-- satchel/sparse.number -/
def L36 : LFn :=
 ⟨19, [.t 2, .t 3],
 (.seq
 (.reg [⟨0, .q .mv, [.const (.int .i64 0)], (some 2), none, [], false⟩,
   ⟨1, .q .mv, [.const (.int .i64 0)], (some 3), none, [], false⟩])
 (.seq
 (.reg [⟨0, .q .mv, [.tmp 0], (some 7), none, [], false⟩,
   ⟨1, .e (.call 43), [.tmp 7], (some 8), none, [], false⟩,
   ⟨2, .q .mv, [.tmp 8], (some 6), none, [], false⟩,
   ⟨3, .q (.ext 0), [.tmp 6], (some 9), none, [], false⟩,
   ⟨4, .q (.ext 1), [.tmp 6], (some 10), none, [], false⟩,
   ⟨5, .q .mv, [.tmp 9], (some 4), none, [], false⟩,
   ⟨6, .q .mv, [.tmp 10], (some 5), none, [], false⟩])
 (.seq
 (.seq
 (.reg [⟨0, .q .mv, [.tmp 5], (some 11), none, [], false⟩,
   ⟨1, .q (.bin .eql), [.tmp 11, .const (.int .i64 0)], (some 12), none, [], false⟩,
   ⟨2, .q .mv, [.tmp 12], (some 13), none, [], false⟩,
   ⟨3, .q .mv, [.tmp 4], (some 14), (some (13, true)), [], false⟩,
   ⟨4, .q (.bin .lss), [.tmp 14, .const (.int .i64 0)], (some 15), (some (13, true)), [], false⟩,
   ⟨5, .q .pick, [.tmp 13, .tmp 15, .const (.bool false)], (some 16), none, [], false⟩])
 (.cond (.tmp 16)
  (.seq
  (.reg [⟨0, .q .mv, [.const (.int .i64 0)], (some 2), none, [], false⟩,
    ⟨1, .q .mv, [.const (.int .i64 3)], (some 3), none, [], false⟩])
  .ret)
  .skip))
 (.seq
 (.reg [⟨0, .q .mv, [.tmp 4], (some 17), none, [], false⟩,
   ⟨1, .q .mv, [.tmp 5], (some 18), none, [], false⟩,
   ⟨2, .q .mv, [.tmp 17], (some 2), none, [], false⟩,
   ⟨3, .q .mv, [.tmp 18], (some 3), none, [], false⟩])
 .ret))))⟩
theorem low36 : lowFn Tryd.prog Tryd.f36 = some L36 := by kernel_rfl
theorem call36 {args : List Value} {H : Heap} {S : Ending → Heap → Prop} (hn : args.length ≤ L36.n) (h : awpC Tryd.prog L36.body (retQ L36.results S) (fun ch H => S (.panicked ch) H) (env0 args) H) : ACalls Tryd.prog 36 args.toArray H S := acalls mixed Tryd.func36 low36 hn h
/-- satchel/satchelref15.ranges -/
def L37_0 : LCode :=
 (.seq
 (.seq
 (.reg [⟨0, .q .mv, [.tmp 12], (some 27), none, [], false⟩,
   ⟨1, .q .mv, [.tmp 10], (some 28), none, [], false⟩,
   ⟨2, .q (.bin .add), [.tmp 28, .const (.int .i64 24)], (some 29), none, [], false⟩,
   ⟨3, .q (.bin .lss), [.tmp 27, .tmp 29], (some 30), none, [], false⟩])
 (.cond (.tmp 30)
  .skip
  (.exit 2)))
 (.seq
 (.block 3
  (.reg [⟨0, .q .mv, [.tmp 11], (some 33), none, [], false⟩,
    ⟨1, .q .mv, [.tmp 33], (some 34), none, [], false⟩,
    ⟨2, .q .mv, [.tmp 12], (some 35), (some (34, true)), [], false⟩,
    ⟨3, .q (.iada 512 1), [.tmp 3, .tmp 35], (some 36), (some (34, true)), [], false⟩,
    ⟨4, .q .ld, [.tmp 36], (some 37), (some (34, true)), [], false⟩,
    ⟨5, .q (.bin .eql), [.tmp 37, .const (.int .u8 0)], (some 38), (some (34, true)), [], false⟩,
    ⟨6, .q .pick, [.tmp 34, .tmp 38, .const (.bool false)], (some 39), none, [], false⟩,
    ⟨7, .q .mv, [.tmp 39], (some 11), none, [], false⟩]))
 (.reg [⟨0, .q .mv, [.tmp 12], (some 31), none, [], false⟩,
   ⟨1, .q (.bin .add), [.tmp 31, .const (.int .i64 1)], (some 32), none, [], false⟩,
   ⟨2, .q .mv, [.tmp 32], (some 12), none, [], false⟩])))
def L37_1 : LCode :=
 (.seq
 (.seq
 (.reg [⟨0, .q .mv, [.tmp 9], (some 17), none, [], false⟩,
   ⟨1, .q .mv, [.tmp 2], (some 18), none, [], false⟩,
   ⟨2, .q (.bin .lss), [.tmp 17, .tmp 18], (some 19), none, [], false⟩])
 (.cond (.tmp 19)
  .skip
  (.exit 0)))
 (.seq
 (.block 1
  (.seq
  (.reg [⟨0, .q .mv, [.tmp 1], (some 22), none, [], false⟩,
    ⟨1, .q .mv, [.tmp 9], (some 23), none, [], false⟩,
    ⟨2, .q (.bin .mul), [.const (.int .i64 24), .tmp 23], (some 24), none, [], false⟩,
    ⟨3, .q (.bin .add), [.tmp 22, .tmp 24], (some 25), none, [], false⟩,
    ⟨4, .q .mv, [.tmp 25], (some 10), none, [], false⟩])
  (.seq
  (.reg [⟨0, .q .mv, [.const (.bool true)], (some 11), none, [], false⟩])
  (.seq
  (.seq
  (.reg [⟨0, .q .mv, [.tmp 10], (some 26), none, [], false⟩,
    ⟨1, .q .mv, [.tmp 26], (some 12), none, [], false⟩])
  (.block 2
   (.loop L37_0)))
  (.seq
  (.seq
  (.reg [⟨0, .q .mv, [.tmp 11], (some 40), none, [], false⟩])
  (.cond (.tmp 40)
   (.seq
   (.reg [⟨0, .q .mv, [.tmp 8], (some 41), none, [], false⟩,
     ⟨1, .q .mv, [.tmp 41], (some 6), none, [], false⟩,
     ⟨2, .q .mv, [.const (.int .i64 0)], (some 7), none, [], false⟩])
   .ret)
   .skip))
  (.seq
  (.reg [⟨0, .q (.ldn 512), [.tmp 3], (some 43), none, [], false⟩,
    ⟨1, .q .mv, [.tmp 10], (some 44), none, [], false⟩,
    ⟨2, .e (.call 38), [.tmp 43, .tmp 44], (some 45), none, [], false⟩,
    ⟨3, .q .mv, [.tmp 45], (some 42), none, [], false⟩,
    ⟨4, .q (.ext 0), [.tmp 42], (some 46), none, [], false⟩,
    ⟨5, .q (.ext 1), [.tmp 42], (some 47), none, [], false⟩,
    ⟨6, .q .mv, [.tmp 46], (some 13), none, [], false⟩,
    ⟨7, .q .mv, [.tmp 47], (some 14), none, [], false⟩])
  (.seq
  (.seq
  (.reg [⟨0, .q .mv, [.tmp 14], (some 48), none, [], false⟩,
    ⟨1, .q (.bin .neq), [.tmp 48, .const (.int .i64 0)], (some 49), none, [], false⟩])
  (.cond (.tmp 49)
   (.seq
   (.reg [⟨0, .q .mv, [.tmp 14], (some 50), none, [], false⟩,
     ⟨1, .q .mv, [.const (.slice none 0 0)], (some 6), none, [], false⟩,
     ⟨2, .q .mv, [.tmp 50], (some 7), none, [], false⟩])
   .ret)
   .skip))
  (.seq
  (.reg [⟨0, .q (.ldn 512), [.tmp 3], (some 52), none, [], false⟩,
    ⟨1, .q .mv, [.tmp 10], (some 53), none, [], false⟩,
    ⟨2, .q (.bin .add), [.tmp 53, .const (.int .i64 12)], (some 54), none, [], false⟩,
    ⟨3, .e (.call 38), [.tmp 52, .tmp 54], (some 55), none, [], false⟩,
    ⟨4, .q .mv, [.tmp 55], (some 51), none, [], false⟩,
    ⟨5, .q (.ext 0), [.tmp 51], (some 56), none, [], false⟩,
    ⟨6, .q (.ext 1), [.tmp 51], (some 57), none, [], false⟩,
    ⟨7, .q .mv, [.tmp 56], (some 15), none, [], false⟩,
    ⟨8, .q .mv, [.tmp 57], (some 14), none, [], false⟩])
  (.seq
  (.seq
  (.reg [⟨0, .q .mv, [.tmp 14], (some 58), none, [], false⟩,
    ⟨1, .q (.bin .neq), [.tmp 58, .const (.int .i64 0)], (some 59), none, [], false⟩])
  (.cond (.tmp 59)
   (.seq
   (.reg [⟨0, .q .mv, [.tmp 14], (some 60), none, [], false⟩,
     ⟨1, .q .mv, [.const (.slice none 0 0)], (some 6), none, [], false⟩,
     ⟨2, .q .mv, [.tmp 60], (some 7), none, [], false⟩])
   .ret)
   .skip))
  (.seq
  (.seq
  (.reg [⟨0, .q .mv, [.tmp 15], (some 61), none, [], false⟩,
    ⟨1, .q .mv, [.tmp 13], (some 62), none, [], false⟩,
    ⟨2, .q (.bin .sub), [.const (.int .i64 9223372036854775807), .tmp 62], (some 63), none, [], false⟩,
    ⟨3, .q (.bin .gtr), [.tmp 61, .tmp 63], (some 64), none, [], false⟩])
  (.cond (.tmp 64)
   (.seq
   (.reg [⟨0, .q .mv, [.const (.slice none 0 0)], (some 6), none, [], false⟩,
     ⟨1, .q .mv, [.const (.int .i64 3)], (some 7), none, [], false⟩])
   .ret)
   .skip))
  (.reg [⟨0, .q .mv, [.tmp 8], (some 65), none, [], false⟩,
    ⟨1, .q .mv, [.tmp 13], (some 66), none, [], false⟩,
    ⟨2, .q .mv, [.tmp 13], (some 67), none, [], false⟩,
    ⟨3, .q .mv, [.tmp 15], (some 68), none, [], false⟩,
    ⟨4, .q (.bin .add), [.tmp 67, .tmp 68], (some 69), none, [], false⟩,
    ⟨5, .q (.build #[(.int .i64 0), (.int .i64 0)] [(0, 1), (1, 1)]), [.tmp 66, .tmp 69], (some 70), none, [], false⟩,
    ⟨6, .e (.lits 51 #[(.int .i64 0), (.int .i64 0)] 1 [(0, 2)]), [.tmp 70], (some 71), none, [], false⟩,
    ⟨7, .e (.app 51 2 16 #[(.int .i64 0), (.int .i64 0)]), [.tmp 65, .tmp 71], (some 72), none, [], false⟩,
    ⟨8, .q .mv, [.tmp 72], (some 8), none, [], false⟩])))))))))))
 (.reg [⟨0, .q .mv, [.tmp 9], (some 20), none, [], false⟩,
   ⟨1, .q (.bin .add), [.tmp 20, .const (.int .i64 1)], (some 21), none, [], false⟩,
   ⟨2, .q .mv, [.tmp 21], (some 9), none, [], false⟩])))
def L37_2 : LCode :=
 (.seq
 (.reg [⟨0, .q .mv, [.tmp 8], (some 73), none, [], false⟩,
   ⟨1, .q .mv, [.tmp 73], (some 6), none, [], false⟩,
   ⟨2, .q .mv, [.const (.int .i64 0)], (some 7), none, [], false⟩])
 .ret)
def L37 : LFn :=
 ⟨74, [.t 6, .t 7],
 (.seq
 (.reg [⟨0, .e (.box 36), [.tmp 0], (some 3), none, [], false⟩,
   ⟨1, .q .mv, [.const (.slice none 0 0)], (some 6), none, [], false⟩,
   ⟨2, .q .mv, [.const (.int .i64 0)], (some 7), none, [], false⟩])
 (.seq
 (.reg [⟨0, .e (.lits 51 #[] 0 []), [], (some 16), none, [], false⟩,
   ⟨1, .q .mv, [.tmp 16], (some 8), none, [], false⟩])
 (.seq
 (.seq
 (.reg [⟨0, .q .mv, [.const (.int .i64 0)], (some 9), none, [], false⟩])
 (.block 0
  (.loop L37_1)))
 L37_2)))⟩
theorem low37 : lowFn Tryd.prog Tryd.f37 = some L37 := by kernel_rfl
theorem call37 {args : List Value} {H : Heap} {S : Ending → Heap → Prop} (hn : args.length ≤ L37.n) (h : awpC Tryd.prog L37.body (retQ L37.results S) (fun ch H => S (.panicked ch) H) (env0 args) H) : ACalls Tryd.prog 37 args.toArray H S := acalls mixed Tryd.func37 low37 hn h
/-- satchel/satchelref15.size -/
def L38 : LFn :=
 ⟨24, [.t 4, .t 5],
 (.seq
 (.reg [⟨0, .e (.box 36), [.tmp 0], (some 2), none, [], false⟩,
   ⟨1, .q .mv, [.const (.int .i64 0)], (some 4), none, [], false⟩,
   ⟨2, .q .mv, [.const (.int .i64 0)], (some 5), none, [], false⟩])
 (.seq
 (.reg [⟨0, .q .mv, [.tmp 1], (some 9), none, [], false⟩,
   ⟨1, .q .mv, [.tmp 1], (some 10), none, [], false⟩,
   ⟨2, .q (.bin .add), [.tmp 10, .const (.int .i64 12)], (some 11), none, [], false⟩,
   ⟨3, .q (.sla 512 1 true true), [.tmp 2, .tmp 9, .tmp 11], (some 12), none, [], false⟩,
   ⟨4, .e (.call 44), [.tmp 12], (some 13), none, [], false⟩,
   ⟨5, .q .mv, [.tmp 13], (some 8), none, [], false⟩,
   ⟨6, .q (.ext 0), [.tmp 8], (some 14), none, [], false⟩,
   ⟨7, .q (.ext 1), [.tmp 8], (some 15), none, [], false⟩,
   ⟨8, .q .mv, [.tmp 14], (some 6), none, [], false⟩,
   ⟨9, .q .mv, [.tmp 15], (some 7), none, [], false⟩])
 (.seq
 (.seq
 (.reg [⟨0, .q .mv, [.tmp 7], (some 16), none, [], false⟩,
   ⟨1, .q (.bin .eql), [.tmp 16, .const (.int .i64 0)], (some 17), none, [], false⟩,
   ⟨2, .q .mv, [.tmp 17], (some 18), none, [], false⟩,
   ⟨3, .q .mv, [.tmp 6], (some 19), (some (18, true)), [], false⟩,
   ⟨4, .q (.bin .lss), [.tmp 19, .const (.int .i64 0)], (some 20), (some (18, true)), [], false⟩,
   ⟨5, .q .pick, [.tmp 18, .tmp 20, .const (.bool false)], (some 21), none, [], false⟩])
 (.cond (.tmp 21)
  (.seq
  (.reg [⟨0, .q .mv, [.const (.int .i64 0)], (some 4), none, [], false⟩,
    ⟨1, .q .mv, [.const (.int .i64 3)], (some 5), none, [], false⟩])
  .ret)
  .skip))
 (.seq
 (.reg [⟨0, .q .mv, [.tmp 6], (some 22), none, [], false⟩,
   ⟨1, .q .mv, [.tmp 7], (some 23), none, [], false⟩,
   ⟨2, .q .mv, [.tmp 22], (some 4), none, [], false⟩,
   ⟨3, .q .mv, [.tmp 23], (some 5), none, [], false⟩])
 .ret))))⟩
theorem low38 : lowFn Tryd.prog Tryd.f38 = some L38 := by kernel_rfl
theorem call38 {args : List Value} {H : Heap} {S : Ending → Heap → Prop} (hn : args.length ≤ L38.n) (h : awpC Tryd.prog L38.body (retQ L38.results S) (fun ch H => S (.panicked ch) H) (env0 args) H) : ACalls Tryd.prog 38 args.toArray H S := acalls mixed Tryd.func38 low38 hn h
end Go.Proofs.YthflafgijfbpnaaDoor.Low
