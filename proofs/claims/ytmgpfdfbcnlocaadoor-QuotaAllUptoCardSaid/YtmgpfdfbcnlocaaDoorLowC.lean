/-
  Functions in short (out of the program's form in Lean, by the kernel).
-/
import Derived.Test.YtmgpfdfbcnlocaaDoorSepDfr
import Derived.Test.YtmgpfdfbcnlocaaDoorProg
namespace Go.Proofs.YtmgpfdfbcnlocaaDoor.Low
open Go Go.Proofs.YtmgpfdfbcnlocaaDoor.Sep
theorem mixed : Tryd.prog.follows .mixedOrders = true := by kernel_rfl
/-- satchel/satchelref09.has -/
def L37_0 : LCode :=
 (.seq
 (.seq
 (.reg [⟨0, .q .mv, [.tmp 5], (some 6), none, [], false⟩,
   ⟨1, .q .mv, [.tmp 0], (some 7), none, [], false⟩,
   ⟨2, .q .lens, [.tmp 7], (some 8), none, [], false⟩,
   ⟨3, .q (.bin .lss), [.tmp 6, .tmp 8], (some 9), none, [], false⟩])
 (.cond (.tmp 9)
  .skip
  (.exit 0)))
 (.seq
 (.block 1
  (.seq
  (.reg [⟨0, .q .mv, [.tmp 0], (some 12), none, [], false⟩,
    ⟨1, .q .mv, [.tmp 5], (some 13), none, [], false⟩,
    ⟨2, .q .ixs, [.tmp 12, .tmp 13], (some 14), none, [], false⟩,
    ⟨3, .q .mv, [.tmp 1], (some 15), none, [], false⟩,
    ⟨4, .q (.bin .eql), [.tmp 14, .tmp 15], (some 16), none, [], false⟩])
  (.cond (.tmp 16)
   (.seq
   (.reg [⟨0, .q .mv, [.const (.bool true)], (some 4), none, [], false⟩])
   .ret)
   .skip)))
 (.reg [⟨0, .q .mv, [.tmp 5], (some 10), none, [], false⟩,
   ⟨1, .q (.bin .add), [.tmp 10, .const (.int .i64 1)], (some 11), none, [], false⟩,
   ⟨2, .q .mv, [.tmp 11], (some 5), none, [], false⟩])))
def L37 : LFn :=
 ⟨17, [.t 4],
 (.seq
 (.reg [⟨0, .q .mv, [.const (.bool false)], (some 4), none, [], false⟩])
 (.seq
 (.seq
 (.reg [⟨0, .q .mv, [.const (.int .i64 0)], (some 5), none, [], false⟩])
 (.block 0
  (.loop L37_0)))
 (.seq
 (.reg [⟨0, .q .mv, [.const (.bool false)], (some 4), none, [], false⟩])
 .ret)))⟩
theorem low37 : lowFn Tryd.prog Tryd.f37 = some L37 := by kernel_rfl
theorem call37 {args : List Value} {H : Heap} {S : Ending → Heap → Prop} (hn : args.length ≤ L37.n) (h : awpC Tryd.prog L37.body (retQ L37.results S) (fun ch H => S (.panicked ch) H) (env0 args) H) : ACalls Tryd.prog 37 args.toArray H S := acalls mixed Tryd.func37 low37 hn h
/-- satchel/satchelref09.Split -/
def L24_0 : LCode :=
 (.reg [⟨0, .q .mv, [.tmp 7], (some 28), none, [], false⟩,
   ⟨1, .q (.bin .add), [.tmp 28, .const (.int .i64 1)], (some 29), none, [], false⟩,
   ⟨2, .q .mv, [.tmp 29], (some 7), none, [], false⟩])
def L24_1 : LCode :=
 (.seq
 (.seq
 (.reg [⟨0, .q .mv, [.tmp 7], (some 24), none, [], false⟩,
   ⟨1, .q .mv, [.tmp 4], (some 25), none, [], false⟩,
   ⟨2, .q .len, [.tmp 25], (some 26), none, [], false⟩,
   ⟨3, .q (.bin .lss), [.tmp 24, .tmp 26], (some 27), none, [], false⟩])
 (.cond (.tmp 27)
  .skip
  (.exit 0)))
 (.seq
 (.block 1
  (.seq
  (.seq
  (.reg [⟨0, .q .mv, [.tmp 4], (some 30), none, [], false⟩,
    ⟨1, .q .mv, [.tmp 7], (some 31), none, [], false⟩,
    ⟨2, .q (.iad 1), [.tmp 30, .tmp 31], (some 32), none, [], false⟩,
    ⟨3, .q .ld, [.tmp 32], (some 33), none, [], false⟩,
    ⟨4, .q (.bin .eql), [.tmp 33, .const (.string ⟨#[46, 46]⟩)], (some 34), none, [], false⟩])
  (.cond (.tmp 34)
   (.seq
   (.reg [⟨0, .q .mv, [.const (.slice none 0 0)], (some 2), none, [], false⟩,
     ⟨1, .q .mv, [.const (.int .i64 92)], (some 3), none, [], false⟩])
   .ret)
   .skip))
  (.seq
  (.reg [⟨0, .q .mv, [.tmp 4], (some 35), none, [], false⟩,
    ⟨1, .q .mv, [.tmp 7], (some 36), none, [], false⟩,
    ⟨2, .q (.iad 1), [.tmp 35, .tmp 36], (some 37), none, [], false⟩,
    ⟨3, .q .ld, [.tmp 37], (some 38), none, [], false⟩,
    ⟨4, .q (.bin .neq), [.tmp 38, .const (.string ⟨#[]⟩)], (some 39), none, [], false⟩,
    ⟨5, .q .mv, [.tmp 39], (some 40), none, [], false⟩,
    ⟨6, .q .mv, [.tmp 4], (some 41), (some (40, true)), [], false⟩,
    ⟨7, .q .mv, [.tmp 7], (some 42), (some (40, true)), [], false⟩,
    ⟨8, .q (.iad 1), [.tmp 41, .tmp 42], (some 43), (some (40, true)), [], false⟩,
    ⟨9, .q .ld, [.tmp 43], (some 44), (some (40, true)), [], false⟩,
    ⟨10, .q (.bin .neq), [.tmp 44, .const (.string ⟨#[46]⟩)], (some 45), (some (40, true)), [], false⟩,
    ⟨11, .q .pick, [.tmp 40, .tmp 45, .const (.bool false)], (some 46), none, [], false⟩])
  (.cond (.tmp 46)
   (.seq
   (.reg [⟨0, .q .mv, [.tmp 5], (some 47), none, [], false⟩,
     ⟨1, .q .mv, [.tmp 4], (some 48), none, [], false⟩,
     ⟨2, .q .mv, [.tmp 7], (some 49), none, [], false⟩,
     ⟨3, .q (.iad 1), [.tmp 48, .tmp 49], (some 50), none, [], false⟩,
     ⟨4, .q .ld, [.tmp 50], (some 51), none, [], false⟩,
     ⟨5, .e (.lits 9 #[(.string ⟨#[]⟩)] 1 [(0, 1)]), [.tmp 51], (some 52), none, [], false⟩,
     ⟨6, .e (.app 9 1 16 #[(.string ⟨#[]⟩)]), [.tmp 47, .tmp 52], (some 53), none, [], false⟩,
     ⟨7, .q .mv, [.tmp 53], (some 5), none, [], false⟩])
   (.reg [⟨0, .q .mv, [.tmp 6], (some 54), none, [], false⟩,
     ⟨1, .q .mv, [.tmp 54], (some 55), none, [], false⟩,
     ⟨2, .q .mv, [.tmp 4], (some 56), (some (55, false)), [], false⟩,
     ⟨3, .q .mv, [.tmp 7], (some 57), (some (55, false)), [], false⟩,
     ⟨4, .q (.iad 1), [.tmp 56, .tmp 57], (some 58), (some (55, false)), [], false⟩,
     ⟨5, .q .ld, [.tmp 58], (some 59), (some (55, false)), [], false⟩,
     ⟨6, .q .lens, [.tmp 59], (some 60), (some (55, false)), [], false⟩,
     ⟨7, .q (.bin .gtr), [.tmp 60, .const (.int .i64 255)], (some 61), (some (55, false)), [], false⟩,
     ⟨8, .q .pick, [.tmp 55, .const (.bool true), .tmp 61], (some 62), none, [], false⟩,
     ⟨9, .q .mv, [.tmp 62], (some 6), none, [], false⟩]))
   .skip))))
 L24_0))
def L24 : LFn :=
 ⟨71, [.t 2, .t 3],
 (.seq
 (.reg [⟨0, .q .mv, [.const (.slice none 0 0)], (some 2), none, [], false⟩,
   ⟨1, .q .mv, [.const (.int .i64 0)], (some 3), none, [], false⟩])
 (.seq
 (.seq
 (.reg [⟨0, .q .mv, [.tmp 0], (some 8), none, [], false⟩,
   ⟨1, .q .lens, [.tmp 8], (some 9), none, [], false⟩,
   ⟨2, .q (.bin .gtr), [.tmp 9, .const (.int .i64 4096)], (some 10), none, [], false⟩])
 (.cond (.tmp 10)
  (.seq
  (.reg [⟨0, .q .mv, [.const (.slice none 0 0)], (some 2), none, [], false⟩,
    ⟨1, .q .mv, [.const (.int .i64 2)], (some 3), none, [], false⟩])
  .ret)
  .skip))
 (.seq
 (.seq
 (.reg [⟨0, .q .mv, [.tmp 0], (some 11), none, [], false⟩,
   ⟨1, .e (.call 37), [.tmp 11, .const (.int .u8 0)], (some 12), none, [], false⟩])
 (.cond (.tmp 12)
  (.seq
  (.reg [⟨0, .q .mv, [.const (.slice none 0 0)], (some 2), none, [], false⟩,
    ⟨1, .q .mv, [.const (.int .i64 93)], (some 3), none, [], false⟩])
  .ret)
  .skip))
 (.seq
 (.seq
 (.reg [⟨0, .q .mv, [.tmp 0], (some 13), none, [], false⟩,
   ⟨1, .q .lens, [.tmp 13], (some 14), none, [], false⟩,
   ⟨2, .q (.bin .gtr), [.tmp 14, .const (.int .i64 0)], (some 15), none, [], false⟩,
   ⟨3, .q .mv, [.tmp 15], (some 16), none, [], false⟩,
   ⟨4, .q .mv, [.tmp 0], (some 17), (some (16, true)), [], false⟩,
   ⟨5, .q .ixs, [.tmp 17, .const (.int .i64 0)], (some 18), (some (16, true)), [], false⟩,
   ⟨6, .q (.bin .eql), [.tmp 18, .const (.int .u8 47)], (some 19), (some (16, true)), [], false⟩,
   ⟨7, .q .pick, [.tmp 16, .tmp 19, .const (.bool false)], (some 20), none, [], false⟩])
 (.cond (.tmp 20)
  (.seq
  (.reg [⟨0, .q .mv, [.const (.slice none 0 0)], (some 2), none, [], false⟩,
    ⟨1, .q .mv, [.const (.int .i64 91)], (some 3), none, [], false⟩])
  .ret)
  .skip))
 (.seq
 (.reg [⟨0, .q .mv, [.tmp 0], (some 21), none, [], false⟩,
   ⟨1, .e (.call 38), [.tmp 21], (some 22), none, [], false⟩,
   ⟨2, .q .mv, [.tmp 22], (some 4), none, [], false⟩])
 (.seq
 (.reg [⟨0, .e (.lits 9 #[] 0 []), [], (some 23), none, [], false⟩,
   ⟨1, .q .mv, [.tmp 23], (some 5), none, [], false⟩])
 (.seq
 (.reg [⟨0, .q .mv, [.const (.bool false)], (some 6), none, [], false⟩])
 (.seq
 (.seq
 (.reg [⟨0, .q .mv, [.const (.int .i64 0)], (some 7), none, [], false⟩])
 (.block 0
  (.loop L24_1)))
 (.seq
 (.seq
 (.reg [⟨0, .q .mv, [.tmp 5], (some 63), none, [], false⟩,
   ⟨1, .q .len, [.tmp 63], (some 64), none, [], false⟩,
   ⟨2, .q (.bin .eql), [.tmp 64, .const (.int .i64 0)], (some 65), none, [], false⟩])
 (.cond (.tmp 65)
  (.seq
  (.reg [⟨0, .q .mv, [.const (.slice none 0 0)], (some 2), none, [], false⟩,
    ⟨1, .q .mv, [.const (.int .i64 90)], (some 3), none, [], false⟩])
  .ret)
  .skip))
 (.seq
 (.seq
 (.reg [⟨0, .q .mv, [.tmp 6], (some 66), none, [], false⟩])
 (.cond (.tmp 66)
  (.seq
  (.reg [⟨0, .q .mv, [.const (.slice none 0 0)], (some 2), none, [], false⟩,
    ⟨1, .q .mv, [.const (.int .i64 94)], (some 3), none, [], false⟩])
  .ret)
  .skip))
 (.seq
 (.seq
 (.reg [⟨0, .q .mv, [.tmp 5], (some 67), none, [], false⟩,
   ⟨1, .q .len, [.tmp 67], (some 68), none, [], false⟩,
   ⟨2, .q (.bin .gtr), [.tmp 68, .const (.int .i64 256)], (some 69), none, [], false⟩])
 (.cond (.tmp 69)
  (.seq
  (.reg [⟨0, .q .mv, [.const (.slice none 0 0)], (some 2), none, [], false⟩,
    ⟨1, .q .mv, [.const (.int .i64 95)], (some 3), none, [], false⟩])
  .ret)
  .skip))
 (.seq
 (.reg [⟨0, .q .mv, [.tmp 5], (some 70), none, [], false⟩,
   ⟨1, .q .mv, [.tmp 70], (some 2), none, [], false⟩,
   ⟨2, .q .mv, [.const (.int .i64 0)], (some 3), none, [], false⟩])
 .ret))))))))))))⟩
theorem low24 : lowFn Tryd.prog Tryd.f24 = some L24 := by kernel_rfl
theorem call24 {args : List Value} {H : Heap} {S : Ending → Heap → Prop} (hn : args.length ≤ L24.n) (h : awpC Tryd.prog L24.body (retQ L24.results S) (fun ch H => S (.panicked ch) H) (env0 args) H) : ACalls Tryd.prog 24 args.toArray H S := acalls mixed Tryd.func24 low24 hn h
end Go.Proofs.YtmgpfdfbcnlocaaDoor.Low
