/-
  Functions in short (out of the program's form in Lean, by the kernel).
-/
import Derived.Test.YtigignkgblaoaaaDoorSepCode
import Derived.Test.YtigignkgblaoaaaDoorProg
namespace Go.Proofs.YtigignkgblaoaaaDoor.Low
open Go Go.Proofs.YtigignkgblaoaaaDoor.Sep
theorem mixed : Tryd.prog.follows .mixedOrders = true := by kernel_rfl
/-- satchel/field.Number -/
def L14 : LFn :=
 ⟨22, [.t 2, .t 3],
 (.seq
 (.reg [⟨0, .q .mv, [.const (.int .i64 0)], (some 2), none, [], false⟩,
   ⟨1, .q .mv, [.const (.int .i64 0)], (some 3), none, [], false⟩])
 (.seq
 (.seq
 (.reg [⟨0, .q .mv, [.tmp 0], (some 4), none, [], false⟩,
   ⟨1, .q .len, [.tmp 4], (some 5), none, [], false⟩,
   ⟨2, .q (.bin .gtr), [.tmp 5, .const (.int .i64 0)], (some 6), none, [], false⟩,
   ⟨3, .q .mv, [.tmp 6], (some 7), none, [], false⟩,
   ⟨4, .q .mv, [.tmp 0], (some 8), (some (7, true)), [], false⟩,
   ⟨5, .q (.iad 1), [.tmp 8, .const (.int .i64 0)], (some 9), (some (7, true)), [], false⟩,
   ⟨6, .q .ld, [.tmp 9], (some 10), (some (7, true)), [], false⟩,
   ⟨7, .q (.bin .and), [.tmp 10, .const (.int .u8 128)], (some 11), (some (7, true)), [], false⟩,
   ⟨8, .q (.bin .neq), [.tmp 11, .const (.int .u8 0)], (some 12), (some (7, true)), [], false⟩,
   ⟨9, .q .pick, [.tmp 7, .tmp 12, .const (.bool false)], (some 13), none, [], false⟩])
 (.cond (.tmp 13)
  (.seq
  (.reg [⟨0, .q .mv, [.tmp 0], (some 14), none, [], false⟩,
    ⟨1, .e (.call 12), [.tmp 14], (some 15), none, [], false⟩,
    ⟨2, .q (.ext 0), [.tmp 15], (some 16), none, [], false⟩,
    ⟨3, .q (.ext 1), [.tmp 15], (some 17), none, [], false⟩,
    ⟨4, .q .mv, [.tmp 16], (some 2), none, [], false⟩,
    ⟨5, .q .mv, [.tmp 17], (some 3), none, [], false⟩])
  .ret)
  .skip))
 (.seq
 (.reg [⟨0, .q .mv, [.tmp 0], (some 18), none, [], false⟩,
   ⟨1, .e (.call 10), [.tmp 18], (some 19), none, [], false⟩,
   ⟨2, .q (.ext 0), [.tmp 19], (some 20), none, [], false⟩,
   ⟨3, .q (.ext 1), [.tmp 19], (some 21), none, [], false⟩,
   ⟨4, .q .mv, [.tmp 20], (some 2), none, [], false⟩,
   ⟨5, .q .mv, [.tmp 21], (some 3), none, [], false⟩])
 .ret)))⟩
theorem low14 : lowFn Tryd.prog Tryd.f14 = some L14 := by kernel_rfl
theorem call14 {args : List Value} {H : Heap} {S : Ending → Heap → Prop} (hn : args.length ≤ L14.n) (h : awpC Tryd.prog L14.body (retQ L14.results S) (fun ch H => S (.panicked ch) H) (env0 args) H) : ACalls Tryd.prog 14 args.toArray H S := acalls mixed Tryd.func14 low14 hn h
/-- satchel/satchelref12.Number -/
def L15 : LFn :=
 ⟨21, [.t 2, .t 3],
 (.seq
 (.reg [⟨0, .q .mv, [.const (.int .i64 0)], (some 2), none, [], false⟩,
   ⟨1, .q .mv, [.const (.int .i64 0)], (some 3), none, [], false⟩])
 (.seq
 (.seq
 (.reg [⟨0, .q .mv, [.tmp 0], (some 4), none, [], false⟩,
   ⟨1, .q .len, [.tmp 4], (some 5), none, [], false⟩,
   ⟨2, .q (.bin .gtr), [.tmp 5, .const (.int .i64 0)], (some 6), none, [], false⟩,
   ⟨3, .q .mv, [.tmp 6], (some 7), none, [], false⟩,
   ⟨4, .q .mv, [.tmp 0], (some 8), (some (7, true)), [], false⟩,
   ⟨5, .q (.iad 1), [.tmp 8, .const (.int .i64 0)], (some 9), (some (7, true)), [], false⟩,
   ⟨6, .q .ld, [.tmp 9], (some 10), (some (7, true)), [], false⟩,
   ⟨7, .q (.bin .geq), [.tmp 10, .const (.int .u8 128)], (some 11), (some (7, true)), [], false⟩,
   ⟨8, .q .pick, [.tmp 7, .tmp 11, .const (.bool false)], (some 12), none, [], false⟩])
 (.cond (.tmp 12)
  (.seq
  (.reg [⟨0, .q .mv, [.tmp 0], (some 13), none, [], false⟩,
    ⟨1, .e (.call 13), [.tmp 13], (some 14), none, [], false⟩,
    ⟨2, .q (.ext 0), [.tmp 14], (some 15), none, [], false⟩,
    ⟨3, .q (.ext 1), [.tmp 14], (some 16), none, [], false⟩,
    ⟨4, .q .mv, [.tmp 15], (some 2), none, [], false⟩,
    ⟨5, .q .mv, [.tmp 16], (some 3), none, [], false⟩])
  .ret)
  .skip))
 (.seq
 (.reg [⟨0, .q .mv, [.tmp 0], (some 17), none, [], false⟩,
   ⟨1, .e (.call 11), [.tmp 17], (some 18), none, [], false⟩,
   ⟨2, .q (.ext 0), [.tmp 18], (some 19), none, [], false⟩,
   ⟨3, .q (.ext 1), [.tmp 18], (some 20), none, [], false⟩,
   ⟨4, .q .mv, [.tmp 19], (some 2), none, [], false⟩,
   ⟨5, .q .mv, [.tmp 20], (some 3), none, [], false⟩])
 .ret)))⟩
theorem low15 : lowFn Tryd.prog Tryd.f15 = some L15 := by kernel_rfl
theorem call15 {args : List Value} {H : Heap} {S : Ending → Heap → Prop} (hn : args.length ≤ L15.n) (h : awpC Tryd.prog L15.body (retQ L15.results S) (fun ch H => S (.panicked ch) H) (env0 args) H) : ACalls Tryd.prog 15 args.toArray H S := acalls mixed Tryd.func15 low15 hn h
/-- satchel/field.Text -/
def L16 : LFn :=
 ⟨15, [.t 2],
 (.seq
 (.reg [⟨0, .q .mv, [.const (.string ⟨#[]⟩)], (some 2), none, [], false⟩])
 (.seq
 (.reg [⟨0, .q .mv, [.tmp 0], (some 7), none, [], false⟩,
   ⟨1, .e (.lits 5 #[(.int .u8 0)] 1 [(0, 1)]), [.const (.int .u8 0)], (some 8), none, [], false⟩,
   ⟨2, .e (.call 38), [.tmp 7, .tmp 8], (some 9), none, [], false⟩,
   ⟨3, .q .mv, [.tmp 9], (some 6), none, [], false⟩,
   ⟨4, .q (.ext 0), [.tmp 6], (some 10), none, [], false⟩,
   ⟨5, .q (.ext 1), [.tmp 6], (some 11), none, [], false⟩,
   ⟨6, .q (.ext 2), [.tmp 6], (some 12), none, [], false⟩,
   ⟨7, .q .mv, [.tmp 10], (some 3), none, [], false⟩,
   ⟨8, .q .mv, [.tmp 11], (some 4), none, [], false⟩,
   ⟨9, .q .mv, [.tmp 12], (some 5), none, [], false⟩])
 (.seq
 (.reg [⟨0, .q .mv, [.tmp 3], (some 13), none, [], false⟩,
   ⟨1, .q .b2s, [.tmp 13], (some 14), none, [], false⟩,
   ⟨2, .q .mv, [.tmp 14], (some 2), none, [], false⟩])
 .ret)))⟩
theorem low16 : lowFn Tryd.prog Tryd.f16 = some L16 := by kernel_rfl
theorem call16 {args : List Value} {H : Heap} {S : Ending → Heap → Prop} (hn : args.length ≤ L16.n) (h : awpC Tryd.prog L16.body (retQ L16.results S) (fun ch H => S (.panicked ch) H) (env0 args) H) : ACalls Tryd.prog 16 args.toArray H S := acalls mixed Tryd.func16 low16 hn h
/-- satchel/satchelref12.Text -/
def L17_0 : LCode :=
 (.seq
 (.seq
 (.reg [⟨0, .q .mv, [.tmp 3], (some 4), none, [], false⟩,
   ⟨1, .q .mv, [.tmp 0], (some 5), none, [], false⟩,
   ⟨2, .q .len, [.tmp 5], (some 6), none, [], false⟩,
   ⟨3, .q (.bin .lss), [.tmp 4, .tmp 6], (some 7), none, [], false⟩])
 (.cond (.tmp 7)
  .skip
  (.exit 0)))
 (.seq
 (.block 1
  (.seq
  (.reg [⟨0, .q .mv, [.tmp 0], (some 10), none, [], false⟩,
    ⟨1, .q .mv, [.tmp 3], (some 11), none, [], false⟩,
    ⟨2, .q (.iad 1), [.tmp 10, .tmp 11], (some 12), none, [], false⟩,
    ⟨3, .q .ld, [.tmp 12], (some 13), none, [], false⟩,
    ⟨4, .q (.bin .eql), [.tmp 13, .const (.int .u8 0)], (some 14), none, [], false⟩])
  (.cond (.tmp 14)
   (.seq
   (.reg [⟨0, .q .mv, [.tmp 0], (some 15), none, [], false⟩,
     ⟨1, .q .mv, [.tmp 3], (some 16), none, [], false⟩,
     ⟨2, .q (.slc 1 false true false), [.tmp 15, .tmp 16], (some 17), none, [], false⟩,
     ⟨3, .q .b2s, [.tmp 17], (some 18), none, [], false⟩,
     ⟨4, .q .mv, [.tmp 18], (some 2), none, [], false⟩])
   .ret)
   .skip)))
 (.reg [⟨0, .q .mv, [.tmp 3], (some 8), none, [], false⟩,
   ⟨1, .q (.bin .add), [.tmp 8, .const (.int .i64 1)], (some 9), none, [], false⟩,
   ⟨2, .q .mv, [.tmp 9], (some 3), none, [], false⟩])))
def L17 : LFn :=
 ⟨21, [.t 2],
 (.seq
 (.reg [⟨0, .q .mv, [.const (.string ⟨#[]⟩)], (some 2), none, [], false⟩])
 (.seq
 (.seq
 (.reg [⟨0, .q .mv, [.const (.int .i64 0)], (some 3), none, [], false⟩])
 (.block 0
  (.loop L17_0)))
 (.seq
 (.reg [⟨0, .q .mv, [.tmp 0], (some 19), none, [], false⟩,
   ⟨1, .q .b2s, [.tmp 19], (some 20), none, [], false⟩,
   ⟨2, .q .mv, [.tmp 20], (some 2), none, [], false⟩])
 .ret)))⟩
theorem low17 : lowFn Tryd.prog Tryd.f17 = some L17 := by kernel_rfl
theorem call17 {args : List Value} {H : Heap} {S : Ending → Heap → Prop} (hn : args.length ≤ L17.n) (h : awpC Tryd.prog L17.body (retQ L17.results S) (fun ch H => S (.panicked ch) H) (env0 args) H) : ACalls Tryd.prog 17 args.toArray H S := acalls mixed Tryd.func17 low17 hn h
/-- bytes.Cut -/
def L38 : LFn :=
 ⟨23, [.t 4, .t 5, .t 6],
 (.seq
 (.reg [⟨0, .q .mv, [.const (.slice none 0 0)], (some 4), none, [], false⟩,
   ⟨1, .q .mv, [.const (.slice none 0 0)], (some 5), none, [], false⟩,
   ⟨2, .q .mv, [.const (.bool false)], (some 6), none, [], false⟩])
 (.seq
 (.seq
 (.reg [⟨0, .q .mv, [.tmp 0], (some 8), none, [], false⟩,
   ⟨1, .q .mv, [.tmp 1], (some 9), none, [], false⟩,
   ⟨2, .e (.call 50), [.tmp 8, .tmp 9], (some 10), none, [], false⟩,
   ⟨3, .q .mv, [.tmp 10], (some 7), none, [], false⟩])
 (.seq
 (.reg [⟨0, .q .mv, [.tmp 7], (some 11), none, [], false⟩,
   ⟨1, .q (.bin .geq), [.tmp 11, .const (.int .i64 0)], (some 12), none, [], false⟩])
 (.cond (.tmp 12)
  (.seq
  (.reg [⟨0, .q .mv, [.tmp 0], (some 13), none, [], false⟩,
    ⟨1, .q .mv, [.tmp 7], (some 14), none, [], false⟩,
    ⟨2, .q (.slc 1 false true false), [.tmp 13, .tmp 14], (some 15), none, [], false⟩,
    ⟨3, .q .mv, [.tmp 0], (some 16), none, [], false⟩,
    ⟨4, .q .mv, [.tmp 7], (some 17), none, [], false⟩,
    ⟨5, .q .mv, [.tmp 1], (some 18), none, [], false⟩,
    ⟨6, .q .len, [.tmp 18], (some 19), none, [], false⟩,
    ⟨7, .q (.bin .add), [.tmp 17, .tmp 19], (some 20), none, [], false⟩,
    ⟨8, .q (.slc 1 true false false), [.tmp 16, .tmp 20], (some 21), none, [], false⟩,
    ⟨9, .q .mv, [.tmp 15], (some 4), none, [], false⟩,
    ⟨10, .q .mv, [.tmp 21], (some 5), none, [], false⟩,
    ⟨11, .q .mv, [.const (.bool true)], (some 6), none, [], false⟩])
  .ret)
  .skip)))
 (.seq
 (.reg [⟨0, .q .mv, [.tmp 0], (some 22), none, [], false⟩,
   ⟨1, .q .mv, [.tmp 22], (some 4), none, [], false⟩,
   ⟨2, .q .mv, [.const (.slice none 0 0)], (some 5), none, [], false⟩,
   ⟨3, .q .mv, [.const (.bool false)], (some 6), none, [], false⟩])
 .ret)))⟩
theorem low38 : lowFn Tryd.prog Tryd.f38 = some L38 := by kernel_rfl
theorem call38 {args : List Value} {H : Heap} {S : Ending → Heap → Prop} (hn : args.length ≤ L38.n) (h : awpC Tryd.prog L38.body (retQ L38.results S) (fun ch H => S (.panicked ch) H) (env0 args) H) : ACalls Tryd.prog 38 args.toArray H S := acalls mixed Tryd.func38 low38 hn h
/-- satchel/satchellaw12.FieldReads -/
def L3 : LFn :=
 ⟨99, [.t 2],
 (.seq
 (.reg [⟨0, .q .mv, [.const (.bool false)], (some 2), none, [], false⟩])
 (.seq
 (.reg [⟨0, .e (.lits 5 #[] 0 []), [], (some 17), none, [], false⟩,
   ⟨1, .q .mv, [.tmp 0], (some 18), none, [], false⟩,
   ⟨2, .e (.app 5 1 1 #[(.int .u8 0)]), [.tmp 17, .tmp 18], (some 19), none, [], false⟩,
   ⟨3, .e (.lits 5 #[(.int .u8 0), (.int .u8 0), (.int .u8 0)] 3 [(0, 1), (1, 1), (2, 1)]), [.const (.int .u8 55), .const (.int .u8 55), .const (.int .u8 0)], (some 20), none, [], false⟩,
   ⟨4, .e (.app 5 1 1 #[(.int .u8 0)]), [.tmp 19, .tmp 20], (some 21), none, [], false⟩,
   ⟨5, .q .mv, [.tmp 21], (some 3), none, [], false⟩])
 (.seq
 (.reg [⟨0, .q .mv, [.tmp 3], (some 22), none, [], false⟩,
   ⟨1, .q .mv, [.tmp 0], (some 23), none, [], false⟩,
   ⟨2, .q .len, [.tmp 23], (some 24), none, [], false⟩,
   ⟨3, .q (.slc 1 false true false), [.tmp 22, .tmp 24], (some 25), none, [], false⟩,
   ⟨4, .q .mv, [.tmp 25], (some 4), none, [], false⟩])
 (.seq
 (.reg [⟨0, .q .mv, [.tmp 4], (some 27), none, [], false⟩,
   ⟨1, .e (.call 10), [.tmp 27], (some 28), none, [], false⟩,
   ⟨2, .q .mv, [.tmp 28], (some 26), none, [], false⟩,
   ⟨3, .q (.ext 0), [.tmp 26], (some 29), none, [], false⟩,
   ⟨4, .q (.ext 1), [.tmp 26], (some 30), none, [], false⟩,
   ⟨5, .q .mv, [.tmp 29], (some 5), none, [], false⟩,
   ⟨6, .q .mv, [.tmp 30], (some 6), none, [], false⟩])
 (.seq
 (.reg [⟨0, .q .mv, [.tmp 0], (some 32), none, [], false⟩,
   ⟨1, .e (.call 11), [.tmp 32], (some 33), none, [], false⟩,
   ⟨2, .q .mv, [.tmp 33], (some 31), none, [], false⟩,
   ⟨3, .q (.ext 0), [.tmp 31], (some 34), none, [], false⟩,
   ⟨4, .q (.ext 1), [.tmp 31], (some 35), none, [], false⟩,
   ⟨5, .q .mv, [.tmp 34], (some 7), none, [], false⟩,
   ⟨6, .q .mv, [.tmp 35], (some 8), none, [], false⟩])
 (.seq
 (.reg [⟨0, .q .mv, [.tmp 4], (some 37), none, [], false⟩,
   ⟨1, .e (.call 12), [.tmp 37], (some 38), none, [], false⟩,
   ⟨2, .q .mv, [.tmp 38], (some 36), none, [], false⟩,
   ⟨3, .q (.ext 0), [.tmp 36], (some 39), none, [], false⟩,
   ⟨4, .q (.ext 1), [.tmp 36], (some 40), none, [], false⟩,
   ⟨5, .q .mv, [.tmp 39], (some 9), none, [], false⟩,
   ⟨6, .q .mv, [.tmp 40], (some 10), none, [], false⟩])
 (.seq
 (.reg [⟨0, .q .mv, [.tmp 0], (some 42), none, [], false⟩,
   ⟨1, .e (.call 13), [.tmp 42], (some 43), none, [], false⟩,
   ⟨2, .q .mv, [.tmp 43], (some 41), none, [], false⟩,
   ⟨3, .q (.ext 0), [.tmp 41], (some 44), none, [], false⟩,
   ⟨4, .q (.ext 1), [.tmp 41], (some 45), none, [], false⟩,
   ⟨5, .q .mv, [.tmp 44], (some 11), none, [], false⟩,
   ⟨6, .q .mv, [.tmp 45], (some 12), none, [], false⟩])
 (.seq
 (.reg [⟨0, .q .mv, [.tmp 4], (some 47), none, [], false⟩,
   ⟨1, .e (.call 14), [.tmp 47], (some 48), none, [], false⟩,
   ⟨2, .q .mv, [.tmp 48], (some 46), none, [], false⟩,
   ⟨3, .q (.ext 0), [.tmp 46], (some 49), none, [], false⟩,
   ⟨4, .q (.ext 1), [.tmp 46], (some 50), none, [], false⟩,
   ⟨5, .q .mv, [.tmp 49], (some 13), none, [], false⟩,
   ⟨6, .q .mv, [.tmp 50], (some 14), none, [], false⟩])
 (.seq
 (.reg [⟨0, .q .mv, [.tmp 0], (some 52), none, [], false⟩,
   ⟨1, .e (.call 15), [.tmp 52], (some 53), none, [], false⟩,
   ⟨2, .q .mv, [.tmp 53], (some 51), none, [], false⟩,
   ⟨3, .q (.ext 0), [.tmp 51], (some 54), none, [], false⟩,
   ⟨4, .q (.ext 1), [.tmp 51], (some 55), none, [], false⟩,
   ⟨5, .q .mv, [.tmp 54], (some 15), none, [], false⟩,
   ⟨6, .q .mv, [.tmp 55], (some 16), none, [], false⟩])
 (.seq
 (.reg [⟨0, .q .mv, [.tmp 5], (some 56), none, [], false⟩,
   ⟨1, .q .mv, [.tmp 7], (some 57), none, [], false⟩,
   ⟨2, .q (.bin .eql), [.tmp 56, .tmp 57], (some 58), none, [], false⟩,
   ⟨3, .q .mv, [.tmp 58], (some 59), none, [], false⟩,
   ⟨4, .q .mv, [.tmp 6], (some 60), (some (59, true)), [], false⟩,
   ⟨5, .q .mv, [.tmp 8], (some 61), (some (59, true)), [], false⟩,
   ⟨6, .q (.bin .eql), [.tmp 60, .tmp 61], (some 62), (some (59, true)), [], false⟩,
   ⟨7, .q .pick, [.tmp 59, .tmp 62, .const (.bool false)], (some 63), none, [], false⟩,
   ⟨8, .q .mv, [.tmp 63], (some 64), none, [], false⟩,
   ⟨9, .q .mv, [.tmp 9], (some 65), (some (64, true)), [], false⟩,
   ⟨10, .q .mv, [.tmp 11], (some 66), (some (64, true)), [], false⟩,
   ⟨11, .q (.bin .eql), [.tmp 65, .tmp 66], (some 67), (some (64, true)), [], false⟩,
   ⟨12, .q .pick, [.tmp 64, .tmp 67, .const (.bool false)], (some 68), none, [], false⟩,
   ⟨13, .q .mv, [.tmp 68], (some 69), none, [], false⟩,
   ⟨14, .q .mv, [.tmp 10], (some 70), (some (69, true)), [], false⟩,
   ⟨15, .q .mv, [.tmp 12], (some 71), (some (69, true)), [], false⟩,
   ⟨16, .q (.bin .eql), [.tmp 70, .tmp 71], (some 72), (some (69, true)), [], false⟩,
   ⟨17, .q .pick, [.tmp 69, .tmp 72, .const (.bool false)], (some 73), none, [], false⟩,
   ⟨18, .q .mv, [.tmp 73], (some 74), none, [], false⟩,
   ⟨19, .q .mv, [.tmp 13], (some 75), (some (74, true)), [], false⟩,
   ⟨20, .q .mv, [.tmp 15], (some 76), (some (74, true)), [], false⟩,
   ⟨21, .q (.bin .eql), [.tmp 75, .tmp 76], (some 77), (some (74, true)), [], false⟩,
   ⟨22, .q .pick, [.tmp 74, .tmp 77, .const (.bool false)], (some 78), none, [], false⟩,
   ⟨23, .q .mv, [.tmp 78], (some 79), none, [], false⟩,
   ⟨24, .q .mv, [.tmp 14], (some 80), (some (79, true)), [], false⟩,
   ⟨25, .q .mv, [.tmp 16], (some 81), (some (79, true)), [], false⟩,
   ⟨26, .q (.bin .eql), [.tmp 80, .tmp 81], (some 82), (some (79, true)), [], false⟩,
   ⟨27, .q .pick, [.tmp 79, .tmp 82, .const (.bool false)], (some 83), none, [], false⟩,
   ⟨28, .q .mv, [.tmp 83], (some 84), none, [], false⟩,
   ⟨29, .q .mv, [.tmp 4], (some 85), (some (84, true)), [], false⟩,
   ⟨30, .e (.call 16), [.tmp 85], (some 86), (some (84, true)), [], false⟩,
   ⟨31, .q .mv, [.tmp 0], (some 87), (some (84, true)), [], false⟩,
   ⟨32, .e (.call 17), [.tmp 87], (some 88), (some (84, true)), [], false⟩,
   ⟨33, .q (.bin .eql), [.tmp 86, .tmp 88], (some 89), (some (84, true)), [], false⟩,
   ⟨34, .q .pick, [.tmp 84, .tmp 89, .const (.bool false)], (some 90), none, [], false⟩,
   ⟨35, .q .mv, [.tmp 90], (some 91), none, [], false⟩,
   ⟨36, .q .mv, [.tmp 3], (some 92), (some (91, true)), [], false⟩,
   ⟨37, .q .b2s, [.tmp 92], (some 93), (some (91, true)), [], false⟩,
   ⟨38, .q .mv, [.tmp 0], (some 94), (some (91, true)), [], false⟩,
   ⟨39, .q .b2s, [.tmp 94], (some 95), (some (91, true)), [], false⟩,
   ⟨40, .q (.bin .add), [.tmp 95, .const (.string ⟨#[55, 55, 0]⟩)], (some 96), (some (91, true)), [], false⟩,
   ⟨41, .q (.bin .eql), [.tmp 93, .tmp 96], (some 97), (some (91, true)), [], false⟩,
   ⟨42, .q .pick, [.tmp 91, .tmp 97, .const (.bool false)], (some 98), none, [], false⟩,
   ⟨43, .q .mv, [.tmp 98], (some 2), none, [], false⟩])
 .ret))))))))))⟩
theorem low3 : lowFn Tryd.prog Tryd.f3 = some L3 := by kernel_rfl
theorem call3 {args : List Value} {H : Heap} {S : Ending → Heap → Prop} (hn : args.length ≤ L3.n) (h : awpC Tryd.prog L3.body (retQ L3.results S) (fun ch H => S (.panicked ch) H) (env0 args) H) : ACalls Tryd.prog 3 args.toArray H S := acalls mixed Tryd.func3 low3 hn h
end Go.Proofs.YtigignkgblaoaaaDoor.Low
