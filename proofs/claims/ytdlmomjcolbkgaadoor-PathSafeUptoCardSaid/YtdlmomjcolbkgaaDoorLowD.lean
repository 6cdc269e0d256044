/-
  Functions in short (out of the program's form in Lean, by the kernel).
-/
import Derived.Test.YtdlmomjcolbkgaaDoorSepCode
import Derived.Test.YtdlmomjcolbkgaaDoorProg
namespace Go.Proofs.YtdlmomjcolbkgaaDoor.Low
open Go Go.Proofs.YtdlmomjcolbkgaaDoor.Sep
theorem mixed : Tryd.prog.follows .mixedOrders = true := by kernel_rfl
/-- satchel/path.Compare -/
def L16 : LFn :=
 ⟨8, [.t 4],
 (.seq
 (.reg [⟨0, .q .mv, [.const (.int .i64 0)], (some 4), none, [], false⟩])
 (.seq
 (.reg [⟨0, .q .mv, [.tmp 0], (some 5), none, [], false⟩,
   ⟨1, .q .mv, [.tmp 1], (some 6), none, [], false⟩,
   ⟨2, .e (.call 31), [.tmp 5, .tmp 6], (some 7), none, [], false⟩,
   ⟨3, .q .mv, [.tmp 7], (some 4), none, [], false⟩])
 .ret))⟩
theorem low16 : lowFn Tryd.prog Tryd.f16 = some L16 := by kernel_rfl
theorem call16 {args : List Value} {H : Heap} {S : Ending → Heap → Prop} (hn : args.length ≤ L16.n) (h : awpC Tryd.prog L16.body (retQ L16.results S) (fun ch H => S (.panicked ch) H) (env0 args) H) : ACalls Tryd.prog 16 args.toArray H S := acalls mixed Tryd.func16 low16 hn h
/-- slices.Compare[[]string,string] -/
def L31_0 : LCode :=
 (.seq
 (.reg [⟨0, .q (.bin .lss), [.tmp 11, .tmp 10], (some 12), none, [], false⟩])
 (.seq
 (.cond (.tmp 12)
  .skip
  (.exit 0))
 (.seq
 (.block 1
  (.seq
  (.reg [⟨0, .q .mv, [.tmp 11], (some 13), none, [], false⟩,
    ⟨1, .q (.iad 1), [.tmp 9, .tmp 11], (some 14), none, [], false⟩,
    ⟨2, .q .ld, [.tmp 14], (some 15), none, [], false⟩,
    ⟨3, .q .mv, [.tmp 13], (some 5), none, [], false⟩,
    ⟨4, .q .mv, [.tmp 15], (some 6), none, [], false⟩])
  (.seq
  (.seq
  (.reg [⟨0, .q .mv, [.tmp 5], (some 16), none, [], false⟩,
    ⟨1, .q .mv, [.tmp 1], (some 17), none, [], false⟩,
    ⟨2, .q .len, [.tmp 17], (some 18), none, [], false⟩,
    ⟨3, .q (.bin .geq), [.tmp 16, .tmp 18], (some 19), none, [], false⟩])
  (.cond (.tmp 19)
   (.seq
   (.reg [⟨0, .q .mv, [.const (.int .i64 1)], (some 4), none, [], false⟩])
   .ret)
   .skip))
  (.seq
  (.reg [⟨0, .q .mv, [.tmp 1], (some 20), none, [], false⟩,
    ⟨1, .q .mv, [.tmp 5], (some 21), none, [], false⟩,
    ⟨2, .q (.iad 1), [.tmp 20, .tmp 21], (some 22), none, [], false⟩,
    ⟨3, .q .ld, [.tmp 22], (some 23), none, [], false⟩,
    ⟨4, .q .mv, [.tmp 23], (some 7), none, [], false⟩])
  (.seq
  (.reg [⟨0, .q .mv, [.tmp 6], (some 24), none, [], false⟩,
    ⟨1, .q .mv, [.tmp 7], (some 25), none, [], false⟩,
    ⟨2, .e (.call 44), [.tmp 24, .tmp 25], (some 26), none, [], false⟩,
    ⟨3, .q .mv, [.tmp 26], (some 8), none, [], false⟩])
  (.seq
  (.reg [⟨0, .q .mv, [.tmp 8], (some 27), none, [], false⟩,
    ⟨1, .q (.bin .neq), [.tmp 27, .const (.int .i64 0)], (some 28), none, [], false⟩])
  (.cond (.tmp 28)
   (.seq
   (.reg [⟨0, .q .mv, [.tmp 8], (some 29), none, [], false⟩,
     ⟨1, .q .mv, [.tmp 29], (some 4), none, [], false⟩])
   .ret)
   .skip)))))))
 (.reg [⟨0, .q (.bin .add), [.tmp 11, .const (.int .i64 1)], (some 30), none, [], false⟩,
   ⟨1, .q .mv, [.tmp 30], (some 11), none, [], false⟩]))))
def L31 : LFn :=
 ⟨36, [.t 4],
 (.seq
 (.reg [⟨0, .q .mv, [.const (.int .i64 0)], (some 4), none, [], false⟩])
 (.seq
 (.seq
 (.reg [⟨0, .q .mv, [.tmp 0], (some 9), none, [], false⟩,
   ⟨1, .q .len, [.tmp 9], (some 10), none, [], false⟩,
   ⟨2, .q .mv, [.const (.int .i64 0)], (some 11), none, [], false⟩])
 (.block 0
  (.loop L31_0)))
 (.seq
 (.seq
 (.reg [⟨0, .q .mv, [.tmp 0], (some 31), none, [], false⟩,
   ⟨1, .q .len, [.tmp 31], (some 32), none, [], false⟩,
   ⟨2, .q .mv, [.tmp 1], (some 33), none, [], false⟩,
   ⟨3, .q .len, [.tmp 33], (some 34), none, [], false⟩,
   ⟨4, .q (.bin .lss), [.tmp 32, .tmp 34], (some 35), none, [], false⟩])
 (.cond (.tmp 35)
  (.seq
  (.reg [⟨0, .q .mv, [.const (.int .i64 (-1))], (some 4), none, [], false⟩])
  .ret)
  .skip))
 (.seq
 (.reg [⟨0, .q .mv, [.const (.int .i64 0)], (some 4), none, [], false⟩])
 .ret))))⟩
theorem low31 : lowFn Tryd.prog Tryd.f31 = some L31 := by kernel_rfl
theorem call31 {args : List Value} {H : Heap} {S : Ending → Heap → Prop} (hn : args.length ≤ L31.n) (h : awpC Tryd.prog L31.body (retQ L31.results S) (fun ch H => S (.panicked ch) H) (env0 args) H) : ACalls Tryd.prog 31 args.toArray H S := acalls mixed Tryd.func31 low31 hn h
/-- cmp.Compare[string] -/
def L44 : LFn :=
 ⟨20, [.t 4],
 (.seq
 (.reg [⟨0, .q .mv, [.const (.int .i64 0)], (some 4), none, [], false⟩])
 (.seq
 (.reg [⟨0, .q .mv, [.tmp 0], (some 7), none, [], false⟩,
   ⟨1, .e (.call 53), [.tmp 7], (some 8), none, [], false⟩,
   ⟨2, .q .mv, [.tmp 8], (some 5), none, [], false⟩])
 (.seq
 (.reg [⟨0, .q .mv, [.tmp 1], (some 9), none, [], false⟩,
   ⟨1, .e (.call 53), [.tmp 9], (some 10), none, [], false⟩,
   ⟨2, .q .mv, [.tmp 10], (some 6), none, [], false⟩])
 (.seq
 (.seq
 (.reg [⟨0, .q .mv, [.tmp 5], (some 11), none, [], false⟩])
 (.cond (.tmp 11)
  (.seq
  (.seq
  (.reg [⟨0, .q .mv, [.tmp 6], (some 12), none, [], false⟩])
  (.cond (.tmp 12)
   (.seq
   (.reg [⟨0, .q .mv, [.const (.int .i64 0)], (some 4), none, [], false⟩])
   .ret)
   .skip))
  (.seq
  (.reg [⟨0, .q .mv, [.const (.int .i64 (-1))], (some 4), none, [], false⟩])
  .ret))
  .skip))
 (.seq
 (.seq
 (.reg [⟨0, .q .mv, [.tmp 6], (some 13), none, [], false⟩])
 (.cond (.tmp 13)
  (.seq
  (.reg [⟨0, .q .mv, [.const (.int .i64 1)], (some 4), none, [], false⟩])
  .ret)
  .skip))
 (.seq
 (.seq
 (.reg [⟨0, .q .mv, [.tmp 0], (some 14), none, [], false⟩,
   ⟨1, .q .mv, [.tmp 1], (some 15), none, [], false⟩,
   ⟨2, .q (.bin .lss), [.tmp 14, .tmp 15], (some 16), none, [], false⟩])
 (.cond (.tmp 16)
  (.seq
  (.reg [⟨0, .q .mv, [.const (.int .i64 (-1))], (some 4), none, [], false⟩])
  .ret)
  .skip))
 (.seq
 (.seq
 (.reg [⟨0, .q .mv, [.tmp 0], (some 17), none, [], false⟩,
   ⟨1, .q .mv, [.tmp 1], (some 18), none, [], false⟩,
   ⟨2, .q (.bin .gtr), [.tmp 17, .tmp 18], (some 19), none, [], false⟩])
 (.cond (.tmp 19)
  (.seq
  (.reg [⟨0, .q .mv, [.const (.int .i64 1)], (some 4), none, [], false⟩])
  .ret)
  .skip))
 (.seq
 (.reg [⟨0, .q .mv, [.const (.int .i64 0)], (some 4), none, [], false⟩])
 .ret))))))))⟩
theorem low44 : lowFn Tryd.prog Tryd.f44 = some L44 := by kernel_rfl
theorem call44 {args : List Value} {H : Heap} {S : Ending → Heap → Prop} (hn : args.length ≤ L44.n) (h : awpC Tryd.prog L44.body (retQ L44.results S) (fun ch H => S (.panicked ch) H) (env0 args) H) : ACalls Tryd.prog 44 args.toArray H S := acalls mixed Tryd.func44 low44 hn h
/-- cmp.isNaN[string] -/
def L53 : LFn :=
 ⟨6, [.t 2],
 (.seq
 (.reg [⟨0, .q .mv, [.const (.bool false)], (some 2), none, [], false⟩])
 (.seq
 (.reg [⟨0, .q .mv, [.tmp 0], (some 3), none, [], false⟩,
   ⟨1, .q .mv, [.tmp 0], (some 4), none, [], false⟩,
   ⟨2, .q (.bin .neq), [.tmp 3, .tmp 4], (some 5), none, [], false⟩,
   ⟨3, .q .mv, [.tmp 5], (some 2), none, [], false⟩])
 .ret))⟩
theorem low53 : lowFn Tryd.prog Tryd.f53 = some L53 := by kernel_rfl
theorem call53 {args : List Value} {H : Heap} {S : Ending → Heap → Prop} (hn : args.length ≤ L53.n) (h : awpC Tryd.prog L53.body (retQ L53.results S) (fun ch H => S (.panicked ch) H) (env0 args) H) : ACalls Tryd.prog 53 args.toArray H S := acalls mixed Tryd.func53 low53 hn h
/-- satchel/satchellaw09.PathForm -/
def L5_0 : LCode :=
 (.seq
 (.seq
 (.reg [⟨0, .q .mv, [.tmp 6], (some 45), none, [], false⟩,
   ⟨1, .q (.bin .neq), [.tmp 45, .const (.int .i64 0)], (some 46), none, [], false⟩,
   ⟨2, .q .mv, [.tmp 46], (some 47), none, [], false⟩,
   ⟨3, .q .mv, [.tmp 8], (some 48), (some (47, false)), [], false⟩,
   ⟨4, .q (.bin .neq), [.tmp 48, .const (.int .i64 0)], (some 49), (some (47, false)), [], false⟩,
   ⟨5, .q .pick, [.tmp 47, .const (.bool true), .tmp 49], (some 50), none, [], false⟩])
 (.cond (.tmp 50)
  (.seq
  (.reg [⟨0, .e (.call 13), [.const (.string ⟨#[97, 47, 47, 46, 47, 98, 47]⟩)], (some 52), none, [], false⟩,
    ⟨1, .q .mv, [.tmp 52], (some 51), none, [], false⟩,
    ⟨2, .q (.ext 0), [.tmp 51], (some 53), none, [], false⟩,
    ⟨3, .q (.ext 1), [.tmp 51], (some 54), none, [], false⟩,
    ⟨4, .q .mv, [.tmp 53], (some 11), none, [], false⟩,
    ⟨5, .q .mv, [.tmp 54], (some 12), none, [], false⟩])
  (.seq
  (.reg [⟨0, .q .mv, [.tmp 11], (some 55), none, [], false⟩,
    ⟨1, .q (.bin .eql), [.tmp 55, .const (.string ⟨#[97, 47, 98]⟩)], (some 56), none, [], false⟩,
    ⟨2, .q .mv, [.tmp 56], (some 57), none, [], false⟩,
    ⟨3, .q .mv, [.tmp 12], (some 58), (some (57, true)), [], false⟩,
    ⟨4, .q (.bin .eql), [.tmp 58, .const (.int .i64 0)], (some 59), (some (57, true)), [], false⟩,
    ⟨5, .q .pick, [.tmp 57, .tmp 59, .const (.bool false)], (some 60), none, [], false⟩,
    ⟨6, .q .mv, [.tmp 60], (some 4), none, [], false⟩])
  .ret))
  .skip))
 (.seq
 (.reg [⟨0, .q .mv, [.tmp 0], (some 62), none, [], false⟩,
   ⟨1, .e (.call 11), [.tmp 62], (some 63), none, [], false⟩,
   ⟨2, .q .mv, [.tmp 63], (some 61), none, [], false⟩,
   ⟨3, .q (.ext 0), [.tmp 61], (some 64), none, [], false⟩,
   ⟨4, .q (.ext 1), [.tmp 61], (some 65), none, [], false⟩,
   ⟨5, .q .mv, [.tmp 64], (some 13), none, [], false⟩,
   ⟨6, .q .mv, [.tmp 65], (some 14), none, [], false⟩])
 (.seq
 (.reg [⟨0, .q .mv, [.tmp 1], (some 67), none, [], false⟩,
   ⟨1, .e (.call 11), [.tmp 67], (some 68), none, [], false⟩,
   ⟨2, .q .mv, [.tmp 68], (some 66), none, [], false⟩,
   ⟨3, .q (.ext 0), [.tmp 66], (some 69), none, [], false⟩,
   ⟨4, .q (.ext 1), [.tmp 66], (some 70), none, [], false⟩,
   ⟨5, .q .mv, [.tmp 69], (some 15), none, [], false⟩,
   ⟨6, .q .mv, [.tmp 70], (some 16), none, [], false⟩])
 (.seq
 (.reg [⟨0, .q .mv, [.tmp 5], (some 71), none, [], false⟩,
   ⟨1, .q .mv, [.tmp 7], (some 72), none, [], false⟩,
   ⟨2, .q (.bin .eql), [.tmp 71, .tmp 72], (some 73), none, [], false⟩,
   ⟨3, .q .mv, [.tmp 13], (some 74), none, [], false⟩,
   ⟨4, .q .mv, [.tmp 15], (some 75), none, [], false⟩,
   ⟨5, .e (.call 10), [.tmp 74, .tmp 75], (some 76), none, [], false⟩,
   ⟨6, .q (.eqb false), [.tmp 73, .tmp 76], (some 77), none, [], false⟩,
   ⟨7, .q .mv, [.tmp 77], (some 78), none, [], false⟩,
   ⟨8, .q .mv, [.tmp 13], (some 79), (some (78, true)), [], false⟩,
   ⟨9, .q .mv, [.tmp 15], (some 80), (some (78, true)), [], false⟩,
   ⟨10, .e (.call 16), [.tmp 79, .tmp 80], (some 81), (some (78, true)), [], false⟩,
   ⟨11, .q (.bin .eql), [.tmp 81, .const (.int .i64 0)], (some 82), (some (78, true)), [], false⟩,
   ⟨12, .q .mv, [.tmp 5], (some 83), (some (78, true)), [], false⟩,
   ⟨13, .q .mv, [.tmp 7], (some 84), (some (78, true)), [], false⟩,
   ⟨14, .q (.bin .eql), [.tmp 83, .tmp 84], (some 85), (some (78, true)), [], false⟩,
   ⟨15, .q (.eqb false), [.tmp 82, .tmp 85], (some 86), (some (78, true)), [], false⟩,
   ⟨16, .q .pick, [.tmp 78, .tmp 86, .const (.bool false)], (some 87), none, [], false⟩,
   ⟨17, .q .mv, [.tmp 87], (some 4), none, [], false⟩])
 .ret))))
def L5 : LFn :=
 ⟨88, [.t 4],
 (.seq
 (.reg [⟨0, .q .mv, [.const (.bool false)], (some 4), none, [], false⟩])
 (.seq
 (.reg [⟨0, .q .mv, [.tmp 0], (some 18), none, [], false⟩,
   ⟨1, .e (.call 13), [.tmp 18], (some 19), none, [], false⟩,
   ⟨2, .q .mv, [.tmp 19], (some 17), none, [], false⟩,
   ⟨3, .q (.ext 0), [.tmp 17], (some 20), none, [], false⟩,
   ⟨4, .q (.ext 1), [.tmp 17], (some 21), none, [], false⟩,
   ⟨5, .q .mv, [.tmp 20], (some 5), none, [], false⟩,
   ⟨6, .q .mv, [.tmp 21], (some 6), none, [], false⟩])
 (.seq
 (.reg [⟨0, .q .mv, [.tmp 1], (some 23), none, [], false⟩,
   ⟨1, .e (.call 13), [.tmp 23], (some 24), none, [], false⟩,
   ⟨2, .q .mv, [.tmp 24], (some 22), none, [], false⟩,
   ⟨3, .q (.ext 0), [.tmp 22], (some 25), none, [], false⟩,
   ⟨4, .q (.ext 1), [.tmp 22], (some 26), none, [], false⟩,
   ⟨5, .q .mv, [.tmp 25], (some 7), none, [], false⟩,
   ⟨6, .q .mv, [.tmp 26], (some 8), none, [], false⟩])
 (.seq
 (.seq
 (.reg [⟨0, .q .mv, [.tmp 6], (some 27), none, [], false⟩,
   ⟨1, .q (.bin .eql), [.tmp 27, .const (.int .i64 0)], (some 28), none, [], false⟩])
 (.cond (.tmp 28)
  (.seq
  (.reg [⟨0, .q .mv, [.tmp 5], (some 30), none, [], false⟩,
    ⟨1, .e (.call 13), [.tmp 30], (some 31), none, [], false⟩,
    ⟨2, .q .mv, [.tmp 31], (some 29), none, [], false⟩,
    ⟨3, .q (.ext 0), [.tmp 29], (some 32), none, [], false⟩,
    ⟨4, .q (.ext 1), [.tmp 29], (some 33), none, [], false⟩,
    ⟨5, .q .mv, [.tmp 32], (some 9), none, [], false⟩,
    ⟨6, .q .mv, [.tmp 33], (some 10), none, [], false⟩])
  (.seq
  (.reg [⟨0, .q .mv, [.tmp 10], (some 34), none, [], false⟩,
    ⟨1, .q (.bin .neq), [.tmp 34, .const (.int .i64 0)], (some 35), none, [], false⟩,
    ⟨2, .q .mv, [.tmp 35], (some 36), none, [], false⟩,
    ⟨3, .q .mv, [.tmp 9], (some 37), (some (36, false)), [], false⟩,
    ⟨4, .q .mv, [.tmp 5], (some 38), (some (36, false)), [], false⟩,
    ⟨5, .q (.bin .neq), [.tmp 37, .tmp 38], (some 39), (some (36, false)), [], false⟩,
    ⟨6, .q .pick, [.tmp 36, .const (.bool true), .tmp 39], (some 40), none, [], false⟩,
    ⟨7, .q .mv, [.tmp 40], (some 41), none, [], false⟩,
    ⟨8, .q .mv, [.tmp 5], (some 42), (some (41, false)), [], false⟩,
    ⟨9, .q (.bin .eql), [.tmp 42, .const (.string ⟨#[]⟩)], (some 43), (some (41, false)), [], false⟩,
    ⟨10, .q .pick, [.tmp 41, .const (.bool true), .tmp 43], (some 44), none, [], false⟩])
  (.cond (.tmp 44)
   (.seq
   (.reg [⟨0, .q .mv, [.const (.bool false)], (some 4), none, [], false⟩])
   .ret)
   .skip)))
  .skip))
 L5_0))))⟩
theorem low5 : lowFn Tryd.prog Tryd.f5 = some L5 := by kernel_rfl
theorem call5 {args : List Value} {H : Heap} {S : Ending → Heap → Prop} (hn : args.length ≤ L5.n) (h : awpC Tryd.prog L5.body (retQ L5.results S) (fun ch H => S (.panicked ch) H) (env0 args) H) : ACalls Tryd.prog 5 args.toArray H S := acalls mixed Tryd.func5 low5 hn h
/-- satchel/satchellaw09.PathSafe -/
def L6_0 : LCode :=
 (.seq
 (.seq
 (.reg [⟨0, .q .mv, [.tmp 10], (some 79), none, [], false⟩,
   ⟨1, .q .mv, [.tmp 5], (some 80), none, [], false⟩,
   ⟨2, .q .mv, [.tmp 9], (some 81), none, [], false⟩,
   ⟨3, .q (.iad 1), [.tmp 80, .tmp 81], (some 82), none, [], false⟩,
   ⟨4, .q .ld, [.tmp 82], (some 83), none, [], false⟩,
   ⟨5, .q .lens, [.tmp 83], (some 84), none, [], false⟩,
   ⟨6, .q (.bin .lss), [.tmp 79, .tmp 84], (some 85), none, [], false⟩])
 (.cond (.tmp 85)
  .skip
  (.exit 2)))
 (.seq
 (.block 3
  (.seq
  (.reg [⟨0, .q .mv, [.tmp 5], (some 88), none, [], false⟩,
    ⟨1, .q .mv, [.tmp 9], (some 89), none, [], false⟩,
    ⟨2, .q (.iad 1), [.tmp 88, .tmp 89], (some 90), none, [], false⟩,
    ⟨3, .q .ld, [.tmp 90], (some 91), none, [], false⟩,
    ⟨4, .q .mv, [.tmp 10], (some 92), none, [], false⟩,
    ⟨5, .q .ixs, [.tmp 91, .tmp 92], (some 93), none, [], false⟩,
    ⟨6, .q (.bin .eql), [.tmp 93, .const (.int .u8 47)], (some 94), none, [], false⟩,
    ⟨7, .q .mv, [.tmp 94], (some 95), none, [], false⟩,
    ⟨8, .q .mv, [.tmp 5], (some 96), (some (95, false)), [], false⟩,
    ⟨9, .q .mv, [.tmp 9], (some 97), (some (95, false)), [], false⟩,
    ⟨10, .q (.iad 1), [.tmp 96, .tmp 97], (some 98), (some (95, false)), [], false⟩,
    ⟨11, .q .ld, [.tmp 98], (some 99), (some (95, false)), [], false⟩,
    ⟨12, .q .mv, [.tmp 10], (some 100), (some (95, false)), [], false⟩,
    ⟨13, .q .ixs, [.tmp 99, .tmp 100], (some 101), (some (95, false)), [], false⟩,
    ⟨14, .q (.bin .eql), [.tmp 101, .const (.int .u8 0)], (some 102), (some (95, false)), [], false⟩,
    ⟨15, .q .pick, [.tmp 95, .const (.bool true), .tmp 102], (some 103), none, [], false⟩])
  (.cond (.tmp 103)
   (.seq
   (.reg [⟨0, .q .mv, [.const (.bool false)], (some 4), none, [], false⟩])
   .ret)
   .skip)))
 (.reg [⟨0, .q .mv, [.tmp 10], (some 86), none, [], false⟩,
   ⟨1, .q (.bin .add), [.tmp 86, .const (.int .i64 1)], (some 87), none, [], false⟩,
   ⟨2, .q .mv, [.tmp 87], (some 10), none, [], false⟩])))
def L6_1 : LCode :=
 (.seq
 (.seq
 (.reg [⟨0, .q .mv, [.tmp 9], (some 46), none, [], false⟩,
   ⟨1, .q .mv, [.tmp 5], (some 47), none, [], false⟩,
   ⟨2, .q .len, [.tmp 47], (some 48), none, [], false⟩,
   ⟨3, .q (.bin .lss), [.tmp 46, .tmp 48], (some 49), none, [], false⟩])
 (.cond (.tmp 49)
  .skip
  (.exit 0)))
 (.seq
 (.block 1
  (.seq
  (.seq
  (.reg [⟨0, .q .mv, [.tmp 5], (some 52), none, [], false⟩,
    ⟨1, .q .mv, [.tmp 9], (some 53), none, [], false⟩,
    ⟨2, .q (.iad 1), [.tmp 52, .tmp 53], (some 54), none, [], false⟩,
    ⟨3, .q .ld, [.tmp 54], (some 55), none, [], false⟩,
    ⟨4, .q (.bin .eql), [.tmp 55, .const (.string ⟨#[]⟩)], (some 56), none, [], false⟩,
    ⟨5, .q .mv, [.tmp 56], (some 57), none, [], false⟩,
    ⟨6, .q .mv, [.tmp 5], (some 58), (some (57, false)), [], false⟩,
    ⟨7, .q .mv, [.tmp 9], (some 59), (some (57, false)), [], false⟩,
    ⟨8, .q (.iad 1), [.tmp 58, .tmp 59], (some 60), (some (57, false)), [], false⟩,
    ⟨9, .q .ld, [.tmp 60], (some 61), (some (57, false)), [], false⟩,
    ⟨10, .q (.bin .eql), [.tmp 61, .const (.string ⟨#[46]⟩)], (some 62), (some (57, false)), [], false⟩,
    ⟨11, .q .pick, [.tmp 57, .const (.bool true), .tmp 62], (some 63), none, [], false⟩,
    ⟨12, .q .mv, [.tmp 63], (some 64), none, [], false⟩,
    ⟨13, .q .mv, [.tmp 5], (some 65), (some (64, false)), [], false⟩,
    ⟨14, .q .mv, [.tmp 9], (some 66), (some (64, false)), [], false⟩,
    ⟨15, .q (.iad 1), [.tmp 65, .tmp 66], (some 67), (some (64, false)), [], false⟩,
    ⟨16, .q .ld, [.tmp 67], (some 68), (some (64, false)), [], false⟩,
    ⟨17, .q (.bin .eql), [.tmp 68, .const (.string ⟨#[46, 46]⟩)], (some 69), (some (64, false)), [], false⟩,
    ⟨18, .q .pick, [.tmp 64, .const (.bool true), .tmp 69], (some 70), none, [], false⟩,
    ⟨19, .q .mv, [.tmp 70], (some 71), none, [], false⟩,
    ⟨20, .q .mv, [.tmp 5], (some 72), (some (71, false)), [], false⟩,
    ⟨21, .q .mv, [.tmp 9], (some 73), (some (71, false)), [], false⟩,
    ⟨22, .q (.iad 1), [.tmp 72, .tmp 73], (some 74), (some (71, false)), [], false⟩,
    ⟨23, .q .ld, [.tmp 74], (some 75), (some (71, false)), [], false⟩,
    ⟨24, .q .lens, [.tmp 75], (some 76), (some (71, false)), [], false⟩,
    ⟨25, .q (.bin .gtr), [.tmp 76, .const (.int .i64 255)], (some 77), (some (71, false)), [], false⟩,
    ⟨26, .q .pick, [.tmp 71, .const (.bool true), .tmp 77], (some 78), none, [], false⟩])
  (.cond (.tmp 78)
   (.seq
   (.reg [⟨0, .q .mv, [.const (.bool false)], (some 4), none, [], false⟩])
   .ret)
   .skip))
  (.seq
  (.reg [⟨0, .q .mv, [.const (.int .i64 0)], (some 10), none, [], false⟩])
  (.block 2
   (.loop L6_0)))))
 (.reg [⟨0, .q .mv, [.tmp 9], (some 50), none, [], false⟩,
   ⟨1, .q (.bin .add), [.tmp 50, .const (.int .i64 1)], (some 51), none, [], false⟩,
   ⟨2, .q .mv, [.tmp 51], (some 9), none, [], false⟩])))
def L6_2 : LCode :=
 (.seq
 (.reg [⟨0, .q .mv, [.tmp 5], (some 105), none, [], false⟩,
   ⟨1, .e (.call 17), [.tmp 105], (some 106), none, [], false⟩,
   ⟨2, .q .mv, [.tmp 106], (some 104), none, [], false⟩,
   ⟨3, .q (.ext 0), [.tmp 104], (some 107), none, [], false⟩,
   ⟨4, .q (.ext 1), [.tmp 104], (some 108), none, [], false⟩,
   ⟨5, .q .mv, [.tmp 107], (some 11), none, [], false⟩,
   ⟨6, .q .mv, [.tmp 108], (some 12), none, [], false⟩])
 (.seq
 (.seq
 (.reg [⟨0, .q .mv, [.tmp 12], (some 109), none, [], false⟩,
   ⟨1, .q (.bin .neq), [.tmp 109, .const (.int .i64 0)], (some 110), none, [], false⟩,
   ⟨2, .q .mv, [.tmp 110], (some 111), none, [], false⟩,
   ⟨3, .e (.lits 9 #[] 0 []), [], (some 112), (some (111, false)), [], false⟩,
   ⟨4, .q .mv, [.tmp 1], (some 113), (some (111, false)), [], false⟩,
   ⟨5, .e (.app 9 1 16 #[(.string ⟨#[]⟩)]), [.tmp 112, .tmp 113], (some 114), (some (111, false)), [], false⟩,
   ⟨6, .q .mv, [.tmp 11], (some 115), (some (111, false)), [], false⟩,
   ⟨7, .e (.call 8), [.tmp 114, .tmp 115], (some 116), (some (111, false)), [], false⟩,
   ⟨8, .q .pick, [.tmp 111, .const (.bool true), .tmp 116], (some 117), none, [], false⟩])
 (.cond (.tmp 117)
  (.seq
  (.reg [⟨0, .q .mv, [.const (.bool false)], (some 4), none, [], false⟩])
  .ret)
  .skip))
 (.seq
 (.reg [⟨0, .q .mv, [.tmp 11], (some 119), none, [], false⟩,
   ⟨1, .e (.call 11), [.tmp 119], (some 120), none, [], false⟩,
   ⟨2, .q .mv, [.tmp 120], (some 118), none, [], false⟩,
   ⟨3, .q (.ext 0), [.tmp 118], (some 121), none, [], false⟩,
   ⟨4, .q (.ext 1), [.tmp 118], (some 122), none, [], false⟩,
   ⟨5, .q .mv, [.tmp 121], (some 13), none, [], false⟩,
   ⟨6, .q .mv, [.tmp 122], (some 14), none, [], false⟩])
 (.seq
 (.reg [⟨0, .q .mv, [.tmp 14], (some 123), none, [], false⟩,
   ⟨1, .q (.bin .eql), [.tmp 123, .const (.int .i64 0)], (some 124), none, [], false⟩,
   ⟨2, .q .mv, [.tmp 124], (some 125), none, [], false⟩,
   ⟨3, .q .mv, [.tmp 13], (some 126), (some (125, true)), [], false⟩,
   ⟨4, .q .mv, [.tmp 5], (some 127), (some (125, true)), [], false⟩,
   ⟨5, .e (.call 10), [.tmp 126, .tmp 127], (some 128), (some (125, true)), [], false⟩,
   ⟨6, .q .pick, [.tmp 125, .tmp 128, .const (.bool false)], (some 129), none, [], false⟩,
   ⟨7, .q .mv, [.tmp 129], (some 4), none, [], false⟩])
 .ret))))
def L6 : LFn :=
 ⟨130, [.t 4],
 (.seq
 (.reg [⟨0, .q .mv, [.const (.bool false)], (some 4), none, [], false⟩])
 (.seq
 (.reg [⟨0, .q .mv, [.tmp 0], (some 16), none, [], false⟩,
   ⟨1, .e (.call 11), [.tmp 16], (some 17), none, [], false⟩,
   ⟨2, .q .mv, [.tmp 17], (some 15), none, [], false⟩,
   ⟨3, .q (.ext 0), [.tmp 15], (some 18), none, [], false⟩,
   ⟨4, .q (.ext 1), [.tmp 15], (some 19), none, [], false⟩,
   ⟨5, .q .mv, [.tmp 18], (some 5), none, [], false⟩,
   ⟨6, .q .mv, [.tmp 19], (some 6), none, [], false⟩])
 (.seq
 (.seq
 (.reg [⟨0, .q .mv, [.tmp 6], (some 20), none, [], false⟩,
   ⟨1, .q (.bin .neq), [.tmp 20, .const (.int .i64 0)], (some 21), none, [], false⟩])
 (.cond (.tmp 21)
  (.seq
  (.reg [⟨0, .e (.call 11), [.const (.string ⟨#[97]⟩)], (some 23), none, [], false⟩,
    ⟨1, .q .mv, [.tmp 23], (some 22), none, [], false⟩,
    ⟨2, .q (.ext 0), [.tmp 22], (some 24), none, [], false⟩,
    ⟨3, .q (.ext 1), [.tmp 22], (some 25), none, [], false⟩,
    ⟨4, .q .mv, [.tmp 24], (some 7), none, [], false⟩,
    ⟨5, .q .mv, [.tmp 25], (some 8), none, [], false⟩])
  (.seq
  (.reg [⟨0, .q .mv, [.tmp 5], (some 26), none, [], false⟩,
    ⟨1, .q .len, [.tmp 26], (some 27), none, [], false⟩,
    ⟨2, .q (.bin .eql), [.tmp 27, .const (.int .i64 0)], (some 28), none, [], false⟩,
    ⟨3, .q .mv, [.tmp 28], (some 29), none, [], false⟩,
    ⟨4, .q .mv, [.tmp 8], (some 30), (some (29, true)), [], false⟩,
    ⟨5, .q (.bin .eql), [.tmp 30, .const (.int .i64 0)], (some 31), (some (29, true)), [], false⟩,
    ⟨6, .q .pick, [.tmp 29, .tmp 31, .const (.bool false)], (some 32), none, [], false⟩,
    ⟨7, .q .mv, [.tmp 32], (some 33), none, [], false⟩,
    ⟨8, .q .mv, [.tmp 7], (some 34), (some (33, true)), [], false⟩,
    ⟨9, .q .len, [.tmp 34], (some 35), (some (33, true)), [], false⟩,
    ⟨10, .q (.bin .eql), [.tmp 35, .const (.int .i64 1)], (some 36), (some (33, true)), [], false⟩,
    ⟨11, .q .pick, [.tmp 33, .tmp 36, .const (.bool false)], (some 37), none, [], false⟩,
    ⟨12, .q .mv, [.tmp 37], (some 4), none, [], false⟩])
  .ret))
  .skip))
 (.seq
 (.seq
 (.reg [⟨0, .q .mv, [.tmp 5], (some 38), none, [], false⟩,
   ⟨1, .q .len, [.tmp 38], (some 39), none, [], false⟩,
   ⟨2, .q (.bin .lss), [.tmp 39, .const (.int .i64 1)], (some 40), none, [], false⟩,
   ⟨3, .q .mv, [.tmp 40], (some 41), none, [], false⟩,
   ⟨4, .q .mv, [.tmp 5], (some 42), (some (41, false)), [], false⟩,
   ⟨5, .q .len, [.tmp 42], (some 43), (some (41, false)), [], false⟩,
   ⟨6, .q (.bin .gtr), [.tmp 43, .const (.int .i64 256)], (some 44), (some (41, false)), [], false⟩,
   ⟨7, .q .pick, [.tmp 41, .const (.bool true), .tmp 44], (some 45), none, [], false⟩])
 (.cond (.tmp 45)
  (.seq
  (.reg [⟨0, .q .mv, [.const (.bool false)], (some 4), none, [], false⟩])
  .ret)
  .skip))
 (.seq
 (.seq
 (.reg [⟨0, .q .mv, [.const (.int .i64 0)], (some 9), none, [], false⟩])
 (.block 0
  (.loop L6_1)))
 L6_2)))))⟩
theorem low6 : lowFn Tryd.prog Tryd.f6 = some L6 := by kernel_rfl
theorem call6 {args : List Value} {H : Heap} {S : Ending → Heap → Prop} (hn : args.length ≤ L6.n) (h : awpC Tryd.prog L6.body (retQ L6.results S) (fun ch H => S (.panicked ch) H) (env0 args) H) : ACalls Tryd.prog 6 args.toArray H S := acalls mixed Tryd.func6 low6 hn h
end Go.Proofs.YtdlmomjcolbkgaaDoor.Low
