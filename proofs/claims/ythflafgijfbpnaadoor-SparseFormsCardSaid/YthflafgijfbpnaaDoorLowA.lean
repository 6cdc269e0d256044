/-
  Functions in short (out of the program's form in Lean, by the kernel).
-/
import Derived.Test.YthflafgijfbpnaaDoorSepDfr
import Derived.Test.YthflafgijfbpnaaDoorProg
namespace Go.Proofs.YthflafgijfbpnaaDoor.Low
open Go Go.Proofs.YthflafgijfbpnaaDoor.Sep
theorem mixed : Tryd.prog.follows .mixedOrders = true := by kernel_rfl
/-- satchel/satchellaw15.lent -/
def L8_0 : LCode :=
 (.seq
 (.seq
 (.reg [⟨0, .q .mv, [.tmp 5], (some 13), none, [], false⟩,
   ⟨1, .q (.bin .lss), [.tmp 13, .const (.int .i64 32)], (some 14), none, [], false⟩])
 (.cond (.tmp 14)
  .skip
  (.exit 0)))
 (.seq
 (.block 1
  (.reg [⟨0, .q .mv, [.tmp 4], (some 17), none, [], false⟩,
    ⟨1, .q .mv, [.tmp 5], (some 18), none, [], false⟩,
    ⟨2, .q (.bin .add), [.const (.int .i64 171), .tmp 18], (some 19), none, [], false⟩,
    ⟨3, .q (.cvi .u8), [.tmp 19], (some 20), none, [], false⟩,
    ⟨4, .e (.lits 5 #[(.int .u8 0)] 1 [(0, 1)]), [.tmp 20], (some 21), none, [], false⟩,
    ⟨5, .e (.app 5 1 1 #[(.int .u8 0)]), [.tmp 17, .tmp 21], (some 22), none, [], false⟩,
    ⟨6, .q .mv, [.tmp 22], (some 4), none, [], false⟩]))
 (.reg [⟨0, .q .mv, [.tmp 5], (some 15), none, [], false⟩,
   ⟨1, .q (.bin .add), [.tmp 15, .const (.int .i64 1)], (some 16), none, [], false⟩,
   ⟨2, .q .mv, [.tmp 16], (some 5), none, [], false⟩])))
def L8 : LFn :=
 ⟨28, [.t 2, .t 3],
 (.seq
 (.reg [⟨0, .q .mv, [.const (.slice none 0 0)], (some 2), none, [], false⟩,
   ⟨1, .q .mv, [.const (.slice none 0 0)], (some 3), none, [], false⟩])
 (.seq
 (.reg [⟨0, .q .mv, [.tmp 0], (some 6), none, [], false⟩,
   ⟨1, .q .len, [.tmp 6], (some 7), none, [], false⟩,
   ⟨2, .q (.bin .add), [.tmp 7, .const (.int .i64 32)], (some 8), none, [], false⟩,
   ⟨3, .e (.mks 5 1 1 #[(.int .u8 0)]), [.const (.int .i64 0), .tmp 8], (some 9), none, [], false⟩,
   ⟨4, .q .mv, [.tmp 9], (some 4), none, [], false⟩])
 (.seq
 (.reg [⟨0, .q .mv, [.tmp 4], (some 10), none, [], false⟩,
   ⟨1, .q .mv, [.tmp 0], (some 11), none, [], false⟩,
   ⟨2, .e (.app 5 1 1 #[(.int .u8 0)]), [.tmp 10, .tmp 11], (some 12), none, [], false⟩,
   ⟨3, .q .mv, [.tmp 12], (some 4), none, [], false⟩])
 (.seq
 (.seq
 (.reg [⟨0, .q .mv, [.const (.int .i64 0)], (some 5), none, [], false⟩])
 (.block 0
  (.loop L8_0)))
 (.seq
 (.reg [⟨0, .q .mv, [.tmp 4], (some 23), none, [], false⟩,
   ⟨1, .q .mv, [.tmp 0], (some 24), none, [], false⟩,
   ⟨2, .q .len, [.tmp 24], (some 25), none, [], false⟩,
   ⟨3, .q (.slc 1 false true false), [.tmp 23, .tmp 25], (some 26), none, [], false⟩,
   ⟨4, .q .mv, [.tmp 4], (some 27), none, [], false⟩,
   ⟨5, .q .mv, [.tmp 26], (some 2), none, [], false⟩,
   ⟨6, .q .mv, [.tmp 27], (some 3), none, [], false⟩])
 .ret)))))⟩
theorem low8 : lowFn Tryd.prog Tryd.f8 = some L8 := by kernel_rfl
theorem call8 {args : List Value} {H : Heap} {S : Ending → Heap → Prop} (hn : args.length ≤ L8.n) (h : awpC Tryd.prog L8.body (retQ L8.results S) (fun ch H => S (.panicked ch) H) (env0 args) H) : ACalls Tryd.prog 8 args.toArray H S := acalls mixed Tryd.func8 low8 hn h
/-- satchel/satchellaw15.same -/
def L11_0 : LCode :=
 (.seq
 (.seq
 (.reg [⟨0, .q .mv, [.tmp 5], (some 11), none, [], false⟩,
   ⟨1, .q .mv, [.tmp 0], (some 12), none, [], false⟩,
   ⟨2, .q .len, [.tmp 12], (some 13), none, [], false⟩,
   ⟨3, .q (.bin .lss), [.tmp 11, .tmp 13], (some 14), none, [], false⟩])
 (.cond (.tmp 14)
  .skip
  (.exit 0)))
 (.seq
 (.block 1
  (.seq
  (.reg [⟨0, .q .mv, [.tmp 0], (some 17), none, [], false⟩,
    ⟨1, .q .mv, [.tmp 5], (some 18), none, [], false⟩,
    ⟨2, .q (.iad 1), [.tmp 17, .tmp 18], (some 19), none, [], false⟩,
    ⟨3, .q .ld, [.tmp 19], (some 20), none, [], false⟩,
    ⟨4, .q .mv, [.tmp 1], (some 21), none, [], false⟩,
    ⟨5, .q .mv, [.tmp 5], (some 22), none, [], false⟩,
    ⟨6, .q (.iad 1), [.tmp 21, .tmp 22], (some 23), none, [], false⟩,
    ⟨7, .q .ld, [.tmp 23], (some 24), none, [], false⟩,
    ⟨8, .q (.bin .neq), [.tmp 20, .tmp 24], (some 25), none, [], false⟩])
  (.cond (.tmp 25)
   (.seq
   (.reg [⟨0, .q .mv, [.const (.bool false)], (some 4), none, [], false⟩])
   .ret)
   .skip)))
 (.reg [⟨0, .q .mv, [.tmp 5], (some 15), none, [], false⟩,
   ⟨1, .q (.bin .add), [.tmp 15, .const (.int .i64 1)], (some 16), none, [], false⟩,
   ⟨2, .q .mv, [.tmp 16], (some 5), none, [], false⟩])))
def L11 : LFn :=
 ⟨26, [.t 4],
 (.seq
 (.reg [⟨0, .q .mv, [.const (.bool false)], (some 4), none, [], false⟩])
 (.seq
 (.seq
 (.reg [⟨0, .q .mv, [.tmp 0], (some 6), none, [], false⟩,
   ⟨1, .q .len, [.tmp 6], (some 7), none, [], false⟩,
   ⟨2, .q .mv, [.tmp 1], (some 8), none, [], false⟩,
   ⟨3, .q .len, [.tmp 8], (some 9), none, [], false⟩,
   ⟨4, .q (.bin .neq), [.tmp 7, .tmp 9], (some 10), none, [], false⟩])
 (.cond (.tmp 10)
  (.seq
  (.reg [⟨0, .q .mv, [.const (.bool false)], (some 4), none, [], false⟩])
  .ret)
  .skip))
 (.seq
 (.seq
 (.reg [⟨0, .q .mv, [.const (.int .i64 0)], (some 5), none, [], false⟩])
 (.block 0
  (.loop L11_0)))
 (.seq
 (.reg [⟨0, .q .mv, [.const (.bool true)], (some 4), none, [], false⟩])
 .ret))))⟩
theorem low11 : lowFn Tryd.prog Tryd.f11 = some L11 := by kernel_rfl
theorem call11 {args : List Value} {H : Heap} {S : Ending → Heap → Prop} (hn : args.length ≤ L11.n) (h : awpC Tryd.prog L11.body (retQ L11.results S) (fun ch H => S (.panicked ch) H) (env0 args) H) : ACalls Tryd.prog 11 args.toArray H S := acalls mixed Tryd.func11 low11 hn h
/-- satchel/satchellaw15.ranges -/
def L12_0 : LCode :=
 (.seq
 (.seq
 (.reg [⟨0, .q .mv, [.tmp 5], (some 11), none, [], false⟩,
   ⟨1, .q .mv, [.tmp 0], (some 12), none, [], false⟩,
   ⟨2, .q .len, [.tmp 12], (some 13), none, [], false⟩,
   ⟨3, .q (.bin .lss), [.tmp 11, .tmp 13], (some 14), none, [], false⟩])
 (.cond (.tmp 14)
  .skip
  (.exit 0)))
 (.seq
 (.block 1
  (.seq
  (.reg [⟨0, .q .mv, [.tmp 0], (some 17), none, [], false⟩,
    ⟨1, .q .mv, [.tmp 5], (some 18), none, [], false⟩,
    ⟨2, .q (.iad 2), [.tmp 17, .tmp 18], (some 19), none, [], false⟩,
    ⟨3, .q (.ldn 2), [.tmp 19], (some 20), none, [], false⟩,
    ⟨4, .q .mv, [.tmp 1], (some 21), none, [], false⟩,
    ⟨5, .q .mv, [.tmp 5], (some 22), none, [], false⟩,
    ⟨6, .q (.iad 2), [.tmp 21, .tmp 22], (some 23), none, [], false⟩,
    ⟨7, .q (.ldn 2), [.tmp 23], (some 24), none, [], false⟩,
    ⟨8, .q (.eqa [(0, .i), (1, .i)] true), [.tmp 20, .tmp 24], (some 25), none, [], false⟩])
  (.cond (.tmp 25)
   (.seq
   (.reg [⟨0, .q .mv, [.const (.bool false)], (some 4), none, [], false⟩])
   .ret)
   .skip)))
 (.reg [⟨0, .q .mv, [.tmp 5], (some 15), none, [], false⟩,
   ⟨1, .q (.bin .add), [.tmp 15, .const (.int .i64 1)], (some 16), none, [], false⟩,
   ⟨2, .q .mv, [.tmp 16], (some 5), none, [], false⟩])))
def L12 : LFn :=
 ⟨26, [.t 4],
 (.seq
 (.reg [⟨0, .q .mv, [.const (.bool false)], (some 4), none, [], false⟩])
 (.seq
 (.seq
 (.reg [⟨0, .q .mv, [.tmp 0], (some 6), none, [], false⟩,
   ⟨1, .q .len, [.tmp 6], (some 7), none, [], false⟩,
   ⟨2, .q .mv, [.tmp 1], (some 8), none, [], false⟩,
   ⟨3, .q .len, [.tmp 8], (some 9), none, [], false⟩,
   ⟨4, .q (.bin .neq), [.tmp 7, .tmp 9], (some 10), none, [], false⟩])
 (.cond (.tmp 10)
  (.seq
  (.reg [⟨0, .q .mv, [.const (.bool false)], (some 4), none, [], false⟩])
  .ret)
  .skip))
 (.seq
 (.seq
 (.reg [⟨0, .q .mv, [.const (.int .i64 0)], (some 5), none, [], false⟩])
 (.block 0
  (.loop L12_0)))
 (.seq
 (.reg [⟨0, .q .mv, [.const (.bool true)], (some 4), none, [], false⟩])
 .ret))))⟩
theorem low12 : lowFn Tryd.prog Tryd.f12 = some L12 := by kernel_rfl
theorem call12 {args : List Value} {H : Heap} {S : Ending → Heap → Prop} (hn : args.length ≤ L12.n) (h : awpC Tryd.prog L12.body (retQ L12.results S) (fun ch H => S (.panicked ch) H) (env0 args) H) : ACalls Tryd.prog 12 args.toArray H S := acalls mixed Tryd.func12 low12 hn h
/-- satchel/satchellaw15.kept -/
def L13_0 : LCode :=
 (.seq
 (.seq
 (.reg [⟨0, .q .mv, [.tmp 5], (some 6), none, [], false⟩,
   ⟨1, .q .mv, [.tmp 0], (some 7), none, [], false⟩,
   ⟨2, .q .len, [.tmp 7], (some 8), none, [], false⟩,
   ⟨3, .q (.bin .lss), [.tmp 6, .tmp 8], (some 9), none, [], false⟩])
 (.cond (.tmp 9)
  .skip
  (.exit 0)))
 (.seq
 (.block 1
  (.seq
  (.reg [⟨0, .q .mv, [.tmp 5], (some 12), none, [], false⟩,
    ⟨1, .q .mv, [.tmp 1], (some 13), none, [], false⟩,
    ⟨2, .q .len, [.tmp 13], (some 14), none, [], false⟩,
    ⟨3, .q (.bin .lss), [.tmp 12, .tmp 14], (some 15), none, [], false⟩,
    ⟨4, .q .mv, [.tmp 15], (some 16), none, [], false⟩,
    ⟨5, .q .mv, [.tmp 0], (some 17), (some (16, true)), [], false⟩,
    ⟨6, .q .mv, [.tmp 5], (some 18), (some (16, true)), [], false⟩,
    ⟨7, .q (.iad 1), [.tmp 17, .tmp 18], (some 19), (some (16, true)), [], false⟩,
    ⟨8, .q .ld, [.tmp 19], (some 20), (some (16, true)), [], false⟩,
    ⟨9, .q .mv, [.tmp 1], (some 21), (some (16, true)), [], false⟩,
    ⟨10, .q .mv, [.tmp 5], (some 22), (some (16, true)), [], false⟩,
    ⟨11, .q (.iad 1), [.tmp 21, .tmp 22], (some 23), (some (16, true)), [], false⟩,
    ⟨12, .q .ld, [.tmp 23], (some 24), (some (16, true)), [], false⟩,
    ⟨13, .q (.bin .neq), [.tmp 20, .tmp 24], (some 25), (some (16, true)), [], false⟩,
    ⟨14, .q .pick, [.tmp 16, .tmp 25, .const (.bool false)], (some 26), none, [], false⟩,
    ⟨15, .q .mv, [.tmp 26], (some 27), none, [], false⟩,
    ⟨16, .q .mv, [.tmp 5], (some 28), (some (27, false)), [], false⟩,
    ⟨17, .q .mv, [.tmp 1], (some 29), (some (27, false)), [], false⟩,
    ⟨18, .q .len, [.tmp 29], (some 30), (some (27, false)), [], false⟩,
    ⟨19, .q (.bin .geq), [.tmp 28, .tmp 30], (some 31), (some (27, false)), [], false⟩,
    ⟨20, .q .mv, [.tmp 31], (some 32), (some (27, false)), [], false⟩,
    ⟨21, .q .mv, [.tmp 0], (some 33), (some (32, true)), [], false⟩,
    ⟨22, .q .mv, [.tmp 5], (some 34), (some (32, true)), [], false⟩,
    ⟨23, .q (.iad 1), [.tmp 33, .tmp 34], (some 35), (some (32, true)), [], false⟩,
    ⟨24, .q .ld, [.tmp 35], (some 36), (some (32, true)), [], false⟩,
    ⟨25, .q .mv, [.tmp 5], (some 37), (some (32, true)), [], false⟩,
    ⟨26, .q (.bin .add), [.const (.int .i64 171), .tmp 37], (some 38), (some (32, true)), [], false⟩,
    ⟨27, .q .mv, [.tmp 1], (some 39), (some (32, true)), [], false⟩,
    ⟨28, .q .len, [.tmp 39], (some 40), (some (32, true)), [], false⟩,
    ⟨29, .q (.bin .sub), [.tmp 38, .tmp 40], (some 41), (some (32, true)), [], false⟩,
    ⟨30, .q (.cvi .u8), [.tmp 41], (some 42), (some (32, true)), [], false⟩,
    ⟨31, .q (.bin .neq), [.tmp 36, .tmp 42], (some 43), (some (32, true)), [], false⟩,
    ⟨32, .q .pick, [.tmp 32, .tmp 43, .const (.bool false)], (some 44), (some (27, false)), [], false⟩,
    ⟨33, .q .pick, [.tmp 27, .const (.bool true), .tmp 44], (some 45), none, [], false⟩])
  (.cond (.tmp 45)
   (.seq
   (.reg [⟨0, .q .mv, [.const (.bool false)], (some 4), none, [], false⟩])
   .ret)
   .skip)))
 (.reg [⟨0, .q .mv, [.tmp 5], (some 10), none, [], false⟩,
   ⟨1, .q (.bin .add), [.tmp 10, .const (.int .i64 1)], (some 11), none, [], false⟩,
   ⟨2, .q .mv, [.tmp 11], (some 5), none, [], false⟩])))
def L13 : LFn :=
 ⟨46, [.t 4],
 (.seq
 (.reg [⟨0, .q .mv, [.const (.bool false)], (some 4), none, [], false⟩])
 (.seq
 (.seq
 (.reg [⟨0, .q .mv, [.const (.int .i64 0)], (some 5), none, [], false⟩])
 (.block 0
  (.loop L13_0)))
 (.seq
 (.reg [⟨0, .q .mv, [.const (.bool true)], (some 4), none, [], false⟩])
 .ret)))⟩
theorem low13 : lowFn Tryd.prog Tryd.f13 = some L13 := by kernel_rfl
theorem call13 {args : List Value} {H : Heap} {S : Ending → Heap → Prop} (hn : args.length ≤ L13.n) (h : awpC Tryd.prog L13.body (retQ L13.results S) (fun ch H => S (.panicked ch) H) (env0 args) H) : ACalls Tryd.prog 13 args.toArray H S := acalls mixed Tryd.func13 low13 hn h
/-- satchel/satchellaw15.full -/
def L14_0 : LCode :=
 (.seq
 (.seq
 (.reg [⟨0, .q .mv, [.tmp 4], (some 6), none, [], false⟩,
   ⟨1, .q .mv, [.tmp 0], (some 7), none, [], false⟩,
   ⟨2, .q .len, [.tmp 7], (some 8), none, [], false⟩,
   ⟨3, .q (.bin .lss), [.tmp 6, .tmp 8], (some 9), none, [], false⟩])
 (.cond (.tmp 9)
  .skip
  (.exit 0)))
 (.seq
 (.block 1
  (.reg [⟨0, .q .mv, [.tmp 0], (some 12), none, [], false⟩,
    ⟨1, .q .mv, [.tmp 4], (some 13), none, [], false⟩,
    ⟨2, .q .mv, [.tmp 1], (some 14), none, [], false⟩,
    ⟨3, .q (.iad 1), [.tmp 12, .tmp 13], (some 15), none, [], false⟩,
    ⟨4, .e (.st 1), [.tmp 15, .tmp 14], none, none, [], false⟩]))
 (.reg [⟨0, .q .mv, [.tmp 4], (some 10), none, [], false⟩,
   ⟨1, .q (.bin .add), [.tmp 10, .const (.int .i64 1)], (some 11), none, [], false⟩,
   ⟨2, .q .mv, [.tmp 11], (some 4), none, [], false⟩])))
def L14_1 : LCode :=
 (.seq
 (.seq
 (.reg [⟨0, .q .mv, [.tmp 5], (some 16), none, [], false⟩,
   ⟨1, .q (.bin .lss), [.tmp 16, .const (.int .i64 90)], (some 17), none, [], false⟩])
 (.cond (.tmp 17)
  .skip
  (.exit 2)))
 (.seq
 (.block 3
  (.reg [⟨0, .q .mv, [.tmp 0], (some 20), none, [], false⟩,
    ⟨1, .q .mv, [.tmp 1], (some 21), none, [], false⟩,
    ⟨2, .e (.lits 5 #[(.int .u8 0)] 1 [(0, 1)]), [.tmp 21], (some 22), none, [], false⟩,
    ⟨3, .e (.app 5 1 1 #[(.int .u8 0)]), [.tmp 20, .tmp 22], (some 23), none, [], false⟩,
    ⟨4, .q .mv, [.tmp 23], (some 0), none, [], false⟩]))
 (.reg [⟨0, .q .mv, [.tmp 5], (some 18), none, [], false⟩,
   ⟨1, .q (.bin .add), [.tmp 18, .const (.int .i64 1)], (some 19), none, [], false⟩,
   ⟨2, .q .mv, [.tmp 19], (some 5), none, [], false⟩])))
def L14 : LFn :=
 ⟨24, [],
 (.seq
 (.seq
 (.reg [⟨0, .q .mv, [.const (.int .i64 0)], (some 4), none, [], false⟩])
 (.block 0
  (.loop L14_0)))
 (.seq
 (.reg [⟨0, .q .mv, [.const (.int .i64 0)], (some 5), none, [], false⟩])
 (.block 2
  (.loop L14_1))))⟩
theorem low14 : lowFn Tryd.prog Tryd.f14 = some L14 := by kernel_rfl
theorem call14 {args : List Value} {H : Heap} {S : Ending → Heap → Prop} (hn : args.length ≤ L14.n) (h : awpC Tryd.prog L14.body (retQ L14.results S) (fun ch H => S (.panicked ch) H) (env0 args) H) : ACalls Tryd.prog 14 args.toArray H S := acalls mixed Tryd.func14 low14 hn h
/-- satchel/satchellaw15.written -/
def L15_0 : LCode :=
 (.seq
 (.seq
 (.reg [⟨0, .q .mv, [.tmp 2], (some 4), none, [], false⟩,
   ⟨1, .q .mv, [.tmp 0], (some 5), none, [], false⟩,
   ⟨2, .q .len, [.tmp 5], (some 6), none, [], false⟩,
   ⟨3, .q (.bin .lss), [.tmp 4, .tmp 6], (some 7), none, [], false⟩])
 (.cond (.tmp 7)
  .skip
  (.exit 0)))
 (.seq
 (.block 1
  (.reg [⟨0, .q .mv, [.tmp 0], (some 10), none, [], false⟩,
    ⟨1, .q .mv, [.tmp 2], (some 11), none, [], false⟩,
    ⟨2, .q (.build #[(.int .i64 0), (.int .i64 0)] [(0, 1), (1, 1)]), [.const (.int .i64 9), .const (.int .i64 1)], (some 12), none, [], false⟩,
    ⟨3, .q (.iad 2), [.tmp 10, .tmp 11], (some 13), none, [], false⟩,
    ⟨4, .e (.st 2), [.tmp 13, .tmp 12], none, none, [], false⟩]))
 (.reg [⟨0, .q .mv, [.tmp 2], (some 8), none, [], false⟩,
   ⟨1, .q (.bin .add), [.tmp 8, .const (.int .i64 1)], (some 9), none, [], false⟩,
   ⟨2, .q .mv, [.tmp 9], (some 2), none, [], false⟩])))
def L15_1 : LCode :=
 (.seq
 (.seq
 (.reg [⟨0, .q .mv, [.tmp 3], (some 14), none, [], false⟩,
   ⟨1, .q (.bin .lss), [.tmp 14, .const (.int .i64 40)], (some 15), none, [], false⟩])
 (.cond (.tmp 15)
  .skip
  (.exit 2)))
 (.seq
 (.block 3
  (.reg [⟨0, .q .mv, [.tmp 0], (some 18), none, [], false⟩,
    ⟨1, .q (.build #[(.int .i64 0), (.int .i64 0)] [(0, 1), (1, 1)]), [.const (.int .i64 8), .const (.int .i64 1)], (some 19), none, [], false⟩,
    ⟨2, .e (.lits 51 #[(.int .i64 0), (.int .i64 0)] 1 [(0, 2)]), [.tmp 19], (some 20), none, [], false⟩,
    ⟨3, .e (.app 51 2 16 #[(.int .i64 0), (.int .i64 0)]), [.tmp 18, .tmp 20], (some 21), none, [], false⟩,
    ⟨4, .q .mv, [.tmp 21], (some 0), none, [], false⟩]))
 (.reg [⟨0, .q .mv, [.tmp 3], (some 16), none, [], false⟩,
   ⟨1, .q (.bin .add), [.tmp 16, .const (.int .i64 1)], (some 17), none, [], false⟩,
   ⟨2, .q .mv, [.tmp 17], (some 3), none, [], false⟩])))
def L15 : LFn :=
 ⟨22, [],
 (.seq
 (.seq
 (.reg [⟨0, .q .mv, [.const (.int .i64 0)], (some 2), none, [], false⟩])
 (.block 0
  (.loop L15_0)))
 (.seq
 (.reg [⟨0, .q .mv, [.const (.int .i64 0)], (some 3), none, [], false⟩])
 (.block 2
  (.loop L15_1))))⟩
theorem low15 : lowFn Tryd.prog Tryd.f15 = some L15 := by kernel_rfl
theorem call15 {args : List Value} {H : Heap} {S : Ending → Heap → Prop} (hn : args.length ≤ L15.n) (h : awpC Tryd.prog L15.body (retQ L15.results S) (fun ch H => S (.panicked ch) H) (env0 args) H) : ACalls Tryd.prog 15 args.toArray H S := acalls mixed Tryd.func15 low15 hn h
/-- satchel/satchellaw15.record -/
def L17_0 : LCode :=
 (.seq
 (.seq
 (.reg [⟨0, .q .mv, [.tmp 4], (some 6), none, [], false⟩,
   ⟨1, .q .mv, [.tmp 0], (some 7), none, [], false⟩,
   ⟨2, .q .len, [.tmp 7], (some 8), none, [], false⟩,
   ⟨3, .q (.bin .lss), [.tmp 6, .tmp 8], (some 9), none, [], false⟩,
   ⟨4, .q .mv, [.tmp 9], (some 10), none, [], false⟩,
   ⟨5, .q .mv, [.tmp 4], (some 11), (some (10, true)), [], false⟩,
   ⟨6, .q (.bin .lss), [.tmp 11, .const (.int .i64 512)], (some 12), (some (10, true)), [], false⟩,
   ⟨7, .q .pick, [.tmp 10, .tmp 12, .const (.bool false)], (some 13), none, [], false⟩])
 (.cond (.tmp 13)
  .skip
  (.exit 0)))
 (.seq
 (.block 1
  (.reg [⟨0, .q .mv, [.tmp 4], (some 16), none, [], false⟩,
    ⟨1, .q .mv, [.tmp 0], (some 17), none, [], false⟩,
    ⟨2, .q .mv, [.tmp 4], (some 18), none, [], false⟩,
    ⟨3, .q (.iad 1), [.tmp 17, .tmp 18], (some 19), none, [], false⟩,
    ⟨4, .q .ld, [.tmp 19], (some 20), none, [], false⟩,
    ⟨5, .q (.iada 512 1), [.tmp 3, .tmp 16], (some 21), none, [], false⟩,
    ⟨6, .e (.st 1), [.tmp 21, .tmp 20], none, none, [], false⟩]))
 (.reg [⟨0, .q .mv, [.tmp 4], (some 14), none, [], false⟩,
   ⟨1, .q (.bin .add), [.tmp 14, .const (.int .i64 1)], (some 15), none, [], false⟩,
   ⟨2, .q .mv, [.tmp 15], (some 4), none, [], false⟩])))
def L17 : LFn :=
 ⟨23, [.c 2 (some 512)],
 (.seq
 (.reg [⟨0, .e (.new (Array.replicate 512 (.int .u8 0)) 36), [], (some 2), none, [], false⟩])
 (.seq
 (.reg [⟨0, .q (.build (Array.replicate 512 (.int .u8 0)) []), [], (some 5), none, [], false⟩,
   ⟨1, .e (.new (Array.replicate 512 (.int .u8 0)) 36), [], (some 3), none, [], false⟩,
   ⟨2, .e (.st 512), [.tmp 3, .tmp 5], none, none, [], false⟩])
 (.seq
 (.seq
 (.reg [⟨0, .q .mv, [.const (.int .i64 0)], (some 4), none, [], false⟩])
 (.block 0
  (.loop L17_0)))
 (.seq
 (.reg [⟨0, .q (.ldn 512), [.tmp 3], (some 22), none, [], false⟩,
   ⟨1, .e (.st 512), [.tmp 2, .tmp 22], none, none, [], false⟩])
 .ret))))⟩
theorem low17 : lowFn Tryd.prog Tryd.f17 = some L17 := by kernel_rfl
theorem call17 {args : List Value} {H : Heap} {S : Ending → Heap → Prop} (hn : args.length ≤ L17.n) (h : awpC Tryd.prog L17.body (retQ L17.results S) (fun ch H => S (.panicked ch) H) (env0 args) H) : ACalls Tryd.prog 17 args.toArray H S := acalls mixed Tryd.func17 low17 hn h
/-- satchel/sparse.fits -/
def L23_0 : LCode :=
 (.seq
 (.reg [⟨0, .q (.bin .lss), [.tmp 17, .tmp 16], (some 18), none, [], false⟩])
 (.seq
 (.cond (.tmp 18)
  .skip
  (.exit 0))
 (.seq
 (.block 1
  (.seq
  (.reg [⟨0, .q (.iad 2), [.tmp 15, .tmp 17], (some 19), none, [], false⟩,
    ⟨1, .q (.ldn 2), [.tmp 19], (some 20), none, [], false⟩,
    ⟨2, .e (.new #[(.int .i64 0), (.int .i64 0)] 51), [], (some 7), none, [], false⟩,
    ⟨3, .e (.st 2), [.tmp 7, .tmp 20], none, none, [], false⟩])
  (.seq
  (.seq
  (.reg [⟨0, .q (.fad 0), [.tmp 7], (some 21), none, [], false⟩,
    ⟨1, .q .ld, [.tmp 21], (some 22), none, [], false⟩,
    ⟨2, .q .mv, [.tmp 5], (some 23), none, [], false⟩,
    ⟨3, .q (.bin .lss), [.tmp 22, .tmp 23], (some 24), none, [], false⟩,
    ⟨4, .q .mv, [.tmp 24], (some 25), none, [], false⟩,
    ⟨5, .q (.fad 1), [.tmp 7], (some 26), (some (25, false)), [], false⟩,
    ⟨6, .q .ld, [.tmp 26], (some 27), (some (25, false)), [], false⟩,
    ⟨7, .q (.fad 0), [.tmp 7], (some 28), (some (25, false)), [], false⟩,
    ⟨8, .q .ld, [.tmp 28], (some 29), (some (25, false)), [], false⟩,
    ⟨9, .q (.bin .lss), [.tmp 27, .tmp 29], (some 30), (some (25, false)), [], false⟩,
    ⟨10, .q .pick, [.tmp 25, .const (.bool true), .tmp 30], (some 31), none, [], false⟩,
    ⟨11, .q .mv, [.tmp 31], (some 32), none, [], false⟩,
    ⟨12, .q (.fad 1), [.tmp 7], (some 33), (some (32, false)), [], false⟩,
    ⟨13, .q .ld, [.tmp 33], (some 34), (some (32, false)), [], false⟩,
    ⟨14, .q .mv, [.tmp 1], (some 35), (some (32, false)), [], false⟩,
    ⟨15, .q (.bin .gtr), [.tmp 34, .tmp 35], (some 36), (some (32, false)), [], false⟩,
    ⟨16, .q .pick, [.tmp 32, .const (.bool true), .tmp 36], (some 37), none, [], false⟩])
  (.cond (.tmp 37)
   (.seq
   (.reg [⟨0, .q .mv, [.const (.bool false)], (some 4), none, [], false⟩])
   .ret)
   .skip))
  (.reg [⟨0, .q (.fad 1), [.tmp 7], (some 38), none, [], false⟩,
    ⟨1, .q .ld, [.tmp 38], (some 39), none, [], false⟩,
    ⟨2, .q .mv, [.tmp 39], (some 5), none, [], false⟩]))))
 (.reg [⟨0, .q (.bin .add), [.tmp 17, .const (.int .i64 1)], (some 40), none, [], false⟩,
   ⟨1, .q .mv, [.tmp 40], (some 17), none, [], false⟩]))))
def L23 : LFn :=
 ⟨41, [.t 4],
 (.seq
 (.reg [⟨0, .q .mv, [.const (.bool false)], (some 4), none, [], false⟩])
 (.seq
 (.seq
 (.reg [⟨0, .q .mv, [.tmp 1], (some 8), none, [], false⟩,
   ⟨1, .q (.bin .lss), [.tmp 8, .const (.int .i64 0)], (some 9), none, [], false⟩,
   ⟨2, .q .mv, [.tmp 9], (some 10), none, [], false⟩,
   ⟨3, .q .mv, [.tmp 0], (some 11), (some (10, false)), [], false⟩,
   ⟨4, .q .len, [.tmp 11], (some 12), (some (10, false)), [], false⟩,
   ⟨5, .q (.bin .gtr), [.tmp 12, .const (.int .i64 65536)], (some 13), (some (10, false)), [], false⟩,
   ⟨6, .q .pick, [.tmp 10, .const (.bool true), .tmp 13], (some 14), none, [], false⟩])
 (.cond (.tmp 14)
  (.seq
  (.reg [⟨0, .q .mv, [.const (.bool false)], (some 4), none, [], false⟩])
  .ret)
  .skip))
 (.seq
 (.reg [⟨0, .q .mv, [.const (.int .i64 0)], (some 5), none, [], false⟩])
 (.seq
 (.seq
 (.reg [⟨0, .q .mv, [.tmp 0], (some 15), none, [], false⟩,
   ⟨1, .q .len, [.tmp 15], (some 16), none, [], false⟩,
   ⟨2, .q .mv, [.const (.int .i64 0)], (some 17), none, [], false⟩])
 (.block 0
  (.loop L23_0)))
 (.seq
 (.reg [⟨0, .q .mv, [.const (.bool true)], (some 4), none, [], false⟩])
 .ret)))))⟩
theorem low23 : lowFn Tryd.prog Tryd.f23 = some L23 := by kernel_rfl
theorem call23 {args : List Value} {H : Heap} {S : Ending → Heap → Prop} (hn : args.length ≤ L23.n) (h : awpC Tryd.prog L23.body (retQ L23.results S) (fun ch H => S (.panicked ch) H) (env0 args) H) : ACalls Tryd.prog 23 args.toArray H S := acalls mixed Tryd.func23 low23 hn h
/-- satchel/satchelref15.Valid -/
def L26_0 : LCode :=
 (.seq
 (.seq
 (.reg [⟨0, .q .mv, [.tmp 6], (some 14), none, [], false⟩,
   ⟨1, .q .mv, [.tmp 0], (some 15), none, [], false⟩,
   ⟨2, .q .len, [.tmp 15], (some 16), none, [], false⟩,
   ⟨3, .q (.bin .lss), [.tmp 14, .tmp 16], (some 17), none, [], false⟩])
 (.cond (.tmp 17)
  .skip
  (.exit 0)))
 (.seq
 (.block 1
  (.seq
  (.seq
  (.reg [⟨0, .q .mv, [.tmp 0], (some 20), none, [], false⟩,
    ⟨1, .q .mv, [.tmp 6], (some 21), none, [], false⟩,
    ⟨2, .q (.iad 2), [.tmp 20, .tmp 21], (some 22), none, [], false⟩,
    ⟨3, .q (.fad 0), [.tmp 22], (some 23), none, [], false⟩,
    ⟨4, .q .ld, [.tmp 23], (some 24), none, [], false⟩,
    ⟨5, .q .mv, [.tmp 5], (some 25), none, [], false⟩,
    ⟨6, .q (.bin .lss), [.tmp 24, .tmp 25], (some 26), none, [], false⟩,
    ⟨7, .q .mv, [.tmp 26], (some 27), none, [], false⟩,
    ⟨8, .q .mv, [.tmp 0], (some 28), (some (27, false)), [], false⟩,
    ⟨9, .q .mv, [.tmp 6], (some 29), (some (27, false)), [], false⟩,
    ⟨10, .q (.iad 2), [.tmp 28, .tmp 29], (some 30), (some (27, false)), [], false⟩,
    ⟨11, .q (.fad 1), [.tmp 30], (some 31), (some (27, false)), [], false⟩,
    ⟨12, .q .ld, [.tmp 31], (some 32), (some (27, false)), [], false⟩,
    ⟨13, .q .mv, [.tmp 0], (some 33), (some (27, false)), [], false⟩,
    ⟨14, .q .mv, [.tmp 6], (some 34), (some (27, false)), [], false⟩,
    ⟨15, .q (.iad 2), [.tmp 33, .tmp 34], (some 35), (some (27, false)), [], false⟩,
    ⟨16, .q (.fad 0), [.tmp 35], (some 36), (some (27, false)), [], false⟩,
    ⟨17, .q .ld, [.tmp 36], (some 37), (some (27, false)), [], false⟩,
    ⟨18, .q (.bin .lss), [.tmp 32, .tmp 37], (some 38), (some (27, false)), [], false⟩,
    ⟨19, .q .pick, [.tmp 27, .const (.bool true), .tmp 38], (some 39), none, [], false⟩,
    ⟨20, .q .mv, [.tmp 39], (some 40), none, [], false⟩,
    ⟨21, .q .mv, [.tmp 0], (some 41), (some (40, false)), [], false⟩,
    ⟨22, .q .mv, [.tmp 6], (some 42), (some (40, false)), [], false⟩,
    ⟨23, .q (.iad 2), [.tmp 41, .tmp 42], (some 43), (some (40, false)), [], false⟩,
    ⟨24, .q (.fad 1), [.tmp 43], (some 44), (some (40, false)), [], false⟩,
    ⟨25, .q .ld, [.tmp 44], (some 45), (some (40, false)), [], false⟩,
    ⟨26, .q .mv, [.tmp 1], (some 46), (some (40, false)), [], false⟩,
    ⟨27, .q (.bin .gtr), [.tmp 45, .tmp 46], (some 47), (some (40, false)), [], false⟩,
    ⟨28, .q .pick, [.tmp 40, .const (.bool true), .tmp 47], (some 48), none, [], false⟩])
  (.cond (.tmp 48)
   (.seq
   (.reg [⟨0, .q .mv, [.const (.bool false)], (some 4), none, [], false⟩])
   .ret)
   .skip))
  (.reg [⟨0, .q .mv, [.tmp 0], (some 49), none, [], false⟩,
    ⟨1, .q .mv, [.tmp 6], (some 50), none, [], false⟩,
    ⟨2, .q (.iad 2), [.tmp 49, .tmp 50], (some 51), none, [], false⟩,
    ⟨3, .q (.fad 1), [.tmp 51], (some 52), none, [], false⟩,
    ⟨4, .q .ld, [.tmp 52], (some 53), none, [], false⟩,
    ⟨5, .q .mv, [.tmp 53], (some 5), none, [], false⟩])))
 (.reg [⟨0, .q .mv, [.tmp 6], (some 18), none, [], false⟩,
   ⟨1, .q (.bin .add), [.tmp 18, .const (.int .i64 1)], (some 19), none, [], false⟩,
   ⟨2, .q .mv, [.tmp 19], (some 6), none, [], false⟩])))
def L26 : LFn :=
 ⟨54, [.t 4],
 (.seq
 (.reg [⟨0, .q .mv, [.const (.bool false)], (some 4), none, [], false⟩])
 (.seq
 (.seq
 (.reg [⟨0, .q .mv, [.tmp 1], (some 7), none, [], false⟩,
   ⟨1, .q (.bin .lss), [.tmp 7, .const (.int .i64 0)], (some 8), none, [], false⟩,
   ⟨2, .q .mv, [.tmp 8], (some 9), none, [], false⟩,
   ⟨3, .q .mv, [.tmp 0], (some 10), (some (9, false)), [], false⟩,
   ⟨4, .q .len, [.tmp 10], (some 11), (some (9, false)), [], false⟩,
   ⟨5, .q (.bin .gtr), [.tmp 11, .const (.int .i64 65536)], (some 12), (some (9, false)), [], false⟩,
   ⟨6, .q .pick, [.tmp 9, .const (.bool true), .tmp 12], (some 13), none, [], false⟩])
 (.cond (.tmp 13)
  (.seq
  (.reg [⟨0, .q .mv, [.const (.bool false)], (some 4), none, [], false⟩])
  .ret)
  .skip))
 (.seq
 (.reg [⟨0, .q .mv, [.const (.int .i64 0)], (some 5), none, [], false⟩])
 (.seq
 (.seq
 (.reg [⟨0, .q .mv, [.const (.int .i64 0)], (some 6), none, [], false⟩])
 (.block 0
  (.loop L26_0)))
 (.seq
 (.reg [⟨0, .q .mv, [.const (.bool true)], (some 4), none, [], false⟩])
 .ret)))))⟩
theorem low26 : lowFn Tryd.prog Tryd.f26 = some L26 := by kernel_rfl
theorem call26 {args : List Value} {H : Heap} {S : Ending → Heap → Prop} (hn : args.length ≤ L26.n) (h : awpC Tryd.prog L26.body (retQ L26.results S) (fun ch H => S (.panicked ch) H) (env0 args) H) : ACalls Tryd.prog 26 args.toArray H S := acalls mixed Tryd.func26 low26 hn h
/-- satchel/sparse.flag -/
def L32 : LFn :=
 ⟨6, [.t 2],
 (.seq
 (.reg [⟨0, .q .mv, [.const (.int .u8 0)], (some 2), none, [], false⟩])
 (.seq
 (.seq
 (.reg [⟨0, .q .mv, [.tmp 0], (some 3), none, [], false⟩,
   ⟨1, .q .len, [.tmp 3], (some 4), none, [], false⟩,
   ⟨2, .q (.bin .gtr), [.tmp 4, .const (.int .i64 0)], (some 5), none, [], false⟩])
 (.cond (.tmp 5)
  (.seq
  (.reg [⟨0, .q .mv, [.const (.int .u8 1)], (some 2), none, [], false⟩])
  .ret)
  .skip))
 (.seq
 (.reg [⟨0, .q .mv, [.const (.int .u8 0)], (some 2), none, [], false⟩])
 .ret)))⟩
theorem low32 : lowFn Tryd.prog Tryd.f32 = some L32 := by kernel_rfl
theorem call32 {args : List Value} {H : Heap} {S : Ending → Heap → Prop} (hn : args.length ≤ L32.n) (h : awpC Tryd.prog L32.body (retQ L32.results S) (fun ch H => S (.panicked ch) H) (env0 args) H) : ACalls Tryd.prog 32 args.toArray H S := acalls mixed Tryd.func32 low32 hn h
/-- bytes.TrimLeft -/
def L66 : LFn :=
 ⟨36, [.t 4],
 (.seq
 (.reg [⟨0, .q .mv, [.const (.slice none 0 0)], (some 4), none, [], false⟩])
 (.seq
 (.seq
 (.reg [⟨0, .q .mv, [.tmp 0], (some 7), none, [], false⟩,
   ⟨1, .q .len, [.tmp 7], (some 8), none, [], false⟩,
   ⟨2, .q (.bin .eql), [.tmp 8, .const (.int .i64 0)], (some 9), none, [], false⟩])
 (.cond (.tmp 9)
  (.seq
  (.reg [⟨0, .q .mv, [.const (.slice none 0 0)], (some 4), none, [], false⟩])
  .ret)
  .skip))
 (.seq
 (.seq
 (.reg [⟨0, .q .mv, [.tmp 1], (some 10), none, [], false⟩,
   ⟨1, .q (.bin .eql), [.tmp 10, .const (.string ⟨#[]⟩)], (some 11), none, [], false⟩])
 (.cond (.tmp 11)
  (.seq
  (.reg [⟨0, .q .mv, [.tmp 0], (some 12), none, [], false⟩,
    ⟨1, .q .mv, [.tmp 12], (some 4), none, [], false⟩])
  .ret)
  .skip))
 (.seq
 (.seq
 (.reg [⟨0, .q .mv, [.tmp 1], (some 13), none, [], false⟩,
   ⟨1, .q .lens, [.tmp 13], (some 14), none, [], false⟩,
   ⟨2, .q (.bin .eql), [.tmp 14, .const (.int .i64 1)], (some 15), none, [], false⟩,
   ⟨3, .q .mv, [.tmp 15], (some 16), none, [], false⟩,
   ⟨4, .q .mv, [.tmp 1], (some 17), (some (16, true)), [], false⟩,
   ⟨5, .q .ixs, [.tmp 17, .const (.int .i64 0)], (some 18), (some (16, true)), [], false⟩,
   ⟨6, .q (.bin .lss), [.tmp 18, .const (.int .u8 128)], (some 19), (some (16, true)), [], false⟩,
   ⟨7, .q .pick, [.tmp 16, .tmp 19, .const (.bool false)], (some 20), none, [], false⟩])
 (.cond (.tmp 20)
  (.seq
  (.reg [⟨0, .q .mv, [.tmp 0], (some 21), none, [], false⟩,
    ⟨1, .q .mv, [.tmp 1], (some 22), none, [], false⟩,
    ⟨2, .q .ixs, [.tmp 22, .const (.int .i64 0)], (some 23), none, [], false⟩,
    ⟨3, .e (.call 78), [.tmp 21, .tmp 23], (some 24), none, [], false⟩,
    ⟨4, .q .mv, [.tmp 24], (some 4), none, [], false⟩])
  .ret)
  .skip))
 (.seq
 (.seq
 (.reg [⟨0, .q .mv, [.tmp 1], (some 26), none, [], false⟩,
   ⟨1, .e (.call 79), [.tmp 26], (some 27), none, [], false⟩,
   ⟨2, .q .mv, [.tmp 27], (some 25), none, [], false⟩,
   ⟨3, .q (.ext 0), [.tmp 25], (some 28), none, [], false⟩,
   ⟨4, .q (.ext 1), [.tmp 25], (some 29), none, [], false⟩,
   ⟨5, .e (.new (Array.replicate 256 (.bool false)) 111), [], (some 5), none, [], false⟩,
   ⟨6, .e (.st 256), [.tmp 5, .tmp 28], none, none, [], false⟩,
   ⟨7, .q .mv, [.tmp 29], (some 6), none, [], false⟩])
 (.seq
 (.reg [⟨0, .q .mv, [.tmp 6], (some 30), none, [], false⟩])
 (.cond (.tmp 30)
  (.seq
  (.reg [⟨0, .q .mv, [.tmp 0], (some 31), none, [], false⟩,
    ⟨1, .e (.call 80), [.tmp 31, .tmp 5], (some 32), none, [], false⟩,
    ⟨2, .q .mv, [.tmp 32], (some 4), none, [], false⟩])
  .ret)
  .skip)))
 (.seq
 (.reg [⟨0, .q .mv, [.tmp 0], (some 33), none, [], false⟩,
   ⟨1, .q .mv, [.tmp 1], (some 34), none, [], false⟩,
   ⟨2, .e (.call 81), [.tmp 33, .tmp 34], (some 35), none, [], false⟩,
   ⟨3, .q .mv, [.tmp 35], (some 4), none, [], false⟩])
 .ret))))))⟩
theorem low66 : lowFn Tryd.prog Tryd.f66 = some L66 := by kernel_rfl
theorem call66 {args : List Value} {H : Heap} {S : Ending → Heap → Prop} (hn : args.length ≤ L66.n) (h : awpC Tryd.prog L66.body (retQ L66.results S) (fun ch H => S (.panicked ch) H) (env0 args) H) : ACalls Tryd.prog 66 args.toArray H S := acalls mixed Tryd.func66 low66 hn h
/-- bytes.Trim -/
def L67 : LFn :=
 ⟨42, [.t 4],
 (.seq
 (.reg [⟨0, .q .mv, [.const (.slice none 0 0)], (some 4), none, [], false⟩])
 (.seq
 (.seq
 (.reg [⟨0, .q .mv, [.tmp 0], (some 7), none, [], false⟩,
   ⟨1, .q .len, [.tmp 7], (some 8), none, [], false⟩,
   ⟨2, .q (.bin .eql), [.tmp 8, .const (.int .i64 0)], (some 9), none, [], false⟩])
 (.cond (.tmp 9)
  (.seq
  (.reg [⟨0, .q .mv, [.const (.slice none 0 0)], (some 4), none, [], false⟩])
  .ret)
  .skip))
 (.seq
 (.seq
 (.reg [⟨0, .q .mv, [.tmp 1], (some 10), none, [], false⟩,
   ⟨1, .q (.bin .eql), [.tmp 10, .const (.string ⟨#[]⟩)], (some 11), none, [], false⟩])
 (.cond (.tmp 11)
  (.seq
  (.reg [⟨0, .q .mv, [.tmp 0], (some 12), none, [], false⟩,
    ⟨1, .q .mv, [.tmp 12], (some 4), none, [], false⟩])
  .ret)
  .skip))
 (.seq
 (.seq
 (.reg [⟨0, .q .mv, [.tmp 1], (some 13), none, [], false⟩,
   ⟨1, .q .lens, [.tmp 13], (some 14), none, [], false⟩,
   ⟨2, .q (.bin .eql), [.tmp 14, .const (.int .i64 1)], (some 15), none, [], false⟩,
   ⟨3, .q .mv, [.tmp 15], (some 16), none, [], false⟩,
   ⟨4, .q .mv, [.tmp 1], (some 17), (some (16, true)), [], false⟩,
   ⟨5, .q .ixs, [.tmp 17, .const (.int .i64 0)], (some 18), (some (16, true)), [], false⟩,
   ⟨6, .q (.bin .lss), [.tmp 18, .const (.int .u8 128)], (some 19), (some (16, true)), [], false⟩,
   ⟨7, .q .pick, [.tmp 16, .tmp 19, .const (.bool false)], (some 20), none, [], false⟩])
 (.cond (.tmp 20)
  (.seq
  (.reg [⟨0, .q .mv, [.tmp 0], (some 21), none, [], false⟩,
    ⟨1, .q .mv, [.tmp 1], (some 22), none, [], false⟩,
    ⟨2, .q .ixs, [.tmp 22, .const (.int .i64 0)], (some 23), none, [], false⟩,
    ⟨4, .q .mv, [.tmp 1], (some 25), none, [], false⟩,
    ⟨5, .q .ixs, [.tmp 25, .const (.int .i64 0)], (some 26), none, [], false⟩,
    ⟨3, .e (.call 82), [.tmp 21, .tmp 23], (some 24), none, [], false⟩,
    ⟨6, .e (.call 78), [.tmp 24, .tmp 26], (some 27), none, [], false⟩,
    ⟨7, .q .mv, [.tmp 27], (some 4), none, [], false⟩])
  .ret)
  .skip))
 (.seq
 (.seq
 (.reg [⟨0, .q .mv, [.tmp 1], (some 29), none, [], false⟩,
   ⟨1, .e (.call 79), [.tmp 29], (some 30), none, [], false⟩,
   ⟨2, .q .mv, [.tmp 30], (some 28), none, [], false⟩,
   ⟨3, .q (.ext 0), [.tmp 28], (some 31), none, [], false⟩,
   ⟨4, .q (.ext 1), [.tmp 28], (some 32), none, [], false⟩,
   ⟨5, .e (.new (Array.replicate 256 (.bool false)) 111), [], (some 5), none, [], false⟩,
   ⟨6, .e (.st 256), [.tmp 5, .tmp 31], none, none, [], false⟩,
   ⟨7, .q .mv, [.tmp 32], (some 6), none, [], false⟩])
 (.seq
 (.reg [⟨0, .q .mv, [.tmp 6], (some 33), none, [], false⟩])
 (.cond (.tmp 33)
  (.seq
  (.reg [⟨0, .q .mv, [.tmp 0], (some 34), none, [], false⟩,
    ⟨1, .e (.call 83), [.tmp 34, .tmp 5], (some 35), none, [], false⟩,
    ⟨2, .e (.call 80), [.tmp 35, .tmp 5], (some 36), none, [], false⟩,
    ⟨3, .q .mv, [.tmp 36], (some 4), none, [], false⟩])
  .ret)
  .skip)))
 (.seq
 (.reg [⟨0, .q .mv, [.tmp 0], (some 37), none, [], false⟩,
   ⟨1, .q .mv, [.tmp 1], (some 38), none, [], false⟩,
   ⟨2, .e (.call 84), [.tmp 37, .tmp 38], (some 39), none, [], false⟩,
   ⟨3, .q .mv, [.tmp 1], (some 40), none, [], false⟩,
   ⟨4, .e (.call 81), [.tmp 39, .tmp 40], (some 41), none, [], false⟩,
   ⟨5, .q .mv, [.tmp 41], (some 4), none, [], false⟩])
 .ret))))))⟩
theorem low67 : lowFn Tryd.prog Tryd.f67 = some L67 := by kernel_rfl
theorem call67 {args : List Value} {H : Heap} {S : Ending → Heap → Prop} (hn : args.length ≤ L67.n) (h : awpC Tryd.prog L67.body (retQ L67.results S) (fun ch H => S (.panicked ch) H) (env0 args) H) : ACalls Tryd.prog 67 args.toArray H S := acalls mixed Tryd.func67 low67 hn h
/-- bytes.trimLeftByte -/
def L78_0 : LCode :=
 (.seq
 (.seq
 (.reg [⟨0, .q .mv, [.tmp 0], (some 5), none, [], false⟩,
   ⟨1, .q .len, [.tmp 5], (some 6), none, [], false⟩,
   ⟨2, .q (.bin .gtr), [.tmp 6, .const (.int .i64 0)], (some 7), none, [], false⟩,
   ⟨3, .q .mv, [.tmp 7], (some 8), none, [], false⟩,
   ⟨4, .q .mv, [.tmp 0], (some 9), (some (8, true)), [], false⟩,
   ⟨5, .q (.iad 1), [.tmp 9, .const (.int .i64 0)], (some 10), (some (8, true)), [], false⟩,
   ⟨6, .q .ld, [.tmp 10], (some 11), (some (8, true)), [], false⟩,
   ⟨7, .q .mv, [.tmp 1], (some 12), (some (8, true)), [], false⟩,
   ⟨8, .q (.bin .eql), [.tmp 11, .tmp 12], (some 13), (some (8, true)), [], false⟩,
   ⟨9, .q .pick, [.tmp 8, .tmp 13, .const (.bool false)], (some 14), none, [], false⟩])
 (.cond (.tmp 14)
  .skip
  (.exit 0)))
 (.block 1
  (.reg [⟨0, .q .mv, [.tmp 0], (some 15), none, [], false⟩,
    ⟨1, .q (.slc 1 true false false), [.tmp 15, .const (.int .i64 1)], (some 16), none, [], false⟩,
    ⟨2, .q .mv, [.tmp 16], (some 0), none, [], false⟩])))
def L78 : LFn :=
 ⟨21, [.t 4],
 (.seq
 (.reg [⟨0, .q .mv, [.const (.slice none 0 0)], (some 4), none, [], false⟩])
 (.seq
 (.block 0
  (.loop L78_0))
 (.seq
 (.seq
 (.reg [⟨0, .q .mv, [.tmp 0], (some 17), none, [], false⟩,
   ⟨1, .q .len, [.tmp 17], (some 18), none, [], false⟩,
   ⟨2, .q (.bin .eql), [.tmp 18, .const (.int .i64 0)], (some 19), none, [], false⟩])
 (.cond (.tmp 19)
  (.seq
  (.reg [⟨0, .q .mv, [.const (.slice none 0 0)], (some 4), none, [], false⟩])
  .ret)
  .skip))
 (.seq
 (.reg [⟨0, .q .mv, [.tmp 0], (some 20), none, [], false⟩,
   ⟨1, .q .mv, [.tmp 20], (some 4), none, [], false⟩])
 .ret))))⟩
theorem low78 : lowFn Tryd.prog Tryd.f78 = some L78 := by kernel_rfl
theorem call78 {args : List Value} {H : Heap} {S : Ending → Heap → Prop} (hn : args.length ≤ L78.n) (h : awpC Tryd.prog L78.body (retQ L78.results S) (fun ch H => S (.panicked ch) H) (env0 args) H) : ACalls Tryd.prog 78 args.toArray H S := acalls mixed Tryd.func78 low78 hn h
/-- bytes.makeASCIISet -/
def L79_0 : LCode :=
 (.seq
 (.seq
 (.reg [⟨0, .q .mv, [.tmp 4], (some 6), none, [], false⟩,
   ⟨1, .q .mv, [.tmp 0], (some 7), none, [], false⟩,
   ⟨2, .q .lens, [.tmp 7], (some 8), none, [], false⟩,
   ⟨3, .q (.bin .lss), [.tmp 6, .tmp 8], (some 9), none, [], false⟩])
 (.cond (.tmp 9)
  .skip
  (.exit 0)))
 (.seq
 (.block 1
  (.seq
  (.reg [⟨0, .q .mv, [.tmp 0], (some 12), none, [], false⟩,
    ⟨1, .q .mv, [.tmp 4], (some 13), none, [], false⟩,
    ⟨2, .q .ixs, [.tmp 12, .tmp 13], (some 14), none, [], false⟩,
    ⟨3, .q .mv, [.tmp 14], (some 5), none, [], false⟩])
  (.seq
  (.seq
  (.reg [⟨0, .q .mv, [.tmp 5], (some 15), none, [], false⟩,
    ⟨1, .q (.bin .geq), [.tmp 15, .const (.int .u8 128)], (some 16), none, [], false⟩])
  (.cond (.tmp 16)
   (.seq
   (.reg [⟨0, .q (.ldn 256), [.tmp 2], (some 17), none, [], false⟩,
     ⟨1, .e (.st 256), [.tmp 2, .tmp 17], none, none, [], false⟩,
     ⟨2, .q .mv, [.const (.bool false)], (some 3), none, [], false⟩])
   .ret)
   .skip))
  (.reg [⟨0, .q .mv, [.tmp 5], (some 18), none, [], false⟩,
    ⟨1, .q (.iada 256 1), [.tmp 2, .tmp 18], (some 19), none, [], false⟩,
    ⟨2, .e (.st 1), [.tmp 19, .const (.bool true)], none, none, [], false⟩]))))
 (.reg [⟨0, .q .mv, [.tmp 4], (some 10), none, [], false⟩,
   ⟨1, .q (.bin .add), [.tmp 10, .const (.int .i64 1)], (some 11), none, [], false⟩,
   ⟨2, .q .mv, [.tmp 11], (some 4), none, [], false⟩])))
def L79 : LFn :=
 ⟨21, [.c 2 (some 256), .t 3],
 (.seq
 (.reg [⟨0, .e (.new (Array.replicate 256 (.bool false)) 111), [], (some 2), none, [], false⟩,
   ⟨1, .q .mv, [.const (.bool false)], (some 3), none, [], false⟩])
 (.seq
 (.seq
 (.reg [⟨0, .q .mv, [.const (.int .i64 0)], (some 4), none, [], false⟩])
 (.block 0
  (.loop L79_0)))
 (.seq
 (.reg [⟨0, .q (.ldn 256), [.tmp 2], (some 20), none, [], false⟩,
   ⟨1, .e (.st 256), [.tmp 2, .tmp 20], none, none, [], false⟩,
   ⟨2, .q .mv, [.const (.bool true)], (some 3), none, [], false⟩])
 .ret)))⟩
theorem low79 : lowFn Tryd.prog Tryd.f79 = some L79 := by kernel_rfl
theorem call79 {args : List Value} {H : Heap} {S : Ending → Heap → Prop} (hn : args.length ≤ L79.n) (h : awpC Tryd.prog L79.body (retQ L79.results S) (fun ch H => S (.panicked ch) H) (env0 args) H) : ACalls Tryd.prog 79 args.toArray H S := acalls mixed Tryd.func79 low79 hn h
/-- bytes.trimLeftASCII -/
def L80_0 : LCode :=
 (.seq
 (.seq
 (.reg [⟨0, .q .mv, [.tmp 0], (some 5), none, [], false⟩,
   ⟨1, .q .len, [.tmp 5], (some 6), none, [], false⟩,
   ⟨2, .q (.bin .gtr), [.tmp 6, .const (.int .i64 0)], (some 7), none, [], false⟩])
 (.cond (.tmp 7)
  .skip
  (.exit 0)))
 (.block 1
  (.seq
  (.seq
  (.reg [⟨0, .q .mv, [.tmp 1], (some 8), none, [], false⟩,
    ⟨1, .q .mv, [.tmp 0], (some 9), none, [], false⟩,
    ⟨2, .q (.iad 1), [.tmp 9, .const (.int .i64 0)], (some 10), none, [], false⟩,
    ⟨3, .q .ld, [.tmp 10], (some 11), none, [], false⟩,
    ⟨4, .e (.call 89), [.tmp 8, .tmp 11], (some 12), none, [], false⟩,
    ⟨5, .q (.un .not), [.tmp 12], (some 13), none, [], false⟩])
  (.cond (.tmp 13)
   (.exit 0)
   .skip))
  (.reg [⟨0, .q .mv, [.tmp 0], (some 14), none, [], false⟩,
    ⟨1, .q (.slc 1 true false false), [.tmp 14, .const (.int .i64 1)], (some 15), none, [], false⟩,
    ⟨2, .q .mv, [.tmp 15], (some 0), none, [], false⟩]))))
def L80_1 : LCode :=
 (.seq
 (.seq
 (.reg [⟨0, .q .mv, [.tmp 0], (some 16), none, [], false⟩,
   ⟨1, .q .len, [.tmp 16], (some 17), none, [], false⟩,
   ⟨2, .q (.bin .eql), [.tmp 17, .const (.int .i64 0)], (some 18), none, [], false⟩])
 (.cond (.tmp 18)
  (.seq
  (.reg [⟨0, .q .mv, [.const (.slice none 0 0)], (some 4), none, [], false⟩])
  .ret)
  .skip))
 (.seq
 (.reg [⟨0, .q .mv, [.tmp 0], (some 19), none, [], false⟩,
   ⟨1, .q .mv, [.tmp 19], (some 4), none, [], false⟩])
 .ret))
def L80 : LFn :=
 ⟨20, [.t 4],
 (.seq
 (.reg [⟨0, .q .mv, [.const (.slice none 0 0)], (some 4), none, [], false⟩])
 (.seq
 (.block 0
  (.loop L80_0))
 L80_1))⟩
theorem low80 : lowFn Tryd.prog Tryd.f80 = some L80 := by kernel_rfl
theorem call80 {args : List Value} {H : Heap} {S : Ending → Heap → Prop} (hn : args.length ≤ L80.n) (h : awpC Tryd.prog L80.body (retQ L80.results S) (fun ch H => S (.panicked ch) H) (env0 args) H) : ACalls Tryd.prog 80 args.toArray H S := acalls mixed Tryd.func80 low80 hn h
/-- bytes.trimRightASCII -/
def L83_0 : LCode :=
 (.seq
 (.seq
 (.reg [⟨0, .q .mv, [.tmp 0], (some 5), none, [], false⟩,
   ⟨1, .q .len, [.tmp 5], (some 6), none, [], false⟩,
   ⟨2, .q (.bin .gtr), [.tmp 6, .const (.int .i64 0)], (some 7), none, [], false⟩])
 (.cond (.tmp 7)
  .skip
  (.exit 0)))
 (.block 1
  (.seq
  (.seq
  (.reg [⟨0, .q .mv, [.tmp 1], (some 8), none, [], false⟩,
    ⟨1, .q .mv, [.tmp 0], (some 9), none, [], false⟩,
    ⟨2, .q .mv, [.tmp 0], (some 10), none, [], false⟩,
    ⟨3, .q .len, [.tmp 10], (some 11), none, [], false⟩,
    ⟨4, .q (.bin .sub), [.tmp 11, .const (.int .i64 1)], (some 12), none, [], false⟩,
    ⟨5, .q (.iad 1), [.tmp 9, .tmp 12], (some 13), none, [], false⟩,
    ⟨6, .q .ld, [.tmp 13], (some 14), none, [], false⟩,
    ⟨7, .e (.call 89), [.tmp 8, .tmp 14], (some 15), none, [], false⟩,
    ⟨8, .q (.un .not), [.tmp 15], (some 16), none, [], false⟩])
  (.cond (.tmp 16)
   (.exit 0)
   .skip))
  (.reg [⟨0, .q .mv, [.tmp 0], (some 17), none, [], false⟩,
    ⟨1, .q .mv, [.tmp 0], (some 18), none, [], false⟩,
    ⟨2, .q .len, [.tmp 18], (some 19), none, [], false⟩,
    ⟨3, .q (.bin .sub), [.tmp 19, .const (.int .i64 1)], (some 20), none, [], false⟩,
    ⟨4, .q (.slc 1 false true false), [.tmp 17, .tmp 20], (some 21), none, [], false⟩,
    ⟨5, .q .mv, [.tmp 21], (some 0), none, [], false⟩]))))
def L83_1 : LCode :=
 (.seq
 (.reg [⟨0, .q .mv, [.tmp 0], (some 22), none, [], false⟩,
   ⟨1, .q .mv, [.tmp 22], (some 4), none, [], false⟩])
 .ret)
def L83 : LFn :=
 ⟨23, [.t 4],
 (.seq
 (.reg [⟨0, .q .mv, [.const (.slice none 0 0)], (some 4), none, [], false⟩])
 (.seq
 (.block 0
  (.loop L83_0))
 L83_1))⟩
theorem low83 : lowFn Tryd.prog Tryd.f83 = some L83 := by kernel_rfl
theorem call83 {args : List Value} {H : Heap} {S : Ending → Heap → Prop} (hn : args.length ≤ L83.n) (h : awpC Tryd.prog L83.body (retQ L83.results S) (fun ch H => S (.panicked ch) H) (env0 args) H) : ACalls Tryd.prog 83 args.toArray H S := acalls mixed Tryd.func83 low83 hn h
/-- (*bytes.asciiSet).contains -/
def L89 : LFn :=
 ⟨10, [.t 4],
 (.seq
 (.reg [⟨0, .q .mv, [.const (.bool false)], (some 4), none, [], false⟩])
 (.seq
 (.reg [⟨0, .q .mv, [.tmp 0], (some 5), none, [], false⟩,
   ⟨1, .q .mv, [.tmp 1], (some 6), none, [], false⟩,
   ⟨2, .q .nilc, [.tmp 5], (some 7), none, [], false⟩,
   ⟨3, .q (.iada 256 1), [.tmp 7, .tmp 6], (some 8), none, [], false⟩,
   ⟨4, .q .ld, [.tmp 8], (some 9), none, [], false⟩,
   ⟨5, .q .mv, [.tmp 9], (some 4), none, [], false⟩])
 .ret))⟩
theorem low89 : lowFn Tryd.prog Tryd.f89 = some L89 := by kernel_rfl
theorem call89 {args : List Value} {H : Heap} {S : Ending → Heap → Prop} (hn : args.length ≤ L89.n) (h : awpC Tryd.prog L89.body (retQ L89.results S) (fun ch H => S (.panicked ch) H) (env0 args) H) : ACalls Tryd.prog 89 args.toArray H S := acalls mixed Tryd.func89 low89 hn h
end Go.Proofs.YthflafgijfbpnaaDoor.Low
