/-
  Functions in short (out of the program's form in Lean, by the kernel).
-/
import Derived.Test.YtigignkgblaoaaaDoorSepCode
import Derived.Test.YtigignkgblaoaaaDoorProg
namespace Go.Proofs.YtigignkgblaoaaaDoor.Low
open Go Go.Proofs.YtigignkgblaoaaaDoor.Sep
theorem mixed : Tryd.prog.follows .mixedOrders = true := by kernel_rfl
/-- satchel/field.Sums -/
def L27_0 : LCode :=
 (.seq
 (.reg [⟨0, .q .mv, [.tmp 4], (some 19), none, [], false⟩,
   ⟨1, .q .mv, [.tmp 7], (some 20), none, [], false⟩,
   ⟨2, .q (.cvi .i64), [.tmp 20], (some 21), none, [], false⟩,
   ⟨3, .q (.bin .add), [.tmp 19, .tmp 21], (some 22), none, [], false⟩,
   ⟨4, .q .mv, [.tmp 22], (some 4), none, [], false⟩])
 (.reg [⟨0, .q .mv, [.tmp 5], (some 23), none, [], false⟩,
   ⟨1, .q .mv, [.tmp 7], (some 24), none, [], false⟩,
   ⟨2, .q (.cvi .i8), [.tmp 24], (some 25), none, [], false⟩,
   ⟨3, .q (.cvi .i64), [.tmp 25], (some 26), none, [], false⟩,
   ⟨4, .q (.bin .add), [.tmp 23, .tmp 26], (some 27), none, [], false⟩,
   ⟨5, .q .mv, [.tmp 27], (some 5), none, [], false⟩]))
def L27_1 : LCode :=
 (.reg [⟨0, .q (.bin .add), [.tmp 9, .const (.int .i64 1)], (some 28), none, [], false⟩,
   ⟨1, .q .mv, [.tmp 28], (some 9), none, [], false⟩])
def L27_2 : LCode :=
 (.seq
 (.reg [⟨0, .q (.bin .lss), [.tmp 9, .const (.int .i64 512)], (some 10), none, [], false⟩])
 (.seq
 (.cond (.tmp 10)
  .skip
  (.exit 0))
 (.seq
 (.block 1
  (.seq
  (.reg [⟨0, .q .mv, [.tmp 9], (some 11), none, [], false⟩,
    ⟨1, .q (.ixa 512 1 false), [.tmp 8, .tmp 9], (some 12), none, [], false⟩,
    ⟨2, .q .mv, [.tmp 11], (some 6), none, [], false⟩,
    ⟨3, .q .mv, [.tmp 12], (some 7), none, [], false⟩])
  (.seq
  (.seq
  (.reg [⟨0, .q .mv, [.tmp 6], (some 13), none, [], false⟩,
    ⟨1, .q (.bin .geq), [.tmp 13, .const (.int .i64 148)], (some 14), none, [], false⟩,
    ⟨2, .q .mv, [.tmp 14], (some 15), none, [], false⟩,
    ⟨3, .q .mv, [.tmp 6], (some 16), (some (15, true)), [], false⟩,
    ⟨4, .q (.bin .lss), [.tmp 16, .const (.int .i64 156)], (some 17), (some (15, true)), [], false⟩,
    ⟨5, .q .pick, [.tmp 15, .tmp 17, .const (.bool false)], (some 18), none, [], false⟩])
  (.cond (.tmp 18)
   (.reg [⟨0, .q .mv, [.const (.int .u8 32)], (some 7), none, [], false⟩])
   .skip))
  L27_0)))
 L27_1)))
def L27 : LFn :=
 ⟨31, [.t 2, .t 3],
 (.seq
 (.reg [⟨0, .e (.box 33), [.tmp 0], (some 1), none, [], false⟩,
   ⟨1, .q .mv, [.const (.int .i64 0)], (some 2), none, [], false⟩,
   ⟨2, .q .mv, [.const (.int .i64 0)], (some 3), none, [], false⟩])
 (.seq
 (.reg [⟨0, .q .mv, [.const (.int .i64 0)], (some 4), none, [], false⟩,
   ⟨1, .q .mv, [.const (.int .i64 0)], (some 5), none, [], false⟩])
 (.seq
 (.seq
 (.reg [⟨0, .q (.ldn 512), [.tmp 1], (some 8), none, [], false⟩,
   ⟨1, .q .mv, [.const (.int .i64 0)], (some 9), none, [], false⟩])
 (.block 0
  (.loop L27_2)))
 (.seq
 (.reg [⟨0, .q .mv, [.tmp 4], (some 29), none, [], false⟩,
   ⟨1, .q .mv, [.tmp 5], (some 30), none, [], false⟩,
   ⟨2, .q .mv, [.tmp 29], (some 2), none, [], false⟩,
   ⟨3, .q .mv, [.tmp 30], (some 3), none, [], false⟩])
 .ret))))⟩
theorem low27 : lowFn Tryd.prog Tryd.f27 = some L27 := by kernel_rfl
theorem call27 {args : List Value} {H : Heap} {S : Ending → Heap → Prop} (hn : args.length ≤ L27.n) (h : awpC Tryd.prog L27.body (retQ L27.results S) (fun ch H => S (.panicked ch) H) (env0 args) H) : ACalls Tryd.prog 27 args.toArray H S := acalls mixed Tryd.func27 low27 hn h
/-- satchel/satchelref12.Sums -/
def L28_0 : LCode :=
 (.seq
 (.reg [⟨0, .q .mv, [.tmp 4], (some 21), none, [], false⟩,
   ⟨1, .q .mv, [.tmp 7], (some 22), none, [], false⟩,
   ⟨2, .q (.cvi .i64), [.tmp 22], (some 23), none, [], false⟩,
   ⟨3, .q (.bin .add), [.tmp 21, .tmp 23], (some 24), none, [], false⟩,
   ⟨4, .q .mv, [.tmp 24], (some 4), none, [], false⟩])
 (.reg [⟨0, .q .mv, [.tmp 5], (some 25), none, [], false⟩,
   ⟨1, .q .mv, [.tmp 7], (some 26), none, [], false⟩,
   ⟨2, .q (.cvi .i8), [.tmp 26], (some 27), none, [], false⟩,
   ⟨3, .q (.cvi .i64), [.tmp 27], (some 28), none, [], false⟩,
   ⟨4, .q (.bin .add), [.tmp 25, .tmp 28], (some 29), none, [], false⟩,
   ⟨5, .q .mv, [.tmp 29], (some 5), none, [], false⟩]))
def L28_1 : LCode :=
 (.reg [⟨0, .q .mv, [.tmp 6], (some 10), none, [], false⟩,
   ⟨1, .q (.bin .add), [.tmp 10, .const (.int .i64 1)], (some 11), none, [], false⟩,
   ⟨2, .q .mv, [.tmp 11], (some 6), none, [], false⟩])
def L28_2 : LCode :=
 (.seq
 (.seq
 (.reg [⟨0, .q .mv, [.tmp 6], (some 8), none, [], false⟩,
   ⟨1, .q (.bin .lss), [.tmp 8, .const (.int .i64 512)], (some 9), none, [], false⟩])
 (.cond (.tmp 9)
  .skip
  (.exit 0)))
 (.seq
 (.block 1
  (.seq
  (.reg [⟨0, .q .mv, [.tmp 6], (some 12), none, [], false⟩,
    ⟨1, .q (.iada 512 1), [.tmp 1, .tmp 12], (some 13), none, [], false⟩,
    ⟨2, .q .ld, [.tmp 13], (some 14), none, [], false⟩,
    ⟨3, .q .mv, [.tmp 14], (some 7), none, [], false⟩])
  (.seq
  (.seq
  (.reg [⟨0, .q .mv, [.tmp 6], (some 15), none, [], false⟩,
    ⟨1, .q (.bin .geq), [.tmp 15, .const (.int .i64 148)], (some 16), none, [], false⟩,
    ⟨2, .q .mv, [.tmp 16], (some 17), none, [], false⟩,
    ⟨3, .q .mv, [.tmp 6], (some 18), (some (17, true)), [], false⟩,
    ⟨4, .q (.bin .lss), [.tmp 18, .const (.int .i64 156)], (some 19), (some (17, true)), [], false⟩,
    ⟨5, .q .pick, [.tmp 17, .tmp 19, .const (.bool false)], (some 20), none, [], false⟩])
  (.cond (.tmp 20)
   (.reg [⟨0, .q .mv, [.const (.int .u8 32)], (some 7), none, [], false⟩])
   .skip))
  L28_0)))
 L28_1))
def L28 : LFn :=
 ⟨32, [.t 2, .t 3],
 (.seq
 (.reg [⟨0, .e (.box 33), [.tmp 0], (some 1), none, [], false⟩,
   ⟨1, .q .mv, [.const (.int .i64 0)], (some 2), none, [], false⟩,
   ⟨2, .q .mv, [.const (.int .i64 0)], (some 3), none, [], false⟩])
 (.seq
 (.reg [⟨0, .q .mv, [.const (.int .i64 0)], (some 4), none, [], false⟩,
   ⟨1, .q .mv, [.const (.int .i64 0)], (some 5), none, [], false⟩])
 (.seq
 (.seq
 (.reg [⟨0, .q .mv, [.const (.int .i64 0)], (some 6), none, [], false⟩])
 (.block 0
  (.loop L28_2)))
 (.seq
 (.reg [⟨0, .q .mv, [.tmp 4], (some 30), none, [], false⟩,
   ⟨1, .q .mv, [.tmp 5], (some 31), none, [], false⟩,
   ⟨2, .q .mv, [.tmp 30], (some 2), none, [], false⟩,
   ⟨3, .q .mv, [.tmp 31], (some 3), none, [], false⟩])
 .ret))))⟩
theorem low28 : lowFn Tryd.prog Tryd.f28 = some L28 := by kernel_rfl
theorem call28 {args : List Value} {H : Heap} {S : Ending → Heap → Prop} (hn : args.length ≤ L28.n) (h : awpC Tryd.prog L28.body (retQ L28.results S) (fun ch H => S (.panicked ch) H) (env0 args) H) : ACalls Tryd.prog 28 args.toArray H S := acalls mixed Tryd.func28 low28 hn h
/-- the first n cells, each a number -/
def eqI (n : Nat) : List (Nat × Leaf) := (List.range n).map fun i => (i, .i)
/-- satchel/field.Zero -/
def L33 : LFn :=
 ⟨6, [.t 2],
 (.seq
 (.reg [⟨0, .e (.box 33), [.tmp 0], (some 1), none, [], false⟩,
   ⟨1, .q .mv, [.const (.bool false)], (some 2), none, [], false⟩])
 (.seq
 (.reg [⟨0, .q (.ldn 512), [.tmp 1], (some 3), none, [], false⟩,
   ⟨1, .q (.build (Array.replicate 512 (.int .u8 0)) []), [], (some 4), none, [], false⟩,
   ⟨2, .q (.eqa (eqI 512) false), [.tmp 3, .tmp 4], (some 5), none, [], false⟩,
   ⟨3, .q .mv, [.tmp 5], (some 2), none, [], false⟩])
 .ret))⟩
theorem low33 : lowFn Tryd.prog Tryd.f33 = some L33 := by kernel_rfl
theorem call33 {args : List Value} {H : Heap} {S : Ending → Heap → Prop} (hn : args.length ≤ L33.n) (h : awpC Tryd.prog L33.body (retQ L33.results S) (fun ch H => S (.panicked ch) H) (env0 args) H) : ACalls Tryd.prog 33 args.toArray H S := acalls mixed Tryd.func33 low33 hn h
/-- satchel/satchelref12.Zero -/
def L34 : LFn :=
 ⟨6, [.t 2],
 (.seq
 (.reg [⟨0, .e (.box 33), [.tmp 0], (some 1), none, [], false⟩,
   ⟨1, .q .mv, [.const (.bool false)], (some 2), none, [], false⟩])
 (.seq
 (.reg [⟨0, .q (.ldn 512), [.tmp 1], (some 3), none, [], false⟩,
   ⟨1, .q (.build (Array.replicate 512 (.int .u8 0)) []), [], (some 4), none, [], false⟩,
   ⟨2, .q (.eqa (eqI 512) false), [.tmp 3, .tmp 4], (some 5), none, [], false⟩,
   ⟨3, .q .mv, [.tmp 5], (some 2), none, [], false⟩])
 .ret))⟩
theorem low34 : lowFn Tryd.prog Tryd.f34 = some L34 := by kernel_rfl
theorem call34 {args : List Value} {H : Heap} {S : Ending → Heap → Prop} (hn : args.length ≤ L34.n) (h : awpC Tryd.prog L34.body (retQ L34.results S) (fun ch H => S (.panicked ch) H) (env0 args) H) : ACalls Tryd.prog 34 args.toArray H S := acalls mixed Tryd.func34 low34 hn h
/-- satchel/satchellaw12.FieldRecords -/
def L5 : LFn :=
 ⟨50, [.t 2],
 (.seq
 (.reg [⟨0, .e (.box 33), [.tmp 0], (some 1), none, [], false⟩,
   ⟨1, .q .mv, [.const (.bool false)], (some 2), none, [], false⟩])
 (.seq
 (.reg [⟨0, .q (.ldn 512), [.tmp 1], (some 8), none, [], false⟩,
   ⟨1, .e (.call 27), [.tmp 8], (some 9), none, [], false⟩,
   ⟨2, .q .mv, [.tmp 9], (some 7), none, [], false⟩,
   ⟨3, .q (.ext 0), [.tmp 7], (some 10), none, [], false⟩,
   ⟨4, .q (.ext 1), [.tmp 7], (some 11), none, [], false⟩,
   ⟨5, .q .mv, [.tmp 10], (some 3), none, [], false⟩,
   ⟨6, .q .mv, [.tmp 11], (some 4), none, [], false⟩])
 (.seq
 (.reg [⟨0, .q (.ldn 512), [.tmp 1], (some 13), none, [], false⟩,
   ⟨1, .e (.call 28), [.tmp 13], (some 14), none, [], false⟩,
   ⟨2, .q .mv, [.tmp 14], (some 12), none, [], false⟩,
   ⟨3, .q (.ext 0), [.tmp 12], (some 15), none, [], false⟩,
   ⟨4, .q (.ext 1), [.tmp 12], (some 16), none, [], false⟩,
   ⟨5, .q .mv, [.tmp 15], (some 5), none, [], false⟩,
   ⟨6, .q .mv, [.tmp 16], (some 6), none, [], false⟩])
 (.seq
 (.reg [⟨0, .q .mv, [.tmp 3], (some 17), none, [], false⟩,
   ⟨1, .q .mv, [.tmp 5], (some 18), none, [], false⟩,
   ⟨2, .q (.bin .eql), [.tmp 17, .tmp 18], (some 19), none, [], false⟩,
   ⟨3, .q .mv, [.tmp 19], (some 20), none, [], false⟩,
   ⟨4, .q .mv, [.tmp 4], (some 21), (some (20, true)), [], false⟩,
   ⟨5, .q .mv, [.tmp 6], (some 22), (some (20, true)), [], false⟩,
   ⟨6, .q (.bin .eql), [.tmp 21, .tmp 22], (some 23), (some (20, true)), [], false⟩,
   ⟨7, .q .pick, [.tmp 20, .tmp 23, .const (.bool false)], (some 24), none, [], false⟩,
   ⟨8, .q .mv, [.tmp 24], (some 25), none, [], false⟩,
   ⟨9, .q (.ldn 512), [.tmp 1], (some 26), (some (25, true)), [], false⟩,
   ⟨11, .q (.ldn 512), [.tmp 1], (some 28), (some (25, true)), [], true⟩,
   ⟨10, .e (.call 29), [.tmp 26], (some 27), (some (25, true)), [11], false⟩,
   ⟨12, .e (.call 30), [.tmp 28], (some 29), (some (25, true)), [], false⟩,
   ⟨13, .q (.eqb false), [.tmp 27, .tmp 29], (some 30), (some (25, true)), [], false⟩,
   ⟨14, .q .pick, [.tmp 25, .tmp 30, .const (.bool false)], (some 31), none, [], false⟩,
   ⟨15, .q .mv, [.tmp 31], (some 32), none, [], false⟩,
   ⟨16, .q (.ldn 512), [.tmp 1], (some 33), (some (32, true)), [], false⟩,
   ⟨18, .q (.ldn 512), [.tmp 1], (some 35), (some (32, true)), [], true⟩,
   ⟨17, .e (.call 31), [.tmp 33], (some 34), (some (32, true)), [18], false⟩,
   ⟨19, .e (.call 32), [.tmp 35], (some 36), (some (32, true)), [], false⟩,
   ⟨20, .q (.eqa (eqI 512) false), [.tmp 34, .tmp 36], (some 37), (some (32, true)), [], false⟩,
   ⟨21, .q .pick, [.tmp 32, .tmp 37, .const (.bool false)], (some 38), none, [], false⟩,
   ⟨22, .q .mv, [.tmp 38], (some 39), none, [], false⟩,
   ⟨23, .q (.ldn 512), [.tmp 1], (some 40), (some (39, true)), [], false⟩,
   ⟨25, .q (.ldn 512), [.tmp 1], (some 42), (some (39, true)), [], true⟩,
   ⟨24, .e (.call 33), [.tmp 40], (some 41), (some (39, true)), [25], false⟩,
   ⟨26, .e (.call 34), [.tmp 42], (some 43), (some (39, true)), [], false⟩,
   ⟨27, .q (.eqb false), [.tmp 41, .tmp 43], (some 44), (some (39, true)), [], false⟩,
   ⟨28, .q .pick, [.tmp 39, .tmp 44, .const (.bool false)], (some 45), none, [], false⟩,
   ⟨29, .q .mv, [.tmp 45], (some 46), none, [], false⟩,
   ⟨30, .q (.build (Array.replicate 512 (.int .u8 0)) []), [], (some 47), (some (46, true)), [], false⟩,
   ⟨31, .e (.call 33), [.tmp 47], (some 48), (some (46, true)), [], false⟩,
   ⟨32, .q .pick, [.tmp 46, .tmp 48, .const (.bool false)], (some 49), none, [], false⟩,
   ⟨33, .q .mv, [.tmp 49], (some 2), none, [], false⟩])
 .ret))))⟩
theorem low5 : lowFn Tryd.prog Tryd.f5 = some L5 := by kernel_rfl
theorem call5 {args : List Value} {H : Heap} {S : Ending → Heap → Prop} (hn : args.length ≤ L5.n) (h : awpC Tryd.prog L5.body (retQ L5.results S) (fun ch H => S (.panicked ch) H) (env0 args) H) : ACalls Tryd.prog 5 args.toArray H S := acalls mixed Tryd.func5 low5 hn h
end Go.Proofs.YtigignkgblaoaaaDoor.Low
