/-
  Functions in short (out of the program's form in Lean, by the kernel).
-/
import Derived.Test.YtigignkgblaoaaaDoorSepCode
import Derived.Test.YtigignkgblaoaaaDoorProg
namespace Go.Proofs.YtigignkgblaoaaaDoor.Low
open Go Go.Proofs.YtigignkgblaoaaaDoor.Sep
theorem mixed : Tryd.prog.follows .mixedOrders = true := by kernel_rfl
/-- bytes.TrimLeft -/
def L36 : LFn :=
 ⟨36, [.t 4],
 (.seq
 (.reg [⟨0, .q .mv, [.const (.slice none 0 0)], (some 4), none, [], false⟩])
 (.seq
 (.seq
 (.reg [⟨0, .q .mv, [.tmp 0], (some 7), none, [], false⟩,
   ⟨1, .q .len, [.tmp 7], (some 8), none, [], false⟩,
   ⟨2, .q (.bin .eql), [.tmp 8, .const (.int .i64 0)], (some 9), none, [], false⟩])
 (.cond (.tmp 9)
  (.seq
  (.reg [⟨0, .q .mv, [.const (.slice none 0 0)], (some 4), none, [], false⟩])
  .ret)
  .skip))
 (.seq
 (.seq
 (.reg [⟨0, .q .mv, [.tmp 1], (some 10), none, [], false⟩,
   ⟨1, .q (.bin .eql), [.tmp 10, .const (.string ⟨#[]⟩)], (some 11), none, [], false⟩])
 (.cond (.tmp 11)
  (.seq
  (.reg [⟨0, .q .mv, [.tmp 0], (some 12), none, [], false⟩,
    ⟨1, .q .mv, [.tmp 12], (some 4), none, [], false⟩])
  .ret)
  .skip))
 (.seq
 (.seq
 (.reg [⟨0, .q .mv, [.tmp 1], (some 13), none, [], false⟩,
   ⟨1, .q .lens, [.tmp 13], (some 14), none, [], false⟩,
   ⟨2, .q (.bin .eql), [.tmp 14, .const (.int .i64 1)], (some 15), none, [], false⟩,
   ⟨3, .q .mv, [.tmp 15], (some 16), none, [], false⟩,
   ⟨4, .q .mv, [.tmp 1], (some 17), (some (16, true)), [], false⟩,
   ⟨5, .q .ixs, [.tmp 17, .const (.int .i64 0)], (some 18), (some (16, true)), [], false⟩,
   ⟨6, .q (.bin .lss), [.tmp 18, .const (.int .u8 128)], (some 19), (some (16, true)), [], false⟩,
   ⟨7, .q .pick, [.tmp 16, .tmp 19, .const (.bool false)], (some 20), none, [], false⟩])
 (.cond (.tmp 20)
  (.seq
  (.reg [⟨0, .q .mv, [.tmp 0], (some 21), none, [], false⟩,
    ⟨1, .q .mv, [.tmp 1], (some 22), none, [], false⟩,
    ⟨2, .q .ixs, [.tmp 22, .const (.int .i64 0)], (some 23), none, [], false⟩,
    ⟨3, .e (.call 43), [.tmp 21, .tmp 23], (some 24), none, [], false⟩,
    ⟨4, .q .mv, [.tmp 24], (some 4), none, [], false⟩])
  .ret)
  .skip))
 (.seq
 (.seq
 (.reg [⟨0, .q .mv, [.tmp 1], (some 26), none, [], false⟩,
   ⟨1, .e (.call 44), [.tmp 26], (some 27), none, [], false⟩,
   ⟨2, .q .mv, [.tmp 27], (some 25), none, [], false⟩,
   ⟨3, .q (.ext 0), [.tmp 25], (some 28), none, [], false⟩,
   ⟨4, .q (.ext 1), [.tmp 25], (some 29), none, [], false⟩,
   ⟨5, .e (.new (Array.replicate 256 (.bool false)) 54), [], (some 5), none, [], false⟩,
   ⟨6, .e (.st 256), [.tmp 5, .tmp 28], none, none, [], false⟩,
   ⟨7, .q .mv, [.tmp 29], (some 6), none, [], false⟩])
 (.seq
 (.reg [⟨0, .q .mv, [.tmp 6], (some 30), none, [], false⟩])
 (.cond (.tmp 30)
  (.seq
  (.reg [⟨0, .q .mv, [.tmp 0], (some 31), none, [], false⟩,
    ⟨1, .e (.call 45), [.tmp 31, .tmp 5], (some 32), none, [], false⟩,
    ⟨2, .q .mv, [.tmp 32], (some 4), none, [], false⟩])
  .ret)
  .skip)))
 (.seq
 (.reg [⟨0, .q .mv, [.tmp 0], (some 33), none, [], false⟩,
   ⟨1, .q .mv, [.tmp 1], (some 34), none, [], false⟩,
   ⟨2, .e (.call 46), [.tmp 33, .tmp 34], (some 35), none, [], false⟩,
   ⟨3, .q .mv, [.tmp 35], (some 4), none, [], false⟩])
 .ret))))))⟩
theorem low36 : lowFn Tryd.prog Tryd.f36 = some L36 := by kernel_rfl
theorem call36 {args : List Value} {H : Heap} {S : Ending → Heap → Prop} (hn : args.length ≤ L36.n) (h : awpC Tryd.prog L36.body (retQ L36.results S) (fun ch H => S (.panicked ch) H) (env0 args) H) : ACalls Tryd.prog 36 args.toArray H S := acalls mixed Tryd.func36 low36 hn h
/-- bytes.Trim -/
def L37 : LFn :=
 ⟨42, [.t 4],
 (.seq
 (.reg [⟨0, .q .mv, [.const (.slice none 0 0)], (some 4), none, [], false⟩])
 (.seq
 (.seq
 (.reg [⟨0, .q .mv, [.tmp 0], (some 7), none, [], false⟩,
   ⟨1, .q .len, [.tmp 7], (some 8), none, [], false⟩,
   ⟨2, .q (.bin .eql), [.tmp 8, .const (.int .i64 0)], (some 9), none, [], false⟩])
 (.cond (.tmp 9)
  (.seq
  (.reg [⟨0, .q .mv, [.const (.slice none 0 0)], (some 4), none, [], false⟩])
  .ret)
  .skip))
 (.seq
 (.seq
 (.reg [⟨0, .q .mv, [.tmp 1], (some 10), none, [], false⟩,
   ⟨1, .q (.bin .eql), [.tmp 10, .const (.string ⟨#[]⟩)], (some 11), none, [], false⟩])
 (.cond (.tmp 11)
  (.seq
  (.reg [⟨0, .q .mv, [.tmp 0], (some 12), none, [], false⟩,
    ⟨1, .q .mv, [.tmp 12], (some 4), none, [], false⟩])
  .ret)
  .skip))
 (.seq
 (.seq
 (.reg [⟨0, .q .mv, [.tmp 1], (some 13), none, [], false⟩,
   ⟨1, .q .lens, [.tmp 13], (some 14), none, [], false⟩,
   ⟨2, .q (.bin .eql), [.tmp 14, .const (.int .i64 1)], (some 15), none, [], false⟩,
   ⟨3, .q .mv, [.tmp 15], (some 16), none, [], false⟩,
   ⟨4, .q .mv, [.tmp 1], (some 17), (some (16, true)), [], false⟩,
   ⟨5, .q .ixs, [.tmp 17, .const (.int .i64 0)], (some 18), (some (16, true)), [], false⟩,
   ⟨6, .q (.bin .lss), [.tmp 18, .const (.int .u8 128)], (some 19), (some (16, true)), [], false⟩,
   ⟨7, .q .pick, [.tmp 16, .tmp 19, .const (.bool false)], (some 20), none, [], false⟩])
 (.cond (.tmp 20)
  (.seq
  (.reg [⟨0, .q .mv, [.tmp 0], (some 21), none, [], false⟩,
    ⟨1, .q .mv, [.tmp 1], (some 22), none, [], false⟩,
    ⟨2, .q .ixs, [.tmp 22, .const (.int .i64 0)], (some 23), none, [], false⟩,
    ⟨4, .q .mv, [.tmp 1], (some 25), none, [], false⟩,
    ⟨5, .q .ixs, [.tmp 25, .const (.int .i64 0)], (some 26), none, [], false⟩,
    ⟨3, .e (.call 47), [.tmp 21, .tmp 23], (some 24), none, [], false⟩,
    ⟨6, .e (.call 43), [.tmp 24, .tmp 26], (some 27), none, [], false⟩,
    ⟨7, .q .mv, [.tmp 27], (some 4), none, [], false⟩])
  .ret)
  .skip))
 (.seq
 (.seq
 (.reg [⟨0, .q .mv, [.tmp 1], (some 29), none, [], false⟩,
   ⟨1, .e (.call 44), [.tmp 29], (some 30), none, [], false⟩,
   ⟨2, .q .mv, [.tmp 30], (some 28), none, [], false⟩,
   ⟨3, .q (.ext 0), [.tmp 28], (some 31), none, [], false⟩,
   ⟨4, .q (.ext 1), [.tmp 28], (some 32), none, [], false⟩,
   ⟨5, .e (.new (Array.replicate 256 (.bool false)) 54), [], (some 5), none, [], false⟩,
   ⟨6, .e (.st 256), [.tmp 5, .tmp 31], none, none, [], false⟩,
   ⟨7, .q .mv, [.tmp 32], (some 6), none, [], false⟩])
 (.seq
 (.reg [⟨0, .q .mv, [.tmp 6], (some 33), none, [], false⟩])
 (.cond (.tmp 33)
  (.seq
  (.reg [⟨0, .q .mv, [.tmp 0], (some 34), none, [], false⟩,
    ⟨1, .e (.call 48), [.tmp 34, .tmp 5], (some 35), none, [], false⟩,
    ⟨2, .e (.call 45), [.tmp 35, .tmp 5], (some 36), none, [], false⟩,
    ⟨3, .q .mv, [.tmp 36], (some 4), none, [], false⟩])
  .ret)
  .skip)))
 (.seq
 (.reg [⟨0, .q .mv, [.tmp 0], (some 37), none, [], false⟩,
   ⟨1, .q .mv, [.tmp 1], (some 38), none, [], false⟩,
   ⟨2, .e (.call 49), [.tmp 37, .tmp 38], (some 39), none, [], false⟩,
   ⟨3, .q .mv, [.tmp 1], (some 40), none, [], false⟩,
   ⟨4, .e (.call 46), [.tmp 39, .tmp 40], (some 41), none, [], false⟩,
   ⟨5, .q .mv, [.tmp 41], (some 4), none, [], false⟩])
 .ret))))))⟩
theorem low37 : lowFn Tryd.prog Tryd.f37 = some L37 := by kernel_rfl
theorem call37 {args : List Value} {H : Heap} {S : Ending → Heap → Prop} (hn : args.length ≤ L37.n) (h : awpC Tryd.prog L37.body (retQ L37.results S) (fun ch H => S (.panicked ch) H) (env0 args) H) : ACalls Tryd.prog 37 args.toArray H S := acalls mixed Tryd.func37 low37 hn h
/-- bytes.trimLeftByte -/
def L43_0 : LCode :=
 (.seq
 (.seq
 (.reg [⟨0, .q .mv, [.tmp 0], (some 5), none, [], false⟩,
   ⟨1, .q .len, [.tmp 5], (some 6), none, [], false⟩,
   ⟨2, .q (.bin .gtr), [.tmp 6, .const (.int .i64 0)], (some 7), none, [], false⟩,
   ⟨3, .q .mv, [.tmp 7], (some 8), none, [], false⟩,
   ⟨4, .q .mv, [.tmp 0], (some 9), (some (8, true)), [], false⟩,
   ⟨5, .q (.iad 1), [.tmp 9, .const (.int .i64 0)], (some 10), (some (8, true)), [], false⟩,
   ⟨6, .q .ld, [.tmp 10], (some 11), (some (8, true)), [], false⟩,
   ⟨7, .q .mv, [.tmp 1], (some 12), (some (8, true)), [], false⟩,
   ⟨8, .q (.bin .eql), [.tmp 11, .tmp 12], (some 13), (some (8, true)), [], false⟩,
   ⟨9, .q .pick, [.tmp 8, .tmp 13, .const (.bool false)], (some 14), none, [], false⟩])
 (.cond (.tmp 14)
  .skip
  (.exit 0)))
 (.block 1
  (.reg [⟨0, .q .mv, [.tmp 0], (some 15), none, [], false⟩,
    ⟨1, .q (.slc 1 true false false), [.tmp 15, .const (.int .i64 1)], (some 16), none, [], false⟩,
    ⟨2, .q .mv, [.tmp 16], (some 0), none, [], false⟩])))
def L43 : LFn :=
 ⟨21, [.t 4],
 (.seq
 (.reg [⟨0, .q .mv, [.const (.slice none 0 0)], (some 4), none, [], false⟩])
 (.seq
 (.block 0
  (.loop L43_0))
 (.seq
 (.seq
 (.reg [⟨0, .q .mv, [.tmp 0], (some 17), none, [], false⟩,
   ⟨1, .q .len, [.tmp 17], (some 18), none, [], false⟩,
   ⟨2, .q (.bin .eql), [.tmp 18, .const (.int .i64 0)], (some 19), none, [], false⟩])
 (.cond (.tmp 19)
  (.seq
  (.reg [⟨0, .q .mv, [.const (.slice none 0 0)], (some 4), none, [], false⟩])
  .ret)
  .skip))
 (.seq
 (.reg [⟨0, .q .mv, [.tmp 0], (some 20), none, [], false⟩,
   ⟨1, .q .mv, [.tmp 20], (some 4), none, [], false⟩])
 .ret))))⟩
theorem low43 : lowFn Tryd.prog Tryd.f43 = some L43 := by kernel_rfl
theorem call43 {args : List Value} {H : Heap} {S : Ending → Heap → Prop} (hn : args.length ≤ L43.n) (h : awpC Tryd.prog L43.body (retQ L43.results S) (fun ch H => S (.panicked ch) H) (env0 args) H) : ACalls Tryd.prog 43 args.toArray H S := acalls mixed Tryd.func43 low43 hn h
/-- bytes.makeASCIISet -/
def L44_0 : LCode :=
 (.seq
 (.seq
 (.reg [⟨0, .q .mv, [.tmp 4], (some 6), none, [], false⟩,
   ⟨1, .q .mv, [.tmp 0], (some 7), none, [], false⟩,
   ⟨2, .q .lens, [.tmp 7], (some 8), none, [], false⟩,
   ⟨3, .q (.bin .lss), [.tmp 6, .tmp 8], (some 9), none, [], false⟩])
 (.cond (.tmp 9)
  .skip
  (.exit 0)))
 (.seq
 (.block 1
  (.seq
  (.reg [⟨0, .q .mv, [.tmp 0], (some 12), none, [], false⟩,
    ⟨1, .q .mv, [.tmp 4], (some 13), none, [], false⟩,
    ⟨2, .q .ixs, [.tmp 12, .tmp 13], (some 14), none, [], false⟩,
    ⟨3, .q .mv, [.tmp 14], (some 5), none, [], false⟩])
  (.seq
  (.seq
  (.reg [⟨0, .q .mv, [.tmp 5], (some 15), none, [], false⟩,
    ⟨1, .q (.bin .geq), [.tmp 15, .const (.int .u8 128)], (some 16), none, [], false⟩])
  (.cond (.tmp 16)
   (.seq
   (.reg [⟨0, .q (.ldn 256), [.tmp 2], (some 17), none, [], false⟩,
     ⟨1, .e (.st 256), [.tmp 2, .tmp 17], none, none, [], false⟩,
     ⟨2, .q .mv, [.const (.bool false)], (some 3), none, [], false⟩])
   .ret)
   .skip))
  (.reg [⟨0, .q .mv, [.tmp 5], (some 18), none, [], false⟩,
    ⟨1, .q (.iada 256 1), [.tmp 2, .tmp 18], (some 19), none, [], false⟩,
    ⟨2, .e (.st 1), [.tmp 19, .const (.bool true)], none, none, [], false⟩]))))
 (.reg [⟨0, .q .mv, [.tmp 4], (some 10), none, [], false⟩,
   ⟨1, .q (.bin .add), [.tmp 10, .const (.int .i64 1)], (some 11), none, [], false⟩,
   ⟨2, .q .mv, [.tmp 11], (some 4), none, [], false⟩])))
def L44 : LFn :=
 ⟨21, [.c 2 (some 256), .t 3],
 (.seq
 (.reg [⟨0, .e (.new (Array.replicate 256 (.bool false)) 54), [], (some 2), none, [], false⟩,
   ⟨1, .q .mv, [.const (.bool false)], (some 3), none, [], false⟩])
 (.seq
 (.seq
 (.reg [⟨0, .q .mv, [.const (.int .i64 0)], (some 4), none, [], false⟩])
 (.block 0
  (.loop L44_0)))
 (.seq
 (.reg [⟨0, .q (.ldn 256), [.tmp 2], (some 20), none, [], false⟩,
   ⟨1, .e (.st 256), [.tmp 2, .tmp 20], none, none, [], false⟩,
   ⟨2, .q .mv, [.const (.bool true)], (some 3), none, [], false⟩])
 .ret)))⟩
theorem low44 : lowFn Tryd.prog Tryd.f44 = some L44 := by kernel_rfl
theorem call44 {args : List Value} {H : Heap} {S : Ending → Heap → Prop} (hn : args.length ≤ L44.n) (h : awpC Tryd.prog L44.body (retQ L44.results S) (fun ch H => S (.panicked ch) H) (env0 args) H) : ACalls Tryd.prog 44 args.toArray H S := acalls mixed Tryd.func44 low44 hn h
/-- bytes.trimLeftASCII -/
def L45_0 : LCode :=
 (.seq
 (.seq
 (.reg [⟨0, .q .mv, [.tmp 0], (some 5), none, [], false⟩,
   ⟨1, .q .len, [.tmp 5], (some 6), none, [], false⟩,
   ⟨2, .q (.bin .gtr), [.tmp 6, .const (.int .i64 0)], (some 7), none, [], false⟩])
 (.cond (.tmp 7)
  .skip
  (.exit 0)))
 (.block 1
  (.seq
  (.seq
  (.reg [⟨0, .q .mv, [.tmp 1], (some 8), none, [], false⟩,
    ⟨1, .q .mv, [.tmp 0], (some 9), none, [], false⟩,
    ⟨2, .q (.iad 1), [.tmp 9, .const (.int .i64 0)], (some 10), none, [], false⟩,
    ⟨3, .q .ld, [.tmp 10], (some 11), none, [], false⟩,
    ⟨4, .e (.call 59), [.tmp 8, .tmp 11], (some 12), none, [], false⟩,
    ⟨5, .q (.un .not), [.tmp 12], (some 13), none, [], false⟩])
  (.cond (.tmp 13)
   (.exit 0)
   .skip))
  (.reg [⟨0, .q .mv, [.tmp 0], (some 14), none, [], false⟩,
    ⟨1, .q (.slc 1 true false false), [.tmp 14, .const (.int .i64 1)], (some 15), none, [], false⟩,
    ⟨2, .q .mv, [.tmp 15], (some 0), none, [], false⟩]))))
def L45_1 : LCode :=
 (.seq
 (.seq
 (.reg [⟨0, .q .mv, [.tmp 0], (some 16), none, [], false⟩,
   ⟨1, .q .len, [.tmp 16], (some 17), none, [], false⟩,
   ⟨2, .q (.bin .eql), [.tmp 17, .const (.int .i64 0)], (some 18), none, [], false⟩])
 (.cond (.tmp 18)
  (.seq
  (.reg [⟨0, .q .mv, [.const (.slice none 0 0)], (some 4), none, [], false⟩])
  .ret)
  .skip))
 (.seq
 (.reg [⟨0, .q .mv, [.tmp 0], (some 19), none, [], false⟩,
   ⟨1, .q .mv, [.tmp 19], (some 4), none, [], false⟩])
 .ret))
def L45 : LFn :=
 ⟨20, [.t 4],
 (.seq
 (.reg [⟨0, .q .mv, [.const (.slice none 0 0)], (some 4), none, [], false⟩])
 (.seq
 (.block 0
  (.loop L45_0))
 L45_1))⟩
theorem low45 : lowFn Tryd.prog Tryd.f45 = some L45 := by kernel_rfl
theorem call45 {args : List Value} {H : Heap} {S : Ending → Heap → Prop} (hn : args.length ≤ L45.n) (h : awpC Tryd.prog L45.body (retQ L45.results S) (fun ch H => S (.panicked ch) H) (env0 args) H) : ACalls Tryd.prog 45 args.toArray H S := acalls mixed Tryd.func45 low45 hn h
/-- bytes.trimRightASCII -/
def L48_0 : LCode :=
 (.seq
 (.seq
 (.reg [⟨0, .q .mv, [.tmp 0], (some 5), none, [], false⟩,
   ⟨1, .q .len, [.tmp 5], (some 6), none, [], false⟩,
   ⟨2, .q (.bin .gtr), [.tmp 6, .const (.int .i64 0)], (some 7), none, [], false⟩])
 (.cond (.tmp 7)
  .skip
  (.exit 0)))
 (.block 1
  (.seq
  (.seq
  (.reg [⟨0, .q .mv, [.tmp 1], (some 8), none, [], false⟩,
    ⟨1, .q .mv, [.tmp 0], (some 9), none, [], false⟩,
    ⟨2, .q .mv, [.tmp 0], (some 10), none, [], false⟩,
    ⟨3, .q .len, [.tmp 10], (some 11), none, [], false⟩,
    ⟨4, .q (.bin .sub), [.tmp 11, .const (.int .i64 1)], (some 12), none, [], false⟩,
    ⟨5, .q (.iad 1), [.tmp 9, .tmp 12], (some 13), none, [], false⟩,
    ⟨6, .q .ld, [.tmp 13], (some 14), none, [], false⟩,
    ⟨7, .e (.call 59), [.tmp 8, .tmp 14], (some 15), none, [], false⟩,
    ⟨8, .q (.un .not), [.tmp 15], (some 16), none, [], false⟩])
  (.cond (.tmp 16)
   (.exit 0)
   .skip))
  (.reg [⟨0, .q .mv, [.tmp 0], (some 17), none, [], false⟩,
    ⟨1, .q .mv, [.tmp 0], (some 18), none, [], false⟩,
    ⟨2, .q .len, [.tmp 18], (some 19), none, [], false⟩,
    ⟨3, .q (.bin .sub), [.tmp 19, .const (.int .i64 1)], (some 20), none, [], false⟩,
    ⟨4, .q (.slc 1 false true false), [.tmp 17, .tmp 20], (some 21), none, [], false⟩,
    ⟨5, .q .mv, [.tmp 21], (some 0), none, [], false⟩]))))
def L48_1 : LCode :=
 (.seq
 (.reg [⟨0, .q .mv, [.tmp 0], (some 22), none, [], false⟩,
   ⟨1, .q .mv, [.tmp 22], (some 4), none, [], false⟩])
 .ret)
def L48 : LFn :=
 ⟨23, [.t 4],
 (.seq
 (.reg [⟨0, .q .mv, [.const (.slice none 0 0)], (some 4), none, [], false⟩])
 (.seq
 (.block 0
  (.loop L48_0))
 L48_1))⟩
theorem low48 : lowFn Tryd.prog Tryd.f48 = some L48 := by kernel_rfl
theorem call48 {args : List Value} {H : Heap} {S : Ending → Heap → Prop} (hn : args.length ≤ L48.n) (h : awpC Tryd.prog L48.body (retQ L48.results S) (fun ch H => S (.panicked ch) H) (env0 args) H) : ACalls Tryd.prog 48 args.toArray H S := acalls mixed Tryd.func48 low48 hn h
/-- (*bytes.asciiSet).contains -/
def L59 : LFn :=
 ⟨10, [.t 4],
 (.seq
 (.reg [⟨0, .q .mv, [.const (.bool false)], (some 4), none, [], false⟩])
 (.seq
 (.reg [⟨0, .q .mv, [.tmp 0], (some 5), none, [], false⟩,
   ⟨1, .q .mv, [.tmp 1], (some 6), none, [], false⟩,
   ⟨2, .q .nilc, [.tmp 5], (some 7), none, [], false⟩,
   ⟨3, .q (.iada 256 1), [.tmp 7, .tmp 6], (some 8), none, [], false⟩,
   ⟨4, .q .ld, [.tmp 8], (some 9), none, [], false⟩,
   ⟨5, .q .mv, [.tmp 9], (some 4), none, [], false⟩])
 .ret))⟩
theorem low59 : lowFn Tryd.prog Tryd.f59 = some L59 := by kernel_rfl
theorem call59 {args : List Value} {H : Heap} {S : Ending → Heap → Prop} (hn : args.length ≤ L59.n) (h : awpC Tryd.prog L59.body (retQ L59.results S) (fun ch H => S (.panicked ch) H) (env0 args) H) : ACalls Tryd.prog 59 args.toArray H S := acalls mixed Tryd.func59 low59 hn h
end Go.Proofs.YtigignkgblaoaaaDoor.Low
