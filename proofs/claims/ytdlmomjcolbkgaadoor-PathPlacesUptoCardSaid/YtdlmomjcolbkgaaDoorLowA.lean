/-
  Functions in short (out of the program's form in Lean, by the kernel).
-/
import Derived.Test.YtdlmomjcolbkgaaDoorSepCode
import Derived.Test.YtdlmomjcolbkgaaDoorProg
namespace Go.Proofs.YtdlmomjcolbkgaaDoor.Low
open Go Go.Proofs.YtdlmomjcolbkgaaDoor.Sep
theorem mixed : Tryd.prog.follows .mixedOrders = true := by kernel_rfl
/-- satchel/satchellaw09.PathLeaves -/
def L3 : LFn :=
 ⟨28, [.t 4],
 (.seq
 (.reg [⟨0, .q .mv, [.const (.bool false)], (some 4), none, [], false⟩])
 (.seq
 (.reg [⟨0, .e (.lits 9 #[] 0 []), [], (some 6), none, [], false⟩,
   ⟨1, .q .mv, [.tmp 0], (some 7), none, [], false⟩,
   ⟨2, .e (.app 9 1 16 #[(.string ⟨#[]⟩)]), [.tmp 6, .tmp 7], (some 8), none, [], false⟩,
   ⟨3, .q .mv, [.tmp 8], (some 5), none, [], false⟩])
 (.seq
 (.reg [⟨0, .q .mv, [.tmp 5], (some 9), none, [], false⟩,
   ⟨1, .q .mv, [.tmp 1], (some 10), none, [], false⟩,
   ⟨2, .e (.call 8), [.tmp 9, .tmp 10], (some 11), none, [], false⟩,
   ⟨3, .q .mv, [.tmp 0], (some 12), none, [], false⟩,
   ⟨4, .q .mv, [.tmp 1], (some 13), none, [], false⟩,
   ⟨5, .e (.call 9), [.tmp 12, .tmp 13], (some 14), none, [], false⟩,
   ⟨6, .q (.eqb false), [.tmp 11, .tmp 14], (some 15), none, [], false⟩,
   ⟨7, .q .mv, [.tmp 15], (some 16), none, [], false⟩,
   ⟨8, .q .mv, [.tmp 5], (some 17), (some (16, true)), [], false⟩,
   ⟨9, .q .mv, [.tmp 0], (some 18), (some (16, true)), [], false⟩,
   ⟨10, .e (.call 10), [.tmp 17, .tmp 18], (some 19), (some (16, true)), [], false⟩,
   ⟨11, .q .pick, [.tmp 16, .tmp 19, .const (.bool false)], (some 20), none, [], false⟩,
   ⟨12, .q .mv, [.tmp 20], (some 21), none, [], false⟩,
   ⟨13, .e (.call 8), [.const (.slice none 0 0), .const (.string ⟨#[46, 46]⟩)], (some 22), (some (21, true)), [], false⟩,
   ⟨14, .q .pick, [.tmp 21, .tmp 22, .const (.bool false)], (some 23), none, [], false⟩,
   ⟨15, .q .mv, [.tmp 23], (some 24), none, [], false⟩,
   ⟨16, .e (.call 8), [.const (.slice none 0 0), .const (.string ⟨#[97]⟩)], (some 25), (some (24, true)), [], false⟩,
   ⟨17, .q (.un .not), [.tmp 25], (some 26), (some (24, true)), [], false⟩,
   ⟨18, .q .pick, [.tmp 24, .tmp 26, .const (.bool false)], (some 27), none, [], false⟩,
   ⟨19, .q .mv, [.tmp 27], (some 4), none, [], false⟩])
 .ret)))⟩
theorem low3 : lowFn Tryd.prog Tryd.f3 = some L3 := by kernel_rfl
theorem call3 {args : List Value} {H : Heap} {S : Ending → Heap → Prop} (hn : args.length ≤ L3.n) (h : awpC Tryd.prog L3.body (retQ L3.results S) (fun ch H => S (.panicked ch) H) (env0 args) H) : ACalls Tryd.prog 3 args.toArray H S := acalls mixed Tryd.func3 low3 hn h
/-- satchel/path.Leaves -/
def L8_0 : LCode :=
 (.cond (.tmp 22)
  .skip
  (.seq
  (.reg [⟨0, .q (.bin .eql), [.tmp 19, .const (.string ⟨#[46, 46]⟩)], (some 26), none, [], false⟩,
    ⟨1, .q .mv, [.tmp 26], (some 25), none, [], false⟩])
  (.cond (.tmp 25)
   (.seq
   (.seq
   (.reg [⟨0, .q .mv, [.tmp 5], (some 27), none, [], false⟩,
     ⟨1, .q (.bin .eql), [.tmp 27, .const (.int .i64 0)], (some 28), none, [], false⟩])
   (.cond (.tmp 28)
    (.seq
    (.reg [⟨0, .q .mv, [.const (.bool true)], (some 4), none, [], false⟩])
    .ret)
    .skip))
   (.reg [⟨0, .q .mv, [.tmp 5], (some 29), none, [], false⟩,
     ⟨1, .q (.bin .sub), [.tmp 29, .const (.int .i64 1)], (some 30), none, [], false⟩,
     ⟨2, .q .mv, [.tmp 30], (some 5), none, [], false⟩]))
   (.reg [⟨0, .q .mv, [.tmp 5], (some 20), none, [], false⟩,
     ⟨1, .q (.bin .add), [.tmp 20, .const (.int .i64 1)], (some 21), none, [], false⟩,
     ⟨2, .q .mv, [.tmp 21], (some 5), none, [], false⟩]))))
def L8_1 : LCode :=
 (.reg [⟨0, .q (.bin .add), [.tmp 15, .const (.int .i64 1)], (some 31), none, [], false⟩,
   ⟨1, .q .mv, [.tmp 31], (some 15), none, [], false⟩])
def L8_2 : LCode :=
 (.seq
 (.reg [⟨0, .q (.bin .lss), [.tmp 15, .tmp 14], (some 16), none, [], false⟩])
 (.seq
 (.cond (.tmp 16)
  .skip
  (.exit 0))
 (.seq
 (.block 1
  (.seq
  (.reg [⟨0, .q (.iad 1), [.tmp 13, .tmp 15], (some 17), none, [], false⟩,
    ⟨1, .q .ld, [.tmp 17], (some 18), none, [], false⟩,
    ⟨2, .q .mv, [.tmp 18], (some 7), none, [], false⟩])
  (.seq
  (.reg [⟨0, .q .mv, [.tmp 7], (some 19), none, [], false⟩])
  (.block 2
   (.seq
   (.seq
   (.reg [⟨0, .q (.bin .eql), [.tmp 19, .const (.string ⟨#[]⟩)], (some 23), none, [], false⟩,
     ⟨1, .q .mv, [.tmp 23], (some 22), none, [], false⟩])
   (.cond (.tmp 22)
    .skip
    (.reg [⟨0, .q (.bin .eql), [.tmp 19, .const (.string ⟨#[46]⟩)], (some 24), none, [], false⟩,
      ⟨1, .q .mv, [.tmp 24], (some 22), none, [], false⟩])))
   L8_0)))))
 L8_1)))
def L8 : LFn :=
 ⟨32, [.t 4],
 (.seq
 (.reg [⟨0, .q .mv, [.const (.bool false)], (some 4), none, [], false⟩])
 (.seq
 (.seq
 (.reg [⟨0, .q .mv, [.tmp 1], (some 8), none, [], false⟩,
   ⟨1, .e (.call 21), [.tmp 8, .const (.string ⟨#[47]⟩)], (some 9), none, [], false⟩])
 (.cond (.tmp 9)
  (.seq
  (.reg [⟨0, .q .mv, [.const (.bool true)], (some 4), none, [], false⟩])
  .ret)
  .skip))
 (.seq
 (.reg [⟨0, .q .mv, [.tmp 0], (some 10), none, [], false⟩,
   ⟨1, .q .len, [.tmp 10], (some 11), none, [], false⟩,
   ⟨2, .q .mv, [.tmp 11], (some 5), none, [], false⟩])
 (.seq
 (.seq
 (.reg [⟨0, .q .mv, [.tmp 1], (some 12), none, [], false⟩,
   ⟨1, .e (.call 22), [.tmp 12, .const (.string ⟨#[47]⟩)], (some 13), none, [], false⟩,
   ⟨2, .q .len, [.tmp 13], (some 14), none, [], false⟩,
   ⟨3, .q .mv, [.const (.int .i64 0)], (some 15), none, [], false⟩])
 (.block 0
  (.loop L8_2)))
 (.seq
 (.reg [⟨0, .q .mv, [.const (.bool false)], (some 4), none, [], false⟩])
 .ret)))))⟩
theorem low8 : lowFn Tryd.prog Tryd.f8 = some L8 := by kernel_rfl
theorem call8 {args : List Value} {H : Heap} {S : Ending → Heap → Prop} (hn : args.length ≤ L8.n) (h : awpC Tryd.prog L8.body (retQ L8.results S) (fun ch H => S (.panicked ch) H) (env0 args) H) : ACalls Tryd.prog 8 args.toArray H S := acalls mixed Tryd.func8 low8 hn h
/-- satchel/satchelref09.Leaves -/
def L9_0 : LCode :=
 (.reg [⟨0, .q .mv, [.tmp 7], (some 24), none, [], false⟩,
   ⟨1, .q (.bin .add), [.tmp 24, .const (.int .i64 1)], (some 25), none, [], false⟩,
   ⟨2, .q .mv, [.tmp 25], (some 7), none, [], false⟩])
def L9_1 : LCode :=
 (.seq
 (.seq
 (.reg [⟨0, .q .mv, [.tmp 7], (some 20), none, [], false⟩,
   ⟨1, .q .mv, [.tmp 5], (some 21), none, [], false⟩,
   ⟨2, .q .len, [.tmp 21], (some 22), none, [], false⟩,
   ⟨3, .q (.bin .lss), [.tmp 20, .tmp 22], (some 23), none, [], false⟩])
 (.cond (.tmp 23)
  .skip
  (.exit 0)))
 (.seq
 (.block 1
  (.seq
  (.reg [⟨0, .q .mv, [.tmp 5], (some 26), none, [], false⟩,
    ⟨1, .q .mv, [.tmp 7], (some 27), none, [], false⟩,
    ⟨2, .q (.iad 1), [.tmp 26, .tmp 27], (some 28), none, [], false⟩,
    ⟨3, .q .ld, [.tmp 28], (some 29), none, [], false⟩,
    ⟨4, .q (.bin .eql), [.tmp 29, .const (.string ⟨#[46, 46]⟩)], (some 30), none, [], false⟩])
  (.cond (.tmp 30)
   (.seq
   (.seq
   (.reg [⟨0, .q .mv, [.tmp 6], (some 31), none, [], false⟩,
     ⟨1, .q (.bin .eql), [.tmp 31, .const (.int .i64 0)], (some 32), none, [], false⟩])
   (.cond (.tmp 32)
    (.seq
    (.reg [⟨0, .q .mv, [.const (.bool true)], (some 4), none, [], false⟩])
    .ret)
    .skip))
   (.reg [⟨0, .q .mv, [.tmp 6], (some 33), none, [], false⟩,
     ⟨1, .q (.bin .sub), [.tmp 33, .const (.int .i64 1)], (some 34), none, [], false⟩,
     ⟨2, .q .mv, [.tmp 34], (some 6), none, [], false⟩]))
   (.seq
   (.reg [⟨0, .q .mv, [.tmp 5], (some 35), none, [], false⟩,
     ⟨1, .q .mv, [.tmp 7], (some 36), none, [], false⟩,
     ⟨2, .q (.iad 1), [.tmp 35, .tmp 36], (some 37), none, [], false⟩,
     ⟨3, .q .ld, [.tmp 37], (some 38), none, [], false⟩,
     ⟨4, .q (.bin .neq), [.tmp 38, .const (.string ⟨#[]⟩)], (some 39), none, [], false⟩,
     ⟨5, .q .mv, [.tmp 39], (some 40), none, [], false⟩,
     ⟨6, .q .mv, [.tmp 5], (some 41), (some (40, true)), [], false⟩,
     ⟨7, .q .mv, [.tmp 7], (some 42), (some (40, true)), [], false⟩,
     ⟨8, .q (.iad 1), [.tmp 41, .tmp 42], (some 43), (some (40, true)), [], false⟩,
     ⟨9, .q .ld, [.tmp 43], (some 44), (some (40, true)), [], false⟩,
     ⟨10, .q (.bin .neq), [.tmp 44, .const (.string ⟨#[46]⟩)], (some 45), (some (40, true)), [], false⟩,
     ⟨11, .q .pick, [.tmp 40, .tmp 45, .const (.bool false)], (some 46), none, [], false⟩])
   (.cond (.tmp 46)
    (.reg [⟨0, .q .mv, [.tmp 6], (some 47), none, [], false⟩,
      ⟨1, .q (.bin .add), [.tmp 47, .const (.int .i64 1)], (some 48), none, [], false⟩,
      ⟨2, .q .mv, [.tmp 48], (some 6), none, [], false⟩])
    .skip)))))
 L9_0))
def L9 : LFn :=
 ⟨49, [.t 4],
 (.seq
 (.reg [⟨0, .q .mv, [.const (.bool false)], (some 4), none, [], false⟩])
 (.seq
 (.seq
 (.reg [⟨0, .q .mv, [.tmp 1], (some 8), none, [], false⟩,
   ⟨1, .q .lens, [.tmp 8], (some 9), none, [], false⟩,
   ⟨2, .q (.bin .gtr), [.tmp 9, .const (.int .i64 0)], (some 10), none, [], false⟩,
   ⟨3, .q .mv, [.tmp 10], (some 11), none, [], false⟩,
   ⟨4, .q .mv, [.tmp 1], (some 12), (some (11, true)), [], false⟩,
   ⟨5, .q .ixs, [.tmp 12, .const (.int .i64 0)], (some 13), (some (11, true)), [], false⟩,
   ⟨6, .q (.bin .eql), [.tmp 13, .const (.int .u8 47)], (some 14), (some (11, true)), [], false⟩,
   ⟨7, .q .pick, [.tmp 11, .tmp 14, .const (.bool false)], (some 15), none, [], false⟩])
 (.cond (.tmp 15)
  (.seq
  (.reg [⟨0, .q .mv, [.const (.bool true)], (some 4), none, [], false⟩])
  .ret)
  .skip))
 (.seq
 (.reg [⟨0, .q .mv, [.tmp 1], (some 16), none, [], false⟩,
   ⟨1, .e (.call 23), [.tmp 16], (some 17), none, [], false⟩,
   ⟨2, .q .mv, [.tmp 17], (some 5), none, [], false⟩])
 (.seq
 (.reg [⟨0, .q .mv, [.tmp 0], (some 18), none, [], false⟩,
   ⟨1, .q .len, [.tmp 18], (some 19), none, [], false⟩,
   ⟨2, .q .mv, [.tmp 19], (some 6), none, [], false⟩])
 (.seq
 (.seq
 (.reg [⟨0, .q .mv, [.const (.int .i64 0)], (some 7), none, [], false⟩])
 (.block 0
  (.loop L9_1)))
 (.seq
 (.reg [⟨0, .q .mv, [.const (.bool false)], (some 4), none, [], false⟩])
 .ret))))))⟩
theorem low9 : lowFn Tryd.prog Tryd.f9 = some L9 := by kernel_rfl
theorem call9 {args : List Value} {H : Heap} {S : Ending → Heap → Prop} (hn : args.length ≤ L9.n) (h : awpC Tryd.prog L9.body (retQ L9.results S) (fun ch H => S (.panicked ch) H) (env0 args) H) : ACalls Tryd.prog 9 args.toArray H S := acalls mixed Tryd.func9 low9 hn h
/-- satchel/satchellaw09.same -/
def L10_0 : LCode :=
 (.seq
 (.seq
 (.reg [⟨0, .q .mv, [.tmp 5], (some 11), none, [], false⟩,
   ⟨1, .q .mv, [.tmp 0], (some 12), none, [], false⟩,
   ⟨2, .q .len, [.tmp 12], (some 13), none, [], false⟩,
   ⟨3, .q (.bin .lss), [.tmp 11, .tmp 13], (some 14), none, [], false⟩])
 (.cond (.tmp 14)
  .skip
  (.exit 0)))
 (.seq
 (.block 1
  (.seq
  (.reg [⟨0, .q .mv, [.tmp 0], (some 17), none, [], false⟩,
    ⟨1, .q .mv, [.tmp 5], (some 18), none, [], false⟩,
    ⟨2, .q (.iad 1), [.tmp 17, .tmp 18], (some 19), none, [], false⟩,
    ⟨3, .q .ld, [.tmp 19], (some 20), none, [], false⟩,
    ⟨4, .q .mv, [.tmp 1], (some 21), none, [], false⟩,
    ⟨5, .q .mv, [.tmp 5], (some 22), none, [], false⟩,
    ⟨6, .q (.iad 1), [.tmp 21, .tmp 22], (some 23), none, [], false⟩,
    ⟨7, .q .ld, [.tmp 23], (some 24), none, [], false⟩,
    ⟨8, .q (.bin .neq), [.tmp 20, .tmp 24], (some 25), none, [], false⟩])
  (.cond (.tmp 25)
   (.seq
   (.reg [⟨0, .q .mv, [.const (.bool false)], (some 4), none, [], false⟩])
   .ret)
   .skip)))
 (.reg [⟨0, .q .mv, [.tmp 5], (some 15), none, [], false⟩,
   ⟨1, .q (.bin .add), [.tmp 15, .const (.int .i64 1)], (some 16), none, [], false⟩,
   ⟨2, .q .mv, [.tmp 16], (some 5), none, [], false⟩])))
def L10 : LFn :=
 ⟨26, [.t 4],
 (.seq
 (.reg [⟨0, .q .mv, [.const (.bool false)], (some 4), none, [], false⟩])
 (.seq
 (.seq
 (.reg [⟨0, .q .mv, [.tmp 0], (some 6), none, [], false⟩,
   ⟨1, .q .len, [.tmp 6], (some 7), none, [], false⟩,
   ⟨2, .q .mv, [.tmp 1], (some 8), none, [], false⟩,
   ⟨3, .q .len, [.tmp 8], (some 9), none, [], false⟩,
   ⟨4, .q (.bin .neq), [.tmp 7, .tmp 9], (some 10), none, [], false⟩])
 (.cond (.tmp 10)
  (.seq
  (.reg [⟨0, .q .mv, [.const (.bool false)], (some 4), none, [], false⟩])
  .ret)
  .skip))
 (.seq
 (.seq
 (.reg [⟨0, .q .mv, [.const (.int .i64 0)], (some 5), none, [], false⟩])
 (.block 0
  (.loop L10_0)))
 (.seq
 (.reg [⟨0, .q .mv, [.const (.bool true)], (some 4), none, [], false⟩])
 .ret))))⟩
theorem low10 : lowFn Tryd.prog Tryd.f10 = some L10 := by kernel_rfl
theorem call10 {args : List Value} {H : Heap} {S : Ending → Heap → Prop} (hn : args.length ≤ L10.n) (h : awpC Tryd.prog L10.body (retQ L10.results S) (fun ch H => S (.panicked ch) H) (env0 args) H) : ACalls Tryd.prog 10 args.toArray H S := acalls mixed Tryd.func10 low10 hn h
/-- strings.Split -/
def L22 : LFn :=
 ⟨8, [.t 4],
 (.seq
 (.reg [⟨0, .q .mv, [.const (.slice none 0 0)], (some 4), none, [], false⟩])
 (.seq
 (.reg [⟨0, .q .mv, [.tmp 0], (some 5), none, [], false⟩,
   ⟨1, .q .mv, [.tmp 1], (some 6), none, [], false⟩,
   ⟨2, .e (.call 37), [.tmp 5, .tmp 6, .const (.int .i64 0), .const (.int .i64 (-1))], (some 7), none, [], false⟩,
   ⟨3, .q .mv, [.tmp 7], (some 4), none, [], false⟩])
 .ret))⟩
theorem low22 : lowFn Tryd.prog Tryd.f22 = some L22 := by kernel_rfl
theorem call22 {args : List Value} {H : Heap} {S : Ending → Heap → Prop} (hn : args.length ≤ L22.n) (h : awpC Tryd.prog L22.body (retQ L22.results S) (fun ch H => S (.panicked ch) H) (env0 args) H) : ACalls Tryd.prog 22 args.toArray H S := acalls mixed Tryd.func22 low22 hn h
/-- satchel/satchelref09.Pieces -/
def L23_0 : LCode :=
 (.reg [⟨0, .q .mv, [.tmp 5], (some 11), none, [], false⟩,
   ⟨1, .q (.bin .add), [.tmp 11, .const (.int .i64 1)], (some 12), none, [], false⟩,
   ⟨2, .q .mv, [.tmp 12], (some 5), none, [], false⟩])
def L23_1 : LCode :=
 (.seq
 (.seq
 (.reg [⟨0, .q .mv, [.tmp 5], (some 7), none, [], false⟩,
   ⟨1, .q .mv, [.tmp 0], (some 8), none, [], false⟩,
   ⟨2, .q .lens, [.tmp 8], (some 9), none, [], false⟩,
   ⟨3, .q (.bin .leq), [.tmp 7, .tmp 9], (some 10), none, [], false⟩])
 (.cond (.tmp 10)
  .skip
  (.exit 0)))
 (.seq
 (.block 1
  (.seq
  (.reg [⟨0, .q .mv, [.tmp 5], (some 13), none, [], false⟩,
    ⟨1, .q .mv, [.tmp 0], (some 14), none, [], false⟩,
    ⟨2, .q .lens, [.tmp 14], (some 15), none, [], false⟩,
    ⟨3, .q (.bin .eql), [.tmp 13, .tmp 15], (some 16), none, [], false⟩,
    ⟨4, .q .mv, [.tmp 16], (some 17), none, [], false⟩,
    ⟨5, .q .mv, [.tmp 0], (some 18), (some (17, false)), [], false⟩,
    ⟨6, .q .mv, [.tmp 5], (some 19), (some (17, false)), [], false⟩,
    ⟨7, .q .ixs, [.tmp 18, .tmp 19], (some 20), (some (17, false)), [], false⟩,
    ⟨8, .q (.bin .eql), [.tmp 20, .const (.int .u8 47)], (some 21), (some (17, false)), [], false⟩,
    ⟨9, .q .pick, [.tmp 17, .const (.bool true), .tmp 21], (some 22), none, [], false⟩])
  (.cond (.tmp 22)
   (.seq
   (.reg [⟨0, .q .mv, [.tmp 3], (some 23), none, [], false⟩,
     ⟨1, .q .mv, [.tmp 0], (some 24), none, [], false⟩,
     ⟨2, .q .mv, [.tmp 4], (some 25), none, [], false⟩,
     ⟨3, .q .mv, [.tmp 5], (some 26), none, [], false⟩,
     ⟨4, .q (.sls true true), [.tmp 24, .tmp 25, .tmp 26], (some 27), none, [], false⟩,
     ⟨5, .e (.lits 9 #[(.string ⟨#[]⟩)] 1 [(0, 1)]), [.tmp 27], (some 28), none, [], false⟩,
     ⟨6, .e (.app 9 1 16 #[(.string ⟨#[]⟩)]), [.tmp 23, .tmp 28], (some 29), none, [], false⟩,
     ⟨7, .q .mv, [.tmp 29], (some 3), none, [], false⟩])
   (.reg [⟨0, .q .mv, [.tmp 5], (some 30), none, [], false⟩,
     ⟨1, .q (.bin .add), [.tmp 30, .const (.int .i64 1)], (some 31), none, [], false⟩,
     ⟨2, .q .mv, [.tmp 31], (some 4), none, [], false⟩]))
   .skip)))
 L23_0))
def L23 : LFn :=
 ⟨33, [.t 2],
 (.seq
 (.reg [⟨0, .q .mv, [.const (.slice none 0 0)], (some 2), none, [], false⟩])
 (.seq
 (.reg [⟨0, .e (.lits 9 #[] 0 []), [], (some 6), none, [], false⟩,
   ⟨1, .q .mv, [.tmp 6], (some 3), none, [], false⟩])
 (.seq
 (.reg [⟨0, .q .mv, [.const (.int .i64 0)], (some 4), none, [], false⟩])
 (.seq
 (.seq
 (.reg [⟨0, .q .mv, [.const (.int .i64 0)], (some 5), none, [], false⟩])
 (.block 0
  (.loop L23_1)))
 (.seq
 (.reg [⟨0, .q .mv, [.tmp 3], (some 32), none, [], false⟩,
   ⟨1, .q .mv, [.tmp 32], (some 2), none, [], false⟩])
 .ret)))))⟩
theorem low23 : lowFn Tryd.prog Tryd.f23 = some L23 := by kernel_rfl
theorem call23 {args : List Value} {H : Heap} {S : Ending → Heap → Prop} (hn : args.length ≤ L23.n) (h : awpC Tryd.prog L23.body (retQ L23.results S) (fun ch H => S (.panicked ch) H) (env0 args) H) : ACalls Tryd.prog 23 args.toArray H S := acalls mixed Tryd.func23 low23 hn h
/-- strings.genSplit -/
def L37_0 : LCode :=
 (.seq
 (.seq
 (.reg [⟨0, .q .mv, [.tmp 10], (some 34), none, [], false⟩,
   ⟨1, .q .mv, [.tmp 3], (some 35), none, [], false⟩,
   ⟨2, .q (.bin .lss), [.tmp 34, .tmp 35], (some 36), none, [], false⟩])
 (.cond (.tmp 36)
  .skip
  (.exit 0)))
 (.block 1
  (.seq
  (.reg [⟨0, .q .mv, [.tmp 0], (some 37), none, [], false⟩,
    ⟨1, .q .mv, [.tmp 1], (some 38), none, [], false⟩,
    ⟨2, .e (.call 49), [.tmp 37, .tmp 38], (some 39), none, [], false⟩,
    ⟨3, .q .mv, [.tmp 39], (some 11), none, [], false⟩])
  (.seq
  (.seq
  (.reg [⟨0, .q .mv, [.tmp 11], (some 40), none, [], false⟩,
    ⟨1, .q (.bin .lss), [.tmp 40, .const (.int .i64 0)], (some 41), none, [], false⟩])
  (.cond (.tmp 41)
   (.exit 0)
   .skip))
  (.seq
  (.reg [⟨0, .q .mv, [.tmp 9], (some 42), none, [], false⟩,
    ⟨1, .q .mv, [.tmp 10], (some 43), none, [], false⟩,
    ⟨2, .q .mv, [.tmp 0], (some 44), none, [], false⟩,
    ⟨3, .q .mv, [.tmp 11], (some 45), none, [], false⟩,
    ⟨4, .q .mv, [.tmp 2], (some 46), none, [], false⟩,
    ⟨5, .q (.bin .add), [.tmp 45, .tmp 46], (some 47), none, [], false⟩,
    ⟨6, .q (.sls false true), [.tmp 44, .tmp 47], (some 48), none, [], false⟩,
    ⟨7, .q (.iad 1), [.tmp 42, .tmp 43], (some 49), none, [], false⟩,
    ⟨8, .e (.st 1), [.tmp 49, .tmp 48], none, none, [], false⟩])
  (.seq
  (.reg [⟨0, .q .mv, [.tmp 0], (some 50), none, [], false⟩,
    ⟨1, .q .mv, [.tmp 11], (some 51), none, [], false⟩,
    ⟨2, .q .mv, [.tmp 1], (some 52), none, [], false⟩,
    ⟨3, .q .lens, [.tmp 52], (some 53), none, [], false⟩,
    ⟨4, .q (.bin .add), [.tmp 51, .tmp 53], (some 54), none, [], false⟩,
    ⟨5, .q (.sls true false), [.tmp 50, .tmp 54], (some 55), none, [], false⟩,
    ⟨6, .q .mv, [.tmp 55], (some 0), none, [], false⟩])
  (.reg [⟨0, .q .mv, [.tmp 10], (some 56), none, [], false⟩,
    ⟨1, .q (.bin .add), [.tmp 56, .const (.int .i64 1)], (some 57), none, [], false⟩,
    ⟨2, .q .mv, [.tmp 57], (some 10), none, [], false⟩])))))))
def L37_1 : LCode :=
 (.seq
 (.reg [⟨0, .q .mv, [.tmp 9], (some 58), none, [], false⟩,
   ⟨1, .q .mv, [.tmp 10], (some 59), none, [], false⟩,
   ⟨2, .q .mv, [.tmp 0], (some 60), none, [], false⟩,
   ⟨3, .q (.iad 1), [.tmp 58, .tmp 59], (some 61), none, [], false⟩,
   ⟨4, .e (.st 1), [.tmp 61, .tmp 60], none, none, [], false⟩])
 (.seq
 (.reg [⟨0, .q .mv, [.tmp 9], (some 62), none, [], false⟩,
   ⟨1, .q .mv, [.tmp 10], (some 63), none, [], false⟩,
   ⟨2, .q (.bin .add), [.tmp 63, .const (.int .i64 1)], (some 64), none, [], false⟩,
   ⟨3, .q (.slc 1 false true false), [.tmp 62, .tmp 64], (some 65), none, [], false⟩,
   ⟨4, .q .mv, [.tmp 65], (some 8), none, [], false⟩])
 .ret))
def L37_2 : LCode :=
 (.seq
 (.reg [⟨0, .q .mv, [.tmp 3], (some 25), none, [], false⟩,
   ⟨1, .q .mv, [.tmp 0], (some 26), none, [], false⟩,
   ⟨2, .q .lens, [.tmp 26], (some 27), none, [], false⟩,
   ⟨3, .q (.bin .add), [.tmp 27, .const (.int .i64 1)], (some 28), none, [], false⟩,
   ⟨4, .q .min2, [.tmp 25, .tmp 28], (some 29), none, [], false⟩,
   ⟨5, .q .mv, [.tmp 29], (some 3), none, [], false⟩])
 (.seq
 (.reg [⟨0, .q .mv, [.tmp 3], (some 30), none, [], false⟩,
   ⟨1, .e (.mks 9 1 16 #[(.string ⟨#[]⟩)]), [.tmp 30, .tmp 30], (some 31), none, [], false⟩,
   ⟨2, .q .mv, [.tmp 31], (some 9), none, [], false⟩])
 (.seq
 (.reg [⟨0, .q .mv, [.tmp 3], (some 32), none, [], false⟩,
   ⟨1, .q (.bin .sub), [.tmp 32, .const (.int .i64 1)], (some 33), none, [], false⟩,
   ⟨2, .q .mv, [.tmp 33], (some 3), none, [], false⟩])
 (.seq
 (.reg [⟨0, .q .mv, [.const (.int .i64 0)], (some 10), none, [], false⟩])
 (.seq
 (.block 0
  (.loop L37_0))
 L37_1)))))
def L37 : LFn :=
 ⟨66, [.t 8],
 (.seq
 (.reg [⟨0, .q .mv, [.const (.slice none 0 0)], (some 8), none, [], false⟩])
 (.seq
 (.seq
 (.reg [⟨0, .q .mv, [.tmp 3], (some 12), none, [], false⟩,
   ⟨1, .q (.bin .eql), [.tmp 12, .const (.int .i64 0)], (some 13), none, [], false⟩])
 (.cond (.tmp 13)
  (.seq
  (.reg [⟨0, .q .mv, [.const (.slice none 0 0)], (some 8), none, [], false⟩])
  .ret)
  .skip))
 (.seq
 (.seq
 (.reg [⟨0, .q .mv, [.tmp 1], (some 14), none, [], false⟩,
   ⟨1, .q (.bin .eql), [.tmp 14, .const (.string ⟨#[]⟩)], (some 15), none, [], false⟩])
 (.cond (.tmp 15)
  (.seq
  (.reg [⟨0, .q .mv, [.tmp 0], (some 16), none, [], false⟩,
    ⟨1, .q .mv, [.tmp 3], (some 17), none, [], false⟩,
    ⟨2, .e (.call 47), [.tmp 16, .tmp 17], (some 18), none, [], false⟩,
    ⟨3, .q .mv, [.tmp 18], (some 8), none, [], false⟩])
  .ret)
  .skip))
 (.seq
 (.seq
 (.reg [⟨0, .q .mv, [.tmp 3], (some 19), none, [], false⟩,
   ⟨1, .q (.bin .lss), [.tmp 19, .const (.int .i64 0)], (some 20), none, [], false⟩])
 (.cond (.tmp 20)
  (.reg [⟨0, .q .mv, [.tmp 0], (some 21), none, [], false⟩,
    ⟨1, .q .mv, [.tmp 1], (some 22), none, [], false⟩,
    ⟨2, .e (.call 48), [.tmp 21, .tmp 22], (some 23), none, [], false⟩,
    ⟨3, .q (.bin .add), [.tmp 23, .const (.int .i64 1)], (some 24), none, [], false⟩,
    ⟨4, .q .mv, [.tmp 24], (some 3), none, [], false⟩])
  .skip))
 L37_2))))⟩
theorem low37 : lowFn Tryd.prog Tryd.f37 = some L37 := by kernel_rfl
theorem call37 {args : List Value} {H : Heap} {S : Ending → Heap → Prop} (hn : args.length ≤ L37.n) (h : awpC Tryd.prog L37.body (retQ L37.results S) (fun ch H => S (.panicked ch) H) (env0 args) H) : ACalls Tryd.prog 37 args.toArray H S := acalls mixed Tryd.func37 low37 hn h
end Go.Proofs.YtdlmomjcolbkgaaDoor.Low
