/-
  Functions in short (out of the program's form in Lean, by the kernel).
-/
import Derived.Test.YtfdcolicpfellaaSepCode
import Derived.Test.YtfdcolicpfellaaProg
namespace Go.Proofs.Ytfdcolicpfellaa.Low
open Go Go.Proofs.Ytfdcolicpfellaa.Sep
theorem mixed : Try.prog.follows .mixedOrders = true := by kernel_rfl
/-- (*satchel/bits.Writer).Put -/
def L10_0 : LCode :=
 (.seq
 (.reg [⟨0, .q .mv, [.tmp 0], (some 40), none, [], false⟩,
   ⟨1, .q .nilc, [.tmp 40], (some 41), none, [], false⟩,
   ⟨2, .q (.fad 0), [.tmp 41], (some 42), none, [], false⟩,
   ⟨3, .q .ld, [.tmp 42], (some 43), none, [], false⟩,
   ⟨4, .q .mv, [.tmp 0], (some 44), none, [], false⟩,
   ⟨5, .q .nilc, [.tmp 44], (some 45), none, [], false⟩,
   ⟨6, .q (.fad 0), [.tmp 45], (some 46), none, [], false⟩,
   ⟨7, .q .ld, [.tmp 46], (some 47), none, [], false⟩,
   ⟨8, .q .len, [.tmp 47], (some 48), none, [], false⟩,
   ⟨9, .q (.bin .sub), [.tmp 48, .const (.int .i64 1)], (some 49), none, [], false⟩,
   ⟨10, .q (.iad 1), [.tmp 43, .tmp 49], (some 50), none, [], false⟩,
   ⟨11, .q .ld, [.tmp 50], (some 51), none, [], false⟩,
   ⟨12, .q .mv, [.tmp 1], (some 52), none, [], false⟩,
   ⟨13, .q .mv, [.tmp 7], (some 53), none, [], false⟩,
   ⟨14, .q (.bin .shr), [.tmp 52, .tmp 53], (some 54), none, [], false⟩,
   ⟨15, .q (.bin .and), [.tmp 54, .const (.int .u32 1)], (some 55), none, [], false⟩,
   ⟨16, .q (.cvi .u8), [.tmp 55], (some 56), none, [], false⟩,
   ⟨17, .q .mv, [.tmp 0], (some 57), none, [], false⟩,
   ⟨18, .q .nilc, [.tmp 57], (some 58), none, [], false⟩,
   ⟨19, .q (.fad 1), [.tmp 58], (some 59), none, [], false⟩,
   ⟨20, .q .ld, [.tmp 59], (some 60), none, [], false⟩,
   ⟨21, .q (.bin .rem), [.tmp 60, .const (.int .i64 8)], (some 61), none, [], false⟩,
   ⟨22, .q (.bin .shl), [.tmp 56, .tmp 61], (some 62), none, [], false⟩,
   ⟨23, .q (.bin .or), [.tmp 51, .tmp 62], (some 63), none, [], false⟩,
   ⟨24, .q (.iad 1), [.tmp 43, .tmp 49], (some 64), none, [], false⟩,
   ⟨25, .e (.st 1), [.tmp 64, .tmp 63], none, none, [], false⟩])
 (.reg [⟨0, .q .mv, [.tmp 0], (some 65), none, [], false⟩,
   ⟨1, .q .nilc, [.tmp 65], (some 66), none, [], false⟩,
   ⟨2, .q (.fad 1), [.tmp 66], (some 67), none, [], false⟩,
   ⟨3, .q .ld, [.tmp 67], (some 68), none, [], false⟩,
   ⟨4, .q (.bin .add), [.tmp 68, .const (.int .i64 1)], (some 69), none, [], false⟩,
   ⟨5, .q .nilc, [.tmp 65], (some 70), none, [], false⟩,
   ⟨6, .q (.fad 1), [.tmp 70], (some 71), none, [], false⟩,
   ⟨7, .e (.st 1), [.tmp 71, .tmp 69], none, none, [], false⟩]))
def L10_1 : LCode :=
 (.reg [⟨0, .q (.bin .add), [.tmp 22, .const (.int .i64 1)], (some 72), none, [], false⟩,
   ⟨1, .q .mv, [.tmp 72], (some 22), none, [], false⟩])
def L10_2 : LCode :=
 (.seq
 (.reg [⟨0, .q (.bin .lss), [.tmp 22, .tmp 21], (some 23), none, [], false⟩])
 (.seq
 (.cond (.tmp 23)
  .skip
  (.exit 0))
 (.seq
 (.block 1
  (.seq
  (.reg [⟨0, .q .mv, [.tmp 22], (some 24), none, [], false⟩,
    ⟨1, .q .mv, [.tmp 24], (some 7), none, [], false⟩])
  (.seq
  (.seq
  (.reg [⟨0, .q .mv, [.tmp 0], (some 25), none, [], false⟩,
    ⟨1, .q .nilc, [.tmp 25], (some 26), none, [], false⟩,
    ⟨2, .q (.fad 1), [.tmp 26], (some 27), none, [], false⟩,
    ⟨3, .q .ld, [.tmp 27], (some 28), none, [], false⟩,
    ⟨4, .q (.bin .rem), [.tmp 28, .const (.int .i64 8)], (some 29), none, [], false⟩,
    ⟨5, .q (.bin .eql), [.tmp 29, .const (.int .i64 0)], (some 30), none, [], false⟩])
  (.cond (.tmp 30)
   (.reg [⟨0, .q .mv, [.tmp 0], (some 31), none, [], false⟩,
     ⟨1, .q .mv, [.tmp 0], (some 32), none, [], false⟩,
     ⟨2, .q .nilc, [.tmp 32], (some 33), none, [], false⟩,
     ⟨3, .q (.fad 0), [.tmp 33], (some 34), none, [], false⟩,
     ⟨4, .q .ld, [.tmp 34], (some 35), none, [], false⟩,
     ⟨5, .e (.lits 5 #[(.int .u8 0)] 1 [(0, 1)]), [.const (.int .u8 0)], (some 36), none, [], false⟩,
     ⟨6, .e (.app 5 1 1 #[(.int .u8 0)]), [.tmp 35, .tmp 36], (some 37), none, [], false⟩,
     ⟨7, .q .nilc, [.tmp 31], (some 38), none, [], false⟩,
     ⟨8, .q (.fad 0), [.tmp 38], (some 39), none, [], false⟩,
     ⟨9, .e (.st 1), [.tmp 39, .tmp 37], none, none, [], false⟩])
   .skip))
  L10_0)))
 L10_1)))
def L10 : LFn :=
 ⟨73, [.t 6],
 (.seq
 (.reg [⟨0, .q .mv, [.const (.int .i64 0)], (some 6), none, [], false⟩])
 (.seq
 (.seq
 (.reg [⟨0, .q .mv, [.tmp 2], (some 8), none, [], false⟩,
   ⟨1, .q (.bin .lss), [.tmp 8, .const (.int .i64 0)], (some 9), none, [], false⟩,
   ⟨2, .q .mv, [.tmp 9], (some 10), none, [], false⟩,
   ⟨3, .q .mv, [.tmp 2], (some 11), (some (10, false)), [], false⟩,
   ⟨4, .q (.bin .gtr), [.tmp 11, .const (.int .i64 32)], (some 12), (some (10, false)), [], false⟩,
   ⟨5, .q .pick, [.tmp 10, .const (.bool true), .tmp 12], (some 13), none, [], false⟩,
   ⟨6, .q .mv, [.tmp 13], (some 14), none, [], false⟩,
   ⟨7, .q .mv, [.tmp 1], (some 15), (some (14, false)), [], false⟩,
   ⟨8, .q (.cvi .u64), [.tmp 15], (some 16), (some (14, false)), [], false⟩,
   ⟨9, .q .mv, [.tmp 2], (some 17), (some (14, false)), [], false⟩,
   ⟨10, .q (.bin .shl), [.const (.int .u64 1), .tmp 17], (some 18), (some (14, false)), [], false⟩,
   ⟨11, .q (.bin .geq), [.tmp 16, .tmp 18], (some 19), (some (14, false)), [], false⟩,
   ⟨12, .q .pick, [.tmp 14, .const (.bool true), .tmp 19], (some 20), none, [], false⟩])
 (.cond (.tmp 20)
  (.seq
  (.reg [⟨0, .q .mv, [.const (.int .i64 1)], (some 6), none, [], false⟩])
  .ret)
  .skip))
 (.seq
 (.seq
 (.reg [⟨0, .q .mv, [.tmp 2], (some 21), none, [], false⟩,
   ⟨1, .q .mv, [.const (.int .i64 0)], (some 22), none, [], false⟩])
 (.block 0
  (.loop L10_2)))
 (.seq
 (.reg [⟨0, .q .mv, [.const (.int .i64 0)], (some 6), none, [], false⟩])
 .ret))))⟩
theorem low10 : lowFn Try.prog Try.f10 = some L10 := by kernel_rfl
theorem call10 {args : List Value} {H : Heap} {S : Ending → Heap → Prop} (hn : args.length ≤ L10.n) (h : awpC Try.prog L10.body (retQ L10.results S) (fun ch H => S (.panicked ch) H) (env0 args) H) : ACalls Try.prog 10 args.toArray H S := acalls mixed Try.func10 low10 hn h
/-- (*satchel/bits.Writer).Align -/
def L12 : LFn :=
 ⟨11, [],
 (.reg [⟨0, .q .mv, [.tmp 0], (some 2), none, [], false⟩,
   ⟨1, .q .mv, [.tmp 0], (some 3), none, [], false⟩,
   ⟨2, .q .nilc, [.tmp 3], (some 4), none, [], false⟩,
   ⟨3, .q (.fad 0), [.tmp 4], (some 5), none, [], false⟩,
   ⟨4, .q .ld, [.tmp 5], (some 6), none, [], false⟩,
   ⟨5, .q .len, [.tmp 6], (some 7), none, [], false⟩,
   ⟨6, .q (.bin .mul), [.const (.int .i64 8), .tmp 7], (some 8), none, [], false⟩,
   ⟨7, .q .nilc, [.tmp 2], (some 9), none, [], false⟩,
   ⟨8, .q (.fad 1), [.tmp 9], (some 10), none, [], false⟩,
   ⟨9, .e (.st 1), [.tmp 10, .tmp 8], none, none, [], false⟩])⟩
theorem low12 : lowFn Try.prog Try.f12 = some L12 := by kernel_rfl
theorem call12 {args : List Value} {H : Heap} {S : Ending → Heap → Prop} (hn : args.length ≤ L12.n) (h : awpC Try.prog L12.body (retQ L12.results S) (fun ch H => S (.panicked ch) H) (env0 args) H) : ACalls Try.prog 12 args.toArray H S := acalls mixed Try.func12 low12 hn h
/-- satchel/satchellaw05.lent -/
def L14_0 : LCode :=
 (.seq
 (.seq
 (.reg [⟨0, .q .mv, [.tmp 5], (some 13), none, [], false⟩,
   ⟨1, .q (.bin .lss), [.tmp 13, .const (.int .i64 32)], (some 14), none, [], false⟩])
 (.cond (.tmp 14)
  .skip
  (.exit 0)))
 (.seq
 (.block 1
  (.reg [⟨0, .q .mv, [.tmp 4], (some 17), none, [], false⟩,
    ⟨1, .q .mv, [.tmp 5], (some 18), none, [], false⟩,
    ⟨2, .q (.bin .add), [.const (.int .i64 171), .tmp 18], (some 19), none, [], false⟩,
    ⟨3, .q (.cvi .u8), [.tmp 19], (some 20), none, [], false⟩,
    ⟨4, .e (.lits 5 #[(.int .u8 0)] 1 [(0, 1)]), [.tmp 20], (some 21), none, [], false⟩,
    ⟨5, .e (.app 5 1 1 #[(.int .u8 0)]), [.tmp 17, .tmp 21], (some 22), none, [], false⟩,
    ⟨6, .q .mv, [.tmp 22], (some 4), none, [], false⟩]))
 (.reg [⟨0, .q .mv, [.tmp 5], (some 15), none, [], false⟩,
   ⟨1, .q (.bin .add), [.tmp 15, .const (.int .i64 1)], (some 16), none, [], false⟩,
   ⟨2, .q .mv, [.tmp 16], (some 5), none, [], false⟩])))
def L14 : LFn :=
 ⟨28, [.t 2, .t 3],
 (.seq
 (.reg [⟨0, .q .mv, [.const (.slice none 0 0)], (some 2), none, [], false⟩,
   ⟨1, .q .mv, [.const (.slice none 0 0)], (some 3), none, [], false⟩])
 (.seq
 (.reg [⟨0, .q .mv, [.tmp 0], (some 6), none, [], false⟩,
   ⟨1, .q .len, [.tmp 6], (some 7), none, [], false⟩,
   ⟨2, .q (.bin .add), [.tmp 7, .const (.int .i64 32)], (some 8), none, [], false⟩,
   ⟨3, .e (.mks 5 1 1 #[(.int .u8 0)]), [.const (.int .i64 0), .tmp 8], (some 9), none, [], false⟩,
   ⟨4, .q .mv, [.tmp 9], (some 4), none, [], false⟩])
 (.seq
 (.reg [⟨0, .q .mv, [.tmp 4], (some 10), none, [], false⟩,
   ⟨1, .q .mv, [.tmp 0], (some 11), none, [], false⟩,
   ⟨2, .e (.app 5 1 1 #[(.int .u8 0)]), [.tmp 10, .tmp 11], (some 12), none, [], false⟩,
   ⟨3, .q .mv, [.tmp 12], (some 4), none, [], false⟩])
 (.seq
 (.seq
 (.reg [⟨0, .q .mv, [.const (.int .i64 0)], (some 5), none, [], false⟩])
 (.block 0
  (.loop L14_0)))
 (.seq
 (.reg [⟨0, .q .mv, [.tmp 4], (some 23), none, [], false⟩,
   ⟨1, .q .mv, [.tmp 0], (some 24), none, [], false⟩,
   ⟨2, .q .len, [.tmp 24], (some 25), none, [], false⟩,
   ⟨3, .q (.slc 1 false true false), [.tmp 23, .tmp 25], (some 26), none, [], false⟩,
   ⟨4, .q .mv, [.tmp 4], (some 27), none, [], false⟩,
   ⟨5, .q .mv, [.tmp 26], (some 2), none, [], false⟩,
   ⟨6, .q .mv, [.tmp 27], (some 3), none, [], false⟩])
 .ret)))))⟩
theorem low14 : lowFn Try.prog Try.f14 = some L14 := by kernel_rfl
theorem call14 {args : List Value} {H : Heap} {S : Ending → Heap → Prop} (hn : args.length ≤ L14.n) (h : awpC Try.prog L14.body (retQ L14.results S) (fun ch H => S (.panicked ch) H) (env0 args) H) : ACalls Try.prog 14 args.toArray H S := acalls mixed Try.func14 low14 hn h
/-- (*satchel/bits.Writer).Add -/
def L15 : LFn :=
 ⟨22, [],
 (.seq
 (.reg [⟨0, .q .mv, [.tmp 0], (some 4), none, [], false⟩,
   ⟨1, .q .mv, [.tmp 0], (some 5), none, [], false⟩,
   ⟨2, .q .nilc, [.tmp 5], (some 6), none, [], false⟩,
   ⟨3, .q (.fad 0), [.tmp 6], (some 7), none, [], false⟩,
   ⟨4, .q .ld, [.tmp 7], (some 8), none, [], false⟩,
   ⟨5, .q .mv, [.tmp 1], (some 9), none, [], false⟩,
   ⟨6, .e (.app 5 1 1 #[(.int .u8 0)]), [.tmp 8, .tmp 9], (some 10), none, [], false⟩,
   ⟨7, .q .nilc, [.tmp 4], (some 11), none, [], false⟩,
   ⟨8, .q (.fad 0), [.tmp 11], (some 12), none, [], false⟩,
   ⟨9, .e (.st 1), [.tmp 12, .tmp 10], none, none, [], false⟩])
 (.reg [⟨0, .q .mv, [.tmp 0], (some 13), none, [], false⟩,
   ⟨1, .q .mv, [.tmp 0], (some 14), none, [], false⟩,
   ⟨2, .q .nilc, [.tmp 14], (some 15), none, [], false⟩,
   ⟨3, .q (.fad 0), [.tmp 15], (some 16), none, [], false⟩,
   ⟨4, .q .ld, [.tmp 16], (some 17), none, [], false⟩,
   ⟨5, .q .len, [.tmp 17], (some 18), none, [], false⟩,
   ⟨6, .q (.bin .mul), [.const (.int .i64 8), .tmp 18], (some 19), none, [], false⟩,
   ⟨7, .q .nilc, [.tmp 13], (some 20), none, [], false⟩,
   ⟨8, .q (.fad 1), [.tmp 20], (some 21), none, [], false⟩,
   ⟨9, .e (.st 1), [.tmp 21, .tmp 19], none, none, [], false⟩]))⟩
theorem low15 : lowFn Try.prog Try.f15 = some L15 := by kernel_rfl
theorem call15 {args : List Value} {H : Heap} {S : Ending → Heap → Prop} (hn : args.length ≤ L15.n) (h : awpC Try.prog L15.body (retQ L15.results S) (fun ch H => S (.panicked ch) H) (env0 args) H) : ACalls Try.prog 15 args.toArray H S := acalls mixed Try.func15 low15 hn h
/-- satchel/satchellaw05.kept -/
def L17_0 : LCode :=
 (.seq
 (.seq
 (.reg [⟨0, .q .mv, [.tmp 5], (some 6), none, [], false⟩,
   ⟨1, .q .mv, [.tmp 0], (some 7), none, [], false⟩,
   ⟨2, .q .len, [.tmp 7], (some 8), none, [], false⟩,
   ⟨3, .q (.bin .lss), [.tmp 6, .tmp 8], (some 9), none, [], false⟩])
 (.cond (.tmp 9)
  .skip
  (.exit 0)))
 (.seq
 (.block 1
  (.seq
  (.reg [⟨0, .q .mv, [.tmp 5], (some 12), none, [], false⟩,
    ⟨1, .q .mv, [.tmp 1], (some 13), none, [], false⟩,
    ⟨2, .q .len, [.tmp 13], (some 14), none, [], false⟩,
    ⟨3, .q (.bin .lss), [.tmp 12, .tmp 14], (some 15), none, [], false⟩,
    ⟨4, .q .mv, [.tmp 15], (some 16), none, [], false⟩,
    ⟨5, .q .mv, [.tmp 0], (some 17), (some (16, true)), [], false⟩,
    ⟨6, .q .mv, [.tmp 5], (some 18), (some (16, true)), [], false⟩,
    ⟨7, .q (.iad 1), [.tmp 17, .tmp 18], (some 19), (some (16, true)), [], false⟩,
    ⟨8, .q .ld, [.tmp 19], (some 20), (some (16, true)), [], false⟩,
    ⟨9, .q .mv, [.tmp 1], (some 21), (some (16, true)), [], false⟩,
    ⟨10, .q .mv, [.tmp 5], (some 22), (some (16, true)), [], false⟩,
    ⟨11, .q (.iad 1), [.tmp 21, .tmp 22], (some 23), (some (16, true)), [], false⟩,
    ⟨12, .q .ld, [.tmp 23], (some 24), (some (16, true)), [], false⟩,
    ⟨13, .q (.bin .neq), [.tmp 20, .tmp 24], (some 25), (some (16, true)), [], false⟩,
    ⟨14, .q .pick, [.tmp 16, .tmp 25, .const (.bool false)], (some 26), none, [], false⟩,
    ⟨15, .q .mv, [.tmp 26], (some 27), none, [], false⟩,
    ⟨16, .q .mv, [.tmp 5], (some 28), (some (27, false)), [], false⟩,
    ⟨17, .q .mv, [.tmp 1], (some 29), (some (27, false)), [], false⟩,
    ⟨18, .q .len, [.tmp 29], (some 30), (some (27, false)), [], false⟩,
    ⟨19, .q (.bin .geq), [.tmp 28, .tmp 30], (some 31), (some (27, false)), [], false⟩,
    ⟨20, .q .mv, [.tmp 31], (some 32), (some (27, false)), [], false⟩,
    ⟨21, .q .mv, [.tmp 0], (some 33), (some (32, true)), [], false⟩,
    ⟨22, .q .mv, [.tmp 5], (some 34), (some (32, true)), [], false⟩,
    ⟨23, .q (.iad 1), [.tmp 33, .tmp 34], (some 35), (some (32, true)), [], false⟩,
    ⟨24, .q .ld, [.tmp 35], (some 36), (some (32, true)), [], false⟩,
    ⟨25, .q .mv, [.tmp 5], (some 37), (some (32, true)), [], false⟩,
    ⟨26, .q (.bin .add), [.const (.int .i64 171), .tmp 37], (some 38), (some (32, true)), [], false⟩,
    ⟨27, .q .mv, [.tmp 1], (some 39), (some (32, true)), [], false⟩,
    ⟨28, .q .len, [.tmp 39], (some 40), (some (32, true)), [], false⟩,
    ⟨29, .q (.bin .sub), [.tmp 38, .tmp 40], (some 41), (some (32, true)), [], false⟩,
    ⟨30, .q (.cvi .u8), [.tmp 41], (some 42), (some (32, true)), [], false⟩,
    ⟨31, .q (.bin .neq), [.tmp 36, .tmp 42], (some 43), (some (32, true)), [], false⟩,
    ⟨32, .q .pick, [.tmp 32, .tmp 43, .const (.bool false)], (some 44), (some (27, false)), [], false⟩,
    ⟨33, .q .pick, [.tmp 27, .const (.bool true), .tmp 44], (some 45), none, [], false⟩])
  (.cond (.tmp 45)
   (.seq
   (.reg [⟨0, .q .mv, [.const (.bool false)], (some 4), none, [], false⟩])
   .ret)
   .skip)))
 (.reg [⟨0, .q .mv, [.tmp 5], (some 10), none, [], false⟩,
   ⟨1, .q (.bin .add), [.tmp 10, .const (.int .i64 1)], (some 11), none, [], false⟩,
   ⟨2, .q .mv, [.tmp 11], (some 5), none, [], false⟩])))
def L17 : LFn :=
 ⟨46, [.t 4],
 (.seq
 (.reg [⟨0, .q .mv, [.const (.bool false)], (some 4), none, [], false⟩])
 (.seq
 (.seq
 (.reg [⟨0, .q .mv, [.const (.int .i64 0)], (some 5), none, [], false⟩])
 (.block 0
  (.loop L17_0)))
 (.seq
 (.reg [⟨0, .q .mv, [.const (.bool true)], (some 4), none, [], false⟩])
 .ret)))⟩
theorem low17 : lowFn Try.prog Try.f17 = some L17 := by kernel_rfl
theorem call17 {args : List Value} {H : Heap} {S : Ending → Heap → Prop} (hn : args.length ≤ L17.n) (h : awpC Try.prog L17.body (retQ L17.results S) (fun ch H => S (.panicked ch) H) (env0 args) H) : ACalls Try.prog 17 args.toArray H S := acalls mixed Try.func17 low17 hn h
/-- satchel/satchellaw05.full -/
def L18_0 : LCode :=
 (.seq
 (.seq
 (.reg [⟨0, .q .mv, [.tmp 4], (some 6), none, [], false⟩,
   ⟨1, .q .mv, [.tmp 0], (some 7), none, [], false⟩,
   ⟨2, .q .len, [.tmp 7], (some 8), none, [], false⟩,
   ⟨3, .q (.bin .lss), [.tmp 6, .tmp 8], (some 9), none, [], false⟩])
 (.cond (.tmp 9)
  .skip
  (.exit 0)))
 (.seq
 (.block 1
  (.reg [⟨0, .q .mv, [.tmp 0], (some 12), none, [], false⟩,
    ⟨1, .q .mv, [.tmp 4], (some 13), none, [], false⟩,
    ⟨2, .q .mv, [.tmp 1], (some 14), none, [], false⟩,
    ⟨3, .q (.iad 1), [.tmp 12, .tmp 13], (some 15), none, [], false⟩,
    ⟨4, .e (.st 1), [.tmp 15, .tmp 14], none, none, [], false⟩]))
 (.reg [⟨0, .q .mv, [.tmp 4], (some 10), none, [], false⟩,
   ⟨1, .q (.bin .add), [.tmp 10, .const (.int .i64 1)], (some 11), none, [], false⟩,
   ⟨2, .q .mv, [.tmp 11], (some 4), none, [], false⟩])))
def L18_1 : LCode :=
 (.seq
 (.seq
 (.reg [⟨0, .q .mv, [.tmp 5], (some 16), none, [], false⟩,
   ⟨1, .q (.bin .lss), [.tmp 16, .const (.int .i64 90)], (some 17), none, [], false⟩])
 (.cond (.tmp 17)
  .skip
  (.exit 2)))
 (.seq
 (.block 3
  (.reg [⟨0, .q .mv, [.tmp 0], (some 20), none, [], false⟩,
    ⟨1, .q .mv, [.tmp 1], (some 21), none, [], false⟩,
    ⟨2, .e (.lits 5 #[(.int .u8 0)] 1 [(0, 1)]), [.tmp 21], (some 22), none, [], false⟩,
    ⟨3, .e (.app 5 1 1 #[(.int .u8 0)]), [.tmp 20, .tmp 22], (some 23), none, [], false⟩,
    ⟨4, .q .mv, [.tmp 23], (some 0), none, [], false⟩]))
 (.reg [⟨0, .q .mv, [.tmp 5], (some 18), none, [], false⟩,
   ⟨1, .q (.bin .add), [.tmp 18, .const (.int .i64 1)], (some 19), none, [], false⟩,
   ⟨2, .q .mv, [.tmp 19], (some 5), none, [], false⟩])))
def L18 : LFn :=
 ⟨24, [],
 (.seq
 (.seq
 (.reg [⟨0, .q .mv, [.const (.int .i64 0)], (some 4), none, [], false⟩])
 (.block 0
  (.loop L18_0)))
 (.seq
 (.reg [⟨0, .q .mv, [.const (.int .i64 0)], (some 5), none, [], false⟩])
 (.block 2
  (.loop L18_1))))⟩
theorem low18 : lowFn Try.prog Try.f18 = some L18 := by kernel_rfl
theorem call18 {args : List Value} {H : Heap} {S : Ending → Heap → Prop} (hn : args.length ≤ L18.n) (h : awpC Try.prog L18.body (retQ L18.results S) (fun ch H => S (.panicked ch) H) (env0 args) H) : ACalls Try.prog 18 args.toArray H S := acalls mixed Try.func18 low18 hn h
/-- (*satchel/bits.Writer).Done -/
def L19 : LFn :=
 ⟨8, [.t 2],
 (.seq
 (.reg [⟨0, .q .mv, [.const (.slice none 0 0)], (some 2), none, [], false⟩])
 (.seq
 (.reg [⟨0, .q .mv, [.tmp 0], (some 3), none, [], false⟩,
   ⟨1, .q .nilc, [.tmp 3], (some 4), none, [], false⟩,
   ⟨2, .q (.fad 0), [.tmp 4], (some 5), none, [], false⟩,
   ⟨3, .q .ld, [.tmp 5], (some 6), none, [], false⟩,
   ⟨4, .e (.call 44), [.tmp 6], (some 7), none, [], false⟩,
   ⟨5, .q .mv, [.tmp 7], (some 2), none, [], false⟩])
 .ret))⟩
theorem low19 : lowFn Try.prog Try.f19 = some L19 := by kernel_rfl
theorem call19 {args : List Value} {H : Heap} {S : Ending → Heap → Prop} (hn : args.length ≤ L19.n) (h : awpC Try.prog L19.body (retQ L19.results S) (fun ch H => S (.panicked ch) H) (env0 args) H) : ACalls Try.prog 19 args.toArray H S := acalls mixed Try.func19 low19 hn h
/-- satchel/satchelref05.Bytes -/
def L20_0 : LCode :=
 (.reg [⟨0, .q .mv, [.tmp 6], (some 36), none, [], false⟩,
   ⟨1, .q (.bin .mul), [.tmp 36, .const (.int .u8 2)], (some 37), none, [], false⟩,
   ⟨2, .q .mv, [.tmp 37], (some 6), none, [], false⟩])
def L20_1 : LCode :=
 (.reg [⟨0, .q .mv, [.tmp 7], (some 20), none, [], false⟩,
   ⟨1, .q (.bin .add), [.tmp 20, .const (.int .i64 1)], (some 21), none, [], false⟩,
   ⟨2, .q .mv, [.tmp 21], (some 7), none, [], false⟩])
def L20_2 : LCode :=
 (.seq
 (.seq
 (.reg [⟨0, .q .mv, [.tmp 7], (some 16), none, [], false⟩,
   ⟨1, .q .mv, [.tmp 4], (some 17), none, [], false⟩,
   ⟨2, .q (.bin .add), [.tmp 17, .const (.int .i64 8)], (some 18), none, [], false⟩,
   ⟨3, .q (.bin .lss), [.tmp 16, .tmp 18], (some 19), none, [], false⟩])
 (.cond (.tmp 19)
  .skip
  (.exit 2)))
 (.seq
 (.block 3
  (.seq
  (.seq
  (.reg [⟨0, .q .mv, [.tmp 7], (some 22), none, [], false⟩,
    ⟨1, .q .mv, [.tmp 0], (some 23), none, [], false⟩,
    ⟨2, .q .len, [.tmp 23], (some 24), none, [], false⟩,
    ⟨3, .q (.bin .lss), [.tmp 22, .tmp 24], (some 25), none, [], false⟩,
    ⟨4, .q .mv, [.tmp 25], (some 26), none, [], false⟩,
    ⟨5, .q .mv, [.tmp 0], (some 27), (some (26, true)), [], false⟩,
    ⟨6, .q .mv, [.tmp 7], (some 28), (some (26, true)), [], false⟩,
    ⟨7, .q (.iad 1), [.tmp 27, .tmp 28], (some 29), (some (26, true)), [], false⟩,
    ⟨8, .q .ld, [.tmp 29], (some 30), (some (26, true)), [], false⟩,
    ⟨9, .q (.bin .eql), [.tmp 30, .const (.int .u8 1)], (some 31), (some (26, true)), [], false⟩,
    ⟨10, .q .pick, [.tmp 26, .tmp 31, .const (.bool false)], (some 32), none, [], false⟩])
  (.cond (.tmp 32)
   (.reg [⟨0, .q .mv, [.tmp 5], (some 33), none, [], false⟩,
     ⟨1, .q .mv, [.tmp 6], (some 34), none, [], false⟩,
     ⟨2, .q (.bin .add), [.tmp 33, .tmp 34], (some 35), none, [], false⟩,
     ⟨3, .q .mv, [.tmp 35], (some 5), none, [], false⟩])
   .skip))
  L20_0))
 L20_1))
def L20_3 : LCode :=
 (.seq
 (.seq
 (.reg [⟨0, .q .mv, [.tmp 4], (some 9), none, [], false⟩,
   ⟨1, .q .mv, [.tmp 0], (some 10), none, [], false⟩,
   ⟨2, .q .len, [.tmp 10], (some 11), none, [], false⟩,
   ⟨3, .q (.bin .lss), [.tmp 9, .tmp 11], (some 12), none, [], false⟩])
 (.cond (.tmp 12)
  .skip
  (.exit 0)))
 (.seq
 (.block 1
  (.seq
  (.reg [⟨0, .q .mv, [.const (.int .u8 0)], (some 5), none, [], false⟩,
    ⟨1, .q .mv, [.const (.int .u8 1)], (some 6), none, [], false⟩])
  (.seq
  (.seq
  (.reg [⟨0, .q .mv, [.tmp 4], (some 15), none, [], false⟩,
    ⟨1, .q .mv, [.tmp 15], (some 7), none, [], false⟩])
  (.block 2
   (.loop L20_2)))
  (.reg [⟨0, .q .mv, [.tmp 3], (some 38), none, [], false⟩,
    ⟨1, .q .mv, [.tmp 5], (some 39), none, [], false⟩,
    ⟨2, .e (.lits 5 #[(.int .u8 0)] 1 [(0, 1)]), [.tmp 39], (some 40), none, [], false⟩,
    ⟨3, .e (.app 5 1 1 #[(.int .u8 0)]), [.tmp 38, .tmp 40], (some 41), none, [], false⟩,
    ⟨4, .q .mv, [.tmp 41], (some 3), none, [], false⟩]))))
 (.reg [⟨0, .q .mv, [.tmp 4], (some 13), none, [], false⟩,
   ⟨1, .q (.bin .add), [.tmp 13, .const (.int .i64 8)], (some 14), none, [], false⟩,
   ⟨2, .q .mv, [.tmp 14], (some 4), none, [], false⟩])))
def L20_4 : LCode :=
 (.seq
 (.reg [⟨0, .q .mv, [.tmp 3], (some 42), none, [], false⟩,
   ⟨1, .q .mv, [.tmp 42], (some 2), none, [], false⟩])
 .ret)
def L20 : LFn :=
 ⟨43, [.t 2],
 (.seq
 (.reg [⟨0, .q .mv, [.const (.slice none 0 0)], (some 2), none, [], false⟩])
 (.seq
 (.reg [⟨0, .e (.lits 5 #[] 0 []), [], (some 8), none, [], false⟩,
   ⟨1, .q .mv, [.tmp 8], (some 3), none, [], false⟩])
 (.seq
 (.seq
 (.reg [⟨0, .q .mv, [.const (.int .i64 0)], (some 4), none, [], false⟩])
 (.block 0
  (.loop L20_3)))
 L20_4)))⟩
theorem low20 : lowFn Try.prog Try.f20 = some L20 := by kernel_rfl
theorem call20 {args : List Value} {H : Heap} {S : Ending → Heap → Prop} (hn : args.length ≤ L20.n) (h : awpC Try.prog L20.body (retQ L20.results S) (fun ch H => S (.panicked ch) H) (env0 args) H) : ACalls Try.prog 20 args.toArray H S := acalls mixed Try.func20 low20 hn h
/-- (*satchel/bits.Writer).Len -/
def L21 : LFn :=
 ⟨7, [.t 2],
 (.seq
 (.reg [⟨0, .q .mv, [.const (.int .i64 0)], (some 2), none, [], false⟩])
 (.seq
 (.reg [⟨0, .q .mv, [.tmp 0], (some 3), none, [], false⟩,
   ⟨1, .q .nilc, [.tmp 3], (some 4), none, [], false⟩,
   ⟨2, .q (.fad 1), [.tmp 4], (some 5), none, [], false⟩,
   ⟨3, .q .ld, [.tmp 5], (some 6), none, [], false⟩,
   ⟨4, .q .mv, [.tmp 6], (some 2), none, [], false⟩])
 .ret))⟩
theorem low21 : lowFn Try.prog Try.f21 = some L21 := by kernel_rfl
theorem call21 {args : List Value} {H : Heap} {S : Ending → Heap → Prop} (hn : args.length ≤ L21.n) (h : awpC Try.prog L21.body (retQ L21.results S) (fun ch H => S (.panicked ch) H) (env0 args) H) : ACalls Try.prog 21 args.toArray H S := acalls mixed Try.func21 low21 hn h
/-- satchel/satchellaw05.same -/
def L22_0 : LCode :=
 (.seq
 (.seq
 (.reg [⟨0, .q .mv, [.tmp 5], (some 11), none, [], false⟩,
   ⟨1, .q .mv, [.tmp 0], (some 12), none, [], false⟩,
   ⟨2, .q .len, [.tmp 12], (some 13), none, [], false⟩,
   ⟨3, .q (.bin .lss), [.tmp 11, .tmp 13], (some 14), none, [], false⟩])
 (.cond (.tmp 14)
  .skip
  (.exit 0)))
 (.seq
 (.block 1
  (.seq
  (.reg [⟨0, .q .mv, [.tmp 0], (some 17), none, [], false⟩,
    ⟨1, .q .mv, [.tmp 5], (some 18), none, [], false⟩,
    ⟨2, .q (.iad 1), [.tmp 17, .tmp 18], (some 19), none, [], false⟩,
    ⟨3, .q .ld, [.tmp 19], (some 20), none, [], false⟩,
    ⟨4, .q .mv, [.tmp 1], (some 21), none, [], false⟩,
    ⟨5, .q .mv, [.tmp 5], (some 22), none, [], false⟩,
    ⟨6, .q (.iad 1), [.tmp 21, .tmp 22], (some 23), none, [], false⟩,
    ⟨7, .q .ld, [.tmp 23], (some 24), none, [], false⟩,
    ⟨8, .q (.bin .neq), [.tmp 20, .tmp 24], (some 25), none, [], false⟩])
  (.cond (.tmp 25)
   (.seq
   (.reg [⟨0, .q .mv, [.const (.bool false)], (some 4), none, [], false⟩])
   .ret)
   .skip)))
 (.reg [⟨0, .q .mv, [.tmp 5], (some 15), none, [], false⟩,
   ⟨1, .q (.bin .add), [.tmp 15, .const (.int .i64 1)], (some 16), none, [], false⟩,
   ⟨2, .q .mv, [.tmp 16], (some 5), none, [], false⟩])))
def L22 : LFn :=
 ⟨26, [.t 4],
 (.seq
 (.reg [⟨0, .q .mv, [.const (.bool false)], (some 4), none, [], false⟩])
 (.seq
 (.seq
 (.reg [⟨0, .q .mv, [.tmp 0], (some 6), none, [], false⟩,
   ⟨1, .q .len, [.tmp 6], (some 7), none, [], false⟩,
   ⟨2, .q .mv, [.tmp 1], (some 8), none, [], false⟩,
   ⟨3, .q .len, [.tmp 8], (some 9), none, [], false⟩,
   ⟨4, .q (.bin .neq), [.tmp 7, .tmp 9], (some 10), none, [], false⟩])
 (.cond (.tmp 10)
  (.seq
  (.reg [⟨0, .q .mv, [.const (.bool false)], (some 4), none, [], false⟩])
  .ret)
  .skip))
 (.seq
 (.seq
 (.reg [⟨0, .q .mv, [.const (.int .i64 0)], (some 5), none, [], false⟩])
 (.block 0
  (.loop L22_0)))
 (.seq
 (.reg [⟨0, .q .mv, [.const (.bool true)], (some 4), none, [], false⟩])
 .ret))))⟩
theorem low22 : lowFn Try.prog Try.f22 = some L22 := by kernel_rfl
theorem call22 {args : List Value} {H : Heap} {S : Ending → Heap → Prop} (hn : args.length ≤ L22.n) (h : awpC Try.prog L22.body (retQ L22.results S) (fun ch H => S (.panicked ch) H) (env0 args) H) : ACalls Try.prog 22 args.toArray H S := acalls mixed Try.func22 low22 hn h
/-- (*satchel/satchelref05.Writer).Put -/
def L11_0 : LCode :=
 (.seq
 (.seq
 (.reg [⟨0, .q .mv, [.tmp 7], (some 26), none, [], false⟩,
   ⟨1, .q .mv, [.tmp 2], (some 27), none, [], false⟩,
   ⟨2, .q (.bin .lss), [.tmp 26, .tmp 27], (some 28), none, [], false⟩])
 (.cond (.tmp 28)
  .skip
  (.exit 0)))
 (.seq
 (.block 1
  (.seq
  (.reg [⟨0, .q .mv, [.tmp 0], (some 31), none, [], false⟩,
    ⟨1, .q .mv, [.tmp 0], (some 32), none, [], false⟩,
    ⟨2, .q .nilc, [.tmp 32], (some 33), none, [], false⟩,
    ⟨3, .q (.fad 0), [.tmp 33], (some 34), none, [], false⟩,
    ⟨4, .q .ld, [.tmp 34], (some 35), none, [], false⟩,
    ⟨5, .q .mv, [.tmp 1], (some 36), none, [], false⟩,
    ⟨6, .q (.bin .rem), [.tmp 36, .const (.int .u32 2)], (some 37), none, [], false⟩,
    ⟨7, .q (.cvi .u8), [.tmp 37], (some 38), none, [], false⟩,
    ⟨8, .e (.lits 5 #[(.int .u8 0)] 1 [(0, 1)]), [.tmp 38], (some 39), none, [], false⟩,
    ⟨9, .e (.app 5 1 1 #[(.int .u8 0)]), [.tmp 35, .tmp 39], (some 40), none, [], false⟩,
    ⟨10, .q .nilc, [.tmp 31], (some 41), none, [], false⟩,
    ⟨11, .q (.fad 0), [.tmp 41], (some 42), none, [], false⟩,
    ⟨12, .e (.st 1), [.tmp 42, .tmp 40], none, none, [], false⟩])
  (.reg [⟨0, .q .mv, [.tmp 1], (some 43), none, [], false⟩,
    ⟨1, .q (.bin .quo), [.tmp 43, .const (.int .u32 2)], (some 44), none, [], false⟩,
    ⟨2, .q .mv, [.tmp 44], (some 1), none, [], false⟩])))
 (.reg [⟨0, .q .mv, [.tmp 7], (some 29), none, [], false⟩,
   ⟨1, .q (.bin .add), [.tmp 29, .const (.int .i64 1)], (some 30), none, [], false⟩,
   ⟨2, .q .mv, [.tmp 30], (some 7), none, [], false⟩])))
def L11 : LFn :=
 ⟨45, [.t 6],
 (.seq
 (.reg [⟨0, .q .mv, [.const (.int .i64 0)], (some 6), none, [], false⟩])
 (.seq
 (.seq
 (.reg [⟨0, .q .mv, [.tmp 2], (some 8), none, [], false⟩,
   ⟨1, .q (.bin .lss), [.tmp 8, .const (.int .i64 0)], (some 9), none, [], false⟩,
   ⟨2, .q .mv, [.tmp 9], (some 10), none, [], false⟩,
   ⟨3, .q .mv, [.tmp 2], (some 11), (some (10, false)), [], false⟩,
   ⟨4, .q (.bin .gtr), [.tmp 11, .const (.int .i64 32)], (some 12), (some (10, false)), [], false⟩,
   ⟨5, .q .pick, [.tmp 10, .const (.bool true), .tmp 12], (some 13), none, [], false⟩,
   ⟨6, .q .mv, [.tmp 13], (some 14), none, [], false⟩,
   ⟨7, .q .mv, [.tmp 2], (some 15), (some (14, false)), [], false⟩,
   ⟨8, .q (.bin .lss), [.tmp 15, .const (.int .i64 32)], (some 16), (some (14, false)), [], false⟩,
   ⟨9, .q .mv, [.tmp 16], (some 17), (some (14, false)), [], false⟩,
   ⟨10, .q .mv, [.tmp 1], (some 18), (some (17, true)), [], false⟩,
   ⟨11, .q (.cvi .u64), [.tmp 18], (some 19), (some (17, true)), [], false⟩,
   ⟨12, .q .mv, [.tmp 2], (some 20), (some (17, true)), [], false⟩,
   ⟨13, .q (.cvi .u64), [.tmp 20], (some 21), (some (17, true)), [], false⟩,
   ⟨14, .q (.bin .shl), [.const (.int .u64 1), .tmp 21], (some 22), (some (17, true)), [], false⟩,
   ⟨15, .q (.bin .geq), [.tmp 19, .tmp 22], (some 23), (some (17, true)), [], false⟩,
   ⟨16, .q .pick, [.tmp 17, .tmp 23, .const (.bool false)], (some 24), (some (14, false)), [], false⟩,
   ⟨17, .q .pick, [.tmp 14, .const (.bool true), .tmp 24], (some 25), none, [], false⟩])
 (.cond (.tmp 25)
  (.seq
  (.reg [⟨0, .q .mv, [.const (.int .i64 1)], (some 6), none, [], false⟩])
  .ret)
  .skip))
 (.seq
 (.seq
 (.reg [⟨0, .q .mv, [.const (.int .i64 0)], (some 7), none, [], false⟩])
 (.block 0
  (.loop L11_0)))
 (.seq
 (.reg [⟨0, .q .mv, [.const (.int .i64 0)], (some 6), none, [], false⟩])
 .ret))))⟩
theorem low11 : lowFn Try.prog Try.f11 = some L11 := by kernel_rfl
theorem call11 {args : List Value} {H : Heap} {S : Ending → Heap → Prop} (hn : args.length ≤ L11.n) (h : awpC Try.prog L11.body (retQ L11.results S) (fun ch H => S (.panicked ch) H) (env0 args) H) : ACalls Try.prog 11 args.toArray H S := acalls mixed Try.func11 low11 hn h
/-- (*satchel/satchelref05.Writer).Align -/
def L13_0 : LCode :=
 (.seq
 (.seq
 (.reg [⟨0, .q .mv, [.tmp 0], (some 2), none, [], false⟩,
   ⟨1, .q .nilc, [.tmp 2], (some 3), none, [], false⟩,
   ⟨2, .q (.fad 0), [.tmp 3], (some 4), none, [], false⟩,
   ⟨3, .q .ld, [.tmp 4], (some 5), none, [], false⟩,
   ⟨4, .q .len, [.tmp 5], (some 6), none, [], false⟩,
   ⟨5, .q (.bin .rem), [.tmp 6, .const (.int .i64 8)], (some 7), none, [], false⟩,
   ⟨6, .q (.bin .neq), [.tmp 7, .const (.int .i64 0)], (some 8), none, [], false⟩])
 (.cond (.tmp 8)
  .skip
  (.exit 0)))
 (.block 1
  (.reg [⟨0, .q .mv, [.tmp 0], (some 9), none, [], false⟩,
    ⟨1, .q .mv, [.tmp 0], (some 10), none, [], false⟩,
    ⟨2, .q .nilc, [.tmp 10], (some 11), none, [], false⟩,
    ⟨3, .q (.fad 0), [.tmp 11], (some 12), none, [], false⟩,
    ⟨4, .q .ld, [.tmp 12], (some 13), none, [], false⟩,
    ⟨5, .e (.lits 5 #[(.int .u8 0)] 1 [(0, 1)]), [.const (.int .u8 0)], (some 14), none, [], false⟩,
    ⟨6, .e (.app 5 1 1 #[(.int .u8 0)]), [.tmp 13, .tmp 14], (some 15), none, [], false⟩,
    ⟨7, .q .nilc, [.tmp 9], (some 16), none, [], false⟩,
    ⟨8, .q (.fad 0), [.tmp 16], (some 17), none, [], false⟩,
    ⟨9, .e (.st 1), [.tmp 17, .tmp 15], none, none, [], false⟩])))
def L13 : LFn :=
 ⟨18, [],
 (.block 0
  (.loop L13_0))⟩
theorem low13 : lowFn Try.prog Try.f13 = some L13 := by kernel_rfl
theorem call13 {args : List Value} {H : Heap} {S : Ending → Heap → Prop} (hn : args.length ≤ L13.n) (h : awpC Try.prog L13.body (retQ L13.results S) (fun ch H => S (.panicked ch) H) (env0 args) H) : ACalls Try.prog 13 args.toArray H S := acalls mixed Try.func13 low13 hn h
/-- (*satchel/satchelref05.Writer).Add -/
def L16 : LFn :=
 ⟨16, [],
 (.seq
 (.reg [⟨0, .q .mv, [.tmp 0], (some 4), none, [], false⟩,
   ⟨1, .e (.call 13), [.tmp 4], (some 5), none, [], false⟩])
 (.reg [⟨0, .q .mv, [.tmp 0], (some 6), none, [], false⟩,
   ⟨1, .q .mv, [.tmp 0], (some 7), none, [], false⟩,
   ⟨2, .q .nilc, [.tmp 7], (some 8), none, [], false⟩,
   ⟨3, .q (.fad 0), [.tmp 8], (some 9), none, [], false⟩,
   ⟨4, .q .ld, [.tmp 9], (some 10), none, [], true⟩,
   ⟨5, .q .mv, [.tmp 1], (some 11), none, [], false⟩,
   ⟨6, .e (.call 24), [.tmp 11], (some 12), none, [4], false⟩,
   ⟨7, .e (.app 5 1 1 #[(.int .u8 0)]), [.tmp 10, .tmp 12], (some 13), none, [], false⟩,
   ⟨8, .q .nilc, [.tmp 6], (some 14), none, [], false⟩,
   ⟨9, .q (.fad 0), [.tmp 14], (some 15), none, [], false⟩,
   ⟨10, .e (.st 1), [.tmp 15, .tmp 13], none, none, [], false⟩]))⟩
theorem low16 : lowFn Try.prog Try.f16 = some L16 := by kernel_rfl
theorem call16 {args : List Value} {H : Heap} {S : Ending → Heap → Prop} (hn : args.length ≤ L16.n) (h : awpC Try.prog L16.body (retQ L16.results S) (fun ch H => S (.panicked ch) H) (env0 args) H) : ACalls Try.prog 16 args.toArray H S := acalls mixed Try.func16 low16 hn h
/-- slices.Clone[[]byte,byte] -/
def L44 : LFn :=
 ⟨8, [.t 2],
 (.seq
 (.reg [⟨0, .q .mv, [.const (.slice none 0 0)], (some 2), none, [], false⟩])
 (.seq
 (.seq
 (.reg [⟨0, .q .mv, [.tmp 0], (some 3), none, [], false⟩,
   ⟨1, .q (.eqs false), [.tmp 3, .const (.slice none 0 0)], (some 4), none, [], false⟩])
 (.cond (.tmp 4)
  (.seq
  (.reg [⟨0, .q .mv, [.const (.slice none 0 0)], (some 2), none, [], false⟩])
  .ret)
  .skip))
 (.seq
 (.reg [⟨0, .e (.lits 5 #[] 0 []), [], (some 5), none, [], false⟩,
   ⟨1, .q .mv, [.tmp 0], (some 6), none, [], false⟩,
   ⟨2, .e (.app 5 1 1 #[(.int .u8 0)]), [.tmp 5, .tmp 6], (some 7), none, [], false⟩,
   ⟨3, .q .mv, [.tmp 7], (some 2), none, [], false⟩])
 .ret)))⟩
theorem low44 : lowFn Try.prog Try.f44 = some L44 := by kernel_rfl
theorem call44 {args : List Value} {H : Heap} {S : Ending → Heap → Prop} (hn : args.length ≤ L44.n) (h : awpC Try.prog L44.body (retQ L44.results S) (fun ch H => S (.panicked ch) H) (env0 args) H) : ACalls Try.prog 44 args.toArray H S := acalls mixed Try.func44 low44 hn h
/-- satchel/satchelref05.Bits -/
def L24_0 : LCode :=
 (.seq
 (.seq
 (.reg [⟨0, .q .mv, [.tmp 6], (some 18), none, [], false⟩,
   ⟨1, .q (.bin .lss), [.tmp 18, .const (.int .i64 8)], (some 19), none, [], false⟩])
 (.cond (.tmp 19)
  .skip
  (.exit 2)))
 (.seq
 (.block 3
  (.seq
  (.reg [⟨0, .q .mv, [.tmp 3], (some 22), none, [], false⟩,
    ⟨1, .q .mv, [.tmp 5], (some 23), none, [], false⟩,
    ⟨2, .q (.bin .rem), [.tmp 23, .const (.int .u8 2)], (some 24), none, [], false⟩,
    ⟨3, .e (.lits 5 #[(.int .u8 0)] 1 [(0, 1)]), [.tmp 24], (some 25), none, [], false⟩,
    ⟨4, .e (.app 5 1 1 #[(.int .u8 0)]), [.tmp 22, .tmp 25], (some 26), none, [], false⟩,
    ⟨5, .q .mv, [.tmp 26], (some 3), none, [], false⟩])
  (.reg [⟨0, .q .mv, [.tmp 5], (some 27), none, [], false⟩,
    ⟨1, .q (.bin .quo), [.tmp 27, .const (.int .u8 2)], (some 28), none, [], false⟩,
    ⟨2, .q .mv, [.tmp 28], (some 5), none, [], false⟩])))
 (.reg [⟨0, .q .mv, [.tmp 6], (some 20), none, [], false⟩,
   ⟨1, .q (.bin .add), [.tmp 20, .const (.int .i64 1)], (some 21), none, [], false⟩,
   ⟨2, .q .mv, [.tmp 21], (some 6), none, [], false⟩])))
def L24_1 : LCode :=
 (.seq
 (.seq
 (.reg [⟨0, .q .mv, [.tmp 4], (some 8), none, [], false⟩,
   ⟨1, .q .mv, [.tmp 0], (some 9), none, [], false⟩,
   ⟨2, .q .len, [.tmp 9], (some 10), none, [], false⟩,
   ⟨3, .q (.bin .lss), [.tmp 8, .tmp 10], (some 11), none, [], false⟩])
 (.cond (.tmp 11)
  .skip
  (.exit 0)))
 (.seq
 (.block 1
  (.seq
  (.reg [⟨0, .q .mv, [.tmp 0], (some 14), none, [], false⟩,
    ⟨1, .q .mv, [.tmp 4], (some 15), none, [], false⟩,
    ⟨2, .q (.iad 1), [.tmp 14, .tmp 15], (some 16), none, [], false⟩,
    ⟨3, .q .ld, [.tmp 16], (some 17), none, [], false⟩,
    ⟨4, .q .mv, [.tmp 17], (some 5), none, [], false⟩])
  (.seq
  (.reg [⟨0, .q .mv, [.const (.int .i64 0)], (some 6), none, [], false⟩])
  (.block 2
   (.loop L24_0)))))
 (.reg [⟨0, .q .mv, [.tmp 4], (some 12), none, [], false⟩,
   ⟨1, .q (.bin .add), [.tmp 12, .const (.int .i64 1)], (some 13), none, [], false⟩,
   ⟨2, .q .mv, [.tmp 13], (some 4), none, [], false⟩])))
def L24_2 : LCode :=
 (.seq
 (.reg [⟨0, .q .mv, [.tmp 3], (some 29), none, [], false⟩,
   ⟨1, .q .mv, [.tmp 29], (some 2), none, [], false⟩])
 .ret)
def L24 : LFn :=
 ⟨30, [.t 2],
 (.seq
 (.reg [⟨0, .q .mv, [.const (.slice none 0 0)], (some 2), none, [], false⟩])
 (.seq
 (.reg [⟨0, .e (.lits 5 #[] 0 []), [], (some 7), none, [], false⟩,
   ⟨1, .q .mv, [.tmp 7], (some 3), none, [], false⟩])
 (.seq
 (.seq
 (.reg [⟨0, .q .mv, [.const (.int .i64 0)], (some 4), none, [], false⟩])
 (.block 0
  (.loop L24_1)))
 L24_2)))⟩
theorem low24 : lowFn Try.prog Try.f24 = some L24 := by kernel_rfl
theorem call24 {args : List Value} {H : Heap} {S : Ending → Heap → Prop} (hn : args.length ≤ L24.n) (h : awpC Try.prog L24.body (retQ L24.results S) (fun ch H => S (.panicked ch) H) (env0 args) H) : ACalls Try.prog 24 args.toArray H S := acalls mixed Try.func24 low24 hn h
end Go.Proofs.Ytfdcolicpfellaa.Low
