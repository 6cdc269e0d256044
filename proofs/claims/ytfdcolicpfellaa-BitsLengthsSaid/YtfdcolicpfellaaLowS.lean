/-
  Functions in short (out of the program's form in Lean, by the kernel).
-/
import Derived.Test.YtfdcolicpfellaaSepCode
import Derived.Test.YtfdcolicpfellaaProg
namespace Go.Proofs.Ytfdcolicpfellaa.Low
open Go Go.Proofs.Ytfdcolicpfellaa.Sep
theorem mixed : Try.prog.follows .mixedOrders = true := by kernel_rfl
/-- satchel/bits.Lengths$1 -/
def L52 : LFn :=
 ⟨14, [.t 4],
 (.seq
 (.reg [⟨0, .q .mv, [.const (.int .i64 0)], (some 4), none, [], false⟩])
 (.seq
 (.reg [⟨0, .q .mv, [.tmp 0], (some 5), none, [], false⟩,
   ⟨1, .q .nilc, [.tmp 5], (some 6), none, [], false⟩,
   ⟨2, .q (.fad 0), [.tmp 6], (some 7), none, [], false⟩,
   ⟨3, .q .ld, [.tmp 7], (some 8), none, [], false⟩,
   ⟨4, .q .mv, [.tmp 1], (some 9), none, [], false⟩,
   ⟨5, .q .nilc, [.tmp 9], (some 10), none, [], false⟩,
   ⟨6, .q (.fad 0), [.tmp 10], (some 11), none, [], false⟩,
   ⟨7, .q .ld, [.tmp 11], (some 12), none, [], false⟩,
   ⟨8, .e (.call 53), [.tmp 8, .tmp 12], (some 13), none, [], false⟩,
   ⟨9, .q .mv, [.tmp 13], (some 4), none, [], false⟩])
 .ret))⟩
theorem low52 : lowFn Try.prog Try.f52 = some L52 := by kernel_rfl
theorem call52 {args : List Value} {H : Heap} {S : Ending → Heap → Prop} (hn : args.length ≤ L52.n) (h : awpC Try.prog L52.body (retQ L52.results S) (fun ch H => S (.panicked ch) H) (env0 args) H) : ACalls Try.prog 52 args.toArray H S := acalls mixed Try.func52 low52 hn h
/-- cmp.Compare[int64] -/
def L53 : LFn :=
 ⟨20, [.t 4],
 (.seq
 (.reg [⟨0, .q .mv, [.const (.int .i64 0)], (some 4), none, [], false⟩])
 (.seq
 (.reg [⟨0, .q .mv, [.tmp 0], (some 7), none, [], false⟩,
   ⟨1, .e (.call 58), [.tmp 7], (some 8), none, [], false⟩,
   ⟨2, .q .mv, [.tmp 8], (some 5), none, [], false⟩])
 (.seq
 (.reg [⟨0, .q .mv, [.tmp 1], (some 9), none, [], false⟩,
   ⟨1, .e (.call 58), [.tmp 9], (some 10), none, [], false⟩,
   ⟨2, .q .mv, [.tmp 10], (some 6), none, [], false⟩])
 (.seq
 (.seq
 (.reg [⟨0, .q .mv, [.tmp 5], (some 11), none, [], false⟩])
 (.cond (.tmp 11)
  (.seq
  (.seq
  (.reg [⟨0, .q .mv, [.tmp 6], (some 12), none, [], false⟩])
  (.cond (.tmp 12)
   (.seq
   (.reg [⟨0, .q .mv, [.const (.int .i64 0)], (some 4), none, [], false⟩])
   .ret)
   .skip))
  (.seq
  (.reg [⟨0, .q .mv, [.const (.int .i64 (-1))], (some 4), none, [], false⟩])
  .ret))
  .skip))
 (.seq
 (.seq
 (.reg [⟨0, .q .mv, [.tmp 6], (some 13), none, [], false⟩])
 (.cond (.tmp 13)
  (.seq
  (.reg [⟨0, .q .mv, [.const (.int .i64 1)], (some 4), none, [], false⟩])
  .ret)
  .skip))
 (.seq
 (.seq
 (.reg [⟨0, .q .mv, [.tmp 0], (some 14), none, [], false⟩,
   ⟨1, .q .mv, [.tmp 1], (some 15), none, [], false⟩,
   ⟨2, .q (.bin .lss), [.tmp 14, .tmp 15], (some 16), none, [], false⟩])
 (.cond (.tmp 16)
  (.seq
  (.reg [⟨0, .q .mv, [.const (.int .i64 (-1))], (some 4), none, [], false⟩])
  .ret)
  .skip))
 (.seq
 (.seq
 (.reg [⟨0, .q .mv, [.tmp 0], (some 17), none, [], false⟩,
   ⟨1, .q .mv, [.tmp 1], (some 18), none, [], false⟩,
   ⟨2, .q (.bin .gtr), [.tmp 17, .tmp 18], (some 19), none, [], false⟩])
 (.cond (.tmp 19)
  (.seq
  (.reg [⟨0, .q .mv, [.const (.int .i64 1)], (some 4), none, [], false⟩])
  .ret)
  .skip))
 (.seq
 (.reg [⟨0, .q .mv, [.const (.int .i64 0)], (some 4), none, [], false⟩])
 .ret))))))))⟩
theorem low53 : lowFn Try.prog Try.f53 = some L53 := by kernel_rfl
theorem call53 {args : List Value} {H : Heap} {S : Ending → Heap → Prop} (hn : args.length ≤ L53.n) (h : awpC Try.prog L53.body (retQ L53.results S) (fun ch H => S (.panicked ch) H) (env0 args) H) : ACalls Try.prog 53 args.toArray H S := acalls mixed Try.func53 low53 hn h
/-- slices.SortStableFunc[[]*satchel/bits.coin,*satchel/bits.coin] -/
def L54 : LFn :=
 ⟨9, [],
 (.reg [⟨0, .q .mv, [.tmp 0], (some 4), none, [], false⟩,
   ⟨1, .q .mv, [.tmp 0], (some 5), none, [], false⟩,
   ⟨2, .q .len, [.tmp 5], (some 6), none, [], false⟩,
   ⟨3, .q .mv, [.tmp 1], (some 7), none, [], false⟩,
   ⟨4, .e (.call 59), [.tmp 4, .tmp 6, .tmp 7], (some 8), none, [], false⟩])⟩
theorem low54 : lowFn Try.prog Try.f54 = some L54 := by kernel_rfl
theorem call54 {args : List Value} {H : Heap} {S : Ending → Heap → Prop} (hn : args.length ≤ L54.n) (h : awpC Try.prog L54.body (retQ L54.results S) (fun ch H => S (.panicked ch) H) (env0 args) H) : ACalls Try.prog 54 args.toArray H S := acalls mixed Try.func54 low54 hn h
/-- slices.Clone[[]*satchel/bits.coin,*satchel/bits.coin] -/
def L55 : LFn :=
 ⟨8, [.t 2],
 (.seq
 (.reg [⟨0, .q .mv, [.const (.slice none 0 0)], (some 2), none, [], false⟩])
 (.seq
 (.seq
 (.reg [⟨0, .q .mv, [.tmp 0], (some 3), none, [], false⟩,
   ⟨1, .q (.eqs false), [.tmp 3, .const (.slice none 0 0)], (some 4), none, [], false⟩])
 (.cond (.tmp 4)
  (.seq
  (.reg [⟨0, .q .mv, [.const (.slice none 0 0)], (some 2), none, [], false⟩])
  .ret)
  .skip))
 (.seq
 (.reg [⟨0, .e (.lits 97 #[] 0 []), [], (some 5), none, [], false⟩,
   ⟨1, .q .mv, [.tmp 0], (some 6), none, [], false⟩,
   ⟨2, .e (.app 97 1 8 #[(.pointer none)]), [.tmp 5, .tmp 6], (some 7), none, [], false⟩,
   ⟨3, .q .mv, [.tmp 7], (some 2), none, [], false⟩])
 .ret)))⟩
theorem low55 : lowFn Try.prog Try.f55 = some L55 := by kernel_rfl
theorem call55 {args : List Value} {H : Heap} {S : Ending → Heap → Prop} (hn : args.length ≤ L55.n) (h : awpC Try.prog L55.body (retQ L55.results S) (fun ch H => S (.panicked ch) H) (env0 args) H) : ACalls Try.prog 55 args.toArray H S := acalls mixed Try.func55 low55 hn h
/-- (*satchel/bits.coin).each -/
def L56 : LFn :=
 ⟨30, [],
 (.seq
 (.seq
 (.reg [⟨0, .q .mv, [.tmp 0], (some 4), none, [], false⟩,
   ⟨1, .q .nilc, [.tmp 4], (some 5), none, [], false⟩,
   ⟨2, .q (.fad 2), [.tmp 5], (some 6), none, [], false⟩,
   ⟨3, .q .ld, [.tmp 6], (some 7), none, [], false⟩,
   ⟨4, .q (.eqp false), [.tmp 7, .const (.pointer none)], (some 8), none, [], false⟩])
 (.cond (.tmp 8)
  (.seq
  (.reg [⟨0, .q .mv, [.tmp 1], (some 9), none, [], false⟩,
    ⟨1, .q .mv, [.tmp 0], (some 10), none, [], false⟩,
    ⟨2, .q .nilc, [.tmp 10], (some 11), none, [], false⟩,
    ⟨3, .q (.fad 1), [.tmp 11], (some 12), none, [], false⟩,
    ⟨4, .q .ld, [.tmp 12], (some 13), none, [], false⟩,
    ⟨5, .q (.iad 1), [.tmp 9, .tmp 13], (some 14), none, [], false⟩,
    ⟨6, .q .ld, [.tmp 14], (some 15), none, [], false⟩,
    ⟨7, .q (.bin .add), [.tmp 15, .const (.int .i64 1)], (some 16), none, [], false⟩,
    ⟨8, .q (.iad 1), [.tmp 9, .tmp 13], (some 17), none, [], false⟩,
    ⟨9, .e (.st 1), [.tmp 17, .tmp 16], none, none, [], false⟩])
  .ret)
  .skip))
 (.seq
 (.reg [⟨0, .q .mv, [.tmp 0], (some 18), none, [], false⟩,
   ⟨1, .q .nilc, [.tmp 18], (some 19), none, [], false⟩,
   ⟨2, .q (.fad 2), [.tmp 19], (some 20), none, [], false⟩,
   ⟨3, .q .ld, [.tmp 20], (some 21), none, [], false⟩,
   ⟨4, .q .mv, [.tmp 1], (some 22), none, [], false⟩,
   ⟨5, .e (.call 56), [.tmp 21, .tmp 22], (some 23), none, [], false⟩])
 (.reg [⟨0, .q .mv, [.tmp 0], (some 24), none, [], false⟩,
   ⟨1, .q .nilc, [.tmp 24], (some 25), none, [], false⟩,
   ⟨2, .q (.fad 3), [.tmp 25], (some 26), none, [], false⟩,
   ⟨3, .q .ld, [.tmp 26], (some 27), none, [], false⟩,
   ⟨4, .q .mv, [.tmp 1], (some 28), none, [], false⟩,
   ⟨5, .e (.call 56), [.tmp 27, .tmp 28], (some 29), none, [], false⟩])))⟩
theorem low56 : lowFn Try.prog Try.f56 = some L56 := by kernel_rfl
theorem call56 {args : List Value} {H : Heap} {S : Ending → Heap → Prop} (hn : args.length ≤ L56.n) (h : awpC Try.prog L56.body (retQ L56.results S) (fun ch H => S (.panicked ch) H) (env0 args) H) : ACalls Try.prog 56 args.toArray H S := acalls mixed Try.func56 low56 hn h
/-- cmp.isNaN[int64] -/
def L58 : LFn :=
 ⟨6, [.t 2],
 (.seq
 (.reg [⟨0, .q .mv, [.const (.bool false)], (some 2), none, [], false⟩])
 (.seq
 (.reg [⟨0, .q .mv, [.tmp 0], (some 3), none, [], false⟩,
   ⟨1, .q .mv, [.tmp 0], (some 4), none, [], false⟩,
   ⟨2, .q (.bin .neq), [.tmp 3, .tmp 4], (some 5), none, [], false⟩,
   ⟨3, .q .mv, [.tmp 5], (some 2), none, [], false⟩])
 .ret))⟩
theorem low58 : lowFn Try.prog Try.f58 = some L58 := by kernel_rfl
theorem call58 {args : List Value} {H : Heap} {S : Ending → Heap → Prop} (hn : args.length ≤ L58.n) (h : awpC Try.prog L58.body (retQ L58.results S) (fun ch H => S (.panicked ch) H) (env0 args) H) : ACalls Try.prog 58 args.toArray H S := acalls mixed Try.func58 low58 hn h
/-- slices.stableCmpFunc[*satchel/bits.coin] -/
def L59_0 : LCode :=
 (.seq
 (.seq
 (.reg [⟨0, .q .mv, [.tmp 8], (some 11), none, [], false⟩,
   ⟨1, .q .mv, [.tmp 1], (some 12), none, [], false⟩,
   ⟨2, .q (.bin .leq), [.tmp 11, .tmp 12], (some 13), none, [], false⟩])
 (.cond (.tmp 13)
  .skip
  (.exit 0)))
 (.block 1
  (.seq
  (.reg [⟨0, .q .mv, [.tmp 0], (some 14), none, [], false⟩,
    ⟨1, .q .mv, [.tmp 7], (some 15), none, [], false⟩,
    ⟨2, .q .mv, [.tmp 8], (some 16), none, [], false⟩,
    ⟨3, .q .mv, [.tmp 2], (some 17), none, [], false⟩,
    ⟨4, .e (.call 60), [.tmp 14, .tmp 15, .tmp 16, .tmp 17], (some 18), none, [], false⟩])
  (.seq
  (.reg [⟨0, .q .mv, [.tmp 8], (some 19), none, [], false⟩,
    ⟨1, .q .mv, [.tmp 19], (some 7), none, [], false⟩])
  (.reg [⟨0, .q .mv, [.tmp 8], (some 20), none, [], false⟩,
    ⟨1, .q .mv, [.tmp 6], (some 21), none, [], false⟩,
    ⟨2, .q (.bin .add), [.tmp 20, .tmp 21], (some 22), none, [], false⟩,
    ⟨3, .q .mv, [.tmp 22], (some 8), none, [], false⟩])))))
def L59_1 : LCode :=
 (.seq
 (.seq
 (.reg [⟨0, .q .mv, [.tmp 8], (some 33), none, [], false⟩,
   ⟨1, .q .mv, [.tmp 1], (some 34), none, [], false⟩,
   ⟨2, .q (.bin .leq), [.tmp 33, .tmp 34], (some 35), none, [], false⟩])
 (.cond (.tmp 35)
  .skip
  (.exit 4)))
 (.block 5
  (.seq
  (.reg [⟨0, .q .mv, [.tmp 0], (some 36), none, [], false⟩,
    ⟨1, .q .mv, [.tmp 7], (some 37), none, [], false⟩,
    ⟨2, .q .mv, [.tmp 7], (some 38), none, [], false⟩,
    ⟨3, .q .mv, [.tmp 6], (some 39), none, [], false⟩,
    ⟨4, .q (.bin .add), [.tmp 38, .tmp 39], (some 40), none, [], false⟩,
    ⟨5, .q .mv, [.tmp 8], (some 41), none, [], false⟩,
    ⟨6, .q .mv, [.tmp 2], (some 42), none, [], false⟩,
    ⟨7, .e (.call 61), [.tmp 36, .tmp 37, .tmp 40, .tmp 41, .tmp 42], (some 43), none, [], false⟩])
  (.seq
  (.reg [⟨0, .q .mv, [.tmp 8], (some 44), none, [], false⟩,
    ⟨1, .q .mv, [.tmp 44], (some 7), none, [], false⟩])
  (.reg [⟨0, .q .mv, [.tmp 8], (some 45), none, [], false⟩,
    ⟨1, .q .mv, [.tmp 6], (some 46), none, [], false⟩,
    ⟨2, .q (.bin .mul), [.const (.int .i64 2), .tmp 46], (some 47), none, [], false⟩,
    ⟨3, .q (.bin .add), [.tmp 45, .tmp 47], (some 48), none, [], false⟩,
    ⟨4, .q .mv, [.tmp 48], (some 8), none, [], false⟩])))))
def L59_2 : LCode :=
 (.reg [⟨0, .q .mv, [.tmp 6], (some 61), none, [], false⟩,
   ⟨1, .q (.bin .mul), [.tmp 61, .const (.int .i64 2)], (some 62), none, [], false⟩,
   ⟨2, .q .mv, [.tmp 62], (some 6), none, [], false⟩])
def L59_3 : LCode :=
 (.seq
 (.seq
 (.reg [⟨0, .q .mv, [.tmp 6], (some 28), none, [], false⟩,
   ⟨1, .q .mv, [.tmp 1], (some 29), none, [], false⟩,
   ⟨2, .q (.bin .lss), [.tmp 28, .tmp 29], (some 30), none, [], false⟩])
 (.cond (.tmp 30)
  .skip
  (.exit 2)))
 (.block 3
  (.seq
  (.reg [⟨0, .q .mv, [.tmp 6], (some 31), none, [], false⟩,
    ⟨1, .q (.bin .mul), [.const (.int .i64 2), .tmp 31], (some 32), none, [], false⟩,
    ⟨2, .q .mv, [.const (.int .i64 0)], (some 7), none, [], false⟩,
    ⟨3, .q .mv, [.tmp 32], (some 8), none, [], false⟩])
  (.seq
  (.block 4
   (.loop L59_1))
  (.seq
  (.seq
  (.reg [⟨0, .q .mv, [.tmp 7], (some 49), none, [], false⟩,
    ⟨1, .q .mv, [.tmp 6], (some 50), none, [], false⟩,
    ⟨2, .q (.bin .add), [.tmp 49, .tmp 50], (some 51), none, [], false⟩,
    ⟨3, .q .mv, [.tmp 51], (some 9), none, [], false⟩])
  (.seq
  (.reg [⟨0, .q .mv, [.tmp 9], (some 52), none, [], false⟩,
    ⟨1, .q .mv, [.tmp 1], (some 53), none, [], false⟩,
    ⟨2, .q (.bin .lss), [.tmp 52, .tmp 53], (some 54), none, [], false⟩])
  (.cond (.tmp 54)
   (.reg [⟨0, .q .mv, [.tmp 0], (some 55), none, [], false⟩,
     ⟨1, .q .mv, [.tmp 7], (some 56), none, [], false⟩,
     ⟨2, .q .mv, [.tmp 9], (some 57), none, [], false⟩,
     ⟨3, .q .mv, [.tmp 1], (some 58), none, [], false⟩,
     ⟨4, .q .mv, [.tmp 2], (some 59), none, [], false⟩,
     ⟨5, .e (.call 61), [.tmp 55, .tmp 56, .tmp 57, .tmp 58, .tmp 59], (some 60), none, [], false⟩])
   .skip)))
  L59_2)))))
def L59 : LFn :=
 ⟨63, [],
 (.seq
 (.reg [⟨0, .q .mv, [.const (.int .i64 20)], (some 6), none, [], false⟩])
 (.seq
 (.reg [⟨0, .q .mv, [.tmp 6], (some 10), none, [], false⟩,
   ⟨1, .q .mv, [.const (.int .i64 0)], (some 7), none, [], false⟩,
   ⟨2, .q .mv, [.tmp 10], (some 8), none, [], false⟩])
 (.seq
 (.block 0
  (.loop L59_0))
 (.seq
 (.reg [⟨0, .q .mv, [.tmp 0], (some 23), none, [], false⟩,
   ⟨1, .q .mv, [.tmp 7], (some 24), none, [], false⟩,
   ⟨2, .q .mv, [.tmp 1], (some 25), none, [], false⟩,
   ⟨3, .q .mv, [.tmp 2], (some 26), none, [], false⟩,
   ⟨4, .e (.call 60), [.tmp 23, .tmp 24, .tmp 25, .tmp 26], (some 27), none, [], false⟩])
 (.block 2
  (.loop L59_3))))))⟩
theorem low59 : lowFn Try.prog Try.f59 = some L59 := by kernel_rfl
theorem call59 {args : List Value} {H : Heap} {S : Ending → Heap → Prop} (hn : args.length ≤ L59.n) (h : awpC Try.prog L59.body (retQ L59.results S) (fun ch H => S (.panicked ch) H) (env0 args) H) : ACalls Try.prog 59 args.toArray H S := acalls mixed Try.func59 low59 hn h
/-- slices.insertionSortCmpFunc[*satchel/bits.coin] -/
def L60_0 : LCode :=
 (.seq
 (.seq
 (.reg [⟨0, .q .mv, [.tmp 9], (some 18), none, [], false⟩,
   ⟨1, .q .mv, [.tmp 1], (some 19), none, [], false⟩,
   ⟨2, .q (.bin .gtr), [.tmp 18, .tmp 19], (some 20), none, [], false⟩,
   ⟨3, .q .mv, [.tmp 20], (some 21), none, [], false⟩,
   ⟨4, .q .mv, [.tmp 3], (some 22), (some (21, true)), [], false⟩,
   ⟨5, .q .mv, [.tmp 0], (some 23), (some (21, true)), [], false⟩,
   ⟨6, .q .mv, [.tmp 9], (some 24), (some (21, true)), [], false⟩,
   ⟨7, .q (.iad 1), [.tmp 23, .tmp 24], (some 25), (some (21, true)), [], false⟩,
   ⟨8, .q .ld, [.tmp 25], (some 26), (some (21, true)), [], false⟩,
   ⟨9, .q .mv, [.tmp 0], (some 27), (some (21, true)), [], false⟩,
   ⟨10, .q .mv, [.tmp 9], (some 28), (some (21, true)), [], false⟩,
   ⟨11, .q (.bin .sub), [.tmp 28, .const (.int .i64 1)], (some 29), (some (21, true)), [], false⟩,
   ⟨12, .q (.iad 1), [.tmp 27, .tmp 29], (some 30), (some (21, true)), [], false⟩,
   ⟨13, .q .ld, [.tmp 30], (some 31), (some (21, true)), [], false⟩,
   ⟨14, .e .callv, [.tmp 22, .tmp 26, .tmp 31], (some 32), (some (21, true)), [], false⟩,
   ⟨15, .q (.bin .lss), [.tmp 32, .const (.int .i64 0)], (some 33), (some (21, true)), [], false⟩,
   ⟨16, .q .pick, [.tmp 21, .tmp 33, .const (.bool false)], (some 34), none, [], false⟩])
 (.cond (.tmp 34)
  .skip
  (.exit 2)))
 (.seq
 (.block 3
  (.reg [⟨0, .q .mv, [.tmp 0], (some 37), none, [], false⟩,
    ⟨1, .q .mv, [.tmp 9], (some 38), none, [], false⟩,
    ⟨2, .q .mv, [.tmp 0], (some 39), none, [], false⟩,
    ⟨3, .q .mv, [.tmp 9], (some 40), none, [], false⟩,
    ⟨4, .q (.bin .sub), [.tmp 40, .const (.int .i64 1)], (some 41), none, [], false⟩,
    ⟨5, .q .mv, [.tmp 0], (some 42), none, [], false⟩,
    ⟨6, .q .mv, [.tmp 9], (some 43), none, [], false⟩,
    ⟨7, .q (.bin .sub), [.tmp 43, .const (.int .i64 1)], (some 44), none, [], false⟩,
    ⟨8, .q (.iad 1), [.tmp 42, .tmp 44], (some 45), none, [], false⟩,
    ⟨9, .q .ld, [.tmp 45], (some 46), none, [], false⟩,
    ⟨10, .q .mv, [.tmp 0], (some 47), none, [], false⟩,
    ⟨11, .q .mv, [.tmp 9], (some 48), none, [], false⟩,
    ⟨12, .q (.iad 1), [.tmp 47, .tmp 48], (some 49), none, [], false⟩,
    ⟨13, .q .ld, [.tmp 49], (some 50), none, [], false⟩,
    ⟨14, .q (.iad 1), [.tmp 37, .tmp 38], (some 51), none, [], false⟩,
    ⟨15, .e (.st 1), [.tmp 51, .tmp 46], none, none, [], false⟩,
    ⟨16, .q (.iad 1), [.tmp 39, .tmp 41], (some 52), none, [], false⟩,
    ⟨17, .e (.st 1), [.tmp 52, .tmp 50], none, none, [], false⟩]))
 (.reg [⟨0, .q .mv, [.tmp 9], (some 35), none, [], false⟩,
   ⟨1, .q (.bin .sub), [.tmp 35, .const (.int .i64 1)], (some 36), none, [], false⟩,
   ⟨2, .q .mv, [.tmp 36], (some 9), none, [], false⟩])))
def L60_1 : LCode :=
 (.seq
 (.seq
 (.reg [⟨0, .q .mv, [.tmp 8], (some 12), none, [], false⟩,
   ⟨1, .q .mv, [.tmp 2], (some 13), none, [], false⟩,
   ⟨2, .q (.bin .lss), [.tmp 12, .tmp 13], (some 14), none, [], false⟩])
 (.cond (.tmp 14)
  .skip
  (.exit 0)))
 (.seq
 (.block 1
  (.seq
  (.reg [⟨0, .q .mv, [.tmp 8], (some 17), none, [], false⟩,
    ⟨1, .q .mv, [.tmp 17], (some 9), none, [], false⟩])
  (.block 2
   (.loop L60_0))))
 (.reg [⟨0, .q .mv, [.tmp 8], (some 15), none, [], false⟩,
   ⟨1, .q (.bin .add), [.tmp 15, .const (.int .i64 1)], (some 16), none, [], false⟩,
   ⟨2, .q .mv, [.tmp 16], (some 8), none, [], false⟩])))
def L60 : LFn :=
 ⟨53, [],
 (.seq
 (.reg [⟨0, .q .mv, [.tmp 1], (some 10), none, [], false⟩,
   ⟨1, .q (.bin .add), [.tmp 10, .const (.int .i64 1)], (some 11), none, [], false⟩,
   ⟨2, .q .mv, [.tmp 11], (some 8), none, [], false⟩])
 (.block 0
  (.loop L60_1)))⟩
theorem low60 : lowFn Try.prog Try.f60 = some L60 := by kernel_rfl
theorem call60 {args : List Value} {H : Heap} {S : Ending → Heap → Prop} (hn : args.length ≤ L60.n) (h : awpC Try.prog L60.body (retQ L60.results S) (fun ch H => S (.panicked ch) H) (env0 args) H) : ACalls Try.prog 60 args.toArray H S := acalls mixed Try.func60 low60 hn h
/-- slices.symMergeCmpFunc[*satchel/bits.coin] -/
def L61_0 : LCode :=
 (.seq
 (.seq
 (.reg [⟨0, .q .mv, [.tmp 10], (some 31), none, [], false⟩,
   ⟨1, .q .mv, [.tmp 11], (some 32), none, [], false⟩,
   ⟨2, .q (.bin .lss), [.tmp 31, .tmp 32], (some 33), none, [], false⟩])
 (.cond (.tmp 33)
  .skip
  (.exit 0)))
 (.block 1
  (.seq
  (.reg [⟨0, .q .mv, [.tmp 10], (some 34), none, [], false⟩,
    ⟨1, .q .mv, [.tmp 11], (some 35), none, [], false⟩,
    ⟨2, .q (.bin .add), [.tmp 34, .tmp 35], (some 36), none, [], false⟩,
    ⟨3, .q (.cvi .u64), [.tmp 36], (some 37), none, [], false⟩,
    ⟨4, .q (.bin .shr), [.tmp 37, .const (.int .u64 1)], (some 38), none, [], false⟩,
    ⟨5, .q (.cvi .i64), [.tmp 38], (some 39), none, [], false⟩,
    ⟨6, .q .mv, [.tmp 39], (some 12), none, [], false⟩])
  (.seq
  (.reg [⟨0, .q .mv, [.tmp 4], (some 40), none, [], false⟩,
    ⟨1, .q .mv, [.tmp 0], (some 41), none, [], false⟩,
    ⟨2, .q .mv, [.tmp 12], (some 42), none, [], false⟩,
    ⟨3, .q (.iad 1), [.tmp 41, .tmp 42], (some 43), none, [], false⟩,
    ⟨4, .q .ld, [.tmp 43], (some 44), none, [], false⟩,
    ⟨5, .q .mv, [.tmp 0], (some 45), none, [], false⟩,
    ⟨6, .q .mv, [.tmp 1], (some 46), none, [], false⟩,
    ⟨7, .q (.iad 1), [.tmp 45, .tmp 46], (some 47), none, [], false⟩,
    ⟨8, .q .ld, [.tmp 47], (some 48), none, [], false⟩,
    ⟨9, .e .callv, [.tmp 40, .tmp 44, .tmp 48], (some 49), none, [], false⟩,
    ⟨10, .q (.bin .lss), [.tmp 49, .const (.int .i64 0)], (some 50), none, [], false⟩])
  (.cond (.tmp 50)
   (.reg [⟨0, .q .mv, [.tmp 12], (some 51), none, [], false⟩,
     ⟨1, .q (.bin .add), [.tmp 51, .const (.int .i64 1)], (some 52), none, [], false⟩,
     ⟨2, .q .mv, [.tmp 52], (some 10), none, [], false⟩])
   (.reg [⟨0, .q .mv, [.tmp 12], (some 53), none, [], false⟩,
     ⟨1, .q .mv, [.tmp 53], (some 11), none, [], false⟩]))))))
def L61_1 : LCode :=
 (.seq
 (.seq
 (.reg [⟨0, .q .mv, [.tmp 13], (some 55), none, [], false⟩,
   ⟨1, .q .mv, [.tmp 10], (some 56), none, [], false⟩,
   ⟨2, .q (.bin .sub), [.tmp 56, .const (.int .i64 1)], (some 57), none, [], false⟩,
   ⟨3, .q (.bin .lss), [.tmp 55, .tmp 57], (some 58), none, [], false⟩])
 (.cond (.tmp 58)
  .skip
  (.exit 2)))
 (.seq
 (.block 3
  (.reg [⟨0, .q .mv, [.tmp 0], (some 61), none, [], false⟩,
    ⟨1, .q .mv, [.tmp 13], (some 62), none, [], false⟩,
    ⟨2, .q .mv, [.tmp 0], (some 63), none, [], false⟩,
    ⟨3, .q .mv, [.tmp 13], (some 64), none, [], false⟩,
    ⟨4, .q (.bin .add), [.tmp 64, .const (.int .i64 1)], (some 65), none, [], false⟩,
    ⟨5, .q .mv, [.tmp 0], (some 66), none, [], false⟩,
    ⟨6, .q .mv, [.tmp 13], (some 67), none, [], false⟩,
    ⟨7, .q (.bin .add), [.tmp 67, .const (.int .i64 1)], (some 68), none, [], false⟩,
    ⟨8, .q (.iad 1), [.tmp 66, .tmp 68], (some 69), none, [], false⟩,
    ⟨9, .q .ld, [.tmp 69], (some 70), none, [], false⟩,
    ⟨10, .q .mv, [.tmp 0], (some 71), none, [], false⟩,
    ⟨11, .q .mv, [.tmp 13], (some 72), none, [], false⟩,
    ⟨12, .q (.iad 1), [.tmp 71, .tmp 72], (some 73), none, [], false⟩,
    ⟨13, .q .ld, [.tmp 73], (some 74), none, [], false⟩,
    ⟨14, .q (.iad 1), [.tmp 61, .tmp 62], (some 75), none, [], false⟩,
    ⟨15, .e (.st 1), [.tmp 75, .tmp 70], none, none, [], false⟩,
    ⟨16, .q (.iad 1), [.tmp 63, .tmp 65], (some 76), none, [], false⟩,
    ⟨17, .e (.st 1), [.tmp 76, .tmp 74], none, none, [], false⟩]))
 (.reg [⟨0, .q .mv, [.tmp 13], (some 59), none, [], false⟩,
   ⟨1, .q (.bin .add), [.tmp 59, .const (.int .i64 1)], (some 60), none, [], false⟩,
   ⟨2, .q .mv, [.tmp 60], (some 13), none, [], false⟩])))
def L61_2 : LCode :=
 (.seq
 (.seq
 (.reg [⟨0, .q .mv, [.tmp 14], (some 83), none, [], false⟩,
   ⟨1, .q .mv, [.tmp 15], (some 84), none, [], false⟩,
   ⟨2, .q (.bin .lss), [.tmp 83, .tmp 84], (some 85), none, [], false⟩])
 (.cond (.tmp 85)
  .skip
  (.exit 4)))
 (.block 5
  (.seq
  (.reg [⟨0, .q .mv, [.tmp 14], (some 86), none, [], false⟩,
    ⟨1, .q .mv, [.tmp 15], (some 87), none, [], false⟩,
    ⟨2, .q (.bin .add), [.tmp 86, .tmp 87], (some 88), none, [], false⟩,
    ⟨3, .q (.cvi .u64), [.tmp 88], (some 89), none, [], false⟩,
    ⟨4, .q (.bin .shr), [.tmp 89, .const (.int .u64 1)], (some 90), none, [], false⟩,
    ⟨5, .q (.cvi .i64), [.tmp 90], (some 91), none, [], false⟩,
    ⟨6, .q .mv, [.tmp 91], (some 16), none, [], false⟩])
  (.seq
  (.reg [⟨0, .q .mv, [.tmp 4], (some 92), none, [], false⟩,
    ⟨1, .q .mv, [.tmp 0], (some 93), none, [], false⟩,
    ⟨2, .q .mv, [.tmp 2], (some 94), none, [], false⟩,
    ⟨3, .q (.iad 1), [.tmp 93, .tmp 94], (some 95), none, [], false⟩,
    ⟨4, .q .ld, [.tmp 95], (some 96), none, [], false⟩,
    ⟨5, .q .mv, [.tmp 0], (some 97), none, [], false⟩,
    ⟨6, .q .mv, [.tmp 16], (some 98), none, [], false⟩,
    ⟨7, .q (.iad 1), [.tmp 97, .tmp 98], (some 99), none, [], false⟩,
    ⟨8, .q .ld, [.tmp 99], (some 100), none, [], false⟩,
    ⟨9, .e .callv, [.tmp 92, .tmp 96, .tmp 100], (some 101), none, [], false⟩,
    ⟨10, .q (.bin .lss), [.tmp 101, .const (.int .i64 0)], (some 102), none, [], false⟩,
    ⟨11, .q (.un .not), [.tmp 102], (some 103), none, [], false⟩])
  (.cond (.tmp 103)
   (.reg [⟨0, .q .mv, [.tmp 16], (some 104), none, [], false⟩,
     ⟨1, .q (.bin .add), [.tmp 104, .const (.int .i64 1)], (some 105), none, [], false⟩,
     ⟨2, .q .mv, [.tmp 105], (some 14), none, [], false⟩])
   (.reg [⟨0, .q .mv, [.tmp 16], (some 106), none, [], false⟩,
     ⟨1, .q .mv, [.tmp 106], (some 15), none, [], false⟩]))))))
def L61_3 : LCode :=
 (.seq
 (.seq
 (.reg [⟨0, .q .mv, [.tmp 17], (some 108), none, [], false⟩,
   ⟨1, .q .mv, [.tmp 14], (some 109), none, [], false⟩,
   ⟨2, .q (.bin .gtr), [.tmp 108, .tmp 109], (some 110), none, [], false⟩])
 (.cond (.tmp 110)
  .skip
  (.exit 6)))
 (.seq
 (.block 7
  (.reg [⟨0, .q .mv, [.tmp 0], (some 113), none, [], false⟩,
    ⟨1, .q .mv, [.tmp 17], (some 114), none, [], false⟩,
    ⟨2, .q .mv, [.tmp 0], (some 115), none, [], false⟩,
    ⟨3, .q .mv, [.tmp 17], (some 116), none, [], false⟩,
    ⟨4, .q (.bin .sub), [.tmp 116, .const (.int .i64 1)], (some 117), none, [], false⟩,
    ⟨5, .q .mv, [.tmp 0], (some 118), none, [], false⟩,
    ⟨6, .q .mv, [.tmp 17], (some 119), none, [], false⟩,
    ⟨7, .q (.bin .sub), [.tmp 119, .const (.int .i64 1)], (some 120), none, [], false⟩,
    ⟨8, .q (.iad 1), [.tmp 118, .tmp 120], (some 121), none, [], false⟩,
    ⟨9, .q .ld, [.tmp 121], (some 122), none, [], false⟩,
    ⟨10, .q .mv, [.tmp 0], (some 123), none, [], false⟩,
    ⟨11, .q .mv, [.tmp 17], (some 124), none, [], false⟩,
    ⟨12, .q (.iad 1), [.tmp 123, .tmp 124], (some 125), none, [], false⟩,
    ⟨13, .q .ld, [.tmp 125], (some 126), none, [], false⟩,
    ⟨14, .q (.iad 1), [.tmp 113, .tmp 114], (some 127), none, [], false⟩,
    ⟨15, .e (.st 1), [.tmp 127, .tmp 122], none, none, [], false⟩,
    ⟨16, .q (.iad 1), [.tmp 115, .tmp 117], (some 128), none, [], false⟩,
    ⟨17, .e (.st 1), [.tmp 128, .tmp 126], none, none, [], false⟩]))
 (.reg [⟨0, .q .mv, [.tmp 17], (some 111), none, [], false⟩,
   ⟨1, .q (.bin .sub), [.tmp 111, .const (.int .i64 1)], (some 112), none, [], false⟩,
   ⟨2, .q .mv, [.tmp 112], (some 17), none, [], false⟩])))
def L61_4 : LCode :=
 (.seq
 (.seq
 (.reg [⟨0, .q .mv, [.tmp 20], (some 149), none, [], false⟩,
   ⟨1, .q .mv, [.tmp 21], (some 150), none, [], false⟩,
   ⟨2, .q (.bin .lss), [.tmp 149, .tmp 150], (some 151), none, [], false⟩])
 (.cond (.tmp 151)
  .skip
  (.exit 8)))
 (.block 9
  (.seq
  (.reg [⟨0, .q .mv, [.tmp 20], (some 152), none, [], false⟩,
    ⟨1, .q .mv, [.tmp 21], (some 153), none, [], false⟩,
    ⟨2, .q (.bin .add), [.tmp 152, .tmp 153], (some 154), none, [], false⟩,
    ⟨3, .q (.cvi .u64), [.tmp 154], (some 155), none, [], false⟩,
    ⟨4, .q (.bin .shr), [.tmp 155, .const (.int .u64 1)], (some 156), none, [], false⟩,
    ⟨5, .q (.cvi .i64), [.tmp 156], (some 157), none, [], false⟩,
    ⟨6, .q .mv, [.tmp 157], (some 23), none, [], false⟩])
  (.seq
  (.reg [⟨0, .q .mv, [.tmp 4], (some 158), none, [], false⟩,
    ⟨1, .q .mv, [.tmp 0], (some 159), none, [], false⟩,
    ⟨2, .q .mv, [.tmp 22], (some 160), none, [], false⟩,
    ⟨3, .q .mv, [.tmp 23], (some 161), none, [], false⟩,
    ⟨4, .q (.bin .sub), [.tmp 160, .tmp 161], (some 162), none, [], false⟩,
    ⟨5, .q (.iad 1), [.tmp 159, .tmp 162], (some 163), none, [], false⟩,
    ⟨6, .q .ld, [.tmp 163], (some 164), none, [], false⟩,
    ⟨7, .q .mv, [.tmp 0], (some 165), none, [], false⟩,
    ⟨8, .q .mv, [.tmp 23], (some 166), none, [], false⟩,
    ⟨9, .q (.iad 1), [.tmp 165, .tmp 166], (some 167), none, [], false⟩,
    ⟨10, .q .ld, [.tmp 167], (some 168), none, [], false⟩,
    ⟨11, .e .callv, [.tmp 158, .tmp 164, .tmp 168], (some 169), none, [], false⟩,
    ⟨12, .q (.bin .lss), [.tmp 169, .const (.int .i64 0)], (some 170), none, [], false⟩,
    ⟨13, .q (.un .not), [.tmp 170], (some 171), none, [], false⟩])
  (.cond (.tmp 171)
   (.reg [⟨0, .q .mv, [.tmp 23], (some 172), none, [], false⟩,
     ⟨1, .q (.bin .add), [.tmp 172, .const (.int .i64 1)], (some 173), none, [], false⟩,
     ⟨2, .q .mv, [.tmp 173], (some 20), none, [], false⟩])
   (.reg [⟨0, .q .mv, [.tmp 23], (some 174), none, [], false⟩,
     ⟨1, .q .mv, [.tmp 174], (some 21), none, [], false⟩]))))))
def L61_5 : LCode :=
 (.seq
 (.reg [⟨0, .q .mv, [.tmp 18], (some 206), none, [], false⟩,
   ⟨1, .q .mv, [.tmp 24], (some 207), none, [], false⟩,
   ⟨2, .q (.bin .lss), [.tmp 206, .tmp 207], (some 208), none, [], false⟩,
   ⟨3, .q .mv, [.tmp 208], (some 209), none, [], false⟩,
   ⟨4, .q .mv, [.tmp 24], (some 210), (some (209, true)), [], false⟩,
   ⟨5, .q .mv, [.tmp 3], (some 211), (some (209, true)), [], false⟩,
   ⟨6, .q (.bin .lss), [.tmp 210, .tmp 211], (some 212), (some (209, true)), [], false⟩,
   ⟨7, .q .pick, [.tmp 209, .tmp 212, .const (.bool false)], (some 213), none, [], false⟩])
 (.cond (.tmp 213)
  (.reg [⟨0, .q .mv, [.tmp 0], (some 214), none, [], false⟩,
    ⟨1, .q .mv, [.tmp 18], (some 215), none, [], false⟩,
    ⟨2, .q .mv, [.tmp 24], (some 216), none, [], false⟩,
    ⟨3, .q .mv, [.tmp 3], (some 217), none, [], false⟩,
    ⟨4, .q .mv, [.tmp 4], (some 218), none, [], false⟩,
    ⟨5, .e (.call 61), [.tmp 214, .tmp 215, .tmp 216, .tmp 217, .tmp 218], (some 219), none, [], false⟩])
  .skip))
def L61_6 : LCode :=
 (.seq
 (.seq
 (.reg [⟨0, .q .mv, [.tmp 1], (some 192), none, [], false⟩,
   ⟨1, .q .mv, [.tmp 20], (some 193), none, [], false⟩,
   ⟨2, .q (.bin .lss), [.tmp 192, .tmp 193], (some 194), none, [], false⟩,
   ⟨3, .q .mv, [.tmp 194], (some 195), none, [], false⟩,
   ⟨4, .q .mv, [.tmp 20], (some 196), (some (195, true)), [], false⟩,
   ⟨5, .q .mv, [.tmp 18], (some 197), (some (195, true)), [], false⟩,
   ⟨6, .q (.bin .lss), [.tmp 196, .tmp 197], (some 198), (some (195, true)), [], false⟩,
   ⟨7, .q .pick, [.tmp 195, .tmp 198, .const (.bool false)], (some 199), none, [], false⟩])
 (.cond (.tmp 199)
  (.reg [⟨0, .q .mv, [.tmp 0], (some 200), none, [], false⟩,
    ⟨1, .q .mv, [.tmp 1], (some 201), none, [], false⟩,
    ⟨2, .q .mv, [.tmp 20], (some 202), none, [], false⟩,
    ⟨3, .q .mv, [.tmp 18], (some 203), none, [], false⟩,
    ⟨4, .q .mv, [.tmp 4], (some 204), none, [], false⟩,
    ⟨5, .e (.call 61), [.tmp 200, .tmp 201, .tmp 202, .tmp 203, .tmp 204], (some 205), none, [], false⟩])
  .skip))
 L61_5)
def L61_7 : LCode :=
 (.seq
 (.reg [⟨0, .q .mv, [.tmp 19], (some 147), none, [], false⟩,
   ⟨1, .q (.bin .sub), [.tmp 147, .const (.int .i64 1)], (some 148), none, [], false⟩,
   ⟨2, .q .mv, [.tmp 148], (some 22), none, [], false⟩])
 (.seq
 (.block 8
  (.loop L61_4))
 (.seq
 (.reg [⟨0, .q .mv, [.tmp 19], (some 175), none, [], false⟩,
   ⟨1, .q .mv, [.tmp 20], (some 176), none, [], false⟩,
   ⟨2, .q (.bin .sub), [.tmp 175, .tmp 176], (some 177), none, [], false⟩,
   ⟨3, .q .mv, [.tmp 177], (some 24), none, [], false⟩])
 (.seq
 (.seq
 (.reg [⟨0, .q .mv, [.tmp 20], (some 178), none, [], false⟩,
   ⟨1, .q .mv, [.tmp 2], (some 179), none, [], false⟩,
   ⟨2, .q (.bin .lss), [.tmp 178, .tmp 179], (some 180), none, [], false⟩,
   ⟨3, .q .mv, [.tmp 180], (some 181), none, [], false⟩,
   ⟨4, .q .mv, [.tmp 2], (some 182), (some (181, true)), [], false⟩,
   ⟨5, .q .mv, [.tmp 24], (some 183), (some (181, true)), [], false⟩,
   ⟨6, .q (.bin .lss), [.tmp 182, .tmp 183], (some 184), (some (181, true)), [], false⟩,
   ⟨7, .q .pick, [.tmp 181, .tmp 184, .const (.bool false)], (some 185), none, [], false⟩])
 (.cond (.tmp 185)
  (.reg [⟨0, .q .mv, [.tmp 0], (some 186), none, [], false⟩,
    ⟨1, .q .mv, [.tmp 20], (some 187), none, [], false⟩,
    ⟨2, .q .mv, [.tmp 2], (some 188), none, [], false⟩,
    ⟨3, .q .mv, [.tmp 24], (some 189), none, [], false⟩,
    ⟨4, .q .mv, [.tmp 4], (some 190), none, [], false⟩,
    ⟨5, .e (.call 62), [.tmp 186, .tmp 187, .tmp 188, .tmp 189, .tmp 190], (some 191), none, [], false⟩])
  .skip))
 L61_6))))
def L61 : LFn :=
 ⟨220, [],
 (.seq
 (.seq
 (.reg [⟨0, .q .mv, [.tmp 2], (some 25), none, [], false⟩,
   ⟨1, .q .mv, [.tmp 1], (some 26), none, [], false⟩,
   ⟨2, .q (.bin .sub), [.tmp 25, .tmp 26], (some 27), none, [], false⟩,
   ⟨3, .q (.bin .eql), [.tmp 27, .const (.int .i64 1)], (some 28), none, [], false⟩])
 (.cond (.tmp 28)
  (.seq
  (.reg [⟨0, .q .mv, [.tmp 2], (some 29), none, [], false⟩,
    ⟨1, .q .mv, [.tmp 29], (some 10), none, [], false⟩])
  (.seq
  (.reg [⟨0, .q .mv, [.tmp 3], (some 30), none, [], false⟩,
    ⟨1, .q .mv, [.tmp 30], (some 11), none, [], false⟩])
  (.seq
  (.block 0
   (.loop L61_0))
  (.seq
  (.seq
  (.reg [⟨0, .q .mv, [.tmp 1], (some 54), none, [], false⟩,
    ⟨1, .q .mv, [.tmp 54], (some 13), none, [], false⟩])
  (.block 2
   (.loop L61_1)))
  .ret))))
  .skip))
 (.seq
 (.seq
 (.reg [⟨0, .q .mv, [.tmp 3], (some 77), none, [], false⟩,
   ⟨1, .q .mv, [.tmp 2], (some 78), none, [], false⟩,
   ⟨2, .q (.bin .sub), [.tmp 77, .tmp 78], (some 79), none, [], false⟩,
   ⟨3, .q (.bin .eql), [.tmp 79, .const (.int .i64 1)], (some 80), none, [], false⟩])
 (.cond (.tmp 80)
  (.seq
  (.reg [⟨0, .q .mv, [.tmp 1], (some 81), none, [], false⟩,
    ⟨1, .q .mv, [.tmp 81], (some 14), none, [], false⟩])
  (.seq
  (.reg [⟨0, .q .mv, [.tmp 2], (some 82), none, [], false⟩,
    ⟨1, .q .mv, [.tmp 82], (some 15), none, [], false⟩])
  (.seq
  (.block 4
   (.loop L61_2))
  (.seq
  (.seq
  (.reg [⟨0, .q .mv, [.tmp 2], (some 107), none, [], false⟩,
    ⟨1, .q .mv, [.tmp 107], (some 17), none, [], false⟩])
  (.block 6
   (.loop L61_3)))
  .ret))))
  .skip))
 (.seq
 (.reg [⟨0, .q .mv, [.tmp 1], (some 129), none, [], false⟩,
   ⟨1, .q .mv, [.tmp 3], (some 130), none, [], false⟩,
   ⟨2, .q (.bin .add), [.tmp 129, .tmp 130], (some 131), none, [], false⟩,
   ⟨3, .q (.cvi .u64), [.tmp 131], (some 132), none, [], false⟩,
   ⟨4, .q (.bin .shr), [.tmp 132, .const (.int .u64 1)], (some 133), none, [], false⟩,
   ⟨5, .q (.cvi .i64), [.tmp 133], (some 134), none, [], false⟩,
   ⟨6, .q .mv, [.tmp 134], (some 18), none, [], false⟩])
 (.seq
 (.reg [⟨0, .q .mv, [.tmp 18], (some 135), none, [], false⟩,
   ⟨1, .q .mv, [.tmp 2], (some 136), none, [], false⟩,
   ⟨2, .q (.bin .add), [.tmp 135, .tmp 136], (some 137), none, [], false⟩,
   ⟨3, .q .mv, [.tmp 137], (some 19), none, [], false⟩])
 (.seq
 (.reg [⟨0, .q .mv, [.const (.int .i64 0)], (some 20), none, [], false⟩,
   ⟨1, .q .mv, [.const (.int .i64 0)], (some 21), none, [], false⟩])
 (.seq
 (.seq
 (.reg [⟨0, .q .mv, [.tmp 2], (some 138), none, [], false⟩,
   ⟨1, .q .mv, [.tmp 18], (some 139), none, [], false⟩,
   ⟨2, .q (.bin .gtr), [.tmp 138, .tmp 139], (some 140), none, [], false⟩])
 (.cond (.tmp 140)
  (.seq
  (.reg [⟨0, .q .mv, [.tmp 19], (some 141), none, [], false⟩,
    ⟨1, .q .mv, [.tmp 3], (some 142), none, [], false⟩,
    ⟨2, .q (.bin .sub), [.tmp 141, .tmp 142], (some 143), none, [], false⟩,
    ⟨3, .q .mv, [.tmp 143], (some 20), none, [], false⟩])
  (.reg [⟨0, .q .mv, [.tmp 18], (some 144), none, [], false⟩,
    ⟨1, .q .mv, [.tmp 144], (some 21), none, [], false⟩]))
  (.seq
  (.reg [⟨0, .q .mv, [.tmp 1], (some 145), none, [], false⟩,
    ⟨1, .q .mv, [.tmp 145], (some 20), none, [], false⟩])
  (.reg [⟨0, .q .mv, [.tmp 2], (some 146), none, [], false⟩,
    ⟨1, .q .mv, [.tmp 146], (some 21), none, [], false⟩]))))
 L61_7))))))⟩
theorem low61 : lowFn Try.prog Try.f61 = some L61 := by kernel_rfl
theorem call61 {args : List Value} {H : Heap} {S : Ending → Heap → Prop} (hn : args.length ≤ L61.n) (h : awpC Try.prog L61.body (retQ L61.results S) (fun ch H => S (.panicked ch) H) (env0 args) H) : ACalls Try.prog 61 args.toArray H S := acalls mixed Try.func61 low61 hn h
/-- slices.rotateCmpFunc[*satchel/bits.coin] -/
def L62_0 : LCode :=
 (.seq
 (.seq
 (.reg [⟨0, .q .mv, [.tmp 10], (some 18), none, [], false⟩,
   ⟨1, .q .mv, [.tmp 11], (some 19), none, [], false⟩,
   ⟨2, .q (.bin .neq), [.tmp 18, .tmp 19], (some 20), none, [], false⟩])
 (.cond (.tmp 20)
  .skip
  (.exit 0)))
 (.block 1
  (.seq
  (.reg [⟨0, .q .mv, [.tmp 10], (some 21), none, [], false⟩,
    ⟨1, .q .mv, [.tmp 11], (some 22), none, [], false⟩,
    ⟨2, .q (.bin .gtr), [.tmp 21, .tmp 22], (some 23), none, [], false⟩])
  (.cond (.tmp 23)
   (.seq
   (.reg [⟨0, .q .mv, [.tmp 0], (some 24), none, [], false⟩,
     ⟨1, .q .mv, [.tmp 2], (some 25), none, [], false⟩,
     ⟨2, .q .mv, [.tmp 10], (some 26), none, [], false⟩,
     ⟨3, .q (.bin .sub), [.tmp 25, .tmp 26], (some 27), none, [], false⟩,
     ⟨4, .q .mv, [.tmp 2], (some 28), none, [], false⟩,
     ⟨5, .q .mv, [.tmp 11], (some 29), none, [], false⟩,
     ⟨6, .q .mv, [.tmp 4], (some 30), none, [], false⟩,
     ⟨7, .e (.call 63), [.tmp 24, .tmp 27, .tmp 28, .tmp 29, .tmp 30], (some 31), none, [], false⟩])
   (.reg [⟨0, .q .mv, [.tmp 10], (some 32), none, [], false⟩,
     ⟨1, .q .mv, [.tmp 11], (some 33), none, [], false⟩,
     ⟨2, .q (.bin .sub), [.tmp 32, .tmp 33], (some 34), none, [], false⟩,
     ⟨3, .q .mv, [.tmp 34], (some 10), none, [], false⟩]))
   (.seq
   (.reg [⟨0, .q .mv, [.tmp 0], (some 35), none, [], false⟩,
     ⟨1, .q .mv, [.tmp 2], (some 36), none, [], false⟩,
     ⟨2, .q .mv, [.tmp 10], (some 37), none, [], false⟩,
     ⟨3, .q (.bin .sub), [.tmp 36, .tmp 37], (some 38), none, [], false⟩,
     ⟨4, .q .mv, [.tmp 2], (some 39), none, [], false⟩,
     ⟨5, .q .mv, [.tmp 11], (some 40), none, [], false⟩,
     ⟨6, .q (.bin .add), [.tmp 39, .tmp 40], (some 41), none, [], false⟩,
     ⟨7, .q .mv, [.tmp 10], (some 42), none, [], false⟩,
     ⟨8, .q (.bin .sub), [.tmp 41, .tmp 42], (some 43), none, [], false⟩,
     ⟨9, .q .mv, [.tmp 10], (some 44), none, [], false⟩,
     ⟨10, .q .mv, [.tmp 4], (some 45), none, [], false⟩,
     ⟨11, .e (.call 63), [.tmp 35, .tmp 38, .tmp 43, .tmp 44, .tmp 45], (some 46), none, [], false⟩])
   (.reg [⟨0, .q .mv, [.tmp 11], (some 47), none, [], false⟩,
     ⟨1, .q .mv, [.tmp 10], (some 48), none, [], false⟩,
     ⟨2, .q (.bin .sub), [.tmp 47, .tmp 48], (some 49), none, [], false⟩,
     ⟨3, .q .mv, [.tmp 49], (some 11), none, [], false⟩]))))))
def L62 : LFn :=
 ⟨58, [],
 (.seq
 (.reg [⟨0, .q .mv, [.tmp 2], (some 12), none, [], false⟩,
   ⟨1, .q .mv, [.tmp 1], (some 13), none, [], false⟩,
   ⟨2, .q (.bin .sub), [.tmp 12, .tmp 13], (some 14), none, [], false⟩,
   ⟨3, .q .mv, [.tmp 14], (some 10), none, [], false⟩])
 (.seq
 (.reg [⟨0, .q .mv, [.tmp 3], (some 15), none, [], false⟩,
   ⟨1, .q .mv, [.tmp 2], (some 16), none, [], false⟩,
   ⟨2, .q (.bin .sub), [.tmp 15, .tmp 16], (some 17), none, [], false⟩,
   ⟨3, .q .mv, [.tmp 17], (some 11), none, [], false⟩])
 (.seq
 (.block 0
  (.loop L62_0))
 (.reg [⟨0, .q .mv, [.tmp 0], (some 50), none, [], false⟩,
   ⟨1, .q .mv, [.tmp 2], (some 51), none, [], false⟩,
   ⟨2, .q .mv, [.tmp 10], (some 52), none, [], false⟩,
   ⟨3, .q (.bin .sub), [.tmp 51, .tmp 52], (some 53), none, [], false⟩,
   ⟨4, .q .mv, [.tmp 2], (some 54), none, [], false⟩,
   ⟨5, .q .mv, [.tmp 10], (some 55), none, [], false⟩,
   ⟨6, .q .mv, [.tmp 4], (some 56), none, [], false⟩,
   ⟨7, .e (.call 63), [.tmp 50, .tmp 53, .tmp 54, .tmp 55, .tmp 56], (some 57), none, [], false⟩]))))⟩
theorem low62 : lowFn Try.prog Try.f62 = some L62 := by kernel_rfl
theorem call62 {args : List Value} {H : Heap} {S : Ending → Heap → Prop} (hn : args.length ≤ L62.n) (h : awpC Try.prog L62.body (retQ L62.results S) (fun ch H => S (.panicked ch) H) (env0 args) H) : ACalls Try.prog 62 args.toArray H S := acalls mixed Try.func62 low62 hn h
/-- slices.swapRangeCmpFunc[*satchel/bits.coin] -/
def L63_0 : LCode :=
 (.seq
 (.seq
 (.reg [⟨0, .q .mv, [.tmp 10], (some 11), none, [], false⟩,
   ⟨1, .q .mv, [.tmp 3], (some 12), none, [], false⟩,
   ⟨2, .q (.bin .lss), [.tmp 11, .tmp 12], (some 13), none, [], false⟩])
 (.cond (.tmp 13)
  .skip
  (.exit 0)))
 (.seq
 (.block 1
  (.reg [⟨0, .q .mv, [.tmp 0], (some 16), none, [], false⟩,
    ⟨1, .q .mv, [.tmp 1], (some 17), none, [], false⟩,
    ⟨2, .q .mv, [.tmp 10], (some 18), none, [], false⟩,
    ⟨3, .q (.bin .add), [.tmp 17, .tmp 18], (some 19), none, [], false⟩,
    ⟨4, .q .mv, [.tmp 0], (some 20), none, [], false⟩,
    ⟨5, .q .mv, [.tmp 2], (some 21), none, [], false⟩,
    ⟨6, .q .mv, [.tmp 10], (some 22), none, [], false⟩,
    ⟨7, .q (.bin .add), [.tmp 21, .tmp 22], (some 23), none, [], false⟩,
    ⟨8, .q .mv, [.tmp 0], (some 24), none, [], false⟩,
    ⟨9, .q .mv, [.tmp 2], (some 25), none, [], false⟩,
    ⟨10, .q .mv, [.tmp 10], (some 26), none, [], false⟩,
    ⟨11, .q (.bin .add), [.tmp 25, .tmp 26], (some 27), none, [], false⟩,
    ⟨12, .q (.iad 1), [.tmp 24, .tmp 27], (some 28), none, [], false⟩,
    ⟨13, .q .ld, [.tmp 28], (some 29), none, [], false⟩,
    ⟨14, .q .mv, [.tmp 0], (some 30), none, [], false⟩,
    ⟨15, .q .mv, [.tmp 1], (some 31), none, [], false⟩,
    ⟨16, .q .mv, [.tmp 10], (some 32), none, [], false⟩,
    ⟨17, .q (.bin .add), [.tmp 31, .tmp 32], (some 33), none, [], false⟩,
    ⟨18, .q (.iad 1), [.tmp 30, .tmp 33], (some 34), none, [], false⟩,
    ⟨19, .q .ld, [.tmp 34], (some 35), none, [], false⟩,
    ⟨20, .q (.iad 1), [.tmp 16, .tmp 19], (some 36), none, [], false⟩,
    ⟨21, .e (.st 1), [.tmp 36, .tmp 29], none, none, [], false⟩,
    ⟨22, .q (.iad 1), [.tmp 20, .tmp 23], (some 37), none, [], false⟩,
    ⟨23, .e (.st 1), [.tmp 37, .tmp 35], none, none, [], false⟩]))
 (.reg [⟨0, .q .mv, [.tmp 10], (some 14), none, [], false⟩,
   ⟨1, .q (.bin .add), [.tmp 14, .const (.int .i64 1)], (some 15), none, [], false⟩,
   ⟨2, .q .mv, [.tmp 15], (some 10), none, [], false⟩])))
def L63 : LFn :=
 ⟨38, [],
 (.seq
 (.reg [⟨0, .q .mv, [.const (.int .i64 0)], (some 10), none, [], false⟩])
 (.block 0
  (.loop L63_0)))⟩
theorem low63 : lowFn Try.prog Try.f63 = some L63 := by kernel_rfl
theorem call63 {args : List Value} {H : Heap} {S : Ending → Heap → Prop} (hn : args.length ≤ L63.n) (h : awpC Try.prog L63.body (retQ L63.results S) (fun ch H => S (.panicked ch) H) (env0 args) H) : ACalls Try.prog 63 args.toArray H S := acalls mixed Try.func63 low63 hn h
/-- satchel/satchelref05.Above -/
def L42_0 : LCode :=
 (.seq
 (.reg [⟨0, .q .mv, [.tmp 0], (some 41), none, [], false⟩,
   ⟨1, .q .mv, [.tmp 6], (some 42), none, [], false⟩,
   ⟨2, .q (.iad 1), [.tmp 41, .tmp 42], (some 43), none, [], false⟩,
   ⟨3, .q .ld, [.tmp 43], (some 44), none, [], false⟩,
   ⟨4, .q (.bin .gtr), [.tmp 44, .const (.int .i64 0)], (some 45), none, [], false⟩])
 (.cond (.tmp 45)
  (.reg [⟨0, .q .mv, [.tmp 4], (some 46), none, [], false⟩,
    ⟨1, .q (.bin .add), [.tmp 46, .const (.int .i64 1)], (some 47), none, [], false⟩,
    ⟨2, .q .mv, [.tmp 47], (some 4), none, [], false⟩])
  .skip))
def L42_1 : LCode :=
 (.reg [⟨0, .q .mv, [.tmp 6], (some 27), none, [], false⟩,
   ⟨1, .q (.bin .add), [.tmp 27, .const (.int .i64 1)], (some 28), none, [], false⟩,
   ⟨2, .q .mv, [.tmp 28], (some 6), none, [], false⟩])
def L42_2 : LCode :=
 (.seq
 (.seq
 (.reg [⟨0, .q .mv, [.tmp 6], (some 23), none, [], false⟩,
   ⟨1, .q .mv, [.tmp 0], (some 24), none, [], false⟩,
   ⟨2, .q .len, [.tmp 24], (some 25), none, [], false⟩,
   ⟨3, .q (.bin .lss), [.tmp 23, .tmp 25], (some 26), none, [], false⟩])
 (.cond (.tmp 26)
  .skip
  (.exit 0)))
 (.seq
 (.block 1
  (.seq
  (.seq
  (.reg [⟨0, .q .mv, [.tmp 0], (some 29), none, [], false⟩,
    ⟨1, .q .mv, [.tmp 6], (some 30), none, [], false⟩,
    ⟨2, .q (.iad 1), [.tmp 29, .tmp 30], (some 31), none, [], false⟩,
    ⟨3, .q .ld, [.tmp 31], (some 32), none, [], false⟩,
    ⟨4, .q (.bin .lss), [.tmp 32, .const (.int .i64 0)], (some 33), none, [], false⟩,
    ⟨5, .q .mv, [.tmp 33], (some 34), none, [], false⟩,
    ⟨6, .q .mv, [.tmp 0], (some 35), (some (34, false)), [], false⟩,
    ⟨7, .q .mv, [.tmp 6], (some 36), (some (34, false)), [], false⟩,
    ⟨8, .q (.iad 1), [.tmp 35, .tmp 36], (some 37), (some (34, false)), [], false⟩,
    ⟨9, .q .ld, [.tmp 37], (some 38), (some (34, false)), [], false⟩,
    ⟨10, .q (.bin .gtr), [.tmp 38, .const (.int .i64 1099511627776)], (some 39), (some (34, false)), [], false⟩,
    ⟨11, .q .pick, [.tmp 34, .const (.bool true), .tmp 39], (some 40), none, [], false⟩])
  (.cond (.tmp 40)
   (.reg [⟨0, .q .mv, [.const (.bool false)], (some 5), none, [], false⟩])
   .skip))
  L42_0))
 L42_1))
def L42 : LFn :=
 ⟨50, [.t 4, .t 5],
 (.seq
 (.reg [⟨0, .q .mv, [.const (.int .i64 0)], (some 4), none, [], false⟩,
   ⟨1, .q .mv, [.const (.bool false)], (some 5), none, [], false⟩])
 (.seq
 (.reg [⟨0, .q .mv, [.tmp 0], (some 7), none, [], false⟩,
   ⟨1, .q .len, [.tmp 7], (some 8), none, [], false⟩,
   ⟨2, .q (.bin .geq), [.tmp 8, .const (.int .i64 1)], (some 9), none, [], false⟩,
   ⟨3, .q .mv, [.tmp 9], (some 10), none, [], false⟩,
   ⟨4, .q .mv, [.tmp 0], (some 11), (some (10, true)), [], false⟩,
   ⟨5, .q .len, [.tmp 11], (some 12), (some (10, true)), [], false⟩,
   ⟨6, .q (.bin .leq), [.tmp 12, .const (.int .i64 320)], (some 13), (some (10, true)), [], false⟩,
   ⟨7, .q .pick, [.tmp 10, .tmp 13, .const (.bool false)], (some 14), none, [], false⟩,
   ⟨8, .q .mv, [.tmp 14], (some 15), none, [], false⟩,
   ⟨9, .q .mv, [.tmp 1], (some 16), (some (15, true)), [], false⟩,
   ⟨10, .q (.bin .geq), [.tmp 16, .const (.int .i64 1)], (some 17), (some (15, true)), [], false⟩,
   ⟨11, .q .pick, [.tmp 15, .tmp 17, .const (.bool false)], (some 18), none, [], false⟩,
   ⟨12, .q .mv, [.tmp 18], (some 19), none, [], false⟩,
   ⟨13, .q .mv, [.tmp 1], (some 20), (some (19, true)), [], false⟩,
   ⟨14, .q (.bin .leq), [.tmp 20, .const (.int .i64 15)], (some 21), (some (19, true)), [], false⟩,
   ⟨15, .q .pick, [.tmp 19, .tmp 21, .const (.bool false)], (some 22), none, [], false⟩,
   ⟨16, .q .mv, [.tmp 22], (some 5), none, [], false⟩])
 (.seq
 (.seq
 (.reg [⟨0, .q .mv, [.const (.int .i64 0)], (some 6), none, [], false⟩])
 (.block 0
  (.loop L42_2)))
 (.seq
 (.reg [⟨0, .q .mv, [.tmp 4], (some 48), none, [], false⟩,
   ⟨1, .q .mv, [.tmp 5], (some 49), none, [], false⟩,
   ⟨2, .q .mv, [.tmp 48], (some 4), none, [], false⟩,
   ⟨3, .q .mv, [.tmp 49], (some 5), none, [], false⟩])
 .ret))))⟩
theorem low42 : lowFn Try.prog Try.f42 = some L42 := by kernel_rfl
theorem call42 {args : List Value} {H : Heap} {S : Ending → Heap → Prop} (hn : args.length ≤ L42.n) (h : awpC Try.prog L42.body (retQ L42.results S) (fun ch H => S (.panicked ch) H) (env0 args) H) : ACalls Try.prog 42 args.toArray H S := acalls mixed Try.func42 low42 hn h
/-- satchel/satchelref05.sorted -/
def L57_0 : LCode :=
 (.seq
 (.seq
 (.reg [⟨0, .q .mv, [.tmp 5], (some 16), none, [], false⟩,
   ⟨1, .q (.bin .gtr), [.tmp 16, .const (.int .i64 0)], (some 17), none, [], false⟩,
   ⟨2, .q .mv, [.tmp 17], (some 18), none, [], false⟩,
   ⟨3, .q .mv, [.tmp 3], (some 19), (some (18, true)), [], false⟩,
   ⟨4, .q .mv, [.tmp 5], (some 20), (some (18, true)), [], false⟩,
   ⟨5, .q (.bin .sub), [.tmp 20, .const (.int .i64 1)], (some 21), (some (18, true)), [], false⟩,
   ⟨6, .q (.iad 2), [.tmp 19, .tmp 21], (some 22), (some (18, true)), [], false⟩,
   ⟨7, .q (.fad 0), [.tmp 22], (some 23), (some (18, true)), [], false⟩,
   ⟨8, .q .ld, [.tmp 23], (some 24), (some (18, true)), [], false⟩,
   ⟨9, .q .mv, [.tmp 0], (some 25), (some (18, true)), [], false⟩,
   ⟨10, .q .mv, [.tmp 4], (some 26), (some (18, true)), [], false⟩,
   ⟨11, .q (.iad 2), [.tmp 25, .tmp 26], (some 27), (some (18, true)), [], false⟩,
   ⟨12, .q (.fad 0), [.tmp 27], (some 28), (some (18, true)), [], false⟩,
   ⟨13, .q .ld, [.tmp 28], (some 29), (some (18, true)), [], false⟩,
   ⟨14, .q (.bin .gtr), [.tmp 24, .tmp 29], (some 30), (some (18, true)), [], false⟩,
   ⟨15, .q .pick, [.tmp 18, .tmp 30, .const (.bool false)], (some 31), none, [], false⟩])
 (.cond (.tmp 31)
  .skip
  (.exit 2)))
 (.block 3
  (.reg [⟨0, .q .mv, [.tmp 5], (some 32), none, [], false⟩,
    ⟨1, .q (.bin .sub), [.tmp 32, .const (.int .i64 1)], (some 33), none, [], false⟩,
    ⟨2, .q .mv, [.tmp 33], (some 5), none, [], false⟩])))
def L57_1 : LCode :=
 (.seq
 (.seq
 (.reg [⟨0, .q .mv, [.tmp 4], (some 8), none, [], false⟩,
   ⟨1, .q .mv, [.tmp 0], (some 9), none, [], false⟩,
   ⟨2, .q .len, [.tmp 9], (some 10), none, [], false⟩,
   ⟨3, .q (.bin .lss), [.tmp 8, .tmp 10], (some 11), none, [], false⟩])
 (.cond (.tmp 11)
  .skip
  (.exit 0)))
 (.seq
 (.block 1
  (.seq
  (.reg [⟨0, .q .mv, [.tmp 3], (some 14), none, [], false⟩,
    ⟨1, .q .len, [.tmp 14], (some 15), none, [], false⟩,
    ⟨2, .q .mv, [.tmp 15], (some 5), none, [], false⟩])
  (.seq
  (.block 2
   (.loop L57_0))
  (.seq
  (.reg [⟨0, .e (.lits 107 #[] 0 []), [], (some 34), none, [], false⟩,
    ⟨1, .q .mv, [.tmp 3], (some 35), none, [], false⟩,
    ⟨2, .q .mv, [.tmp 5], (some 36), none, [], false⟩,
    ⟨3, .q (.slc 2 false true false), [.tmp 35, .tmp 36], (some 37), none, [], false⟩,
    ⟨4, .e (.app 107 2 32 #[(.int .i64 0), (.slice none 0 0)]), [.tmp 34, .tmp 37], (some 38), none, [], false⟩,
    ⟨5, .q .mv, [.tmp 38], (some 6), none, [], false⟩])
  (.seq
  (.reg [⟨0, .q .mv, [.tmp 6], (some 39), none, [], false⟩,
    ⟨1, .q .mv, [.tmp 0], (some 40), none, [], false⟩,
    ⟨2, .q .mv, [.tmp 4], (some 41), none, [], false⟩,
    ⟨3, .q (.iad 2), [.tmp 40, .tmp 41], (some 42), none, [], false⟩,
    ⟨4, .q (.ldn 2), [.tmp 42], (some 43), none, [], false⟩,
    ⟨5, .e (.lits 107 #[(.int .i64 0), (.slice none 0 0)] 1 [(0, 2)]), [.tmp 43], (some 44), none, [], false⟩,
    ⟨6, .e (.app 107 2 32 #[(.int .i64 0), (.slice none 0 0)]), [.tmp 39, .tmp 44], (some 45), none, [], false⟩,
    ⟨7, .q .mv, [.tmp 45], (some 6), none, [], false⟩])
  (.reg [⟨0, .q .mv, [.tmp 6], (some 46), none, [], false⟩,
    ⟨1, .q .mv, [.tmp 3], (some 47), none, [], false⟩,
    ⟨2, .q .mv, [.tmp 5], (some 48), none, [], false⟩,
    ⟨3, .q (.slc 2 true false false), [.tmp 47, .tmp 48], (some 49), none, [], false⟩,
    ⟨4, .e (.app 107 2 32 #[(.int .i64 0), (.slice none 0 0)]), [.tmp 46, .tmp 49], (some 50), none, [], false⟩,
    ⟨5, .q .mv, [.tmp 50], (some 3), none, [], false⟩]))))))
 (.reg [⟨0, .q .mv, [.tmp 4], (some 12), none, [], false⟩,
   ⟨1, .q (.bin .add), [.tmp 12, .const (.int .i64 1)], (some 13), none, [], false⟩,
   ⟨2, .q .mv, [.tmp 13], (some 4), none, [], false⟩])))
def L57_2 : LCode :=
 (.seq
 (.reg [⟨0, .q .mv, [.tmp 3], (some 51), none, [], false⟩,
   ⟨1, .q .mv, [.tmp 51], (some 2), none, [], false⟩])
 .ret)
def L57 : LFn :=
 ⟨52, [.t 2],
 (.seq
 (.reg [⟨0, .q .mv, [.const (.slice none 0 0)], (some 2), none, [], false⟩])
 (.seq
 (.reg [⟨0, .e (.lits 107 #[] 0 []), [], (some 7), none, [], false⟩,
   ⟨1, .q .mv, [.tmp 7], (some 3), none, [], false⟩])
 (.seq
 (.seq
 (.reg [⟨0, .q .mv, [.const (.int .i64 0)], (some 4), none, [], false⟩])
 (.block 0
  (.loop L57_1)))
 L57_2)))⟩
theorem low57 : lowFn Try.prog Try.f57 = some L57 := by kernel_rfl
theorem call57 {args : List Value} {H : Heap} {S : Ending → Heap → Prop} (hn : args.length ≤ L57.n) (h : awpC Try.prog L57.body (retQ L57.results S) (fun ch H => S (.panicked ch) H) (env0 args) H) : ACalls Try.prog 57 args.toArray H S := acalls mixed Try.func57 low57 hn h
end Go.Proofs.Ytfdcolicpfellaa.Low
