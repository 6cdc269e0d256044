/-
  Functions in short (out of the program's form in Lean, by the kernel).
-/
import Derived.Test.YthflafgijfbpnaaDoorSepDfr
import Derived.Test.YthflafgijfbpnaaDoorProg
namespace Go.Proofs.YthflafgijfbpnaaDoor.Low
open Go Go.Proofs.YthflafgijfbpnaaDoor.Sep
theorem mixed : Tryd.prog.follows .mixedOrders = true := by kernel_rfl
/-- strconv.FormatInt -/
def L46 : LFn :=
 ⟨8, [.t 4],
 (.seq
 (.reg [⟨0, .q .mv, [.const (.string ⟨#[]⟩)], (some 4), none, [], false⟩])
 (.seq
 (.reg [⟨0, .q .mv, [.tmp 0], (some 5), none, [], false⟩,
   ⟨1, .q .mv, [.tmp 1], (some 6), none, [], false⟩,
   ⟨2, .e (.call 58), [.tmp 5, .tmp 6], (some 7), none, [], false⟩,
   ⟨3, .q .mv, [.tmp 7], (some 4), none, [], false⟩])
 .ret))⟩
theorem low46 : lowFn Tryd.prog Tryd.f46 = some L46 := by kernel_rfl
theorem call46 {args : List Value} {H : Heap} {S : Ending → Heap → Prop} (hn : args.length ≤ L46.n) (h : awpC Tryd.prog L46.body (retQ L46.results S) (fun ch H => S (.panicked ch) H) (env0 args) H) : ACalls Tryd.prog 46 args.toArray H S := acalls mixed Tryd.func46 low46 hn h
/-- internal/strconv.FormatInt -/
def L58_0 : LCode :=
 (.seq
 (.reg [⟨0, .q .mv, [.tmp 6], (some 26), none, [], false⟩,
   ⟨1, .e (.call 55), [.tmp 26], (some 27), none, [], false⟩,
   ⟨2, .q .mv, [.tmp 27], (some 7), none, [], false⟩])
 (.seq
 (.reg [⟨0, .q .mv, [.tmp 7], (some 28), none, [], false⟩,
   ⟨1, .q (.bin .add), [.const (.int .i64 1), .tmp 28], (some 29), none, [], false⟩,
   ⟨2, .q (.sla 24 1 true true), [.tmp 5, .const (.int .i64 1), .tmp 29], (some 30), none, [], false⟩,
   ⟨3, .q .mv, [.tmp 6], (some 31), none, [], false⟩,
   ⟨4, .e (.call 56), [.tmp 30, .tmp 31], (some 32), none, [], false⟩])
 (.seq
 (.seq
 (.reg [⟨0, .q .mv, [.tmp 0], (some 33), none, [], false⟩,
   ⟨1, .q (.bin .lss), [.tmp 33, .const (.int .i64 0)], (some 34), none, [], false⟩])
 (.cond (.tmp 34)
  (.seq
  (.reg [⟨0, .q (.iada 24 1), [.tmp 5, .const (.int .i64 0)], (some 35), none, [], false⟩,
    ⟨1, .e (.st 1), [.tmp 35, .const (.int .u8 45)], none, none, [], false⟩])
  (.seq
  (.reg [⟨0, .q .mv, [.tmp 7], (some 36), none, [], false⟩,
    ⟨1, .q (.bin .add), [.const (.int .i64 1), .tmp 36], (some 37), none, [], false⟩,
    ⟨2, .q (.sla 24 1 false true), [.tmp 5, .tmp 37], (some 38), none, [], false⟩,
    ⟨3, .q .b2s, [.tmp 38], (some 39), none, [], false⟩,
    ⟨4, .q .mv, [.tmp 39], (some 4), none, [], false⟩])
  .ret))
  .skip))
 (.seq
 (.reg [⟨0, .q .mv, [.tmp 7], (some 40), none, [], false⟩,
   ⟨1, .q (.bin .add), [.const (.int .i64 1), .tmp 40], (some 41), none, [], false⟩,
   ⟨2, .q (.sla 24 1 true true), [.tmp 5, .const (.int .i64 1), .tmp 41], (some 42), none, [], false⟩,
   ⟨3, .q .b2s, [.tmp 42], (some 43), none, [], false⟩,
   ⟨4, .q .mv, [.tmp 43], (some 4), none, [], false⟩])
 .ret))))
def L58 : LFn :=
 ⟨54, [.t 4],
 (.seq
 (.reg [⟨0, .q .mv, [.const (.string ⟨#[]⟩)], (some 4), none, [], false⟩])
 (.seq
 (.seq
 (.reg [⟨0, .q .mv, [.tmp 1], (some 10), none, [], false⟩,
   ⟨1, .q (.bin .eql), [.tmp 10, .const (.int .i64 10)], (some 11), none, [], false⟩])
 (.cond (.tmp 11)
  (.seq
  (.seq
  (.reg [⟨0, .q .mv, [.tmp 0], (some 12), none, [], false⟩,
    ⟨1, .q (.bin .leq), [.const (.int .i64 0), .tmp 12], (some 13), none, [], false⟩,
    ⟨2, .q .mv, [.tmp 13], (some 14), none, [], false⟩,
    ⟨3, .q .mv, [.tmp 0], (some 15), (some (14, true)), [], false⟩,
    ⟨4, .q (.bin .lss), [.tmp 15, .const (.int .i64 100)], (some 16), (some (14, true)), [], false⟩,
    ⟨5, .q .pick, [.tmp 14, .tmp 16, .const (.bool false)], (some 17), none, [], false⟩])
  (.cond (.tmp 17)
   (.seq
   (.reg [⟨0, .q .mv, [.tmp 0], (some 18), none, [], false⟩,
     ⟨1, .e (.call 54), [.tmp 18], (some 19), none, [], false⟩,
     ⟨2, .q .mv, [.tmp 19], (some 4), none, [], false⟩])
   .ret)
   .skip))
  (.seq
  (.reg [⟨0, .e (.new (Array.replicate 24 (.int .u8 0)) 72), [], (some 5), none, [], false⟩])
  (.seq
  (.reg [⟨0, .q .mv, [.tmp 0], (some 20), none, [], false⟩,
    ⟨1, .q (.cvi .u64), [.tmp 20], (some 21), none, [], false⟩,
    ⟨2, .q .mv, [.tmp 21], (some 6), none, [], false⟩])
  (.seq
  (.seq
  (.reg [⟨0, .q .mv, [.tmp 0], (some 22), none, [], false⟩,
    ⟨1, .q (.bin .lss), [.tmp 22, .const (.int .i64 0)], (some 23), none, [], false⟩])
  (.cond (.tmp 23)
   (.reg [⟨0, .q .mv, [.tmp 6], (some 24), none, [], false⟩,
     ⟨1, .q (.un .neg), [.tmp 24], (some 25), none, [], false⟩,
     ⟨2, .q .mv, [.tmp 25], (some 6), none, [], false⟩])
   .skip))
  L58_0))))
  .skip))
 (.seq
 (.reg [⟨0, .q .mv, [.tmp 0], (some 45), none, [], false⟩,
   ⟨1, .q (.cvi .u64), [.tmp 45], (some 46), none, [], false⟩,
   ⟨2, .q .mv, [.tmp 1], (some 47), none, [], false⟩,
   ⟨3, .q .mv, [.tmp 0], (some 48), none, [], false⟩,
   ⟨4, .q (.bin .lss), [.tmp 48, .const (.int .i64 0)], (some 49), none, [], false⟩,
   ⟨5, .e (.call 57), [.const (.slice none 0 0), .tmp 46, .tmp 47, .tmp 49, .const (.bool false)], (some 50), none, [], false⟩,
   ⟨6, .q .mv, [.tmp 50], (some 44), none, [], false⟩,
   ⟨7, .q (.ext 0), [.tmp 44], (some 51), none, [], false⟩,
   ⟨8, .q (.ext 1), [.tmp 44], (some 52), none, [], false⟩,
   ⟨9, .q .mv, [.tmp 51], (some 8), none, [], false⟩,
   ⟨10, .q .mv, [.tmp 52], (some 9), none, [], false⟩])
 (.seq
 (.reg [⟨0, .q .mv, [.tmp 9], (some 53), none, [], false⟩,
   ⟨1, .q .mv, [.tmp 53], (some 4), none, [], false⟩])
 .ret))))⟩
theorem low58 : lowFn Tryd.prog Tryd.f58 = some L58 := by kernel_rfl
theorem call58 {args : List Value} {H : Heap} {S : Ending → Heap → Prop} (hn : args.length ≤ L58.n) (h : awpC Tryd.prog L58.body (retQ L58.results S) (fun ch H => S (.panicked ch) H) (env0 args) H) : ACalls Tryd.prog 58 args.toArray H S := acalls mixed Tryd.func58 low58 hn h
/-- internal/strconv.formatBits -/
def L57_0 : LCode :=
 (.seq
 (.seq
 (.reg [⟨0, .q .mv, [.tmp 1], (some 44), none, [], false⟩,
   ⟨1, .q .mv, [.tmp 15], (some 45), none, [], false⟩,
   ⟨2, .q (.bin .geq), [.tmp 44, .tmp 45], (some 46), none, [], false⟩])
 (.cond (.tmp 46)
  .skip
  (.exit 0)))
 (.block 1
  (.seq
  (.reg [⟨0, .q .mv, [.tmp 13], (some 47), none, [], false⟩,
    ⟨1, .q (.bin .sub), [.tmp 47, .const (.int .i64 1)], (some 48), none, [], false⟩,
    ⟨2, .q .mv, [.tmp 48], (some 13), none, [], false⟩])
  (.seq
  (.reg [⟨0, .q .mv, [.tmp 13], (some 49), none, [], false⟩,
    ⟨1, .q .mv, [.tmp 1], (some 50), none, [], false⟩,
    ⟨2, .q .mv, [.tmp 16], (some 51), none, [], false⟩,
    ⟨3, .q (.bin .and), [.tmp 50, .tmp 51], (some 52), none, [], false⟩,
    ⟨4, .q .ixs, [.const (.string ⟨#[48, 49, 50, 51, 52, 53, 54, 55, 56, 57, 97, 98, 99, 100, 101, 102, 103, 104, 105, 106, 107, 108, 109, 110, 111, 112, 113, 114, 115, 116, 117, 118, 119, 120, 121, 122]⟩), .tmp 52], (some 53), none, [], false⟩,
    ⟨5, .q (.iada 65 1), [.tmp 12, .tmp 49], (some 54), none, [], false⟩,
    ⟨6, .e (.st 1), [.tmp 54, .tmp 53], none, none, [], false⟩])
  (.reg [⟨0, .q .mv, [.tmp 1], (some 55), none, [], false⟩,
    ⟨1, .q .mv, [.tmp 14], (some 56), none, [], false⟩,
    ⟨2, .q (.bin .shr), [.tmp 55, .tmp 56], (some 57), none, [], false⟩,
    ⟨3, .q .mv, [.tmp 57], (some 1), none, [], false⟩])))))
def L57_1 : LCode :=
 (.seq
 (.seq
 (.reg [⟨0, .q .mv, [.tmp 1], (some 66), none, [], false⟩,
   ⟨1, .q .mv, [.tmp 17], (some 67), none, [], false⟩,
   ⟨2, .q (.bin .geq), [.tmp 66, .tmp 67], (some 68), none, [], false⟩])
 (.cond (.tmp 68)
  .skip
  (.exit 2)))
 (.block 3
  (.seq
  (.reg [⟨0, .q .mv, [.tmp 13], (some 69), none, [], false⟩,
    ⟨1, .q (.bin .sub), [.tmp 69, .const (.int .i64 1)], (some 70), none, [], false⟩,
    ⟨2, .q .mv, [.tmp 70], (some 13), none, [], false⟩])
  (.seq
  (.reg [⟨0, .q .mv, [.tmp 1], (some 71), none, [], false⟩,
    ⟨1, .q .mv, [.tmp 17], (some 72), none, [], false⟩,
    ⟨2, .q (.bin .quo), [.tmp 71, .tmp 72], (some 73), none, [], false⟩,
    ⟨3, .q .mv, [.tmp 73], (some 18), none, [], false⟩])
  (.seq
  (.reg [⟨0, .q .mv, [.tmp 13], (some 74), none, [], false⟩,
    ⟨1, .q .mv, [.tmp 1], (some 75), none, [], false⟩,
    ⟨2, .q .mv, [.tmp 18], (some 76), none, [], false⟩,
    ⟨3, .q .mv, [.tmp 17], (some 77), none, [], false⟩,
    ⟨4, .q (.bin .mul), [.tmp 76, .tmp 77], (some 78), none, [], false⟩,
    ⟨5, .q (.bin .sub), [.tmp 75, .tmp 78], (some 79), none, [], false⟩,
    ⟨6, .q .ixs, [.const (.string ⟨#[48, 49, 50, 51, 52, 53, 54, 55, 56, 57, 97, 98, 99, 100, 101, 102, 103, 104, 105, 106, 107, 108, 109, 110, 111, 112, 113, 114, 115, 116, 117, 118, 119, 120, 121, 122]⟩), .tmp 79], (some 80), none, [], false⟩,
    ⟨7, .q (.iada 65 1), [.tmp 12, .tmp 74], (some 81), none, [], false⟩,
    ⟨8, .e (.st 1), [.tmp 81, .tmp 80], none, none, [], false⟩])
  (.reg [⟨0, .q .mv, [.tmp 18], (some 82), none, [], false⟩,
    ⟨1, .q .mv, [.tmp 82], (some 1), none, [], false⟩]))))))
def L57_2 : LCode :=
 (.seq
 (.seq
 (.reg [⟨0, .q .mv, [.tmp 4], (some 94), none, [], false⟩])
 (.cond (.tmp 94)
  (.seq
  (.reg [⟨0, .q .mv, [.tmp 0], (some 95), none, [], false⟩,
    ⟨1, .q .mv, [.tmp 13], (some 96), none, [], false⟩,
    ⟨2, .q (.sla 65 1 true false), [.tmp 12, .tmp 96], (some 97), none, [], false⟩,
    ⟨3, .e (.app 5 1 1 #[(.int .u8 0)]), [.tmp 95, .tmp 97], (some 98), none, [], false⟩,
    ⟨4, .q .mv, [.tmp 98], (some 10), none, [], false⟩])
  .ret)
  .skip))
 (.seq
 (.reg [⟨0, .q .mv, [.tmp 13], (some 99), none, [], false⟩,
   ⟨1, .q (.sla 65 1 true false), [.tmp 12, .tmp 99], (some 100), none, [], false⟩,
   ⟨2, .q .b2s, [.tmp 100], (some 101), none, [], false⟩,
   ⟨3, .q .mv, [.tmp 101], (some 11), none, [], false⟩])
 .ret))
def L57_3 : LCode :=
 (.seq
 (.seq
 (.reg [⟨0, .q .mv, [.tmp 3], (some 89), none, [], false⟩])
 (.cond (.tmp 89)
  (.seq
  (.reg [⟨0, .q .mv, [.tmp 13], (some 90), none, [], false⟩,
    ⟨1, .q (.bin .sub), [.tmp 90, .const (.int .i64 1)], (some 91), none, [], false⟩,
    ⟨2, .q .mv, [.tmp 91], (some 13), none, [], false⟩])
  (.reg [⟨0, .q .mv, [.tmp 13], (some 92), none, [], false⟩,
    ⟨1, .q (.iada 65 1), [.tmp 12, .tmp 92], (some 93), none, [], false⟩,
    ⟨2, .e (.st 1), [.tmp 93, .const (.int .u8 45)], none, none, [], false⟩]))
  .skip))
 L57_2)
def L57_4 : LCode :=
 (.seq
 (.seq
 (.reg [⟨0, .q .mv, [.tmp 2], (some 33), none, [], false⟩,
   ⟨1, .e (.call 71), [.tmp 33], (some 34), none, [], false⟩])
 (.cond (.tmp 34)
  (.seq
  (.reg [⟨0, .q .mv, [.tmp 2], (some 35), none, [], false⟩,
    ⟨1, .q (.cvi .u64), [.tmp 35], (some 36), none, [], false⟩,
    ⟨2, .e (.call 72), [.tmp 36], (some 37), none, [], false⟩,
    ⟨3, .q (.cvi .u64), [.tmp 37], (some 38), none, [], false⟩,
    ⟨4, .q .mv, [.tmp 38], (some 14), none, [], false⟩])
  (.seq
  (.reg [⟨0, .q .mv, [.tmp 2], (some 39), none, [], false⟩,
    ⟨1, .q (.cvi .u64), [.tmp 39], (some 40), none, [], false⟩,
    ⟨2, .q .mv, [.tmp 40], (some 15), none, [], false⟩])
  (.seq
  (.reg [⟨0, .q .mv, [.tmp 2], (some 41), none, [], false⟩,
    ⟨1, .q (.cvi .u64), [.tmp 41], (some 42), none, [], false⟩,
    ⟨2, .q (.bin .sub), [.tmp 42, .const (.int .u64 1)], (some 43), none, [], false⟩,
    ⟨3, .q .mv, [.tmp 43], (some 16), none, [], false⟩])
  (.seq
  (.block 0
   (.loop L57_0))
  (.seq
  (.reg [⟨0, .q .mv, [.tmp 13], (some 58), none, [], false⟩,
    ⟨1, .q (.bin .sub), [.tmp 58, .const (.int .i64 1)], (some 59), none, [], false⟩,
    ⟨2, .q .mv, [.tmp 59], (some 13), none, [], false⟩])
  (.reg [⟨0, .q .mv, [.tmp 13], (some 60), none, [], false⟩,
    ⟨1, .q .mv, [.tmp 1], (some 61), none, [], false⟩,
    ⟨2, .q .ixs, [.const (.string ⟨#[48, 49, 50, 51, 52, 53, 54, 55, 56, 57, 97, 98, 99, 100, 101, 102, 103, 104, 105, 106, 107, 108, 109, 110, 111, 112, 113, 114, 115, 116, 117, 118, 119, 120, 121, 122]⟩), .tmp 61], (some 62), none, [], false⟩,
    ⟨3, .q (.iada 65 1), [.tmp 12, .tmp 60], (some 63), none, [], false⟩,
    ⟨4, .e (.st 1), [.tmp 63, .tmp 62], none, none, [], false⟩]))))))
  (.seq
  (.reg [⟨0, .q .mv, [.tmp 2], (some 64), none, [], false⟩,
    ⟨1, .q (.cvi .u64), [.tmp 64], (some 65), none, [], false⟩,
    ⟨2, .q .mv, [.tmp 65], (some 17), none, [], false⟩])
  (.seq
  (.block 2
   (.loop L57_1))
  (.seq
  (.reg [⟨0, .q .mv, [.tmp 13], (some 83), none, [], false⟩,
    ⟨1, .q (.bin .sub), [.tmp 83, .const (.int .i64 1)], (some 84), none, [], false⟩,
    ⟨2, .q .mv, [.tmp 84], (some 13), none, [], false⟩])
  (.reg [⟨0, .q .mv, [.tmp 13], (some 85), none, [], false⟩,
    ⟨1, .q .mv, [.tmp 1], (some 86), none, [], false⟩,
    ⟨2, .q .ixs, [.const (.string ⟨#[48, 49, 50, 51, 52, 53, 54, 55, 56, 57, 97, 98, 99, 100, 101, 102, 103, 104, 105, 106, 107, 108, 109, 110, 111, 112, 113, 114, 115, 116, 117, 118, 119, 120, 121, 122]⟩), .tmp 86], (some 87), none, [], false⟩,
    ⟨3, .q (.iada 65 1), [.tmp 12, .tmp 85], (some 88), none, [], false⟩,
    ⟨4, .e (.st 1), [.tmp 88, .tmp 87], none, none, [], false⟩]))))))
 L57_3)
def L57_5 : LCode :=
 (.seq
 (.reg [⟨0, .e (.new (Array.replicate 65 (.int .u8 0)) 102), [], (some 12), none, [], false⟩])
 (.seq
 (.reg [⟨0, .q .mv, [.const (.int .i64 65)], (some 13), none, [], false⟩])
 (.seq
 (.seq
 (.reg [⟨0, .q .mv, [.tmp 3], (some 30), none, [], false⟩])
 (.cond (.tmp 30)
  (.reg [⟨0, .q .mv, [.tmp 1], (some 31), none, [], false⟩,
    ⟨1, .q (.un .neg), [.tmp 31], (some 32), none, [], false⟩,
    ⟨2, .q .mv, [.tmp 32], (some 1), none, [], false⟩])
  .skip))
 L57_4)))
def L57 : LFn :=
 ⟨102, [.t 10, .t 11],
 (.seq
 (.reg [⟨0, .q .mv, [.const (.slice none 0 0)], (some 10), none, [], false⟩,
   ⟨1, .q .mv, [.const (.string ⟨#[]⟩)], (some 11), none, [], false⟩])
 (.seq
 (.seq
 (.reg [⟨0, .q .mv, [.tmp 2], (some 19), none, [], false⟩,
   ⟨1, .q (.bin .lss), [.tmp 19, .const (.int .i64 2)], (some 20), none, [], false⟩,
   ⟨2, .q .mv, [.tmp 20], (some 21), none, [], false⟩,
   ⟨3, .q .mv, [.tmp 2], (some 22), (some (21, false)), [], false⟩,
   ⟨4, .q (.bin .eql), [.tmp 22, .const (.int .i64 10)], (some 23), (some (21, false)), [], false⟩,
   ⟨5, .q .pick, [.tmp 21, .const (.bool true), .tmp 23], (some 24), none, [], false⟩,
   ⟨6, .q .mv, [.tmp 24], (some 25), none, [], false⟩,
   ⟨7, .q .mv, [.tmp 2], (some 26), (some (25, false)), [], false⟩,
   ⟨8, .q (.bin .gtr), [.tmp 26, .const (.int .i64 36)], (some 27), (some (25, false)), [], false⟩,
   ⟨9, .q .pick, [.tmp 25, .const (.bool true), .tmp 27], (some 28), none, [], false⟩])
 (.cond (.tmp 28)
  (.reg [⟨0, .q (.mki 9), [.const (.string ⟨#[115, 116, 114, 99, 111, 110, 118, 58, 32, 105, 108, 108, 101, 103, 97, 108, 32, 65, 112, 112, 101, 110, 100, 73, 110, 116, 47, 70, 111, 114, 109, 97, 116, 73, 110, 116, 32, 98, 97, 115, 101]⟩)], (some 29), none, [], false⟩,
    ⟨1, .e .pan, [.tmp 29], none, none, [], false⟩])
  .skip))
 L57_5))⟩
theorem low57 : lowFn Tryd.prog Tryd.f57 = some L57 := by kernel_rfl
theorem call57 {args : List Value} {H : Heap} {S : Ending → Heap → Prop} (hn : args.length ≤ L57.n) (h : awpC Tryd.prog L57.body (retQ L57.results S) (fun ch H => S (.panicked ch) H) (env0 args) H) : ACalls Tryd.prog 57 args.toArray H S := acalls mixed Tryd.func57 low57 hn h
/-- internal/strconv.isPowerOfTwo -/
def L71 : LFn :=
 ⟨8, [.t 2],
 (.seq
 (.reg [⟨0, .q .mv, [.const (.bool false)], (some 2), none, [], false⟩])
 (.seq
 (.reg [⟨0, .q .mv, [.tmp 0], (some 3), none, [], false⟩,
   ⟨1, .q .mv, [.tmp 0], (some 4), none, [], false⟩,
   ⟨2, .q (.bin .sub), [.tmp 4, .const (.int .i64 1)], (some 5), none, [], false⟩,
   ⟨3, .q (.bin .and), [.tmp 3, .tmp 5], (some 6), none, [], false⟩,
   ⟨4, .q (.bin .eql), [.tmp 6, .const (.int .i64 0)], (some 7), none, [], false⟩,
   ⟨5, .q .mv, [.tmp 7], (some 2), none, [], false⟩])
 .ret))⟩
theorem low71 : lowFn Tryd.prog Tryd.f71 = some L71 := by kernel_rfl
theorem call71 {args : List Value} {H : Heap} {S : Ending → Heap → Prop} (hn : args.length ≤ L71.n) (h : awpC Tryd.prog L71.body (retQ L71.results S) (fun ch H => S (.panicked ch) H) (env0 args) H) : ACalls Tryd.prog 71 args.toArray H S := acalls mixed Tryd.func71 low71 hn h
/-- math/bits.TrailingZeros -/
def L72 : LFn :=
 ⟨8, [.t 2],
 (.seq
 (.reg [⟨0, .q .mv, [.const (.int .i64 0)], (some 2), none, [], false⟩])
 (.seq
 (.cond (.const (.bool false))
  (.seq
  (.reg [⟨0, .q .mv, [.tmp 0], (some 3), none, [], false⟩,
    ⟨1, .q (.cvi .u32), [.tmp 3], (some 4), none, [], false⟩,
    ⟨2, .e (.call 85), [.tmp 4], (some 5), none, [], false⟩,
    ⟨3, .q .mv, [.tmp 5], (some 2), none, [], false⟩])
  .ret)
  .skip)
 (.seq
 (.reg [⟨0, .q .mv, [.tmp 0], (some 6), none, [], false⟩,
   ⟨1, .e (.call 86), [.tmp 6], (some 7), none, [], false⟩,
   ⟨2, .q .mv, [.tmp 7], (some 2), none, [], false⟩])
 .ret)))⟩
theorem low72 : lowFn Tryd.prog Tryd.f72 = some L72 := by kernel_rfl
theorem call72 {args : List Value} {H : Heap} {S : Ending → Heap → Prop} (hn : args.length ≤ L72.n) (h : awpC Tryd.prog L72.body (retQ L72.results S) (fun ch H => S (.panicked ch) H) (env0 args) H) : ACalls Tryd.prog 72 args.toArray H S := acalls mixed Tryd.func72 low72 hn h
/-- math/bits.TrailingZeros64 -/
def L86 : LFn :=
 ⟨14, [.t 2],
 (.seq
 (.reg [⟨0, .q .mv, [.const (.int .i64 0)], (some 2), none, [], false⟩])
 (.seq
 (.seq
 (.reg [⟨0, .q .mv, [.tmp 0], (some 3), none, [], false⟩,
   ⟨1, .q (.bin .eql), [.tmp 3, .const (.int .u64 0)], (some 4), none, [], false⟩])
 (.cond (.tmp 4)
  (.seq
  (.reg [⟨0, .q .mv, [.const (.int .i64 64)], (some 2), none, [], false⟩])
  .ret)
  .skip))
 (.seq
 (.reg [⟨0, .q .mv, [.tmp 0], (some 5), none, [], false⟩,
   ⟨1, .q .mv, [.tmp 0], (some 6), none, [], false⟩,
   ⟨2, .q (.un .neg), [.tmp 6], (some 7), none, [], false⟩,
   ⟨3, .q (.bin .and), [.tmp 5, .tmp 7], (some 8), none, [], false⟩,
   ⟨4, .q (.bin .mul), [.tmp 8, .const (.int .u64 285870213051353865)], (some 9), none, [], false⟩,
   ⟨5, .q (.bin .shr), [.tmp 9, .const (.int .u64 58)], (some 10), none, [], false⟩,
   ⟨6, .q (.iada 64 1), [.global 2, .tmp 10], (some 11), none, [], false⟩,
   ⟨7, .q .ld, [.tmp 11], (some 12), none, [], false⟩,
   ⟨8, .q (.cvi .i64), [.tmp 12], (some 13), none, [], false⟩,
   ⟨9, .q .mv, [.tmp 13], (some 2), none, [], false⟩])
 .ret)))⟩
theorem low86 : lowFn Tryd.prog Tryd.f86 = some L86 := by kernel_rfl
theorem call86 {args : List Value} {H : Heap} {S : Ending → Heap → Prop} (hn : args.length ≤ L86.n) (h : awpC Tryd.prog L86.body (retQ L86.results S) (fun ch H => S (.panicked ch) H) (env0 args) H) : ACalls Tryd.prog 86 args.toArray H S := acalls mixed Tryd.func86 low86 hn h
end Go.Proofs.YthflafgijfbpnaaDoor.Low
