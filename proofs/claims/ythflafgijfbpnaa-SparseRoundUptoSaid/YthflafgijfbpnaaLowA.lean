/-
  Functions in short (out of the program's form in Lean, by the kernel).
-/
import Derived.Test.YthflafgijfbpnaaSepCode
import Derived.Test.YthflafgijfbpnaaProg
namespace Go.Proofs.Ythflafgijfbpnaa.Low
open Go Go.Proofs.Ythflafgijfbpnaa.Sep
theorem mixed : Try.prog.follows .mixedOrders = true := by kernel_rfl
/-- satchel/sparse.Find -/
def L6_0 : LCode :=
 (.seq
 (.seq
 (.reg [⟨0, .q .mv, [.tmp 7], (some 22), none, [], false⟩,
   ⟨1, .q .mv, [.tmp 8], (some 23), none, [], false⟩,
   ⟨2, .q (.bin .add), [.tmp 22, .tmp 23], (some 24), none, [], false⟩,
   ⟨3, .q .mv, [.tmp 0], (some 25), none, [], false⟩,
   ⟨4, .q .len, [.tmp 25], (some 26), none, [], false⟩,
   ⟨5, .q (.bin .lss), [.tmp 24, .tmp 26], (some 27), none, [], false⟩,
   ⟨6, .q .mv, [.tmp 27], (some 28), none, [], false⟩,
   ⟨7, .q .mv, [.tmp 0], (some 29), (some (28, true)), [], false⟩,
   ⟨8, .q .mv, [.tmp 7], (some 30), (some (28, true)), [], false⟩,
   ⟨9, .q .mv, [.tmp 8], (some 31), (some (28, true)), [], false⟩,
   ⟨10, .q (.bin .add), [.tmp 30, .tmp 31], (some 32), (some (28, true)), [], false⟩,
   ⟨11, .q (.iad 1), [.tmp 29, .tmp 32], (some 33), (some (28, true)), [], false⟩,
   ⟨12, .q .ld, [.tmp 33], (some 34), (some (28, true)), [], false⟩,
   ⟨13, .q (.bin .eql), [.tmp 34, .const (.int .u8 0)], (some 35), (some (28, true)), [], false⟩,
   ⟨14, .q .pick, [.tmp 28, .tmp 35, .const (.bool false)], (some 36), none, [], false⟩])
 (.cond (.tmp 36)
  .skip
  (.exit 2)))
 (.block 3
  (.reg [⟨0, .q .mv, [.tmp 8], (some 37), none, [], false⟩,
    ⟨1, .q (.bin .add), [.tmp 37, .const (.int .i64 1)], (some 38), none, [], false⟩,
    ⟨2, .q .mv, [.tmp 38], (some 8), none, [], false⟩])))
def L6_1 : LCode :=
 (.reg [⟨0, .q .mv, [.tmp 7], (some 51), none, [], false⟩,
   ⟨1, .q .mv, [.tmp 8], (some 52), none, [], false⟩,
   ⟨2, .q (.bin .add), [.tmp 51, .tmp 52], (some 53), none, [], false⟩,
   ⟨3, .q .mv, [.tmp 53], (some 6), none, [], false⟩])
def L6_2 : LCode :=
 (.reg [⟨0, .q .mv, [.tmp 7], (some 54), none, [], false⟩,
   ⟨1, .q .mv, [.tmp 8], (some 55), none, [], false⟩,
   ⟨2, .q (.bin .add), [.tmp 54, .tmp 55], (some 56), none, [], false⟩,
   ⟨3, .q .mv, [.tmp 56], (some 7), none, [], false⟩])
def L6_3 : LCode :=
 (.seq
 (.seq
 (.reg [⟨0, .q .mv, [.tmp 7], (some 11), none, [], false⟩,
   ⟨1, .q .mv, [.tmp 0], (some 12), none, [], false⟩,
   ⟨2, .q .len, [.tmp 12], (some 13), none, [], false⟩,
   ⟨3, .q (.bin .lss), [.tmp 11, .tmp 13], (some 14), none, [], false⟩])
 (.cond (.tmp 14)
  .skip
  (.exit 0)))
 (.block 1
  (.seq
  (.seq
  (.reg [⟨0, .q .mv, [.tmp 0], (some 15), none, [], false⟩,
    ⟨1, .q .mv, [.tmp 7], (some 16), none, [], false⟩,
    ⟨2, .q (.iad 1), [.tmp 15, .tmp 16], (some 17), none, [], false⟩,
    ⟨3, .q .ld, [.tmp 17], (some 18), none, [], false⟩,
    ⟨4, .q (.bin .neq), [.tmp 18, .const (.int .u8 0)], (some 19), none, [], false⟩])
  (.cond (.tmp 19)
   (.seq
   (.reg [⟨0, .q .mv, [.tmp 7], (some 20), none, [], false⟩,
     ⟨1, .q (.bin .add), [.tmp 20, .const (.int .i64 1)], (some 21), none, [], false⟩,
     ⟨2, .q .mv, [.tmp 21], (some 7), none, [], false⟩])
   (.exit 1))
   .skip))
  (.seq
  (.reg [⟨0, .q .mv, [.const (.int .i64 1)], (some 8), none, [], false⟩])
  (.seq
  (.block 2
   (.loop L6_0))
  (.seq
  (.seq
  (.reg [⟨0, .q .mv, [.tmp 8], (some 39), none, [], false⟩,
    ⟨1, .q .mv, [.tmp 1], (some 40), none, [], false⟩,
    ⟨2, .q (.bin .geq), [.tmp 39, .tmp 40], (some 41), none, [], false⟩])
  (.cond (.tmp 41)
   (.seq
   (.seq
   (.reg [⟨0, .q .mv, [.tmp 7], (some 42), none, [], false⟩,
     ⟨1, .q .mv, [.tmp 6], (some 43), none, [], false⟩,
     ⟨2, .q (.bin .gtr), [.tmp 42, .tmp 43], (some 44), none, [], false⟩])
   (.cond (.tmp 44)
    (.reg [⟨0, .q .mv, [.tmp 5], (some 45), none, [], false⟩,
      ⟨1, .q .mv, [.tmp 6], (some 46), none, [], false⟩,
      ⟨2, .q .mv, [.tmp 7], (some 47), none, [], false⟩,
      ⟨3, .q (.build #[(.int .i64 0), (.int .i64 0)] [(0, 1), (1, 1)]), [.tmp 46, .tmp 47], (some 48), none, [], false⟩,
      ⟨4, .e (.lits 26 #[(.int .i64 0), (.int .i64 0)] 1 [(0, 2)]), [.tmp 48], (some 49), none, [], false⟩,
      ⟨5, .e (.app 26 2 16 #[(.int .i64 0), (.int .i64 0)]), [.tmp 45, .tmp 49], (some 50), none, [], false⟩,
      ⟨6, .q .mv, [.tmp 50], (some 5), none, [], false⟩])
    .skip))
   L6_1)
   .skip))
  L6_2))))))
def L6_4 : LCode :=
 (.seq
 (.reg [⟨0, .q .mv, [.tmp 5], (some 68), none, [], false⟩,
   ⟨1, .q .mv, [.tmp 68], (some 4), none, [], false⟩])
 .ret)
def L6_5 : LCode :=
 (.seq
 (.seq
 (.reg [⟨0, .q .mv, [.tmp 6], (some 57), none, [], false⟩,
   ⟨1, .q .mv, [.tmp 0], (some 58), none, [], false⟩,
   ⟨2, .q .len, [.tmp 58], (some 59), none, [], false⟩,
   ⟨3, .q (.bin .lss), [.tmp 57, .tmp 59], (some 60), none, [], false⟩])
 (.cond (.tmp 60)
  (.reg [⟨0, .q .mv, [.tmp 5], (some 61), none, [], false⟩,
    ⟨1, .q .mv, [.tmp 6], (some 62), none, [], false⟩,
    ⟨2, .q .mv, [.tmp 0], (some 63), none, [], false⟩,
    ⟨3, .q .len, [.tmp 63], (some 64), none, [], false⟩,
    ⟨4, .q (.build #[(.int .i64 0), (.int .i64 0)] [(0, 1), (1, 1)]), [.tmp 62, .tmp 64], (some 65), none, [], false⟩,
    ⟨5, .e (.lits 26 #[(.int .i64 0), (.int .i64 0)] 1 [(0, 2)]), [.tmp 65], (some 66), none, [], false⟩,
    ⟨6, .e (.app 26 2 16 #[(.int .i64 0), (.int .i64 0)]), [.tmp 61, .tmp 66], (some 67), none, [], false⟩,
    ⟨7, .q .mv, [.tmp 67], (some 5), none, [], false⟩])
  .skip))
 L6_4)
def L6 : LFn :=
 ⟨69, [.t 4],
 (.seq
 (.reg [⟨0, .q .mv, [.const (.slice none 0 0)], (some 4), none, [], false⟩])
 (.seq
 (.reg [⟨0, .q .mv, [.tmp 1], (some 9), none, [], false⟩,
   ⟨1, .q .max2, [.tmp 9, .const (.int .i64 1)], (some 10), none, [], false⟩,
   ⟨2, .q .mv, [.tmp 10], (some 1), none, [], false⟩])
 (.seq
 (.reg [⟨0, .q .mv, [.const (.slice none 0 0)], (some 5), none, [], false⟩])
 (.seq
 (.reg [⟨0, .q .mv, [.const (.int .i64 0)], (some 6), none, [], false⟩])
 (.seq
 (.seq
 (.reg [⟨0, .q .mv, [.const (.int .i64 0)], (some 7), none, [], false⟩])
 (.block 0
  (.loop L6_3)))
 L6_5)))))⟩
theorem low6 : lowFn Try.prog Try.f6 = some L6 := by kernel_rfl
theorem call6 {args : List Value} {H : Heap} {S : Ending → Heap → Prop} (hn : args.length ≤ L6.n) (h : awpC Try.prog L6.body (retQ L6.results S) (fun ch H => S (.panicked ch) H) (env0 args) H) : ACalls Try.prog 6 args.toArray H S := acalls mixed Try.func6 low6 hn h
/-- satchel/satchellaw15.lent -/
def L7_0 : LCode :=
 (.seq
 (.seq
 (.reg [⟨0, .q .mv, [.tmp 5], (some 13), none, [], false⟩,
   ⟨1, .q (.bin .lss), [.tmp 13, .const (.int .i64 32)], (some 14), none, [], false⟩])
 (.cond (.tmp 14)
  .skip
  (.exit 0)))
 (.seq
 (.block 1
  (.reg [⟨0, .q .mv, [.tmp 4], (some 17), none, [], false⟩,
    ⟨1, .q .mv, [.tmp 5], (some 18), none, [], false⟩,
    ⟨2, .q (.bin .add), [.const (.int .i64 171), .tmp 18], (some 19), none, [], false⟩,
    ⟨3, .q (.cvi .u8), [.tmp 19], (some 20), none, [], false⟩,
    ⟨4, .e (.lits 5 #[(.int .u8 0)] 1 [(0, 1)]), [.tmp 20], (some 21), none, [], false⟩,
    ⟨5, .e (.app 5 1 1 #[(.int .u8 0)]), [.tmp 17, .tmp 21], (some 22), none, [], false⟩,
    ⟨6, .q .mv, [.tmp 22], (some 4), none, [], false⟩]))
 (.reg [⟨0, .q .mv, [.tmp 5], (some 15), none, [], false⟩,
   ⟨1, .q (.bin .add), [.tmp 15, .const (.int .i64 1)], (some 16), none, [], false⟩,
   ⟨2, .q .mv, [.tmp 16], (some 5), none, [], false⟩])))
def L7 : LFn :=
 ⟨28, [.t 2, .t 3],
 (.seq
 (.reg [⟨0, .q .mv, [.const (.slice none 0 0)], (some 2), none, [], false⟩,
   ⟨1, .q .mv, [.const (.slice none 0 0)], (some 3), none, [], false⟩])
 (.seq
 (.reg [⟨0, .q .mv, [.tmp 0], (some 6), none, [], false⟩,
   ⟨1, .q .len, [.tmp 6], (some 7), none, [], false⟩,
   ⟨2, .q (.bin .add), [.tmp 7, .const (.int .i64 32)], (some 8), none, [], false⟩,
   ⟨3, .e (.mks 5 1 1 #[(.int .u8 0)]), [.const (.int .i64 0), .tmp 8], (some 9), none, [], false⟩,
   ⟨4, .q .mv, [.tmp 9], (some 4), none, [], false⟩])
 (.seq
 (.reg [⟨0, .q .mv, [.tmp 4], (some 10), none, [], false⟩,
   ⟨1, .q .mv, [.tmp 0], (some 11), none, [], false⟩,
   ⟨2, .e (.app 5 1 1 #[(.int .u8 0)]), [.tmp 10, .tmp 11], (some 12), none, [], false⟩,
   ⟨3, .q .mv, [.tmp 12], (some 4), none, [], false⟩])
 (.seq
 (.seq
 (.reg [⟨0, .q .mv, [.const (.int .i64 0)], (some 5), none, [], false⟩])
 (.block 0
  (.loop L7_0)))
 (.seq
 (.reg [⟨0, .q .mv, [.tmp 4], (some 23), none, [], false⟩,
   ⟨1, .q .mv, [.tmp 0], (some 24), none, [], false⟩,
   ⟨2, .q .len, [.tmp 24], (some 25), none, [], false⟩,
   ⟨3, .q (.slc 1 false true false), [.tmp 23, .tmp 25], (some 26), none, [], false⟩,
   ⟨4, .q .mv, [.tmp 4], (some 27), none, [], false⟩,
   ⟨5, .q .mv, [.tmp 26], (some 2), none, [], false⟩,
   ⟨6, .q .mv, [.tmp 27], (some 3), none, [], false⟩])
 .ret)))))⟩
theorem low7 : lowFn Try.prog Try.f7 = some L7 := by kernel_rfl
theorem call7 {args : List Value} {H : Heap} {S : Ending → Heap → Prop} (hn : args.length ≤ L7.n) (h : awpC Try.prog L7.body (retQ L7.results S) (fun ch H => S (.panicked ch) H) (env0 args) H) : ACalls Try.prog 7 args.toArray H S := acalls mixed Try.func7 low7 hn h
/-- satchel/satchelref15.Find -/
def L8_0 : LCode :=
 (.seq
 (.seq
 (.reg [⟨0, .q .mv, [.tmp 7], (some 22), none, [], false⟩,
   ⟨1, .q .mv, [.tmp 0], (some 23), none, [], false⟩,
   ⟨2, .q .len, [.tmp 23], (some 24), none, [], false⟩,
   ⟨3, .q (.bin .lss), [.tmp 22, .tmp 24], (some 25), none, [], false⟩,
   ⟨4, .q .mv, [.tmp 25], (some 26), none, [], false⟩,
   ⟨5, .q .mv, [.tmp 0], (some 27), (some (26, true)), [], false⟩,
   ⟨6, .q .mv, [.tmp 7], (some 28), (some (26, true)), [], false⟩,
   ⟨7, .q (.iad 1), [.tmp 27, .tmp 28], (some 29), (some (26, true)), [], false⟩,
   ⟨8, .q .ld, [.tmp 29], (some 30), (some (26, true)), [], false⟩,
   ⟨9, .q (.bin .eql), [.tmp 30, .const (.int .u8 0)], (some 31), (some (26, true)), [], false⟩,
   ⟨10, .q .pick, [.tmp 26, .tmp 31, .const (.bool false)], (some 32), none, [], false⟩])
 (.cond (.tmp 32)
  .skip
  (.exit 2)))
 (.block 3
  (.reg [⟨0, .q .mv, [.tmp 7], (some 33), none, [], false⟩,
    ⟨1, .q (.bin .add), [.tmp 33, .const (.int .i64 1)], (some 34), none, [], false⟩,
    ⟨2, .q .mv, [.tmp 34], (some 7), none, [], false⟩])))
def L8_1 : LCode :=
 (.seq
 (.seq
 (.reg [⟨0, .q .mv, [.tmp 8], (some 41), none, [], false⟩,
   ⟨1, .q .mv, [.tmp 7], (some 42), none, [], false⟩,
   ⟨2, .q (.bin .lss), [.tmp 41, .tmp 42], (some 43), none, [], false⟩])
 (.cond (.tmp 43)
  .skip
  (.exit 4)))
 (.seq
 (.block 5
  (.reg [⟨0, .q .mv, [.tmp 5], (some 46), none, [], false⟩,
    ⟨1, .q .mv, [.tmp 8], (some 47), none, [], false⟩,
    ⟨2, .q (.iad 1), [.tmp 46, .tmp 47], (some 48), none, [], false⟩,
    ⟨3, .e (.st 1), [.tmp 48, .const (.bool true)], none, none, [], false⟩]))
 (.reg [⟨0, .q .mv, [.tmp 8], (some 44), none, [], false⟩,
   ⟨1, .q (.bin .add), [.tmp 44, .const (.int .i64 1)], (some 45), none, [], false⟩,
   ⟨2, .q .mv, [.tmp 45], (some 8), none, [], false⟩])))
def L8_2 : LCode :=
 (.reg [⟨0, .q .mv, [.tmp 7], (some 54), none, [], false⟩,
   ⟨1, .q .mv, [.tmp 54], (some 6), none, [], false⟩])
def L8_3 : LCode :=
 (.seq
 (.seq
 (.reg [⟨0, .q .mv, [.tmp 7], (some 49), none, [], false⟩,
   ⟨1, .q .mv, [.tmp 6], (some 50), none, [], false⟩,
   ⟨2, .q (.bin .eql), [.tmp 49, .tmp 50], (some 51), none, [], false⟩])
 (.cond (.tmp 51)
  (.reg [⟨0, .q .mv, [.tmp 7], (some 52), none, [], false⟩,
    ⟨1, .q (.bin .add), [.tmp 52, .const (.int .i64 1)], (some 53), none, [], false⟩,
    ⟨2, .q .mv, [.tmp 53], (some 7), none, [], false⟩])
  .skip))
 L8_2)
def L8_4 : LCode :=
 (.seq
 (.seq
 (.reg [⟨0, .q .mv, [.tmp 6], (some 17), none, [], false⟩,
   ⟨1, .q .mv, [.tmp 0], (some 18), none, [], false⟩,
   ⟨2, .q .len, [.tmp 18], (some 19), none, [], false⟩,
   ⟨3, .q (.bin .lss), [.tmp 17, .tmp 19], (some 20), none, [], false⟩])
 (.cond (.tmp 20)
  .skip
  (.exit 0)))
 (.block 1
  (.seq
  (.reg [⟨0, .q .mv, [.tmp 6], (some 21), none, [], false⟩,
    ⟨1, .q .mv, [.tmp 21], (some 7), none, [], false⟩])
  (.seq
  (.block 2
   (.loop L8_0))
  (.seq
  (.seq
  (.reg [⟨0, .q .mv, [.tmp 7], (some 35), none, [], false⟩,
    ⟨1, .q .mv, [.tmp 6], (some 36), none, [], false⟩,
    ⟨2, .q (.bin .sub), [.tmp 35, .tmp 36], (some 37), none, [], false⟩,
    ⟨3, .q .mv, [.tmp 1], (some 38), none, [], false⟩,
    ⟨4, .q (.bin .geq), [.tmp 37, .tmp 38], (some 39), none, [], false⟩])
  (.cond (.tmp 39)
   (.seq
   (.reg [⟨0, .q .mv, [.tmp 6], (some 40), none, [], false⟩,
     ⟨1, .q .mv, [.tmp 40], (some 8), none, [], false⟩])
   (.block 4
    (.loop L8_1)))
   .skip))
  L8_3)))))
def L8_5 : LCode :=
 (.reg [⟨0, .q .mv, [.tmp 10], (some 60), none, [], false⟩,
   ⟨1, .q (.bin .add), [.tmp 60, .const (.int .i64 1)], (some 61), none, [], false⟩,
   ⟨2, .q .mv, [.tmp 61], (some 10), none, [], false⟩])
def L8_6 : LCode :=
 (.seq
 (.seq
 (.reg [⟨0, .q .mv, [.tmp 10], (some 56), none, [], false⟩,
   ⟨1, .q .mv, [.tmp 0], (some 57), none, [], false⟩,
   ⟨2, .q .len, [.tmp 57], (some 58), none, [], false⟩,
   ⟨3, .q (.bin .lss), [.tmp 56, .tmp 58], (some 59), none, [], false⟩])
 (.cond (.tmp 59)
  .skip
  (.exit 6)))
 (.seq
 (.block 7
  (.seq
  (.seq
  (.reg [⟨0, .q .mv, [.tmp 5], (some 62), none, [], false⟩,
    ⟨1, .q .mv, [.tmp 10], (some 63), none, [], false⟩,
    ⟨2, .q (.iad 1), [.tmp 62, .tmp 63], (some 64), none, [], false⟩,
    ⟨3, .q .ld, [.tmp 64], (some 65), none, [], false⟩])
  (.cond (.tmp 65)
   (.exit 7)
   .skip))
  (.seq
  (.reg [⟨0, .q .mv, [.tmp 9], (some 66), none, [], false⟩,
    ⟨1, .q .len, [.tmp 66], (some 67), none, [], false⟩,
    ⟨2, .q .mv, [.tmp 67], (some 11), none, [], false⟩])
  (.seq
  (.reg [⟨0, .q .mv, [.tmp 11], (some 68), none, [], false⟩,
    ⟨1, .q (.bin .gtr), [.tmp 68, .const (.int .i64 0)], (some 69), none, [], false⟩,
    ⟨2, .q .mv, [.tmp 69], (some 70), none, [], false⟩,
    ⟨3, .q .mv, [.tmp 9], (some 71), (some (70, true)), [], false⟩,
    ⟨4, .q .mv, [.tmp 11], (some 72), (some (70, true)), [], false⟩,
    ⟨5, .q (.bin .sub), [.tmp 72, .const (.int .i64 1)], (some 73), (some (70, true)), [], false⟩,
    ⟨6, .q (.iad 2), [.tmp 71, .tmp 73], (some 74), (some (70, true)), [], false⟩,
    ⟨7, .q (.fad 1), [.tmp 74], (some 75), (some (70, true)), [], false⟩,
    ⟨8, .q .ld, [.tmp 75], (some 76), (some (70, true)), [], false⟩,
    ⟨9, .q .mv, [.tmp 10], (some 77), (some (70, true)), [], false⟩,
    ⟨10, .q (.bin .eql), [.tmp 76, .tmp 77], (some 78), (some (70, true)), [], false⟩,
    ⟨11, .q .pick, [.tmp 70, .tmp 78, .const (.bool false)], (some 79), none, [], false⟩])
  (.cond (.tmp 79)
   (.reg [⟨0, .q .mv, [.tmp 9], (some 80), none, [], false⟩,
     ⟨1, .q .mv, [.tmp 11], (some 81), none, [], false⟩,
     ⟨2, .q (.bin .sub), [.tmp 81, .const (.int .i64 1)], (some 82), none, [], false⟩,
     ⟨3, .q (.iad 2), [.tmp 80, .tmp 82], (some 83), none, [], false⟩,
     ⟨4, .q (.fad 1), [.tmp 83], (some 84), none, [], false⟩,
     ⟨5, .q .ld, [.tmp 84], (some 85), none, [], false⟩,
     ⟨6, .q (.bin .add), [.tmp 85, .const (.int .i64 1)], (some 86), none, [], false⟩,
     ⟨7, .q (.iad 2), [.tmp 80, .tmp 82], (some 87), none, [], false⟩,
     ⟨8, .q (.fad 1), [.tmp 87], (some 88), none, [], false⟩,
     ⟨9, .e (.st 1), [.tmp 88, .tmp 86], none, none, [], false⟩])
   (.reg [⟨0, .q .mv, [.tmp 9], (some 89), none, [], false⟩,
     ⟨1, .q .mv, [.tmp 10], (some 90), none, [], false⟩,
     ⟨2, .q .mv, [.tmp 10], (some 91), none, [], false⟩,
     ⟨3, .q (.bin .add), [.tmp 91, .const (.int .i64 1)], (some 92), none, [], false⟩,
     ⟨4, .q (.build #[(.int .i64 0), (.int .i64 0)] [(0, 1), (1, 1)]), [.tmp 90, .tmp 92], (some 93), none, [], false⟩,
     ⟨5, .e (.lits 26 #[(.int .i64 0), (.int .i64 0)] 1 [(0, 2)]), [.tmp 93], (some 94), none, [], false⟩,
     ⟨6, .e (.app 26 2 16 #[(.int .i64 0), (.int .i64 0)]), [.tmp 89, .tmp 94], (some 95), none, [], false⟩,
     ⟨7, .q .mv, [.tmp 95], (some 9), none, [], false⟩]))))))
 L8_5))
def L8_7 : LCode :=
 (.seq
 (.reg [⟨0, .q .mv, [.tmp 9], (some 96), none, [], false⟩,
   ⟨1, .q .mv, [.tmp 96], (some 4), none, [], false⟩])
 .ret)
def L8_8 : LCode :=
 (.seq
 (.reg [⟨0, .e (.lits 26 #[] 0 []), [], (some 55), none, [], false⟩,
   ⟨1, .q .mv, [.tmp 55], (some 9), none, [], false⟩])
 (.seq
 (.seq
 (.reg [⟨0, .q .mv, [.const (.int .i64 0)], (some 10), none, [], false⟩])
 (.block 6
  (.loop L8_6)))
 L8_7))
def L8_9 : LCode :=
 (.seq
 (.reg [⟨0, .q .mv, [.tmp 0], (some 14), none, [], false⟩,
   ⟨1, .q .len, [.tmp 14], (some 15), none, [], false⟩,
   ⟨2, .e (.mks 4 1 1 #[(.bool false)]), [.tmp 15, .tmp 15], (some 16), none, [], false⟩,
   ⟨3, .q .mv, [.tmp 16], (some 5), none, [], false⟩])
 (.seq
 (.seq
 (.reg [⟨0, .q .mv, [.const (.int .i64 0)], (some 6), none, [], false⟩])
 (.block 0
  (.loop L8_4)))
 L8_8))
def L8 : LFn :=
 ⟨97, [.t 4],
 (.seq
 (.reg [⟨0, .q .mv, [.const (.slice none 0 0)], (some 4), none, [], false⟩])
 (.seq
 (.seq
 (.reg [⟨0, .q .mv, [.tmp 1], (some 12), none, [], false⟩,
   ⟨1, .q (.bin .lss), [.tmp 12, .const (.int .i64 1)], (some 13), none, [], false⟩])
 (.cond (.tmp 13)
  (.reg [⟨0, .q .mv, [.const (.int .i64 1)], (some 1), none, [], false⟩])
  .skip))
 L8_9))⟩
theorem low8 : lowFn Try.prog Try.f8 = some L8 := by kernel_rfl
theorem call8 {args : List Value} {H : Heap} {S : Ending → Heap → Prop} (hn : args.length ≤ L8.n) (h : awpC Try.prog L8.body (retQ L8.results S) (fun ch H => S (.panicked ch) H) (env0 args) H) : ACalls Try.prog 8 args.toArray H S := acalls mixed Try.func8 low8 hn h
/-- satchel/sparse.Join -/
def L9_0 : LCode :=
 (.seq
 (.reg [⟨0, .q (.bin .lss), [.tmp 16, .tmp 15], (some 17), none, [], false⟩])
 (.seq
 (.cond (.tmp 17)
  .skip
  (.exit 0))
 (.seq
 (.block 1
  (.seq
  (.reg [⟨0, .q (.iad 2), [.tmp 14, .tmp 16], (some 18), none, [], false⟩,
    ⟨1, .q (.ldn 2), [.tmp 18], (some 19), none, [], false⟩,
    ⟨2, .e (.new #[(.int .i64 0), (.int .i64 0)] 26), [], (some 8), none, [], false⟩,
    ⟨3, .e (.st 2), [.tmp 8, .tmp 19], none, none, [], false⟩])
  (.reg [⟨0, .q .mv, [.tmp 6], (some 20), none, [], false⟩,
    ⟨1, .q .mv, [.tmp 0], (some 21), none, [], false⟩,
    ⟨2, .q (.fad 0), [.tmp 8], (some 22), none, [], false⟩,
    ⟨3, .q .ld, [.tmp 22], (some 23), none, [], false⟩,
    ⟨4, .q (.fad 1), [.tmp 8], (some 24), none, [], false⟩,
    ⟨5, .q .ld, [.tmp 24], (some 25), none, [], false⟩,
    ⟨6, .q (.slc 1 true true false), [.tmp 21, .tmp 23, .tmp 25], (some 26), none, [], false⟩,
    ⟨7, .e (.app 5 1 1 #[(.int .u8 0)]), [.tmp 20, .tmp 26], (some 27), none, [], false⟩,
    ⟨8, .q .mv, [.tmp 27], (some 6), none, [], false⟩])))
 (.reg [⟨0, .q (.bin .add), [.tmp 16, .const (.int .i64 1)], (some 28), none, [], false⟩,
   ⟨1, .q .mv, [.tmp 28], (some 16), none, [], false⟩]))))
def L9 : LFn :=
 ⟨30, [.t 4, .t 5],
 (.seq
 (.reg [⟨0, .q .mv, [.const (.slice none 0 0)], (some 4), none, [], false⟩,
   ⟨1, .q .mv, [.const (.int .i64 0)], (some 5), none, [], false⟩])
 (.seq
 (.seq
 (.reg [⟨0, .q .mv, [.tmp 1], (some 9), none, [], false⟩,
   ⟨1, .q .mv, [.tmp 0], (some 10), none, [], false⟩,
   ⟨2, .q .len, [.tmp 10], (some 11), none, [], false⟩,
   ⟨3, .e (.call 20), [.tmp 9, .tmp 11], (some 12), none, [], false⟩,
   ⟨4, .q (.un .not), [.tmp 12], (some 13), none, [], false⟩])
 (.cond (.tmp 13)
  (.seq
  (.reg [⟨0, .q .mv, [.const (.slice none 0 0)], (some 4), none, [], false⟩,
    ⟨1, .q .mv, [.const (.int .i64 1)], (some 5), none, [], false⟩])
  .ret)
  .skip))
 (.seq
 (.reg [⟨0, .q .mv, [.const (.slice none 0 0)], (some 6), none, [], false⟩])
 (.seq
 (.seq
 (.reg [⟨0, .q .mv, [.tmp 1], (some 14), none, [], false⟩,
   ⟨1, .q .len, [.tmp 14], (some 15), none, [], false⟩,
   ⟨2, .q .mv, [.const (.int .i64 0)], (some 16), none, [], false⟩])
 (.block 0
  (.loop L9_0)))
 (.seq
 (.reg [⟨0, .q .mv, [.tmp 6], (some 29), none, [], false⟩,
   ⟨1, .q .mv, [.tmp 29], (some 4), none, [], false⟩,
   ⟨2, .q .mv, [.const (.int .i64 0)], (some 5), none, [], false⟩])
 .ret)))))⟩
theorem low9 : lowFn Try.prog Try.f9 = some L9 := by kernel_rfl
theorem call9 {args : List Value} {H : Heap} {S : Ending → Heap → Prop} (hn : args.length ≤ L9.n) (h : awpC Try.prog L9.body (retQ L9.results S) (fun ch H => S (.panicked ch) H) (env0 args) H) : ACalls Try.prog 9 args.toArray H S := acalls mixed Try.func9 low9 hn h
/-- satchel/satchelref15.Join -/
def L10_0 : LCode :=
 (.seq
 (.seq
 (.reg [⟨0, .q .mv, [.tmp 7], (some 14), none, [], false⟩,
   ⟨1, .q .mv, [.tmp 1], (some 15), none, [], false⟩,
   ⟨2, .q .len, [.tmp 15], (some 16), none, [], false⟩,
   ⟨3, .q (.bin .lss), [.tmp 14, .tmp 16], (some 17), none, [], false⟩])
 (.cond (.tmp 17)
  .skip
  (.exit 0)))
 (.seq
 (.block 1
  (.reg [⟨0, .q .mv, [.tmp 6], (some 20), none, [], false⟩,
    ⟨1, .q .mv, [.tmp 0], (some 21), none, [], false⟩,
    ⟨2, .q .mv, [.tmp 1], (some 22), none, [], false⟩,
    ⟨3, .q .mv, [.tmp 7], (some 23), none, [], false⟩,
    ⟨4, .q (.iad 2), [.tmp 22, .tmp 23], (some 24), none, [], false⟩,
    ⟨5, .q (.fad 0), [.tmp 24], (some 25), none, [], false⟩,
    ⟨6, .q .ld, [.tmp 25], (some 26), none, [], false⟩,
    ⟨7, .q .mv, [.tmp 1], (some 27), none, [], false⟩,
    ⟨8, .q .mv, [.tmp 7], (some 28), none, [], false⟩,
    ⟨9, .q (.iad 2), [.tmp 27, .tmp 28], (some 29), none, [], false⟩,
    ⟨10, .q (.fad 1), [.tmp 29], (some 30), none, [], false⟩,
    ⟨11, .q .ld, [.tmp 30], (some 31), none, [], false⟩,
    ⟨12, .q (.slc 1 true true false), [.tmp 21, .tmp 26, .tmp 31], (some 32), none, [], false⟩,
    ⟨13, .e (.app 5 1 1 #[(.int .u8 0)]), [.tmp 20, .tmp 32], (some 33), none, [], false⟩,
    ⟨14, .q .mv, [.tmp 33], (some 6), none, [], false⟩]))
 (.reg [⟨0, .q .mv, [.tmp 7], (some 18), none, [], false⟩,
   ⟨1, .q (.bin .add), [.tmp 18, .const (.int .i64 1)], (some 19), none, [], false⟩,
   ⟨2, .q .mv, [.tmp 19], (some 7), none, [], false⟩])))
def L10 : LFn :=
 ⟨35, [.t 4, .t 5],
 (.seq
 (.reg [⟨0, .q .mv, [.const (.slice none 0 0)], (some 4), none, [], false⟩,
   ⟨1, .q .mv, [.const (.int .i64 0)], (some 5), none, [], false⟩])
 (.seq
 (.seq
 (.reg [⟨0, .q .mv, [.tmp 1], (some 8), none, [], false⟩,
   ⟨1, .q .mv, [.tmp 0], (some 9), none, [], false⟩,
   ⟨2, .q .len, [.tmp 9], (some 10), none, [], false⟩,
   ⟨3, .e (.call 14), [.tmp 8, .tmp 10], (some 11), none, [], false⟩,
   ⟨4, .q (.un .not), [.tmp 11], (some 12), none, [], false⟩])
 (.cond (.tmp 12)
  (.seq
  (.reg [⟨0, .q .mv, [.const (.slice none 0 0)], (some 4), none, [], false⟩,
    ⟨1, .q .mv, [.const (.int .i64 1)], (some 5), none, [], false⟩])
  .ret)
  .skip))
 (.seq
 (.reg [⟨0, .e (.lits 5 #[] 0 []), [], (some 13), none, [], false⟩,
   ⟨1, .q .mv, [.tmp 13], (some 6), none, [], false⟩])
 (.seq
 (.seq
 (.reg [⟨0, .q .mv, [.const (.int .i64 0)], (some 7), none, [], false⟩])
 (.block 0
  (.loop L10_0)))
 (.seq
 (.reg [⟨0, .q .mv, [.tmp 6], (some 34), none, [], false⟩,
   ⟨1, .q .mv, [.tmp 34], (some 4), none, [], false⟩,
   ⟨2, .q .mv, [.const (.int .i64 0)], (some 5), none, [], false⟩])
 .ret)))))⟩
theorem low10 : lowFn Try.prog Try.f10 = some L10 := by kernel_rfl
theorem call10 {args : List Value} {H : Heap} {S : Ending → Heap → Prop} (hn : args.length ≤ L10.n) (h : awpC Try.prog L10.body (retQ L10.results S) (fun ch H => S (.panicked ch) H) (env0 args) H) : ACalls Try.prog 10 args.toArray H S := acalls mixed Try.func10 low10 hn h
/-- satchel/sparse.Spread -/
def L11_0 : LCode :=
 (.seq
 (.reg [⟨0, .q (.bin .lss), [.tmp 30, .tmp 29], (some 31), none, [], false⟩])
 (.seq
 (.cond (.tmp 31)
  .skip
  (.exit 0))
 (.seq
 (.block 1
  (.seq
  (.reg [⟨0, .q (.iad 2), [.tmp 28, .tmp 30], (some 32), none, [], false⟩,
    ⟨1, .q (.ldn 2), [.tmp 32], (some 33), none, [], false⟩,
    ⟨2, .e (.new #[(.int .i64 0), (.int .i64 0)] 26), [], (some 10), none, [], false⟩,
    ⟨3, .e (.st 2), [.tmp 10, .tmp 33], none, none, [], false⟩])
  (.reg [⟨0, .q .mv, [.tmp 0], (some 34), none, [], false⟩,
    ⟨1, .q .mv, [.tmp 8], (some 35), none, [], false⟩,
    ⟨2, .q (.fad 0), [.tmp 10], (some 36), none, [], false⟩,
    ⟨3, .q .ld, [.tmp 36], (some 37), none, [], false⟩,
    ⟨4, .q (.fad 1), [.tmp 10], (some 38), none, [], false⟩,
    ⟨5, .q .ld, [.tmp 38], (some 39), none, [], false⟩,
    ⟨6, .q (.slc 1 true true false), [.tmp 35, .tmp 37, .tmp 39], (some 40), none, [], false⟩,
    ⟨7, .q .mv, [.tmp 0], (some 41), none, [], false⟩,
    ⟨8, .e (.copy 1), [.tmp 40, .tmp 41], (some 42), none, [], false⟩,
    ⟨9, .q (.slc 1 true false false), [.tmp 34, .tmp 42], (some 43), none, [], false⟩,
    ⟨10, .q .mv, [.tmp 43], (some 0), none, [], false⟩])))
 (.reg [⟨0, .q (.bin .add), [.tmp 30, .const (.int .i64 1)], (some 44), none, [], false⟩,
   ⟨1, .q .mv, [.tmp 44], (some 30), none, [], false⟩]))))
def L11 : LFn :=
 ⟨46, [.t 6, .t 7],
 (.seq
 (.reg [⟨0, .q .mv, [.const (.slice none 0 0)], (some 6), none, [], false⟩,
   ⟨1, .q .mv, [.const (.int .i64 0)], (some 7), none, [], false⟩])
 (.seq
 (.seq
 (.reg [⟨0, .q .mv, [.tmp 2], (some 11), none, [], false⟩,
   ⟨1, .q (.bin .gtr), [.tmp 11, .const (.int .i64 4194304)], (some 12), none, [], false⟩,
   ⟨2, .q .mv, [.tmp 12], (some 13), none, [], false⟩,
   ⟨3, .q .mv, [.tmp 1], (some 14), (some (13, false)), [], false⟩,
   ⟨4, .q .mv, [.tmp 2], (some 15), (some (13, false)), [], false⟩,
   ⟨5, .e (.call 20), [.tmp 14, .tmp 15], (some 16), (some (13, false)), [], false⟩,
   ⟨6, .q (.un .not), [.tmp 16], (some 17), (some (13, false)), [], false⟩,
   ⟨7, .q .pick, [.tmp 13, .const (.bool true), .tmp 17], (some 18), none, [], false⟩,
   ⟨8, .q .mv, [.tmp 18], (some 19), none, [], false⟩,
   ⟨9, .q .mv, [.tmp 1], (some 20), (some (19, false)), [], false⟩,
   ⟨10, .e (.call 21), [.tmp 20], (some 21), (some (19, false)), [], false⟩,
   ⟨11, .q .mv, [.tmp 0], (some 22), (some (19, false)), [], false⟩,
   ⟨12, .q .len, [.tmp 22], (some 23), (some (19, false)), [], false⟩,
   ⟨13, .q (.bin .neq), [.tmp 21, .tmp 23], (some 24), (some (19, false)), [], false⟩,
   ⟨14, .q .pick, [.tmp 19, .const (.bool true), .tmp 24], (some 25), none, [], false⟩])
 (.cond (.tmp 25)
  (.seq
  (.reg [⟨0, .q .mv, [.const (.slice none 0 0)], (some 6), none, [], false⟩,
    ⟨1, .q .mv, [.const (.int .i64 1)], (some 7), none, [], false⟩])
  .ret)
  .skip))
 (.seq
 (.reg [⟨0, .q .mv, [.tmp 2], (some 26), none, [], false⟩,
   ⟨1, .e (.mks 5 1 1 #[(.int .u8 0)]), [.tmp 26, .tmp 26], (some 27), none, [], false⟩,
   ⟨2, .q .mv, [.tmp 27], (some 8), none, [], false⟩])
 (.seq
 (.seq
 (.reg [⟨0, .q .mv, [.tmp 1], (some 28), none, [], false⟩,
   ⟨1, .q .len, [.tmp 28], (some 29), none, [], false⟩,
   ⟨2, .q .mv, [.const (.int .i64 0)], (some 30), none, [], false⟩])
 (.block 0
  (.loop L11_0)))
 (.seq
 (.reg [⟨0, .q .mv, [.tmp 8], (some 45), none, [], false⟩,
   ⟨1, .q .mv, [.tmp 45], (some 6), none, [], false⟩,
   ⟨2, .q .mv, [.const (.int .i64 0)], (some 7), none, [], false⟩])
 .ret)))))⟩
theorem low11 : lowFn Try.prog Try.f11 = some L11 := by kernel_rfl
theorem call11 {args : List Value} {H : Heap} {S : Ending → Heap → Prop} (hn : args.length ≤ L11.n) (h : awpC Try.prog L11.body (retQ L11.results S) (fun ch H => S (.panicked ch) H) (env0 args) H) : ACalls Try.prog 11 args.toArray H S := acalls mixed Try.func11 low11 hn h
/-- satchel/satchelref15.Spread -/
def L12_0 : LCode :=
 (.seq
 (.seq
 (.reg [⟨0, .q .mv, [.tmp 11], (some 33), none, [], false⟩,
   ⟨1, .q .mv, [.tmp 1], (some 34), none, [], false⟩,
   ⟨2, .q .mv, [.tmp 10], (some 35), none, [], false⟩,
   ⟨3, .q (.iad 2), [.tmp 34, .tmp 35], (some 36), none, [], false⟩,
   ⟨4, .q (.fad 1), [.tmp 36], (some 37), none, [], false⟩,
   ⟨5, .q .ld, [.tmp 37], (some 38), none, [], false⟩,
   ⟨6, .q (.bin .lss), [.tmp 33, .tmp 38], (some 39), none, [], false⟩])
 (.cond (.tmp 39)
  .skip
  (.exit 2)))
 (.seq
 (.block 3
  (.seq
  (.seq
  (.reg [⟨0, .q .mv, [.tmp 9], (some 42), none, [], false⟩,
    ⟨1, .q .mv, [.tmp 0], (some 43), none, [], false⟩,
    ⟨2, .q .len, [.tmp 43], (some 44), none, [], false⟩,
    ⟨3, .q (.bin .eql), [.tmp 42, .tmp 44], (some 45), none, [], false⟩])
  (.cond (.tmp 45)
   (.seq
   (.reg [⟨0, .q .mv, [.const (.slice none 0 0)], (some 6), none, [], false⟩,
     ⟨1, .q .mv, [.const (.int .i64 1)], (some 7), none, [], false⟩])
   .ret)
   .skip))
  (.seq
  (.reg [⟨0, .q .mv, [.tmp 8], (some 46), none, [], false⟩,
    ⟨1, .q .mv, [.tmp 11], (some 47), none, [], false⟩,
    ⟨2, .q .mv, [.tmp 0], (some 48), none, [], false⟩,
    ⟨3, .q .mv, [.tmp 9], (some 49), none, [], false⟩,
    ⟨4, .q (.iad 1), [.tmp 48, .tmp 49], (some 50), none, [], false⟩,
    ⟨5, .q .ld, [.tmp 50], (some 51), none, [], false⟩,
    ⟨6, .q (.iad 1), [.tmp 46, .tmp 47], (some 52), none, [], false⟩,
    ⟨7, .e (.st 1), [.tmp 52, .tmp 51], none, none, [], false⟩])
  (.reg [⟨0, .q .mv, [.tmp 9], (some 53), none, [], false⟩,
    ⟨1, .q (.bin .add), [.tmp 53, .const (.int .i64 1)], (some 54), none, [], false⟩,
    ⟨2, .q .mv, [.tmp 54], (some 9), none, [], false⟩]))))
 (.reg [⟨0, .q .mv, [.tmp 11], (some 40), none, [], false⟩,
   ⟨1, .q (.bin .add), [.tmp 40, .const (.int .i64 1)], (some 41), none, [], false⟩,
   ⟨2, .q .mv, [.tmp 41], (some 11), none, [], false⟩])))
def L12_1 : LCode :=
 (.seq
 (.seq
 (.reg [⟨0, .q .mv, [.tmp 10], (some 22), none, [], false⟩,
   ⟨1, .q .mv, [.tmp 1], (some 23), none, [], false⟩,
   ⟨2, .q .len, [.tmp 23], (some 24), none, [], false⟩,
   ⟨3, .q (.bin .lss), [.tmp 22, .tmp 24], (some 25), none, [], false⟩])
 (.cond (.tmp 25)
  .skip
  (.exit 0)))
 (.seq
 (.block 1
  (.seq
  (.reg [⟨0, .q .mv, [.tmp 1], (some 28), none, [], false⟩,
    ⟨1, .q .mv, [.tmp 10], (some 29), none, [], false⟩,
    ⟨2, .q (.iad 2), [.tmp 28, .tmp 29], (some 30), none, [], false⟩,
    ⟨3, .q (.fad 0), [.tmp 30], (some 31), none, [], false⟩,
    ⟨4, .q .ld, [.tmp 31], (some 32), none, [], false⟩,
    ⟨5, .q .mv, [.tmp 32], (some 11), none, [], false⟩])
  (.block 2
   (.loop L12_0))))
 (.reg [⟨0, .q .mv, [.tmp 10], (some 26), none, [], false⟩,
   ⟨1, .q (.bin .add), [.tmp 26, .const (.int .i64 1)], (some 27), none, [], false⟩,
   ⟨2, .q .mv, [.tmp 27], (some 10), none, [], false⟩])))
def L12_2 : LCode :=
 (.seq
 (.seq
 (.reg [⟨0, .q .mv, [.tmp 9], (some 55), none, [], false⟩,
   ⟨1, .q .mv, [.tmp 0], (some 56), none, [], false⟩,
   ⟨2, .q .len, [.tmp 56], (some 57), none, [], false⟩,
   ⟨3, .q (.bin .neq), [.tmp 55, .tmp 57], (some 58), none, [], false⟩])
 (.cond (.tmp 58)
  (.seq
  (.reg [⟨0, .q .mv, [.const (.slice none 0 0)], (some 6), none, [], false⟩,
    ⟨1, .q .mv, [.const (.int .i64 1)], (some 7), none, [], false⟩])
  .ret)
  .skip))
 (.seq
 (.reg [⟨0, .q .mv, [.tmp 8], (some 59), none, [], false⟩,
   ⟨1, .q .mv, [.tmp 59], (some 6), none, [], false⟩,
   ⟨2, .q .mv, [.const (.int .i64 0)], (some 7), none, [], false⟩])
 .ret))
def L12 : LFn :=
 ⟨60, [.t 6, .t 7],
 (.seq
 (.reg [⟨0, .q .mv, [.const (.slice none 0 0)], (some 6), none, [], false⟩,
   ⟨1, .q .mv, [.const (.int .i64 0)], (some 7), none, [], false⟩])
 (.seq
 (.seq
 (.reg [⟨0, .q .mv, [.tmp 1], (some 12), none, [], false⟩,
   ⟨1, .q .mv, [.tmp 2], (some 13), none, [], false⟩,
   ⟨2, .e (.call 14), [.tmp 12, .tmp 13], (some 14), none, [], false⟩,
   ⟨3, .q (.un .not), [.tmp 14], (some 15), none, [], false⟩,
   ⟨4, .q .mv, [.tmp 15], (some 16), none, [], false⟩,
   ⟨5, .q .mv, [.tmp 2], (some 17), (some (16, false)), [], false⟩,
   ⟨6, .q (.bin .gtr), [.tmp 17, .const (.int .i64 4194304)], (some 18), (some (16, false)), [], false⟩,
   ⟨7, .q .pick, [.tmp 16, .const (.bool true), .tmp 18], (some 19), none, [], false⟩])
 (.cond (.tmp 19)
  (.seq
  (.reg [⟨0, .q .mv, [.const (.slice none 0 0)], (some 6), none, [], false⟩,
    ⟨1, .q .mv, [.const (.int .i64 1)], (some 7), none, [], false⟩])
  .ret)
  .skip))
 (.seq
 (.reg [⟨0, .q .mv, [.tmp 2], (some 20), none, [], false⟩,
   ⟨1, .e (.mks 5 1 1 #[(.int .u8 0)]), [.tmp 20, .tmp 20], (some 21), none, [], false⟩,
   ⟨2, .q .mv, [.tmp 21], (some 8), none, [], false⟩])
 (.seq
 (.reg [⟨0, .q .mv, [.const (.int .i64 0)], (some 9), none, [], false⟩])
 (.seq
 (.seq
 (.reg [⟨0, .q .mv, [.const (.int .i64 0)], (some 10), none, [], false⟩])
 (.block 0
  (.loop L12_1)))
 L12_2)))))⟩
theorem low12 : lowFn Try.prog Try.f12 = some L12 := by kernel_rfl
theorem call12 {args : List Value} {H : Heap} {S : Ending → Heap → Prop} (hn : args.length ≤ L12.n) (h : awpC Try.prog L12.body (retQ L12.results S) (fun ch H => S (.panicked ch) H) (env0 args) H) : ACalls Try.prog 12 args.toArray H S := acalls mixed Try.func12 low12 hn h
/-- satchel/sparse.Valid -/
def L13 : LFn :=
 ⟨8, [.t 4],
 (.seq
 (.reg [⟨0, .q .mv, [.const (.bool false)], (some 4), none, [], false⟩])
 (.seq
 (.reg [⟨0, .q .mv, [.tmp 0], (some 5), none, [], false⟩,
   ⟨1, .q .mv, [.tmp 1], (some 6), none, [], false⟩,
   ⟨2, .e (.call 20), [.tmp 5, .tmp 6], (some 7), none, [], false⟩,
   ⟨3, .q .mv, [.tmp 7], (some 4), none, [], false⟩])
 .ret))⟩
theorem low13 : lowFn Try.prog Try.f13 = some L13 := by kernel_rfl
theorem call13 {args : List Value} {H : Heap} {S : Ending → Heap → Prop} (hn : args.length ≤ L13.n) (h : awpC Try.prog L13.body (retQ L13.results S) (fun ch H => S (.panicked ch) H) (env0 args) H) : ACalls Try.prog 13 args.toArray H S := acalls mixed Try.func13 low13 hn h
/-- satchel/satchelref15.Valid -/
def L14_0 : LCode :=
 (.seq
 (.seq
 (.reg [⟨0, .q .mv, [.tmp 6], (some 14), none, [], false⟩,
   ⟨1, .q .mv, [.tmp 0], (some 15), none, [], false⟩,
   ⟨2, .q .len, [.tmp 15], (some 16), none, [], false⟩,
   ⟨3, .q (.bin .lss), [.tmp 14, .tmp 16], (some 17), none, [], false⟩])
 (.cond (.tmp 17)
  .skip
  (.exit 0)))
 (.seq
 (.block 1
  (.seq
  (.seq
  (.reg [⟨0, .q .mv, [.tmp 0], (some 20), none, [], false⟩,
    ⟨1, .q .mv, [.tmp 6], (some 21), none, [], false⟩,
    ⟨2, .q (.iad 2), [.tmp 20, .tmp 21], (some 22), none, [], false⟩,
    ⟨3, .q (.fad 0), [.tmp 22], (some 23), none, [], false⟩,
    ⟨4, .q .ld, [.tmp 23], (some 24), none, [], false⟩,
    ⟨5, .q .mv, [.tmp 5], (some 25), none, [], false⟩,
    ⟨6, .q (.bin .lss), [.tmp 24, .tmp 25], (some 26), none, [], false⟩,
    ⟨7, .q .mv, [.tmp 26], (some 27), none, [], false⟩,
    ⟨8, .q .mv, [.tmp 0], (some 28), (some (27, false)), [], false⟩,
    ⟨9, .q .mv, [.tmp 6], (some 29), (some (27, false)), [], false⟩,
    ⟨10, .q (.iad 2), [.tmp 28, .tmp 29], (some 30), (some (27, false)), [], false⟩,
    ⟨11, .q (.fad 1), [.tmp 30], (some 31), (some (27, false)), [], false⟩,
    ⟨12, .q .ld, [.tmp 31], (some 32), (some (27, false)), [], false⟩,
    ⟨13, .q .mv, [.tmp 0], (some 33), (some (27, false)), [], false⟩,
    ⟨14, .q .mv, [.tmp 6], (some 34), (some (27, false)), [], false⟩,
    ⟨15, .q (.iad 2), [.tmp 33, .tmp 34], (some 35), (some (27, false)), [], false⟩,
    ⟨16, .q (.fad 0), [.tmp 35], (some 36), (some (27, false)), [], false⟩,
    ⟨17, .q .ld, [.tmp 36], (some 37), (some (27, false)), [], false⟩,
    ⟨18, .q (.bin .lss), [.tmp 32, .tmp 37], (some 38), (some (27, false)), [], false⟩,
    ⟨19, .q .pick, [.tmp 27, .const (.bool true), .tmp 38], (some 39), none, [], false⟩,
    ⟨20, .q .mv, [.tmp 39], (some 40), none, [], false⟩,
    ⟨21, .q .mv, [.tmp 0], (some 41), (some (40, false)), [], false⟩,
    ⟨22, .q .mv, [.tmp 6], (some 42), (some (40, false)), [], false⟩,
    ⟨23, .q (.iad 2), [.tmp 41, .tmp 42], (some 43), (some (40, false)), [], false⟩,
    ⟨24, .q (.fad 1), [.tmp 43], (some 44), (some (40, false)), [], false⟩,
    ⟨25, .q .ld, [.tmp 44], (some 45), (some (40, false)), [], false⟩,
    ⟨26, .q .mv, [.tmp 1], (some 46), (some (40, false)), [], false⟩,
    ⟨27, .q (.bin .gtr), [.tmp 45, .tmp 46], (some 47), (some (40, false)), [], false⟩,
    ⟨28, .q .pick, [.tmp 40, .const (.bool true), .tmp 47], (some 48), none, [], false⟩])
  (.cond (.tmp 48)
   (.seq
   (.reg [⟨0, .q .mv, [.const (.bool false)], (some 4), none, [], false⟩])
   .ret)
   .skip))
  (.reg [⟨0, .q .mv, [.tmp 0], (some 49), none, [], false⟩,
    ⟨1, .q .mv, [.tmp 6], (some 50), none, [], false⟩,
    ⟨2, .q (.iad 2), [.tmp 49, .tmp 50], (some 51), none, [], false⟩,
    ⟨3, .q (.fad 1), [.tmp 51], (some 52), none, [], false⟩,
    ⟨4, .q .ld, [.tmp 52], (some 53), none, [], false⟩,
    ⟨5, .q .mv, [.tmp 53], (some 5), none, [], false⟩])))
 (.reg [⟨0, .q .mv, [.tmp 6], (some 18), none, [], false⟩,
   ⟨1, .q (.bin .add), [.tmp 18, .const (.int .i64 1)], (some 19), none, [], false⟩,
   ⟨2, .q .mv, [.tmp 19], (some 6), none, [], false⟩])))
def L14 : LFn :=
 ⟨54, [.t 4],
 (.seq
 (.reg [⟨0, .q .mv, [.const (.bool false)], (some 4), none, [], false⟩])
 (.seq
 (.seq
 (.reg [⟨0, .q .mv, [.tmp 1], (some 7), none, [], false⟩,
   ⟨1, .q (.bin .lss), [.tmp 7, .const (.int .i64 0)], (some 8), none, [], false⟩,
   ⟨2, .q .mv, [.tmp 8], (some 9), none, [], false⟩,
   ⟨3, .q .mv, [.tmp 0], (some 10), (some (9, false)), [], false⟩,
   ⟨4, .q .len, [.tmp 10], (some 11), (some (9, false)), [], false⟩,
   ⟨5, .q (.bin .gtr), [.tmp 11, .const (.int .i64 65536)], (some 12), (some (9, false)), [], false⟩,
   ⟨6, .q .pick, [.tmp 9, .const (.bool true), .tmp 12], (some 13), none, [], false⟩])
 (.cond (.tmp 13)
  (.seq
  (.reg [⟨0, .q .mv, [.const (.bool false)], (some 4), none, [], false⟩])
  .ret)
  .skip))
 (.seq
 (.reg [⟨0, .q .mv, [.const (.int .i64 0)], (some 5), none, [], false⟩])
 (.seq
 (.seq
 (.reg [⟨0, .q .mv, [.const (.int .i64 0)], (some 6), none, [], false⟩])
 (.block 0
  (.loop L14_0)))
 (.seq
 (.reg [⟨0, .q .mv, [.const (.bool true)], (some 4), none, [], false⟩])
 .ret)))))⟩
theorem low14 : lowFn Try.prog Try.f14 = some L14 := by kernel_rfl
theorem call14 {args : List Value} {H : Heap} {S : Ending → Heap → Prop} (hn : args.length ≤ L14.n) (h : awpC Try.prog L14.body (retQ L14.results S) (fun ch H => S (.panicked ch) H) (env0 args) H) : ACalls Try.prog 14 args.toArray H S := acalls mixed Try.func14 low14 hn h
/-- satchel/satchellaw15.ranges -/
def L15_0 : LCode :=
 (.seq
 (.seq
 (.reg [⟨0, .q .mv, [.tmp 5], (some 11), none, [], false⟩,
   ⟨1, .q .mv, [.tmp 0], (some 12), none, [], false⟩,
   ⟨2, .q .len, [.tmp 12], (some 13), none, [], false⟩,
   ⟨3, .q (.bin .lss), [.tmp 11, .tmp 13], (some 14), none, [], false⟩])
 (.cond (.tmp 14)
  .skip
  (.exit 0)))
 (.seq
 (.block 1
  (.seq
  (.reg [⟨0, .q .mv, [.tmp 0], (some 17), none, [], false⟩,
    ⟨1, .q .mv, [.tmp 5], (some 18), none, [], false⟩,
    ⟨2, .q (.iad 2), [.tmp 17, .tmp 18], (some 19), none, [], false⟩,
    ⟨3, .q (.ldn 2), [.tmp 19], (some 20), none, [], false⟩,
    ⟨4, .q .mv, [.tmp 1], (some 21), none, [], false⟩,
    ⟨5, .q .mv, [.tmp 5], (some 22), none, [], false⟩,
    ⟨6, .q (.iad 2), [.tmp 21, .tmp 22], (some 23), none, [], false⟩,
    ⟨7, .q (.ldn 2), [.tmp 23], (some 24), none, [], false⟩,
    ⟨8, .q (.eqa [(0, .i), (1, .i)] true), [.tmp 20, .tmp 24], (some 25), none, [], false⟩])
  (.cond (.tmp 25)
   (.seq
   (.reg [⟨0, .q .mv, [.const (.bool false)], (some 4), none, [], false⟩])
   .ret)
   .skip)))
 (.reg [⟨0, .q .mv, [.tmp 5], (some 15), none, [], false⟩,
   ⟨1, .q (.bin .add), [.tmp 15, .const (.int .i64 1)], (some 16), none, [], false⟩,
   ⟨2, .q .mv, [.tmp 16], (some 5), none, [], false⟩])))
def L15 : LFn :=
 ⟨26, [.t 4],
 (.seq
 (.reg [⟨0, .q .mv, [.const (.bool false)], (some 4), none, [], false⟩])
 (.seq
 (.seq
 (.reg [⟨0, .q .mv, [.tmp 0], (some 6), none, [], false⟩,
   ⟨1, .q .len, [.tmp 6], (some 7), none, [], false⟩,
   ⟨2, .q .mv, [.tmp 1], (some 8), none, [], false⟩,
   ⟨3, .q .len, [.tmp 8], (some 9), none, [], false⟩,
   ⟨4, .q (.bin .neq), [.tmp 7, .tmp 9], (some 10), none, [], false⟩])
 (.cond (.tmp 10)
  (.seq
  (.reg [⟨0, .q .mv, [.const (.bool false)], (some 4), none, [], false⟩])
  .ret)
  .skip))
 (.seq
 (.seq
 (.reg [⟨0, .q .mv, [.const (.int .i64 0)], (some 5), none, [], false⟩])
 (.block 0
  (.loop L15_0)))
 (.seq
 (.reg [⟨0, .q .mv, [.const (.bool true)], (some 4), none, [], false⟩])
 .ret))))⟩
theorem low15 : lowFn Try.prog Try.f15 = some L15 := by kernel_rfl
theorem call15 {args : List Value} {H : Heap} {S : Ending → Heap → Prop} (hn : args.length ≤ L15.n) (h : awpC Try.prog L15.body (retQ L15.results S) (fun ch H => S (.panicked ch) H) (env0 args) H) : ACalls Try.prog 15 args.toArray H S := acalls mixed Try.func15 low15 hn h
/-- satchel/satchellaw15.same -/
def L16_0 : LCode :=
 (.seq
 (.seq
 (.reg [⟨0, .q .mv, [.tmp 5], (some 11), none, [], false⟩,
   ⟨1, .q .mv, [.tmp 0], (some 12), none, [], false⟩,
   ⟨2, .q .len, [.tmp 12], (some 13), none, [], false⟩,
   ⟨3, .q (.bin .lss), [.tmp 11, .tmp 13], (some 14), none, [], false⟩])
 (.cond (.tmp 14)
  .skip
  (.exit 0)))
 (.seq
 (.block 1
  (.seq
  (.reg [⟨0, .q .mv, [.tmp 0], (some 17), none, [], false⟩,
    ⟨1, .q .mv, [.tmp 5], (some 18), none, [], false⟩,
    ⟨2, .q (.iad 1), [.tmp 17, .tmp 18], (some 19), none, [], false⟩,
    ⟨3, .q .ld, [.tmp 19], (some 20), none, [], false⟩,
    ⟨4, .q .mv, [.tmp 1], (some 21), none, [], false⟩,
    ⟨5, .q .mv, [.tmp 5], (some 22), none, [], false⟩,
    ⟨6, .q (.iad 1), [.tmp 21, .tmp 22], (some 23), none, [], false⟩,
    ⟨7, .q .ld, [.tmp 23], (some 24), none, [], false⟩,
    ⟨8, .q (.bin .neq), [.tmp 20, .tmp 24], (some 25), none, [], false⟩])
  (.cond (.tmp 25)
   (.seq
   (.reg [⟨0, .q .mv, [.const (.bool false)], (some 4), none, [], false⟩])
   .ret)
   .skip)))
 (.reg [⟨0, .q .mv, [.tmp 5], (some 15), none, [], false⟩,
   ⟨1, .q (.bin .add), [.tmp 15, .const (.int .i64 1)], (some 16), none, [], false⟩,
   ⟨2, .q .mv, [.tmp 16], (some 5), none, [], false⟩])))
def L16 : LFn :=
 ⟨26, [.t 4],
 (.seq
 (.reg [⟨0, .q .mv, [.const (.bool false)], (some 4), none, [], false⟩])
 (.seq
 (.seq
 (.reg [⟨0, .q .mv, [.tmp 0], (some 6), none, [], false⟩,
   ⟨1, .q .len, [.tmp 6], (some 7), none, [], false⟩,
   ⟨2, .q .mv, [.tmp 1], (some 8), none, [], false⟩,
   ⟨3, .q .len, [.tmp 8], (some 9), none, [], false⟩,
   ⟨4, .q (.bin .neq), [.tmp 7, .tmp 9], (some 10), none, [], false⟩])
 (.cond (.tmp 10)
  (.seq
  (.reg [⟨0, .q .mv, [.const (.bool false)], (some 4), none, [], false⟩])
  .ret)
  .skip))
 (.seq
 (.seq
 (.reg [⟨0, .q .mv, [.const (.int .i64 0)], (some 5), none, [], false⟩])
 (.block 0
  (.loop L16_0)))
 (.seq
 (.reg [⟨0, .q .mv, [.const (.bool true)], (some 4), none, [], false⟩])
 .ret))))⟩
theorem low16 : lowFn Try.prog Try.f16 = some L16 := by kernel_rfl
theorem call16 {args : List Value} {H : Heap} {S : Ending → Heap → Prop} (hn : args.length ≤ L16.n) (h : awpC Try.prog L16.body (retQ L16.results S) (fun ch H => S (.panicked ch) H) (env0 args) H) : ACalls Try.prog 16 args.toArray H S := acalls mixed Try.func16 low16 hn h
/-- satchel/satchellaw15.kept -/
def L17_0 : LCode :=
 (.seq
 (.seq
 (.reg [⟨0, .q .mv, [.tmp 5], (some 6), none, [], false⟩,
   ⟨1, .q .mv, [.tmp 0], (some 7), none, [], false⟩,
   ⟨2, .q .len, [.tmp 7], (some 8), none, [], false⟩,
   ⟨3, .q (.bin .lss), [.tmp 6, .tmp 8], (some 9), none, [], false⟩])
 (.cond (.tmp 9)
  .skip
  (.exit 0)))
 (.seq
 (.block 1
  (.seq
  (.reg [⟨0, .q .mv, [.tmp 5], (some 12), none, [], false⟩,
    ⟨1, .q .mv, [.tmp 1], (some 13), none, [], false⟩,
    ⟨2, .q .len, [.tmp 13], (some 14), none, [], false⟩,
    ⟨3, .q (.bin .lss), [.tmp 12, .tmp 14], (some 15), none, [], false⟩,
    ⟨4, .q .mv, [.tmp 15], (some 16), none, [], false⟩,
    ⟨5, .q .mv, [.tmp 0], (some 17), (some (16, true)), [], false⟩,
    ⟨6, .q .mv, [.tmp 5], (some 18), (some (16, true)), [], false⟩,
    ⟨7, .q (.iad 1), [.tmp 17, .tmp 18], (some 19), (some (16, true)), [], false⟩,
    ⟨8, .q .ld, [.tmp 19], (some 20), (some (16, true)), [], false⟩,
    ⟨9, .q .mv, [.tmp 1], (some 21), (some (16, true)), [], false⟩,
    ⟨10, .q .mv, [.tmp 5], (some 22), (some (16, true)), [], false⟩,
    ⟨11, .q (.iad 1), [.tmp 21, .tmp 22], (some 23), (some (16, true)), [], false⟩,
    ⟨12, .q .ld, [.tmp 23], (some 24), (some (16, true)), [], false⟩,
    ⟨13, .q (.bin .neq), [.tmp 20, .tmp 24], (some 25), (some (16, true)), [], false⟩,
    ⟨14, .q .pick, [.tmp 16, .tmp 25, .const (.bool false)], (some 26), none, [], false⟩,
    ⟨15, .q .mv, [.tmp 26], (some 27), none, [], false⟩,
    ⟨16, .q .mv, [.tmp 5], (some 28), (some (27, false)), [], false⟩,
    ⟨17, .q .mv, [.tmp 1], (some 29), (some (27, false)), [], false⟩,
    ⟨18, .q .len, [.tmp 29], (some 30), (some (27, false)), [], false⟩,
    ⟨19, .q (.bin .geq), [.tmp 28, .tmp 30], (some 31), (some (27, false)), [], false⟩,
    ⟨20, .q .mv, [.tmp 31], (some 32), (some (27, false)), [], false⟩,
    ⟨21, .q .mv, [.tmp 0], (some 33), (some (32, true)), [], false⟩,
    ⟨22, .q .mv, [.tmp 5], (some 34), (some (32, true)), [], false⟩,
    ⟨23, .q (.iad 1), [.tmp 33, .tmp 34], (some 35), (some (32, true)), [], false⟩,
    ⟨24, .q .ld, [.tmp 35], (some 36), (some (32, true)), [], false⟩,
    ⟨25, .q .mv, [.tmp 5], (some 37), (some (32, true)), [], false⟩,
    ⟨26, .q (.bin .add), [.const (.int .i64 171), .tmp 37], (some 38), (some (32, true)), [], false⟩,
    ⟨27, .q .mv, [.tmp 1], (some 39), (some (32, true)), [], false⟩,
    ⟨28, .q .len, [.tmp 39], (some 40), (some (32, true)), [], false⟩,
    ⟨29, .q (.bin .sub), [.tmp 38, .tmp 40], (some 41), (some (32, true)), [], false⟩,
    ⟨30, .q (.cvi .u8), [.tmp 41], (some 42), (some (32, true)), [], false⟩,
    ⟨31, .q (.bin .neq), [.tmp 36, .tmp 42], (some 43), (some (32, true)), [], false⟩,
    ⟨32, .q .pick, [.tmp 32, .tmp 43, .const (.bool false)], (some 44), (some (27, false)), [], false⟩,
    ⟨33, .q .pick, [.tmp 27, .const (.bool true), .tmp 44], (some 45), none, [], false⟩])
  (.cond (.tmp 45)
   (.seq
   (.reg [⟨0, .q .mv, [.const (.bool false)], (some 4), none, [], false⟩])
   .ret)
   .skip)))
 (.reg [⟨0, .q .mv, [.tmp 5], (some 10), none, [], false⟩,
   ⟨1, .q (.bin .add), [.tmp 10, .const (.int .i64 1)], (some 11), none, [], false⟩,
   ⟨2, .q .mv, [.tmp 11], (some 5), none, [], false⟩])))
def L17 : LFn :=
 ⟨46, [.t 4],
 (.seq
 (.reg [⟨0, .q .mv, [.const (.bool false)], (some 4), none, [], false⟩])
 (.seq
 (.seq
 (.reg [⟨0, .q .mv, [.const (.int .i64 0)], (some 5), none, [], false⟩])
 (.block 0
  (.loop L17_0)))
 (.seq
 (.reg [⟨0, .q .mv, [.const (.bool true)], (some 4), none, [], false⟩])
 .ret)))⟩
theorem low17 : lowFn Try.prog Try.f17 = some L17 := by kernel_rfl
theorem call17 {args : List Value} {H : Heap} {S : Ending → Heap → Prop} (hn : args.length ≤ L17.n) (h : awpC Try.prog L17.body (retQ L17.results S) (fun ch H => S (.panicked ch) H) (env0 args) H) : ACalls Try.prog 17 args.toArray H S := acalls mixed Try.func17 low17 hn h
/-- satchel/satchellaw15.written -/
def L18_0 : LCode :=
 (.seq
 (.seq
 (.reg [⟨0, .q .mv, [.tmp 2], (some 4), none, [], false⟩,
   ⟨1, .q .mv, [.tmp 0], (some 5), none, [], false⟩,
   ⟨2, .q .len, [.tmp 5], (some 6), none, [], false⟩,
   ⟨3, .q (.bin .lss), [.tmp 4, .tmp 6], (some 7), none, [], false⟩])
 (.cond (.tmp 7)
  .skip
  (.exit 0)))
 (.seq
 (.block 1
  (.reg [⟨0, .q .mv, [.tmp 0], (some 10), none, [], false⟩,
    ⟨1, .q .mv, [.tmp 2], (some 11), none, [], false⟩,
    ⟨2, .q (.build #[(.int .i64 0), (.int .i64 0)] [(0, 1), (1, 1)]), [.const (.int .i64 9), .const (.int .i64 1)], (some 12), none, [], false⟩,
    ⟨3, .q (.iad 2), [.tmp 10, .tmp 11], (some 13), none, [], false⟩,
    ⟨4, .e (.st 2), [.tmp 13, .tmp 12], none, none, [], false⟩]))
 (.reg [⟨0, .q .mv, [.tmp 2], (some 8), none, [], false⟩,
   ⟨1, .q (.bin .add), [.tmp 8, .const (.int .i64 1)], (some 9), none, [], false⟩,
   ⟨2, .q .mv, [.tmp 9], (some 2), none, [], false⟩])))
def L18_1 : LCode :=
 (.seq
 (.seq
 (.reg [⟨0, .q .mv, [.tmp 3], (some 14), none, [], false⟩,
   ⟨1, .q (.bin .lss), [.tmp 14, .const (.int .i64 40)], (some 15), none, [], false⟩])
 (.cond (.tmp 15)
  .skip
  (.exit 2)))
 (.seq
 (.block 3
  (.reg [⟨0, .q .mv, [.tmp 0], (some 18), none, [], false⟩,
    ⟨1, .q (.build #[(.int .i64 0), (.int .i64 0)] [(0, 1), (1, 1)]), [.const (.int .i64 8), .const (.int .i64 1)], (some 19), none, [], false⟩,
    ⟨2, .e (.lits 26 #[(.int .i64 0), (.int .i64 0)] 1 [(0, 2)]), [.tmp 19], (some 20), none, [], false⟩,
    ⟨3, .e (.app 26 2 16 #[(.int .i64 0), (.int .i64 0)]), [.tmp 18, .tmp 20], (some 21), none, [], false⟩,
    ⟨4, .q .mv, [.tmp 21], (some 0), none, [], false⟩]))
 (.reg [⟨0, .q .mv, [.tmp 3], (some 16), none, [], false⟩,
   ⟨1, .q (.bin .add), [.tmp 16, .const (.int .i64 1)], (some 17), none, [], false⟩,
   ⟨2, .q .mv, [.tmp 17], (some 3), none, [], false⟩])))
def L18 : LFn :=
 ⟨22, [],
 (.seq
 (.seq
 (.reg [⟨0, .q .mv, [.const (.int .i64 0)], (some 2), none, [], false⟩])
 (.block 0
  (.loop L18_0)))
 (.seq
 (.reg [⟨0, .q .mv, [.const (.int .i64 0)], (some 3), none, [], false⟩])
 (.block 2
  (.loop L18_1))))⟩
theorem low18 : lowFn Try.prog Try.f18 = some L18 := by kernel_rfl
theorem call18 {args : List Value} {H : Heap} {S : Ending → Heap → Prop} (hn : args.length ≤ L18.n) (h : awpC Try.prog L18.body (retQ L18.results S) (fun ch H => S (.panicked ch) H) (env0 args) H) : ACalls Try.prog 18 args.toArray H S := acalls mixed Try.func18 low18 hn h
/-- satchel/satchellaw15.full -/
def L19_0 : LCode :=
 (.seq
 (.seq
 (.reg [⟨0, .q .mv, [.tmp 4], (some 6), none, [], false⟩,
   ⟨1, .q .mv, [.tmp 0], (some 7), none, [], false⟩,
   ⟨2, .q .len, [.tmp 7], (some 8), none, [], false⟩,
   ⟨3, .q (.bin .lss), [.tmp 6, .tmp 8], (some 9), none, [], false⟩])
 (.cond (.tmp 9)
  .skip
  (.exit 0)))
 (.seq
 (.block 1
  (.reg [⟨0, .q .mv, [.tmp 0], (some 12), none, [], false⟩,
    ⟨1, .q .mv, [.tmp 4], (some 13), none, [], false⟩,
    ⟨2, .q .mv, [.tmp 1], (some 14), none, [], false⟩,
    ⟨3, .q (.iad 1), [.tmp 12, .tmp 13], (some 15), none, [], false⟩,
    ⟨4, .e (.st 1), [.tmp 15, .tmp 14], none, none, [], false⟩]))
 (.reg [⟨0, .q .mv, [.tmp 4], (some 10), none, [], false⟩,
   ⟨1, .q (.bin .add), [.tmp 10, .const (.int .i64 1)], (some 11), none, [], false⟩,
   ⟨2, .q .mv, [.tmp 11], (some 4), none, [], false⟩])))
def L19_1 : LCode :=
 (.seq
 (.seq
 (.reg [⟨0, .q .mv, [.tmp 5], (some 16), none, [], false⟩,
   ⟨1, .q (.bin .lss), [.tmp 16, .const (.int .i64 90)], (some 17), none, [], false⟩])
 (.cond (.tmp 17)
  .skip
  (.exit 2)))
 (.seq
 (.block 3
  (.reg [⟨0, .q .mv, [.tmp 0], (some 20), none, [], false⟩,
    ⟨1, .q .mv, [.tmp 1], (some 21), none, [], false⟩,
    ⟨2, .e (.lits 5 #[(.int .u8 0)] 1 [(0, 1)]), [.tmp 21], (some 22), none, [], false⟩,
    ⟨3, .e (.app 5 1 1 #[(.int .u8 0)]), [.tmp 20, .tmp 22], (some 23), none, [], false⟩,
    ⟨4, .q .mv, [.tmp 23], (some 0), none, [], false⟩]))
 (.reg [⟨0, .q .mv, [.tmp 5], (some 18), none, [], false⟩,
   ⟨1, .q (.bin .add), [.tmp 18, .const (.int .i64 1)], (some 19), none, [], false⟩,
   ⟨2, .q .mv, [.tmp 19], (some 5), none, [], false⟩])))
def L19 : LFn :=
 ⟨24, [],
 (.seq
 (.seq
 (.reg [⟨0, .q .mv, [.const (.int .i64 0)], (some 4), none, [], false⟩])
 (.block 0
  (.loop L19_0)))
 (.seq
 (.reg [⟨0, .q .mv, [.const (.int .i64 0)], (some 5), none, [], false⟩])
 (.block 2
  (.loop L19_1))))⟩
theorem low19 : lowFn Try.prog Try.f19 = some L19 := by kernel_rfl
theorem call19 {args : List Value} {H : Heap} {S : Ending → Heap → Prop} (hn : args.length ≤ L19.n) (h : awpC Try.prog L19.body (retQ L19.results S) (fun ch H => S (.panicked ch) H) (env0 args) H) : ACalls Try.prog 19 args.toArray H S := acalls mixed Try.func19 low19 hn h
/-- satchel/sparse.fits -/
def L20_0 : LCode :=
 (.seq
 (.reg [⟨0, .q (.bin .lss), [.tmp 17, .tmp 16], (some 18), none, [], false⟩])
 (.seq
 (.cond (.tmp 18)
  .skip
  (.exit 0))
 (.seq
 (.block 1
  (.seq
  (.reg [⟨0, .q (.iad 2), [.tmp 15, .tmp 17], (some 19), none, [], false⟩,
    ⟨1, .q (.ldn 2), [.tmp 19], (some 20), none, [], false⟩,
    ⟨2, .e (.new #[(.int .i64 0), (.int .i64 0)] 26), [], (some 7), none, [], false⟩,
    ⟨3, .e (.st 2), [.tmp 7, .tmp 20], none, none, [], false⟩])
  (.seq
  (.seq
  (.reg [⟨0, .q (.fad 0), [.tmp 7], (some 21), none, [], false⟩,
    ⟨1, .q .ld, [.tmp 21], (some 22), none, [], false⟩,
    ⟨2, .q .mv, [.tmp 5], (some 23), none, [], false⟩,
    ⟨3, .q (.bin .lss), [.tmp 22, .tmp 23], (some 24), none, [], false⟩,
    ⟨4, .q .mv, [.tmp 24], (some 25), none, [], false⟩,
    ⟨5, .q (.fad 1), [.tmp 7], (some 26), (some (25, false)), [], false⟩,
    ⟨6, .q .ld, [.tmp 26], (some 27), (some (25, false)), [], false⟩,
    ⟨7, .q (.fad 0), [.tmp 7], (some 28), (some (25, false)), [], false⟩,
    ⟨8, .q .ld, [.tmp 28], (some 29), (some (25, false)), [], false⟩,
    ⟨9, .q (.bin .lss), [.tmp 27, .tmp 29], (some 30), (some (25, false)), [], false⟩,
    ⟨10, .q .pick, [.tmp 25, .const (.bool true), .tmp 30], (some 31), none, [], false⟩,
    ⟨11, .q .mv, [.tmp 31], (some 32), none, [], false⟩,
    ⟨12, .q (.fad 1), [.tmp 7], (some 33), (some (32, false)), [], false⟩,
    ⟨13, .q .ld, [.tmp 33], (some 34), (some (32, false)), [], false⟩,
    ⟨14, .q .mv, [.tmp 1], (some 35), (some (32, false)), [], false⟩,
    ⟨15, .q (.bin .gtr), [.tmp 34, .tmp 35], (some 36), (some (32, false)), [], false⟩,
    ⟨16, .q .pick, [.tmp 32, .const (.bool true), .tmp 36], (some 37), none, [], false⟩])
  (.cond (.tmp 37)
   (.seq
   (.reg [⟨0, .q .mv, [.const (.bool false)], (some 4), none, [], false⟩])
   .ret)
   .skip))
  (.reg [⟨0, .q (.fad 1), [.tmp 7], (some 38), none, [], false⟩,
    ⟨1, .q .ld, [.tmp 38], (some 39), none, [], false⟩,
    ⟨2, .q .mv, [.tmp 39], (some 5), none, [], false⟩]))))
 (.reg [⟨0, .q (.bin .add), [.tmp 17, .const (.int .i64 1)], (some 40), none, [], false⟩,
   ⟨1, .q .mv, [.tmp 40], (some 17), none, [], false⟩]))))
def L20 : LFn :=
 ⟨41, [.t 4],
 (.seq
 (.reg [⟨0, .q .mv, [.const (.bool false)], (some 4), none, [], false⟩])
 (.seq
 (.seq
 (.reg [⟨0, .q .mv, [.tmp 1], (some 8), none, [], false⟩,
   ⟨1, .q (.bin .lss), [.tmp 8, .const (.int .i64 0)], (some 9), none, [], false⟩,
   ⟨2, .q .mv, [.tmp 9], (some 10), none, [], false⟩,
   ⟨3, .q .mv, [.tmp 0], (some 11), (some (10, false)), [], false⟩,
   ⟨4, .q .len, [.tmp 11], (some 12), (some (10, false)), [], false⟩,
   ⟨5, .q (.bin .gtr), [.tmp 12, .const (.int .i64 65536)], (some 13), (some (10, false)), [], false⟩,
   ⟨6, .q .pick, [.tmp 10, .const (.bool true), .tmp 13], (some 14), none, [], false⟩])
 (.cond (.tmp 14)
  (.seq
  (.reg [⟨0, .q .mv, [.const (.bool false)], (some 4), none, [], false⟩])
  .ret)
  .skip))
 (.seq
 (.reg [⟨0, .q .mv, [.const (.int .i64 0)], (some 5), none, [], false⟩])
 (.seq
 (.seq
 (.reg [⟨0, .q .mv, [.tmp 0], (some 15), none, [], false⟩,
   ⟨1, .q .len, [.tmp 15], (some 16), none, [], false⟩,
   ⟨2, .q .mv, [.const (.int .i64 0)], (some 17), none, [], false⟩])
 (.block 0
  (.loop L20_0)))
 (.seq
 (.reg [⟨0, .q .mv, [.const (.bool true)], (some 4), none, [], false⟩])
 .ret)))))⟩
theorem low20 : lowFn Try.prog Try.f20 = some L20 := by kernel_rfl
theorem call20 {args : List Value} {H : Heap} {S : Ending → Heap → Prop} (hn : args.length ≤ L20.n) (h : awpC Try.prog L20.body (retQ L20.results S) (fun ch H => S (.panicked ch) H) (env0 args) H) : ACalls Try.prog 20 args.toArray H S := acalls mixed Try.func20 low20 hn h
/-- satchel/sparse.total -/
def L21_0 : LCode :=
 (.seq
 (.reg [⟨0, .q (.bin .lss), [.tmp 8, .tmp 7], (some 9), none, [], false⟩])
 (.seq
 (.cond (.tmp 9)
  .skip
  (.exit 0))
 (.seq
 (.block 1
  (.seq
  (.reg [⟨0, .q (.iad 2), [.tmp 6, .tmp 8], (some 10), none, [], false⟩,
    ⟨1, .q (.ldn 2), [.tmp 10], (some 11), none, [], false⟩,
    ⟨2, .e (.new #[(.int .i64 0), (.int .i64 0)] 26), [], (some 5), none, [], false⟩,
    ⟨3, .e (.st 2), [.tmp 5, .tmp 11], none, none, [], false⟩])
  (.reg [⟨0, .q .mv, [.tmp 3], (some 12), none, [], false⟩,
    ⟨1, .q (.fad 1), [.tmp 5], (some 13), none, [], false⟩,
    ⟨2, .q .ld, [.tmp 13], (some 14), none, [], false⟩,
    ⟨3, .q (.fad 0), [.tmp 5], (some 15), none, [], false⟩,
    ⟨4, .q .ld, [.tmp 15], (some 16), none, [], false⟩,
    ⟨5, .q (.bin .sub), [.tmp 14, .tmp 16], (some 17), none, [], false⟩,
    ⟨6, .q (.bin .add), [.tmp 12, .tmp 17], (some 18), none, [], false⟩,
    ⟨7, .q .mv, [.tmp 18], (some 3), none, [], false⟩])))
 (.reg [⟨0, .q (.bin .add), [.tmp 8, .const (.int .i64 1)], (some 19), none, [], false⟩,
   ⟨1, .q .mv, [.tmp 19], (some 8), none, [], false⟩]))))
def L21 : LFn :=
 ⟨21, [.t 2],
 (.seq
 (.reg [⟨0, .q .mv, [.const (.int .i64 0)], (some 2), none, [], false⟩])
 (.seq
 (.reg [⟨0, .q .mv, [.const (.int .i64 0)], (some 3), none, [], false⟩])
 (.seq
 (.seq
 (.reg [⟨0, .q .mv, [.tmp 0], (some 6), none, [], false⟩,
   ⟨1, .q .len, [.tmp 6], (some 7), none, [], false⟩,
   ⟨2, .q .mv, [.const (.int .i64 0)], (some 8), none, [], false⟩])
 (.block 0
  (.loop L21_0)))
 (.seq
 (.reg [⟨0, .q .mv, [.tmp 3], (some 20), none, [], false⟩,
   ⟨1, .q .mv, [.tmp 20], (some 2), none, [], false⟩])
 .ret))))⟩
theorem low21 : lowFn Try.prog Try.f21 = some L21 := by kernel_rfl
theorem call21 {args : List Value} {H : Heap} {S : Ending → Heap → Prop} (hn : args.length ≤ L21.n) (h : awpC Try.prog L21.body (retQ L21.results S) (fun ch H => S (.panicked ch) H) (env0 args) H) : ACalls Try.prog 21 args.toArray H S := acalls mixed Try.func21 low21 hn h
end Go.Proofs.Ythflafgijfbpnaa.Low
