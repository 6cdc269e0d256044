/-
  Functions in short (out of the program's form in Lean, by the kernel).
-/
import Derived.Test.YtfdcolicpfellaaSepCode
import Derived.Test.YtfdcolicpfellaaProg
namespace Go.Proofs.Ytfdcolicpfellaa.Low
open Go Go.Proofs.Ytfdcolicpfellaa.Sep
theorem mixed : Try.prog.follows .mixedOrders = true := by kernel_rfl
/-- satchel/bits.NewCode -/
def L33_0 : LCode :=
 (.reg [⟨0, .q (.bin .add), [.tmp 27, .const (.int .i64 1)], (some 54), none, [], false⟩,
   ⟨1, .q .mv, [.tmp 54], (some 27), none, [], false⟩])
def L33_1 : LCode :=
 (.seq
 (.reg [⟨0, .q (.bin .lss), [.tmp 27, .tmp 26], (some 28), none, [], false⟩])
 (.seq
 (.cond (.tmp 28)
  .skip
  (.exit 0))
 (.seq
 (.block 1
  (.seq
  (.reg [⟨0, .q (.iad 1), [.tmp 25, .tmp 27], (some 29), none, [], false⟩,
    ⟨1, .q .ld, [.tmp 29], (some 30), none, [], false⟩,
    ⟨2, .q .mv, [.tmp 30], (some 7), none, [], false⟩])
  (.seq
  (.seq
  (.reg [⟨0, .q .mv, [.tmp 7], (some 31), none, [], false⟩,
    ⟨1, .q (.bin .lss), [.tmp 31, .const (.int .i64 0)], (some 32), none, [], false⟩,
    ⟨2, .q .mv, [.tmp 32], (some 33), none, [], false⟩,
    ⟨3, .q .mv, [.tmp 7], (some 34), (some (33, false)), [], false⟩,
    ⟨4, .q (.bin .gtr), [.tmp 34, .const (.int .i64 15)], (some 35), (some (33, false)), [], false⟩,
    ⟨5, .q .pick, [.tmp 33, .const (.bool true), .tmp 35], (some 36), none, [], false⟩])
  (.cond (.tmp 36)
   (.seq
   (.reg [⟨0, .q .mv, [.const (.pointer none)], (some 2), none, [], false⟩,
     ⟨1, .q .mv, [.const (.int .i64 51)], (some 3), none, [], false⟩])
   .ret)
   .skip))
  (.seq
  (.reg [⟨0, .q .mv, [.tmp 7], (some 37), none, [], false⟩,
    ⟨1, .q (.bin .gtr), [.tmp 37, .const (.int .i64 0)], (some 38), none, [], false⟩])
  (.cond (.tmp 38)
   (.seq
   (.reg [⟨0, .q .mv, [.tmp 4], (some 39), none, [], false⟩,
     ⟨1, .q .mv, [.tmp 7], (some 40), none, [], false⟩,
     ⟨2, .q .nilc, [.tmp 39], (some 41), none, [], false⟩,
     ⟨3, .q (.fad 2), [.tmp 41], (some 42), none, [], false⟩,
     ⟨4, .q (.iada 16 1), [.tmp 42, .tmp 40], (some 43), none, [], false⟩,
     ⟨5, .q .ld, [.tmp 43], (some 44), none, [], false⟩,
     ⟨6, .q (.bin .add), [.tmp 44, .const (.int .i64 1)], (some 45), none, [], false⟩,
     ⟨7, .q .nilc, [.tmp 39], (some 46), none, [], false⟩,
     ⟨8, .q (.fad 2), [.tmp 46], (some 47), none, [], false⟩,
     ⟨9, .q (.iada 16 1), [.tmp 47, .tmp 40], (some 48), none, [], false⟩,
     ⟨10, .e (.st 1), [.tmp 48, .tmp 45], none, none, [], false⟩])
   (.reg [⟨0, .q .mv, [.tmp 5], (some 49), none, [], false⟩,
     ⟨1, .q .mv, [.tmp 7], (some 50), none, [], false⟩,
     ⟨2, .q (.bin .sub), [.const (.int .i64 15), .tmp 50], (some 51), none, [], false⟩,
     ⟨3, .q (.bin .shl), [.const (.int .i64 1), .tmp 51], (some 52), none, [], false⟩,
     ⟨4, .q (.bin .add), [.tmp 49, .tmp 52], (some 53), none, [], false⟩,
     ⟨5, .q .mv, [.tmp 53], (some 5), none, [], false⟩]))
   .skip)))))
 L33_0)))
def L33_2 : LCode :=
 (.seq
 (.reg [⟨0, .q (.bin .lss), [.tmp 80, .tmp 79], (some 81), none, [], false⟩])
 (.seq
 (.cond (.tmp 81)
  .skip
  (.exit 4))
 (.seq
 (.block 5
  (.seq
  (.reg [⟨0, .q .mv, [.tmp 80], (some 82), none, [], false⟩,
    ⟨1, .q (.iad 1), [.tmp 78, .tmp 80], (some 83), none, [], false⟩,
    ⟨2, .q .ld, [.tmp 83], (some 84), none, [], false⟩,
    ⟨3, .q .mv, [.tmp 82], (some 10), none, [], false⟩,
    ⟨4, .q .mv, [.tmp 84], (some 11), none, [], false⟩])
  (.seq
  (.seq
  (.reg [⟨0, .q .mv, [.tmp 11], (some 85), none, [], false⟩,
    ⟨1, .q .mv, [.tmp 9], (some 86), none, [], false⟩,
    ⟨2, .q (.bin .neq), [.tmp 85, .tmp 86], (some 87), none, [], false⟩])
  (.cond (.tmp 87)
   (.exit 5)
   .skip))
  (.seq
  (.reg [⟨0, .q .mv, [.tmp 4], (some 88), none, [], false⟩,
    ⟨1, .q .nilc, [.tmp 88], (some 89), none, [], false⟩,
    ⟨2, .q (.fad 0), [.tmp 89], (some 90), none, [], false⟩,
    ⟨3, .q .ld, [.tmp 90], (some 91), none, [], true⟩,
    ⟨4, .q .mv, [.tmp 10], (some 92), none, [], false⟩,
    ⟨5, .q .mv, [.tmp 8], (some 93), none, [], false⟩,
    ⟨6, .q .mv, [.tmp 9], (some 94), none, [], false⟩,
    ⟨8, .q .mv, [.tmp 9], (some 96), none, [], false⟩,
    ⟨7, .e (.call 47), [.tmp 93, .tmp 94], (some 95), none, [3], false⟩,
    ⟨9, .q (.build #[(.int .u32 0), (.int .i64 0)] [(0, 1), (1, 1)]), [.tmp 95, .tmp 96], (some 97), none, [], false⟩,
    ⟨10, .q (.iad 2), [.tmp 91, .tmp 92], (some 98), none, [], false⟩,
    ⟨11, .e (.st 2), [.tmp 98, .tmp 97], none, none, [], false⟩])
  (.seq
  (.reg [⟨0, .q .mv, [.tmp 4], (some 99), none, [], false⟩,
    ⟨1, .q .mv, [.tmp 4], (some 100), none, [], false⟩,
    ⟨2, .q .nilc, [.tmp 100], (some 101), none, [], false⟩,
    ⟨3, .q (.fad 1), [.tmp 101], (some 102), none, [], false⟩,
    ⟨4, .q .ld, [.tmp 102], (some 103), none, [], false⟩,
    ⟨5, .q .mv, [.tmp 10], (some 104), none, [], false⟩,
    ⟨6, .e (.lits 3 #[(.int .i64 0)] 1 [(0, 1)]), [.tmp 104], (some 105), none, [], false⟩,
    ⟨7, .e (.app 3 1 8 #[(.int .i64 0)]), [.tmp 103, .tmp 105], (some 106), none, [], false⟩,
    ⟨8, .q .nilc, [.tmp 99], (some 107), none, [], false⟩,
    ⟨9, .q (.fad 1), [.tmp 107], (some 108), none, [], false⟩,
    ⟨10, .e (.st 1), [.tmp 108, .tmp 106], none, none, [], false⟩])
  (.seq
  (.reg [⟨0, .q .mv, [.tmp 4], (some 109), none, [], false⟩,
    ⟨1, .q .mv, [.tmp 9], (some 110), none, [], false⟩,
    ⟨2, .q .nilc, [.tmp 109], (some 111), none, [], false⟩,
    ⟨3, .q (.fad 35), [.tmp 111], (some 112), none, [], false⟩,
    ⟨4, .e (.st 1), [.tmp 112, .tmp 110], none, none, [], false⟩])
  (.reg [⟨0, .q .mv, [.tmp 8], (some 113), none, [], false⟩,
    ⟨1, .q (.bin .add), [.tmp 113, .const (.int .i64 1)], (some 114), none, [], false⟩,
    ⟨2, .q .mv, [.tmp 114], (some 8), none, [], false⟩])))))))
 (.reg [⟨0, .q (.bin .add), [.tmp 80, .const (.int .i64 1)], (some 115), none, [], false⟩,
   ⟨1, .q .mv, [.tmp 115], (some 80), none, [], false⟩]))))
def L33_3 : LCode :=
 (.reg [⟨0, .q .mv, [.tmp 9], (some 68), none, [], false⟩,
   ⟨1, .q (.bin .add), [.tmp 68, .const (.int .i64 1)], (some 69), none, [], false⟩,
   ⟨2, .q .mv, [.tmp 69], (some 9), none, [], false⟩])
def L33_4 : LCode :=
 (.seq
 (.seq
 (.reg [⟨0, .q .mv, [.tmp 9], (some 66), none, [], false⟩,
   ⟨1, .q (.bin .leq), [.tmp 66, .const (.int .i64 15)], (some 67), none, [], false⟩])
 (.cond (.tmp 67)
  .skip
  (.exit 2)))
 (.seq
 (.block 3
  (.seq
  (.reg [⟨0, .q .mv, [.tmp 8], (some 70), none, [], false⟩,
    ⟨1, .q (.bin .mul), [.tmp 70, .const (.int .i64 2)], (some 71), none, [], false⟩,
    ⟨2, .q .mv, [.tmp 71], (some 8), none, [], false⟩])
  (.seq
  (.reg [⟨0, .q .mv, [.tmp 4], (some 72), none, [], false⟩,
    ⟨1, .q .mv, [.tmp 9], (some 73), none, [], false⟩,
    ⟨2, .q .mv, [.tmp 8], (some 74), none, [], false⟩,
    ⟨3, .q .nilc, [.tmp 72], (some 75), none, [], false⟩,
    ⟨4, .q (.fad 18), [.tmp 75], (some 76), none, [], false⟩,
    ⟨5, .q (.iada 16 1), [.tmp 76, .tmp 73], (some 77), none, [], false⟩,
    ⟨6, .e (.st 1), [.tmp 77, .tmp 74], none, none, [], false⟩])
  (.seq
  (.reg [⟨0, .q .mv, [.tmp 0], (some 78), none, [], false⟩,
    ⟨1, .q .len, [.tmp 78], (some 79), none, [], false⟩,
    ⟨2, .q .mv, [.const (.int .i64 0)], (some 80), none, [], false⟩])
  (.block 4
   (.loop L33_2))))))
 L33_3))
def L33_5 : LCode :=
 (.seq
 (.reg [⟨0, .q .mv, [.tmp 4], (some 116), none, [], false⟩,
   ⟨1, .q .mv, [.tmp 116], (some 2), none, [], false⟩,
   ⟨2, .q .mv, [.const (.int .i64 0)], (some 3), none, [], false⟩])
 .ret)
def L33 : LFn :=
 ⟨117, [.t 2, .t 3],
 (.seq
 (.reg [⟨0, .q .mv, [.const (.pointer none)], (some 2), none, [], false⟩,
   ⟨1, .q .mv, [.const (.int .i64 0)], (some 3), none, [], false⟩])
 (.seq
 (.seq
 (.reg [⟨0, .q .mv, [.tmp 0], (some 12), none, [], false⟩,
   ⟨1, .q .len, [.tmp 12], (some 13), none, [], false⟩,
   ⟨2, .q (.bin .lss), [.tmp 13, .const (.int .i64 1)], (some 14), none, [], false⟩,
   ⟨3, .q .mv, [.tmp 14], (some 15), none, [], false⟩,
   ⟨4, .q .mv, [.tmp 0], (some 16), (some (15, false)), [], false⟩,
   ⟨5, .q .len, [.tmp 16], (some 17), (some (15, false)), [], false⟩,
   ⟨6, .q (.bin .gtr), [.tmp 17, .const (.int .i64 320)], (some 18), (some (15, false)), [], false⟩,
   ⟨7, .q .pick, [.tmp 15, .const (.bool true), .tmp 18], (some 19), none, [], false⟩])
 (.cond (.tmp 19)
  (.seq
  (.reg [⟨0, .q .mv, [.const (.pointer none)], (some 2), none, [], false⟩,
    ⟨1, .q .mv, [.const (.int .i64 51)], (some 3), none, [], false⟩])
  .ret)
  .skip))
 (.seq
 (.reg [⟨0, .q .mv, [.tmp 0], (some 20), none, [], false⟩,
   ⟨1, .q .len, [.tmp 20], (some 21), none, [], false⟩,
   ⟨2, .e (.mks 62 2 16 #[(.int .u32 0), (.int .i64 0)]), [.tmp 21, .tmp 21], (some 22), none, [], false⟩,
   ⟨3, .q (.build #[(.slice none 0 0), (.slice none 0 0), (.int .i64 0), (.int .i64 0), (.int .i64 0), (.int .i64 0), (.int .i64 0), (.int .i64 0), (.int .i64 0), (.int .i64 0), (.int .i64 0), (.int .i64 0), (.int .i64 0), (.int .i64 0), (.int .i64 0), (.int .i64 0), (.int .i64 0), (.int .i64 0), (.int .i64 0), (.int .i64 0), (.int .i64 0), (.int .i64 0), (.int .i64 0), (.int .i64 0), (.int .i64 0), (.int .i64 0), (.int .i64 0), (.int .i64 0), (.int .i64 0), (.int .i64 0), (.int .i64 0), (.int .i64 0), (.int .i64 0), (.int .i64 0), (.bool false), (.int .i64 0)] [(0, 1)]), [.tmp 22], (some 23), none, [], false⟩,
   ⟨4, .e (.box 90), [.tmp 23], (some 24), none, [], false⟩,
   ⟨5, .q .mv, [.tmp 24], (some 4), none, [], false⟩])
 (.seq
 (.reg [⟨0, .q .mv, [.const (.int .i64 0)], (some 5), none, [], false⟩])
 (.seq
 (.seq
 (.reg [⟨0, .q .mv, [.tmp 0], (some 25), none, [], false⟩,
   ⟨1, .q .len, [.tmp 25], (some 26), none, [], false⟩,
   ⟨2, .q .mv, [.const (.int .i64 0)], (some 27), none, [], false⟩])
 (.block 0
  (.loop L33_1)))
 (.seq
 (.seq
 (.reg [⟨0, .q .mv, [.tmp 5], (some 55), none, [], false⟩,
   ⟨1, .q (.bin .eql), [.tmp 55, .const (.int .i64 0)], (some 56), none, [], false⟩,
   ⟨2, .q .mv, [.tmp 56], (some 57), none, [], false⟩,
   ⟨3, .q .mv, [.tmp 5], (some 58), (some (57, false)), [], false⟩,
   ⟨4, .q (.bin .gtr), [.tmp 58, .const (.int .i64 32768)], (some 59), (some (57, false)), [], false⟩,
   ⟨5, .q .pick, [.tmp 57, .const (.bool true), .tmp 59], (some 60), none, [], false⟩])
 (.cond (.tmp 60)
  (.seq
  (.reg [⟨0, .q .mv, [.const (.pointer none)], (some 2), none, [], false⟩,
    ⟨1, .q .mv, [.const (.int .i64 51)], (some 3), none, [], false⟩])
  .ret)
  .skip))
 (.seq
 (.reg [⟨0, .q .mv, [.tmp 4], (some 61), none, [], false⟩,
   ⟨1, .q .mv, [.tmp 5], (some 62), none, [], false⟩,
   ⟨2, .q (.bin .eql), [.tmp 62, .const (.int .i64 32768)], (some 63), none, [], false⟩,
   ⟨3, .q .nilc, [.tmp 61], (some 64), none, [], false⟩,
   ⟨4, .q (.fad 34), [.tmp 64], (some 65), none, [], false⟩,
   ⟨5, .e (.st 1), [.tmp 65, .tmp 63], none, none, [], false⟩])
 (.seq
 (.reg [⟨0, .q .mv, [.const (.int .i64 0)], (some 8), none, [], false⟩])
 (.seq
 (.seq
 (.reg [⟨0, .q .mv, [.const (.int .i64 1)], (some 9), none, [], false⟩])
 (.block 2
  (.loop L33_4)))
 L33_5)))))))))⟩
theorem low33 : lowFn Try.prog Try.f33 = some L33 := by kernel_rfl
theorem call33 {args : List Value} {H : Heap} {S : Ending → Heap → Prop} (hn : args.length ≤ L33.n) (h : awpC Try.prog L33.body (retQ L33.results S) (fun ch H => S (.panicked ch) H) (env0 args) H) : ACalls Try.prog 33 args.toArray H S := acalls mixed Try.func33 low33 hn h
/-- satchel/satchelref05.Code -/
def L34_0 : LCode :=
 (.seq
 (.seq
 (.reg [⟨0, .q .mv, [.tmp 4], (some 14), none, [], false⟩,
   ⟨1, .q .mv, [.tmp 0], (some 15), none, [], false⟩,
   ⟨2, .q .len, [.tmp 15], (some 16), none, [], false⟩,
   ⟨3, .q (.bin .lss), [.tmp 14, .tmp 16], (some 17), none, [], false⟩])
 (.cond (.tmp 17)
  .skip
  (.exit 0)))
 (.seq
 (.block 1
  (.seq
  (.reg [⟨0, .q .mv, [.tmp 0], (some 20), none, [], false⟩,
    ⟨1, .q .mv, [.tmp 4], (some 21), none, [], false⟩,
    ⟨2, .q (.iad 1), [.tmp 20, .tmp 21], (some 22), none, [], false⟩,
    ⟨3, .q .ld, [.tmp 22], (some 23), none, [], false⟩,
    ⟨4, .q (.bin .lss), [.tmp 23, .const (.int .i64 0)], (some 24), none, [], false⟩,
    ⟨5, .q .mv, [.tmp 24], (some 25), none, [], false⟩,
    ⟨6, .q .mv, [.tmp 0], (some 26), (some (25, false)), [], false⟩,
    ⟨7, .q .mv, [.tmp 4], (some 27), (some (25, false)), [], false⟩,
    ⟨8, .q (.iad 1), [.tmp 26, .tmp 27], (some 28), (some (25, false)), [], false⟩,
    ⟨9, .q .ld, [.tmp 28], (some 29), (some (25, false)), [], false⟩,
    ⟨10, .q (.bin .gtr), [.tmp 29, .const (.int .i64 15)], (some 30), (some (25, false)), [], false⟩,
    ⟨11, .q .pick, [.tmp 25, .const (.bool true), .tmp 30], (some 31), none, [], false⟩])
  (.cond (.tmp 31)
   (.seq
   (.reg [⟨0, .q .mv, [.const (.bool false)], (some 2), none, [], false⟩,
     ⟨1, .q .mv, [.const (.bool false)], (some 3), none, [], false⟩])
   .ret)
   .skip)))
 (.reg [⟨0, .q .mv, [.tmp 4], (some 18), none, [], false⟩,
   ⟨1, .q (.bin .add), [.tmp 18, .const (.int .i64 1)], (some 19), none, [], false⟩,
   ⟨2, .q .mv, [.tmp 19], (some 4), none, [], false⟩])))
def L34 : LFn :=
 ⟨42, [.t 2, .t 3],
 (.seq
 (.reg [⟨0, .q .mv, [.const (.bool false)], (some 2), none, [], false⟩,
   ⟨1, .q .mv, [.const (.bool false)], (some 3), none, [], false⟩])
 (.seq
 (.seq
 (.reg [⟨0, .q .mv, [.tmp 0], (some 6), none, [], false⟩,
   ⟨1, .q .len, [.tmp 6], (some 7), none, [], false⟩,
   ⟨2, .q (.bin .lss), [.tmp 7, .const (.int .i64 1)], (some 8), none, [], false⟩,
   ⟨3, .q .mv, [.tmp 8], (some 9), none, [], false⟩,
   ⟨4, .q .mv, [.tmp 0], (some 10), (some (9, false)), [], false⟩,
   ⟨5, .q .len, [.tmp 10], (some 11), (some (9, false)), [], false⟩,
   ⟨6, .q (.bin .gtr), [.tmp 11, .const (.int .i64 320)], (some 12), (some (9, false)), [], false⟩,
   ⟨7, .q .pick, [.tmp 9, .const (.bool true), .tmp 12], (some 13), none, [], false⟩])
 (.cond (.tmp 13)
  (.seq
  (.reg [⟨0, .q .mv, [.const (.bool false)], (some 2), none, [], false⟩,
    ⟨1, .q .mv, [.const (.bool false)], (some 3), none, [], false⟩])
  .ret)
  .skip))
 (.seq
 (.seq
 (.reg [⟨0, .q .mv, [.const (.int .i64 0)], (some 4), none, [], false⟩])
 (.block 0
  (.loop L34_0)))
 (.seq
 (.reg [⟨0, .q .mv, [.tmp 0], (some 32), none, [], false⟩,
   ⟨1, .e (.call 48), [.tmp 32], (some 33), none, [], false⟩,
   ⟨2, .q .mv, [.tmp 33], (some 5), none, [], false⟩])
 (.seq
 (.reg [⟨0, .q .mv, [.tmp 5], (some 34), none, [], false⟩,
   ⟨1, .q (.bin .gtr), [.tmp 34, .const (.int .i64 0)], (some 35), none, [], false⟩,
   ⟨2, .q .mv, [.tmp 35], (some 36), none, [], false⟩,
   ⟨3, .q .mv, [.tmp 5], (some 37), (some (36, true)), [], false⟩,
   ⟨4, .q (.bin .leq), [.tmp 37, .const (.int .i64 32768)], (some 38), (some (36, true)), [], false⟩,
   ⟨5, .q .pick, [.tmp 36, .tmp 38, .const (.bool false)], (some 39), none, [], false⟩,
   ⟨6, .q .mv, [.tmp 5], (some 40), none, [], false⟩,
   ⟨7, .q (.bin .eql), [.tmp 40, .const (.int .i64 32768)], (some 41), none, [], false⟩,
   ⟨8, .q .mv, [.tmp 39], (some 2), none, [], false⟩,
   ⟨9, .q .mv, [.tmp 41], (some 3), none, [], false⟩])
 .ret)))))⟩
theorem low34 : lowFn Try.prog Try.f34 = some L34 := by kernel_rfl
theorem call34 {args : List Value} {H : Heap} {S : Ending → Heap → Prop} (hn : args.length ≤ L34.n) (h : awpC Try.prog L34.body (retQ L34.results S) (fun ch H => S (.panicked ch) H) (env0 args) H) : ACalls Try.prog 34 args.toArray H S := acalls mixed Try.func34 low34 hn h
/-- (*satchel/bits.Code).Whole -/
def L35 : LFn :=
 ⟨7, [.t 2],
 (.seq
 (.reg [⟨0, .q .mv, [.const (.bool false)], (some 2), none, [], false⟩])
 (.seq
 (.reg [⟨0, .q .mv, [.tmp 0], (some 3), none, [], false⟩,
   ⟨1, .q .nilc, [.tmp 3], (some 4), none, [], false⟩,
   ⟨2, .q (.fad 34), [.tmp 4], (some 5), none, [], false⟩,
   ⟨3, .q .ld, [.tmp 5], (some 6), none, [], false⟩,
   ⟨4, .q .mv, [.tmp 6], (some 2), none, [], false⟩])
 .ret))⟩
theorem low35 : lowFn Try.prog Try.f35 = some L35 := by kernel_rfl
theorem call35 {args : List Value} {H : Heap} {S : Ending → Heap → Prop} (hn : args.length ≤ L35.n) (h : awpC Try.prog L35.body (retQ L35.results S) (fun ch H => S (.panicked ch) H) (env0 args) H) : ACalls Try.prog 35 args.toArray H S := acalls mixed Try.func35 low35 hn h
/-- (*satchel/bits.Code).Word -/
def L36 : LFn :=
 ⟨37, [.c 4 (some 2), .t 5],
 (.seq
 (.reg [⟨0, .e (.new #[(.int .u32 0), (.int .i64 0)] 62), [], (some 4), none, [], false⟩,
   ⟨1, .q .mv, [.const (.int .i64 0)], (some 5), none, [], false⟩])
 (.seq
 (.block 0
  (.seq
  (.reg [⟨0, .q .mv, [.tmp 1], (some 7), none, [], false⟩,
    ⟨1, .q (.bin .lss), [.tmp 7, .const (.int .i64 0)], (some 8), none, [], false⟩,
    ⟨2, .q .mv, [.tmp 8], (some 9), none, [], false⟩,
    ⟨3, .q .mv, [.tmp 1], (some 10), (some (9, false)), [], false⟩,
    ⟨4, .q .mv, [.tmp 0], (some 11), (some (9, false)), [], false⟩,
    ⟨5, .q .nilc, [.tmp 11], (some 12), (some (9, false)), [], false⟩,
    ⟨6, .q (.fad 0), [.tmp 12], (some 13), (some (9, false)), [], false⟩,
    ⟨7, .q .ld, [.tmp 13], (some 14), (some (9, false)), [], false⟩,
    ⟨8, .q .len, [.tmp 14], (some 15), (some (9, false)), [], false⟩,
    ⟨9, .q (.bin .geq), [.tmp 10, .tmp 15], (some 16), (some (9, false)), [], false⟩,
    ⟨10, .q .pick, [.tmp 9, .const (.bool true), .tmp 16], (some 17), none, [], false⟩,
    ⟨11, .q .mv, [.tmp 17], (some 6), none, [], false⟩])
  (.cond (.tmp 6)
   (.seq
   (.reg [⟨0, .q (.build #[(.int .u32 0), (.int .i64 0)] []), [], (some 18), none, [], false⟩,
     ⟨1, .e (.st 2), [.tmp 4, .tmp 18], none, none, [], false⟩,
     ⟨2, .q .mv, [.const (.int .i64 1)], (some 5), none, [], false⟩])
   .ret)
   (.seq
   (.reg [⟨0, .q .mv, [.tmp 0], (some 20), none, [], false⟩,
     ⟨1, .q .nilc, [.tmp 20], (some 21), none, [], false⟩,
     ⟨2, .q (.fad 0), [.tmp 21], (some 22), none, [], false⟩,
     ⟨3, .q .ld, [.tmp 22], (some 23), none, [], false⟩,
     ⟨4, .q .mv, [.tmp 1], (some 24), none, [], false⟩,
     ⟨5, .q (.iad 2), [.tmp 23, .tmp 24], (some 25), none, [], false⟩,
     ⟨6, .q (.fad 1), [.tmp 25], (some 26), none, [], false⟩,
     ⟨7, .q .ld, [.tmp 26], (some 27), none, [], false⟩,
     ⟨8, .q (.bin .eql), [.tmp 27, .const (.int .i64 0)], (some 28), none, [], false⟩,
     ⟨9, .q .mv, [.tmp 28], (some 19), none, [], false⟩])
   (.cond (.tmp 19)
    (.seq
    (.reg [⟨0, .q (.build #[(.int .u32 0), (.int .i64 0)] []), [], (some 29), none, [], false⟩,
      ⟨1, .e (.st 2), [.tmp 4, .tmp 29], none, none, [], false⟩,
      ⟨2, .q .mv, [.const (.int .i64 52)], (some 5), none, [], false⟩])
    .ret)
    .skip)))))
 (.seq
 (.reg [⟨0, .q .mv, [.tmp 0], (some 30), none, [], false⟩,
   ⟨1, .q .nilc, [.tmp 30], (some 31), none, [], false⟩,
   ⟨2, .q (.fad 0), [.tmp 31], (some 32), none, [], false⟩,
   ⟨3, .q .ld, [.tmp 32], (some 33), none, [], false⟩,
   ⟨4, .q .mv, [.tmp 1], (some 34), none, [], false⟩,
   ⟨5, .q (.iad 2), [.tmp 33, .tmp 34], (some 35), none, [], false⟩,
   ⟨6, .q (.ldn 2), [.tmp 35], (some 36), none, [], false⟩,
   ⟨7, .e (.st 2), [.tmp 4, .tmp 36], none, none, [], false⟩,
   ⟨8, .q .mv, [.const (.int .i64 0)], (some 5), none, [], false⟩])
 .ret)))⟩
theorem low36 : lowFn Try.prog Try.f36 = some L36 := by kernel_rfl
theorem call36 {args : List Value} {H : Heap} {S : Ending → Heap → Prop} (hn : args.length ≤ L36.n) (h : awpC Try.prog L36.body (retQ L36.results S) (fun ch H => S (.panicked ch) H) (env0 args) H) : ACalls Try.prog 36 args.toArray H S := acalls mixed Try.func36 low36 hn h
/-- satchel/satchelref05.Word -/
def L37_0 : LCode :=
 (.reg [⟨0, .q .mv, [.tmp 8], (some 36), none, [], false⟩,
   ⟨1, .q (.bin .add), [.tmp 36, .const (.int .i64 1)], (some 37), none, [], false⟩,
   ⟨2, .q .mv, [.tmp 37], (some 8), none, [], false⟩])
def L37_1 : LCode :=
 (.seq
 (.seq
 (.reg [⟨0, .q .mv, [.tmp 8], (some 32), none, [], false⟩,
   ⟨1, .q .mv, [.tmp 6], (some 33), none, [], false⟩,
   ⟨2, .q .len, [.tmp 33], (some 34), none, [], false⟩,
   ⟨3, .q (.bin .lss), [.tmp 32, .tmp 34], (some 35), none, [], false⟩])
 (.cond (.tmp 35)
  .skip
  (.exit 0)))
 (.seq
 (.block 1
  (.seq
  (.reg [⟨0, .q .mv, [.tmp 6], (some 38), none, [], false⟩,
    ⟨1, .q .mv, [.tmp 8], (some 39), none, [], false⟩,
    ⟨2, .q (.iad 1), [.tmp 38, .tmp 39], (some 40), none, [], false⟩,
    ⟨3, .q .ld, [.tmp 40], (some 41), none, [], false⟩,
    ⟨4, .q (.bin .eql), [.tmp 41, .const (.int .u8 1)], (some 42), none, [], false⟩])
  (.cond (.tmp 42)
   (.reg [⟨0, .q (.fad 0), [.tmp 7], (some 43), none, [], false⟩,
     ⟨1, .q .ld, [.tmp 43], (some 44), none, [], false⟩,
     ⟨2, .q .mv, [.tmp 8], (some 45), none, [], false⟩,
     ⟨3, .q (.cvi .u64), [.tmp 45], (some 46), none, [], false⟩,
     ⟨4, .q (.bin .shl), [.const (.int .u32 1), .tmp 46], (some 47), none, [], false⟩,
     ⟨5, .q (.bin .add), [.tmp 44, .tmp 47], (some 48), none, [], false⟩,
     ⟨6, .q (.fad 0), [.tmp 7], (some 49), none, [], false⟩,
     ⟨7, .e (.st 1), [.tmp 49, .tmp 48], none, none, [], false⟩])
   .skip)))
 L37_0))
def L37 : LFn :=
 ⟨51, [.c 4 (some 2), .t 5],
 (.seq
 (.reg [⟨0, .e (.new #[(.int .u32 0), (.int .i64 0)] 62), [], (some 4), none, [], false⟩,
   ⟨1, .q .mv, [.const (.int .i64 0)], (some 5), none, [], false⟩])
 (.seq
 (.seq
 (.reg [⟨0, .q .mv, [.tmp 1], (some 9), none, [], false⟩,
   ⟨1, .q (.bin .lss), [.tmp 9, .const (.int .i64 0)], (some 10), none, [], false⟩,
   ⟨2, .q .mv, [.tmp 10], (some 11), none, [], false⟩,
   ⟨3, .q .mv, [.tmp 1], (some 12), (some (11, false)), [], false⟩,
   ⟨4, .q .mv, [.tmp 0], (some 13), (some (11, false)), [], false⟩,
   ⟨5, .q .len, [.tmp 13], (some 14), (some (11, false)), [], false⟩,
   ⟨6, .q (.bin .geq), [.tmp 12, .tmp 14], (some 15), (some (11, false)), [], false⟩,
   ⟨7, .q .pick, [.tmp 11, .const (.bool true), .tmp 15], (some 16), none, [], false⟩])
 (.cond (.tmp 16)
  (.seq
  (.reg [⟨0, .q (.build #[(.int .u32 0), (.int .i64 0)] []), [], (some 17), none, [], false⟩,
    ⟨1, .e (.st 2), [.tmp 4, .tmp 17], none, none, [], false⟩,
    ⟨2, .q .mv, [.const (.int .i64 1)], (some 5), none, [], false⟩])
  .ret)
  .skip))
 (.seq
 (.seq
 (.reg [⟨0, .q .mv, [.tmp 0], (some 18), none, [], false⟩,
   ⟨1, .q .mv, [.tmp 1], (some 19), none, [], false⟩,
   ⟨2, .q (.iad 1), [.tmp 18, .tmp 19], (some 20), none, [], false⟩,
   ⟨3, .q .ld, [.tmp 20], (some 21), none, [], false⟩,
   ⟨4, .q (.bin .eql), [.tmp 21, .const (.int .i64 0)], (some 22), none, [], false⟩])
 (.cond (.tmp 22)
  (.seq
  (.reg [⟨0, .q (.build #[(.int .u32 0), (.int .i64 0)] []), [], (some 23), none, [], false⟩,
    ⟨1, .e (.st 2), [.tmp 4, .tmp 23], none, none, [], false⟩,
    ⟨2, .q .mv, [.const (.int .i64 52)], (some 5), none, [], false⟩])
  .ret)
  .skip))
 (.seq
 (.reg [⟨0, .q .mv, [.tmp 0], (some 24), none, [], false⟩,
   ⟨1, .e (.call 49), [.tmp 24], (some 25), none, [], false⟩,
   ⟨2, .q .mv, [.tmp 1], (some 26), none, [], false⟩,
   ⟨3, .q (.iad 1), [.tmp 25, .tmp 26], (some 27), none, [], false⟩,
   ⟨4, .q .ld, [.tmp 27], (some 28), none, [], false⟩,
   ⟨5, .q .mv, [.tmp 28], (some 6), none, [], false⟩])
 (.seq
 (.reg [⟨0, .q .mv, [.tmp 6], (some 29), none, [], false⟩,
   ⟨1, .q .len, [.tmp 29], (some 30), none, [], false⟩,
   ⟨2, .q (.build #[(.int .u32 0), (.int .i64 0)] [(1, 1)]), [.tmp 30], (some 31), none, [], false⟩,
   ⟨3, .e (.new #[(.int .u32 0), (.int .i64 0)] 62), [], (some 7), none, [], false⟩,
   ⟨4, .e (.st 2), [.tmp 7, .tmp 31], none, none, [], false⟩])
 (.seq
 (.seq
 (.reg [⟨0, .q .mv, [.const (.int .i64 0)], (some 8), none, [], false⟩])
 (.block 0
  (.loop L37_1)))
 (.seq
 (.reg [⟨0, .q (.ldn 2), [.tmp 7], (some 50), none, [], false⟩,
   ⟨1, .e (.st 2), [.tmp 4, .tmp 50], none, none, [], false⟩,
   ⟨2, .q .mv, [.const (.int .i64 0)], (some 5), none, [], false⟩])
 .ret)))))))⟩
theorem low37 : lowFn Try.prog Try.f37 = some L37 := by kernel_rfl
theorem call37 {args : List Value} {H : Heap} {S : Ending → Heap → Prop} (hn : args.length ≤ L37.n) (h : awpC Try.prog L37.body (retQ L37.results S) (fun ch H => S (.panicked ch) H) (env0 args) H) : ACalls Try.prog 37 args.toArray H S := acalls mixed Try.func37 low37 hn h
/-- (*satchel/bits.Code).Read -/
def L38_0 : LCode :=
 (.seq
 (.seq
 (.reg [⟨0, .q .mv, [.tmp 8], (some 10), none, [], false⟩,
   ⟨1, .q .mv, [.tmp 0], (some 11), none, [], false⟩,
   ⟨2, .q .nilc, [.tmp 11], (some 12), none, [], false⟩,
   ⟨3, .q (.fad 35), [.tmp 12], (some 13), none, [], false⟩,
   ⟨4, .q .ld, [.tmp 13], (some 14), none, [], false⟩,
   ⟨5, .q (.bin .leq), [.tmp 10, .tmp 14], (some 15), none, [], false⟩])
 (.cond (.tmp 15)
  .skip
  (.exit 0)))
 (.seq
 (.block 1
  (.seq
  (.seq
  (.reg [⟨0, .q .mv, [.tmp 1], (some 18), none, [], false⟩,
    ⟨1, .e (.call 45), [.tmp 18], (some 19), none, [], false⟩,
    ⟨2, .q .mv, [.tmp 8], (some 20), none, [], false⟩,
    ⟨3, .q (.bin .lss), [.tmp 19, .tmp 20], (some 21), none, [], false⟩])
  (.cond (.tmp 21)
   (.seq
   (.seq
   (.reg [⟨0, .q .mv, [.tmp 0], (some 22), none, [], false⟩,
     ⟨1, .q .mv, [.tmp 6], (some 23), none, [], false⟩,
     ⟨2, .q .mv, [.tmp 8], (some 24), none, [], false⟩,
     ⟨3, .q (.bin .sub), [.tmp 24, .const (.int .i64 1)], (some 25), none, [], false⟩,
     ⟨4, .e (.call 50), [.tmp 22, .tmp 23, .tmp 25], (some 26), none, [], false⟩])
   (.cond (.tmp 26)
    (.seq
    (.reg [⟨0, .q .mv, [.const (.int .i64 0)], (some 4), none, [], false⟩,
      ⟨1, .q .mv, [.const (.int .i64 50)], (some 5), none, [], false⟩])
    .ret)
    .skip))
   (.seq
   (.reg [⟨0, .q .mv, [.const (.int .i64 0)], (some 4), none, [], false⟩,
     ⟨1, .q .mv, [.const (.int .i64 52)], (some 5), none, [], false⟩])
   .ret))
   .skip))
  (.seq
  (.reg [⟨0, .q .mv, [.tmp 6], (some 27), none, [], false⟩,
    ⟨1, .q (.bin .mul), [.const (.int .i64 2), .tmp 27], (some 28), none, [], false⟩,
    ⟨2, .q .mv, [.tmp 1], (some 29), none, [], false⟩,
    ⟨3, .q .mv, [.tmp 8], (some 30), none, [], false⟩,
    ⟨4, .q (.bin .sub), [.tmp 30, .const (.int .i64 1)], (some 31), none, [], false⟩,
    ⟨5, .e (.call 46), [.tmp 29, .tmp 31], (some 32), none, [], false⟩,
    ⟨6, .q (.cvi .i64), [.tmp 32], (some 33), none, [], false⟩,
    ⟨7, .q (.bin .add), [.tmp 28, .tmp 33], (some 34), none, [], false⟩,
    ⟨8, .q .mv, [.tmp 34], (some 6), none, [], false⟩])
  (.seq
  (.seq
  (.reg [⟨0, .q .mv, [.tmp 6], (some 35), none, [], false⟩,
    ⟨1, .q .mv, [.tmp 0], (some 36), none, [], false⟩,
    ⟨2, .q .mv, [.tmp 8], (some 37), none, [], false⟩,
    ⟨3, .q .nilc, [.tmp 36], (some 38), none, [], false⟩,
    ⟨4, .q (.fad 18), [.tmp 38], (some 39), none, [], false⟩,
    ⟨5, .q (.iada 16 1), [.tmp 39, .tmp 37], (some 40), none, [], false⟩,
    ⟨6, .q .ld, [.tmp 40], (some 41), none, [], false⟩,
    ⟨7, .q (.bin .sub), [.tmp 35, .tmp 41], (some 42), none, [], false⟩,
    ⟨8, .q .mv, [.tmp 42], (some 9), none, [], false⟩])
  (.seq
  (.reg [⟨0, .q .mv, [.tmp 9], (some 43), none, [], false⟩,
    ⟨1, .q (.bin .geq), [.tmp 43, .const (.int .i64 0)], (some 44), none, [], false⟩,
    ⟨2, .q .mv, [.tmp 44], (some 45), none, [], false⟩,
    ⟨3, .q .mv, [.tmp 9], (some 46), (some (45, true)), [], false⟩,
    ⟨4, .q .mv, [.tmp 0], (some 47), (some (45, true)), [], false⟩,
    ⟨5, .q .mv, [.tmp 8], (some 48), (some (45, true)), [], false⟩,
    ⟨6, .q .nilc, [.tmp 47], (some 49), (some (45, true)), [], false⟩,
    ⟨7, .q (.fad 2), [.tmp 49], (some 50), (some (45, true)), [], false⟩,
    ⟨8, .q (.iada 16 1), [.tmp 50, .tmp 48], (some 51), (some (45, true)), [], false⟩,
    ⟨9, .q .ld, [.tmp 51], (some 52), (some (45, true)), [], false⟩,
    ⟨10, .q (.bin .lss), [.tmp 46, .tmp 52], (some 53), (some (45, true)), [], false⟩,
    ⟨11, .q .pick, [.tmp 45, .tmp 53, .const (.bool false)], (some 54), none, [], false⟩])
  (.cond (.tmp 54)
   (.seq
   (.reg [⟨0, .q .mv, [.tmp 1], (some 55), none, [], false⟩,
     ⟨1, .q .nilc, [.tmp 55], (some 56), none, [], false⟩,
     ⟨2, .q (.fad 1), [.tmp 56], (some 57), none, [], false⟩,
     ⟨3, .q .ld, [.tmp 57], (some 58), none, [], false⟩,
     ⟨4, .q .mv, [.tmp 8], (some 59), none, [], false⟩,
     ⟨5, .q (.bin .add), [.tmp 58, .tmp 59], (some 60), none, [], false⟩,
     ⟨6, .q .nilc, [.tmp 55], (some 61), none, [], false⟩,
     ⟨7, .q (.fad 1), [.tmp 61], (some 62), none, [], false⟩,
     ⟨8, .e (.st 1), [.tmp 62, .tmp 60], none, none, [], false⟩])
   (.seq
   (.reg [⟨0, .q .mv, [.tmp 0], (some 63), none, [], false⟩,
     ⟨1, .q .nilc, [.tmp 63], (some 64), none, [], false⟩,
     ⟨2, .q (.fad 1), [.tmp 64], (some 65), none, [], false⟩,
     ⟨3, .q .ld, [.tmp 65], (some 66), none, [], false⟩,
     ⟨4, .q .mv, [.tmp 7], (some 67), none, [], false⟩,
     ⟨5, .q .mv, [.tmp 9], (some 68), none, [], false⟩,
     ⟨6, .q (.bin .add), [.tmp 67, .tmp 68], (some 69), none, [], false⟩,
     ⟨7, .q (.iad 1), [.tmp 66, .tmp 69], (some 70), none, [], false⟩,
     ⟨8, .q .ld, [.tmp 70], (some 71), none, [], false⟩,
     ⟨9, .q .mv, [.tmp 71], (some 4), none, [], false⟩,
     ⟨10, .q .mv, [.const (.int .i64 0)], (some 5), none, [], false⟩])
   .ret))
   .skip)))
  (.reg [⟨0, .q .mv, [.tmp 7], (some 72), none, [], false⟩,
    ⟨1, .q .mv, [.tmp 0], (some 73), none, [], false⟩,
    ⟨2, .q .mv, [.tmp 8], (some 74), none, [], false⟩,
    ⟨3, .q .nilc, [.tmp 73], (some 75), none, [], false⟩,
    ⟨4, .q (.fad 2), [.tmp 75], (some 76), none, [], false⟩,
    ⟨5, .q (.iada 16 1), [.tmp 76, .tmp 74], (some 77), none, [], false⟩,
    ⟨6, .q .ld, [.tmp 77], (some 78), none, [], false⟩,
    ⟨7, .q (.bin .add), [.tmp 72, .tmp 78], (some 79), none, [], false⟩,
    ⟨8, .q .mv, [.tmp 79], (some 7), none, [], false⟩])))))
 (.reg [⟨0, .q .mv, [.tmp 8], (some 16), none, [], false⟩,
   ⟨1, .q (.bin .add), [.tmp 16, .const (.int .i64 1)], (some 17), none, [], false⟩,
   ⟨2, .q .mv, [.tmp 17], (some 8), none, [], false⟩])))
def L38 : LFn :=
 ⟨80, [.t 4, .t 5],
 (.seq
 (.reg [⟨0, .q .mv, [.const (.int .i64 0)], (some 4), none, [], false⟩,
   ⟨1, .q .mv, [.const (.int .i64 0)], (some 5), none, [], false⟩])
 (.seq
 (.reg [⟨0, .q .mv, [.const (.int .i64 0)], (some 6), none, [], false⟩,
   ⟨1, .q .mv, [.const (.int .i64 0)], (some 7), none, [], false⟩])
 (.seq
 (.seq
 (.reg [⟨0, .q .mv, [.const (.int .i64 1)], (some 8), none, [], false⟩])
 (.block 0
  (.loop L38_0)))
 (.seq
 (.reg [⟨0, .q .mv, [.const (.int .i64 0)], (some 4), none, [], false⟩,
   ⟨1, .q .mv, [.const (.int .i64 52)], (some 5), none, [], false⟩])
 .ret))))⟩
theorem low38 : lowFn Try.prog Try.f38 = some L38 := by kernel_rfl
theorem call38 {args : List Value} {H : Heap} {S : Ending → Heap → Prop} (hn : args.length ≤ L38.n) (h : awpC Try.prog L38.body (retQ L38.results S) (fun ch H => S (.panicked ch) H) (env0 args) H) : ACalls Try.prog 38 args.toArray H S := acalls mixed Try.func38 low38 hn h
/-- satchel/satchelref05.Read -/
def L39_0 : LCode :=
 (.seq
 (.seq
 (.reg [⟨0, .q .mv, [.tmp 9], (some 12), none, [], false⟩,
   ⟨1, .q .mv, [.tmp 7], (some 13), none, [], false⟩,
   ⟨2, .q .len, [.tmp 13], (some 14), none, [], false⟩,
   ⟨3, .q (.bin .lss), [.tmp 12, .tmp 14], (some 15), none, [], false⟩])
 (.cond (.tmp 15)
  .skip
  (.exit 0)))
 (.seq
 (.block 1
  (.seq
  (.seq
  (.reg [⟨0, .q .mv, [.tmp 7], (some 18), none, [], false⟩,
    ⟨1, .q .mv, [.tmp 9], (some 19), none, [], false⟩,
    ⟨2, .q (.iad 1), [.tmp 18, .tmp 19], (some 20), none, [], false⟩,
    ⟨3, .q .ld, [.tmp 20], (some 21), none, [], false⟩,
    ⟨4, .q .len, [.tmp 21], (some 22), none, [], false⟩,
    ⟨5, .q (.bin .eql), [.tmp 22, .const (.int .i64 0)], (some 23), none, [], false⟩])
  (.cond (.tmp 23)
   (.exit 1)
   .skip))
  (.seq
  (.seq
  (.reg [⟨0, .q .mv, [.tmp 1], (some 24), none, [], false⟩,
    ⟨1, .q .mv, [.tmp 7], (some 25), none, [], false⟩,
    ⟨2, .q .mv, [.tmp 9], (some 26), none, [], false⟩,
    ⟨3, .q (.iad 1), [.tmp 25, .tmp 26], (some 27), none, [], false⟩,
    ⟨4, .q .ld, [.tmp 27], (some 28), none, [], false⟩,
    ⟨5, .e (.call 51), [.tmp 24, .tmp 28], (some 29), none, [], false⟩])
  (.cond (.tmp 29)
   (.seq
   (.reg [⟨0, .q .mv, [.tmp 9], (some 30), none, [], false⟩,
     ⟨1, .q .mv, [.tmp 7], (some 31), none, [], false⟩,
     ⟨2, .q .mv, [.tmp 9], (some 32), none, [], false⟩,
     ⟨3, .q (.iad 1), [.tmp 31, .tmp 32], (some 33), none, [], false⟩,
     ⟨4, .q .ld, [.tmp 33], (some 34), none, [], false⟩,
     ⟨5, .q .len, [.tmp 34], (some 35), none, [], false⟩,
     ⟨6, .q .mv, [.tmp 30], (some 4), none, [], false⟩,
     ⟨7, .q .mv, [.tmp 35], (some 5), none, [], false⟩,
     ⟨8, .q .mv, [.const (.int .i64 0)], (some 6), none, [], false⟩])
   .ret)
   .skip))
  (.reg [⟨0, .q .mv, [.tmp 8], (some 36), none, [], false⟩,
    ⟨1, .q .mv, [.tmp 36], (some 37), none, [], false⟩,
    ⟨2, .q .mv, [.tmp 7], (some 38), (some (37, false)), [], false⟩,
    ⟨3, .q .mv, [.tmp 9], (some 39), (some (37, false)), [], false⟩,
    ⟨4, .q (.iad 1), [.tmp 38, .tmp 39], (some 40), (some (37, false)), [], false⟩,
    ⟨5, .q .ld, [.tmp 40], (some 41), (some (37, false)), [], false⟩,
    ⟨6, .q .mv, [.tmp 1], (some 42), (some (37, false)), [], false⟩,
    ⟨7, .e (.call 51), [.tmp 41, .tmp 42], (some 43), (some (37, false)), [], false⟩,
    ⟨8, .q .pick, [.tmp 37, .const (.bool true), .tmp 43], (some 44), none, [], false⟩,
    ⟨9, .q .mv, [.tmp 44], (some 8), none, [], false⟩]))))
 (.reg [⟨0, .q .mv, [.tmp 9], (some 16), none, [], false⟩,
   ⟨1, .q (.bin .add), [.tmp 16, .const (.int .i64 1)], (some 17), none, [], false⟩,
   ⟨2, .q .mv, [.tmp 17], (some 9), none, [], false⟩])))
def L39_1 : LCode :=
 (.seq
 (.seq
 (.reg [⟨0, .q .mv, [.tmp 8], (some 45), none, [], false⟩])
 (.cond (.tmp 45)
  (.seq
  (.reg [⟨0, .q .mv, [.const (.int .i64 0)], (some 4), none, [], false⟩,
    ⟨1, .q .mv, [.const (.int .i64 0)], (some 5), none, [], false⟩,
    ⟨2, .q .mv, [.const (.int .i64 50)], (some 6), none, [], false⟩])
  .ret)
  .skip))
 (.seq
 (.reg [⟨0, .q .mv, [.const (.int .i64 0)], (some 4), none, [], false⟩,
   ⟨1, .q .mv, [.const (.int .i64 0)], (some 5), none, [], false⟩,
   ⟨2, .q .mv, [.const (.int .i64 52)], (some 6), none, [], false⟩])
 .ret))
def L39 : LFn :=
 ⟨46, [.t 4, .t 5, .t 6],
 (.seq
 (.reg [⟨0, .q .mv, [.const (.int .i64 0)], (some 4), none, [], false⟩,
   ⟨1, .q .mv, [.const (.int .i64 0)], (some 5), none, [], false⟩,
   ⟨2, .q .mv, [.const (.int .i64 0)], (some 6), none, [], false⟩])
 (.seq
 (.reg [⟨0, .q .mv, [.tmp 0], (some 10), none, [], false⟩,
   ⟨1, .e (.call 49), [.tmp 10], (some 11), none, [], false⟩,
   ⟨2, .q .mv, [.tmp 11], (some 7), none, [], false⟩])
 (.seq
 (.reg [⟨0, .q .mv, [.const (.bool false)], (some 8), none, [], false⟩])
 (.seq
 (.seq
 (.reg [⟨0, .q .mv, [.const (.int .i64 0)], (some 9), none, [], false⟩])
 (.block 0
  (.loop L39_0)))
 L39_1))))⟩
theorem low39 : lowFn Try.prog Try.f39 = some L39 := by kernel_rfl
theorem call39 {args : List Value} {H : Heap} {S : Ending → Heap → Prop} (hn : args.length ≤ L39.n) (h : awpC Try.prog L39.body (retQ L39.results S) (fun ch H => S (.panicked ch) H) (env0 args) H) : ACalls Try.prog 39 args.toArray H S := acalls mixed Try.func39 low39 hn h
/-- satchel/bits.turned -/
def L47_0 : LCode :=
 (.seq
 (.reg [⟨0, .q (.bin .lss), [.tmp 8, .tmp 7], (some 9), none, [], false⟩])
 (.seq
 (.cond (.tmp 9)
  .skip
  (.exit 0))
 (.seq
 (.block 1
  (.seq
  (.reg [⟨0, .q .mv, [.tmp 8], (some 10), none, [], false⟩,
    ⟨1, .q .mv, [.tmp 10], (some 6), none, [], false⟩])
  (.reg [⟨0, .q .mv, [.tmp 5], (some 11), none, [], false⟩,
    ⟨1, .q .mv, [.tmp 0], (some 12), none, [], false⟩,
    ⟨2, .q .mv, [.tmp 6], (some 13), none, [], false⟩,
    ⟨3, .q (.bin .shr), [.tmp 12, .tmp 13], (some 14), none, [], false⟩,
    ⟨4, .q (.bin .and), [.tmp 14, .const (.int .i64 1)], (some 15), none, [], false⟩,
    ⟨5, .q (.cvi .u32), [.tmp 15], (some 16), none, [], false⟩,
    ⟨6, .q .mv, [.tmp 1], (some 17), none, [], false⟩,
    ⟨7, .q (.bin .sub), [.tmp 17, .const (.int .i64 1)], (some 18), none, [], false⟩,
    ⟨8, .q .mv, [.tmp 6], (some 19), none, [], false⟩,
    ⟨9, .q (.bin .sub), [.tmp 18, .tmp 19], (some 20), none, [], false⟩,
    ⟨10, .q (.bin .shl), [.tmp 16, .tmp 20], (some 21), none, [], false⟩,
    ⟨11, .q (.bin .or), [.tmp 11, .tmp 21], (some 22), none, [], false⟩,
    ⟨12, .q .mv, [.tmp 22], (some 5), none, [], false⟩])))
 (.reg [⟨0, .q (.bin .add), [.tmp 8, .const (.int .i64 1)], (some 23), none, [], false⟩,
   ⟨1, .q .mv, [.tmp 23], (some 8), none, [], false⟩]))))
def L47 : LFn :=
 ⟨25, [.t 4],
 (.seq
 (.reg [⟨0, .q .mv, [.const (.int .u32 0)], (some 4), none, [], false⟩])
 (.seq
 (.reg [⟨0, .q .mv, [.const (.int .u32 0)], (some 5), none, [], false⟩])
 (.seq
 (.seq
 (.reg [⟨0, .q .mv, [.tmp 1], (some 7), none, [], false⟩,
   ⟨1, .q .mv, [.const (.int .i64 0)], (some 8), none, [], false⟩])
 (.block 0
  (.loop L47_0)))
 (.seq
 (.reg [⟨0, .q .mv, [.tmp 5], (some 24), none, [], false⟩,
   ⟨1, .q .mv, [.tmp 24], (some 4), none, [], false⟩])
 .ret))))⟩
theorem low47 : lowFn Try.prog Try.f47 = some L47 := by kernel_rfl
theorem call47 {args : List Value} {H : Heap} {S : Ending → Heap → Prop} (hn : args.length ≤ L47.n) (h : awpC Try.prog L47.body (retQ L47.results S) (fun ch H => S (.panicked ch) H) (env0 args) H) : ACalls Try.prog 47 args.toArray H S := acalls mixed Try.func47 low47 hn h
/-- satchel/satchelref05.sum -/
def L48_0 : LCode :=
 (.reg [⟨0, .q .mv, [.tmp 4], (some 9), none, [], false⟩,
   ⟨1, .q (.bin .add), [.tmp 9, .const (.int .i64 1)], (some 10), none, [], false⟩,
   ⟨2, .q .mv, [.tmp 10], (some 4), none, [], false⟩])
def L48_1 : LCode :=
 (.seq
 (.seq
 (.reg [⟨0, .q .mv, [.tmp 4], (some 5), none, [], false⟩,
   ⟨1, .q .mv, [.tmp 0], (some 6), none, [], false⟩,
   ⟨2, .q .len, [.tmp 6], (some 7), none, [], false⟩,
   ⟨3, .q (.bin .lss), [.tmp 5, .tmp 7], (some 8), none, [], false⟩])
 (.cond (.tmp 8)
  .skip
  (.exit 0)))
 (.seq
 (.block 1
  (.seq
  (.reg [⟨0, .q .mv, [.tmp 0], (some 11), none, [], false⟩,
    ⟨1, .q .mv, [.tmp 4], (some 12), none, [], false⟩,
    ⟨2, .q (.iad 1), [.tmp 11, .tmp 12], (some 13), none, [], false⟩,
    ⟨3, .q .ld, [.tmp 13], (some 14), none, [], false⟩,
    ⟨4, .q (.bin .gtr), [.tmp 14, .const (.int .i64 0)], (some 15), none, [], false⟩])
  (.cond (.tmp 15)
   (.reg [⟨0, .q .mv, [.tmp 3], (some 16), none, [], false⟩,
     ⟨1, .q .mv, [.tmp 0], (some 17), none, [], false⟩,
     ⟨2, .q .mv, [.tmp 4], (some 18), none, [], false⟩,
     ⟨3, .q (.iad 1), [.tmp 17, .tmp 18], (some 19), none, [], false⟩,
     ⟨4, .q .ld, [.tmp 19], (some 20), none, [], false⟩,
     ⟨5, .q (.bin .sub), [.const (.int .i64 15), .tmp 20], (some 21), none, [], false⟩,
     ⟨6, .q (.cvi .u64), [.tmp 21], (some 22), none, [], false⟩,
     ⟨7, .q (.bin .shl), [.const (.int .i64 1), .tmp 22], (some 23), none, [], false⟩,
     ⟨8, .q (.bin .add), [.tmp 16, .tmp 23], (some 24), none, [], false⟩,
     ⟨9, .q .mv, [.tmp 24], (some 3), none, [], false⟩])
   .skip)))
 L48_0))
def L48 : LFn :=
 ⟨26, [.t 2],
 (.seq
 (.reg [⟨0, .q .mv, [.const (.int .i64 0)], (some 2), none, [], false⟩])
 (.seq
 (.reg [⟨0, .q .mv, [.const (.int .i64 0)], (some 3), none, [], false⟩])
 (.seq
 (.seq
 (.reg [⟨0, .q .mv, [.const (.int .i64 0)], (some 4), none, [], false⟩])
 (.block 0
  (.loop L48_1)))
 (.seq
 (.reg [⟨0, .q .mv, [.tmp 3], (some 25), none, [], false⟩,
   ⟨1, .q .mv, [.tmp 25], (some 2), none, [], false⟩])
 .ret))))⟩
theorem low48 : lowFn Try.prog Try.f48 = some L48 := by kernel_rfl
theorem call48 {args : List Value} {H : Heap} {S : Ending → Heap → Prop} (hn : args.length ≤ L48.n) (h : awpC Try.prog L48.body (retQ L48.results S) (fun ch H => S (.panicked ch) H) (env0 args) H) : ACalls Try.prog 48 args.toArray H S := acalls mixed Try.func48 low48 hn h
/-- satchel/satchelref05.Words -/
def L49_0 : LCode :=
 (.seq
 (.seq
 (.reg [⟨0, .q .mv, [.tmp 9], (some 39), none, [], false⟩,
   ⟨1, .q (.bin .geq), [.tmp 39, .const (.int .i64 0)], (some 40), none, [], false⟩])
 (.cond (.tmp 40)
  .skip
  (.exit 4)))
 (.seq
 (.block 5
  (.reg [⟨0, .q .mv, [.tmp 8], (some 43), none, [], false⟩,
    ⟨1, .q .mv, [.tmp 4], (some 44), none, [], false⟩,
    ⟨2, .q .mv, [.tmp 9], (some 45), none, [], false⟩,
    ⟨3, .q (.cvi .u64), [.tmp 45], (some 46), none, [], false⟩,
    ⟨4, .q (.bin .shr), [.tmp 44, .tmp 46], (some 47), none, [], false⟩,
    ⟨5, .q (.bin .rem), [.tmp 47, .const (.int .i64 2)], (some 48), none, [], false⟩,
    ⟨6, .q (.cvi .u8), [.tmp 48], (some 49), none, [], false⟩,
    ⟨7, .e (.lits 5 #[(.int .u8 0)] 1 [(0, 1)]), [.tmp 49], (some 50), none, [], false⟩,
    ⟨8, .e (.app 5 1 1 #[(.int .u8 0)]), [.tmp 43, .tmp 50], (some 51), none, [], false⟩,
    ⟨9, .q .mv, [.tmp 51], (some 8), none, [], false⟩]))
 (.reg [⟨0, .q .mv, [.tmp 9], (some 41), none, [], false⟩,
   ⟨1, .q (.bin .sub), [.tmp 41, .const (.int .i64 1)], (some 42), none, [], false⟩,
   ⟨2, .q .mv, [.tmp 42], (some 9), none, [], false⟩])))
def L49_1 : LCode :=
 (.reg [⟨0, .q .mv, [.tmp 7], (some 21), none, [], false⟩,
   ⟨1, .q (.bin .add), [.tmp 21, .const (.int .i64 1)], (some 22), none, [], false⟩,
   ⟨2, .q .mv, [.tmp 22], (some 7), none, [], false⟩])
def L49_2 : LCode :=
 (.seq
 (.seq
 (.reg [⟨0, .q .mv, [.tmp 7], (some 17), none, [], false⟩,
   ⟨1, .q .mv, [.tmp 0], (some 18), none, [], false⟩,
   ⟨2, .q .len, [.tmp 18], (some 19), none, [], false⟩,
   ⟨3, .q (.bin .lss), [.tmp 17, .tmp 19], (some 20), none, [], false⟩])
 (.cond (.tmp 20)
  .skip
  (.exit 2)))
 (.seq
 (.block 3
  (.seq
  (.seq
  (.reg [⟨0, .q .mv, [.tmp 0], (some 23), none, [], false⟩,
    ⟨1, .q .mv, [.tmp 7], (some 24), none, [], false⟩,
    ⟨2, .q (.iad 1), [.tmp 23, .tmp 24], (some 25), none, [], false⟩,
    ⟨3, .q .ld, [.tmp 25], (some 26), none, [], false⟩,
    ⟨4, .q .mv, [.tmp 6], (some 27), none, [], false⟩,
    ⟨5, .q (.bin .neq), [.tmp 26, .tmp 27], (some 28), none, [], false⟩])
  (.cond (.tmp 28)
   (.exit 3)
   .skip))
  (.seq
  (.reg [⟨0, .q .mv, [.tmp 4], (some 29), none, [], false⟩,
    ⟨1, .q .mv, [.tmp 6], (some 30), none, [], false⟩,
    ⟨2, .q .mv, [.tmp 5], (some 31), none, [], false⟩,
    ⟨3, .q (.bin .sub), [.tmp 30, .tmp 31], (some 32), none, [], false⟩,
    ⟨4, .q (.cvi .u64), [.tmp 32], (some 33), none, [], false⟩,
    ⟨5, .q (.bin .shl), [.tmp 29, .tmp 33], (some 34), none, [], false⟩,
    ⟨6, .q .mv, [.tmp 34], (some 4), none, [], false⟩])
  (.seq
  (.reg [⟨0, .q .mv, [.tmp 6], (some 35), none, [], false⟩,
    ⟨1, .q .mv, [.tmp 35], (some 5), none, [], false⟩])
  (.seq
  (.reg [⟨0, .e (.lits 5 #[] 0 []), [], (some 36), none, [], false⟩,
    ⟨1, .q .mv, [.tmp 36], (some 8), none, [], false⟩])
  (.seq
  (.seq
  (.reg [⟨0, .q .mv, [.tmp 6], (some 37), none, [], false⟩,
    ⟨1, .q (.bin .sub), [.tmp 37, .const (.int .i64 1)], (some 38), none, [], false⟩,
    ⟨2, .q .mv, [.tmp 38], (some 9), none, [], false⟩])
  (.block 4
   (.loop L49_0)))
  (.seq
  (.reg [⟨0, .q .mv, [.tmp 3], (some 52), none, [], false⟩,
    ⟨1, .q .mv, [.tmp 7], (some 53), none, [], false⟩,
    ⟨2, .q .mv, [.tmp 8], (some 54), none, [], false⟩,
    ⟨3, .q (.iad 1), [.tmp 52, .tmp 53], (some 55), none, [], false⟩,
    ⟨4, .e (.st 1), [.tmp 55, .tmp 54], none, none, [], false⟩])
  (.reg [⟨0, .q .mv, [.tmp 4], (some 56), none, [], false⟩,
    ⟨1, .q (.bin .add), [.tmp 56, .const (.int .i64 1)], (some 57), none, [], false⟩,
    ⟨2, .q .mv, [.tmp 57], (some 4), none, [], false⟩]))))))))
 L49_1))
def L49_3 : LCode :=
 (.reg [⟨0, .q .mv, [.tmp 6], (some 15), none, [], false⟩,
   ⟨1, .q (.bin .add), [.tmp 15, .const (.int .i64 1)], (some 16), none, [], false⟩,
   ⟨2, .q .mv, [.tmp 16], (some 6), none, [], false⟩])
def L49_4 : LCode :=
 (.seq
 (.seq
 (.reg [⟨0, .q .mv, [.tmp 6], (some 13), none, [], false⟩,
   ⟨1, .q (.bin .leq), [.tmp 13, .const (.int .i64 15)], (some 14), none, [], false⟩])
 (.cond (.tmp 14)
  .skip
  (.exit 0)))
 (.seq
 (.block 1
  (.seq
  (.reg [⟨0, .q .mv, [.const (.int .i64 0)], (some 7), none, [], false⟩])
  (.block 2
   (.loop L49_2))))
 L49_3))
def L49_5 : LCode :=
 (.seq
 (.reg [⟨0, .q .mv, [.tmp 3], (some 58), none, [], false⟩,
   ⟨1, .q .mv, [.tmp 58], (some 2), none, [], false⟩])
 .ret)
def L49 : LFn :=
 ⟨59, [.t 2],
 (.seq
 (.reg [⟨0, .q .mv, [.const (.slice none 0 0)], (some 2), none, [], false⟩])
 (.seq
 (.reg [⟨0, .q .mv, [.tmp 0], (some 10), none, [], false⟩,
   ⟨1, .q .len, [.tmp 10], (some 11), none, [], false⟩,
   ⟨2, .e (.mks 24 1 24 #[(.slice none 0 0)]), [.tmp 11, .tmp 11], (some 12), none, [], false⟩,
   ⟨3, .q .mv, [.tmp 12], (some 3), none, [], false⟩])
 (.seq
 (.reg [⟨0, .q .mv, [.const (.int .i64 0)], (some 4), none, [], false⟩,
   ⟨1, .q .mv, [.const (.int .i64 0)], (some 5), none, [], false⟩])
 (.seq
 (.seq
 (.reg [⟨0, .q .mv, [.const (.int .i64 1)], (some 6), none, [], false⟩])
 (.block 0
  (.loop L49_4)))
 L49_5))))⟩
theorem low49 : lowFn Try.prog Try.f49 = some L49 := by kernel_rfl
theorem call49 {args : List Value} {H : Heap} {S : Ending → Heap → Prop} (hn : args.length ≤ L49.n) (h : awpC Try.prog L49.body (retQ L49.results S) (fun ch H => S (.panicked ch) H) (env0 args) H) : ACalls Try.prog 49 args.toArray H S := acalls mixed Try.func49 low49 hn h
/-- (*satchel/bits.Code).begins -/
def L50_0 : LCode :=
 (.seq
 (.seq
 (.reg [⟨0, .q .mv, [.tmp 7], (some 12), none, [], false⟩,
   ⟨1, .q .mv, [.tmp 0], (some 13), none, [], false⟩,
   ⟨2, .q .nilc, [.tmp 13], (some 14), none, [], false⟩,
   ⟨3, .q (.fad 35), [.tmp 14], (some 15), none, [], false⟩,
   ⟨4, .q .ld, [.tmp 15], (some 16), none, [], false⟩,
   ⟨5, .q (.bin .leq), [.tmp 12, .tmp 16], (some 17), none, [], false⟩])
 (.cond (.tmp 17)
  .skip
  (.exit 0)))
 (.seq
 (.block 1
  (.seq
  (.reg [⟨0, .q .mv, [.tmp 1], (some 20), none, [], false⟩,
    ⟨1, .q .mv, [.tmp 7], (some 21), none, [], false⟩,
    ⟨2, .q .mv, [.tmp 2], (some 22), none, [], false⟩,
    ⟨3, .q (.bin .sub), [.tmp 21, .tmp 22], (some 23), none, [], false⟩,
    ⟨4, .q (.bin .shl), [.tmp 20, .tmp 23], (some 24), none, [], false⟩,
    ⟨5, .q .mv, [.tmp 24], (some 8), none, [], false⟩])
  (.seq
  (.reg [⟨0, .q .mv, [.tmp 8], (some 25), none, [], false⟩,
    ⟨1, .q .mv, [.tmp 7], (some 26), none, [], false⟩,
    ⟨2, .q .mv, [.tmp 2], (some 27), none, [], false⟩,
    ⟨3, .q (.bin .sub), [.tmp 26, .tmp 27], (some 28), none, [], false⟩,
    ⟨4, .q (.bin .shl), [.const (.int .i64 1), .tmp 28], (some 29), none, [], false⟩,
    ⟨5, .q (.bin .add), [.tmp 25, .tmp 29], (some 30), none, [], false⟩,
    ⟨6, .q .mv, [.tmp 30], (some 9), none, [], false⟩])
  (.seq
  (.reg [⟨0, .q .mv, [.tmp 0], (some 31), none, [], false⟩,
    ⟨1, .q .mv, [.tmp 7], (some 32), none, [], false⟩,
    ⟨2, .q .nilc, [.tmp 31], (some 33), none, [], false⟩,
    ⟨3, .q (.fad 2), [.tmp 33], (some 34), none, [], false⟩,
    ⟨4, .q (.iada 16 1), [.tmp 34, .tmp 32], (some 35), none, [], false⟩,
    ⟨5, .q .ld, [.tmp 35], (some 36), none, [], false⟩,
    ⟨6, .q (.bin .gtr), [.tmp 36, .const (.int .i64 0)], (some 37), none, [], false⟩,
    ⟨7, .q .mv, [.tmp 37], (some 38), none, [], false⟩,
    ⟨8, .q .mv, [.tmp 0], (some 39), (some (38, true)), [], false⟩,
    ⟨9, .q .mv, [.tmp 7], (some 40), (some (38, true)), [], false⟩,
    ⟨10, .q .nilc, [.tmp 39], (some 41), (some (38, true)), [], false⟩,
    ⟨11, .q (.fad 18), [.tmp 41], (some 42), (some (38, true)), [], false⟩,
    ⟨12, .q (.iada 16 1), [.tmp 42, .tmp 40], (some 43), (some (38, true)), [], false⟩,
    ⟨13, .q .ld, [.tmp 43], (some 44), (some (38, true)), [], false⟩,
    ⟨14, .q .mv, [.tmp 9], (some 45), (some (38, true)), [], false⟩,
    ⟨15, .q (.bin .lss), [.tmp 44, .tmp 45], (some 46), (some (38, true)), [], false⟩,
    ⟨16, .q .pick, [.tmp 38, .tmp 46, .const (.bool false)], (some 47), none, [], false⟩,
    ⟨17, .q .mv, [.tmp 47], (some 48), none, [], false⟩,
    ⟨18, .q .mv, [.tmp 0], (some 49), (some (48, true)), [], false⟩,
    ⟨19, .q .mv, [.tmp 7], (some 50), (some (48, true)), [], false⟩,
    ⟨20, .q .nilc, [.tmp 49], (some 51), (some (48, true)), [], false⟩,
    ⟨21, .q (.fad 18), [.tmp 51], (some 52), (some (48, true)), [], false⟩,
    ⟨22, .q (.iada 16 1), [.tmp 52, .tmp 50], (some 53), (some (48, true)), [], false⟩,
    ⟨23, .q .ld, [.tmp 53], (some 54), (some (48, true)), [], false⟩,
    ⟨24, .q .mv, [.tmp 0], (some 55), (some (48, true)), [], false⟩,
    ⟨25, .q .mv, [.tmp 7], (some 56), (some (48, true)), [], false⟩,
    ⟨26, .q .nilc, [.tmp 55], (some 57), (some (48, true)), [], false⟩,
    ⟨27, .q (.fad 2), [.tmp 57], (some 58), (some (48, true)), [], false⟩,
    ⟨28, .q (.iada 16 1), [.tmp 58, .tmp 56], (some 59), (some (48, true)), [], false⟩,
    ⟨29, .q .ld, [.tmp 59], (some 60), (some (48, true)), [], false⟩,
    ⟨30, .q (.bin .add), [.tmp 54, .tmp 60], (some 61), (some (48, true)), [], false⟩,
    ⟨31, .q .mv, [.tmp 8], (some 62), (some (48, true)), [], false⟩,
    ⟨32, .q (.bin .gtr), [.tmp 61, .tmp 62], (some 63), (some (48, true)), [], false⟩,
    ⟨33, .q .pick, [.tmp 48, .tmp 63, .const (.bool false)], (some 64), none, [], false⟩])
  (.cond (.tmp 64)
   (.seq
   (.reg [⟨0, .q .mv, [.const (.bool true)], (some 6), none, [], false⟩])
   .ret)
   .skip)))))
 (.reg [⟨0, .q .mv, [.tmp 7], (some 18), none, [], false⟩,
   ⟨1, .q (.bin .add), [.tmp 18, .const (.int .i64 1)], (some 19), none, [], false⟩,
   ⟨2, .q .mv, [.tmp 19], (some 7), none, [], false⟩])))
def L50 : LFn :=
 ⟨65, [.t 6],
 (.seq
 (.reg [⟨0, .q .mv, [.const (.bool false)], (some 6), none, [], false⟩])
 (.seq
 (.seq
 (.reg [⟨0, .q .mv, [.tmp 2], (some 10), none, [], false⟩,
   ⟨1, .q (.bin .add), [.tmp 10, .const (.int .i64 1)], (some 11), none, [], false⟩,
   ⟨2, .q .mv, [.tmp 11], (some 7), none, [], false⟩])
 (.block 0
  (.loop L50_0)))
 (.seq
 (.reg [⟨0, .q .mv, [.const (.bool false)], (some 6), none, [], false⟩])
 .ret)))⟩
theorem low50 : lowFn Try.prog Try.f50 = some L50 := by kernel_rfl
theorem call50 {args : List Value} {H : Heap} {S : Ending → Heap → Prop} (hn : args.length ≤ L50.n) (h : awpC Try.prog L50.body (retQ L50.results S) (fun ch H => S (.panicked ch) H) (env0 args) H) : ACalls Try.prog 50 args.toArray H S := acalls mixed Try.func50 low50 hn h
/-- satchel/satchelref05.starts -/
def L51_0 : LCode :=
 (.seq
 (.seq
 (.reg [⟨0, .q .mv, [.tmp 5], (some 11), none, [], false⟩,
   ⟨1, .q .mv, [.tmp 1], (some 12), none, [], false⟩,
   ⟨2, .q .len, [.tmp 12], (some 13), none, [], false⟩,
   ⟨3, .q (.bin .lss), [.tmp 11, .tmp 13], (some 14), none, [], false⟩])
 (.cond (.tmp 14)
  .skip
  (.exit 0)))
 (.seq
 (.block 1
  (.seq
  (.reg [⟨0, .q .mv, [.tmp 0], (some 17), none, [], false⟩,
    ⟨1, .q .mv, [.tmp 5], (some 18), none, [], false⟩,
    ⟨2, .q (.iad 1), [.tmp 17, .tmp 18], (some 19), none, [], false⟩,
    ⟨3, .q .ld, [.tmp 19], (some 20), none, [], false⟩,
    ⟨4, .q .mv, [.tmp 1], (some 21), none, [], false⟩,
    ⟨5, .q .mv, [.tmp 5], (some 22), none, [], false⟩,
    ⟨6, .q (.iad 1), [.tmp 21, .tmp 22], (some 23), none, [], false⟩,
    ⟨7, .q .ld, [.tmp 23], (some 24), none, [], false⟩,
    ⟨8, .q (.bin .neq), [.tmp 20, .tmp 24], (some 25), none, [], false⟩])
  (.cond (.tmp 25)
   (.seq
   (.reg [⟨0, .q .mv, [.const (.bool false)], (some 4), none, [], false⟩])
   .ret)
   .skip)))
 (.reg [⟨0, .q .mv, [.tmp 5], (some 15), none, [], false⟩,
   ⟨1, .q (.bin .add), [.tmp 15, .const (.int .i64 1)], (some 16), none, [], false⟩,
   ⟨2, .q .mv, [.tmp 16], (some 5), none, [], false⟩])))
def L51 : LFn :=
 ⟨26, [.t 4],
 (.seq
 (.reg [⟨0, .q .mv, [.const (.bool false)], (some 4), none, [], false⟩])
 (.seq
 (.seq
 (.reg [⟨0, .q .mv, [.tmp 1], (some 6), none, [], false⟩,
   ⟨1, .q .len, [.tmp 6], (some 7), none, [], false⟩,
   ⟨2, .q .mv, [.tmp 0], (some 8), none, [], false⟩,
   ⟨3, .q .len, [.tmp 8], (some 9), none, [], false⟩,
   ⟨4, .q (.bin .gtr), [.tmp 7, .tmp 9], (some 10), none, [], false⟩])
 (.cond (.tmp 10)
  (.seq
  (.reg [⟨0, .q .mv, [.const (.bool false)], (some 4), none, [], false⟩])
  .ret)
  .skip))
 (.seq
 (.seq
 (.reg [⟨0, .q .mv, [.const (.int .i64 0)], (some 5), none, [], false⟩])
 (.block 0
  (.loop L51_0)))
 (.seq
 (.reg [⟨0, .q .mv, [.const (.bool true)], (some 4), none, [], false⟩])
 .ret))))⟩
theorem low51 : lowFn Try.prog Try.f51 = some L51 := by kernel_rfl
theorem call51 {args : List Value} {H : Heap} {S : Ending → Heap → Prop} (hn : args.length ≤ L51.n) (h : awpC Try.prog L51.body (retQ L51.results S) (fun ch H => S (.panicked ch) H) (env0 args) H) : ACalls Try.prog 51 args.toArray H S := acalls mixed Try.func51 low51 hn h
/-- satchel/satchellaw05.turned -/
def L40_0 : LCode :=
 (.seq
 (.seq
 (.reg [⟨0, .q .mv, [.tmp 4], (some 5), none, [], false⟩,
   ⟨1, .q (.fad 1), [.tmp 1], (some 6), none, [], false⟩,
   ⟨2, .q .ld, [.tmp 6], (some 7), none, [], false⟩,
   ⟨3, .q (.bin .lss), [.tmp 5, .tmp 7], (some 8), none, [], false⟩])
 (.cond (.tmp 8)
  .skip
  (.exit 0)))
 (.seq
 (.block 1
  (.reg [⟨0, .q .mv, [.tmp 3], (some 11), none, [], false⟩,
    ⟨1, .q (.bin .mul), [.tmp 11, .const (.int .u32 2)], (some 12), none, [], false⟩,
    ⟨2, .q (.fad 0), [.tmp 1], (some 13), none, [], false⟩,
    ⟨3, .q .ld, [.tmp 13], (some 14), none, [], false⟩,
    ⟨4, .q .mv, [.tmp 4], (some 15), none, [], false⟩,
    ⟨5, .q (.cvi .u64), [.tmp 15], (some 16), none, [], false⟩,
    ⟨6, .q (.bin .shr), [.tmp 14, .tmp 16], (some 17), none, [], false⟩,
    ⟨7, .q (.bin .rem), [.tmp 17, .const (.int .u32 2)], (some 18), none, [], false⟩,
    ⟨8, .q (.bin .add), [.tmp 12, .tmp 18], (some 19), none, [], false⟩,
    ⟨9, .q .mv, [.tmp 19], (some 3), none, [], false⟩]))
 (.reg [⟨0, .q .mv, [.tmp 4], (some 9), none, [], false⟩,
   ⟨1, .q (.bin .add), [.tmp 9, .const (.int .i64 1)], (some 10), none, [], false⟩,
   ⟨2, .q .mv, [.tmp 10], (some 4), none, [], false⟩])))
def L40 : LFn :=
 ⟨21, [.t 2],
 (.seq
 (.reg [⟨0, .e (.box 62), [.tmp 0], (some 1), none, [], false⟩,
   ⟨1, .q .mv, [.const (.int .u32 0)], (some 2), none, [], false⟩])
 (.seq
 (.reg [⟨0, .q .mv, [.const (.int .u32 0)], (some 3), none, [], false⟩])
 (.seq
 (.seq
 (.reg [⟨0, .q .mv, [.const (.int .i64 0)], (some 4), none, [], false⟩])
 (.block 0
  (.loop L40_0)))
 (.seq
 (.reg [⟨0, .q .mv, [.tmp 3], (some 20), none, [], false⟩,
   ⟨1, .q .mv, [.tmp 20], (some 2), none, [], false⟩])
 .ret))))⟩
theorem low40 : lowFn Try.prog Try.f40 = some L40 := by kernel_rfl
theorem call40 {args : List Value} {H : Heap} {S : Ending → Heap → Prop} (hn : args.length ≤ L40.n) (h : awpC Try.prog L40.body (retQ L40.results S) (fun ch H => S (.panicked ch) H) (env0 args) H) : ACalls Try.prog 40 args.toArray H S := acalls mixed Try.func40 low40 hn h
end Go.Proofs.Ytfdcolicpfellaa.Low
