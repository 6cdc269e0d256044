/-
  Functions in short (out of the program's form in Lean, by the kernel).
-/
import Derived.Test.YtfdcolicpfellaaSepCode
import Derived.Test.YtfdcolicpfellaaProg
namespace Go.Proofs.Ytfdcolicpfellaa.Low
open Go Go.Proofs.Ytfdcolicpfellaa.Sep
theorem mixed : Try.prog.follows .mixedOrders = true := by kernel_rfl
/-- satchel/bits.Lengths -/
def L41_0 : LCode :=
 (.reg [⟨0, .q (.bin .add), [.tmp 34, .const (.int .i64 1)], (some 54), none, [], false⟩,
   ⟨1, .q .mv, [.tmp 54], (some 34), none, [], false⟩])
def L41_1 : LCode :=
 (.seq
 (.reg [⟨0, .q (.bin .lss), [.tmp 34, .tmp 33], (some 35), none, [], false⟩])
 (.seq
 (.cond (.tmp 35)
  .skip
  (.exit 0))
 (.seq
 (.block 1
  (.seq
  (.reg [⟨0, .q .mv, [.tmp 34], (some 36), none, [], false⟩,
    ⟨1, .q (.iad 1), [.tmp 32, .tmp 34], (some 37), none, [], false⟩,
    ⟨2, .q .ld, [.tmp 37], (some 38), none, [], false⟩,
    ⟨3, .q .mv, [.tmp 36], (some 7), none, [], false⟩,
    ⟨4, .q .mv, [.tmp 38], (some 8), none, [], false⟩])
  (.seq
  (.seq
  (.reg [⟨0, .q .mv, [.tmp 8], (some 39), none, [], false⟩,
    ⟨1, .q (.bin .lss), [.tmp 39, .const (.int .i64 0)], (some 40), none, [], false⟩,
    ⟨2, .q .mv, [.tmp 40], (some 41), none, [], false⟩,
    ⟨3, .q .mv, [.tmp 8], (some 42), (some (41, false)), [], false⟩,
    ⟨4, .q (.bin .gtr), [.tmp 42, .const (.int .i64 1099511627776)], (some 43), (some (41, false)), [], false⟩,
    ⟨5, .q .pick, [.tmp 41, .const (.bool true), .tmp 43], (some 44), none, [], false⟩])
  (.cond (.tmp 44)
   (.seq
   (.reg [⟨0, .q .mv, [.const (.slice none 0 0)], (some 4), none, [], false⟩,
     ⟨1, .q .mv, [.const (.int .i64 1)], (some 5), none, [], false⟩])
   .ret)
   .skip))
  (.seq
  (.reg [⟨0, .q .mv, [.tmp 8], (some 45), none, [], false⟩,
    ⟨1, .q (.bin .gtr), [.tmp 45, .const (.int .i64 0)], (some 46), none, [], false⟩])
  (.cond (.tmp 46)
   (.reg [⟨0, .q .mv, [.tmp 6], (some 47), none, [], false⟩,
     ⟨1, .q .mv, [.tmp 8], (some 48), none, [], false⟩,
     ⟨2, .q .mv, [.tmp 7], (some 49), none, [], false⟩,
     ⟨3, .q (.build #[(.int .i64 0), (.int .i64 0), (.pointer none), (.pointer none)] [(0, 1), (1, 1)]), [.tmp 48, .tmp 49], (some 50), none, [], false⟩,
     ⟨4, .e (.box 99), [.tmp 50], (some 51), none, [], false⟩,
     ⟨5, .e (.lits 97 #[(.pointer none)] 1 [(0, 1)]), [.tmp 51], (some 52), none, [], false⟩,
     ⟨6, .e (.app 97 1 8 #[(.pointer none)]), [.tmp 47, .tmp 52], (some 53), none, [], false⟩,
     ⟨7, .q .mv, [.tmp 53], (some 6), none, [], false⟩])
   .skip)))))
 L41_0)))
def L41_2 : LCode :=
 (.seq
 (.seq
 (.reg [⟨0, .q .mv, [.tmp 13], (some 92), none, [], false⟩,
   ⟨1, .q (.bin .add), [.tmp 92, .const (.int .i64 1)], (some 93), none, [], false⟩,
   ⟨2, .q .mv, [.tmp 11], (some 94), none, [], false⟩,
   ⟨3, .q .len, [.tmp 94], (some 95), none, [], false⟩,
   ⟨4, .q (.bin .lss), [.tmp 93, .tmp 95], (some 96), none, [], false⟩])
 (.cond (.tmp 96)
  .skip
  (.exit 5)))
 (.seq
 (.block 6
  (.reg [⟨0, .q .mv, [.tmp 12], (some 99), none, [], false⟩,
    ⟨1, .q .mv, [.tmp 11], (some 100), none, [], false⟩,
    ⟨2, .q .mv, [.tmp 13], (some 101), none, [], false⟩,
    ⟨3, .q (.iad 1), [.tmp 100, .tmp 101], (some 102), none, [], false⟩,
    ⟨4, .q .ld, [.tmp 102], (some 103), none, [], false⟩,
    ⟨5, .q .nilc, [.tmp 103], (some 104), none, [], false⟩,
    ⟨6, .q (.fad 0), [.tmp 104], (some 105), none, [], false⟩,
    ⟨7, .q .ld, [.tmp 105], (some 106), none, [], false⟩,
    ⟨8, .q .mv, [.tmp 11], (some 107), none, [], false⟩,
    ⟨9, .q .mv, [.tmp 13], (some 108), none, [], false⟩,
    ⟨10, .q (.bin .add), [.tmp 108, .const (.int .i64 1)], (some 109), none, [], false⟩,
    ⟨11, .q (.iad 1), [.tmp 107, .tmp 109], (some 110), none, [], false⟩,
    ⟨12, .q .ld, [.tmp 110], (some 111), none, [], false⟩,
    ⟨13, .q .nilc, [.tmp 111], (some 112), none, [], false⟩,
    ⟨14, .q (.fad 0), [.tmp 112], (some 113), none, [], false⟩,
    ⟨15, .q .ld, [.tmp 113], (some 114), none, [], false⟩,
    ⟨16, .q (.bin .add), [.tmp 106, .tmp 114], (some 115), none, [], false⟩,
    ⟨17, .q .mv, [.tmp 11], (some 116), none, [], false⟩,
    ⟨18, .q .mv, [.tmp 13], (some 117), none, [], false⟩,
    ⟨19, .q (.iad 1), [.tmp 116, .tmp 117], (some 118), none, [], false⟩,
    ⟨20, .q .ld, [.tmp 118], (some 119), none, [], false⟩,
    ⟨21, .q .mv, [.tmp 11], (some 120), none, [], false⟩,
    ⟨22, .q .mv, [.tmp 13], (some 121), none, [], false⟩,
    ⟨23, .q (.bin .add), [.tmp 121, .const (.int .i64 1)], (some 122), none, [], false⟩,
    ⟨24, .q (.iad 1), [.tmp 120, .tmp 122], (some 123), none, [], false⟩,
    ⟨25, .q .ld, [.tmp 123], (some 124), none, [], false⟩,
    ⟨26, .q (.build #[(.int .i64 0), (.int .i64 0), (.pointer none), (.pointer none)] [(0, 1), (2, 1), (3, 1)]), [.tmp 115, .tmp 119, .tmp 124], (some 125), none, [], false⟩,
    ⟨27, .e (.box 99), [.tmp 125], (some 126), none, [], false⟩,
    ⟨28, .e (.lits 97 #[(.pointer none)] 1 [(0, 1)]), [.tmp 126], (some 127), none, [], false⟩,
    ⟨29, .e (.app 97 1 8 #[(.pointer none)]), [.tmp 99, .tmp 127], (some 128), none, [], false⟩,
    ⟨30, .q .mv, [.tmp 128], (some 12), none, [], false⟩]))
 (.reg [⟨0, .q .mv, [.tmp 13], (some 97), none, [], false⟩,
   ⟨1, .q (.bin .add), [.tmp 97, .const (.int .i64 2)], (some 98), none, [], false⟩,
   ⟨2, .q .mv, [.tmp 98], (some 13), none, [], false⟩])))
def L41_3 : LCode :=
 (.seq
 (.reg [⟨0, .q (.bin .lss), [.tmp 88, .tmp 87], (some 89), none, [], false⟩])
 (.seq
 (.cond (.tmp 89)
  .skip
  (.exit 3))
 (.seq
 (.block 4
  (.seq
  (.reg [⟨0, .q .mv, [.tmp 6], (some 90), none, [], false⟩,
    ⟨1, .e (.call 55), [.tmp 90], (some 91), none, [], false⟩,
    ⟨2, .q .mv, [.tmp 91], (some 12), none, [], false⟩])
  (.seq
  (.seq
  (.reg [⟨0, .q .mv, [.const (.int .i64 0)], (some 13), none, [], false⟩])
  (.block 5
   (.loop L41_2)))
  (.seq
  (.reg [⟨0, .q .mv, [.tmp 12], (some 129), none, [], false⟩,
    ⟨1, .q .mv, [.tmp 10], (some 130), none, [], false⟩,
    ⟨2, .e (.call 54), [.tmp 129, .tmp 130], (some 131), none, [], false⟩])
  (.reg [⟨0, .q .mv, [.tmp 12], (some 132), none, [], false⟩,
    ⟨1, .q .mv, [.tmp 132], (some 11), none, [], false⟩])))))
 (.reg [⟨0, .q (.bin .add), [.tmp 88, .const (.int .i64 1)], (some 133), none, [], false⟩,
   ⟨1, .q .mv, [.tmp 133], (some 88), none, [], false⟩]))))
def L41_4 : LCode :=
 (.seq
 (.reg [⟨0, .q (.bin .lss), [.tmp 141, .tmp 140], (some 142), none, [], false⟩])
 (.seq
 (.cond (.tmp 142)
  .skip
  (.exit 7))
 (.seq
 (.block 8
  (.seq
  (.reg [⟨0, .q (.iad 1), [.tmp 139, .tmp 141], (some 143), none, [], false⟩,
    ⟨1, .q .ld, [.tmp 143], (some 144), none, [], false⟩,
    ⟨2, .q .mv, [.tmp 144], (some 15), none, [], false⟩])
  (.reg [⟨0, .q .mv, [.tmp 15], (some 145), none, [], false⟩,
    ⟨1, .q .mv, [.tmp 9], (some 146), none, [], false⟩,
    ⟨2, .e (.call 56), [.tmp 145, .tmp 146], (some 147), none, [], false⟩])))
 (.reg [⟨0, .q (.bin .add), [.tmp 141, .const (.int .i64 1)], (some 148), none, [], false⟩,
   ⟨1, .q .mv, [.tmp 148], (some 141), none, [], false⟩]))))
def L41_5 : LCode :=
 (.seq
 (.seq
 (.reg [⟨0, .q .mv, [.tmp 11], (some 134), none, [], false⟩,
   ⟨1, .q .mv, [.tmp 6], (some 135), none, [], false⟩,
   ⟨2, .q .len, [.tmp 135], (some 136), none, [], false⟩,
   ⟨3, .q (.bin .mul), [.const (.int .i64 2), .tmp 136], (some 137), none, [], false⟩,
   ⟨4, .q (.bin .sub), [.tmp 137, .const (.int .i64 2)], (some 138), none, [], false⟩,
   ⟨5, .q (.slc 1 false true false), [.tmp 134, .tmp 138], (some 139), none, [], false⟩,
   ⟨6, .q .len, [.tmp 139], (some 140), none, [], false⟩,
   ⟨7, .q .mv, [.const (.int .i64 0)], (some 141), none, [], false⟩])
 (.block 7
  (.loop L41_4)))
 (.seq
 (.reg [⟨0, .q .mv, [.tmp 9], (some 149), none, [], false⟩,
   ⟨1, .q .mv, [.tmp 149], (some 4), none, [], false⟩,
   ⟨2, .q .mv, [.const (.int .i64 0)], (some 5), none, [], false⟩])
 .ret))
def L41 : LFn :=
 ⟨150, [.t 4, .t 5],
 (.seq
 (.reg [⟨0, .q .mv, [.const (.slice none 0 0)], (some 4), none, [], false⟩,
   ⟨1, .q .mv, [.const (.int .i64 0)], (some 5), none, [], false⟩])
 (.seq
 (.seq
 (.reg [⟨0, .q .mv, [.tmp 0], (some 16), none, [], false⟩,
   ⟨1, .q .len, [.tmp 16], (some 17), none, [], false⟩,
   ⟨2, .q (.bin .lss), [.tmp 17, .const (.int .i64 1)], (some 18), none, [], false⟩,
   ⟨3, .q .mv, [.tmp 18], (some 19), none, [], false⟩,
   ⟨4, .q .mv, [.tmp 0], (some 20), (some (19, false)), [], false⟩,
   ⟨5, .q .len, [.tmp 20], (some 21), (some (19, false)), [], false⟩,
   ⟨6, .q (.bin .gtr), [.tmp 21, .const (.int .i64 320)], (some 22), (some (19, false)), [], false⟩,
   ⟨7, .q .pick, [.tmp 19, .const (.bool true), .tmp 22], (some 23), none, [], false⟩,
   ⟨8, .q .mv, [.tmp 23], (some 24), none, [], false⟩,
   ⟨9, .q .mv, [.tmp 1], (some 25), (some (24, false)), [], false⟩,
   ⟨10, .q (.bin .lss), [.tmp 25, .const (.int .i64 1)], (some 26), (some (24, false)), [], false⟩,
   ⟨11, .q .pick, [.tmp 24, .const (.bool true), .tmp 26], (some 27), none, [], false⟩,
   ⟨12, .q .mv, [.tmp 27], (some 28), none, [], false⟩,
   ⟨13, .q .mv, [.tmp 1], (some 29), (some (28, false)), [], false⟩,
   ⟨14, .q (.bin .gtr), [.tmp 29, .const (.int .i64 15)], (some 30), (some (28, false)), [], false⟩,
   ⟨15, .q .pick, [.tmp 28, .const (.bool true), .tmp 30], (some 31), none, [], false⟩])
 (.cond (.tmp 31)
  (.seq
  (.reg [⟨0, .q .mv, [.const (.slice none 0 0)], (some 4), none, [], false⟩,
    ⟨1, .q .mv, [.const (.int .i64 1)], (some 5), none, [], false⟩])
  .ret)
  .skip))
 (.seq
 (.reg [⟨0, .q .mv, [.const (.slice none 0 0)], (some 6), none, [], false⟩])
 (.seq
 (.seq
 (.reg [⟨0, .q .mv, [.tmp 0], (some 32), none, [], false⟩,
   ⟨1, .q .len, [.tmp 32], (some 33), none, [], false⟩,
   ⟨2, .q .mv, [.const (.int .i64 0)], (some 34), none, [], false⟩])
 (.block 0
  (.loop L41_1)))
 (.seq
 (.reg [⟨0, .q .mv, [.tmp 0], (some 55), none, [], false⟩,
   ⟨1, .q .len, [.tmp 55], (some 56), none, [], false⟩,
   ⟨2, .e (.mks 3 1 8 #[(.int .i64 0)]), [.tmp 56, .tmp 56], (some 57), none, [], false⟩,
   ⟨3, .q .mv, [.tmp 57], (some 9), none, [], false⟩])
 (.seq
 (.block 2
  (.seq
  (.reg [⟨0, .q .mv, [.tmp 6], (some 59), none, [], false⟩,
    ⟨1, .q .len, [.tmp 59], (some 60), none, [], false⟩,
    ⟨2, .q .mv, [.tmp 1], (some 61), none, [], false⟩,
    ⟨3, .q (.bin .shl), [.const (.int .i64 1), .tmp 61], (some 62), none, [], false⟩,
    ⟨4, .q (.bin .gtr), [.tmp 60, .tmp 62], (some 63), none, [], false⟩,
    ⟨5, .q .mv, [.tmp 63], (some 58), none, [], false⟩])
  (.cond (.tmp 58)
   (.seq
   (.reg [⟨0, .q .mv, [.const (.slice none 0 0)], (some 4), none, [], false⟩,
     ⟨1, .q .mv, [.const (.int .i64 2)], (some 5), none, [], false⟩])
   .ret)
   (.seq
   (.reg [⟨0, .q .mv, [.tmp 6], (some 65), none, [], false⟩,
     ⟨1, .q .len, [.tmp 65], (some 66), none, [], false⟩,
     ⟨2, .q (.bin .eql), [.tmp 66, .const (.int .i64 0)], (some 67), none, [], false⟩,
     ⟨3, .q .mv, [.tmp 67], (some 64), none, [], false⟩])
   (.cond (.tmp 64)
    (.seq
    (.reg [⟨0, .q .mv, [.tmp 9], (some 68), none, [], false⟩,
      ⟨1, .q .mv, [.tmp 68], (some 4), none, [], false⟩,
      ⟨2, .q .mv, [.const (.int .i64 0)], (some 5), none, [], false⟩])
    .ret)
    (.seq
    (.reg [⟨0, .q .mv, [.tmp 6], (some 70), none, [], false⟩,
      ⟨1, .q .len, [.tmp 70], (some 71), none, [], false⟩,
      ⟨2, .q (.bin .eql), [.tmp 71, .const (.int .i64 1)], (some 72), none, [], false⟩,
      ⟨3, .q .mv, [.tmp 72], (some 69), none, [], false⟩])
    (.cond (.tmp 69)
     (.seq
     (.reg [⟨0, .q .mv, [.tmp 9], (some 73), none, [], false⟩,
       ⟨1, .q .mv, [.tmp 6], (some 74), none, [], false⟩,
       ⟨2, .q (.iad 1), [.tmp 74, .const (.int .i64 0)], (some 75), none, [], false⟩,
       ⟨3, .q .ld, [.tmp 75], (some 76), none, [], false⟩,
       ⟨4, .q .nilc, [.tmp 76], (some 77), none, [], false⟩,
       ⟨5, .q (.fad 1), [.tmp 77], (some 78), none, [], false⟩,
       ⟨6, .q .ld, [.tmp 78], (some 79), none, [], false⟩,
       ⟨7, .q (.iad 1), [.tmp 73, .tmp 79], (some 80), none, [], false⟩,
       ⟨8, .e (.st 1), [.tmp 80, .const (.int .i64 1)], none, none, [], false⟩])
     (.seq
     (.reg [⟨0, .q .mv, [.tmp 9], (some 81), none, [], false⟩,
       ⟨1, .q .mv, [.tmp 81], (some 4), none, [], false⟩,
       ⟨2, .q .mv, [.const (.int .i64 0)], (some 5), none, [], false⟩])
     .ret))
     .skip)))))))
 (.seq
 (.reg [⟨0, .q .mv, [.func 52], (some 10), none, [], false⟩])
 (.seq
 (.reg [⟨0, .q .mv, [.tmp 6], (some 82), none, [], false⟩,
   ⟨1, .q .mv, [.tmp 10], (some 83), none, [], false⟩,
   ⟨2, .e (.call 54), [.tmp 82, .tmp 83], (some 84), none, [], false⟩])
 (.seq
 (.reg [⟨0, .q .mv, [.tmp 6], (some 85), none, [], false⟩,
   ⟨1, .q .mv, [.tmp 85], (some 11), none, [], false⟩])
 (.seq
 (.seq
 (.reg [⟨0, .q .mv, [.tmp 1], (some 86), none, [], false⟩,
   ⟨1, .q (.bin .sub), [.tmp 86, .const (.int .i64 1)], (some 87), none, [], false⟩,
   ⟨2, .q .mv, [.const (.int .i64 0)], (some 88), none, [], false⟩])
 (.block 3
  (.loop L41_3)))
 L41_5))))))))))⟩
theorem low41 : lowFn Try.prog Try.f41 = some L41 := by kernel_rfl
theorem call41 {args : List Value} {H : Heap} {S : Ending → Heap → Prop} (hn : args.length ≤ L41.n) (h : awpC Try.prog L41.body (retQ L41.results S) (fun ch H => S (.panicked ch) H) (env0 args) H) : ACalls Try.prog 41 args.toArray H S := acalls mixed Try.func41 low41 hn h
/-- satchel/satchellaw05.BitsLengths -/
def L9_0 : LCode :=
 (.seq
 (.seq
 (.reg [⟨0, .q .mv, [.tmp 10], (some 37), none, [], false⟩,
   ⟨1, .q .mv, [.tmp 0], (some 38), none, [], false⟩,
   ⟨2, .q .len, [.tmp 38], (some 39), none, [], false⟩,
   ⟨3, .q (.bin .lss), [.tmp 37, .tmp 39], (some 40), none, [], false⟩])
 (.cond (.tmp 40)
  .skip
  (.exit 0)))
 (.seq
 (.block 1
  (.seq
  (.reg [⟨0, .q .mv, [.tmp 5], (some 43), none, [], false⟩,
    ⟨1, .q .mv, [.tmp 10], (some 44), none, [], false⟩,
    ⟨2, .q (.iad 1), [.tmp 43, .tmp 44], (some 45), none, [], false⟩,
    ⟨3, .q .ld, [.tmp 45], (some 46), none, [], false⟩,
    ⟨4, .q .mv, [.tmp 0], (some 47), none, [], false⟩,
    ⟨5, .q .mv, [.tmp 10], (some 48), none, [], false⟩,
    ⟨6, .q (.iad 1), [.tmp 47, .tmp 48], (some 49), none, [], false⟩,
    ⟨7, .q .ld, [.tmp 49], (some 50), none, [], false⟩,
    ⟨8, .q (.bin .neq), [.tmp 46, .tmp 50], (some 51), none, [], false⟩])
  (.cond (.tmp 51)
   (.seq
   (.reg [⟨0, .q .mv, [.const (.bool false)], (some 4), none, [], false⟩])
   .ret)
   .skip)))
 (.reg [⟨0, .q .mv, [.tmp 10], (some 41), none, [], false⟩,
   ⟨1, .q (.bin .add), [.tmp 41, .const (.int .i64 1)], (some 42), none, [], false⟩,
   ⟨2, .q .mv, [.tmp 42], (some 10), none, [], false⟩])))
def L9_1 : LCode :=
 (.seq
 (.seq
 (.reg [⟨0, .q .mv, [.tmp 14], (some 114), none, [], false⟩,
   ⟨1, .q .mv, [.tmp 6], (some 115), none, [], false⟩,
   ⟨2, .q .len, [.tmp 115], (some 116), none, [], false⟩,
   ⟨3, .q (.bin .lss), [.tmp 114, .tmp 116], (some 117), none, [], false⟩])
 (.cond (.tmp 117)
  .skip
  (.exit 2)))
 (.seq
 (.block 3
  (.seq
  (.seq
  (.reg [⟨0, .q .mv, [.tmp 6], (some 120), none, [], false⟩,
    ⟨1, .q .mv, [.tmp 14], (some 121), none, [], false⟩,
    ⟨2, .q (.iad 1), [.tmp 120, .tmp 121], (some 122), none, [], false⟩,
    ⟨3, .q .ld, [.tmp 122], (some 123), none, [], false⟩,
    ⟨4, .q (.bin .lss), [.tmp 123, .const (.int .i64 0)], (some 124), none, [], false⟩,
    ⟨5, .q .mv, [.tmp 124], (some 125), none, [], false⟩,
    ⟨6, .q .mv, [.tmp 6], (some 126), (some (125, false)), [], false⟩,
    ⟨7, .q .mv, [.tmp 14], (some 127), (some (125, false)), [], false⟩,
    ⟨8, .q (.iad 1), [.tmp 126, .tmp 127], (some 128), (some (125, false)), [], false⟩,
    ⟨9, .q .ld, [.tmp 128], (some 129), (some (125, false)), [], false⟩,
    ⟨10, .q .mv, [.tmp 1], (some 130), (some (125, false)), [], false⟩,
    ⟨11, .q (.bin .gtr), [.tmp 129, .tmp 130], (some 131), (some (125, false)), [], false⟩,
    ⟨12, .q .pick, [.tmp 125, .const (.bool true), .tmp 131], (some 132), none, [], false⟩,
    ⟨13, .q .mv, [.tmp 132], (some 133), none, [], false⟩,
    ⟨14, .q .mv, [.tmp 6], (some 134), (some (133, false)), [], false⟩,
    ⟨15, .q .mv, [.tmp 14], (some 135), (some (133, false)), [], false⟩,
    ⟨16, .q (.iad 1), [.tmp 134, .tmp 135], (some 136), (some (133, false)), [], false⟩,
    ⟨17, .q .ld, [.tmp 136], (some 137), (some (133, false)), [], false⟩,
    ⟨18, .q (.bin .eql), [.tmp 137, .const (.int .i64 0)], (some 138), (some (133, false)), [], false⟩,
    ⟨19, .q .mv, [.tmp 0], (some 139), (some (133, false)), [], false⟩,
    ⟨20, .q .mv, [.tmp 14], (some 140), (some (133, false)), [], false⟩,
    ⟨21, .q (.iad 1), [.tmp 139, .tmp 140], (some 141), (some (133, false)), [], false⟩,
    ⟨22, .q .ld, [.tmp 141], (some 142), (some (133, false)), [], false⟩,
    ⟨23, .q (.bin .eql), [.tmp 142, .const (.int .i64 0)], (some 143), (some (133, false)), [], false⟩,
    ⟨24, .q (.eqb true), [.tmp 138, .tmp 143], (some 144), (some (133, false)), [], false⟩,
    ⟨25, .q .pick, [.tmp 133, .const (.bool true), .tmp 144], (some 145), none, [], false⟩])
  (.cond (.tmp 145)
   (.seq
   (.reg [⟨0, .q .mv, [.const (.bool false)], (some 4), none, [], false⟩])
   .ret)
   .skip))
  (.seq
  (.seq
  (.reg [⟨0, .q .mv, [.tmp 8], (some 146), none, [], false⟩,
    ⟨1, .q (.bin .eql), [.tmp 146, .const (.int .i64 1)], (some 147), none, [], false⟩,
    ⟨2, .q .mv, [.tmp 147], (some 148), none, [], false⟩,
    ⟨3, .q .mv, [.tmp 0], (some 149), (some (148, true)), [], false⟩,
    ⟨4, .q .mv, [.tmp 14], (some 150), (some (148, true)), [], false⟩,
    ⟨5, .q (.iad 1), [.tmp 149, .tmp 150], (some 151), (some (148, true)), [], false⟩,
    ⟨6, .q .ld, [.tmp 151], (some 152), (some (148, true)), [], false⟩,
    ⟨7, .q (.bin .gtr), [.tmp 152, .const (.int .i64 0)], (some 153), (some (148, true)), [], false⟩,
    ⟨8, .q .pick, [.tmp 148, .tmp 153, .const (.bool false)], (some 154), none, [], false⟩,
    ⟨9, .q .mv, [.tmp 154], (some 155), none, [], false⟩,
    ⟨10, .q .mv, [.tmp 6], (some 156), (some (155, true)), [], false⟩,
    ⟨11, .q .mv, [.tmp 14], (some 157), (some (155, true)), [], false⟩,
    ⟨12, .q (.iad 1), [.tmp 156, .tmp 157], (some 158), (some (155, true)), [], false⟩,
    ⟨13, .q .ld, [.tmp 158], (some 159), (some (155, true)), [], false⟩,
    ⟨14, .q (.bin .neq), [.tmp 159, .const (.int .i64 1)], (some 160), (some (155, true)), [], false⟩,
    ⟨15, .q .pick, [.tmp 155, .tmp 160, .const (.bool false)], (some 161), none, [], false⟩])
  (.cond (.tmp 161)
   (.seq
   (.reg [⟨0, .q .mv, [.const (.bool false)], (some 4), none, [], false⟩])
   .ret)
   .skip))
  (.reg [⟨0, .q .mv, [.tmp 13], (some 162), none, [], false⟩,
    ⟨1, .q .mv, [.tmp 6], (some 163), none, [], false⟩,
    ⟨2, .q .mv, [.tmp 14], (some 164), none, [], false⟩,
    ⟨3, .q (.iad 1), [.tmp 163, .tmp 164], (some 165), none, [], false⟩,
    ⟨4, .q .ld, [.tmp 165], (some 166), none, [], false⟩,
    ⟨5, .q .mv, [.tmp 0], (some 167), none, [], false⟩,
    ⟨6, .q .mv, [.tmp 14], (some 168), none, [], false⟩,
    ⟨7, .q (.iad 1), [.tmp 167, .tmp 168], (some 169), none, [], false⟩,
    ⟨8, .q .ld, [.tmp 169], (some 170), none, [], false⟩,
    ⟨9, .q (.bin .mul), [.tmp 166, .tmp 170], (some 171), none, [], false⟩,
    ⟨10, .q (.bin .add), [.tmp 162, .tmp 171], (some 172), none, [], false⟩,
    ⟨11, .q .mv, [.tmp 172], (some 13), none, [], false⟩]))))
 (.reg [⟨0, .q .mv, [.tmp 14], (some 118), none, [], false⟩,
   ⟨1, .q (.bin .add), [.tmp 118, .const (.int .i64 1)], (some 119), none, [], false⟩,
   ⟨2, .q .mv, [.tmp 119], (some 14), none, [], false⟩])))
def L9 : LFn :=
 ⟨188, [.t 4],
 (.seq
 (.reg [⟨0, .q .mv, [.const (.bool false)], (some 4), none, [], false⟩])
 (.seq
 (.reg [⟨0, .e (.lits 2 #[] 0 []), [], (some 17), none, [], false⟩,
   ⟨1, .q .mv, [.tmp 0], (some 18), none, [], false⟩,
   ⟨2, .e (.app 2 1 8 #[(.int .i64 0)]), [.tmp 17, .tmp 18], (some 19), none, [], false⟩,
   ⟨3, .e (.lits 2 #[(.int .i64 0)] 1 [(0, 1)]), [.const (.int .i64 (-7))], (some 20), none, [], false⟩,
   ⟨4, .e (.app 2 1 8 #[(.int .i64 0)]), [.tmp 19, .tmp 20], (some 21), none, [], false⟩,
   ⟨5, .q .mv, [.tmp 21], (some 5), none, [], false⟩])
 (.seq
 (.reg [⟨0, .q .mv, [.tmp 5], (some 23), none, [], false⟩,
   ⟨1, .q .mv, [.tmp 0], (some 24), none, [], false⟩,
   ⟨2, .q .len, [.tmp 24], (some 25), none, [], false⟩,
   ⟨3, .q (.slc 1 false true false), [.tmp 23, .tmp 25], (some 26), none, [], false⟩,
   ⟨4, .q .mv, [.tmp 1], (some 27), none, [], false⟩,
   ⟨5, .e (.call 41), [.tmp 26, .tmp 27], (some 28), none, [], false⟩,
   ⟨6, .q .mv, [.tmp 28], (some 22), none, [], false⟩,
   ⟨7, .q (.ext 0), [.tmp 22], (some 29), none, [], false⟩,
   ⟨8, .q (.ext 1), [.tmp 22], (some 30), none, [], false⟩,
   ⟨9, .q .mv, [.tmp 29], (some 6), none, [], false⟩,
   ⟨10, .q .mv, [.tmp 30], (some 7), none, [], false⟩])
 (.seq
 (.reg [⟨0, .q .mv, [.tmp 0], (some 32), none, [], false⟩,
   ⟨1, .q .mv, [.tmp 1], (some 33), none, [], false⟩,
   ⟨2, .e (.call 42), [.tmp 32, .tmp 33], (some 34), none, [], false⟩,
   ⟨3, .q .mv, [.tmp 34], (some 31), none, [], false⟩,
   ⟨4, .q (.ext 0), [.tmp 31], (some 35), none, [], false⟩,
   ⟨5, .q (.ext 1), [.tmp 31], (some 36), none, [], false⟩,
   ⟨6, .q .mv, [.tmp 35], (some 8), none, [], false⟩,
   ⟨7, .q .mv, [.tmp 36], (some 9), none, [], false⟩])
 (.seq
 (.seq
 (.reg [⟨0, .q .mv, [.const (.int .i64 0)], (some 10), none, [], false⟩])
 (.block 0
  (.loop L9_0)))
 (.seq
 (.reg [⟨0, .e (.lits 2 #[(.int .i64 0), (.int .i64 0)] 2 [(0, 1), (1, 1)]), [.const (.int .i64 4), .const (.int .i64 4)], (some 53), none, [], false⟩,
   ⟨1, .e (.call 41), [.tmp 53, .const (.int .i64 3)], (some 54), none, [], false⟩,
   ⟨2, .q .mv, [.tmp 54], (some 52), none, [], false⟩,
   ⟨3, .q (.ext 0), [.tmp 52], (some 55), none, [], false⟩,
   ⟨4, .q (.ext 1), [.tmp 52], (some 56), none, [], false⟩,
   ⟨5, .q .mv, [.tmp 55], (some 11), none, [], false⟩,
   ⟨6, .q .mv, [.tmp 56], (some 12), none, [], false⟩])
 (.seq
 (.seq
 (.reg [⟨0, .q .mv, [.tmp 11], (some 57), none, [], false⟩,
   ⟨1, .q .len, [.tmp 57], (some 58), none, [], false⟩,
   ⟨2, .q (.bin .neq), [.tmp 58, .const (.int .i64 2)], (some 59), none, [], false⟩,
   ⟨3, .q .mv, [.tmp 59], (some 60), none, [], false⟩,
   ⟨4, .q .mv, [.tmp 12], (some 61), (some (60, false)), [], false⟩,
   ⟨5, .q (.bin .neq), [.tmp 61, .const (.int .i64 0)], (some 62), (some (60, false)), [], false⟩,
   ⟨6, .q .pick, [.tmp 60, .const (.bool true), .tmp 62], (some 63), none, [], false⟩,
   ⟨7, .q .mv, [.tmp 63], (some 64), none, [], false⟩,
   ⟨8, .q .mv, [.tmp 11], (some 65), (some (64, false)), [], false⟩,
   ⟨9, .q (.iad 1), [.tmp 65, .const (.int .i64 0)], (some 66), (some (64, false)), [], false⟩,
   ⟨10, .q .ld, [.tmp 66], (some 67), (some (64, false)), [], false⟩,
   ⟨11, .q (.bin .neq), [.tmp 67, .const (.int .i64 1)], (some 68), (some (64, false)), [], false⟩,
   ⟨12, .q .pick, [.tmp 64, .const (.bool true), .tmp 68], (some 69), none, [], false⟩,
   ⟨13, .q .mv, [.tmp 69], (some 70), none, [], false⟩,
   ⟨14, .q .mv, [.tmp 11], (some 71), (some (70, false)), [], false⟩,
   ⟨15, .q (.iad 1), [.tmp 71, .const (.int .i64 1)], (some 72), (some (70, false)), [], false⟩,
   ⟨16, .q .ld, [.tmp 72], (some 73), (some (70, false)), [], false⟩,
   ⟨17, .q (.bin .neq), [.tmp 73, .const (.int .i64 1)], (some 74), (some (70, false)), [], false⟩,
   ⟨18, .q .pick, [.tmp 70, .const (.bool true), .tmp 74], (some 75), none, [], false⟩,
   ⟨19, .q .mv, [.tmp 75], (some 76), none, [], false⟩,
   ⟨20, .q .mv, [.tmp 5], (some 77), (some (76, false)), [], false⟩,
   ⟨21, .q .mv, [.tmp 0], (some 78), (some (76, false)), [], false⟩,
   ⟨22, .q .len, [.tmp 78], (some 79), (some (76, false)), [], false⟩,
   ⟨23, .q (.iad 1), [.tmp 77, .tmp 79], (some 80), (some (76, false)), [], false⟩,
   ⟨24, .q .ld, [.tmp 80], (some 81), (some (76, false)), [], false⟩,
   ⟨25, .q (.bin .neq), [.tmp 81, .const (.int .i64 (-7))], (some 82), (some (76, false)), [], false⟩,
   ⟨26, .q .pick, [.tmp 76, .const (.bool true), .tmp 82], (some 83), none, [], false⟩])
 (.cond (.tmp 83)
  (.seq
  (.reg [⟨0, .q .mv, [.const (.bool false)], (some 4), none, [], false⟩])
  .ret)
  .skip))
 (.seq
 (.seq
 (.reg [⟨0, .q .mv, [.tmp 9], (some 84), none, [], false⟩,
   ⟨1, .q (.un .not), [.tmp 84], (some 85), none, [], false⟩])
 (.cond (.tmp 85)
  (.seq
  (.reg [⟨0, .q .mv, [.tmp 7], (some 86), none, [], false⟩,
    ⟨1, .q (.bin .eql), [.tmp 86, .const (.int .i64 1)], (some 87), none, [], false⟩,
    ⟨2, .q .mv, [.tmp 87], (some 88), none, [], false⟩,
    ⟨3, .q .mv, [.tmp 6], (some 89), (some (88, true)), [], false⟩,
    ⟨4, .q .len, [.tmp 89], (some 90), (some (88, true)), [], false⟩,
    ⟨5, .q (.bin .eql), [.tmp 90, .const (.int .i64 0)], (some 91), (some (88, true)), [], false⟩,
    ⟨6, .q .pick, [.tmp 88, .tmp 91, .const (.bool false)], (some 92), none, [], false⟩,
    ⟨7, .q .mv, [.tmp 92], (some 4), none, [], false⟩])
  .ret)
  .skip))
 (.seq
 (.seq
 (.reg [⟨0, .q .mv, [.tmp 8], (some 93), none, [], false⟩,
   ⟨1, .q .mv, [.tmp 1], (some 94), none, [], false⟩,
   ⟨2, .q (.cvi .u64), [.tmp 94], (some 95), none, [], false⟩,
   ⟨3, .q (.bin .shl), [.const (.int .i64 1), .tmp 95], (some 96), none, [], false⟩,
   ⟨4, .q (.bin .gtr), [.tmp 93, .tmp 96], (some 97), none, [], false⟩])
 (.cond (.tmp 97)
  (.seq
  (.reg [⟨0, .q .mv, [.tmp 7], (some 98), none, [], false⟩,
    ⟨1, .q (.bin .eql), [.tmp 98, .const (.int .i64 2)], (some 99), none, [], false⟩,
    ⟨2, .q .mv, [.tmp 99], (some 100), none, [], false⟩,
    ⟨3, .q .mv, [.tmp 6], (some 101), (some (100, true)), [], false⟩,
    ⟨4, .q .len, [.tmp 101], (some 102), (some (100, true)), [], false⟩,
    ⟨5, .q (.bin .eql), [.tmp 102, .const (.int .i64 0)], (some 103), (some (100, true)), [], false⟩,
    ⟨6, .q .pick, [.tmp 100, .tmp 103, .const (.bool false)], (some 104), none, [], false⟩,
    ⟨7, .q .mv, [.tmp 104], (some 4), none, [], false⟩])
  .ret)
  .skip))
 (.seq
 (.seq
 (.reg [⟨0, .q .mv, [.tmp 7], (some 105), none, [], false⟩,
   ⟨1, .q (.bin .neq), [.tmp 105, .const (.int .i64 0)], (some 106), none, [], false⟩,
   ⟨2, .q .mv, [.tmp 106], (some 107), none, [], false⟩,
   ⟨3, .q .mv, [.tmp 6], (some 108), (some (107, false)), [], false⟩,
   ⟨4, .q .len, [.tmp 108], (some 109), (some (107, false)), [], false⟩,
   ⟨5, .q .mv, [.tmp 0], (some 110), (some (107, false)), [], false⟩,
   ⟨6, .q .len, [.tmp 110], (some 111), (some (107, false)), [], false⟩,
   ⟨7, .q (.bin .neq), [.tmp 109, .tmp 111], (some 112), (some (107, false)), [], false⟩,
   ⟨8, .q .pick, [.tmp 107, .const (.bool true), .tmp 112], (some 113), none, [], false⟩])
 (.cond (.tmp 113)
  (.seq
  (.reg [⟨0, .q .mv, [.const (.bool false)], (some 4), none, [], false⟩])
  .ret)
  .skip))
 (.seq
 (.reg [⟨0, .q .mv, [.const (.int .i64 0)], (some 13), none, [], false⟩])
 (.seq
 (.seq
 (.reg [⟨0, .q .mv, [.const (.int .i64 0)], (some 14), none, [], false⟩])
 (.block 2
  (.loop L9_1)))
 (.seq
 (.seq
 (.reg [⟨0, .q .mv, [.tmp 8], (some 173), none, [], false⟩,
   ⟨1, .q (.bin .lss), [.tmp 173, .const (.int .i64 2)], (some 174), none, [], false⟩])
 (.cond (.tmp 174)
  (.seq
  (.reg [⟨0, .q .mv, [.const (.bool true)], (some 4), none, [], false⟩])
  .ret)
  .skip))
 (.seq
 (.reg [⟨0, .q .mv, [.tmp 6], (some 176), none, [], false⟩,
   ⟨1, .e (.call 34), [.tmp 176], (some 177), none, [], false⟩,
   ⟨2, .q .mv, [.tmp 177], (some 175), none, [], false⟩,
   ⟨3, .q (.ext 0), [.tmp 175], (some 178), none, [], false⟩,
   ⟨4, .q (.ext 1), [.tmp 175], (some 179), none, [], false⟩,
   ⟨5, .q .mv, [.tmp 178], (some 15), none, [], false⟩,
   ⟨6, .q .mv, [.tmp 179], (some 16), none, [], false⟩])
 (.seq
 (.reg [⟨0, .q .mv, [.tmp 16], (some 180), none, [], false⟩,
   ⟨1, .q .mv, [.tmp 180], (some 181), none, [], false⟩,
   ⟨2, .q .mv, [.tmp 13], (some 182), (some (181, true)), [], false⟩,
   ⟨3, .q .mv, [.tmp 0], (some 183), (some (181, true)), [], false⟩,
   ⟨4, .q .mv, [.tmp 1], (some 184), (some (181, true)), [], false⟩,
   ⟨5, .e (.call 43), [.tmp 183, .tmp 184], (some 185), (some (181, true)), [], false⟩,
   ⟨6, .q (.bin .eql), [.tmp 182, .tmp 185], (some 186), (some (181, true)), [], false⟩,
   ⟨7, .q .pick, [.tmp 181, .tmp 186, .const (.bool false)], (some 187), none, [], false⟩,
   ⟨8, .q .mv, [.tmp 187], (some 4), none, [], false⟩])
 .ret)))))))))))))))⟩
theorem low9 : lowFn Try.prog Try.f9 = some L9 := by kernel_rfl
theorem call9 {args : List Value} {H : Heap} {S : Ending → Heap → Prop} (hn : args.length ≤ L9.n) (h : awpC Try.prog L9.body (retQ L9.results S) (fun ch H => S (.panicked ch) H) (env0 args) H) : ACalls Try.prog 9 args.toArray H S := acalls mixed Try.func9 low9 hn h
/-- satchel/satchelref05.Cost -/
def L43_0 : LCode :=
 (.reg [⟨0, .q .mv, [.tmp 6], (some 21), none, [], false⟩,
   ⟨1, .q (.bin .add), [.tmp 21, .const (.int .i64 1)], (some 22), none, [], false⟩,
   ⟨2, .q .mv, [.tmp 22], (some 6), none, [], false⟩])
def L43_1 : LCode :=
 (.seq
 (.seq
 (.reg [⟨0, .q .mv, [.tmp 6], (some 17), none, [], false⟩,
   ⟨1, .q .mv, [.tmp 0], (some 18), none, [], false⟩,
   ⟨2, .q .len, [.tmp 18], (some 19), none, [], false⟩,
   ⟨3, .q (.bin .lss), [.tmp 17, .tmp 19], (some 20), none, [], false⟩])
 (.cond (.tmp 20)
  .skip
  (.exit 0)))
 (.seq
 (.block 1
  (.seq
  (.reg [⟨0, .q .mv, [.tmp 0], (some 23), none, [], false⟩,
    ⟨1, .q .mv, [.tmp 6], (some 24), none, [], false⟩,
    ⟨2, .q (.iad 1), [.tmp 23, .tmp 24], (some 25), none, [], false⟩,
    ⟨3, .q .ld, [.tmp 25], (some 26), none, [], false⟩,
    ⟨4, .q (.bin .gtr), [.tmp 26, .const (.int .i64 0)], (some 27), none, [], false⟩])
  (.cond (.tmp 27)
   (.seq
   (.reg [⟨0, .q .mv, [.tmp 0], (some 28), none, [], false⟩,
     ⟨1, .q .mv, [.tmp 6], (some 29), none, [], false⟩,
     ⟨2, .q (.iad 1), [.tmp 28, .tmp 29], (some 30), none, [], false⟩,
     ⟨3, .q .ld, [.tmp 30], (some 31), none, [], false⟩,
     ⟨4, .q .mv, [.tmp 0], (some 32), none, [], false⟩,
     ⟨5, .q .len, [.tmp 32], (some 33), none, [], false⟩,
     ⟨6, .e (.mks 3 1 8 #[(.int .i64 0)]), [.tmp 33, .tmp 33], (some 34), none, [], false⟩,
     ⟨7, .q (.build #[(.int .i64 0), (.slice none 0 0)] [(0, 1), (1, 1)]), [.tmp 31, .tmp 34], (some 35), none, [], false⟩,
     ⟨8, .e (.new #[(.int .i64 0), (.slice none 0 0)] 107), [], (some 7), none, [], false⟩,
     ⟨9, .e (.st 2), [.tmp 7, .tmp 35], none, none, [], false⟩])
   (.seq
   (.reg [⟨0, .q (.fad 1), [.tmp 7], (some 36), none, [], false⟩,
     ⟨1, .q .ld, [.tmp 36], (some 37), none, [], false⟩,
     ⟨2, .q .mv, [.tmp 6], (some 38), none, [], false⟩,
     ⟨3, .q (.iad 1), [.tmp 37, .tmp 38], (some 39), none, [], false⟩,
     ⟨4, .e (.st 1), [.tmp 39, .const (.int .i64 1)], none, none, [], false⟩])
   (.reg [⟨0, .q .mv, [.tmp 5], (some 40), none, [], false⟩,
     ⟨1, .q (.ldn 2), [.tmp 7], (some 41), none, [], false⟩,
     ⟨2, .e (.lits 107 #[(.int .i64 0), (.slice none 0 0)] 1 [(0, 2)]), [.tmp 41], (some 42), none, [], false⟩,
     ⟨3, .e (.app 107 2 32 #[(.int .i64 0), (.slice none 0 0)]), [.tmp 40, .tmp 42], (some 43), none, [], false⟩,
     ⟨4, .q .mv, [.tmp 43], (some 5), none, [], false⟩])))
   .skip)))
 L43_0))
def L43_2 : LCode :=
 (.seq
 (.seq
 (.reg [⟨0, .q .mv, [.tmp 13], (some 73), none, [], false⟩,
   ⟨1, .q .mv, [.tmp 0], (some 74), none, [], false⟩,
   ⟨2, .q .len, [.tmp 74], (some 75), none, [], false⟩,
   ⟨3, .q (.bin .lss), [.tmp 73, .tmp 75], (some 76), none, [], false⟩])
 (.cond (.tmp 76)
  .skip
  (.exit 6)))
 (.seq
 (.block 7
  (.reg [⟨0, .q (.fad 1), [.tmp 12], (some 79), none, [], false⟩,
    ⟨1, .q .ld, [.tmp 79], (some 80), none, [], true⟩,
    ⟨2, .q .mv, [.tmp 8], (some 81), none, [], false⟩,
    ⟨3, .q .mv, [.tmp 11], (some 82), none, [], false⟩,
    ⟨4, .q (.iad 2), [.tmp 81, .tmp 82], (some 83), none, [], false⟩,
    ⟨5, .q (.fad 1), [.tmp 83], (some 84), none, [], false⟩,
    ⟨6, .q .ld, [.tmp 84], (some 85), none, [], false⟩,
    ⟨7, .q .mv, [.tmp 13], (some 86), none, [], false⟩,
    ⟨8, .q (.iad 1), [.tmp 85, .tmp 86], (some 87), none, [], false⟩,
    ⟨9, .q .ld, [.tmp 87], (some 88), none, [], false⟩,
    ⟨10, .q .mv, [.tmp 8], (some 89), none, [], false⟩,
    ⟨11, .q .mv, [.tmp 11], (some 90), none, [], false⟩,
    ⟨12, .q (.bin .add), [.tmp 90, .const (.int .i64 1)], (some 91), none, [], false⟩,
    ⟨13, .q (.iad 2), [.tmp 89, .tmp 91], (some 92), none, [], false⟩,
    ⟨14, .q (.fad 1), [.tmp 92], (some 93), none, [], false⟩,
    ⟨15, .q .ld, [.tmp 93], (some 94), none, [], false⟩,
    ⟨16, .q .mv, [.tmp 13], (some 95), none, [], false⟩,
    ⟨17, .q (.iad 1), [.tmp 94, .tmp 95], (some 96), none, [], false⟩,
    ⟨18, .q .ld, [.tmp 96], (some 97), none, [], false⟩,
    ⟨19, .q (.bin .add), [.tmp 88, .tmp 97], (some 98), none, [], false⟩,
    ⟨20, .e (.lits 3 #[(.int .i64 0)] 1 [(0, 1)]), [.tmp 98], (some 99), none, [1], false⟩,
    ⟨21, .e (.app 3 1 8 #[(.int .i64 0)]), [.tmp 80, .tmp 99], (some 100), none, [], false⟩,
    ⟨22, .q (.fad 1), [.tmp 12], (some 101), none, [], false⟩,
    ⟨23, .e (.st 1), [.tmp 101, .tmp 100], none, none, [], false⟩]))
 (.reg [⟨0, .q .mv, [.tmp 13], (some 77), none, [], false⟩,
   ⟨1, .q (.bin .add), [.tmp 77, .const (.int .i64 1)], (some 78), none, [], false⟩,
   ⟨2, .q .mv, [.tmp 78], (some 13), none, [], false⟩])))
def L43_3 : LCode :=
 (.seq
 (.seq
 (.reg [⟨0, .q .mv, [.tmp 11], (some 53), none, [], false⟩,
   ⟨1, .q (.bin .add), [.tmp 53, .const (.int .i64 1)], (some 54), none, [], false⟩,
   ⟨2, .q .mv, [.tmp 8], (some 55), none, [], false⟩,
   ⟨3, .q .len, [.tmp 55], (some 56), none, [], false⟩,
   ⟨4, .q (.bin .lss), [.tmp 54, .tmp 56], (some 57), none, [], false⟩])
 (.cond (.tmp 57)
  .skip
  (.exit 4)))
 (.seq
 (.block 5
  (.seq
  (.reg [⟨0, .q .mv, [.tmp 8], (some 60), none, [], false⟩,
    ⟨1, .q .mv, [.tmp 11], (some 61), none, [], false⟩,
    ⟨2, .q (.iad 2), [.tmp 60, .tmp 61], (some 62), none, [], false⟩,
    ⟨3, .q (.fad 0), [.tmp 62], (some 63), none, [], false⟩,
    ⟨4, .q .ld, [.tmp 63], (some 64), none, [], true⟩,
    ⟨5, .q .mv, [.tmp 8], (some 65), none, [], false⟩,
    ⟨6, .q .mv, [.tmp 11], (some 66), none, [], false⟩,
    ⟨7, .q (.bin .add), [.tmp 66, .const (.int .i64 1)], (some 67), none, [], false⟩,
    ⟨8, .q (.iad 2), [.tmp 65, .tmp 67], (some 68), none, [], false⟩,
    ⟨9, .q (.fad 0), [.tmp 68], (some 69), none, [], false⟩,
    ⟨10, .q .ld, [.tmp 69], (some 70), none, [], true⟩,
    ⟨11, .q (.bin .add), [.tmp 64, .tmp 70], (some 71), none, [], false⟩,
    ⟨12, .q (.build #[(.int .i64 0), (.slice none 0 0)] [(0, 1)]), [.tmp 71], (some 72), none, [], false⟩,
    ⟨13, .e (.new #[(.int .i64 0), (.slice none 0 0)] 107), [], (some 12), none, [10, 4], false⟩,
    ⟨14, .e (.st 2), [.tmp 12, .tmp 72], none, none, [], false⟩])
  (.seq
  (.seq
  (.reg [⟨0, .q .mv, [.const (.int .i64 0)], (some 13), none, [], false⟩])
  (.block 6
   (.loop L43_2)))
  (.reg [⟨0, .q .mv, [.tmp 10], (some 102), none, [], false⟩,
    ⟨1, .q (.ldn 2), [.tmp 12], (some 103), none, [], false⟩,
    ⟨2, .e (.lits 107 #[(.int .i64 0), (.slice none 0 0)] 1 [(0, 2)]), [.tmp 103], (some 104), none, [], false⟩,
    ⟨3, .e (.app 107 2 32 #[(.int .i64 0), (.slice none 0 0)]), [.tmp 102, .tmp 104], (some 105), none, [], false⟩,
    ⟨4, .q .mv, [.tmp 105], (some 10), none, [], false⟩]))))
 (.reg [⟨0, .q .mv, [.tmp 11], (some 58), none, [], false⟩,
   ⟨1, .q (.bin .add), [.tmp 58, .const (.int .i64 2)], (some 59), none, [], false⟩,
   ⟨2, .q .mv, [.tmp 59], (some 11), none, [], false⟩])))
def L43_4 : LCode :=
 (.reg [⟨0, .e (.lits 107 #[] 0 []), [], (some 106), none, [], false⟩,
   ⟨1, .q .mv, [.tmp 5], (some 107), none, [], false⟩,
   ⟨2, .e (.app 107 2 32 #[(.int .i64 0), (.slice none 0 0)]), [.tmp 106, .tmp 107], (some 108), none, [], false⟩,
   ⟨3, .q .mv, [.tmp 10], (some 109), none, [], false⟩,
   ⟨4, .e (.app 107 2 32 #[(.int .i64 0), (.slice none 0 0)]), [.tmp 108, .tmp 109], (some 110), none, [], false⟩,
   ⟨5, .e (.call 57), [.tmp 110], (some 111), none, [], false⟩,
   ⟨6, .q .mv, [.tmp 111], (some 8), none, [], false⟩])
def L43_5 : LCode :=
 (.reg [⟨0, .q .mv, [.tmp 9], (some 50), none, [], false⟩,
   ⟨1, .q (.bin .add), [.tmp 50, .const (.int .i64 1)], (some 51), none, [], false⟩,
   ⟨2, .q .mv, [.tmp 51], (some 9), none, [], false⟩])
def L43_6 : LCode :=
 (.seq
 (.seq
 (.reg [⟨0, .q .mv, [.tmp 9], (some 47), none, [], false⟩,
   ⟨1, .q .mv, [.tmp 1], (some 48), none, [], false⟩,
   ⟨2, .q (.bin .lss), [.tmp 47, .tmp 48], (some 49), none, [], false⟩])
 (.cond (.tmp 49)
  .skip
  (.exit 2)))
 (.seq
 (.block 3
  (.seq
  (.reg [⟨0, .e (.lits 107 #[] 0 []), [], (some 52), none, [], false⟩,
    ⟨1, .q .mv, [.tmp 52], (some 10), none, [], false⟩])
  (.seq
  (.seq
  (.reg [⟨0, .q .mv, [.const (.int .i64 0)], (some 11), none, [], false⟩])
  (.block 4
   (.loop L43_3)))
  L43_4)))
 L43_5))
def L43_7 : LCode :=
 (.seq
 (.seq
 (.reg [⟨0, .q .mv, [.tmp 15], (some 112), none, [], false⟩,
   ⟨1, .q .mv, [.tmp 5], (some 113), none, [], false⟩,
   ⟨2, .q .len, [.tmp 113], (some 114), none, [], false⟩,
   ⟨3, .q (.bin .sub), [.tmp 114, .const (.int .i64 1)], (some 115), none, [], false⟩,
   ⟨4, .q (.bin .mul), [.const (.int .i64 2), .tmp 115], (some 116), none, [], false⟩,
   ⟨5, .q (.bin .lss), [.tmp 112, .tmp 116], (some 117), none, [], false⟩])
 (.cond (.tmp 117)
  .skip
  (.exit 8)))
 (.seq
 (.block 9
  (.reg [⟨0, .q .mv, [.tmp 14], (some 120), none, [], false⟩,
    ⟨1, .q .mv, [.tmp 8], (some 121), none, [], false⟩,
    ⟨2, .q .mv, [.tmp 15], (some 122), none, [], false⟩,
    ⟨3, .q (.iad 2), [.tmp 121, .tmp 122], (some 123), none, [], false⟩,
    ⟨4, .q (.fad 0), [.tmp 123], (some 124), none, [], false⟩,
    ⟨5, .q .ld, [.tmp 124], (some 125), none, [], false⟩,
    ⟨6, .q (.bin .add), [.tmp 120, .tmp 125], (some 126), none, [], false⟩,
    ⟨7, .q .mv, [.tmp 126], (some 14), none, [], false⟩]))
 (.reg [⟨0, .q .mv, [.tmp 15], (some 118), none, [], false⟩,
   ⟨1, .q (.bin .add), [.tmp 118, .const (.int .i64 1)], (some 119), none, [], false⟩,
   ⟨2, .q .mv, [.tmp 119], (some 15), none, [], false⟩])))
def L43_8 : LCode :=
 (.seq
 (.reg [⟨0, .q .mv, [.const (.int .i64 0)], (some 14), none, [], false⟩])
 (.seq
 (.seq
 (.reg [⟨0, .q .mv, [.const (.int .i64 0)], (some 15), none, [], false⟩])
 (.block 8
  (.loop L43_7)))
 (.seq
 (.reg [⟨0, .q .mv, [.tmp 14], (some 127), none, [], false⟩,
   ⟨1, .q .mv, [.tmp 127], (some 4), none, [], false⟩])
 .ret)))
def L43 : LFn :=
 ⟨128, [.t 4],
 (.seq
 (.reg [⟨0, .q .mv, [.const (.int .i64 0)], (some 4), none, [], false⟩])
 (.seq
 (.reg [⟨0, .e (.lits 107 #[] 0 []), [], (some 16), none, [], false⟩,
   ⟨1, .q .mv, [.tmp 16], (some 5), none, [], false⟩])
 (.seq
 (.seq
 (.reg [⟨0, .q .mv, [.const (.int .i64 0)], (some 6), none, [], false⟩])
 (.block 0
  (.loop L43_1)))
 (.seq
 (.reg [⟨0, .q .mv, [.tmp 5], (some 44), none, [], false⟩,
   ⟨1, .e (.call 57), [.tmp 44], (some 45), none, [], false⟩,
   ⟨2, .q .mv, [.tmp 45], (some 5), none, [], false⟩])
 (.seq
 (.reg [⟨0, .q .mv, [.tmp 5], (some 46), none, [], false⟩,
   ⟨1, .q .mv, [.tmp 46], (some 8), none, [], false⟩])
 (.seq
 (.seq
 (.reg [⟨0, .q .mv, [.const (.int .i64 1)], (some 9), none, [], false⟩])
 (.block 2
  (.loop L43_6)))
 L43_8))))))⟩
theorem low43 : lowFn Try.prog Try.f43 = some L43 := by kernel_rfl
theorem call43 {args : List Value} {H : Heap} {S : Ending → Heap → Prop} (hn : args.length ≤ L43.n) (h : awpC Try.prog L43.body (retQ L43.results S) (fun ch H => S (.panicked ch) H) (env0 args) H) : ACalls Try.prog 43 args.toArray H S := acalls mixed Try.func43 low43 hn h
end Go.Proofs.Ytfdcolicpfellaa.Low
