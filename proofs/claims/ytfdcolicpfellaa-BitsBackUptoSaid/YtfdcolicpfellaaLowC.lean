/-
  Functions in short (out of the program's form in Lean, by the kernel).
-/
import Derived.Test.YtfdcolicpfellaaSepCode
import Derived.Test.YtfdcolicpfellaaProg
namespace Go.Proofs.Ytfdcolicpfellaa.Low
open Go Go.Proofs.Ytfdcolicpfellaa.Sep
theorem mixed : Try.prog.follows .mixedOrders = true := by kernel_rfl
/-- satchel/satchellaw05.BitsBack -/
def L5_0 : LCode :=
 (.reg [⟨0, .q .mv, [.tmp 4], (some 53), none, [], false⟩,
   ⟨1, .q (.ldn 4), [.tmp 6], (some 54), none, [], false⟩,
   ⟨2, .e (.lits 32 #[(.int .i64 0), (.int .i64 0), (.int .u32 0), (.slice none 0 0)] 1 [(0, 4)]), [.tmp 54], (some 55), none, [], false⟩,
   ⟨3, .e (.app 32 4 48 #[(.int .i64 0), (.int .i64 0), (.int .u32 0), (.slice none 0 0)]), [.tmp 53, .tmp 55], (some 56), none, [], false⟩,
   ⟨4, .q .mv, [.tmp 56], (some 4), none, [], false⟩])
def L5_1 : LCode :=
 (.seq
 (.seq
 (.reg [⟨0, .q (.fad 0), [.tmp 6], (some 44), none, [], false⟩,
   ⟨1, .q .ld, [.tmp 44], (some 45), none, [], false⟩,
   ⟨2, .q (.bin .eql), [.tmp 45, .const (.int .i64 2)], (some 46), none, [], false⟩])
 (.cond (.tmp 46)
  (.reg [⟨0, .q .mv, [.tmp 3], (some 47), none, [], false⟩,
    ⟨1, .e (.lits 5 #[] 0 []), [], (some 48), none, [], false⟩,
    ⟨2, .q (.fad 3), [.tmp 6], (some 49), none, [], false⟩,
    ⟨3, .q .ld, [.tmp 49], (some 50), none, [], false⟩,
    ⟨4, .e (.app 5 1 1 #[(.int .u8 0)]), [.tmp 48, .tmp 50], (some 51), none, [], false⟩,
    ⟨5, .e (.call 15), [.tmp 47, .tmp 51], (some 52), none, [], false⟩])
  .skip))
 L5_0)
def L5_2 : LCode :=
 (.reg [⟨0, .q .mv, [.tmp 5], (some 21), none, [], false⟩,
   ⟨1, .q (.bin .add), [.tmp 21, .const (.int .i64 1)], (some 22), none, [], false⟩,
   ⟨2, .q .mv, [.tmp 22], (some 5), none, [], false⟩])
def L5_3 : LCode :=
 (.seq
 (.seq
 (.reg [⟨0, .q .mv, [.tmp 5], (some 17), none, [], false⟩,
   ⟨1, .q .mv, [.tmp 0], (some 18), none, [], false⟩,
   ⟨2, .q .len, [.tmp 18], (some 19), none, [], false⟩,
   ⟨3, .q (.bin .lss), [.tmp 17, .tmp 19], (some 20), none, [], false⟩])
 (.cond (.tmp 20)
  .skip
  (.exit 0)))
 (.seq
 (.block 1
  (.seq
  (.reg [⟨0, .q .mv, [.tmp 0], (some 23), none, [], false⟩,
    ⟨1, .q .mv, [.tmp 5], (some 24), none, [], false⟩,
    ⟨2, .q (.iad 4), [.tmp 23, .tmp 24], (some 25), none, [], false⟩,
    ⟨3, .q (.ldn 4), [.tmp 25], (some 26), none, [], false⟩,
    ⟨4, .e (.new #[(.int .i64 0), (.int .i64 0), (.int .u32 0), (.slice none 0 0)] 32), [], (some 6), none, [], false⟩,
    ⟨5, .e (.st 4), [.tmp 6, .tmp 26], none, none, [], false⟩])
  (.seq
  (.seq
  (.reg [⟨0, .q (.fad 0), [.tmp 6], (some 27), none, [], false⟩,
    ⟨1, .q .ld, [.tmp 27], (some 28), none, [], false⟩,
    ⟨2, .q (.bin .eql), [.tmp 28, .const (.int .i64 0)], (some 29), none, [], false⟩,
    ⟨3, .q .mv, [.tmp 29], (some 30), none, [], false⟩,
    ⟨4, .q .mv, [.tmp 3], (some 31), (some (30, true)), [], false⟩,
    ⟨5, .q (.fad 2), [.tmp 6], (some 32), (some (30, true)), [], false⟩,
    ⟨6, .q .ld, [.tmp 32], (some 33), (some (30, true)), [], false⟩,
    ⟨7, .q (.fad 1), [.tmp 6], (some 34), (some (30, true)), [], false⟩,
    ⟨8, .q .ld, [.tmp 34], (some 35), (some (30, true)), [], false⟩,
    ⟨9, .e (.call 10), [.tmp 31, .tmp 33, .tmp 35], (some 36), (some (30, true)), [], false⟩,
    ⟨10, .q (.bin .neq), [.tmp 36, .const (.int .i64 0)], (some 37), (some (30, true)), [], false⟩,
    ⟨11, .q .pick, [.tmp 30, .tmp 37, .const (.bool false)], (some 38), none, [], false⟩])
  (.cond (.tmp 38)
   (.exit 1)
   .skip))
  (.seq
  (.seq
  (.reg [⟨0, .q (.fad 0), [.tmp 6], (some 39), none, [], false⟩,
    ⟨1, .q .ld, [.tmp 39], (some 40), none, [], false⟩,
    ⟨2, .q (.bin .eql), [.tmp 40, .const (.int .i64 1)], (some 41), none, [], false⟩])
  (.cond (.tmp 41)
   (.reg [⟨0, .q .mv, [.tmp 3], (some 42), none, [], false⟩,
     ⟨1, .e (.call 12), [.tmp 42], (some 43), none, [], false⟩])
   .skip))
  L5_1))))
 L5_2))
def L5_4 : LCode :=
 (.seq
 (.reg [⟨0, .q (.fad 0), [.tmp 9], (some 95), none, [], false⟩,
   ⟨1, .q .ld, [.tmp 95], (some 96), none, [], false⟩,
   ⟨2, .q (.bin .eql), [.tmp 96, .const (.int .i64 2)], (some 97), none, [], false⟩])
 (.cond (.tmp 97)
  (.seq
  (.reg [⟨0, .q .mv, [.tmp 7], (some 99), none, [], false⟩,
    ⟨1, .q (.fad 3), [.tmp 9], (some 100), none, [], false⟩,
    ⟨2, .q .ld, [.tmp 100], (some 101), none, [], false⟩,
    ⟨3, .q .len, [.tmp 101], (some 102), none, [], false⟩,
    ⟨4, .e (.call 29), [.tmp 99, .tmp 102], (some 103), none, [], false⟩,
    ⟨5, .q .mv, [.tmp 103], (some 98), none, [], false⟩,
    ⟨6, .q (.ext 0), [.tmp 98], (some 104), none, [], false⟩,
    ⟨7, .q (.ext 1), [.tmp 98], (some 105), none, [], false⟩,
    ⟨8, .q .mv, [.tmp 104], (some 12), none, [], false⟩,
    ⟨9, .q .mv, [.tmp 105], (some 13), none, [], false⟩])
  (.seq
  (.reg [⟨0, .q .mv, [.tmp 13], (some 106), none, [], false⟩,
    ⟨1, .q (.bin .neq), [.tmp 106, .const (.int .i64 0)], (some 107), none, [], false⟩,
    ⟨2, .q .mv, [.tmp 107], (some 108), none, [], false⟩,
    ⟨3, .q .mv, [.tmp 12], (some 109), (some (108, false)), [], false⟩,
    ⟨4, .q (.fad 3), [.tmp 9], (some 110), (some (108, false)), [], false⟩,
    ⟨5, .q .ld, [.tmp 110], (some 111), (some (108, false)), [], false⟩,
    ⟨6, .e (.call 22), [.tmp 109, .tmp 111], (some 112), (some (108, false)), [], false⟩,
    ⟨7, .q (.un .not), [.tmp 112], (some 113), (some (108, false)), [], false⟩,
    ⟨8, .q .pick, [.tmp 108, .const (.bool true), .tmp 113], (some 114), none, [], false⟩])
  (.cond (.tmp 114)
   (.seq
   (.reg [⟨0, .q .mv, [.const (.bool false)], (some 2), none, [], false⟩])
   .ret)
   .skip)))
  .skip))
def L5_5 : LCode :=
 (.seq
 (.seq
 (.reg [⟨0, .q (.fad 0), [.tmp 9], (some 90), none, [], false⟩,
   ⟨1, .q .ld, [.tmp 90], (some 91), none, [], false⟩,
   ⟨2, .q (.bin .eql), [.tmp 91, .const (.int .i64 1)], (some 92), none, [], false⟩])
 (.cond (.tmp 92)
  (.reg [⟨0, .q .mv, [.tmp 7], (some 93), none, [], false⟩,
    ⟨1, .e (.call 27), [.tmp 93], (some 94), none, [], false⟩])
  .skip))
 L5_4)
def L5_6 : LCode :=
 (.reg [⟨0, .q .mv, [.tmp 8], (some 66), none, [], false⟩,
   ⟨1, .q (.bin .add), [.tmp 66, .const (.int .i64 1)], (some 67), none, [], false⟩,
   ⟨2, .q .mv, [.tmp 67], (some 8), none, [], false⟩])
def L5_7 : LCode :=
 (.seq
 (.seq
 (.reg [⟨0, .q .mv, [.tmp 8], (some 62), none, [], false⟩,
   ⟨1, .q .mv, [.tmp 4], (some 63), none, [], false⟩,
   ⟨2, .q .len, [.tmp 63], (some 64), none, [], false⟩,
   ⟨3, .q (.bin .lss), [.tmp 62, .tmp 64], (some 65), none, [], false⟩])
 (.cond (.tmp 65)
  .skip
  (.exit 2)))
 (.seq
 (.block 3
  (.seq
  (.reg [⟨0, .q .mv, [.tmp 4], (some 68), none, [], false⟩,
    ⟨1, .q .mv, [.tmp 8], (some 69), none, [], false⟩,
    ⟨2, .q (.iad 4), [.tmp 68, .tmp 69], (some 70), none, [], false⟩,
    ⟨3, .q (.ldn 4), [.tmp 70], (some 71), none, [], false⟩,
    ⟨4, .e (.new #[(.int .i64 0), (.int .i64 0), (.int .u32 0), (.slice none 0 0)] 32), [], (some 9), none, [], false⟩,
    ⟨5, .e (.st 4), [.tmp 9, .tmp 71], none, none, [], false⟩])
  (.seq
  (.seq
  (.reg [⟨0, .q (.fad 0), [.tmp 9], (some 72), none, [], false⟩,
    ⟨1, .q .ld, [.tmp 72], (some 73), none, [], false⟩,
    ⟨2, .q (.bin .eql), [.tmp 73, .const (.int .i64 0)], (some 74), none, [], false⟩])
  (.cond (.tmp 74)
   (.seq
   (.reg [⟨0, .q .mv, [.tmp 7], (some 76), none, [], false⟩,
     ⟨1, .q (.fad 1), [.tmp 9], (some 77), none, [], false⟩,
     ⟨2, .q .ld, [.tmp 77], (some 78), none, [], false⟩,
     ⟨3, .e (.call 25), [.tmp 76, .tmp 78], (some 79), none, [], false⟩,
     ⟨4, .q .mv, [.tmp 79], (some 75), none, [], false⟩,
     ⟨5, .q (.ext 0), [.tmp 75], (some 80), none, [], false⟩,
     ⟨6, .q (.ext 1), [.tmp 75], (some 81), none, [], false⟩,
     ⟨7, .q .mv, [.tmp 80], (some 10), none, [], false⟩,
     ⟨8, .q .mv, [.tmp 81], (some 11), none, [], false⟩])
   (.seq
   (.reg [⟨0, .q .mv, [.tmp 11], (some 82), none, [], false⟩,
     ⟨1, .q (.bin .neq), [.tmp 82, .const (.int .i64 0)], (some 83), none, [], false⟩,
     ⟨2, .q .mv, [.tmp 83], (some 84), none, [], false⟩,
     ⟨3, .q .mv, [.tmp 10], (some 85), (some (84, false)), [], false⟩,
     ⟨4, .q (.fad 2), [.tmp 9], (some 86), (some (84, false)), [], false⟩,
     ⟨5, .q .ld, [.tmp 86], (some 87), (some (84, false)), [], false⟩,
     ⟨6, .q (.bin .neq), [.tmp 85, .tmp 87], (some 88), (some (84, false)), [], false⟩,
     ⟨7, .q .pick, [.tmp 84, .const (.bool true), .tmp 88], (some 89), none, [], false⟩])
   (.cond (.tmp 89)
    (.seq
    (.reg [⟨0, .q .mv, [.const (.bool false)], (some 2), none, [], false⟩])
    .ret)
    .skip)))
   .skip))
  L5_5)))
 L5_6))
def L5_8 : LCode :=
 (.seq
 (.reg [⟨0, .q .mv, [.tmp 3], (some 57), none, [], false⟩,
   ⟨1, .e (.call 19), [.tmp 57], (some 58), none, [], false⟩,
   ⟨2, .e (.call 23), [.tmp 58], (some 59), none, [], false⟩,
   ⟨3, .q .mv, [.tmp 59], (some 7), none, [], false⟩])
 (.seq
 (.seq
 (.reg [⟨0, .q .mv, [.tmp 7], (some 60), none, [], false⟩,
   ⟨1, .q (.eqp false), [.tmp 60, .const (.pointer none)], (some 61), none, [], false⟩])
 (.cond (.tmp 61)
  (.seq
  (.reg [⟨0, .q .mv, [.const (.bool false)], (some 2), none, [], false⟩])
  .ret)
  .skip))
 (.seq
 (.seq
 (.reg [⟨0, .q .mv, [.const (.int .i64 0)], (some 8), none, [], false⟩])
 (.block 2
  (.loop L5_7)))
 (.seq
 (.reg [⟨0, .q .mv, [.tmp 7], (some 115), none, [], false⟩,
   ⟨1, .e (.call 31), [.tmp 115], (some 116), none, [], false⟩,
   ⟨2, .q (.bin .lss), [.tmp 116, .const (.int .i64 8)], (some 117), none, [], false⟩,
   ⟨3, .q .mv, [.tmp 117], (some 118), none, [], false⟩,
   ⟨4, .q .mv, [.tmp 3], (some 119), (some (118, true)), [], false⟩,
   ⟨5, .e (.call 10), [.tmp 119, .const (.int .u32 1), .const (.int .i64 1)], (some 120), (some (118, true)), [], false⟩,
   ⟨6, .q (.bin .eql), [.tmp 120, .const (.int .i64 0)], (some 121), (some (118, true)), [], false⟩,
   ⟨7, .q .pick, [.tmp 118, .tmp 121, .const (.bool false)], (some 122), none, [], false⟩,
   ⟨8, .q .mv, [.tmp 122], (some 123), none, [], false⟩,
   ⟨9, .q .mv, [.tmp 3], (some 124), (some (123, true)), [], false⟩,
   ⟨10, .e (.call 21), [.tmp 124], (some 125), (some (123, true)), [], false⟩,
   ⟨11, .q (.bin .gtr), [.tmp 125, .const (.int .i64 0)], (some 126), (some (123, true)), [], false⟩,
   ⟨12, .q .pick, [.tmp 123, .tmp 126, .const (.bool false)], (some 127), none, [], false⟩,
   ⟨13, .q .mv, [.tmp 127], (some 2), none, [], false⟩])
 .ret))))
def L5 : LFn :=
 ⟨128, [.t 2],
 (.seq
 (.reg [⟨0, .q .mv, [.const (.bool false)], (some 2), none, [], false⟩])
 (.seq
 (.reg [⟨0, .q (.build #[(.slice none 0 0), (.int .i64 0)] []), [], (some 14), none, [], false⟩,
   ⟨1, .e (.box 26), [.tmp 14], (some 15), none, [], false⟩,
   ⟨2, .q .mv, [.tmp 15], (some 3), none, [], false⟩])
 (.seq
 (.reg [⟨0, .e (.lits 32 #[] 0 []), [], (some 16), none, [], false⟩,
   ⟨1, .q .mv, [.tmp 16], (some 4), none, [], false⟩])
 (.seq
 (.seq
 (.reg [⟨0, .q .mv, [.const (.int .i64 0)], (some 5), none, [], false⟩])
 (.block 0
  (.loop L5_3)))
 L5_8))))⟩
theorem low5 : lowFn Try.prog Try.f5 = some L5 := by kernel_rfl
theorem call5 {args : List Value} {H : Heap} {S : Ending → Heap → Prop} (hn : args.length ≤ L5.n) (h : awpC Try.prog L5.body (retQ L5.results S) (fun ch H => S (.panicked ch) H) (env0 args) H) : ACalls Try.prog 5 args.toArray H S := acalls mixed Try.func5 low5 hn h
end Go.Proofs.Ytfdcolicpfellaa.Low
