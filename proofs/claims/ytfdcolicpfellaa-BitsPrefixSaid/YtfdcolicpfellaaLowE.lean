/-
  Functions in short (out of the program's form in Lean, by the kernel).
-/
import Derived.Test.YtfdcolicpfellaaSepCode
import Derived.Test.YtfdcolicpfellaaProg
namespace Go.Proofs.Ytfdcolicpfellaa.Low
open Go Go.Proofs.Ytfdcolicpfellaa.Sep
theorem mixed : Try.prog.follows .mixedOrders = true := by kernel_rfl
/-- satchel/satchellaw05.BitsCodes -/
def L6_0 : LCode :=
 (.seq
 (.seq
 (.reg [⟨0, .q .mv, [.tmp 12], (some 86), none, [], false⟩,
   ⟨1, .q .mv, [.tmp 0], (some 87), none, [], false⟩,
   ⟨2, .q .len, [.tmp 87], (some 88), none, [], false⟩,
   ⟨3, .q (.bin .lss), [.tmp 86, .tmp 88], (some 89), none, [], false⟩])
 (.cond (.tmp 89)
  .skip
  (.exit 0)))
 (.seq
 (.block 1
  (.seq
  (.seq
  (.reg [⟨0, .q .mv, [.tmp 7], (some 92), none, [], false⟩,
    ⟨1, .q .mv, [.tmp 12], (some 93), none, [], false⟩,
    ⟨2, .q (.iad 1), [.tmp 92, .tmp 93], (some 94), none, [], false⟩,
    ⟨3, .q .ld, [.tmp 94], (some 95), none, [], false⟩,
    ⟨4, .q .mv, [.tmp 0], (some 96), none, [], false⟩,
    ⟨5, .q .mv, [.tmp 12], (some 97), none, [], false⟩,
    ⟨6, .q (.iad 1), [.tmp 96, .tmp 97], (some 98), none, [], false⟩,
    ⟨7, .q .ld, [.tmp 98], (some 99), none, [], false⟩,
    ⟨8, .q (.bin .neq), [.tmp 95, .tmp 99], (some 100), none, [], false⟩])
  (.cond (.tmp 100)
   (.seq
   (.reg [⟨0, .q .mv, [.const (.bool false)], (some 6), none, [], false⟩])
   .ret)
   .skip))
  (.reg [⟨0, .q .mv, [.tmp 7], (some 101), none, [], false⟩,
    ⟨1, .q .mv, [.tmp 12], (some 102), none, [], false⟩,
    ⟨2, .q (.iad 1), [.tmp 101, .tmp 102], (some 103), none, [], false⟩,
    ⟨3, .e (.st 1), [.tmp 103, .const (.int .i64 3)], none, none, [], false⟩])))
 (.reg [⟨0, .q .mv, [.tmp 12], (some 90), none, [], false⟩,
   ⟨1, .q (.bin .add), [.tmp 90, .const (.int .i64 1)], (some 91), none, [], false⟩,
   ⟨2, .q .mv, [.tmp 91], (some 12), none, [], false⟩])))
def L6_1 : LCode :=
 (.seq
 (.seq
 (.reg [⟨0, .q .mv, [.tmp 15], (some 126), none, [], false⟩,
   ⟨1, .q .mv, [.tmp 0], (some 127), none, [], false⟩,
   ⟨2, .q .len, [.tmp 127], (some 128), none, [], false⟩,
   ⟨3, .q (.bin .lss), [.tmp 126, .tmp 128], (some 129), none, [], false⟩])
 (.cond (.tmp 129)
  .skip
  (.exit 2)))
 (.seq
 (.block 3
  (.seq
  (.reg [⟨0, .q .mv, [.tmp 8], (some 133), none, [], false⟩,
    ⟨1, .q .mv, [.tmp 15], (some 134), none, [], false⟩,
    ⟨2, .e (.call 36), [.tmp 133, .tmp 134], (some 135), none, [], false⟩,
    ⟨3, .q .mv, [.tmp 135], (some 132), none, [], false⟩,
    ⟨4, .q (.ext 0), [.tmp 132], (some 136), none, [], false⟩,
    ⟨5, .q (.ext 1), [.tmp 132], (some 137), none, [], false⟩,
    ⟨6, .e (.new #[(.int .u32 0), (.int .i64 0)] 62), [], (some 16), none, [], false⟩,
    ⟨7, .e (.st 2), [.tmp 16, .tmp 136], none, none, [], false⟩,
    ⟨8, .q .mv, [.tmp 137], (some 17), none, [], false⟩])
  (.seq
  (.reg [⟨0, .q .mv, [.tmp 0], (some 139), none, [], false⟩,
    ⟨1, .q .mv, [.tmp 15], (some 140), none, [], false⟩,
    ⟨2, .e (.call 37), [.tmp 139, .tmp 140], (some 141), none, [], false⟩,
    ⟨3, .q .mv, [.tmp 141], (some 138), none, [], false⟩,
    ⟨4, .q (.ext 0), [.tmp 138], (some 142), none, [], false⟩,
    ⟨5, .q (.ext 1), [.tmp 138], (some 143), none, [], false⟩,
    ⟨6, .e (.new #[(.int .u32 0), (.int .i64 0)] 62), [], (some 18), none, [], false⟩,
    ⟨7, .e (.st 2), [.tmp 18, .tmp 142], none, none, [], false⟩,
    ⟨8, .q .mv, [.tmp 143], (some 19), none, [], false⟩])
  (.seq
  (.reg [⟨0, .q (.ldn 2), [.tmp 16], (some 144), none, [], false⟩,
    ⟨1, .q (.ldn 2), [.tmp 18], (some 145), none, [], false⟩,
    ⟨2, .q (.eqa [(0, .i), (1, .i)] true), [.tmp 144, .tmp 145], (some 146), none, [], false⟩,
    ⟨3, .q .mv, [.tmp 146], (some 147), none, [], false⟩,
    ⟨4, .q .mv, [.tmp 17], (some 148), (some (147, false)), [], false⟩,
    ⟨5, .q .mv, [.tmp 19], (some 149), (some (147, false)), [], false⟩,
    ⟨6, .q (.bin .neq), [.tmp 148, .tmp 149], (some 150), (some (147, false)), [], false⟩,
    ⟨7, .q .pick, [.tmp 147, .const (.bool true), .tmp 150], (some 151), none, [], false⟩])
  (.cond (.tmp 151)
   (.seq
   (.reg [⟨0, .q .mv, [.const (.bool false)], (some 6), none, [], false⟩])
   .ret)
   .skip)))))
 (.reg [⟨0, .q .mv, [.tmp 15], (some 130), none, [], false⟩,
   ⟨1, .q (.bin .add), [.tmp 130, .const (.int .i64 1)], (some 131), none, [], false⟩,
   ⟨2, .q .mv, [.tmp 131], (some 15), none, [], false⟩])))
def L6_2 : LCode :=
 (.seq
 (.seq
 (.reg [⟨0, .q .mv, [.tmp 27], (some 180), none, [], false⟩,
   ⟨1, .q .mv, [.tmp 25], (some 181), none, [], false⟩,
   ⟨2, .q .len, [.tmp 181], (some 182), none, [], false⟩,
   ⟨3, .q (.bin .leq), [.tmp 180, .tmp 182], (some 183), none, [], false⟩])
 (.cond (.tmp 183)
  .skip
  (.exit 4)))
 (.seq
 (.block 5
  (.seq
  (.reg [⟨0, .q .mv, [.tmp 8], (some 187), none, [], false⟩,
    ⟨1, .q .mv, [.tmp 24], (some 188), none, [], false⟩,
    ⟨2, .e (.call 38), [.tmp 187, .tmp 188], (some 189), none, [], false⟩,
    ⟨3, .q .mv, [.tmp 189], (some 186), none, [], false⟩,
    ⟨4, .q (.ext 0), [.tmp 186], (some 190), none, [], false⟩,
    ⟨5, .q (.ext 1), [.tmp 186], (some 191), none, [], false⟩,
    ⟨6, .q .mv, [.tmp 190], (some 28), none, [], false⟩,
    ⟨7, .q .mv, [.tmp 191], (some 29), none, [], false⟩])
  (.seq
  (.reg [⟨0, .q .mv, [.tmp 0], (some 193), none, [], false⟩,
    ⟨1, .q .mv, [.tmp 25], (some 194), none, [], false⟩,
    ⟨2, .q .mv, [.tmp 26], (some 195), none, [], false⟩,
    ⟨3, .q (.slc 1 true false false), [.tmp 194, .tmp 195], (some 196), none, [], false⟩,
    ⟨4, .e (.call 39), [.tmp 193, .tmp 196], (some 197), none, [], false⟩,
    ⟨5, .q .mv, [.tmp 197], (some 192), none, [], false⟩,
    ⟨6, .q (.ext 0), [.tmp 192], (some 198), none, [], false⟩,
    ⟨7, .q (.ext 1), [.tmp 192], (some 199), none, [], false⟩,
    ⟨8, .q (.ext 2), [.tmp 192], (some 200), none, [], false⟩,
    ⟨9, .q .mv, [.tmp 198], (some 30), none, [], false⟩,
    ⟨10, .q .mv, [.tmp 199], (some 31), none, [], false⟩,
    ⟨11, .q .mv, [.tmp 200], (some 32), none, [], false⟩])
  (.seq
  (.reg [⟨0, .q .mv, [.tmp 26], (some 201), none, [], false⟩,
    ⟨1, .q .mv, [.tmp 31], (some 202), none, [], false⟩,
    ⟨2, .q (.bin .add), [.tmp 201, .tmp 202], (some 203), none, [], false⟩,
    ⟨3, .q .mv, [.tmp 203], (some 26), none, [], false⟩])
  (.seq
  (.seq
  (.reg [⟨0, .q .mv, [.tmp 28], (some 204), none, [], false⟩,
    ⟨1, .q .mv, [.tmp 30], (some 205), none, [], false⟩,
    ⟨2, .q (.bin .neq), [.tmp 204, .tmp 205], (some 206), none, [], false⟩,
    ⟨3, .q .mv, [.tmp 206], (some 207), none, [], false⟩,
    ⟨4, .q .mv, [.tmp 29], (some 208), (some (207, false)), [], false⟩,
    ⟨5, .q .mv, [.tmp 32], (some 209), (some (207, false)), [], false⟩,
    ⟨6, .q (.bin .neq), [.tmp 208, .tmp 209], (some 210), (some (207, false)), [], false⟩,
    ⟨7, .q .pick, [.tmp 207, .const (.bool true), .tmp 210], (some 211), none, [], false⟩,
    ⟨8, .q .mv, [.tmp 211], (some 212), none, [], false⟩,
    ⟨9, .q .mv, [.tmp 24], (some 213), (some (212, false)), [], false⟩,
    ⟨10, .e (.call 31), [.tmp 213], (some 214), (some (212, false)), [], false⟩,
    ⟨11, .q .mv, [.tmp 25], (some 215), (some (212, false)), [], false⟩,
    ⟨12, .q .len, [.tmp 215], (some 216), (some (212, false)), [], false⟩,
    ⟨13, .q .mv, [.tmp 26], (some 217), (some (212, false)), [], false⟩,
    ⟨14, .q (.bin .sub), [.tmp 216, .tmp 217], (some 218), (some (212, false)), [], false⟩,
    ⟨15, .q (.bin .neq), [.tmp 214, .tmp 218], (some 219), (some (212, false)), [], false⟩,
    ⟨16, .q .pick, [.tmp 212, .const (.bool true), .tmp 219], (some 220), none, [], false⟩])
  (.cond (.tmp 220)
   (.seq
   (.reg [⟨0, .q .mv, [.const (.bool false)], (some 6), none, [], false⟩])
   .ret)
   .skip))
  (.seq
  (.reg [⟨0, .q .mv, [.tmp 32], (some 221), none, [], false⟩,
    ⟨1, .q (.bin .neq), [.tmp 221, .const (.int .i64 0)], (some 222), none, [], false⟩])
  (.cond (.tmp 222)
   (.seq
   (.reg [⟨0, .q .mv, [.const (.bool true)], (some 6), none, [], false⟩])
   .ret)
   .skip)))))))
 (.reg [⟨0, .q .mv, [.tmp 27], (some 184), none, [], false⟩,
   ⟨1, .q (.bin .add), [.tmp 184, .const (.int .i64 1)], (some 185), none, [], false⟩,
   ⟨2, .q .mv, [.tmp 185], (some 27), none, [], false⟩])))
def L6 : LFn :=
 ⟨223, [.t 6],
 (.seq
 (.reg [⟨0, .q .mv, [.const (.bool false)], (some 6), none, [], false⟩])
 (.seq
 (.reg [⟨0, .e (.lits 3 #[] 0 []), [], (some 33), none, [], false⟩,
   ⟨1, .q .mv, [.tmp 0], (some 34), none, [], false⟩,
   ⟨2, .e (.app 3 1 8 #[(.int .i64 0)]), [.tmp 33, .tmp 34], (some 35), none, [], false⟩,
   ⟨3, .e (.lits 3 #[(.int .i64 0), (.int .i64 0)] 2 [(0, 1), (1, 1)]), [.const (.int .i64 77), .const (.int .i64 78)], (some 36), none, [], false⟩,
   ⟨4, .e (.app 3 1 8 #[(.int .i64 0)]), [.tmp 35, .tmp 36], (some 37), none, [], false⟩,
   ⟨5, .q .mv, [.tmp 37], (some 7), none, [], false⟩])
 (.seq
 (.reg [⟨0, .q .mv, [.tmp 7], (some 39), none, [], false⟩,
   ⟨1, .q .mv, [.tmp 0], (some 40), none, [], false⟩,
   ⟨2, .q .len, [.tmp 40], (some 41), none, [], false⟩,
   ⟨3, .q (.slc 1 false true false), [.tmp 39, .tmp 41], (some 42), none, [], false⟩,
   ⟨4, .e (.call 33), [.tmp 42], (some 43), none, [], false⟩,
   ⟨5, .q .mv, [.tmp 43], (some 38), none, [], false⟩,
   ⟨6, .q (.ext 0), [.tmp 38], (some 44), none, [], false⟩,
   ⟨7, .q (.ext 1), [.tmp 38], (some 45), none, [], false⟩,
   ⟨8, .q .mv, [.tmp 44], (some 8), none, [], false⟩,
   ⟨9, .q .mv, [.tmp 45], (some 9), none, [], false⟩])
 (.seq
 (.reg [⟨0, .q .mv, [.tmp 0], (some 47), none, [], false⟩,
   ⟨1, .e (.call 34), [.tmp 47], (some 48), none, [], false⟩,
   ⟨2, .q .mv, [.tmp 48], (some 46), none, [], false⟩,
   ⟨3, .q (.ext 0), [.tmp 46], (some 49), none, [], false⟩,
   ⟨4, .q (.ext 1), [.tmp 46], (some 50), none, [], false⟩,
   ⟨5, .q .mv, [.tmp 49], (some 10), none, [], false⟩,
   ⟨6, .q .mv, [.tmp 50], (some 11), none, [], false⟩])
 (.seq
 (.seq
 (.reg [⟨0, .q .mv, [.tmp 8], (some 51), none, [], false⟩,
   ⟨1, .q (.eqp true), [.tmp 51, .const (.pointer none)], (some 52), none, [], false⟩,
   ⟨2, .q .mv, [.tmp 10], (some 53), none, [], false⟩,
   ⟨3, .q (.eqb true), [.tmp 52, .tmp 53], (some 54), none, [], false⟩,
   ⟨4, .q .mv, [.tmp 54], (some 55), none, [], false⟩,
   ⟨5, .q .mv, [.tmp 9], (some 56), (some (55, false)), [], false⟩,
   ⟨6, .q (.bin .eql), [.tmp 56, .const (.int .i64 0)], (some 57), (some (55, false)), [], false⟩,
   ⟨7, .q .mv, [.tmp 10], (some 58), (some (55, false)), [], false⟩,
   ⟨8, .q (.eqb true), [.tmp 57, .tmp 58], (some 59), (some (55, false)), [], false⟩,
   ⟨9, .q .pick, [.tmp 55, .const (.bool true), .tmp 59], (some 60), none, [], false⟩,
   ⟨10, .q .mv, [.tmp 60], (some 61), none, [], false⟩,
   ⟨11, .q .mv, [.tmp 9], (some 62), (some (61, false)), [], false⟩,
   ⟨12, .q (.bin .neq), [.tmp 62, .const (.int .i64 0)], (some 63), (some (61, false)), [], false⟩,
   ⟨13, .q .mv, [.tmp 63], (some 64), (some (61, false)), [], false⟩,
   ⟨14, .q .mv, [.tmp 9], (some 65), (some (64, true)), [], false⟩,
   ⟨15, .q (.bin .neq), [.tmp 65, .const (.int .i64 51)], (some 66), (some (64, true)), [], false⟩,
   ⟨16, .q .pick, [.tmp 64, .tmp 66, .const (.bool false)], (some 67), (some (61, false)), [], false⟩,
   ⟨17, .q .pick, [.tmp 61, .const (.bool true), .tmp 67], (some 68), none, [], false⟩,
   ⟨18, .q .mv, [.tmp 68], (some 69), none, [], false⟩,
   ⟨19, .q .mv, [.tmp 7], (some 70), (some (69, false)), [], false⟩,
   ⟨20, .q .mv, [.tmp 0], (some 71), (some (69, false)), [], false⟩,
   ⟨21, .q .len, [.tmp 71], (some 72), (some (69, false)), [], false⟩,
   ⟨22, .q (.iad 1), [.tmp 70, .tmp 72], (some 73), (some (69, false)), [], false⟩,
   ⟨23, .q .ld, [.tmp 73], (some 74), (some (69, false)), [], false⟩,
   ⟨24, .q (.bin .neq), [.tmp 74, .const (.int .i64 77)], (some 75), (some (69, false)), [], false⟩,
   ⟨25, .q .pick, [.tmp 69, .const (.bool true), .tmp 75], (some 76), none, [], false⟩,
   ⟨26, .q .mv, [.tmp 76], (some 77), none, [], false⟩,
   ⟨27, .q .mv, [.tmp 7], (some 78), (some (77, false)), [], false⟩,
   ⟨28, .q .mv, [.tmp 0], (some 79), (some (77, false)), [], false⟩,
   ⟨29, .q .len, [.tmp 79], (some 80), (some (77, false)), [], false⟩,
   ⟨30, .q (.bin .add), [.tmp 80, .const (.int .i64 1)], (some 81), (some (77, false)), [], false⟩,
   ⟨31, .q (.iad 1), [.tmp 78, .tmp 81], (some 82), (some (77, false)), [], false⟩,
   ⟨32, .q .ld, [.tmp 82], (some 83), (some (77, false)), [], false⟩,
   ⟨33, .q (.bin .neq), [.tmp 83, .const (.int .i64 78)], (some 84), (some (77, false)), [], false⟩,
   ⟨34, .q .pick, [.tmp 77, .const (.bool true), .tmp 84], (some 85), none, [], false⟩])
 (.cond (.tmp 85)
  (.seq
  (.reg [⟨0, .q .mv, [.const (.bool false)], (some 6), none, [], false⟩])
  .ret)
  .skip))
 (.seq
 (.seq
 (.reg [⟨0, .q .mv, [.const (.int .i64 0)], (some 12), none, [], false⟩])
 (.block 0
  (.loop L6_0)))
 (.seq
 (.reg [⟨0, .e (.lits 3 #[(.int .i64 0), (.int .i64 0)] 2 [(0, 1), (1, 1)]), [.const (.int .i64 1), .const (.int .i64 1)], (some 105), none, [], false⟩,
   ⟨1, .e (.call 33), [.tmp 105], (some 106), none, [], false⟩,
   ⟨2, .q .mv, [.tmp 106], (some 104), none, [], false⟩,
   ⟨3, .q (.ext 0), [.tmp 104], (some 107), none, [], false⟩,
   ⟨4, .q (.ext 1), [.tmp 104], (some 108), none, [], false⟩,
   ⟨5, .q .mv, [.tmp 107], (some 13), none, [], false⟩,
   ⟨6, .q .mv, [.tmp 108], (some 14), none, [], false⟩])
 (.seq
 (.seq
 (.reg [⟨0, .q .mv, [.tmp 13], (some 109), none, [], false⟩,
   ⟨1, .q (.eqp false), [.tmp 109, .const (.pointer none)], (some 110), none, [], false⟩,
   ⟨2, .q .mv, [.tmp 110], (some 111), none, [], false⟩,
   ⟨3, .q .mv, [.tmp 14], (some 112), (some (111, false)), [], false⟩,
   ⟨4, .q (.bin .neq), [.tmp 112, .const (.int .i64 0)], (some 113), (some (111, false)), [], false⟩,
   ⟨5, .q .pick, [.tmp 111, .const (.bool true), .tmp 113], (some 114), none, [], false⟩,
   ⟨6, .q .mv, [.tmp 114], (some 115), none, [], false⟩,
   ⟨7, .q .mv, [.tmp 13], (some 116), (some (115, false)), [], false⟩,
   ⟨8, .e (.call 35), [.tmp 116], (some 117), (some (115, false)), [], false⟩,
   ⟨9, .q (.un .not), [.tmp 117], (some 118), (some (115, false)), [], false⟩,
   ⟨10, .q .pick, [.tmp 115, .const (.bool true), .tmp 118], (some 119), none, [], false⟩])
 (.cond (.tmp 119)
  (.seq
  (.reg [⟨0, .q .mv, [.const (.bool false)], (some 6), none, [], false⟩])
  .ret)
  .skip))
 (.seq
 (.seq
 (.reg [⟨0, .q .mv, [.tmp 8], (some 120), none, [], false⟩,
   ⟨1, .q (.eqp false), [.tmp 120, .const (.pointer none)], (some 121), none, [], false⟩])
 (.cond (.tmp 121)
  (.seq
  (.reg [⟨0, .q .mv, [.const (.bool true)], (some 6), none, [], false⟩])
  .ret)
  .skip))
 (.seq
 (.seq
 (.reg [⟨0, .q .mv, [.tmp 8], (some 122), none, [], false⟩,
   ⟨1, .e (.call 35), [.tmp 122], (some 123), none, [], false⟩,
   ⟨2, .q .mv, [.tmp 11], (some 124), none, [], false⟩,
   ⟨3, .q (.eqb true), [.tmp 123, .tmp 124], (some 125), none, [], false⟩])
 (.cond (.tmp 125)
  (.seq
  (.reg [⟨0, .q .mv, [.const (.bool false)], (some 6), none, [], false⟩])
  .ret)
  .skip))
 (.seq
 (.seq
 (.reg [⟨0, .q .mv, [.const (.int .i64 0)], (some 15), none, [], false⟩])
 (.block 2
  (.loop L6_1)))
 (.seq
 (.reg [⟨0, .q .mv, [.tmp 8], (some 153), none, [], false⟩,
   ⟨1, .q .mv, [.tmp 2], (some 154), none, [], false⟩,
   ⟨2, .e (.call 36), [.tmp 153, .tmp 154], (some 155), none, [], false⟩,
   ⟨3, .q .mv, [.tmp 155], (some 152), none, [], false⟩,
   ⟨4, .q (.ext 0), [.tmp 152], (some 156), none, [], false⟩,
   ⟨5, .q (.ext 1), [.tmp 152], (some 157), none, [], false⟩,
   ⟨6, .e (.new #[(.int .u32 0), (.int .i64 0)] 62), [], (some 20), none, [], false⟩,
   ⟨7, .e (.st 2), [.tmp 20, .tmp 156], none, none, [], false⟩,
   ⟨8, .q .mv, [.tmp 157], (some 21), none, [], false⟩])
 (.seq
 (.reg [⟨0, .q .mv, [.tmp 0], (some 159), none, [], false⟩,
   ⟨1, .q .mv, [.tmp 2], (some 160), none, [], false⟩,
   ⟨2, .e (.call 37), [.tmp 159, .tmp 160], (some 161), none, [], false⟩,
   ⟨3, .q .mv, [.tmp 161], (some 158), none, [], false⟩,
   ⟨4, .q (.ext 0), [.tmp 158], (some 162), none, [], false⟩,
   ⟨5, .q (.ext 1), [.tmp 158], (some 163), none, [], false⟩,
   ⟨6, .e (.new #[(.int .u32 0), (.int .i64 0)] 62), [], (some 22), none, [], false⟩,
   ⟨7, .e (.st 2), [.tmp 22, .tmp 162], none, none, [], false⟩,
   ⟨8, .q .mv, [.tmp 163], (some 23), none, [], false⟩])
 (.seq
 (.seq
 (.reg [⟨0, .q (.ldn 2), [.tmp 20], (some 164), none, [], false⟩,
   ⟨1, .q (.ldn 2), [.tmp 22], (some 165), none, [], false⟩,
   ⟨2, .q (.eqa [(0, .i), (1, .i)] true), [.tmp 164, .tmp 165], (some 166), none, [], false⟩,
   ⟨3, .q .mv, [.tmp 166], (some 167), none, [], false⟩,
   ⟨4, .q .mv, [.tmp 21], (some 168), (some (167, false)), [], false⟩,
   ⟨5, .q .mv, [.tmp 23], (some 169), (some (167, false)), [], false⟩,
   ⟨6, .q (.bin .neq), [.tmp 168, .tmp 169], (some 170), (some (167, false)), [], false⟩,
   ⟨7, .q .pick, [.tmp 167, .const (.bool true), .tmp 170], (some 171), none, [], false⟩])
 (.cond (.tmp 171)
  (.seq
  (.reg [⟨0, .q .mv, [.const (.bool false)], (some 6), none, [], false⟩])
  .ret)
  .skip))
 (.seq
 (.reg [⟨0, .e (.lits 5 #[] 0 []), [], (some 172), none, [], false⟩,
   ⟨1, .q .mv, [.tmp 1], (some 173), none, [], false⟩,
   ⟨2, .e (.app 5 1 1 #[(.int .u8 0)]), [.tmp 172, .tmp 173], (some 174), none, [], false⟩,
   ⟨3, .e (.call 23), [.tmp 174], (some 175), none, [], false⟩,
   ⟨4, .q .mv, [.tmp 175], (some 24), none, [], false⟩])
 (.seq
 (.seq
 (.reg [⟨0, .q .mv, [.tmp 24], (some 176), none, [], false⟩,
   ⟨1, .q (.eqp false), [.tmp 176, .const (.pointer none)], (some 177), none, [], false⟩])
 (.cond (.tmp 177)
  (.seq
  (.reg [⟨0, .q .mv, [.const (.bool false)], (some 6), none, [], false⟩])
  .ret)
  .skip))
 (.seq
 (.reg [⟨0, .q .mv, [.tmp 1], (some 178), none, [], false⟩,
   ⟨1, .e (.call 24), [.tmp 178], (some 179), none, [], false⟩,
   ⟨2, .q .mv, [.tmp 179], (some 25), none, [], false⟩])
 (.seq
 (.reg [⟨0, .q .mv, [.const (.int .i64 0)], (some 26), none, [], false⟩])
 (.seq
 (.seq
 (.reg [⟨0, .q .mv, [.const (.int .i64 0)], (some 27), none, [], false⟩])
 (.block 4
  (.loop L6_2)))
 (.seq
 (.reg [⟨0, .q .mv, [.const (.bool true)], (some 6), none, [], false⟩])
 .ret))))))))))))))))))))⟩
theorem low6 : lowFn Try.prog Try.f6 = some L6 := by kernel_rfl
theorem call6 {args : List Value} {H : Heap} {S : Ending → Heap → Prop} (hn : args.length ≤ L6.n) (h : awpC Try.prog L6.body (retQ L6.results S) (fun ch H => S (.panicked ch) H) (env0 args) H) : ACalls Try.prog 6 args.toArray H S := acalls mixed Try.func6 low6 hn h
/-- satchel/satchellaw05.BitsKraft -/
def L7_0 : LCode :=
 (.reg [⟨0, .q .mv, [.tmp 10], (some 37), none, [], false⟩,
   ⟨1, .q (.bin .add), [.tmp 37, .const (.int .i64 1)], (some 38), none, [], false⟩,
   ⟨2, .q .mv, [.tmp 38], (some 10), none, [], false⟩])
def L7_1 : LCode :=
 (.seq
 (.seq
 (.reg [⟨0, .q .mv, [.tmp 10], (some 33), none, [], false⟩,
   ⟨1, .q .mv, [.tmp 0], (some 34), none, [], false⟩,
   ⟨2, .q .len, [.tmp 34], (some 35), none, [], false⟩,
   ⟨3, .q (.bin .lss), [.tmp 33, .tmp 35], (some 36), none, [], false⟩])
 (.cond (.tmp 36)
  .skip
  (.exit 0)))
 (.seq
 (.block 1
  (.seq
  (.seq
  (.reg [⟨0, .q .mv, [.tmp 0], (some 39), none, [], false⟩,
    ⟨1, .q .mv, [.tmp 10], (some 40), none, [], false⟩,
    ⟨2, .q (.iad 1), [.tmp 39, .tmp 40], (some 41), none, [], false⟩,
    ⟨3, .q .ld, [.tmp 41], (some 42), none, [], false⟩,
    ⟨4, .q (.bin .lss), [.tmp 42, .const (.int .i64 0)], (some 43), none, [], false⟩,
    ⟨5, .q .mv, [.tmp 43], (some 44), none, [], false⟩,
    ⟨6, .q .mv, [.tmp 0], (some 45), (some (44, false)), [], false⟩,
    ⟨7, .q .mv, [.tmp 10], (some 46), (some (44, false)), [], false⟩,
    ⟨8, .q (.iad 1), [.tmp 45, .tmp 46], (some 47), (some (44, false)), [], false⟩,
    ⟨9, .q .ld, [.tmp 47], (some 48), (some (44, false)), [], false⟩,
    ⟨10, .q (.bin .gtr), [.tmp 48, .const (.int .i64 15)], (some 49), (some (44, false)), [], false⟩,
    ⟨11, .q .pick, [.tmp 44, .const (.bool true), .tmp 49], (some 50), none, [], false⟩])
  (.cond (.tmp 50)
   (.seq
   (.reg [⟨0, .q .mv, [.const (.bool false)], (some 9), none, [], false⟩])
   (.exit 1))
   .skip))
  (.seq
  (.reg [⟨0, .q .mv, [.tmp 0], (some 51), none, [], false⟩,
    ⟨1, .q .mv, [.tmp 10], (some 52), none, [], false⟩,
    ⟨2, .q (.iad 1), [.tmp 51, .tmp 52], (some 53), none, [], false⟩,
    ⟨3, .q .ld, [.tmp 53], (some 54), none, [], false⟩,
    ⟨4, .q (.bin .gtr), [.tmp 54, .const (.int .i64 0)], (some 55), none, [], false⟩])
  (.cond (.tmp 55)
   (.seq
   (.reg [⟨0, .q .mv, [.tmp 7], (some 56), none, [], false⟩,
     ⟨1, .q .mv, [.tmp 0], (some 57), none, [], false⟩,
     ⟨2, .q .mv, [.tmp 10], (some 58), none, [], false⟩,
     ⟨3, .q (.iad 1), [.tmp 57, .tmp 58], (some 59), none, [], false⟩,
     ⟨4, .q .ld, [.tmp 59], (some 60), none, [], false⟩,
     ⟨5, .q (.bin .sub), [.const (.int .i64 15), .tmp 60], (some 61), none, [], false⟩,
     ⟨6, .q (.cvi .u64), [.tmp 61], (some 62), none, [], false⟩,
     ⟨7, .q (.bin .shl), [.const (.int .i64 1), .tmp 62], (some 63), none, [], false⟩,
     ⟨8, .q (.bin .add), [.tmp 56, .tmp 63], (some 64), none, [], false⟩,
     ⟨9, .q .mv, [.tmp 64], (some 7), none, [], false⟩])
   (.reg [⟨0, .q .mv, [.tmp 8], (some 65), none, [], false⟩,
     ⟨1, .q (.bin .add), [.tmp 65, .const (.int .i64 1)], (some 66), none, [], false⟩,
     ⟨2, .q .mv, [.tmp 66], (some 8), none, [], false⟩]))
   .skip))))
 L7_0))
def L7_2 : LCode :=
 (.seq
 (.reg [⟨0, .q .mv, [.tmp 9], (some 67), none, [], false⟩,
   ⟨1, .q .mv, [.tmp 67], (some 68), none, [], false⟩,
   ⟨2, .q .mv, [.tmp 8], (some 69), (some (68, true)), [], false⟩,
   ⟨3, .q (.bin .gtr), [.tmp 69, .const (.int .i64 0)], (some 70), (some (68, true)), [], false⟩,
   ⟨4, .q .pick, [.tmp 68, .tmp 70, .const (.bool false)], (some 71), none, [], false⟩,
   ⟨5, .q .mv, [.tmp 71], (some 72), none, [], false⟩,
   ⟨6, .q .mv, [.tmp 7], (some 73), (some (72, true)), [], false⟩,
   ⟨7, .q (.bin .leq), [.tmp 73, .const (.int .i64 32768)], (some 74), (some (72, true)), [], false⟩,
   ⟨8, .q .pick, [.tmp 72, .tmp 74, .const (.bool false)], (some 75), none, [], false⟩,
   ⟨9, .q .mv, [.tmp 75], (some 9), none, [], false⟩])
 (.seq
 (.seq
 (.reg [⟨0, .q .mv, [.tmp 5], (some 76), none, [], false⟩,
   ⟨1, .q (.eqp true), [.tmp 76, .const (.pointer none)], (some 77), none, [], false⟩,
   ⟨2, .q .mv, [.tmp 9], (some 78), none, [], false⟩,
   ⟨3, .q (.eqb true), [.tmp 77, .tmp 78], (some 79), none, [], false⟩,
   ⟨4, .q .mv, [.tmp 79], (some 80), none, [], false⟩,
   ⟨5, .q .mv, [.tmp 6], (some 81), (some (80, false)), [], false⟩,
   ⟨6, .q (.bin .eql), [.tmp 81, .const (.int .i64 0)], (some 82), (some (80, false)), [], false⟩,
   ⟨7, .q .mv, [.tmp 9], (some 83), (some (80, false)), [], false⟩,
   ⟨8, .q (.eqb true), [.tmp 82, .tmp 83], (some 84), (some (80, false)), [], false⟩,
   ⟨9, .q .pick, [.tmp 80, .const (.bool true), .tmp 84], (some 85), none, [], false⟩])
 (.cond (.tmp 85)
  (.seq
  (.reg [⟨0, .q .mv, [.const (.bool false)], (some 4), none, [], false⟩])
  .ret)
  .skip))
 (.seq
 (.seq
 (.reg [⟨0, .q .mv, [.tmp 5], (some 86), none, [], false⟩,
   ⟨1, .q (.eqp false), [.tmp 86, .const (.pointer none)], (some 87), none, [], false⟩])
 (.cond (.tmp 87)
  (.seq
  (.reg [⟨0, .e (.lits 3 #[(.int .i64 0), (.int .i64 0)] 2 [(0, 1), (1, 1)]), [.const (.int .i64 1), .const (.int .i64 1)], (some 89), none, [], false⟩,
    ⟨1, .e (.call 33), [.tmp 89], (some 90), none, [], false⟩,
    ⟨2, .q .mv, [.tmp 90], (some 88), none, [], false⟩,
    ⟨3, .q (.ext 0), [.tmp 88], (some 91), none, [], false⟩,
    ⟨4, .q (.ext 1), [.tmp 88], (some 92), none, [], false⟩,
    ⟨5, .q .mv, [.tmp 91], (some 11), none, [], false⟩,
    ⟨6, .q .mv, [.tmp 92], (some 12), none, [], false⟩])
  (.seq
  (.reg [⟨0, .q .mv, [.tmp 11], (some 93), none, [], false⟩,
    ⟨1, .q (.eqp true), [.tmp 93, .const (.pointer none)], (some 94), none, [], false⟩,
    ⟨2, .q .mv, [.tmp 94], (some 95), none, [], false⟩,
    ⟨3, .q .mv, [.tmp 12], (some 96), (some (95, true)), [], false⟩,
    ⟨4, .q (.bin .eql), [.tmp 96, .const (.int .i64 0)], (some 97), (some (95, true)), [], false⟩,
    ⟨5, .q .pick, [.tmp 95, .tmp 97, .const (.bool false)], (some 98), none, [], false⟩,
    ⟨6, .q .mv, [.tmp 98], (some 4), none, [], false⟩])
  .ret))
  .skip))
 (.seq
 (.reg [⟨0, .q .mv, [.tmp 1], (some 99), none, [], false⟩,
   ⟨1, .q (.bin .rem), [.tmp 99, .const (.int .u16 256)], (some 100), none, [], false⟩,
   ⟨2, .q (.cvi .u8), [.tmp 100], (some 101), none, [], false⟩,
   ⟨3, .q .mv, [.tmp 1], (some 102), none, [], false⟩,
   ⟨4, .q (.bin .quo), [.tmp 102, .const (.int .u16 256)], (some 103), none, [], false⟩,
   ⟨5, .q (.cvi .u8), [.tmp 103], (some 104), none, [], false⟩,
   ⟨6, .e (.lits 5 #[(.int .u8 0), (.int .u8 0)] 2 [(0, 1), (1, 1)]), [.tmp 101, .tmp 104], (some 105), none, [], false⟩,
   ⟨7, .e (.call 23), [.tmp 105], (some 106), none, [], false⟩,
   ⟨8, .q .mv, [.tmp 106], (some 13), none, [], false⟩])
 (.seq
 (.seq
 (.reg [⟨0, .q .mv, [.tmp 13], (some 107), none, [], false⟩,
   ⟨1, .q (.eqp false), [.tmp 107, .const (.pointer none)], (some 108), none, [], false⟩,
   ⟨2, .q .mv, [.tmp 108], (some 109), none, [], false⟩,
   ⟨3, .q .mv, [.tmp 5], (some 110), (some (109, false)), [], false⟩,
   ⟨4, .e (.call 35), [.tmp 110], (some 111), (some (109, false)), [], false⟩,
   ⟨5, .q .mv, [.tmp 7], (some 112), (some (109, false)), [], false⟩,
   ⟨6, .q (.bin .eql), [.tmp 112, .const (.int .i64 32768)], (some 113), (some (109, false)), [], false⟩,
   ⟨7, .q (.eqb true), [.tmp 111, .tmp 113], (some 114), (some (109, false)), [], false⟩,
   ⟨8, .q .pick, [.tmp 109, .const (.bool true), .tmp 114], (some 115), none, [], false⟩])
 (.cond (.tmp 115)
  (.seq
  (.reg [⟨0, .q .mv, [.const (.bool false)], (some 4), none, [], false⟩])
  .ret)
  .skip))
 (.seq
 (.reg [⟨0, .q .mv, [.tmp 5], (some 117), none, [], false⟩,
   ⟨1, .q .mv, [.tmp 13], (some 118), none, [], false⟩,
   ⟨2, .e (.call 38), [.tmp 117, .tmp 118], (some 119), none, [], false⟩,
   ⟨3, .q .mv, [.tmp 119], (some 116), none, [], false⟩,
   ⟨4, .q (.ext 0), [.tmp 116], (some 120), none, [], false⟩,
   ⟨5, .q (.ext 1), [.tmp 116], (some 121), none, [], false⟩,
   ⟨6, .q .mv, [.tmp 120], (some 14), none, [], false⟩,
   ⟨7, .q .mv, [.tmp 121], (some 15), none, [], false⟩])
 (.seq
 (.seq
 (.reg [⟨0, .q .mv, [.tmp 15], (some 122), none, [], false⟩,
   ⟨1, .q (.bin .eql), [.tmp 122, .const (.int .i64 0)], (some 123), none, [], false⟩])
 (.cond (.tmp 123)
  (.seq
  (.reg [⟨0, .q .mv, [.tmp 5], (some 125), none, [], false⟩,
    ⟨1, .q .mv, [.tmp 14], (some 126), none, [], false⟩,
    ⟨2, .e (.call 36), [.tmp 125, .tmp 126], (some 127), none, [], false⟩,
    ⟨3, .q .mv, [.tmp 127], (some 124), none, [], false⟩,
    ⟨4, .q (.ext 0), [.tmp 124], (some 128), none, [], false⟩,
    ⟨5, .q (.ext 1), [.tmp 124], (some 129), none, [], false⟩,
    ⟨6, .e (.new #[(.int .u32 0), (.int .i64 0)] 62), [], (some 16), none, [], false⟩,
    ⟨7, .e (.st 2), [.tmp 16, .tmp 128], none, none, [], false⟩,
    ⟨8, .q .mv, [.tmp 129], (some 17), none, [], false⟩])
  (.seq
  (.reg [⟨0, .q .mv, [.tmp 17], (some 130), none, [], false⟩,
    ⟨1, .q (.bin .eql), [.tmp 130, .const (.int .i64 0)], (some 131), none, [], false⟩,
    ⟨2, .q .mv, [.tmp 131], (some 132), none, [], false⟩,
    ⟨3, .q (.fad 0), [.tmp 16], (some 133), (some (132, true)), [], false⟩,
    ⟨4, .q .ld, [.tmp 133], (some 134), (some (132, true)), [], false⟩,
    ⟨5, .q .mv, [.tmp 1], (some 135), (some (132, true)), [], false⟩,
    ⟨6, .q (.cvi .u32), [.tmp 135], (some 136), (some (132, true)), [], false⟩,
    ⟨7, .q (.fad 1), [.tmp 16], (some 137), (some (132, true)), [], false⟩,
    ⟨8, .q .ld, [.tmp 137], (some 138), (some (132, true)), [], false⟩,
    ⟨9, .q (.cvi .u64), [.tmp 138], (some 139), (some (132, true)), [], false⟩,
    ⟨10, .q (.bin .shl), [.const (.int .u32 1), .tmp 139], (some 140), (some (132, true)), [], false⟩,
    ⟨11, .q (.bin .rem), [.tmp 136, .tmp 140], (some 141), (some (132, true)), [], false⟩,
    ⟨12, .q (.bin .eql), [.tmp 134, .tmp 141], (some 142), (some (132, true)), [], false⟩,
    ⟨13, .q .pick, [.tmp 132, .tmp 142, .const (.bool false)], (some 143), none, [], false⟩,
    ⟨14, .q .mv, [.tmp 143], (some 144), none, [], false⟩,
    ⟨15, .q .mv, [.tmp 13], (some 145), (some (144, true)), [], false⟩,
    ⟨17, .q (.fad 1), [.tmp 16], (some 147), (some (144, true)), [], false⟩,
    ⟨18, .q .ld, [.tmp 147], (some 148), (some (144, true)), [], true⟩,
    ⟨19, .q (.bin .sub), [.const (.int .i64 16), .tmp 148], (some 149), (some (144, true)), [], false⟩,
    ⟨16, .e (.call 31), [.tmp 145], (some 146), (some (144, true)), [18], false⟩,
    ⟨20, .q (.bin .eql), [.tmp 146, .tmp 149], (some 150), (some (144, true)), [], false⟩,
    ⟨21, .q .pick, [.tmp 144, .tmp 150, .const (.bool false)], (some 151), none, [], false⟩,
    ⟨22, .q .mv, [.tmp 151], (some 4), none, [], false⟩])
  .ret))
  .skip))
 (.seq
 (.reg [⟨0, .q .mv, [.tmp 15], (some 152), none, [], false⟩,
   ⟨1, .q (.bin .eql), [.tmp 152, .const (.int .i64 52)], (some 153), none, [], false⟩,
   ⟨2, .q .mv, [.tmp 153], (some 154), none, [], false⟩,
   ⟨3, .q .mv, [.tmp 5], (some 155), (some (154, true)), [], false⟩,
   ⟨4, .e (.call 35), [.tmp 155], (some 156), (some (154, true)), [], false⟩,
   ⟨5, .q (.un .not), [.tmp 156], (some 157), (some (154, true)), [], false⟩,
   ⟨6, .q .pick, [.tmp 154, .tmp 157, .const (.bool false)], (some 158), none, [], false⟩,
   ⟨7, .q .mv, [.tmp 158], (some 159), none, [], false⟩,
   ⟨8, .q .mv, [.tmp 13], (some 160), (some (159, true)), [], false⟩,
   ⟨9, .e (.call 31), [.tmp 160], (some 161), (some (159, true)), [], false⟩,
   ⟨10, .q (.bin .eql), [.tmp 161, .const (.int .i64 16)], (some 162), (some (159, true)), [], false⟩,
   ⟨11, .q .pick, [.tmp 159, .tmp 162, .const (.bool false)], (some 163), none, [], false⟩,
   ⟨12, .q .mv, [.tmp 163], (some 4), none, [], false⟩])
 .ret))))))))
def L7 : LFn :=
 ⟨164, [.t 4],
 (.seq
 (.reg [⟨0, .q .mv, [.const (.bool false)], (some 4), none, [], false⟩])
 (.seq
 (.reg [⟨0, .e (.lits 3 #[] 0 []), [], (some 19), none, [], false⟩,
   ⟨1, .q .mv, [.tmp 0], (some 20), none, [], false⟩,
   ⟨2, .e (.app 3 1 8 #[(.int .i64 0)]), [.tmp 19, .tmp 20], (some 21), none, [], false⟩,
   ⟨3, .e (.call 33), [.tmp 21], (some 22), none, [], false⟩,
   ⟨4, .q .mv, [.tmp 22], (some 18), none, [], false⟩,
   ⟨5, .q (.ext 0), [.tmp 18], (some 23), none, [], false⟩,
   ⟨6, .q (.ext 1), [.tmp 18], (some 24), none, [], false⟩,
   ⟨7, .q .mv, [.tmp 23], (some 5), none, [], false⟩,
   ⟨8, .q .mv, [.tmp 24], (some 6), none, [], false⟩])
 (.seq
 (.reg [⟨0, .q .mv, [.const (.int .i64 0)], (some 7), none, [], false⟩,
   ⟨1, .q .mv, [.const (.int .i64 0)], (some 8), none, [], false⟩])
 (.seq
 (.reg [⟨0, .q .mv, [.tmp 0], (some 25), none, [], false⟩,
   ⟨1, .q .len, [.tmp 25], (some 26), none, [], false⟩,
   ⟨2, .q (.bin .geq), [.tmp 26, .const (.int .i64 1)], (some 27), none, [], false⟩,
   ⟨3, .q .mv, [.tmp 27], (some 28), none, [], false⟩,
   ⟨4, .q .mv, [.tmp 0], (some 29), (some (28, true)), [], false⟩,
   ⟨5, .q .len, [.tmp 29], (some 30), (some (28, true)), [], false⟩,
   ⟨6, .q (.bin .leq), [.tmp 30, .const (.int .i64 320)], (some 31), (some (28, true)), [], false⟩,
   ⟨7, .q .pick, [.tmp 28, .tmp 31, .const (.bool false)], (some 32), none, [], false⟩,
   ⟨8, .q .mv, [.tmp 32], (some 9), none, [], false⟩])
 (.seq
 (.seq
 (.reg [⟨0, .q .mv, [.const (.int .i64 0)], (some 10), none, [], false⟩])
 (.block 0
  (.loop L7_1)))
 L7_2)))))⟩
theorem low7 : lowFn Try.prog Try.f7 = some L7 := by kernel_rfl
theorem call7 {args : List Value} {H : Heap} {S : Ending → Heap → Prop} (hn : args.length ≤ L7.n) (h : awpC Try.prog L7.body (retQ L7.results S) (fun ch H => S (.panicked ch) H) (env0 args) H) : ACalls Try.prog 7 args.toArray H S := acalls mixed Try.func7 low7 hn h
/-- satchel/satchellaw05.BitsPrefix -/
def L8_0 : LCode :=
 (.seq
 (.seq
 (.reg [⟨0, .q .mv, [.tmp 11], (some 47), none, [], false⟩,
   ⟨1, .q .mv, [.tmp 1], (some 48), none, [], false⟩,
   ⟨2, .q .len, [.tmp 48], (some 49), none, [], false⟩,
   ⟨3, .q (.bin .lss), [.tmp 47, .tmp 49], (some 50), none, [], false⟩])
 (.cond (.tmp 50)
  .skip
  (.exit 0)))
 (.seq
 (.block 1
  (.seq
  (.reg [⟨0, .q .mv, [.tmp 5], (some 54), none, [], false⟩,
    ⟨1, .q .mv, [.tmp 1], (some 55), none, [], false⟩,
    ⟨2, .q .mv, [.tmp 11], (some 56), none, [], false⟩,
    ⟨3, .q (.iad 1), [.tmp 55, .tmp 56], (some 57), none, [], false⟩,
    ⟨4, .q .ld, [.tmp 57], (some 58), none, [], false⟩,
    ⟨5, .e (.call 36), [.tmp 54, .tmp 58], (some 59), none, [], false⟩,
    ⟨6, .q .mv, [.tmp 59], (some 53), none, [], false⟩,
    ⟨7, .q (.ext 0), [.tmp 53], (some 60), none, [], false⟩,
    ⟨8, .q (.ext 1), [.tmp 53], (some 61), none, [], false⟩,
    ⟨9, .e (.new #[(.int .u32 0), (.int .i64 0)] 62), [], (some 12), none, [], false⟩,
    ⟨10, .e (.st 2), [.tmp 12, .tmp 60], none, none, [], false⟩,
    ⟨11, .q .mv, [.tmp 61], (some 13), none, [], false⟩])
  (.seq
  (.seq
  (.reg [⟨0, .q .mv, [.tmp 13], (some 62), none, [], false⟩,
    ⟨1, .q (.bin .neq), [.tmp 62, .const (.int .i64 0)], (some 63), none, [], false⟩])
  (.cond (.tmp 63)
   (.exit 1)
   .skip))
  (.seq
  (.seq
  (.reg [⟨0, .q (.fad 1), [.tmp 12], (some 64), none, [], false⟩,
    ⟨1, .q .ld, [.tmp 64], (some 65), none, [], false⟩,
    ⟨2, .q (.bin .lss), [.tmp 65, .const (.int .i64 1)], (some 66), none, [], false⟩,
    ⟨3, .q .mv, [.tmp 66], (some 67), none, [], false⟩,
    ⟨4, .q (.fad 1), [.tmp 12], (some 68), (some (67, false)), [], false⟩,
    ⟨5, .q .ld, [.tmp 68], (some 69), (some (67, false)), [], false⟩,
    ⟨6, .q (.bin .gtr), [.tmp 69, .const (.int .i64 15)], (some 70), (some (67, false)), [], false⟩,
    ⟨7, .q .pick, [.tmp 67, .const (.bool true), .tmp 70], (some 71), none, [], false⟩,
    ⟨8, .q .mv, [.tmp 71], (some 72), none, [], false⟩,
    ⟨9, .q (.fad 1), [.tmp 12], (some 73), (some (72, false)), [], false⟩,
    ⟨10, .q .ld, [.tmp 73], (some 74), (some (72, false)), [], false⟩,
    ⟨11, .q .mv, [.tmp 0], (some 75), (some (72, false)), [], false⟩,
    ⟨12, .q .mv, [.tmp 1], (some 76), (some (72, false)), [], false⟩,
    ⟨13, .q .mv, [.tmp 11], (some 77), (some (72, false)), [], false⟩,
    ⟨14, .q (.iad 1), [.tmp 76, .tmp 77], (some 78), (some (72, false)), [], false⟩,
    ⟨15, .q .ld, [.tmp 78], (some 79), (some (72, false)), [], false⟩,
    ⟨16, .q (.iad 1), [.tmp 75, .tmp 79], (some 80), (some (72, false)), [], false⟩,
    ⟨17, .q .ld, [.tmp 80], (some 81), (some (72, false)), [], false⟩,
    ⟨18, .q (.bin .neq), [.tmp 74, .tmp 81], (some 82), (some (72, false)), [], false⟩,
    ⟨19, .q .pick, [.tmp 72, .const (.bool true), .tmp 82], (some 83), none, [], false⟩,
    ⟨20, .q .mv, [.tmp 83], (some 84), none, [], false⟩,
    ⟨21, .q .mv, [.tmp 9], (some 85), (some (84, false)), [], false⟩,
    ⟨22, .q (.fad 0), [.tmp 12], (some 86), (some (84, false)), [], false⟩,
    ⟨23, .q .ld, [.tmp 86], (some 87), (some (84, false)), [], false⟩,
    ⟨24, .q (.fad 1), [.tmp 12], (some 88), (some (84, false)), [], false⟩,
    ⟨25, .q .ld, [.tmp 88], (some 89), (some (84, false)), [], false⟩,
    ⟨26, .e (.call 10), [.tmp 85, .tmp 87, .tmp 89], (some 90), (some (84, false)), [], false⟩,
    ⟨27, .q (.bin .neq), [.tmp 90, .const (.int .i64 0)], (some 91), (some (84, false)), [], false⟩,
    ⟨28, .q .pick, [.tmp 84, .const (.bool true), .tmp 91], (some 92), none, [], false⟩])
  (.cond (.tmp 92)
   (.seq
   (.reg [⟨0, .q .mv, [.const (.bool false)], (some 4), none, [], false⟩])
   .ret)
   .skip))
  (.reg [⟨0, .q .mv, [.tmp 10], (some 93), none, [], false⟩,
    ⟨1, .q .mv, [.tmp 1], (some 94), none, [], false⟩,
    ⟨2, .q .mv, [.tmp 11], (some 95), none, [], false⟩,
    ⟨3, .q (.iad 1), [.tmp 94, .tmp 95], (some 96), none, [], false⟩,
    ⟨4, .q .ld, [.tmp 96], (some 97), none, [], false⟩,
    ⟨5, .e (.lits 3 #[(.int .i64 0)] 1 [(0, 1)]), [.tmp 97], (some 98), none, [], false⟩,
    ⟨6, .e (.app 3 1 8 #[(.int .i64 0)]), [.tmp 93, .tmp 98], (some 99), none, [], false⟩,
    ⟨7, .q .mv, [.tmp 99], (some 10), none, [], false⟩])))))
 (.reg [⟨0, .q .mv, [.tmp 11], (some 51), none, [], false⟩,
   ⟨1, .q (.bin .add), [.tmp 51, .const (.int .i64 1)], (some 52), none, [], false⟩,
   ⟨2, .q .mv, [.tmp 52], (some 11), none, [], false⟩])))
def L8_1 : LCode :=
 (.seq
 (.seq
 (.reg [⟨0, .q .mv, [.tmp 15], (some 105), none, [], false⟩,
   ⟨1, .q .mv, [.tmp 10], (some 106), none, [], false⟩,
   ⟨2, .q .len, [.tmp 106], (some 107), none, [], false⟩,
   ⟨3, .q (.bin .lss), [.tmp 105, .tmp 107], (some 108), none, [], false⟩])
 (.cond (.tmp 108)
  .skip
  (.exit 2)))
 (.seq
 (.block 3
  (.seq
  (.reg [⟨0, .q .mv, [.tmp 5], (some 112), none, [], false⟩,
    ⟨1, .q .mv, [.tmp 14], (some 113), none, [], false⟩,
    ⟨2, .e (.call 38), [.tmp 112, .tmp 113], (some 114), none, [], false⟩,
    ⟨3, .q .mv, [.tmp 114], (some 111), none, [], false⟩,
    ⟨4, .q (.ext 0), [.tmp 111], (some 115), none, [], false⟩,
    ⟨5, .q (.ext 1), [.tmp 111], (some 116), none, [], false⟩,
    ⟨6, .q .mv, [.tmp 115], (some 16), none, [], false⟩,
    ⟨7, .q .mv, [.tmp 116], (some 17), none, [], false⟩])
  (.seq
  (.reg [⟨0, .q .mv, [.tmp 17], (some 117), none, [], false⟩,
    ⟨1, .q (.bin .neq), [.tmp 117, .const (.int .i64 0)], (some 118), none, [], false⟩,
    ⟨2, .q .mv, [.tmp 118], (some 119), none, [], false⟩,
    ⟨3, .q .mv, [.tmp 16], (some 120), (some (119, false)), [], false⟩,
    ⟨4, .q .mv, [.tmp 10], (some 121), (some (119, false)), [], false⟩,
    ⟨5, .q .mv, [.tmp 15], (some 122), (some (119, false)), [], false⟩,
    ⟨6, .q (.iad 1), [.tmp 121, .tmp 122], (some 123), (some (119, false)), [], false⟩,
    ⟨7, .q .ld, [.tmp 123], (some 124), (some (119, false)), [], false⟩,
    ⟨8, .q (.bin .neq), [.tmp 120, .tmp 124], (some 125), (some (119, false)), [], false⟩,
    ⟨9, .q .pick, [.tmp 119, .const (.bool true), .tmp 125], (some 126), none, [], false⟩])
  (.cond (.tmp 126)
   (.seq
   (.reg [⟨0, .q .mv, [.const (.bool false)], (some 4), none, [], false⟩])
   .ret)
   .skip))))
 (.reg [⟨0, .q .mv, [.tmp 15], (some 109), none, [], false⟩,
   ⟨1, .q (.bin .add), [.tmp 109, .const (.int .i64 1)], (some 110), none, [], false⟩,
   ⟨2, .q .mv, [.tmp 110], (some 15), none, [], false⟩])))
def L8_2 : LCode :=
 (.seq
 (.seq
 (.reg [⟨0, .q .mv, [.tmp 19], (some 133), none, [], false⟩,
   ⟨1, .q .mv, [.tmp 18], (some 134), none, [], false⟩,
   ⟨2, .q (.bin .lss), [.tmp 133, .tmp 134], (some 135), none, [], false⟩])
 (.cond (.tmp 135)
  .skip
  (.exit 6)))
 (.seq
 (.block 7
  (.seq
  (.seq
  (.reg [⟨0, .q .mv, [.tmp 0], (some 138), none, [], false⟩,
    ⟨1, .q .mv, [.tmp 18], (some 139), none, [], false⟩,
    ⟨2, .q (.iad 1), [.tmp 138, .tmp 139], (some 140), none, [], false⟩,
    ⟨3, .q .ld, [.tmp 140], (some 141), none, [], false⟩,
    ⟨4, .q (.bin .eql), [.tmp 141, .const (.int .i64 0)], (some 142), none, [], false⟩,
    ⟨5, .q .mv, [.tmp 142], (some 143), none, [], false⟩,
    ⟨6, .q .mv, [.tmp 0], (some 144), (some (143, false)), [], false⟩,
    ⟨7, .q .mv, [.tmp 18], (some 145), (some (143, false)), [], false⟩,
    ⟨8, .q (.iad 1), [.tmp 144, .tmp 145], (some 146), (some (143, false)), [], false⟩,
    ⟨9, .q .ld, [.tmp 146], (some 147), (some (143, false)), [], false⟩,
    ⟨10, .q .mv, [.tmp 0], (some 148), (some (143, false)), [], false⟩,
    ⟨11, .q .mv, [.tmp 19], (some 149), (some (143, false)), [], false⟩,
    ⟨12, .q (.iad 1), [.tmp 148, .tmp 149], (some 150), (some (143, false)), [], false⟩,
    ⟨13, .q .ld, [.tmp 150], (some 151), (some (143, false)), [], false⟩,
    ⟨14, .q (.bin .neq), [.tmp 147, .tmp 151], (some 152), (some (143, false)), [], false⟩,
    ⟨15, .q .pick, [.tmp 143, .const (.bool true), .tmp 152], (some 153), none, [], false⟩])
  (.cond (.tmp 153)
   (.exit 7)
   .skip))
  (.seq
  (.reg [⟨0, .q .mv, [.tmp 5], (some 155), none, [], false⟩,
    ⟨1, .q .mv, [.tmp 18], (some 156), none, [], false⟩,
    ⟨2, .e (.call 36), [.tmp 155, .tmp 156], (some 157), none, [], false⟩,
    ⟨3, .q .mv, [.tmp 157], (some 154), none, [], false⟩,
    ⟨4, .q (.ext 0), [.tmp 154], (some 158), none, [], false⟩,
    ⟨5, .q (.ext 1), [.tmp 154], (some 159), none, [], false⟩,
    ⟨6, .e (.new #[(.int .u32 0), (.int .i64 0)] 62), [], (some 20), none, [], false⟩,
    ⟨7, .e (.st 2), [.tmp 20, .tmp 158], none, none, [], false⟩,
    ⟨8, .q .mv, [.tmp 159], (some 21), none, [], false⟩])
  (.seq
  (.reg [⟨0, .q .mv, [.tmp 5], (some 161), none, [], false⟩,
    ⟨1, .q .mv, [.tmp 19], (some 162), none, [], false⟩,
    ⟨2, .e (.call 36), [.tmp 161, .tmp 162], (some 163), none, [], false⟩,
    ⟨3, .q .mv, [.tmp 163], (some 160), none, [], false⟩,
    ⟨4, .q (.ext 0), [.tmp 160], (some 164), none, [], false⟩,
    ⟨5, .q (.ext 1), [.tmp 160], (some 165), none, [], false⟩,
    ⟨6, .e (.new #[(.int .u32 0), (.int .i64 0)] 62), [], (some 22), none, [], false⟩,
    ⟨7, .e (.st 2), [.tmp 22, .tmp 164], none, none, [], false⟩,
    ⟨8, .q .mv, [.tmp 165], (some 23), none, [], false⟩])
  (.seq
  (.reg [⟨0, .q (.ldn 2), [.tmp 20], (some 166), none, [], false⟩,
    ⟨2, .q (.ldn 2), [.tmp 22], (some 168), none, [], true⟩,
    ⟨1, .e (.call 40), [.tmp 166], (some 167), none, [2], false⟩,
    ⟨3, .e (.call 40), [.tmp 168], (some 169), none, [], false⟩,
    ⟨4, .q (.bin .leq), [.tmp 167, .tmp 169], (some 170), none, [], false⟩])
  (.cond (.tmp 170)
   (.seq
   (.reg [⟨0, .q .mv, [.const (.bool false)], (some 4), none, [], false⟩])
   .ret)
   .skip))))))
 (.reg [⟨0, .q .mv, [.tmp 19], (some 136), none, [], false⟩,
   ⟨1, .q (.bin .add), [.tmp 136, .const (.int .i64 1)], (some 137), none, [], false⟩,
   ⟨2, .q .mv, [.tmp 137], (some 19), none, [], false⟩])))
def L8_3 : LCode :=
 (.reg [⟨0, .q .mv, [.tmp 18], (some 131), none, [], false⟩,
   ⟨1, .q (.bin .add), [.tmp 131, .const (.int .i64 1)], (some 132), none, [], false⟩,
   ⟨2, .q .mv, [.tmp 132], (some 18), none, [], false⟩])
def L8_4 : LCode :=
 (.seq
 (.seq
 (.reg [⟨0, .q .mv, [.tmp 18], (some 127), none, [], false⟩,
   ⟨1, .q .mv, [.tmp 0], (some 128), none, [], false⟩,
   ⟨2, .q .len, [.tmp 128], (some 129), none, [], false⟩,
   ⟨3, .q (.bin .lss), [.tmp 127, .tmp 129], (some 130), none, [], false⟩])
 (.cond (.tmp 130)
  .skip
  (.exit 4)))
 (.seq
 (.block 5
  (.seq
  (.reg [⟨0, .q .mv, [.const (.int .i64 0)], (some 19), none, [], false⟩])
  (.block 6
   (.loop L8_2))))
 L8_3))
def L8_5 : LCode :=
 (.seq
 (.reg [⟨0, .q .mv, [.tmp 14], (some 171), none, [], false⟩,
   ⟨1, .e (.call 31), [.tmp 171], (some 172), none, [], false⟩,
   ⟨2, .q (.bin .lss), [.tmp 172, .const (.int .i64 8)], (some 173), none, [], false⟩,
   ⟨3, .q .mv, [.tmp 173], (some 4), none, [], false⟩])
 .ret)
def L8_6 : LCode :=
 (.seq
 (.reg [⟨0, .q .mv, [.tmp 9], (some 100), none, [], false⟩,
   ⟨1, .e (.call 19), [.tmp 100], (some 101), none, [], false⟩,
   ⟨2, .e (.call 23), [.tmp 101], (some 102), none, [], false⟩,
   ⟨3, .q .mv, [.tmp 102], (some 14), none, [], false⟩])
 (.seq
 (.seq
 (.reg [⟨0, .q .mv, [.tmp 14], (some 103), none, [], false⟩,
   ⟨1, .q (.eqp false), [.tmp 103, .const (.pointer none)], (some 104), none, [], false⟩])
 (.cond (.tmp 104)
  (.seq
  (.reg [⟨0, .q .mv, [.const (.bool false)], (some 4), none, [], false⟩])
  .ret)
  .skip))
 (.seq
 (.seq
 (.reg [⟨0, .q .mv, [.const (.int .i64 0)], (some 15), none, [], false⟩])
 (.block 2
  (.loop L8_1)))
 (.seq
 (.seq
 (.reg [⟨0, .q .mv, [.const (.int .i64 0)], (some 18), none, [], false⟩])
 (.block 4
  (.loop L8_4)))
 L8_5))))
def L8 : LFn :=
 ⟨174, [.t 4],
 (.seq
 (.reg [⟨0, .q .mv, [.const (.bool false)], (some 4), none, [], false⟩])
 (.seq
 (.reg [⟨0, .e (.lits 3 #[] 0 []), [], (some 25), none, [], false⟩,
   ⟨1, .q .mv, [.tmp 0], (some 26), none, [], false⟩,
   ⟨2, .e (.app 3 1 8 #[(.int .i64 0)]), [.tmp 25, .tmp 26], (some 27), none, [], false⟩,
   ⟨3, .e (.call 33), [.tmp 27], (some 28), none, [], false⟩,
   ⟨4, .q .mv, [.tmp 28], (some 24), none, [], false⟩,
   ⟨5, .q (.ext 0), [.tmp 24], (some 29), none, [], false⟩,
   ⟨6, .q (.ext 1), [.tmp 24], (some 30), none, [], false⟩,
   ⟨7, .q .mv, [.tmp 29], (some 5), none, [], false⟩,
   ⟨8, .q .mv, [.tmp 30], (some 6), none, [], false⟩])
 (.seq
 (.seq
 (.reg [⟨0, .q .mv, [.tmp 5], (some 31), none, [], false⟩,
   ⟨1, .q (.eqp false), [.tmp 31, .const (.pointer none)], (some 32), none, [], false⟩])
 (.cond (.tmp 32)
  (.seq
  (.reg [⟨0, .e (.lits 3 #[(.int .i64 0)] 1 [(0, 1)]), [.const (.int .i64 1)], (some 34), none, [], false⟩,
    ⟨1, .e (.call 33), [.tmp 34], (some 35), none, [], false⟩,
    ⟨2, .q .mv, [.tmp 35], (some 33), none, [], false⟩,
    ⟨3, .q (.ext 0), [.tmp 33], (some 36), none, [], false⟩,
    ⟨4, .q (.ext 1), [.tmp 33], (some 37), none, [], false⟩,
    ⟨5, .q .mv, [.tmp 36], (some 7), none, [], false⟩,
    ⟨6, .q .mv, [.tmp 37], (some 8), none, [], false⟩])
  (.seq
  (.reg [⟨0, .q .mv, [.tmp 6], (some 38), none, [], false⟩,
    ⟨1, .q (.bin .eql), [.tmp 38, .const (.int .i64 51)], (some 39), none, [], false⟩,
    ⟨2, .q .mv, [.tmp 39], (some 40), none, [], false⟩,
    ⟨3, .q .mv, [.tmp 8], (some 41), (some (40, true)), [], false⟩,
    ⟨4, .q (.bin .eql), [.tmp 41, .const (.int .i64 0)], (some 42), (some (40, true)), [], false⟩,
    ⟨5, .q .pick, [.tmp 40, .tmp 42, .const (.bool false)], (some 43), none, [], false⟩,
    ⟨6, .q .mv, [.tmp 43], (some 4), none, [], false⟩])
  .ret))
  .skip))
 (.seq
 (.reg [⟨0, .q (.build #[(.slice none 0 0), (.int .i64 0)] []), [], (some 44), none, [], false⟩,
   ⟨1, .e (.box 26), [.tmp 44], (some 45), none, [], false⟩,
   ⟨2, .q .mv, [.tmp 45], (some 9), none, [], false⟩])
 (.seq
 (.reg [⟨0, .e (.lits 3 #[] 0 []), [], (some 46), none, [], false⟩,
   ⟨1, .q .mv, [.tmp 46], (some 10), none, [], false⟩])
 (.seq
 (.seq
 (.reg [⟨0, .q .mv, [.const (.int .i64 0)], (some 11), none, [], false⟩])
 (.block 0
  (.loop L8_0)))
 L8_6))))))⟩
theorem low8 : lowFn Try.prog Try.f8 = some L8 := by kernel_rfl
theorem call8 {args : List Value} {H : Heap} {S : Ending → Heap → Prop} (hn : args.length ≤ L8.n) (h : awpC Try.prog L8.body (retQ L8.results S) (fun ch H => S (.panicked ch) H) (env0 args) H) : ACalls Try.prog 8 args.toArray H S := acalls mixed Try.func8 low8 hn h
end Go.Proofs.Ytfdcolicpfellaa.Low
