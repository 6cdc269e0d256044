/-
  Functions in short (out of the program's form in Lean, by the kernel).
-/
import Derived.Test.YtmgpfdfbcnlocaaDoorSepDfr
import Derived.Test.YtmgpfdfbcnlocaaDoorProg
namespace Go.Proofs.YtmgpfdfbcnlocaaDoor.Low
open Go Go.Proofs.YtmgpfdfbcnlocaaDoor.Sep
theorem mixed : Tryd.prog.follows .mixedOrders = true := by kernel_rfl
/-- satchel/satchellaw18.QuotaMany -/
def L3_0 : LCode :=
 (.reg [⟨0, .q .mv, [.tmp 9], (some 65), none, [], false⟩,
   ⟨1, .q .mv, [.tmp 11], (some 66), none, [], false⟩,
   ⟨2, .q .mv, [.tmp 7], (some 67), none, [], false⟩,
   ⟨3, .q .mv, [.tmp 1], (some 68), none, [], false⟩,
   ⟨4, .q .mv, [.tmp 11], (some 69), none, [], false⟩,
   ⟨5, .q (.iad 12), [.tmp 68, .tmp 69], (some 70), none, [], false⟩,
   ⟨6, .q (.ldn 12), [.tmp 70], (some 71), none, [], false⟩,
   ⟨7, .e (.call 10), [.tmp 67, .tmp 71], (some 72), none, [], false⟩,
   ⟨8, .q (.iad 1), [.tmp 65, .tmp 66], (some 73), none, [], false⟩,
   ⟨9, .e (.st 1), [.tmp 73, .tmp 72], none, none, [], false⟩])
def L3_1 : LCode :=
 (.reg [⟨0, .q .mv, [.tmp 10], (some 48), none, [], false⟩,
   ⟨1, .q (.bin .add), [.tmp 48, .const (.int .i64 1)], (some 49), none, [], false⟩,
   ⟨2, .q .mv, [.tmp 49], (some 10), none, [], false⟩])
def L3_2 : LCode :=
 (.seq
 (.seq
 (.reg [⟨0, .q .mv, [.tmp 10], (some 44), none, [], false⟩,
   ⟨1, .q .mv, [.tmp 1], (some 45), none, [], false⟩,
   ⟨2, .q .len, [.tmp 45], (some 46), none, [], false⟩,
   ⟨3, .q (.bin .lss), [.tmp 44, .tmp 46], (some 47), none, [], false⟩])
 (.cond (.tmp 47)
  .skip
  (.exit 0)))
 (.seq
 (.block 1
  (.seq
  (.reg [⟨0, .q .mv, [.tmp 10], (some 50), none, [], false⟩,
    ⟨1, .q .mv, [.tmp 2], (some 51), none, [], false⟩,
    ⟨2, .q (.cvi .i64), [.tmp 51], (some 52), none, [], false⟩,
    ⟨3, .q (.bin .add), [.tmp 50, .tmp 52], (some 53), none, [], false⟩,
    ⟨4, .q .mv, [.tmp 1], (some 54), none, [], false⟩,
    ⟨5, .q .len, [.tmp 54], (some 55), none, [], false⟩,
    ⟨6, .q (.bin .rem), [.tmp 53, .tmp 55], (some 56), none, [], false⟩,
    ⟨7, .q .mv, [.tmp 56], (some 11), none, [], false⟩])
  (.seq
  (.seq
  (.reg [⟨0, .q .mv, [.tmp 2], (some 57), none, [], false⟩,
    ⟨1, .q (.bin .rem), [.tmp 57, .const (.int .u16 2)], (some 58), none, [], false⟩,
    ⟨2, .q (.bin .eql), [.tmp 58, .const (.int .u16 1)], (some 59), none, [], false⟩])
  (.cond (.tmp 59)
   (.reg [⟨0, .q .mv, [.tmp 1], (some 60), none, [], false⟩,
     ⟨1, .q .len, [.tmp 60], (some 61), none, [], false⟩,
     ⟨2, .q (.bin .sub), [.tmp 61, .const (.int .i64 1)], (some 62), none, [], false⟩,
     ⟨3, .q .mv, [.tmp 11], (some 63), none, [], false⟩,
     ⟨4, .q (.bin .sub), [.tmp 62, .tmp 63], (some 64), none, [], false⟩,
     ⟨5, .q .mv, [.tmp 64], (some 11), none, [], false⟩])
   .skip))
  L3_0)))
 L3_1))
def L3_3 : LCode :=
 (.reg [⟨0, .q .mv, [.tmp 14], (some 78), none, [], false⟩,
   ⟨1, .q (.bin .add), [.tmp 78, .const (.int .i64 1)], (some 79), none, [], false⟩,
   ⟨2, .q .mv, [.tmp 79], (some 14), none, [], false⟩])
def L3_4 : LCode :=
 (.seq
 (.seq
 (.reg [⟨0, .q .mv, [.tmp 14], (some 74), none, [], false⟩,
   ⟨1, .q .mv, [.tmp 1], (some 75), none, [], false⟩,
   ⟨2, .q .len, [.tmp 75], (some 76), none, [], false⟩,
   ⟨3, .q (.bin .lss), [.tmp 74, .tmp 76], (some 77), none, [], false⟩])
 (.cond (.tmp 77)
  .skip
  (.exit 2)))
 (.seq
 (.block 3
  (.seq
  (.seq
  (.reg [⟨0, .q .mv, [.tmp 9], (some 80), none, [], false⟩,
    ⟨1, .q .mv, [.tmp 14], (some 81), none, [], false⟩,
    ⟨2, .q (.iad 1), [.tmp 80, .tmp 81], (some 82), none, [], false⟩,
    ⟨3, .q .ld, [.tmp 82], (some 83), none, [], false⟩,
    ⟨4, .q (.bin .neq), [.tmp 83, .const (.int .i64 0)], (some 84), none, [], false⟩])
  (.cond (.tmp 84)
   (.exit 3)
   .skip))
  (.seq
  (.reg [⟨0, .q .mv, [.tmp 12], (some 85), none, [], false⟩,
    ⟨1, .q (.bin .add), [.tmp 85, .const (.int .i64 1)], (some 86), none, [], false⟩,
    ⟨2, .q .mv, [.tmp 86], (some 12), none, [], false⟩])
  (.seq
  (.reg [⟨0, .q .mv, [.tmp 1], (some 87), none, [], false⟩,
    ⟨1, .q .mv, [.tmp 14], (some 88), none, [], false⟩,
    ⟨2, .q (.iad 12), [.tmp 87, .tmp 88], (some 89), none, [], false⟩,
    ⟨3, .q (.fad 1), [.tmp 89], (some 90), none, [], false⟩,
    ⟨4, .q .ld, [.tmp 90], (some 91), none, [], false⟩,
    ⟨5, .q (.bin .eql), [.tmp 91, .const (.int .i64 2)], (some 92), none, [], false⟩])
  (.cond (.tmp 92)
   (.seq
   (.seq
   (.reg [⟨0, .q .mv, [.tmp 1], (some 93), none, [], false⟩,
     ⟨1, .q .mv, [.tmp 14], (some 94), none, [], false⟩,
     ⟨2, .q (.iad 12), [.tmp 93, .tmp 94], (some 95), none, [], false⟩,
     ⟨3, .q (.fad 10), [.tmp 95], (some 96), none, [], false⟩,
     ⟨4, .q .ld, [.tmp 96], (some 97), none, [], false⟩,
     ⟨5, .q (.bin .lss), [.tmp 97, .const (.int .i64 0)], (some 98), none, [], false⟩,
     ⟨6, .q .mv, [.tmp 98], (some 99), none, [], false⟩,
     ⟨7, .q .mv, [.tmp 1], (some 100), (some (99, false)), [], false⟩,
     ⟨8, .q .mv, [.tmp 14], (some 101), (some (99, false)), [], false⟩,
     ⟨9, .q (.iad 12), [.tmp 100, .tmp 101], (some 102), (some (99, false)), [], false⟩,
     ⟨10, .q (.fad 10), [.tmp 102], (some 103), (some (99, false)), [], false⟩,
     ⟨11, .q .ld, [.tmp 103], (some 104), (some (99, false)), [], false⟩,
     ⟨12, .q (.fad 0), [.tmp 3], (some 105), (some (99, false)), [], false⟩,
     ⟨13, .q .ld, [.tmp 105], (some 106), (some (99, false)), [], false⟩,
     ⟨14, .q .mv, [.tmp 13], (some 107), (some (99, false)), [], false⟩,
     ⟨15, .q (.bin .sub), [.tmp 106, .tmp 107], (some 108), (some (99, false)), [], false⟩,
     ⟨16, .q (.bin .gtr), [.tmp 104, .tmp 108], (some 109), (some (99, false)), [], false⟩,
     ⟨17, .q .pick, [.tmp 99, .const (.bool true), .tmp 109], (some 110), none, [], false⟩])
   (.cond (.tmp 110)
    (.seq
    (.reg [⟨0, .q .mv, [.const (.bool false)], (some 6), none, [], false⟩])
    .ret)
    .skip))
   (.reg [⟨0, .q .mv, [.tmp 13], (some 111), none, [], false⟩,
     ⟨1, .q .mv, [.tmp 1], (some 112), none, [], false⟩,
     ⟨2, .q .mv, [.tmp 14], (some 113), none, [], false⟩,
     ⟨3, .q (.iad 12), [.tmp 112, .tmp 113], (some 114), none, [], false⟩,
     ⟨4, .q (.fad 10), [.tmp 114], (some 115), none, [], false⟩,
     ⟨5, .q .ld, [.tmp 115], (some 116), none, [], false⟩,
     ⟨6, .q (.bin .add), [.tmp 111, .tmp 116], (some 117), none, [], false⟩,
     ⟨7, .q .mv, [.tmp 117], (some 13), none, [], false⟩]))
   .skip)))))
 L3_3))
def L3_5 : LCode :=
 (.seq
 (.seq
 (.reg [⟨0, .q .mv, [.tmp 18], (some 162), none, [], false⟩,
   ⟨1, .q .mv, [.tmp 1], (some 163), none, [], false⟩,
   ⟨2, .q .len, [.tmp 163], (some 164), none, [], false⟩,
   ⟨3, .q (.bin .lss), [.tmp 162, .tmp 164], (some 165), none, [], false⟩])
 (.cond (.tmp 165)
  .skip
  (.exit 4)))
 (.seq
 (.block 5
  (.seq
  (.reg [⟨0, .q .mv, [.tmp 16], (some 168), none, [], false⟩,
    ⟨1, .q .mv, [.tmp 1], (some 169), none, [], false⟩,
    ⟨2, .q .mv, [.tmp 18], (some 170), none, [], false⟩,
    ⟨3, .q (.iad 12), [.tmp 169, .tmp 170], (some 171), none, [], false⟩,
    ⟨4, .q (.ldn 12), [.tmp 171], (some 172), none, [], false⟩,
    ⟨5, .e (.call 14), [.tmp 168, .tmp 172], (some 173), none, [], false⟩,
    ⟨6, .q .mv, [.tmp 173], (some 19), none, [], false⟩])
  (.seq
  (.reg [⟨0, .q .mv, [.tmp 19], (some 174), none, [], false⟩,
    ⟨1, .q (.bin .eql), [.tmp 174, .const (.int .i64 180)], (some 175), none, [], false⟩,
    ⟨2, .q .mv, [.tmp 175], (some 176), none, [], false⟩,
    ⟨3, .q .mv, [.tmp 19], (some 177), (some (176, false)), [], false⟩,
    ⟨4, .q (.bin .eql), [.tmp 177, .const (.int .i64 182)], (some 178), (some (176, false)), [], false⟩,
    ⟨5, .q .pick, [.tmp 176, .const (.bool true), .tmp 178], (some 179), none, [], false⟩])
  (.cond (.tmp 179)
   (.seq
   (.reg [⟨0, .q .mv, [.const (.bool true)], (some 6), none, [], false⟩])
   .ret)
   .skip))))
 (.reg [⟨0, .q .mv, [.tmp 18], (some 166), none, [], false⟩,
   ⟨1, .q (.bin .add), [.tmp 166, .const (.int .i64 1)], (some 167), none, [], false⟩,
   ⟨2, .q .mv, [.tmp 167], (some 18), none, [], false⟩])))
def L3_6 : LCode :=
 (.seq
 (.seq
 (.reg [⟨0, .q .mv, [.tmp 20], (some 185), none, [], false⟩,
   ⟨1, .q .mv, [.tmp 1], (some 186), none, [], false⟩,
   ⟨2, .q .len, [.tmp 186], (some 187), none, [], false⟩,
   ⟨3, .q (.bin .lss), [.tmp 185, .tmp 187], (some 188), none, [], false⟩])
 (.cond (.tmp 188)
  .skip
  (.exit 6)))
 (.seq
 (.block 7
  (.seq
  (.reg [⟨0, .q .mv, [.tmp 9], (some 191), none, [], false⟩,
    ⟨1, .q .mv, [.tmp 20], (some 192), none, [], false⟩,
    ⟨2, .q (.iad 1), [.tmp 191, .tmp 192], (some 193), none, [], false⟩,
    ⟨3, .q .ld, [.tmp 193], (some 194), none, [], true⟩,
    ⟨4, .q (.bin .eql), [.tmp 194, .const (.int .i64 0)], (some 195), none, [], false⟩,
    ⟨5, .q .mv, [.tmp 16], (some 196), none, [], false⟩,
    ⟨6, .q .mv, [.tmp 1], (some 197), none, [], false⟩,
    ⟨7, .q .mv, [.tmp 20], (some 198), none, [], false⟩,
    ⟨8, .q (.iad 12), [.tmp 197, .tmp 198], (some 199), none, [], false⟩,
    ⟨9, .q (.ldn 12), [.tmp 199], (some 200), none, [], false⟩,
    ⟨10, .e (.call 14), [.tmp 196, .tmp 200], (some 201), none, [3], false⟩,
    ⟨11, .q (.bin .eql), [.tmp 201, .const (.int .i64 0)], (some 202), none, [], false⟩,
    ⟨12, .q (.eqb true), [.tmp 195, .tmp 202], (some 203), none, [], false⟩])
  (.cond (.tmp 203)
   (.seq
   (.reg [⟨0, .q .mv, [.const (.bool false)], (some 6), none, [], false⟩])
   .ret)
   .skip)))
 (.reg [⟨0, .q .mv, [.tmp 20], (some 189), none, [], false⟩,
   ⟨1, .q (.bin .add), [.tmp 189, .const (.int .i64 1)], (some 190), none, [], false⟩,
   ⟨2, .q .mv, [.tmp 190], (some 20), none, [], false⟩])))
def L3_7 : LCode :=
 (.seq
 (.reg [⟨0, .q .mv, [.tmp 7], (some 118), none, [], false⟩,
   ⟨1, .e (.call 11), [.tmp 118], (some 119), none, [], false⟩,
   ⟨2, .e (.new #[(.int .i64 0), (.int .i64 0), (.int .i64 0)] 23), [], (some 15), none, [], false⟩,
   ⟨3, .e (.st 3), [.tmp 15, .tmp 119], none, none, [], false⟩])
 (.seq
 (.seq
 (.reg [⟨0, .q .mv, [.tmp 7], (some 120), none, [], false⟩,
   ⟨1, .e (.call 12), [.tmp 120], (some 121), none, [], false⟩,
   ⟨2, .q .mv, [.tmp 13], (some 122), none, [], false⟩,
   ⟨3, .q .mv, [.tmp 12], (some 123), none, [], false⟩,
   ⟨4, .q (.build #[(.int .i64 0), (.int .i64 0), (.int .i64 0)] [(0, 1), (1, 1)]), [.tmp 122, .tmp 123], (some 124), none, [], false⟩,
   ⟨5, .q (.eqa [(0, .i), (1, .i), (2, .i)] true), [.tmp 121, .tmp 124], (some 125), none, [], false⟩,
   ⟨6, .q .mv, [.tmp 125], (some 126), none, [], false⟩,
   ⟨7, .q .mv, [.tmp 12], (some 127), (some (126, false)), [], false⟩,
   ⟨8, .q (.fad 1), [.tmp 3], (some 128), (some (126, false)), [], false⟩,
   ⟨9, .q .ld, [.tmp 128], (some 129), (some (126, false)), [], false⟩,
   ⟨10, .q (.bin .gtr), [.tmp 127, .tmp 129], (some 130), (some (126, false)), [], false⟩,
   ⟨11, .q .pick, [.tmp 126, .const (.bool true), .tmp 130], (some 131), none, [], false⟩,
   ⟨12, .q .mv, [.tmp 131], (some 132), none, [], false⟩,
   ⟨13, .q (.fad 0), [.tmp 15], (some 133), (some (132, false)), [], false⟩,
   ⟨14, .q .ld, [.tmp 133], (some 134), (some (132, false)), [], false⟩,
   ⟨15, .q (.fad 0), [.tmp 3], (some 135), (some (132, false)), [], false⟩,
   ⟨16, .q .ld, [.tmp 135], (some 136), (some (132, false)), [], false⟩,
   ⟨17, .q .mv, [.tmp 13], (some 137), (some (132, false)), [], false⟩,
   ⟨18, .q (.bin .sub), [.tmp 136, .tmp 137], (some 138), (some (132, false)), [], false⟩,
   ⟨19, .q (.bin .neq), [.tmp 134, .tmp 138], (some 139), (some (132, false)), [], false⟩,
   ⟨20, .q .pick, [.tmp 132, .const (.bool true), .tmp 139], (some 140), none, [], false⟩,
   ⟨21, .q .mv, [.tmp 140], (some 141), none, [], false⟩,
   ⟨22, .q (.fad 1), [.tmp 15], (some 142), (some (141, false)), [], false⟩,
   ⟨23, .q .ld, [.tmp 142], (some 143), (some (141, false)), [], false⟩,
   ⟨24, .q (.fad 1), [.tmp 3], (some 144), (some (141, false)), [], false⟩,
   ⟨25, .q .ld, [.tmp 144], (some 145), (some (141, false)), [], false⟩,
   ⟨26, .q .mv, [.tmp 12], (some 146), (some (141, false)), [], false⟩,
   ⟨27, .q (.bin .sub), [.tmp 145, .tmp 146], (some 147), (some (141, false)), [], false⟩,
   ⟨28, .q (.bin .neq), [.tmp 143, .tmp 147], (some 148), (some (141, false)), [], false⟩,
   ⟨29, .q .pick, [.tmp 141, .const (.bool true), .tmp 148], (some 149), none, [], false⟩,
   ⟨30, .q .mv, [.tmp 149], (some 150), none, [], false⟩,
   ⟨31, .q (.fad 2), [.tmp 15], (some 151), (some (150, false)), [], false⟩,
   ⟨32, .q .ld, [.tmp 151], (some 152), (some (150, false)), [], false⟩,
   ⟨33, .q (.fad 2), [.tmp 3], (some 153), (some (150, false)), [], false⟩,
   ⟨34, .q .ld, [.tmp 153], (some 154), (some (150, false)), [], false⟩,
   ⟨35, .q (.bin .neq), [.tmp 152, .tmp 154], (some 155), (some (150, false)), [], false⟩,
   ⟨36, .q .pick, [.tmp 150, .const (.bool true), .tmp 155], (some 156), none, [], false⟩])
 (.cond (.tmp 156)
  (.seq
  (.reg [⟨0, .q .mv, [.const (.bool false)], (some 6), none, [], false⟩])
  .ret)
  .skip))
 (.seq
 (.reg [⟨0, .q (.ldn 3), [.tmp 3], (some 158), none, [], false⟩,
   ⟨1, .e (.call 13), [.tmp 158], (some 159), none, [], false⟩,
   ⟨2, .q .mv, [.tmp 159], (some 157), none, [], false⟩,
   ⟨3, .q (.ext 0), [.tmp 157], (some 160), none, [], false⟩,
   ⟨4, .q (.ext 1), [.tmp 157], (some 161), none, [], false⟩,
   ⟨5, .q .mv, [.tmp 160], (some 16), none, [], false⟩,
   ⟨6, .q .mv, [.tmp 161], (some 17), none, [], false⟩])
 (.seq
 (.seq
 (.reg [⟨0, .q .mv, [.const (.int .i64 0)], (some 18), none, [], false⟩])
 (.block 4
  (.loop L3_5)))
 (.seq
 (.reg [⟨0, .q (.ldn 3), [.tmp 3], (some 181), none, [], false⟩,
   ⟨1, .e (.call 13), [.tmp 181], (some 182), none, [], false⟩,
   ⟨2, .q .mv, [.tmp 182], (some 180), none, [], false⟩,
   ⟨3, .q (.ext 0), [.tmp 180], (some 183), none, [], false⟩,
   ⟨4, .q (.ext 1), [.tmp 180], (some 184), none, [], false⟩,
   ⟨5, .q .mv, [.tmp 183], (some 16), none, [], false⟩])
 (.seq
 (.seq
 (.reg [⟨0, .q .mv, [.const (.int .i64 0)], (some 20), none, [], false⟩])
 (.block 6
  (.loop L3_6)))
 (.seq
 (.reg [⟨0, .q .mv, [.const (.bool true)], (some 6), none, [], false⟩])
 .ret)))))))
def L3 : LFn :=
 ⟨204, [.t 6],
 (.seq
 (.reg [⟨0, .e (.box 23), [.tmp 0], (some 3), none, [], false⟩,
   ⟨1, .q .mv, [.const (.bool false)], (some 6), none, [], false⟩])
 (.seq
 (.seq
 (.reg [⟨0, .e (.call 7), [], (some 21), none, [], false⟩,
   ⟨1, .q (.un .not), [.tmp 21], (some 22), none, [], false⟩])
 (.cond (.tmp 22)
  (.seq
  (.reg [⟨0, .q .mv, [.const (.bool false)], (some 6), none, [], false⟩])
  .ret)
  .skip))
 (.seq
 (.reg [⟨0, .q (.ldn 3), [.tmp 3], (some 24), none, [], false⟩,
   ⟨1, .e (.call 8), [.tmp 24], (some 25), none, [], false⟩,
   ⟨2, .q .mv, [.tmp 25], (some 23), none, [], false⟩,
   ⟨3, .q (.ext 0), [.tmp 23], (some 26), none, [], false⟩,
   ⟨4, .q (.ext 1), [.tmp 23], (some 27), none, [], false⟩,
   ⟨5, .q .mv, [.tmp 26], (some 7), none, [], false⟩,
   ⟨6, .q .mv, [.tmp 27], (some 8), none, [], false⟩])
 (.seq
 (.seq
 (.reg [⟨0, .q .mv, [.tmp 8], (some 28), none, [], false⟩,
   ⟨1, .q (.bin .neq), [.tmp 28, .const (.int .i64 0)], (some 29), none, [], false⟩,
   ⟨2, .q .mv, [.tmp 29], (some 30), none, [], false⟩,
   ⟨3, .q .mv, [.tmp 7], (some 31), (some (30, false)), [], false⟩,
   ⟨4, .q (.eqp false), [.tmp 31, .const (.pointer none)], (some 32), (some (30, false)), [], false⟩,
   ⟨5, .q .pick, [.tmp 30, .const (.bool true), .tmp 32], (some 33), none, [], false⟩])
 (.cond (.tmp 33)
  (.seq
  (.reg [⟨0, .q .mv, [.tmp 8], (some 34), none, [], false⟩,
    ⟨1, .q (.bin .eql), [.tmp 34, .const (.int .i64 1)], (some 35), none, [], false⟩,
    ⟨2, .q .mv, [.tmp 35], (some 36), none, [], false⟩,
    ⟨3, .q (.ldn 3), [.tmp 3], (some 37), (some (36, true)), [], false⟩,
    ⟨4, .e (.call 9), [.tmp 37], (some 38), (some (36, true)), [], false⟩,
    ⟨5, .q (.un .not), [.tmp 38], (some 39), (some (36, true)), [], false⟩,
    ⟨6, .q .pick, [.tmp 36, .tmp 39, .const (.bool false)], (some 40), none, [], false⟩,
    ⟨7, .q .mv, [.tmp 40], (some 6), none, [], false⟩])
  .ret)
  .skip))
 (.seq
 (.reg [⟨0, .q .mv, [.tmp 1], (some 41), none, [], false⟩,
   ⟨1, .q .len, [.tmp 41], (some 42), none, [], false⟩,
   ⟨2, .e (.mks 28 1 8 #[(.int .i64 0)]), [.tmp 42, .tmp 42], (some 43), none, [], false⟩,
   ⟨3, .q .mv, [.tmp 43], (some 9), none, [], false⟩])
 (.seq
 (.seq
 (.reg [⟨0, .q .mv, [.const (.int .i64 0)], (some 10), none, [], false⟩])
 (.block 0
  (.loop L3_2)))
 (.seq
 (.reg [⟨0, .q .mv, [.const (.int .i64 0)], (some 12), none, [], false⟩,
   ⟨1, .q .mv, [.const (.int .i64 0)], (some 13), none, [], false⟩])
 (.seq
 (.seq
 (.reg [⟨0, .q .mv, [.const (.int .i64 0)], (some 14), none, [], false⟩])
 (.block 2
  (.loop L3_4)))
 L3_7))))))))⟩
theorem low3 : lowFn Tryd.prog Tryd.f3 = some L3 := by kernel_rfl
theorem call3 {args : List Value} {H : Heap} {S : Ending → Heap → Prop} (hn : args.length ≤ L3.n) (h : awpC Tryd.prog L3.body (retQ L3.results S) (fun ch H => S (.panicked ch) H) (env0 args) H) : ACalls Tryd.prog 3 args.toArray H S := acalls mixed Tryd.func3 low3 hn h
/-- satchel/satchellaw18.QuotaAlone -/
def L4_0 : LCode :=
 (.seq
 (.reg [⟨0, .q .mv, [.tmp 7], (some 73), none, [], false⟩,
   ⟨1, .e (.call 11), [.tmp 73], (some 74), none, [], false⟩,
   ⟨2, .e (.new #[(.int .i64 0), (.int .i64 0), (.int .i64 0)] 23), [], (some 14), none, [], false⟩,
   ⟨3, .e (.st 3), [.tmp 14, .tmp 74], none, none, [], false⟩])
 (.seq
 (.reg [⟨0, .q .mv, [.tmp 7], (some 75), none, [], false⟩,
   ⟨1, .q (.ldn 12), [.tmp 12], (some 76), none, [], false⟩,
   ⟨2, .e (.call 10), [.tmp 75, .tmp 76], (some 77), none, [], false⟩,
   ⟨3, .q .mv, [.tmp 77], (some 15), none, [], false⟩])
 (.seq
 (.seq
 (.reg [⟨0, .q .mv, [.tmp 9], (some 78), none, [], false⟩,
   ⟨1, .q (.ldn 12), [.tmp 13], (some 79), none, [], false⟩,
   ⟨3, .q .mv, [.tmp 15], (some 81), none, [], false⟩,
   ⟨2, .e (.call 10), [.tmp 78, .tmp 79], (some 80), none, [], false⟩,
   ⟨4, .q (.bin .neq), [.tmp 80, .tmp 81], (some 82), none, [], false⟩,
   ⟨5, .q .mv, [.tmp 82], (some 83), none, [], false⟩,
   ⟨6, .q .mv, [.tmp 7], (some 84), (some (83, false)), [], false⟩,
   ⟨8, .q .mv, [.tmp 9], (some 86), (some (83, false)), [], false⟩,
   ⟨7, .e (.call 11), [.tmp 84], (some 85), (some (83, false)), [], false⟩,
   ⟨9, .e (.call 11), [.tmp 86], (some 87), (some (83, false)), [], false⟩,
   ⟨10, .q (.eqa [(0, .i), (1, .i), (2, .i)] true), [.tmp 85, .tmp 87], (some 88), (some (83, false)), [], false⟩,
   ⟨11, .q .pick, [.tmp 83, .const (.bool true), .tmp 88], (some 89), none, [], false⟩,
   ⟨12, .q .mv, [.tmp 89], (some 90), none, [], false⟩,
   ⟨13, .q .mv, [.tmp 15], (some 91), (some (90, false)), [], false⟩,
   ⟨14, .q (.bin .neq), [.tmp 91, .const (.int .i64 0)], (some 92), (some (90, false)), [], false⟩,
   ⟨15, .q .mv, [.tmp 92], (some 93), (some (90, false)), [], false⟩,
   ⟨16, .q .mv, [.tmp 7], (some 94), (some (93, true)), [], false⟩,
   ⟨18, .q (.ldn 3), [.tmp 14], (some 96), (some (93, true)), [], true⟩,
   ⟨17, .e (.call 11), [.tmp 94], (some 95), (some (93, true)), [18], false⟩,
   ⟨19, .q (.eqa [(0, .i), (1, .i), (2, .i)] true), [.tmp 95, .tmp 96], (some 97), (some (93, true)), [], false⟩,
   ⟨20, .q .pick, [.tmp 93, .tmp 97, .const (.bool false)], (some 98), (some (90, false)), [], false⟩,
   ⟨21, .q .pick, [.tmp 90, .const (.bool true), .tmp 98], (some 99), none, [], false⟩])
 (.cond (.tmp 99)
  (.seq
  (.reg [⟨0, .q .mv, [.const (.bool false)], (some 6), none, [], false⟩])
  .ret)
  .skip))
 (.seq
 (.reg [⟨0, .q .mv, [.tmp 15], (some 100), none, [], false⟩,
   ⟨1, .q (.bin .eql), [.tmp 100, .const (.int .i64 0)], (some 101), none, [], false⟩,
   ⟨2, .q .mv, [.tmp 101], (some 102), none, [], false⟩,
   ⟨3, .q .mv, [.tmp 7], (some 103), (some (102, true)), [], false⟩,
   ⟨4, .q (.ldn 12), [.tmp 12], (some 104), (some (102, true)), [], false⟩,
   ⟨5, .e (.call 15), [.tmp 103, .tmp 104], (some 105), (some (102, true)), [], false⟩,
   ⟨6, .q (.bin .neq), [.tmp 105, .const (.int .i64 0)], (some 106), (some (102, true)), [], false⟩,
   ⟨7, .q .mv, [.tmp 106], (some 107), (some (102, true)), [], false⟩,
   ⟨8, .q .mv, [.tmp 7], (some 108), (some (107, false)), [], false⟩,
   ⟨10, .q (.ldn 3), [.tmp 14], (some 110), (some (107, false)), [], true⟩,
   ⟨9, .e (.call 11), [.tmp 108], (some 109), (some (107, false)), [10], false⟩,
   ⟨11, .q (.eqa [(0, .i), (1, .i), (2, .i)] true), [.tmp 109, .tmp 110], (some 111), (some (107, false)), [], false⟩,
   ⟨12, .q .pick, [.tmp 107, .const (.bool true), .tmp 111], (some 112), (some (102, true)), [], false⟩,
   ⟨13, .q .mv, [.tmp 112], (some 113), (some (102, true)), [], false⟩,
   ⟨14, .q .mv, [.tmp 7], (some 114), (some (113, false)), [], false⟩,
   ⟨15, .q (.ldn 12), [.tmp 12], (some 115), (some (113, false)), [], false⟩,
   ⟨16, .e (.call 10), [.tmp 114, .tmp 115], (some 116), (some (113, false)), [], false⟩,
   ⟨17, .q (.bin .neq), [.tmp 116, .const (.int .i64 0)], (some 117), (some (113, false)), [], false⟩,
   ⟨18, .q .pick, [.tmp 113, .const (.bool true), .tmp 117], (some 118), (some (102, true)), [], false⟩,
   ⟨19, .q .pick, [.tmp 102, .tmp 118, .const (.bool false)], (some 119), none, [], false⟩])
 (.cond (.tmp 119)
  (.seq
  (.reg [⟨0, .q .mv, [.const (.bool false)], (some 6), none, [], false⟩])
  .ret)
  .skip)))))
def L4_1 : LCode :=
 (.reg [⟨0, .q .mv, [.tmp 11], (some 54), none, [], false⟩,
   ⟨1, .q (.bin .add), [.tmp 54, .const (.int .i64 1)], (some 55), none, [], false⟩,
   ⟨2, .q .mv, [.tmp 55], (some 11), none, [], false⟩])
def L4_2 : LCode :=
 (.seq
 (.seq
 (.reg [⟨0, .q .mv, [.tmp 11], (some 50), none, [], false⟩,
   ⟨1, .q .mv, [.tmp 1], (some 51), none, [], false⟩,
   ⟨2, .q .len, [.tmp 51], (some 52), none, [], false⟩,
   ⟨3, .q (.bin .lss), [.tmp 50, .tmp 52], (some 53), none, [], false⟩])
 (.cond (.tmp 53)
  .skip
  (.exit 0)))
 (.seq
 (.block 1
  (.seq
  (.reg [⟨0, .q .mv, [.tmp 1], (some 56), none, [], false⟩,
    ⟨1, .q .mv, [.tmp 11], (some 57), none, [], false⟩,
    ⟨2, .q (.iad 12), [.tmp 56, .tmp 57], (some 58), none, [], false⟩,
    ⟨3, .q (.ldn 12), [.tmp 58], (some 59), none, [], false⟩,
    ⟨4, .e (.new #[(.string ⟨#[]⟩), (.int .i64 0), (.int .u32 0), (.int .u32 0), (.int .u32 0), (.int .i64 0), (.int .i32 0), (.string ⟨#[]⟩), (.string ⟨#[]⟩), (.string ⟨#[]⟩), (.int .i64 0), (.int .u8 0)] 38), [], (some 12), none, [], false⟩,
    ⟨5, .e (.st 12), [.tmp 12, .tmp 59], none, none, [], false⟩])
  (.seq
  (.reg [⟨0, .q (.ldn 12), [.tmp 5], (some 60), none, [], false⟩,
    ⟨1, .e (.new #[(.string ⟨#[]⟩), (.int .i64 0), (.int .u32 0), (.int .u32 0), (.int .u32 0), (.int .i64 0), (.int .i32 0), (.string ⟨#[]⟩), (.string ⟨#[]⟩), (.string ⟨#[]⟩), (.int .i64 0), (.int .u8 0)] 38), [], (some 13), none, [], false⟩,
    ⟨2, .e (.st 12), [.tmp 13, .tmp 60], none, none, [], false⟩])
  (.seq
  (.reg [⟨0, .q (.fad 0), [.tmp 12], (some 61), none, [], false⟩,
    ⟨1, .q .ld, [.tmp 61], (some 62), none, [], false⟩,
    ⟨2, .q (.fad 1), [.tmp 12], (some 63), none, [], false⟩,
    ⟨3, .q .ld, [.tmp 63], (some 64), none, [], true⟩,
    ⟨4, .q (.fad 0), [.tmp 13], (some 65), none, [], false⟩,
    ⟨5, .e (.st 1), [.tmp 65, .tmp 62], none, none, [3], false⟩,
    ⟨6, .q (.fad 1), [.tmp 13], (some 66), none, [], false⟩,
    ⟨7, .e (.st 1), [.tmp 66, .tmp 64], none, none, [], false⟩])
  (.seq
  (.seq
  (.reg [⟨0, .q (.fad 1), [.tmp 12], (some 67), none, [], false⟩,
    ⟨1, .q .ld, [.tmp 67], (some 68), none, [], false⟩,
    ⟨2, .q (.bin .eql), [.tmp 68, .const (.int .i64 2)], (some 69), none, [], false⟩])
  (.cond (.tmp 69)
   (.reg [⟨0, .q (.fad 10), [.tmp 12], (some 70), none, [], false⟩,
     ⟨1, .q .ld, [.tmp 70], (some 71), none, [], false⟩,
     ⟨2, .q (.fad 10), [.tmp 13], (some 72), none, [], false⟩,
     ⟨3, .e (.st 1), [.tmp 72, .tmp 71], none, none, [], false⟩])
   .skip))
  L4_0)))))
 L4_1))
def L4 : LFn :=
 ⟨125, [.t 6],
 (.seq
 (.reg [⟨0, .e (.box 23), [.tmp 0], (some 3), none, [], false⟩,
   ⟨1, .e (.box 38), [.tmp 2], (some 5), none, [], false⟩,
   ⟨2, .q .mv, [.const (.bool false)], (some 6), none, [], false⟩])
 (.seq
 (.seq
 (.reg [⟨0, .e (.call 7), [], (some 16), none, [], false⟩,
   ⟨1, .q (.un .not), [.tmp 16], (some 17), none, [], false⟩])
 (.cond (.tmp 17)
  (.seq
  (.reg [⟨0, .q .mv, [.const (.bool false)], (some 6), none, [], false⟩])
  .ret)
  .skip))
 (.seq
 (.reg [⟨0, .q (.ldn 3), [.tmp 3], (some 19), none, [], false⟩,
   ⟨1, .e (.call 8), [.tmp 19], (some 20), none, [], false⟩,
   ⟨2, .q .mv, [.tmp 20], (some 18), none, [], false⟩,
   ⟨3, .q (.ext 0), [.tmp 18], (some 21), none, [], false⟩,
   ⟨4, .q (.ext 1), [.tmp 18], (some 22), none, [], false⟩,
   ⟨5, .q .mv, [.tmp 21], (some 7), none, [], false⟩,
   ⟨6, .q .mv, [.tmp 22], (some 8), none, [], false⟩])
 (.seq
 (.reg [⟨0, .q (.ldn 3), [.tmp 3], (some 24), none, [], false⟩,
   ⟨1, .e (.call 8), [.tmp 24], (some 25), none, [], false⟩,
   ⟨2, .q .mv, [.tmp 25], (some 23), none, [], false⟩,
   ⟨3, .q (.ext 0), [.tmp 23], (some 26), none, [], false⟩,
   ⟨4, .q (.ext 1), [.tmp 23], (some 27), none, [], false⟩,
   ⟨5, .q .mv, [.tmp 26], (some 9), none, [], false⟩,
   ⟨6, .q .mv, [.tmp 27], (some 10), none, [], false⟩])
 (.seq
 (.seq
 (.reg [⟨0, .q .mv, [.tmp 8], (some 28), none, [], false⟩,
   ⟨1, .q (.bin .neq), [.tmp 28, .const (.int .i64 0)], (some 29), none, [], false⟩,
   ⟨2, .q .mv, [.tmp 29], (some 30), none, [], false⟩,
   ⟨3, .q .mv, [.tmp 10], (some 31), (some (30, false)), [], false⟩,
   ⟨4, .q (.bin .neq), [.tmp 31, .const (.int .i64 0)], (some 32), (some (30, false)), [], false⟩,
   ⟨5, .q .pick, [.tmp 30, .const (.bool true), .tmp 32], (some 33), none, [], false⟩,
   ⟨6, .q .mv, [.tmp 33], (some 34), none, [], false⟩,
   ⟨7, .q .mv, [.tmp 7], (some 35), (some (34, false)), [], false⟩,
   ⟨8, .q (.eqp false), [.tmp 35, .const (.pointer none)], (some 36), (some (34, false)), [], false⟩,
   ⟨9, .q .pick, [.tmp 34, .const (.bool true), .tmp 36], (some 37), none, [], false⟩,
   ⟨10, .q .mv, [.tmp 37], (some 38), none, [], false⟩,
   ⟨11, .q .mv, [.tmp 9], (some 39), (some (38, false)), [], false⟩,
   ⟨12, .q (.eqp false), [.tmp 39, .const (.pointer none)], (some 40), (some (38, false)), [], false⟩,
   ⟨13, .q .pick, [.tmp 38, .const (.bool true), .tmp 40], (some 41), none, [], false⟩])
 (.cond (.tmp 41)
  (.seq
  (.reg [⟨0, .q .mv, [.tmp 8], (some 42), none, [], false⟩,
    ⟨1, .q .mv, [.tmp 10], (some 43), none, [], false⟩,
    ⟨2, .q (.bin .eql), [.tmp 42, .tmp 43], (some 44), none, [], false⟩,
    ⟨3, .q .mv, [.tmp 44], (some 45), none, [], false⟩,
    ⟨4, .q (.ldn 3), [.tmp 3], (some 46), (some (45, true)), [], false⟩,
    ⟨5, .e (.call 9), [.tmp 46], (some 47), (some (45, true)), [], false⟩,
    ⟨6, .q (.un .not), [.tmp 47], (some 48), (some (45, true)), [], false⟩,
    ⟨7, .q .pick, [.tmp 45, .tmp 48, .const (.bool false)], (some 49), none, [], false⟩,
    ⟨8, .q .mv, [.tmp 49], (some 6), none, [], false⟩])
  .ret)
  .skip))
 (.seq
 (.seq
 (.reg [⟨0, .q .mv, [.const (.int .i64 0)], (some 11), none, [], false⟩])
 (.block 0
  (.loop L4_2)))
 (.seq
 (.reg [⟨0, .q .mv, [.tmp 7], (some 120), none, [], false⟩,
   ⟨1, .e (.call 12), [.tmp 120], (some 121), none, [], false⟩,
   ⟨2, .q .mv, [.tmp 9], (some 122), none, [], false⟩,
   ⟨3, .e (.call 12), [.tmp 122], (some 123), none, [], false⟩,
   ⟨4, .q (.eqa [(0, .i), (1, .i), (2, .i)] false), [.tmp 121, .tmp 123], (some 124), none, [], false⟩,
   ⟨5, .q .mv, [.tmp 124], (some 6), none, [], false⟩])
 .ret)))))))⟩
theorem low4 : lowFn Tryd.prog Tryd.f4 = some L4 := by kernel_rfl
theorem call4 {args : List Value} {H : Heap} {S : Ending → Heap → Prop} (hn : args.length ≤ L4.n) (h : awpC Tryd.prog L4.body (retQ L4.results S) (fun ch H => S (.panicked ch) H) (env0 args) H) : ACalls Tryd.prog 4 args.toArray H S := acalls mixed Tryd.func4 low4 hn h
/-- satchel/satchellaw18.QuotaOrder -/
def L5_0 : LCode :=
 (.seq
 (.seq
 (.reg [⟨0, .q .mv, [.tmp 11], (some 47), none, [], false⟩,
   ⟨1, .q .mv, [.tmp 1], (some 48), none, [], false⟩,
   ⟨2, .q .len, [.tmp 48], (some 49), none, [], false⟩,
   ⟨3, .q (.bin .lss), [.tmp 47, .tmp 49], (some 50), none, [], false⟩])
 (.cond (.tmp 50)
  .skip
  (.exit 0)))
 (.seq
 (.block 1
  (.seq
  (.reg [⟨0, .q .mv, [.tmp 7], (some 53), none, [], false⟩,
    ⟨1, .q .mv, [.tmp 1], (some 54), none, [], false⟩,
    ⟨2, .q .mv, [.tmp 11], (some 55), none, [], false⟩,
    ⟨3, .q (.iad 12), [.tmp 54, .tmp 55], (some 56), none, [], false⟩,
    ⟨4, .q (.ldn 12), [.tmp 56], (some 57), none, [], false⟩,
    ⟨5, .e (.call 10), [.tmp 53, .tmp 57], (some 58), none, [], false⟩,
    ⟨6, .q (.bin .neq), [.tmp 58, .const (.int .i64 0)], (some 59), none, [], false⟩])
  (.cond (.tmp 59)
   (.seq
   (.reg [⟨0, .q .mv, [.const (.bool true)], (some 6), none, [], false⟩])
   .ret)
   .skip)))
 (.reg [⟨0, .q .mv, [.tmp 11], (some 51), none, [], false⟩,
   ⟨1, .q (.bin .add), [.tmp 51, .const (.int .i64 1)], (some 52), none, [], false⟩,
   ⟨2, .q .mv, [.tmp 52], (some 11), none, [], false⟩])))
def L5_1 : LCode :=
 (.seq
 (.seq
 (.reg [⟨0, .q .mv, [.tmp 12], (some 68), none, [], false⟩,
   ⟨1, .q (.bin .geq), [.tmp 68, .const (.int .i64 0)], (some 69), none, [], false⟩])
 (.cond (.tmp 69)
  .skip
  (.exit 2)))
 (.seq
 (.block 3
  (.seq
  (.reg [⟨0, .q .mv, [.tmp 9], (some 72), none, [], false⟩,
    ⟨1, .q .mv, [.tmp 1], (some 73), none, [], false⟩,
    ⟨2, .q .mv, [.tmp 12], (some 74), none, [], false⟩,
    ⟨3, .q .mv, [.tmp 2], (some 75), none, [], false⟩,
    ⟨4, .q .mv, [.tmp 1], (some 76), none, [], false⟩,
    ⟨5, .q .len, [.tmp 76], (some 77), none, [], false⟩,
    ⟨6, .q (.bin .rem), [.tmp 75, .tmp 77], (some 78), none, [], false⟩,
    ⟨7, .q (.bin .add), [.tmp 74, .tmp 78], (some 79), none, [], false⟩,
    ⟨8, .q .mv, [.tmp 1], (some 80), none, [], false⟩,
    ⟨9, .q .len, [.tmp 80], (some 81), none, [], false⟩,
    ⟨10, .q (.bin .rem), [.tmp 79, .tmp 81], (some 82), none, [], false⟩,
    ⟨11, .q (.iad 12), [.tmp 73, .tmp 82], (some 83), none, [], false⟩,
    ⟨12, .q (.ldn 12), [.tmp 83], (some 84), none, [], false⟩,
    ⟨13, .e (.call 10), [.tmp 72, .tmp 84], (some 85), none, [], false⟩,
    ⟨14, .q (.bin .neq), [.tmp 85, .const (.int .i64 0)], (some 86), none, [], false⟩])
  (.cond (.tmp 86)
   (.seq
   (.reg [⟨0, .q .mv, [.const (.bool false)], (some 6), none, [], false⟩])
   .ret)
   .skip)))
 (.reg [⟨0, .q .mv, [.tmp 12], (some 70), none, [], false⟩,
   ⟨1, .q (.bin .sub), [.tmp 70, .const (.int .i64 1)], (some 71), none, [], false⟩,
   ⟨2, .q .mv, [.tmp 71], (some 12), none, [], false⟩])))
def L5_2 : LCode :=
 (.seq
 (.seq
 (.reg [⟨0, .q .mv, [.tmp 1], (some 65), none, [], false⟩,
   ⟨1, .q .len, [.tmp 65], (some 66), none, [], false⟩,
   ⟨2, .q (.bin .sub), [.tmp 66, .const (.int .i64 1)], (some 67), none, [], false⟩,
   ⟨3, .q .mv, [.tmp 67], (some 12), none, [], false⟩])
 (.block 2
  (.loop L5_1)))
 (.seq
 (.reg [⟨0, .q .mv, [.tmp 7], (some 87), none, [], false⟩,
   ⟨1, .e (.call 11), [.tmp 87], (some 88), none, [], false⟩,
   ⟨2, .q .mv, [.tmp 9], (some 89), none, [], false⟩,
   ⟨3, .e (.call 11), [.tmp 89], (some 90), none, [], false⟩,
   ⟨4, .q (.eqa [(0, .i), (1, .i), (2, .i)] false), [.tmp 88, .tmp 90], (some 91), none, [], false⟩,
   ⟨5, .q .mv, [.tmp 91], (some 92), none, [], false⟩,
   ⟨6, .q .mv, [.tmp 7], (some 93), (some (92, true)), [], false⟩,
   ⟨7, .e (.call 12), [.tmp 93], (some 94), (some (92, true)), [], false⟩,
   ⟨8, .q .mv, [.tmp 9], (some 95), (some (92, true)), [], false⟩,
   ⟨9, .e (.call 12), [.tmp 95], (some 96), (some (92, true)), [], false⟩,
   ⟨10, .q (.eqa [(0, .i), (1, .i), (2, .i)] false), [.tmp 94, .tmp 96], (some 97), (some (92, true)), [], false⟩,
   ⟨11, .q .pick, [.tmp 92, .tmp 97, .const (.bool false)], (some 98), none, [], false⟩,
   ⟨12, .q .mv, [.tmp 98], (some 6), none, [], false⟩])
 .ret))
def L5 : LFn :=
 ⟨99, [.t 6],
 (.seq
 (.reg [⟨0, .e (.box 23), [.tmp 0], (some 3), none, [], false⟩,
   ⟨1, .q .mv, [.const (.bool false)], (some 6), none, [], false⟩])
 (.seq
 (.seq
 (.reg [⟨0, .e (.call 7), [], (some 13), none, [], false⟩,
   ⟨1, .q (.un .not), [.tmp 13], (some 14), none, [], false⟩])
 (.cond (.tmp 14)
  (.seq
  (.reg [⟨0, .q .mv, [.const (.bool false)], (some 6), none, [], false⟩])
  .ret)
  .skip))
 (.seq
 (.reg [⟨0, .q (.ldn 3), [.tmp 3], (some 16), none, [], false⟩,
   ⟨1, .e (.call 8), [.tmp 16], (some 17), none, [], false⟩,
   ⟨2, .q .mv, [.tmp 17], (some 15), none, [], false⟩,
   ⟨3, .q (.ext 0), [.tmp 15], (some 18), none, [], false⟩,
   ⟨4, .q (.ext 1), [.tmp 15], (some 19), none, [], false⟩,
   ⟨5, .q .mv, [.tmp 18], (some 7), none, [], false⟩,
   ⟨6, .q .mv, [.tmp 19], (some 8), none, [], false⟩])
 (.seq
 (.reg [⟨0, .q (.ldn 3), [.tmp 3], (some 21), none, [], false⟩,
   ⟨1, .e (.call 8), [.tmp 21], (some 22), none, [], false⟩,
   ⟨2, .q .mv, [.tmp 22], (some 20), none, [], false⟩,
   ⟨3, .q (.ext 0), [.tmp 20], (some 23), none, [], false⟩,
   ⟨4, .q (.ext 1), [.tmp 20], (some 24), none, [], false⟩,
   ⟨5, .q .mv, [.tmp 23], (some 9), none, [], false⟩,
   ⟨6, .q .mv, [.tmp 24], (some 10), none, [], false⟩])
 (.seq
 (.seq
 (.reg [⟨0, .q .mv, [.tmp 8], (some 25), none, [], false⟩,
   ⟨1, .q (.bin .neq), [.tmp 25, .const (.int .i64 0)], (some 26), none, [], false⟩,
   ⟨2, .q .mv, [.tmp 26], (some 27), none, [], false⟩,
   ⟨3, .q .mv, [.tmp 10], (some 28), (some (27, false)), [], false⟩,
   ⟨4, .q (.bin .neq), [.tmp 28, .const (.int .i64 0)], (some 29), (some (27, false)), [], false⟩,
   ⟨5, .q .pick, [.tmp 27, .const (.bool true), .tmp 29], (some 30), none, [], false⟩,
   ⟨6, .q .mv, [.tmp 30], (some 31), none, [], false⟩,
   ⟨7, .q .mv, [.tmp 7], (some 32), (some (31, false)), [], false⟩,
   ⟨8, .q (.eqp false), [.tmp 32, .const (.pointer none)], (some 33), (some (31, false)), [], false⟩,
   ⟨9, .q .pick, [.tmp 31, .const (.bool true), .tmp 33], (some 34), none, [], false⟩,
   ⟨10, .q .mv, [.tmp 34], (some 35), none, [], false⟩,
   ⟨11, .q .mv, [.tmp 9], (some 36), (some (35, false)), [], false⟩,
   ⟨12, .q (.eqp false), [.tmp 36, .const (.pointer none)], (some 37), (some (35, false)), [], false⟩,
   ⟨13, .q .pick, [.tmp 35, .const (.bool true), .tmp 37], (some 38), none, [], false⟩,
   ⟨14, .q .mv, [.tmp 38], (some 39), none, [], false⟩,
   ⟨15, .q .mv, [.tmp 1], (some 40), (some (39, false)), [], false⟩,
   ⟨16, .q .len, [.tmp 40], (some 41), (some (39, false)), [], false⟩,
   ⟨17, .q (.bin .eql), [.tmp 41, .const (.int .i64 0)], (some 42), (some (39, false)), [], false⟩,
   ⟨18, .q .pick, [.tmp 39, .const (.bool true), .tmp 42], (some 43), none, [], false⟩])
 (.cond (.tmp 43)
  (.seq
  (.reg [⟨0, .q .mv, [.tmp 8], (some 44), none, [], false⟩,
    ⟨1, .q .mv, [.tmp 10], (some 45), none, [], false⟩,
    ⟨2, .q (.bin .eql), [.tmp 44, .tmp 45], (some 46), none, [], false⟩,
    ⟨3, .q .mv, [.tmp 46], (some 6), none, [], false⟩])
  .ret)
  .skip))
 (.seq
 (.seq
 (.reg [⟨0, .q .mv, [.const (.int .i64 0)], (some 11), none, [], false⟩])
 (.block 0
  (.loop L5_0)))
 (.seq
 (.seq
 (.reg [⟨0, .q .mv, [.tmp 2], (some 60), none, [], false⟩,
   ⟨1, .q (.bin .lss), [.tmp 60, .const (.int .i64 0)], (some 61), none, [], false⟩])
 (.cond (.tmp 61)
  (.reg [⟨0, .q .mv, [.tmp 2], (some 62), none, [], false⟩,
    ⟨1, .q (.bin .add), [.tmp 62, .const (.int .i64 1)], (some 63), none, [], false⟩,
    ⟨2, .q (.un .neg), [.tmp 63], (some 64), none, [], false⟩,
    ⟨3, .q .mv, [.tmp 64], (some 2), none, [], false⟩])
  .skip))
 L5_2)))))))⟩
theorem low5 : lowFn Tryd.prog Tryd.f5 = some L5 := by kernel_rfl
theorem call5 {args : List Value} {H : Heap} {S : Ending → Heap → Prop} (hn : args.length ≤ L5.n) (h : awpC Tryd.prog L5.body (retQ L5.results S) (fun ch H => S (.panicked ch) H) (env0 args) H) : ACalls Tryd.prog 5 args.toArray H S := acalls mixed Tryd.func5 low5 hn h
end Go.Proofs.YtmgpfdfbcnlocaaDoor.Low
