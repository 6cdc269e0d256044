/-
  Functions in short (out of the program's form in Lean, by the kernel).
-/
import Derived.Test.YthflafgijfbpnaaSepCode
import Derived.Test.YthflafgijfbpnaaProg
namespace Go.Proofs.Ythflafgijfbpnaa.Low
open Go Go.Proofs.Ythflafgijfbpnaa.Sep
theorem mixed : Try.prog.follows .mixedOrders = true := by kernel_rfl
/-- satchel/satchellaw15.SparseMaps -/
def L4 : LFn :=
 ⟨164, [.t 2],
 (.seq
 (.reg [⟨0, .e (.box 29), [.tmp 0], (some 1), none, [], false⟩,
   ⟨1, .q .mv, [.const (.bool false)], (some 2), none, [], false⟩])
 (.seq
 (.reg [⟨0, .q (.fad 0), [.tmp 1], (some 22), none, [], false⟩,
   ⟨1, .q .ld, [.tmp 22], (some 23), none, [], false⟩,
   ⟨2, .q (.fad 1), [.tmp 1], (some 24), none, [], false⟩,
   ⟨3, .q .ld, [.tmp 24], (some 25), none, [], false⟩,
   ⟨4, .q (.fad 2), [.tmp 1], (some 26), none, [], false⟩,
   ⟨5, .q .ld, [.tmp 26], (some 27), none, [], false⟩,
   ⟨6, .q (.fad 3), [.tmp 1], (some 28), none, [], false⟩,
   ⟨7, .q .ld, [.tmp 28], (some 29), none, [], false⟩,
   ⟨8, .q .mv, [.tmp 23], (some 3), none, [], false⟩,
   ⟨9, .q .mv, [.tmp 25], (some 4), none, [], false⟩,
   ⟨10, .q .mv, [.tmp 27], (some 5), none, [], false⟩,
   ⟨11, .q .mv, [.tmp 29], (some 6), none, [], false⟩])
 (.seq
 (.reg [⟨0, .q .mv, [.tmp 3], (some 31), none, [], false⟩,
   ⟨1, .e (.call 7), [.tmp 31], (some 32), none, [], false⟩,
   ⟨2, .q .mv, [.tmp 32], (some 30), none, [], false⟩,
   ⟨3, .q (.ext 0), [.tmp 30], (some 33), none, [], false⟩,
   ⟨4, .q (.ext 1), [.tmp 30], (some 34), none, [], false⟩,
   ⟨5, .q .mv, [.tmp 33], (some 7), none, [], false⟩,
   ⟨6, .q .mv, [.tmp 34], (some 8), none, [], false⟩])
 (.seq
 (.reg [⟨0, .e (.lits 26 #[] 0 []), [], (some 35), none, [], false⟩,
   ⟨1, .q .mv, [.tmp 4], (some 36), none, [], false⟩,
   ⟨2, .e (.app 26 2 16 #[(.int .i64 0), (.int .i64 0)]), [.tmp 35, .tmp 36], (some 37), none, [], false⟩,
   ⟨3, .q (.build #[(.int .i64 0), (.int .i64 0)] [(0, 1), (1, 1)]), [.const (.int .i64 7), .const (.int .i64 7)], (some 38), none, [], false⟩,
   ⟨4, .e (.lits 26 #[(.int .i64 0), (.int .i64 0)] 1 [(0, 2)]), [.tmp 38], (some 39), none, [], false⟩,
   ⟨5, .e (.app 26 2 16 #[(.int .i64 0), (.int .i64 0)]), [.tmp 37, .tmp 39], (some 40), none, [], false⟩,
   ⟨6, .q .mv, [.tmp 40], (some 9), none, [], false⟩])
 (.seq
 (.reg [⟨0, .q .mv, [.tmp 9], (some 41), none, [], false⟩,
   ⟨1, .q .mv, [.tmp 4], (some 42), none, [], false⟩,
   ⟨2, .q .len, [.tmp 42], (some 43), none, [], false⟩,
   ⟨3, .q (.slc 2 false true false), [.tmp 41, .tmp 43], (some 44), none, [], false⟩,
   ⟨4, .q .mv, [.tmp 44], (some 10), none, [], false⟩])
 (.seq
 (.reg [⟨0, .q .mv, [.tmp 7], (some 45), none, [], false⟩,
   ⟨1, .q .mv, [.tmp 6], (some 46), none, [], false⟩,
   ⟨2, .e (.call 6), [.tmp 45, .tmp 46], (some 47), none, [], false⟩,
   ⟨3, .q .mv, [.tmp 7], (some 48), none, [], false⟩,
   ⟨4, .q .mv, [.tmp 6], (some 49), none, [], false⟩,
   ⟨5, .e (.call 6), [.tmp 48, .tmp 49], (some 50), none, [], false⟩,
   ⟨6, .q .mv, [.tmp 3], (some 51), none, [], false⟩,
   ⟨7, .q .mv, [.tmp 6], (some 52), none, [], false⟩,
   ⟨8, .e (.call 8), [.tmp 51, .tmp 52], (some 53), none, [], false⟩,
   ⟨9, .q .mv, [.tmp 47], (some 11), none, [], false⟩,
   ⟨10, .q .mv, [.tmp 50], (some 12), none, [], false⟩,
   ⟨11, .q .mv, [.tmp 53], (some 13), none, [], false⟩])
 (.seq
 (.reg [⟨0, .q .mv, [.tmp 7], (some 55), none, [], false⟩,
   ⟨1, .q .mv, [.tmp 10], (some 56), none, [], false⟩,
   ⟨2, .e (.call 9), [.tmp 55, .tmp 56], (some 57), none, [], false⟩,
   ⟨3, .q .mv, [.tmp 57], (some 54), none, [], false⟩,
   ⟨4, .q (.ext 0), [.tmp 54], (some 58), none, [], false⟩,
   ⟨5, .q (.ext 1), [.tmp 54], (some 59), none, [], false⟩,
   ⟨6, .q .mv, [.tmp 58], (some 14), none, [], false⟩,
   ⟨7, .q .mv, [.tmp 59], (some 15), none, [], false⟩])
 (.seq
 (.reg [⟨0, .q .mv, [.tmp 3], (some 61), none, [], false⟩,
   ⟨1, .q .mv, [.tmp 4], (some 62), none, [], false⟩,
   ⟨2, .e (.call 10), [.tmp 61, .tmp 62], (some 63), none, [], false⟩,
   ⟨3, .q .mv, [.tmp 63], (some 60), none, [], false⟩,
   ⟨4, .q (.ext 0), [.tmp 60], (some 64), none, [], false⟩,
   ⟨5, .q (.ext 1), [.tmp 60], (some 65), none, [], false⟩,
   ⟨6, .q .mv, [.tmp 64], (some 16), none, [], false⟩,
   ⟨7, .q .mv, [.tmp 65], (some 17), none, [], false⟩])
 (.seq
 (.reg [⟨0, .q .mv, [.tmp 7], (some 67), none, [], false⟩,
   ⟨1, .q .mv, [.tmp 10], (some 68), none, [], false⟩,
   ⟨2, .q .mv, [.tmp 5], (some 69), none, [], false⟩,
   ⟨3, .e (.call 11), [.tmp 67, .tmp 68, .tmp 69], (some 70), none, [], false⟩,
   ⟨4, .q .mv, [.tmp 70], (some 66), none, [], false⟩,
   ⟨5, .q (.ext 0), [.tmp 66], (some 71), none, [], false⟩,
   ⟨6, .q (.ext 1), [.tmp 66], (some 72), none, [], false⟩,
   ⟨7, .q .mv, [.tmp 71], (some 18), none, [], false⟩,
   ⟨8, .q .mv, [.tmp 72], (some 19), none, [], false⟩])
 (.seq
 (.reg [⟨0, .q .mv, [.tmp 3], (some 74), none, [], false⟩,
   ⟨1, .q .mv, [.tmp 4], (some 75), none, [], false⟩,
   ⟨2, .q .mv, [.tmp 5], (some 76), none, [], false⟩,
   ⟨3, .e (.call 12), [.tmp 74, .tmp 75, .tmp 76], (some 77), none, [], false⟩,
   ⟨4, .q .mv, [.tmp 77], (some 73), none, [], false⟩,
   ⟨5, .q (.ext 0), [.tmp 73], (some 78), none, [], false⟩,
   ⟨6, .q (.ext 1), [.tmp 73], (some 79), none, [], false⟩,
   ⟨7, .q .mv, [.tmp 78], (some 20), none, [], false⟩,
   ⟨8, .q .mv, [.tmp 79], (some 21), none, [], false⟩])
 (.seq
 (.seq
 (.reg [⟨0, .q .mv, [.tmp 10], (some 80), none, [], false⟩,
   ⟨1, .q .mv, [.tmp 5], (some 81), none, [], false⟩,
   ⟨2, .e (.call 13), [.tmp 80, .tmp 81], (some 82), none, [], false⟩,
   ⟨3, .q .mv, [.tmp 4], (some 83), none, [], false⟩,
   ⟨4, .q .mv, [.tmp 5], (some 84), none, [], false⟩,
   ⟨5, .e (.call 14), [.tmp 83, .tmp 84], (some 85), none, [], false⟩,
   ⟨6, .q (.eqb true), [.tmp 82, .tmp 85], (some 86), none, [], false⟩,
   ⟨7, .q .mv, [.tmp 86], (some 87), none, [], false⟩,
   ⟨8, .q .mv, [.tmp 11], (some 88), (some (87, false)), [], false⟩,
   ⟨9, .q .mv, [.tmp 13], (some 89), (some (87, false)), [], false⟩,
   ⟨10, .e (.call 15), [.tmp 88, .tmp 89], (some 90), (some (87, false)), [], false⟩,
   ⟨11, .q (.un .not), [.tmp 90], (some 91), (some (87, false)), [], false⟩,
   ⟨12, .q .pick, [.tmp 87, .const (.bool true), .tmp 91], (some 92), none, [], false⟩,
   ⟨13, .q .mv, [.tmp 92], (some 93), none, [], false⟩,
   ⟨14, .q .mv, [.tmp 12], (some 94), (some (93, false)), [], false⟩,
   ⟨15, .q .mv, [.tmp 13], (some 95), (some (93, false)), [], false⟩,
   ⟨16, .e (.call 15), [.tmp 94, .tmp 95], (some 96), (some (93, false)), [], false⟩,
   ⟨17, .q (.un .not), [.tmp 96], (some 97), (some (93, false)), [], false⟩,
   ⟨18, .q .pick, [.tmp 93, .const (.bool true), .tmp 97], (some 98), none, [], false⟩,
   ⟨19, .q .mv, [.tmp 98], (some 99), none, [], false⟩,
   ⟨20, .q .mv, [.tmp 15], (some 100), (some (99, false)), [], false⟩,
   ⟨21, .q .mv, [.tmp 17], (some 101), (some (99, false)), [], false⟩,
   ⟨22, .q (.bin .neq), [.tmp 100, .tmp 101], (some 102), (some (99, false)), [], false⟩,
   ⟨23, .q .pick, [.tmp 99, .const (.bool true), .tmp 102], (some 103), none, [], false⟩,
   ⟨24, .q .mv, [.tmp 103], (some 104), none, [], false⟩,
   ⟨25, .q .mv, [.tmp 14], (some 105), (some (104, false)), [], false⟩,
   ⟨26, .q .mv, [.tmp 16], (some 106), (some (104, false)), [], false⟩,
   ⟨27, .e (.call 16), [.tmp 105, .tmp 106], (some 107), (some (104, false)), [], false⟩,
   ⟨28, .q (.un .not), [.tmp 107], (some 108), (some (104, false)), [], false⟩,
   ⟨29, .q .pick, [.tmp 104, .const (.bool true), .tmp 108], (some 109), none, [], false⟩,
   ⟨30, .q .mv, [.tmp 109], (some 110), none, [], false⟩,
   ⟨31, .q .mv, [.tmp 19], (some 111), (some (110, false)), [], false⟩,
   ⟨32, .q .mv, [.tmp 21], (some 112), (some (110, false)), [], false⟩,
   ⟨33, .q (.bin .neq), [.tmp 111, .tmp 112], (some 113), (some (110, false)), [], false⟩,
   ⟨34, .q .pick, [.tmp 110, .const (.bool true), .tmp 113], (some 114), none, [], false⟩,
   ⟨35, .q .mv, [.tmp 114], (some 115), none, [], false⟩,
   ⟨36, .q .mv, [.tmp 18], (some 116), (some (115, false)), [], false⟩,
   ⟨37, .q .mv, [.tmp 20], (some 117), (some (115, false)), [], false⟩,
   ⟨38, .e (.call 16), [.tmp 116, .tmp 117], (some 118), (some (115, false)), [], false⟩,
   ⟨39, .q (.un .not), [.tmp 118], (some 119), (some (115, false)), [], false⟩,
   ⟨40, .q .pick, [.tmp 115, .const (.bool true), .tmp 119], (some 120), none, [], false⟩,
   ⟨41, .q .mv, [.tmp 120], (some 121), none, [], false⟩,
   ⟨42, .q .mv, [.tmp 8], (some 122), (some (121, false)), [], false⟩,
   ⟨43, .q .mv, [.tmp 3], (some 123), (some (121, false)), [], false⟩,
   ⟨44, .e (.call 17), [.tmp 122, .tmp 123], (some 124), (some (121, false)), [], false⟩,
   ⟨45, .q (.un .not), [.tmp 124], (some 125), (some (121, false)), [], false⟩,
   ⟨46, .q .pick, [.tmp 121, .const (.bool true), .tmp 125], (some 126), none, [], false⟩,
   ⟨47, .q .mv, [.tmp 126], (some 127), none, [], false⟩,
   ⟨48, .q .mv, [.tmp 10], (some 128), (some (127, false)), [], false⟩,
   ⟨49, .q .mv, [.tmp 4], (some 129), (some (127, false)), [], false⟩,
   ⟨50, .e (.call 15), [.tmp 128, .tmp 129], (some 130), (some (127, false)), [], false⟩,
   ⟨51, .q (.un .not), [.tmp 130], (some 131), (some (127, false)), [], false⟩,
   ⟨52, .q .pick, [.tmp 127, .const (.bool true), .tmp 131], (some 132), none, [], false⟩])
 (.cond (.tmp 132)
  (.seq
  (.reg [⟨0, .q .mv, [.const (.bool false)], (some 2), none, [], false⟩])
  .ret)
  .skip))
 (.seq
 (.reg [⟨0, .q .mv, [.tmp 11], (some 133), none, [], false⟩,
   ⟨1, .e (.call 18), [.tmp 133], (some 134), none, [], false⟩])
 (.seq
 (.reg [⟨0, .q .mv, [.tmp 14], (some 135), none, [], false⟩,
   ⟨1, .e (.call 19), [.tmp 135, .const (.int .u8 3)], (some 136), none, [], false⟩])
 (.seq
 (.reg [⟨0, .q .mv, [.tmp 18], (some 137), none, [], false⟩,
   ⟨1, .e (.call 19), [.tmp 137, .const (.int .u8 4)], (some 138), none, [], false⟩])
 (.seq
 (.reg [⟨0, .q .mv, [.tmp 12], (some 139), none, [], false⟩,
   ⟨1, .q .mv, [.tmp 13], (some 140), none, [], false⟩,
   ⟨2, .e (.call 15), [.tmp 139, .tmp 140], (some 141), none, [], false⟩,
   ⟨3, .q .mv, [.tmp 141], (some 142), none, [], false⟩,
   ⟨4, .q .mv, [.tmp 8], (some 143), (some (142, true)), [], false⟩,
   ⟨5, .q .mv, [.tmp 3], (some 144), (some (142, true)), [], false⟩,
   ⟨6, .e (.call 17), [.tmp 143, .tmp 144], (some 145), (some (142, true)), [], false⟩,
   ⟨7, .q .pick, [.tmp 142, .tmp 145, .const (.bool false)], (some 146), none, [], false⟩,
   ⟨8, .q .mv, [.tmp 146], (some 147), none, [], false⟩,
   ⟨9, .q .mv, [.tmp 10], (some 148), (some (147, true)), [], false⟩,
   ⟨10, .q .mv, [.tmp 4], (some 149), (some (147, true)), [], false⟩,
   ⟨11, .e (.call 15), [.tmp 148, .tmp 149], (some 150), (some (147, true)), [], false⟩,
   ⟨12, .q .pick, [.tmp 147, .tmp 150, .const (.bool false)], (some 151), none, [], false⟩,
   ⟨13, .q .mv, [.tmp 151], (some 152), none, [], false⟩,
   ⟨14, .q .mv, [.tmp 9], (some 153), (some (152, true)), [], false⟩,
   ⟨15, .q .mv, [.tmp 4], (some 154), (some (152, true)), [], false⟩,
   ⟨16, .q .len, [.tmp 154], (some 155), (some (152, true)), [], false⟩,
   ⟨17, .q (.iad 2), [.tmp 153, .tmp 155], (some 156), (some (152, true)), [], false⟩,
   ⟨18, .q (.fad 0), [.tmp 156], (some 157), (some (152, true)), [], false⟩,
   ⟨19, .q .ld, [.tmp 157], (some 158), (some (152, true)), [], false⟩,
   ⟨20, .q (.bin .eql), [.tmp 158, .const (.int .i64 7)], (some 159), (some (152, true)), [], false⟩,
   ⟨21, .q .pick, [.tmp 152, .tmp 159, .const (.bool false)], (some 160), none, [], false⟩,
   ⟨22, .q .mv, [.tmp 160], (some 161), none, [], false⟩,
   ⟨23, .e (.call 13), [.const (.slice none 0 0), .const (.int .i64 0)], (some 162), (some (161, true)), [], false⟩,
   ⟨24, .q .pick, [.tmp 161, .tmp 162, .const (.bool false)], (some 163), none, [], false⟩,
   ⟨25, .q .mv, [.tmp 163], (some 2), none, [], false⟩])
 .ret)))))))))))))))⟩
theorem low4 : lowFn Try.prog Try.f4 = some L4 := by kernel_rfl
theorem call4 {args : List Value} {H : Heap} {S : Ending → Heap → Prop} (hn : args.length ≤ L4.n) (h : awpC Try.prog L4.body (retQ L4.results S) (fun ch H => S (.panicked ch) H) (env0 args) H) : ACalls Try.prog 4 args.toArray H S := acalls mixed Try.func4 low4 hn h
/-- satchel/satchellaw15.SparseRound -/
def L5_0 : LCode :=
 (.seq
 (.reg [⟨0, .q .mv, [.tmp 12], (some 121), none, [], false⟩,
   ⟨1, .q .mv, [.tmp 1], (some 122), none, [], false⟩,
   ⟨2, .q (.bin .geq), [.tmp 121, .tmp 122], (some 123), none, [], false⟩])
 (.cond (.tmp 123)
  (.seq
  (.reg [⟨0, .q .mv, [.const (.bool false)], (some 4), none, [], false⟩])
  .ret)
  .skip))
def L5_1 : LCode :=
 (.reg [⟨0, .q .mv, [.tmp 13], (some 112), none, [], false⟩,
   ⟨1, .q (.bin .add), [.tmp 112, .const (.int .i64 1)], (some 113), none, [], false⟩,
   ⟨2, .q .mv, [.tmp 113], (some 13), none, [], false⟩])
def L5_2 : LCode :=
 (.seq
 (.seq
 (.reg [⟨0, .q .mv, [.tmp 13], (some 105), none, [], false⟩,
   ⟨1, .q .mv, [.tmp 5], (some 106), none, [], false⟩,
   ⟨2, .q .mv, [.tmp 11], (some 107), none, [], false⟩,
   ⟨3, .q (.iad 2), [.tmp 106, .tmp 107], (some 108), none, [], false⟩,
   ⟨4, .q (.fad 1), [.tmp 108], (some 109), none, [], false⟩,
   ⟨5, .q .ld, [.tmp 109], (some 110), none, [], false⟩,
   ⟨6, .q (.bin .lss), [.tmp 105, .tmp 110], (some 111), none, [], false⟩])
 (.cond (.tmp 111)
  .skip
  (.exit 2)))
 (.seq
 (.block 3
  (.seq
  (.seq
  (.reg [⟨0, .q .mv, [.tmp 0], (some 114), none, [], false⟩,
    ⟨1, .q .mv, [.tmp 13], (some 115), none, [], false⟩,
    ⟨2, .q (.iad 1), [.tmp 114, .tmp 115], (some 116), none, [], false⟩,
    ⟨3, .q .ld, [.tmp 116], (some 117), none, [], false⟩,
    ⟨4, .q (.bin .eql), [.tmp 117, .const (.int .u8 0)], (some 118), none, [], false⟩])
  (.cond (.tmp 118)
   (.reg [⟨0, .q .mv, [.tmp 12], (some 119), none, [], false⟩,
     ⟨1, .q (.bin .add), [.tmp 119, .const (.int .i64 1)], (some 120), none, [], false⟩,
     ⟨2, .q .mv, [.tmp 120], (some 12), none, [], false⟩])
   (.reg [⟨0, .q .mv, [.const (.int .i64 0)], (some 12), none, [], false⟩])))
  L5_0))
 L5_1))
def L5_3 : LCode :=
 (.seq
 (.seq
 (.reg [⟨0, .q .mv, [.tmp 11], (some 65), none, [], false⟩,
   ⟨1, .q .mv, [.tmp 5], (some 66), none, [], false⟩,
   ⟨2, .q .len, [.tmp 66], (some 67), none, [], false⟩,
   ⟨3, .q (.bin .lss), [.tmp 65, .tmp 67], (some 68), none, [], false⟩])
 (.cond (.tmp 68)
  .skip
  (.exit 0)))
 (.seq
 (.block 1
  (.seq
  (.seq
  (.reg [⟨0, .q .mv, [.tmp 5], (some 71), none, [], false⟩,
    ⟨1, .q .mv, [.tmp 11], (some 72), none, [], false⟩,
    ⟨2, .q (.iad 2), [.tmp 71, .tmp 72], (some 73), none, [], false⟩,
    ⟨3, .q (.fad 0), [.tmp 73], (some 74), none, [], false⟩,
    ⟨4, .q .ld, [.tmp 74], (some 75), none, [], false⟩,
    ⟨5, .q .mv, [.tmp 5], (some 76), none, [], false⟩,
    ⟨6, .q .mv, [.tmp 11], (some 77), none, [], false⟩,
    ⟨7, .q (.iad 2), [.tmp 76, .tmp 77], (some 78), none, [], false⟩,
    ⟨8, .q (.fad 1), [.tmp 78], (some 79), none, [], false⟩,
    ⟨9, .q .ld, [.tmp 79], (some 80), none, [], false⟩,
    ⟨10, .q (.bin .geq), [.tmp 75, .tmp 80], (some 81), none, [], false⟩,
    ⟨11, .q .mv, [.tmp 81], (some 82), none, [], false⟩,
    ⟨12, .q .mv, [.tmp 11], (some 83), (some (82, false)), [], false⟩,
    ⟨13, .q (.bin .gtr), [.tmp 83, .const (.int .i64 0)], (some 84), (some (82, false)), [], false⟩,
    ⟨14, .q .mv, [.tmp 84], (some 85), (some (82, false)), [], false⟩,
    ⟨15, .q .mv, [.tmp 5], (some 86), (some (85, true)), [], false⟩,
    ⟨16, .q .mv, [.tmp 11], (some 87), (some (85, true)), [], false⟩,
    ⟨17, .q (.iad 2), [.tmp 86, .tmp 87], (some 88), (some (85, true)), [], false⟩,
    ⟨18, .q (.fad 0), [.tmp 88], (some 89), (some (85, true)), [], false⟩,
    ⟨19, .q .ld, [.tmp 89], (some 90), (some (85, true)), [], false⟩,
    ⟨20, .q .mv, [.tmp 5], (some 91), (some (85, true)), [], false⟩,
    ⟨21, .q .mv, [.tmp 11], (some 92), (some (85, true)), [], false⟩,
    ⟨22, .q (.bin .sub), [.tmp 92, .const (.int .i64 1)], (some 93), (some (85, true)), [], false⟩,
    ⟨23, .q (.iad 2), [.tmp 91, .tmp 93], (some 94), (some (85, true)), [], false⟩,
    ⟨24, .q (.fad 1), [.tmp 94], (some 95), (some (85, true)), [], false⟩,
    ⟨25, .q .ld, [.tmp 95], (some 96), (some (85, true)), [], false⟩,
    ⟨26, .q (.bin .leq), [.tmp 90, .tmp 96], (some 97), (some (85, true)), [], false⟩,
    ⟨27, .q .pick, [.tmp 85, .tmp 97, .const (.bool false)], (some 98), (some (82, false)), [], false⟩,
    ⟨28, .q .pick, [.tmp 82, .const (.bool true), .tmp 98], (some 99), none, [], false⟩])
  (.cond (.tmp 99)
   (.seq
   (.reg [⟨0, .q .mv, [.const (.bool false)], (some 4), none, [], false⟩])
   .ret)
   .skip))
  (.seq
  (.reg [⟨0, .q .mv, [.const (.int .i64 0)], (some 12), none, [], false⟩])
  (.seq
  (.seq
  (.reg [⟨0, .q .mv, [.tmp 5], (some 100), none, [], false⟩,
    ⟨1, .q .mv, [.tmp 11], (some 101), none, [], false⟩,
    ⟨2, .q (.iad 2), [.tmp 100, .tmp 101], (some 102), none, [], false⟩,
    ⟨3, .q (.fad 0), [.tmp 102], (some 103), none, [], false⟩,
    ⟨4, .q .ld, [.tmp 103], (some 104), none, [], false⟩,
    ⟨5, .q .mv, [.tmp 104], (some 13), none, [], false⟩])
  (.block 2
   (.loop L5_2)))
  (.seq
  (.reg [⟨0, .q .mv, [.tmp 5], (some 124), none, [], false⟩,
    ⟨1, .q .mv, [.tmp 11], (some 125), none, [], false⟩,
    ⟨2, .q (.iad 2), [.tmp 124, .tmp 125], (some 126), none, [], false⟩,
    ⟨3, .q (.fad 0), [.tmp 126], (some 127), none, [], false⟩,
    ⟨4, .q .ld, [.tmp 127], (some 128), none, [], false⟩,
    ⟨5, .q (.bin .gtr), [.tmp 128, .const (.int .i64 0)], (some 129), none, [], false⟩,
    ⟨6, .q .mv, [.tmp 129], (some 130), none, [], false⟩,
    ⟨7, .q .mv, [.tmp 0], (some 131), (some (130, true)), [], false⟩,
    ⟨8, .q .mv, [.tmp 5], (some 132), (some (130, true)), [], false⟩,
    ⟨9, .q .mv, [.tmp 11], (some 133), (some (130, true)), [], false⟩,
    ⟨10, .q (.iad 2), [.tmp 132, .tmp 133], (some 134), (some (130, true)), [], false⟩,
    ⟨11, .q (.fad 0), [.tmp 134], (some 135), (some (130, true)), [], false⟩,
    ⟨12, .q .ld, [.tmp 135], (some 136), (some (130, true)), [], false⟩,
    ⟨13, .q (.iad 1), [.tmp 131, .tmp 136], (some 137), (some (130, true)), [], false⟩,
    ⟨14, .q .ld, [.tmp 137], (some 138), (some (130, true)), [], false⟩,
    ⟨15, .q (.bin .eql), [.tmp 138, .const (.int .u8 0)], (some 139), (some (130, true)), [], false⟩,
    ⟨16, .q .pick, [.tmp 130, .tmp 139, .const (.bool false)], (some 140), none, [], false⟩,
    ⟨17, .q .mv, [.tmp 140], (some 141), none, [], false⟩,
    ⟨18, .q .mv, [.tmp 5], (some 142), (some (141, false)), [], false⟩,
    ⟨19, .q .mv, [.tmp 11], (some 143), (some (141, false)), [], false⟩,
    ⟨20, .q (.iad 2), [.tmp 142, .tmp 143], (some 144), (some (141, false)), [], false⟩,
    ⟨21, .q (.fad 1), [.tmp 144], (some 145), (some (141, false)), [], false⟩,
    ⟨22, .q .ld, [.tmp 145], (some 146), (some (141, false)), [], false⟩,
    ⟨23, .q .mv, [.tmp 0], (some 147), (some (141, false)), [], false⟩,
    ⟨24, .q .len, [.tmp 147], (some 148), (some (141, false)), [], false⟩,
    ⟨25, .q (.bin .lss), [.tmp 146, .tmp 148], (some 149), (some (141, false)), [], false⟩,
    ⟨26, .q .mv, [.tmp 149], (some 150), (some (141, false)), [], false⟩,
    ⟨27, .q .mv, [.tmp 0], (some 151), (some (150, true)), [], false⟩,
    ⟨28, .q .mv, [.tmp 5], (some 152), (some (150, true)), [], false⟩,
    ⟨29, .q .mv, [.tmp 11], (some 153), (some (150, true)), [], false⟩,
    ⟨30, .q (.iad 2), [.tmp 152, .tmp 153], (some 154), (some (150, true)), [], false⟩,
    ⟨31, .q (.fad 1), [.tmp 154], (some 155), (some (150, true)), [], false⟩,
    ⟨32, .q .ld, [.tmp 155], (some 156), (some (150, true)), [], false⟩,
    ⟨33, .q (.bin .sub), [.tmp 156, .const (.int .i64 1)], (some 157), (some (150, true)), [], false⟩,
    ⟨34, .q (.iad 1), [.tmp 151, .tmp 157], (some 158), (some (150, true)), [], false⟩,
    ⟨35, .q .ld, [.tmp 158], (some 159), (some (150, true)), [], false⟩,
    ⟨36, .q (.bin .eql), [.tmp 159, .const (.int .u8 0)], (some 160), (some (150, true)), [], false⟩,
    ⟨37, .q .pick, [.tmp 150, .tmp 160, .const (.bool false)], (some 161), (some (141, false)), [], false⟩,
    ⟨38, .q .pick, [.tmp 141, .const (.bool true), .tmp 161], (some 162), none, [], false⟩])
  (.cond (.tmp 162)
   (.seq
   (.reg [⟨0, .q .mv, [.const (.bool false)], (some 4), none, [], false⟩])
   .ret)
   .skip))))))
 (.reg [⟨0, .q .mv, [.tmp 11], (some 69), none, [], false⟩,
   ⟨1, .q (.bin .add), [.tmp 69, .const (.int .i64 1)], (some 70), none, [], false⟩,
   ⟨2, .q .mv, [.tmp 70], (some 11), none, [], false⟩])))
def L5_4 : LCode :=
 (.seq
 (.reg [⟨0, .e (.lits 5 #[(.int .u8 0)] 1 [(0, 1)]), [.const (.int .u8 1)], (some 163), none, [], false⟩,
   ⟨1, .e (.call 6), [.tmp 163, .const (.int .i64 5)], (some 164), none, [], false⟩,
   ⟨2, .q .mv, [.tmp 164], (some 14), none, [], false⟩])
 (.seq
 (.reg [⟨0, .q .mv, [.tmp 14], (some 165), none, [], false⟩,
   ⟨1, .q .len, [.tmp 165], (some 166), none, [], false⟩,
   ⟨2, .q (.bin .eql), [.tmp 166, .const (.int .i64 1)], (some 167), none, [], false⟩,
   ⟨3, .q .mv, [.tmp 167], (some 4), none, [], false⟩])
 .ret))
def L5_5 : LCode :=
 (.seq
 (.seq
 (.reg [⟨0, .q .mv, [.const (.int .i64 0)], (some 11), none, [], false⟩])
 (.block 0
  (.loop L5_3)))
 L5_4)
def L5_6 : LCode :=
 (.seq
 (.seq
 (.reg [⟨0, .q .mv, [.tmp 1], (some 63), none, [], false⟩,
   ⟨1, .q (.bin .lss), [.tmp 63, .const (.int .i64 1)], (some 64), none, [], false⟩])
 (.cond (.tmp 64)
  (.reg [⟨0, .q .mv, [.const (.int .i64 1)], (some 1), none, [], false⟩])
  .skip))
 L5_5)
def L5 : LFn :=
 ⟨168, [.t 4],
 (.seq
 (.reg [⟨0, .q .mv, [.const (.bool false)], (some 4), none, [], false⟩])
 (.seq
 (.reg [⟨0, .e (.lits 5 #[] 0 []), [], (some 15), none, [], false⟩,
   ⟨1, .q .mv, [.tmp 0], (some 16), none, [], false⟩,
   ⟨2, .e (.app 5 1 1 #[(.int .u8 0)]), [.tmp 15, .tmp 16], (some 17), none, [], false⟩,
   ⟨3, .q .mv, [.tmp 1], (some 18), none, [], false⟩,
   ⟨4, .e (.call 6), [.tmp 17, .tmp 18], (some 19), none, [], false⟩,
   ⟨5, .q .mv, [.tmp 19], (some 5), none, [], false⟩])
 (.seq
 (.reg [⟨0, .q .mv, [.tmp 5], (some 20), none, [], false⟩,
   ⟨1, .q .len, [.tmp 20], (some 21), none, [], false⟩,
   ⟨2, .q (.bin .leq), [.tmp 21, .const (.int .i64 65536)], (some 22), none, [], false⟩,
   ⟨3, .q .mv, [.tmp 22], (some 6), none, [], false⟩])
 (.seq
 (.seq
 (.reg [⟨0, .q .mv, [.tmp 5], (some 23), none, [], false⟩,
   ⟨1, .q .mv, [.tmp 0], (some 24), none, [], false⟩,
   ⟨2, .q .len, [.tmp 24], (some 25), none, [], false⟩,
   ⟨3, .e (.call 13), [.tmp 23, .tmp 25], (some 26), none, [], false⟩,
   ⟨4, .q .mv, [.tmp 6], (some 27), none, [], false⟩,
   ⟨5, .q (.eqb true), [.tmp 26, .tmp 27], (some 28), none, [], false⟩])
 (.cond (.tmp 28)
  (.seq
  (.reg [⟨0, .q .mv, [.const (.bool false)], (some 4), none, [], false⟩])
  .ret)
  .skip))
 (.seq
 (.reg [⟨0, .e (.lits 5 #[] 0 []), [], (some 30), none, [], false⟩,
   ⟨1, .q .mv, [.tmp 0], (some 31), none, [], false⟩,
   ⟨2, .e (.app 5 1 1 #[(.int .u8 0)]), [.tmp 30, .tmp 31], (some 32), none, [], false⟩,
   ⟨3, .q .mv, [.tmp 5], (some 33), none, [], false⟩,
   ⟨4, .e (.call 9), [.tmp 32, .tmp 33], (some 34), none, [], false⟩,
   ⟨5, .q .mv, [.tmp 34], (some 29), none, [], false⟩,
   ⟨6, .q (.ext 0), [.tmp 29], (some 35), none, [], false⟩,
   ⟨7, .q (.ext 1), [.tmp 29], (some 36), none, [], false⟩,
   ⟨8, .q .mv, [.tmp 35], (some 7), none, [], false⟩,
   ⟨9, .q .mv, [.tmp 36], (some 8), none, [], false⟩])
 (.seq
 (.seq
 (.reg [⟨0, .q .mv, [.tmp 8], (some 37), none, [], false⟩,
   ⟨1, .q (.bin .eql), [.tmp 37, .const (.int .i64 0)], (some 38), none, [], false⟩,
   ⟨2, .q .mv, [.tmp 6], (some 39), none, [], false⟩,
   ⟨3, .q (.eqb true), [.tmp 38, .tmp 39], (some 40), none, [], false⟩])
 (.cond (.tmp 40)
  (.seq
  (.reg [⟨0, .q .mv, [.const (.bool false)], (some 4), none, [], false⟩])
  .ret)
  .skip))
 (.seq
 (.seq
 (.reg [⟨0, .q .mv, [.tmp 6], (some 41), none, [], false⟩,
   ⟨1, .q .mv, [.tmp 41], (some 42), none, [], false⟩,
   ⟨2, .q .mv, [.tmp 0], (some 43), (some (42, true)), [], false⟩,
   ⟨3, .q .len, [.tmp 43], (some 44), (some (42, true)), [], false⟩,
   ⟨4, .q (.bin .leq), [.tmp 44, .const (.int .i64 4194304)], (some 45), (some (42, true)), [], false⟩,
   ⟨5, .q .pick, [.tmp 42, .tmp 45, .const (.bool false)], (some 46), none, [], false⟩])
 (.cond (.tmp 46)
  (.seq
  (.reg [⟨0, .q .mv, [.tmp 7], (some 48), none, [], false⟩,
    ⟨1, .q .mv, [.tmp 5], (some 49), none, [], false⟩,
    ⟨2, .q .mv, [.tmp 0], (some 50), none, [], false⟩,
    ⟨3, .q .len, [.tmp 50], (some 51), none, [], false⟩,
    ⟨4, .e (.call 11), [.tmp 48, .tmp 49, .tmp 51], (some 52), none, [], false⟩,
    ⟨5, .q .mv, [.tmp 52], (some 47), none, [], false⟩,
    ⟨6, .q (.ext 0), [.tmp 47], (some 53), none, [], false⟩,
    ⟨7, .q (.ext 1), [.tmp 47], (some 54), none, [], false⟩,
    ⟨8, .q .mv, [.tmp 53], (some 9), none, [], false⟩,
    ⟨9, .q .mv, [.tmp 54], (some 10), none, [], false⟩])
  (.seq
  (.reg [⟨0, .q .mv, [.tmp 10], (some 55), none, [], false⟩,
    ⟨1, .q (.bin .neq), [.tmp 55, .const (.int .i64 0)], (some 56), none, [], false⟩,
    ⟨2, .q .mv, [.tmp 56], (some 57), none, [], false⟩,
    ⟨3, .q .mv, [.tmp 9], (some 58), (some (57, false)), [], false⟩,
    ⟨4, .q .mv, [.tmp 0], (some 59), (some (57, false)), [], false⟩,
    ⟨5, .e (.call 16), [.tmp 58, .tmp 59], (some 60), (some (57, false)), [], false⟩,
    ⟨6, .q (.un .not), [.tmp 60], (some 61), (some (57, false)), [], false⟩,
    ⟨7, .q .pick, [.tmp 57, .const (.bool true), .tmp 61], (some 62), none, [], false⟩])
  (.cond (.tmp 62)
   (.seq
   (.reg [⟨0, .q .mv, [.const (.bool false)], (some 4), none, [], false⟩])
   .ret)
   .skip)))
  .skip))
 L5_6)))))))⟩
theorem low5 : lowFn Try.prog Try.f5 = some L5 := by kernel_rfl
theorem call5 {args : List Value} {H : Heap} {S : Ending → Heap → Prop} (hn : args.length ≤ L5.n) (h : awpC Try.prog L5.body (retQ L5.results S) (fun ch H => S (.panicked ch) H) (env0 args) H) : ACalls Try.prog 5 args.toArray H S := acalls mixed Try.func5 low5 hn h
end Go.Proofs.Ythflafgijfbpnaa.Low
