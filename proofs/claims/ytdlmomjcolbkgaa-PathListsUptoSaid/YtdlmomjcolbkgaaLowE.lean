/-
  Functions in short (out of the program's form in Lean, by the kernel).
-/
import Derived.Test.YtdlmomjcolbkgaaSepCode
import Derived.Test.YtdlmomjcolbkgaaProg
namespace Go.Proofs.Ytdlmomjcolbkgaa.Low
open Go Go.Proofs.Ytdlmomjcolbkgaa.Sep
theorem mixed : Try.prog.follows .mixedOrders = true := by kernel_rfl
/-- satchel/satchellaw09.PathLists -/
def L4_131 : LCode :=
 (.seq
 (.reg [⟨0, .e (.lits 9 #[] 0 []), [], (some 131), none, [], false⟩,
   ⟨1, .q .mv, [.tmp 20], (some 132), none, [], false⟩,
   ⟨2, .e (.app 9 1 16 #[(.string ⟨#[]⟩)]), [.tmp 131, .tmp 132], (some 133), none, [], false⟩,
   ⟨3, .q .mv, [.tmp 133], (some 22), none, [], false⟩])
 (.seq
 (.reg [⟨0, .q .mv, [.tmp 14], (some 134), none, [], false⟩,
   ⟨1, .e (.call 16), [.tmp 134], (some 135), none, [], false⟩])
 (.seq
 (.reg [⟨0, .q .mv, [.tmp 18], (some 136), none, [], false⟩,
   ⟨1, .e (.call 16), [.tmp 136], (some 137), none, [], false⟩])
 (.seq
 (.reg [⟨0, .q .mv, [.tmp 9], (some 139), none, [], false⟩,
   ⟨1, .q .mv, [.tmp 8], (some 140), none, [], false⟩,
   ⟨2, .e (.call 14), [.tmp 139, .tmp 140], (some 141), none, [], false⟩,
   ⟨3, .q .mv, [.tmp 141], (some 138), none, [], false⟩,
   ⟨4, .q (.ext 0), [.tmp 138], (some 142), none, [], false⟩,
   ⟨5, .q (.ext 1), [.tmp 138], (some 143), none, [], false⟩,
   ⟨6, .q .mv, [.tmp 142], (some 23), none, [], false⟩,
   ⟨7, .q .mv, [.tmp 143], (some 24), none, [], false⟩])
 (.seq
 (.reg [⟨0, .e (.lits 9 #[(.string ⟨#[]⟩), (.string ⟨#[]⟩)] 2 [(0, 1), (1, 1)]), [.const (.string ⟨#[97]⟩), .const (.string ⟨#[98]⟩)], (some 145), none, [], false⟩,
   ⟨1, .e (.call 8), [.tmp 145], (some 146), none, [], false⟩,
   ⟨2, .q .mv, [.tmp 146], (some 144), none, [], false⟩,
   ⟨3, .q (.ext 0), [.tmp 144], (some 147), none, [], false⟩,
   ⟨4, .q (.ext 1), [.tmp 144], (some 148), none, [], false⟩,
   ⟨5, .q .mv, [.tmp 147], (some 25), none, [], false⟩,
   ⟨6, .q .mv, [.tmp 148], (some 26), none, [], false⟩])
 (.seq
 (.reg [⟨0, .q .mv, [.tmp 9], (some 149), none, [], false⟩,
   ⟨1, .q .mv, [.tmp 0], (some 150), none, [], false⟩,
   ⟨2, .e (.call 6), [.tmp 149, .tmp 150], (some 151), none, [], false⟩,
   ⟨3, .q .mv, [.tmp 151], (some 152), none, [], false⟩,
   ⟨4, .q .mv, [.tmp 7], (some 153), (some (152, true)), [], false⟩,
   ⟨5, .q .mv, [.tmp 0], (some 154), (some (152, true)), [], false⟩,
   ⟨6, .q .len, [.tmp 154], (some 155), (some (152, true)), [], false⟩,
   ⟨7, .q (.iad 1), [.tmp 153, .tmp 155], (some 156), (some (152, true)), [], false⟩,
   ⟨8, .q .ld, [.tmp 156], (some 157), (some (152, true)), [], false⟩,
   ⟨9, .q (.bin .eql), [.tmp 157, .const (.string ⟨#[98, 101, 104, 105, 110, 100]⟩)], (some 158), (some (152, true)), [], false⟩,
   ⟨10, .q .pick, [.tmp 152, .tmp 158, .const (.bool false)], (some 159), none, [], false⟩,
   ⟨11, .q .mv, [.tmp 159], (some 160), none, [], false⟩,
   ⟨12, .q .mv, [.tmp 8], (some 161), (some (160, true)), [], false⟩,
   ⟨13, .q .mv, [.tmp 1], (some 162), (some (160, true)), [], false⟩,
   ⟨14, .e (.call 6), [.tmp 161, .tmp 162], (some 163), (some (160, true)), [], false⟩,
   ⟨15, .q .pick, [.tmp 160, .tmp 163, .const (.bool false)], (some 164), none, [], false⟩,
   ⟨16, .q .mv, [.tmp 164], (some 165), none, [], false⟩,
   ⟨17, .q .mv, [.tmp 23], (some 166), (some (165, true)), [], false⟩,
   ⟨18, .q .mv, [.tmp 22], (some 167), (some (165, true)), [], false⟩,
   ⟨19, .e (.call 6), [.tmp 166, .tmp 167], (some 168), (some (165, true)), [], false⟩,
   ⟨20, .q .pick, [.tmp 165, .tmp 168, .const (.bool false)], (some 169), none, [], false⟩,
   ⟨21, .q .mv, [.tmp 169], (some 170), none, [], false⟩,
   ⟨22, .q .mv, [.tmp 25], (some 171), (some (170, true)), [], false⟩,
   ⟨23, .q (.bin .eql), [.tmp 171, .const (.string ⟨#[97, 47, 98]⟩)], (some 172), (some (170, true)), [], false⟩,
   ⟨24, .q .pick, [.tmp 170, .tmp 172, .const (.bool false)], (some 173), none, [], false⟩,
   ⟨25, .q .mv, [.tmp 173], (some 174), none, [], false⟩,
   ⟨26, .q .mv, [.tmp 26], (some 175), (some (174, true)), [], false⟩,
   ⟨27, .q (.bin .eql), [.tmp 175, .const (.int .i64 0)], (some 176), (some (174, true)), [], false⟩,
   ⟨28, .q .pick, [.tmp 174, .tmp 176, .const (.bool false)], (some 177), none, [], false⟩,
   ⟨29, .q .mv, [.tmp 177], (some 6), none, [], false⟩])
 .ret))))))
def L4_76 : LCode :=
 (.seq
 (.reg [⟨0, .q .mv, [.tmp 9], (some 76), none, [], false⟩,
   ⟨1, .q .mv, [.tmp 2], (some 77), none, [], false⟩,
   ⟨2, .e (.call 12), [.tmp 76, .tmp 77], (some 78), none, [], false⟩,
   ⟨3, .q .mv, [.tmp 78], (some 75), none, [], false⟩,
   ⟨4, .q (.ext 0), [.tmp 75], (some 79), none, [], false⟩,
   ⟨5, .q (.ext 1), [.tmp 75], (some 80), none, [], false⟩,
   ⟨6, .q .mv, [.tmp 79], (some 14), none, [], false⟩,
   ⟨7, .q .mv, [.tmp 80], (some 15), none, [], false⟩])
 (.seq
 (.reg [⟨0, .q .mv, [.tmp 0], (some 82), none, [], false⟩,
   ⟨1, .q .mv, [.tmp 2], (some 83), none, [], false⟩,
   ⟨2, .e (.call 13), [.tmp 82, .tmp 83], (some 84), none, [], false⟩,
   ⟨3, .q .mv, [.tmp 84], (some 81), none, [], false⟩,
   ⟨4, .q (.ext 0), [.tmp 81], (some 85), none, [], false⟩,
   ⟨5, .q (.ext 1), [.tmp 81], (some 86), none, [], false⟩,
   ⟨6, .q .mv, [.tmp 85], (some 16), none, [], false⟩,
   ⟨7, .q .mv, [.tmp 86], (some 17), none, [], false⟩])
 (.seq
 (.reg [⟨0, .q .mv, [.tmp 9], (some 88), none, [], false⟩,
   ⟨1, .q .mv, [.tmp 8], (some 89), none, [], false⟩,
   ⟨2, .e (.call 14), [.tmp 88, .tmp 89], (some 90), none, [], false⟩,
   ⟨3, .q .mv, [.tmp 90], (some 87), none, [], false⟩,
   ⟨4, .q (.ext 0), [.tmp 87], (some 91), none, [], false⟩,
   ⟨5, .q (.ext 1), [.tmp 87], (some 92), none, [], false⟩,
   ⟨6, .q .mv, [.tmp 91], (some 18), none, [], false⟩,
   ⟨7, .q .mv, [.tmp 92], (some 19), none, [], false⟩])
 (.seq
 (.reg [⟨0, .q .mv, [.tmp 0], (some 94), none, [], false⟩,
   ⟨1, .q .mv, [.tmp 1], (some 95), none, [], false⟩,
   ⟨2, .e (.call 15), [.tmp 94, .tmp 95], (some 96), none, [], false⟩,
   ⟨3, .q .mv, [.tmp 96], (some 93), none, [], false⟩,
   ⟨4, .q (.ext 0), [.tmp 93], (some 97), none, [], false⟩,
   ⟨5, .q (.ext 1), [.tmp 93], (some 98), none, [], false⟩,
   ⟨6, .q .mv, [.tmp 97], (some 20), none, [], false⟩,
   ⟨7, .q .mv, [.tmp 98], (some 21), none, [], false⟩])
 (.seq
 (.seq
 (.reg [⟨0, .q .mv, [.tmp 15], (some 99), none, [], false⟩,
   ⟨1, .q .mv, [.tmp 17], (some 100), none, [], false⟩,
   ⟨2, .q (.eqb true), [.tmp 99, .tmp 100], (some 101), none, [], false⟩,
   ⟨3, .q .mv, [.tmp 101], (some 102), none, [], false⟩,
   ⟨4, .q .mv, [.tmp 14], (some 103), (some (102, false)), [], false⟩,
   ⟨5, .q .mv, [.tmp 16], (some 104), (some (102, false)), [], false⟩,
   ⟨6, .e (.call 6), [.tmp 103, .tmp 104], (some 105), (some (102, false)), [], false⟩,
   ⟨7, .q (.un .not), [.tmp 105], (some 106), (some (102, false)), [], false⟩,
   ⟨8, .q .pick, [.tmp 102, .const (.bool true), .tmp 106], (some 107), none, [], false⟩,
   ⟨9, .q .mv, [.tmp 107], (some 108), none, [], false⟩,
   ⟨10, .q .mv, [.tmp 19], (some 109), (some (108, false)), [], false⟩,
   ⟨11, .q .mv, [.tmp 21], (some 110), (some (108, false)), [], false⟩,
   ⟨12, .q (.bin .neq), [.tmp 109, .tmp 110], (some 111), (some (108, false)), [], false⟩,
   ⟨13, .q .pick, [.tmp 108, .const (.bool true), .tmp 111], (some 112), none, [], false⟩,
   ⟨14, .q .mv, [.tmp 112], (some 113), none, [], false⟩,
   ⟨15, .q .mv, [.tmp 18], (some 114), (some (113, false)), [], false⟩,
   ⟨16, .q .mv, [.tmp 20], (some 115), (some (113, false)), [], false⟩,
   ⟨17, .e (.call 6), [.tmp 114, .tmp 115], (some 116), (some (113, false)), [], false⟩,
   ⟨18, .q (.un .not), [.tmp 116], (some 117), (some (113, false)), [], false⟩,
   ⟨19, .q .pick, [.tmp 113, .const (.bool true), .tmp 117], (some 118), none, [], false⟩,
   ⟨20, .q .mv, [.tmp 118], (some 119), none, [], false⟩,
   ⟨21, .q .mv, [.tmp 9], (some 120), (some (119, false)), [], false⟩,
   ⟨22, .q .mv, [.tmp 0], (some 121), (some (119, false)), [], false⟩,
   ⟨23, .e (.call 6), [.tmp 120, .tmp 121], (some 122), (some (119, false)), [], false⟩,
   ⟨24, .q (.un .not), [.tmp 122], (some 123), (some (119, false)), [], false⟩,
   ⟨25, .q .pick, [.tmp 119, .const (.bool true), .tmp 123], (some 124), none, [], false⟩,
   ⟨26, .q .mv, [.tmp 124], (some 125), none, [], false⟩,
   ⟨27, .q .mv, [.tmp 8], (some 126), (some (125, false)), [], false⟩,
   ⟨28, .q .mv, [.tmp 1], (some 127), (some (125, false)), [], false⟩,
   ⟨29, .e (.call 6), [.tmp 126, .tmp 127], (some 128), (some (125, false)), [], false⟩,
   ⟨30, .q (.un .not), [.tmp 128], (some 129), (some (125, false)), [], false⟩,
   ⟨31, .q .pick, [.tmp 125, .const (.bool true), .tmp 129], (some 130), none, [], false⟩])
 (.cond (.tmp 130)
  (.seq
  (.reg [⟨0, .q .mv, [.const (.bool false)], (some 6), none, [], false⟩])
  .ret)
  .skip))
 L4_131)))))
def L4 : LFn :=
 ⟨178, [.t 6],
 (.seq
 (.reg [⟨0, .q .mv, [.const (.bool false)], (some 6), none, [], false⟩])
 (.seq
 (.reg [⟨0, .e (.lits 9 #[] 0 []), [], (some 27), none, [], false⟩,
   ⟨1, .q .mv, [.tmp 0], (some 28), none, [], false⟩,
   ⟨2, .e (.app 9 1 16 #[(.string ⟨#[]⟩)]), [.tmp 27, .tmp 28], (some 29), none, [], false⟩,
   ⟨3, .e (.lits 9 #[(.string ⟨#[]⟩)] 1 [(0, 1)]), [.const (.string ⟨#[98, 101, 104, 105, 110, 100]⟩)], (some 30), none, [], false⟩,
   ⟨4, .e (.app 9 1 16 #[(.string ⟨#[]⟩)]), [.tmp 29, .tmp 30], (some 31), none, [], false⟩,
   ⟨5, .e (.lits 9 #[] 0 []), [], (some 32), none, [], false⟩,
   ⟨6, .q .mv, [.tmp 1], (some 33), none, [], false⟩,
   ⟨7, .e (.app 9 1 16 #[(.string ⟨#[]⟩)]), [.tmp 32, .tmp 33], (some 34), none, [], false⟩,
   ⟨8, .q .mv, [.tmp 31], (some 7), none, [], false⟩,
   ⟨9, .q .mv, [.tmp 34], (some 8), none, [], false⟩])
 (.seq
 (.reg [⟨0, .q .mv, [.tmp 7], (some 35), none, [], false⟩,
   ⟨1, .q .mv, [.tmp 0], (some 36), none, [], false⟩,
   ⟨2, .q .len, [.tmp 36], (some 37), none, [], false⟩,
   ⟨3, .q (.slc 1 false true false), [.tmp 35, .tmp 37], (some 38), none, [], false⟩,
   ⟨4, .q .mv, [.tmp 38], (some 9), none, [], false⟩])
 (.seq
 (.reg [⟨0, .q .mv, [.tmp 9], (some 40), none, [], false⟩,
   ⟨1, .e (.call 8), [.tmp 40], (some 41), none, [], false⟩,
   ⟨2, .q .mv, [.tmp 41], (some 39), none, [], false⟩,
   ⟨3, .q (.ext 0), [.tmp 39], (some 42), none, [], false⟩,
   ⟨4, .q (.ext 1), [.tmp 39], (some 43), none, [], false⟩,
   ⟨5, .q .mv, [.tmp 42], (some 10), none, [], false⟩,
   ⟨6, .q .mv, [.tmp 43], (some 11), none, [], false⟩])
 (.seq
 (.reg [⟨0, .q .mv, [.tmp 0], (some 45), none, [], false⟩,
   ⟨1, .e (.call 9), [.tmp 45], (some 46), none, [], false⟩,
   ⟨2, .q .mv, [.tmp 46], (some 44), none, [], false⟩,
   ⟨3, .q (.ext 0), [.tmp 44], (some 47), none, [], false⟩,
   ⟨4, .q (.ext 1), [.tmp 44], (some 48), none, [], false⟩,
   ⟨5, .q .mv, [.tmp 47], (some 12), none, [], false⟩,
   ⟨6, .q .mv, [.tmp 48], (some 13), none, [], false⟩])
 (.seq
 (.seq
 (.reg [⟨0, .q .mv, [.tmp 10], (some 49), none, [], false⟩,
   ⟨1, .q .mv, [.tmp 12], (some 50), none, [], false⟩,
   ⟨2, .q (.bin .neq), [.tmp 49, .tmp 50], (some 51), none, [], false⟩,
   ⟨3, .q .mv, [.tmp 51], (some 52), none, [], false⟩,
   ⟨4, .q .mv, [.tmp 11], (some 53), (some (52, false)), [], false⟩,
   ⟨5, .q .mv, [.tmp 13], (some 54), (some (52, false)), [], false⟩,
   ⟨6, .q (.bin .neq), [.tmp 53, .tmp 54], (some 55), (some (52, false)), [], false⟩,
   ⟨7, .q .pick, [.tmp 52, .const (.bool true), .tmp 55], (some 56), none, [], false⟩,
   ⟨8, .q .mv, [.tmp 56], (some 57), none, [], false⟩,
   ⟨9, .q .mv, [.tmp 9], (some 58), (some (57, false)), [], false⟩,
   ⟨10, .q .mv, [.tmp 8], (some 59), (some (57, false)), [], false⟩,
   ⟨11, .e (.call 5), [.tmp 58, .tmp 59], (some 60), (some (57, false)), [], false⟩,
   ⟨12, .q .mv, [.tmp 0], (some 61), (some (57, false)), [], false⟩,
   ⟨13, .q .mv, [.tmp 1], (some 62), (some (57, false)), [], false⟩,
   ⟨14, .e (.call 10), [.tmp 61, .tmp 62], (some 63), (some (57, false)), [], false⟩,
   ⟨15, .q (.bin .neq), [.tmp 60, .tmp 63], (some 64), (some (57, false)), [], false⟩,
   ⟨16, .q .pick, [.tmp 57, .const (.bool true), .tmp 64], (some 65), none, [], false⟩,
   ⟨17, .q .mv, [.tmp 65], (some 66), none, [], false⟩,
   ⟨18, .q .mv, [.tmp 9], (some 67), (some (66, false)), [], false⟩,
   ⟨19, .q .mv, [.tmp 8], (some 68), (some (66, false)), [], false⟩,
   ⟨20, .e (.call 7), [.tmp 67, .tmp 68], (some 69), (some (66, false)), [], false⟩,
   ⟨21, .q .mv, [.tmp 0], (some 70), (some (66, false)), [], false⟩,
   ⟨22, .q .mv, [.tmp 1], (some 71), (some (66, false)), [], false⟩,
   ⟨23, .e (.call 11), [.tmp 70, .tmp 71], (some 72), (some (66, false)), [], false⟩,
   ⟨24, .q (.eqb true), [.tmp 69, .tmp 72], (some 73), (some (66, false)), [], false⟩,
   ⟨25, .q .pick, [.tmp 66, .const (.bool true), .tmp 73], (some 74), none, [], false⟩])
 (.cond (.tmp 74)
  (.seq
  (.reg [⟨0, .q .mv, [.const (.bool false)], (some 6), none, [], false⟩])
  .ret)
  .skip))
 L4_76))))))⟩
theorem low4 : lowFn Try.prog Try.f4 = some L4 := by kernel_rfl
theorem call4 {args : List Value} {H : Heap} {S : Ending → Heap → Prop} (hn : args.length ≤ L4.n) (h : awpC Try.prog L4.body (retQ L4.results S) (fun ch H => S (.panicked ch) H) (env0 args) H) : ACalls Try.prog 4 args.toArray H S := acalls mixed Try.func4 low4 hn h
/-- satchel/satchelref09.Compare -/
def L10_0 : LCode :=
 (.seq
 (.seq
 (.reg [⟨0, .q .mv, [.tmp 5], (some 6), none, [], false⟩,
   ⟨1, .q .mv, [.tmp 0], (some 7), none, [], false⟩,
   ⟨2, .q .len, [.tmp 7], (some 8), none, [], false⟩,
   ⟨3, .q (.bin .lss), [.tmp 6, .tmp 8], (some 9), none, [], false⟩,
   ⟨4, .q .mv, [.tmp 9], (some 10), none, [], false⟩,
   ⟨5, .q .mv, [.tmp 5], (some 11), (some (10, true)), [], false⟩,
   ⟨6, .q .mv, [.tmp 1], (some 12), (some (10, true)), [], false⟩,
   ⟨7, .q .len, [.tmp 12], (some 13), (some (10, true)), [], false⟩,
   ⟨8, .q (.bin .lss), [.tmp 11, .tmp 13], (some 14), (some (10, true)), [], false⟩,
   ⟨9, .q .pick, [.tmp 10, .tmp 14, .const (.bool false)], (some 15), none, [], false⟩])
 (.cond (.tmp 15)
  .skip
  (.exit 0)))
 (.seq
 (.block 1
  (.seq
  (.seq
  (.reg [⟨0, .q .mv, [.tmp 0], (some 18), none, [], false⟩,
    ⟨1, .q .mv, [.tmp 5], (some 19), none, [], false⟩,
    ⟨2, .q (.iad 1), [.tmp 18, .tmp 19], (some 20), none, [], false⟩,
    ⟨3, .q .ld, [.tmp 20], (some 21), none, [], false⟩,
    ⟨4, .q .mv, [.tmp 1], (some 22), none, [], false⟩,
    ⟨5, .q .mv, [.tmp 5], (some 23), none, [], false⟩,
    ⟨6, .q (.iad 1), [.tmp 22, .tmp 23], (some 24), none, [], false⟩,
    ⟨7, .q .ld, [.tmp 24], (some 25), none, [], false⟩,
    ⟨8, .q (.bin .lss), [.tmp 21, .tmp 25], (some 26), none, [], false⟩])
  (.cond (.tmp 26)
   (.seq
   (.reg [⟨0, .q .mv, [.const (.int .i64 (-1))], (some 4), none, [], false⟩])
   .ret)
   .skip))
  (.seq
  (.reg [⟨0, .q .mv, [.tmp 0], (some 27), none, [], false⟩,
    ⟨1, .q .mv, [.tmp 5], (some 28), none, [], false⟩,
    ⟨2, .q (.iad 1), [.tmp 27, .tmp 28], (some 29), none, [], false⟩,
    ⟨3, .q .ld, [.tmp 29], (some 30), none, [], false⟩,
    ⟨4, .q .mv, [.tmp 1], (some 31), none, [], false⟩,
    ⟨5, .q .mv, [.tmp 5], (some 32), none, [], false⟩,
    ⟨6, .q (.iad 1), [.tmp 31, .tmp 32], (some 33), none, [], false⟩,
    ⟨7, .q .ld, [.tmp 33], (some 34), none, [], false⟩,
    ⟨8, .q (.bin .gtr), [.tmp 30, .tmp 34], (some 35), none, [], false⟩])
  (.cond (.tmp 35)
   (.seq
   (.reg [⟨0, .q .mv, [.const (.int .i64 1)], (some 4), none, [], false⟩])
   .ret)
   .skip))))
 (.reg [⟨0, .q .mv, [.tmp 5], (some 16), none, [], false⟩,
   ⟨1, .q (.bin .add), [.tmp 16, .const (.int .i64 1)], (some 17), none, [], false⟩,
   ⟨2, .q .mv, [.tmp 17], (some 5), none, [], false⟩])))
def L10 : LFn :=
 ⟨46, [.t 4],
 (.seq
 (.reg [⟨0, .q .mv, [.const (.int .i64 0)], (some 4), none, [], false⟩])
 (.seq
 (.seq
 (.reg [⟨0, .q .mv, [.const (.int .i64 0)], (some 5), none, [], false⟩])
 (.block 0
  (.loop L10_0)))
 (.seq
 (.seq
 (.reg [⟨0, .q .mv, [.tmp 0], (some 36), none, [], false⟩,
   ⟨1, .q .len, [.tmp 36], (some 37), none, [], false⟩,
   ⟨2, .q .mv, [.tmp 1], (some 38), none, [], false⟩,
   ⟨3, .q .len, [.tmp 38], (some 39), none, [], false⟩,
   ⟨4, .q (.bin .lss), [.tmp 37, .tmp 39], (some 40), none, [], false⟩])
 (.cond (.tmp 40)
  (.seq
  (.reg [⟨0, .q .mv, [.const (.int .i64 (-1))], (some 4), none, [], false⟩])
  .ret)
  .skip))
 (.seq
 (.seq
 (.reg [⟨0, .q .mv, [.tmp 0], (some 41), none, [], false⟩,
   ⟨1, .q .len, [.tmp 41], (some 42), none, [], false⟩,
   ⟨2, .q .mv, [.tmp 1], (some 43), none, [], false⟩,
   ⟨3, .q .len, [.tmp 43], (some 44), none, [], false⟩,
   ⟨4, .q (.bin .gtr), [.tmp 42, .tmp 44], (some 45), none, [], false⟩])
 (.cond (.tmp 45)
  (.seq
  (.reg [⟨0, .q .mv, [.const (.int .i64 1)], (some 4), none, [], false⟩])
  .ret)
  .skip))
 (.seq
 (.reg [⟨0, .q .mv, [.const (.int .i64 0)], (some 4), none, [], false⟩])
 .ret)))))⟩
theorem low10 : lowFn Try.prog Try.f10 = some L10 := by kernel_rfl
theorem call10 {args : List Value} {H : Heap} {S : Ending → Heap → Prop} (hn : args.length ≤ L10.n) (h : awpC Try.prog L10.body (retQ L10.results S) (fun ch H => S (.panicked ch) H) (env0 args) H) : ACalls Try.prog 10 args.toArray H S := acalls mixed Try.func10 low10 hn h
/-- satchel/satchelref09.Under -/
def L11_0 : LCode :=
 (.seq
 (.seq
 (.reg [⟨0, .q .mv, [.tmp 5], (some 11), none, [], false⟩,
   ⟨1, .q .mv, [.tmp 1], (some 12), none, [], false⟩,
   ⟨2, .q .len, [.tmp 12], (some 13), none, [], false⟩,
   ⟨3, .q (.bin .lss), [.tmp 11, .tmp 13], (some 14), none, [], false⟩])
 (.cond (.tmp 14)
  .skip
  (.exit 0)))
 (.seq
 (.block 1
  (.seq
  (.reg [⟨0, .q .mv, [.tmp 0], (some 17), none, [], false⟩,
    ⟨1, .q .mv, [.tmp 5], (some 18), none, [], false⟩,
    ⟨2, .q (.iad 1), [.tmp 17, .tmp 18], (some 19), none, [], false⟩,
    ⟨3, .q .ld, [.tmp 19], (some 20), none, [], false⟩,
    ⟨4, .q .mv, [.tmp 1], (some 21), none, [], false⟩,
    ⟨5, .q .mv, [.tmp 5], (some 22), none, [], false⟩,
    ⟨6, .q (.iad 1), [.tmp 21, .tmp 22], (some 23), none, [], false⟩,
    ⟨7, .q .ld, [.tmp 23], (some 24), none, [], false⟩,
    ⟨8, .q (.bin .neq), [.tmp 20, .tmp 24], (some 25), none, [], false⟩])
  (.cond (.tmp 25)
   (.seq
   (.reg [⟨0, .q .mv, [.const (.bool false)], (some 4), none, [], false⟩])
   .ret)
   .skip)))
 (.reg [⟨0, .q .mv, [.tmp 5], (some 15), none, [], false⟩,
   ⟨1, .q (.bin .add), [.tmp 15, .const (.int .i64 1)], (some 16), none, [], false⟩,
   ⟨2, .q .mv, [.tmp 16], (some 5), none, [], false⟩])))
def L11 : LFn :=
 ⟨26, [.t 4],
 (.seq
 (.reg [⟨0, .q .mv, [.const (.bool false)], (some 4), none, [], false⟩])
 (.seq
 (.seq
 (.reg [⟨0, .q .mv, [.tmp 0], (some 6), none, [], false⟩,
   ⟨1, .q .len, [.tmp 6], (some 7), none, [], false⟩,
   ⟨2, .q .mv, [.tmp 1], (some 8), none, [], false⟩,
   ⟨3, .q .len, [.tmp 8], (some 9), none, [], false⟩,
   ⟨4, .q (.bin .leq), [.tmp 7, .tmp 9], (some 10), none, [], false⟩])
 (.cond (.tmp 10)
  (.seq
  (.reg [⟨0, .q .mv, [.const (.bool false)], (some 4), none, [], false⟩])
  .ret)
  .skip))
 (.seq
 (.seq
 (.reg [⟨0, .q .mv, [.const (.int .i64 0)], (some 5), none, [], false⟩])
 (.block 0
  (.loop L11_0)))
 (.seq
 (.reg [⟨0, .q .mv, [.const (.bool true)], (some 4), none, [], false⟩])
 .ret))))⟩
theorem low11 : lowFn Try.prog Try.f11 = some L11 := by kernel_rfl
theorem call11 {args : List Value} {H : Heap} {S : Ending → Heap → Prop} (hn : args.length ≤ L11.n) (h : awpC Try.prog L11.body (retQ L11.results S) (fun ch H => S (.panicked ch) H) (env0 args) H) : ACalls Try.prog 11 args.toArray H S := acalls mixed Try.func11 low11 hn h
/-- satchel/satchelref09.Strip -/
def L13 : LFn :=
 ⟨17, [.t 4, .t 5],
 (.seq
 (.reg [⟨0, .q .mv, [.const (.slice none 0 0)], (some 4), none, [], false⟩,
   ⟨1, .q .mv, [.const (.bool false)], (some 5), none, [], false⟩])
 (.seq
 (.seq
 (.reg [⟨0, .q .mv, [.tmp 1], (some 6), none, [], false⟩,
   ⟨1, .q (.bin .lss), [.tmp 6, .const (.int .i64 0)], (some 7), none, [], false⟩,
   ⟨2, .q .mv, [.tmp 7], (some 8), none, [], false⟩,
   ⟨3, .q .mv, [.tmp 1], (some 9), (some (8, false)), [], false⟩,
   ⟨4, .q .mv, [.tmp 0], (some 10), (some (8, false)), [], false⟩,
   ⟨5, .q .len, [.tmp 10], (some 11), (some (8, false)), [], false⟩,
   ⟨6, .q (.bin .geq), [.tmp 9, .tmp 11], (some 12), (some (8, false)), [], false⟩,
   ⟨7, .q .pick, [.tmp 8, .const (.bool true), .tmp 12], (some 13), none, [], false⟩])
 (.cond (.tmp 13)
  (.seq
  (.reg [⟨0, .q .mv, [.const (.slice none 0 0)], (some 4), none, [], false⟩,
    ⟨1, .q .mv, [.const (.bool false)], (some 5), none, [], false⟩])
  .ret)
  .skip))
 (.seq
 (.reg [⟨0, .q .mv, [.tmp 0], (some 14), none, [], false⟩,
   ⟨1, .q .mv, [.tmp 1], (some 15), none, [], false⟩,
   ⟨2, .q (.slc 1 true false false), [.tmp 14, .tmp 15], (some 16), none, [], false⟩,
   ⟨3, .q .mv, [.tmp 16], (some 4), none, [], false⟩,
   ⟨4, .q .mv, [.const (.bool true)], (some 5), none, [], false⟩])
 .ret)))⟩
theorem low13 : lowFn Try.prog Try.f13 = some L13 := by kernel_rfl
theorem call13 {args : List Value} {H : Heap} {S : Ending → Heap → Prop} (hn : args.length ≤ L13.n) (h : awpC Try.prog L13.body (retQ L13.results S) (fun ch H => S (.panicked ch) H) (env0 args) H) : ACalls Try.prog 13 args.toArray H S := acalls mixed Try.func13 low13 hn h
/-- satchel/satchelref09.Place -/
def L15 : LFn :=
 ⟨23, [.t 4, .t 5],
 (.seq
 (.reg [⟨0, .q .mv, [.const (.slice none 0 0)], (some 4), none, [], false⟩,
   ⟨1, .q .mv, [.const (.int .i64 0)], (some 5), none, [], false⟩])
 (.seq
 (.reg [⟨0, .e (.lits 9 #[] 0 []), [], (some 9), none, [], false⟩,
   ⟨1, .q .mv, [.tmp 0], (some 10), none, [], false⟩,
   ⟨2, .e (.app 9 1 16 #[(.string ⟨#[]⟩)]), [.tmp 9, .tmp 10], (some 11), none, [], false⟩,
   ⟨3, .q .mv, [.tmp 1], (some 12), none, [], false⟩,
   ⟨4, .e (.app 9 1 16 #[(.string ⟨#[]⟩)]), [.tmp 11, .tmp 12], (some 13), none, [], false⟩,
   ⟨5, .q .mv, [.tmp 13], (some 6), none, [], false⟩])
 (.seq
 (.seq
 (.reg [⟨0, .q .mv, [.tmp 6], (some 15), none, [], false⟩,
   ⟨1, .e (.call 9), [.tmp 15], (some 16), none, [], false⟩,
   ⟨2, .q .mv, [.tmp 16], (some 14), none, [], false⟩,
   ⟨3, .q (.ext 0), [.tmp 14], (some 17), none, [], false⟩,
   ⟨4, .q (.ext 1), [.tmp 14], (some 18), none, [], false⟩,
   ⟨5, .q .mv, [.tmp 17], (some 7), none, [], false⟩,
   ⟨6, .q .mv, [.tmp 18], (some 8), none, [], false⟩])
 (.seq
 (.reg [⟨0, .q .mv, [.tmp 8], (some 19), none, [], false⟩,
   ⟨1, .q (.bin .neq), [.tmp 19, .const (.int .i64 0)], (some 20), none, [], false⟩])
 (.cond (.tmp 20)
  (.seq
  (.reg [⟨0, .q .mv, [.tmp 8], (some 21), none, [], false⟩,
    ⟨1, .q .mv, [.const (.slice none 0 0)], (some 4), none, [], false⟩,
    ⟨2, .q .mv, [.tmp 21], (some 5), none, [], false⟩])
  .ret)
  .skip)))
 (.seq
 (.reg [⟨0, .q .mv, [.tmp 6], (some 22), none, [], false⟩,
   ⟨1, .q .mv, [.tmp 22], (some 4), none, [], false⟩,
   ⟨2, .q .mv, [.const (.int .i64 0)], (some 5), none, [], false⟩])
 .ret))))⟩
theorem low15 : lowFn Try.prog Try.f15 = some L15 := by kernel_rfl
theorem call15 {args : List Value} {H : Heap} {S : Ending → Heap → Prop} (hn : args.length ≤ L15.n) (h : awpC Try.prog L15.body (retQ L15.results S) (fun ch H => S (.panicked ch) H) (env0 args) H) : ACalls Try.prog 15 args.toArray H S := acalls mixed Try.func15 low15 hn h
end Go.Proofs.Ytdlmomjcolbkgaa.Low
