/-
  Functions in short (out of the program's form in Lean, by the kernel).
-/
import Derived.Test.YthflafgijfbpnaaDoorSepCode
import Derived.Test.YthflafgijfbpnaaDoorProg
namespace Go.Proofs.YthflafgijfbpnaaDoor.Low
open Go Go.Proofs.YthflafgijfbpnaaDoor.Sep
theorem mixed : Tryd.prog.follows .mixedOrders = true := by kernel_rfl
/-- satchel/satchellaw15.SparseTexts -/
def L3 : LFn :=
 ⟨112, [.t 4],
 (.seq
 (.reg [⟨0, .q .mv, [.const (.bool false)], (some 4), none, [], false⟩])
 (.seq
 (.reg [⟨0, .e (.lits 51 #[] 0 []), [], (some 20), none, [], false⟩,
   ⟨1, .q .mv, [.tmp 0], (some 21), none, [], false⟩,
   ⟨2, .e (.app 51 2 16 #[(.int .i64 0), (.int .i64 0)]), [.tmp 20, .tmp 21], (some 22), none, [], false⟩,
   ⟨3, .q .mv, [.tmp 22], (some 5), none, [], false⟩])
 (.seq
 (.reg [⟨0, .q .mv, [.tmp 5], (some 24), none, [], false⟩,
   ⟨1, .e (.call 6), [.tmp 24], (some 25), none, [], false⟩,
   ⟨2, .q .mv, [.tmp 25], (some 23), none, [], false⟩,
   ⟨3, .q (.ext 0), [.tmp 23], (some 26), none, [], false⟩,
   ⟨4, .q (.ext 1), [.tmp 23], (some 27), none, [], false⟩,
   ⟨5, .q .mv, [.tmp 26], (some 6), none, [], false⟩,
   ⟨6, .q .mv, [.tmp 27], (some 7), none, [], false⟩])
 (.seq
 (.reg [⟨0, .q .mv, [.tmp 0], (some 29), none, [], false⟩,
   ⟨1, .e (.call 7), [.tmp 29], (some 30), none, [], false⟩,
   ⟨2, .q .mv, [.tmp 30], (some 28), none, [], false⟩,
   ⟨3, .q (.ext 0), [.tmp 28], (some 31), none, [], false⟩,
   ⟨4, .q (.ext 1), [.tmp 28], (some 32), none, [], false⟩,
   ⟨5, .q .mv, [.tmp 31], (some 8), none, [], false⟩,
   ⟨6, .q .mv, [.tmp 32], (some 9), none, [], false⟩])
 (.seq
 (.reg [⟨0, .q .mv, [.tmp 1], (some 34), none, [], false⟩,
   ⟨1, .e (.call 8), [.tmp 34], (some 35), none, [], false⟩,
   ⟨2, .q .mv, [.tmp 35], (some 33), none, [], false⟩,
   ⟨3, .q (.ext 0), [.tmp 33], (some 36), none, [], false⟩,
   ⟨4, .q (.ext 1), [.tmp 33], (some 37), none, [], false⟩,
   ⟨5, .q .mv, [.tmp 36], (some 10), none, [], false⟩,
   ⟨6, .q .mv, [.tmp 37], (some 11), none, [], false⟩])
 (.seq
 (.reg [⟨0, .q .mv, [.tmp 10], (some 39), none, [], false⟩,
   ⟨1, .e (.call 9), [.tmp 39], (some 40), none, [], false⟩,
   ⟨2, .q .mv, [.tmp 40], (some 38), none, [], false⟩,
   ⟨3, .q (.ext 0), [.tmp 38], (some 41), none, [], false⟩,
   ⟨4, .q (.ext 1), [.tmp 38], (some 42), none, [], false⟩,
   ⟨5, .q (.ext 2), [.tmp 38], (some 43), none, [], false⟩,
   ⟨6, .q .mv, [.tmp 41], (some 12), none, [], false⟩,
   ⟨7, .q .mv, [.tmp 42], (some 13), none, [], false⟩,
   ⟨8, .q .mv, [.tmp 43], (some 14), none, [], false⟩])
 (.seq
 (.reg [⟨0, .q .mv, [.tmp 1], (some 45), none, [], false⟩,
   ⟨1, .e (.call 10), [.tmp 45], (some 46), none, [], false⟩,
   ⟨2, .q .mv, [.tmp 46], (some 44), none, [], false⟩,
   ⟨3, .q (.ext 0), [.tmp 44], (some 47), none, [], false⟩,
   ⟨4, .q (.ext 1), [.tmp 44], (some 48), none, [], false⟩,
   ⟨5, .q (.ext 2), [.tmp 44], (some 49), none, [], false⟩,
   ⟨6, .q .mv, [.tmp 47], (some 15), none, [], false⟩,
   ⟨7, .q .mv, [.tmp 48], (some 16), none, [], false⟩,
   ⟨8, .q .mv, [.tmp 49], (some 17), none, [], false⟩])
 (.seq
 (.seq
 (.reg [⟨0, .q .mv, [.tmp 7], (some 50), none, [], false⟩,
   ⟨1, .q .mv, [.tmp 9], (some 51), none, [], false⟩,
   ⟨2, .q (.bin .neq), [.tmp 50, .tmp 51], (some 52), none, [], false⟩,
   ⟨3, .q .mv, [.tmp 52], (some 53), none, [], false⟩,
   ⟨4, .q .mv, [.tmp 6], (some 54), (some (53, false)), [], false⟩,
   ⟨5, .q .mv, [.tmp 8], (some 55), (some (53, false)), [], false⟩,
   ⟨6, .e (.call 11), [.tmp 54, .tmp 55], (some 56), (some (53, false)), [], false⟩,
   ⟨7, .q (.un .not), [.tmp 56], (some 57), (some (53, false)), [], false⟩,
   ⟨8, .q .pick, [.tmp 53, .const (.bool true), .tmp 57], (some 58), none, [], false⟩,
   ⟨9, .q .mv, [.tmp 58], (some 59), none, [], false⟩,
   ⟨10, .q .mv, [.tmp 5], (some 60), (some (59, false)), [], false⟩,
   ⟨11, .q .mv, [.tmp 0], (some 61), (some (59, false)), [], false⟩,
   ⟨12, .e (.call 12), [.tmp 60, .tmp 61], (some 62), (some (59, false)), [], false⟩,
   ⟨13, .q (.un .not), [.tmp 62], (some 63), (some (59, false)), [], false⟩,
   ⟨14, .q .pick, [.tmp 59, .const (.bool true), .tmp 63], (some 64), none, [], false⟩,
   ⟨15, .q .mv, [.tmp 64], (some 65), none, [], false⟩,
   ⟨16, .q .mv, [.tmp 14], (some 66), (some (65, false)), [], false⟩,
   ⟨17, .q .mv, [.tmp 17], (some 67), (some (65, false)), [], false⟩,
   ⟨18, .q (.bin .neq), [.tmp 66, .tmp 67], (some 68), (some (65, false)), [], false⟩,
   ⟨19, .q .pick, [.tmp 65, .const (.bool true), .tmp 68], (some 69), none, [], false⟩,
   ⟨20, .q .mv, [.tmp 69], (some 70), none, [], false⟩,
   ⟨21, .q .mv, [.tmp 13], (some 71), (some (70, false)), [], false⟩,
   ⟨22, .q .mv, [.tmp 16], (some 72), (some (70, false)), [], false⟩,
   ⟨23, .q (.bin .neq), [.tmp 71, .tmp 72], (some 73), (some (70, false)), [], false⟩,
   ⟨24, .q .pick, [.tmp 70, .const (.bool true), .tmp 73], (some 74), none, [], false⟩,
   ⟨25, .q .mv, [.tmp 74], (some 75), none, [], false⟩,
   ⟨26, .q .mv, [.tmp 12], (some 76), (some (75, false)), [], false⟩,
   ⟨27, .q .mv, [.tmp 15], (some 77), (some (75, false)), [], false⟩,
   ⟨28, .e (.call 12), [.tmp 76, .tmp 77], (some 78), (some (75, false)), [], false⟩,
   ⟨29, .q (.un .not), [.tmp 78], (some 79), (some (75, false)), [], false⟩,
   ⟨30, .q .pick, [.tmp 75, .const (.bool true), .tmp 79], (some 80), none, [], false⟩,
   ⟨31, .q .mv, [.tmp 80], (some 81), none, [], false⟩,
   ⟨32, .q .mv, [.tmp 11], (some 82), (some (81, false)), [], false⟩,
   ⟨33, .q .mv, [.tmp 1], (some 83), (some (81, false)), [], false⟩,
   ⟨34, .e (.call 13), [.tmp 82, .tmp 83], (some 84), (some (81, false)), [], false⟩,
   ⟨35, .q (.un .not), [.tmp 84], (some 85), (some (81, false)), [], false⟩,
   ⟨36, .q .pick, [.tmp 81, .const (.bool true), .tmp 85], (some 86), none, [], false⟩])
 (.cond (.tmp 86)
  (.seq
  (.reg [⟨0, .q .mv, [.const (.bool false)], (some 4), none, [], false⟩])
  .ret)
  .skip))
 (.seq
 (.reg [⟨0, .q .mv, [.tmp 6], (some 87), none, [], false⟩,
   ⟨1, .e (.call 14), [.tmp 87, .const (.int .u8 3)], (some 88), none, [], false⟩])
 (.seq
 (.reg [⟨0, .q .mv, [.tmp 12], (some 89), none, [], false⟩,
   ⟨1, .e (.call 15), [.tmp 89], (some 90), none, [], false⟩])
 (.seq
 (.reg [⟨0, .e (.call 6), [.const (.slice none 0 0)], (some 92), none, [], false⟩,
   ⟨1, .q .mv, [.tmp 92], (some 91), none, [], false⟩,
   ⟨2, .q (.ext 0), [.tmp 91], (some 93), none, [], false⟩,
   ⟨3, .q (.ext 1), [.tmp 91], (some 94), none, [], false⟩,
   ⟨4, .q .mv, [.tmp 93], (some 18), none, [], false⟩,
   ⟨5, .q .mv, [.tmp 94], (some 19), none, [], false⟩])
 (.seq
 (.reg [⟨0, .q .mv, [.tmp 5], (some 95), none, [], false⟩,
   ⟨1, .q .mv, [.tmp 0], (some 96), none, [], false⟩,
   ⟨2, .e (.call 12), [.tmp 95, .tmp 96], (some 97), none, [], false⟩,
   ⟨3, .q .mv, [.tmp 97], (some 98), none, [], false⟩,
   ⟨4, .q .mv, [.tmp 11], (some 99), (some (98, true)), [], false⟩,
   ⟨5, .q .mv, [.tmp 1], (some 100), (some (98, true)), [], false⟩,
   ⟨6, .e (.call 13), [.tmp 99, .tmp 100], (some 101), (some (98, true)), [], false⟩,
   ⟨7, .q .pick, [.tmp 98, .tmp 101, .const (.bool false)], (some 102), none, [], false⟩,
   ⟨8, .q .mv, [.tmp 102], (some 103), none, [], false⟩,
   ⟨9, .q .mv, [.tmp 19], (some 104), (some (103, true)), [], false⟩,
   ⟨10, .q (.bin .eql), [.tmp 104, .const (.int .i64 0)], (some 105), (some (103, true)), [], false⟩,
   ⟨11, .q .pick, [.tmp 103, .tmp 105, .const (.bool false)], (some 106), none, [], false⟩,
   ⟨12, .q .mv, [.tmp 106], (some 107), none, [], false⟩,
   ⟨13, .q .mv, [.tmp 18], (some 108), (some (107, true)), [], false⟩,
   ⟨14, .q .len, [.tmp 108], (some 109), (some (107, true)), [], false⟩,
   ⟨15, .q (.bin .eql), [.tmp 109, .const (.int .i64 512)], (some 110), (some (107, true)), [], false⟩,
   ⟨16, .q .pick, [.tmp 107, .tmp 110, .const (.bool false)], (some 111), none, [], false⟩,
   ⟨17, .q .mv, [.tmp 111], (some 4), none, [], false⟩])
 .ret))))))))))))⟩
theorem low3 : lowFn Tryd.prog Tryd.f3 = some L3 := by kernel_rfl
theorem call3 {args : List Value} {H : Heap} {S : Ending → Heap → Prop} (hn : args.length ≤ L3.n) (h : awpC Tryd.prog L3.body (retQ L3.results S) (fun ch H => S (.panicked ch) H) (env0 args) H) : ACalls Tryd.prog 3 args.toArray H S := acalls mixed Tryd.func3 low3 hn h
end Go.Proofs.YthflafgijfbpnaaDoor.Low
