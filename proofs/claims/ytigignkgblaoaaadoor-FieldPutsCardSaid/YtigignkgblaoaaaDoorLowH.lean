/-
  Functions in short (out of the program's form in Lean, by the kernel).
-/
import Derived.Test.YtigignkgblaoaaaDoorSepCode
import Derived.Test.YtigignkgblaoaaaDoorProg
namespace Go.Proofs.YtigignkgblaoaaaDoor.Low
open Go Go.Proofs.YtigignkgblaoaaaDoor.Sep
theorem mixed : Tryd.prog.follows .mixedOrders = true := by kernel_rfl
/-- satchel/satchellaw12.FieldPuts -/
def L4_0 : LCode :=
 (.seq
 (.seq
 (.reg [⟨0, .q .mv, [.tmp 7], (some 24), none, [], false⟩,
   ⟨1, .q (.bin .lss), [.tmp 24, .const (.int .i64 2)], (some 25), none, [], false⟩])
 (.cond (.tmp 25)
  .skip
  (.exit 0)))
 (.seq
 (.block 1
  (.seq
  (.reg [⟨0, .q .mv, [.tmp 0], (some 29), none, [], false⟩,
    ⟨1, .q .mv, [.tmp 2], (some 30), none, [], false⟩,
    ⟨2, .e (.call 18), [.tmp 29, .tmp 30], (some 31), none, [], false⟩,
    ⟨3, .q .mv, [.tmp 31], (some 28), none, [], false⟩,
    ⟨4, .q (.ext 0), [.tmp 28], (some 32), none, [], false⟩,
    ⟨5, .q (.ext 1), [.tmp 28], (some 33), none, [], false⟩,
    ⟨6, .q .mv, [.tmp 32], (some 8), none, [], false⟩,
    ⟨7, .q .mv, [.tmp 33], (some 9), none, [], false⟩])
  (.seq
  (.reg [⟨0, .q .mv, [.tmp 0], (some 35), none, [], false⟩,
    ⟨1, .q .mv, [.tmp 2], (some 36), none, [], false⟩,
    ⟨2, .e (.call 19), [.tmp 35, .tmp 36], (some 37), none, [], false⟩,
    ⟨3, .q .mv, [.tmp 37], (some 34), none, [], false⟩,
    ⟨4, .q (.ext 0), [.tmp 34], (some 38), none, [], false⟩,
    ⟨5, .q (.ext 1), [.tmp 34], (some 39), none, [], false⟩,
    ⟨6, .q .mv, [.tmp 38], (some 10), none, [], false⟩,
    ⟨7, .q .mv, [.tmp 39], (some 11), none, [], false⟩])
  (.seq
  (.reg [⟨0, .q .mv, [.tmp 0], (some 41), none, [], false⟩,
    ⟨1, .q .mv, [.tmp 2], (some 42), none, [], false⟩,
    ⟨2, .e (.call 20), [.tmp 41, .tmp 42], (some 43), none, [], false⟩,
    ⟨3, .q .mv, [.tmp 43], (some 40), none, [], false⟩,
    ⟨4, .q (.ext 0), [.tmp 40], (some 44), none, [], false⟩,
    ⟨5, .q (.ext 1), [.tmp 40], (some 45), none, [], false⟩,
    ⟨6, .q .mv, [.tmp 44], (some 12), none, [], false⟩,
    ⟨7, .q .mv, [.tmp 45], (some 13), none, [], false⟩])
  (.seq
  (.reg [⟨0, .q .mv, [.tmp 0], (some 47), none, [], false⟩,
    ⟨1, .q .mv, [.tmp 2], (some 48), none, [], false⟩,
    ⟨2, .e (.call 21), [.tmp 47, .tmp 48], (some 49), none, [], false⟩,
    ⟨3, .q .mv, [.tmp 49], (some 46), none, [], false⟩,
    ⟨4, .q (.ext 0), [.tmp 46], (some 50), none, [], false⟩,
    ⟨5, .q (.ext 1), [.tmp 46], (some 51), none, [], false⟩,
    ⟨6, .q .mv, [.tmp 50], (some 14), none, [], false⟩,
    ⟨7, .q .mv, [.tmp 51], (some 15), none, [], false⟩])
  (.seq
  (.reg [⟨0, .q .mv, [.tmp 0], (some 53), none, [], false⟩,
    ⟨1, .q .mv, [.tmp 2], (some 54), none, [], false⟩,
    ⟨2, .e (.call 22), [.tmp 53, .tmp 54], (some 55), none, [], false⟩,
    ⟨3, .q .mv, [.tmp 55], (some 52), none, [], false⟩,
    ⟨4, .q (.ext 0), [.tmp 52], (some 56), none, [], false⟩,
    ⟨5, .q (.ext 1), [.tmp 52], (some 57), none, [], false⟩,
    ⟨6, .q .mv, [.tmp 56], (some 16), none, [], false⟩,
    ⟨7, .q .mv, [.tmp 57], (some 17), none, [], false⟩])
  (.seq
  (.reg [⟨0, .q .mv, [.tmp 0], (some 59), none, [], false⟩,
    ⟨1, .q .mv, [.tmp 2], (some 60), none, [], false⟩,
    ⟨2, .e (.call 23), [.tmp 59, .tmp 60], (some 61), none, [], false⟩,
    ⟨3, .q .mv, [.tmp 61], (some 58), none, [], false⟩,
    ⟨4, .q (.ext 0), [.tmp 58], (some 62), none, [], false⟩,
    ⟨5, .q (.ext 1), [.tmp 58], (some 63), none, [], false⟩,
    ⟨6, .q .mv, [.tmp 62], (some 18), none, [], false⟩,
    ⟨7, .q .mv, [.tmp 63], (some 19), none, [], false⟩])
  (.seq
  (.reg [⟨0, .q .mv, [.tmp 1], (some 65), none, [], false⟩,
    ⟨1, .q .mv, [.tmp 2], (some 66), none, [], false⟩,
    ⟨2, .e (.call 24), [.tmp 65, .tmp 66], (some 67), none, [], false⟩,
    ⟨3, .q .mv, [.tmp 67], (some 64), none, [], false⟩,
    ⟨4, .q (.ext 0), [.tmp 64], (some 68), none, [], false⟩,
    ⟨5, .q (.ext 1), [.tmp 64], (some 69), none, [], false⟩,
    ⟨6, .q .mv, [.tmp 68], (some 20), none, [], false⟩,
    ⟨7, .q .mv, [.tmp 69], (some 21), none, [], false⟩])
  (.seq
  (.reg [⟨0, .q .mv, [.tmp 1], (some 71), none, [], false⟩,
    ⟨1, .q .mv, [.tmp 2], (some 72), none, [], false⟩,
    ⟨2, .e (.call 25), [.tmp 71, .tmp 72], (some 73), none, [], false⟩,
    ⟨3, .q .mv, [.tmp 73], (some 70), none, [], false⟩,
    ⟨4, .q (.ext 0), [.tmp 70], (some 74), none, [], false⟩,
    ⟨5, .q (.ext 1), [.tmp 70], (some 75), none, [], false⟩,
    ⟨6, .q .mv, [.tmp 74], (some 22), none, [], false⟩,
    ⟨7, .q .mv, [.tmp 75], (some 23), none, [], false⟩])
  (.seq
  (.reg [⟨0, .q .mv, [.tmp 8], (some 76), none, [], false⟩,
    ⟨1, .q .mv, [.tmp 10], (some 77), none, [], false⟩,
    ⟨2, .q .mv, [.tmp 9], (some 78), none, [], false⟩,
    ⟨3, .q .mv, [.tmp 11], (some 79), none, [], false⟩,
    ⟨4, .e (.call 26), [.tmp 76, .tmp 77, .tmp 78, .tmp 79], (some 80), none, [], false⟩,
    ⟨5, .q (.un .not), [.tmp 80], (some 81), none, [], false⟩,
    ⟨6, .q .mv, [.tmp 81], (some 82), none, [], false⟩,
    ⟨7, .q .mv, [.tmp 12], (some 83), (some (82, false)), [], false⟩,
    ⟨8, .q .mv, [.tmp 14], (some 84), (some (82, false)), [], false⟩,
    ⟨9, .q .mv, [.tmp 13], (some 85), (some (82, false)), [], false⟩,
    ⟨10, .q .mv, [.tmp 15], (some 86), (some (82, false)), [], false⟩,
    ⟨11, .e (.call 26), [.tmp 83, .tmp 84, .tmp 85, .tmp 86], (some 87), (some (82, false)), [], false⟩,
    ⟨12, .q (.un .not), [.tmp 87], (some 88), (some (82, false)), [], false⟩,
    ⟨13, .q .pick, [.tmp 82, .const (.bool true), .tmp 88], (some 89), none, [], false⟩,
    ⟨14, .q .mv, [.tmp 89], (some 90), none, [], false⟩,
    ⟨15, .q .mv, [.tmp 16], (some 91), (some (90, false)), [], false⟩,
    ⟨16, .q .mv, [.tmp 18], (some 92), (some (90, false)), [], false⟩,
    ⟨17, .q .mv, [.tmp 17], (some 93), (some (90, false)), [], false⟩,
    ⟨18, .q .mv, [.tmp 19], (some 94), (some (90, false)), [], false⟩,
    ⟨19, .e (.call 26), [.tmp 91, .tmp 92, .tmp 93, .tmp 94], (some 95), (some (90, false)), [], false⟩,
    ⟨20, .q (.un .not), [.tmp 95], (some 96), (some (90, false)), [], false⟩,
    ⟨21, .q .pick, [.tmp 90, .const (.bool true), .tmp 96], (some 97), none, [], false⟩,
    ⟨22, .q .mv, [.tmp 97], (some 98), none, [], false⟩,
    ⟨23, .q .mv, [.tmp 20], (some 99), (some (98, false)), [], false⟩,
    ⟨24, .q .mv, [.tmp 22], (some 100), (some (98, false)), [], false⟩,
    ⟨25, .q .mv, [.tmp 21], (some 101), (some (98, false)), [], false⟩,
    ⟨26, .q .mv, [.tmp 23], (some 102), (some (98, false)), [], false⟩,
    ⟨27, .e (.call 26), [.tmp 99, .tmp 100, .tmp 101, .tmp 102], (some 103), (some (98, false)), [], false⟩,
    ⟨28, .q (.un .not), [.tmp 103], (some 104), (some (98, false)), [], false⟩,
    ⟨29, .q .pick, [.tmp 98, .const (.bool true), .tmp 104], (some 105), none, [], false⟩])
  (.cond (.tmp 105)
   (.seq
   (.reg [⟨0, .q .mv, [.const (.bool false)], (some 6), none, [], false⟩])
   .ret)
   .skip)))))))))))
 (.reg [⟨0, .q .mv, [.tmp 7], (some 26), none, [], false⟩,
   ⟨1, .q (.bin .add), [.tmp 26, .const (.int .i64 1)], (some 27), none, [], false⟩,
   ⟨2, .q .mv, [.tmp 27], (some 7), none, [], false⟩])))
def L4 : LFn :=
 ⟨106, [.t 6],
 (.seq
 (.reg [⟨0, .q .mv, [.const (.bool false)], (some 6), none, [], false⟩])
 (.seq
 (.seq
 (.reg [⟨0, .q .mv, [.const (.int .i64 0)], (some 7), none, [], false⟩])
 (.block 0
  (.loop L4_0)))
 (.seq
 (.reg [⟨0, .q .mv, [.const (.bool true)], (some 6), none, [], false⟩])
 .ret)))⟩
theorem low4 : lowFn Tryd.prog Tryd.f4 = some L4 := by kernel_rfl
theorem call4 {args : List Value} {H : Heap} {S : Ending → Heap → Prop} (hn : args.length ≤ L4.n) (h : awpC Tryd.prog L4.body (retQ L4.results S) (fun ch H => S (.panicked ch) H) (env0 args) H) : ACalls Tryd.prog 4 args.toArray H S := acalls mixed Tryd.func4 low4 hn h
end Go.Proofs.YtigignkgblaoaaaDoor.Low
