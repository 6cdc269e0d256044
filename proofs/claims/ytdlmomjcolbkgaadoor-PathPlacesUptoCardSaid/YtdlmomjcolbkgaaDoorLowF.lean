/-
  Functions in short (out of the program's form in Lean, by the kernel).
-/
import Derived.Test.YtdlmomjcolbkgaaDoorSepCode
import Derived.Test.YtdlmomjcolbkgaaDoorProg
namespace Go.Proofs.YtdlmomjcolbkgaaDoor.Low
open Go Go.Proofs.YtdlmomjcolbkgaaDoor.Sep
theorem mixed : Tryd.prog.follows .mixedOrders = true := by kernel_rfl
/-- satchel/satchellaw09.PathPlaces -/
def L7 : LFn :=
 ⟨102, [.t 4],
 (.seq
 (.reg [⟨0, .q .mv, [.const (.bool false)], (some 4), none, [], false⟩])
 (.seq
 (.reg [⟨0, .e (.lits 9 #[] 0 []), [], (some 15), none, [], false⟩,
   ⟨1, .q .mv, [.tmp 0], (some 16), none, [], false⟩,
   ⟨2, .e (.app 9 1 16 #[(.string ⟨#[]⟩)]), [.tmp 15, .tmp 16], (some 17), none, [], false⟩,
   ⟨3, .e (.lits 9 #[] 0 []), [], (some 18), none, [], false⟩,
   ⟨4, .q .mv, [.tmp 1], (some 19), none, [], false⟩,
   ⟨5, .e (.app 9 1 16 #[(.string ⟨#[]⟩)]), [.tmp 18, .tmp 19], (some 20), none, [], false⟩,
   ⟨6, .q .mv, [.tmp 17], (some 5), none, [], false⟩,
   ⟨7, .q .mv, [.tmp 20], (some 6), none, [], false⟩])
 (.seq
 (.reg [⟨0, .q .mv, [.tmp 5], (some 22), none, [], false⟩,
   ⟨1, .q .mv, [.tmp 6], (some 23), none, [], false⟩,
   ⟨2, .e (.call 18), [.tmp 22, .tmp 23], (some 24), none, [], false⟩,
   ⟨3, .q .mv, [.tmp 24], (some 21), none, [], false⟩,
   ⟨4, .q (.ext 0), [.tmp 21], (some 25), none, [], false⟩,
   ⟨5, .q (.ext 1), [.tmp 21], (some 26), none, [], false⟩,
   ⟨6, .q .mv, [.tmp 25], (some 7), none, [], false⟩,
   ⟨7, .q .mv, [.tmp 26], (some 8), none, [], false⟩])
 (.seq
 (.seq
 (.reg [⟨0, .q .mv, [.tmp 8], (some 27), none, [], false⟩,
   ⟨1, .q (.bin .neq), [.tmp 27, .const (.int .i64 0)], (some 28), none, [], false⟩])
 (.cond (.tmp 28)
  (.seq
  (.reg [⟨0, .e (.lits 9 #[] 0 []), [], (some 30), none, [], false⟩,
    ⟨1, .q .mv, [.tmp 0], (some 31), none, [], false⟩,
    ⟨2, .e (.app 9 1 16 #[(.string ⟨#[]⟩)]), [.tmp 30, .tmp 31], (some 32), none, [], false⟩,
    ⟨3, .q .mv, [.tmp 1], (some 33), none, [], false⟩,
    ⟨4, .e (.app 9 1 16 #[(.string ⟨#[]⟩)]), [.tmp 32, .tmp 33], (some 34), none, [], false⟩,
    ⟨5, .e (.call 17), [.tmp 34], (some 35), none, [], false⟩,
    ⟨6, .q .mv, [.tmp 35], (some 29), none, [], false⟩,
    ⟨7, .q (.ext 0), [.tmp 29], (some 36), none, [], false⟩,
    ⟨8, .q (.ext 1), [.tmp 29], (some 37), none, [], false⟩,
    ⟨9, .q .mv, [.tmp 36], (some 9), none, [], false⟩,
    ⟨10, .q .mv, [.tmp 37], (some 10), none, [], false⟩])
  (.seq
  (.reg [⟨0, .q .mv, [.tmp 10], (some 38), none, [], false⟩,
    ⟨1, .q .mv, [.tmp 8], (some 39), none, [], false⟩,
    ⟨2, .q (.bin .eql), [.tmp 38, .tmp 39], (some 40), none, [], false⟩,
    ⟨3, .q .mv, [.tmp 40], (some 41), none, [], false⟩,
    ⟨4, .q .mv, [.tmp 7], (some 42), (some (41, true)), [], false⟩,
    ⟨5, .q .len, [.tmp 42], (some 43), (some (41, true)), [], false⟩,
    ⟨6, .q (.bin .eql), [.tmp 43, .const (.int .i64 0)], (some 44), (some (41, true)), [], false⟩,
    ⟨7, .q .pick, [.tmp 41, .tmp 44, .const (.bool false)], (some 45), none, [], false⟩,
    ⟨8, .q .mv, [.tmp 45], (some 4), none, [], false⟩])
  .ret))
  .skip))
 (.seq
 (.seq
 (.reg [⟨0, .q .mv, [.tmp 7], (some 46), none, [], false⟩,
   ⟨1, .q .len, [.tmp 46], (some 47), none, [], false⟩,
   ⟨2, .q .mv, [.tmp 0], (some 48), none, [], false⟩,
   ⟨3, .q .len, [.tmp 48], (some 49), none, [], false⟩,
   ⟨4, .q .mv, [.tmp 1], (some 50), none, [], false⟩,
   ⟨5, .q .len, [.tmp 50], (some 51), none, [], false⟩,
   ⟨6, .q (.bin .add), [.tmp 49, .tmp 51], (some 52), none, [], false⟩,
   ⟨7, .q (.bin .neq), [.tmp 47, .tmp 52], (some 53), none, [], false⟩,
   ⟨8, .q .mv, [.tmp 53], (some 54), none, [], false⟩,
   ⟨9, .q .mv, [.tmp 7], (some 55), (some (54, false)), [], false⟩,
   ⟨10, .q .mv, [.tmp 0], (some 56), (some (54, false)), [], false⟩,
   ⟨11, .e (.call 19), [.tmp 55, .tmp 56], (some 57), (some (54, false)), [], false⟩,
   ⟨12, .q .mv, [.tmp 1], (some 58), (some (54, false)), [], false⟩,
   ⟨13, .q .len, [.tmp 58], (some 59), (some (54, false)), [], false⟩,
   ⟨14, .q (.bin .gtr), [.tmp 59, .const (.int .i64 0)], (some 60), (some (54, false)), [], false⟩,
   ⟨15, .q (.eqb true), [.tmp 57, .tmp 60], (some 61), (some (54, false)), [], false⟩,
   ⟨16, .q .pick, [.tmp 54, .const (.bool true), .tmp 61], (some 62), none, [], false⟩])
 (.cond (.tmp 62)
  (.seq
  (.reg [⟨0, .q .mv, [.const (.bool false)], (some 4), none, [], false⟩])
  .ret)
  .skip))
 (.seq
 (.reg [⟨0, .q .mv, [.tmp 7], (some 64), none, [], false⟩,
   ⟨1, .q .mv, [.tmp 0], (some 65), none, [], false⟩,
   ⟨2, .q .len, [.tmp 65], (some 66), none, [], false⟩,
   ⟨3, .e (.call 20), [.tmp 64, .tmp 66], (some 67), none, [], false⟩,
   ⟨4, .q .mv, [.tmp 67], (some 63), none, [], false⟩,
   ⟨5, .q (.ext 0), [.tmp 63], (some 68), none, [], false⟩,
   ⟨6, .q (.ext 1), [.tmp 63], (some 69), none, [], false⟩,
   ⟨7, .q .mv, [.tmp 68], (some 11), none, [], false⟩,
   ⟨8, .q .mv, [.tmp 69], (some 12), none, [], false⟩])
 (.seq
 (.seq
 (.reg [⟨0, .q .mv, [.tmp 12], (some 70), none, [], false⟩,
   ⟨1, .q .mv, [.tmp 1], (some 71), none, [], false⟩,
   ⟨2, .q .len, [.tmp 71], (some 72), none, [], false⟩,
   ⟨3, .q (.bin .gtr), [.tmp 72, .const (.int .i64 0)], (some 73), none, [], false⟩,
   ⟨4, .q (.eqb true), [.tmp 70, .tmp 73], (some 74), none, [], false⟩,
   ⟨5, .q .mv, [.tmp 74], (some 75), none, [], false⟩,
   ⟨6, .q .mv, [.tmp 12], (some 76), (some (75, false)), [], false⟩,
   ⟨7, .q .mv, [.tmp 76], (some 77), (some (75, false)), [], false⟩,
   ⟨8, .q .mv, [.tmp 11], (some 78), (some (77, true)), [], false⟩,
   ⟨9, .q .mv, [.tmp 1], (some 79), (some (77, true)), [], false⟩,
   ⟨10, .e (.call 10), [.tmp 78, .tmp 79], (some 80), (some (77, true)), [], false⟩,
   ⟨11, .q (.un .not), [.tmp 80], (some 81), (some (77, true)), [], false⟩,
   ⟨12, .q .pick, [.tmp 77, .tmp 81, .const (.bool false)], (some 82), (some (75, false)), [], false⟩,
   ⟨13, .q .pick, [.tmp 75, .const (.bool true), .tmp 82], (some 83), none, [], false⟩])
 (.cond (.tmp 83)
  (.seq
  (.reg [⟨0, .q .mv, [.const (.bool false)], (some 4), none, [], false⟩])
  .ret)
  .skip))
 (.seq
 (.reg [⟨0, .q .mv, [.tmp 7], (some 85), none, [], false⟩,
   ⟨1, .e (.call 17), [.tmp 85], (some 86), none, [], false⟩,
   ⟨2, .q .mv, [.tmp 86], (some 84), none, [], false⟩,
   ⟨3, .q (.ext 0), [.tmp 84], (some 87), none, [], false⟩,
   ⟨4, .q (.ext 1), [.tmp 84], (some 88), none, [], false⟩,
   ⟨5, .q .mv, [.tmp 87], (some 13), none, [], false⟩,
   ⟨6, .q .mv, [.tmp 88], (some 14), none, [], false⟩])
 (.seq
 (.reg [⟨0, .q .mv, [.tmp 14], (some 89), none, [], false⟩,
   ⟨1, .q (.bin .eql), [.tmp 89, .const (.int .i64 0)], (some 90), none, [], false⟩,
   ⟨2, .q .mv, [.tmp 90], (some 91), none, [], false⟩,
   ⟨3, .q .mv, [.tmp 13], (some 92), (some (91, true)), [], false⟩,
   ⟨4, .e (.call 8), [.const (.slice none 0 0), .tmp 92], (some 93), (some (91, true)), [], false⟩,
   ⟨5, .q (.un .not), [.tmp 93], (some 94), (some (91, true)), [], false⟩,
   ⟨6, .q .pick, [.tmp 91, .tmp 94, .const (.bool false)], (some 95), none, [], false⟩,
   ⟨7, .q .mv, [.tmp 95], (some 96), none, [], false⟩,
   ⟨8, .q .mv, [.tmp 5], (some 97), (some (96, true)), [], false⟩,
   ⟨9, .q .mv, [.tmp 13], (some 98), (some (96, true)), [], false⟩,
   ⟨10, .e (.call 8), [.tmp 97, .tmp 98], (some 99), (some (96, true)), [], false⟩,
   ⟨11, .q (.un .not), [.tmp 99], (some 100), (some (96, true)), [], false⟩,
   ⟨12, .q .pick, [.tmp 96, .tmp 100, .const (.bool false)], (some 101), none, [], false⟩,
   ⟨13, .q .mv, [.tmp 101], (some 4), none, [], false⟩])
 .ret)))))))))⟩
theorem low7 : lowFn Tryd.prog Tryd.f7 = some L7 := by kernel_rfl
theorem call7 {args : List Value} {H : Heap} {S : Ending → Heap → Prop} (hn : args.length ≤ L7.n) (h : awpC Tryd.prog L7.body (retQ L7.results S) (fun ch H => S (.panicked ch) H) (env0 args) H) : ACalls Tryd.prog 7 args.toArray H S := acalls mixed Tryd.func7 low7 hn h
end Go.Proofs.YtdlmomjcolbkgaaDoor.Low
