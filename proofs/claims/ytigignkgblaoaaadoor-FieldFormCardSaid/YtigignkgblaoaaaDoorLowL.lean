/-
  Functions in short (out of the program's form in Lean, by the kernel).
-/
import Derived.Test.YtigignkgblaoaaaDoorSepCode
import Derived.Test.YtigignkgblaoaaaDoorProg
namespace Go.Proofs.YtigignkgblaoaaaDoor.Low
open Go Go.Proofs.YtigignkgblaoaaaDoor.Sep
theorem mixed : Tryd.prog.follows .mixedOrders = true := by kernel_rfl
/-- satchel/satchellaw12.lives -/

@[irreducible] def L35_33 : LCode :=
 (.seq
 (.reg [⟨0, .q (.build (Array.replicate 512 (.int .u8 0)) []), [], (some 33), none, [], false⟩,
   ⟨1, .e (.call 27), [.tmp 33], (some 34), none, [], false⟩,
   ⟨2, .q .mv, [.tmp 34], (some 32), none, [], false⟩,
   ⟨3, .q (.ext 0), [.tmp 32], (some 35), none, [], false⟩,
   ⟨4, .q (.ext 1), [.tmp 32], (some 36), none, [], false⟩,
   ⟨5, .q .mv, [.tmp 35], (some 9), none, [], false⟩,
   ⟨6, .q .mv, [.tmp 36], (some 10), none, [], false⟩])
 (.seq
 (.reg [⟨0, .q .mv, [.tmp 1], (some 37), none, [], false⟩,
   ⟨1, .q (.bin .eql), [.tmp 37, .const (.int .i64 420)], (some 38), none, [], false⟩,
   ⟨2, .q .mv, [.tmp 38], (some 39), none, [], false⟩,
   ⟨3, .q .mv, [.tmp 2], (some 40), (some (39, true)), [], false⟩,
   ⟨4, .q (.bin .eql), [.tmp 40, .const (.int .i64 0)], (some 41), (some (39, true)), [], false⟩,
   ⟨5, .q .pick, [.tmp 39, .tmp 41, .const (.bool false)], (some 42), none, [], false⟩,
   ⟨6, .q .mv, [.tmp 42], (some 43), none, [], false⟩,
   ⟨7, .q .mv, [.tmp 3], (some 44), (some (43, true)), [], false⟩,
   ⟨8, .q (.bin .eql), [.tmp 44, .const (.int .i64 (-16384))], (some 45), (some (43, true)), [], false⟩,
   ⟨9, .q .pick, [.tmp 43, .tmp 45, .const (.bool false)], (some 46), none, [], false⟩,
   ⟨10, .q .mv, [.tmp 46], (some 47), none, [], false⟩,
   ⟨11, .q .mv, [.tmp 4], (some 48), (some (47, true)), [], false⟩,
   ⟨12, .q (.bin .eql), [.tmp 48, .const (.int .i64 0)], (some 49), (some (47, true)), [], false⟩,
   ⟨13, .q .pick, [.tmp 47, .tmp 49, .const (.bool false)], (some 50), none, [], false⟩,
   ⟨14, .q .mv, [.tmp 50], (some 51), none, [], false⟩,
   ⟨15, .q .mv, [.tmp 6], (some 52), (some (51, true)), [], false⟩,
   ⟨16, .q (.bin .eql), [.tmp 52, .const (.int .i64 120)], (some 53), (some (51, true)), [], false⟩,
   ⟨17, .q .pick, [.tmp 51, .tmp 53, .const (.bool false)], (some 54), none, [], false⟩,
   ⟨18, .q .mv, [.tmp 54], (some 55), none, [], false⟩,
   ⟨19, .q .mv, [.tmp 7], (some 56), (some (55, true)), [], false⟩,
   ⟨20, .q .b2s, [.tmp 56], (some 57), (some (55, true)), [], false⟩,
   ⟨21, .q (.bin .eql), [.tmp 57, .const (.string ⟨#[255, 255, 255]⟩)], (some 58), (some (55, true)), [], false⟩,
   ⟨22, .q .pick, [.tmp 55, .tmp 58, .const (.bool false)], (some 59), none, [], false⟩,
   ⟨23, .q .mv, [.tmp 59], (some 60), none, [], false⟩,
   ⟨24, .q .mv, [.tmp 8], (some 61), (some (60, true)), [], false⟩,
   ⟨25, .q (.bin .eql), [.tmp 61, .const (.int .i64 0)], (some 62), (some (60, true)), [], false⟩,
   ⟨26, .q .pick, [.tmp 60, .tmp 62, .const (.bool false)], (some 63), none, [], false⟩,
   ⟨27, .q .mv, [.tmp 63], (some 64), none, [], false⟩,
   ⟨28, .q .mv, [.tmp 9], (some 65), (some (64, true)), [], false⟩,
   ⟨29, .q (.bin .eql), [.tmp 65, .const (.int .i64 256)], (some 66), (some (64, true)), [], false⟩,
   ⟨30, .q .pick, [.tmp 64, .tmp 66, .const (.bool false)], (some 67), none, [], false⟩,
   ⟨31, .q .mv, [.tmp 67], (some 68), none, [], false⟩,
   ⟨32, .q .mv, [.tmp 10], (some 69), (some (68, true)), [], false⟩,
   ⟨33, .q (.bin .eql), [.tmp 69, .const (.int .i64 256)], (some 70), (some (68, true)), [], false⟩,
   ⟨34, .q .pick, [.tmp 68, .tmp 70, .const (.bool false)], (some 71), none, [], false⟩,
   ⟨35, .q .mv, [.tmp 71], (some 0), none, [], false⟩])
 .ret))
def L35_29 : LCode :=
 (.seq
 (.reg [⟨0, .e (.call 20), [.const (.int .i64 (-1)), .const (.int .i64 3)], (some 29), none, [], false⟩,
   ⟨1, .q .mv, [.tmp 29], (some 28), none, [], false⟩,
   ⟨2, .q (.ext 0), [.tmp 28], (some 30), none, [], false⟩,
   ⟨3, .q (.ext 1), [.tmp 28], (some 31), none, [], false⟩,
   ⟨4, .q .mv, [.tmp 30], (some 7), none, [], false⟩,
   ⟨5, .q .mv, [.tmp 31], (some 8), none, [], false⟩])
 L35_33)
@[irreducible] def L35_23 : LCode :=
 (.seq
 (.reg [⟨0, .e (.lits 5 #[(.int .u8 0)] 1 [(0, 1)]), [.const (.int .u8 56)], (some 23), none, [], false⟩,
   ⟨1, .e .mrk, [.tmp 23], (some 24), none, [], false⟩,
   ⟨2, .e (.call 10), [.tmp 24], (some 25), none, [], false⟩,
   ⟨3, .q .mv, [.tmp 25], (some 22), none, [], false⟩,
   ⟨4, .q (.ext 0), [.tmp 22], (some 26), none, [], false⟩,
   ⟨5, .q (.ext 1), [.tmp 22], (some 27), none, [], false⟩,
   ⟨6, .q .mv, [.tmp 26], (some 5), none, [], false⟩,
   ⟨7, .q .mv, [.tmp 27], (some 6), none, [], false⟩])
 L35_29)
def L35_18 : LCode :=
 (.seq
 (.reg [⟨0, .e (.lits 5 #[(.int .u8 0), (.int .u8 0)] 2 [(0, 1), (1, 1)]), [.const (.int .u8 192), .const (.int .u8 0)], (some 18), none, [], false⟩,
   ⟨1, .e (.call 12), [.tmp 18], (some 19), none, [], false⟩,
   ⟨2, .q .mv, [.tmp 19], (some 17), none, [], false⟩,
   ⟨3, .q (.ext 0), [.tmp 17], (some 20), none, [], false⟩,
   ⟨4, .q (.ext 1), [.tmp 17], (some 21), none, [], false⟩,
   ⟨5, .q .mv, [.tmp 20], (some 3), none, [], false⟩,
   ⟨6, .q .mv, [.tmp 21], (some 4), none, [], false⟩])
 L35_23)
@[irreducible] def L35_12 : LCode :=
 (.seq
 (.reg [⟨0, .e (.lits 5 #[(.int .u8 0), (.int .u8 0), (.int .u8 0), (.int .u8 0), (.int .u8 0), (.int .u8 0), (.int .u8 0), (.int .u8 0)] 8 [(0, 1), (1, 1), (2, 1), (3, 1), (4, 1), (5, 1), (6, 1), (7, 1)]), [.const (.int .u8 48), .const (.int .u8 48), .const (.int .u8 48), .const (.int .u8 48), .const (.int .u8 54), .const (.int .u8 52), .const (.int .u8 52), .const (.int .u8 0)], (some 12), none, [], false⟩,
   ⟨1, .e .mrk, [.tmp 12], (some 13), none, [], false⟩,
   ⟨2, .e (.call 10), [.tmp 13], (some 14), none, [], false⟩,
   ⟨3, .q .mv, [.tmp 14], (some 11), none, [], false⟩,
   ⟨4, .q (.ext 0), [.tmp 11], (some 15), none, [], false⟩,
   ⟨5, .q (.ext 1), [.tmp 11], (some 16), none, [], false⟩,
   ⟨6, .q .mv, [.tmp 15], (some 1), none, [], false⟩,
   ⟨7, .q .mv, [.tmp 16], (some 2), none, [], false⟩])
 L35_18)
def L35 : LFn :=
 ⟨72, [.t 0],
 (.seq
 (.reg [⟨0, .q .mv, [.const (.bool false)], (some 0), none, [], false⟩])
 L35_12)⟩
theorem low35 : lowFn Tryd.prog Tryd.f35 = some L35 := by kernel_rfl
theorem call35 {args : List Value} {H : Heap} {S : Ending → Heap → Prop} (hn : args.length ≤ L35.n) (h : awpC Tryd.prog L35.body (retQ L35.results S) (fun ch H => S (.panicked ch) H) (env0 args) H) : ACalls Tryd.prog 35 args.toArray H S := acalls mixed Tryd.func35 low35 hn h
end Go.Proofs.YtigignkgblaoaaaDoor.Low
