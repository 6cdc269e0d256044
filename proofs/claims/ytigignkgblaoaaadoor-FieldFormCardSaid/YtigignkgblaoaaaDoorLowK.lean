/-
  Functions in short (out of the program's form in Lean, by the kernel).
-/
import Derived.Test.YtigignkgblaoaaaDoorSepCode
import Derived.Test.YtigignkgblaoaaaDoorProg
namespace Go.Proofs.YtigignkgblaoaaaDoor.Low
open Go Go.Proofs.YtigignkgblaoaaaDoor.Sep
theorem mixed : Tryd.prog.follows .mixedOrders = true := by kernel_rfl
/-- satchel/satchellaw12.FieldForm -/
def L6_0 : LCode :=
 (.seq
 (.reg [⟨0, .q .mv, [.tmp 0], (some 44), none, [], false⟩,
   ⟨1, .e (.call 10), [.tmp 44], (some 45), none, [], false⟩,
   ⟨2, .q .mv, [.tmp 45], (some 43), none, [], false⟩,
   ⟨3, .q (.ext 0), [.tmp 43], (some 46), none, [], false⟩,
   ⟨4, .q (.ext 1), [.tmp 43], (some 47), none, [], false⟩,
   ⟨5, .q .mv, [.tmp 46], (some 7), none, [], false⟩,
   ⟨6, .q .mv, [.tmp 47], (some 8), none, [], false⟩])
 (.seq
 (.seq
 (.reg [⟨0, .q .mv, [.tmp 8], (some 48), none, [], false⟩,
   ⟨1, .q (.bin .neq), [.tmp 48, .const (.int .i64 0)], (some 49), none, [], false⟩])
 (.cond (.tmp 49)
  (.seq
  (.reg [⟨0, .q .mv, [.tmp 7], (some 50), none, [], false⟩,
    ⟨1, .q (.bin .eql), [.tmp 50, .const (.int .i64 0)], (some 51), none, [], false⟩,
    ⟨2, .q .mv, [.tmp 51], (some 2), none, [], false⟩])
  .ret)
  .skip))
 (.seq
 (.seq
 (.reg [⟨0, .q .mv, [.tmp 0], (some 52), none, [], false⟩,
   ⟨1, .q .len, [.tmp 52], (some 53), none, [], false⟩,
   ⟨2, .q (.bin .lss), [.tmp 53, .const (.int .i64 2)], (some 54), none, [], false⟩,
   ⟨3, .q .mv, [.tmp 54], (some 55), none, [], false⟩,
   ⟨4, .q .mv, [.tmp 0], (some 56), (some (55, false)), [], false⟩,
   ⟨5, .q .len, [.tmp 56], (some 57), (some (55, false)), [], false⟩,
   ⟨6, .q (.bin .gtr), [.tmp 57, .const (.int .i64 512)], (some 58), (some (55, false)), [], false⟩,
   ⟨7, .q .pick, [.tmp 55, .const (.bool true), .tmp 58], (some 59), none, [], false⟩])
 (.cond (.tmp 59)
  (.seq
  (.reg [⟨0, .q .mv, [.tmp 7], (some 60), none, [], false⟩,
    ⟨1, .q (.bin .geq), [.tmp 60, .const (.int .i64 0)], (some 61), none, [], false⟩,
    ⟨2, .q .mv, [.tmp 61], (some 2), none, [], false⟩])
  .ret)
  .skip))
 (.seq
 (.reg [⟨0, .q .mv, [.tmp 7], (some 63), none, [], false⟩,
   ⟨1, .q .mv, [.tmp 0], (some 64), none, [], false⟩,
   ⟨2, .q .len, [.tmp 64], (some 65), none, [], false⟩,
   ⟨3, .e (.call 18), [.tmp 63, .tmp 65], (some 66), none, [], false⟩,
   ⟨4, .q .mv, [.tmp 66], (some 62), none, [], false⟩,
   ⟨5, .q (.ext 0), [.tmp 62], (some 67), none, [], false⟩,
   ⟨6, .q (.ext 1), [.tmp 62], (some 68), none, [], false⟩,
   ⟨7, .q .mv, [.tmp 67], (some 9), none, [], false⟩,
   ⟨8, .q .mv, [.tmp 68], (some 10), none, [], false⟩])
 (.seq
 (.seq
 (.reg [⟨0, .q .mv, [.tmp 10], (some 69), none, [], false⟩,
   ⟨1, .q (.bin .neq), [.tmp 69, .const (.int .i64 0)], (some 70), none, [], false⟩])
 (.cond (.tmp 70)
  (.seq
  (.reg [⟨0, .q .mv, [.tmp 7], (some 71), none, [], false⟩,
    ⟨1, .q (.bin .geq), [.tmp 71, .const (.int .i64 0)], (some 72), none, [], false⟩,
    ⟨2, .q .mv, [.tmp 72], (some 73), none, [], false⟩,
    ⟨3, .q .mv, [.tmp 10], (some 74), (some (73, true)), [], false⟩,
    ⟨4, .q (.bin .eql), [.tmp 74, .const (.int .i64 122)], (some 75), (some (73, true)), [], false⟩,
    ⟨5, .q .pick, [.tmp 73, .tmp 75, .const (.bool false)], (some 76), none, [], false⟩,
    ⟨6, .q .mv, [.tmp 76], (some 2), none, [], false⟩])
  .ret)
  .skip))
 (.seq
 (.reg [⟨0, .q .mv, [.tmp 9], (some 78), none, [], false⟩,
   ⟨1, .e (.call 10), [.tmp 78], (some 79), none, [], false⟩,
   ⟨2, .q .mv, [.tmp 79], (some 77), none, [], false⟩,
   ⟨3, .q (.ext 0), [.tmp 77], (some 80), none, [], false⟩,
   ⟨4, .q (.ext 1), [.tmp 77], (some 81), none, [], false⟩,
   ⟨5, .q .mv, [.tmp 80], (some 11), none, [], false⟩,
   ⟨6, .q .mv, [.tmp 81], (some 12), none, [], false⟩])
 (.seq
 (.reg [⟨0, .q .mv, [.tmp 12], (some 82), none, [], false⟩,
   ⟨1, .q (.bin .eql), [.tmp 82, .const (.int .i64 0)], (some 83), none, [], false⟩,
   ⟨2, .q .mv, [.tmp 83], (some 84), none, [], false⟩,
   ⟨3, .q .mv, [.tmp 11], (some 85), (some (84, true)), [], false⟩,
   ⟨4, .q .mv, [.tmp 7], (some 86), (some (84, true)), [], false⟩,
   ⟨5, .q (.bin .eql), [.tmp 85, .tmp 86], (some 87), (some (84, true)), [], false⟩,
   ⟨6, .q .pick, [.tmp 84, .tmp 87, .const (.bool false)], (some 88), none, [], false⟩,
   ⟨7, .q .mv, [.tmp 88], (some 89), none, [], false⟩,
   ⟨8, .q .mv, [.tmp 9], (some 90), (some (89, true)), [], false⟩,
   ⟨9, .q .mv, [.tmp 9], (some 91), (some (89, true)), [], false⟩,
   ⟨10, .q .len, [.tmp 91], (some 92), (some (89, true)), [], false⟩,
   ⟨11, .q (.bin .sub), [.tmp 92, .const (.int .i64 1)], (some 93), (some (89, true)), [], false⟩,
   ⟨12, .q (.iad 1), [.tmp 90, .tmp 93], (some 94), (some (89, true)), [], false⟩,
   ⟨13, .q .ld, [.tmp 94], (some 95), (some (89, true)), [], false⟩,
   ⟨14, .q (.bin .eql), [.tmp 95, .const (.int .u8 0)], (some 96), (some (89, true)), [], false⟩,
   ⟨15, .q .pick, [.tmp 89, .tmp 96, .const (.bool false)], (some 97), none, [], false⟩,
   ⟨16, .q .mv, [.tmp 97], (some 2), none, [], false⟩])
 .ret)))))))
def L6 : LFn :=
 ⟨98, [.t 2],
 (.seq
 (.reg [⟨0, .q .mv, [.const (.bool false)], (some 2), none, [], false⟩])
 (.seq
 (.seq
 (.reg [⟨0, .e (.call 35), [], (some 13), none, [], false⟩,
   ⟨1, .q (.un .not), [.tmp 13], (some 14), none, [], false⟩])
 (.cond (.tmp 14)
  (.seq
  (.reg [⟨0, .q .mv, [.const (.bool false)], (some 2), none, [], false⟩])
  .ret)
  .skip))
 (.seq
 (.reg [⟨0, .q .mv, [.tmp 0], (some 16), none, [], false⟩,
   ⟨1, .e (.call 12), [.tmp 16], (some 17), none, [], false⟩,
   ⟨2, .q .mv, [.tmp 17], (some 15), none, [], false⟩,
   ⟨3, .q (.ext 0), [.tmp 15], (some 18), none, [], false⟩,
   ⟨4, .q (.ext 1), [.tmp 15], (some 19), none, [], false⟩,
   ⟨5, .q .mv, [.tmp 18], (some 3), none, [], false⟩,
   ⟨6, .q .mv, [.tmp 19], (some 4), none, [], false⟩])
 (.seq
 (.seq
 (.reg [⟨0, .q .mv, [.tmp 4], (some 20), none, [], false⟩,
   ⟨1, .q (.bin .eql), [.tmp 20, .const (.int .i64 0)], (some 21), none, [], false⟩,
   ⟨2, .q .mv, [.tmp 21], (some 22), none, [], false⟩,
   ⟨3, .q .mv, [.tmp 0], (some 23), (some (22, true)), [], false⟩,
   ⟨4, .q .len, [.tmp 23], (some 24), (some (22, true)), [], false⟩,
   ⟨5, .q (.bin .leq), [.tmp 24, .const (.int .i64 512)], (some 25), (some (22, true)), [], false⟩,
   ⟨6, .q .pick, [.tmp 22, .tmp 25, .const (.bool false)], (some 26), none, [], false⟩])
 (.cond (.tmp 26)
  (.seq
  (.reg [⟨0, .q .mv, [.tmp 3], (some 28), none, [], false⟩,
    ⟨1, .q .mv, [.tmp 0], (some 29), none, [], false⟩,
    ⟨2, .q .len, [.tmp 29], (some 30), none, [], false⟩,
    ⟨3, .e (.call 20), [.tmp 28, .tmp 30], (some 31), none, [], false⟩,
    ⟨4, .q .mv, [.tmp 31], (some 27), none, [], false⟩,
    ⟨5, .q (.ext 0), [.tmp 27], (some 32), none, [], false⟩,
    ⟨6, .q (.ext 1), [.tmp 27], (some 33), none, [], false⟩,
    ⟨7, .q .mv, [.tmp 32], (some 5), none, [], false⟩,
    ⟨8, .q .mv, [.tmp 33], (some 6), none, [], false⟩])
  (.seq
  (.reg [⟨0, .q .mv, [.tmp 6], (some 34), none, [], false⟩,
    ⟨1, .q (.bin .neq), [.tmp 34, .const (.int .i64 0)], (some 35), none, [], false⟩,
    ⟨2, .q .mv, [.tmp 35], (some 36), none, [], false⟩,
    ⟨3, .q .mv, [.tmp 5], (some 37), (some (36, false)), [], false⟩,
    ⟨4, .q .b2s, [.tmp 37], (some 38), (some (36, false)), [], false⟩,
    ⟨5, .q .mv, [.tmp 0], (some 39), (some (36, false)), [], false⟩,
    ⟨6, .q .b2s, [.tmp 39], (some 40), (some (36, false)), [], false⟩,
    ⟨7, .q (.bin .neq), [.tmp 38, .tmp 40], (some 41), (some (36, false)), [], false⟩,
    ⟨8, .q .pick, [.tmp 36, .const (.bool true), .tmp 41], (some 42), none, [], false⟩])
  (.cond (.tmp 42)
   (.seq
   (.reg [⟨0, .q .mv, [.const (.bool false)], (some 2), none, [], false⟩])
   .ret)
   .skip)))
  .skip))
 L6_0))))⟩
theorem low6 : lowFn Tryd.prog Tryd.f6 = some L6 := by kernel_rfl
theorem call6 {args : List Value} {H : Heap} {S : Ending → Heap → Prop} (hn : args.length ≤ L6.n) (h : awpC Tryd.prog L6.body (retQ L6.results S) (fun ch H => S (.panicked ch) H) (env0 args) H) : ACalls Tryd.prog 6 args.toArray H S := acalls mixed Tryd.func6 low6 hn h
/-- satchel/satchellaw12.FieldRise -/
def L7 : LFn :=
 ⟨81, [.t 6],
 (.seq
 (.reg [⟨0, .q .mv, [.const (.bool false)], (some 6), none, [], false⟩])
 (.seq
 (.seq
 (.reg [⟨0, .e (.call 35), [], (some 11), none, [], false⟩,
   ⟨1, .q (.un .not), [.tmp 11], (some 12), none, [], false⟩])
 (.cond (.tmp 12)
  (.seq
  (.reg [⟨0, .q .mv, [.const (.bool false)], (some 6), none, [], false⟩])
  .ret)
  .skip))
 (.seq
 (.reg [⟨0, .q .mv, [.tmp 0], (some 14), none, [], false⟩,
   ⟨1, .q .mv, [.tmp 2], (some 15), none, [], false⟩,
   ⟨2, .e (.call 18), [.tmp 14, .tmp 15], (some 16), none, [], false⟩,
   ⟨3, .q .mv, [.tmp 16], (some 13), none, [], false⟩,
   ⟨4, .q (.ext 0), [.tmp 13], (some 17), none, [], false⟩,
   ⟨5, .q (.ext 1), [.tmp 13], (some 18), none, [], false⟩,
   ⟨6, .q .mv, [.tmp 17], (some 7), none, [], false⟩,
   ⟨7, .q .mv, [.tmp 18], (some 8), none, [], false⟩])
 (.seq
 (.reg [⟨0, .q .mv, [.tmp 1], (some 20), none, [], false⟩,
   ⟨1, .q .mv, [.tmp 2], (some 21), none, [], false⟩,
   ⟨2, .e (.call 18), [.tmp 20, .tmp 21], (some 22), none, [], false⟩,
   ⟨3, .q .mv, [.tmp 22], (some 19), none, [], false⟩,
   ⟨4, .q (.ext 0), [.tmp 19], (some 23), none, [], false⟩,
   ⟨5, .q (.ext 1), [.tmp 19], (some 24), none, [], false⟩,
   ⟨6, .q .mv, [.tmp 23], (some 9), none, [], false⟩,
   ⟨7, .q .mv, [.tmp 24], (some 10), none, [], false⟩])
 (.seq
 (.seq
 (.reg [⟨0, .q .mv, [.tmp 8], (some 25), none, [], false⟩,
   ⟨1, .q (.bin .neq), [.tmp 25, .const (.int .i64 0)], (some 26), none, [], false⟩,
   ⟨2, .q .mv, [.tmp 26], (some 27), none, [], false⟩,
   ⟨3, .q .mv, [.tmp 10], (some 28), (some (27, false)), [], false⟩,
   ⟨4, .q (.bin .neq), [.tmp 28, .const (.int .i64 0)], (some 29), (some (27, false)), [], false⟩,
   ⟨5, .q .pick, [.tmp 27, .const (.bool true), .tmp 29], (some 30), none, [], false⟩])
 (.cond (.tmp 30)
  (.seq
  (.reg [⟨0, .q .mv, [.tmp 8], (some 31), none, [], false⟩,
    ⟨1, .q (.bin .neq), [.tmp 31, .const (.int .i64 0)], (some 32), none, [], false⟩,
    ⟨2, .q .mv, [.tmp 32], (some 33), none, [], false⟩,
    ⟨3, .q .mv, [.tmp 7], (some 34), (some (33, true)), [], false⟩,
    ⟨4, .q .len, [.tmp 34], (some 35), (some (33, true)), [], false⟩,
    ⟨5, .q (.bin .eql), [.tmp 35, .const (.int .i64 0)], (some 36), (some (33, true)), [], false⟩,
    ⟨6, .q .pick, [.tmp 33, .tmp 36, .const (.bool false)], (some 37), none, [], false⟩,
    ⟨7, .q .mv, [.tmp 37], (some 38), none, [], false⟩,
    ⟨8, .q .mv, [.tmp 10], (some 39), (some (38, false)), [], false⟩,
    ⟨9, .q (.bin .neq), [.tmp 39, .const (.int .i64 0)], (some 40), (some (38, false)), [], false⟩,
    ⟨10, .q .mv, [.tmp 40], (some 41), (some (38, false)), [], false⟩,
    ⟨11, .q .mv, [.tmp 9], (some 42), (some (41, true)), [], false⟩,
    ⟨12, .q .len, [.tmp 42], (some 43), (some (41, true)), [], false⟩,
    ⟨13, .q (.bin .eql), [.tmp 43, .const (.int .i64 0)], (some 44), (some (41, true)), [], false⟩,
    ⟨14, .q .pick, [.tmp 41, .tmp 44, .const (.bool false)], (some 45), (some (38, false)), [], false⟩,
    ⟨15, .q .pick, [.tmp 38, .const (.bool true), .tmp 45], (some 46), none, [], false⟩,
    ⟨16, .q .mv, [.tmp 46], (some 6), none, [], false⟩])
  .ret)
  .skip))
 (.seq
 (.seq
 (.reg [⟨0, .q .mv, [.tmp 7], (some 47), none, [], false⟩,
   ⟨1, .q .b2s, [.tmp 47], (some 48), none, [], false⟩,
   ⟨2, .q .mv, [.tmp 9], (some 49), none, [], false⟩,
   ⟨3, .q .b2s, [.tmp 49], (some 50), none, [], false⟩,
   ⟨4, .q (.bin .lss), [.tmp 48, .tmp 50], (some 51), none, [], false⟩,
   ⟨5, .q .mv, [.tmp 0], (some 52), none, [], false⟩,
   ⟨6, .q .mv, [.tmp 1], (some 53), none, [], false⟩,
   ⟨7, .q (.bin .lss), [.tmp 52, .tmp 53], (some 54), none, [], false⟩,
   ⟨8, .q (.eqb true), [.tmp 51, .tmp 54], (some 55), none, [], false⟩,
   ⟨9, .q .mv, [.tmp 55], (some 56), none, [], false⟩,
   ⟨10, .q .mv, [.tmp 7], (some 57), (some (56, false)), [], false⟩,
   ⟨11, .q .b2s, [.tmp 57], (some 58), (some (56, false)), [], false⟩,
   ⟨12, .q .mv, [.tmp 9], (some 59), (some (56, false)), [], false⟩,
   ⟨13, .q .b2s, [.tmp 59], (some 60), (some (56, false)), [], false⟩,
   ⟨14, .q (.bin .eql), [.tmp 58, .tmp 60], (some 61), (some (56, false)), [], false⟩,
   ⟨15, .q .mv, [.tmp 0], (some 62), (some (56, false)), [], false⟩,
   ⟨16, .q .mv, [.tmp 1], (some 63), (some (56, false)), [], false⟩,
   ⟨17, .q (.bin .eql), [.tmp 62, .tmp 63], (some 64), (some (56, false)), [], false⟩,
   ⟨18, .q (.eqb true), [.tmp 61, .tmp 64], (some 65), (some (56, false)), [], false⟩,
   ⟨19, .q .pick, [.tmp 56, .const (.bool true), .tmp 65], (some 66), none, [], false⟩])
 (.cond (.tmp 66)
  (.seq
  (.reg [⟨0, .q .mv, [.const (.bool false)], (some 6), none, [], false⟩])
  .ret)
  .skip))
 (.seq
 (.reg [⟨0, .q .mv, [.tmp 2], (some 67), none, [], false⟩,
   ⟨1, .q (.bin .gtr), [.tmp 67, .const (.int .i64 21)], (some 68), none, [], false⟩,
   ⟨2, .q .mv, [.tmp 68], (some 69), none, [], false⟩,
   ⟨3, .q .mv, [.tmp 0], (some 70), (some (69, false)), [], false⟩,
   ⟨4, .q (.bin .lss), [.tmp 70, .const (.int .i64 0)], (some 71), (some (69, false)), [], false⟩,
   ⟨5, .q .pick, [.tmp 69, .const (.bool true), .tmp 71], (some 72), none, [], false⟩,
   ⟨6, .q .mv, [.tmp 72], (some 73), none, [], false⟩,
   ⟨7, .q .mv, [.tmp 0], (some 74), (some (73, false)), [], false⟩,
   ⟨8, .q .mv, [.tmp 2], (some 75), (some (73, false)), [], false⟩,
   ⟨9, .q (.bin .sub), [.tmp 75, .const (.int .i64 1)], (some 76), (some (73, false)), [], false⟩,
   ⟨10, .q (.bin .mul), [.const (.int .i64 3), .tmp 76], (some 77), (some (73, false)), [], false⟩,
   ⟨11, .q (.bin .shl), [.const (.int .i64 1), .tmp 77], (some 78), (some (73, false)), [], false⟩,
   ⟨12, .q (.bin .lss), [.tmp 74, .tmp 78], (some 79), (some (73, false)), [], false⟩,
   ⟨13, .q .pick, [.tmp 73, .const (.bool true), .tmp 79], (some 80), none, [], false⟩,
   ⟨14, .q .mv, [.tmp 80], (some 6), none, [], false⟩])
 .ret)))))))⟩
theorem low7 : lowFn Tryd.prog Tryd.f7 = some L7 := by kernel_rfl
theorem call7 {args : List Value} {H : Heap} {S : Ending → Heap → Prop} (hn : args.length ≤ L7.n) (h : awpC Tryd.prog L7.body (retQ L7.results S) (fun ch H => S (.panicked ch) H) (env0 args) H) : ACalls Tryd.prog 7 args.toArray H S := acalls mixed Tryd.func7 low7 hn h
/-- satchel/satchellaw12.FieldSum -/
def L8 : LFn :=
 ⟨54, [.t 6],
 (.seq
 (.reg [⟨0, .e (.box 33), [.tmp 0], (some 3), none, [], false⟩,
   ⟨1, .q .mv, [.const (.bool false)], (some 6), none, [], false⟩])
 (.seq
 (.seq
 (.reg [⟨0, .e (.call 35), [], (some 13), none, [], false⟩,
   ⟨1, .q (.un .not), [.tmp 13], (some 14), none, [], false⟩])
 (.cond (.tmp 14)
  (.seq
  (.reg [⟨0, .q .mv, [.const (.bool false)], (some 6), none, [], false⟩])
  .ret)
  .skip))
 (.seq
 (.reg [⟨0, .q (.ldn 512), [.tmp 3], (some 15), none, [], false⟩,
   ⟨1, .e (.call 31), [.tmp 15], (some 16), none, [], false⟩,
   ⟨2, .e (.new (Array.replicate 512 (.int .u8 0)) 33), [], (some 7), none, [], false⟩,
   ⟨3, .e (.st 512), [.tmp 7, .tmp 16], none, none, [], false⟩])
 (.seq
 (.seq
 (.reg [⟨0, .q (.ldn 512), [.tmp 7], (some 17), none, [], false⟩,
   ⟨1, .e (.call 29), [.tmp 17], (some 18), none, [], false⟩,
   ⟨2, .q (.un .not), [.tmp 18], (some 19), none, [], false⟩])
 (.cond (.tmp 19)
  (.seq
  (.reg [⟨0, .q .mv, [.const (.bool false)], (some 6), none, [], false⟩])
  .ret)
  .skip))
 (.seq
 (.reg [⟨0, .q .mv, [.tmp 1], (some 20), none, [], false⟩,
   ⟨1, .q (.cvi .i64), [.tmp 20], (some 21), none, [], false⟩,
   ⟨2, .q (.bin .rem), [.tmp 21, .const (.int .i64 512)], (some 22), none, [], false⟩,
   ⟨3, .q .mv, [.tmp 22], (some 8), none, [], false⟩])
 (.seq
 (.reg [⟨0, .q (.ldn 512), [.tmp 7], (some 24), none, [], false⟩,
   ⟨1, .e (.call 27), [.tmp 24], (some 25), none, [], false⟩,
   ⟨2, .q .mv, [.tmp 25], (some 23), none, [], false⟩,
   ⟨3, .q (.ext 0), [.tmp 23], (some 26), none, [], false⟩,
   ⟨4, .q (.ext 1), [.tmp 23], (some 27), none, [], false⟩,
   ⟨5, .q .mv, [.tmp 26], (some 9), none, [], false⟩,
   ⟨6, .q .mv, [.tmp 27], (some 10), none, [], false⟩])
 (.seq
 (.reg [⟨0, .q .mv, [.tmp 8], (some 28), none, [], false⟩,
   ⟨1, .q .mv, [.tmp 8], (some 29), none, [], false⟩,
   ⟨2, .q (.iada 512 1), [.tmp 7, .tmp 29], (some 30), none, [], false⟩,
   ⟨3, .q .ld, [.tmp 30], (some 31), none, [], false⟩,
   ⟨4, .q .mv, [.tmp 2], (some 32), none, [], false⟩,
   ⟨5, .q (.bin .xor), [.tmp 31, .tmp 32], (some 33), none, [], false⟩,
   ⟨6, .q (.iada 512 1), [.tmp 7, .tmp 28], (some 34), none, [], false⟩,
   ⟨7, .e (.st 1), [.tmp 34, .tmp 33], none, none, [], false⟩])
 (.seq
 (.reg [⟨0, .q (.ldn 512), [.tmp 7], (some 36), none, [], false⟩,
   ⟨1, .e (.call 27), [.tmp 36], (some 37), none, [], false⟩,
   ⟨2, .q .mv, [.tmp 37], (some 35), none, [], false⟩,
   ⟨3, .q (.ext 0), [.tmp 35], (some 38), none, [], false⟩,
   ⟨4, .q (.ext 1), [.tmp 35], (some 39), none, [], false⟩,
   ⟨5, .q .mv, [.tmp 38], (some 11), none, [], false⟩,
   ⟨6, .q .mv, [.tmp 39], (some 12), none, [], false⟩])
 (.seq
 (.reg [⟨0, .q .mv, [.tmp 9], (some 40), none, [], false⟩,
   ⟨1, .q .mv, [.tmp 11], (some 41), none, [], false⟩,
   ⟨2, .q (.bin .eql), [.tmp 40, .tmp 41], (some 42), none, [], false⟩,
   ⟨3, .q .mv, [.tmp 2], (some 43), none, [], false⟩,
   ⟨4, .q (.bin .eql), [.tmp 43, .const (.int .u8 0)], (some 44), none, [], false⟩,
   ⟨5, .q .mv, [.tmp 44], (some 45), none, [], false⟩,
   ⟨6, .q .mv, [.tmp 8], (some 46), (some (45, false)), [], false⟩,
   ⟨7, .q (.bin .geq), [.tmp 46, .const (.int .i64 148)], (some 47), (some (45, false)), [], false⟩,
   ⟨8, .q .mv, [.tmp 47], (some 48), (some (45, false)), [], false⟩,
   ⟨9, .q .mv, [.tmp 8], (some 49), (some (48, true)), [], false⟩,
   ⟨10, .q (.bin .lss), [.tmp 49, .const (.int .i64 156)], (some 50), (some (48, true)), [], false⟩,
   ⟨11, .q .pick, [.tmp 48, .tmp 50, .const (.bool false)], (some 51), (some (45, false)), [], false⟩,
   ⟨12, .q .pick, [.tmp 45, .const (.bool true), .tmp 51], (some 52), none, [], false⟩,
   ⟨13, .q (.eqb false), [.tmp 42, .tmp 52], (some 53), none, [], false⟩,
   ⟨14, .q .mv, [.tmp 53], (some 6), none, [], false⟩])
 .ret)))))))))⟩
theorem low8 : lowFn Tryd.prog Tryd.f8 = some L8 := by kernel_rfl
theorem call8 {args : List Value} {H : Heap} {S : Ending → Heap → Prop} (hn : args.length ≤ L8.n) (h : awpC Tryd.prog L8.body (retQ L8.results S) (fun ch H => S (.panicked ch) H) (env0 args) H) : ACalls Tryd.prog 8 args.toArray H S := acalls mixed Tryd.func8 low8 hn h
/-- satchel/satchellaw12.FieldBack -/
def L9_0 : LCode :=
 (.seq
 (.reg [⟨0, .q .mv, [.tmp 1], (some 67), none, [], false⟩,
   ⟨1, .q .mv, [.tmp 2], (some 68), none, [], false⟩,
   ⟨2, .e (.call 24), [.tmp 67, .tmp 68], (some 69), none, [], false⟩,
   ⟨3, .q .mv, [.tmp 69], (some 66), none, [], false⟩,
   ⟨4, .q (.ext 0), [.tmp 66], (some 70), none, [], false⟩,
   ⟨5, .q (.ext 1), [.tmp 66], (some 71), none, [], false⟩,
   ⟨6, .q .mv, [.tmp 70], (some 11), none, [], false⟩,
   ⟨7, .q .mv, [.tmp 71], (some 12), none, [], false⟩])
 (.seq
 (.reg [⟨0, .q .mv, [.tmp 12], (some 72), none, [], false⟩,
   ⟨1, .q (.bin .neq), [.tmp 72, .const (.int .i64 0)], (some 73), none, [], false⟩,
   ⟨2, .q .mv, [.tmp 73], (some 74), none, [], false⟩,
   ⟨3, .q .mv, [.tmp 11], (some 75), (some (74, false)), [], false⟩,
   ⟨4, .e (.call 16), [.tmp 75], (some 76), (some (74, false)), [], false⟩,
   ⟨5, .q .mv, [.tmp 1], (some 77), (some (74, false)), [], false⟩,
   ⟨6, .q (.bin .eql), [.tmp 76, .tmp 77], (some 78), (some (74, false)), [], false⟩,
   ⟨7, .q .mv, [.tmp 78], (some 79), (some (74, false)), [], false⟩,
   ⟨8, .q .mv, [.tmp 11], (some 80), (some (79, true)), [], false⟩,
   ⟨9, .q .len, [.tmp 80], (some 81), (some (79, true)), [], false⟩,
   ⟨10, .q .mv, [.tmp 2], (some 82), (some (79, true)), [], false⟩,
   ⟨11, .q (.bin .eql), [.tmp 81, .tmp 82], (some 83), (some (79, true)), [], false⟩,
   ⟨12, .q .pick, [.tmp 79, .tmp 83, .const (.bool false)], (some 84), (some (74, false)), [], false⟩,
   ⟨13, .q .pick, [.tmp 74, .const (.bool true), .tmp 84], (some 85), none, [], false⟩,
   ⟨14, .q .mv, [.tmp 85], (some 6), none, [], false⟩])
 .ret))
def L9 : LFn :=
 ⟨86, [.t 6],
 (.seq
 (.reg [⟨0, .q .mv, [.const (.bool false)], (some 6), none, [], false⟩])
 (.seq
 (.seq
 (.reg [⟨0, .e (.call 35), [], (some 13), none, [], false⟩,
   ⟨1, .q (.un .not), [.tmp 13], (some 14), none, [], false⟩])
 (.cond (.tmp 14)
  (.seq
  (.reg [⟨0, .q .mv, [.const (.bool false)], (some 6), none, [], false⟩])
  .ret)
  .skip))
 (.seq
 (.reg [⟨0, .q .mv, [.tmp 0], (some 16), none, [], false⟩,
   ⟨1, .q .mv, [.tmp 2], (some 17), none, [], false⟩,
   ⟨2, .e (.call 22), [.tmp 16, .tmp 17], (some 18), none, [], false⟩,
   ⟨3, .q .mv, [.tmp 18], (some 15), none, [], false⟩,
   ⟨4, .q (.ext 0), [.tmp 15], (some 19), none, [], false⟩,
   ⟨5, .q (.ext 1), [.tmp 15], (some 20), none, [], false⟩,
   ⟨6, .q .mv, [.tmp 19], (some 7), none, [], false⟩,
   ⟨7, .q .mv, [.tmp 20], (some 8), none, [], false⟩])
 (.seq
 (.seq
 (.reg [⟨0, .q .mv, [.tmp 2], (some 21), none, [], false⟩,
   ⟨1, .q (.bin .geq), [.tmp 21, .const (.int .i64 9)], (some 22), none, [], false⟩,
   ⟨2, .q .mv, [.tmp 22], (some 23), none, [], false⟩,
   ⟨3, .q .mv, [.tmp 2], (some 24), (some (23, true)), [], false⟩,
   ⟨4, .q (.bin .leq), [.tmp 24, .const (.int .i64 512)], (some 25), (some (23, true)), [], false⟩,
   ⟨5, .q .pick, [.tmp 23, .tmp 25, .const (.bool false)], (some 26), none, [], false⟩,
   ⟨6, .q .mv, [.tmp 26], (some 27), none, [], false⟩,
   ⟨7, .q .mv, [.tmp 8], (some 28), (some (27, true)), [], false⟩,
   ⟨8, .q (.bin .neq), [.tmp 28, .const (.int .i64 0)], (some 29), (some (27, true)), [], false⟩,
   ⟨9, .q .pick, [.tmp 27, .tmp 29, .const (.bool false)], (some 30), none, [], false⟩])
 (.cond (.tmp 30)
  (.seq
  (.reg [⟨0, .q .mv, [.const (.bool false)], (some 6), none, [], false⟩])
  .ret)
  .skip))
 (.seq
 (.seq
 (.reg [⟨0, .q .mv, [.tmp 8], (some 31), none, [], false⟩,
   ⟨1, .q (.bin .eql), [.tmp 31, .const (.int .i64 0)], (some 32), none, [], false⟩])
 (.cond (.tmp 32)
  (.seq
  (.reg [⟨0, .q .mv, [.tmp 7], (some 34), none, [], false⟩,
    ⟨1, .e (.call 14), [.tmp 34], (some 35), none, [], false⟩,
    ⟨2, .q .mv, [.tmp 35], (some 33), none, [], false⟩,
    ⟨3, .q (.ext 0), [.tmp 33], (some 36), none, [], false⟩,
    ⟨4, .q (.ext 1), [.tmp 33], (some 37), none, [], false⟩,
    ⟨5, .q .mv, [.tmp 36], (some 9), none, [], false⟩,
    ⟨6, .q .mv, [.tmp 37], (some 10), none, [], false⟩])
  (.seq
  (.seq
  (.reg [⟨0, .q .mv, [.tmp 10], (some 38), none, [], false⟩,
    ⟨1, .q (.bin .neq), [.tmp 38, .const (.int .i64 0)], (some 39), none, [], false⟩,
    ⟨2, .q .mv, [.tmp 39], (some 40), none, [], false⟩,
    ⟨3, .q .mv, [.tmp 9], (some 41), (some (40, false)), [], false⟩,
    ⟨4, .q .mv, [.tmp 0], (some 42), (some (40, false)), [], false⟩,
    ⟨5, .q (.bin .neq), [.tmp 41, .tmp 42], (some 43), (some (40, false)), [], false⟩,
    ⟨6, .q .pick, [.tmp 40, .const (.bool true), .tmp 43], (some 44), none, [], false⟩,
    ⟨7, .q .mv, [.tmp 44], (some 45), none, [], false⟩,
    ⟨8, .q .mv, [.tmp 7], (some 46), (some (45, false)), [], false⟩,
    ⟨9, .q .len, [.tmp 46], (some 47), (some (45, false)), [], false⟩,
    ⟨10, .q .mv, [.tmp 2], (some 48), (some (45, false)), [], false⟩,
    ⟨11, .q (.bin .neq), [.tmp 47, .tmp 48], (some 49), (some (45, false)), [], false⟩,
    ⟨12, .q .pick, [.tmp 45, .const (.bool true), .tmp 49], (some 50), none, [], false⟩])
  (.cond (.tmp 50)
   (.seq
   (.reg [⟨0, .q .mv, [.const (.bool false)], (some 6), none, [], false⟩])
   .ret)
   .skip))
  (.seq
  (.reg [⟨0, .q .mv, [.tmp 2], (some 51), none, [], false⟩,
    ⟨1, .q (.bin .eql), [.tmp 51, .const (.int .i64 12)], (some 52), none, [], false⟩,
    ⟨2, .q .mv, [.tmp 52], (some 53), none, [], false⟩,
    ⟨3, .q .mv, [.tmp 7], (some 54), (some (53, true)), [], false⟩,
    ⟨4, .q (.iad 1), [.tmp 54, .const (.int .i64 0)], (some 55), (some (53, true)), [], false⟩,
    ⟨5, .q .ld, [.tmp 55], (some 56), (some (53, true)), [], false⟩,
    ⟨6, .q (.bin .lss), [.tmp 56, .const (.int .u8 128)], (some 57), (some (53, true)), [], false⟩,
    ⟨7, .q .mv, [.tmp 0], (some 58), (some (53, true)), [], false⟩,
    ⟨8, .q (.bin .geq), [.tmp 58, .const (.int .i64 0)], (some 59), (some (53, true)), [], false⟩,
    ⟨9, .q .mv, [.tmp 59], (some 60), (some (53, true)), [], false⟩,
    ⟨10, .q .mv, [.tmp 0], (some 61), (some (60, true)), [], false⟩,
    ⟨11, .q (.bin .lss), [.tmp 61, .const (.int .i64 8589934592)], (some 62), (some (60, true)), [], false⟩,
    ⟨12, .q .pick, [.tmp 60, .tmp 62, .const (.bool false)], (some 63), (some (53, true)), [], false⟩,
    ⟨13, .q (.eqb true), [.tmp 57, .tmp 63], (some 64), (some (53, true)), [], false⟩,
    ⟨14, .q .pick, [.tmp 53, .tmp 64, .const (.bool false)], (some 65), none, [], false⟩])
  (.cond (.tmp 65)
   (.seq
   (.reg [⟨0, .q .mv, [.const (.bool false)], (some 6), none, [], false⟩])
   .ret)
   .skip))))
  .skip))
 L9_0)))))⟩
theorem low9 : lowFn Tryd.prog Tryd.f9 = some L9 := by kernel_rfl
theorem call9 {args : List Value} {H : Heap} {S : Ending → Heap → Prop} (hn : args.length ≤ L9.n) (h : awpC Tryd.prog L9.body (retQ L9.results S) (fun ch H => S (.panicked ch) H) (env0 args) H) : ACalls Tryd.prog 9 args.toArray H S := acalls mixed Tryd.func9 low9 hn h
end Go.Proofs.YtigignkgblaoaaaDoor.Low
