/-
  Functions in short (out of the program's form in Lean, by the kernel).
-/
import Derived.Test.YtphojebganlbnaaDoorSepDfr
import Derived.Test.YtphojebganlbnaaDoorProg
namespace Go.Proofs.YtphojebganlbnaaDoor.Low
open Go Go.Proofs.YtphojebganlbnaaDoor.Sep
theorem mixed : Tryd.prog.follows .mixedOrders = true := by kernel_rfl
/-- satchel/satchellaw06.InflateDecodes -/
def L3 : LFn :=
 ⟨69, [.t 4],
 (.seq
 (.reg [⟨0, .q .mv, [.const (.bool false)], (some 4), none, [], false⟩])
 (.seq
 (.reg [⟨0, .q .mv, [.tmp 0], (some 15), none, [], false⟩,
   ⟨1, .e (.call 9), [.tmp 15], (some 16), none, [], false⟩,
   ⟨2, .q .mv, [.tmp 16], (some 5), none, [], false⟩])
 (.seq
 (.reg [⟨0, .q .mv, [.tmp 5], (some 18), none, [], false⟩,
   ⟨1, .q .mv, [.tmp 0], (some 19), none, [], false⟩,
   ⟨2, .q .len, [.tmp 19], (some 20), none, [], false⟩,
   ⟨3, .q (.slc 1 false true false), [.tmp 18, .tmp 20], (some 21), none, [], false⟩,
   ⟨4, .q .mv, [.tmp 1], (some 22), none, [], false⟩,
   ⟨5, .e (.call 10), [.tmp 21, .tmp 22], (some 23), none, [], false⟩,
   ⟨6, .q .mv, [.tmp 23], (some 17), none, [], false⟩,
   ⟨7, .q (.ext 0), [.tmp 17], (some 24), none, [], false⟩,
   ⟨8, .q (.ext 1), [.tmp 17], (some 25), none, [], false⟩,
   ⟨9, .q (.ext 2), [.tmp 17], (some 26), none, [], false⟩,
   ⟨10, .q .mv, [.tmp 24], (some 6), none, [], false⟩,
   ⟨11, .q .mv, [.tmp 25], (some 7), none, [], false⟩,
   ⟨12, .q .mv, [.tmp 26], (some 8), none, [], false⟩])
 (.seq
 (.reg [⟨0, .q .mv, [.tmp 5], (some 28), none, [], false⟩,
   ⟨1, .q .mv, [.tmp 0], (some 29), none, [], false⟩,
   ⟨2, .q .len, [.tmp 29], (some 30), none, [], false⟩,
   ⟨3, .q (.slc 1 false true false), [.tmp 28, .tmp 30], (some 31), none, [], false⟩,
   ⟨4, .q .mv, [.tmp 1], (some 32), none, [], false⟩,
   ⟨5, .e (.call 10), [.tmp 31, .tmp 32], (some 33), none, [], false⟩,
   ⟨6, .q .mv, [.tmp 33], (some 27), none, [], false⟩,
   ⟨7, .q (.ext 0), [.tmp 27], (some 34), none, [], false⟩,
   ⟨8, .q (.ext 1), [.tmp 27], (some 35), none, [], false⟩,
   ⟨9, .q (.ext 2), [.tmp 27], (some 36), none, [], false⟩,
   ⟨10, .q .mv, [.tmp 34], (some 9), none, [], false⟩,
   ⟨11, .q .mv, [.tmp 35], (some 10), none, [], false⟩,
   ⟨12, .q .mv, [.tmp 36], (some 11), none, [], false⟩])
 (.seq
 (.reg [⟨0, .q .mv, [.tmp 0], (some 38), none, [], false⟩,
   ⟨1, .q .mv, [.tmp 1], (some 39), none, [], false⟩,
   ⟨2, .e (.call 11), [.tmp 38, .tmp 39], (some 40), none, [], false⟩,
   ⟨3, .q .mv, [.tmp 40], (some 37), none, [], false⟩,
   ⟨4, .q (.ext 0), [.tmp 37], (some 41), none, [], false⟩,
   ⟨5, .q (.ext 1), [.tmp 37], (some 42), none, [], false⟩,
   ⟨6, .q (.ext 2), [.tmp 37], (some 43), none, [], false⟩,
   ⟨7, .q .mv, [.tmp 41], (some 12), none, [], false⟩,
   ⟨8, .q .mv, [.tmp 42], (some 13), none, [], false⟩,
   ⟨9, .q .mv, [.tmp 43], (some 14), none, [], false⟩])
 (.seq
 (.reg [⟨0, .q .mv, [.tmp 5], (some 44), none, [], false⟩,
   ⟨1, .q .mv, [.tmp 0], (some 45), none, [], false⟩,
   ⟨2, .e (.call 12), [.tmp 44, .tmp 45], (some 46), none, [], false⟩,
   ⟨3, .q .mv, [.tmp 46], (some 47), none, [], false⟩,
   ⟨4, .q .mv, [.tmp 7], (some 48), (some (47, true)), [], false⟩,
   ⟨5, .q .mv, [.tmp 13], (some 49), (some (47, true)), [], false⟩,
   ⟨6, .q (.bin .eql), [.tmp 48, .tmp 49], (some 50), (some (47, true)), [], false⟩,
   ⟨7, .q .pick, [.tmp 47, .tmp 50, .const (.bool false)], (some 51), none, [], false⟩,
   ⟨8, .q .mv, [.tmp 51], (some 52), none, [], false⟩,
   ⟨9, .q .mv, [.tmp 8], (some 53), (some (52, true)), [], false⟩,
   ⟨10, .q .mv, [.tmp 14], (some 54), (some (52, true)), [], false⟩,
   ⟨11, .q (.bin .eql), [.tmp 53, .tmp 54], (some 55), (some (52, true)), [], false⟩,
   ⟨12, .q .pick, [.tmp 52, .tmp 55, .const (.bool false)], (some 56), none, [], false⟩,
   ⟨13, .q .mv, [.tmp 56], (some 57), none, [], false⟩,
   ⟨14, .q .mv, [.tmp 6], (some 58), (some (57, true)), [], false⟩,
   ⟨15, .q .mv, [.tmp 12], (some 59), (some (57, true)), [], false⟩,
   ⟨16, .e (.call 13), [.tmp 58, .tmp 59], (some 60), (some (57, true)), [], false⟩,
   ⟨17, .q .pick, [.tmp 57, .tmp 60, .const (.bool false)], (some 61), none, [], false⟩,
   ⟨18, .q .mv, [.tmp 61], (some 62), none, [], false⟩,
   ⟨19, .q .mv, [.tmp 9], (some 63), (some (62, true)), [], false⟩,
   ⟨20, .q .b2s, [.tmp 63], (some 64), (some (62, true)), [], false⟩,
   ⟨21, .q .mv, [.tmp 12], (some 65), (some (62, true)), [], false⟩,
   ⟨22, .q .b2s, [.tmp 65], (some 66), (some (62, true)), [], false⟩,
   ⟨23, .q (.bin .eql), [.tmp 64, .tmp 66], (some 67), (some (62, true)), [], false⟩,
   ⟨24, .q .pick, [.tmp 62, .tmp 67, .const (.bool false)], (some 68), none, [], false⟩,
   ⟨25, .q .mv, [.tmp 68], (some 4), none, [], false⟩])
 .ret))))))⟩
theorem low3 : lowFn Tryd.prog Tryd.f3 = some L3 := by kernel_rfl
theorem call3 {args : List Value} {H : Heap} {S : Ending → Heap → Prop} (hn : args.length ≤ L3.n) (h : awpC Tryd.prog L3.body (retQ L3.results S) (fun ch H => S (.panicked ch) H) (env0 args) H) : ACalls Tryd.prog 3 args.toArray H S := acalls mixed Tryd.func3 low3 hn h
/-- satchel/satchellaw06.InflateBounded -/
def L4 : LFn :=
 ⟨99, [.t 4],
 (.seq
 (.reg [⟨0, .q .mv, [.const (.bool false)], (some 4), none, [], false⟩])
 (.seq
 (.seq
 (.reg [⟨0, .e (.call 14), [], (some 11), none, [], false⟩,
   ⟨1, .q (.un .not), [.tmp 11], (some 12), none, [], false⟩])
 (.cond (.tmp 12)
  (.seq
  (.reg [⟨0, .q .mv, [.const (.bool false)], (some 4), none, [], false⟩])
  .ret)
  .skip))
 (.seq
 (.reg [⟨0, .e (.lits 5 #[] 0 []), [], (some 14), none, [], false⟩,
   ⟨1, .q .mv, [.tmp 0], (some 15), none, [], false⟩,
   ⟨2, .e (.app 5 1 1 #[(.int .u8 0)]), [.tmp 14, .tmp 15], (some 16), none, [], false⟩,
   ⟨3, .q .mv, [.tmp 1], (some 17), none, [], false⟩,
   ⟨4, .e (.call 10), [.tmp 16, .tmp 17], (some 18), none, [], false⟩,
   ⟨5, .q .mv, [.tmp 18], (some 13), none, [], false⟩,
   ⟨6, .q (.ext 0), [.tmp 13], (some 19), none, [], false⟩,
   ⟨7, .q (.ext 1), [.tmp 13], (some 20), none, [], false⟩,
   ⟨8, .q (.ext 2), [.tmp 13], (some 21), none, [], false⟩,
   ⟨9, .q .mv, [.tmp 19], (some 5), none, [], false⟩,
   ⟨10, .q .mv, [.tmp 20], (some 6), none, [], false⟩,
   ⟨11, .q .mv, [.tmp 21], (some 7), none, [], false⟩])
 (.seq
 (.seq
 (.reg [⟨0, .q .mv, [.tmp 1], (some 22), none, [], false⟩,
   ⟨1, .q (.bin .lss), [.tmp 22, .const (.int .i64 0)], (some 23), none, [], false⟩,
   ⟨2, .q .mv, [.tmp 23], (some 24), none, [], false⟩,
   ⟨3, .q .mv, [.tmp 1], (some 25), (some (24, false)), [], false⟩,
   ⟨4, .q (.bin .gtr), [.tmp 25, .const (.int .i64 4194304)], (some 26), (some (24, false)), [], false⟩,
   ⟨5, .q .pick, [.tmp 24, .const (.bool true), .tmp 26], (some 27), none, [], false⟩])
 (.cond (.tmp 27)
  (.seq
  (.reg [⟨0, .q .mv, [.tmp 7], (some 28), none, [], false⟩,
    ⟨1, .q (.bin .eql), [.tmp 28, .const (.int .i64 1)], (some 29), none, [], false⟩,
    ⟨2, .q .mv, [.tmp 29], (some 30), none, [], false⟩,
    ⟨3, .q .mv, [.tmp 5], (some 31), (some (30, true)), [], false⟩,
    ⟨4, .q .len, [.tmp 31], (some 32), (some (30, true)), [], false⟩,
    ⟨5, .q (.bin .eql), [.tmp 32, .const (.int .i64 0)], (some 33), (some (30, true)), [], false⟩,
    ⟨6, .q .pick, [.tmp 30, .tmp 33, .const (.bool false)], (some 34), none, [], false⟩,
    ⟨7, .q .mv, [.tmp 34], (some 4), none, [], false⟩])
  .ret)
  .skip))
 (.seq
 (.reg [⟨0, .e (.lits 5 #[] 0 []), [], (some 36), none, [], false⟩,
   ⟨1, .q .mv, [.tmp 0], (some 37), none, [], false⟩,
   ⟨2, .e (.app 5 1 1 #[(.int .u8 0)]), [.tmp 36, .tmp 37], (some 38), none, [], false⟩,
   ⟨3, .e (.call 10), [.tmp 38, .const (.int .i64 4194304)], (some 39), none, [], false⟩,
   ⟨4, .q .mv, [.tmp 39], (some 35), none, [], false⟩,
   ⟨5, .q (.ext 0), [.tmp 35], (some 40), none, [], false⟩,
   ⟨6, .q (.ext 1), [.tmp 35], (some 41), none, [], false⟩,
   ⟨7, .q (.ext 2), [.tmp 35], (some 42), none, [], false⟩,
   ⟨8, .q .mv, [.tmp 40], (some 8), none, [], false⟩,
   ⟨9, .q .mv, [.tmp 41], (some 9), none, [], false⟩,
   ⟨10, .q .mv, [.tmp 42], (some 10), none, [], false⟩])
 (.seq
 (.seq
 (.reg [⟨0, .q .mv, [.tmp 7], (some 43), none, [], false⟩,
   ⟨1, .q (.bin .neq), [.tmp 43, .const (.int .i64 0)], (some 44), none, [], false⟩])
 (.cond (.tmp 44)
  (.seq
  (.reg [⟨0, .q .mv, [.tmp 5], (some 45), none, [], false⟩,
    ⟨1, .q .len, [.tmp 45], (some 46), none, [], false⟩,
    ⟨2, .q (.bin .eql), [.tmp 46, .const (.int .i64 0)], (some 47), none, [], false⟩,
    ⟨3, .q .mv, [.tmp 47], (some 48), none, [], false⟩,
    ⟨4, .q .mv, [.tmp 6], (some 49), (some (48, true)), [], false⟩,
    ⟨5, .q (.bin .eql), [.tmp 49, .const (.int .i64 0)], (some 50), (some (48, true)), [], false⟩,
    ⟨6, .q .pick, [.tmp 48, .tmp 50, .const (.bool false)], (some 51), none, [], false⟩,
    ⟨7, .q .mv, [.tmp 51], (some 52), none, [], false⟩,
    ⟨8, .q .mv, [.tmp 10], (some 53), (some (52, true)), [], false⟩,
    ⟨9, .q .mv, [.tmp 7], (some 54), (some (52, true)), [], false⟩,
    ⟨10, .q (.bin .eql), [.tmp 53, .tmp 54], (some 55), (some (52, true)), [], false⟩,
    ⟨11, .q .mv, [.tmp 55], (some 56), (some (52, true)), [], false⟩,
    ⟨12, .q .mv, [.tmp 7], (some 57), (some (56, false)), [], false⟩,
    ⟨13, .q (.bin .eql), [.tmp 57, .const (.int .i64 32)], (some 58), (some (56, false)), [], false⟩,
    ⟨14, .q .pick, [.tmp 56, .const (.bool true), .tmp 58], (some 59), (some (52, true)), [], false⟩,
    ⟨15, .q .pick, [.tmp 52, .tmp 59, .const (.bool false)], (some 60), none, [], false⟩,
    ⟨16, .q .mv, [.tmp 60], (some 4), none, [], false⟩])
  .ret)
  .skip))
 (.seq
 (.reg [⟨0, .q .mv, [.tmp 5], (some 61), none, [], false⟩,
   ⟨1, .q .len, [.tmp 61], (some 62), none, [], false⟩,
   ⟨2, .q .mv, [.tmp 1], (some 63), none, [], false⟩,
   ⟨3, .q (.bin .leq), [.tmp 62, .tmp 63], (some 64), none, [], false⟩,
   ⟨4, .q .mv, [.tmp 64], (some 65), none, [], false⟩,
   ⟨5, .q .mv, [.tmp 5], (some 66), (some (65, true)), [], false⟩,
   ⟨6, .q .len, [.tmp 66], (some 67), (some (65, true)), [], false⟩,
   ⟨7, .q .mv, [.tmp 0], (some 68), (some (65, true)), [], false⟩,
   ⟨8, .q .len, [.tmp 68], (some 69), (some (65, true)), [], false⟩,
   ⟨9, .q (.bin .mul), [.const (.int .i64 1032), .tmp 69], (some 70), (some (65, true)), [], false⟩,
   ⟨10, .q (.bin .leq), [.tmp 67, .tmp 70], (some 71), (some (65, true)), [], false⟩,
   ⟨11, .q .pick, [.tmp 65, .tmp 71, .const (.bool false)], (some 72), none, [], false⟩,
   ⟨12, .q .mv, [.tmp 72], (some 73), none, [], false⟩,
   ⟨13, .q .mv, [.tmp 6], (some 74), (some (73, true)), [], false⟩,
   ⟨14, .q (.bin .geq), [.tmp 74, .const (.int .i64 1)], (some 75), (some (73, true)), [], false⟩,
   ⟨15, .q .pick, [.tmp 73, .tmp 75, .const (.bool false)], (some 76), none, [], false⟩,
   ⟨16, .q .mv, [.tmp 76], (some 77), none, [], false⟩,
   ⟨17, .q .mv, [.tmp 6], (some 78), (some (77, true)), [], false⟩,
   ⟨18, .q .mv, [.tmp 0], (some 79), (some (77, true)), [], false⟩,
   ⟨19, .q .len, [.tmp 79], (some 80), (some (77, true)), [], false⟩,
   ⟨20, .q (.bin .leq), [.tmp 78, .tmp 80], (some 81), (some (77, true)), [], false⟩,
   ⟨21, .q .pick, [.tmp 77, .tmp 81, .const (.bool false)], (some 82), none, [], false⟩,
   ⟨22, .q .mv, [.tmp 82], (some 83), none, [], false⟩,
   ⟨23, .q .mv, [.tmp 10], (some 84), (some (83, true)), [], false⟩,
   ⟨24, .q (.bin .eql), [.tmp 84, .const (.int .i64 0)], (some 85), (some (83, true)), [], false⟩,
   ⟨25, .q .pick, [.tmp 83, .tmp 85, .const (.bool false)], (some 86), none, [], false⟩,
   ⟨26, .q .mv, [.tmp 86], (some 87), none, [], false⟩,
   ⟨27, .q .mv, [.tmp 9], (some 88), (some (87, true)), [], false⟩,
   ⟨28, .q .mv, [.tmp 6], (some 89), (some (87, true)), [], false⟩,
   ⟨29, .q (.bin .eql), [.tmp 88, .tmp 89], (some 90), (some (87, true)), [], false⟩,
   ⟨30, .q .pick, [.tmp 87, .tmp 90, .const (.bool false)], (some 91), none, [], false⟩,
   ⟨31, .q .mv, [.tmp 91], (some 92), none, [], false⟩,
   ⟨32, .q .mv, [.tmp 5], (some 93), (some (92, true)), [], false⟩,
   ⟨33, .q .b2s, [.tmp 93], (some 94), (some (92, true)), [], false⟩,
   ⟨34, .q .mv, [.tmp 8], (some 95), (some (92, true)), [], false⟩,
   ⟨35, .q .b2s, [.tmp 95], (some 96), (some (92, true)), [], false⟩,
   ⟨36, .q (.bin .eql), [.tmp 94, .tmp 96], (some 97), (some (92, true)), [], false⟩,
   ⟨37, .q .pick, [.tmp 92, .tmp 97, .const (.bool false)], (some 98), none, [], false⟩,
   ⟨38, .q .mv, [.tmp 98], (some 4), none, [], false⟩])
 .ret)))))))⟩
theorem low4 : lowFn Tryd.prog Tryd.f4 = some L4 := by kernel_rfl
theorem call4 {args : List Value} {H : Heap} {S : Ending → Heap → Prop} (hn : args.length ≤ L4.n) (h : awpC Tryd.prog L4.body (retQ L4.results S) (fun ch H => S (.panicked ch) H) (env0 args) H) : ACalls Tryd.prog 4 args.toArray H S := acalls mixed Tryd.func4 low4 hn h
/-- satchel/satchellaw06.InflateStored -/
def L5_0 : LCode :=
 (.seq
 (.seq
 (.reg [⟨0, .q .mv, [.tmp 7], (some 15), none, [], false⟩,
   ⟨1, .q .mv, [.tmp 0], (some 16), none, [], false⟩,
   ⟨2, .q .len, [.tmp 16], (some 17), none, [], false⟩,
   ⟨3, .q (.bin .lss), [.tmp 15, .tmp 17], (some 18), none, [], false⟩])
 (.cond (.tmp 18)
  .skip
  (.exit 0)))
 (.seq
 (.block 1
  (.seq
  (.reg [⟨0, .q .mv, [.tmp 0], (some 21), none, [], false⟩,
    ⟨1, .q .mv, [.tmp 7], (some 22), none, [], false⟩,
    ⟨2, .q (.iad 1), [.tmp 21, .tmp 22], (some 23), none, [], false⟩,
    ⟨3, .q .ld, [.tmp 23], (some 24), none, [], false⟩,
    ⟨4, .q .len, [.tmp 24], (some 25), none, [], false⟩,
    ⟨5, .q .mv, [.tmp 25], (some 8), none, [], false⟩])
  (.seq
  (.seq
  (.reg [⟨0, .q .mv, [.tmp 8], (some 26), none, [], false⟩,
    ⟨1, .q (.bin .gtr), [.tmp 26, .const (.int .i64 65535)], (some 27), none, [], false⟩,
    ⟨2, .q .mv, [.tmp 27], (some 28), none, [], false⟩,
    ⟨3, .q .mv, [.tmp 6], (some 29), (some (28, false)), [], false⟩,
    ⟨4, .q .len, [.tmp 29], (some 30), (some (28, false)), [], false⟩,
    ⟨5, .q .mv, [.tmp 8], (some 31), (some (28, false)), [], false⟩,
    ⟨6, .q (.bin .add), [.tmp 30, .tmp 31], (some 32), (some (28, false)), [], false⟩,
    ⟨7, .q (.bin .gtr), [.tmp 32, .const (.int .i64 4194304)], (some 33), (some (28, false)), [], false⟩,
    ⟨8, .q .pick, [.tmp 28, .const (.bool true), .tmp 33], (some 34), none, [], false⟩])
  (.cond (.tmp 34)
   (.seq
   (.reg [⟨0, .q .mv, [.const (.bool true)], (some 4), none, [], false⟩])
   .ret)
   .skip))
  (.seq
  (.reg [⟨0, .q .mv, [.tmp 5], (some 35), none, [], false⟩,
    ⟨1, .q .mv, [.tmp 8], (some 36), none, [], false⟩,
    ⟨2, .q (.cvi .u8), [.tmp 36], (some 37), none, [], false⟩,
    ⟨3, .q .mv, [.tmp 8], (some 38), none, [], false⟩,
    ⟨4, .q (.bin .shr), [.tmp 38, .const (.int .u64 8)], (some 39), none, [], false⟩,
    ⟨5, .q (.cvi .u8), [.tmp 39], (some 40), none, [], false⟩,
    ⟨6, .q .mv, [.tmp 8], (some 41), none, [], false⟩,
    ⟨7, .q (.cvi .u8), [.tmp 41], (some 42), none, [], false⟩,
    ⟨8, .q (.un .xor), [.tmp 42], (some 43), none, [], false⟩,
    ⟨9, .q .mv, [.tmp 8], (some 44), none, [], false⟩,
    ⟨10, .q (.bin .shr), [.tmp 44, .const (.int .u64 8)], (some 45), none, [], false⟩,
    ⟨11, .q (.cvi .u8), [.tmp 45], (some 46), none, [], false⟩,
    ⟨12, .q (.un .xor), [.tmp 46], (some 47), none, [], false⟩,
    ⟨13, .e (.lits 5 #[(.int .u8 0), (.int .u8 0), (.int .u8 0), (.int .u8 0), (.int .u8 0)] 5 [(0, 1), (1, 1), (2, 1), (3, 1), (4, 1)]), [.const (.int .u8 0), .tmp 37, .tmp 40, .tmp 43, .tmp 47], (some 48), none, [], false⟩,
    ⟨14, .e (.app 5 1 1 #[(.int .u8 0)]), [.tmp 35, .tmp 48], (some 49), none, [], false⟩,
    ⟨15, .q .mv, [.tmp 49], (some 5), none, [], false⟩])
  (.seq
  (.reg [⟨0, .q .mv, [.tmp 5], (some 50), none, [], false⟩,
    ⟨1, .q .mv, [.tmp 0], (some 51), none, [], false⟩,
    ⟨2, .q .mv, [.tmp 7], (some 52), none, [], false⟩,
    ⟨3, .q (.iad 1), [.tmp 51, .tmp 52], (some 53), none, [], false⟩,
    ⟨4, .q .ld, [.tmp 53], (some 54), none, [], false⟩,
    ⟨5, .e (.app 5 1 1 #[(.int .u8 0)]), [.tmp 50, .tmp 54], (some 55), none, [], false⟩,
    ⟨6, .q .mv, [.tmp 55], (some 5), none, [], false⟩])
  (.reg [⟨0, .q .mv, [.tmp 6], (some 56), none, [], false⟩,
    ⟨1, .q .mv, [.tmp 0], (some 57), none, [], false⟩,
    ⟨2, .q .mv, [.tmp 7], (some 58), none, [], false⟩,
    ⟨3, .q (.iad 1), [.tmp 57, .tmp 58], (some 59), none, [], false⟩,
    ⟨4, .q .ld, [.tmp 59], (some 60), none, [], false⟩,
    ⟨5, .e (.app 5 1 1 #[(.int .u8 0)]), [.tmp 56, .tmp 60], (some 61), none, [], false⟩,
    ⟨6, .q .mv, [.tmp 61], (some 6), none, [], false⟩]))))))
 (.reg [⟨0, .q .mv, [.tmp 7], (some 19), none, [], false⟩,
   ⟨1, .q (.bin .add), [.tmp 19, .const (.int .i64 1)], (some 20), none, [], false⟩,
   ⟨2, .q .mv, [.tmp 20], (some 7), none, [], false⟩])))
def L5 : LFn :=
 ⟨91, [.t 4],
 (.seq
 (.reg [⟨0, .q .mv, [.const (.bool false)], (some 4), none, [], false⟩])
 (.seq
 (.seq
 (.reg [⟨0, .e (.call 14), [], (some 13), none, [], false⟩,
   ⟨1, .q (.un .not), [.tmp 13], (some 14), none, [], false⟩])
 (.cond (.tmp 14)
  (.seq
  (.reg [⟨0, .q .mv, [.const (.bool false)], (some 4), none, [], false⟩])
  .ret)
  .skip))
 (.seq
 (.reg [⟨0, .q .mv, [.const (.slice none 0 0)], (some 5), none, [], false⟩,
   ⟨1, .q .mv, [.const (.slice none 0 0)], (some 6), none, [], false⟩])
 (.seq
 (.seq
 (.reg [⟨0, .q .mv, [.const (.int .i64 0)], (some 7), none, [], false⟩])
 (.block 0
  (.loop L5_0)))
 (.seq
 (.reg [⟨0, .q .mv, [.tmp 5], (some 62), none, [], false⟩,
   ⟨1, .e (.lits 5 #[(.int .u8 0), (.int .u8 0), (.int .u8 0), (.int .u8 0), (.int .u8 0)] 5 [(0, 1), (1, 1), (2, 1), (3, 1), (4, 1)]), [.const (.int .u8 1), .const (.int .u8 0), .const (.int .u8 0), .const (.int .u8 255), .const (.int .u8 255)], (some 63), none, [], false⟩,
   ⟨2, .e (.app 5 1 1 #[(.int .u8 0)]), [.tmp 62, .tmp 63], (some 64), none, [], false⟩,
   ⟨3, .q .mv, [.tmp 64], (some 5), none, [], false⟩])
 (.seq
 (.reg [⟨0, .q .mv, [.tmp 5], (some 65), none, [], false⟩,
   ⟨1, .q .len, [.tmp 65], (some 66), none, [], false⟩,
   ⟨2, .q .mv, [.tmp 66], (some 9), none, [], false⟩])
 (.seq
 (.reg [⟨0, .q .mv, [.tmp 5], (some 68), none, [], false⟩,
   ⟨1, .q .mv, [.tmp 1], (some 69), none, [], false⟩,
   ⟨2, .e (.app 5 1 1 #[(.int .u8 0)]), [.tmp 68, .tmp 69], (some 70), none, [], false⟩,
   ⟨3, .q .mv, [.tmp 6], (some 71), none, [], false⟩,
   ⟨4, .q .len, [.tmp 71], (some 72), none, [], false⟩,
   ⟨5, .e (.call 10), [.tmp 70, .tmp 72], (some 73), none, [], false⟩,
   ⟨6, .q .mv, [.tmp 73], (some 67), none, [], false⟩,
   ⟨7, .q (.ext 0), [.tmp 67], (some 74), none, [], false⟩,
   ⟨8, .q (.ext 1), [.tmp 67], (some 75), none, [], false⟩,
   ⟨9, .q (.ext 2), [.tmp 67], (some 76), none, [], false⟩,
   ⟨10, .q .mv, [.tmp 74], (some 10), none, [], false⟩,
   ⟨11, .q .mv, [.tmp 75], (some 11), none, [], false⟩,
   ⟨12, .q .mv, [.tmp 76], (some 12), none, [], false⟩])
 (.seq
 (.reg [⟨0, .q .mv, [.tmp 12], (some 77), none, [], false⟩,
   ⟨1, .q (.bin .eql), [.tmp 77, .const (.int .i64 0)], (some 78), none, [], false⟩,
   ⟨2, .q .mv, [.tmp 78], (some 79), none, [], false⟩,
   ⟨3, .q .mv, [.tmp 11], (some 80), (some (79, true)), [], false⟩,
   ⟨4, .q .mv, [.tmp 9], (some 81), (some (79, true)), [], false⟩,
   ⟨5, .q (.bin .eql), [.tmp 80, .tmp 81], (some 82), (some (79, true)), [], false⟩,
   ⟨6, .q .pick, [.tmp 79, .tmp 82, .const (.bool false)], (some 83), none, [], false⟩,
   ⟨7, .q .mv, [.tmp 83], (some 84), none, [], false⟩,
   ⟨8, .q .mv, [.tmp 10], (some 85), (some (84, true)), [], false⟩,
   ⟨9, .q .b2s, [.tmp 85], (some 86), (some (84, true)), [], false⟩,
   ⟨10, .q .mv, [.tmp 6], (some 87), (some (84, true)), [], false⟩,
   ⟨11, .q .b2s, [.tmp 87], (some 88), (some (84, true)), [], false⟩,
   ⟨12, .q (.bin .eql), [.tmp 86, .tmp 88], (some 89), (some (84, true)), [], false⟩,
   ⟨13, .q .pick, [.tmp 84, .tmp 89, .const (.bool false)], (some 90), none, [], false⟩,
   ⟨14, .q .mv, [.tmp 90], (some 4), none, [], false⟩])
 .ret))))))))⟩
theorem low5 : lowFn Tryd.prog Tryd.f5 = some L5 := by kernel_rfl
theorem call5 {args : List Value} {H : Heap} {S : Ending → Heap → Prop} (hn : args.length ≤ L5.n) (h : awpC Tryd.prog L5.body (retQ L5.results S) (fun ch H => S (.panicked ch) H) (env0 args) H) : ACalls Tryd.prog 5 args.toArray H S := acalls mixed Tryd.func5 low5 hn h
/-- satchel/satchellaw06.InflateBegins -/
def L6_0 : LCode :=
 (.seq
 (.reg [⟨0, .q .mv, [.tmp 0], (some 35), none, [], false⟩,
   ⟨1, .q .mv, [.tmp 1], (some 36), none, [], false⟩,
   ⟨2, .q (.slc 1 false true false), [.tmp 35, .tmp 36], (some 37), none, [], false⟩,
   ⟨3, .e (.call 15), [.tmp 37, .const (.int .i64 4194304), .const (.slice none 0 0)], (some 38), none, [], false⟩,
   ⟨4, .q .mv, [.tmp 38], (some 34), none, [], false⟩,
   ⟨5, .q (.ext 0), [.tmp 34], (some 39), none, [], false⟩,
   ⟨6, .q (.ext 1), [.tmp 34], (some 40), none, [], false⟩,
   ⟨7, .q (.ext 2), [.tmp 34], (some 41), none, [], false⟩,
   ⟨8, .q .mv, [.tmp 39], (some 7), none, [], false⟩,
   ⟨9, .q .mv, [.tmp 40], (some 8), none, [], false⟩,
   ⟨10, .q .mv, [.tmp 41], (some 9), none, [], false⟩])
 (.seq
 (.reg [⟨0, .q .mv, [.tmp 0], (some 43), none, [], false⟩,
   ⟨1, .e (.call 15), [.tmp 43, .const (.int .i64 4194304), .const (.slice none 0 0)], (some 44), none, [], false⟩,
   ⟨2, .q .mv, [.tmp 44], (some 42), none, [], false⟩,
   ⟨3, .q (.ext 0), [.tmp 42], (some 45), none, [], false⟩,
   ⟨4, .q (.ext 1), [.tmp 42], (some 46), none, [], false⟩,
   ⟨5, .q (.ext 2), [.tmp 42], (some 47), none, [], false⟩,
   ⟨6, .q .mv, [.tmp 45], (some 10), none, [], false⟩,
   ⟨7, .q .mv, [.tmp 46], (some 11), none, [], false⟩,
   ⟨8, .q .mv, [.tmp 47], (some 12), none, [], false⟩])
 (.seq
 (.seq
 (.reg [⟨0, .q .mv, [.tmp 9], (some 48), none, [], false⟩,
   ⟨1, .q (.eqp false), [.tmp 48, .const (.pointer none)], (some 49), none, [], false⟩,
   ⟨2, .q .mv, [.tmp 49], (some 50), none, [], false⟩,
   ⟨3, .q .mv, [.tmp 12], (some 51), (some (50, false)), [], false⟩,
   ⟨4, .q (.eqp false), [.tmp 51, .const (.pointer none)], (some 52), (some (50, false)), [], false⟩,
   ⟨5, .q .pick, [.tmp 50, .const (.bool true), .tmp 52], (some 53), none, [], false⟩,
   ⟨6, .q .mv, [.tmp 53], (some 54), none, [], false⟩,
   ⟨7, .q .mv, [.tmp 7], (some 55), (some (54, false)), [], false⟩,
   ⟨8, .q .len, [.tmp 55], (some 56), (some (54, false)), [], false⟩,
   ⟨9, .q .mv, [.tmp 10], (some 57), (some (54, false)), [], false⟩,
   ⟨10, .q .len, [.tmp 57], (some 58), (some (54, false)), [], false⟩,
   ⟨11, .q (.bin .gtr), [.tmp 56, .tmp 58], (some 59), (some (54, false)), [], false⟩,
   ⟨12, .q .pick, [.tmp 54, .const (.bool true), .tmp 59], (some 60), none, [], false⟩,
   ⟨13, .q .mv, [.tmp 60], (some 61), none, [], false⟩,
   ⟨14, .q .mv, [.tmp 10], (some 62), (some (61, false)), [], false⟩,
   ⟨15, .q .mv, [.tmp 7], (some 63), (some (61, false)), [], false⟩,
   ⟨16, .q .len, [.tmp 63], (some 64), (some (61, false)), [], false⟩,
   ⟨17, .q (.slc 1 false true false), [.tmp 62, .tmp 64], (some 65), (some (61, false)), [], false⟩,
   ⟨18, .q .b2s, [.tmp 65], (some 66), (some (61, false)), [], false⟩,
   ⟨19, .q .mv, [.tmp 7], (some 67), (some (61, false)), [], false⟩,
   ⟨20, .q .b2s, [.tmp 67], (some 68), (some (61, false)), [], false⟩,
   ⟨21, .q (.bin .neq), [.tmp 66, .tmp 68], (some 69), (some (61, false)), [], false⟩,
   ⟨22, .q .pick, [.tmp 61, .const (.bool true), .tmp 69], (some 70), none, [], false⟩])
 (.cond (.tmp 70)
  (.seq
  (.reg [⟨0, .q .mv, [.const (.bool false)], (some 6), none, [], false⟩])
  .ret)
  .skip))
 (.seq
 (.reg [⟨0, .e (.lits 5 #[] 0 []), [], (some 72), none, [], false⟩,
   ⟨1, .q .mv, [.tmp 0], (some 73), none, [], false⟩,
   ⟨2, .e (.app 5 1 1 #[(.int .u8 0)]), [.tmp 72, .tmp 73], (some 74), none, [], false⟩,
   ⟨3, .e (.call 10), [.tmp 74, .const (.int .i64 4194304)], (some 75), none, [], false⟩,
   ⟨4, .q .mv, [.tmp 75], (some 71), none, [], false⟩,
   ⟨5, .q (.ext 0), [.tmp 71], (some 76), none, [], false⟩,
   ⟨6, .q (.ext 1), [.tmp 71], (some 77), none, [], false⟩,
   ⟨7, .q (.ext 2), [.tmp 71], (some 78), none, [], false⟩,
   ⟨8, .q .mv, [.tmp 76], (some 13), none, [], false⟩,
   ⟨9, .q .mv, [.tmp 77], (some 14), none, [], false⟩,
   ⟨10, .q .mv, [.tmp 78], (some 15), none, [], false⟩])
 (.seq
 (.seq
 (.reg [⟨0, .q .mv, [.tmp 15], (some 79), none, [], false⟩,
   ⟨1, .q (.bin .neq), [.tmp 79, .const (.int .i64 0)], (some 80), none, [], false⟩])
 (.cond (.tmp 80)
  (.seq
  (.reg [⟨0, .q .mv, [.const (.bool true)], (some 6), none, [], false⟩])
  .ret)
  .skip))
 (.seq
 (.reg [⟨0, .e (.lits 5 #[] 0 []), [], (some 82), none, [], false⟩,
   ⟨1, .q .mv, [.tmp 0], (some 83), none, [], false⟩,
   ⟨2, .q .mv, [.tmp 14], (some 84), none, [], false⟩,
   ⟨3, .q (.slc 1 false true false), [.tmp 83, .tmp 84], (some 85), none, [], false⟩,
   ⟨4, .e (.app 5 1 1 #[(.int .u8 0)]), [.tmp 82, .tmp 85], (some 86), none, [], false⟩,
   ⟨5, .q .mv, [.tmp 2], (some 87), none, [], false⟩,
   ⟨6, .e (.app 5 1 1 #[(.int .u8 0)]), [.tmp 86, .tmp 87], (some 88), none, [], false⟩,
   ⟨7, .e (.call 10), [.tmp 88, .const (.int .i64 4194304)], (some 89), none, [], false⟩,
   ⟨8, .q .mv, [.tmp 89], (some 81), none, [], false⟩,
   ⟨9, .q (.ext 0), [.tmp 81], (some 90), none, [], false⟩,
   ⟨10, .q (.ext 1), [.tmp 81], (some 91), none, [], false⟩,
   ⟨11, .q (.ext 2), [.tmp 81], (some 92), none, [], false⟩,
   ⟨12, .q .mv, [.tmp 90], (some 16), none, [], false⟩,
   ⟨13, .q .mv, [.tmp 91], (some 17), none, [], false⟩,
   ⟨14, .q .mv, [.tmp 92], (some 18), none, [], false⟩])
 (.seq
 (.seq
 (.reg [⟨0, .q .mv, [.tmp 18], (some 93), none, [], false⟩,
   ⟨1, .q (.bin .neq), [.tmp 93, .const (.int .i64 0)], (some 94), none, [], false⟩,
   ⟨2, .q .mv, [.tmp 94], (some 95), none, [], false⟩,
   ⟨3, .q .mv, [.tmp 17], (some 96), (some (95, false)), [], false⟩,
   ⟨4, .q .mv, [.tmp 14], (some 97), (some (95, false)), [], false⟩,
   ⟨5, .q (.bin .neq), [.tmp 96, .tmp 97], (some 98), (some (95, false)), [], false⟩,
   ⟨6, .q .pick, [.tmp 95, .const (.bool true), .tmp 98], (some 99), none, [], false⟩,
   ⟨7, .q .mv, [.tmp 99], (some 100), none, [], false⟩,
   ⟨8, .q .mv, [.tmp 16], (some 101), (some (100, false)), [], false⟩,
   ⟨9, .q .b2s, [.tmp 101], (some 102), (some (100, false)), [], false⟩,
   ⟨10, .q .mv, [.tmp 13], (some 103), (some (100, false)), [], false⟩,
   ⟨11, .q .b2s, [.tmp 103], (some 104), (some (100, false)), [], false⟩,
   ⟨12, .q (.bin .neq), [.tmp 102, .tmp 104], (some 105), (some (100, false)), [], false⟩,
   ⟨13, .q .pick, [.tmp 100, .const (.bool true), .tmp 105], (some 106), none, [], false⟩])
 (.cond (.tmp 106)
  (.seq
  (.reg [⟨0, .q .mv, [.const (.bool false)], (some 6), none, [], false⟩])
  .ret)
  .skip))
 (.seq
 (.seq
 (.reg [⟨0, .q .mv, [.tmp 1], (some 107), none, [], false⟩,
   ⟨1, .q .mv, [.tmp 14], (some 108), none, [], false⟩,
   ⟨2, .q (.bin .geq), [.tmp 107, .tmp 108], (some 109), none, [], false⟩])
 (.cond (.tmp 109)
  (.seq
  (.reg [⟨0, .q .mv, [.const (.bool true)], (some 6), none, [], false⟩])
  .ret)
  .skip))
 (.seq
 (.reg [⟨0, .e (.lits 5 #[] 0 []), [], (some 111), none, [], false⟩,
   ⟨1, .q .mv, [.tmp 0], (some 112), none, [], false⟩,
   ⟨2, .q .mv, [.tmp 1], (some 113), none, [], false⟩,
   ⟨3, .q (.slc 1 false true false), [.tmp 112, .tmp 113], (some 114), none, [], false⟩,
   ⟨4, .e (.app 5 1 1 #[(.int .u8 0)]), [.tmp 111, .tmp 114], (some 115), none, [], false⟩,
   ⟨5, .e (.call 10), [.tmp 115, .const (.int .i64 4194304)], (some 116), none, [], false⟩,
   ⟨6, .q .mv, [.tmp 116], (some 110), none, [], false⟩,
   ⟨7, .q (.ext 0), [.tmp 110], (some 117), none, [], false⟩,
   ⟨8, .q (.ext 1), [.tmp 110], (some 118), none, [], false⟩,
   ⟨9, .q (.ext 2), [.tmp 110], (some 119), none, [], false⟩,
   ⟨10, .q .mv, [.tmp 117], (some 19), none, [], false⟩,
   ⟨11, .q .mv, [.tmp 118], (some 20), none, [], false⟩,
   ⟨12, .q .mv, [.tmp 119], (some 21), none, [], false⟩])
 (.seq
 (.reg [⟨0, .q .mv, [.tmp 21], (some 120), none, [], false⟩,
   ⟨1, .q (.bin .eql), [.tmp 120, .const (.int .i64 4)], (some 121), none, [], false⟩,
   ⟨2, .q .mv, [.tmp 121], (some 6), none, [], false⟩])
 .ret))))))))))
def L6 : LFn :=
 ⟨122, [.t 6],
 (.seq
 (.reg [⟨0, .q .mv, [.const (.bool false)], (some 6), none, [], false⟩])
 (.seq
 (.seq
 (.reg [⟨0, .e (.call 14), [], (some 22), none, [], false⟩,
   ⟨1, .q (.un .not), [.tmp 22], (some 23), none, [], false⟩])
 (.cond (.tmp 23)
  (.seq
  (.reg [⟨0, .q .mv, [.const (.bool false)], (some 6), none, [], false⟩])
  .ret)
  .skip))
 (.seq
 (.seq
 (.reg [⟨0, .q .mv, [.tmp 1], (some 24), none, [], false⟩,
   ⟨1, .q (.bin .lss), [.tmp 24, .const (.int .i64 0)], (some 25), none, [], false⟩,
   ⟨2, .q .mv, [.tmp 25], (some 26), none, [], false⟩,
   ⟨3, .q .mv, [.tmp 1], (some 27), (some (26, false)), [], false⟩,
   ⟨4, .q .mv, [.tmp 0], (some 28), (some (26, false)), [], false⟩,
   ⟨5, .q .len, [.tmp 28], (some 29), (some (26, false)), [], false⟩,
   ⟨6, .q (.bin .gtr), [.tmp 27, .tmp 29], (some 30), (some (26, false)), [], false⟩,
   ⟨7, .q .pick, [.tmp 26, .const (.bool true), .tmp 30], (some 31), none, [], false⟩])
 (.cond (.tmp 31)
  (.reg [⟨0, .q .mv, [.tmp 0], (some 32), none, [], false⟩,
    ⟨1, .q .len, [.tmp 32], (some 33), none, [], false⟩,
    ⟨2, .q .mv, [.tmp 33], (some 1), none, [], false⟩])
  .skip))
 L6_0)))⟩
theorem low6 : lowFn Tryd.prog Tryd.f6 = some L6 := by kernel_rfl
theorem call6 {args : List Value} {H : Heap} {S : Ending → Heap → Prop} (hn : args.length ≤ L6.n) (h : awpC Tryd.prog L6.body (retQ L6.results S) (fun ch H => S (.panicked ch) H) (env0 args) H) : ACalls Tryd.prog 6 args.toArray H S := acalls mixed Tryd.func6 low6 hn h
/-- satchel/satchellaw06.InflateReaders -/
def L7_0 : LCode :=
 (.seq
 (.reg [⟨0, .q .mv, [.tmp 8], (some 74), none, [], false⟩,
   ⟨1, .q (.un .not), [.tmp 74], (some 75), none, [], false⟩])
 (.cond (.tmp 75)
  (.seq
  (.reg [⟨0, .q .mv, [.const (.bool false)], (some 6), none, [], false⟩])
  .ret)
  .skip))
def L7_1 : LCode :=
 (.seq
 (.seq
 (.reg [⟨0, .q .mv, [.tmp 2], (some 60), none, [], false⟩,
   ⟨1, .q .mv, [.tmp 11], (some 61), none, [], false⟩,
   ⟨2, .q (.iad 3), [.tmp 60, .tmp 61], (some 62), none, [], false⟩,
   ⟨3, .q (.fad 0), [.tmp 62], (some 63), none, [], false⟩,
   ⟨4, .q .ld, [.tmp 63], (some 64), none, [], false⟩])
 (.cond (.tmp 64)
  (.reg [⟨0, .q .mv, [.tmp 12], (some 65), none, [], false⟩,
    ⟨1, .e (.call 17), [.tmp 65], (some 66), none, [], false⟩,
    ⟨2, .q .mv, [.tmp 66], (some 8), none, [], false⟩])
  (.reg [⟨0, .q .mv, [.tmp 12], (some 67), none, [], false⟩,
    ⟨1, .q .mv, [.tmp 2], (some 68), none, [], false⟩,
    ⟨2, .q .mv, [.tmp 11], (some 69), none, [], false⟩,
    ⟨3, .q (.iad 3), [.tmp 68, .tmp 69], (some 70), none, [], false⟩,
    ⟨4, .q (.fad 2), [.tmp 70], (some 71), none, [], false⟩,
    ⟨5, .q .ld, [.tmp 71], (some 72), none, [], false⟩,
    ⟨6, .e (.call 18), [.tmp 67, .tmp 72], (some 73), none, [], false⟩,
    ⟨7, .q .mv, [.tmp 73], (some 8), none, [], false⟩])))
 L7_0)
def L7_2 : LCode :=
 (.reg [⟨0, .q .mv, [.tmp 11], (some 51), none, [], false⟩,
   ⟨1, .q (.bin .add), [.tmp 51, .const (.int .i64 1)], (some 52), none, [], false⟩,
   ⟨2, .q .mv, [.tmp 52], (some 11), none, [], false⟩])
def L7_3 : LCode :=
 (.seq
 (.seq
 (.reg [⟨0, .q .mv, [.tmp 11], (some 47), none, [], false⟩,
   ⟨1, .q .mv, [.tmp 2], (some 48), none, [], false⟩,
   ⟨2, .q .len, [.tmp 48], (some 49), none, [], false⟩,
   ⟨3, .q (.bin .lss), [.tmp 47, .tmp 49], (some 50), none, [], false⟩])
 (.cond (.tmp 50)
  .skip
  (.exit 0)))
 (.seq
 (.block 1
  (.seq
  (.reg [⟨0, .q .mv, [.tmp 7], (some 53), none, [], false⟩,
    ⟨1, .q .mv, [.tmp 53], (some 12), none, [], false⟩])
  (.seq
  (.seq
  (.reg [⟨0, .q .mv, [.tmp 2], (some 54), none, [], false⟩,
    ⟨1, .q .mv, [.tmp 11], (some 55), none, [], false⟩,
    ⟨2, .q (.iad 3), [.tmp 54, .tmp 55], (some 56), none, [], false⟩,
    ⟨3, .q (.fad 1), [.tmp 56], (some 57), none, [], false⟩,
    ⟨4, .q .ld, [.tmp 57], (some 58), none, [], false⟩])
  (.cond (.tmp 58)
   (.reg [⟨0, .q .mv, [.tmp 9], (some 59), none, [], false⟩,
     ⟨1, .q .mv, [.tmp 59], (some 12), none, [], false⟩])
   .skip))
  L7_1)))
 L7_2))
def L7 : LFn :=
 ⟨82, [.t 6],
 (.seq
 (.reg [⟨0, .q .mv, [.const (.bool false)], (some 6), none, [], false⟩])
 (.seq
 (.reg [⟨0, .q .mv, [.tmp 0], (some 14), none, [], false⟩,
   ⟨1, .e (.call 16), [.tmp 14], (some 15), none, [], false⟩,
   ⟨2, .q .mv, [.tmp 15], (some 13), none, [], false⟩,
   ⟨3, .q (.ext 0), [.tmp 13], (some 16), none, [], false⟩,
   ⟨4, .q (.ext 1), [.tmp 13], (some 17), none, [], false⟩,
   ⟨5, .q .mv, [.tmp 16], (some 7), none, [], false⟩,
   ⟨6, .q .mv, [.tmp 17], (some 8), none, [], false⟩])
 (.seq
 (.reg [⟨0, .q .mv, [.tmp 1], (some 19), none, [], false⟩,
   ⟨1, .e (.call 16), [.tmp 19], (some 20), none, [], false⟩,
   ⟨2, .q .mv, [.tmp 20], (some 18), none, [], false⟩,
   ⟨3, .q (.ext 0), [.tmp 18], (some 21), none, [], false⟩,
   ⟨4, .q (.ext 1), [.tmp 18], (some 22), none, [], false⟩,
   ⟨5, .q .mv, [.tmp 21], (some 9), none, [], false⟩,
   ⟨6, .q .mv, [.tmp 22], (some 10), none, [], false⟩])
 (.seq
 (.seq
 (.reg [⟨0, .q .mv, [.tmp 8], (some 23), none, [], false⟩,
   ⟨1, .q (.un .not), [.tmp 23], (some 24), none, [], false⟩,
   ⟨2, .q .mv, [.tmp 24], (some 25), none, [], false⟩,
   ⟨3, .q .mv, [.tmp 10], (some 26), (some (25, false)), [], false⟩,
   ⟨4, .q (.un .not), [.tmp 26], (some 27), (some (25, false)), [], false⟩,
   ⟨5, .q .pick, [.tmp 25, .const (.bool true), .tmp 27], (some 28), none, [], false⟩,
   ⟨6, .q .mv, [.tmp 28], (some 29), none, [], false⟩,
   ⟨7, .q .mv, [.tmp 7], (some 30), (some (29, false)), [], false⟩,
   ⟨8, .q .nilc, [.tmp 30], (some 31), (some (29, false)), [], false⟩,
   ⟨9, .q (.fad 0), [.tmp 31], (some 32), (some (29, false)), [], false⟩,
   ⟨10, .q .ld, [.tmp 32], (some 33), (some (29, false)), [], false⟩,
   ⟨11, .q (.eqp false), [.tmp 33, .const (.pointer none)], (some 34), (some (29, false)), [], false⟩,
   ⟨12, .q .pick, [.tmp 29, .const (.bool true), .tmp 34], (some 35), none, [], false⟩,
   ⟨13, .q .mv, [.tmp 35], (some 36), none, [], false⟩,
   ⟨14, .q .mv, [.tmp 9], (some 37), (some (36, false)), [], false⟩,
   ⟨15, .q .nilc, [.tmp 37], (some 38), (some (36, false)), [], false⟩,
   ⟨16, .q (.fad 0), [.tmp 38], (some 39), (some (36, false)), [], false⟩,
   ⟨17, .q .ld, [.tmp 39], (some 40), (some (36, false)), [], false⟩,
   ⟨18, .q (.eqp false), [.tmp 40, .const (.pointer none)], (some 41), (some (36, false)), [], false⟩,
   ⟨19, .q .pick, [.tmp 36, .const (.bool true), .tmp 41], (some 42), none, [], false⟩])
 (.cond (.tmp 42)
  (.seq
  (.reg [⟨0, .q .mv, [.tmp 8], (some 43), none, [], false⟩,
    ⟨1, .q .mv, [.tmp 43], (some 44), none, [], false⟩,
    ⟨2, .q .mv, [.tmp 10], (some 45), (some (44, true)), [], false⟩,
    ⟨3, .q .pick, [.tmp 44, .tmp 45, .const (.bool false)], (some 46), none, [], false⟩,
    ⟨4, .q .mv, [.tmp 46], (some 6), none, [], false⟩])
  .ret)
  .skip))
 (.seq
 (.seq
 (.reg [⟨0, .q .mv, [.const (.int .i64 0)], (some 11), none, [], false⟩])
 (.block 0
  (.loop L7_3)))
 (.seq
 (.reg [⟨0, .q .mv, [.tmp 7], (some 76), none, [], false⟩,
   ⟨1, .e (.call 17), [.tmp 76], (some 77), none, [], false⟩,
   ⟨2, .q .mv, [.tmp 77], (some 78), none, [], false⟩,
   ⟨3, .q .mv, [.tmp 9], (some 79), (some (78, true)), [], false⟩,
   ⟨4, .e (.call 17), [.tmp 79], (some 80), (some (78, true)), [], false⟩,
   ⟨5, .q .pick, [.tmp 78, .tmp 80, .const (.bool false)], (some 81), none, [], false⟩,
   ⟨6, .q .mv, [.tmp 81], (some 6), none, [], false⟩])
 .ret))))))⟩
theorem low7 : lowFn Tryd.prog Tryd.f7 = some L7 := by kernel_rfl
theorem call7 {args : List Value} {H : Heap} {S : Ending → Heap → Prop} (hn : args.length ≤ L7.n) (h : awpC Tryd.prog L7.body (retQ L7.results S) (fun ch H => S (.panicked ch) H) (env0 args) H) : ACalls Tryd.prog 7 args.toArray H S := acalls mixed Tryd.func7 low7 hn h
/-- satchel/satchellaw06.InflatePieces -/
def L8 : LFn :=
 ⟨157, [.t 6],
 (.seq
 (.reg [⟨0, .q .mv, [.const (.bool false)], (some 6), none, [], false⟩])
 (.seq
 (.seq
 (.reg [⟨0, .e (.call 14), [], (some 18), none, [], false⟩,
   ⟨1, .q (.un .not), [.tmp 18], (some 19), none, [], false⟩])
 (.cond (.tmp 19)
  (.seq
  (.reg [⟨0, .q .mv, [.const (.bool false)], (some 6), none, [], false⟩])
  .ret)
  .skip))
 (.seq
 (.seq
 (.reg [⟨0, .q .mv, [.tmp 1], (some 20), none, [], false⟩,
   ⟨1, .q (.bin .lss), [.tmp 20, .const (.int .i64 0)], (some 21), none, [], false⟩,
   ⟨2, .q .mv, [.tmp 21], (some 22), none, [], false⟩,
   ⟨3, .q .mv, [.tmp 1], (some 23), (some (22, false)), [], false⟩,
   ⟨4, .q (.bin .gtr), [.tmp 23, .const (.int .i64 4194304)], (some 24), (some (22, false)), [], false⟩,
   ⟨5, .q .pick, [.tmp 22, .const (.bool true), .tmp 24], (some 25), none, [], false⟩])
 (.cond (.tmp 25)
  (.seq
  (.reg [⟨0, .q .mv, [.tmp 1], (some 27), none, [], false⟩,
    ⟨1, .e (.call 19), [.tmp 27], (some 28), none, [], false⟩,
    ⟨2, .q .mv, [.tmp 28], (some 26), none, [], false⟩,
    ⟨3, .q (.ext 0), [.tmp 26], (some 29), none, [], false⟩,
    ⟨4, .q (.ext 1), [.tmp 26], (some 30), none, [], false⟩,
    ⟨5, .q .mv, [.tmp 29], (some 7), none, [], false⟩,
    ⟨6, .q .mv, [.tmp 30], (some 8), none, [], false⟩])
  (.seq
  (.reg [⟨0, .q .mv, [.tmp 7], (some 31), none, [], false⟩,
    ⟨1, .q (.eqp false), [.tmp 31, .const (.pointer none)], (some 32), none, [], false⟩,
    ⟨2, .q .mv, [.tmp 32], (some 33), none, [], false⟩,
    ⟨3, .q .mv, [.tmp 8], (some 34), (some (33, true)), [], false⟩,
    ⟨4, .q (.bin .eql), [.tmp 34, .const (.int .i64 1)], (some 35), (some (33, true)), [], false⟩,
    ⟨5, .q .pick, [.tmp 33, .tmp 35, .const (.bool false)], (some 36), none, [], false⟩,
    ⟨6, .q .mv, [.tmp 36], (some 6), none, [], false⟩])
  .ret))
  .skip))
 (.seq
 (.reg [⟨0, .q .mv, [.tmp 0], (some 38), none, [], false⟩,
   ⟨1, .q .mv, [.tmp 1], (some 39), none, [], false⟩,
   ⟨2, .q .mv, [.tmp 2], (some 40), none, [], false⟩,
   ⟨3, .e (.call 15), [.tmp 38, .tmp 39, .tmp 40], (some 41), none, [], false⟩,
   ⟨4, .q .mv, [.tmp 41], (some 37), none, [], false⟩,
   ⟨5, .q (.ext 0), [.tmp 37], (some 42), none, [], false⟩,
   ⟨6, .q (.ext 1), [.tmp 37], (some 43), none, [], false⟩,
   ⟨7, .q (.ext 2), [.tmp 37], (some 44), none, [], false⟩,
   ⟨8, .q .mv, [.tmp 42], (some 9), none, [], false⟩,
   ⟨9, .q .mv, [.tmp 43], (some 10), none, [], false⟩,
   ⟨10, .q .mv, [.tmp 44], (some 11), none, [], false⟩])
 (.seq
 (.reg [⟨0, .q .mv, [.tmp 0], (some 46), none, [], false⟩,
   ⟨1, .q .mv, [.tmp 1], (some 47), none, [], false⟩,
   ⟨2, .e (.call 15), [.tmp 46, .tmp 47, .const (.slice none 0 0)], (some 48), none, [], false⟩,
   ⟨3, .q .mv, [.tmp 48], (some 45), none, [], false⟩,
   ⟨4, .q (.ext 0), [.tmp 45], (some 49), none, [], false⟩,
   ⟨5, .q (.ext 1), [.tmp 45], (some 50), none, [], false⟩,
   ⟨6, .q (.ext 2), [.tmp 45], (some 51), none, [], false⟩,
   ⟨7, .q .mv, [.tmp 49], (some 12), none, [], false⟩,
   ⟨8, .q .mv, [.tmp 50], (some 13), none, [], false⟩,
   ⟨9, .q .mv, [.tmp 51], (some 14), none, [], false⟩])
 (.seq
 (.seq
 (.reg [⟨0, .q .mv, [.tmp 11], (some 52), none, [], false⟩,
   ⟨1, .q (.eqp false), [.tmp 52, .const (.pointer none)], (some 53), none, [], false⟩,
   ⟨2, .q .mv, [.tmp 53], (some 54), none, [], false⟩,
   ⟨3, .q .mv, [.tmp 14], (some 55), (some (54, false)), [], false⟩,
   ⟨4, .q (.eqp false), [.tmp 55, .const (.pointer none)], (some 56), (some (54, false)), [], false⟩,
   ⟨5, .q .pick, [.tmp 54, .const (.bool true), .tmp 56], (some 57), none, [], false⟩,
   ⟨6, .q .mv, [.tmp 57], (some 58), none, [], false⟩,
   ⟨7, .q .mv, [.tmp 10], (some 59), (some (58, false)), [], false⟩,
   ⟨8, .q .mv, [.tmp 13], (some 60), (some (58, false)), [], false⟩,
   ⟨9, .q (.bin .neq), [.tmp 59, .tmp 60], (some 61), (some (58, false)), [], false⟩,
   ⟨10, .q .pick, [.tmp 58, .const (.bool true), .tmp 61], (some 62), none, [], false⟩,
   ⟨11, .q .mv, [.tmp 62], (some 63), none, [], false⟩,
   ⟨12, .q .mv, [.tmp 9], (some 64), (some (63, false)), [], false⟩,
   ⟨13, .q .b2s, [.tmp 64], (some 65), (some (63, false)), [], false⟩,
   ⟨14, .q .mv, [.tmp 12], (some 66), (some (63, false)), [], false⟩,
   ⟨15, .q .b2s, [.tmp 66], (some 67), (some (63, false)), [], false⟩,
   ⟨16, .q (.bin .neq), [.tmp 65, .tmp 67], (some 68), (some (63, false)), [], false⟩,
   ⟨17, .q .pick, [.tmp 63, .const (.bool true), .tmp 68], (some 69), none, [], false⟩,
   ⟨18, .q .mv, [.tmp 69], (some 70), none, [], false⟩,
   ⟨19, .q .mv, [.tmp 11], (some 71), (some (70, false)), [], false⟩,
   ⟨21, .q .mv, [.tmp 14], (some 73), (some (70, false)), [], false⟩,
   ⟨20, .e (.call 20), [.tmp 71], (some 72), (some (70, false)), [], false⟩,
   ⟨22, .e (.call 20), [.tmp 73], (some 74), (some (70, false)), [], false⟩,
   ⟨23, .q (.eqb true), [.tmp 72, .tmp 74], (some 75), (some (70, false)), [], false⟩,
   ⟨24, .q .pick, [.tmp 70, .const (.bool true), .tmp 75], (some 76), none, [], false⟩,
   ⟨25, .q .mv, [.tmp 76], (some 77), none, [], false⟩,
   ⟨26, .q .mv, [.tmp 11], (some 78), (some (77, false)), [], false⟩,
   ⟨29, .q .mv, [.tmp 14], (some 81), (some (77, false)), [], false⟩,
   ⟨27, .e (.call 21), [.tmp 78], (some 79), (some (77, false)), [], false⟩,
   ⟨28, .q .b2s, [.tmp 79], (some 80), (some (77, false)), [], true⟩,
   ⟨30, .e (.call 21), [.tmp 81], (some 82), (some (77, false)), [28], false⟩,
   ⟨31, .q .b2s, [.tmp 82], (some 83), (some (77, false)), [], false⟩,
   ⟨32, .q (.bin .neq), [.tmp 80, .tmp 83], (some 84), (some (77, false)), [], false⟩,
   ⟨33, .q .pick, [.tmp 77, .const (.bool true), .tmp 84], (some 85), none, [], false⟩])
 (.cond (.tmp 85)
  (.seq
  (.reg [⟨0, .q .mv, [.const (.bool false)], (some 6), none, [], false⟩])
  .ret)
  .skip))
 (.seq
 (.reg [⟨0, .e (.lits 5 #[] 0 []), [], (some 87), none, [], false⟩,
   ⟨1, .q .mv, [.tmp 0], (some 88), none, [], false⟩,
   ⟨2, .e (.app 5 1 1 #[(.int .u8 0)]), [.tmp 87, .tmp 88], (some 89), none, [], false⟩,
   ⟨3, .q .mv, [.tmp 1], (some 90), none, [], false⟩,
   ⟨4, .e (.call 10), [.tmp 89, .tmp 90], (some 91), none, [], false⟩,
   ⟨5, .q .mv, [.tmp 91], (some 86), none, [], false⟩,
   ⟨6, .q (.ext 0), [.tmp 86], (some 92), none, [], false⟩,
   ⟨7, .q (.ext 1), [.tmp 86], (some 93), none, [], false⟩,
   ⟨8, .q (.ext 2), [.tmp 86], (some 94), none, [], false⟩,
   ⟨9, .q .mv, [.tmp 92], (some 15), none, [], false⟩,
   ⟨10, .q .mv, [.tmp 93], (some 16), none, [], false⟩,
   ⟨11, .q .mv, [.tmp 94], (some 17), none, [], false⟩])
 (.seq
 (.seq
 (.reg [⟨0, .q .mv, [.tmp 17], (some 95), none, [], false⟩])
 (.block 0
  (.seq
  (.reg [⟨0, .q (.bin .eql), [.tmp 95, .const (.int .i64 0)], (some 97), none, [], false⟩,
    ⟨1, .q .mv, [.tmp 97], (some 96), none, [], false⟩])
  (.cond (.tmp 96)
   (.seq
   (.reg [⟨0, .q .mv, [.tmp 10], (some 98), none, [], false⟩,
     ⟨1, .q (.bin .eql), [.tmp 98, .const (.int .i64 0)], (some 99), none, [], false⟩,
     ⟨2, .q .mv, [.tmp 99], (some 100), none, [], false⟩,
     ⟨3, .q .mv, [.tmp 9], (some 101), (some (100, true)), [], false⟩,
     ⟨4, .q .b2s, [.tmp 101], (some 102), (some (100, true)), [], false⟩,
     ⟨5, .q .mv, [.tmp 15], (some 103), (some (100, true)), [], false⟩,
     ⟨6, .q .b2s, [.tmp 103], (some 104), (some (100, true)), [], false⟩,
     ⟨7, .q (.bin .eql), [.tmp 102, .tmp 104], (some 105), (some (100, true)), [], false⟩,
     ⟨8, .q .pick, [.tmp 100, .tmp 105, .const (.bool false)], (some 106), none, [], false⟩,
     ⟨9, .q .mv, [.tmp 106], (some 107), none, [], false⟩,
     ⟨10, .q .mv, [.tmp 11], (some 108), (some (107, true)), [], false⟩,
     ⟨11, .e (.call 20), [.tmp 108], (some 109), (some (107, true)), [], false⟩,
     ⟨12, .q .pick, [.tmp 107, .tmp 109, .const (.bool false)], (some 110), none, [], false⟩,
     ⟨13, .q .mv, [.tmp 110], (some 111), none, [], false⟩,
     ⟨14, .q .mv, [.tmp 11], (some 112), (some (111, true)), [], false⟩,
     ⟨15, .e (.call 22), [.tmp 112], (some 113), (some (111, true)), [], false⟩,
     ⟨16, .q .mv, [.tmp 16], (some 114), (some (111, true)), [], false⟩,
     ⟨17, .q (.bin .eql), [.tmp 113, .tmp 114], (some 115), (some (111, true)), [], false⟩,
     ⟨18, .q .pick, [.tmp 111, .tmp 115, .const (.bool false)], (some 116), none, [], false⟩,
     ⟨19, .q .mv, [.tmp 116], (some 117), none, [], false⟩,
     ⟨20, .q .mv, [.tmp 14], (some 118), (some (117, true)), [], false⟩,
     ⟨21, .e (.call 22), [.tmp 118], (some 119), (some (117, true)), [], false⟩,
     ⟨22, .q .mv, [.tmp 16], (some 120), (some (117, true)), [], false⟩,
     ⟨23, .q (.bin .eql), [.tmp 119, .tmp 120], (some 121), (some (117, true)), [], false⟩,
     ⟨24, .q .pick, [.tmp 117, .tmp 121, .const (.bool false)], (some 122), none, [], false⟩,
     ⟨25, .q .mv, [.tmp 122], (some 123), none, [], false⟩,
     ⟨26, .q .mv, [.tmp 11], (some 124), (some (123, true)), [], false⟩,
     ⟨27, .e (.call 21), [.tmp 124], (some 125), (some (123, true)), [], false⟩,
     ⟨28, .q .len, [.tmp 125], (some 126), (some (123, true)), [], false⟩,
     ⟨29, .q .mv, [.tmp 0], (some 127), (some (123, true)), [], false⟩,
     ⟨30, .q .len, [.tmp 127], (some 128), (some (123, true)), [], false⟩,
     ⟨31, .q .mv, [.tmp 16], (some 129), (some (123, true)), [], false⟩,
     ⟨32, .q (.bin .sub), [.tmp 128, .tmp 129], (some 130), (some (123, true)), [], false⟩,
     ⟨33, .q (.bin .eql), [.tmp 126, .tmp 130], (some 131), (some (123, true)), [], false⟩,
     ⟨34, .q .pick, [.tmp 123, .tmp 131, .const (.bool false)], (some 132), none, [], false⟩,
     ⟨35, .q .mv, [.tmp 132], (some 6), none, [], false⟩])
   .ret)
   (.seq
   (.reg [⟨0, .q (.bin .eql), [.tmp 95, .const (.int .i64 4)], (some 134), none, [], false⟩,
     ⟨1, .q .mv, [.tmp 134], (some 133), none, [], false⟩])
   (.cond (.tmp 133)
    (.seq
    (.reg [⟨0, .q .mv, [.tmp 10], (some 135), none, [], false⟩,
      ⟨1, .q (.bin .eql), [.tmp 135, .const (.int .i64 0)], (some 136), none, [], false⟩,
      ⟨2, .q .mv, [.tmp 136], (some 137), none, [], false⟩,
      ⟨3, .q .mv, [.tmp 11], (some 138), (some (137, true)), [], false⟩,
      ⟨4, .e (.call 20), [.tmp 138], (some 139), (some (137, true)), [], false⟩,
      ⟨5, .q (.un .not), [.tmp 139], (some 140), (some (137, true)), [], false⟩,
      ⟨6, .q .pick, [.tmp 137, .tmp 140, .const (.bool false)], (some 141), none, [], false⟩,
      ⟨7, .q .mv, [.tmp 141], (some 142), none, [], false⟩,
      ⟨8, .q .mv, [.tmp 11], (some 143), (some (142, true)), [], false⟩,
      ⟨9, .e (.call 22), [.tmp 143], (some 144), (some (142, true)), [], false⟩,
      ⟨10, .q .mv, [.tmp 0], (some 145), (some (142, true)), [], false⟩,
      ⟨11, .q .len, [.tmp 145], (some 146), (some (142, true)), [], false⟩,
      ⟨12, .q (.bin .eql), [.tmp 144, .tmp 146], (some 147), (some (142, true)), [], false⟩,
      ⟨13, .q .pick, [.tmp 142, .tmp 147, .const (.bool false)], (some 148), none, [], false⟩,
      ⟨14, .q .mv, [.tmp 148], (some 6), none, [], false⟩])
    .ret)
    .skip))))))
 (.seq
 (.reg [⟨0, .q .mv, [.tmp 10], (some 149), none, [], false⟩,
   ⟨1, .q .mv, [.tmp 17], (some 150), none, [], false⟩,
   ⟨2, .q (.bin .eql), [.tmp 149, .tmp 150], (some 151), none, [], false⟩,
   ⟨3, .q .mv, [.tmp 151], (some 152), none, [], false⟩,
   ⟨4, .q .mv, [.tmp 11], (some 153), (some (152, true)), [], false⟩,
   ⟨5, .e (.call 20), [.tmp 153], (some 154), (some (152, true)), [], false⟩,
   ⟨6, .q (.un .not), [.tmp 154], (some 155), (some (152, true)), [], false⟩,
   ⟨7, .q .pick, [.tmp 152, .tmp 155, .const (.bool false)], (some 156), none, [], false⟩,
   ⟨8, .q .mv, [.tmp 156], (some 6), none, [], false⟩])
 .ret)))))))))⟩
theorem low8 : lowFn Tryd.prog Tryd.f8 = some L8 := by kernel_rfl
theorem call8 {args : List Value} {H : Heap} {S : Ending → Heap → Prop} (hn : args.length ≤ L8.n) (h : awpC Tryd.prog L8.body (retQ L8.results S) (fun ch H => S (.panicked ch) H) (env0 args) H) : ACalls Tryd.prog 8 args.toArray H S := acalls mixed Tryd.func8 low8 hn h
/-- satchel/satchellaw06.lives -/
def L14 : LFn :=
 ⟨56, [.t 0],
 (.seq
 (.reg [⟨0, .q .mv, [.const (.bool false)], (some 0), none, [], false⟩])
 (.seq
 (.reg [⟨0, .e (.lits 5 #[(.int .u8 0), (.int .u8 0), (.int .u8 0)] 3 [(0, 1), (1, 1), (2, 1)]), [.const (.int .u8 75), .const (.int .u8 4), .const (.int .u8 0)], (some 11), none, [], false⟩,
   ⟨1, .e (.call 10), [.tmp 11, .const (.int .i64 9)], (some 12), none, [], false⟩,
   ⟨2, .q .mv, [.tmp 12], (some 10), none, [], false⟩,
   ⟨3, .q (.ext 0), [.tmp 10], (some 13), none, [], false⟩,
   ⟨4, .q (.ext 1), [.tmp 10], (some 14), none, [], false⟩,
   ⟨5, .q (.ext 2), [.tmp 10], (some 15), none, [], false⟩,
   ⟨6, .q .mv, [.tmp 13], (some 1), none, [], false⟩,
   ⟨7, .q .mv, [.tmp 14], (some 2), none, [], false⟩,
   ⟨8, .q .mv, [.tmp 15], (some 3), none, [], false⟩])
 (.seq
 (.reg [⟨0, .e (.lits 5 #[(.int .u8 0), (.int .u8 0), (.int .u8 0), (.int .u8 0), (.int .u8 0), (.int .u8 0)] 6 [(0, 1), (1, 1), (2, 1), (3, 1), (4, 1), (5, 1)]), [.const (.int .u8 1), .const (.int .u8 1), .const (.int .u8 0), .const (.int .u8 254), .const (.int .u8 255), .const (.int .u8 97)], (some 17), none, [], false⟩,
   ⟨1, .e (.call 10), [.tmp 17, .const (.int .i64 9)], (some 18), none, [], false⟩,
   ⟨2, .q .mv, [.tmp 18], (some 16), none, [], false⟩,
   ⟨3, .q (.ext 0), [.tmp 16], (some 19), none, [], false⟩,
   ⟨4, .q (.ext 1), [.tmp 16], (some 20), none, [], false⟩,
   ⟨5, .q (.ext 2), [.tmp 16], (some 21), none, [], false⟩,
   ⟨6, .q .mv, [.tmp 19], (some 4), none, [], false⟩,
   ⟨7, .q .mv, [.tmp 20], (some 5), none, [], false⟩,
   ⟨8, .q .mv, [.tmp 21], (some 6), none, [], false⟩])
 (.seq
 (.reg [⟨0, .e (.lits 5 #[(.int .u8 0)] 1 [(0, 1)]), [.const (.int .u8 7)], (some 23), none, [], false⟩,
   ⟨1, .e (.call 10), [.tmp 23, .const (.int .i64 9)], (some 24), none, [], false⟩,
   ⟨2, .q .mv, [.tmp 24], (some 22), none, [], false⟩,
   ⟨3, .q (.ext 0), [.tmp 22], (some 25), none, [], false⟩,
   ⟨4, .q (.ext 1), [.tmp 22], (some 26), none, [], false⟩,
   ⟨5, .q (.ext 2), [.tmp 22], (some 27), none, [], false⟩,
   ⟨6, .q .mv, [.tmp 25], (some 7), none, [], false⟩,
   ⟨7, .q .mv, [.tmp 26], (some 8), none, [], false⟩,
   ⟨8, .q .mv, [.tmp 27], (some 9), none, [], false⟩])
 (.seq
 (.reg [⟨0, .q .mv, [.tmp 1], (some 28), none, [], false⟩,
   ⟨1, .q .b2s, [.tmp 28], (some 29), none, [], false⟩,
   ⟨2, .q (.bin .eql), [.tmp 29, .const (.string ⟨#[97]⟩)], (some 30), none, [], false⟩,
   ⟨3, .q .mv, [.tmp 30], (some 31), none, [], false⟩,
   ⟨4, .q .mv, [.tmp 2], (some 32), (some (31, true)), [], false⟩,
   ⟨5, .q (.bin .eql), [.tmp 32, .const (.int .i64 3)], (some 33), (some (31, true)), [], false⟩,
   ⟨6, .q .pick, [.tmp 31, .tmp 33, .const (.bool false)], (some 34), none, [], false⟩,
   ⟨7, .q .mv, [.tmp 34], (some 35), none, [], false⟩,
   ⟨8, .q .mv, [.tmp 3], (some 36), (some (35, true)), [], false⟩,
   ⟨9, .q (.bin .eql), [.tmp 36, .const (.int .i64 0)], (some 37), (some (35, true)), [], false⟩,
   ⟨10, .q .pick, [.tmp 35, .tmp 37, .const (.bool false)], (some 38), none, [], false⟩,
   ⟨11, .q .mv, [.tmp 38], (some 39), none, [], false⟩,
   ⟨12, .q .mv, [.tmp 4], (some 40), (some (39, true)), [], false⟩,
   ⟨13, .q .b2s, [.tmp 40], (some 41), (some (39, true)), [], false⟩,
   ⟨14, .q (.bin .eql), [.tmp 41, .const (.string ⟨#[97]⟩)], (some 42), (some (39, true)), [], false⟩,
   ⟨15, .q .pick, [.tmp 39, .tmp 42, .const (.bool false)], (some 43), none, [], false⟩,
   ⟨16, .q .mv, [.tmp 43], (some 44), none, [], false⟩,
   ⟨17, .q .mv, [.tmp 5], (some 45), (some (44, true)), [], false⟩,
   ⟨18, .q (.bin .eql), [.tmp 45, .const (.int .i64 6)], (some 46), (some (44, true)), [], false⟩,
   ⟨19, .q .pick, [.tmp 44, .tmp 46, .const (.bool false)], (some 47), none, [], false⟩,
   ⟨20, .q .mv, [.tmp 47], (some 48), none, [], false⟩,
   ⟨21, .q .mv, [.tmp 6], (some 49), (some (48, true)), [], false⟩,
   ⟨22, .q (.bin .eql), [.tmp 49, .const (.int .i64 0)], (some 50), (some (48, true)), [], false⟩,
   ⟨23, .q .pick, [.tmp 48, .tmp 50, .const (.bool false)], (some 51), none, [], false⟩,
   ⟨24, .q .mv, [.tmp 51], (some 52), none, [], false⟩,
   ⟨25, .q .mv, [.tmp 9], (some 53), (some (52, true)), [], false⟩,
   ⟨26, .q (.bin .eql), [.tmp 53, .const (.int .i64 60)], (some 54), (some (52, true)), [], false⟩,
   ⟨27, .q .pick, [.tmp 52, .tmp 54, .const (.bool false)], (some 55), none, [], false⟩,
   ⟨28, .q .mv, [.tmp 55], (some 0), none, [], false⟩])
 .ret)))))⟩
theorem low14 : lowFn Tryd.prog Tryd.f14 = some L14 := by kernel_rfl
theorem call14 {args : List Value} {H : Heap} {S : Ending → Heap → Prop} (hn : args.length ≤ L14.n) (h : awpC Tryd.prog L14.body (retQ L14.results S) (fun ch H => S (.panicked ch) H) (env0 args) H) : ACalls Tryd.prog 14 args.toArray H S := acalls mixed Tryd.func14 low14 hn h
/-- satchel/satchellaw06.fed -/
def L15_0 : LCode :=
 (.reg [⟨0, .q .mv, [.tmp 15], (some 72), none, [], false⟩,
   ⟨1, .q .mv, [.tmp 72], (some 13), none, [], false⟩])
def L15_1 : LCode :=
 (.seq
 (.seq
 (.reg [⟨0, .q .mv, [.tmp 15], (some 46), none, [], false⟩,
   ⟨1, .q .mv, [.tmp 13], (some 47), none, [], false⟩,
   ⟨2, .q (.bin .lss), [.tmp 46, .tmp 47], (some 48), none, [], false⟩,
   ⟨3, .q .mv, [.tmp 48], (some 49), none, [], false⟩,
   ⟨4, .q .mv, [.tmp 15], (some 50), (some (49, false)), [], false⟩,
   ⟨5, .q .mv, [.tmp 0], (some 51), (some (49, false)), [], false⟩,
   ⟨6, .q .len, [.tmp 51], (some 52), (some (49, false)), [], false⟩,
   ⟨7, .q (.bin .gtr), [.tmp 50, .tmp 52], (some 53), (some (49, false)), [], false⟩,
   ⟨8, .q .pick, [.tmp 49, .const (.bool true), .tmp 53], (some 54), none, [], false⟩])
 (.cond (.tmp 54)
  (.exit 1)
  .skip))
 (.seq
 (.reg [⟨0, .q .mv, [.tmp 9], (some 56), none, [], false⟩,
   ⟨1, .e (.lits 5 #[] 0 []), [], (some 57), none, [], false⟩,
   ⟨2, .q .mv, [.tmp 0], (some 58), none, [], false⟩,
   ⟨3, .q .mv, [.tmp 13], (some 59), none, [], false⟩,
   ⟨4, .q .mv, [.tmp 15], (some 60), none, [], false⟩,
   ⟨5, .q (.slc 1 true true false), [.tmp 58, .tmp 59, .tmp 60], (some 61), none, [], false⟩,
   ⟨6, .e (.app 5 1 1 #[(.int .u8 0)]), [.tmp 57, .tmp 61], (some 62), none, [], false⟩,
   ⟨7, .e (.call 26), [.tmp 56, .tmp 62], (some 63), none, [], false⟩,
   ⟨8, .q .mv, [.tmp 63], (some 55), none, [], false⟩,
   ⟨9, .q (.ext 0), [.tmp 55], (some 64), none, [], false⟩,
   ⟨10, .q (.ext 1), [.tmp 55], (some 65), none, [], false⟩,
   ⟨11, .q .mv, [.tmp 64], (some 16), none, [], false⟩,
   ⟨12, .q .mv, [.tmp 65], (some 17), none, [], false⟩])
 (.seq
 (.reg [⟨0, .q .mv, [.tmp 11], (some 66), none, [], false⟩,
   ⟨1, .q .mv, [.tmp 16], (some 67), none, [], false⟩,
   ⟨2, .e (.app 5 1 1 #[(.int .u8 0)]), [.tmp 66, .tmp 67], (some 68), none, [], false⟩,
   ⟨3, .q .mv, [.tmp 68], (some 11), none, [], false⟩])
 (.seq
 (.seq
 (.reg [⟨0, .q .mv, [.tmp 12], (some 69), none, [], false⟩,
   ⟨1, .q (.bin .eql), [.tmp 69, .const (.int .i64 0)], (some 70), none, [], false⟩])
 (.cond (.tmp 70)
  (.reg [⟨0, .q .mv, [.tmp 17], (some 71), none, [], false⟩,
    ⟨1, .q .mv, [.tmp 71], (some 12), none, [], false⟩])
  .skip))
 L15_0))))
def L15_2 : LCode :=
 (.reg [⟨0, .q .mv, [.tmp 14], (some 34), none, [], false⟩,
   ⟨1, .q (.bin .add), [.tmp 34, .const (.int .i64 1)], (some 35), none, [], false⟩,
   ⟨2, .q .mv, [.tmp 35], (some 14), none, [], false⟩])
def L15_3 : LCode :=
 (.seq
 (.seq
 (.reg [⟨0, .q .mv, [.tmp 14], (some 30), none, [], false⟩,
   ⟨1, .q .mv, [.tmp 2], (some 31), none, [], false⟩,
   ⟨2, .q .len, [.tmp 31], (some 32), none, [], false⟩,
   ⟨3, .q (.bin .leq), [.tmp 30, .tmp 32], (some 33), none, [], false⟩])
 (.cond (.tmp 33)
  .skip
  (.exit 0)))
 (.seq
 (.block 1
  (.seq
  (.reg [⟨0, .q .mv, [.tmp 0], (some 36), none, [], false⟩,
    ⟨1, .q .len, [.tmp 36], (some 37), none, [], false⟩,
    ⟨2, .q .mv, [.tmp 37], (some 15), none, [], false⟩])
  (.seq
  (.seq
  (.reg [⟨0, .q .mv, [.tmp 14], (some 38), none, [], false⟩,
    ⟨1, .q .mv, [.tmp 2], (some 39), none, [], false⟩,
    ⟨2, .q .len, [.tmp 39], (some 40), none, [], false⟩,
    ⟨3, .q (.bin .lss), [.tmp 38, .tmp 40], (some 41), none, [], false⟩])
  (.cond (.tmp 41)
   (.reg [⟨0, .q .mv, [.tmp 2], (some 42), none, [], false⟩,
     ⟨1, .q .mv, [.tmp 14], (some 43), none, [], false⟩,
     ⟨2, .q (.iad 1), [.tmp 42, .tmp 43], (some 44), none, [], false⟩,
     ⟨3, .q .ld, [.tmp 44], (some 45), none, [], false⟩,
     ⟨4, .q .mv, [.tmp 45], (some 15), none, [], false⟩])
   .skip))
  L15_1)))
 L15_2))
def L15_4 : LCode :=
 (.seq
 (.reg [⟨0, .q .mv, [.tmp 11], (some 73), none, [], false⟩,
   ⟨1, .q .mv, [.tmp 12], (some 74), none, [], false⟩,
   ⟨2, .q .mv, [.tmp 9], (some 75), none, [], false⟩,
   ⟨3, .q .mv, [.tmp 73], (some 6), none, [], false⟩,
   ⟨4, .q .mv, [.tmp 74], (some 7), none, [], false⟩,
   ⟨5, .q .mv, [.tmp 75], (some 8), none, [], false⟩])
 .ret)
def L15 : LFn :=
 ⟨76, [.t 6, .t 7, .t 8],
 (.seq
 (.reg [⟨0, .q .mv, [.const (.slice none 0 0)], (some 6), none, [], false⟩,
   ⟨1, .q .mv, [.const (.int .i64 0)], (some 7), none, [], false⟩,
   ⟨2, .q .mv, [.const (.pointer none)], (some 8), none, [], false⟩])
 (.seq
 (.reg [⟨0, .q .mv, [.tmp 1], (some 19), none, [], false⟩,
   ⟨1, .e (.call 19), [.tmp 19], (some 20), none, [], false⟩,
   ⟨2, .q .mv, [.tmp 20], (some 18), none, [], false⟩,
   ⟨3, .q (.ext 0), [.tmp 18], (some 21), none, [], false⟩,
   ⟨4, .q (.ext 1), [.tmp 18], (some 22), none, [], false⟩,
   ⟨5, .q .mv, [.tmp 21], (some 9), none, [], false⟩,
   ⟨6, .q .mv, [.tmp 22], (some 10), none, [], false⟩])
 (.seq
 (.seq
 (.reg [⟨0, .q .mv, [.tmp 10], (some 23), none, [], false⟩,
   ⟨1, .q (.bin .neq), [.tmp 23, .const (.int .i64 0)], (some 24), none, [], false⟩,
   ⟨2, .q .mv, [.tmp 24], (some 25), none, [], false⟩,
   ⟨3, .q .mv, [.tmp 9], (some 26), (some (25, false)), [], false⟩,
   ⟨4, .q (.eqp false), [.tmp 26, .const (.pointer none)], (some 27), (some (25, false)), [], false⟩,
   ⟨5, .q .pick, [.tmp 25, .const (.bool true), .tmp 27], (some 28), none, [], false⟩])
 (.cond (.tmp 28)
  (.seq
  (.reg [⟨0, .q .mv, [.tmp 10], (some 29), none, [], false⟩,
    ⟨1, .q .mv, [.const (.slice none 0 0)], (some 6), none, [], false⟩,
    ⟨2, .q .mv, [.tmp 29], (some 7), none, [], false⟩,
    ⟨3, .q .mv, [.const (.pointer none)], (some 8), none, [], false⟩])
  .ret)
  .skip))
 (.seq
 (.reg [⟨0, .q .mv, [.const (.slice none 0 0)], (some 11), none, [], false⟩])
 (.seq
 (.reg [⟨0, .q .mv, [.const (.int .i64 0)], (some 12), none, [], false⟩])
 (.seq
 (.reg [⟨0, .q .mv, [.const (.int .i64 0)], (some 13), none, [], false⟩])
 (.seq
 (.seq
 (.reg [⟨0, .q .mv, [.const (.int .i64 0)], (some 14), none, [], false⟩])
 (.block 0
  (.loop L15_3)))
 L15_4)))))))⟩
theorem low15 : lowFn Tryd.prog Tryd.f15 = some L15 := by kernel_rfl
theorem call15 {args : List Value} {H : Heap} {S : Ending → Heap → Prop} (hn : args.length ≤ L15.n) (h : awpC Tryd.prog L15.body (retQ L15.results S) (fun ch H => S (.panicked ch) H) (env0 args) H) : ACalls Tryd.prog 15 args.toArray H S := acalls mixed Tryd.func15 low15 hn h
/-- satchel/satchellaw06.made -/
def L16_0 : LCode :=
 (.seq
 (.reg [⟨0, .q .mv, [.tmp 4], (some 18), none, [], false⟩,
   ⟨1, .q .mv, [.tmp 0], (some 19), none, [], false⟩,
   ⟨2, .q (.build #[(.int .i64 0), (.int .i64 0), (.slice none 0 0), (.int .i64 0)] [(0, 1)]), [.tmp 19], (some 20), none, [], false⟩,
   ⟨3, .e (.box 61), [.tmp 20], (some 21), none, [], false⟩,
   ⟨4, .q (.build #[(.pointer none), (.pointer none)] [(0, 1), (1, 1)]), [.tmp 18, .tmp 21], (some 22), none, [], false⟩,
   ⟨5, .e (.box 43), [.tmp 22], (some 23), none, [], false⟩,
   ⟨6, .q .mv, [.tmp 5], (some 24), none, [], false⟩,
   ⟨7, .q .mv, [.tmp 6], (some 25), none, [], false⟩,
   ⟨8, .q (.bin .eql), [.tmp 24, .tmp 25], (some 26), none, [], false⟩,
   ⟨9, .q .mv, [.tmp 26], (some 27), none, [], false⟩,
   ⟨10, .q .mv, [.tmp 4], (some 28), (some (27, true)), [], false⟩,
   ⟨11, .q (.eqp false), [.tmp 28, .const (.pointer none)], (some 29), (some (27, true)), [], false⟩,
   ⟨12, .q .mv, [.tmp 6], (some 30), (some (27, true)), [], false⟩,
   ⟨13, .q (.bin .neq), [.tmp 30, .const (.int .i64 0)], (some 31), (some (27, true)), [], false⟩,
   ⟨14, .q (.eqb false), [.tmp 29, .tmp 31], (some 32), (some (27, true)), [], false⟩,
   ⟨15, .q .pick, [.tmp 27, .tmp 32, .const (.bool false)], (some 33), none, [], false⟩,
   ⟨16, .q .mv, [.tmp 23], (some 2), none, [], false⟩,
   ⟨17, .q .mv, [.tmp 33], (some 3), none, [], false⟩])
 .ret)
def L16 : LFn :=
 ⟨34, [.t 2, .t 3],
 (.seq
 (.reg [⟨0, .q .mv, [.const (.pointer none)], (some 2), none, [], false⟩,
   ⟨1, .q .mv, [.const (.bool false)], (some 3), none, [], false⟩])
 (.seq
 (.reg [⟨0, .q .mv, [.tmp 0], (some 8), none, [], false⟩,
   ⟨1, .e (.call 19), [.tmp 8], (some 9), none, [], false⟩,
   ⟨2, .q .mv, [.tmp 9], (some 7), none, [], false⟩,
   ⟨3, .q (.ext 0), [.tmp 7], (some 10), none, [], false⟩,
   ⟨4, .q (.ext 1), [.tmp 7], (some 11), none, [], false⟩,
   ⟨5, .q .mv, [.tmp 10], (some 4), none, [], false⟩,
   ⟨6, .q .mv, [.tmp 11], (some 5), none, [], false⟩])
 (.seq
 (.reg [⟨0, .q .mv, [.const (.int .i64 0)], (some 6), none, [], false⟩])
 (.seq
 (.seq
 (.reg [⟨0, .q .mv, [.tmp 0], (some 12), none, [], false⟩,
   ⟨1, .q (.bin .lss), [.tmp 12, .const (.int .i64 0)], (some 13), none, [], false⟩,
   ⟨2, .q .mv, [.tmp 13], (some 14), none, [], false⟩,
   ⟨3, .q .mv, [.tmp 0], (some 15), (some (14, false)), [], false⟩,
   ⟨4, .q (.bin .gtr), [.tmp 15, .const (.int .i64 4194304)], (some 16), (some (14, false)), [], false⟩,
   ⟨5, .q .pick, [.tmp 14, .const (.bool true), .tmp 16], (some 17), none, [], false⟩])
 (.cond (.tmp 17)
  (.reg [⟨0, .q .mv, [.const (.int .i64 1)], (some 6), none, [], false⟩])
  .skip))
 L16_0))))⟩
theorem low16 : lowFn Tryd.prog Tryd.f16 = some L16 := by kernel_rfl
theorem call16 {args : List Value} {H : Heap} {S : Ending → Heap → Prop} (hn : args.length ≤ L16.n) (h : awpC Tryd.prog L16.body (retQ L16.results S) (fun ch H => S (.panicked ch) H) (env0 args) H) : ACalls Tryd.prog 16 args.toArray H S := acalls mixed Tryd.func16 low16 hn h
/-- (*satchel/satchellaw06.pair).tells -/
def L17 : LFn :=
 ⟨53, [.t 2],
 (.seq
 (.reg [⟨0, .q .mv, [.const (.bool false)], (some 2), none, [], false⟩])
 (.seq
 (.reg [⟨0, .q .mv, [.tmp 0], (some 3), none, [], false⟩,
   ⟨1, .q .nilc, [.tmp 3], (some 4), none, [], false⟩,
   ⟨2, .q (.fad 0), [.tmp 4], (some 5), none, [], false⟩,
   ⟨3, .q .ld, [.tmp 5], (some 6), none, [], false⟩,
   ⟨5, .q .mv, [.tmp 0], (some 8), none, [], false⟩,
   ⟨6, .q .nilc, [.tmp 8], (some 9), none, [], false⟩,
   ⟨7, .q (.fad 1), [.tmp 9], (some 10), none, [], false⟩,
   ⟨8, .q .ld, [.tmp 10], (some 11), none, [], true⟩,
   ⟨4, .e (.call 20), [.tmp 6], (some 7), none, [8], false⟩,
   ⟨9, .e (.call 27), [.tmp 11], (some 12), none, [], false⟩,
   ⟨10, .q (.eqb false), [.tmp 7, .tmp 12], (some 13), none, [], false⟩,
   ⟨11, .q .mv, [.tmp 13], (some 14), none, [], false⟩,
   ⟨12, .q .mv, [.tmp 0], (some 15), (some (14, true)), [], false⟩,
   ⟨13, .q .nilc, [.tmp 15], (some 16), (some (14, true)), [], false⟩,
   ⟨14, .q (.fad 0), [.tmp 16], (some 17), (some (14, true)), [], false⟩,
   ⟨15, .q .ld, [.tmp 17], (some 18), (some (14, true)), [], false⟩,
   ⟨17, .q .mv, [.tmp 0], (some 20), (some (14, true)), [], false⟩,
   ⟨18, .q .nilc, [.tmp 20], (some 21), (some (14, true)), [], false⟩,
   ⟨19, .q (.fad 1), [.tmp 21], (some 22), (some (14, true)), [], false⟩,
   ⟨20, .q .ld, [.tmp 22], (some 23), (some (14, true)), [], true⟩,
   ⟨16, .e (.call 22), [.tmp 18], (some 19), (some (14, true)), [20], false⟩,
   ⟨21, .e (.call 28), [.tmp 23], (some 24), (some (14, true)), [], false⟩,
   ⟨22, .q (.bin .eql), [.tmp 19, .tmp 24], (some 25), (some (14, true)), [], false⟩,
   ⟨23, .q .pick, [.tmp 14, .tmp 25, .const (.bool false)], (some 26), none, [], false⟩,
   ⟨24, .q .mv, [.tmp 26], (some 27), none, [], false⟩,
   ⟨25, .q .mv, [.tmp 0], (some 28), (some (27, true)), [], false⟩,
   ⟨26, .q .nilc, [.tmp 28], (some 29), (some (27, true)), [], false⟩,
   ⟨27, .q (.fad 0), [.tmp 29], (some 30), (some (27, true)), [], false⟩,
   ⟨28, .q .ld, [.tmp 30], (some 31), (some (27, true)), [], false⟩,
   ⟨30, .q .mv, [.tmp 0], (some 33), (some (27, true)), [], false⟩,
   ⟨31, .q .nilc, [.tmp 33], (some 34), (some (27, true)), [], false⟩,
   ⟨32, .q (.fad 1), [.tmp 34], (some 35), (some (27, true)), [], false⟩,
   ⟨33, .q .ld, [.tmp 35], (some 36), (some (27, true)), [], true⟩,
   ⟨29, .e (.call 21), [.tmp 31], (some 32), (some (27, true)), [33], false⟩,
   ⟨34, .e (.call 29), [.tmp 36], (some 37), (some (27, true)), [], false⟩,
   ⟨35, .e (.call 13), [.tmp 32, .tmp 37], (some 38), (some (27, true)), [], false⟩,
   ⟨36, .q .pick, [.tmp 27, .tmp 38, .const (.bool false)], (some 39), none, [], false⟩,
   ⟨37, .q .mv, [.tmp 39], (some 40), none, [], false⟩,
   ⟨38, .q .mv, [.tmp 0], (some 41), (some (40, true)), [], false⟩,
   ⟨39, .q .nilc, [.tmp 41], (some 42), (some (40, true)), [], false⟩,
   ⟨40, .q (.fad 0), [.tmp 42], (some 43), (some (40, true)), [], false⟩,
   ⟨41, .q .ld, [.tmp 43], (some 44), (some (40, true)), [], false⟩,
   ⟨43, .q .mv, [.tmp 0], (some 46), (some (40, true)), [], false⟩,
   ⟨44, .q .nilc, [.tmp 46], (some 47), (some (40, true)), [], false⟩,
   ⟨45, .q (.fad 1), [.tmp 47], (some 48), (some (40, true)), [], false⟩,
   ⟨46, .q .ld, [.tmp 48], (some 49), (some (40, true)), [], true⟩,
   ⟨42, .e (.call 21), [.tmp 44], (some 45), (some (40, true)), [46], false⟩,
   ⟨47, .e (.call 29), [.tmp 49], (some 50), (some (40, true)), [], false⟩,
   ⟨48, .e (.call 13), [.tmp 45, .tmp 50], (some 51), (some (40, true)), [], false⟩,
   ⟨49, .q .pick, [.tmp 40, .tmp 51, .const (.bool false)], (some 52), none, [], false⟩,
   ⟨50, .q .mv, [.tmp 52], (some 2), none, [], false⟩])
 .ret))⟩
theorem low17 : lowFn Tryd.prog Tryd.f17 = some L17 := by kernel_rfl
theorem call17 {args : List Value} {H : Heap} {S : Ending → Heap → Prop} (hn : args.length ≤ L17.n) (h : awpC Tryd.prog L17.body (retQ L17.results S) (fun ch H => S (.panicked ch) H) (env0 args) H) : ACalls Tryd.prog 17 args.toArray H S := acalls mixed Tryd.func17 low17 hn h
/-- (*satchel/satchellaw06.pair).feeds -/
def L18 : LFn :=
 ⟨46, [.t 4],
 (.seq
 (.reg [⟨0, .q .mv, [.const (.bool false)], (some 4), none, [], false⟩])
 (.seq
 (.reg [⟨0, .q .mv, [.tmp 1], (some 10), none, [], false⟩,
   ⟨1, .e (.call 9), [.tmp 10], (some 11), none, [], false⟩,
   ⟨2, .q .mv, [.tmp 11], (some 5), none, [], false⟩])
 (.seq
 (.reg [⟨0, .q .mv, [.tmp 0], (some 13), none, [], false⟩,
   ⟨1, .q .nilc, [.tmp 13], (some 14), none, [], false⟩,
   ⟨2, .q (.fad 0), [.tmp 14], (some 15), none, [], false⟩,
   ⟨3, .q .ld, [.tmp 15], (some 16), none, [], false⟩,
   ⟨4, .q .mv, [.tmp 5], (some 17), none, [], false⟩,
   ⟨5, .q .mv, [.tmp 1], (some 18), none, [], false⟩,
   ⟨6, .q .len, [.tmp 18], (some 19), none, [], false⟩,
   ⟨7, .q (.slc 1 false true false), [.tmp 17, .tmp 19], (some 20), none, [], false⟩,
   ⟨8, .e (.call 26), [.tmp 16, .tmp 20], (some 21), none, [], false⟩,
   ⟨9, .q .mv, [.tmp 21], (some 12), none, [], false⟩,
   ⟨10, .q (.ext 0), [.tmp 12], (some 22), none, [], false⟩,
   ⟨11, .q (.ext 1), [.tmp 12], (some 23), none, [], false⟩,
   ⟨12, .q .mv, [.tmp 22], (some 6), none, [], false⟩,
   ⟨13, .q .mv, [.tmp 23], (some 7), none, [], false⟩])
 (.seq
 (.reg [⟨0, .q .mv, [.tmp 0], (some 25), none, [], false⟩,
   ⟨1, .q .nilc, [.tmp 25], (some 26), none, [], false⟩,
   ⟨2, .q (.fad 1), [.tmp 26], (some 27), none, [], false⟩,
   ⟨3, .q .ld, [.tmp 27], (some 28), none, [], false⟩,
   ⟨4, .q .mv, [.tmp 1], (some 29), none, [], false⟩,
   ⟨5, .e (.call 30), [.tmp 28, .tmp 29], (some 30), none, [], false⟩,
   ⟨6, .q .mv, [.tmp 30], (some 24), none, [], false⟩,
   ⟨7, .q (.ext 0), [.tmp 24], (some 31), none, [], false⟩,
   ⟨8, .q (.ext 1), [.tmp 24], (some 32), none, [], false⟩,
   ⟨9, .q .mv, [.tmp 31], (some 8), none, [], false⟩,
   ⟨10, .q .mv, [.tmp 32], (some 9), none, [], false⟩])
 (.seq
 (.reg [⟨0, .q .mv, [.tmp 5], (some 33), none, [], false⟩,
   ⟨1, .q .mv, [.tmp 1], (some 34), none, [], false⟩,
   ⟨2, .e (.call 12), [.tmp 33, .tmp 34], (some 35), none, [], false⟩,
   ⟨3, .q .mv, [.tmp 35], (some 36), none, [], false⟩,
   ⟨4, .q .mv, [.tmp 7], (some 37), (some (36, true)), [], false⟩,
   ⟨5, .q .mv, [.tmp 9], (some 38), (some (36, true)), [], false⟩,
   ⟨6, .q (.bin .eql), [.tmp 37, .tmp 38], (some 39), (some (36, true)), [], false⟩,
   ⟨7, .q .pick, [.tmp 36, .tmp 39, .const (.bool false)], (some 40), none, [], false⟩,
   ⟨8, .q .mv, [.tmp 40], (some 41), none, [], false⟩,
   ⟨9, .q .mv, [.tmp 6], (some 42), (some (41, true)), [], false⟩,
   ⟨10, .q .mv, [.tmp 8], (some 43), (some (41, true)), [], false⟩,
   ⟨11, .e (.call 13), [.tmp 42, .tmp 43], (some 44), (some (41, true)), [], false⟩,
   ⟨12, .q .pick, [.tmp 41, .tmp 44, .const (.bool false)], (some 45), none, [], false⟩,
   ⟨13, .q .mv, [.tmp 45], (some 4), none, [], false⟩])
 .ret)))))⟩
theorem low18 : lowFn Tryd.prog Tryd.f18 = some L18 := by kernel_rfl
theorem call18 {args : List Value} {H : Heap} {S : Ending → Heap → Prop} (hn : args.length ≤ L18.n) (h : awpC Tryd.prog L18.body (retQ L18.results S) (fun ch H => S (.panicked ch) H) (env0 args) H) : ACalls Tryd.prog 18 args.toArray H S := acalls mixed Tryd.func18 low18 hn h
end Go.Proofs.YtphojebganlbnaaDoor.Low
