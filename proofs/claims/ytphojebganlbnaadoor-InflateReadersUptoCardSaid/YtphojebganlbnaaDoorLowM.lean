/-
  Functions in short (out of the program's form in Lean, by the kernel).
-/
import Derived.Test.YtphojebganlbnaaDoorSepDfr
import Derived.Test.YtphojebganlbnaaDoorProg
namespace Go.Proofs.YtphojebganlbnaaDoor.Low
open Go Go.Proofs.YtphojebganlbnaaDoor.Sep
theorem mixed : Tryd.prog.follows .mixedOrders = true := by kernel_rfl
/-- satchel/satchellaw06.InflateDecodes -/
def L3 : LFn :=
 ⟨69, [.t 4],
 (.seq
 (.reg [⟨0, .q .mv, [.const (.bool false)], (some 4), none, [], false⟩])
 (.seq
 (.reg [⟨0, .q .mv, [.tmp 0], (some 15), none, [], false⟩,
   ⟨1, .e (.call 9), [.tmp 15], (some 16), none, [], false⟩,
   ⟨2, .q .mv, [.tmp 16], (some 5), none, [], false⟩])
 (.seq
 (.reg [⟨0, .q .mv, [.tmp 5], (some 18), none, [], false⟩,
   ⟨1, .q .mv, [.tmp 0], (some 19), none, [], false⟩,
   ⟨2, .q .len, [.tmp 19], (some 20), none, [], false⟩,
   ⟨3, .q (.slc 1 false true false), [.tmp 18, .tmp 20], (some 21), none, [], false⟩,
   ⟨4, .q .mv, [.tmp 1], (some 22), none, [], false⟩,
   ⟨5, .e (.call 10), [.tmp 21, .tmp 22], (some 23), none, [], false⟩,
   ⟨6, .q .mv, [.tmp 23], (some 17), none, [], false⟩,
   ⟨7, .q (.ext 0), [.tmp 17], (some 24), none, [], false⟩,
   ⟨8, .q (.ext 1), [.tmp 17], (some 25), none, [], false⟩,
   ⟨9, .q (.ext 2), [.tmp 17], (some 26), none, [], false⟩,
   ⟨10, .q .mv, [.tmp 24], (some 6), none, [], false⟩,
   ⟨11, .q .mv, [.tmp 25], (some 7), none, [], false⟩,
   ⟨12, .q .mv, [.tmp 26], (some 8), none, [], false⟩])
 (.seq
 (.reg [⟨0, .q .mv, [.tmp 5], (some 28), none, [], false⟩,
   ⟨1, .q .mv, [.tmp 0], (some 29), none, [], false⟩,
   ⟨2, .q .len, [.tmp 29], (some 30), none, [], false⟩,
   ⟨3, .q (.slc 1 false true false), [.tmp 28, .tmp 30], (some 31), none, [], false⟩,
   ⟨4, .q .mv, [.tmp 1], (some 32), none, [], false⟩,
   ⟨5, .e (.call 10), [.tmp 31, .tmp 32], (some 33), none, [], false⟩,
   ⟨6, .q .mv, [.tmp 33], (some 27), none, [], false⟩,
   ⟨7, .q (.ext 0), [.tmp 27], (some 34), none, [], false⟩,
   ⟨8, .q (.ext 1), [.tmp 27], (some 35), none, [], false⟩,
   ⟨9, .q (.ext 2), [.tmp 27], (some 36), none, [], false⟩,
   ⟨10, .q .mv, [.tmp 34], (some 9), none, [], false⟩,
   ⟨11, .q .mv, [.tmp 35], (some 10), none, [], false⟩,
   ⟨12, .q .mv, [.tmp 36], (some 11), none, [], false⟩])
 (.seq
 (.reg [⟨0, .q .mv, [.tmp 0], (some 38), none, [], false⟩,
   ⟨1, .q .mv, [.tmp 1], (some 39), none, [], false⟩,
   ⟨2, .e (.call 11), [.tmp 38, .tmp 39], (some 40), none, [], false⟩,
   ⟨3, .q .mv, [.tmp 40], (some 37), none, [], false⟩,
   ⟨4, .q (.ext 0), [.tmp 37], (some 41), none, [], false⟩,
   ⟨5, .q (.ext 1), [.tmp 37], (some 42), none, [], false⟩,
   ⟨6, .q (.ext 2), [.tmp 37], (some 43), none, [], false⟩,
   ⟨7, .q .mv, [.tmp 41], (some 12), none, [], false⟩,
   ⟨8, .q .mv, [.tmp 42], (some 13), none, [], false⟩,
   ⟨9, .q .mv, [.tmp 43], (some 14), none, [], false⟩])
 (.seq
 (.reg [⟨0, .q .mv, [.tmp 5], (some 44), none, [], false⟩,
   ⟨1, .q .mv, [.tmp 0], (some 45), none, [], false⟩,
   ⟨2, .e (.call 12), [.tmp 44, .tmp 45], (some 46), none, [], false⟩,
   ⟨3, .q .mv, [.tmp 46], (some 47), none, [], false⟩,
   ⟨4, .q .mv, [.tmp 7], (some 48), (some (47, true)), [], false⟩,
   ⟨5, .q .mv, [.tmp 13], (some 49), (some (47, true)), [], false⟩,
   ⟨6, .q (.bin .eql), [.tmp 48, .tmp 49], (some 50), (some (47, true)), [], false⟩,
   ⟨7, .q .pick, [.tmp 47, .tmp 50, .const (.bool false)], (some 51), none, [], false⟩,
   ⟨8, .q .mv, [.tmp 51], (some 52), none, [], false⟩,
   ⟨9, .q .mv, [.tmp 8], (some 53), (some (52, true)), [], false⟩,
   ⟨10, .q .mv, [.tmp 14], (some 54), (some (52, true)), [], false⟩,
   ⟨11, .q (.bin .eql), [.tmp 53, .tmp 54], (some 55), (some (52, true)), [], false⟩,
   ⟨12, .q .pick, [.tmp 52, .tmp 55, .const (.bool false)], (some 56), none, [], false⟩,
   ⟨13, .q .mv, [.tmp 56], (some 57), none, [], false⟩,
   ⟨14, .q .mv, [.tmp 6], (some 58), (some (57, true)), [], false⟩,
   ⟨15, .q .mv, [.tmp 12], (some 59), (some (57, true)), [], false⟩,
   ⟨16, .e (.call 13), [.tmp 58, .tmp 59], (some 60), (some (57, true)), [], false⟩,
   ⟨17, .q .pick, [.tmp 57, .tmp 60, .const (.bool false)], (some 61), none, [], false⟩,
   ⟨18, .q .mv, [.tmp 61], (some 62), none, [], false⟩,
   ⟨19, .q .mv, [.tmp 9], (some 63), (some (62, true)), [], false⟩,
   ⟨20, .q .b2s, [.tmp 63], (some 64), (some (62, true)), [], false⟩,
   ⟨21, .q .mv, [.tmp 12], (some 65), (some (62, true)), [], false⟩,
   ⟨22, .q .b2s, [.tmp 65], (some 66), (some (62, true)), [], false⟩,
   ⟨23, .q (.bin .eql), [.tmp 64, .tmp 66], (some 67), (some (62, true)), [], false⟩,
   ⟨24, .q .pick, [.tmp 62, .tmp 67, .const (.bool false)], (some 68), none, [], false⟩,
   ⟨25, .q .mv, [.tmp 68], (some 4), none, [], false⟩])
 .ret))))))⟩
theorem low3 : lowFn Tryd.prog Tryd.f3 = some L3 := by kernel_rfl
theorem call3 {args : List Value} {H : Heap} {S : Ending → Heap → Prop} (hn : args.length ≤ L3.n) (h : awpC Tryd.prog L3.body (retQ L3.results S) (fun ch H => S (.panicked ch) H) (env0 args) H) : ACalls Tryd.prog 3 args.toArray H S := acalls mixed Tryd.func3 low3 hn h
/-- satchel/satchellaw06.InflateReaders -/
def L7_0 : LCode :=
 (.seq
 (.reg [⟨0, .q .mv, [.tmp 8], (some 74), none, [], false⟩,
   ⟨1, .q (.un .not), [.tmp 74], (some 75), none, [], false⟩])
 (.cond (.tmp 75)
  (.seq
  (.reg [⟨0, .q .mv, [.const (.bool false)], (some 6), none, [], false⟩])
  .ret)
  .skip))
def L7_1 : LCode :=
 (.seq
 (.seq
 (.reg [⟨0, .q .mv, [.tmp 2], (some 60), none, [], false⟩,
   ⟨1, .q .mv, [.tmp 11], (some 61), none, [], false⟩,
   ⟨2, .q (.iad 3), [.tmp 60, .tmp 61], (some 62), none, [], false⟩,
   ⟨3, .q (.fad 0), [.tmp 62], (some 63), none, [], false⟩,
   ⟨4, .q .ld, [.tmp 63], (some 64), none, [], false⟩])
 (.cond (.tmp 64)
  (.reg [⟨0, .q .mv, [.tmp 12], (some 65), none, [], false⟩,
    ⟨1, .e (.call 17), [.tmp 65], (some 66), none, [], false⟩,
    ⟨2, .q .mv, [.tmp 66], (some 8), none, [], false⟩])
  (.reg [⟨0, .q .mv, [.tmp 12], (some 67), none, [], false⟩,
    ⟨1, .q .mv, [.tmp 2], (some 68), none, [], false⟩,
    ⟨2, .q .mv, [.tmp 11], (some 69), none, [], false⟩,
    ⟨3, .q (.iad 3), [.tmp 68, .tmp 69], (some 70), none, [], false⟩,
    ⟨4, .q (.fad 2), [.tmp 70], (some 71), none, [], false⟩,
    ⟨5, .q .ld, [.tmp 71], (some 72), none, [], false⟩,
    ⟨6, .e (.call 18), [.tmp 67, .tmp 72], (some 73), none, [], false⟩,
    ⟨7, .q .mv, [.tmp 73], (some 8), none, [], false⟩])))
 L7_0)
def L7_2 : LCode :=
 (.reg [⟨0, .q .mv, [.tmp 11], (some 51), none, [], false⟩,
   ⟨1, .q (.bin .add), [.tmp 51, .const (.int .i64 1)], (some 52), none, [], false⟩,
   ⟨2, .q .mv, [.tmp 52], (some 11), none, [], false⟩])
def L7_3 : LCode :=
 (.seq
 (.seq
 (.reg [⟨0, .q .mv, [.tmp 11], (some 47), none, [], false⟩,
   ⟨1, .q .mv, [.tmp 2], (some 48), none, [], false⟩,
   ⟨2, .q .len, [.tmp 48], (some 49), none, [], false⟩,
   ⟨3, .q (.bin .lss), [.tmp 47, .tmp 49], (some 50), none, [], false⟩])
 (.cond (.tmp 50)
  .skip
  (.exit 0)))
 (.seq
 (.block 1
  (.seq
  (.reg [⟨0, .q .mv, [.tmp 7], (some 53), none, [], false⟩,
    ⟨1, .q .mv, [.tmp 53], (some 12), none, [], false⟩])
  (.seq
  (.seq
  (.reg [⟨0, .q .mv, [.tmp 2], (some 54), none, [], false⟩,
    ⟨1, .q .mv, [.tmp 11], (some 55), none, [], false⟩,
    ⟨2, .q (.iad 3), [.tmp 54, .tmp 55], (some 56), none, [], false⟩,
    ⟨3, .q (.fad 1), [.tmp 56], (some 57), none, [], false⟩,
    ⟨4, .q .ld, [.tmp 57], (some 58), none, [], false⟩])
  (.cond (.tmp 58)
   (.reg [⟨0, .q .mv, [.tmp 9], (some 59), none, [], false⟩,
     ⟨1, .q .mv, [.tmp 59], (some 12), none, [], false⟩])
   .skip))
  L7_1)))
 L7_2))
def L7 : LFn :=
 ⟨82, [.t 6],
 (.seq
 (.reg [⟨0, .q .mv, [.const (.bool false)], (some 6), none, [], false⟩])
 (.seq
 (.reg [⟨0, .q .mv, [.tmp 0], (some 14), none, [], false⟩,
   ⟨1, .e (.call 16), [.tmp 14], (some 15), none, [], false⟩,
   ⟨2, .q .mv, [.tmp 15], (some 13), none, [], false⟩,
   ⟨3, .q (.ext 0), [.tmp 13], (some 16), none, [], false⟩,
   ⟨4, .q (.ext 1), [.tmp 13], (some 17), none, [], false⟩,
   ⟨5, .q .mv, [.tmp 16], (some 7), none, [], false⟩,
   ⟨6, .q .mv, [.tmp 17], (some 8), none, [], false⟩])
 (.seq
 (.reg [⟨0, .q .mv, [.tmp 1], (some 19), none, [], false⟩,
   ⟨1, .e (.call 16), [.tmp 19], (some 20), none, [], false⟩,
   ⟨2, .q .mv, [.tmp 20], (some 18), none, [], false⟩,
   ⟨3, .q (.ext 0), [.tmp 18], (some 21), none, [], false⟩,
   ⟨4, .q (.ext 1), [.tmp 18], (some 22), none, [], false⟩,
   ⟨5, .q .mv, [.tmp 21], (some 9), none, [], false⟩,
   ⟨6, .q .mv, [.tmp 22], (some 10), none, [], false⟩])
 (.seq
 (.seq
 (.reg [⟨0, .q .mv, [.tmp 8], (some 23), none, [], false⟩,
   ⟨1, .q (.un .not), [.tmp 23], (some 24), none, [], false⟩,
   ⟨2, .q .mv, [.tmp 24], (some 25), none, [], false⟩,
   ⟨3, .q .mv, [.tmp 10], (some 26), (some (25, false)), [], false⟩,
   ⟨4, .q (.un .not), [.tmp 26], (some 27), (some (25, false)), [], false⟩,
   ⟨5, .q .pick, [.tmp 25, .const (.bool true), .tmp 27], (some 28), none, [], false⟩,
   ⟨6, .q .mv, [.tmp 28], (some 29), none, [], false⟩,
   ⟨7, .q .mv, [.tmp 7], (some 30), (some (29, false)), [], false⟩,
   ⟨8, .q .nilc, [.tmp 30], (some 31), (some (29, false)), [], false⟩,
   ⟨9, .q (.fad 0), [.tmp 31], (some 32), (some (29, false)), [], false⟩,
   ⟨10, .q .ld, [.tmp 32], (some 33), (some (29, false)), [], false⟩,
   ⟨11, .q (.eqp false), [.tmp 33, .const (.pointer none)], (some 34), (some (29, false)), [], false⟩,
   ⟨12, .q .pick, [.tmp 29, .const (.bool true), .tmp 34], (some 35), none, [], false⟩,
   ⟨13, .q .mv, [.tmp 35], (some 36), none, [], false⟩,
   ⟨14, .q .mv, [.tmp 9], (some 37), (some (36, false)), [], false⟩,
   ⟨15, .q .nilc, [.tmp 37], (some 38), (some (36, false)), [], false⟩,
   ⟨16, .q (.fad 0), [.tmp 38], (some 39), (some (36, false)), [], false⟩,
   ⟨17, .q .ld, [.tmp 39], (some 40), (some (36, false)), [], false⟩,
   ⟨18, .q (.eqp false), [.tmp 40, .const (.pointer none)], (some 41), (some (36, false)), [], false⟩,
   ⟨19, .q .pick, [.tmp 36, .const (.bool true), .tmp 41], (some 42), none, [], false⟩])
 (.cond (.tmp 42)
  (.seq
  (.reg [⟨0, .q .mv, [.tmp 8], (some 43), none, [], false⟩,
    ⟨1, .q .mv, [.tmp 43], (some 44), none, [], false⟩,
    ⟨2, .q .mv, [.tmp 10], (some 45), (some (44, true)), [], false⟩,
    ⟨3, .q .pick, [.tmp 44, .tmp 45, .const (.bool false)], (some 46), none, [], false⟩,
    ⟨4, .q .mv, [.tmp 46], (some 6), none, [], false⟩])
  .ret)
  .skip))
 (.seq
 (.seq
 (.reg [⟨0, .q .mv, [.const (.int .i64 0)], (some 11), none, [], false⟩])
 (.block 0
  (.loop L7_3)))
 (.seq
 (.reg [⟨0, .q .mv, [.tmp 7], (some 76), none, [], false⟩,
   ⟨1, .e (.call 17), [.tmp 76], (some 77), none, [], false⟩,
   ⟨2, .q .mv, [.tmp 77], (some 78), none, [], false⟩,
   ⟨3, .q .mv, [.tmp 9], (some 79), (some (78, true)), [], false⟩,
   ⟨4, .e (.call 17), [.tmp 79], (some 80), (some (78, true)), [], false⟩,
   ⟨5, .q .pick, [.tmp 78, .tmp 80, .const (.bool false)], (some 81), none, [], false⟩,
   ⟨6, .q .mv, [.tmp 81], (some 6), none, [], false⟩])
 .ret))))))⟩
theorem low7 : lowFn Tryd.prog Tryd.f7 = some L7 := by kernel_rfl
theorem call7 {args : List Value} {H : Heap} {S : Ending → Heap → Prop} (hn : args.length ≤ L7.n) (h : awpC Tryd.prog L7.body (retQ L7.results S) (fun ch H => S (.panicked ch) H) (env0 args) H) : ACalls Tryd.prog 7 args.toArray H S := acalls mixed Tryd.func7 low7 hn h
/-- satchel/satchellaw06.made -/
def L16_0 : LCode :=
 (.seq
 (.reg [⟨0, .q .mv, [.tmp 4], (some 18), none, [], false⟩,
   ⟨1, .q .mv, [.tmp 0], (some 19), none, [], false⟩,
   ⟨2, .q (.build #[(.int .i64 0), (.int .i64 0), (.slice none 0 0), (.int .i64 0)] [(0, 1)]), [.tmp 19], (some 20), none, [], false⟩,
   ⟨3, .e (.box 61), [.tmp 20], (some 21), none, [], false⟩,
   ⟨4, .q (.build #[(.pointer none), (.pointer none)] [(0, 1), (1, 1)]), [.tmp 18, .tmp 21], (some 22), none, [], false⟩,
   ⟨5, .e (.box 43), [.tmp 22], (some 23), none, [], false⟩,
   ⟨6, .q .mv, [.tmp 5], (some 24), none, [], false⟩,
   ⟨7, .q .mv, [.tmp 6], (some 25), none, [], false⟩,
   ⟨8, .q (.bin .eql), [.tmp 24, .tmp 25], (some 26), none, [], false⟩,
   ⟨9, .q .mv, [.tmp 26], (some 27), none, [], false⟩,
   ⟨10, .q .mv, [.tmp 4], (some 28), (some (27, true)), [], false⟩,
   ⟨11, .q (.eqp false), [.tmp 28, .const (.pointer none)], (some 29), (some (27, true)), [], false⟩,
   ⟨12, .q .mv, [.tmp 6], (some 30), (some (27, true)), [], false⟩,
   ⟨13, .q (.bin .neq), [.tmp 30, .const (.int .i64 0)], (some 31), (some (27, true)), [], false⟩,
   ⟨14, .q (.eqb false), [.tmp 29, .tmp 31], (some 32), (some (27, true)), [], false⟩,
   ⟨15, .q .pick, [.tmp 27, .tmp 32, .const (.bool false)], (some 33), none, [], false⟩,
   ⟨16, .q .mv, [.tmp 23], (some 2), none, [], false⟩,
   ⟨17, .q .mv, [.tmp 33], (some 3), none, [], false⟩])
 .ret)
def L16 : LFn :=
 ⟨34, [.t 2, .t 3],
 (.seq
 (.reg [⟨0, .q .mv, [.const (.pointer none)], (some 2), none, [], false⟩,
   ⟨1, .q .mv, [.const (.bool false)], (some 3), none, [], false⟩])
 (.seq
 (.reg [⟨0, .q .mv, [.tmp 0], (some 8), none, [], false⟩,
   ⟨1, .e (.call 19), [.tmp 8], (some 9), none, [], false⟩,
   ⟨2, .q .mv, [.tmp 9], (some 7), none, [], false⟩,
   ⟨3, .q (.ext 0), [.tmp 7], (some 10), none, [], false⟩,
   ⟨4, .q (.ext 1), [.tmp 7], (some 11), none, [], false⟩,
   ⟨5, .q .mv, [.tmp 10], (some 4), none, [], false⟩,
   ⟨6, .q .mv, [.tmp 11], (some 5), none, [], false⟩])
 (.seq
 (.reg [⟨0, .q .mv, [.const (.int .i64 0)], (some 6), none, [], false⟩])
 (.seq
 (.seq
 (.reg [⟨0, .q .mv, [.tmp 0], (some 12), none, [], false⟩,
   ⟨1, .q (.bin .lss), [.tmp 12, .const (.int .i64 0)], (some 13), none, [], false⟩,
   ⟨2, .q .mv, [.tmp 13], (some 14), none, [], false⟩,
   ⟨3, .q .mv, [.tmp 0], (some 15), (some (14, false)), [], false⟩,
   ⟨4, .q (.bin .gtr), [.tmp 15, .const (.int .i64 4194304)], (some 16), (some (14, false)), [], false⟩,
   ⟨5, .q .pick, [.tmp 14, .const (.bool true), .tmp 16], (some 17), none, [], false⟩])
 (.cond (.tmp 17)
  (.reg [⟨0, .q .mv, [.const (.int .i64 1)], (some 6), none, [], false⟩])
  .skip))
 L16_0))))⟩
theorem low16 : lowFn Tryd.prog Tryd.f16 = some L16 := by kernel_rfl
theorem call16 {args : List Value} {H : Heap} {S : Ending → Heap → Prop} (hn : args.length ≤ L16.n) (h : awpC Tryd.prog L16.body (retQ L16.results S) (fun ch H => S (.panicked ch) H) (env0 args) H) : ACalls Tryd.prog 16 args.toArray H S := acalls mixed Tryd.func16 low16 hn h
/-- (*satchel/satchellaw06.pair).tells -/
def L17 : LFn :=
 ⟨53, [.t 2],
 (.seq
 (.reg [⟨0, .q .mv, [.const (.bool false)], (some 2), none, [], false⟩])
 (.seq
 (.reg [⟨0, .q .mv, [.tmp 0], (some 3), none, [], false⟩,
   ⟨1, .q .nilc, [.tmp 3], (some 4), none, [], false⟩,
   ⟨2, .q (.fad 0), [.tmp 4], (some 5), none, [], false⟩,
   ⟨3, .q .ld, [.tmp 5], (some 6), none, [], false⟩,
   ⟨5, .q .mv, [.tmp 0], (some 8), none, [], false⟩,
   ⟨6, .q .nilc, [.tmp 8], (some 9), none, [], false⟩,
   ⟨7, .q (.fad 1), [.tmp 9], (some 10), none, [], false⟩,
   ⟨8, .q .ld, [.tmp 10], (some 11), none, [], true⟩,
   ⟨4, .e (.call 20), [.tmp 6], (some 7), none, [8], false⟩,
   ⟨9, .e (.call 27), [.tmp 11], (some 12), none, [], false⟩,
   ⟨10, .q (.eqb false), [.tmp 7, .tmp 12], (some 13), none, [], false⟩,
   ⟨11, .q .mv, [.tmp 13], (some 14), none, [], false⟩,
   ⟨12, .q .mv, [.tmp 0], (some 15), (some (14, true)), [], false⟩,
   ⟨13, .q .nilc, [.tmp 15], (some 16), (some (14, true)), [], false⟩,
   ⟨14, .q (.fad 0), [.tmp 16], (some 17), (some (14, true)), [], false⟩,
   ⟨15, .q .ld, [.tmp 17], (some 18), (some (14, true)), [], false⟩,
   ⟨17, .q .mv, [.tmp 0], (some 20), (some (14, true)), [], false⟩,
   ⟨18, .q .nilc, [.tmp 20], (some 21), (some (14, true)), [], false⟩,
   ⟨19, .q (.fad 1), [.tmp 21], (some 22), (some (14, true)), [], false⟩,
   ⟨20, .q .ld, [.tmp 22], (some 23), (some (14, true)), [], true⟩,
   ⟨16, .e (.call 22), [.tmp 18], (some 19), (some (14, true)), [20], false⟩,
   ⟨21, .e (.call 28), [.tmp 23], (some 24), (some (14, true)), [], false⟩,
   ⟨22, .q (.bin .eql), [.tmp 19, .tmp 24], (some 25), (some (14, true)), [], false⟩,
   ⟨23, .q .pick, [.tmp 14, .tmp 25, .const (.bool false)], (some 26), none, [], false⟩,
   ⟨24, .q .mv, [.tmp 26], (some 27), none, [], false⟩,
   ⟨25, .q .mv, [.tmp 0], (some 28), (some (27, true)), [], false⟩,
   ⟨26, .q .nilc, [.tmp 28], (some 29), (some (27, true)), [], false⟩,
   ⟨27, .q (.fad 0), [.tmp 29], (some 30), (some (27, true)), [], false⟩,
   ⟨28, .q .ld, [.tmp 30], (some 31), (some (27, true)), [], false⟩,
   ⟨30, .q .mv, [.tmp 0], (some 33), (some (27, true)), [], false⟩,
   ⟨31, .q .nilc, [.tmp 33], (some 34), (some (27, true)), [], false⟩,
   ⟨32, .q (.fad 1), [.tmp 34], (some 35), (some (27, true)), [], false⟩,
   ⟨33, .q .ld, [.tmp 35], (some 36), (some (27, true)), [], true⟩,
   ⟨29, .e (.call 21), [.tmp 31], (some 32), (some (27, true)), [33], false⟩,
   ⟨34, .e (.call 29), [.tmp 36], (some 37), (some (27, true)), [], false⟩,
   ⟨35, .e (.call 13), [.tmp 32, .tmp 37], (some 38), (some (27, true)), [], false⟩,
   ⟨36, .q .pick, [.tmp 27, .tmp 38, .const (.bool false)], (some 39), none, [], false⟩,
   ⟨37, .q .mv, [.tmp 39], (some 40), none, [], false⟩,
   ⟨38, .q .mv, [.tmp 0], (some 41), (some (40, true)), [], false⟩,
   ⟨39, .q .nilc, [.tmp 41], (some 42), (some (40, true)), [], false⟩,
   ⟨40, .q (.fad 0), [.tmp 42], (some 43), (some (40, true)), [], false⟩,
   ⟨41, .q .ld, [.tmp 43], (some 44), (some (40, true)), [], false⟩,
   ⟨43, .q .mv, [.tmp 0], (some 46), (some (40, true)), [], false⟩,
   ⟨44, .q .nilc, [.tmp 46], (some 47), (some (40, true)), [], false⟩,
   ⟨45, .q (.fad 1), [.tmp 47], (some 48), (some (40, true)), [], false⟩,
   ⟨46, .q .ld, [.tmp 48], (some 49), (some (40, true)), [], true⟩,
   ⟨42, .e (.call 21), [.tmp 44], (some 45), (some (40, true)), [46], false⟩,
   ⟨47, .e (.call 29), [.tmp 49], (some 50), (some (40, true)), [], false⟩,
   ⟨48, .e (.call 13), [.tmp 45, .tmp 50], (some 51), (some (40, true)), [], false⟩,
   ⟨49, .q .pick, [.tmp 40, .tmp 51, .const (.bool false)], (some 52), none, [], false⟩,
   ⟨50, .q .mv, [.tmp 52], (some 2), none, [], false⟩])
 .ret))⟩
theorem low17 : lowFn Tryd.prog Tryd.f17 = some L17 := by kernel_rfl
theorem call17 {args : List Value} {H : Heap} {S : Ending → Heap → Prop} (hn : args.length ≤ L17.n) (h : awpC Tryd.prog L17.body (retQ L17.results S) (fun ch H => S (.panicked ch) H) (env0 args) H) : ACalls Tryd.prog 17 args.toArray H S := acalls mixed Tryd.func17 low17 hn h
/-- (*satchel/satchellaw06.pair).feeds -/
def L18 : LFn :=
 ⟨46, [.t 4],
 (.seq
 (.reg [⟨0, .q .mv, [.const (.bool false)], (some 4), none, [], false⟩])
 (.seq
 (.reg [⟨0, .q .mv, [.tmp 1], (some 10), none, [], false⟩,
   ⟨1, .e (.call 9), [.tmp 10], (some 11), none, [], false⟩,
   ⟨2, .q .mv, [.tmp 11], (some 5), none, [], false⟩])
 (.seq
 (.reg [⟨0, .q .mv, [.tmp 0], (some 13), none, [], false⟩,
   ⟨1, .q .nilc, [.tmp 13], (some 14), none, [], false⟩,
   ⟨2, .q (.fad 0), [.tmp 14], (some 15), none, [], false⟩,
   ⟨3, .q .ld, [.tmp 15], (some 16), none, [], false⟩,
   ⟨4, .q .mv, [.tmp 5], (some 17), none, [], false⟩,
   ⟨5, .q .mv, [.tmp 1], (some 18), none, [], false⟩,
   ⟨6, .q .len, [.tmp 18], (some 19), none, [], false⟩,
   ⟨7, .q (.slc 1 false true false), [.tmp 17, .tmp 19], (some 20), none, [], false⟩,
   ⟨8, .e (.call 26), [.tmp 16, .tmp 20], (some 21), none, [], false⟩,
   ⟨9, .q .mv, [.tmp 21], (some 12), none, [], false⟩,
   ⟨10, .q (.ext 0), [.tmp 12], (some 22), none, [], false⟩,
   ⟨11, .q (.ext 1), [.tmp 12], (some 23), none, [], false⟩,
   ⟨12, .q .mv, [.tmp 22], (some 6), none, [], false⟩,
   ⟨13, .q .mv, [.tmp 23], (some 7), none, [], false⟩])
 (.seq
 (.reg [⟨0, .q .mv, [.tmp 0], (some 25), none, [], false⟩,
   ⟨1, .q .nilc, [.tmp 25], (some 26), none, [], false⟩,
   ⟨2, .q (.fad 1), [.tmp 26], (some 27), none, [], false⟩,
   ⟨3, .q .ld, [.tmp 27], (some 28), none, [], false⟩,
   ⟨4, .q .mv, [.tmp 1], (some 29), none, [], false⟩,
   ⟨5, .e (.call 30), [.tmp 28, .tmp 29], (some 30), none, [], false⟩,
   ⟨6, .q .mv, [.tmp 30], (some 24), none, [], false⟩,
   ⟨7, .q (.ext 0), [.tmp 24], (some 31), none, [], false⟩,
   ⟨8, .q (.ext 1), [.tmp 24], (some 32), none, [], false⟩,
   ⟨9, .q .mv, [.tmp 31], (some 8), none, [], false⟩,
   ⟨10, .q .mv, [.tmp 32], (some 9), none, [], false⟩])
 (.seq
 (.reg [⟨0, .q .mv, [.tmp 5], (some 33), none, [], false⟩,
   ⟨1, .q .mv, [.tmp 1], (some 34), none, [], false⟩,
   ⟨2, .e (.call 12), [.tmp 33, .tmp 34], (some 35), none, [], false⟩,
   ⟨3, .q .mv, [.tmp 35], (some 36), none, [], false⟩,
   ⟨4, .q .mv, [.tmp 7], (some 37), (some (36, true)), [], false⟩,
   ⟨5, .q .mv, [.tmp 9], (some 38), (some (36, true)), [], false⟩,
   ⟨6, .q (.bin .eql), [.tmp 37, .tmp 38], (some 39), (some (36, true)), [], false⟩,
   ⟨7, .q .pick, [.tmp 36, .tmp 39, .const (.bool false)], (some 40), none, [], false⟩,
   ⟨8, .q .mv, [.tmp 40], (some 41), none, [], false⟩,
   ⟨9, .q .mv, [.tmp 6], (some 42), (some (41, true)), [], false⟩,
   ⟨10, .q .mv, [.tmp 8], (some 43), (some (41, true)), [], false⟩,
   ⟨11, .e (.call 13), [.tmp 42, .tmp 43], (some 44), (some (41, true)), [], false⟩,
   ⟨12, .q .pick, [.tmp 41, .tmp 44, .const (.bool false)], (some 45), none, [], false⟩,
   ⟨13, .q .mv, [.tmp 45], (some 4), none, [], false⟩])
 .ret)))))⟩
theorem low18 : lowFn Tryd.prog Tryd.f18 = some L18 := by kernel_rfl
theorem call18 {args : List Value} {H : Heap} {S : Ending → Heap → Prop} (hn : args.length ≤ L18.n) (h : awpC Tryd.prog L18.body (retQ L18.results S) (fun ch H => S (.panicked ch) H) (env0 args) H) : ACalls Tryd.prog 18 args.toArray H S := acalls mixed Tryd.func18 low18 hn h
end Go.Proofs.YtphojebganlbnaaDoor.Low
