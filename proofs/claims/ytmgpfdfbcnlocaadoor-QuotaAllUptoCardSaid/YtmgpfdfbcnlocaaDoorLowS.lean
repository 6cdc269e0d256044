/-
  Functions in short (out of the program's form in Lean, by the kernel).
-/
import Derived.Test.YtmgpfdfbcnlocaaDoorSepDfr
import Derived.Test.YtmgpfdfbcnlocaaDoorProg
namespace Go.Proofs.YtmgpfdfbcnlocaaDoor.Low
open Go Go.Proofs.YtmgpfdfbcnlocaaDoor.Sep
theorem mixed : Tryd.prog.follows .mixedOrders = true := by kernel_rfl
/-- satchel/satchellaw18.made -/
def L16 : LFn :=
 ⟨39, [.t 2, .t 3],
 (.seq
 (.reg [⟨0, .e (.box 23), [.tmp 0], (some 1), none, [], false⟩,
   ⟨1, .q .mv, [.const (.pointer none)], (some 2), none, [], false⟩,
   ⟨2, .q .mv, [.const (.bool false)], (some 3), none, [], false⟩])
 (.seq
 (.reg [⟨0, .q (.ldn 3), [.tmp 1], (some 9), none, [], false⟩,
   ⟨1, .e (.call 8), [.tmp 9], (some 10), none, [], false⟩,
   ⟨2, .q .mv, [.tmp 10], (some 8), none, [], false⟩,
   ⟨3, .q (.ext 0), [.tmp 8], (some 11), none, [], false⟩,
   ⟨4, .q (.ext 1), [.tmp 8], (some 12), none, [], false⟩,
   ⟨5, .q .mv, [.tmp 11], (some 4), none, [], false⟩,
   ⟨6, .q .mv, [.tmp 12], (some 5), none, [], false⟩])
 (.seq
 (.reg [⟨0, .q (.ldn 3), [.tmp 1], (some 14), none, [], false⟩,
   ⟨1, .e (.call 13), [.tmp 14], (some 15), none, [], false⟩,
   ⟨2, .q .mv, [.tmp 15], (some 13), none, [], false⟩,
   ⟨3, .q (.ext 0), [.tmp 13], (some 16), none, [], false⟩,
   ⟨4, .q (.ext 1), [.tmp 13], (some 17), none, [], false⟩,
   ⟨5, .q .mv, [.tmp 16], (some 6), none, [], false⟩,
   ⟨6, .q .mv, [.tmp 17], (some 7), none, [], false⟩])
 (.seq
 (.reg [⟨0, .q .mv, [.tmp 4], (some 18), none, [], false⟩,
   ⟨1, .q .mv, [.tmp 6], (some 19), none, [], false⟩,
   ⟨2, .q (.build #[(.pointer none), (.pointer none)] [(0, 1), (1, 1)]), [.tmp 18, .tmp 19], (some 20), none, [], false⟩,
   ⟨4, .q .mv, [.tmp 5], (some 22), none, [], false⟩,
   ⟨5, .q .mv, [.tmp 7], (some 23), none, [], false⟩,
   ⟨6, .q (.bin .eql), [.tmp 22, .tmp 23], (some 24), none, [], false⟩,
   ⟨7, .q .mv, [.tmp 24], (some 25), none, [], false⟩,
   ⟨8, .q .mv, [.tmp 4], (some 26), (some (25, true)), [], false⟩,
   ⟨9, .q (.eqp false), [.tmp 26, .const (.pointer none)], (some 27), (some (25, true)), [], false⟩,
   ⟨10, .q .mv, [.tmp 6], (some 28), (some (25, true)), [], false⟩,
   ⟨11, .q (.eqp false), [.tmp 28, .const (.pointer none)], (some 29), (some (25, true)), [], false⟩,
   ⟨12, .q (.eqb false), [.tmp 27, .tmp 29], (some 30), (some (25, true)), [], false⟩,
   ⟨13, .q .pick, [.tmp 25, .tmp 30, .const (.bool false)], (some 31), none, [], false⟩,
   ⟨14, .q .mv, [.tmp 31], (some 32), none, [], false⟩,
   ⟨15, .q (.ldn 3), [.tmp 1], (some 33), (some (32, true)), [], false⟩,
   ⟨17, .q (.ldn 3), [.tmp 1], (some 35), (some (32, true)), [], true⟩,
   ⟨16, .e (.call 25), [.tmp 33], (some 34), (some (32, true)), [17], false⟩,
   ⟨18, .e (.call 26), [.tmp 35], (some 36), (some (32, true)), [], false⟩,
   ⟨19, .q (.bin .eql), [.tmp 34, .tmp 36], (some 37), (some (32, true)), [], false⟩,
   ⟨20, .q .pick, [.tmp 32, .tmp 37, .const (.bool false)], (some 38), none, [], false⟩,
   ⟨3, .e (.box 52), [.tmp 20], (some 21), none, [], false⟩,
   ⟨21, .q .mv, [.tmp 21], (some 2), none, [], false⟩,
   ⟨22, .q .mv, [.tmp 38], (some 3), none, [], false⟩])
 .ret))))⟩
theorem low16 : lowFn Tryd.prog Tryd.f16 = some L16 := by kernel_rfl
theorem call16 {args : List Value} {H : Heap} {S : Ending → Heap → Prop} (hn : args.length ≤ L16.n) (h : awpC Tryd.prog L16.body (retQ L16.results S) (fun ch H => S (.panicked ch) H) (env0 args) H) : ACalls Tryd.prog 16 args.toArray H S := acalls mixed Tryd.func16 low16 hn h
/-- satchel/satchellaw18.QuotaAll -/
def L6_0 : LCode :=
 (.seq
 (.reg [⟨0, .q .mv, [.tmp 14], (some 67), none, [], false⟩,
   ⟨1, .q .mv, [.tmp 2], (some 68), none, [], false⟩,
   ⟨2, .q .mv, [.tmp 13], (some 69), none, [], false⟩,
   ⟨3, .q (.iad 13), [.tmp 68, .tmp 69], (some 70), none, [], false⟩,
   ⟨4, .q (.ldn 13), [.tmp 70], (some 71), none, [], false⟩,
   ⟨5, .e (.call 17), [.tmp 67, .tmp 71], (some 72), none, [], false⟩,
   ⟨6, .q (.un .not), [.tmp 72], (some 73), none, [], false⟩,
   ⟨7, .q .mv, [.tmp 73], (some 74), none, [], false⟩,
   ⟨8, .q .mv, [.tmp 14], (some 75), (some (74, false)), [], false⟩,
   ⟨9, .e (.call 18), [.tmp 75], (some 76), (some (74, false)), [], false⟩,
   ⟨10, .q (.un .not), [.tmp 76], (some 77), (some (74, false)), [], false⟩,
   ⟨11, .q .pick, [.tmp 74, .const (.bool true), .tmp 77], (some 78), none, [], false⟩])
 (.cond (.tmp 78)
  (.seq
  (.reg [⟨0, .q .mv, [.const (.bool false)], (some 8), none, [], false⟩])
  .ret)
  .skip))
def L6_1 : LCode :=
 (.reg [⟨0, .q .mv, [.tmp 13], (some 53), none, [], false⟩,
   ⟨1, .q (.bin .add), [.tmp 53, .const (.int .i64 1)], (some 54), none, [], false⟩,
   ⟨2, .q .mv, [.tmp 54], (some 13), none, [], false⟩])
def L6_2 : LCode :=
 (.seq
 (.seq
 (.reg [⟨0, .q .mv, [.tmp 13], (some 49), none, [], false⟩,
   ⟨1, .q .mv, [.tmp 2], (some 50), none, [], false⟩,
   ⟨2, .q .len, [.tmp 50], (some 51), none, [], false⟩,
   ⟨3, .q (.bin .lss), [.tmp 49, .tmp 51], (some 52), none, [], false⟩])
 (.cond (.tmp 52)
  .skip
  (.exit 0)))
 (.seq
 (.block 1
  (.seq
  (.reg [⟨0, .q .mv, [.tmp 9], (some 55), none, [], false⟩,
    ⟨1, .q .mv, [.tmp 55], (some 14), none, [], false⟩])
  (.seq
  (.seq
  (.reg [⟨0, .q .mv, [.tmp 13], (some 56), none, [], false⟩,
    ⟨1, .q .mv, [.tmp 3], (some 57), none, [], false⟩,
    ⟨2, .q .len, [.tmp 57], (some 58), none, [], false⟩,
    ⟨3, .q (.bin .lss), [.tmp 56, .tmp 58], (some 59), none, [], false⟩,
    ⟨4, .q .mv, [.tmp 59], (some 60), none, [], false⟩,
    ⟨5, .q .mv, [.tmp 3], (some 61), (some (60, true)), [], false⟩,
    ⟨6, .q .mv, [.tmp 13], (some 62), (some (60, true)), [], false⟩,
    ⟨7, .q (.iad 1), [.tmp 61, .tmp 62], (some 63), (some (60, true)), [], false⟩,
    ⟨8, .q .ld, [.tmp 63], (some 64), (some (60, true)), [], false⟩,
    ⟨9, .q .pick, [.tmp 60, .tmp 64, .const (.bool false)], (some 65), none, [], false⟩])
  (.cond (.tmp 65)
   (.reg [⟨0, .q .mv, [.tmp 11], (some 66), none, [], false⟩,
     ⟨1, .q .mv, [.tmp 66], (some 14), none, [], false⟩])
   .skip))
  L6_0)))
 L6_1))
def L6 : LFn :=
 ⟨85, [.t 8],
 (.seq
 (.reg [⟨0, .e (.box 23), [.tmp 0], (some 4), none, [], false⟩,
   ⟨1, .e (.box 23), [.tmp 1], (some 5), none, [], false⟩,
   ⟨2, .q .mv, [.const (.bool false)], (some 8), none, [], false⟩])
 (.seq
 (.reg [⟨0, .q (.ldn 3), [.tmp 4], (some 16), none, [], false⟩,
   ⟨1, .e (.call 16), [.tmp 16], (some 17), none, [], false⟩,
   ⟨2, .q .mv, [.tmp 17], (some 15), none, [], false⟩,
   ⟨3, .q (.ext 0), [.tmp 15], (some 18), none, [], false⟩,
   ⟨4, .q (.ext 1), [.tmp 15], (some 19), none, [], false⟩,
   ⟨5, .q .mv, [.tmp 18], (some 9), none, [], false⟩,
   ⟨6, .q .mv, [.tmp 19], (some 10), none, [], false⟩])
 (.seq
 (.reg [⟨0, .q (.ldn 3), [.tmp 5], (some 21), none, [], false⟩,
   ⟨1, .e (.call 16), [.tmp 21], (some 22), none, [], false⟩,
   ⟨2, .q .mv, [.tmp 22], (some 20), none, [], false⟩,
   ⟨3, .q (.ext 0), [.tmp 20], (some 23), none, [], false⟩,
   ⟨4, .q (.ext 1), [.tmp 20], (some 24), none, [], false⟩,
   ⟨5, .q .mv, [.tmp 23], (some 11), none, [], false⟩,
   ⟨6, .q .mv, [.tmp 24], (some 12), none, [], false⟩])
 (.seq
 (.seq
 (.reg [⟨0, .q .mv, [.tmp 10], (some 25), none, [], false⟩,
   ⟨1, .q (.un .not), [.tmp 25], (some 26), none, [], false⟩,
   ⟨2, .q .mv, [.tmp 26], (some 27), none, [], false⟩,
   ⟨3, .q .mv, [.tmp 12], (some 28), (some (27, false)), [], false⟩,
   ⟨4, .q (.un .not), [.tmp 28], (some 29), (some (27, false)), [], false⟩,
   ⟨5, .q .pick, [.tmp 27, .const (.bool true), .tmp 29], (some 30), none, [], false⟩,
   ⟨6, .q .mv, [.tmp 30], (some 31), none, [], false⟩,
   ⟨7, .q .mv, [.tmp 9], (some 32), (some (31, false)), [], false⟩,
   ⟨8, .q .nilc, [.tmp 32], (some 33), (some (31, false)), [], false⟩,
   ⟨9, .q (.fad 0), [.tmp 33], (some 34), (some (31, false)), [], false⟩,
   ⟨10, .q .ld, [.tmp 34], (some 35), (some (31, false)), [], false⟩,
   ⟨11, .q (.eqp false), [.tmp 35, .const (.pointer none)], (some 36), (some (31, false)), [], false⟩,
   ⟨12, .q .pick, [.tmp 31, .const (.bool true), .tmp 36], (some 37), none, [], false⟩,
   ⟨13, .q .mv, [.tmp 37], (some 38), none, [], false⟩,
   ⟨14, .q .mv, [.tmp 11], (some 39), (some (38, false)), [], false⟩,
   ⟨15, .q .nilc, [.tmp 39], (some 40), (some (38, false)), [], false⟩,
   ⟨16, .q (.fad 0), [.tmp 40], (some 41), (some (38, false)), [], false⟩,
   ⟨17, .q .ld, [.tmp 41], (some 42), (some (38, false)), [], false⟩,
   ⟨18, .q (.eqp false), [.tmp 42, .const (.pointer none)], (some 43), (some (38, false)), [], false⟩,
   ⟨19, .q .pick, [.tmp 38, .const (.bool true), .tmp 43], (some 44), none, [], false⟩])
 (.cond (.tmp 44)
  (.seq
  (.reg [⟨0, .q .mv, [.tmp 10], (some 45), none, [], false⟩,
    ⟨1, .q .mv, [.tmp 45], (some 46), none, [], false⟩,
    ⟨2, .q .mv, [.tmp 12], (some 47), (some (46, true)), [], false⟩,
    ⟨3, .q .pick, [.tmp 46, .tmp 47, .const (.bool false)], (some 48), none, [], false⟩,
    ⟨4, .q .mv, [.tmp 48], (some 8), none, [], false⟩])
  .ret)
  .skip))
 (.seq
 (.seq
 (.reg [⟨0, .q .mv, [.const (.int .i64 0)], (some 13), none, [], false⟩])
 (.block 0
  (.loop L6_2)))
 (.seq
 (.reg [⟨0, .q .mv, [.tmp 9], (some 79), none, [], false⟩,
   ⟨1, .e (.call 18), [.tmp 79], (some 80), none, [], false⟩,
   ⟨2, .q .mv, [.tmp 80], (some 81), none, [], false⟩,
   ⟨3, .q .mv, [.tmp 11], (some 82), (some (81, true)), [], false⟩,
   ⟨4, .e (.call 18), [.tmp 82], (some 83), (some (81, true)), [], false⟩,
   ⟨5, .q .pick, [.tmp 81, .tmp 83, .const (.bool false)], (some 84), none, [], false⟩,
   ⟨6, .q .mv, [.tmp 84], (some 8), none, [], false⟩])
 .ret))))))⟩
theorem low6 : lowFn Tryd.prog Tryd.f6 = some L6 := by kernel_rfl
theorem call6 {args : List Value} {H : Heap} {S : Ending → Heap → Prop} (hn : args.length ≤ L6.n) (h : awpC Tryd.prog L6.body (retQ L6.results S) (fun ch H => S (.panicked ch) H) (env0 args) H) : ACalls Tryd.prog 6 args.toArray H S := acalls mixed Tryd.func6 low6 hn h
end Go.Proofs.YtmgpfdfbcnlocaaDoor.Low
