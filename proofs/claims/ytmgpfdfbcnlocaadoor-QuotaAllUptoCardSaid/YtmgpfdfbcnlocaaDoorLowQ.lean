/-
  Functions in short (out of the program's form in Lean, by the kernel).
-/
import Derived.Test.YtmgpfdfbcnlocaaDoorSepDfr
import Derived.Test.YtmgpfdfbcnlocaaDoorProg
namespace Go.Proofs.YtmgpfdfbcnlocaaDoor.Low
open Go Go.Proofs.YtmgpfdfbcnlocaaDoor.Sep
theorem mixed : Tryd.prog.follows .mixedOrders = true := by kernel_rfl
/-- satchel/satchellaw18.lives -/
def L7 : LFn :=
 ⟨60, [.t 0],
 (.seq
 (.reg [⟨0, .q .mv, [.const (.bool false)], (some 0), none, [], false⟩])
 (.seq
 (.reg [⟨0, .q (.build #[(.int .i64 0), (.int .i64 0), (.int .i64 0)] [(0, 1), (1, 1), (2, 1)]), [.const (.int .i64 10), .const (.int .i64 2), .const (.int .i64 1)], (some 5), none, [], false⟩,
   ⟨1, .e (.call 8), [.tmp 5], (some 6), none, [], false⟩,
   ⟨2, .q .mv, [.tmp 6], (some 4), none, [], false⟩,
   ⟨3, .q (.ext 0), [.tmp 4], (some 7), none, [], false⟩,
   ⟨4, .q (.ext 1), [.tmp 4], (some 8), none, [], false⟩,
   ⟨5, .q .mv, [.tmp 7], (some 1), none, [], false⟩,
   ⟨6, .q .mv, [.tmp 8], (some 2), none, [], false⟩])
 (.seq
 (.seq
 (.reg [⟨0, .q .mv, [.tmp 2], (some 9), none, [], false⟩,
   ⟨1, .q (.bin .neq), [.tmp 9, .const (.int .i64 0)], (some 10), none, [], false⟩,
   ⟨2, .q .mv, [.tmp 10], (some 11), none, [], false⟩,
   ⟨3, .q .mv, [.tmp 1], (some 12), (some (11, false)), [], false⟩,
   ⟨4, .q (.eqp false), [.tmp 12, .const (.pointer none)], (some 13), (some (11, false)), [], false⟩,
   ⟨5, .q .pick, [.tmp 11, .const (.bool true), .tmp 13], (some 14), none, [], false⟩])
 (.cond (.tmp 14)
  (.seq
  (.reg [⟨0, .q .mv, [.const (.bool false)], (some 0), none, [], false⟩])
  .ret)
  .skip))
 (.seq
 (.reg [⟨0, .q (.build #[(.string ⟨#[]⟩), (.int .i64 0), (.int .u32 0), (.int .u32 0), (.int .u32 0), (.int .i64 0), (.int .i32 0), (.string ⟨#[]⟩), (.string ⟨#[]⟩), (.string ⟨#[]⟩), (.int .i64 0), (.int .u8 0)] [(0, 1), (1, 1), (10, 1)]), [.const (.string ⟨#[97]⟩), .const (.int .i64 2), .const (.int .i64 7)], (some 15), none, [], false⟩,
   ⟨1, .e (.new #[(.string ⟨#[]⟩), (.int .i64 0), (.int .u32 0), (.int .u32 0), (.int .u32 0), (.int .i64 0), (.int .i32 0), (.string ⟨#[]⟩), (.string ⟨#[]⟩), (.string ⟨#[]⟩), (.int .i64 0), (.int .u8 0)] 38), [], (some 3), none, [], false⟩,
   ⟨2, .e (.st 12), [.tmp 3, .tmp 15], none, none, [], false⟩])
 (.seq
 (.seq
 (.reg [⟨0, .q .mv, [.tmp 1], (some 16), none, [], false⟩,
   ⟨1, .q (.ldn 12), [.tmp 3], (some 17), none, [], false⟩,
   ⟨2, .e (.call 10), [.tmp 16, .tmp 17], (some 18), none, [], false⟩,
   ⟨3, .q (.bin .neq), [.tmp 18, .const (.int .i64 0)], (some 19), none, [], false⟩,
   ⟨4, .q .mv, [.tmp 19], (some 20), none, [], false⟩,
   ⟨5, .q .mv, [.tmp 1], (some 21), (some (20, false)), [], false⟩,
   ⟨6, .q (.build #[(.string ⟨#[]⟩), (.int .i64 0), (.int .u32 0), (.int .u32 0), (.int .u32 0), (.int .i64 0), (.int .i32 0), (.string ⟨#[]⟩), (.string ⟨#[]⟩), (.string ⟨#[]⟩), (.int .i64 0), (.int .u8 0)] [(0, 1), (1, 1), (10, 1)]), [.const (.string ⟨#[98]⟩), .const (.int .i64 2), .const (.int .i64 4)], (some 22), (some (20, false)), [], false⟩,
   ⟨7, .e (.call 10), [.tmp 21, .tmp 22], (some 23), (some (20, false)), [], false⟩,
   ⟨8, .q (.bin .neq), [.tmp 23, .const (.int .i64 182)], (some 24), (some (20, false)), [], false⟩,
   ⟨9, .q .pick, [.tmp 20, .const (.bool true), .tmp 24], (some 25), none, [], false⟩,
   ⟨10, .q .mv, [.tmp 25], (some 26), none, [], false⟩,
   ⟨11, .q .mv, [.tmp 1], (some 27), (some (26, false)), [], false⟩,
   ⟨12, .q (.build #[(.string ⟨#[]⟩), (.int .i64 0), (.int .u32 0), (.int .u32 0), (.int .u32 0), (.int .i64 0), (.int .i32 0), (.string ⟨#[]⟩), (.string ⟨#[]⟩), (.string ⟨#[]⟩), (.int .i64 0), (.int .u8 0)] [(0, 1), (1, 1), (10, 1)]), [.const (.string ⟨#[98, 47, 99]⟩), .const (.int .i64 2), .const (.int .i64 1)], (some 28), (some (26, false)), [], false⟩,
   ⟨13, .e (.call 10), [.tmp 27, .tmp 28], (some 29), (some (26, false)), [], false⟩,
   ⟨14, .q (.bin .neq), [.tmp 29, .const (.int .i64 181)], (some 30), (some (26, false)), [], false⟩,
   ⟨15, .q .pick, [.tmp 26, .const (.bool true), .tmp 30], (some 31), none, [], false⟩,
   ⟨16, .q .mv, [.tmp 31], (some 32), none, [], false⟩,
   ⟨17, .q .mv, [.tmp 1], (some 33), (some (32, false)), [], false⟩,
   ⟨18, .q (.build #[(.string ⟨#[]⟩), (.int .i64 0), (.int .u32 0), (.int .u32 0), (.int .u32 0), (.int .i64 0), (.int .i32 0), (.string ⟨#[]⟩), (.string ⟨#[]⟩), (.string ⟨#[]⟩), (.int .i64 0), (.int .u8 0)] [(0, 1), (1, 1)]), [.const (.string ⟨#[100]⟩), .const (.int .i64 1)], (some 34), (some (32, false)), [], false⟩,
   ⟨19, .e (.call 10), [.tmp 33, .tmp 34], (some 35), (some (32, false)), [], false⟩,
   ⟨20, .q (.bin .neq), [.tmp 35, .const (.int .i64 0)], (some 36), (some (32, false)), [], false⟩,
   ⟨21, .q .pick, [.tmp 32, .const (.bool true), .tmp 36], (some 37), none, [], false⟩])
 (.cond (.tmp 37)
  (.seq
  (.reg [⟨0, .q .mv, [.const (.bool false)], (some 0), none, [], false⟩])
  .ret)
  .skip))
 (.seq
 (.reg [⟨0, .q .mv, [.tmp 1], (some 38), none, [], false⟩,
   ⟨1, .q (.build #[(.string ⟨#[]⟩), (.int .i64 0), (.int .u32 0), (.int .u32 0), (.int .u32 0), (.int .i64 0), (.int .i32 0), (.string ⟨#[]⟩), (.string ⟨#[]⟩), (.string ⟨#[]⟩), (.int .i64 0), (.int .u8 0)] [(0, 1), (1, 1)]), [.const (.string ⟨#[101]⟩), .const (.int .i64 1)], (some 39), none, [], false⟩,
   ⟨2, .e (.call 10), [.tmp 38, .tmp 39], (some 40), none, [], false⟩,
   ⟨3, .q (.bin .eql), [.tmp 40, .const (.int .i64 180)], (some 41), none, [], false⟩,
   ⟨4, .q .mv, [.tmp 41], (some 42), none, [], false⟩,
   ⟨5, .q .mv, [.tmp 1], (some 43), (some (42, true)), [], false⟩,
   ⟨6, .e (.call 11), [.tmp 43], (some 44), (some (42, true)), [], false⟩,
   ⟨7, .q (.build #[(.int .i64 0), (.int .i64 0), (.int .i64 0)] [(0, 1), (2, 1)]), [.const (.int .i64 3), .const (.int .i64 1)], (some 45), (some (42, true)), [], false⟩,
   ⟨8, .q (.eqa [(0, .i), (1, .i), (2, .i)] false), [.tmp 44, .tmp 45], (some 46), (some (42, true)), [], false⟩,
   ⟨9, .q .pick, [.tmp 42, .tmp 46, .const (.bool false)], (some 47), none, [], false⟩,
   ⟨10, .q .mv, [.tmp 47], (some 48), none, [], false⟩,
   ⟨11, .q .mv, [.tmp 1], (some 49), (some (48, true)), [], false⟩,
   ⟨12, .e (.call 12), [.tmp 49], (some 50), (some (48, true)), [], false⟩,
   ⟨13, .q (.build #[(.int .i64 0), (.int .i64 0), (.int .i64 0)] [(0, 1), (1, 1)]), [.const (.int .i64 7), .const (.int .i64 2)], (some 51), (some (48, true)), [], false⟩,
   ⟨14, .q (.eqa [(0, .i), (1, .i), (2, .i)] false), [.tmp 50, .tmp 51], (some 52), (some (48, true)), [], false⟩,
   ⟨15, .q .pick, [.tmp 48, .tmp 52, .const (.bool false)], (some 53), none, [], false⟩,
   ⟨16, .q .mv, [.tmp 53], (some 54), none, [], false⟩,
   ⟨17, .q .mv, [.tmp 1], (some 55), (some (54, true)), [], false⟩,
   ⟨18, .q (.ldn 12), [.tmp 3], (some 56), (some (54, true)), [], false⟩,
   ⟨19, .e (.call 15), [.tmp 55, .tmp 56], (some 57), (some (54, true)), [], false⟩,
   ⟨20, .q (.bin .eql), [.tmp 57, .const (.int .i64 0)], (some 58), (some (54, true)), [], false⟩,
   ⟨21, .q .pick, [.tmp 54, .tmp 58, .const (.bool false)], (some 59), none, [], false⟩,
   ⟨22, .q .mv, [.tmp 59], (some 0), none, [], false⟩])
 .ret))))))⟩
theorem low7 : lowFn Tryd.prog Tryd.f7 = some L7 := by kernel_rfl
theorem call7 {args : List Value} {H : Heap} {S : Ending → Heap → Prop} (hn : args.length ≤ L7.n) (h : awpC Tryd.prog L7.body (retQ L7.results S) (fun ch H => S (.panicked ch) H) (env0 args) H) : ACalls Tryd.prog 7 args.toArray H S := acalls mixed Tryd.func7 low7 hn h
/-- satchel/quota.New -/
def L8 : LFn :=
 ⟨10, [.t 2, .t 3],
 (.seq
 (.reg [⟨0, .e (.box 23), [.tmp 0], (some 1), none, [], false⟩,
   ⟨1, .q .mv, [.const (.pointer none)], (some 2), none, [], false⟩,
   ⟨2, .q .mv, [.const (.int .i64 0)], (some 3), none, [], false⟩])
 (.seq
 (.seq
 (.reg [⟨0, .q (.ldn 3), [.tmp 1], (some 4), none, [], false⟩,
   ⟨1, .e (.call 19), [.tmp 4], (some 5), none, [], false⟩,
   ⟨2, .q (.un .not), [.tmp 5], (some 6), none, [], false⟩])
 (.cond (.tmp 6)
  (.seq
  (.reg [⟨0, .q .mv, [.const (.pointer none)], (some 2), none, [], false⟩,
    ⟨1, .q .mv, [.const (.int .i64 1)], (some 3), none, [], false⟩])
  .ret)
  .skip))
 (.seq
 (.reg [⟨0, .q (.ldn 3), [.tmp 1], (some 7), none, [], false⟩,
   ⟨1, .q (.build #[(.int .i32 0), (.int .u32 0), (.int .i64 0), (.int .i64 0), (.int .i64 0), (.int .i64 0), (.int .i64 0), (.int .i64 0)] [(2, 3)]), [.tmp 7], (some 8), none, [], false⟩,
   ⟨2, .e (.box 64), [.tmp 8], (some 9), none, [], false⟩,
   ⟨3, .q .mv, [.tmp 9], (some 2), none, [], false⟩,
   ⟨4, .q .mv, [.const (.int .i64 0)], (some 3), none, [], false⟩])
 .ret)))⟩
theorem low8 : lowFn Tryd.prog Tryd.f8 = some L8 := by kernel_rfl
theorem call8 {args : List Value} {H : Heap} {S : Ending → Heap → Prop} (hn : args.length ≤ L8.n) (h : awpC Tryd.prog L8.body (retQ L8.results S) (fun ch H => S (.panicked ch) H) (env0 args) H) : ACalls Tryd.prog 8 args.toArray H S := acalls mixed Tryd.func8 low8 hn h
/-- satchel/satchelref18.Can -/
def L9 : LFn :=
 ⟨16, [.t 2],
 (.seq
 (.reg [⟨0, .e (.box 23), [.tmp 0], (some 1), none, [], false⟩,
   ⟨1, .q .mv, [.const (.bool false)], (some 2), none, [], false⟩])
 (.seq
 (.reg [⟨0, .q (.fad 0), [.tmp 1], (some 3), none, [], false⟩,
   ⟨1, .q .ld, [.tmp 3], (some 4), none, [], false⟩,
   ⟨2, .q (.bin .geq), [.tmp 4, .const (.int .i64 0)], (some 5), none, [], false⟩,
   ⟨3, .q .mv, [.tmp 5], (some 6), none, [], false⟩,
   ⟨4, .q (.fad 1), [.tmp 1], (some 7), (some (6, true)), [], false⟩,
   ⟨5, .q .ld, [.tmp 7], (some 8), (some (6, true)), [], false⟩,
   ⟨6, .q (.bin .geq), [.tmp 8, .const (.int .i64 0)], (some 9), (some (6, true)), [], false⟩,
   ⟨7, .q .pick, [.tmp 6, .tmp 9, .const (.bool false)], (some 10), none, [], false⟩,
   ⟨8, .q .mv, [.tmp 10], (some 11), none, [], false⟩,
   ⟨9, .q (.fad 2), [.tmp 1], (some 12), (some (11, true)), [], false⟩,
   ⟨10, .q .ld, [.tmp 12], (some 13), (some (11, true)), [], false⟩,
   ⟨11, .q (.bin .geq), [.tmp 13, .const (.int .i64 0)], (some 14), (some (11, true)), [], false⟩,
   ⟨12, .q .pick, [.tmp 11, .tmp 14, .const (.bool false)], (some 15), none, [], false⟩,
   ⟨13, .q .mv, [.tmp 15], (some 2), none, [], false⟩])
 .ret))⟩
theorem low9 : lowFn Tryd.prog Tryd.f9 = some L9 := by kernel_rfl
theorem call9 {args : List Value} {H : Heap} {S : Ending → Heap → Prop} (hn : args.length ≤ L9.n) (h : awpC Tryd.prog L9.body (retQ L9.results S) (fun ch H => S (.panicked ch) H) (env0 args) H) : ACalls Tryd.prog 9 args.toArray H S := acalls mixed Tryd.func9 low9 hn h
/-- (*satchel/quota.Meter).Take -/
def L10 : DFn :=
 ⟨83, [.t 4],
 (.reg [⟨0, .e (.box 38), [.tmp 1], (some 3), none, [], false⟩,
   ⟨1, .q .mv, [.const (.int .i64 0)], (some 4), none, [], false⟩]),
 (.seq
 (.reg [⟨0, .q .mv, [.tmp 0], (some 8), none, [], false⟩,
   ⟨1, .q .nilc, [.tmp 8], (some 9), none, [], false⟩,
   ⟨2, .q (.fad 0), [.tmp 9], (some 10), none, [], false⟩,
   ⟨3, .e (.call 20), [.tmp 10], (some 11), none, [], false⟩])
 (.dfr [⟨0, .q .mv, [.tmp 0], (some 12), none, [], false⟩,
   ⟨1, .q .nilc, [.tmp 12], (some 13), none, [], false⟩,
   ⟨2, .q (.fad 0), [.tmp 13], (some 14), none, [], false⟩] (.func 21) [.tmp 14]
 (.seq
 (.seq
 (.reg [⟨0, .q .mv, [.tmp 0], (some 15), none, [], false⟩,
   ⟨1, .q .nilc, [.tmp 15], (some 16), none, [], false⟩,
   ⟨2, .q (.fad 5), [.tmp 16], (some 17), none, [], false⟩,
   ⟨3, .q (.fad 1), [.tmp 17], (some 18), none, [], false⟩,
   ⟨4, .q .ld, [.tmp 18], (some 19), none, [], false⟩,
   ⟨5, .q .mv, [.tmp 0], (some 20), none, [], false⟩,
   ⟨6, .q .nilc, [.tmp 20], (some 21), none, [], false⟩,
   ⟨7, .q (.fad 2), [.tmp 21], (some 22), none, [], false⟩,
   ⟨8, .q (.fad 1), [.tmp 22], (some 23), none, [], false⟩,
   ⟨9, .q .ld, [.tmp 23], (some 24), none, [], false⟩,
   ⟨10, .q (.bin .eql), [.tmp 19, .tmp 24], (some 25), none, [], false⟩])
 (.cond (.tmp 25)
  (.seq
  (.reg [⟨0, .q .mv, [.const (.int .i64 180)], (some 4), none, [], false⟩])
  .ret)
  .skip))
 (.seq
 (.reg [⟨0, .q (.fad 0), [.tmp 3], (some 27), none, [], false⟩,
   ⟨1, .q .ld, [.tmp 27], (some 28), none, [], false⟩,
   ⟨2, .e (.call 22), [.tmp 28], (some 29), none, [], false⟩,
   ⟨3, .q .mv, [.tmp 29], (some 26), none, [], false⟩,
   ⟨4, .q (.ext 0), [.tmp 26], (some 30), none, [], false⟩,
   ⟨5, .q (.ext 1), [.tmp 26], (some 31), none, [], false⟩,
   ⟨6, .q .mv, [.tmp 30], (some 5), none, [], false⟩,
   ⟨7, .q .mv, [.tmp 31], (some 6), none, [], false⟩])
 (.seq
 (.seq
 (.reg [⟨0, .q .mv, [.tmp 6], (some 32), none, [], false⟩,
   ⟨1, .q (.bin .neq), [.tmp 32, .const (.int .i64 0)], (some 33), none, [], false⟩])
 (.cond (.tmp 33)
  (.seq
  (.reg [⟨0, .q .mv, [.tmp 6], (some 34), none, [], false⟩,
    ⟨1, .q .mv, [.tmp 34], (some 4), none, [], false⟩])
  .ret)
  .skip))
 (.seq
 (.seq
 (.reg [⟨0, .q .mv, [.tmp 5], (some 35), none, [], false⟩,
   ⟨1, .q .len, [.tmp 35], (some 36), none, [], false⟩,
   ⟨2, .q .mv, [.tmp 0], (some 37), none, [], false⟩,
   ⟨3, .q .nilc, [.tmp 37], (some 38), none, [], false⟩,
   ⟨4, .q (.fad 2), [.tmp 38], (some 39), none, [], false⟩,
   ⟨5, .q (.fad 2), [.tmp 39], (some 40), none, [], false⟩,
   ⟨6, .q .ld, [.tmp 40], (some 41), none, [], false⟩,
   ⟨7, .q (.bin .gtr), [.tmp 36, .tmp 41], (some 42), none, [], false⟩])
 (.cond (.tmp 42)
  (.seq
  (.reg [⟨0, .q .mv, [.const (.int .i64 181)], (some 4), none, [], false⟩])
  .ret)
  .skip))
 (.seq
 (.reg [⟨0, .q (.ldn 12), [.tmp 3], (some 44), none, [], false⟩,
   ⟨1, .e (.call 23), [.tmp 44], (some 45), none, [], false⟩,
   ⟨2, .q .mv, [.tmp 45], (some 43), none, [], false⟩,
   ⟨3, .q (.ext 0), [.tmp 43], (some 46), none, [], false⟩,
   ⟨4, .q (.ext 1), [.tmp 43], (some 47), none, [], false⟩,
   ⟨5, .q .mv, [.tmp 46], (some 7), none, [], false⟩,
   ⟨6, .q .mv, [.tmp 47], (some 6), none, [], false⟩])
 (.seq
 (.seq
 (.reg [⟨0, .q .mv, [.tmp 6], (some 48), none, [], false⟩,
   ⟨1, .q (.bin .neq), [.tmp 48, .const (.int .i64 0)], (some 49), none, [], false⟩])
 (.cond (.tmp 49)
  (.seq
  (.reg [⟨0, .q .mv, [.tmp 6], (some 50), none, [], false⟩,
    ⟨1, .q .mv, [.tmp 50], (some 4), none, [], false⟩])
  .ret)
  .skip))
 (.seq
 (.seq
 (.reg [⟨0, .q .mv, [.tmp 7], (some 51), none, [], false⟩,
   ⟨1, .q .mv, [.tmp 0], (some 52), none, [], false⟩,
   ⟨2, .q .nilc, [.tmp 52], (some 53), none, [], false⟩,
   ⟨3, .q (.fad 2), [.tmp 53], (some 54), none, [], false⟩,
   ⟨4, .q (.fad 0), [.tmp 54], (some 55), none, [], false⟩,
   ⟨5, .q .ld, [.tmp 55], (some 56), none, [], false⟩,
   ⟨6, .q .mv, [.tmp 0], (some 57), none, [], false⟩,
   ⟨7, .q .nilc, [.tmp 57], (some 58), none, [], false⟩,
   ⟨8, .q (.fad 5), [.tmp 58], (some 59), none, [], false⟩,
   ⟨9, .q (.fad 0), [.tmp 59], (some 60), none, [], false⟩,
   ⟨10, .q .ld, [.tmp 60], (some 61), none, [], false⟩,
   ⟨11, .q (.bin .sub), [.tmp 56, .tmp 61], (some 62), none, [], false⟩,
   ⟨12, .q (.bin .gtr), [.tmp 51, .tmp 62], (some 63), none, [], false⟩])
 (.cond (.tmp 63)
  (.seq
  (.reg [⟨0, .q .mv, [.const (.int .i64 182)], (some 4), none, [], false⟩])
  .ret)
  .skip))
 (.seq
 (.reg [⟨0, .q .mv, [.tmp 0], (some 64), none, [], false⟩,
   ⟨1, .q .nilc, [.tmp 64], (some 65), none, [], false⟩,
   ⟨2, .q (.fad 5), [.tmp 65], (some 66), none, [], false⟩,
   ⟨3, .q (.fad 1), [.tmp 66], (some 67), none, [], false⟩,
   ⟨4, .q .ld, [.tmp 67], (some 68), none, [], false⟩,
   ⟨5, .q (.bin .add), [.tmp 68, .const (.int .i64 1)], (some 69), none, [], false⟩,
   ⟨6, .q .nilc, [.tmp 64], (some 70), none, [], false⟩,
   ⟨7, .q (.fad 5), [.tmp 70], (some 71), none, [], false⟩,
   ⟨8, .q (.fad 1), [.tmp 71], (some 72), none, [], false⟩,
   ⟨9, .e (.st 1), [.tmp 72, .tmp 69], none, none, [], false⟩])
 (.seq
 (.reg [⟨0, .q .mv, [.tmp 0], (some 73), none, [], false⟩,
   ⟨1, .q .nilc, [.tmp 73], (some 74), none, [], false⟩,
   ⟨2, .q (.fad 5), [.tmp 74], (some 75), none, [], false⟩,
   ⟨3, .q (.fad 0), [.tmp 75], (some 76), none, [], false⟩,
   ⟨4, .q .ld, [.tmp 76], (some 77), none, [], false⟩,
   ⟨5, .q .mv, [.tmp 7], (some 78), none, [], false⟩,
   ⟨6, .q (.bin .add), [.tmp 77, .tmp 78], (some 79), none, [], false⟩,
   ⟨7, .q .nilc, [.tmp 73], (some 80), none, [], false⟩,
   ⟨8, .q (.fad 5), [.tmp 80], (some 81), none, [], false⟩,
   ⟨9, .q (.fad 0), [.tmp 81], (some 82), none, [], false⟩,
   ⟨10, .e (.st 1), [.tmp 82, .tmp 79], none, none, [], false⟩])
 (.seq
 (.reg [⟨0, .q .mv, [.const (.int .i64 0)], (some 4), none, [], false⟩])
 (.code
 .ret)))))))))))))⟩
theorem low10 : lowDFn Tryd.prog Tryd.f10 = some L10 := by kernel_rfl
theorem call10 {args : List Value} {H : Heap} {S : Ending → Heap → Prop} (hn : args.length ≤ L10.n) (h : awpC Tryd.prog L10.pre (preDQ Tryd.prog L10 S) (fun ch H => S (.panicked ch) H) (env0 args) H) : ACalls Tryd.prog 10 args.toArray H S := acalls_dq mixed Tryd.func10 low10 hn h
/-- (*satchel/quota.Meter).Left -/
def L11 : DFn :=
 ⟨40, [.c 2 (some 3)],
 (.reg [⟨0, .e (.new #[(.int .i64 0), (.int .i64 0), (.int .i64 0)] 23), [], (some 2), none, [], false⟩]),
 (.seq
 (.reg [⟨0, .q .mv, [.tmp 0], (some 3), none, [], false⟩,
   ⟨1, .q .nilc, [.tmp 3], (some 4), none, [], false⟩,
   ⟨2, .q (.fad 0), [.tmp 4], (some 5), none, [], false⟩,
   ⟨3, .e (.call 20), [.tmp 5], (some 6), none, [], false⟩])
 (.dfr [⟨0, .q .mv, [.tmp 0], (some 7), none, [], false⟩,
   ⟨1, .q .nilc, [.tmp 7], (some 8), none, [], false⟩,
   ⟨2, .q (.fad 0), [.tmp 8], (some 9), none, [], false⟩] (.func 21) [.tmp 9]
 (.seq
 (.reg [⟨0, .q .mv, [.tmp 0], (some 10), none, [], false⟩,
   ⟨1, .q .nilc, [.tmp 10], (some 11), none, [], false⟩,
   ⟨2, .q (.fad 2), [.tmp 11], (some 12), none, [], false⟩,
   ⟨3, .q (.fad 0), [.tmp 12], (some 13), none, [], false⟩,
   ⟨4, .q .ld, [.tmp 13], (some 14), none, [], true⟩,
   ⟨5, .q .mv, [.tmp 0], (some 15), none, [], false⟩,
   ⟨6, .q .nilc, [.tmp 15], (some 16), none, [], false⟩,
   ⟨7, .q (.fad 5), [.tmp 16], (some 17), none, [], false⟩,
   ⟨8, .q (.fad 0), [.tmp 17], (some 18), none, [], false⟩,
   ⟨9, .q .ld, [.tmp 18], (some 19), none, [], true⟩,
   ⟨10, .q (.bin .sub), [.tmp 14, .tmp 19], (some 20), none, [], false⟩,
   ⟨11, .q .mv, [.tmp 0], (some 21), none, [], false⟩,
   ⟨12, .q .nilc, [.tmp 21], (some 22), none, [], false⟩,
   ⟨13, .q (.fad 2), [.tmp 22], (some 23), none, [], false⟩,
   ⟨14, .q (.fad 1), [.tmp 23], (some 24), none, [], false⟩,
   ⟨15, .q .ld, [.tmp 24], (some 25), none, [], true⟩,
   ⟨16, .q .mv, [.tmp 0], (some 26), none, [], false⟩,
   ⟨17, .q .nilc, [.tmp 26], (some 27), none, [], false⟩,
   ⟨18, .q (.fad 5), [.tmp 27], (some 28), none, [], false⟩,
   ⟨19, .q (.fad 1), [.tmp 28], (some 29), none, [], false⟩,
   ⟨20, .q .ld, [.tmp 29], (some 30), none, [], true⟩,
   ⟨21, .q (.bin .sub), [.tmp 25, .tmp 30], (some 31), none, [], false⟩,
   ⟨22, .q .mv, [.tmp 0], (some 32), none, [], false⟩,
   ⟨23, .q .nilc, [.tmp 32], (some 33), none, [], false⟩,
   ⟨24, .q (.fad 2), [.tmp 33], (some 34), none, [], false⟩,
   ⟨25, .q (.fad 2), [.tmp 34], (some 35), none, [], false⟩,
   ⟨26, .q .ld, [.tmp 35], (some 36), none, [], true⟩,
   ⟨27, .e (.st 3), [.tmp 2, .const (.agg #[(.int .i64 0), (.int .i64 0), (.int .i64 0)])], none, none, [26, 20, 15, 9, 4], false⟩,
   ⟨28, .q (.fad 0), [.tmp 2], (some 37), none, [], false⟩,
   ⟨29, .e (.st 1), [.tmp 37, .tmp 20], none, none, [26, 20, 15], false⟩,
   ⟨30, .q (.fad 1), [.tmp 2], (some 38), none, [], false⟩,
   ⟨31, .e (.st 1), [.tmp 38, .tmp 31], none, none, [26], false⟩,
   ⟨32, .q (.fad 2), [.tmp 2], (some 39), none, [], false⟩,
   ⟨33, .e (.st 1), [.tmp 39, .tmp 36], none, none, [], false⟩])
 (.code
 .ret))))⟩
theorem low11 : lowDFn Tryd.prog Tryd.f11 = some L11 := by kernel_rfl
theorem call11 {args : List Value} {H : Heap} {S : Ending → Heap → Prop} (hn : args.length ≤ L11.n) (h : awpC Tryd.prog L11.pre (preDQ Tryd.prog L11 S) (fun ch H => S (.panicked ch) H) (env0 args) H) : ACalls Tryd.prog 11 args.toArray H S := acalls_dq mixed Tryd.func11 low11 hn h
/-- (*satchel/quota.Meter).Used -/
def L12 : DFn :=
 ⟨14, [.c 2 (some 3)],
 (.reg [⟨0, .e (.new #[(.int .i64 0), (.int .i64 0), (.int .i64 0)] 23), [], (some 2), none, [], false⟩]),
 (.seq
 (.reg [⟨0, .q .mv, [.tmp 0], (some 3), none, [], false⟩,
   ⟨1, .q .nilc, [.tmp 3], (some 4), none, [], false⟩,
   ⟨2, .q (.fad 0), [.tmp 4], (some 5), none, [], false⟩,
   ⟨3, .e (.call 20), [.tmp 5], (some 6), none, [], false⟩])
 (.dfr [⟨0, .q .mv, [.tmp 0], (some 7), none, [], false⟩,
   ⟨1, .q .nilc, [.tmp 7], (some 8), none, [], false⟩,
   ⟨2, .q (.fad 0), [.tmp 8], (some 9), none, [], false⟩] (.func 21) [.tmp 9]
 (.seq
 (.reg [⟨0, .q .mv, [.tmp 0], (some 10), none, [], false⟩,
   ⟨1, .q .nilc, [.tmp 10], (some 11), none, [], false⟩,
   ⟨2, .q (.fad 5), [.tmp 11], (some 12), none, [], false⟩,
   ⟨3, .q (.ldn 3), [.tmp 12], (some 13), none, [], false⟩,
   ⟨4, .e (.st 3), [.tmp 2, .tmp 13], none, none, [], false⟩])
 (.code
 .ret))))⟩
theorem low12 : lowDFn Tryd.prog Tryd.f12 = some L12 := by kernel_rfl
theorem call12 {args : List Value} {H : Heap} {S : Ending → Heap → Prop} (hn : args.length ≤ L12.n) (h : awpC Tryd.prog L12.pre (preDQ Tryd.prog L12 S) (fun ch H => S (.panicked ch) H) (env0 args) H) : ACalls Tryd.prog 12 args.toArray H S := acalls_dq mixed Tryd.func12 low12 hn h
/-- satchel/satchelref18.New -/
def L13 : LFn :=
 ⟨10, [.t 2, .t 3],
 (.seq
 (.reg [⟨0, .e (.box 23), [.tmp 0], (some 1), none, [], false⟩,
   ⟨1, .q .mv, [.const (.pointer none)], (some 2), none, [], false⟩,
   ⟨2, .q .mv, [.const (.int .i64 0)], (some 3), none, [], false⟩])
 (.seq
 (.seq
 (.reg [⟨0, .q (.ldn 3), [.tmp 1], (some 4), none, [], false⟩,
   ⟨1, .e (.call 9), [.tmp 4], (some 5), none, [], false⟩,
   ⟨2, .q (.un .not), [.tmp 5], (some 6), none, [], false⟩])
 (.cond (.tmp 6)
  (.seq
  (.reg [⟨0, .q .mv, [.const (.pointer none)], (some 2), none, [], false⟩,
    ⟨1, .q .mv, [.const (.int .i64 1)], (some 3), none, [], false⟩])
  .ret)
  .skip))
 (.seq
 (.reg [⟨0, .q (.ldn 3), [.tmp 1], (some 7), none, [], false⟩,
   ⟨1, .q (.build #[(.int .i64 0), (.int .i64 0), (.int .i64 0), (.int .i64 0), (.int .i64 0)] [(0, 3)]), [.tmp 7], (some 8), none, [], false⟩,
   ⟨2, .e (.box 71), [.tmp 8], (some 9), none, [], false⟩,
   ⟨3, .q .mv, [.tmp 9], (some 2), none, [], false⟩,
   ⟨4, .q .mv, [.const (.int .i64 0)], (some 3), none, [], false⟩])
 .ret)))⟩
theorem low13 : lowFn Tryd.prog Tryd.f13 = some L13 := by kernel_rfl
theorem call13 {args : List Value} {H : Heap} {S : Ending → Heap → Prop} (hn : args.length ≤ L13.n) (h : awpC Tryd.prog L13.body (retQ L13.results S) (fun ch H => S (.panicked ch) H) (env0 args) H) : ACalls Tryd.prog 13 args.toArray H S := acalls mixed Tryd.func13 low13 hn h
/-- (*satchel/satchelref18.Meter).Take -/
def L14_0 : LCode :=
 (.seq
 (.reg [⟨0, .q .mv, [.const (.int .i64 0)], (some 4), none, [], false⟩])
 .ret)
def L14 : LFn :=
 ⟨84, [.t 4],
 (.seq
 (.reg [⟨0, .e (.box 38), [.tmp 1], (some 3), none, [], false⟩,
   ⟨1, .q .mv, [.const (.int .i64 0)], (some 4), none, [], false⟩])
 (.seq
 (.seq
 (.reg [⟨0, .q .mv, [.tmp 0], (some 7), none, [], false⟩,
   ⟨1, .q .nilc, [.tmp 7], (some 8), none, [], false⟩,
   ⟨2, .q (.fad 4), [.tmp 8], (some 9), none, [], false⟩,
   ⟨3, .q .ld, [.tmp 9], (some 10), none, [], false⟩,
   ⟨4, .q .mv, [.tmp 0], (some 11), none, [], false⟩,
   ⟨5, .q .nilc, [.tmp 11], (some 12), none, [], false⟩,
   ⟨6, .q (.fad 0), [.tmp 12], (some 13), none, [], false⟩,
   ⟨7, .q (.fad 1), [.tmp 13], (some 14), none, [], false⟩,
   ⟨8, .q .ld, [.tmp 14], (some 15), none, [], false⟩,
   ⟨9, .q (.bin .geq), [.tmp 10, .tmp 15], (some 16), none, [], false⟩])
 (.cond (.tmp 16)
  (.seq
  (.reg [⟨0, .q .mv, [.const (.int .i64 180)], (some 4), none, [], false⟩])
  .ret)
  .skip))
 (.seq
 (.reg [⟨0, .q (.fad 0), [.tmp 3], (some 18), none, [], false⟩,
   ⟨1, .q .ld, [.tmp 18], (some 19), none, [], false⟩,
   ⟨2, .e (.call 24), [.tmp 19], (some 20), none, [], false⟩,
   ⟨3, .q .mv, [.tmp 20], (some 17), none, [], false⟩,
   ⟨4, .q (.ext 0), [.tmp 17], (some 21), none, [], false⟩,
   ⟨5, .q (.ext 1), [.tmp 17], (some 22), none, [], false⟩,
   ⟨6, .q .mv, [.tmp 21], (some 5), none, [], false⟩,
   ⟨7, .q .mv, [.tmp 22], (some 6), none, [], false⟩])
 (.seq
 (.block 0
  (.seq
  (.reg [⟨0, .q .mv, [.tmp 6], (some 24), none, [], false⟩,
    ⟨1, .q (.bin .neq), [.tmp 24, .const (.int .i64 0)], (some 25), none, [], false⟩,
    ⟨2, .q .mv, [.tmp 25], (some 23), none, [], false⟩])
  (.cond (.tmp 23)
   (.seq
   (.reg [⟨0, .q .mv, [.tmp 6], (some 26), none, [], false⟩,
     ⟨1, .q .mv, [.tmp 26], (some 4), none, [], false⟩])
   .ret)
   (.seq
   (.reg [⟨0, .q .mv, [.tmp 5], (some 28), none, [], false⟩,
     ⟨1, .q .len, [.tmp 28], (some 29), none, [], false⟩,
     ⟨2, .q .mv, [.tmp 0], (some 30), none, [], false⟩,
     ⟨3, .q .nilc, [.tmp 30], (some 31), none, [], false⟩,
     ⟨4, .q (.fad 0), [.tmp 31], (some 32), none, [], false⟩,
     ⟨5, .q (.fad 2), [.tmp 32], (some 33), none, [], false⟩,
     ⟨6, .q .ld, [.tmp 33], (some 34), none, [], false⟩,
     ⟨7, .q (.bin .gtr), [.tmp 29, .tmp 34], (some 35), none, [], false⟩,
     ⟨8, .q .mv, [.tmp 35], (some 27), none, [], false⟩])
   (.cond (.tmp 27)
    (.seq
    (.reg [⟨0, .q .mv, [.const (.int .i64 181)], (some 4), none, [], false⟩])
    .ret)
    (.seq
    (.reg [⟨0, .q (.fad 1), [.tmp 3], (some 37), none, [], false⟩,
      ⟨1, .q .ld, [.tmp 37], (some 38), none, [], false⟩,
      ⟨2, .q (.bin .eql), [.tmp 38, .const (.int .i64 2)], (some 39), none, [], false⟩,
      ⟨3, .q .mv, [.tmp 39], (some 40), none, [], false⟩,
      ⟨4, .q (.fad 10), [.tmp 3], (some 41), (some (40, true)), [], false⟩,
      ⟨5, .q .ld, [.tmp 41], (some 42), (some (40, true)), [], false⟩,
      ⟨6, .q (.bin .lss), [.tmp 42, .const (.int .i64 0)], (some 43), (some (40, true)), [], false⟩,
      ⟨7, .q .pick, [.tmp 40, .tmp 43, .const (.bool false)], (some 44), none, [], false⟩,
      ⟨8, .q .mv, [.tmp 44], (some 36), none, [], false⟩])
    (.cond (.tmp 36)
     (.seq
     (.reg [⟨0, .q .mv, [.const (.int .i64 1)], (some 4), none, [], false⟩])
     .ret)
     (.seq
     (.reg [⟨0, .q (.fad 1), [.tmp 3], (some 46), none, [], false⟩,
       ⟨1, .q .ld, [.tmp 46], (some 47), none, [], false⟩,
       ⟨2, .q (.bin .eql), [.tmp 47, .const (.int .i64 2)], (some 48), none, [], false⟩,
       ⟨3, .q .mv, [.tmp 48], (some 49), none, [], false⟩,
       ⟨4, .q (.fad 10), [.tmp 3], (some 50), (some (49, true)), [], false⟩,
       ⟨5, .q .ld, [.tmp 50], (some 51), (some (49, true)), [], false⟩,
       ⟨6, .q .mv, [.tmp 0], (some 52), (some (49, true)), [], false⟩,
       ⟨7, .q .nilc, [.tmp 52], (some 53), (some (49, true)), [], false⟩,
       ⟨8, .q (.fad 0), [.tmp 53], (some 54), (some (49, true)), [], false⟩,
       ⟨9, .q (.fad 0), [.tmp 54], (some 55), (some (49, true)), [], false⟩,
       ⟨10, .q .ld, [.tmp 55], (some 56), (some (49, true)), [], false⟩,
       ⟨11, .q .mv, [.tmp 0], (some 57), (some (49, true)), [], false⟩,
       ⟨12, .q .nilc, [.tmp 57], (some 58), (some (49, true)), [], false⟩,
       ⟨13, .q (.fad 3), [.tmp 58], (some 59), (some (49, true)), [], false⟩,
       ⟨14, .q .ld, [.tmp 59], (some 60), (some (49, true)), [], false⟩,
       ⟨15, .q (.bin .sub), [.tmp 56, .tmp 60], (some 61), (some (49, true)), [], false⟩,
       ⟨16, .q (.bin .gtr), [.tmp 51, .tmp 61], (some 62), (some (49, true)), [], false⟩,
       ⟨17, .q .pick, [.tmp 49, .tmp 62, .const (.bool false)], (some 63), none, [], false⟩,
       ⟨18, .q .mv, [.tmp 63], (some 45), none, [], false⟩])
     (.cond (.tmp 45)
      (.seq
      (.reg [⟨0, .q .mv, [.const (.int .i64 182)], (some 4), none, [], false⟩])
      .ret)
      .skip)))))))))
 (.seq
 (.reg [⟨0, .q .mv, [.tmp 0], (some 64), none, [], false⟩,
   ⟨1, .q .nilc, [.tmp 64], (some 65), none, [], false⟩,
   ⟨2, .q (.fad 4), [.tmp 65], (some 66), none, [], false⟩,
   ⟨3, .q .ld, [.tmp 66], (some 67), none, [], false⟩,
   ⟨4, .q (.bin .add), [.tmp 67, .const (.int .i64 1)], (some 68), none, [], false⟩,
   ⟨5, .q .nilc, [.tmp 64], (some 69), none, [], false⟩,
   ⟨6, .q (.fad 4), [.tmp 69], (some 70), none, [], false⟩,
   ⟨7, .e (.st 1), [.tmp 70, .tmp 68], none, none, [], false⟩])
 (.seq
 (.seq
 (.reg [⟨0, .q (.fad 1), [.tmp 3], (some 71), none, [], false⟩,
   ⟨1, .q .ld, [.tmp 71], (some 72), none, [], false⟩,
   ⟨2, .q (.bin .eql), [.tmp 72, .const (.int .i64 2)], (some 73), none, [], false⟩])
 (.cond (.tmp 73)
  (.reg [⟨0, .q .mv, [.tmp 0], (some 74), none, [], false⟩,
    ⟨1, .q .mv, [.tmp 0], (some 75), none, [], false⟩,
    ⟨2, .q .nilc, [.tmp 75], (some 76), none, [], false⟩,
    ⟨3, .q (.fad 3), [.tmp 76], (some 77), none, [], false⟩,
    ⟨4, .q .ld, [.tmp 77], (some 78), none, [], false⟩,
    ⟨5, .q (.fad 10), [.tmp 3], (some 79), none, [], false⟩,
    ⟨6, .q .ld, [.tmp 79], (some 80), none, [], false⟩,
    ⟨7, .q (.bin .add), [.tmp 78, .tmp 80], (some 81), none, [], false⟩,
    ⟨8, .q .nilc, [.tmp 74], (some 82), none, [], false⟩,
    ⟨9, .q (.fad 3), [.tmp 82], (some 83), none, [], false⟩,
    ⟨10, .e (.st 1), [.tmp 83, .tmp 81], none, none, [], false⟩])
  .skip))
 L14_0))))))⟩
theorem low14 : lowFn Tryd.prog Tryd.f14 = some L14 := by kernel_rfl
theorem call14 {args : List Value} {H : Heap} {S : Ending → Heap → Prop} (hn : args.length ≤ L14.n) (h : awpC Tryd.prog L14.body (retQ L14.results S) (fun ch H => S (.panicked ch) H) (env0 args) H) : ACalls Tryd.prog 14 args.toArray H S := acalls mixed Tryd.func14 low14 hn h
/-- (*satchel/quota.Meter).Back -/
def L15 : DFn :=
 ⟨57, [.t 4],
 (.reg [⟨0, .e (.box 38), [.tmp 1], (some 3), none, [], false⟩,
   ⟨1, .q .mv, [.const (.int .i64 0)], (some 4), none, [], false⟩]),
 (.seq
 (.reg [⟨0, .q .mv, [.tmp 0], (some 7), none, [], false⟩,
   ⟨1, .q .nilc, [.tmp 7], (some 8), none, [], false⟩,
   ⟨2, .q (.fad 0), [.tmp 8], (some 9), none, [], false⟩,
   ⟨3, .e (.call 20), [.tmp 9], (some 10), none, [], false⟩])
 (.dfr [⟨0, .q .mv, [.tmp 0], (some 11), none, [], false⟩,
   ⟨1, .q .nilc, [.tmp 11], (some 12), none, [], false⟩,
   ⟨2, .q (.fad 0), [.tmp 12], (some 13), none, [], false⟩] (.func 21) [.tmp 13]
 (.seq
 (.reg [⟨0, .q (.ldn 12), [.tmp 3], (some 15), none, [], false⟩,
   ⟨1, .e (.call 23), [.tmp 15], (some 16), none, [], false⟩,
   ⟨2, .q .mv, [.tmp 16], (some 14), none, [], false⟩,
   ⟨3, .q (.ext 0), [.tmp 14], (some 17), none, [], false⟩,
   ⟨4, .q (.ext 1), [.tmp 14], (some 18), none, [], false⟩,
   ⟨5, .q .mv, [.tmp 17], (some 5), none, [], false⟩,
   ⟨6, .q .mv, [.tmp 18], (some 6), none, [], false⟩])
 (.seq
 (.seq
 (.reg [⟨0, .q .mv, [.tmp 6], (some 19), none, [], false⟩,
   ⟨1, .q (.bin .neq), [.tmp 19, .const (.int .i64 0)], (some 20), none, [], false⟩,
   ⟨2, .q .mv, [.tmp 20], (some 21), none, [], false⟩,
   ⟨3, .q .mv, [.tmp 5], (some 22), (some (21, false)), [], false⟩,
   ⟨4, .q .mv, [.tmp 0], (some 23), (some (21, false)), [], false⟩,
   ⟨5, .q .nilc, [.tmp 23], (some 24), (some (21, false)), [], false⟩,
   ⟨6, .q (.fad 5), [.tmp 24], (some 25), (some (21, false)), [], false⟩,
   ⟨7, .q (.fad 0), [.tmp 25], (some 26), (some (21, false)), [], false⟩,
   ⟨8, .q .ld, [.tmp 26], (some 27), (some (21, false)), [], false⟩,
   ⟨9, .q (.bin .gtr), [.tmp 22, .tmp 27], (some 28), (some (21, false)), [], false⟩,
   ⟨10, .q .pick, [.tmp 21, .const (.bool true), .tmp 28], (some 29), none, [], false⟩,
   ⟨11, .q .mv, [.tmp 29], (some 30), none, [], false⟩,
   ⟨12, .q .mv, [.tmp 0], (some 31), (some (30, false)), [], false⟩,
   ⟨13, .q .nilc, [.tmp 31], (some 32), (some (30, false)), [], false⟩,
   ⟨14, .q (.fad 5), [.tmp 32], (some 33), (some (30, false)), [], false⟩,
   ⟨15, .q (.fad 1), [.tmp 33], (some 34), (some (30, false)), [], false⟩,
   ⟨16, .q .ld, [.tmp 34], (some 35), (some (30, false)), [], false⟩,
   ⟨17, .q (.bin .eql), [.tmp 35, .const (.int .i64 0)], (some 36), (some (30, false)), [], false⟩,
   ⟨18, .q .pick, [.tmp 30, .const (.bool true), .tmp 36], (some 37), none, [], false⟩])
 (.cond (.tmp 37)
  (.seq
  (.reg [⟨0, .q .mv, [.const (.int .i64 1)], (some 4), none, [], false⟩])
  .ret)
  .skip))
 (.seq
 (.reg [⟨0, .q .mv, [.tmp 0], (some 38), none, [], false⟩,
   ⟨1, .q .nilc, [.tmp 38], (some 39), none, [], false⟩,
   ⟨2, .q (.fad 5), [.tmp 39], (some 40), none, [], false⟩,
   ⟨3, .q (.fad 1), [.tmp 40], (some 41), none, [], false⟩,
   ⟨4, .q .ld, [.tmp 41], (some 42), none, [], false⟩,
   ⟨5, .q (.bin .sub), [.tmp 42, .const (.int .i64 1)], (some 43), none, [], false⟩,
   ⟨6, .q .nilc, [.tmp 38], (some 44), none, [], false⟩,
   ⟨7, .q (.fad 5), [.tmp 44], (some 45), none, [], false⟩,
   ⟨8, .q (.fad 1), [.tmp 45], (some 46), none, [], false⟩,
   ⟨9, .e (.st 1), [.tmp 46, .tmp 43], none, none, [], false⟩])
 (.seq
 (.reg [⟨0, .q .mv, [.tmp 0], (some 47), none, [], false⟩,
   ⟨1, .q .nilc, [.tmp 47], (some 48), none, [], false⟩,
   ⟨2, .q (.fad 5), [.tmp 48], (some 49), none, [], false⟩,
   ⟨3, .q (.fad 0), [.tmp 49], (some 50), none, [], false⟩,
   ⟨4, .q .ld, [.tmp 50], (some 51), none, [], false⟩,
   ⟨5, .q .mv, [.tmp 5], (some 52), none, [], false⟩,
   ⟨6, .q (.bin .sub), [.tmp 51, .tmp 52], (some 53), none, [], false⟩,
   ⟨7, .q .nilc, [.tmp 47], (some 54), none, [], false⟩,
   ⟨8, .q (.fad 5), [.tmp 54], (some 55), none, [], false⟩,
   ⟨9, .q (.fad 0), [.tmp 55], (some 56), none, [], false⟩,
   ⟨10, .e (.st 1), [.tmp 56, .tmp 53], none, none, [], false⟩])
 (.seq
 (.reg [⟨0, .q .mv, [.const (.int .i64 0)], (some 4), none, [], false⟩])
 (.code
 .ret))))))))⟩
theorem low15 : lowDFn Tryd.prog Tryd.f15 = some L15 := by kernel_rfl
theorem call15 {args : List Value} {H : Heap} {S : Ending → Heap → Prop} (hn : args.length ≤ L15.n) (h : awpC Tryd.prog L15.pre (preDQ Tryd.prog L15 S) (fun ch H => S (.panicked ch) H) (env0 args) H) : ACalls Tryd.prog 15 args.toArray H S := acalls_dq mixed Tryd.func15 low15 hn h
/-- satchel/quota.fits -/
def L19 : LFn :=
 ⟨16, [.t 2],
 (.seq
 (.reg [⟨0, .e (.box 23), [.tmp 0], (some 1), none, [], false⟩,
   ⟨1, .q .mv, [.const (.bool false)], (some 2), none, [], false⟩])
 (.seq
 (.reg [⟨0, .q (.fad 0), [.tmp 1], (some 3), none, [], false⟩,
   ⟨1, .q .ld, [.tmp 3], (some 4), none, [], false⟩,
   ⟨2, .q (.bin .geq), [.tmp 4, .const (.int .i64 0)], (some 5), none, [], false⟩,
   ⟨3, .q .mv, [.tmp 5], (some 6), none, [], false⟩,
   ⟨4, .q (.fad 1), [.tmp 1], (some 7), (some (6, true)), [], false⟩,
   ⟨5, .q .ld, [.tmp 7], (some 8), (some (6, true)), [], false⟩,
   ⟨6, .q (.bin .geq), [.tmp 8, .const (.int .i64 0)], (some 9), (some (6, true)), [], false⟩,
   ⟨7, .q .pick, [.tmp 6, .tmp 9, .const (.bool false)], (some 10), none, [], false⟩,
   ⟨8, .q .mv, [.tmp 10], (some 11), none, [], false⟩,
   ⟨9, .q (.fad 2), [.tmp 1], (some 12), (some (11, true)), [], false⟩,
   ⟨10, .q .ld, [.tmp 12], (some 13), (some (11, true)), [], false⟩,
   ⟨11, .q (.bin .geq), [.tmp 13, .const (.int .i64 0)], (some 14), (some (11, true)), [], false⟩,
   ⟨12, .q .pick, [.tmp 11, .tmp 14, .const (.bool false)], (some 15), none, [], false⟩,
   ⟨13, .q .mv, [.tmp 15], (some 2), none, [], false⟩])
 .ret))⟩
theorem low19 : lowFn Tryd.prog Tryd.f19 = some L19 := by kernel_rfl
theorem call19 {args : List Value} {H : Heap} {S : Ending → Heap → Prop} (hn : args.length ≤ L19.n) (h : awpC Tryd.prog L19.body (retQ L19.results S) (fun ch H => S (.panicked ch) H) (env0 args) H) : ACalls Tryd.prog 19 args.toArray H S := acalls mixed Tryd.func19 low19 hn h
/-- satchel/quota.need -/
def L23 : LFn :=
 ⟨14, [.t 2, .t 3],
 (.seq
 (.reg [⟨0, .e (.box 38), [.tmp 0], (some 1), none, [], false⟩,
   ⟨1, .q .mv, [.const (.int .i64 0)], (some 2), none, [], false⟩,
   ⟨2, .q .mv, [.const (.int .i64 0)], (some 3), none, [], false⟩])
 (.seq
 (.block 0
  (.seq
  (.reg [⟨0, .q (.fad 1), [.tmp 1], (some 5), none, [], false⟩,
    ⟨1, .q .ld, [.tmp 5], (some 6), none, [], false⟩,
    ⟨2, .q (.bin .neq), [.tmp 6, .const (.int .i64 2)], (some 7), none, [], false⟩,
    ⟨3, .q .mv, [.tmp 7], (some 4), none, [], false⟩])
  (.cond (.tmp 4)
   (.seq
   (.reg [⟨0, .q .mv, [.const (.int .i64 0)], (some 2), none, [], false⟩,
     ⟨1, .q .mv, [.const (.int .i64 0)], (some 3), none, [], false⟩])
   .ret)
   (.seq
   (.reg [⟨0, .q (.fad 10), [.tmp 1], (some 9), none, [], false⟩,
     ⟨1, .q .ld, [.tmp 9], (some 10), none, [], false⟩,
     ⟨2, .q (.bin .lss), [.tmp 10, .const (.int .i64 0)], (some 11), none, [], false⟩,
     ⟨3, .q .mv, [.tmp 11], (some 8), none, [], false⟩])
   (.cond (.tmp 8)
    (.seq
    (.reg [⟨0, .q .mv, [.const (.int .i64 0)], (some 2), none, [], false⟩,
      ⟨1, .q .mv, [.const (.int .i64 1)], (some 3), none, [], false⟩])
    .ret)
    .skip)))))
 (.seq
 (.reg [⟨0, .q (.fad 10), [.tmp 1], (some 12), none, [], false⟩,
   ⟨1, .q .ld, [.tmp 12], (some 13), none, [], false⟩,
   ⟨2, .q .mv, [.tmp 13], (some 2), none, [], false⟩,
   ⟨3, .q .mv, [.const (.int .i64 0)], (some 3), none, [], false⟩])
 .ret)))⟩
theorem low23 : lowFn Tryd.prog Tryd.f23 = some L23 := by kernel_rfl
theorem call23 {args : List Value} {H : Heap} {S : Ending → Heap → Prop} (hn : args.length ≤ L23.n) (h : awpC Tryd.prog L23.body (retQ L23.results S) (fun ch H => S (.panicked ch) H) (env0 args) H) : ACalls Tryd.prog 23 args.toArray H S := acalls mixed Tryd.func23 low23 hn h
/-- satchel/quota.Outer -/
def L25 : LFn :=
 ⟨21, [.t 2],
 (.seq
 (.reg [⟨0, .e (.box 23), [.tmp 0], (some 1), none, [], false⟩,
   ⟨1, .q .mv, [.const (.int .i64 0)], (some 2), none, [], false⟩])
 (.seq
 (.seq
 (.reg [⟨0, .q (.ldn 3), [.tmp 1], (some 5), none, [], false⟩,
   ⟨1, .e (.call 19), [.tmp 5], (some 6), none, [], false⟩,
   ⟨2, .q (.un .not), [.tmp 6], (some 7), none, [], false⟩])
 (.cond (.tmp 7)
  (.seq
  (.reg [⟨0, .q .mv, [.const (.int .i64 0)], (some 2), none, [], false⟩])
  .ret)
  .skip))
 (.seq
 (.reg [⟨0, .q (.fad 0), [.tmp 1], (some 8), none, [], false⟩,
   ⟨1, .q .ld, [.tmp 8], (some 9), none, [], false⟩,
   ⟨2, .q .min2, [.tmp 9, .const (.int .i64 4194304)], (some 10), none, [], false⟩,
   ⟨3, .q (.fad 1), [.tmp 1], (some 11), none, [], false⟩,
   ⟨4, .q .ld, [.tmp 11], (some 12), none, [], false⟩,
   ⟨5, .q .min2, [.tmp 12, .const (.int .i64 2730)], (some 13), none, [], false⟩,
   ⟨6, .q .mv, [.tmp 10], (some 3), none, [], false⟩,
   ⟨7, .q .mv, [.tmp 13], (some 4), none, [], false⟩])
 (.seq
 (.reg [⟨0, .q .mv, [.tmp 3], (some 14), none, [], false⟩,
   ⟨1, .q .mv, [.tmp 4], (some 15), none, [], false⟩,
   ⟨2, .q (.bin .mul), [.const (.int .i64 1536), .tmp 15], (some 16), none, [], false⟩,
   ⟨3, .q (.bin .add), [.tmp 14, .tmp 16], (some 17), none, [], false⟩,
   ⟨4, .q (.bin .add), [.tmp 17, .const (.int .i64 1024)], (some 18), none, [], false⟩,
   ⟨5, .q (.bin .add), [.tmp 18, .const (.int .i64 1048576)], (some 19), none, [], false⟩,
   ⟨6, .q .min2, [.const (.int .i64 4194304), .tmp 19], (some 20), none, [], false⟩,
   ⟨7, .q .mv, [.tmp 20], (some 2), none, [], false⟩])
 .ret))))⟩
theorem low25 : lowFn Tryd.prog Tryd.f25 = some L25 := by kernel_rfl
theorem call25 {args : List Value} {H : Heap} {S : Ending → Heap → Prop} (hn : args.length ≤ L25.n) (h : awpC Tryd.prog L25.body (retQ L25.results S) (fun ch H => S (.panicked ch) H) (env0 args) H) : ACalls Tryd.prog 25 args.toArray H S := acalls mixed Tryd.func25 low25 hn h
/-- satchel/satchelref18.Outer -/
def L26 : LFn :=
 ⟨26, [.t 2],
 (.seq
 (.reg [⟨0, .e (.box 23), [.tmp 0], (some 1), none, [], false⟩,
   ⟨1, .q .mv, [.const (.int .i64 0)], (some 2), none, [], false⟩])
 (.seq
 (.seq
 (.reg [⟨0, .q (.ldn 3), [.tmp 1], (some 4), none, [], false⟩,
   ⟨1, .e (.call 9), [.tmp 4], (some 5), none, [], false⟩,
   ⟨2, .q (.un .not), [.tmp 5], (some 6), none, [], false⟩])
 (.cond (.tmp 6)
  (.seq
  (.reg [⟨0, .q .mv, [.const (.int .i64 0)], (some 2), none, [], false⟩])
  .ret)
  .skip))
 (.seq
 (.seq
 (.reg [⟨0, .q (.fad 0), [.tmp 1], (some 7), none, [], false⟩,
   ⟨1, .q .ld, [.tmp 7], (some 8), none, [], false⟩,
   ⟨2, .q (.bin .gtr), [.tmp 8, .const (.int .i64 4194304)], (some 9), none, [], false⟩,
   ⟨3, .q .mv, [.tmp 9], (some 10), none, [], false⟩,
   ⟨4, .q (.fad 1), [.tmp 1], (some 11), (some (10, false)), [], false⟩,
   ⟨5, .q .ld, [.tmp 11], (some 12), (some (10, false)), [], false⟩,
   ⟨6, .q (.bin .gtr), [.tmp 12, .const (.int .i64 4194304)], (some 13), (some (10, false)), [], false⟩,
   ⟨7, .q .pick, [.tmp 10, .const (.bool true), .tmp 13], (some 14), none, [], false⟩])
 (.cond (.tmp 14)
  (.seq
  (.reg [⟨0, .q .mv, [.const (.int .i64 4194304)], (some 2), none, [], false⟩])
  .ret)
  .skip))
 (.seq
 (.reg [⟨0, .q (.fad 0), [.tmp 1], (some 15), none, [], false⟩,
   ⟨1, .q .ld, [.tmp 15], (some 16), none, [], false⟩,
   ⟨2, .q (.fad 1), [.tmp 1], (some 17), none, [], false⟩,
   ⟨3, .q .ld, [.tmp 17], (some 18), none, [], false⟩,
   ⟨4, .q (.bin .mul), [.const (.int .i64 1536), .tmp 18], (some 19), none, [], false⟩,
   ⟨5, .q (.bin .add), [.tmp 16, .tmp 19], (some 20), none, [], false⟩,
   ⟨6, .q (.bin .add), [.tmp 20, .const (.int .i64 1024)], (some 21), none, [], false⟩,
   ⟨7, .q (.bin .add), [.tmp 21, .const (.int .i64 1048576)], (some 22), none, [], false⟩,
   ⟨8, .q .mv, [.tmp 22], (some 3), none, [], false⟩])
 (.seq
 (.seq
 (.reg [⟨0, .q .mv, [.tmp 3], (some 23), none, [], false⟩,
   ⟨1, .q (.bin .gtr), [.tmp 23, .const (.int .i64 4194304)], (some 24), none, [], false⟩])
 (.cond (.tmp 24)
  (.seq
  (.reg [⟨0, .q .mv, [.const (.int .i64 4194304)], (some 2), none, [], false⟩])
  .ret)
  .skip))
 (.seq
 (.reg [⟨0, .q .mv, [.tmp 3], (some 25), none, [], false⟩,
   ⟨1, .q .mv, [.tmp 25], (some 2), none, [], false⟩])
 .ret))))))⟩
theorem low26 : lowFn Tryd.prog Tryd.f26 = some L26 := by kernel_rfl
theorem call26 {args : List Value} {H : Heap} {S : Ending → Heap → Prop} (hn : args.length ≤ L26.n) (h : awpC Tryd.prog L26.body (retQ L26.results S) (fun ch H => S (.panicked ch) H) (env0 args) H) : ACalls Tryd.prog 26 args.toArray H S := acalls mixed Tryd.func26 low26 hn h
/-- (*satchel/satchelref18.Meter).Back -/
def L27_0 : LCode :=
 (.seq
 (.seq
 (.reg [⟨0, .q .mv, [.tmp 5], (some 11), none, [], false⟩,
   ⟨1, .q (.bin .lss), [.tmp 11, .const (.int .i64 0)], (some 12), none, [], false⟩,
   ⟨2, .q .mv, [.tmp 12], (some 13), none, [], false⟩,
   ⟨3, .q .mv, [.tmp 5], (some 14), (some (13, false)), [], false⟩,
   ⟨4, .q .mv, [.tmp 0], (some 15), (some (13, false)), [], false⟩,
   ⟨5, .q .nilc, [.tmp 15], (some 16), (some (13, false)), [], false⟩,
   ⟨6, .q (.fad 3), [.tmp 16], (some 17), (some (13, false)), [], false⟩,
   ⟨7, .q .ld, [.tmp 17], (some 18), (some (13, false)), [], false⟩,
   ⟨8, .q (.bin .gtr), [.tmp 14, .tmp 18], (some 19), (some (13, false)), [], false⟩,
   ⟨9, .q .pick, [.tmp 13, .const (.bool true), .tmp 19], (some 20), none, [], false⟩,
   ⟨10, .q .mv, [.tmp 20], (some 21), none, [], false⟩,
   ⟨11, .q .mv, [.tmp 0], (some 22), (some (21, false)), [], false⟩,
   ⟨12, .q .nilc, [.tmp 22], (some 23), (some (21, false)), [], false⟩,
   ⟨13, .q (.fad 4), [.tmp 23], (some 24), (some (21, false)), [], false⟩,
   ⟨14, .q .ld, [.tmp 24], (some 25), (some (21, false)), [], false⟩,
   ⟨15, .q (.bin .eql), [.tmp 25, .const (.int .i64 0)], (some 26), (some (21, false)), [], false⟩,
   ⟨16, .q .pick, [.tmp 21, .const (.bool true), .tmp 26], (some 27), none, [], false⟩])
 (.cond (.tmp 27)
  (.seq
  (.reg [⟨0, .q .mv, [.const (.int .i64 1)], (some 4), none, [], false⟩])
  .ret)
  .skip))
 (.seq
 (.reg [⟨0, .q .mv, [.tmp 0], (some 28), none, [], false⟩,
   ⟨1, .q .nilc, [.tmp 28], (some 29), none, [], false⟩,
   ⟨2, .q (.fad 4), [.tmp 29], (some 30), none, [], false⟩,
   ⟨3, .q .ld, [.tmp 30], (some 31), none, [], false⟩,
   ⟨4, .q (.bin .sub), [.tmp 31, .const (.int .i64 1)], (some 32), none, [], false⟩,
   ⟨5, .q .nilc, [.tmp 28], (some 33), none, [], false⟩,
   ⟨6, .q (.fad 4), [.tmp 33], (some 34), none, [], false⟩,
   ⟨7, .e (.st 1), [.tmp 34, .tmp 32], none, none, [], false⟩])
 (.seq
 (.reg [⟨0, .q .mv, [.tmp 0], (some 35), none, [], false⟩,
   ⟨1, .q .mv, [.tmp 0], (some 36), none, [], false⟩,
   ⟨2, .q .nilc, [.tmp 36], (some 37), none, [], false⟩,
   ⟨3, .q (.fad 3), [.tmp 37], (some 38), none, [], false⟩,
   ⟨4, .q .ld, [.tmp 38], (some 39), none, [], false⟩,
   ⟨5, .q .mv, [.tmp 5], (some 40), none, [], false⟩,
   ⟨6, .q (.bin .sub), [.tmp 39, .tmp 40], (some 41), none, [], false⟩,
   ⟨7, .q .nilc, [.tmp 35], (some 42), none, [], false⟩,
   ⟨8, .q (.fad 3), [.tmp 42], (some 43), none, [], false⟩,
   ⟨9, .e (.st 1), [.tmp 43, .tmp 41], none, none, [], false⟩])
 (.seq
 (.reg [⟨0, .q .mv, [.const (.int .i64 0)], (some 4), none, [], false⟩])
 .ret))))
def L27 : LFn :=
 ⟨44, [.t 4],
 (.seq
 (.reg [⟨0, .e (.box 38), [.tmp 1], (some 3), none, [], false⟩,
   ⟨1, .q .mv, [.const (.int .i64 0)], (some 4), none, [], false⟩])
 (.seq
 (.reg [⟨0, .q .mv, [.const (.int .i64 0)], (some 5), none, [], false⟩])
 (.seq
 (.seq
 (.reg [⟨0, .q (.fad 1), [.tmp 3], (some 6), none, [], false⟩,
   ⟨1, .q .ld, [.tmp 6], (some 7), none, [], false⟩,
   ⟨2, .q (.bin .eql), [.tmp 7, .const (.int .i64 2)], (some 8), none, [], false⟩])
 (.cond (.tmp 8)
  (.reg [⟨0, .q (.fad 10), [.tmp 3], (some 9), none, [], false⟩,
    ⟨1, .q .ld, [.tmp 9], (some 10), none, [], false⟩,
    ⟨2, .q .mv, [.tmp 10], (some 5), none, [], false⟩])
  .skip))
 L27_0)))⟩
theorem low27 : lowFn Tryd.prog Tryd.f27 = some L27 := by kernel_rfl
theorem call27 {args : List Value} {H : Heap} {S : Ending → Heap → Prop} (hn : args.length ≤ L27.n) (h : awpC Tryd.prog L27.body (retQ L27.results S) (fun ch H => S (.panicked ch) H) (env0 args) H) : ACalls Tryd.prog 27 args.toArray H S := acalls mixed Tryd.func27 low27 hn h
/-- (*satchel/satchelref18.Meter).Left -/
def L28 : LFn :=
 ⟨29, [.c 2 (some 3)],
 (.seq
 (.reg [⟨0, .e (.new #[(.int .i64 0), (.int .i64 0), (.int .i64 0)] 23), [], (some 2), none, [], false⟩])
 (.seq
 (.reg [⟨0, .q .mv, [.tmp 0], (some 3), none, [], false⟩,
   ⟨1, .q .nilc, [.tmp 3], (some 4), none, [], false⟩,
   ⟨2, .q (.fad 0), [.tmp 4], (some 5), none, [], false⟩,
   ⟨3, .q (.fad 0), [.tmp 5], (some 6), none, [], false⟩,
   ⟨4, .q .ld, [.tmp 6], (some 7), none, [], false⟩,
   ⟨5, .q .mv, [.tmp 0], (some 8), none, [], false⟩,
   ⟨6, .q .nilc, [.tmp 8], (some 9), none, [], false⟩,
   ⟨7, .q (.fad 3), [.tmp 9], (some 10), none, [], false⟩,
   ⟨8, .q .ld, [.tmp 10], (some 11), none, [], false⟩,
   ⟨9, .q (.bin .sub), [.tmp 7, .tmp 11], (some 12), none, [], false⟩,
   ⟨10, .q .mv, [.tmp 0], (some 13), none, [], false⟩,
   ⟨11, .q .nilc, [.tmp 13], (some 14), none, [], false⟩,
   ⟨12, .q (.fad 0), [.tmp 14], (some 15), none, [], false⟩,
   ⟨13, .q (.fad 1), [.tmp 15], (some 16), none, [], false⟩,
   ⟨14, .q .ld, [.tmp 16], (some 17), none, [], false⟩,
   ⟨15, .q .mv, [.tmp 0], (some 18), none, [], false⟩,
   ⟨16, .q .nilc, [.tmp 18], (some 19), none, [], false⟩,
   ⟨17, .q (.fad 4), [.tmp 19], (some 20), none, [], false⟩,
   ⟨18, .q .ld, [.tmp 20], (some 21), none, [], false⟩,
   ⟨19, .q (.bin .sub), [.tmp 17, .tmp 21], (some 22), none, [], false⟩,
   ⟨20, .q .mv, [.tmp 0], (some 23), none, [], false⟩,
   ⟨21, .q .nilc, [.tmp 23], (some 24), none, [], false⟩,
   ⟨22, .q (.fad 0), [.tmp 24], (some 25), none, [], false⟩,
   ⟨23, .q (.fad 2), [.tmp 25], (some 26), none, [], false⟩,
   ⟨24, .q .ld, [.tmp 26], (some 27), none, [], false⟩,
   ⟨25, .q (.build #[(.int .i64 0), (.int .i64 0), (.int .i64 0)] [(0, 1), (1, 1), (2, 1)]), [.tmp 12, .tmp 22, .tmp 27], (some 28), none, [], false⟩,
   ⟨26, .e (.st 3), [.tmp 2, .tmp 28], none, none, [], false⟩])
 .ret))⟩
theorem low28 : lowFn Tryd.prog Tryd.f28 = some L28 := by kernel_rfl
theorem call28 {args : List Value} {H : Heap} {S : Ending → Heap → Prop} (hn : args.length ≤ L28.n) (h : awpC Tryd.prog L28.body (retQ L28.results S) (fun ch H => S (.panicked ch) H) (env0 args) H) : ACalls Tryd.prog 28 args.toArray H S := acalls mixed Tryd.func28 low28 hn h
/-- (*satchel/satchelref18.Meter).Used -/
def L29 : LFn :=
 ⟨12, [.c 2 (some 3)],
 (.seq
 (.reg [⟨0, .e (.new #[(.int .i64 0), (.int .i64 0), (.int .i64 0)] 23), [], (some 2), none, [], false⟩])
 (.seq
 (.reg [⟨0, .q .mv, [.tmp 0], (some 3), none, [], false⟩,
   ⟨1, .q .nilc, [.tmp 3], (some 4), none, [], false⟩,
   ⟨2, .q (.fad 3), [.tmp 4], (some 5), none, [], false⟩,
   ⟨3, .q .ld, [.tmp 5], (some 6), none, [], false⟩,
   ⟨4, .q .mv, [.tmp 0], (some 7), none, [], false⟩,
   ⟨5, .q .nilc, [.tmp 7], (some 8), none, [], false⟩,
   ⟨6, .q (.fad 4), [.tmp 8], (some 9), none, [], false⟩,
   ⟨7, .q .ld, [.tmp 9], (some 10), none, [], false⟩,
   ⟨8, .q (.build #[(.int .i64 0), (.int .i64 0), (.int .i64 0)] [(0, 1), (1, 1)]), [.tmp 6, .tmp 10], (some 11), none, [], false⟩,
   ⟨9, .e (.st 3), [.tmp 2, .tmp 11], none, none, [], false⟩])
 .ret))⟩
theorem low29 : lowFn Tryd.prog Tryd.f29 = some L29 := by kernel_rfl
theorem call29 {args : List Value} {H : Heap} {S : Ending → Heap → Prop} (hn : args.length ≤ L29.n) (h : awpC Tryd.prog L29.body (retQ L29.results S) (fun ch H => S (.panicked ch) H) (env0 args) H) : ACalls Tryd.prog 29 args.toArray H S := acalls mixed Tryd.func29 low29 hn h
/-- (*satchel/satchellaw18.pair).step -/
def L17 : LFn :=
 ⟨43, [.t 4],
 (.seq
 (.reg [⟨0, .e (.box 55), [.tmp 1], (some 3), none, [], false⟩,
   ⟨1, .q .mv, [.const (.bool false)], (some 4), none, [], false⟩])
 (.seq
 (.seq
 (.reg [⟨0, .q (.fad 0), [.tmp 3], (some 5), none, [], false⟩,
   ⟨1, .q .ld, [.tmp 5], (some 6), none, [], false⟩])
 (.block 0
  (.seq
  (.reg [⟨0, .q (.bin .eql), [.tmp 6, .const (.int .i64 0)], (some 8), none, [], false⟩,
    ⟨1, .q .mv, [.tmp 8], (some 7), none, [], false⟩])
  (.cond (.tmp 7)
   (.seq
   (.reg [⟨0, .q .mv, [.tmp 0], (some 9), none, [], false⟩,
     ⟨1, .q .nilc, [.tmp 9], (some 10), none, [], false⟩,
     ⟨2, .q (.fad 0), [.tmp 10], (some 11), none, [], false⟩,
     ⟨3, .q .ld, [.tmp 11], (some 12), none, [], false⟩,
     ⟨4, .q (.fad 1), [.tmp 3], (some 13), none, [], false⟩,
     ⟨5, .q (.ldn 12), [.tmp 13], (some 14), none, [], false⟩,
     ⟨7, .q .mv, [.tmp 0], (some 16), none, [], false⟩,
     ⟨8, .q .nilc, [.tmp 16], (some 17), none, [], false⟩,
     ⟨9, .q (.fad 1), [.tmp 17], (some 18), none, [], false⟩,
     ⟨10, .q .ld, [.tmp 18], (some 19), none, [], true⟩,
     ⟨11, .q (.fad 1), [.tmp 3], (some 20), none, [], false⟩,
     ⟨12, .q (.ldn 12), [.tmp 20], (some 21), none, [], true⟩,
     ⟨6, .e (.call 10), [.tmp 12, .tmp 14], (some 15), none, [12, 10], false⟩,
     ⟨13, .e (.call 14), [.tmp 19, .tmp 21], (some 22), none, [], false⟩,
     ⟨14, .q (.bin .eql), [.tmp 15, .tmp 22], (some 23), none, [], false⟩,
     ⟨15, .q .mv, [.tmp 23], (some 4), none, [], false⟩])
   .ret)
   (.seq
   (.reg [⟨0, .q (.bin .eql), [.tmp 6, .const (.int .i64 1)], (some 25), none, [], false⟩,
     ⟨1, .q .mv, [.tmp 25], (some 24), none, [], false⟩])
   (.cond (.tmp 24)
    (.seq
    (.reg [⟨0, .q .mv, [.tmp 0], (some 26), none, [], false⟩,
      ⟨1, .q .nilc, [.tmp 26], (some 27), none, [], false⟩,
      ⟨2, .q (.fad 0), [.tmp 27], (some 28), none, [], false⟩,
      ⟨3, .q .ld, [.tmp 28], (some 29), none, [], false⟩,
      ⟨4, .q (.fad 1), [.tmp 3], (some 30), none, [], false⟩,
      ⟨5, .q (.ldn 12), [.tmp 30], (some 31), none, [], false⟩,
      ⟨7, .q .mv, [.tmp 0], (some 33), none, [], false⟩,
      ⟨8, .q .nilc, [.tmp 33], (some 34), none, [], false⟩,
      ⟨9, .q (.fad 1), [.tmp 34], (some 35), none, [], false⟩,
      ⟨10, .q .ld, [.tmp 35], (some 36), none, [], true⟩,
      ⟨11, .q (.fad 1), [.tmp 3], (some 37), none, [], false⟩,
      ⟨12, .q (.ldn 12), [.tmp 37], (some 38), none, [], true⟩,
      ⟨6, .e (.call 15), [.tmp 29, .tmp 31], (some 32), none, [12, 10], false⟩,
      ⟨13, .e (.call 27), [.tmp 36, .tmp 38], (some 39), none, [], false⟩,
      ⟨14, .q (.bin .eql), [.tmp 32, .tmp 39], (some 40), none, [], false⟩,
      ⟨15, .q .mv, [.tmp 40], (some 4), none, [], false⟩])
    .ret)
    .skip))))))
 (.seq
 (.reg [⟨0, .q .mv, [.tmp 0], (some 41), none, [], false⟩,
   ⟨1, .e (.call 18), [.tmp 41], (some 42), none, [], false⟩,
   ⟨2, .q .mv, [.tmp 42], (some 4), none, [], false⟩])
 .ret)))⟩
theorem low17 : lowFn Tryd.prog Tryd.f17 = some L17 := by kernel_rfl
theorem call17 {args : List Value} {H : Heap} {S : Ending → Heap → Prop} (hn : args.length ≤ L17.n) (h : awpC Tryd.prog L17.body (retQ L17.results S) (fun ch H => S (.panicked ch) H) (env0 args) H) : ACalls Tryd.prog 17 args.toArray H S := acalls mixed Tryd.func17 low17 hn h
/-- (*satchel/satchellaw18.pair).tells -/
def L18 : LFn :=
 ⟨27, [.t 2],
 (.seq
 (.reg [⟨0, .q .mv, [.const (.bool false)], (some 2), none, [], false⟩])
 (.seq
 (.reg [⟨0, .q .mv, [.tmp 0], (some 3), none, [], false⟩,
   ⟨1, .q .nilc, [.tmp 3], (some 4), none, [], false⟩,
   ⟨2, .q (.fad 0), [.tmp 4], (some 5), none, [], false⟩,
   ⟨3, .q .ld, [.tmp 5], (some 6), none, [], false⟩,
   ⟨5, .q .mv, [.tmp 0], (some 8), none, [], false⟩,
   ⟨6, .q .nilc, [.tmp 8], (some 9), none, [], false⟩,
   ⟨7, .q (.fad 1), [.tmp 9], (some 10), none, [], false⟩,
   ⟨8, .q .ld, [.tmp 10], (some 11), none, [], true⟩,
   ⟨4, .e (.call 11), [.tmp 6], (some 7), none, [8], false⟩,
   ⟨9, .e (.call 28), [.tmp 11], (some 12), none, [], false⟩,
   ⟨10, .q (.eqa [(0, .i), (1, .i), (2, .i)] false), [.tmp 7, .tmp 12], (some 13), none, [], false⟩,
   ⟨11, .q .mv, [.tmp 13], (some 14), none, [], false⟩,
   ⟨12, .q .mv, [.tmp 0], (some 15), (some (14, true)), [], false⟩,
   ⟨13, .q .nilc, [.tmp 15], (some 16), (some (14, true)), [], false⟩,
   ⟨14, .q (.fad 0), [.tmp 16], (some 17), (some (14, true)), [], false⟩,
   ⟨15, .q .ld, [.tmp 17], (some 18), (some (14, true)), [], false⟩,
   ⟨17, .q .mv, [.tmp 0], (some 20), (some (14, true)), [], false⟩,
   ⟨18, .q .nilc, [.tmp 20], (some 21), (some (14, true)), [], false⟩,
   ⟨19, .q (.fad 1), [.tmp 21], (some 22), (some (14, true)), [], false⟩,
   ⟨20, .q .ld, [.tmp 22], (some 23), (some (14, true)), [], true⟩,
   ⟨16, .e (.call 12), [.tmp 18], (some 19), (some (14, true)), [20], false⟩,
   ⟨21, .e (.call 29), [.tmp 23], (some 24), (some (14, true)), [], false⟩,
   ⟨22, .q (.eqa [(0, .i), (1, .i), (2, .i)] false), [.tmp 19, .tmp 24], (some 25), (some (14, true)), [], false⟩,
   ⟨23, .q .pick, [.tmp 14, .tmp 25, .const (.bool false)], (some 26), none, [], false⟩,
   ⟨24, .q .mv, [.tmp 26], (some 2), none, [], false⟩])
 .ret))⟩
theorem low18 : lowFn Tryd.prog Tryd.f18 = some L18 := by kernel_rfl
theorem call18 {args : List Value} {H : Heap} {S : Ending → Heap → Prop} (hn : args.length ≤ L18.n) (h : awpC Tryd.prog L18.body (retQ L18.results S) (fun ch H => S (.panicked ch) H) (env0 args) H) : ACalls Tryd.prog 18 args.toArray H S := acalls mixed Tryd.func18 low18 hn h
end Go.Proofs.YtmgpfdfbcnlocaaDoor.Low
