/-
  Functions in short (out of the program's form in Lean, by the kernel).
-/
import Derived.Test.YtigignkgblaoaaaDoorSepCode
import Derived.Test.YtigignkgblaoaaaDoorProg
namespace Go.Proofs.YtigignkgblaoaaaDoor.Low
open Go Go.Proofs.YtigignkgblaoaaaDoor.Sep
theorem mixed : Tryd.prog.follows .mixedOrders = true := by kernel_rfl
/-- satchel/field.Check -/
def L29 : LFn :=
 ⟨29, [.t 2],
 (.seq
 (.reg [⟨0, .e (.box 33), [.tmp 0], (some 1), none, [], false⟩,
   ⟨1, .q .mv, [.const (.bool false)], (some 2), none, [], false⟩])
 (.seq
 (.reg [⟨0, .q (.sla 512 1 true true), [.tmp 1, .const (.int .i64 148), .const (.int .i64 156)], (some 8), none, [], false⟩,
   ⟨1, .e (.call 10), [.tmp 8], (some 9), none, [], false⟩,
   ⟨2, .q .mv, [.tmp 9], (some 7), none, [], false⟩,
   ⟨3, .q (.ext 0), [.tmp 7], (some 10), none, [], false⟩,
   ⟨4, .q (.ext 1), [.tmp 7], (some 11), none, [], false⟩,
   ⟨5, .q .mv, [.tmp 10], (some 3), none, [], false⟩,
   ⟨6, .q .mv, [.tmp 11], (some 4), none, [], false⟩])
 (.seq
 (.reg [⟨0, .q (.ldn 512), [.tmp 1], (some 13), none, [], false⟩,
   ⟨1, .e (.call 27), [.tmp 13], (some 14), none, [], false⟩,
   ⟨2, .q .mv, [.tmp 14], (some 12), none, [], false⟩,
   ⟨3, .q (.ext 0), [.tmp 12], (some 15), none, [], false⟩,
   ⟨4, .q (.ext 1), [.tmp 12], (some 16), none, [], false⟩,
   ⟨5, .q .mv, [.tmp 15], (some 5), none, [], false⟩,
   ⟨6, .q .mv, [.tmp 16], (some 6), none, [], false⟩])
 (.seq
 (.reg [⟨0, .q .mv, [.tmp 4], (some 17), none, [], false⟩,
   ⟨1, .q (.bin .eql), [.tmp 17, .const (.int .i64 0)], (some 18), none, [], false⟩,
   ⟨2, .q .mv, [.tmp 18], (some 19), none, [], false⟩,
   ⟨3, .q .mv, [.tmp 3], (some 20), (some (19, true)), [], false⟩,
   ⟨4, .q .mv, [.tmp 5], (some 21), (some (19, true)), [], false⟩,
   ⟨5, .q (.bin .eql), [.tmp 20, .tmp 21], (some 22), (some (19, true)), [], false⟩,
   ⟨6, .q .mv, [.tmp 22], (some 23), (some (19, true)), [], false⟩,
   ⟨7, .q .mv, [.tmp 3], (some 24), (some (23, false)), [], false⟩,
   ⟨8, .q .mv, [.tmp 6], (some 25), (some (23, false)), [], false⟩,
   ⟨9, .q (.bin .eql), [.tmp 24, .tmp 25], (some 26), (some (23, false)), [], false⟩,
   ⟨10, .q .pick, [.tmp 23, .const (.bool true), .tmp 26], (some 27), (some (19, true)), [], false⟩,
   ⟨11, .q .pick, [.tmp 19, .tmp 27, .const (.bool false)], (some 28), none, [], false⟩,
   ⟨12, .q .mv, [.tmp 28], (some 2), none, [], false⟩])
 .ret))))⟩
theorem low29 : lowFn Tryd.prog Tryd.f29 = some L29 := by kernel_rfl
theorem call29 {args : List Value} {H : Heap} {S : Ending → Heap → Prop} (hn : args.length ≤ L29.n) (h : awpC Tryd.prog L29.body (retQ L29.results S) (fun ch H => S (.panicked ch) H) (env0 args) H) : ACalls Tryd.prog 29 args.toArray H S := acalls mixed Tryd.func29 low29 hn h
/-- satchel/satchelref12.Check -/
def L30 : LFn :=
 ⟨29, [.t 2],
 (.seq
 (.reg [⟨0, .e (.box 33), [.tmp 0], (some 1), none, [], false⟩,
   ⟨1, .q .mv, [.const (.bool false)], (some 2), none, [], false⟩])
 (.seq
 (.reg [⟨0, .q (.ldn 512), [.tmp 1], (some 8), none, [], false⟩,
   ⟨1, .e (.call 28), [.tmp 8], (some 9), none, [], false⟩,
   ⟨2, .q .mv, [.tmp 9], (some 7), none, [], false⟩,
   ⟨3, .q (.ext 0), [.tmp 7], (some 10), none, [], false⟩,
   ⟨4, .q (.ext 1), [.tmp 7], (some 11), none, [], false⟩,
   ⟨5, .q .mv, [.tmp 10], (some 3), none, [], false⟩,
   ⟨6, .q .mv, [.tmp 11], (some 4), none, [], false⟩])
 (.seq
 (.reg [⟨0, .q (.sla 512 1 true true), [.tmp 1, .const (.int .i64 148), .const (.int .i64 156)], (some 13), none, [], false⟩,
   ⟨1, .e (.call 11), [.tmp 13], (some 14), none, [], false⟩,
   ⟨2, .q .mv, [.tmp 14], (some 12), none, [], false⟩,
   ⟨3, .q (.ext 0), [.tmp 12], (some 15), none, [], false⟩,
   ⟨4, .q (.ext 1), [.tmp 12], (some 16), none, [], false⟩,
   ⟨5, .q .mv, [.tmp 15], (some 5), none, [], false⟩,
   ⟨6, .q .mv, [.tmp 16], (some 6), none, [], false⟩])
 (.seq
 (.reg [⟨0, .q .mv, [.tmp 6], (some 17), none, [], false⟩,
   ⟨1, .q (.bin .eql), [.tmp 17, .const (.int .i64 0)], (some 18), none, [], false⟩,
   ⟨2, .q .mv, [.tmp 18], (some 19), none, [], false⟩,
   ⟨3, .q .mv, [.tmp 5], (some 20), (some (19, true)), [], false⟩,
   ⟨4, .q .mv, [.tmp 3], (some 21), (some (19, true)), [], false⟩,
   ⟨5, .q (.bin .eql), [.tmp 20, .tmp 21], (some 22), (some (19, true)), [], false⟩,
   ⟨6, .q .mv, [.tmp 22], (some 23), (some (19, true)), [], false⟩,
   ⟨7, .q .mv, [.tmp 5], (some 24), (some (23, false)), [], false⟩,
   ⟨8, .q .mv, [.tmp 4], (some 25), (some (23, false)), [], false⟩,
   ⟨9, .q (.bin .eql), [.tmp 24, .tmp 25], (some 26), (some (23, false)), [], false⟩,
   ⟨10, .q .pick, [.tmp 23, .const (.bool true), .tmp 26], (some 27), (some (19, true)), [], false⟩,
   ⟨11, .q .pick, [.tmp 19, .tmp 27, .const (.bool false)], (some 28), none, [], false⟩,
   ⟨12, .q .mv, [.tmp 28], (some 2), none, [], false⟩])
 .ret))))⟩
theorem low30 : lowFn Tryd.prog Tryd.f30 = some L30 := by kernel_rfl
theorem call30 {args : List Value} {H : Heap} {S : Ending → Heap → Prop} (hn : args.length ≤ L30.n) (h : awpC Tryd.prog L30.body (retQ L30.results S) (fun ch H => S (.panicked ch) H) (env0 args) H) : ACalls Tryd.prog 30 args.toArray H S := acalls mixed Tryd.func30 low30 hn h
/-- satchel/field.PutSum -/
def L31 : LFn :=
 ⟨23, [.c 2 (some 512)],
 (.seq
 (.reg [⟨0, .e (.box 33), [.tmp 0], (some 1), none, [], false⟩,
   ⟨1, .e (.new (Array.replicate 512 (.int .u8 0)) 33), [], (some 2), none, [], false⟩])
 (.seq
 (.reg [⟨0, .q (.ldn 512), [.tmp 1], (some 8), none, [], false⟩,
   ⟨1, .e (.call 27), [.tmp 8], (some 9), none, [], false⟩,
   ⟨2, .q .mv, [.tmp 9], (some 7), none, [], false⟩,
   ⟨3, .q (.ext 0), [.tmp 7], (some 10), none, [], false⟩,
   ⟨4, .q (.ext 1), [.tmp 7], (some 11), none, [], false⟩,
   ⟨5, .q .mv, [.tmp 10], (some 3), none, [], false⟩,
   ⟨6, .q .mv, [.tmp 11], (some 4), none, [], false⟩])
 (.seq
 (.reg [⟨0, .q .mv, [.tmp 3], (some 13), none, [], false⟩,
   ⟨1, .e (.call 18), [.tmp 13, .const (.int .i64 7)], (some 14), none, [], false⟩,
   ⟨2, .q .mv, [.tmp 14], (some 12), none, [], false⟩,
   ⟨3, .q (.ext 0), [.tmp 12], (some 15), none, [], false⟩,
   ⟨4, .q (.ext 1), [.tmp 12], (some 16), none, [], false⟩,
   ⟨5, .q .mv, [.tmp 15], (some 5), none, [], false⟩,
   ⟨6, .q .mv, [.tmp 16], (some 6), none, [], false⟩])
 (.seq
 (.reg [⟨0, .q (.sla 512 1 true true), [.tmp 1, .const (.int .i64 148), .const (.int .i64 156)], (some 17), none, [], false⟩,
   ⟨1, .q .mv, [.tmp 5], (some 18), none, [], false⟩,
   ⟨2, .e (.lits 5 #[(.int .u8 0)] 1 [(0, 1)]), [.const (.int .u8 32)], (some 19), none, [], false⟩,
   ⟨3, .e (.app 5 1 1 #[(.int .u8 0)]), [.tmp 18, .tmp 19], (some 20), none, [], false⟩,
   ⟨4, .e (.copy 1), [.tmp 17, .tmp 20], (some 21), none, [], false⟩])
 (.seq
 (.reg [⟨0, .q (.ldn 512), [.tmp 1], (some 22), none, [], false⟩,
   ⟨1, .e (.st 512), [.tmp 2, .tmp 22], none, none, [], false⟩])
 .ret)))))⟩
theorem low31 : lowFn Tryd.prog Tryd.f31 = some L31 := by kernel_rfl
theorem call31 {args : List Value} {H : Heap} {S : Ending → Heap → Prop} (hn : args.length ≤ L31.n) (h : awpC Tryd.prog L31.body (retQ L31.results S) (fun ch H => S (.panicked ch) H) (env0 args) H) : ACalls Tryd.prog 31 args.toArray H S := acalls mixed Tryd.func31 low31 hn h
/-- satchel/satchelref12.PutSum -/
def L32_0 : LCode :=
 (.seq
 (.seq
 (.reg [⟨0, .q .mv, [.tmp 5], (some 11), none, [], false⟩,
   ⟨1, .q (.bin .geq), [.tmp 11, .const (.int .i64 148)], (some 12), none, [], false⟩])
 (.cond (.tmp 12)
  .skip
  (.exit 0)))
 (.seq
 (.block 1
  (.seq
  (.reg [⟨0, .q .mv, [.tmp 5], (some 15), none, [], false⟩,
    ⟨1, .q .mv, [.tmp 3], (some 16), none, [], false⟩,
    ⟨2, .q (.bin .rem), [.tmp 16, .const (.int .i64 8)], (some 17), none, [], false⟩,
    ⟨3, .q (.cvi .u8), [.tmp 17], (some 18), none, [], false⟩,
    ⟨4, .q (.bin .add), [.const (.int .u8 48), .tmp 18], (some 19), none, [], false⟩,
    ⟨5, .q (.iada 512 1), [.tmp 1, .tmp 15], (some 20), none, [], false⟩,
    ⟨6, .e (.st 1), [.tmp 20, .tmp 19], none, none, [], false⟩])
  (.reg [⟨0, .q .mv, [.tmp 3], (some 21), none, [], false⟩,
    ⟨1, .q (.bin .quo), [.tmp 21, .const (.int .i64 8)], (some 22), none, [], false⟩,
    ⟨2, .q .mv, [.tmp 22], (some 3), none, [], false⟩])))
 (.reg [⟨0, .q .mv, [.tmp 5], (some 13), none, [], false⟩,
   ⟨1, .q (.bin .sub), [.tmp 13, .const (.int .i64 1)], (some 14), none, [], false⟩,
   ⟨2, .q .mv, [.tmp 14], (some 5), none, [], false⟩])))
def L32 : LFn :=
 ⟨26, [.c 2 (some 512)],
 (.seq
 (.reg [⟨0, .e (.box 33), [.tmp 0], (some 1), none, [], false⟩,
   ⟨1, .e (.new (Array.replicate 512 (.int .u8 0)) 33), [], (some 2), none, [], false⟩])
 (.seq
 (.reg [⟨0, .q (.ldn 512), [.tmp 1], (some 7), none, [], false⟩,
   ⟨1, .e (.call 28), [.tmp 7], (some 8), none, [], false⟩,
   ⟨2, .q .mv, [.tmp 8], (some 6), none, [], false⟩,
   ⟨3, .q (.ext 0), [.tmp 6], (some 9), none, [], false⟩,
   ⟨4, .q (.ext 1), [.tmp 6], (some 10), none, [], false⟩,
   ⟨5, .q .mv, [.tmp 9], (some 3), none, [], false⟩,
   ⟨6, .q .mv, [.tmp 10], (some 4), none, [], false⟩])
 (.seq
 (.seq
 (.reg [⟨0, .q .mv, [.const (.int .i64 153)], (some 5), none, [], false⟩])
 (.block 0
  (.loop L32_0)))
 (.seq
 (.reg [⟨0, .q (.iada 512 1), [.tmp 1, .const (.int .i64 154)], (some 23), none, [], false⟩,
   ⟨1, .e (.st 1), [.tmp 23, .const (.int .u8 0)], none, none, [], false⟩])
 (.seq
 (.reg [⟨0, .q (.iada 512 1), [.tmp 1, .const (.int .i64 155)], (some 24), none, [], false⟩,
   ⟨1, .e (.st 1), [.tmp 24, .const (.int .u8 32)], none, none, [], false⟩])
 (.seq
 (.reg [⟨0, .q (.ldn 512), [.tmp 1], (some 25), none, [], false⟩,
   ⟨1, .e (.st 512), [.tmp 2, .tmp 25], none, none, [], false⟩])
 .ret))))))⟩
theorem low32 : lowFn Tryd.prog Tryd.f32 = some L32 := by kernel_rfl
theorem call32 {args : List Value} {H : Heap} {S : Ending → Heap → Prop} (hn : args.length ≤ L32.n) (h : awpC Tryd.prog L32.body (retQ L32.results S) (fun ch H => S (.panicked ch) H) (env0 args) H) : ACalls Tryd.prog 32 args.toArray H S := acalls mixed Tryd.func32 low32 hn h
end Go.Proofs.YtigignkgblaoaaaDoor.Low
