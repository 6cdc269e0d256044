/-
  Functions in short (out of the program's form in Lean, by the kernel).
-/
import Derived.Test.YtphojebganlbnaaDoorSepDfr
import Derived.Test.YtphojebganlbnaaDoorProg
namespace Go.Proofs.YtphojebganlbnaaDoor.Low
open Go Go.Proofs.YtphojebganlbnaaDoor.Sep
theorem mixed : Tryd.prog.follows .mixedOrders = true := by kernel_rfl
/-- satchel/bits.turned -/
def L70_0 : LCode :=
 (.seq
 (.reg [⟨0, .q (.bin .lss), [.tmp 8, .tmp 7], (some 9), none, [], false⟩])
 (.seq
 (.cond (.tmp 9)
  .skip
  (.exit 0))
 (.seq
 (.block 1
  (.seq
  (.reg [⟨0, .q .mv, [.tmp 8], (some 10), none, [], false⟩,
    ⟨1, .q .mv, [.tmp 10], (some 6), none, [], false⟩])
  (.reg [⟨0, .q .mv, [.tmp 5], (some 11), none, [], false⟩,
    ⟨1, .q .mv, [.tmp 0], (some 12), none, [], false⟩,
    ⟨2, .q .mv, [.tmp 6], (some 13), none, [], false⟩,
    ⟨3, .q (.bin .shr), [.tmp 12, .tmp 13], (some 14), none, [], false⟩,
    ⟨4, .q (.bin .and), [.tmp 14, .const (.int .i64 1)], (some 15), none, [], false⟩,
    ⟨5, .q (.cvi .u32), [.tmp 15], (some 16), none, [], false⟩,
    ⟨6, .q .mv, [.tmp 1], (some 17), none, [], false⟩,
    ⟨7, .q (.bin .sub), [.tmp 17, .const (.int .i64 1)], (some 18), none, [], false⟩,
    ⟨8, .q .mv, [.tmp 6], (some 19), none, [], false⟩,
    ⟨9, .q (.bin .sub), [.tmp 18, .tmp 19], (some 20), none, [], false⟩,
    ⟨10, .q (.bin .shl), [.tmp 16, .tmp 20], (some 21), none, [], false⟩,
    ⟨11, .q (.bin .or), [.tmp 11, .tmp 21], (some 22), none, [], false⟩,
    ⟨12, .q .mv, [.tmp 22], (some 5), none, [], false⟩])))
 (.reg [⟨0, .q (.bin .add), [.tmp 8, .const (.int .i64 1)], (some 23), none, [], false⟩,
   ⟨1, .q .mv, [.tmp 23], (some 8), none, [], false⟩]))))
def L70 : LFn :=
 ⟨25, [.t 4],
 (.seq
 (.reg [⟨0, .q .mv, [.const (.int .u32 0)], (some 4), none, [], false⟩])
 (.seq
 (.reg [⟨0, .q .mv, [.const (.int .u32 0)], (some 5), none, [], false⟩])
 (.seq
 (.seq
 (.reg [⟨0, .q .mv, [.tmp 1], (some 7), none, [], false⟩,
   ⟨1, .q .mv, [.const (.int .i64 0)], (some 8), none, [], false⟩])
 (.block 0
  (.loop L70_0)))
 (.seq
 (.reg [⟨0, .q .mv, [.tmp 5], (some 24), none, [], false⟩,
   ⟨1, .q .mv, [.tmp 24], (some 4), none, [], false⟩])
 .ret))))⟩
theorem low70 : lowFn Tryd.prog Tryd.f70 = some L70 := by kernel_rfl
theorem call70 {args : List Value} {H : Heap} {S : Ending → Heap → Prop} (hn : args.length ≤ L70.n) (h : awpC Tryd.prog L70.body (retQ L70.results S) (fun ch H => S (.panicked ch) H) (env0 args) H) : ACalls Tryd.prog 70 args.toArray H S := acalls mixed Tryd.func70 low70 hn h
/-- satchel/satchelref05.Code -/
def L76_0 : LCode :=
 (.seq
 (.seq
 (.reg [⟨0, .q .mv, [.tmp 4], (some 14), none, [], false⟩,
   ⟨1, .q .mv, [.tmp 0], (some 15), none, [], false⟩,
   ⟨2, .q .len, [.tmp 15], (some 16), none, [], false⟩,
   ⟨3, .q (.bin .lss), [.tmp 14, .tmp 16], (some 17), none, [], false⟩])
 (.cond (.tmp 17)
  .skip
  (.exit 0)))
 (.seq
 (.block 1
  (.seq
  (.reg [⟨0, .q .mv, [.tmp 0], (some 20), none, [], false⟩,
    ⟨1, .q .mv, [.tmp 4], (some 21), none, [], false⟩,
    ⟨2, .q (.iad 1), [.tmp 20, .tmp 21], (some 22), none, [], false⟩,
    ⟨3, .q .ld, [.tmp 22], (some 23), none, [], false⟩,
    ⟨4, .q (.bin .lss), [.tmp 23, .const (.int .i64 0)], (some 24), none, [], false⟩,
    ⟨5, .q .mv, [.tmp 24], (some 25), none, [], false⟩,
    ⟨6, .q .mv, [.tmp 0], (some 26), (some (25, false)), [], false⟩,
    ⟨7, .q .mv, [.tmp 4], (some 27), (some (25, false)), [], false⟩,
    ⟨8, .q (.iad 1), [.tmp 26, .tmp 27], (some 28), (some (25, false)), [], false⟩,
    ⟨9, .q .ld, [.tmp 28], (some 29), (some (25, false)), [], false⟩,
    ⟨10, .q (.bin .gtr), [.tmp 29, .const (.int .i64 15)], (some 30), (some (25, false)), [], false⟩,
    ⟨11, .q .pick, [.tmp 25, .const (.bool true), .tmp 30], (some 31), none, [], false⟩])
  (.cond (.tmp 31)
   (.seq
   (.reg [⟨0, .q .mv, [.const (.bool false)], (some 2), none, [], false⟩,
     ⟨1, .q .mv, [.const (.bool false)], (some 3), none, [], false⟩])
   .ret)
   .skip)))
 (.reg [⟨0, .q .mv, [.tmp 4], (some 18), none, [], false⟩,
   ⟨1, .q (.bin .add), [.tmp 18, .const (.int .i64 1)], (some 19), none, [], false⟩,
   ⟨2, .q .mv, [.tmp 19], (some 4), none, [], false⟩])))
def L76 : LFn :=
 ⟨42, [.t 2, .t 3],
 (.seq
 (.reg [⟨0, .q .mv, [.const (.bool false)], (some 2), none, [], false⟩,
   ⟨1, .q .mv, [.const (.bool false)], (some 3), none, [], false⟩])
 (.seq
 (.seq
 (.reg [⟨0, .q .mv, [.tmp 0], (some 6), none, [], false⟩,
   ⟨1, .q .len, [.tmp 6], (some 7), none, [], false⟩,
   ⟨2, .q (.bin .lss), [.tmp 7, .const (.int .i64 1)], (some 8), none, [], false⟩,
   ⟨3, .q .mv, [.tmp 8], (some 9), none, [], false⟩,
   ⟨4, .q .mv, [.tmp 0], (some 10), (some (9, false)), [], false⟩,
   ⟨5, .q .len, [.tmp 10], (some 11), (some (9, false)), [], false⟩,
   ⟨6, .q (.bin .gtr), [.tmp 11, .const (.int .i64 320)], (some 12), (some (9, false)), [], false⟩,
   ⟨7, .q .pick, [.tmp 9, .const (.bool true), .tmp 12], (some 13), none, [], false⟩])
 (.cond (.tmp 13)
  (.seq
  (.reg [⟨0, .q .mv, [.const (.bool false)], (some 2), none, [], false⟩,
    ⟨1, .q .mv, [.const (.bool false)], (some 3), none, [], false⟩])
  .ret)
  .skip))
 (.seq
 (.seq
 (.reg [⟨0, .q .mv, [.const (.int .i64 0)], (some 4), none, [], false⟩])
 (.block 0
  (.loop L76_0)))
 (.seq
 (.reg [⟨0, .q .mv, [.tmp 0], (some 32), none, [], false⟩,
   ⟨1, .e (.call 83), [.tmp 32], (some 33), none, [], false⟩,
   ⟨2, .q .mv, [.tmp 33], (some 5), none, [], false⟩])
 (.seq
 (.reg [⟨0, .q .mv, [.tmp 5], (some 34), none, [], false⟩,
   ⟨1, .q (.bin .gtr), [.tmp 34, .const (.int .i64 0)], (some 35), none, [], false⟩,
   ⟨2, .q .mv, [.tmp 35], (some 36), none, [], false⟩,
   ⟨3, .q .mv, [.tmp 5], (some 37), (some (36, true)), [], false⟩,
   ⟨4, .q (.bin .leq), [.tmp 37, .const (.int .i64 32768)], (some 38), (some (36, true)), [], false⟩,
   ⟨5, .q .pick, [.tmp 36, .tmp 38, .const (.bool false)], (some 39), none, [], false⟩,
   ⟨6, .q .mv, [.tmp 5], (some 40), none, [], false⟩,
   ⟨7, .q (.bin .eql), [.tmp 40, .const (.int .i64 32768)], (some 41), none, [], false⟩,
   ⟨8, .q .mv, [.tmp 39], (some 2), none, [], false⟩,
   ⟨9, .q .mv, [.tmp 41], (some 3), none, [], false⟩])
 .ret)))))⟩
theorem low76 : lowFn Tryd.prog Tryd.f76 = some L76 := by kernel_rfl
theorem call76 {args : List Value} {H : Heap} {S : Ending → Heap → Prop} (hn : args.length ≤ L76.n) (h : awpC Tryd.prog L76.body (retQ L76.results S) (fun ch H => S (.panicked ch) H) (env0 args) H) : ACalls Tryd.prog 76 args.toArray H S := acalls mixed Tryd.func76 low76 hn h
/-- satchel/satchelref05.sum -/
def L83_0 : LCode :=
 (.reg [⟨0, .q .mv, [.tmp 4], (some 9), none, [], false⟩,
   ⟨1, .q (.bin .add), [.tmp 9, .const (.int .i64 1)], (some 10), none, [], false⟩,
   ⟨2, .q .mv, [.tmp 10], (some 4), none, [], false⟩])
def L83_1 : LCode :=
 (.seq
 (.seq
 (.reg [⟨0, .q .mv, [.tmp 4], (some 5), none, [], false⟩,
   ⟨1, .q .mv, [.tmp 0], (some 6), none, [], false⟩,
   ⟨2, .q .len, [.tmp 6], (some 7), none, [], false⟩,
   ⟨3, .q (.bin .lss), [.tmp 5, .tmp 7], (some 8), none, [], false⟩])
 (.cond (.tmp 8)
  .skip
  (.exit 0)))
 (.seq
 (.block 1
  (.seq
  (.reg [⟨0, .q .mv, [.tmp 0], (some 11), none, [], false⟩,
    ⟨1, .q .mv, [.tmp 4], (some 12), none, [], false⟩,
    ⟨2, .q (.iad 1), [.tmp 11, .tmp 12], (some 13), none, [], false⟩,
    ⟨3, .q .ld, [.tmp 13], (some 14), none, [], false⟩,
    ⟨4, .q (.bin .gtr), [.tmp 14, .const (.int .i64 0)], (some 15), none, [], false⟩])
  (.cond (.tmp 15)
   (.reg [⟨0, .q .mv, [.tmp 3], (some 16), none, [], false⟩,
     ⟨1, .q .mv, [.tmp 0], (some 17), none, [], false⟩,
     ⟨2, .q .mv, [.tmp 4], (some 18), none, [], false⟩,
     ⟨3, .q (.iad 1), [.tmp 17, .tmp 18], (some 19), none, [], false⟩,
     ⟨4, .q .ld, [.tmp 19], (some 20), none, [], false⟩,
     ⟨5, .q (.bin .sub), [.const (.int .i64 15), .tmp 20], (some 21), none, [], false⟩,
     ⟨6, .q (.cvi .u64), [.tmp 21], (some 22), none, [], false⟩,
     ⟨7, .q (.bin .shl), [.const (.int .i64 1), .tmp 22], (some 23), none, [], false⟩,
     ⟨8, .q (.bin .add), [.tmp 16, .tmp 23], (some 24), none, [], false⟩,
     ⟨9, .q .mv, [.tmp 24], (some 3), none, [], false⟩])
   .skip)))
 L83_0))
def L83 : LFn :=
 ⟨26, [.t 2],
 (.seq
 (.reg [⟨0, .q .mv, [.const (.int .i64 0)], (some 2), none, [], false⟩])
 (.seq
 (.reg [⟨0, .q .mv, [.const (.int .i64 0)], (some 3), none, [], false⟩])
 (.seq
 (.seq
 (.reg [⟨0, .q .mv, [.const (.int .i64 0)], (some 4), none, [], false⟩])
 (.block 0
  (.loop L83_1)))
 (.seq
 (.reg [⟨0, .q .mv, [.tmp 3], (some 25), none, [], false⟩,
   ⟨1, .q .mv, [.tmp 25], (some 2), none, [], false⟩])
 .ret))))⟩
theorem low83 : lowFn Tryd.prog Tryd.f83 = some L83 := by kernel_rfl
theorem call83 {args : List Value} {H : Heap} {S : Ending → Heap → Prop} (hn : args.length ≤ L83.n) (h : awpC Tryd.prog L83.body (retQ L83.results S) (fun ch H => S (.panicked ch) H) (env0 args) H) : ACalls Tryd.prog 83 args.toArray H S := acalls mixed Tryd.func83 low83 hn h
/-- satchel/bits.NewCode -/
def L55_0 : LCode :=
 (.reg [⟨0, .q (.bin .add), [.tmp 27, .const (.int .i64 1)], (some 54), none, [], false⟩,
   ⟨1, .q .mv, [.tmp 54], (some 27), none, [], false⟩])
def L55_1 : LCode :=
 (.seq
 (.reg [⟨0, .q (.bin .lss), [.tmp 27, .tmp 26], (some 28), none, [], false⟩])
 (.seq
 (.cond (.tmp 28)
  .skip
  (.exit 0))
 (.seq
 (.block 1
  (.seq
  (.reg [⟨0, .q (.iad 1), [.tmp 25, .tmp 27], (some 29), none, [], false⟩,
    ⟨1, .q .ld, [.tmp 29], (some 30), none, [], false⟩,
    ⟨2, .q .mv, [.tmp 30], (some 7), none, [], false⟩])
  (.seq
  (.seq
  (.reg [⟨0, .q .mv, [.tmp 7], (some 31), none, [], false⟩,
    ⟨1, .q (.bin .lss), [.tmp 31, .const (.int .i64 0)], (some 32), none, [], false⟩,
    ⟨2, .q .mv, [.tmp 32], (some 33), none, [], false⟩,
    ⟨3, .q .mv, [.tmp 7], (some 34), (some (33, false)), [], false⟩,
    ⟨4, .q (.bin .gtr), [.tmp 34, .const (.int .i64 15)], (some 35), (some (33, false)), [], false⟩,
    ⟨5, .q .pick, [.tmp 33, .const (.bool true), .tmp 35], (some 36), none, [], false⟩])
  (.cond (.tmp 36)
   (.seq
   (.reg [⟨0, .q .mv, [.const (.pointer none)], (some 2), none, [], false⟩,
     ⟨1, .q .mv, [.const (.int .i64 51)], (some 3), none, [], false⟩])
   .ret)
   .skip))
  (.seq
  (.reg [⟨0, .q .mv, [.tmp 7], (some 37), none, [], false⟩,
    ⟨1, .q (.bin .gtr), [.tmp 37, .const (.int .i64 0)], (some 38), none, [], false⟩])
  (.cond (.tmp 38)
   (.seq
   (.reg [⟨0, .q .mv, [.tmp 4], (some 39), none, [], false⟩,
     ⟨1, .q .mv, [.tmp 7], (some 40), none, [], false⟩,
     ⟨2, .q .nilc, [.tmp 39], (some 41), none, [], false⟩,
     ⟨3, .q (.fad 2), [.tmp 41], (some 42), none, [], false⟩,
     ⟨4, .q (.iada 16 1), [.tmp 42, .tmp 40], (some 43), none, [], false⟩,
     ⟨5, .q .ld, [.tmp 43], (some 44), none, [], false⟩,
     ⟨6, .q (.bin .add), [.tmp 44, .const (.int .i64 1)], (some 45), none, [], false⟩,
     ⟨7, .q .nilc, [.tmp 39], (some 46), none, [], false⟩,
     ⟨8, .q (.fad 2), [.tmp 46], (some 47), none, [], false⟩,
     ⟨9, .q (.iada 16 1), [.tmp 47, .tmp 40], (some 48), none, [], false⟩,
     ⟨10, .e (.st 1), [.tmp 48, .tmp 45], none, none, [], false⟩])
   (.reg [⟨0, .q .mv, [.tmp 5], (some 49), none, [], false⟩,
     ⟨1, .q .mv, [.tmp 7], (some 50), none, [], false⟩,
     ⟨2, .q (.bin .sub), [.const (.int .i64 15), .tmp 50], (some 51), none, [], false⟩,
     ⟨3, .q (.bin .shl), [.const (.int .i64 1), .tmp 51], (some 52), none, [], false⟩,
     ⟨4, .q (.bin .add), [.tmp 49, .tmp 52], (some 53), none, [], false⟩,
     ⟨5, .q .mv, [.tmp 53], (some 5), none, [], false⟩]))
   .skip)))))
 L55_0)))
def L55_2 : LCode :=
 (.seq
 (.reg [⟨0, .q (.bin .lss), [.tmp 80, .tmp 79], (some 81), none, [], false⟩])
 (.seq
 (.cond (.tmp 81)
  .skip
  (.exit 4))
 (.seq
 (.block 5
  (.seq
  (.reg [⟨0, .q .mv, [.tmp 80], (some 82), none, [], false⟩,
    ⟨1, .q (.iad 1), [.tmp 78, .tmp 80], (some 83), none, [], false⟩,
    ⟨2, .q .ld, [.tmp 83], (some 84), none, [], false⟩,
    ⟨3, .q .mv, [.tmp 82], (some 10), none, [], false⟩,
    ⟨4, .q .mv, [.tmp 84], (some 11), none, [], false⟩])
  (.seq
  (.seq
  (.reg [⟨0, .q .mv, [.tmp 11], (some 85), none, [], false⟩,
    ⟨1, .q .mv, [.tmp 9], (some 86), none, [], false⟩,
    ⟨2, .q (.bin .neq), [.tmp 85, .tmp 86], (some 87), none, [], false⟩])
  (.cond (.tmp 87)
   (.exit 5)
   .skip))
  (.seq
  (.reg [⟨0, .q .mv, [.tmp 4], (some 88), none, [], false⟩,
    ⟨1, .q .nilc, [.tmp 88], (some 89), none, [], false⟩,
    ⟨2, .q (.fad 0), [.tmp 89], (some 90), none, [], false⟩,
    ⟨3, .q .ld, [.tmp 90], (some 91), none, [], true⟩,
    ⟨4, .q .mv, [.tmp 10], (some 92), none, [], false⟩,
    ⟨5, .q .mv, [.tmp 8], (some 93), none, [], false⟩,
    ⟨6, .q .mv, [.tmp 9], (some 94), none, [], false⟩,
    ⟨8, .q .mv, [.tmp 9], (some 96), none, [], false⟩,
    ⟨7, .e (.call 70), [.tmp 93, .tmp 94], (some 95), none, [3], false⟩,
    ⟨9, .q (.build #[(.int .u32 0), (.int .i64 0)] [(0, 1), (1, 1)]), [.tmp 95, .tmp 96], (some 97), none, [], false⟩,
    ⟨10, .q (.iad 2), [.tmp 91, .tmp 92], (some 98), none, [], false⟩,
    ⟨11, .e (.st 2), [.tmp 98, .tmp 97], none, none, [], false⟩])
  (.seq
  (.reg [⟨0, .q .mv, [.tmp 4], (some 99), none, [], false⟩,
    ⟨1, .q .mv, [.tmp 4], (some 100), none, [], false⟩,
    ⟨2, .q .nilc, [.tmp 100], (some 101), none, [], false⟩,
    ⟨3, .q (.fad 1), [.tmp 101], (some 102), none, [], false⟩,
    ⟨4, .q .ld, [.tmp 102], (some 103), none, [], false⟩,
    ⟨5, .q .mv, [.tmp 10], (some 104), none, [], false⟩,
    ⟨6, .e (.lits 3 #[(.int .i64 0)] 1 [(0, 1)]), [.tmp 104], (some 105), none, [], false⟩,
    ⟨7, .e (.app 3 1 8 #[(.int .i64 0)]), [.tmp 103, .tmp 105], (some 106), none, [], false⟩,
    ⟨8, .q .nilc, [.tmp 99], (some 107), none, [], false⟩,
    ⟨9, .q (.fad 1), [.tmp 107], (some 108), none, [], false⟩,
    ⟨10, .e (.st 1), [.tmp 108, .tmp 106], none, none, [], false⟩])
  (.seq
  (.reg [⟨0, .q .mv, [.tmp 4], (some 109), none, [], false⟩,
    ⟨1, .q .mv, [.tmp 9], (some 110), none, [], false⟩,
    ⟨2, .q .nilc, [.tmp 109], (some 111), none, [], false⟩,
    ⟨3, .q (.fad 35), [.tmp 111], (some 112), none, [], false⟩,
    ⟨4, .e (.st 1), [.tmp 112, .tmp 110], none, none, [], false⟩])
  (.reg [⟨0, .q .mv, [.tmp 8], (some 113), none, [], false⟩,
    ⟨1, .q (.bin .add), [.tmp 113, .const (.int .i64 1)], (some 114), none, [], false⟩,
    ⟨2, .q .mv, [.tmp 114], (some 8), none, [], false⟩])))))))
 (.reg [⟨0, .q (.bin .add), [.tmp 80, .const (.int .i64 1)], (some 115), none, [], false⟩,
   ⟨1, .q .mv, [.tmp 115], (some 80), none, [], false⟩]))))
def L55_3 : LCode :=
 (.reg [⟨0, .q .mv, [.tmp 9], (some 68), none, [], false⟩,
   ⟨1, .q (.bin .add), [.tmp 68, .const (.int .i64 1)], (some 69), none, [], false⟩,
   ⟨2, .q .mv, [.tmp 69], (some 9), none, [], false⟩])
def L55_4 : LCode :=
 (.seq
 (.seq
 (.reg [⟨0, .q .mv, [.tmp 9], (some 66), none, [], false⟩,
   ⟨1, .q (.bin .leq), [.tmp 66, .const (.int .i64 15)], (some 67), none, [], false⟩])
 (.cond (.tmp 67)
  .skip
  (.exit 2)))
 (.seq
 (.block 3
  (.seq
  (.reg [⟨0, .q .mv, [.tmp 8], (some 70), none, [], false⟩,
    ⟨1, .q (.bin .mul), [.tmp 70, .const (.int .i64 2)], (some 71), none, [], false⟩,
    ⟨2, .q .mv, [.tmp 71], (some 8), none, [], false⟩])
  (.seq
  (.reg [⟨0, .q .mv, [.tmp 4], (some 72), none, [], false⟩,
    ⟨1, .q .mv, [.tmp 9], (some 73), none, [], false⟩,
    ⟨2, .q .mv, [.tmp 8], (some 74), none, [], false⟩,
    ⟨3, .q .nilc, [.tmp 72], (some 75), none, [], false⟩,
    ⟨4, .q (.fad 18), [.tmp 75], (some 76), none, [], false⟩,
    ⟨5, .q (.iada 16 1), [.tmp 76, .tmp 73], (some 77), none, [], false⟩,
    ⟨6, .e (.st 1), [.tmp 77, .tmp 74], none, none, [], false⟩])
  (.seq
  (.reg [⟨0, .q .mv, [.tmp 0], (some 78), none, [], false⟩,
    ⟨1, .q .len, [.tmp 78], (some 79), none, [], false⟩,
    ⟨2, .q .mv, [.const (.int .i64 0)], (some 80), none, [], false⟩])
  (.block 4
   (.loop L55_2))))))
 L55_3))
def L55_5 : LCode :=
 (.seq
 (.reg [⟨0, .q .mv, [.tmp 4], (some 116), none, [], false⟩,
   ⟨1, .q .mv, [.tmp 116], (some 2), none, [], false⟩,
   ⟨2, .q .mv, [.const (.int .i64 0)], (some 3), none, [], false⟩])
 .ret)
def L55 : LFn :=
 ⟨117, [.t 2, .t 3],
 (.seq
 (.reg [⟨0, .q .mv, [.const (.pointer none)], (some 2), none, [], false⟩,
   ⟨1, .q .mv, [.const (.int .i64 0)], (some 3), none, [], false⟩])
 (.seq
 (.seq
 (.reg [⟨0, .q .mv, [.tmp 0], (some 12), none, [], false⟩,
   ⟨1, .q .len, [.tmp 12], (some 13), none, [], false⟩,
   ⟨2, .q (.bin .lss), [.tmp 13, .const (.int .i64 1)], (some 14), none, [], false⟩,
   ⟨3, .q .mv, [.tmp 14], (some 15), none, [], false⟩,
   ⟨4, .q .mv, [.tmp 0], (some 16), (some (15, false)), [], false⟩,
   ⟨5, .q .len, [.tmp 16], (some 17), (some (15, false)), [], false⟩,
   ⟨6, .q (.bin .gtr), [.tmp 17, .const (.int .i64 320)], (some 18), (some (15, false)), [], false⟩,
   ⟨7, .q .pick, [.tmp 15, .const (.bool true), .tmp 18], (some 19), none, [], false⟩])
 (.cond (.tmp 19)
  (.seq
  (.reg [⟨0, .q .mv, [.const (.pointer none)], (some 2), none, [], false⟩,
    ⟨1, .q .mv, [.const (.int .i64 51)], (some 3), none, [], false⟩])
  .ret)
  .skip))
 (.seq
 (.reg [⟨0, .q .mv, [.tmp 0], (some 20), none, [], false⟩,
   ⟨1, .q .len, [.tmp 20], (some 21), none, [], false⟩,
   ⟨2, .e (.mks 112 2 16 #[(.int .u32 0), (.int .i64 0)]), [.tmp 21, .tmp 21], (some 22), none, [], false⟩,
   ⟨3, .q (.build #[(.slice none 0 0), (.slice none 0 0), (.int .i64 0), (.int .i64 0), (.int .i64 0), (.int .i64 0), (.int .i64 0), (.int .i64 0), (.int .i64 0), (.int .i64 0), (.int .i64 0), (.int .i64 0), (.int .i64 0), (.int .i64 0), (.int .i64 0), (.int .i64 0), (.int .i64 0), (.int .i64 0), (.int .i64 0), (.int .i64 0), (.int .i64 0), (.int .i64 0), (.int .i64 0), (.int .i64 0), (.int .i64 0), (.int .i64 0), (.int .i64 0), (.int .i64 0), (.int .i64 0), (.int .i64 0), (.int .i64 0), (.int .i64 0), (.int .i64 0), (.int .i64 0), (.bool false), (.int .i64 0)] [(0, 1)]), [.tmp 22], (some 23), none, [], false⟩,
   ⟨4, .e (.box 109), [.tmp 23], (some 24), none, [], false⟩,
   ⟨5, .q .mv, [.tmp 24], (some 4), none, [], false⟩])
 (.seq
 (.reg [⟨0, .q .mv, [.const (.int .i64 0)], (some 5), none, [], false⟩])
 (.seq
 (.seq
 (.reg [⟨0, .q .mv, [.tmp 0], (some 25), none, [], false⟩,
   ⟨1, .q .len, [.tmp 25], (some 26), none, [], false⟩,
   ⟨2, .q .mv, [.const (.int .i64 0)], (some 27), none, [], false⟩])
 (.block 0
  (.loop L55_1)))
 (.seq
 (.seq
 (.reg [⟨0, .q .mv, [.tmp 5], (some 55), none, [], false⟩,
   ⟨1, .q (.bin .eql), [.tmp 55, .const (.int .i64 0)], (some 56), none, [], false⟩,
   ⟨2, .q .mv, [.tmp 56], (some 57), none, [], false⟩,
   ⟨3, .q .mv, [.tmp 5], (some 58), (some (57, false)), [], false⟩,
   ⟨4, .q (.bin .gtr), [.tmp 58, .const (.int .i64 32768)], (some 59), (some (57, false)), [], false⟩,
   ⟨5, .q .pick, [.tmp 57, .const (.bool true), .tmp 59], (some 60), none, [], false⟩])
 (.cond (.tmp 60)
  (.seq
  (.reg [⟨0, .q .mv, [.const (.pointer none)], (some 2), none, [], false⟩,
    ⟨1, .q .mv, [.const (.int .i64 51)], (some 3), none, [], false⟩])
  .ret)
  .skip))
 (.seq
 (.reg [⟨0, .q .mv, [.tmp 4], (some 61), none, [], false⟩,
   ⟨1, .q .mv, [.tmp 5], (some 62), none, [], false⟩,
   ⟨2, .q (.bin .eql), [.tmp 62, .const (.int .i64 32768)], (some 63), none, [], false⟩,
   ⟨3, .q .nilc, [.tmp 61], (some 64), none, [], false⟩,
   ⟨4, .q (.fad 34), [.tmp 64], (some 65), none, [], false⟩,
   ⟨5, .e (.st 1), [.tmp 65, .tmp 63], none, none, [], false⟩])
 (.seq
 (.reg [⟨0, .q .mv, [.const (.int .i64 0)], (some 8), none, [], false⟩])
 (.seq
 (.seq
 (.reg [⟨0, .q .mv, [.const (.int .i64 1)], (some 9), none, [], false⟩])
 (.block 2
  (.loop L55_4)))
 L55_5)))))))))⟩
theorem low55 : lowFn Tryd.prog Tryd.f55 = some L55 := by kernel_rfl
theorem call55 {args : List Value} {H : Heap} {S : Ending → Heap → Prop} (hn : args.length ≤ L55.n) (h : awpC Tryd.prog L55.body (retQ L55.results S) (fun ch H => S (.panicked ch) H) (env0 args) H) : ACalls Tryd.prog 55 args.toArray H S := acalls mixed Tryd.func55 low55 hn h
/-- (*satchel/bits.Code).Whole -/
def L56 : LFn :=
 ⟨7, [.t 2],
 (.seq
 (.reg [⟨0, .q .mv, [.const (.bool false)], (some 2), none, [], false⟩])
 (.seq
 (.reg [⟨0, .q .mv, [.tmp 0], (some 3), none, [], false⟩,
   ⟨1, .q .nilc, [.tmp 3], (some 4), none, [], false⟩,
   ⟨2, .q (.fad 34), [.tmp 4], (some 5), none, [], false⟩,
   ⟨3, .q .ld, [.tmp 5], (some 6), none, [], false⟩,
   ⟨4, .q .mv, [.tmp 6], (some 2), none, [], false⟩])
 .ret))⟩
theorem low56 : lowFn Tryd.prog Tryd.f56 = some L56 := by kernel_rfl
theorem call56 {args : List Value} {H : Heap} {S : Ending → Heap → Prop} (hn : args.length ≤ L56.n) (h : awpC Tryd.prog L56.body (retQ L56.results S) (fun ch H => S (.panicked ch) H) (env0 args) H) : ACalls Tryd.prog 56 args.toArray H S := acalls mixed Tryd.func56 low56 hn h
/-- (*satchel/bits.Code).Read -/
def L67_0 : LCode :=
 (.seq
 (.seq
 (.reg [⟨0, .q .mv, [.tmp 8], (some 10), none, [], false⟩,
   ⟨1, .q .mv, [.tmp 0], (some 11), none, [], false⟩,
   ⟨2, .q .nilc, [.tmp 11], (some 12), none, [], false⟩,
   ⟨3, .q (.fad 35), [.tmp 12], (some 13), none, [], false⟩,
   ⟨4, .q .ld, [.tmp 13], (some 14), none, [], false⟩,
   ⟨5, .q (.bin .leq), [.tmp 10, .tmp 14], (some 15), none, [], false⟩])
 (.cond (.tmp 15)
  .skip
  (.exit 0)))
 (.seq
 (.block 1
  (.seq
  (.seq
  (.reg [⟨0, .q .mv, [.tmp 1], (some 18), none, [], false⟩,
    ⟨1, .e (.call 65), [.tmp 18], (some 19), none, [], false⟩,
    ⟨2, .q .mv, [.tmp 8], (some 20), none, [], false⟩,
    ⟨3, .q (.bin .lss), [.tmp 19, .tmp 20], (some 21), none, [], false⟩])
  (.cond (.tmp 21)
   (.seq
   (.seq
   (.reg [⟨0, .q .mv, [.tmp 0], (some 22), none, [], false⟩,
     ⟨1, .q .mv, [.tmp 6], (some 23), none, [], false⟩,
     ⟨2, .q .mv, [.tmp 8], (some 24), none, [], false⟩,
     ⟨3, .q (.bin .sub), [.tmp 24, .const (.int .i64 1)], (some 25), none, [], false⟩,
     ⟨4, .e (.call 77), [.tmp 22, .tmp 23, .tmp 25], (some 26), none, [], false⟩])
   (.cond (.tmp 26)
    (.seq
    (.reg [⟨0, .q .mv, [.const (.int .i64 0)], (some 4), none, [], false⟩,
      ⟨1, .q .mv, [.const (.int .i64 50)], (some 5), none, [], false⟩])
    .ret)
    .skip))
   (.seq
   (.reg [⟨0, .q .mv, [.const (.int .i64 0)], (some 4), none, [], false⟩,
     ⟨1, .q .mv, [.const (.int .i64 52)], (some 5), none, [], false⟩])
   .ret))
   .skip))
  (.seq
  (.reg [⟨0, .q .mv, [.tmp 6], (some 27), none, [], false⟩,
    ⟨1, .q (.bin .mul), [.const (.int .i64 2), .tmp 27], (some 28), none, [], false⟩,
    ⟨2, .q .mv, [.tmp 1], (some 29), none, [], false⟩,
    ⟨3, .q .mv, [.tmp 8], (some 30), none, [], false⟩,
    ⟨4, .q (.bin .sub), [.tmp 30, .const (.int .i64 1)], (some 31), none, [], false⟩,
    ⟨5, .e (.call 66), [.tmp 29, .tmp 31], (some 32), none, [], false⟩,
    ⟨6, .q (.cvi .i64), [.tmp 32], (some 33), none, [], false⟩,
    ⟨7, .q (.bin .add), [.tmp 28, .tmp 33], (some 34), none, [], false⟩,
    ⟨8, .q .mv, [.tmp 34], (some 6), none, [], false⟩])
  (.seq
  (.seq
  (.reg [⟨0, .q .mv, [.tmp 6], (some 35), none, [], false⟩,
    ⟨1, .q .mv, [.tmp 0], (some 36), none, [], false⟩,
    ⟨2, .q .mv, [.tmp 8], (some 37), none, [], false⟩,
    ⟨3, .q .nilc, [.tmp 36], (some 38), none, [], false⟩,
    ⟨4, .q (.fad 18), [.tmp 38], (some 39), none, [], false⟩,
    ⟨5, .q (.iada 16 1), [.tmp 39, .tmp 37], (some 40), none, [], false⟩,
    ⟨6, .q .ld, [.tmp 40], (some 41), none, [], false⟩,
    ⟨7, .q (.bin .sub), [.tmp 35, .tmp 41], (some 42), none, [], false⟩,
    ⟨8, .q .mv, [.tmp 42], (some 9), none, [], false⟩])
  (.seq
  (.reg [⟨0, .q .mv, [.tmp 9], (some 43), none, [], false⟩,
    ⟨1, .q (.bin .geq), [.tmp 43, .const (.int .i64 0)], (some 44), none, [], false⟩,
    ⟨2, .q .mv, [.tmp 44], (some 45), none, [], false⟩,
    ⟨3, .q .mv, [.tmp 9], (some 46), (some (45, true)), [], false⟩,
    ⟨4, .q .mv, [.tmp 0], (some 47), (some (45, true)), [], false⟩,
    ⟨5, .q .mv, [.tmp 8], (some 48), (some (45, true)), [], false⟩,
    ⟨6, .q .nilc, [.tmp 47], (some 49), (some (45, true)), [], false⟩,
    ⟨7, .q (.fad 2), [.tmp 49], (some 50), (some (45, true)), [], false⟩,
    ⟨8, .q (.iada 16 1), [.tmp 50, .tmp 48], (some 51), (some (45, true)), [], false⟩,
    ⟨9, .q .ld, [.tmp 51], (some 52), (some (45, true)), [], false⟩,
    ⟨10, .q (.bin .lss), [.tmp 46, .tmp 52], (some 53), (some (45, true)), [], false⟩,
    ⟨11, .q .pick, [.tmp 45, .tmp 53, .const (.bool false)], (some 54), none, [], false⟩])
  (.cond (.tmp 54)
   (.seq
   (.reg [⟨0, .q .mv, [.tmp 1], (some 55), none, [], false⟩,
     ⟨1, .q .nilc, [.tmp 55], (some 56), none, [], false⟩,
     ⟨2, .q (.fad 1), [.tmp 56], (some 57), none, [], false⟩,
     ⟨3, .q .ld, [.tmp 57], (some 58), none, [], false⟩,
     ⟨4, .q .mv, [.tmp 8], (some 59), none, [], false⟩,
     ⟨5, .q (.bin .add), [.tmp 58, .tmp 59], (some 60), none, [], false⟩,
     ⟨6, .q .nilc, [.tmp 55], (some 61), none, [], false⟩,
     ⟨7, .q (.fad 1), [.tmp 61], (some 62), none, [], false⟩,
     ⟨8, .e (.st 1), [.tmp 62, .tmp 60], none, none, [], false⟩])
   (.seq
   (.reg [⟨0, .q .mv, [.tmp 0], (some 63), none, [], false⟩,
     ⟨1, .q .nilc, [.tmp 63], (some 64), none, [], false⟩,
     ⟨2, .q (.fad 1), [.tmp 64], (some 65), none, [], false⟩,
     ⟨3, .q .ld, [.tmp 65], (some 66), none, [], false⟩,
     ⟨4, .q .mv, [.tmp 7], (some 67), none, [], false⟩,
     ⟨5, .q .mv, [.tmp 9], (some 68), none, [], false⟩,
     ⟨6, .q (.bin .add), [.tmp 67, .tmp 68], (some 69), none, [], false⟩,
     ⟨7, .q (.iad 1), [.tmp 66, .tmp 69], (some 70), none, [], false⟩,
     ⟨8, .q .ld, [.tmp 70], (some 71), none, [], false⟩,
     ⟨9, .q .mv, [.tmp 71], (some 4), none, [], false⟩,
     ⟨10, .q .mv, [.const (.int .i64 0)], (some 5), none, [], false⟩])
   .ret))
   .skip)))
  (.reg [⟨0, .q .mv, [.tmp 7], (some 72), none, [], false⟩,
    ⟨1, .q .mv, [.tmp 0], (some 73), none, [], false⟩,
    ⟨2, .q .mv, [.tmp 8], (some 74), none, [], false⟩,
    ⟨3, .q .nilc, [.tmp 73], (some 75), none, [], false⟩,
    ⟨4, .q (.fad 2), [.tmp 75], (some 76), none, [], false⟩,
    ⟨5, .q (.iada 16 1), [.tmp 76, .tmp 74], (some 77), none, [], false⟩,
    ⟨6, .q .ld, [.tmp 77], (some 78), none, [], false⟩,
    ⟨7, .q (.bin .add), [.tmp 72, .tmp 78], (some 79), none, [], false⟩,
    ⟨8, .q .mv, [.tmp 79], (some 7), none, [], false⟩])))))
 (.reg [⟨0, .q .mv, [.tmp 8], (some 16), none, [], false⟩,
   ⟨1, .q (.bin .add), [.tmp 16, .const (.int .i64 1)], (some 17), none, [], false⟩,
   ⟨2, .q .mv, [.tmp 17], (some 8), none, [], false⟩])))
def L67 : LFn :=
 ⟨80, [.t 4, .t 5],
 (.seq
 (.reg [⟨0, .q .mv, [.const (.int .i64 0)], (some 4), none, [], false⟩,
   ⟨1, .q .mv, [.const (.int .i64 0)], (some 5), none, [], false⟩])
 (.seq
 (.reg [⟨0, .q .mv, [.const (.int .i64 0)], (some 6), none, [], false⟩,
   ⟨1, .q .mv, [.const (.int .i64 0)], (some 7), none, [], false⟩])
 (.seq
 (.seq
 (.reg [⟨0, .q .mv, [.const (.int .i64 1)], (some 8), none, [], false⟩])
 (.block 0
  (.loop L67_0)))
 (.seq
 (.reg [⟨0, .q .mv, [.const (.int .i64 0)], (some 4), none, [], false⟩,
   ⟨1, .q .mv, [.const (.int .i64 52)], (some 5), none, [], false⟩])
 .ret))))⟩
theorem low67 : lowFn Tryd.prog Tryd.f67 = some L67 := by kernel_rfl
theorem call67 {args : List Value} {H : Heap} {S : Ending → Heap → Prop} (hn : args.length ≤ L67.n) (h : awpC Tryd.prog L67.body (retQ L67.results S) (fun ch H => S (.panicked ch) H) (env0 args) H) : ACalls Tryd.prog 67 args.toArray H S := acalls mixed Tryd.func67 low67 hn h
/-- (*satchel/bits.Code).begins -/
def L77_0 : LCode :=
 (.seq
 (.seq
 (.reg [⟨0, .q .mv, [.tmp 7], (some 12), none, [], false⟩,
   ⟨1, .q .mv, [.tmp 0], (some 13), none, [], false⟩,
   ⟨2, .q .nilc, [.tmp 13], (some 14), none, [], false⟩,
   ⟨3, .q (.fad 35), [.tmp 14], (some 15), none, [], false⟩,
   ⟨4, .q .ld, [.tmp 15], (some 16), none, [], false⟩,
   ⟨5, .q (.bin .leq), [.tmp 12, .tmp 16], (some 17), none, [], false⟩])
 (.cond (.tmp 17)
  .skip
  (.exit 0)))
 (.seq
 (.block 1
  (.seq
  (.reg [⟨0, .q .mv, [.tmp 1], (some 20), none, [], false⟩,
    ⟨1, .q .mv, [.tmp 7], (some 21), none, [], false⟩,
    ⟨2, .q .mv, [.tmp 2], (some 22), none, [], false⟩,
    ⟨3, .q (.bin .sub), [.tmp 21, .tmp 22], (some 23), none, [], false⟩,
    ⟨4, .q (.bin .shl), [.tmp 20, .tmp 23], (some 24), none, [], false⟩,
    ⟨5, .q .mv, [.tmp 24], (some 8), none, [], false⟩])
  (.seq
  (.reg [⟨0, .q .mv, [.tmp 8], (some 25), none, [], false⟩,
    ⟨1, .q .mv, [.tmp 7], (some 26), none, [], false⟩,
    ⟨2, .q .mv, [.tmp 2], (some 27), none, [], false⟩,
    ⟨3, .q (.bin .sub), [.tmp 26, .tmp 27], (some 28), none, [], false⟩,
    ⟨4, .q (.bin .shl), [.const (.int .i64 1), .tmp 28], (some 29), none, [], false⟩,
    ⟨5, .q (.bin .add), [.tmp 25, .tmp 29], (some 30), none, [], false⟩,
    ⟨6, .q .mv, [.tmp 30], (some 9), none, [], false⟩])
  (.seq
  (.reg [⟨0, .q .mv, [.tmp 0], (some 31), none, [], false⟩,
    ⟨1, .q .mv, [.tmp 7], (some 32), none, [], false⟩,
    ⟨2, .q .nilc, [.tmp 31], (some 33), none, [], false⟩,
    ⟨3, .q (.fad 2), [.tmp 33], (some 34), none, [], false⟩,
    ⟨4, .q (.iada 16 1), [.tmp 34, .tmp 32], (some 35), none, [], false⟩,
    ⟨5, .q .ld, [.tmp 35], (some 36), none, [], false⟩,
    ⟨6, .q (.bin .gtr), [.tmp 36, .const (.int .i64 0)], (some 37), none, [], false⟩,
    ⟨7, .q .mv, [.tmp 37], (some 38), none, [], false⟩,
    ⟨8, .q .mv, [.tmp 0], (some 39), (some (38, true)), [], false⟩,
    ⟨9, .q .mv, [.tmp 7], (some 40), (some (38, true)), [], false⟩,
    ⟨10, .q .nilc, [.tmp 39], (some 41), (some (38, true)), [], false⟩,
    ⟨11, .q (.fad 18), [.tmp 41], (some 42), (some (38, true)), [], false⟩,
    ⟨12, .q (.iada 16 1), [.tmp 42, .tmp 40], (some 43), (some (38, true)), [], false⟩,
    ⟨13, .q .ld, [.tmp 43], (some 44), (some (38, true)), [], false⟩,
    ⟨14, .q .mv, [.tmp 9], (some 45), (some (38, true)), [], false⟩,
    ⟨15, .q (.bin .lss), [.tmp 44, .tmp 45], (some 46), (some (38, true)), [], false⟩,
    ⟨16, .q .pick, [.tmp 38, .tmp 46, .const (.bool false)], (some 47), none, [], false⟩,
    ⟨17, .q .mv, [.tmp 47], (some 48), none, [], false⟩,
    ⟨18, .q .mv, [.tmp 0], (some 49), (some (48, true)), [], false⟩,
    ⟨19, .q .mv, [.tmp 7], (some 50), (some (48, true)), [], false⟩,
    ⟨20, .q .nilc, [.tmp 49], (some 51), (some (48, true)), [], false⟩,
    ⟨21, .q (.fad 18), [.tmp 51], (some 52), (some (48, true)), [], false⟩,
    ⟨22, .q (.iada 16 1), [.tmp 52, .tmp 50], (some 53), (some (48, true)), [], false⟩,
    ⟨23, .q .ld, [.tmp 53], (some 54), (some (48, true)), [], false⟩,
    ⟨24, .q .mv, [.tmp 0], (some 55), (some (48, true)), [], false⟩,
    ⟨25, .q .mv, [.tmp 7], (some 56), (some (48, true)), [], false⟩,
    ⟨26, .q .nilc, [.tmp 55], (some 57), (some (48, true)), [], false⟩,
    ⟨27, .q (.fad 2), [.tmp 57], (some 58), (some (48, true)), [], false⟩,
    ⟨28, .q (.iada 16 1), [.tmp 58, .tmp 56], (some 59), (some (48, true)), [], false⟩,
    ⟨29, .q .ld, [.tmp 59], (some 60), (some (48, true)), [], false⟩,
    ⟨30, .q (.bin .add), [.tmp 54, .tmp 60], (some 61), (some (48, true)), [], false⟩,
    ⟨31, .q .mv, [.tmp 8], (some 62), (some (48, true)), [], false⟩,
    ⟨32, .q (.bin .gtr), [.tmp 61, .tmp 62], (some 63), (some (48, true)), [], false⟩,
    ⟨33, .q .pick, [.tmp 48, .tmp 63, .const (.bool false)], (some 64), none, [], false⟩])
  (.cond (.tmp 64)
   (.seq
   (.reg [⟨0, .q .mv, [.const (.bool true)], (some 6), none, [], false⟩])
   .ret)
   .skip)))))
 (.reg [⟨0, .q .mv, [.tmp 7], (some 18), none, [], false⟩,
   ⟨1, .q (.bin .add), [.tmp 18, .const (.int .i64 1)], (some 19), none, [], false⟩,
   ⟨2, .q .mv, [.tmp 19], (some 7), none, [], false⟩])))
def L77 : LFn :=
 ⟨65, [.t 6],
 (.seq
 (.reg [⟨0, .q .mv, [.const (.bool false)], (some 6), none, [], false⟩])
 (.seq
 (.seq
 (.reg [⟨0, .q .mv, [.tmp 2], (some 10), none, [], false⟩,
   ⟨1, .q (.bin .add), [.tmp 10, .const (.int .i64 1)], (some 11), none, [], false⟩,
   ⟨2, .q .mv, [.tmp 11], (some 7), none, [], false⟩])
 (.block 0
  (.loop L77_0)))
 (.seq
 (.reg [⟨0, .q .mv, [.const (.bool false)], (some 6), none, [], false⟩])
 .ret)))⟩
theorem low77 : lowFn Tryd.prog Tryd.f77 = some L77 := by kernel_rfl
theorem call77 {args : List Value} {H : Heap} {S : Ending → Heap → Prop} (hn : args.length ≤ L77.n) (h : awpC Tryd.prog L77.body (retQ L77.results S) (fun ch H => S (.panicked ch) H) (env0 args) H) : ACalls Tryd.prog 77 args.toArray H S := acalls mixed Tryd.func77 low77 hn h
/-- satchel/satchelref05.Bits -/
def L40_0 : LCode :=
 (.seq
 (.seq
 (.reg [⟨0, .q .mv, [.tmp 6], (some 18), none, [], false⟩,
   ⟨1, .q (.bin .lss), [.tmp 18, .const (.int .i64 8)], (some 19), none, [], false⟩])
 (.cond (.tmp 19)
  .skip
  (.exit 2)))
 (.seq
 (.block 3
  (.seq
  (.reg [⟨0, .q .mv, [.tmp 3], (some 22), none, [], false⟩,
    ⟨1, .q .mv, [.tmp 5], (some 23), none, [], false⟩,
    ⟨2, .q (.bin .rem), [.tmp 23, .const (.int .u8 2)], (some 24), none, [], false⟩,
    ⟨3, .e (.lits 5 #[(.int .u8 0)] 1 [(0, 1)]), [.tmp 24], (some 25), none, [], false⟩,
    ⟨4, .e (.app 5 1 1 #[(.int .u8 0)]), [.tmp 22, .tmp 25], (some 26), none, [], false⟩,
    ⟨5, .q .mv, [.tmp 26], (some 3), none, [], false⟩])
  (.reg [⟨0, .q .mv, [.tmp 5], (some 27), none, [], false⟩,
    ⟨1, .q (.bin .quo), [.tmp 27, .const (.int .u8 2)], (some 28), none, [], false⟩,
    ⟨2, .q .mv, [.tmp 28], (some 5), none, [], false⟩])))
 (.reg [⟨0, .q .mv, [.tmp 6], (some 20), none, [], false⟩,
   ⟨1, .q (.bin .add), [.tmp 20, .const (.int .i64 1)], (some 21), none, [], false⟩,
   ⟨2, .q .mv, [.tmp 21], (some 6), none, [], false⟩])))
def L40_1 : LCode :=
 (.seq
 (.seq
 (.reg [⟨0, .q .mv, [.tmp 4], (some 8), none, [], false⟩,
   ⟨1, .q .mv, [.tmp 0], (some 9), none, [], false⟩,
   ⟨2, .q .len, [.tmp 9], (some 10), none, [], false⟩,
   ⟨3, .q (.bin .lss), [.tmp 8, .tmp 10], (some 11), none, [], false⟩])
 (.cond (.tmp 11)
  .skip
  (.exit 0)))
 (.seq
 (.block 1
  (.seq
  (.reg [⟨0, .q .mv, [.tmp 0], (some 14), none, [], false⟩,
    ⟨1, .q .mv, [.tmp 4], (some 15), none, [], false⟩,
    ⟨2, .q (.iad 1), [.tmp 14, .tmp 15], (some 16), none, [], false⟩,
    ⟨3, .q .ld, [.tmp 16], (some 17), none, [], false⟩,
    ⟨4, .q .mv, [.tmp 17], (some 5), none, [], false⟩])
  (.seq
  (.reg [⟨0, .q .mv, [.const (.int .i64 0)], (some 6), none, [], false⟩])
  (.block 2
   (.loop L40_0)))))
 (.reg [⟨0, .q .mv, [.tmp 4], (some 12), none, [], false⟩,
   ⟨1, .q (.bin .add), [.tmp 12, .const (.int .i64 1)], (some 13), none, [], false⟩,
   ⟨2, .q .mv, [.tmp 13], (some 4), none, [], false⟩])))
def L40_2 : LCode :=
 (.seq
 (.reg [⟨0, .q .mv, [.tmp 3], (some 29), none, [], false⟩,
   ⟨1, .q .mv, [.tmp 29], (some 2), none, [], false⟩])
 .ret)
def L40 : LFn :=
 ⟨30, [.t 2],
 (.seq
 (.reg [⟨0, .q .mv, [.const (.slice none 0 0)], (some 2), none, [], false⟩])
 (.seq
 (.reg [⟨0, .e (.lits 5 #[] 0 []), [], (some 7), none, [], false⟩,
   ⟨1, .q .mv, [.tmp 7], (some 3), none, [], false⟩])
 (.seq
 (.seq
 (.reg [⟨0, .q .mv, [.const (.int .i64 0)], (some 4), none, [], false⟩])
 (.block 0
  (.loop L40_1)))
 L40_2)))⟩
theorem low40 : lowFn Tryd.prog Tryd.f40 = some L40 := by kernel_rfl
theorem call40 {args : List Value} {H : Heap} {S : Ending → Heap → Prop} (hn : args.length ≤ L40.n) (h : awpC Tryd.prog L40.body (retQ L40.results S) (fun ch H => S (.panicked ch) H) (env0 args) H) : ACalls Tryd.prog 40 args.toArray H S := acalls mixed Tryd.func40 low40 hn h
/-- satchel/satchelref05.Words -/
def L81_0 : LCode :=
 (.seq
 (.seq
 (.reg [⟨0, .q .mv, [.tmp 9], (some 39), none, [], false⟩,
   ⟨1, .q (.bin .geq), [.tmp 39, .const (.int .i64 0)], (some 40), none, [], false⟩])
 (.cond (.tmp 40)
  .skip
  (.exit 4)))
 (.seq
 (.block 5
  (.reg [⟨0, .q .mv, [.tmp 8], (some 43), none, [], false⟩,
    ⟨1, .q .mv, [.tmp 4], (some 44), none, [], false⟩,
    ⟨2, .q .mv, [.tmp 9], (some 45), none, [], false⟩,
    ⟨3, .q (.cvi .u64), [.tmp 45], (some 46), none, [], false⟩,
    ⟨4, .q (.bin .shr), [.tmp 44, .tmp 46], (some 47), none, [], false⟩,
    ⟨5, .q (.bin .rem), [.tmp 47, .const (.int .i64 2)], (some 48), none, [], false⟩,
    ⟨6, .q (.cvi .u8), [.tmp 48], (some 49), none, [], false⟩,
    ⟨7, .e (.lits 5 #[(.int .u8 0)] 1 [(0, 1)]), [.tmp 49], (some 50), none, [], false⟩,
    ⟨8, .e (.app 5 1 1 #[(.int .u8 0)]), [.tmp 43, .tmp 50], (some 51), none, [], false⟩,
    ⟨9, .q .mv, [.tmp 51], (some 8), none, [], false⟩]))
 (.reg [⟨0, .q .mv, [.tmp 9], (some 41), none, [], false⟩,
   ⟨1, .q (.bin .sub), [.tmp 41, .const (.int .i64 1)], (some 42), none, [], false⟩,
   ⟨2, .q .mv, [.tmp 42], (some 9), none, [], false⟩])))
def L81_1 : LCode :=
 (.reg [⟨0, .q .mv, [.tmp 7], (some 21), none, [], false⟩,
   ⟨1, .q (.bin .add), [.tmp 21, .const (.int .i64 1)], (some 22), none, [], false⟩,
   ⟨2, .q .mv, [.tmp 22], (some 7), none, [], false⟩])
def L81_2 : LCode :=
 (.seq
 (.seq
 (.reg [⟨0, .q .mv, [.tmp 7], (some 17), none, [], false⟩,
   ⟨1, .q .mv, [.tmp 0], (some 18), none, [], false⟩,
   ⟨2, .q .len, [.tmp 18], (some 19), none, [], false⟩,
   ⟨3, .q (.bin .lss), [.tmp 17, .tmp 19], (some 20), none, [], false⟩])
 (.cond (.tmp 20)
  .skip
  (.exit 2)))
 (.seq
 (.block 3
  (.seq
  (.seq
  (.reg [⟨0, .q .mv, [.tmp 0], (some 23), none, [], false⟩,
    ⟨1, .q .mv, [.tmp 7], (some 24), none, [], false⟩,
    ⟨2, .q (.iad 1), [.tmp 23, .tmp 24], (some 25), none, [], false⟩,
    ⟨3, .q .ld, [.tmp 25], (some 26), none, [], false⟩,
    ⟨4, .q .mv, [.tmp 6], (some 27), none, [], false⟩,
    ⟨5, .q (.bin .neq), [.tmp 26, .tmp 27], (some 28), none, [], false⟩])
  (.cond (.tmp 28)
   (.exit 3)
   .skip))
  (.seq
  (.reg [⟨0, .q .mv, [.tmp 4], (some 29), none, [], false⟩,
    ⟨1, .q .mv, [.tmp 6], (some 30), none, [], false⟩,
    ⟨2, .q .mv, [.tmp 5], (some 31), none, [], false⟩,
    ⟨3, .q (.bin .sub), [.tmp 30, .tmp 31], (some 32), none, [], false⟩,
    ⟨4, .q (.cvi .u64), [.tmp 32], (some 33), none, [], false⟩,
    ⟨5, .q (.bin .shl), [.tmp 29, .tmp 33], (some 34), none, [], false⟩,
    ⟨6, .q .mv, [.tmp 34], (some 4), none, [], false⟩])
  (.seq
  (.reg [⟨0, .q .mv, [.tmp 6], (some 35), none, [], false⟩,
    ⟨1, .q .mv, [.tmp 35], (some 5), none, [], false⟩])
  (.seq
  (.reg [⟨0, .e (.lits 5 #[] 0 []), [], (some 36), none, [], false⟩,
    ⟨1, .q .mv, [.tmp 36], (some 8), none, [], false⟩])
  (.seq
  (.seq
  (.reg [⟨0, .q .mv, [.tmp 6], (some 37), none, [], false⟩,
    ⟨1, .q (.bin .sub), [.tmp 37, .const (.int .i64 1)], (some 38), none, [], false⟩,
    ⟨2, .q .mv, [.tmp 38], (some 9), none, [], false⟩])
  (.block 4
   (.loop L81_0)))
  (.seq
  (.reg [⟨0, .q .mv, [.tmp 3], (some 52), none, [], false⟩,
    ⟨1, .q .mv, [.tmp 7], (some 53), none, [], false⟩,
    ⟨2, .q .mv, [.tmp 8], (some 54), none, [], false⟩,
    ⟨3, .q (.iad 1), [.tmp 52, .tmp 53], (some 55), none, [], false⟩,
    ⟨4, .e (.st 1), [.tmp 55, .tmp 54], none, none, [], false⟩])
  (.reg [⟨0, .q .mv, [.tmp 4], (some 56), none, [], false⟩,
    ⟨1, .q (.bin .add), [.tmp 56, .const (.int .i64 1)], (some 57), none, [], false⟩,
    ⟨2, .q .mv, [.tmp 57], (some 4), none, [], false⟩]))))))))
 L81_1))
def L81_3 : LCode :=
 (.reg [⟨0, .q .mv, [.tmp 6], (some 15), none, [], false⟩,
   ⟨1, .q (.bin .add), [.tmp 15, .const (.int .i64 1)], (some 16), none, [], false⟩,
   ⟨2, .q .mv, [.tmp 16], (some 6), none, [], false⟩])
def L81_4 : LCode :=
 (.seq
 (.seq
 (.reg [⟨0, .q .mv, [.tmp 6], (some 13), none, [], false⟩,
   ⟨1, .q (.bin .leq), [.tmp 13, .const (.int .i64 15)], (some 14), none, [], false⟩])
 (.cond (.tmp 14)
  .skip
  (.exit 0)))
 (.seq
 (.block 1
  (.seq
  (.reg [⟨0, .q .mv, [.const (.int .i64 0)], (some 7), none, [], false⟩])
  (.block 2
   (.loop L81_2))))
 L81_3))
def L81_5 : LCode :=
 (.seq
 (.reg [⟨0, .q .mv, [.tmp 3], (some 58), none, [], false⟩,
   ⟨1, .q .mv, [.tmp 58], (some 2), none, [], false⟩])
 .ret)
def L81 : LFn :=
 ⟨59, [.t 2],
 (.seq
 (.reg [⟨0, .q .mv, [.const (.slice none 0 0)], (some 2), none, [], false⟩])
 (.seq
 (.reg [⟨0, .q .mv, [.tmp 0], (some 10), none, [], false⟩,
   ⟨1, .q .len, [.tmp 10], (some 11), none, [], false⟩,
   ⟨2, .e (.mks 22 1 24 #[(.slice none 0 0)]), [.tmp 11, .tmp 11], (some 12), none, [], false⟩,
   ⟨3, .q .mv, [.tmp 12], (some 3), none, [], false⟩])
 (.seq
 (.reg [⟨0, .q .mv, [.const (.int .i64 0)], (some 4), none, [], false⟩,
   ⟨1, .q .mv, [.const (.int .i64 0)], (some 5), none, [], false⟩])
 (.seq
 (.seq
 (.reg [⟨0, .q .mv, [.const (.int .i64 1)], (some 6), none, [], false⟩])
 (.block 0
  (.loop L81_4)))
 L81_5))))⟩
theorem low81 : lowFn Tryd.prog Tryd.f81 = some L81 := by kernel_rfl
theorem call81 {args : List Value} {H : Heap} {S : Ending → Heap → Prop} (hn : args.length ≤ L81.n) (h : awpC Tryd.prog L81.body (retQ L81.results S) (fun ch H => S (.panicked ch) H) (env0 args) H) : ACalls Tryd.prog 81 args.toArray H S := acalls mixed Tryd.func81 low81 hn h
/-- satchel/satchelref05.starts -/
def L82_0 : LCode :=
 (.seq
 (.seq
 (.reg [⟨0, .q .mv, [.tmp 5], (some 11), none, [], false⟩,
   ⟨1, .q .mv, [.tmp 1], (some 12), none, [], false⟩,
   ⟨2, .q .len, [.tmp 12], (some 13), none, [], false⟩,
   ⟨3, .q (.bin .lss), [.tmp 11, .tmp 13], (some 14), none, [], false⟩])
 (.cond (.tmp 14)
  .skip
  (.exit 0)))
 (.seq
 (.block 1
  (.seq
  (.reg [⟨0, .q .mv, [.tmp 0], (some 17), none, [], false⟩,
    ⟨1, .q .mv, [.tmp 5], (some 18), none, [], false⟩,
    ⟨2, .q (.iad 1), [.tmp 17, .tmp 18], (some 19), none, [], false⟩,
    ⟨3, .q .ld, [.tmp 19], (some 20), none, [], false⟩,
    ⟨4, .q .mv, [.tmp 1], (some 21), none, [], false⟩,
    ⟨5, .q .mv, [.tmp 5], (some 22), none, [], false⟩,
    ⟨6, .q (.iad 1), [.tmp 21, .tmp 22], (some 23), none, [], false⟩,
    ⟨7, .q .ld, [.tmp 23], (some 24), none, [], false⟩,
    ⟨8, .q (.bin .neq), [.tmp 20, .tmp 24], (some 25), none, [], false⟩])
  (.cond (.tmp 25)
   (.seq
   (.reg [⟨0, .q .mv, [.const (.bool false)], (some 4), none, [], false⟩])
   .ret)
   .skip)))
 (.reg [⟨0, .q .mv, [.tmp 5], (some 15), none, [], false⟩,
   ⟨1, .q (.bin .add), [.tmp 15, .const (.int .i64 1)], (some 16), none, [], false⟩,
   ⟨2, .q .mv, [.tmp 16], (some 5), none, [], false⟩])))
def L82 : LFn :=
 ⟨26, [.t 4],
 (.seq
 (.reg [⟨0, .q .mv, [.const (.bool false)], (some 4), none, [], false⟩])
 (.seq
 (.seq
 (.reg [⟨0, .q .mv, [.tmp 1], (some 6), none, [], false⟩,
   ⟨1, .q .len, [.tmp 6], (some 7), none, [], false⟩,
   ⟨2, .q .mv, [.tmp 0], (some 8), none, [], false⟩,
   ⟨3, .q .len, [.tmp 8], (some 9), none, [], false⟩,
   ⟨4, .q (.bin .gtr), [.tmp 7, .tmp 9], (some 10), none, [], false⟩])
 (.cond (.tmp 10)
  (.seq
  (.reg [⟨0, .q .mv, [.const (.bool false)], (some 4), none, [], false⟩])
  .ret)
  .skip))
 (.seq
 (.seq
 (.reg [⟨0, .q .mv, [.const (.int .i64 0)], (some 5), none, [], false⟩])
 (.block 0
  (.loop L82_0)))
 (.seq
 (.reg [⟨0, .q .mv, [.const (.bool true)], (some 4), none, [], false⟩])
 .ret))))⟩
theorem low82 : lowFn Tryd.prog Tryd.f82 = some L82 := by kernel_rfl
theorem call82 {args : List Value} {H : Heap} {S : Ending → Heap → Prop} (hn : args.length ≤ L82.n) (h : awpC Tryd.prog L82.body (retQ L82.results S) (fun ch H => S (.panicked ch) H) (env0 args) H) : ACalls Tryd.prog 82 args.toArray H S := acalls mixed Tryd.func82 low82 hn h
/-- satchel/satchelref05.Read -/
def L73_0 : LCode :=
 (.seq
 (.seq
 (.reg [⟨0, .q .mv, [.tmp 9], (some 12), none, [], false⟩,
   ⟨1, .q .mv, [.tmp 7], (some 13), none, [], false⟩,
   ⟨2, .q .len, [.tmp 13], (some 14), none, [], false⟩,
   ⟨3, .q (.bin .lss), [.tmp 12, .tmp 14], (some 15), none, [], false⟩])
 (.cond (.tmp 15)
  .skip
  (.exit 0)))
 (.seq
 (.block 1
  (.seq
  (.seq
  (.reg [⟨0, .q .mv, [.tmp 7], (some 18), none, [], false⟩,
    ⟨1, .q .mv, [.tmp 9], (some 19), none, [], false⟩,
    ⟨2, .q (.iad 1), [.tmp 18, .tmp 19], (some 20), none, [], false⟩,
    ⟨3, .q .ld, [.tmp 20], (some 21), none, [], false⟩,
    ⟨4, .q .len, [.tmp 21], (some 22), none, [], false⟩,
    ⟨5, .q (.bin .eql), [.tmp 22, .const (.int .i64 0)], (some 23), none, [], false⟩])
  (.cond (.tmp 23)
   (.exit 1)
   .skip))
  (.seq
  (.seq
  (.reg [⟨0, .q .mv, [.tmp 1], (some 24), none, [], false⟩,
    ⟨1, .q .mv, [.tmp 7], (some 25), none, [], false⟩,
    ⟨2, .q .mv, [.tmp 9], (some 26), none, [], false⟩,
    ⟨3, .q (.iad 1), [.tmp 25, .tmp 26], (some 27), none, [], false⟩,
    ⟨4, .q .ld, [.tmp 27], (some 28), none, [], false⟩,
    ⟨5, .e (.call 82), [.tmp 24, .tmp 28], (some 29), none, [], false⟩])
  (.cond (.tmp 29)
   (.seq
   (.reg [⟨0, .q .mv, [.tmp 9], (some 30), none, [], false⟩,
     ⟨1, .q .mv, [.tmp 7], (some 31), none, [], false⟩,
     ⟨2, .q .mv, [.tmp 9], (some 32), none, [], false⟩,
     ⟨3, .q (.iad 1), [.tmp 31, .tmp 32], (some 33), none, [], false⟩,
     ⟨4, .q .ld, [.tmp 33], (some 34), none, [], false⟩,
     ⟨5, .q .len, [.tmp 34], (some 35), none, [], false⟩,
     ⟨6, .q .mv, [.tmp 30], (some 4), none, [], false⟩,
     ⟨7, .q .mv, [.tmp 35], (some 5), none, [], false⟩,
     ⟨8, .q .mv, [.const (.int .i64 0)], (some 6), none, [], false⟩])
   .ret)
   .skip))
  (.reg [⟨0, .q .mv, [.tmp 8], (some 36), none, [], false⟩,
    ⟨1, .q .mv, [.tmp 36], (some 37), none, [], false⟩,
    ⟨2, .q .mv, [.tmp 7], (some 38), (some (37, false)), [], false⟩,
    ⟨3, .q .mv, [.tmp 9], (some 39), (some (37, false)), [], false⟩,
    ⟨4, .q (.iad 1), [.tmp 38, .tmp 39], (some 40), (some (37, false)), [], false⟩,
    ⟨5, .q .ld, [.tmp 40], (some 41), (some (37, false)), [], false⟩,
    ⟨6, .q .mv, [.tmp 1], (some 42), (some (37, false)), [], false⟩,
    ⟨7, .e (.call 82), [.tmp 41, .tmp 42], (some 43), (some (37, false)), [], false⟩,
    ⟨8, .q .pick, [.tmp 37, .const (.bool true), .tmp 43], (some 44), none, [], false⟩,
    ⟨9, .q .mv, [.tmp 44], (some 8), none, [], false⟩]))))
 (.reg [⟨0, .q .mv, [.tmp 9], (some 16), none, [], false⟩,
   ⟨1, .q (.bin .add), [.tmp 16, .const (.int .i64 1)], (some 17), none, [], false⟩,
   ⟨2, .q .mv, [.tmp 17], (some 9), none, [], false⟩])))
def L73_1 : LCode :=
 (.seq
 (.seq
 (.reg [⟨0, .q .mv, [.tmp 8], (some 45), none, [], false⟩])
 (.cond (.tmp 45)
  (.seq
  (.reg [⟨0, .q .mv, [.const (.int .i64 0)], (some 4), none, [], false⟩,
    ⟨1, .q .mv, [.const (.int .i64 0)], (some 5), none, [], false⟩,
    ⟨2, .q .mv, [.const (.int .i64 50)], (some 6), none, [], false⟩])
  .ret)
  .skip))
 (.seq
 (.reg [⟨0, .q .mv, [.const (.int .i64 0)], (some 4), none, [], false⟩,
   ⟨1, .q .mv, [.const (.int .i64 0)], (some 5), none, [], false⟩,
   ⟨2, .q .mv, [.const (.int .i64 52)], (some 6), none, [], false⟩])
 .ret))
def L73 : LFn :=
 ⟨46, [.t 4, .t 5, .t 6],
 (.seq
 (.reg [⟨0, .q .mv, [.const (.int .i64 0)], (some 4), none, [], false⟩,
   ⟨1, .q .mv, [.const (.int .i64 0)], (some 5), none, [], false⟩,
   ⟨2, .q .mv, [.const (.int .i64 0)], (some 6), none, [], false⟩])
 (.seq
 (.reg [⟨0, .q .mv, [.tmp 0], (some 10), none, [], false⟩,
   ⟨1, .e (.call 81), [.tmp 10], (some 11), none, [], false⟩,
   ⟨2, .q .mv, [.tmp 11], (some 7), none, [], false⟩])
 (.seq
 (.reg [⟨0, .q .mv, [.const (.bool false)], (some 8), none, [], false⟩])
 (.seq
 (.seq
 (.reg [⟨0, .q .mv, [.const (.int .i64 0)], (some 9), none, [], false⟩])
 (.block 0
  (.loop L73_0)))
 L73_1))))⟩
theorem low73 : lowFn Tryd.prog Tryd.f73 = some L73 := by kernel_rfl
theorem call73 {args : List Value} {H : Heap} {S : Ending → Heap → Prop} (hn : args.length ≤ L73.n) (h : awpC Tryd.prog L73.body (retQ L73.results S) (fun ch H => S (.panicked ch) H) (env0 args) H) : ACalls Tryd.prog 73 args.toArray H S := acalls mixed Tryd.func73 low73 hn h
end Go.Proofs.YtphojebganlbnaaDoor.Low
