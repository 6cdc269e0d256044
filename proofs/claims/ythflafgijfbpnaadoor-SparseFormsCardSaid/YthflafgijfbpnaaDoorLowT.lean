/-
  Functions in short (out of the program's form in Lean, by the kernel).
-/
import Derived.Test.YthflafgijfbpnaaDoorSepDfr
import Derived.Test.YthflafgijfbpnaaDoorProg
namespace Go.Proofs.YthflafgijfbpnaaDoor.Low
open Go Go.Proofs.YthflafgijfbpnaaDoor.Sep
theorem mixed : Tryd.prog.follows .mixedOrders = true := by kernel_rfl
/-- satchel/sparse.Put$1 -/
def L24 : LFn :=
 ⟨10, [.t 4],
 (.seq
 (.reg [⟨0, .q .mv, [.const (.slice none 0 0)], (some 4), none, [], false⟩])
 (.seq
 (.reg [⟨0, .q .mv, [.tmp 0], (some 5), none, [], false⟩,
   ⟨1, .q .mv, [.tmp 1], (some 6), none, [], false⟩,
   ⟨2, .e (.call 25), [.tmp 5, .tmp 6, .const (.int .i64 10)], (some 7), none, [], false⟩,
   ⟨3, .e (.lits 5 #[(.int .u8 0)] 1 [(0, 1)]), [.const (.int .u8 10)], (some 8), none, [], false⟩,
   ⟨4, .e (.app 5 1 1 #[(.int .u8 0)]), [.tmp 7, .tmp 8], (some 9), none, [], false⟩,
   ⟨5, .q .mv, [.tmp 9], (some 4), none, [], false⟩])
 .ret))⟩
theorem low24 : lowFn Tryd.prog Tryd.f24 = some L24 := by kernel_rfl
theorem call24 {args : List Value} {H : Heap} {S : Ending → Heap → Prop} (hn : args.length ≤ L24.n) (h : awpC Tryd.prog L24.body (retQ L24.results S) (fun ch H => S (.panicked ch) H) (env0 args) H) : ACalls Tryd.prog 24 args.toArray H S := acalls mixed Tryd.func24 low24 hn h
/-- strconv.AppendInt -/
def L25 : LFn :=
 ⟨11, [.t 6],
 (.seq
 (.reg [⟨0, .q .mv, [.const (.slice none 0 0)], (some 6), none, [], false⟩])
 (.seq
 (.reg [⟨0, .q .mv, [.tmp 0], (some 7), none, [], false⟩,
   ⟨1, .q .mv, [.tmp 1], (some 8), none, [], false⟩,
   ⟨2, .q .mv, [.tmp 2], (some 9), none, [], false⟩,
   ⟨3, .e (.call 39), [.tmp 7, .tmp 8, .tmp 9], (some 10), none, [], false⟩,
   ⟨4, .q .mv, [.tmp 10], (some 6), none, [], false⟩])
 .ret))⟩
theorem low25 : lowFn Tryd.prog Tryd.f25 = some L25 := by kernel_rfl
theorem call25 {args : List Value} {H : Heap} {S : Ending → Heap → Prop} (hn : args.length ≤ L25.n) (h : awpC Tryd.prog L25.body (retQ L25.results S) (fun ch H => S (.panicked ch) H) (env0 args) H) : ACalls Tryd.prog 25 args.toArray H S := acalls mixed Tryd.func25 low25 hn h
/-- internal/strconv.AppendInt -/
def L39_0 : LCode :=
 (.seq
 (.reg [⟨0, .q .mv, [.tmp 0], (some 17), none, [], false⟩,
   ⟨1, .q .mv, [.tmp 7], (some 18), none, [], false⟩,
   ⟨2, .q .mv, [.tmp 2], (some 19), none, [], false⟩,
   ⟨3, .e (.call 45), [.tmp 17, .tmp 18, .tmp 19], (some 20), none, [], false⟩,
   ⟨4, .q .mv, [.tmp 20], (some 6), none, [], false⟩])
 .ret)
def L39 : LFn :=
 ⟨21, [.t 6],
 (.seq
 (.reg [⟨0, .q .mv, [.const (.slice none 0 0)], (some 6), none, [], false⟩])
 (.seq
 (.reg [⟨0, .q .mv, [.tmp 1], (some 8), none, [], false⟩,
   ⟨1, .q (.cvi .u64), [.tmp 8], (some 9), none, [], false⟩,
   ⟨2, .q .mv, [.tmp 9], (some 7), none, [], false⟩])
 (.seq
 (.seq
 (.reg [⟨0, .q .mv, [.tmp 1], (some 10), none, [], false⟩,
   ⟨1, .q (.bin .lss), [.tmp 10, .const (.int .i64 0)], (some 11), none, [], false⟩])
 (.cond (.tmp 11)
  (.seq
  (.reg [⟨0, .q .mv, [.tmp 0], (some 12), none, [], false⟩,
    ⟨1, .e (.lits 5 #[(.int .u8 0)] 1 [(0, 1)]), [.const (.int .u8 45)], (some 13), none, [], false⟩,
    ⟨2, .e (.app 5 1 1 #[(.int .u8 0)]), [.tmp 12, .tmp 13], (some 14), none, [], false⟩,
    ⟨3, .q .mv, [.tmp 14], (some 0), none, [], false⟩])
  (.reg [⟨0, .q .mv, [.tmp 7], (some 15), none, [], false⟩,
    ⟨1, .q (.un .neg), [.tmp 15], (some 16), none, [], false⟩,
    ⟨2, .q .mv, [.tmp 16], (some 7), none, [], false⟩]))
  .skip))
 L39_0)))⟩
theorem low39 : lowFn Tryd.prog Tryd.f39 = some L39 := by kernel_rfl
theorem call39 {args : List Value} {H : Heap} {S : Ending → Heap → Prop} (hn : args.length ≤ L39.n) (h : awpC Tryd.prog L39.body (retQ L39.results S) (fun ch H => S (.panicked ch) H) (env0 args) H) : ACalls Tryd.prog 39 args.toArray H S := acalls mixed Tryd.func39 low39 hn h
/-- internal/strconv.AppendUint -/
def L45 : LFn :=
 ⟨36, [.t 6],
 (.seq
 (.reg [⟨0, .q .mv, [.const (.slice none 0 0)], (some 6), none, [], false⟩])
 (.seq
 (.seq
 (.reg [⟨0, .q .mv, [.tmp 2], (some 9), none, [], false⟩,
   ⟨1, .q (.bin .eql), [.tmp 9, .const (.int .i64 10)], (some 10), none, [], false⟩])
 (.cond (.tmp 10)
  (.seq
  (.seq
  (.reg [⟨0, .q .mv, [.tmp 1], (some 11), none, [], false⟩,
    ⟨1, .q (.bin .lss), [.tmp 11, .const (.int .u64 100)], (some 12), none, [], false⟩])
  (.cond (.tmp 12)
   (.seq
   (.reg [⟨0, .q .mv, [.tmp 0], (some 13), none, [], false⟩,
     ⟨1, .q .mv, [.tmp 1], (some 14), none, [], false⟩,
     ⟨2, .q (.cvi .i64), [.tmp 14], (some 15), none, [], false⟩,
     ⟨3, .e (.call 54), [.tmp 15], (some 16), none, [], false⟩,
     ⟨4, .e (.app 5 1 1 #[(.int .u8 0)]), [.tmp 13, .tmp 16], (some 17), none, [], false⟩,
     ⟨5, .q .mv, [.tmp 17], (some 6), none, [], false⟩])
   .ret)
   .skip))
  (.seq
  (.reg [⟨0, .e (.new (Array.replicate 24 (.int .u8 0)) 72), [], (some 7), none, [], false⟩])
  (.seq
  (.reg [⟨0, .q .mv, [.tmp 1], (some 18), none, [], false⟩,
    ⟨1, .e (.call 55), [.tmp 18], (some 19), none, [], false⟩,
    ⟨2, .q .mv, [.tmp 19], (some 8), none, [], false⟩])
  (.seq
  (.reg [⟨0, .q .mv, [.tmp 8], (some 20), none, [], false⟩,
    ⟨1, .q (.sla 24 1 false true), [.tmp 7, .tmp 20], (some 21), none, [], false⟩,
    ⟨2, .q .mv, [.tmp 1], (some 22), none, [], false⟩,
    ⟨3, .e (.call 56), [.tmp 21, .tmp 22], (some 23), none, [], false⟩])
  (.seq
  (.reg [⟨0, .q .mv, [.tmp 0], (some 24), none, [], false⟩,
    ⟨1, .q .mv, [.tmp 8], (some 25), none, [], false⟩,
    ⟨2, .q (.sla 24 1 false true), [.tmp 7, .tmp 25], (some 26), none, [], false⟩,
    ⟨3, .e (.app 5 1 1 #[(.int .u8 0)]), [.tmp 24, .tmp 26], (some 27), none, [], false⟩,
    ⟨4, .q .mv, [.tmp 27], (some 6), none, [], false⟩])
  .ret)))))
  .skip))
 (.seq
 (.reg [⟨0, .q .mv, [.tmp 0], (some 29), none, [], false⟩,
   ⟨1, .q .mv, [.tmp 1], (some 30), none, [], false⟩,
   ⟨2, .q .mv, [.tmp 2], (some 31), none, [], false⟩,
   ⟨3, .e (.call 57), [.tmp 29, .tmp 30, .tmp 31, .const (.bool false), .const (.bool true)], (some 32), none, [], false⟩,
   ⟨4, .q .mv, [.tmp 32], (some 28), none, [], false⟩,
   ⟨5, .q (.ext 0), [.tmp 28], (some 33), none, [], false⟩,
   ⟨6, .q (.ext 1), [.tmp 28], (some 34), none, [], false⟩,
   ⟨7, .q .mv, [.tmp 33], (some 0), none, [], false⟩])
 (.seq
 (.reg [⟨0, .q .mv, [.tmp 0], (some 35), none, [], false⟩,
   ⟨1, .q .mv, [.tmp 35], (some 6), none, [], false⟩])
 .ret))))⟩
theorem low45 : lowFn Tryd.prog Tryd.f45 = some L45 := by kernel_rfl
theorem call45 {args : List Value} {H : Heap} {S : Ending → Heap → Prop} (hn : args.length ≤ L45.n) (h : awpC Tryd.prog L45.body (retQ L45.results S) (fun ch H => S (.panicked ch) H) (env0 args) H) : ACalls Tryd.prog 45 args.toArray H S := acalls mixed Tryd.func45 low45 hn h
/-- satchel/satchelref15.decimal -/
def L27_0 : LCode :=
 (.seq
 (.seq
 (.reg [⟨0, .q .mv, [.tmp 0], (some 9), none, [], false⟩,
   ⟨1, .q (.bin .geq), [.tmp 9, .const (.int .i64 10)], (some 10), none, [], false⟩])
 (.cond (.tmp 10)
  .skip
  (.exit 0)))
 (.block 1
  (.seq
  (.reg [⟨0, .q .mv, [.tmp 0], (some 11), none, [], false⟩,
    ⟨1, .q (.bin .quo), [.tmp 11, .const (.int .i64 10)], (some 12), none, [], false⟩,
    ⟨2, .q .mv, [.tmp 12], (some 0), none, [], false⟩])
  (.reg [⟨0, .q .mv, [.tmp 0], (some 13), none, [], false⟩,
    ⟨1, .q (.bin .rem), [.tmp 13, .const (.int .i64 10)], (some 14), none, [], false⟩,
    ⟨2, .q (.bin .add), [.const (.int .i64 48), .tmp 14], (some 15), none, [], false⟩,
    ⟨3, .q (.cvi .u8), [.tmp 15], (some 16), none, [], false⟩,
    ⟨4, .e (.lits 5 #[(.int .u8 0)] 1 [(0, 1)]), [.tmp 16], (some 17), none, [], false⟩,
    ⟨5, .q .mv, [.tmp 3], (some 18), none, [], false⟩,
    ⟨6, .e (.app 5 1 1 #[(.int .u8 0)]), [.tmp 17, .tmp 18], (some 19), none, [], false⟩,
    ⟨7, .q .mv, [.tmp 19], (some 3), none, [], false⟩]))))
def L27 : LFn :=
 ⟨21, [.t 2],
 (.seq
 (.reg [⟨0, .q .mv, [.const (.slice none 0 0)], (some 2), none, [], false⟩])
 (.seq
 (.reg [⟨0, .q .mv, [.tmp 0], (some 4), none, [], false⟩,
   ⟨1, .q (.bin .rem), [.tmp 4, .const (.int .i64 10)], (some 5), none, [], false⟩,
   ⟨2, .q (.bin .add), [.const (.int .i64 48), .tmp 5], (some 6), none, [], false⟩,
   ⟨3, .q (.cvi .u8), [.tmp 6], (some 7), none, [], false⟩,
   ⟨4, .e (.lits 5 #[(.int .u8 0)] 1 [(0, 1)]), [.tmp 7], (some 8), none, [], false⟩,
   ⟨5, .q .mv, [.tmp 8], (some 3), none, [], false⟩])
 (.seq
 (.block 0
  (.loop L27_0))
 (.seq
 (.reg [⟨0, .q .mv, [.tmp 3], (some 20), none, [], false⟩,
   ⟨1, .q .mv, [.tmp 20], (some 2), none, [], false⟩])
 .ret))))⟩
theorem low27 : lowFn Tryd.prog Tryd.f27 = some L27 := by kernel_rfl
theorem call27 {args : List Value} {H : Heap} {S : Ending → Heap → Prop} (hn : args.length ≤ L27.n) (h : awpC Tryd.prog L27.body (retQ L27.results S) (fun ch H => S (.panicked ch) H) (env0 args) H) : ACalls Tryd.prog 27 args.toArray H S := acalls mixed Tryd.func27 low27 hn h
/-- satchel/sparse.Put -/
def L6_0 : LCode :=
 (.seq
 (.reg [⟨0, .q (.bin .lss), [.tmp 17, .tmp 16], (some 18), none, [], false⟩])
 (.seq
 (.cond (.tmp 18)
  .skip
  (.exit 0))
 (.seq
 (.block 1
  (.seq
  (.reg [⟨0, .q (.iad 2), [.tmp 15, .tmp 17], (some 19), none, [], false⟩,
    ⟨1, .q (.ldn 2), [.tmp 19], (some 20), none, [], false⟩,
    ⟨2, .e (.new #[(.int .i64 0), (.int .i64 0)] 51), [], (some 7), none, [], false⟩,
    ⟨3, .e (.st 2), [.tmp 7, .tmp 20], none, none, [], false⟩])
  (.reg [⟨0, .q .mv, [.tmp 4], (some 21), none, [], false⟩,
    ⟨1, .q .mv, [.tmp 4], (some 22), none, [], false⟩,
    ⟨2, .q .mv, [.tmp 5], (some 23), none, [], false⟩,
    ⟨3, .q (.fad 0), [.tmp 7], (some 24), none, [], false⟩,
    ⟨4, .q .ld, [.tmp 24], (some 25), none, [], false⟩,
    ⟨6, .q (.fad 1), [.tmp 7], (some 27), none, [], false⟩,
    ⟨7, .q .ld, [.tmp 27], (some 28), none, [], true⟩,
    ⟨8, .q (.fad 0), [.tmp 7], (some 29), none, [], false⟩,
    ⟨9, .q .ld, [.tmp 29], (some 30), none, [], true⟩,
    ⟨10, .q (.bin .sub), [.tmp 28, .tmp 30], (some 31), none, [], false⟩,
    ⟨5, .e .callv, [.tmp 22, .tmp 23, .tmp 25], (some 26), none, [9, 7], false⟩,
    ⟨11, .e .callv, [.tmp 21, .tmp 26, .tmp 31], (some 32), none, [], false⟩,
    ⟨12, .q .mv, [.tmp 32], (some 5), none, [], false⟩])))
 (.reg [⟨0, .q (.bin .add), [.tmp 17, .const (.int .i64 1)], (some 33), none, [], false⟩,
   ⟨1, .q .mv, [.tmp 33], (some 17), none, [], false⟩]))))
def L6_1 : LCode :=
 (.seq
 (.seq
 (.reg [⟨0, .q .mv, [.tmp 5], (some 34), none, [], false⟩,
   ⟨1, .q .len, [.tmp 34], (some 35), none, [], false⟩,
   ⟨2, .q (.bin .rem), [.tmp 35, .const (.int .i64 512)], (some 36), none, [], false⟩,
   ⟨3, .q (.bin .neq), [.tmp 36, .const (.int .i64 0)], (some 37), none, [], false⟩])
 (.cond (.tmp 37)
  .skip
  (.exit 2)))
 (.block 3
  (.reg [⟨0, .q .mv, [.tmp 5], (some 38), none, [], false⟩,
    ⟨1, .e (.lits 5 #[(.int .u8 0)] 1 [(0, 1)]), [.const (.int .u8 0)], (some 39), none, [], false⟩,
    ⟨2, .e (.app 5 1 1 #[(.int .u8 0)]), [.tmp 38, .tmp 39], (some 40), none, [], false⟩,
    ⟨3, .q .mv, [.tmp 40], (some 5), none, [], false⟩])))
def L6 : LFn :=
 ⟨42, [.t 2, .t 3],
 (.seq
 (.reg [⟨0, .q .mv, [.const (.slice none 0 0)], (some 2), none, [], false⟩,
   ⟨1, .q .mv, [.const (.int .i64 0)], (some 3), none, [], false⟩])
 (.seq
 (.seq
 (.reg [⟨0, .q .mv, [.tmp 0], (some 8), none, [], false⟩,
   ⟨1, .e (.call 23), [.tmp 8, .const (.int .i64 9223372036854775807)], (some 9), none, [], false⟩,
   ⟨2, .q (.un .not), [.tmp 9], (some 10), none, [], false⟩])
 (.cond (.tmp 10)
  (.seq
  (.reg [⟨0, .q .mv, [.const (.slice none 0 0)], (some 2), none, [], false⟩,
    ⟨1, .q .mv, [.const (.int .i64 1)], (some 3), none, [], false⟩])
  .ret)
  .skip))
 (.seq
 (.reg [⟨0, .q .mv, [.func 24], (some 4), none, [], false⟩])
 (.seq
 (.reg [⟨0, .q .mv, [.tmp 4], (some 11), none, [], false⟩,
   ⟨1, .q .mv, [.tmp 0], (some 12), none, [], false⟩,
   ⟨2, .q .len, [.tmp 12], (some 13), none, [], false⟩,
   ⟨3, .e .callv, [.tmp 11, .const (.slice none 0 0), .tmp 13], (some 14), none, [], false⟩,
   ⟨4, .q .mv, [.tmp 14], (some 5), none, [], false⟩])
 (.seq
 (.seq
 (.reg [⟨0, .q .mv, [.tmp 0], (some 15), none, [], false⟩,
   ⟨1, .q .len, [.tmp 15], (some 16), none, [], false⟩,
   ⟨2, .q .mv, [.const (.int .i64 0)], (some 17), none, [], false⟩])
 (.block 0
  (.loop L6_0)))
 (.seq
 (.block 2
  (.loop L6_1))
 (.seq
 (.reg [⟨0, .q .mv, [.tmp 5], (some 41), none, [], false⟩,
   ⟨1, .q .mv, [.tmp 41], (some 2), none, [], false⟩,
   ⟨2, .q .mv, [.const (.int .i64 0)], (some 3), none, [], false⟩])
 .ret)))))))⟩
theorem low6 : lowFn Tryd.prog Tryd.f6 = some L6 := by kernel_rfl
theorem call6 {args : List Value} {H : Heap} {S : Ending → Heap → Prop} (hn : args.length ≤ L6.n) (h : awpC Tryd.prog L6.body (retQ L6.results S) (fun ch H => S (.panicked ch) H) (env0 args) H) : ACalls Tryd.prog 6 args.toArray H S := acalls mixed Tryd.func6 low6 hn h
/-- satchel/satchelref15.Put -/
def L7_0 : LCode :=
 (.seq
 (.seq
 (.reg [⟨0, .q .mv, [.tmp 5], (some 14), none, [], false⟩,
   ⟨1, .q .mv, [.tmp 0], (some 15), none, [], false⟩,
   ⟨2, .q .len, [.tmp 15], (some 16), none, [], false⟩,
   ⟨3, .q (.bin .lss), [.tmp 14, .tmp 16], (some 17), none, [], false⟩])
 (.cond (.tmp 17)
  .skip
  (.exit 0)))
 (.seq
 (.block 1
  (.seq
  (.reg [⟨0, .q .mv, [.tmp 4], (some 20), none, [], false⟩,
    ⟨1, .q .mv, [.tmp 0], (some 21), none, [], false⟩,
    ⟨2, .q .mv, [.tmp 5], (some 22), none, [], false⟩,
    ⟨3, .q (.iad 2), [.tmp 21, .tmp 22], (some 23), none, [], false⟩,
    ⟨4, .q (.fad 0), [.tmp 23], (some 24), none, [], false⟩,
    ⟨5, .q .ld, [.tmp 24], (some 25), none, [], false⟩,
    ⟨6, .e (.call 27), [.tmp 25], (some 26), none, [], false⟩,
    ⟨7, .e (.app 5 1 1 #[(.int .u8 0)]), [.tmp 20, .tmp 26], (some 27), none, [], false⟩,
    ⟨8, .q .mv, [.tmp 27], (some 4), none, [], false⟩])
  (.seq
  (.reg [⟨0, .q .mv, [.tmp 4], (some 28), none, [], false⟩,
    ⟨1, .e (.lits 5 #[(.int .u8 0)] 1 [(0, 1)]), [.const (.int .u8 10)], (some 29), none, [], false⟩,
    ⟨2, .e (.app 5 1 1 #[(.int .u8 0)]), [.tmp 28, .tmp 29], (some 30), none, [], false⟩,
    ⟨3, .q .mv, [.tmp 30], (some 4), none, [], false⟩])
  (.seq
  (.reg [⟨0, .q .mv, [.tmp 4], (some 31), none, [], false⟩,
    ⟨1, .q .mv, [.tmp 0], (some 32), none, [], false⟩,
    ⟨2, .q .mv, [.tmp 5], (some 33), none, [], false⟩,
    ⟨3, .q (.iad 2), [.tmp 32, .tmp 33], (some 34), none, [], false⟩,
    ⟨4, .q (.fad 1), [.tmp 34], (some 35), none, [], false⟩,
    ⟨5, .q .ld, [.tmp 35], (some 36), none, [], false⟩,
    ⟨6, .q .mv, [.tmp 0], (some 37), none, [], false⟩,
    ⟨7, .q .mv, [.tmp 5], (some 38), none, [], false⟩,
    ⟨8, .q (.iad 2), [.tmp 37, .tmp 38], (some 39), none, [], false⟩,
    ⟨9, .q (.fad 0), [.tmp 39], (some 40), none, [], false⟩,
    ⟨10, .q .ld, [.tmp 40], (some 41), none, [], false⟩,
    ⟨11, .q (.bin .sub), [.tmp 36, .tmp 41], (some 42), none, [], false⟩,
    ⟨12, .e (.call 27), [.tmp 42], (some 43), none, [], false⟩,
    ⟨13, .e (.app 5 1 1 #[(.int .u8 0)]), [.tmp 31, .tmp 43], (some 44), none, [], false⟩,
    ⟨14, .q .mv, [.tmp 44], (some 4), none, [], false⟩])
  (.reg [⟨0, .q .mv, [.tmp 4], (some 45), none, [], false⟩,
    ⟨1, .e (.lits 5 #[(.int .u8 0)] 1 [(0, 1)]), [.const (.int .u8 10)], (some 46), none, [], false⟩,
    ⟨2, .e (.app 5 1 1 #[(.int .u8 0)]), [.tmp 45, .tmp 46], (some 47), none, [], false⟩,
    ⟨3, .q .mv, [.tmp 47], (some 4), none, [], false⟩])))))
 (.reg [⟨0, .q .mv, [.tmp 5], (some 18), none, [], false⟩,
   ⟨1, .q (.bin .add), [.tmp 18, .const (.int .i64 1)], (some 19), none, [], false⟩,
   ⟨2, .q .mv, [.tmp 19], (some 5), none, [], false⟩])))
def L7_1 : LCode :=
 (.seq
 (.seq
 (.reg [⟨0, .q .mv, [.tmp 4], (some 48), none, [], false⟩,
   ⟨1, .q .len, [.tmp 48], (some 49), none, [], false⟩,
   ⟨2, .q (.bin .rem), [.tmp 49, .const (.int .i64 512)], (some 50), none, [], false⟩,
   ⟨3, .q (.bin .neq), [.tmp 50, .const (.int .i64 0)], (some 51), none, [], false⟩])
 (.cond (.tmp 51)
  .skip
  (.exit 2)))
 (.block 3
  (.reg [⟨0, .q .mv, [.tmp 4], (some 52), none, [], false⟩,
    ⟨1, .e (.lits 5 #[(.int .u8 0)] 1 [(0, 1)]), [.const (.int .u8 0)], (some 53), none, [], false⟩,
    ⟨2, .e (.app 5 1 1 #[(.int .u8 0)]), [.tmp 52, .tmp 53], (some 54), none, [], false⟩,
    ⟨3, .q .mv, [.tmp 54], (some 4), none, [], false⟩])))
def L7 : LFn :=
 ⟨56, [.t 2, .t 3],
 (.seq
 (.reg [⟨0, .q .mv, [.const (.slice none 0 0)], (some 2), none, [], false⟩,
   ⟨1, .q .mv, [.const (.int .i64 0)], (some 3), none, [], false⟩])
 (.seq
 (.seq
 (.reg [⟨0, .q .mv, [.tmp 0], (some 6), none, [], false⟩,
   ⟨1, .e (.call 26), [.tmp 6, .const (.int .i64 9223372036854775807)], (some 7), none, [], false⟩,
   ⟨2, .q (.un .not), [.tmp 7], (some 8), none, [], false⟩])
 (.cond (.tmp 8)
  (.seq
  (.reg [⟨0, .q .mv, [.const (.slice none 0 0)], (some 2), none, [], false⟩,
    ⟨1, .q .mv, [.const (.int .i64 1)], (some 3), none, [], false⟩])
  .ret)
  .skip))
 (.seq
 (.reg [⟨0, .q .mv, [.tmp 0], (some 9), none, [], false⟩,
   ⟨1, .q .len, [.tmp 9], (some 10), none, [], false⟩,
   ⟨2, .e (.call 27), [.tmp 10], (some 11), none, [], false⟩,
   ⟨3, .e (.lits 5 #[(.int .u8 0)] 1 [(0, 1)]), [.const (.int .u8 10)], (some 12), none, [], false⟩,
   ⟨4, .e (.app 5 1 1 #[(.int .u8 0)]), [.tmp 11, .tmp 12], (some 13), none, [], false⟩,
   ⟨5, .q .mv, [.tmp 13], (some 4), none, [], false⟩])
 (.seq
 (.seq
 (.reg [⟨0, .q .mv, [.const (.int .i64 0)], (some 5), none, [], false⟩])
 (.block 0
  (.loop L7_0)))
 (.seq
 (.block 2
  (.loop L7_1))
 (.seq
 (.reg [⟨0, .q .mv, [.tmp 4], (some 55), none, [], false⟩,
   ⟨1, .q .mv, [.tmp 55], (some 2), none, [], false⟩,
   ⟨2, .q .mv, [.const (.int .i64 0)], (some 3), none, [], false⟩])
 .ret))))))⟩
theorem low7 : lowFn Tryd.prog Tryd.f7 = some L7 := by kernel_rfl
theorem call7 {args : List Value} {H : Heap} {S : Ending → Heap → Prop} (hn : args.length ≤ L7.n) (h : awpC Tryd.prog L7.body (retQ L7.results S) (fun ch H => S (.panicked ch) H) (env0 args) H) : ACalls Tryd.prog 7 args.toArray H S := acalls mixed Tryd.func7 low7 hn h
/-- (*satchel/sparse.lines).next -/
def L28_0 : LCode :=
 (.seq
 (.block 1
  (.seq
  (.seq
  (.reg [⟨0, .q .mv, [.tmp 0], (some 10), none, [], false⟩,
    ⟨1, .q .nilc, [.tmp 10], (some 11), none, [], false⟩,
    ⟨2, .q (.fad 1), [.tmp 11], (some 12), none, [], false⟩,
    ⟨3, .q .ld, [.tmp 12], (some 13), none, [], false⟩,
    ⟨4, .q .mv, [.tmp 0], (some 14), none, [], false⟩,
    ⟨5, .q .nilc, [.tmp 14], (some 15), none, [], false⟩,
    ⟨6, .q (.fad 0), [.tmp 15], (some 16), none, [], false⟩,
    ⟨7, .q .ld, [.tmp 16], (some 17), none, [], false⟩,
    ⟨8, .q .len, [.tmp 17], (some 18), none, [], false⟩,
    ⟨9, .q (.bin .eql), [.tmp 13, .tmp 18], (some 19), none, [], false⟩])
  (.cond (.tmp 19)
   (.seq
   (.reg [⟨0, .q .mv, [.const (.int .i64 0)], (some 2), none, [], false⟩,
     ⟨1, .q .mv, [.const (.int .i64 4)], (some 3), none, [], false⟩])
   .ret)
   .skip))
  (.seq
  (.reg [⟨0, .q .mv, [.tmp 0], (some 20), none, [], false⟩,
    ⟨1, .q .nilc, [.tmp 20], (some 21), none, [], false⟩,
    ⟨2, .q (.fad 0), [.tmp 21], (some 22), none, [], false⟩,
    ⟨3, .q .ld, [.tmp 22], (some 23), none, [], false⟩,
    ⟨4, .q .mv, [.tmp 0], (some 24), none, [], false⟩,
    ⟨5, .q .nilc, [.tmp 24], (some 25), none, [], false⟩,
    ⟨6, .q (.fad 1), [.tmp 25], (some 26), none, [], false⟩,
    ⟨7, .q .ld, [.tmp 26], (some 27), none, [], false⟩,
    ⟨8, .q (.iad 1), [.tmp 23, .tmp 27], (some 28), none, [], false⟩,
    ⟨9, .q .ld, [.tmp 28], (some 29), none, [], false⟩,
    ⟨10, .q .mv, [.tmp 29], (some 6), none, [], false⟩])
  (.seq
  (.reg [⟨0, .q .mv, [.tmp 0], (some 30), none, [], false⟩,
    ⟨1, .q .nilc, [.tmp 30], (some 31), none, [], false⟩,
    ⟨2, .q (.fad 1), [.tmp 31], (some 32), none, [], false⟩,
    ⟨3, .q .ld, [.tmp 32], (some 33), none, [], false⟩,
    ⟨4, .q (.bin .add), [.tmp 33, .const (.int .i64 1)], (some 34), none, [], false⟩,
    ⟨5, .q .nilc, [.tmp 30], (some 35), none, [], false⟩,
    ⟨6, .q (.fad 1), [.tmp 35], (some 36), none, [], false⟩,
    ⟨7, .e (.st 1), [.tmp 36, .tmp 34], none, none, [], false⟩])
  (.seq
  (.seq
  (.reg [⟨0, .q .mv, [.tmp 6], (some 37), none, [], false⟩,
    ⟨1, .q (.bin .eql), [.tmp 37, .const (.int .u8 10)], (some 38), none, [], false⟩,
    ⟨2, .q .mv, [.tmp 38], (some 39), none, [], false⟩,
    ⟨3, .q .mv, [.tmp 5], (some 40), (some (39, true)), [], false⟩,
    ⟨4, .q (.bin .gtr), [.tmp 40, .const (.int .i64 0)], (some 41), (some (39, true)), [], false⟩,
    ⟨5, .q .pick, [.tmp 39, .tmp 41, .const (.bool false)], (some 42), none, [], false⟩])
  (.cond (.tmp 42)
   (.seq
   (.reg [⟨0, .q .mv, [.tmp 4], (some 43), none, [], false⟩,
     ⟨1, .q .mv, [.tmp 43], (some 2), none, [], false⟩,
     ⟨2, .q .mv, [.const (.int .i64 0)], (some 3), none, [], false⟩])
   .ret)
   .skip))
  (.seq
  (.reg [⟨0, .q .mv, [.tmp 6], (some 44), none, [], false⟩,
    ⟨1, .q (.cvi .i64), [.tmp 44], (some 45), none, [], false⟩,
    ⟨2, .q (.bin .sub), [.tmp 45, .const (.int .i64 48)], (some 46), none, [], false⟩,
    ⟨3, .q .mv, [.tmp 46], (some 7), none, [], false⟩])
  (.seq
  (.seq
  (.reg [⟨0, .q .mv, [.tmp 7], (some 47), none, [], false⟩,
    ⟨1, .q (.bin .lss), [.tmp 47, .const (.int .i64 0)], (some 48), none, [], false⟩,
    ⟨2, .q .mv, [.tmp 48], (some 49), none, [], false⟩,
    ⟨3, .q .mv, [.tmp 7], (some 50), (some (49, false)), [], false⟩,
    ⟨4, .q (.bin .gtr), [.tmp 50, .const (.int .i64 9)], (some 51), (some (49, false)), [], false⟩,
    ⟨5, .q .pick, [.tmp 49, .const (.bool true), .tmp 51], (some 52), none, [], false⟩,
    ⟨6, .q .mv, [.tmp 52], (some 53), none, [], false⟩,
    ⟨7, .q .mv, [.tmp 5], (some 54), (some (53, false)), [], false⟩,
    ⟨8, .q (.bin .eql), [.tmp 54, .const (.int .i64 1)], (some 55), (some (53, false)), [], false⟩,
    ⟨9, .q .mv, [.tmp 55], (some 56), (some (53, false)), [], false⟩,
    ⟨10, .q .mv, [.tmp 4], (some 57), (some (56, true)), [], false⟩,
    ⟨11, .q (.bin .eql), [.tmp 57, .const (.int .i64 0)], (some 58), (some (56, true)), [], false⟩,
    ⟨12, .q .pick, [.tmp 56, .tmp 58, .const (.bool false)], (some 59), (some (53, false)), [], false⟩,
    ⟨13, .q .pick, [.tmp 53, .const (.bool true), .tmp 59], (some 60), none, [], false⟩,
    ⟨14, .q .mv, [.tmp 60], (some 61), none, [], false⟩,
    ⟨15, .q .mv, [.tmp 4], (some 62), (some (61, false)), [], false⟩,
    ⟨16, .q .mv, [.tmp 7], (some 63), (some (61, false)), [], false⟩,
    ⟨17, .q (.bin .sub), [.const (.int .i64 9223372036854775807), .tmp 63], (some 64), (some (61, false)), [], false⟩,
    ⟨18, .q (.bin .quo), [.tmp 64, .const (.int .i64 10)], (some 65), (some (61, false)), [], false⟩,
    ⟨19, .q (.bin .gtr), [.tmp 62, .tmp 65], (some 66), (some (61, false)), [], false⟩,
    ⟨20, .q .pick, [.tmp 61, .const (.bool true), .tmp 66], (some 67), none, [], false⟩])
  (.cond (.tmp 67)
   (.seq
   (.reg [⟨0, .q .mv, [.const (.int .i64 0)], (some 2), none, [], false⟩,
     ⟨1, .q .mv, [.const (.int .i64 3)], (some 3), none, [], false⟩])
   .ret)
   .skip))
  (.reg [⟨0, .q .mv, [.tmp 4], (some 68), none, [], false⟩,
    ⟨1, .q (.bin .mul), [.const (.int .i64 10), .tmp 68], (some 69), none, [], false⟩,
    ⟨2, .q .mv, [.tmp 7], (some 70), none, [], false⟩,
    ⟨3, .q (.bin .add), [.tmp 69, .tmp 70], (some 71), none, [], false⟩,
    ⟨4, .q .mv, [.tmp 71], (some 4), none, [], false⟩]))))))))
 (.reg [⟨0, .q .mv, [.tmp 5], (some 8), none, [], false⟩,
   ⟨1, .q (.bin .add), [.tmp 8, .const (.int .i64 1)], (some 9), none, [], false⟩,
   ⟨2, .q .mv, [.tmp 9], (some 5), none, [], false⟩]))
def L28 : LFn :=
 ⟨72, [.t 2, .t 3],
 (.seq
 (.reg [⟨0, .q .mv, [.const (.int .i64 0)], (some 2), none, [], false⟩,
   ⟨1, .q .mv, [.const (.int .i64 0)], (some 3), none, [], false⟩])
 (.seq
 (.reg [⟨0, .q .mv, [.const (.int .i64 0)], (some 4), none, [], false⟩])
 (.seq
 (.reg [⟨0, .q .mv, [.const (.int .i64 0)], (some 5), none, [], false⟩])
 (.block 0
  (.loop L28_0)))))⟩
theorem low28 : lowFn Tryd.prog Tryd.f28 = some L28 := by kernel_rfl
theorem call28 {args : List Value} {H : Heap} {S : Ending → Heap → Prop} (hn : args.length ≤ L28.n) (h : awpC Tryd.prog L28.body (retQ L28.results S) (fun ch H => S (.panicked ch) H) (env0 args) H) : ACalls Tryd.prog 28 args.toArray H S := acalls mixed Tryd.func28 low28 hn h
/-- satchel/satchelref15.number -/
def L29_0 : LCode :=
 (.seq
 (.seq
 (.reg [⟨0, .q .mv, [.tmp 1], (some 11), none, [], false⟩,
   ⟨1, .q .mv, [.tmp 0], (some 12), none, [], false⟩,
   ⟨2, .q .len, [.tmp 12], (some 13), none, [], false⟩,
   ⟨3, .q (.bin .lss), [.tmp 11, .tmp 13], (some 14), none, [], false⟩])
 (.cond (.tmp 14)
  .skip
  (.exit 0)))
 (.seq
 (.block 1
  (.seq
  (.seq
  (.reg [⟨0, .q .mv, [.tmp 0], (some 17), none, [], false⟩,
    ⟨1, .q .mv, [.tmp 1], (some 18), none, [], false⟩,
    ⟨2, .q (.iad 1), [.tmp 17, .tmp 18], (some 19), none, [], false⟩,
    ⟨3, .q .ld, [.tmp 19], (some 20), none, [], false⟩,
    ⟨4, .q (.bin .eql), [.tmp 20, .const (.int .u8 10)], (some 21), none, [], false⟩])
  (.cond (.tmp 21)
   (.seq
   (.seq
   (.reg [⟨0, .q .mv, [.tmp 1], (some 22), none, [], false⟩,
     ⟨1, .q .mv, [.tmp 8], (some 23), none, [], false⟩,
     ⟨2, .q (.bin .eql), [.tmp 22, .tmp 23], (some 24), none, [], false⟩])
   (.cond (.tmp 24)
    (.seq
    (.reg [⟨0, .q .mv, [.tmp 1], (some 25), none, [], false⟩,
      ⟨1, .q .mv, [.const (.int .i64 0)], (some 4), none, [], false⟩,
      ⟨2, .q .mv, [.tmp 25], (some 5), none, [], false⟩,
      ⟨3, .q .mv, [.const (.int .i64 3)], (some 6), none, [], false⟩])
    .ret)
    .skip))
   (.seq
   (.reg [⟨0, .q .mv, [.tmp 7], (some 26), none, [], false⟩,
     ⟨1, .q .mv, [.tmp 1], (some 27), none, [], false⟩,
     ⟨2, .q (.bin .add), [.tmp 27, .const (.int .i64 1)], (some 28), none, [], false⟩,
     ⟨3, .q .mv, [.tmp 26], (some 4), none, [], false⟩,
     ⟨4, .q .mv, [.tmp 28], (some 5), none, [], false⟩,
     ⟨5, .q .mv, [.const (.int .i64 0)], (some 6), none, [], false⟩])
   .ret))
   .skip))
  (.seq
  (.seq
  (.reg [⟨0, .q .mv, [.tmp 0], (some 29), none, [], false⟩,
    ⟨1, .q .mv, [.tmp 1], (some 30), none, [], false⟩,
    ⟨2, .q (.iad 1), [.tmp 29, .tmp 30], (some 31), none, [], false⟩,
    ⟨3, .q .ld, [.tmp 31], (some 32), none, [], false⟩,
    ⟨4, .q (.bin .lss), [.tmp 32, .const (.int .u8 48)], (some 33), none, [], false⟩,
    ⟨5, .q .mv, [.tmp 33], (some 34), none, [], false⟩,
    ⟨6, .q .mv, [.tmp 0], (some 35), (some (34, false)), [], false⟩,
    ⟨7, .q .mv, [.tmp 1], (some 36), (some (34, false)), [], false⟩,
    ⟨8, .q (.iad 1), [.tmp 35, .tmp 36], (some 37), (some (34, false)), [], false⟩,
    ⟨9, .q .ld, [.tmp 37], (some 38), (some (34, false)), [], false⟩,
    ⟨10, .q (.bin .gtr), [.tmp 38, .const (.int .u8 57)], (some 39), (some (34, false)), [], false⟩,
    ⟨11, .q .pick, [.tmp 34, .const (.bool true), .tmp 39], (some 40), none, [], false⟩,
    ⟨12, .q .mv, [.tmp 40], (some 41), none, [], false⟩,
    ⟨13, .q .mv, [.tmp 1], (some 42), (some (41, false)), [], false⟩,
    ⟨14, .q .mv, [.tmp 8], (some 43), (some (41, false)), [], false⟩,
    ⟨15, .q (.bin .gtr), [.tmp 42, .tmp 43], (some 44), (some (41, false)), [], false⟩,
    ⟨16, .q .mv, [.tmp 44], (some 45), (some (41, false)), [], false⟩,
    ⟨17, .q .mv, [.tmp 0], (some 46), (some (45, true)), [], false⟩,
    ⟨18, .q .mv, [.tmp 8], (some 47), (some (45, true)), [], false⟩,
    ⟨19, .q (.iad 1), [.tmp 46, .tmp 47], (some 48), (some (45, true)), [], false⟩,
    ⟨20, .q .ld, [.tmp 48], (some 49), (some (45, true)), [], false⟩,
    ⟨21, .q (.bin .eql), [.tmp 49, .const (.int .u8 48)], (some 50), (some (45, true)), [], false⟩,
    ⟨22, .q .pick, [.tmp 45, .tmp 50, .const (.bool false)], (some 51), (some (41, false)), [], false⟩,
    ⟨23, .q .pick, [.tmp 41, .const (.bool true), .tmp 51], (some 52), none, [], false⟩])
  (.cond (.tmp 52)
   (.seq
   (.reg [⟨0, .q .mv, [.tmp 1], (some 53), none, [], false⟩,
     ⟨1, .q .mv, [.const (.int .i64 0)], (some 4), none, [], false⟩,
     ⟨2, .q .mv, [.tmp 53], (some 5), none, [], false⟩,
     ⟨3, .q .mv, [.const (.int .i64 3)], (some 6), none, [], false⟩])
   .ret)
   .skip))
  (.seq
  (.reg [⟨0, .q .mv, [.tmp 0], (some 54), none, [], false⟩,
    ⟨1, .q .mv, [.tmp 1], (some 55), none, [], false⟩,
    ⟨2, .q (.iad 1), [.tmp 54, .tmp 55], (some 56), none, [], false⟩,
    ⟨3, .q .ld, [.tmp 56], (some 57), none, [], false⟩,
    ⟨4, .q (.bin .sub), [.tmp 57, .const (.int .u8 48)], (some 58), none, [], false⟩,
    ⟨5, .q (.cvi .i64), [.tmp 58], (some 59), none, [], false⟩,
    ⟨6, .q .mv, [.tmp 59], (some 9), none, [], false⟩])
  (.seq
  (.seq
  (.reg [⟨0, .q .mv, [.tmp 7], (some 60), none, [], false⟩,
    ⟨1, .q .mv, [.tmp 9], (some 61), none, [], false⟩,
    ⟨2, .q (.bin .sub), [.const (.int .i64 9223372036854775807), .tmp 61], (some 62), none, [], false⟩,
    ⟨3, .q (.bin .quo), [.tmp 62, .const (.int .i64 10)], (some 63), none, [], false⟩,
    ⟨4, .q (.bin .gtr), [.tmp 60, .tmp 63], (some 64), none, [], false⟩])
  (.cond (.tmp 64)
   (.seq
   (.reg [⟨0, .q .mv, [.tmp 1], (some 65), none, [], false⟩,
     ⟨1, .q .mv, [.const (.int .i64 0)], (some 4), none, [], false⟩,
     ⟨2, .q .mv, [.tmp 65], (some 5), none, [], false⟩,
     ⟨3, .q .mv, [.const (.int .i64 3)], (some 6), none, [], false⟩])
   .ret)
   .skip))
  (.reg [⟨0, .q .mv, [.tmp 7], (some 66), none, [], false⟩,
    ⟨1, .q (.bin .mul), [.tmp 66, .const (.int .i64 10)], (some 67), none, [], false⟩,
    ⟨2, .q .mv, [.tmp 9], (some 68), none, [], false⟩,
    ⟨3, .q (.bin .add), [.tmp 67, .tmp 68], (some 69), none, [], false⟩,
    ⟨4, .q .mv, [.tmp 69], (some 7), none, [], false⟩]))))))
 (.reg [⟨0, .q .mv, [.tmp 1], (some 15), none, [], false⟩,
   ⟨1, .q (.bin .add), [.tmp 15, .const (.int .i64 1)], (some 16), none, [], false⟩,
   ⟨2, .q .mv, [.tmp 16], (some 1), none, [], false⟩])))
def L29 : LFn :=
 ⟨71, [.t 4, .t 5, .t 6],
 (.seq
 (.reg [⟨0, .q .mv, [.const (.int .i64 0)], (some 4), none, [], false⟩,
   ⟨1, .q .mv, [.const (.int .i64 0)], (some 5), none, [], false⟩,
   ⟨2, .q .mv, [.const (.int .i64 0)], (some 6), none, [], false⟩])
 (.seq
 (.reg [⟨0, .q .mv, [.tmp 1], (some 10), none, [], false⟩,
   ⟨1, .q .mv, [.const (.int .i64 0)], (some 7), none, [], false⟩,
   ⟨2, .q .mv, [.tmp 10], (some 8), none, [], false⟩])
 (.seq
 (.block 0
  (.loop L29_0))
 (.seq
 (.reg [⟨0, .q .mv, [.tmp 1], (some 70), none, [], false⟩,
   ⟨1, .q .mv, [.const (.int .i64 0)], (some 4), none, [], false⟩,
   ⟨2, .q .mv, [.tmp 70], (some 5), none, [], false⟩,
   ⟨3, .q .mv, [.const (.int .i64 4)], (some 6), none, [], false⟩])
 .ret))))⟩
theorem low29 : lowFn Tryd.prog Tryd.f29 = some L29 := by kernel_rfl
theorem call29 {args : List Value} {H : Heap} {S : Ending → Heap → Prop} (hn : args.length ≤ L29.n) (h : awpC Tryd.prog L29.body (retQ L29.results S) (fun ch H => S (.panicked ch) H) (env0 args) H) : ACalls Tryd.prog 29 args.toArray H S := acalls mixed Tryd.func29 low29 hn h
/-- satchel/sparse.Read -/
def L9_0 : LCode :=
 (.reg [⟨0, .q .mv, [.tmp 10], (some 34), none, [], false⟩,
   ⟨1, .q (.bin .add), [.tmp 34, .const (.int .i64 1)], (some 35), none, [], false⟩,
   ⟨2, .q .mv, [.tmp 35], (some 10), none, [], false⟩])
def L9_1 : LCode :=
 (.seq
 (.seq
 (.reg [⟨0, .q .mv, [.tmp 10], (some 27), none, [], false⟩,
   ⟨1, .q .mv, [.tmp 6], (some 28), none, [], false⟩,
   ⟨2, .q (.bin .lss), [.tmp 27, .tmp 28], (some 29), none, [], false⟩,
   ⟨3, .q .mv, [.tmp 29], (some 30), none, [], false⟩,
   ⟨4, .q .mv, [.tmp 7], (some 31), (some (30, true)), [], false⟩,
   ⟨5, .q (.bin .eql), [.tmp 31, .const (.int .i64 0)], (some 32), (some (30, true)), [], false⟩,
   ⟨6, .q .pick, [.tmp 30, .tmp 32, .const (.bool false)], (some 33), none, [], false⟩])
 (.cond (.tmp 33)
  .skip
  (.exit 0)))
 (.seq
 (.block 1
  (.seq
  (.reg [⟨0, .q .mv, [.const (.int .i64 0)], (some 11), none, [], false⟩,
    ⟨1, .q .mv, [.const (.int .i64 0)], (some 12), none, [], false⟩])
  (.seq
  (.seq
  (.reg [⟨0, .q .mv, [.tmp 5], (some 37), none, [], false⟩,
    ⟨1, .e (.call 28), [.tmp 37], (some 38), none, [], false⟩,
    ⟨2, .q .mv, [.tmp 38], (some 36), none, [], false⟩,
    ⟨3, .q (.ext 0), [.tmp 36], (some 39), none, [], false⟩,
    ⟨4, .q (.ext 1), [.tmp 36], (some 40), none, [], false⟩,
    ⟨5, .q .mv, [.tmp 39], (some 11), none, [], false⟩,
    ⟨6, .q .mv, [.tmp 40], (some 7), none, [], false⟩])
  (.seq
  (.reg [⟨0, .q .mv, [.tmp 7], (some 41), none, [], false⟩,
    ⟨1, .q (.bin .neq), [.tmp 41, .const (.int .i64 0)], (some 42), none, [], false⟩])
  (.cond (.tmp 42)
   (.exit 0)
   .skip)))
  (.seq
  (.seq
  (.reg [⟨0, .q .mv, [.tmp 5], (some 44), none, [], false⟩,
    ⟨1, .e (.call 28), [.tmp 44], (some 45), none, [], false⟩,
    ⟨2, .q .mv, [.tmp 45], (some 43), none, [], false⟩,
    ⟨3, .q (.ext 0), [.tmp 43], (some 46), none, [], false⟩,
    ⟨4, .q (.ext 1), [.tmp 43], (some 47), none, [], false⟩,
    ⟨5, .q .mv, [.tmp 46], (some 12), none, [], false⟩,
    ⟨6, .q .mv, [.tmp 47], (some 7), none, [], false⟩])
  (.seq
  (.reg [⟨0, .q .mv, [.tmp 7], (some 48), none, [], false⟩,
    ⟨1, .q (.bin .neq), [.tmp 48, .const (.int .i64 0)], (some 49), none, [], false⟩])
  (.cond (.tmp 49)
   (.exit 0)
   .skip)))
  (.seq
  (.seq
  (.reg [⟨0, .q .mv, [.tmp 11], (some 50), none, [], false⟩,
    ⟨1, .q .mv, [.tmp 9], (some 51), none, [], false⟩,
    ⟨2, .q (.bin .lss), [.tmp 50, .tmp 51], (some 52), none, [], false⟩,
    ⟨3, .q .mv, [.tmp 52], (some 53), none, [], false⟩,
    ⟨4, .q .mv, [.tmp 12], (some 54), (some (53, false)), [], false⟩,
    ⟨5, .q .mv, [.tmp 11], (some 55), (some (53, false)), [], false⟩,
    ⟨6, .q (.bin .sub), [.const (.int .i64 9223372036854775807), .tmp 55], (some 56), (some (53, false)), [], false⟩,
    ⟨7, .q (.bin .gtr), [.tmp 54, .tmp 56], (some 57), (some (53, false)), [], false⟩,
    ⟨8, .q .pick, [.tmp 53, .const (.bool true), .tmp 57], (some 58), none, [], false⟩])
  (.cond (.tmp 58)
   (.seq
   (.reg [⟨0, .q .mv, [.const (.int .i64 3)], (some 7), none, [], false⟩])
   (.exit 0))
   .skip))
  (.seq
  (.reg [⟨0, .q .mv, [.tmp 11], (some 59), none, [], false⟩,
    ⟨1, .q .mv, [.tmp 12], (some 60), none, [], false⟩,
    ⟨2, .q (.bin .add), [.tmp 59, .tmp 60], (some 61), none, [], false⟩,
    ⟨3, .q .mv, [.tmp 61], (some 9), none, [], false⟩])
  (.reg [⟨0, .q .mv, [.tmp 8], (some 62), none, [], false⟩,
    ⟨1, .q .mv, [.tmp 11], (some 63), none, [], false⟩,
    ⟨2, .q .mv, [.tmp 9], (some 64), none, [], false⟩,
    ⟨3, .q (.build #[(.int .i64 0), (.int .i64 0)] [(0, 1), (1, 1)]), [.tmp 63, .tmp 64], (some 65), none, [], false⟩,
    ⟨4, .e (.lits 51 #[(.int .i64 0), (.int .i64 0)] 1 [(0, 2)]), [.tmp 65], (some 66), none, [], false⟩,
    ⟨5, .e (.app 51 2 16 #[(.int .i64 0), (.int .i64 0)]), [.tmp 62, .tmp 66], (some 67), none, [], false⟩,
    ⟨6, .q .mv, [.tmp 67], (some 8), none, [], false⟩])))))))
 L9_0))
def L9_2 : LCode :=
 (.reg [⟨0, .q .mv, [.tmp 5], (some 95), none, [], false⟩,
   ⟨1, .q .nilc, [.tmp 95], (some 96), none, [], false⟩,
   ⟨2, .q (.fad 1), [.tmp 96], (some 97), none, [], false⟩,
   ⟨3, .q .ld, [.tmp 97], (some 98), none, [], false⟩,
   ⟨4, .q (.bin .add), [.tmp 98, .const (.int .i64 1)], (some 99), none, [], false⟩,
   ⟨5, .q .nilc, [.tmp 95], (some 100), none, [], false⟩,
   ⟨6, .q (.fad 1), [.tmp 100], (some 101), none, [], false⟩,
   ⟨7, .e (.st 1), [.tmp 101, .tmp 99], none, none, [], false⟩])
def L9_3 : LCode :=
 (.seq
 (.seq
 (.reg [⟨0, .q .mv, [.tmp 7], (some 68), none, [], false⟩,
   ⟨1, .q (.bin .eql), [.tmp 68, .const (.int .i64 0)], (some 69), none, [], false⟩,
   ⟨2, .q .mv, [.tmp 69], (some 70), none, [], false⟩,
   ⟨3, .q .mv, [.tmp 5], (some 71), (some (70, true)), [], false⟩,
   ⟨4, .q .nilc, [.tmp 71], (some 72), (some (70, true)), [], false⟩,
   ⟨5, .q (.fad 1), [.tmp 72], (some 73), (some (70, true)), [], false⟩,
   ⟨6, .q .ld, [.tmp 73], (some 74), (some (70, true)), [], false⟩,
   ⟨7, .q (.bin .rem), [.tmp 74, .const (.int .i64 512)], (some 75), (some (70, true)), [], false⟩,
   ⟨8, .q (.bin .neq), [.tmp 75, .const (.int .i64 0)], (some 76), (some (70, true)), [], false⟩,
   ⟨9, .q .pick, [.tmp 70, .tmp 76, .const (.bool false)], (some 77), none, [], false⟩])
 (.cond (.tmp 77)
  .skip
  (.exit 2)))
 (.block 3
  (.seq
  (.block 4
   (.seq
   (.reg [⟨0, .q .mv, [.tmp 5], (some 79), none, [], false⟩,
     ⟨1, .q .nilc, [.tmp 79], (some 80), none, [], false⟩,
     ⟨2, .q (.fad 1), [.tmp 80], (some 81), none, [], false⟩,
     ⟨3, .q .ld, [.tmp 81], (some 82), none, [], false⟩,
     ⟨4, .q .mv, [.tmp 0], (some 83), none, [], false⟩,
     ⟨5, .q .len, [.tmp 83], (some 84), none, [], false⟩,
     ⟨6, .q (.bin .eql), [.tmp 82, .tmp 84], (some 85), none, [], false⟩,
     ⟨7, .q .mv, [.tmp 85], (some 78), none, [], false⟩])
   (.cond (.tmp 78)
    (.reg [⟨0, .q .mv, [.const (.int .i64 4)], (some 7), none, [], false⟩])
    (.seq
    (.reg [⟨0, .q .mv, [.tmp 0], (some 87), none, [], false⟩,
      ⟨1, .q .mv, [.tmp 5], (some 88), none, [], false⟩,
      ⟨2, .q .nilc, [.tmp 88], (some 89), none, [], false⟩,
      ⟨3, .q (.fad 1), [.tmp 89], (some 90), none, [], false⟩,
      ⟨4, .q .ld, [.tmp 90], (some 91), none, [], false⟩,
      ⟨5, .q (.iad 1), [.tmp 87, .tmp 91], (some 92), none, [], false⟩,
      ⟨6, .q .ld, [.tmp 92], (some 93), none, [], false⟩,
      ⟨7, .q (.bin .neq), [.tmp 93, .const (.int .u8 0)], (some 94), none, [], false⟩,
      ⟨8, .q .mv, [.tmp 94], (some 86), none, [], false⟩])
    (.cond (.tmp 86)
     (.reg [⟨0, .q .mv, [.const (.int .i64 3)], (some 7), none, [], false⟩])
     .skip)))))
  L9_2)))
def L9_4 : LCode :=
 (.seq
 (.block 2
  (.loop L9_3))
 (.seq
 (.seq
 (.reg [⟨0, .q .mv, [.tmp 7], (some 102), none, [], false⟩,
   ⟨1, .q (.bin .neq), [.tmp 102, .const (.int .i64 0)], (some 103), none, [], false⟩])
 (.cond (.tmp 103)
  (.seq
  (.reg [⟨0, .q .mv, [.tmp 7], (some 104), none, [], false⟩,
    ⟨1, .q .mv, [.const (.slice none 0 0)], (some 2), none, [], false⟩,
    ⟨2, .q .mv, [.const (.int .i64 0)], (some 3), none, [], false⟩,
    ⟨3, .q .mv, [.tmp 104], (some 4), none, [], false⟩])
  .ret)
  .skip))
 (.seq
 (.reg [⟨0, .q .mv, [.tmp 8], (some 105), none, [], false⟩,
   ⟨1, .q .mv, [.tmp 5], (some 106), none, [], false⟩,
   ⟨2, .q .nilc, [.tmp 106], (some 107), none, [], false⟩,
   ⟨3, .q (.fad 1), [.tmp 107], (some 108), none, [], false⟩,
   ⟨4, .q .ld, [.tmp 108], (some 109), none, [], false⟩,
   ⟨5, .q .mv, [.tmp 105], (some 2), none, [], false⟩,
   ⟨6, .q .mv, [.tmp 109], (some 3), none, [], false⟩,
   ⟨7, .q .mv, [.const (.int .i64 0)], (some 4), none, [], false⟩])
 .ret)))
def L9_5 : LCode :=
 (.seq
 (.reg [⟨0, .q .mv, [.const (.slice none 0 0)], (some 8), none, [], false⟩])
 (.seq
 (.reg [⟨0, .q .mv, [.const (.int .i64 0)], (some 9), none, [], false⟩])
 (.seq
 (.seq
 (.reg [⟨0, .q .mv, [.const (.int .i64 0)], (some 10), none, [], false⟩])
 (.block 0
  (.loop L9_1)))
 L9_4)))
def L9 : LFn :=
 ⟨110, [.t 2, .t 3, .t 4],
 (.seq
 (.reg [⟨0, .q .mv, [.const (.slice none 0 0)], (some 2), none, [], false⟩,
   ⟨1, .q .mv, [.const (.int .i64 0)], (some 3), none, [], false⟩,
   ⟨2, .q .mv, [.const (.int .i64 0)], (some 4), none, [], false⟩])
 (.seq
 (.reg [⟨0, .q .mv, [.tmp 0], (some 13), none, [], false⟩,
   ⟨1, .q (.build #[(.slice none 0 0), (.int .i64 0)] [(0, 1)]), [.tmp 13], (some 14), none, [], false⟩,
   ⟨2, .e (.box 55), [.tmp 14], (some 15), none, [], false⟩,
   ⟨3, .q .mv, [.tmp 15], (some 5), none, [], false⟩])
 (.seq
 (.reg [⟨0, .q .mv, [.tmp 5], (some 17), none, [], false⟩,
   ⟨1, .e (.call 28), [.tmp 17], (some 18), none, [], false⟩,
   ⟨2, .q .mv, [.tmp 18], (some 16), none, [], false⟩,
   ⟨3, .q (.ext 0), [.tmp 16], (some 19), none, [], false⟩,
   ⟨4, .q (.ext 1), [.tmp 16], (some 20), none, [], false⟩,
   ⟨5, .q .mv, [.tmp 19], (some 6), none, [], false⟩,
   ⟨6, .q .mv, [.tmp 20], (some 7), none, [], false⟩])
 (.seq
 (.seq
 (.reg [⟨0, .q .mv, [.tmp 7], (some 21), none, [], false⟩,
   ⟨1, .q (.bin .eql), [.tmp 21, .const (.int .i64 0)], (some 22), none, [], false⟩,
   ⟨2, .q .mv, [.tmp 22], (some 23), none, [], false⟩,
   ⟨3, .q .mv, [.tmp 6], (some 24), (some (23, true)), [], false⟩,
   ⟨4, .q (.bin .gtr), [.tmp 24, .const (.int .i64 65536)], (some 25), (some (23, true)), [], false⟩,
   ⟨5, .q .pick, [.tmp 23, .tmp 25, .const (.bool false)], (some 26), none, [], false⟩])
 (.cond (.tmp 26)
  (.reg [⟨0, .q .mv, [.const (.int .i64 2)], (some 7), none, [], false⟩])
  .skip))
 L9_5))))⟩
theorem low9 : lowFn Tryd.prog Tryd.f9 = some L9 := by kernel_rfl
theorem call9 {args : List Value} {H : Heap} {S : Ending → Heap → Prop} (hn : args.length ≤ L9.n) (h : awpC Tryd.prog L9.body (retQ L9.results S) (fun ch H => S (.panicked ch) H) (env0 args) H) : ACalls Tryd.prog 9 args.toArray H S := acalls mixed Tryd.func9 low9 hn h
/-- satchel/satchelref15.Read -/
def L10_0 : LCode :=
 (.seq
 (.seq
 (.reg [⟨0, .q .mv, [.tmp 10], (some 28), none, [], false⟩,
   ⟨1, .q .mv, [.tmp 5], (some 29), none, [], false⟩,
   ⟨2, .q (.bin .lss), [.tmp 28, .tmp 29], (some 30), none, [], false⟩])
 (.cond (.tmp 30)
  .skip
  (.exit 0)))
 (.seq
 (.block 1
  (.seq
  (.reg [⟨0, .q .mv, [.tmp 0], (some 34), none, [], false⟩,
    ⟨1, .q .mv, [.tmp 6], (some 35), none, [], false⟩,
    ⟨2, .e (.call 29), [.tmp 34, .tmp 35], (some 36), none, [], false⟩,
    ⟨3, .q .mv, [.tmp 36], (some 33), none, [], false⟩,
    ⟨4, .q (.ext 0), [.tmp 33], (some 37), none, [], false⟩,
    ⟨5, .q (.ext 1), [.tmp 33], (some 38), none, [], false⟩,
    ⟨6, .q (.ext 2), [.tmp 33], (some 39), none, [], false⟩,
    ⟨7, .q .mv, [.tmp 37], (some 11), none, [], false⟩,
    ⟨8, .q .mv, [.tmp 38], (some 12), none, [], false⟩,
    ⟨9, .q .mv, [.tmp 39], (some 13), none, [], false⟩])
  (.seq
  (.seq
  (.reg [⟨0, .q .mv, [.tmp 13], (some 40), none, [], false⟩,
    ⟨1, .q (.bin .neq), [.tmp 40, .const (.int .i64 0)], (some 41), none, [], false⟩])
  (.cond (.tmp 41)
   (.seq
   (.reg [⟨0, .q .mv, [.tmp 13], (some 42), none, [], false⟩,
     ⟨1, .q .mv, [.const (.slice none 0 0)], (some 2), none, [], false⟩,
     ⟨2, .q .mv, [.const (.int .i64 0)], (some 3), none, [], false⟩,
     ⟨3, .q .mv, [.tmp 42], (some 4), none, [], false⟩])
   .ret)
   .skip))
  (.seq
  (.reg [⟨0, .q .mv, [.tmp 0], (some 44), none, [], false⟩,
    ⟨1, .q .mv, [.tmp 12], (some 45), none, [], false⟩,
    ⟨2, .e (.call 29), [.tmp 44, .tmp 45], (some 46), none, [], false⟩,
    ⟨3, .q .mv, [.tmp 46], (some 43), none, [], false⟩,
    ⟨4, .q (.ext 0), [.tmp 43], (some 47), none, [], false⟩,
    ⟨5, .q (.ext 1), [.tmp 43], (some 48), none, [], false⟩,
    ⟨6, .q (.ext 2), [.tmp 43], (some 49), none, [], false⟩,
    ⟨7, .q .mv, [.tmp 47], (some 14), none, [], false⟩,
    ⟨8, .q .mv, [.tmp 48], (some 15), none, [], false⟩,
    ⟨9, .q .mv, [.tmp 49], (some 13), none, [], false⟩])
  (.seq
  (.seq
  (.reg [⟨0, .q .mv, [.tmp 13], (some 50), none, [], false⟩,
    ⟨1, .q (.bin .neq), [.tmp 50, .const (.int .i64 0)], (some 51), none, [], false⟩])
  (.cond (.tmp 51)
   (.seq
   (.reg [⟨0, .q .mv, [.tmp 13], (some 52), none, [], false⟩,
     ⟨1, .q .mv, [.const (.slice none 0 0)], (some 2), none, [], false⟩,
     ⟨2, .q .mv, [.const (.int .i64 0)], (some 3), none, [], false⟩,
     ⟨3, .q .mv, [.tmp 52], (some 4), none, [], false⟩])
   .ret)
   .skip))
  (.seq
  (.reg [⟨0, .q .mv, [.tmp 15], (some 53), none, [], false⟩,
    ⟨1, .q .mv, [.tmp 53], (some 6), none, [], false⟩])
  (.seq
  (.seq
  (.reg [⟨0, .q .mv, [.tmp 11], (some 54), none, [], false⟩,
    ⟨1, .q .mv, [.tmp 9], (some 55), none, [], false⟩,
    ⟨2, .q (.bin .lss), [.tmp 54, .tmp 55], (some 56), none, [], false⟩,
    ⟨3, .q .mv, [.tmp 56], (some 57), none, [], false⟩,
    ⟨4, .q .mv, [.tmp 14], (some 58), (some (57, false)), [], false⟩,
    ⟨5, .q .mv, [.tmp 11], (some 59), (some (57, false)), [], false⟩,
    ⟨6, .q (.bin .sub), [.const (.int .i64 9223372036854775807), .tmp 59], (some 60), (some (57, false)), [], false⟩,
    ⟨7, .q (.bin .gtr), [.tmp 58, .tmp 60], (some 61), (some (57, false)), [], false⟩,
    ⟨8, .q .pick, [.tmp 57, .const (.bool true), .tmp 61], (some 62), none, [], false⟩])
  (.cond (.tmp 62)
   (.seq
   (.reg [⟨0, .q .mv, [.const (.slice none 0 0)], (some 2), none, [], false⟩,
     ⟨1, .q .mv, [.const (.int .i64 0)], (some 3), none, [], false⟩,
     ⟨2, .q .mv, [.const (.int .i64 3)], (some 4), none, [], false⟩])
   .ret)
   .skip))
  (.seq
  (.reg [⟨0, .q .mv, [.tmp 11], (some 63), none, [], false⟩,
    ⟨1, .q .mv, [.tmp 14], (some 64), none, [], false⟩,
    ⟨2, .q (.bin .add), [.tmp 63, .tmp 64], (some 65), none, [], false⟩,
    ⟨3, .q .mv, [.tmp 65], (some 9), none, [], false⟩])
  (.reg [⟨0, .q .mv, [.tmp 8], (some 66), none, [], false⟩,
    ⟨1, .q .mv, [.tmp 11], (some 67), none, [], false⟩,
    ⟨2, .q .mv, [.tmp 9], (some 68), none, [], false⟩,
    ⟨3, .q (.build #[(.int .i64 0), (.int .i64 0)] [(0, 1), (1, 1)]), [.tmp 67, .tmp 68], (some 69), none, [], false⟩,
    ⟨4, .e (.lits 51 #[(.int .i64 0), (.int .i64 0)] 1 [(0, 2)]), [.tmp 69], (some 70), none, [], false⟩,
    ⟨5, .e (.app 51 2 16 #[(.int .i64 0), (.int .i64 0)]), [.tmp 66, .tmp 70], (some 71), none, [], false⟩,
    ⟨6, .q .mv, [.tmp 71], (some 8), none, [], false⟩])))))))))
 (.reg [⟨0, .q .mv, [.tmp 10], (some 31), none, [], false⟩,
   ⟨1, .q (.bin .add), [.tmp 31, .const (.int .i64 1)], (some 32), none, [], false⟩,
   ⟨2, .q .mv, [.tmp 32], (some 10), none, [], false⟩])))
def L10_1 : LCode :=
 (.seq
 (.seq
 (.reg [⟨0, .q .mv, [.tmp 6], (some 72), none, [], false⟩,
   ⟨1, .q (.bin .rem), [.tmp 72, .const (.int .i64 512)], (some 73), none, [], false⟩,
   ⟨2, .q (.bin .neq), [.tmp 73, .const (.int .i64 0)], (some 74), none, [], false⟩])
 (.cond (.tmp 74)
  .skip
  (.exit 2)))
 (.seq
 (.block 3
  (.seq
  (.seq
  (.reg [⟨0, .q .mv, [.tmp 6], (some 77), none, [], false⟩,
    ⟨1, .q .mv, [.tmp 0], (some 78), none, [], false⟩,
    ⟨2, .q .len, [.tmp 78], (some 79), none, [], false⟩,
    ⟨3, .q (.bin .eql), [.tmp 77, .tmp 79], (some 80), none, [], false⟩])
  (.cond (.tmp 80)
   (.seq
   (.reg [⟨0, .q .mv, [.const (.slice none 0 0)], (some 2), none, [], false⟩,
     ⟨1, .q .mv, [.const (.int .i64 0)], (some 3), none, [], false⟩,
     ⟨2, .q .mv, [.const (.int .i64 4)], (some 4), none, [], false⟩])
   .ret)
   .skip))
  (.seq
  (.reg [⟨0, .q .mv, [.tmp 0], (some 81), none, [], false⟩,
    ⟨1, .q .mv, [.tmp 6], (some 82), none, [], false⟩,
    ⟨2, .q (.iad 1), [.tmp 81, .tmp 82], (some 83), none, [], false⟩,
    ⟨3, .q .ld, [.tmp 83], (some 84), none, [], false⟩,
    ⟨4, .q (.bin .neq), [.tmp 84, .const (.int .u8 0)], (some 85), none, [], false⟩])
  (.cond (.tmp 85)
   (.seq
   (.reg [⟨0, .q .mv, [.const (.slice none 0 0)], (some 2), none, [], false⟩,
     ⟨1, .q .mv, [.const (.int .i64 0)], (some 3), none, [], false⟩,
     ⟨2, .q .mv, [.const (.int .i64 3)], (some 4), none, [], false⟩])
   .ret)
   .skip))))
 (.reg [⟨0, .q .mv, [.tmp 6], (some 75), none, [], false⟩,
   ⟨1, .q (.bin .add), [.tmp 75, .const (.int .i64 1)], (some 76), none, [], false⟩,
   ⟨2, .q .mv, [.tmp 76], (some 6), none, [], false⟩])))
def L10 : LFn :=
 ⟨88, [.t 2, .t 3, .t 4],
 (.seq
 (.reg [⟨0, .q .mv, [.const (.slice none 0 0)], (some 2), none, [], false⟩,
   ⟨1, .q .mv, [.const (.int .i64 0)], (some 3), none, [], false⟩,
   ⟨2, .q .mv, [.const (.int .i64 0)], (some 4), none, [], false⟩])
 (.seq
 (.reg [⟨0, .q .mv, [.tmp 0], (some 17), none, [], false⟩,
   ⟨1, .e (.call 29), [.tmp 17, .const (.int .i64 0)], (some 18), none, [], false⟩,
   ⟨2, .q .mv, [.tmp 18], (some 16), none, [], false⟩,
   ⟨3, .q (.ext 0), [.tmp 16], (some 19), none, [], false⟩,
   ⟨4, .q (.ext 1), [.tmp 16], (some 20), none, [], false⟩,
   ⟨5, .q (.ext 2), [.tmp 16], (some 21), none, [], false⟩,
   ⟨6, .q .mv, [.tmp 19], (some 5), none, [], false⟩,
   ⟨7, .q .mv, [.tmp 20], (some 6), none, [], false⟩,
   ⟨8, .q .mv, [.tmp 21], (some 7), none, [], false⟩])
 (.seq
 (.seq
 (.reg [⟨0, .q .mv, [.tmp 7], (some 22), none, [], false⟩,
   ⟨1, .q (.bin .neq), [.tmp 22, .const (.int .i64 0)], (some 23), none, [], false⟩])
 (.cond (.tmp 23)
  (.seq
  (.reg [⟨0, .q .mv, [.tmp 7], (some 24), none, [], false⟩,
    ⟨1, .q .mv, [.const (.slice none 0 0)], (some 2), none, [], false⟩,
    ⟨2, .q .mv, [.const (.int .i64 0)], (some 3), none, [], false⟩,
    ⟨3, .q .mv, [.tmp 24], (some 4), none, [], false⟩])
  .ret)
  .skip))
 (.seq
 (.seq
 (.reg [⟨0, .q .mv, [.tmp 5], (some 25), none, [], false⟩,
   ⟨1, .q (.bin .gtr), [.tmp 25, .const (.int .i64 65536)], (some 26), none, [], false⟩])
 (.cond (.tmp 26)
  (.seq
  (.reg [⟨0, .q .mv, [.const (.slice none 0 0)], (some 2), none, [], false⟩,
    ⟨1, .q .mv, [.const (.int .i64 0)], (some 3), none, [], false⟩,
    ⟨2, .q .mv, [.const (.int .i64 2)], (some 4), none, [], false⟩])
  .ret)
  .skip))
 (.seq
 (.reg [⟨0, .e (.lits 51 #[] 0 []), [], (some 27), none, [], false⟩,
   ⟨1, .q .mv, [.tmp 27], (some 8), none, [], false⟩])
 (.seq
 (.reg [⟨0, .q .mv, [.const (.int .i64 0)], (some 9), none, [], false⟩])
 (.seq
 (.seq
 (.reg [⟨0, .q .mv, [.const (.int .i64 0)], (some 10), none, [], false⟩])
 (.block 0
  (.loop L10_0)))
 (.seq
 (.block 2
  (.loop L10_1))
 (.seq
 (.reg [⟨0, .q .mv, [.tmp 8], (some 86), none, [], false⟩,
   ⟨1, .q .mv, [.tmp 6], (some 87), none, [], false⟩,
   ⟨2, .q .mv, [.tmp 86], (some 2), none, [], false⟩,
   ⟨3, .q .mv, [.tmp 87], (some 3), none, [], false⟩,
   ⟨4, .q .mv, [.const (.int .i64 0)], (some 4), none, [], false⟩])
 .ret)))))))))⟩
theorem low10 : lowFn Tryd.prog Tryd.f10 = some L10 := by kernel_rfl
theorem call10 {args : List Value} {H : Heap} {S : Ending → Heap → Prop} (hn : args.length ≤ L10.n) (h : awpC Tryd.prog L10.body (retQ L10.results S) (fun ch H => S (.panicked ch) H) (env0 args) H) : ACalls Tryd.prog 10 args.toArray H S := acalls mixed Tryd.func10 low10 hn h
end Go.Proofs.YthflafgijfbpnaaDoor.Low
