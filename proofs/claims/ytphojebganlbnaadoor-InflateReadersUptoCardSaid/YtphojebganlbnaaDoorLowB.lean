/-
  Functions in short (out of the program's form in Lean, by the kernel).
-/
import Derived.Test.YtphojebganlbnaaDoorSepDfr
import Derived.Test.YtphojebganlbnaaDoorProg
namespace Go.Proofs.YtphojebganlbnaaDoor.Low
open Go Go.Proofs.YtphojebganlbnaaDoor.Sep
theorem mixed : Tryd.prog.follows .mixedOrders = true := by kernel_rfl
/-- satchel/bits.NewReader -/
def L32 : LFn :=
 ⟨7, [.t 2],
 (.seq
 (.reg [⟨0, .q .mv, [.const (.pointer none)], (some 2), none, [], false⟩])
 (.seq
 (.reg [⟨0, .q .mv, [.tmp 0], (some 3), none, [], false⟩,
   ⟨1, .e (.call 31), [.tmp 3], (some 4), none, [], false⟩,
   ⟨2, .q (.build #[(.slice none 0 0), (.int .i64 0)] [(0, 1)]), [.tmp 4], (some 5), none, [], false⟩,
   ⟨3, .e (.box 81), [.tmp 5], (some 6), none, [], false⟩,
   ⟨4, .q .mv, [.tmp 6], (some 2), none, [], false⟩])
 .ret))⟩
theorem low32 : lowFn Tryd.prog Tryd.f32 = some L32 := by kernel_rfl
theorem call32 {args : List Value} {H : Heap} {S : Ending → Heap → Prop} (hn : args.length ≤ L32.n) (h : awpC Tryd.prog L32.body (retQ L32.results S) (fun ch H => S (.panicked ch) H) (env0 args) H) : ACalls Tryd.prog 32 args.toArray H S := acalls mixed Tryd.func32 low32 hn h
/-- (*satchel/bits.Reader).Left -/
def L39 : LFn :=
 ⟨14, [.t 2],
 (.seq
 (.reg [⟨0, .q .mv, [.const (.int .i64 0)], (some 2), none, [], false⟩])
 (.seq
 (.reg [⟨0, .q .mv, [.tmp 0], (some 3), none, [], false⟩,
   ⟨1, .q .nilc, [.tmp 3], (some 4), none, [], false⟩,
   ⟨2, .q (.fad 0), [.tmp 4], (some 5), none, [], false⟩,
   ⟨3, .q .ld, [.tmp 5], (some 6), none, [], false⟩,
   ⟨4, .q .len, [.tmp 6], (some 7), none, [], false⟩,
   ⟨5, .q (.bin .mul), [.const (.int .i64 8), .tmp 7], (some 8), none, [], false⟩,
   ⟨6, .q .mv, [.tmp 0], (some 9), none, [], false⟩,
   ⟨7, .q .nilc, [.tmp 9], (some 10), none, [], false⟩,
   ⟨8, .q (.fad 1), [.tmp 10], (some 11), none, [], false⟩,
   ⟨9, .q .ld, [.tmp 11], (some 12), none, [], false⟩,
   ⟨10, .q (.bin .sub), [.tmp 8, .tmp 12], (some 13), none, [], false⟩,
   ⟨11, .q .mv, [.tmp 13], (some 2), none, [], false⟩])
 .ret))⟩
theorem low39 : lowFn Tryd.prog Tryd.f39 = some L39 := by kernel_rfl
theorem call39 {args : List Value} {H : Heap} {S : Ending → Heap → Prop} (hn : args.length ≤ L39.n) (h : awpC Tryd.prog L39.body (retQ L39.results S) (fun ch H => S (.panicked ch) H) (env0 args) H) : ACalls Tryd.prog 39 args.toArray H S := acalls mixed Tryd.func39 low39 hn h
/-- (*satchel/bits.Reader).Take -/
def L46_0 : LCode :=
 (.seq
 (.reg [⟨0, .q (.bin .lss), [.tmp 21, .tmp 20], (some 22), none, [], false⟩])
 (.seq
 (.cond (.tmp 22)
  .skip
  (.exit 1))
 (.seq
 (.block 2
  (.seq
  (.reg [⟨0, .q .mv, [.tmp 21], (some 23), none, [], false⟩,
    ⟨1, .q .mv, [.tmp 23], (some 7), none, [], false⟩])
  (.reg [⟨0, .q .mv, [.tmp 6], (some 24), none, [], false⟩,
    ⟨1, .q .mv, [.tmp 0], (some 25), none, [], false⟩,
    ⟨2, .q .mv, [.tmp 7], (some 26), none, [], false⟩,
    ⟨3, .e (.call 66), [.tmp 25, .tmp 26], (some 27), none, [], false⟩,
    ⟨4, .q .mv, [.tmp 7], (some 28), none, [], false⟩,
    ⟨5, .q (.bin .shl), [.tmp 27, .tmp 28], (some 29), none, [], false⟩,
    ⟨6, .q (.bin .or), [.tmp 24, .tmp 29], (some 30), none, [], false⟩,
    ⟨7, .q .mv, [.tmp 30], (some 6), none, [], false⟩])))
 (.reg [⟨0, .q (.bin .add), [.tmp 21, .const (.int .i64 1)], (some 31), none, [], false⟩,
   ⟨1, .q .mv, [.tmp 31], (some 21), none, [], false⟩]))))
def L46 : LFn :=
 ⟨41, [.t 4, .t 5],
 (.seq
 (.reg [⟨0, .q .mv, [.const (.int .u32 0)], (some 4), none, [], false⟩,
   ⟨1, .q .mv, [.const (.int .i64 0)], (some 5), none, [], false⟩])
 (.seq
 (.block 0
  (.seq
  (.reg [⟨0, .q .mv, [.tmp 1], (some 9), none, [], false⟩,
    ⟨1, .q (.bin .lss), [.tmp 9, .const (.int .i64 0)], (some 10), none, [], false⟩,
    ⟨2, .q .mv, [.tmp 10], (some 11), none, [], false⟩,
    ⟨3, .q .mv, [.tmp 1], (some 12), (some (11, false)), [], false⟩,
    ⟨4, .q (.bin .gtr), [.tmp 12, .const (.int .i64 32)], (some 13), (some (11, false)), [], false⟩,
    ⟨5, .q .pick, [.tmp 11, .const (.bool true), .tmp 13], (some 14), none, [], false⟩,
    ⟨6, .q .mv, [.tmp 14], (some 8), none, [], false⟩])
  (.cond (.tmp 8)
   (.seq
   (.reg [⟨0, .q .mv, [.const (.int .u32 0)], (some 4), none, [], false⟩,
     ⟨1, .q .mv, [.const (.int .i64 1)], (some 5), none, [], false⟩])
   .ret)
   (.seq
   (.reg [⟨0, .q .mv, [.tmp 1], (some 16), none, [], false⟩,
     ⟨1, .q .mv, [.tmp 0], (some 17), none, [], false⟩,
     ⟨2, .e (.call 65), [.tmp 17], (some 18), none, [], false⟩,
     ⟨3, .q (.bin .gtr), [.tmp 16, .tmp 18], (some 19), none, [], false⟩,
     ⟨4, .q .mv, [.tmp 19], (some 15), none, [], false⟩])
   (.cond (.tmp 15)
    (.seq
    (.reg [⟨0, .q .mv, [.const (.int .u32 0)], (some 4), none, [], false⟩,
      ⟨1, .q .mv, [.const (.int .i64 50)], (some 5), none, [], false⟩])
    .ret)
    .skip)))))
 (.seq
 (.reg [⟨0, .q .mv, [.const (.int .u32 0)], (some 6), none, [], false⟩])
 (.seq
 (.seq
 (.reg [⟨0, .q .mv, [.tmp 1], (some 20), none, [], false⟩,
   ⟨1, .q .mv, [.const (.int .i64 0)], (some 21), none, [], false⟩])
 (.block 1
  (.loop L46_0)))
 (.seq
 (.reg [⟨0, .q .mv, [.tmp 0], (some 32), none, [], false⟩,
   ⟨1, .q .nilc, [.tmp 32], (some 33), none, [], false⟩,
   ⟨2, .q (.fad 1), [.tmp 33], (some 34), none, [], false⟩,
   ⟨3, .q .ld, [.tmp 34], (some 35), none, [], false⟩,
   ⟨4, .q .mv, [.tmp 1], (some 36), none, [], false⟩,
   ⟨5, .q (.bin .add), [.tmp 35, .tmp 36], (some 37), none, [], false⟩,
   ⟨6, .q .nilc, [.tmp 32], (some 38), none, [], false⟩,
   ⟨7, .q (.fad 1), [.tmp 38], (some 39), none, [], false⟩,
   ⟨8, .e (.st 1), [.tmp 39, .tmp 37], none, none, [], false⟩])
 (.seq
 (.reg [⟨0, .q .mv, [.tmp 6], (some 40), none, [], false⟩,
   ⟨1, .q .mv, [.tmp 40], (some 4), none, [], false⟩,
   ⟨2, .q .mv, [.const (.int .i64 0)], (some 5), none, [], false⟩])
 .ret))))))⟩
theorem low46 : lowFn Tryd.prog Tryd.f46 = some L46 := by kernel_rfl
theorem call46 {args : List Value} {H : Heap} {S : Ending → Heap → Prop} (hn : args.length ≤ L46.n) (h : awpC Tryd.prog L46.body (retQ L46.results S) (fun ch H => S (.panicked ch) H) (env0 args) H) : ACalls Tryd.prog 46 args.toArray H S := acalls mixed Tryd.func46 low46 hn h
/-- (*satchel/bits.Reader).Align -/
def L47 : LFn :=
 ⟨12, [],
 (.reg [⟨0, .q .mv, [.tmp 0], (some 2), none, [], false⟩,
   ⟨1, .q .mv, [.tmp 0], (some 3), none, [], false⟩,
   ⟨2, .q .nilc, [.tmp 3], (some 4), none, [], false⟩,
   ⟨3, .q (.fad 1), [.tmp 4], (some 5), none, [], false⟩,
   ⟨4, .q .ld, [.tmp 5], (some 6), none, [], false⟩,
   ⟨5, .q (.bin .add), [.tmp 6, .const (.int .i64 7)], (some 7), none, [], false⟩,
   ⟨6, .q (.bin .quo), [.tmp 7, .const (.int .i64 8)], (some 8), none, [], false⟩,
   ⟨7, .q (.bin .mul), [.tmp 8, .const (.int .i64 8)], (some 9), none, [], false⟩,
   ⟨8, .q .nilc, [.tmp 2], (some 10), none, [], false⟩,
   ⟨9, .q (.fad 1), [.tmp 10], (some 11), none, [], false⟩,
   ⟨10, .e (.st 1), [.tmp 11, .tmp 9], none, none, [], false⟩])⟩
theorem low47 : lowFn Tryd.prog Tryd.f47 = some L47 := by kernel_rfl
theorem call47 {args : List Value} {H : Heap} {S : Ending → Heap → Prop} (hn : args.length ≤ L47.n) (h : awpC Tryd.prog L47.body (retQ L47.results S) (fun ch H => S (.panicked ch) H) (env0 args) H) : ACalls Tryd.prog 47 args.toArray H S := acalls mixed Tryd.func47 low47 hn h
/-- (*satchel/bits.Reader).Bytes -/
def L49 : LFn :=
 ⟨50, [.t 4, .t 5],
 (.seq
 (.reg [⟨0, .q .mv, [.const (.slice none 0 0)], (some 4), none, [], false⟩,
   ⟨1, .q .mv, [.const (.int .i64 0)], (some 5), none, [], false⟩])
 (.seq
 (.reg [⟨0, .q .mv, [.tmp 0], (some 7), none, [], false⟩,
   ⟨1, .q .mv, [.tmp 0], (some 8), none, [], false⟩,
   ⟨2, .q .nilc, [.tmp 8], (some 9), none, [], false⟩,
   ⟨3, .q (.fad 1), [.tmp 9], (some 10), none, [], false⟩,
   ⟨4, .q .ld, [.tmp 10], (some 11), none, [], false⟩,
   ⟨5, .q (.bin .add), [.tmp 11, .const (.int .i64 7)], (some 12), none, [], false⟩,
   ⟨6, .q (.bin .quo), [.tmp 12, .const (.int .i64 8)], (some 13), none, [], false⟩,
   ⟨7, .q (.bin .mul), [.tmp 13, .const (.int .i64 8)], (some 14), none, [], false⟩,
   ⟨8, .q .nilc, [.tmp 7], (some 15), none, [], false⟩,
   ⟨9, .q (.fad 1), [.tmp 15], (some 16), none, [], false⟩,
   ⟨10, .e (.st 1), [.tmp 16, .tmp 14], none, none, [], false⟩])
 (.seq
 (.block 0
  (.seq
  (.reg [⟨0, .q .mv, [.tmp 1], (some 18), none, [], false⟩,
    ⟨1, .q (.bin .lss), [.tmp 18, .const (.int .i64 0)], (some 19), none, [], false⟩,
    ⟨2, .q .mv, [.tmp 19], (some 17), none, [], false⟩])
  (.cond (.tmp 17)
   (.seq
   (.reg [⟨0, .q .mv, [.const (.slice none 0 0)], (some 4), none, [], false⟩,
     ⟨1, .q .mv, [.const (.int .i64 1)], (some 5), none, [], false⟩])
   .ret)
   (.seq
   (.reg [⟨0, .q .mv, [.tmp 1], (some 21), none, [], false⟩,
     ⟨1, .q .mv, [.tmp 0], (some 22), none, [], false⟩,
     ⟨2, .e (.call 65), [.tmp 22], (some 23), none, [], false⟩,
     ⟨3, .q (.bin .quo), [.tmp 23, .const (.int .i64 8)], (some 24), none, [], false⟩,
     ⟨4, .q (.bin .gtr), [.tmp 21, .tmp 24], (some 25), none, [], false⟩,
     ⟨5, .q .mv, [.tmp 25], (some 20), none, [], false⟩])
   (.cond (.tmp 20)
    (.seq
    (.reg [⟨0, .q .mv, [.const (.slice none 0 0)], (some 4), none, [], false⟩,
      ⟨1, .q .mv, [.const (.int .i64 50)], (some 5), none, [], false⟩])
    .ret)
    .skip)))))
 (.seq
 (.reg [⟨0, .q .mv, [.tmp 0], (some 26), none, [], false⟩,
   ⟨1, .q .nilc, [.tmp 26], (some 27), none, [], false⟩,
   ⟨2, .q (.fad 1), [.tmp 27], (some 28), none, [], false⟩,
   ⟨3, .q .ld, [.tmp 28], (some 29), none, [], false⟩,
   ⟨4, .q (.bin .quo), [.tmp 29, .const (.int .i64 8)], (some 30), none, [], false⟩,
   ⟨5, .q .mv, [.tmp 30], (some 6), none, [], false⟩])
 (.seq
 (.reg [⟨0, .q .mv, [.tmp 0], (some 31), none, [], false⟩,
   ⟨1, .q .nilc, [.tmp 31], (some 32), none, [], false⟩,
   ⟨2, .q (.fad 1), [.tmp 32], (some 33), none, [], false⟩,
   ⟨3, .q .ld, [.tmp 33], (some 34), none, [], false⟩,
   ⟨4, .q .mv, [.tmp 1], (some 35), none, [], false⟩,
   ⟨5, .q (.bin .mul), [.const (.int .i64 8), .tmp 35], (some 36), none, [], false⟩,
   ⟨6, .q (.bin .add), [.tmp 34, .tmp 36], (some 37), none, [], false⟩,
   ⟨7, .q .nilc, [.tmp 31], (some 38), none, [], false⟩,
   ⟨8, .q (.fad 1), [.tmp 38], (some 39), none, [], false⟩,
   ⟨9, .e (.st 1), [.tmp 39, .tmp 37], none, none, [], false⟩])
 (.seq
 (.reg [⟨0, .q .mv, [.tmp 0], (some 40), none, [], false⟩,
   ⟨1, .q .nilc, [.tmp 40], (some 41), none, [], false⟩,
   ⟨2, .q (.fad 0), [.tmp 41], (some 42), none, [], false⟩,
   ⟨3, .q .ld, [.tmp 42], (some 43), none, [], false⟩,
   ⟨4, .q .mv, [.tmp 6], (some 44), none, [], false⟩,
   ⟨5, .q .mv, [.tmp 6], (some 45), none, [], false⟩,
   ⟨6, .q .mv, [.tmp 1], (some 46), none, [], false⟩,
   ⟨7, .q (.bin .add), [.tmp 45, .tmp 46], (some 47), none, [], false⟩,
   ⟨8, .q (.slc 1 true true false), [.tmp 43, .tmp 44, .tmp 47], (some 48), none, [], false⟩,
   ⟨9, .e (.call 31), [.tmp 48], (some 49), none, [], false⟩,
   ⟨10, .q .mv, [.tmp 49], (some 4), none, [], false⟩,
   ⟨11, .q .mv, [.const (.int .i64 0)], (some 5), none, [], false⟩])
 .ret))))))⟩
theorem low49 : lowFn Tryd.prog Tryd.f49 = some L49 := by kernel_rfl
theorem call49 {args : List Value} {H : Heap} {S : Ending → Heap → Prop} (hn : args.length ≤ L49.n) (h : awpC Tryd.prog L49.body (retQ L49.results S) (fun ch H => S (.panicked ch) H) (env0 args) H) : ACalls Tryd.prog 49 args.toArray H S := acalls mixed Tryd.func49 low49 hn h
/-- (*satchel/bits.Reader).left -/
def L65 : LFn :=
 ⟨14, [.t 2],
 (.seq
 (.reg [⟨0, .q .mv, [.const (.int .i64 0)], (some 2), none, [], false⟩])
 (.seq
 (.reg [⟨0, .q .mv, [.tmp 0], (some 3), none, [], false⟩,
   ⟨1, .q .nilc, [.tmp 3], (some 4), none, [], false⟩,
   ⟨2, .q (.fad 0), [.tmp 4], (some 5), none, [], false⟩,
   ⟨3, .q .ld, [.tmp 5], (some 6), none, [], false⟩,
   ⟨4, .q .len, [.tmp 6], (some 7), none, [], false⟩,
   ⟨5, .q (.bin .mul), [.const (.int .i64 8), .tmp 7], (some 8), none, [], false⟩,
   ⟨6, .q .mv, [.tmp 0], (some 9), none, [], false⟩,
   ⟨7, .q .nilc, [.tmp 9], (some 10), none, [], false⟩,
   ⟨8, .q (.fad 1), [.tmp 10], (some 11), none, [], false⟩,
   ⟨9, .q .ld, [.tmp 11], (some 12), none, [], false⟩,
   ⟨10, .q (.bin .sub), [.tmp 8, .tmp 12], (some 13), none, [], false⟩,
   ⟨11, .q .mv, [.tmp 13], (some 2), none, [], false⟩])
 .ret))⟩
theorem low65 : lowFn Tryd.prog Tryd.f65 = some L65 := by kernel_rfl
theorem call65 {args : List Value} {H : Heap} {S : Ending → Heap → Prop} (hn : args.length ≤ L65.n) (h : awpC Tryd.prog L65.body (retQ L65.results S) (fun ch H => S (.panicked ch) H) (env0 args) H) : ACalls Tryd.prog 65 args.toArray H S := acalls mixed Tryd.func65 low65 hn h
/-- (*satchel/bits.Reader).bit -/
def L66 : LFn :=
 ⟨24, [.t 4],
 (.seq
 (.reg [⟨0, .q .mv, [.const (.int .u32 0)], (some 4), none, [], false⟩])
 (.seq
 (.reg [⟨0, .q .mv, [.tmp 1], (some 5), none, [], false⟩,
   ⟨1, .q .mv, [.tmp 0], (some 6), none, [], false⟩,
   ⟨2, .q .nilc, [.tmp 6], (some 7), none, [], false⟩,
   ⟨3, .q (.fad 1), [.tmp 7], (some 8), none, [], false⟩,
   ⟨4, .q .ld, [.tmp 8], (some 9), none, [], false⟩,
   ⟨5, .q (.bin .add), [.tmp 5, .tmp 9], (some 10), none, [], false⟩,
   ⟨6, .q .mv, [.tmp 10], (some 1), none, [], false⟩])
 (.seq
 (.reg [⟨0, .q .mv, [.tmp 0], (some 11), none, [], false⟩,
   ⟨1, .q .nilc, [.tmp 11], (some 12), none, [], false⟩,
   ⟨2, .q (.fad 0), [.tmp 12], (some 13), none, [], false⟩,
   ⟨3, .q .ld, [.tmp 13], (some 14), none, [], false⟩,
   ⟨4, .q .mv, [.tmp 1], (some 15), none, [], false⟩,
   ⟨5, .q (.bin .quo), [.tmp 15, .const (.int .i64 8)], (some 16), none, [], false⟩,
   ⟨6, .q (.iad 1), [.tmp 14, .tmp 16], (some 17), none, [], false⟩,
   ⟨7, .q .ld, [.tmp 17], (some 18), none, [], false⟩,
   ⟨8, .q .mv, [.tmp 1], (some 19), none, [], false⟩,
   ⟨9, .q (.bin .rem), [.tmp 19, .const (.int .i64 8)], (some 20), none, [], false⟩,
   ⟨10, .q (.bin .shr), [.tmp 18, .tmp 20], (some 21), none, [], false⟩,
   ⟨11, .q (.cvi .u32), [.tmp 21], (some 22), none, [], false⟩,
   ⟨12, .q (.bin .and), [.tmp 22, .const (.int .u32 1)], (some 23), none, [], false⟩,
   ⟨13, .q .mv, [.tmp 23], (some 4), none, [], false⟩])
 .ret)))⟩
theorem low66 : lowFn Tryd.prog Tryd.f66 = some L66 := by kernel_rfl
theorem call66 {args : List Value} {H : Heap} {S : Ending → Heap → Prop} (hn : args.length ≤ L66.n) (h : awpC Tryd.prog L66.body (retQ L66.results S) (fun ch H => S (.panicked ch) H) (env0 args) H) : ACalls Tryd.prog 66 args.toArray H S := acalls mixed Tryd.func66 low66 hn h
end Go.Proofs.YtphojebganlbnaaDoor.Low
