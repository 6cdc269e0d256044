/-
  Functions in short (out of the program's form in Lean, by the kernel).
-/
import Derived.Test.YtfdcolicpfellaaSepCode
import Derived.Test.YtfdcolicpfellaaProg
namespace Go.Proofs.Ytfdcolicpfellaa.Low
open Go Go.Proofs.Ytfdcolicpfellaa.Sep
theorem mixed : Try.prog.follows .mixedOrders = true := by kernel_rfl
/-- satchel/bits.NewReader -/
def L23 : LFn :=
 ⟨7, [.t 2],
 (.seq
 (.reg [⟨0, .q .mv, [.const (.pointer none)], (some 2), none, [], false⟩])
 (.seq
 (.reg [⟨0, .q .mv, [.tmp 0], (some 3), none, [], false⟩,
   ⟨1, .e (.call 44), [.tmp 3], (some 4), none, [], false⟩,
   ⟨2, .q (.build #[(.slice none 0 0), (.int .i64 0)] [(0, 1)]), [.tmp 4], (some 5), none, [], false⟩,
   ⟨3, .e (.box 85), [.tmp 5], (some 6), none, [], false⟩,
   ⟨4, .q .mv, [.tmp 6], (some 2), none, [], false⟩])
 .ret))⟩
theorem low23 : lowFn Try.prog Try.f23 = some L23 := by kernel_rfl
theorem call23 {args : List Value} {H : Heap} {S : Ending → Heap → Prop} (hn : args.length ≤ L23.n) (h : awpC Try.prog L23.body (retQ L23.results S) (fun ch H => S (.panicked ch) H) (env0 args) H) : ACalls Try.prog 23 args.toArray H S := acalls mixed Try.func23 low23 hn h
/-- (*satchel/bits.Reader).Take -/
def L25_0 : LCode :=
 (.seq
 (.reg [⟨0, .q (.bin .lss), [.tmp 21, .tmp 20], (some 22), none, [], false⟩])
 (.seq
 (.cond (.tmp 22)
  .skip
  (.exit 1))
 (.seq
 (.block 2
  (.seq
  (.reg [⟨0, .q .mv, [.tmp 21], (some 23), none, [], false⟩,
    ⟨1, .q .mv, [.tmp 23], (some 7), none, [], false⟩])
  (.reg [⟨0, .q .mv, [.tmp 6], (some 24), none, [], false⟩,
    ⟨1, .q .mv, [.tmp 0], (some 25), none, [], false⟩,
    ⟨2, .q .mv, [.tmp 7], (some 26), none, [], false⟩,
    ⟨3, .e (.call 46), [.tmp 25, .tmp 26], (some 27), none, [], false⟩,
    ⟨4, .q .mv, [.tmp 7], (some 28), none, [], false⟩,
    ⟨5, .q (.bin .shl), [.tmp 27, .tmp 28], (some 29), none, [], false⟩,
    ⟨6, .q (.bin .or), [.tmp 24, .tmp 29], (some 30), none, [], false⟩,
    ⟨7, .q .mv, [.tmp 30], (some 6), none, [], false⟩])))
 (.reg [⟨0, .q (.bin .add), [.tmp 21, .const (.int .i64 1)], (some 31), none, [], false⟩,
   ⟨1, .q .mv, [.tmp 31], (some 21), none, [], false⟩]))))
def L25 : LFn :=
 ⟨41, [.t 4, .t 5],
 (.seq
 (.reg [⟨0, .q .mv, [.const (.int .u32 0)], (some 4), none, [], false⟩,
   ⟨1, .q .mv, [.const (.int .i64 0)], (some 5), none, [], false⟩])
 (.seq
 (.block 0
  (.seq
  (.reg [⟨0, .q .mv, [.tmp 1], (some 9), none, [], false⟩,
    ⟨1, .q (.bin .lss), [.tmp 9, .const (.int .i64 0)], (some 10), none, [], false⟩,
    ⟨2, .q .mv, [.tmp 10], (some 11), none, [], false⟩,
    ⟨3, .q .mv, [.tmp 1], (some 12), (some (11, false)), [], false⟩,
    ⟨4, .q (.bin .gtr), [.tmp 12, .const (.int .i64 32)], (some 13), (some (11, false)), [], false⟩,
    ⟨5, .q .pick, [.tmp 11, .const (.bool true), .tmp 13], (some 14), none, [], false⟩,
    ⟨6, .q .mv, [.tmp 14], (some 8), none, [], false⟩])
  (.cond (.tmp 8)
   (.seq
   (.reg [⟨0, .q .mv, [.const (.int .u32 0)], (some 4), none, [], false⟩,
     ⟨1, .q .mv, [.const (.int .i64 1)], (some 5), none, [], false⟩])
   .ret)
   (.seq
   (.reg [⟨0, .q .mv, [.tmp 1], (some 16), none, [], false⟩,
     ⟨1, .q .mv, [.tmp 0], (some 17), none, [], false⟩,
     ⟨2, .e (.call 45), [.tmp 17], (some 18), none, [], false⟩,
     ⟨3, .q (.bin .gtr), [.tmp 16, .tmp 18], (some 19), none, [], false⟩,
     ⟨4, .q .mv, [.tmp 19], (some 15), none, [], false⟩])
   (.cond (.tmp 15)
    (.seq
    (.reg [⟨0, .q .mv, [.const (.int .u32 0)], (some 4), none, [], false⟩,
      ⟨1, .q .mv, [.const (.int .i64 50)], (some 5), none, [], false⟩])
    .ret)
    .skip)))))
 (.seq
 (.reg [⟨0, .q .mv, [.const (.int .u32 0)], (some 6), none, [], false⟩])
 (.seq
 (.seq
 (.reg [⟨0, .q .mv, [.tmp 1], (some 20), none, [], false⟩,
   ⟨1, .q .mv, [.const (.int .i64 0)], (some 21), none, [], false⟩])
 (.block 1
  (.loop L25_0)))
 (.seq
 (.reg [⟨0, .q .mv, [.tmp 0], (some 32), none, [], false⟩,
   ⟨1, .q .nilc, [.tmp 32], (some 33), none, [], false⟩,
   ⟨2, .q (.fad 1), [.tmp 33], (some 34), none, [], false⟩,
   ⟨3, .q .ld, [.tmp 34], (some 35), none, [], false⟩,
   ⟨4, .q .mv, [.tmp 1], (some 36), none, [], false⟩,
   ⟨5, .q (.bin .add), [.tmp 35, .tmp 36], (some 37), none, [], false⟩,
   ⟨6, .q .nilc, [.tmp 32], (some 38), none, [], false⟩,
   ⟨7, .q (.fad 1), [.tmp 38], (some 39), none, [], false⟩,
   ⟨8, .e (.st 1), [.tmp 39, .tmp 37], none, none, [], false⟩])
 (.seq
 (.reg [⟨0, .q .mv, [.tmp 6], (some 40), none, [], false⟩,
   ⟨1, .q .mv, [.tmp 40], (some 4), none, [], false⟩,
   ⟨2, .q .mv, [.const (.int .i64 0)], (some 5), none, [], false⟩])
 .ret))))))⟩
theorem low25 : lowFn Try.prog Try.f25 = some L25 := by kernel_rfl
theorem call25 {args : List Value} {H : Heap} {S : Ending → Heap → Prop} (hn : args.length ≤ L25.n) (h : awpC Try.prog L25.body (retQ L25.results S) (fun ch H => S (.panicked ch) H) (env0 args) H) : ACalls Try.prog 25 args.toArray H S := acalls mixed Try.func25 low25 hn h
/-- (*satchel/bits.Reader).bit -/
def L46 : LFn :=
 ⟨24, [.t 4],
 (.seq
 (.reg [⟨0, .q .mv, [.const (.int .u32 0)], (some 4), none, [], false⟩])
 (.seq
 (.reg [⟨0, .q .mv, [.tmp 1], (some 5), none, [], false⟩,
   ⟨1, .q .mv, [.tmp 0], (some 6), none, [], false⟩,
   ⟨2, .q .nilc, [.tmp 6], (some 7), none, [], false⟩,
   ⟨3, .q (.fad 1), [.tmp 7], (some 8), none, [], false⟩,
   ⟨4, .q .ld, [.tmp 8], (some 9), none, [], false⟩,
   ⟨5, .q (.bin .add), [.tmp 5, .tmp 9], (some 10), none, [], false⟩,
   ⟨6, .q .mv, [.tmp 10], (some 1), none, [], false⟩])
 (.seq
 (.reg [⟨0, .q .mv, [.tmp 0], (some 11), none, [], false⟩,
   ⟨1, .q .nilc, [.tmp 11], (some 12), none, [], false⟩,
   ⟨2, .q (.fad 0), [.tmp 12], (some 13), none, [], false⟩,
   ⟨3, .q .ld, [.tmp 13], (some 14), none, [], false⟩,
   ⟨4, .q .mv, [.tmp 1], (some 15), none, [], false⟩,
   ⟨5, .q (.bin .quo), [.tmp 15, .const (.int .i64 8)], (some 16), none, [], false⟩,
   ⟨6, .q (.iad 1), [.tmp 14, .tmp 16], (some 17), none, [], false⟩,
   ⟨7, .q .ld, [.tmp 17], (some 18), none, [], false⟩,
   ⟨8, .q .mv, [.tmp 1], (some 19), none, [], false⟩,
   ⟨9, .q (.bin .rem), [.tmp 19, .const (.int .i64 8)], (some 20), none, [], false⟩,
   ⟨10, .q (.bin .shr), [.tmp 18, .tmp 20], (some 21), none, [], false⟩,
   ⟨11, .q (.cvi .u32), [.tmp 21], (some 22), none, [], false⟩,
   ⟨12, .q (.bin .and), [.tmp 22, .const (.int .u32 1)], (some 23), none, [], false⟩,
   ⟨13, .q .mv, [.tmp 23], (some 4), none, [], false⟩])
 .ret)))⟩
theorem low46 : lowFn Try.prog Try.f46 = some L46 := by kernel_rfl
theorem call46 {args : List Value} {H : Heap} {S : Ending → Heap → Prop} (hn : args.length ≤ L46.n) (h : awpC Try.prog L46.body (retQ L46.results S) (fun ch H => S (.panicked ch) H) (env0 args) H) : ACalls Try.prog 46 args.toArray H S := acalls mixed Try.func46 low46 hn h
/-- (*satchel/bits.Reader).left -/
def L45 : LFn :=
 ⟨14, [.t 2],
 (.seq
 (.reg [⟨0, .q .mv, [.const (.int .i64 0)], (some 2), none, [], false⟩])
 (.seq
 (.reg [⟨0, .q .mv, [.tmp 0], (some 3), none, [], false⟩,
   ⟨1, .q .nilc, [.tmp 3], (some 4), none, [], false⟩,
   ⟨2, .q (.fad 0), [.tmp 4], (some 5), none, [], false⟩,
   ⟨3, .q .ld, [.tmp 5], (some 6), none, [], false⟩,
   ⟨4, .q .len, [.tmp 6], (some 7), none, [], false⟩,
   ⟨5, .q (.bin .mul), [.const (.int .i64 8), .tmp 7], (some 8), none, [], false⟩,
   ⟨6, .q .mv, [.tmp 0], (some 9), none, [], false⟩,
   ⟨7, .q .nilc, [.tmp 9], (some 10), none, [], false⟩,
   ⟨8, .q (.fad 1), [.tmp 10], (some 11), none, [], false⟩,
   ⟨9, .q .ld, [.tmp 11], (some 12), none, [], false⟩,
   ⟨10, .q (.bin .sub), [.tmp 8, .tmp 12], (some 13), none, [], false⟩,
   ⟨11, .q .mv, [.tmp 13], (some 2), none, [], false⟩])
 .ret))⟩
theorem low45 : lowFn Try.prog Try.f45 = some L45 := by kernel_rfl
theorem call45 {args : List Value} {H : Heap} {S : Ending → Heap → Prop} (hn : args.length ≤ L45.n) (h : awpC Try.prog L45.body (retQ L45.results S) (fun ch H => S (.panicked ch) H) (env0 args) H) : ACalls Try.prog 45 args.toArray H S := acalls mixed Try.func45 low45 hn h
/-- (*satchel/bits.Reader).Align -/
def L27 : LFn :=
 ⟨12, [],
 (.reg [⟨0, .q .mv, [.tmp 0], (some 2), none, [], false⟩,
   ⟨1, .q .mv, [.tmp 0], (some 3), none, [], false⟩,
   ⟨2, .q .nilc, [.tmp 3], (some 4), none, [], false⟩,
   ⟨3, .q (.fad 1), [.tmp 4], (some 5), none, [], false⟩,
   ⟨4, .q .ld, [.tmp 5], (some 6), none, [], false⟩,
   ⟨5, .q (.bin .add), [.tmp 6, .const (.int .i64 7)], (some 7), none, [], false⟩,
   ⟨6, .q (.bin .quo), [.tmp 7, .const (.int .i64 8)], (some 8), none, [], false⟩,
   ⟨7, .q (.bin .mul), [.tmp 8, .const (.int .i64 8)], (some 9), none, [], false⟩,
   ⟨8, .q .nilc, [.tmp 2], (some 10), none, [], false⟩,
   ⟨9, .q (.fad 1), [.tmp 10], (some 11), none, [], false⟩,
   ⟨10, .e (.st 1), [.tmp 11, .tmp 9], none, none, [], false⟩])⟩
theorem low27 : lowFn Try.prog Try.f27 = some L27 := by kernel_rfl
theorem call27 {args : List Value} {H : Heap} {S : Ending → Heap → Prop} (hn : args.length ≤ L27.n) (h : awpC Try.prog L27.body (retQ L27.results S) (fun ch H => S (.panicked ch) H) (env0 args) H) : ACalls Try.prog 27 args.toArray H S := acalls mixed Try.func27 low27 hn h
/-- (*satchel/bits.Reader).Bytes -/
def L29 : LFn :=
 ⟨50, [.t 4, .t 5],
 (.seq
 (.reg [⟨0, .q .mv, [.const (.slice none 0 0)], (some 4), none, [], false⟩,
   ⟨1, .q .mv, [.const (.int .i64 0)], (some 5), none, [], false⟩])
 (.seq
 (.reg [⟨0, .q .mv, [.tmp 0], (some 7), none, [], false⟩,
   ⟨1, .q .mv, [.tmp 0], (some 8), none, [], false⟩,
   ⟨2, .q .nilc, [.tmp 8], (some 9), none, [], false⟩,
   ⟨3, .q (.fad 1), [.tmp 9], (some 10), none, [], false⟩,
   ⟨4, .q .ld, [.tmp 10], (some 11), none, [], false⟩,
   ⟨5, .q (.bin .add), [.tmp 11, .const (.int .i64 7)], (some 12), none, [], false⟩,
   ⟨6, .q (.bin .quo), [.tmp 12, .const (.int .i64 8)], (some 13), none, [], false⟩,
   ⟨7, .q (.bin .mul), [.tmp 13, .const (.int .i64 8)], (some 14), none, [], false⟩,
   ⟨8, .q .nilc, [.tmp 7], (some 15), none, [], false⟩,
   ⟨9, .q (.fad 1), [.tmp 15], (some 16), none, [], false⟩,
   ⟨10, .e (.st 1), [.tmp 16, .tmp 14], none, none, [], false⟩])
 (.seq
 (.block 0
  (.seq
  (.reg [⟨0, .q .mv, [.tmp 1], (some 18), none, [], false⟩,
    ⟨1, .q (.bin .lss), [.tmp 18, .const (.int .i64 0)], (some 19), none, [], false⟩,
    ⟨2, .q .mv, [.tmp 19], (some 17), none, [], false⟩])
  (.cond (.tmp 17)
   (.seq
   (.reg [⟨0, .q .mv, [.const (.slice none 0 0)], (some 4), none, [], false⟩,
     ⟨1, .q .mv, [.const (.int .i64 1)], (some 5), none, [], false⟩])
   .ret)
   (.seq
   (.reg [⟨0, .q .mv, [.tmp 1], (some 21), none, [], false⟩,
     ⟨1, .q .mv, [.tmp 0], (some 22), none, [], false⟩,
     ⟨2, .e (.call 45), [.tmp 22], (some 23), none, [], false⟩,
     ⟨3, .q (.bin .quo), [.tmp 23, .const (.int .i64 8)], (some 24), none, [], false⟩,
     ⟨4, .q (.bin .gtr), [.tmp 21, .tmp 24], (some 25), none, [], false⟩,
     ⟨5, .q .mv, [.tmp 25], (some 20), none, [], false⟩])
   (.cond (.tmp 20)
    (.seq
    (.reg [⟨0, .q .mv, [.const (.slice none 0 0)], (some 4), none, [], false⟩,
      ⟨1, .q .mv, [.const (.int .i64 50)], (some 5), none, [], false⟩])
    .ret)
    .skip)))))
 (.seq
 (.reg [⟨0, .q .mv, [.tmp 0], (some 26), none, [], false⟩,
   ⟨1, .q .nilc, [.tmp 26], (some 27), none, [], false⟩,
   ⟨2, .q (.fad 1), [.tmp 27], (some 28), none, [], false⟩,
   ⟨3, .q .ld, [.tmp 28], (some 29), none, [], false⟩,
   ⟨4, .q (.bin .quo), [.tmp 29, .const (.int .i64 8)], (some 30), none, [], false⟩,
   ⟨5, .q .mv, [.tmp 30], (some 6), none, [], false⟩])
 (.seq
 (.reg [⟨0, .q .mv, [.tmp 0], (some 31), none, [], false⟩,
   ⟨1, .q .nilc, [.tmp 31], (some 32), none, [], false⟩,
   ⟨2, .q (.fad 1), [.tmp 32], (some 33), none, [], false⟩,
   ⟨3, .q .ld, [.tmp 33], (some 34), none, [], false⟩,
   ⟨4, .q .mv, [.tmp 1], (some 35), none, [], false⟩,
   ⟨5, .q (.bin .mul), [.const (.int .i64 8), .tmp 35], (some 36), none, [], false⟩,
   ⟨6, .q (.bin .add), [.tmp 34, .tmp 36], (some 37), none, [], false⟩,
   ⟨7, .q .nilc, [.tmp 31], (some 38), none, [], false⟩,
   ⟨8, .q (.fad 1), [.tmp 38], (some 39), none, [], false⟩,
   ⟨9, .e (.st 1), [.tmp 39, .tmp 37], none, none, [], false⟩])
 (.seq
 (.reg [⟨0, .q .mv, [.tmp 0], (some 40), none, [], false⟩,
   ⟨1, .q .nilc, [.tmp 40], (some 41), none, [], false⟩,
   ⟨2, .q (.fad 0), [.tmp 41], (some 42), none, [], false⟩,
   ⟨3, .q .ld, [.tmp 42], (some 43), none, [], false⟩,
   ⟨4, .q .mv, [.tmp 6], (some 44), none, [], false⟩,
   ⟨5, .q .mv, [.tmp 6], (some 45), none, [], false⟩,
   ⟨6, .q .mv, [.tmp 1], (some 46), none, [], false⟩,
   ⟨7, .q (.bin .add), [.tmp 45, .tmp 46], (some 47), none, [], false⟩,
   ⟨8, .q (.slc 1 true true false), [.tmp 43, .tmp 44, .tmp 47], (some 48), none, [], false⟩,
   ⟨9, .e (.call 44), [.tmp 48], (some 49), none, [], false⟩,
   ⟨10, .q .mv, [.tmp 49], (some 4), none, [], false⟩,
   ⟨11, .q .mv, [.const (.int .i64 0)], (some 5), none, [], false⟩])
 .ret))))))⟩
theorem low29 : lowFn Try.prog Try.f29 = some L29 := by kernel_rfl
theorem call29 {args : List Value} {H : Heap} {S : Ending → Heap → Prop} (hn : args.length ≤ L29.n) (h : awpC Try.prog L29.body (retQ L29.results S) (fun ch H => S (.panicked ch) H) (env0 args) H) : ACalls Try.prog 29 args.toArray H S := acalls mixed Try.func29 low29 hn h
/-- (*satchel/bits.Reader).Left -/
def L31 : LFn :=
 ⟨14, [.t 2],
 (.seq
 (.reg [⟨0, .q .mv, [.const (.int .i64 0)], (some 2), none, [], false⟩])
 (.seq
 (.reg [⟨0, .q .mv, [.tmp 0], (some 3), none, [], false⟩,
   ⟨1, .q .nilc, [.tmp 3], (some 4), none, [], false⟩,
   ⟨2, .q (.fad 0), [.tmp 4], (some 5), none, [], false⟩,
   ⟨3, .q .ld, [.tmp 5], (some 6), none, [], false⟩,
   ⟨4, .q .len, [.tmp 6], (some 7), none, [], false⟩,
   ⟨5, .q (.bin .mul), [.const (.int .i64 8), .tmp 7], (some 8), none, [], false⟩,
   ⟨6, .q .mv, [.tmp 0], (some 9), none, [], false⟩,
   ⟨7, .q .nilc, [.tmp 9], (some 10), none, [], false⟩,
   ⟨8, .q (.fad 1), [.tmp 10], (some 11), none, [], false⟩,
   ⟨9, .q .ld, [.tmp 11], (some 12), none, [], false⟩,
   ⟨10, .q (.bin .sub), [.tmp 8, .tmp 12], (some 13), none, [], false⟩,
   ⟨11, .q .mv, [.tmp 13], (some 2), none, [], false⟩])
 .ret))⟩
theorem low31 : lowFn Try.prog Try.f31 = some L31 := by kernel_rfl
theorem call31 {args : List Value} {H : Heap} {S : Ending → Heap → Prop} (hn : args.length ≤ L31.n) (h : awpC Try.prog L31.body (retQ L31.results S) (fun ch H => S (.panicked ch) H) (env0 args) H) : ACalls Try.prog 31 args.toArray H S := acalls mixed Try.func31 low31 hn h
end Go.Proofs.Ytfdcolicpfellaa.Low
