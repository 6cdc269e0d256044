/-
  Functions in short (out of the program's form in Lean, by the kernel).
-/
import Derived.Test.YtdlmomjcolbkgaaDoorSepCode
import Derived.Test.YtdlmomjcolbkgaaDoorProg
namespace Go.Proofs.YtdlmomjcolbkgaaDoor.Low
open Go Go.Proofs.YtdlmomjcolbkgaaDoor.Sep
theorem mixed : Tryd.prog.follows .mixedOrders = true := by kernel_rfl
/-- slices.Grow[[]string,string] -/
def L46_0 : LCode :=
 (.seq
 (.reg [⟨0, .q .mv, [.tmp 0], (some 26), none, [], false⟩,
   ⟨1, .q .mv, [.tmp 26], (some 4), none, [], false⟩])
 .ret)
def L46_1 : LCode :=
 (.seq
 (.seq
 (.reg [⟨0, .q .mv, [.tmp 1], (some 8), none, [], false⟩,
   ⟨1, .q .mv, [.tmp 0], (some 9), none, [], false⟩,
   ⟨2, .q .cap, [.tmp 9], (some 10), none, [], false⟩,
   ⟨3, .q .mv, [.tmp 0], (some 11), none, [], false⟩,
   ⟨4, .q .len, [.tmp 11], (some 12), none, [], false⟩,
   ⟨5, .q (.bin .sub), [.tmp 10, .tmp 12], (some 13), none, [], false⟩,
   ⟨6, .q (.bin .sub), [.tmp 8, .tmp 13], (some 14), none, [], false⟩,
   ⟨7, .q .mv, [.tmp 14], (some 1), none, [], false⟩])
 (.seq
 (.reg [⟨0, .q .mv, [.tmp 1], (some 15), none, [], false⟩,
   ⟨1, .q (.bin .gtr), [.tmp 15, .const (.int .i64 0)], (some 16), none, [], false⟩])
 (.cond (.tmp 16)
  (.reg [⟨0, .q .mv, [.tmp 0], (some 17), none, [], false⟩,
    ⟨1, .q .mv, [.tmp 0], (some 18), none, [], false⟩,
    ⟨2, .q .cap, [.tmp 18], (some 19), none, [], false⟩,
    ⟨3, .q (.slc 1 false true false), [.tmp 17, .tmp 19], (some 20), none, [], false⟩,
    ⟨4, .q .mv, [.tmp 1], (some 21), none, [], false⟩,
    ⟨5, .e (.appz 9 1 16 #[(.string ⟨#[]⟩)]), [.tmp 20, .tmp 21], (some 22), none, [], false⟩,
    ⟨6, .q .mv, [.tmp 0], (some 23), none, [], false⟩,
    ⟨7, .q .len, [.tmp 23], (some 24), none, [], false⟩,
    ⟨8, .q (.slc 1 false true false), [.tmp 22, .tmp 24], (some 25), none, [], false⟩,
    ⟨9, .q .mv, [.tmp 25], (some 0), none, [], false⟩])
  .skip)))
 L46_0)
def L46 : LFn :=
 ⟨27, [.t 4],
 (.seq
 (.reg [⟨0, .q .mv, [.const (.slice none 0 0)], (some 4), none, [], false⟩])
 (.seq
 (.seq
 (.reg [⟨0, .q .mv, [.tmp 1], (some 5), none, [], false⟩,
   ⟨1, .q (.bin .lss), [.tmp 5, .const (.int .i64 0)], (some 6), none, [], false⟩])
 (.cond (.tmp 6)
  (.reg [⟨0, .q (.mki 9), [.const (.string ⟨#[99, 97, 110, 110, 111, 116, 32, 98, 101, 32, 110, 101, 103, 97, 116, 105, 118, 101]⟩)], (some 7), none, [], false⟩,
    ⟨1, .e .pan, [.tmp 7], none, none, [], false⟩])
  .skip))
 L46_1))⟩
theorem low46 : lowFn Tryd.prog Tryd.f46 = some L46 := by kernel_rfl
theorem call46 {args : List Value} {H : Heap} {S : Ending → Heap → Prop} (hn : args.length ≤ L46.n) (h : awpC Tryd.prog L46.body (retQ L46.results S) (fun ch H => S (.panicked ch) H) (env0 args) H) : ACalls Tryd.prog 46 args.toArray H S := acalls mixed Tryd.func46 low46 hn h
/-- slices.Concat[[]string,string] -/
def L33_0 : LCode :=
 (.reg [⟨0, .q (.bin .add), [.tmp 11, .const (.int .i64 1)], (some 22), none, [], false⟩,
   ⟨1, .q .mv, [.tmp 22], (some 11), none, [], false⟩])
def L33_1 : LCode :=
 (.seq
 (.reg [⟨0, .q (.bin .lss), [.tmp 11, .tmp 10], (some 12), none, [], false⟩])
 (.seq
 (.cond (.tmp 12)
  .skip
  (.exit 0))
 (.seq
 (.block 1
  (.seq
  (.reg [⟨0, .q (.iad 1), [.tmp 9, .tmp 11], (some 13), none, [], false⟩,
    ⟨1, .q .ld, [.tmp 13], (some 14), none, [], false⟩,
    ⟨2, .q .mv, [.tmp 14], (some 5), none, [], false⟩])
  (.seq
  (.reg [⟨0, .q .mv, [.tmp 3], (some 15), none, [], false⟩,
    ⟨1, .q .mv, [.tmp 5], (some 16), none, [], false⟩,
    ⟨2, .q .len, [.tmp 16], (some 17), none, [], false⟩,
    ⟨3, .q (.bin .add), [.tmp 15, .tmp 17], (some 18), none, [], false⟩,
    ⟨4, .q .mv, [.tmp 18], (some 3), none, [], false⟩])
  (.seq
  (.reg [⟨0, .q .mv, [.tmp 3], (some 19), none, [], false⟩,
    ⟨1, .q (.bin .lss), [.tmp 19, .const (.int .i64 0)], (some 20), none, [], false⟩])
  (.cond (.tmp 20)
   (.reg [⟨0, .q (.mki 9), [.const (.string ⟨#[108, 101, 110, 32, 111, 117, 116, 32, 111, 102, 32, 114, 97, 110, 103, 101]⟩)], (some 21), none, [], false⟩,
     ⟨1, .e .pan, [.tmp 21], none, none, [], false⟩])
   .skip)))))
 L33_0)))
def L33_2 : LCode :=
 (.seq
 (.reg [⟨0, .q (.bin .lss), [.tmp 27, .tmp 26], (some 28), none, [], false⟩])
 (.seq
 (.cond (.tmp 28)
  .skip
  (.exit 2))
 (.seq
 (.block 3
  (.seq
  (.reg [⟨0, .q (.iad 1), [.tmp 25, .tmp 27], (some 29), none, [], false⟩,
    ⟨1, .q .ld, [.tmp 29], (some 30), none, [], false⟩,
    ⟨2, .q .mv, [.tmp 30], (some 8), none, [], false⟩])
  (.reg [⟨0, .q .mv, [.tmp 6], (some 31), none, [], false⟩,
    ⟨1, .q .mv, [.tmp 8], (some 32), none, [], false⟩,
    ⟨2, .e (.app 9 1 16 #[(.string ⟨#[]⟩)]), [.tmp 31, .tmp 32], (some 33), none, [], false⟩,
    ⟨3, .q .mv, [.tmp 33], (some 6), none, [], false⟩])))
 (.reg [⟨0, .q (.bin .add), [.tmp 27, .const (.int .i64 1)], (some 34), none, [], false⟩,
   ⟨1, .q .mv, [.tmp 34], (some 27), none, [], false⟩]))))
def L33 : LFn :=
 ⟨36, [.t 2],
 (.seq
 (.reg [⟨0, .q .mv, [.const (.slice none 0 0)], (some 2), none, [], false⟩])
 (.seq
 (.reg [⟨0, .q .mv, [.const (.int .i64 0)], (some 3), none, [], false⟩])
 (.seq
 (.seq
 (.reg [⟨0, .q .mv, [.tmp 0], (some 9), none, [], false⟩,
   ⟨1, .q .len, [.tmp 9], (some 10), none, [], false⟩,
   ⟨2, .q .mv, [.const (.int .i64 0)], (some 11), none, [], false⟩])
 (.block 0
  (.loop L33_1)))
 (.seq
 (.reg [⟨0, .q .mv, [.tmp 3], (some 23), none, [], false⟩,
   ⟨1, .e (.call 46), [.const (.slice none 0 0), .tmp 23], (some 24), none, [], false⟩,
   ⟨2, .q .mv, [.tmp 24], (some 6), none, [], false⟩])
 (.seq
 (.seq
 (.reg [⟨0, .q .mv, [.tmp 0], (some 25), none, [], false⟩,
   ⟨1, .q .len, [.tmp 25], (some 26), none, [], false⟩,
   ⟨2, .q .mv, [.const (.int .i64 0)], (some 27), none, [], false⟩])
 (.block 2
  (.loop L33_2)))
 (.seq
 (.reg [⟨0, .q .mv, [.tmp 6], (some 35), none, [], false⟩,
   ⟨1, .q .mv, [.tmp 35], (some 2), none, [], false⟩])
 .ret))))))⟩
theorem low33 : lowFn Tryd.prog Tryd.f33 = some L33 := by kernel_rfl
theorem call33 {args : List Value} {H : Heap} {S : Ending → Heap → Prop} (hn : args.length ≤ L33.n) (h : awpC Tryd.prog L33.body (retQ L33.results S) (fun ch H => S (.panicked ch) H) (env0 args) H) : ACalls Tryd.prog 33 args.toArray H S := acalls mixed Tryd.func33 low33 hn h
/-- slices.Equal[[]string,string] -/
def L34_0 : LCode :=
 (.seq
 (.reg [⟨0, .q (.bin .lss), [.tmp 13, .tmp 12], (some 14), none, [], false⟩])
 (.seq
 (.cond (.tmp 14)
  .skip
  (.exit 0))
 (.seq
 (.block 1
  (.seq
  (.reg [⟨0, .q .mv, [.tmp 13], (some 15), none, [], false⟩,
    ⟨1, .q .mv, [.tmp 15], (some 5), none, [], false⟩])
  (.seq
  (.reg [⟨0, .q .mv, [.tmp 0], (some 16), none, [], false⟩,
    ⟨1, .q .mv, [.tmp 5], (some 17), none, [], false⟩,
    ⟨2, .q (.iad 1), [.tmp 16, .tmp 17], (some 18), none, [], false⟩,
    ⟨3, .q .ld, [.tmp 18], (some 19), none, [], false⟩,
    ⟨4, .q .mv, [.tmp 1], (some 20), none, [], false⟩,
    ⟨5, .q .mv, [.tmp 5], (some 21), none, [], false⟩,
    ⟨6, .q (.iad 1), [.tmp 20, .tmp 21], (some 22), none, [], false⟩,
    ⟨7, .q .ld, [.tmp 22], (some 23), none, [], false⟩,
    ⟨8, .q (.bin .neq), [.tmp 19, .tmp 23], (some 24), none, [], false⟩])
  (.cond (.tmp 24)
   (.seq
   (.reg [⟨0, .q .mv, [.const (.bool false)], (some 4), none, [], false⟩])
   .ret)
   .skip))))
 (.reg [⟨0, .q (.bin .add), [.tmp 13, .const (.int .i64 1)], (some 25), none, [], false⟩,
   ⟨1, .q .mv, [.tmp 25], (some 13), none, [], false⟩]))))
def L34 : LFn :=
 ⟨26, [.t 4],
 (.seq
 (.reg [⟨0, .q .mv, [.const (.bool false)], (some 4), none, [], false⟩])
 (.seq
 (.seq
 (.reg [⟨0, .q .mv, [.tmp 0], (some 6), none, [], false⟩,
   ⟨1, .q .len, [.tmp 6], (some 7), none, [], false⟩,
   ⟨2, .q .mv, [.tmp 1], (some 8), none, [], false⟩,
   ⟨3, .q .len, [.tmp 8], (some 9), none, [], false⟩,
   ⟨4, .q (.bin .neq), [.tmp 7, .tmp 9], (some 10), none, [], false⟩])
 (.cond (.tmp 10)
  (.seq
  (.reg [⟨0, .q .mv, [.const (.bool false)], (some 4), none, [], false⟩])
  .ret)
  .skip))
 (.seq
 (.seq
 (.reg [⟨0, .q .mv, [.tmp 0], (some 11), none, [], false⟩,
   ⟨1, .q .len, [.tmp 11], (some 12), none, [], false⟩,
   ⟨2, .q .mv, [.const (.int .i64 0)], (some 13), none, [], false⟩])
 (.block 0
  (.loop L34_0)))
 (.seq
 (.reg [⟨0, .q .mv, [.const (.bool true)], (some 4), none, [], false⟩])
 .ret))))⟩
theorem low34 : lowFn Tryd.prog Tryd.f34 = some L34 := by kernel_rfl
theorem call34 {args : List Value} {H : Heap} {S : Ending → Heap → Prop} (hn : args.length ≤ L34.n) (h : awpC Tryd.prog L34.body (retQ L34.results S) (fun ch H => S (.panicked ch) H) (env0 args) H) : ACalls Tryd.prog 34 args.toArray H S := acalls mixed Tryd.func34 low34 hn h
/-- slices.Clone[[]string,string] -/
def L35 : LFn :=
 ⟨8, [.t 2],
 (.seq
 (.reg [⟨0, .q .mv, [.const (.slice none 0 0)], (some 2), none, [], false⟩])
 (.seq
 (.seq
 (.reg [⟨0, .q .mv, [.tmp 0], (some 3), none, [], false⟩,
   ⟨1, .q (.eqs false), [.tmp 3, .const (.slice none 0 0)], (some 4), none, [], false⟩])
 (.cond (.tmp 4)
  (.seq
  (.reg [⟨0, .q .mv, [.const (.slice none 0 0)], (some 2), none, [], false⟩])
  .ret)
  .skip))
 (.seq
 (.reg [⟨0, .e (.lits 9 #[] 0 []), [], (some 5), none, [], false⟩,
   ⟨1, .q .mv, [.tmp 0], (some 6), none, [], false⟩,
   ⟨2, .e (.app 9 1 16 #[(.string ⟨#[]⟩)]), [.tmp 5, .tmp 6], (some 7), none, [], false⟩,
   ⟨3, .q .mv, [.tmp 7], (some 2), none, [], false⟩])
 .ret)))⟩
theorem low35 : lowFn Tryd.prog Tryd.f35 = some L35 := by kernel_rfl
theorem call35 {args : List Value} {H : Heap} {S : Ending → Heap → Prop} (hn : args.length ≤ L35.n) (h : awpC Tryd.prog L35.body (retQ L35.results S) (fun ch H => S (.panicked ch) H) (env0 args) H) : ACalls Tryd.prog 35 args.toArray H S := acalls mixed Tryd.func35 low35 hn h
/-- satchel/path.Under -/
def L19 : LFn :=
 ⟨18, [.t 4],
 (.seq
 (.reg [⟨0, .q .mv, [.const (.bool false)], (some 4), none, [], false⟩])
 (.seq
 (.reg [⟨0, .q .mv, [.tmp 0], (some 5), none, [], false⟩,
   ⟨1, .q .len, [.tmp 5], (some 6), none, [], false⟩,
   ⟨2, .q .mv, [.tmp 1], (some 7), none, [], false⟩,
   ⟨3, .q .len, [.tmp 7], (some 8), none, [], false⟩,
   ⟨4, .q (.bin .gtr), [.tmp 6, .tmp 8], (some 9), none, [], false⟩,
   ⟨5, .q .mv, [.tmp 9], (some 10), none, [], false⟩,
   ⟨6, .q .mv, [.tmp 0], (some 11), (some (10, true)), [], false⟩,
   ⟨7, .q .mv, [.tmp 1], (some 12), (some (10, true)), [], false⟩,
   ⟨8, .q .len, [.tmp 12], (some 13), (some (10, true)), [], false⟩,
   ⟨9, .q (.slc 1 false true false), [.tmp 11, .tmp 13], (some 14), (some (10, true)), [], false⟩,
   ⟨10, .q .mv, [.tmp 1], (some 15), (some (10, true)), [], false⟩,
   ⟨11, .e (.call 34), [.tmp 14, .tmp 15], (some 16), (some (10, true)), [], false⟩,
   ⟨12, .q .pick, [.tmp 10, .tmp 16, .const (.bool false)], (some 17), none, [], false⟩,
   ⟨13, .q .mv, [.tmp 17], (some 4), none, [], false⟩])
 .ret))⟩
theorem low19 : lowFn Tryd.prog Tryd.f19 = some L19 := by kernel_rfl
theorem call19 {args : List Value} {H : Heap} {S : Ending → Heap → Prop} (hn : args.length ≤ L19.n) (h : awpC Tryd.prog L19.body (retQ L19.results S) (fun ch H => S (.panicked ch) H) (env0 args) H) : ACalls Tryd.prog 19 args.toArray H S := acalls mixed Tryd.func19 low19 hn h
/-- satchel/path.Place -/
def L18 : LFn :=
 ⟨22, [.t 4, .t 5],
 (.seq
 (.reg [⟨0, .q .mv, [.const (.slice none 0 0)], (some 4), none, [], false⟩,
   ⟨1, .q .mv, [.const (.int .i64 0)], (some 5), none, [], false⟩])
 (.seq
 (.reg [⟨0, .q .mv, [.tmp 0], (some 9), none, [], false⟩,
   ⟨1, .q .mv, [.tmp 1], (some 10), none, [], false⟩,
   ⟨2, .e (.lits 22 #[(.slice none 0 0), (.slice none 0 0)] 2 [(0, 1), (1, 1)]), [.tmp 9, .tmp 10], (some 11), none, [], false⟩,
   ⟨3, .e (.call 33), [.tmp 11], (some 12), none, [], false⟩,
   ⟨4, .q .mv, [.tmp 12], (some 6), none, [], false⟩])
 (.seq
 (.seq
 (.reg [⟨0, .q .mv, [.tmp 6], (some 14), none, [], false⟩,
   ⟨1, .e (.call 17), [.tmp 14], (some 15), none, [], false⟩,
   ⟨2, .q .mv, [.tmp 15], (some 13), none, [], false⟩,
   ⟨3, .q (.ext 0), [.tmp 13], (some 16), none, [], false⟩,
   ⟨4, .q (.ext 1), [.tmp 13], (some 17), none, [], false⟩,
   ⟨5, .q .mv, [.tmp 16], (some 7), none, [], false⟩,
   ⟨6, .q .mv, [.tmp 17], (some 8), none, [], false⟩])
 (.seq
 (.reg [⟨0, .q .mv, [.tmp 8], (some 18), none, [], false⟩,
   ⟨1, .q (.bin .neq), [.tmp 18, .const (.int .i64 0)], (some 19), none, [], false⟩])
 (.cond (.tmp 19)
  (.seq
  (.reg [⟨0, .q .mv, [.tmp 8], (some 20), none, [], false⟩,
    ⟨1, .q .mv, [.const (.slice none 0 0)], (some 4), none, [], false⟩,
    ⟨2, .q .mv, [.tmp 20], (some 5), none, [], false⟩])
  .ret)
  .skip)))
 (.seq
 (.reg [⟨0, .q .mv, [.tmp 6], (some 21), none, [], false⟩,
   ⟨1, .q .mv, [.tmp 21], (some 4), none, [], false⟩,
   ⟨2, .q .mv, [.const (.int .i64 0)], (some 5), none, [], false⟩])
 .ret))))⟩
theorem low18 : lowFn Tryd.prog Tryd.f18 = some L18 := by kernel_rfl
theorem call18 {args : List Value} {H : Heap} {S : Ending → Heap → Prop} (hn : args.length ≤ L18.n) (h : awpC Tryd.prog L18.body (retQ L18.results S) (fun ch H => S (.panicked ch) H) (env0 args) H) : ACalls Tryd.prog 18 args.toArray H S := acalls mixed Tryd.func18 low18 hn h
/-- satchel/path.Strip -/
def L20 : LFn :=
 ⟨18, [.t 4, .t 5],
 (.seq
 (.reg [⟨0, .q .mv, [.const (.slice none 0 0)], (some 4), none, [], false⟩,
   ⟨1, .q .mv, [.const (.bool false)], (some 5), none, [], false⟩])
 (.seq
 (.seq
 (.reg [⟨0, .q .mv, [.tmp 1], (some 6), none, [], false⟩,
   ⟨1, .q (.bin .lss), [.tmp 6, .const (.int .i64 0)], (some 7), none, [], false⟩,
   ⟨2, .q .mv, [.tmp 7], (some 8), none, [], false⟩,
   ⟨3, .q .mv, [.tmp 1], (some 9), (some (8, false)), [], false⟩,
   ⟨4, .q .mv, [.tmp 0], (some 10), (some (8, false)), [], false⟩,
   ⟨5, .q .len, [.tmp 10], (some 11), (some (8, false)), [], false⟩,
   ⟨6, .q (.bin .geq), [.tmp 9, .tmp 11], (some 12), (some (8, false)), [], false⟩,
   ⟨7, .q .pick, [.tmp 8, .const (.bool true), .tmp 12], (some 13), none, [], false⟩])
 (.cond (.tmp 13)
  (.seq
  (.reg [⟨0, .q .mv, [.const (.slice none 0 0)], (some 4), none, [], false⟩,
    ⟨1, .q .mv, [.const (.bool false)], (some 5), none, [], false⟩])
  .ret)
  .skip))
 (.seq
 (.reg [⟨0, .q .mv, [.tmp 0], (some 14), none, [], false⟩,
   ⟨1, .q .mv, [.tmp 1], (some 15), none, [], false⟩,
   ⟨2, .q (.slc 1 true false false), [.tmp 14, .tmp 15], (some 16), none, [], false⟩,
   ⟨3, .e (.call 35), [.tmp 16], (some 17), none, [], false⟩,
   ⟨4, .q .mv, [.tmp 17], (some 4), none, [], false⟩,
   ⟨5, .q .mv, [.const (.bool true)], (some 5), none, [], false⟩])
 .ret)))⟩
theorem low20 : lowFn Tryd.prog Tryd.f20 = some L20 := by kernel_rfl
theorem call20 {args : List Value} {H : Heap} {S : Ending → Heap → Prop} (hn : args.length ≤ L20.n) (h : awpC Tryd.prog L20.body (retQ L20.results S) (fun ch H => S (.panicked ch) H) (env0 args) H) : ACalls Tryd.prog 20 args.toArray H S := acalls mixed Tryd.func20 low20 hn h
end Go.Proofs.YtdlmomjcolbkgaaDoor.Low
