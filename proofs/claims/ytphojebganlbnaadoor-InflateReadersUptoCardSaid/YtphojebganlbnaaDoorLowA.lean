/-
  Functions in short (out of the program's form in Lean, by the kernel).
-/
import Derived.Test.YtphojebganlbnaaDoorSepDfr
import Derived.Test.YtphojebganlbnaaDoorProg
namespace Go.Proofs.YtphojebganlbnaaDoor.Low
open Go Go.Proofs.YtphojebganlbnaaDoor.Sep
theorem mixed : Tryd.prog.follows .mixedOrders = true := by kernel_rfl
/-- satchel/satchellaw06.hand -/
def L9 : LFn :=
 ⟨10, [.t 2],
 (.seq
 (.reg [⟨0, .q .mv, [.const (.slice none 0 0)], (some 2), none, [], false⟩])
 (.seq
 (.reg [⟨0, .e (.lits 5 #[] 0 []), [], (some 4), none, [], false⟩,
   ⟨1, .q .mv, [.tmp 0], (some 5), none, [], false⟩,
   ⟨2, .e (.app 5 1 1 #[(.int .u8 0)]), [.tmp 4, .tmp 5], (some 6), none, [], false⟩,
   ⟨3, .q .mv, [.tmp 6], (some 3), none, [], false⟩])
 (.seq
 (.reg [⟨0, .q .mv, [.tmp 3], (some 7), none, [], false⟩,
   ⟨1, .e (.lits 5 #[(.int .u8 0), (.int .u8 0), (.int .u8 0), (.int .u8 0), (.int .u8 0)] 5 [(0, 1), (1, 1), (2, 1), (3, 1), (4, 1)]), [.const (.int .u8 1), .const (.int .u8 2), .const (.int .u8 3), .const (.int .u8 4), .const (.int .u8 5)], (some 8), none, [], false⟩,
   ⟨2, .e (.app 5 1 1 #[(.int .u8 0)]), [.tmp 7, .tmp 8], (some 9), none, [], false⟩,
   ⟨3, .q .mv, [.tmp 9], (some 2), none, [], false⟩])
 .ret)))⟩
theorem low9 : lowFn Tryd.prog Tryd.f9 = some L9 := by kernel_rfl
theorem call9 {args : List Value} {H : Heap} {S : Ending → Heap → Prop} (hn : args.length ≤ L9.n) (h : awpC Tryd.prog L9.body (retQ L9.results S) (fun ch H => S (.panicked ch) H) (env0 args) H) : ACalls Tryd.prog 9 args.toArray H S := acalls mixed Tryd.func9 low9 hn h
/-- satchel/satchellaw06.left -/
def L12_0 : LCode :=
 (.seq
 (.seq
 (.reg [⟨0, .q .mv, [.tmp 6], (some 13), none, [], false⟩,
   ⟨1, .q .mv, [.tmp 0], (some 14), none, [], false⟩,
   ⟨2, .q .len, [.tmp 14], (some 15), none, [], false⟩,
   ⟨3, .q (.bin .lss), [.tmp 13, .tmp 15], (some 16), none, [], false⟩])
 (.cond (.tmp 16)
  .skip
  (.exit 0)))
 (.seq
 (.block 1
  (.reg [⟨0, .q .mv, [.tmp 0], (some 19), none, [], false⟩,
    ⟨1, .q .mv, [.tmp 6], (some 20), none, [], false⟩,
    ⟨2, .q (.iad 1), [.tmp 19, .tmp 20], (some 21), none, [], false⟩,
    ⟨3, .e (.st 1), [.tmp 21, .const (.int .u8 238)], none, none, [], false⟩]))
 (.reg [⟨0, .q .mv, [.tmp 6], (some 17), none, [], false⟩,
   ⟨1, .q (.bin .add), [.tmp 17, .const (.int .i64 1)], (some 18), none, [], false⟩,
   ⟨2, .q .mv, [.tmp 18], (some 6), none, [], false⟩])))
def L12 : LFn :=
 ⟨23, [.t 4],
 (.seq
 (.reg [⟨0, .q .mv, [.const (.bool false)], (some 4), none, [], false⟩])
 (.seq
 (.reg [⟨0, .q .mv, [.tmp 0], (some 7), none, [], false⟩,
   ⟨1, .q .b2s, [.tmp 7], (some 8), none, [], false⟩,
   ⟨2, .q .mv, [.tmp 1], (some 9), none, [], false⟩,
   ⟨3, .q .b2s, [.tmp 9], (some 10), none, [], false⟩,
   ⟨4, .q (.bin .add), [.tmp 10, .const (.string ⟨#[1, 2, 3, 4, 5]⟩)], (some 11), none, [], false⟩,
   ⟨5, .q (.bin .eql), [.tmp 8, .tmp 11], (some 12), none, [], false⟩,
   ⟨6, .q .mv, [.tmp 12], (some 5), none, [], false⟩])
 (.seq
 (.seq
 (.reg [⟨0, .q .mv, [.const (.int .i64 0)], (some 6), none, [], false⟩])
 (.block 0
  (.loop L12_0)))
 (.seq
 (.reg [⟨0, .q .mv, [.tmp 5], (some 22), none, [], false⟩,
   ⟨1, .q .mv, [.tmp 22], (some 4), none, [], false⟩])
 .ret))))⟩
theorem low12 : lowFn Tryd.prog Tryd.f12 = some L12 := by kernel_rfl
theorem call12 {args : List Value} {H : Heap} {S : Ending → Heap → Prop} (hn : args.length ≤ L12.n) (h : awpC Tryd.prog L12.body (retQ L12.results S) (fun ch H => S (.panicked ch) H) (env0 args) H) : ACalls Tryd.prog 12 args.toArray H S := acalls mixed Tryd.func12 low12 hn h
/-- satchel/satchellaw06.wiped -/
def L13_0 : LCode :=
 (.seq
 (.seq
 (.reg [⟨0, .q .mv, [.tmp 6], (some 12), none, [], false⟩,
   ⟨1, .q .mv, [.tmp 0], (some 13), none, [], false⟩,
   ⟨2, .q .len, [.tmp 13], (some 14), none, [], false⟩,
   ⟨3, .q (.bin .lss), [.tmp 12, .tmp 14], (some 15), none, [], false⟩])
 (.cond (.tmp 15)
  .skip
  (.exit 0)))
 (.seq
 (.block 1
  (.reg [⟨0, .q .mv, [.tmp 0], (some 18), none, [], false⟩,
    ⟨1, .q .mv, [.tmp 6], (some 19), none, [], false⟩,
    ⟨2, .q (.iad 1), [.tmp 18, .tmp 19], (some 20), none, [], false⟩,
    ⟨3, .e (.st 1), [.tmp 20, .const (.int .u8 238)], none, none, [], false⟩]))
 (.reg [⟨0, .q .mv, [.tmp 6], (some 16), none, [], false⟩,
   ⟨1, .q (.bin .add), [.tmp 16, .const (.int .i64 1)], (some 17), none, [], false⟩,
   ⟨2, .q .mv, [.tmp 17], (some 6), none, [], false⟩])))
def L13 : LFn :=
 ⟨25, [.t 4],
 (.seq
 (.reg [⟨0, .q .mv, [.const (.bool false)], (some 4), none, [], false⟩])
 (.seq
 (.reg [⟨0, .q .mv, [.tmp 0], (some 7), none, [], false⟩,
   ⟨1, .q .b2s, [.tmp 7], (some 8), none, [], false⟩,
   ⟨2, .q .mv, [.tmp 1], (some 9), none, [], false⟩,
   ⟨3, .q .b2s, [.tmp 9], (some 10), none, [], false⟩,
   ⟨4, .q (.bin .eql), [.tmp 8, .tmp 10], (some 11), none, [], false⟩,
   ⟨5, .q .mv, [.tmp 11], (some 5), none, [], false⟩])
 (.seq
 (.seq
 (.reg [⟨0, .q .mv, [.const (.int .i64 0)], (some 6), none, [], false⟩])
 (.block 0
  (.loop L13_0)))
 (.seq
 (.reg [⟨0, .q .mv, [.tmp 0], (some 21), none, [], false⟩,
   ⟨1, .e (.lits 5 #[(.int .u8 0), (.int .u8 0)] 2 [(0, 1), (1, 1)]), [.const (.int .u8 221), .const (.int .u8 221)], (some 22), none, [], false⟩,
   ⟨2, .e (.app 5 1 1 #[(.int .u8 0)]), [.tmp 21, .tmp 22], (some 23), none, [], false⟩])
 (.seq
 (.reg [⟨0, .q .mv, [.tmp 5], (some 24), none, [], false⟩,
   ⟨1, .q .mv, [.tmp 24], (some 4), none, [], false⟩])
 .ret)))))⟩
theorem low13 : lowFn Tryd.prog Tryd.f13 = some L13 := by kernel_rfl
theorem call13 {args : List Value} {H : Heap} {S : Ending → Heap → Prop} (hn : args.length ≤ L13.n) (h : awpC Tryd.prog L13.body (retQ L13.results S) (fun ch H => S (.panicked ch) H) (env0 args) H) : ACalls Tryd.prog 13 args.toArray H S := acalls mixed Tryd.func13 low13 hn h
/-- slices.Clone[[]byte,byte] -/
def L31 : LFn :=
 ⟨8, [.t 2],
 (.seq
 (.reg [⟨0, .q .mv, [.const (.slice none 0 0)], (some 2), none, [], false⟩])
 (.seq
 (.seq
 (.reg [⟨0, .q .mv, [.tmp 0], (some 3), none, [], false⟩,
   ⟨1, .q (.eqs false), [.tmp 3, .const (.slice none 0 0)], (some 4), none, [], false⟩])
 (.cond (.tmp 4)
  (.seq
  (.reg [⟨0, .q .mv, [.const (.slice none 0 0)], (some 2), none, [], false⟩])
  .ret)
  .skip))
 (.seq
 (.reg [⟨0, .e (.lits 5 #[] 0 []), [], (some 5), none, [], false⟩,
   ⟨1, .q .mv, [.tmp 0], (some 6), none, [], false⟩,
   ⟨2, .e (.app 5 1 1 #[(.int .u8 0)]), [.tmp 5, .tmp 6], (some 7), none, [], false⟩,
   ⟨3, .q .mv, [.tmp 7], (some 2), none, [], false⟩])
 .ret)))⟩
theorem low31 : lowFn Tryd.prog Tryd.f31 = some L31 := by kernel_rfl
theorem call31 {args : List Value} {H : Heap} {S : Ending → Heap → Prop} (hn : args.length ≤ L31.n) (h : awpC Tryd.prog L31.body (retQ L31.results S) (fun ch H => S (.panicked ch) H) (env0 args) H) : ACalls Tryd.prog 31 args.toArray H S := acalls mixed Tryd.func31 low31 hn h
end Go.Proofs.YtphojebganlbnaaDoor.Low
