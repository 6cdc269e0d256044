/-
  Functions in short (out of the program's form in Lean, by the kernel).
-/
import Derived.Test.YtphojebganlbnaaDoorSepDfr
import Derived.Test.YtphojebganlbnaaDoorProg
namespace Go.Proofs.YtphojebganlbnaaDoor.Low
open Go Go.Proofs.YtphojebganlbnaaDoor.Sep
theorem mixed : Tryd.prog.follows .mixedOrders = true := by kernel_rfl
/-- satchel/inflate.Decode -/
def L10 : LFn :=
 ⟨25, [.t 4, .t 5, .t 6],
 (.seq
 (.reg [⟨0, .q .mv, [.const (.slice none 0 0)], (some 4), none, [], false⟩,
   ⟨1, .q .mv, [.const (.int .i64 0)], (some 5), none, [], false⟩,
   ⟨2, .q .mv, [.const (.int .i64 0)], (some 6), none, [], false⟩])
 (.seq
 (.seq
 (.reg [⟨0, .q .mv, [.tmp 1], (some 10), none, [], false⟩,
   ⟨1, .e (.call 23), [.tmp 10], (some 11), none, [], false⟩,
   ⟨2, .q (.un .not), [.tmp 11], (some 12), none, [], false⟩])
 (.cond (.tmp 12)
  (.seq
  (.reg [⟨0, .q .mv, [.const (.slice none 0 0)], (some 4), none, [], false⟩,
    ⟨1, .q .mv, [.const (.int .i64 0)], (some 5), none, [], false⟩,
    ⟨2, .q .mv, [.const (.int .i64 1)], (some 6), none, [], false⟩])
  .ret)
  .skip))
 (.seq
 (.reg [⟨0, .q .mv, [.tmp 0], (some 14), none, [], false⟩,
   ⟨1, .q .mv, [.tmp 1], (some 15), none, [], false⟩,
   ⟨2, .e (.call 24), [.tmp 14, .tmp 15], (some 16), none, [], false⟩,
   ⟨3, .q .mv, [.tmp 16], (some 13), none, [], false⟩,
   ⟨4, .q (.ext 0), [.tmp 13], (some 17), none, [], false⟩,
   ⟨5, .q (.ext 1), [.tmp 13], (some 18), none, [], false⟩,
   ⟨6, .q (.ext 2), [.tmp 13], (some 19), none, [], false⟩,
   ⟨7, .q .mv, [.tmp 17], (some 7), none, [], false⟩,
   ⟨8, .q .mv, [.tmp 18], (some 8), none, [], false⟩,
   ⟨9, .q .mv, [.tmp 19], (some 9), none, [], false⟩])
 (.seq
 (.seq
 (.reg [⟨0, .q .mv, [.tmp 9], (some 20), none, [], false⟩,
   ⟨1, .q (.bin .neq), [.tmp 20, .const (.int .i64 0)], (some 21), none, [], false⟩])
 (.cond (.tmp 21)
  (.seq
  (.reg [⟨0, .q .mv, [.tmp 9], (some 22), none, [], false⟩,
    ⟨1, .q .mv, [.const (.slice none 0 0)], (some 4), none, [], false⟩,
    ⟨2, .q .mv, [.const (.int .i64 0)], (some 5), none, [], false⟩,
    ⟨3, .q .mv, [.tmp 22], (some 6), none, [], false⟩])
  .ret)
  .skip))
 (.seq
 (.reg [⟨0, .q .mv, [.tmp 7], (some 23), none, [], false⟩,
   ⟨1, .q .mv, [.tmp 8], (some 24), none, [], false⟩,
   ⟨2, .q .mv, [.tmp 23], (some 4), none, [], false⟩,
   ⟨3, .q .mv, [.tmp 24], (some 5), none, [], false⟩,
   ⟨4, .q .mv, [.const (.int .i64 0)], (some 6), none, [], false⟩])
 .ret)))))⟩
theorem low10 : lowFn Tryd.prog Tryd.f10 = some L10 := by kernel_rfl
theorem call10 {args : List Value} {H : Heap} {S : Ending → Heap → Prop} (hn : args.length ≤ L10.n) (h : awpC Tryd.prog L10.body (retQ L10.results S) (fun ch H => S (.panicked ch) H) (env0 args) H) : ACalls Tryd.prog 10 args.toArray H S := acalls mixed Tryd.func10 low10 hn h
/-- satchel/inflate.NewReader -/
def L19 : LFn :=
 ⟨10, [.t 2, .t 3],
 (.seq
 (.reg [⟨0, .q .mv, [.const (.pointer none)], (some 2), none, [], false⟩,
   ⟨1, .q .mv, [.const (.int .i64 0)], (some 3), none, [], false⟩])
 (.seq
 (.seq
 (.reg [⟨0, .q .mv, [.tmp 0], (some 4), none, [], false⟩,
   ⟨1, .e (.call 23), [.tmp 4], (some 5), none, [], false⟩,
   ⟨2, .q (.un .not), [.tmp 5], (some 6), none, [], false⟩])
 (.cond (.tmp 6)
  (.seq
  (.reg [⟨0, .q .mv, [.const (.pointer none)], (some 2), none, [], false⟩,
    ⟨1, .q .mv, [.const (.int .i64 1)], (some 3), none, [], false⟩])
  .ret)
  .skip))
 (.seq
 (.reg [⟨0, .q .mv, [.tmp 0], (some 7), none, [], false⟩,
   ⟨1, .q (.build #[(.int .i64 0), (.int .i64 0), (.int .i64 0), (.slice none 0 0), (.bool false), (.int .i64 0)] [(0, 1)]), [.tmp 7], (some 8), none, [], false⟩,
   ⟨2, .e (.box 63), [.tmp 8], (some 9), none, [], false⟩,
   ⟨3, .q .mv, [.tmp 9], (some 2), none, [], false⟩,
   ⟨4, .q .mv, [.const (.int .i64 0)], (some 3), none, [], false⟩])
 .ret)))⟩
theorem low19 : lowFn Tryd.prog Tryd.f19 = some L19 := by kernel_rfl
theorem call19 {args : List Value} {H : Heap} {S : Ending → Heap → Prop} (hn : args.length ≤ L19.n) (h : awpC Tryd.prog L19.body (retQ L19.results S) (fun ch H => S (.panicked ch) H) (env0 args) H) : ACalls Tryd.prog 19 args.toArray H S := acalls mixed Tryd.func19 low19 hn h
/-- (*satchel/inflate.Reader).Done -/
def L20 : LFn :=
 ⟨7, [.t 2],
 (.seq
 (.reg [⟨0, .q .mv, [.const (.bool false)], (some 2), none, [], false⟩])
 (.seq
 (.reg [⟨0, .q .mv, [.tmp 0], (some 3), none, [], false⟩,
   ⟨1, .q .nilc, [.tmp 3], (some 4), none, [], false⟩,
   ⟨2, .q (.fad 4), [.tmp 4], (some 5), none, [], false⟩,
   ⟨3, .q .ld, [.tmp 5], (some 6), none, [], false⟩,
   ⟨4, .q .mv, [.tmp 6], (some 2), none, [], false⟩])
 .ret))⟩
theorem low20 : lowFn Tryd.prog Tryd.f20 = some L20 := by kernel_rfl
theorem call20 {args : List Value} {H : Heap} {S : Ending → Heap → Prop} (hn : args.length ≤ L20.n) (h : awpC Tryd.prog L20.body (retQ L20.results S) (fun ch H => S (.panicked ch) H) (env0 args) H) : ACalls Tryd.prog 20 args.toArray H S := acalls mixed Tryd.func20 low20 hn h
/-- (*satchel/inflate.Reader).Rest -/
def L21 : LFn :=
 ⟨18, [.t 2],
 (.seq
 (.reg [⟨0, .q .mv, [.const (.slice none 0 0)], (some 2), none, [], false⟩])
 (.seq
 (.seq
 (.reg [⟨0, .q .mv, [.tmp 0], (some 3), none, [], false⟩,
   ⟨1, .q .nilc, [.tmp 3], (some 4), none, [], false⟩,
   ⟨2, .q (.fad 4), [.tmp 4], (some 5), none, [], false⟩,
   ⟨3, .q .ld, [.tmp 5], (some 6), none, [], false⟩,
   ⟨4, .q (.un .not), [.tmp 6], (some 7), none, [], false⟩])
 (.cond (.tmp 7)
  (.seq
  (.reg [⟨0, .q .mv, [.const (.slice none 0 0)], (some 2), none, [], false⟩])
  .ret)
  .skip))
 (.seq
 (.reg [⟨0, .q .mv, [.tmp 0], (some 8), none, [], false⟩,
   ⟨1, .q .nilc, [.tmp 8], (some 9), none, [], false⟩,
   ⟨2, .q (.fad 3), [.tmp 9], (some 10), none, [], false⟩,
   ⟨3, .q .ld, [.tmp 10], (some 11), none, [], false⟩,
   ⟨4, .q .mv, [.tmp 0], (some 12), none, [], false⟩,
   ⟨5, .q .nilc, [.tmp 12], (some 13), none, [], false⟩,
   ⟨6, .q (.fad 2), [.tmp 13], (some 14), none, [], false⟩,
   ⟨7, .q .ld, [.tmp 14], (some 15), none, [], false⟩,
   ⟨8, .q (.slc 1 true false false), [.tmp 11, .tmp 15], (some 16), none, [], false⟩,
   ⟨9, .e (.call 31), [.tmp 16], (some 17), none, [], false⟩,
   ⟨10, .q .mv, [.tmp 17], (some 2), none, [], false⟩])
 .ret)))⟩
theorem low21 : lowFn Tryd.prog Tryd.f21 = some L21 := by kernel_rfl
theorem call21 {args : List Value} {H : Heap} {S : Ending → Heap → Prop} (hn : args.length ≤ L21.n) (h : awpC Tryd.prog L21.body (retQ L21.results S) (fun ch H => S (.panicked ch) H) (env0 args) H) : ACalls Tryd.prog 21 args.toArray H S := acalls mixed Tryd.func21 low21 hn h
/-- (*satchel/inflate.Reader).Size -/
def L22 : LFn :=
 ⟨17, [.t 2],
 (.seq
 (.reg [⟨0, .q .mv, [.const (.int .i64 0)], (some 2), none, [], false⟩])
 (.seq
 (.seq
 (.reg [⟨0, .q .mv, [.tmp 0], (some 3), none, [], false⟩,
   ⟨1, .q .nilc, [.tmp 3], (some 4), none, [], false⟩,
   ⟨2, .q (.fad 4), [.tmp 4], (some 5), none, [], false⟩,
   ⟨3, .q .ld, [.tmp 5], (some 6), none, [], false⟩,
   ⟨4, .q (.un .not), [.tmp 6], (some 7), none, [], false⟩])
 (.cond (.tmp 7)
  (.seq
  (.reg [⟨0, .q .mv, [.tmp 0], (some 8), none, [], false⟩,
    ⟨1, .q .nilc, [.tmp 8], (some 9), none, [], false⟩,
    ⟨2, .q (.fad 3), [.tmp 9], (some 10), none, [], false⟩,
    ⟨3, .q .ld, [.tmp 10], (some 11), none, [], false⟩,
    ⟨4, .q .len, [.tmp 11], (some 12), none, [], false⟩,
    ⟨5, .q .mv, [.tmp 12], (some 2), none, [], false⟩])
  .ret)
  .skip))
 (.seq
 (.reg [⟨0, .q .mv, [.tmp 0], (some 13), none, [], false⟩,
   ⟨1, .q .nilc, [.tmp 13], (some 14), none, [], false⟩,
   ⟨2, .q (.fad 2), [.tmp 14], (some 15), none, [], false⟩,
   ⟨3, .q .ld, [.tmp 15], (some 16), none, [], false⟩,
   ⟨4, .q .mv, [.tmp 16], (some 2), none, [], false⟩])
 .ret)))⟩
theorem low22 : lowFn Tryd.prog Tryd.f22 = some L22 := by kernel_rfl
theorem call22 {args : List Value} {H : Heap} {S : Ending → Heap → Prop} (hn : args.length ≤ L22.n) (h : awpC Tryd.prog L22.body (retQ L22.results S) (fun ch H => S (.panicked ch) H) (env0 args) H) : ACalls Tryd.prog 22 args.toArray H S := acalls mixed Tryd.func22 low22 hn h
/-- satchel/inflate.fits -/
def L23 : LFn :=
 ⟨9, [.t 2],
 (.seq
 (.reg [⟨0, .q .mv, [.const (.bool false)], (some 2), none, [], false⟩])
 (.seq
 (.reg [⟨0, .q .mv, [.tmp 0], (some 3), none, [], false⟩,
   ⟨1, .q (.bin .geq), [.tmp 3, .const (.int .i64 0)], (some 4), none, [], false⟩,
   ⟨2, .q .mv, [.tmp 4], (some 5), none, [], false⟩,
   ⟨3, .q .mv, [.tmp 0], (some 6), (some (5, true)), [], false⟩,
   ⟨4, .q (.bin .leq), [.tmp 6, .const (.int .i64 4194304)], (some 7), (some (5, true)), [], false⟩,
   ⟨5, .q .pick, [.tmp 5, .tmp 7, .const (.bool false)], (some 8), none, [], false⟩,
   ⟨6, .q .mv, [.tmp 8], (some 2), none, [], false⟩])
 .ret))⟩
theorem low23 : lowFn Tryd.prog Tryd.f23 = some L23 := by kernel_rfl
theorem call23 {args : List Value} {H : Heap} {S : Ending → Heap → Prop} (hn : args.length ≤ L23.n) (h : awpC Tryd.prog L23.body (retQ L23.results S) (fun ch H => S (.panicked ch) H) (env0 args) H) : ACalls Tryd.prog 23 args.toArray H S := acalls mixed Tryd.func23 low23 hn h
/-- satchel/inflate.read -/
def L24_0 : LCode :=
 (.seq
 (.seq
 (.reg [⟨0, .q .mv, [.tmp 8], (some 15), none, [], false⟩,
   ⟨1, .q (.bin .eql), [.tmp 15, .const (.int .i64 0)], (some 16), none, [], false⟩])
 (.cond (.tmp 16)
  .skip
  (.exit 0)))
 (.block 1
  (.seq
  (.reg [⟨0, .q .ld, [.tmp 7], (some 17), none, [], false⟩,
    ⟨1, .e (.call 34), [.tmp 17, .const (.int .i64 1)], (some 18), none, [], false⟩,
    ⟨2, .q .mv, [.tmp 18], (some 8), none, [], false⟩])
  (.seq
  (.reg [⟨0, .q .ld, [.tmp 7], (some 19), none, [], false⟩,
    ⟨1, .e (.call 34), [.tmp 19, .const (.int .i64 2)], (some 20), none, [], false⟩])
  (.block 2
   (.seq
   (.reg [⟨0, .q (.bin .eql), [.tmp 20, .const (.int .i64 0)], (some 23), none, [], false⟩,
     ⟨1, .q .mv, [.tmp 23], (some 22), none, [], false⟩])
   (.cond (.tmp 22)
    (.reg [⟨0, .q .ld, [.tmp 7], (some 24), none, [], false⟩,
      ⟨1, .e (.call 35), [.tmp 24], (some 25), none, [], false⟩])
    (.seq
    (.reg [⟨0, .q (.bin .eql), [.tmp 20, .const (.int .i64 1)], (some 27), none, [], false⟩,
      ⟨1, .q .mv, [.tmp 27], (some 26), none, [], false⟩])
    (.cond (.tmp 26)
     (.reg [⟨0, .q .ld, [.tmp 7], (some 28), none, [], true⟩,
       ⟨1, .e (.call 37), [], (some 29), none, [0], false⟩,
       ⟨2, .q (.ext 0), [.tmp 29], (some 30), none, [], false⟩,
       ⟨3, .q (.ext 1), [.tmp 29], (some 31), none, [], false⟩,
       ⟨4, .e (.call 36), [.tmp 28, .tmp 30, .tmp 31], (some 32), none, [], false⟩])
     (.seq
     (.reg [⟨0, .q (.bin .eql), [.tmp 20, .const (.int .i64 2)], (some 34), none, [], false⟩,
       ⟨1, .q .mv, [.tmp 34], (some 33), none, [], false⟩])
     (.cond (.tmp 33)
      (.reg [⟨0, .q .ld, [.tmp 7], (some 35), none, [], true⟩,
        ⟨1, .q .ld, [.tmp 7], (some 36), none, [], false⟩,
        ⟨2, .e (.call 38), [.tmp 36], (some 37), none, [0], false⟩,
        ⟨3, .q (.ext 0), [.tmp 37], (some 38), none, [], false⟩,
        ⟨4, .q (.ext 1), [.tmp 37], (some 39), none, [], false⟩,
        ⟨5, .e (.call 36), [.tmp 35, .tmp 38, .tmp 39], (some 40), none, [], false⟩])
      (.reg [⟨0, .q (.mki 24), [.const (.int .i64 60)], (some 21), none, [], false⟩,
        ⟨1, .e .pan, [.tmp 21], none, none, [], false⟩]))))))))))))
def L24 : DFn :=
 ⟨54, [.c 4 none, .t 5, .c 6 none],
 (.reg [⟨0, .e (.new #[(.slice none 0 0)] 22), [], (some 4), none, [], false⟩,
   ⟨1, .q .mv, [.const (.int .i64 0)], (some 5), none, [], false⟩,
   ⟨2, .e (.new #[(.int .i64 0)] 24), [], (some 6), none, [], false⟩]),
 (.seq
 (.reg [⟨0, .q .mv, [.tmp 0], (some 9), none, [], false⟩,
   ⟨1, .e (.call 32), [.tmp 9], (some 10), none, [], false⟩,
   ⟨2, .q .mv, [.tmp 1], (some 11), none, [], false⟩,
   ⟨3, .q (.build #[(.pointer none), (.slice none 0 0), (.int .i64 0)] [(0, 1), (2, 1)]), [.tmp 10, .tmp 11], (some 12), none, [], false⟩,
   ⟨4, .e (.box 68), [.tmp 12], (some 13), none, [], false⟩,
   ⟨5, .e (.new #[(.pointer none)] 64), [], (some 7), none, [], false⟩,
   ⟨6, .e (.st 1), [.tmp 7, .tmp 13], none, none, [], false⟩])
 (.dfr [⟨0, .q (.mkf (.func 33) 0), [.tmp 7, .tmp 4, .tmp 6], (some 14), none, [], false⟩] (.tmp 14) []
 (.seq
 (.seq
 (.reg [⟨0, .q .mv, [.const (.int .i64 0)], (some 8), none, [], false⟩])
 (.block 0
  (.loop L24_0)))
 (.seq
 (.reg [⟨0, .q .ld, [.tmp 7], (some 41), none, [], true⟩,
   ⟨1, .q .nilc, [.tmp 41], (some 42), none, [], false⟩,
   ⟨2, .q (.fad 1), [.tmp 42], (some 43), none, [], false⟩,
   ⟨3, .q .ld, [.tmp 43], (some 44), none, [], true⟩,
   ⟨4, .q .mv, [.tmp 0], (some 45), none, [], false⟩,
   ⟨5, .q .len, [.tmp 45], (some 46), none, [], false⟩,
   ⟨6, .q .ld, [.tmp 7], (some 47), none, [], false⟩,
   ⟨7, .q .nilc, [.tmp 47], (some 48), none, [], false⟩,
   ⟨8, .q (.fad 0), [.tmp 48], (some 49), none, [], false⟩,
   ⟨9, .q .ld, [.tmp 49], (some 50), none, [], false⟩,
   ⟨10, .e (.call 39), [.tmp 50], (some 51), none, [3, 0], false⟩,
   ⟨11, .q (.bin .quo), [.tmp 51, .const (.int .i64 8)], (some 52), none, [], false⟩,
   ⟨12, .q (.bin .sub), [.tmp 46, .tmp 52], (some 53), none, [], false⟩,
   ⟨13, .e (.st 1), [.tmp 4, .tmp 44], none, none, [], false⟩,
   ⟨14, .q .mv, [.tmp 53], (some 5), none, [], false⟩,
   ⟨15, .e (.st 1), [.tmp 6, .const (.int .i64 0)], none, none, [], false⟩])
 (.code
 .ret)))))⟩
theorem low24 : lowDFn Tryd.prog Tryd.f24 = some L24 := by kernel_rfl
theorem call24 {args : List Value} {H : Heap} {S : Ending → Heap → Prop} (hn : args.length ≤ L24.n) (h : awpC Tryd.prog L24.pre (preDQ Tryd.prog L24 S) (fun ch H => S (.panicked ch) H) (env0 args) H) : ACalls Tryd.prog 24 args.toArray H S := acalls_dq mixed Tryd.func24 low24 hn h
/-- (*satchel/inflate.Reader).Feed -/
def L26_0 : LCode :=
 (.seq
 (.reg [⟨0, .q .mv, [.tmp 9], (some 74), none, [], false⟩,
   ⟨1, .q .mv, [.tmp 8], (some 75), none, [], false⟩,
   ⟨2, .q .mv, [.tmp 74], (some 4), none, [], false⟩,
   ⟨3, .q .mv, [.tmp 75], (some 5), none, [], false⟩])
 .ret)
def L26 : LFn :=
 ⟨76, [.t 4, .t 5],
 (.seq
 (.reg [⟨0, .q .mv, [.const (.slice none 0 0)], (some 4), none, [], false⟩,
   ⟨1, .q .mv, [.const (.int .i64 0)], (some 5), none, [], false⟩])
 (.seq
 (.seq
 (.reg [⟨0, .q .mv, [.tmp 0], (some 10), none, [], false⟩,
   ⟨1, .q .nilc, [.tmp 10], (some 11), none, [], false⟩,
   ⟨2, .q (.fad 5), [.tmp 11], (some 12), none, [], false⟩,
   ⟨3, .q .ld, [.tmp 12], (some 13), none, [], false⟩,
   ⟨4, .q (.bin .neq), [.tmp 13, .const (.int .i64 0)], (some 14), none, [], false⟩])
 (.cond (.tmp 14)
  (.seq
  (.reg [⟨0, .q .mv, [.tmp 0], (some 15), none, [], false⟩,
    ⟨1, .q .nilc, [.tmp 15], (some 16), none, [], false⟩,
    ⟨2, .q (.fad 5), [.tmp 16], (some 17), none, [], false⟩,
    ⟨3, .q .ld, [.tmp 17], (some 18), none, [], false⟩,
    ⟨4, .q .mv, [.const (.slice none 0 0)], (some 4), none, [], false⟩,
    ⟨5, .q .mv, [.tmp 18], (some 5), none, [], false⟩])
  .ret)
  .skip))
 (.seq
 (.reg [⟨0, .q .mv, [.tmp 0], (some 19), none, [], false⟩,
   ⟨1, .q .mv, [.tmp 0], (some 20), none, [], false⟩,
   ⟨2, .q .nilc, [.tmp 20], (some 21), none, [], false⟩,
   ⟨3, .q (.fad 3), [.tmp 21], (some 22), none, [], false⟩,
   ⟨4, .q .ld, [.tmp 22], (some 23), none, [], false⟩,
   ⟨5, .q .mv, [.tmp 1], (some 24), none, [], false⟩,
   ⟨6, .e (.app 5 1 1 #[(.int .u8 0)]), [.tmp 23, .tmp 24], (some 25), none, [], false⟩,
   ⟨7, .q .nilc, [.tmp 19], (some 26), none, [], false⟩,
   ⟨8, .q (.fad 3), [.tmp 26], (some 27), none, [], false⟩,
   ⟨9, .e (.st 1), [.tmp 27, .tmp 25], none, none, [], false⟩])
 (.seq
 (.seq
 (.reg [⟨0, .q .mv, [.tmp 0], (some 28), none, [], false⟩,
   ⟨1, .q .nilc, [.tmp 28], (some 29), none, [], false⟩,
   ⟨2, .q (.fad 4), [.tmp 29], (some 30), none, [], false⟩,
   ⟨3, .q .ld, [.tmp 30], (some 31), none, [], false⟩])
 (.cond (.tmp 31)
  (.seq
  (.reg [⟨0, .q .mv, [.const (.slice none 0 0)], (some 4), none, [], false⟩,
    ⟨1, .q .mv, [.const (.int .i64 0)], (some 5), none, [], false⟩])
  .ret)
  .skip))
 (.seq
 (.reg [⟨0, .q .mv, [.tmp 0], (some 33), none, [], false⟩,
   ⟨1, .q .nilc, [.tmp 33], (some 34), none, [], false⟩,
   ⟨2, .q (.fad 3), [.tmp 34], (some 35), none, [], false⟩,
   ⟨3, .q .ld, [.tmp 35], (some 36), none, [], false⟩,
   ⟨4, .q .mv, [.tmp 0], (some 37), none, [], false⟩,
   ⟨5, .q .nilc, [.tmp 37], (some 38), none, [], false⟩,
   ⟨6, .q (.fad 0), [.tmp 38], (some 39), none, [], false⟩,
   ⟨7, .q .ld, [.tmp 39], (some 40), none, [], false⟩,
   ⟨8, .e (.call 24), [.tmp 36, .tmp 40], (some 41), none, [], false⟩,
   ⟨9, .q .mv, [.tmp 41], (some 32), none, [], false⟩,
   ⟨10, .q (.ext 0), [.tmp 32], (some 42), none, [], false⟩,
   ⟨11, .q (.ext 1), [.tmp 32], (some 43), none, [], false⟩,
   ⟨12, .q (.ext 2), [.tmp 32], (some 44), none, [], false⟩,
   ⟨13, .q .mv, [.tmp 42], (some 6), none, [], false⟩,
   ⟨14, .q .mv, [.tmp 43], (some 7), none, [], false⟩,
   ⟨15, .q .mv, [.tmp 44], (some 8), none, [], false⟩])
 (.seq
 (.reg [⟨0, .q .mv, [.tmp 6], (some 45), none, [], false⟩,
   ⟨1, .q .mv, [.tmp 0], (some 46), none, [], false⟩,
   ⟨2, .q .nilc, [.tmp 46], (some 47), none, [], false⟩,
   ⟨3, .q (.fad 1), [.tmp 47], (some 48), none, [], false⟩,
   ⟨4, .q .ld, [.tmp 48], (some 49), none, [], false⟩,
   ⟨5, .q (.slc 1 true false false), [.tmp 45, .tmp 49], (some 50), none, [], false⟩,
   ⟨6, .e (.call 31), [.tmp 50], (some 51), none, [], false⟩,
   ⟨7, .q .mv, [.tmp 51], (some 9), none, [], false⟩])
 (.seq
 (.reg [⟨0, .q .mv, [.tmp 0], (some 52), none, [], false⟩,
   ⟨1, .q .mv, [.tmp 6], (some 53), none, [], false⟩,
   ⟨2, .q .len, [.tmp 53], (some 54), none, [], false⟩,
   ⟨3, .q .nilc, [.tmp 52], (some 55), none, [], false⟩,
   ⟨4, .q (.fad 1), [.tmp 55], (some 56), none, [], false⟩,
   ⟨5, .e (.st 1), [.tmp 56, .tmp 54], none, none, [], false⟩])
 (.seq
 (.seq
 (.reg [⟨0, .q .mv, [.tmp 8], (some 57), none, [], false⟩])
 (.block 0
  (.seq
  (.reg [⟨0, .q (.bin .eql), [.tmp 57, .const (.int .i64 0)], (some 63), none, [], false⟩,
    ⟨1, .q .mv, [.tmp 63], (some 62), none, [], false⟩])
  (.cond (.tmp 62)
   (.reg [⟨0, .q .mv, [.tmp 0], (some 64), none, [], false⟩,
     ⟨1, .q .mv, [.tmp 0], (some 65), none, [], false⟩,
     ⟨2, .q .mv, [.tmp 7], (some 66), none, [], false⟩,
     ⟨3, .q .nilc, [.tmp 64], (some 67), none, [], false⟩,
     ⟨4, .q (.fad 4), [.tmp 67], (some 68), none, [], false⟩,
     ⟨5, .e (.st 1), [.tmp 68, .const (.bool true)], none, none, [], false⟩,
     ⟨6, .q .nilc, [.tmp 65], (some 69), none, [], false⟩,
     ⟨7, .q (.fad 2), [.tmp 69], (some 70), none, [], false⟩,
     ⟨8, .e (.st 1), [.tmp 70, .tmp 66], none, none, [], false⟩])
   (.seq
   (.reg [⟨0, .q (.bin .eql), [.tmp 57, .const (.int .i64 4)], (some 72), none, [], false⟩,
     ⟨1, .q .mv, [.tmp 72], (some 71), none, [], false⟩])
   (.cond (.tmp 71)
    (.seq
    (.reg [⟨0, .q .mv, [.tmp 9], (some 73), none, [], false⟩,
      ⟨1, .q .mv, [.tmp 73], (some 4), none, [], false⟩,
      ⟨2, .q .mv, [.const (.int .i64 0)], (some 5), none, [], false⟩])
    .ret)
    (.reg [⟨0, .q .mv, [.tmp 0], (some 58), none, [], false⟩,
      ⟨1, .q .mv, [.tmp 8], (some 59), none, [], false⟩,
      ⟨2, .q .nilc, [.tmp 58], (some 60), none, [], false⟩,
      ⟨3, .q (.fad 5), [.tmp 60], (some 61), none, [], false⟩,
      ⟨4, .e (.st 1), [.tmp 61, .tmp 59], none, none, [], false⟩])))))))
 L26_0))))))))⟩
theorem low26 : lowFn Tryd.prog Tryd.f26 = some L26 := by kernel_rfl
theorem call26 {args : List Value} {H : Heap} {S : Ending → Heap → Prop} (hn : args.length ≤ L26.n) (h : awpC Tryd.prog L26.body (retQ L26.results S) (fun ch H => S (.panicked ch) H) (env0 args) H) : ACalls Tryd.prog 26 args.toArray H S := acalls mixed Tryd.func26 low26 hn h
/-- satchel/inflate.read$1 -/
def L33 : RFn :=
 ⟨13, [],
 (.reg [⟨0, .q .ld, [.tmp 0], (some 4), none, [], false⟩,
   ⟨1, .q .nilc, [.tmp 4], (some 5), none, [], false⟩,
   ⟨2, .q (.fad 1), [.tmp 5], (some 6), none, [], false⟩,
   ⟨3, .q .ld, [.tmp 6], (some 7), none, [], false⟩,
   ⟨4, .e (.st 1), [.tmp 1, .tmp 7], none, none, [], false⟩]),
 8, [⟨1, .q .mv, [.tmp 8], (some 3), none, [], false⟩],
 (.seq
 (.reg [⟨0, .q .mv, [.tmp 3], (some 9), none, [], false⟩,
   ⟨1, .q (.ein true), [.tmp 9, .const .nilIface], (some 10), none, [], false⟩])
 (.cond (.tmp 10)
  (.reg [⟨0, .q .mv, [.tmp 3], (some 11), none, [], false⟩,
    ⟨1, .q (.tas 24), [.tmp 11], (some 12), none, [], false⟩,
    ⟨2, .e (.st 1), [.tmp 2, .tmp 12], none, none, [], false⟩])
  .skip))⟩
theorem low33 : lowRFn Tryd.prog Tryd.f33 = some L33 := by kernel_rfl
theorem call33 {args captured : List Value} {u : FrameMode} {H : Heap} {S : Ending → FrameMode → Heap → Prop} (hn : (args ++ captured).length ≤ L33.n) (h : awpC Tryd.prog L33.pre (recQ Tryd.prog L33 u S) (fun ch H => S (.panicked ch) u H) (env0 (args ++ captured)) H) : ADef Tryd.prog ⟨.fn (.func 33) captured.toArray, args.toArray⟩ u H S := adef_rq mixed Tryd.func33 low33 (by kernel_rfl) hn h
/-- (*satchel/inflate.stream).take -/
def L34_0 : LCode :=
 (.seq
 (.reg [⟨0, .q .mv, [.tmp 5], (some 19), none, [], false⟩,
   ⟨1, .q (.cvi .i64), [.tmp 19], (some 20), none, [], false⟩,
   ⟨2, .q .mv, [.tmp 20], (some 4), none, [], false⟩])
 .ret)
def L34 : LFn :=
 ⟨21, [.t 4],
 (.seq
 (.reg [⟨0, .q .mv, [.const (.int .i64 0)], (some 4), none, [], false⟩])
 (.seq
 (.reg [⟨0, .q .mv, [.tmp 0], (some 8), none, [], false⟩,
   ⟨1, .q .nilc, [.tmp 8], (some 9), none, [], false⟩,
   ⟨2, .q (.fad 0), [.tmp 9], (some 10), none, [], false⟩,
   ⟨3, .q .ld, [.tmp 10], (some 11), none, [], false⟩,
   ⟨4, .q .mv, [.tmp 1], (some 12), none, [], false⟩,
   ⟨5, .e (.call 46), [.tmp 11, .tmp 12], (some 13), none, [], false⟩,
   ⟨6, .q .mv, [.tmp 13], (some 7), none, [], false⟩,
   ⟨7, .q (.ext 0), [.tmp 7], (some 14), none, [], false⟩,
   ⟨8, .q (.ext 1), [.tmp 7], (some 15), none, [], false⟩,
   ⟨9, .q .mv, [.tmp 14], (some 5), none, [], false⟩,
   ⟨10, .q .mv, [.tmp 15], (some 6), none, [], false⟩])
 (.seq
 (.seq
 (.reg [⟨0, .q .mv, [.tmp 6], (some 16), none, [], false⟩,
   ⟨1, .q (.bin .neq), [.tmp 16, .const (.int .i64 0)], (some 17), none, [], false⟩])
 (.cond (.tmp 17)
  (.reg [⟨0, .q (.mki 24), [.const (.int .i64 4)], (some 18), none, [], false⟩,
    ⟨1, .e .pan, [.tmp 18], none, none, [], false⟩])
  .skip))
 L34_0)))⟩
theorem low34 : lowFn Tryd.prog Tryd.f34 = some L34 := by kernel_rfl
theorem call34 {args : List Value} {H : Heap} {S : Ending → Heap → Prop} (hn : args.length ≤ L34.n) (h : awpC Tryd.prog L34.body (retQ L34.results S) (fun ch H => S (.panicked ch) H) (env0 args) H) : ACalls Tryd.prog 34 args.toArray H S := acalls mixed Tryd.func34 low34 hn h
/-- (*satchel/inflate.stream).stored -/
def L35_0 : LCode :=
 (.seq
 (.reg [⟨0, .q .mv, [.tmp 0], (some 18), none, [], false⟩,
   ⟨1, .q .mv, [.tmp 2], (some 19), none, [], false⟩,
   ⟨2, .e (.call 48), [.tmp 18, .tmp 19], (some 20), none, [], false⟩])
 (.seq
 (.reg [⟨0, .q .mv, [.tmp 0], (some 22), none, [], false⟩,
   ⟨1, .q .nilc, [.tmp 22], (some 23), none, [], false⟩,
   ⟨2, .q (.fad 0), [.tmp 23], (some 24), none, [], false⟩,
   ⟨3, .q .ld, [.tmp 24], (some 25), none, [], true⟩,
   ⟨4, .q .mv, [.tmp 2], (some 26), none, [], false⟩,
   ⟨5, .q .mv, [.tmp 0], (some 27), none, [], false⟩,
   ⟨6, .q .nilc, [.tmp 27], (some 28), none, [], false⟩,
   ⟨7, .q (.fad 0), [.tmp 28], (some 29), none, [], false⟩,
   ⟨8, .q .ld, [.tmp 29], (some 30), none, [], false⟩,
   ⟨9, .e (.call 39), [.tmp 30], (some 31), none, [3], false⟩,
   ⟨10, .q (.bin .quo), [.tmp 31, .const (.int .i64 8)], (some 32), none, [], false⟩,
   ⟨11, .q .min2, [.tmp 26, .tmp 32], (some 33), none, [], false⟩,
   ⟨12, .e (.call 49), [.tmp 25, .tmp 33], (some 34), none, [], false⟩,
   ⟨13, .q .mv, [.tmp 34], (some 21), none, [], false⟩,
   ⟨14, .q (.ext 0), [.tmp 21], (some 35), none, [], false⟩,
   ⟨15, .q (.ext 1), [.tmp 21], (some 36), none, [], false⟩,
   ⟨16, .q .mv, [.tmp 35], (some 3), none, [], false⟩,
   ⟨17, .q .mv, [.tmp 36], (some 4), none, [], false⟩])
 (.seq
 (.reg [⟨0, .q .mv, [.tmp 0], (some 37), none, [], false⟩,
   ⟨1, .q .mv, [.tmp 0], (some 38), none, [], false⟩,
   ⟨2, .q .nilc, [.tmp 38], (some 39), none, [], false⟩,
   ⟨3, .q (.fad 1), [.tmp 39], (some 40), none, [], false⟩,
   ⟨4, .q .ld, [.tmp 40], (some 41), none, [], false⟩,
   ⟨5, .q .mv, [.tmp 3], (some 42), none, [], false⟩,
   ⟨6, .e (.app 5 1 1 #[(.int .u8 0)]), [.tmp 41, .tmp 42], (some 43), none, [], false⟩,
   ⟨7, .q .nilc, [.tmp 37], (some 44), none, [], false⟩,
   ⟨8, .q (.fad 1), [.tmp 44], (some 45), none, [], false⟩,
   ⟨9, .e (.st 1), [.tmp 45, .tmp 43], none, none, [], false⟩])
 (.seq
 (.reg [⟨0, .q .mv, [.tmp 3], (some 46), none, [], false⟩,
   ⟨1, .q .len, [.tmp 46], (some 47), none, [], false⟩,
   ⟨2, .q .mv, [.tmp 2], (some 48), none, [], false⟩,
   ⟨3, .q (.bin .lss), [.tmp 47, .tmp 48], (some 49), none, [], false⟩])
 (.cond (.tmp 49)
  (.reg [⟨0, .q (.mki 24), [.const (.int .i64 4)], (some 50), none, [], false⟩,
    ⟨1, .e .pan, [.tmp 50], none, none, [], false⟩])
  .skip)))))
def L35 : LFn :=
 ⟨51, [],
 (.seq
 (.reg [⟨0, .q .mv, [.tmp 0], (some 5), none, [], false⟩,
   ⟨1, .q .nilc, [.tmp 5], (some 6), none, [], false⟩,
   ⟨2, .q (.fad 0), [.tmp 6], (some 7), none, [], false⟩,
   ⟨3, .q .ld, [.tmp 7], (some 8), none, [], false⟩,
   ⟨4, .e (.call 47), [.tmp 8], (some 9), none, [], false⟩])
 (.seq
 (.reg [⟨0, .q .mv, [.tmp 0], (some 10), none, [], false⟩,
   ⟨1, .e (.call 34), [.tmp 10, .const (.int .i64 16)], (some 11), none, [], false⟩,
   ⟨2, .q .mv, [.tmp 11], (some 2), none, [], false⟩])
 (.seq
 (.seq
 (.reg [⟨0, .q .mv, [.tmp 0], (some 12), none, [], false⟩,
   ⟨1, .e (.call 34), [.tmp 12, .const (.int .i64 16)], (some 13), none, [], false⟩,
   ⟨2, .q .mv, [.tmp 2], (some 14), none, [], false⟩,
   ⟨3, .q (.bin .xor), [.tmp 14, .const (.int .i64 65535)], (some 15), none, [], false⟩,
   ⟨4, .q (.bin .neq), [.tmp 13, .tmp 15], (some 16), none, [], false⟩])
 (.cond (.tmp 16)
  (.reg [⟨0, .q (.mki 24), [.const (.int .i64 61)], (some 17), none, [], false⟩,
    ⟨1, .e .pan, [.tmp 17], none, none, [], false⟩])
  .skip))
 L35_0)))⟩
theorem low35 : lowFn Tryd.prog Tryd.f35 = some L35 := by kernel_rfl
theorem call35 {args : List Value} {H : Heap} {S : Ending → Heap → Prop} (hn : args.length ≤ L35.n) (h : awpC Tryd.prog L35.body (retQ L35.results S) (fun ch H => S (.panicked ch) H) (env0 args) H) : ACalls Tryd.prog 35 args.toArray H S := acalls mixed Tryd.func35 low35 hn h
/-- (*satchel/inflate.stream).coded -/
def L36_0 : LCode :=
 (.seq
 (.reg [⟨0, .q (.bin .lss), [.tmp 63, .tmp 62], (some 64), none, [], false⟩])
 (.seq
 (.cond (.tmp 64)
  .skip
  (.exit 3))
 (.seq
 (.block 4
  (.reg [⟨0, .q .mv, [.tmp 0], (some 65), none, [], false⟩,
    ⟨1, .q .mv, [.tmp 0], (some 66), none, [], false⟩,
    ⟨2, .q .nilc, [.tmp 66], (some 67), none, [], false⟩,
    ⟨3, .q (.fad 1), [.tmp 67], (some 68), none, [], false⟩,
    ⟨4, .q .ld, [.tmp 68], (some 69), none, [], true⟩,
    ⟨5, .q .mv, [.tmp 0], (some 70), none, [], false⟩,
    ⟨6, .q .nilc, [.tmp 70], (some 71), none, [], false⟩,
    ⟨7, .q (.fad 1), [.tmp 71], (some 72), none, [], false⟩,
    ⟨8, .q .ld, [.tmp 72], (some 73), none, [], false⟩,
    ⟨9, .q .mv, [.tmp 0], (some 74), none, [], false⟩,
    ⟨10, .q .nilc, [.tmp 74], (some 75), none, [], false⟩,
    ⟨11, .q (.fad 1), [.tmp 75], (some 76), none, [], false⟩,
    ⟨12, .q .ld, [.tmp 76], (some 77), none, [], false⟩,
    ⟨13, .q .len, [.tmp 77], (some 78), none, [], false⟩,
    ⟨14, .q .mv, [.tmp 9], (some 79), none, [], false⟩,
    ⟨15, .q (.bin .sub), [.tmp 78, .tmp 79], (some 80), none, [], false⟩,
    ⟨16, .q (.iad 1), [.tmp 73, .tmp 80], (some 81), none, [], false⟩,
    ⟨17, .q .ld, [.tmp 81], (some 82), none, [], false⟩,
    ⟨18, .e (.lits 5 #[(.int .u8 0)] 1 [(0, 1)]), [.tmp 82], (some 83), none, [4], false⟩,
    ⟨19, .e (.app 5 1 1 #[(.int .u8 0)]), [.tmp 69, .tmp 83], (some 84), none, [], false⟩,
    ⟨20, .q .nilc, [.tmp 65], (some 85), none, [], false⟩,
    ⟨21, .q (.fad 1), [.tmp 85], (some 86), none, [], false⟩,
    ⟨22, .e (.st 1), [.tmp 86, .tmp 84], none, none, [], false⟩]))
 (.reg [⟨0, .q (.bin .add), [.tmp 63, .const (.int .i64 1)], (some 87), none, [], false⟩,
   ⟨1, .q .mv, [.tmp 87], (some 63), none, [], false⟩]))))
def L36_1 : LCode :=
 (.seq
 (.reg [⟨0, .q .mv, [.tmp 0], (some 59), none, [], false⟩,
   ⟨1, .q .mv, [.tmp 7], (some 60), none, [], false⟩,
   ⟨2, .e (.call 48), [.tmp 59, .tmp 60], (some 61), none, [], false⟩])
 (.seq
 (.reg [⟨0, .q .mv, [.tmp 7], (some 62), none, [], false⟩,
   ⟨1, .q .mv, [.const (.int .i64 0)], (some 63), none, [], false⟩])
 (.block 3
  (.loop L36_0))))
def L36_2 : LCode :=
 (.seq
 (.reg [⟨0, .q .mv, [.tmp 0], (some 48), none, [], false⟩,
   ⟨1, .q .mv, [.tmp 8], (some 49), none, [], false⟩,
   ⟨2, .e (.call 52), [.tmp 48, .tmp 49], (some 50), none, [], false⟩,
   ⟨3, .q .mv, [.tmp 50], (some 9), none, [], false⟩])
 (.seq
 (.seq
 (.reg [⟨0, .q .mv, [.tmp 9], (some 51), none, [], false⟩,
   ⟨1, .q .mv, [.tmp 0], (some 52), none, [], false⟩,
   ⟨2, .q .nilc, [.tmp 52], (some 53), none, [], false⟩,
   ⟨3, .q (.fad 1), [.tmp 53], (some 54), none, [], false⟩,
   ⟨4, .q .ld, [.tmp 54], (some 55), none, [], false⟩,
   ⟨5, .q .len, [.tmp 55], (some 56), none, [], false⟩,
   ⟨6, .q (.bin .gtr), [.tmp 51, .tmp 56], (some 57), none, [], false⟩])
 (.cond (.tmp 57)
  (.reg [⟨0, .q (.mki 24), [.const (.int .i64 64)], (some 58), none, [], false⟩,
    ⟨1, .e .pan, [.tmp 58], none, none, [], false⟩])
  .skip))
 L36_1))
def L36_3 : LCode :=
 (.seq
 (.reg [⟨0, .q .mv, [.tmp 0], (some 42), none, [], false⟩,
   ⟨1, .q .mv, [.tmp 2], (some 43), none, [], false⟩,
   ⟨2, .e (.call 50), [.tmp 42, .tmp 43], (some 44), none, [], false⟩,
   ⟨3, .q .mv, [.tmp 44], (some 8), none, [], false⟩])
 (.seq
 (.seq
 (.reg [⟨0, .q .mv, [.tmp 8], (some 45), none, [], false⟩,
   ⟨1, .q (.bin .geq), [.tmp 45, .const (.int .i64 30)], (some 46), none, [], false⟩])
 (.cond (.tmp 46)
  (.reg [⟨0, .q (.mki 24), [.const (.int .i64 63)], (some 47), none, [], false⟩,
    ⟨1, .e .pan, [.tmp 47], none, none, [], false⟩])
  .skip))
 L36_2))
def L36_4 : LCode :=
 (.block 1
  (.seq
  (.reg [⟨0, .q .mv, [.tmp 0], (some 10), none, [], false⟩,
    ⟨1, .q .mv, [.tmp 1], (some 11), none, [], false⟩,
    ⟨2, .e (.call 50), [.tmp 10, .tmp 11], (some 12), none, [], false⟩,
    ⟨3, .q .mv, [.tmp 12], (some 6), none, [], false⟩])
  (.seq
  (.block 2
   (.seq
   (.reg [⟨0, .q .mv, [.tmp 6], (some 14), none, [], false⟩,
     ⟨1, .q (.bin .eql), [.tmp 14, .const (.int .i64 256)], (some 15), none, [], false⟩,
     ⟨2, .q .mv, [.tmp 15], (some 13), none, [], false⟩])
   (.cond (.tmp 13)
    .ret
    (.seq
    (.reg [⟨0, .q .mv, [.tmp 6], (some 17), none, [], false⟩,
      ⟨1, .q (.bin .lss), [.tmp 17, .const (.int .i64 256)], (some 18), none, [], false⟩,
      ⟨2, .q .mv, [.tmp 18], (some 16), none, [], false⟩])
    (.cond (.tmp 16)
     (.seq
     (.reg [⟨0, .q .mv, [.tmp 0], (some 19), none, [], false⟩,
       ⟨1, .e (.call 48), [.tmp 19, .const (.int .i64 1)], (some 20), none, [], false⟩])
     (.seq
     (.reg [⟨0, .q .mv, [.tmp 0], (some 21), none, [], false⟩,
       ⟨1, .q .mv, [.tmp 0], (some 22), none, [], false⟩,
       ⟨2, .q .nilc, [.tmp 22], (some 23), none, [], false⟩,
       ⟨3, .q (.fad 1), [.tmp 23], (some 24), none, [], false⟩,
       ⟨4, .q .ld, [.tmp 24], (some 25), none, [], false⟩,
       ⟨5, .q .mv, [.tmp 6], (some 26), none, [], false⟩,
       ⟨6, .q (.cvi .u8), [.tmp 26], (some 27), none, [], false⟩,
       ⟨7, .e (.lits 5 #[(.int .u8 0)] 1 [(0, 1)]), [.tmp 27], (some 28), none, [], false⟩,
       ⟨8, .e (.app 5 1 1 #[(.int .u8 0)]), [.tmp 25, .tmp 28], (some 29), none, [], false⟩,
       ⟨9, .q .nilc, [.tmp 21], (some 30), none, [], false⟩,
       ⟨10, .q (.fad 1), [.tmp 30], (some 31), none, [], false⟩,
       ⟨11, .e (.st 1), [.tmp 31, .tmp 29], none, none, [], false⟩])
     (.exit 1)))
     (.seq
     (.reg [⟨0, .q .mv, [.tmp 6], (some 33), none, [], false⟩,
       ⟨1, .q (.bin .geq), [.tmp 33, .const (.int .i64 286)], (some 34), none, [], false⟩,
       ⟨2, .q .mv, [.tmp 34], (some 32), none, [], false⟩])
     (.cond (.tmp 32)
      (.reg [⟨0, .q (.mki 24), [.const (.int .i64 63)], (some 35), none, [], false⟩,
        ⟨1, .e .pan, [.tmp 35], none, none, [], false⟩])
      .skip)))))))
  (.seq
  (.reg [⟨0, .q .mv, [.tmp 0], (some 36), none, [], false⟩,
    ⟨1, .q .mv, [.tmp 6], (some 37), none, [], false⟩,
    ⟨2, .e (.call 51), [.tmp 36, .tmp 37], (some 38), none, [], false⟩,
    ⟨3, .q .mv, [.tmp 38], (some 7), none, [], false⟩])
  (.seq
  (.seq
  (.reg [⟨0, .q .mv, [.tmp 2], (some 39), none, [], false⟩,
    ⟨1, .q (.eqp false), [.tmp 39, .const (.pointer none)], (some 40), none, [], false⟩])
  (.cond (.tmp 40)
   (.reg [⟨0, .q (.mki 24), [.const (.int .i64 63)], (some 41), none, [], false⟩,
     ⟨1, .e .pan, [.tmp 41], none, none, [], false⟩])
   .skip))
  L36_3)))))
def L36 : LFn :=
 ⟨88, [],
 (.block 0
  (.loop L36_4))⟩
theorem low36 : lowFn Tryd.prog Tryd.f36 = some L36 := by kernel_rfl
theorem call36 {args : List Value} {H : Heap} {S : Ending → Heap → Prop} (hn : args.length ≤ L36.n) (h : awpC Tryd.prog L36.body (retQ L36.results S) (fun ch H => S (.panicked ch) H) (env0 args) H) : ACalls Tryd.prog 36 args.toArray H S := acalls mixed Tryd.func36 low36 hn h
/-- satchel/inflate.fixed -/
def L37 : LFn :=
 ⟨30, [.t 0, .t 1],
 (.seq
 (.reg [⟨0, .q .mv, [.const (.pointer none)], (some 0), none, [], false⟩,
   ⟨1, .q .mv, [.const (.pointer none)], (some 1), none, [], false⟩])
 (.seq
 (.reg [⟨0, .e (.lits 3 #[(.int .i64 0)] 1 [(0, 1)]), [.const (.int .i64 8)], (some 7), none, [], false⟩,
   ⟨1, .e (.call 54), [.tmp 7, .const (.int .i64 144)], (some 8), none, [], false⟩,
   ⟨2, .e (.lits 3 #[(.int .i64 0)] 1 [(0, 1)]), [.const (.int .i64 9)], (some 9), none, [], false⟩,
   ⟨3, .e (.call 54), [.tmp 9, .const (.int .i64 112)], (some 10), none, [], false⟩,
   ⟨4, .e (.lits 3 #[(.int .i64 0)] 1 [(0, 1)]), [.const (.int .i64 7)], (some 11), none, [], false⟩,
   ⟨5, .e (.call 54), [.tmp 11, .const (.int .i64 24)], (some 12), none, [], false⟩,
   ⟨6, .e (.lits 3 #[(.int .i64 0)] 1 [(0, 1)]), [.const (.int .i64 8)], (some 13), none, [], false⟩,
   ⟨7, .e (.call 54), [.tmp 13, .const (.int .i64 8)], (some 14), none, [], false⟩,
   ⟨8, .e (.lits 48 #[(.slice none 0 0), (.slice none 0 0), (.slice none 0 0), (.slice none 0 0)] 4 [(0, 1), (1, 1), (2, 1), (3, 1)]), [.tmp 8, .tmp 10, .tmp 12, .tmp 14], (some 15), none, [], false⟩,
   ⟨9, .e (.call 53), [.tmp 15], (some 16), none, [], false⟩,
   ⟨10, .q .mv, [.tmp 16], (some 2), none, [], false⟩])
 (.seq
 (.reg [⟨0, .q .mv, [.tmp 2], (some 18), none, [], false⟩,
   ⟨1, .e (.call 55), [.tmp 18], (some 19), none, [], false⟩,
   ⟨2, .q .mv, [.tmp 19], (some 17), none, [], false⟩,
   ⟨3, .q (.ext 0), [.tmp 17], (some 20), none, [], false⟩,
   ⟨4, .q (.ext 1), [.tmp 17], (some 21), none, [], false⟩,
   ⟨5, .q .mv, [.tmp 20], (some 3), none, [], false⟩,
   ⟨6, .q .mv, [.tmp 21], (some 4), none, [], false⟩])
 (.seq
 (.reg [⟨0, .e (.lits 3 #[(.int .i64 0)] 1 [(0, 1)]), [.const (.int .i64 5)], (some 23), none, [], false⟩,
   ⟨1, .e (.call 54), [.tmp 23, .const (.int .i64 32)], (some 24), none, [], false⟩,
   ⟨2, .e (.call 55), [.tmp 24], (some 25), none, [], false⟩,
   ⟨3, .q .mv, [.tmp 25], (some 22), none, [], false⟩,
   ⟨4, .q (.ext 0), [.tmp 22], (some 26), none, [], false⟩,
   ⟨5, .q (.ext 1), [.tmp 22], (some 27), none, [], false⟩,
   ⟨6, .q .mv, [.tmp 26], (some 5), none, [], false⟩,
   ⟨7, .q .mv, [.tmp 27], (some 6), none, [], false⟩])
 (.seq
 (.reg [⟨0, .q .mv, [.tmp 3], (some 28), none, [], false⟩,
   ⟨1, .q .mv, [.tmp 5], (some 29), none, [], false⟩,
   ⟨2, .q .mv, [.tmp 28], (some 0), none, [], false⟩,
   ⟨3, .q .mv, [.tmp 29], (some 1), none, [], false⟩])
 .ret)))))⟩
theorem low37 : lowFn Tryd.prog Tryd.f37 = some L37 := by kernel_rfl
theorem call37 {args : List Value} {H : Heap} {S : Ending → Heap → Prop} (hn : args.length ≤ L37.n) (h : awpC Tryd.prog L37.body (retQ L37.results S) (fun ch H => S (.panicked ch) H) (env0 args) H) : ACalls Tryd.prog 37 args.toArray H S := acalls mixed Tryd.func37 low37 hn h
/-- (*satchel/inflate.stream).own -/
def L38_0 : LCode :=
 (.seq
 (.reg [⟨0, .q (.bin .lss), [.tmp 32, .tmp 31], (some 33), none, [], false⟩])
 (.seq
 (.cond (.tmp 33)
  .skip
  (.exit 0))
 (.seq
 (.block 1
  (.seq
  (.reg [⟨0, .q (.iad 1), [.tmp 30, .tmp 32], (some 34), none, [], false⟩,
    ⟨1, .q .ld, [.tmp 34], (some 35), none, [], false⟩,
    ⟨2, .q .mv, [.tmp 35], (some 9), none, [], false⟩])
  (.reg [⟨0, .q .mv, [.tmp 9], (some 36), none, [], false⟩,
    ⟨1, .q .mv, [.tmp 0], (some 37), none, [], false⟩,
    ⟨2, .e (.call 34), [.tmp 37, .const (.int .i64 3)], (some 38), none, [], false⟩,
    ⟨3, .q (.iada 19 1), [.tmp 7, .tmp 36], (some 39), none, [], false⟩,
    ⟨4, .e (.st 1), [.tmp 39, .tmp 38], none, none, [], false⟩])))
 (.reg [⟨0, .q (.bin .add), [.tmp 32, .const (.int .i64 1)], (some 40), none, [], false⟩,
   ⟨1, .q .mv, [.tmp 40], (some 32), none, [], false⟩]))))
def L38_1 : LCode :=
 (.seq
 (.reg [⟨0, .q .mv, [.tmp 12], (some 65), none, [], false⟩,
   ⟨1, .q .mv, [.tmp 4], (some 66), none, [], false⟩,
   ⟨2, .q (.slc 1 false true false), [.tmp 65, .tmp 66], (some 67), none, [], false⟩,
   ⟨4, .q .mv, [.tmp 12], (some 69), none, [], false⟩,
   ⟨5, .q .mv, [.tmp 4], (some 70), none, [], false⟩,
   ⟨6, .q (.slc 1 true false false), [.tmp 69, .tmp 70], (some 71), none, [], false⟩,
   ⟨3, .e (.call 58), [.tmp 67], (some 68), none, [], false⟩,
   ⟨7, .e (.call 59), [.tmp 71], (some 72), none, [], false⟩,
   ⟨8, .q .mv, [.tmp 68], (some 2), none, [], false⟩,
   ⟨9, .q .mv, [.tmp 72], (some 3), none, [], false⟩])
 .ret)
def L38_2 : LCode :=
 (.seq
 (.reg [⟨0, .q .mv, [.tmp 0], (some 54), none, [], false⟩,
   ⟨1, .q .mv, [.tmp 10], (some 55), none, [], false⟩,
   ⟨2, .q .mv, [.tmp 4], (some 56), none, [], false⟩,
   ⟨3, .q .mv, [.tmp 5], (some 57), none, [], false⟩,
   ⟨4, .q (.bin .add), [.tmp 56, .tmp 57], (some 58), none, [], false⟩,
   ⟨5, .e (.call 57), [.tmp 54, .tmp 55, .tmp 58], (some 59), none, [], false⟩,
   ⟨6, .q .mv, [.tmp 59], (some 12), none, [], false⟩])
 (.seq
 (.seq
 (.reg [⟨0, .q .mv, [.tmp 12], (some 60), none, [], false⟩,
   ⟨1, .q (.iad 1), [.tmp 60, .const (.int .i64 256)], (some 61), none, [], false⟩,
   ⟨2, .q .ld, [.tmp 61], (some 62), none, [], false⟩,
   ⟨3, .q (.bin .eql), [.tmp 62, .const (.int .i64 0)], (some 63), none, [], false⟩])
 (.cond (.tmp 63)
  (.reg [⟨0, .q (.mki 24), [.const (.int .i64 62)], (some 64), none, [], false⟩,
    ⟨1, .e .pan, [.tmp 64], none, none, [], false⟩])
  .skip))
 L38_1))
def L38_3 : LCode :=
 (.seq
 (.reg [⟨0, .e (.new (Array.replicate 19 (.int .i64 0)) 92), [], (some 7), none, [], false⟩])
 (.seq
 (.seq
 (.reg [⟨0, .q .mv, [.tmp 6], (some 29), none, [], false⟩,
   ⟨1, .q (.sla 19 1 false true), [.global 0, .tmp 29], (some 30), none, [], false⟩,
   ⟨2, .q .len, [.tmp 30], (some 31), none, [], false⟩,
   ⟨3, .q .mv, [.const (.int .i64 0)], (some 32), none, [], false⟩])
 (.block 0
  (.loop L38_0)))
 (.seq
 (.reg [⟨0, .q (.sla 19 1 false false), [.tmp 7], (some 42), none, [], false⟩,
   ⟨1, .e (.call 55), [.tmp 42], (some 43), none, [], false⟩,
   ⟨2, .q .mv, [.tmp 43], (some 41), none, [], false⟩,
   ⟨3, .q (.ext 0), [.tmp 41], (some 44), none, [], false⟩,
   ⟨4, .q (.ext 1), [.tmp 41], (some 45), none, [], false⟩,
   ⟨5, .q .mv, [.tmp 44], (some 10), none, [], false⟩,
   ⟨6, .q .mv, [.tmp 45], (some 11), none, [], false⟩])
 (.seq
 (.seq
 (.reg [⟨0, .q .mv, [.tmp 11], (some 46), none, [], false⟩,
   ⟨1, .q (.bin .neq), [.tmp 46, .const (.int .i64 0)], (some 47), none, [], false⟩,
   ⟨2, .q .mv, [.tmp 47], (some 48), none, [], false⟩,
   ⟨3, .q .mv, [.tmp 10], (some 49), (some (48, false)), [], false⟩,
   ⟨4, .e (.call 56), [.tmp 49], (some 50), (some (48, false)), [], false⟩,
   ⟨5, .q (.un .not), [.tmp 50], (some 51), (some (48, false)), [], false⟩,
   ⟨6, .q .pick, [.tmp 48, .const (.bool true), .tmp 51], (some 52), none, [], false⟩])
 (.cond (.tmp 52)
  (.reg [⟨0, .q (.mki 24), [.const (.int .i64 62)], (some 53), none, [], false⟩,
    ⟨1, .e .pan, [.tmp 53], none, none, [], false⟩])
  .skip))
 L38_2))))
def L38 : LFn :=
 ⟨73, [.t 2, .t 3],
 (.seq
 (.reg [⟨0, .q .mv, [.const (.pointer none)], (some 2), none, [], false⟩,
   ⟨1, .q .mv, [.const (.pointer none)], (some 3), none, [], false⟩])
 (.seq
 (.reg [⟨0, .q .mv, [.tmp 0], (some 13), none, [], false⟩,
   ⟨1, .e (.call 34), [.tmp 13, .const (.int .i64 5)], (some 14), none, [], false⟩,
   ⟨2, .q (.bin .add), [.tmp 14, .const (.int .i64 257)], (some 15), none, [], false⟩,
   ⟨3, .q .mv, [.tmp 0], (some 16), none, [], false⟩,
   ⟨4, .e (.call 34), [.tmp 16, .const (.int .i64 5)], (some 17), none, [], false⟩,
   ⟨5, .q (.bin .add), [.tmp 17, .const (.int .i64 1)], (some 18), none, [], false⟩,
   ⟨6, .q .mv, [.tmp 0], (some 19), none, [], false⟩,
   ⟨7, .e (.call 34), [.tmp 19, .const (.int .i64 4)], (some 20), none, [], false⟩,
   ⟨8, .q (.bin .add), [.tmp 20, .const (.int .i64 4)], (some 21), none, [], false⟩,
   ⟨9, .q .mv, [.tmp 15], (some 4), none, [], false⟩,
   ⟨10, .q .mv, [.tmp 18], (some 5), none, [], false⟩,
   ⟨11, .q .mv, [.tmp 21], (some 6), none, [], false⟩])
 (.seq
 (.seq
 (.reg [⟨0, .q .mv, [.tmp 4], (some 22), none, [], false⟩,
   ⟨1, .q (.bin .gtr), [.tmp 22, .const (.int .i64 286)], (some 23), none, [], false⟩,
   ⟨2, .q .mv, [.tmp 23], (some 24), none, [], false⟩,
   ⟨3, .q .mv, [.tmp 5], (some 25), (some (24, false)), [], false⟩,
   ⟨4, .q (.bin .gtr), [.tmp 25, .const (.int .i64 30)], (some 26), (some (24, false)), [], false⟩,
   ⟨5, .q .pick, [.tmp 24, .const (.bool true), .tmp 26], (some 27), none, [], false⟩])
 (.cond (.tmp 27)
  (.reg [⟨0, .q (.mki 24), [.const (.int .i64 62)], (some 28), none, [], false⟩,
    ⟨1, .e .pan, [.tmp 28], none, none, [], false⟩])
  .skip))
 L38_3)))⟩
theorem low38 : lowFn Tryd.prog Tryd.f38 = some L38 := by kernel_rfl
theorem call38 {args : List Value} {H : Heap} {S : Ending → Heap → Prop} (hn : args.length ≤ L38.n) (h : awpC Tryd.prog L38.body (retQ L38.results S) (fun ch H => S (.panicked ch) H) (env0 args) H) : ACalls Tryd.prog 38 args.toArray H S := acalls mixed Tryd.func38 low38 hn h
/-- (*satchel/inflate.stream).room -/
def L48 : LFn :=
 ⟨17, [],
 (.seq
 (.reg [⟨0, .q .mv, [.tmp 1], (some 4), none, [], false⟩,
   ⟨1, .q .mv, [.tmp 0], (some 5), none, [], false⟩,
   ⟨2, .q .nilc, [.tmp 5], (some 6), none, [], false⟩,
   ⟨3, .q (.fad 2), [.tmp 6], (some 7), none, [], false⟩,
   ⟨4, .q .ld, [.tmp 7], (some 8), none, [], false⟩,
   ⟨5, .q .mv, [.tmp 0], (some 9), none, [], false⟩,
   ⟨6, .q .nilc, [.tmp 9], (some 10), none, [], false⟩,
   ⟨7, .q (.fad 1), [.tmp 10], (some 11), none, [], false⟩,
   ⟨8, .q .ld, [.tmp 11], (some 12), none, [], false⟩,
   ⟨9, .q .len, [.tmp 12], (some 13), none, [], false⟩,
   ⟨10, .q (.bin .sub), [.tmp 8, .tmp 13], (some 14), none, [], false⟩,
   ⟨11, .q (.bin .gtr), [.tmp 4, .tmp 14], (some 15), none, [], false⟩])
 (.cond (.tmp 15)
  (.reg [⟨0, .q (.mki 24), [.const (.int .i64 32)], (some 16), none, [], false⟩,
    ⟨1, .e .pan, [.tmp 16], none, none, [], false⟩])
  .skip))⟩
theorem low48 : lowFn Tryd.prog Tryd.f48 = some L48 := by kernel_rfl
theorem call48 {args : List Value} {H : Heap} {S : Ending → Heap → Prop} (hn : args.length ≤ L48.n) (h : awpC Tryd.prog L48.body (retQ L48.results S) (fun ch H => S (.panicked ch) H) (env0 args) H) : ACalls Tryd.prog 48 args.toArray H S := acalls mixed Tryd.func48 low48 hn h
/-- (*satchel/inflate.stream).symbol -/
def L50 : LFn :=
 ⟨24, [.t 4],
 (.seq
 (.reg [⟨0, .q .mv, [.const (.int .i64 0)], (some 4), none, [], false⟩])
 (.seq
 (.reg [⟨0, .q .mv, [.tmp 1], (some 8), none, [], false⟩,
   ⟨1, .q .mv, [.tmp 0], (some 9), none, [], false⟩,
   ⟨2, .q .nilc, [.tmp 9], (some 10), none, [], false⟩,
   ⟨3, .q (.fad 0), [.tmp 10], (some 11), none, [], false⟩,
   ⟨4, .q .ld, [.tmp 11], (some 12), none, [], false⟩,
   ⟨5, .e (.call 67), [.tmp 8, .tmp 12], (some 13), none, [], false⟩,
   ⟨6, .q .mv, [.tmp 13], (some 7), none, [], false⟩,
   ⟨7, .q (.ext 0), [.tmp 7], (some 14), none, [], false⟩,
   ⟨8, .q (.ext 1), [.tmp 7], (some 15), none, [], false⟩,
   ⟨9, .q .mv, [.tmp 14], (some 5), none, [], false⟩,
   ⟨10, .q .mv, [.tmp 15], (some 6), none, [], false⟩])
 (.seq
 (.seq
 (.reg [⟨0, .q .mv, [.tmp 6], (some 16), none, [], false⟩])
 (.block 0
  (.seq
  (.reg [⟨0, .q (.bin .eql), [.tmp 16, .const (.int .i64 0)], (some 18), none, [], false⟩,
    ⟨1, .q .mv, [.tmp 18], (some 17), none, [], false⟩])
  (.cond (.tmp 17)
   (.seq
   (.reg [⟨0, .q .mv, [.tmp 5], (some 19), none, [], false⟩,
     ⟨1, .q .mv, [.tmp 19], (some 4), none, [], false⟩])
   .ret)
   (.seq
   (.reg [⟨0, .q (.bin .eql), [.tmp 16, .const (.int .i64 50)], (some 21), none, [], false⟩,
     ⟨1, .q .mv, [.tmp 21], (some 20), none, [], false⟩])
   (.cond (.tmp 20)
    (.reg [⟨0, .q (.mki 24), [.const (.int .i64 4)], (some 22), none, [], false⟩,
      ⟨1, .e .pan, [.tmp 22], none, none, [], false⟩])
    .skip))))))
 (.reg [⟨0, .q (.mki 24), [.const (.int .i64 63)], (some 23), none, [], false⟩,
   ⟨1, .e .pan, [.tmp 23], none, none, [], false⟩]))))⟩
theorem low50 : lowFn Tryd.prog Tryd.f50 = some L50 := by kernel_rfl
theorem call50 {args : List Value} {H : Heap} {S : Ending → Heap → Prop} (hn : args.length ≤ L50.n) (h : awpC Tryd.prog L50.body (retQ L50.results S) (fun ch H => S (.panicked ch) H) (env0 args) H) : ACalls Tryd.prog 50 args.toArray H S := acalls mixed Tryd.func50 low50 hn h
/-- (*satchel/inflate.stream).length -/
def L51 : LFn :=
 ⟨29, [.t 4],
 (.seq
 (.reg [⟨0, .q .mv, [.const (.int .i64 0)], (some 4), none, [], false⟩])
 (.seq
 (.reg [⟨0, .q .mv, [.tmp 1], (some 6), none, [], false⟩,
   ⟨1, .q (.bin .sub), [.tmp 6, .const (.int .i64 257)], (some 7), none, [], false⟩,
   ⟨2, .q .mv, [.tmp 7], (some 1), none, [], false⟩])
 (.seq
 (.block 0
  (.seq
  (.reg [⟨0, .q .mv, [.tmp 1], (some 9), none, [], false⟩,
    ⟨1, .q (.bin .lss), [.tmp 9, .const (.int .i64 8)], (some 10), none, [], false⟩,
    ⟨2, .q .mv, [.tmp 10], (some 8), none, [], false⟩])
  (.cond (.tmp 8)
   (.seq
   (.reg [⟨0, .q .mv, [.tmp 1], (some 11), none, [], false⟩,
     ⟨1, .q (.bin .add), [.const (.int .i64 3), .tmp 11], (some 12), none, [], false⟩,
     ⟨2, .q .mv, [.tmp 12], (some 4), none, [], false⟩])
   .ret)
   (.seq
   (.reg [⟨0, .q .mv, [.tmp 1], (some 14), none, [], false⟩,
     ⟨1, .q (.bin .eql), [.tmp 14, .const (.int .i64 28)], (some 15), none, [], false⟩,
     ⟨2, .q .mv, [.tmp 15], (some 13), none, [], false⟩])
   (.cond (.tmp 13)
    (.seq
    (.reg [⟨0, .q .mv, [.const (.int .i64 258)], (some 4), none, [], false⟩])
    .ret)
    .skip)))))
 (.seq
 (.reg [⟨0, .q .mv, [.tmp 1], (some 16), none, [], false⟩,
   ⟨1, .q (.bin .quo), [.tmp 16, .const (.int .i64 4)], (some 17), none, [], false⟩,
   ⟨2, .q (.bin .sub), [.tmp 17, .const (.int .i64 1)], (some 18), none, [], false⟩,
   ⟨3, .q .mv, [.tmp 18], (some 5), none, [], false⟩])
 (.seq
 (.reg [⟨0, .q .mv, [.tmp 1], (some 19), none, [], false⟩,
   ⟨1, .q (.bin .rem), [.tmp 19, .const (.int .i64 4)], (some 20), none, [], false⟩,
   ⟨2, .q (.bin .add), [.const (.int .i64 4), .tmp 20], (some 21), none, [], false⟩,
   ⟨3, .q .mv, [.tmp 5], (some 22), none, [], false⟩,
   ⟨4, .q (.bin .shl), [.tmp 21, .tmp 22], (some 23), none, [], false⟩,
   ⟨5, .q (.bin .add), [.const (.int .i64 3), .tmp 23], (some 24), none, [], false⟩,
   ⟨6, .q .mv, [.tmp 0], (some 25), none, [], false⟩,
   ⟨7, .q .mv, [.tmp 5], (some 26), none, [], false⟩,
   ⟨8, .e (.call 34), [.tmp 25, .tmp 26], (some 27), none, [], false⟩,
   ⟨9, .q (.bin .add), [.tmp 24, .tmp 27], (some 28), none, [], false⟩,
   ⟨10, .q .mv, [.tmp 28], (some 4), none, [], false⟩])
 .ret)))))⟩
theorem low51 : lowFn Tryd.prog Tryd.f51 = some L51 := by kernel_rfl
theorem call51 {args : List Value} {H : Heap} {S : Ending → Heap → Prop} (hn : args.length ≤ L51.n) (h : awpC Tryd.prog L51.body (retQ L51.results S) (fun ch H => S (.panicked ch) H) (env0 args) H) : ACalls Tryd.prog 51 args.toArray H S := acalls mixed Tryd.func51 low51 hn h
/-- (*satchel/inflate.stream).distance -/
def L52 : LFn :=
 ⟨23, [.t 4],
 (.seq
 (.reg [⟨0, .q .mv, [.const (.int .i64 0)], (some 4), none, [], false⟩])
 (.seq
 (.seq
 (.reg [⟨0, .q .mv, [.tmp 1], (some 6), none, [], false⟩,
   ⟨1, .q (.bin .lss), [.tmp 6, .const (.int .i64 4)], (some 7), none, [], false⟩])
 (.cond (.tmp 7)
  (.seq
  (.reg [⟨0, .q .mv, [.tmp 1], (some 8), none, [], false⟩,
    ⟨1, .q (.bin .add), [.const (.int .i64 1), .tmp 8], (some 9), none, [], false⟩,
    ⟨2, .q .mv, [.tmp 9], (some 4), none, [], false⟩])
  .ret)
  .skip))
 (.seq
 (.reg [⟨0, .q .mv, [.tmp 1], (some 10), none, [], false⟩,
   ⟨1, .q (.bin .quo), [.tmp 10, .const (.int .i64 2)], (some 11), none, [], false⟩,
   ⟨2, .q (.bin .sub), [.tmp 11, .const (.int .i64 1)], (some 12), none, [], false⟩,
   ⟨3, .q .mv, [.tmp 12], (some 5), none, [], false⟩])
 (.seq
 (.reg [⟨0, .q .mv, [.tmp 1], (some 13), none, [], false⟩,
   ⟨1, .q (.bin .rem), [.tmp 13, .const (.int .i64 2)], (some 14), none, [], false⟩,
   ⟨2, .q (.bin .add), [.const (.int .i64 2), .tmp 14], (some 15), none, [], false⟩,
   ⟨3, .q .mv, [.tmp 5], (some 16), none, [], false⟩,
   ⟨4, .q (.bin .shl), [.tmp 15, .tmp 16], (some 17), none, [], false⟩,
   ⟨5, .q (.bin .add), [.const (.int .i64 1), .tmp 17], (some 18), none, [], false⟩,
   ⟨6, .q .mv, [.tmp 0], (some 19), none, [], false⟩,
   ⟨7, .q .mv, [.tmp 5], (some 20), none, [], false⟩,
   ⟨8, .e (.call 34), [.tmp 19, .tmp 20], (some 21), none, [], false⟩,
   ⟨9, .q (.bin .add), [.tmp 18, .tmp 21], (some 22), none, [], false⟩,
   ⟨10, .q .mv, [.tmp 22], (some 4), none, [], false⟩])
 .ret))))⟩
theorem low52 : lowFn Tryd.prog Tryd.f52 = some L52 := by kernel_rfl
theorem call52 {args : List Value} {H : Heap} {S : Ending → Heap → Prop} (hn : args.length ≤ L52.n) (h : awpC Tryd.prog L52.body (retQ L52.results S) (fun ch H => S (.panicked ch) H) (env0 args) H) : ACalls Tryd.prog 52 args.toArray H S := acalls mixed Tryd.func52 low52 hn h
/-- slices.Concat[[]int,int] -/
def L53_0 : LCode :=
 (.reg [⟨0, .q (.bin .add), [.tmp 11, .const (.int .i64 1)], (some 22), none, [], false⟩,
   ⟨1, .q .mv, [.tmp 22], (some 11), none, [], false⟩])
def L53_1 : LCode :=
 (.seq
 (.reg [⟨0, .q (.bin .lss), [.tmp 11, .tmp 10], (some 12), none, [], false⟩])
 (.seq
 (.cond (.tmp 12)
  .skip
  (.exit 0))
 (.seq
 (.block 1
  (.seq
  (.reg [⟨0, .q (.iad 1), [.tmp 9, .tmp 11], (some 13), none, [], false⟩,
    ⟨1, .q .ld, [.tmp 13], (some 14), none, [], false⟩,
    ⟨2, .q .mv, [.tmp 14], (some 5), none, [], false⟩])
  (.seq
  (.reg [⟨0, .q .mv, [.tmp 3], (some 15), none, [], false⟩,
    ⟨1, .q .mv, [.tmp 5], (some 16), none, [], false⟩,
    ⟨2, .q .len, [.tmp 16], (some 17), none, [], false⟩,
    ⟨3, .q (.bin .add), [.tmp 15, .tmp 17], (some 18), none, [], false⟩,
    ⟨4, .q .mv, [.tmp 18], (some 3), none, [], false⟩])
  (.seq
  (.reg [⟨0, .q .mv, [.tmp 3], (some 19), none, [], false⟩,
    ⟨1, .q (.bin .lss), [.tmp 19, .const (.int .i64 0)], (some 20), none, [], false⟩])
  (.cond (.tmp 20)
   (.reg [⟨0, .q (.mki 9), [.const (.string ⟨#[108, 101, 110, 32, 111, 117, 116, 32, 111, 102, 32, 114, 97, 110, 103, 101]⟩)], (some 21), none, [], false⟩,
     ⟨1, .e .pan, [.tmp 21], none, none, [], false⟩])
   .skip)))))
 L53_0)))
def L53_2 : LCode :=
 (.seq
 (.reg [⟨0, .q (.bin .lss), [.tmp 27, .tmp 26], (some 28), none, [], false⟩])
 (.seq
 (.cond (.tmp 28)
  .skip
  (.exit 2))
 (.seq
 (.block 3
  (.seq
  (.reg [⟨0, .q (.iad 1), [.tmp 25, .tmp 27], (some 29), none, [], false⟩,
    ⟨1, .q .ld, [.tmp 29], (some 30), none, [], false⟩,
    ⟨2, .q .mv, [.tmp 30], (some 8), none, [], false⟩])
  (.reg [⟨0, .q .mv, [.tmp 6], (some 31), none, [], false⟩,
    ⟨1, .q .mv, [.tmp 8], (some 32), none, [], false⟩,
    ⟨2, .e (.app 3 1 8 #[(.int .i64 0)]), [.tmp 31, .tmp 32], (some 33), none, [], false⟩,
    ⟨3, .q .mv, [.tmp 33], (some 6), none, [], false⟩])))
 (.reg [⟨0, .q (.bin .add), [.tmp 27, .const (.int .i64 1)], (some 34), none, [], false⟩,
   ⟨1, .q .mv, [.tmp 34], (some 27), none, [], false⟩]))))
def L53 : LFn :=
 ⟨36, [.t 2],
 (.seq
 (.reg [⟨0, .q .mv, [.const (.slice none 0 0)], (some 2), none, [], false⟩])
 (.seq
 (.reg [⟨0, .q .mv, [.const (.int .i64 0)], (some 3), none, [], false⟩])
 (.seq
 (.seq
 (.reg [⟨0, .q .mv, [.tmp 0], (some 9), none, [], false⟩,
   ⟨1, .q .len, [.tmp 9], (some 10), none, [], false⟩,
   ⟨2, .q .mv, [.const (.int .i64 0)], (some 11), none, [], false⟩])
 (.block 0
  (.loop L53_1)))
 (.seq
 (.reg [⟨0, .q .mv, [.tmp 3], (some 23), none, [], false⟩,
   ⟨1, .e (.call 68), [.const (.slice none 0 0), .tmp 23], (some 24), none, [], false⟩,
   ⟨2, .q .mv, [.tmp 24], (some 6), none, [], false⟩])
 (.seq
 (.seq
 (.reg [⟨0, .q .mv, [.tmp 0], (some 25), none, [], false⟩,
   ⟨1, .q .len, [.tmp 25], (some 26), none, [], false⟩,
   ⟨2, .q .mv, [.const (.int .i64 0)], (some 27), none, [], false⟩])
 (.block 2
  (.loop L53_2)))
 (.seq
 (.reg [⟨0, .q .mv, [.tmp 6], (some 35), none, [], false⟩,
   ⟨1, .q .mv, [.tmp 35], (some 2), none, [], false⟩])
 .ret))))))⟩
theorem low53 : lowFn Tryd.prog Tryd.f53 = some L53 := by kernel_rfl
theorem call53 {args : List Value} {H : Heap} {S : Ending → Heap → Prop} (hn : args.length ≤ L53.n) (h : awpC Tryd.prog L53.body (retQ L53.results S) (fun ch H => S (.panicked ch) H) (env0 args) H) : ACalls Tryd.prog 53 args.toArray H S := acalls mixed Tryd.func53 low53 hn h
/-- slices.Repeat[[]int,int] -/
def L54_0 : LCode :=
 (.seq
 (.seq
 (.reg [⟨0, .q .mv, [.tmp 8], (some 34), none, [], false⟩,
   ⟨1, .q .mv, [.tmp 7], (some 35), none, [], false⟩,
   ⟨2, .q .len, [.tmp 35], (some 36), none, [], false⟩,
   ⟨3, .q (.bin .lss), [.tmp 34, .tmp 36], (some 37), none, [], false⟩])
 (.cond (.tmp 37)
  .skip
  (.exit 0)))
 (.block 1
  (.reg [⟨0, .q .mv, [.tmp 8], (some 38), none, [], false⟩,
    ⟨1, .q .mv, [.tmp 7], (some 39), none, [], false⟩,
    ⟨2, .q .mv, [.tmp 8], (some 40), none, [], false⟩,
    ⟨3, .q (.slc 1 true false false), [.tmp 39, .tmp 40], (some 41), none, [], false⟩,
    ⟨4, .q .mv, [.tmp 7], (some 42), none, [], false⟩,
    ⟨5, .q .mv, [.tmp 8], (some 43), none, [], false⟩,
    ⟨6, .q (.slc 1 false true false), [.tmp 42, .tmp 43], (some 44), none, [], false⟩,
    ⟨7, .e (.copy 1), [.tmp 41, .tmp 44], (some 45), none, [], false⟩,
    ⟨8, .q (.bin .add), [.tmp 38, .tmp 45], (some 46), none, [], false⟩,
    ⟨9, .q .mv, [.tmp 46], (some 8), none, [], false⟩])))
def L54_1 : LCode :=
 (.seq
 (.reg [⟨0, .q .mv, [.tmp 6], (some 28), none, [], false⟩,
   ⟨1, .q (.cvi .i64), [.tmp 28], (some 29), none, [], false⟩,
   ⟨2, .e (.mks 3 1 8 #[(.int .i64 0)]), [.tmp 29, .tmp 29], (some 30), none, [], false⟩,
   ⟨3, .q .mv, [.tmp 30], (some 7), none, [], false⟩])
 (.seq
 (.reg [⟨0, .q .mv, [.tmp 7], (some 31), none, [], false⟩,
   ⟨1, .q .mv, [.tmp 0], (some 32), none, [], false⟩,
   ⟨2, .e (.copy 1), [.tmp 31, .tmp 32], (some 33), none, [], false⟩,
   ⟨3, .q .mv, [.tmp 33], (some 8), none, [], false⟩])
 (.seq
 (.block 0
  (.loop L54_0))
 (.seq
 (.reg [⟨0, .q .mv, [.tmp 7], (some 47), none, [], false⟩,
   ⟨1, .q .mv, [.tmp 47], (some 4), none, [], false⟩])
 .ret))))
def L54_2 : LCode :=
 (.seq
 (.reg [⟨0, .q .mv, [.tmp 0], (some 13), none, [], false⟩,
   ⟨1, .q .len, [.tmp 13], (some 14), none, [], false⟩,
   ⟨2, .q (.cvi .u64), [.tmp 14], (some 15), none, [], false⟩,
   ⟨3, .q .mv, [.tmp 1], (some 16), none, [], false⟩,
   ⟨4, .q (.cvi .u64), [.tmp 16], (some 17), none, [], false⟩,
   ⟨5, .e (.call 69), [.tmp 15, .tmp 17], (some 18), none, [], false⟩,
   ⟨6, .q .mv, [.tmp 18], (some 12), none, [], false⟩,
   ⟨7, .q (.ext 0), [.tmp 12], (some 19), none, [], false⟩,
   ⟨8, .q (.ext 1), [.tmp 12], (some 20), none, [], false⟩,
   ⟨9, .q .mv, [.tmp 19], (some 5), none, [], false⟩,
   ⟨10, .q .mv, [.tmp 20], (some 6), none, [], false⟩])
 (.seq
 (.seq
 (.reg [⟨0, .q .mv, [.tmp 5], (some 21), none, [], false⟩,
   ⟨1, .q (.bin .gtr), [.tmp 21, .const (.int .u64 0)], (some 22), none, [], false⟩,
   ⟨2, .q .mv, [.tmp 22], (some 23), none, [], false⟩,
   ⟨3, .q .mv, [.tmp 6], (some 24), (some (23, false)), [], false⟩,
   ⟨4, .q (.bin .gtr), [.tmp 24, .const (.int .u64 9223372036854775807)], (some 25), (some (23, false)), [], false⟩,
   ⟨5, .q .pick, [.tmp 23, .const (.bool true), .tmp 25], (some 26), none, [], false⟩])
 (.cond (.tmp 26)
  (.reg [⟨0, .q (.mki 9), [.const (.string ⟨#[116, 104, 101, 32, 114, 101, 115, 117, 108, 116, 32, 111, 102, 32, 40, 108, 101, 110, 40, 120, 41, 32, 42, 32, 99, 111, 117, 110, 116, 41, 32, 111, 118, 101, 114, 102, 108, 111, 119, 115]⟩)], (some 27), none, [], false⟩,
    ⟨1, .e .pan, [.tmp 27], none, none, [], false⟩])
  .skip))
 L54_1))
def L54 : LFn :=
 ⟨48, [.t 4],
 (.seq
 (.reg [⟨0, .q .mv, [.const (.slice none 0 0)], (some 4), none, [], false⟩])
 (.seq
 (.seq
 (.reg [⟨0, .q .mv, [.tmp 1], (some 9), none, [], false⟩,
   ⟨1, .q (.bin .lss), [.tmp 9, .const (.int .i64 0)], (some 10), none, [], false⟩])
 (.cond (.tmp 10)
  (.reg [⟨0, .q (.mki 9), [.const (.string ⟨#[99, 97, 110, 110, 111, 116, 32, 98, 101, 32, 110, 101, 103, 97, 116, 105, 118, 101]⟩)], (some 11), none, [], false⟩,
    ⟨1, .e .pan, [.tmp 11], none, none, [], false⟩])
  .skip))
 L54_2))⟩
theorem low54 : lowFn Tryd.prog Tryd.f54 = some L54 := by kernel_rfl
theorem call54 {args : List Value} {H : Heap} {S : Ending → Heap → Prop} (hn : args.length ≤ L54.n) (h : awpC Tryd.prog L54.body (retQ L54.results S) (fun ch H => S (.panicked ch) H) (env0 args) H) : ACalls Tryd.prog 54 args.toArray H S := acalls mixed Tryd.func54 low54 hn h
/-- (*satchel/inflate.stream).lengths -/
def L57_0 : LCode :=
 (.reg [⟨0, .q .mv, [.tmp 0], (some 26), none, [], false⟩,
   ⟨3, .q .mv, [.tmp 7], (some 29), none, [], false⟩,
   ⟨4, .q .mv, [.tmp 7], (some 30), none, [], false⟩,
   ⟨5, .q .len, [.tmp 30], (some 31), none, [], false⟩,
   ⟨6, .q (.bin .sub), [.tmp 31, .const (.int .i64 1)], (some 32), none, [], false⟩,
   ⟨7, .q (.iad 1), [.tmp 29, .tmp 32], (some 33), none, [], false⟩,
   ⟨8, .q .ld, [.tmp 33], (some 34), none, [], true⟩,
   ⟨1, .e (.call 34), [.tmp 26, .const (.int .i64 2)], (some 27), none, [8], false⟩,
   ⟨2, .q (.bin .add), [.const (.int .i64 3), .tmp 27], (some 28), none, [], false⟩,
   ⟨9, .q .mv, [.tmp 28], (some 9), none, [], false⟩,
   ⟨10, .q .mv, [.tmp 34], (some 10), none, [], false⟩])
def L57_1 : LCode :=
 (.reg [⟨0, .q .mv, [.tmp 7], (some 52), none, [], false⟩,
   ⟨1, .q .mv, [.tmp 10], (some 53), none, [], false⟩,
   ⟨2, .e (.lits 3 #[(.int .i64 0)] 1 [(0, 1)]), [.tmp 53], (some 54), none, [], false⟩,
   ⟨3, .q .mv, [.tmp 9], (some 55), none, [], false⟩,
   ⟨4, .e (.call 54), [.tmp 54, .tmp 55], (some 56), none, [], false⟩,
   ⟨5, .e (.app 3 1 8 #[(.int .i64 0)]), [.tmp 52, .tmp 56], (some 57), none, [], false⟩,
   ⟨6, .q .mv, [.tmp 57], (some 7), none, [], false⟩])
def L57_2 : LCode :=
 (.seq
 (.seq
 (.reg [⟨0, .q .mv, [.tmp 9], (some 45), none, [], false⟩,
   ⟨1, .q .mv, [.tmp 2], (some 46), none, [], false⟩,
   ⟨2, .q .mv, [.tmp 7], (some 47), none, [], false⟩,
   ⟨3, .q .len, [.tmp 47], (some 48), none, [], false⟩,
   ⟨4, .q (.bin .sub), [.tmp 46, .tmp 48], (some 49), none, [], false⟩,
   ⟨5, .q (.bin .gtr), [.tmp 45, .tmp 49], (some 50), none, [], false⟩])
 (.cond (.tmp 50)
  (.reg [⟨0, .q (.mki 24), [.const (.int .i64 62)], (some 51), none, [], false⟩,
    ⟨1, .e .pan, [.tmp 51], none, none, [], false⟩])
  .skip))
 L57_1)
def L57_3 : LCode :=
 (.seq
 (.seq
 (.reg [⟨0, .q .mv, [.tmp 7], (some 11), none, [], false⟩,
   ⟨1, .q .len, [.tmp 11], (some 12), none, [], false⟩,
   ⟨2, .q .mv, [.tmp 2], (some 13), none, [], false⟩,
   ⟨3, .q (.bin .lss), [.tmp 12, .tmp 13], (some 14), none, [], false⟩])
 (.cond (.tmp 14)
  .skip
  (.exit 0)))
 (.block 1
  (.seq
  (.reg [⟨0, .q .mv, [.tmp 0], (some 15), none, [], false⟩,
    ⟨1, .q .mv, [.tmp 1], (some 16), none, [], false⟩,
    ⟨2, .e (.call 50), [.tmp 15, .tmp 16], (some 17), none, [], false⟩,
    ⟨3, .q .mv, [.tmp 17], (some 8), none, [], false⟩])
  (.seq
  (.reg [⟨0, .q .mv, [.tmp 8], (some 18), none, [], false⟩,
    ⟨1, .q .mv, [.const (.int .i64 1)], (some 9), none, [], false⟩,
    ⟨2, .q .mv, [.tmp 18], (some 10), none, [], false⟩])
  (.seq
  (.seq
  (.reg [⟨0, .q .mv, [.tmp 8], (some 19), none, [], false⟩])
  (.block 2
   (.seq
   (.reg [⟨0, .q (.bin .eql), [.tmp 19, .const (.int .i64 16)], (some 21), none, [], false⟩,
     ⟨1, .q .mv, [.tmp 21], (some 20), none, [], false⟩])
   (.cond (.tmp 20)
    (.seq
    (.seq
    (.reg [⟨0, .q .mv, [.tmp 7], (some 22), none, [], false⟩,
      ⟨1, .q .len, [.tmp 22], (some 23), none, [], false⟩,
      ⟨2, .q (.bin .eql), [.tmp 23, .const (.int .i64 0)], (some 24), none, [], false⟩])
    (.cond (.tmp 24)
     (.reg [⟨0, .q (.mki 24), [.const (.int .i64 62)], (some 25), none, [], false⟩,
       ⟨1, .e .pan, [.tmp 25], none, none, [], false⟩])
     .skip))
    L57_0)
    (.seq
    (.reg [⟨0, .q (.bin .eql), [.tmp 19, .const (.int .i64 17)], (some 36), none, [], false⟩,
      ⟨1, .q .mv, [.tmp 36], (some 35), none, [], false⟩])
    (.cond (.tmp 35)
     (.reg [⟨0, .q .mv, [.tmp 0], (some 37), none, [], false⟩,
       ⟨1, .e (.call 34), [.tmp 37, .const (.int .i64 3)], (some 38), none, [], false⟩,
       ⟨2, .q (.bin .add), [.const (.int .i64 3), .tmp 38], (some 39), none, [], false⟩,
       ⟨3, .q .mv, [.tmp 39], (some 9), none, [], false⟩,
       ⟨4, .q .mv, [.const (.int .i64 0)], (some 10), none, [], false⟩])
     (.seq
     (.reg [⟨0, .q (.bin .eql), [.tmp 19, .const (.int .i64 18)], (some 41), none, [], false⟩,
       ⟨1, .q .mv, [.tmp 41], (some 40), none, [], false⟩])
     (.cond (.tmp 40)
      (.reg [⟨0, .q .mv, [.tmp 0], (some 42), none, [], false⟩,
        ⟨1, .e (.call 34), [.tmp 42, .const (.int .i64 7)], (some 43), none, [], false⟩,
        ⟨2, .q (.bin .add), [.const (.int .i64 11), .tmp 43], (some 44), none, [], false⟩,
        ⟨3, .q .mv, [.tmp 44], (some 9), none, [], false⟩,
        ⟨4, .q .mv, [.const (.int .i64 0)], (some 10), none, [], false⟩])
      .skip))))))))
  L57_2)))))
def L57 : LFn :=
 ⟨59, [.t 6],
 (.seq
 (.reg [⟨0, .q .mv, [.const (.slice none 0 0)], (some 6), none, [], false⟩])
 (.seq
 (.reg [⟨0, .q .mv, [.const (.slice none 0 0)], (some 7), none, [], false⟩])
 (.seq
 (.block 0
  (.loop L57_3))
 (.seq
 (.reg [⟨0, .q .mv, [.tmp 7], (some 58), none, [], false⟩,
   ⟨1, .q .mv, [.tmp 58], (some 6), none, [], false⟩])
 .ret))))⟩
theorem low57 : lowFn Tryd.prog Tryd.f57 = some L57 := by kernel_rfl
theorem call57 {args : List Value} {H : Heap} {S : Ending → Heap → Prop} (hn : args.length ≤ L57.n) (h : awpC Tryd.prog L57.body (retQ L57.results S) (fun ch H => S (.panicked ch) H) (env0 args) H) : ACalls Tryd.prog 57 args.toArray H S := acalls mixed Tryd.func57 low57 hn h
/-- satchel/inflate.code -/
def L58_0 : LCode :=
 (.seq
 (.reg [⟨0, .q .mv, [.tmp 8], (some 27), none, [], false⟩,
   ⟨1, .q (.bin .eql), [.tmp 27, .const (.int .i64 1)], (some 28), none, [], false⟩])
 (.cond (.tmp 28)
  (.reg [⟨0, .q .mv, [.tmp 6], (some 29), none, [], false⟩,
    ⟨1, .q (.bin .add), [.tmp 29, .const (.int .i64 1)], (some 30), none, [], false⟩,
    ⟨2, .q .mv, [.tmp 30], (some 6), none, [], false⟩])
  .skip))
def L58_1 : LCode :=
 (.reg [⟨0, .q (.bin .add), [.tmp 19, .const (.int .i64 1)], (some 31), none, [], false⟩,
   ⟨1, .q .mv, [.tmp 31], (some 19), none, [], false⟩])
def L58_2 : LCode :=
 (.seq
 (.reg [⟨0, .q (.bin .lss), [.tmp 19, .tmp 18], (some 20), none, [], false⟩])
 (.seq
 (.cond (.tmp 20)
  .skip
  (.exit 0))
 (.seq
 (.block 1
  (.seq
  (.reg [⟨0, .q (.iad 1), [.tmp 17, .tmp 19], (some 21), none, [], false⟩,
    ⟨1, .q .ld, [.tmp 21], (some 22), none, [], false⟩,
    ⟨2, .q .mv, [.tmp 22], (some 8), none, [], false⟩])
  (.seq
  (.seq
  (.reg [⟨0, .q .mv, [.tmp 8], (some 23), none, [], false⟩,
    ⟨1, .q (.bin .gtr), [.tmp 23, .const (.int .i64 0)], (some 24), none, [], false⟩])
  (.cond (.tmp 24)
   (.reg [⟨0, .q .mv, [.tmp 5], (some 25), none, [], false⟩,
     ⟨1, .q (.bin .add), [.tmp 25, .const (.int .i64 1)], (some 26), none, [], false⟩,
     ⟨2, .q .mv, [.tmp 26], (some 5), none, [], false⟩])
   .skip))
  L58_0)))
 L58_1)))
def L58_3 : LCode :=
 (.seq
 (.reg [⟨0, .q .mv, [.tmp 3], (some 44), none, [], false⟩,
   ⟨1, .q .mv, [.tmp 44], (some 2), none, [], false⟩])
 .ret)
def L58_4 : LCode :=
 (.seq
 (.reg [⟨0, .q .mv, [.const (.int .i64 0)], (some 5), none, [], false⟩,
   ⟨1, .q .mv, [.const (.int .i64 0)], (some 6), none, [], false⟩])
 (.seq
 (.seq
 (.reg [⟨0, .q .mv, [.tmp 0], (some 17), none, [], false⟩,
   ⟨1, .q .len, [.tmp 17], (some 18), none, [], false⟩,
   ⟨2, .q .mv, [.const (.int .i64 0)], (some 19), none, [], false⟩])
 (.block 0
  (.loop L58_2)))
 (.seq
 (.seq
 (.reg [⟨0, .q .mv, [.tmp 3], (some 32), none, [], false⟩,
   ⟨1, .e (.call 56), [.tmp 32], (some 33), none, [], false⟩,
   ⟨2, .q (.un .not), [.tmp 33], (some 34), none, [], false⟩,
   ⟨3, .q .mv, [.tmp 34], (some 35), none, [], false⟩,
   ⟨4, .q .mv, [.tmp 5], (some 36), (some (35, true)), [], false⟩,
   ⟨5, .q (.bin .neq), [.tmp 36, .const (.int .i64 1)], (some 37), (some (35, true)), [], false⟩,
   ⟨6, .q .mv, [.tmp 37], (some 38), (some (35, true)), [], false⟩,
   ⟨7, .q .mv, [.tmp 6], (some 39), (some (38, false)), [], false⟩,
   ⟨8, .q (.bin .neq), [.tmp 39, .const (.int .i64 1)], (some 40), (some (38, false)), [], false⟩,
   ⟨9, .q .pick, [.tmp 38, .const (.bool true), .tmp 40], (some 41), (some (35, true)), [], false⟩,
   ⟨10, .q .pick, [.tmp 35, .tmp 41, .const (.bool false)], (some 42), none, [], false⟩])
 (.cond (.tmp 42)
  (.reg [⟨0, .q (.mki 24), [.const (.int .i64 62)], (some 43), none, [], false⟩,
    ⟨1, .e .pan, [.tmp 43], none, none, [], false⟩])
  .skip))
 L58_3)))
def L58 : LFn :=
 ⟨45, [.t 2],
 (.seq
 (.reg [⟨0, .q .mv, [.const (.pointer none)], (some 2), none, [], false⟩])
 (.seq
 (.reg [⟨0, .q .mv, [.tmp 0], (some 10), none, [], false⟩,
   ⟨1, .e (.call 55), [.tmp 10], (some 11), none, [], false⟩,
   ⟨2, .q .mv, [.tmp 11], (some 9), none, [], false⟩,
   ⟨3, .q (.ext 0), [.tmp 9], (some 12), none, [], false⟩,
   ⟨4, .q (.ext 1), [.tmp 9], (some 13), none, [], false⟩,
   ⟨5, .q .mv, [.tmp 12], (some 3), none, [], false⟩,
   ⟨6, .q .mv, [.tmp 13], (some 4), none, [], false⟩])
 (.seq
 (.seq
 (.reg [⟨0, .q .mv, [.tmp 4], (some 14), none, [], false⟩,
   ⟨1, .q (.bin .neq), [.tmp 14, .const (.int .i64 0)], (some 15), none, [], false⟩])
 (.cond (.tmp 15)
  (.reg [⟨0, .q (.mki 24), [.const (.int .i64 62)], (some 16), none, [], false⟩,
    ⟨1, .e .pan, [.tmp 16], none, none, [], false⟩])
  .skip))
 L58_4)))⟩
theorem low58 : lowFn Tryd.prog Tryd.f58 = some L58 := by kernel_rfl
theorem call58 {args : List Value} {H : Heap} {S : Ending → Heap → Prop} (hn : args.length ≤ L58.n) (h : awpC Tryd.prog L58.body (retQ L58.results S) (fun ch H => S (.panicked ch) H) (env0 args) H) : ACalls Tryd.prog 58 args.toArray H S := acalls mixed Tryd.func58 low58 hn h
/-- satchel/inflate.distances -/
def L59 : LFn :=
 ⟨8, [.t 2],
 (.seq
 (.reg [⟨0, .q .mv, [.const (.pointer none)], (some 2), none, [], false⟩])
 (.seq
 (.seq
 (.reg [⟨0, .q .mv, [.tmp 0], (some 3), none, [], false⟩,
   ⟨1, .e (.call 71), [.tmp 3, .func 72], (some 4), none, [], false⟩,
   ⟨2, .q (.un .not), [.tmp 4], (some 5), none, [], false⟩])
 (.cond (.tmp 5)
  (.seq
  (.reg [⟨0, .q .mv, [.const (.pointer none)], (some 2), none, [], false⟩])
  .ret)
  .skip))
 (.seq
 (.reg [⟨0, .q .mv, [.tmp 0], (some 6), none, [], false⟩,
   ⟨1, .e (.call 58), [.tmp 6], (some 7), none, [], false⟩,
   ⟨2, .q .mv, [.tmp 7], (some 2), none, [], false⟩])
 .ret)))⟩
theorem low59 : lowFn Tryd.prog Tryd.f59 = some L59 := by kernel_rfl
theorem call59 {args : List Value} {H : Heap} {S : Ending → Heap → Prop} (hn : args.length ≤ L59.n) (h : awpC Tryd.prog L59.body (retQ L59.results S) (fun ch H => S (.panicked ch) H) (env0 args) H) : ACalls Tryd.prog 59 args.toArray H S := acalls mixed Tryd.func59 low59 hn h
/-- slices.Grow[[]int,int] -/
def L68_0 : LCode :=
 (.seq
 (.reg [⟨0, .q .mv, [.tmp 0], (some 26), none, [], false⟩,
   ⟨1, .q .mv, [.tmp 26], (some 4), none, [], false⟩])
 .ret)
def L68_1 : LCode :=
 (.seq
 (.seq
 (.reg [⟨0, .q .mv, [.tmp 1], (some 8), none, [], false⟩,
   ⟨1, .q .mv, [.tmp 0], (some 9), none, [], false⟩,
   ⟨2, .q .cap, [.tmp 9], (some 10), none, [], false⟩,
   ⟨3, .q .mv, [.tmp 0], (some 11), none, [], false⟩,
   ⟨4, .q .len, [.tmp 11], (some 12), none, [], false⟩,
   ⟨5, .q (.bin .sub), [.tmp 10, .tmp 12], (some 13), none, [], false⟩,
   ⟨6, .q (.bin .sub), [.tmp 8, .tmp 13], (some 14), none, [], false⟩,
   ⟨7, .q .mv, [.tmp 14], (some 1), none, [], false⟩])
 (.seq
 (.reg [⟨0, .q .mv, [.tmp 1], (some 15), none, [], false⟩,
   ⟨1, .q (.bin .gtr), [.tmp 15, .const (.int .i64 0)], (some 16), none, [], false⟩])
 (.cond (.tmp 16)
  (.reg [⟨0, .q .mv, [.tmp 0], (some 17), none, [], false⟩,
    ⟨1, .q .mv, [.tmp 0], (some 18), none, [], false⟩,
    ⟨2, .q .cap, [.tmp 18], (some 19), none, [], false⟩,
    ⟨3, .q (.slc 1 false true false), [.tmp 17, .tmp 19], (some 20), none, [], false⟩,
    ⟨4, .q .mv, [.tmp 1], (some 21), none, [], false⟩,
    ⟨5, .e (.appz 3 1 8 #[(.int .i64 0)]), [.tmp 20, .tmp 21], (some 22), none, [], false⟩,
    ⟨6, .q .mv, [.tmp 0], (some 23), none, [], false⟩,
    ⟨7, .q .len, [.tmp 23], (some 24), none, [], false⟩,
    ⟨8, .q (.slc 1 false true false), [.tmp 22, .tmp 24], (some 25), none, [], false⟩,
    ⟨9, .q .mv, [.tmp 25], (some 0), none, [], false⟩])
  .skip)))
 L68_0)
def L68 : LFn :=
 ⟨27, [.t 4],
 (.seq
 (.reg [⟨0, .q .mv, [.const (.slice none 0 0)], (some 4), none, [], false⟩])
 (.seq
 (.seq
 (.reg [⟨0, .q .mv, [.tmp 1], (some 5), none, [], false⟩,
   ⟨1, .q (.bin .lss), [.tmp 5, .const (.int .i64 0)], (some 6), none, [], false⟩])
 (.cond (.tmp 6)
  (.reg [⟨0, .q (.mki 9), [.const (.string ⟨#[99, 97, 110, 110, 111, 116, 32, 98, 101, 32, 110, 101, 103, 97, 116, 105, 118, 101]⟩)], (some 7), none, [], false⟩,
    ⟨1, .e .pan, [.tmp 7], none, none, [], false⟩])
  .skip))
 L68_1))⟩
theorem low68 : lowFn Tryd.prog Tryd.f68 = some L68 := by kernel_rfl
theorem call68 {args : List Value} {H : Heap} {S : Ending → Heap → Prop} (hn : args.length ≤ L68.n) (h : awpC Tryd.prog L68.body (retQ L68.results S) (fun ch H => S (.panicked ch) H) (env0 args) H) : ACalls Tryd.prog 68 args.toArray H S := acalls mixed Tryd.func68 low68 hn h
/-- math/bits.Mul -/
def L69 : LFn :=
 ⟨30, [.t 4, .t 5],
 (.seq
 (.reg [⟨0, .q .mv, [.const (.int .u64 0)], (some 4), none, [], false⟩,
   ⟨1, .q .mv, [.const (.int .u64 0)], (some 5), none, [], false⟩])
 (.seq
 (.cond (.const (.bool false))
  (.seq
  (.reg [⟨0, .q .mv, [.tmp 0], (some 11), none, [], false⟩,
    ⟨1, .q (.cvi .u32), [.tmp 11], (some 12), none, [], false⟩,
    ⟨2, .q .mv, [.tmp 1], (some 13), none, [], false⟩,
    ⟨3, .q (.cvi .u32), [.tmp 13], (some 14), none, [], false⟩,
    ⟨4, .e (.call 78), [.tmp 12, .tmp 14], (some 15), none, [], false⟩,
    ⟨5, .q .mv, [.tmp 15], (some 10), none, [], false⟩,
    ⟨6, .q (.ext 0), [.tmp 10], (some 16), none, [], false⟩,
    ⟨7, .q (.ext 1), [.tmp 10], (some 17), none, [], false⟩,
    ⟨8, .q .mv, [.tmp 16], (some 6), none, [], false⟩,
    ⟨9, .q .mv, [.tmp 17], (some 7), none, [], false⟩])
  (.seq
  (.reg [⟨0, .q .mv, [.tmp 6], (some 18), none, [], false⟩,
    ⟨1, .q (.cvi .u64), [.tmp 18], (some 19), none, [], false⟩,
    ⟨2, .q .mv, [.tmp 7], (some 20), none, [], false⟩,
    ⟨3, .q (.cvi .u64), [.tmp 20], (some 21), none, [], false⟩,
    ⟨4, .q .mv, [.tmp 19], (some 4), none, [], false⟩,
    ⟨5, .q .mv, [.tmp 21], (some 5), none, [], false⟩])
  .ret))
  .skip)
 (.seq
 (.reg [⟨0, .q .mv, [.tmp 0], (some 23), none, [], false⟩,
   ⟨1, .q .mv, [.tmp 1], (some 24), none, [], false⟩,
   ⟨2, .e (.call 79), [.tmp 23, .tmp 24], (some 25), none, [], false⟩,
   ⟨3, .q .mv, [.tmp 25], (some 22), none, [], false⟩,
   ⟨4, .q (.ext 0), [.tmp 22], (some 26), none, [], false⟩,
   ⟨5, .q (.ext 1), [.tmp 22], (some 27), none, [], false⟩,
   ⟨6, .q .mv, [.tmp 26], (some 8), none, [], false⟩,
   ⟨7, .q .mv, [.tmp 27], (some 9), none, [], false⟩])
 (.seq
 (.reg [⟨0, .q .mv, [.tmp 8], (some 28), none, [], false⟩,
   ⟨1, .q .mv, [.tmp 9], (some 29), none, [], false⟩,
   ⟨2, .q .mv, [.tmp 28], (some 4), none, [], false⟩,
   ⟨3, .q .mv, [.tmp 29], (some 5), none, [], false⟩])
 .ret))))⟩
theorem low69 : lowFn Tryd.prog Tryd.f69 = some L69 := by kernel_rfl
theorem call69 {args : List Value} {H : Heap} {S : Ending → Heap → Prop} (hn : args.length ≤ L69.n) (h : awpC Tryd.prog L69.body (retQ L69.results S) (fun ch H => S (.panicked ch) H) (env0 args) H) : ACalls Tryd.prog 69 args.toArray H S := acalls mixed Tryd.func69 low69 hn h
/-- slices.ContainsFunc[[]int,int] -/
def L71 : LFn :=
 ⟨9, [.t 4],
 (.seq
 (.reg [⟨0, .q .mv, [.const (.bool false)], (some 4), none, [], false⟩])
 (.seq
 (.reg [⟨0, .q .mv, [.tmp 0], (some 5), none, [], false⟩,
   ⟨1, .q .mv, [.tmp 1], (some 6), none, [], false⟩,
   ⟨2, .e (.call 80), [.tmp 5, .tmp 6], (some 7), none, [], false⟩,
   ⟨3, .q (.bin .geq), [.tmp 7, .const (.int .i64 0)], (some 8), none, [], false⟩,
   ⟨4, .q .mv, [.tmp 8], (some 4), none, [], false⟩])
 .ret))⟩
theorem low71 : lowFn Tryd.prog Tryd.f71 = some L71 := by kernel_rfl
theorem call71 {args : List Value} {H : Heap} {S : Ending → Heap → Prop} (hn : args.length ≤ L71.n) (h : awpC Tryd.prog L71.body (retQ L71.results S) (fun ch H => S (.panicked ch) H) (env0 args) H) : ACalls Tryd.prog 71 args.toArray H S := acalls mixed Tryd.func71 low71 hn h
/-- satchel/inflate.distances$1 -/
def L72 : LFn :=
 ⟨5, [.t 2],
 (.seq
 (.reg [⟨0, .q .mv, [.const (.bool false)], (some 2), none, [], false⟩])
 (.seq
 (.reg [⟨0, .q .mv, [.tmp 0], (some 3), none, [], false⟩,
   ⟨1, .q (.bin .gtr), [.tmp 3, .const (.int .i64 0)], (some 4), none, [], false⟩,
   ⟨2, .q .mv, [.tmp 4], (some 2), none, [], false⟩])
 .ret))⟩
theorem low72 : lowFn Tryd.prog Tryd.f72 = some L72 := by kernel_rfl
theorem call72 {args : List Value} {H : Heap} {S : Ending → Heap → Prop} (hn : args.length ≤ L72.n) (h : awpC Tryd.prog L72.body (retQ L72.results S) (fun ch H => S (.panicked ch) H) (env0 args) H) : ACalls Tryd.prog 72 args.toArray H S := acalls mixed Tryd.func72 low72 hn h
/-- math/bits.Mul32 -/
def L78 : LFn :=
 ⟨17, [.t 4, .t 5],
 (.seq
 (.reg [⟨0, .q .mv, [.const (.int .u32 0)], (some 4), none, [], false⟩,
   ⟨1, .q .mv, [.const (.int .u32 0)], (some 5), none, [], false⟩])
 (.seq
 (.reg [⟨0, .q .mv, [.tmp 0], (some 7), none, [], false⟩,
   ⟨1, .q (.cvi .u64), [.tmp 7], (some 8), none, [], false⟩,
   ⟨2, .q .mv, [.tmp 1], (some 9), none, [], false⟩,
   ⟨3, .q (.cvi .u64), [.tmp 9], (some 10), none, [], false⟩,
   ⟨4, .q (.bin .mul), [.tmp 8, .tmp 10], (some 11), none, [], false⟩,
   ⟨5, .q .mv, [.tmp 11], (some 6), none, [], false⟩])
 (.seq
 (.reg [⟨0, .q .mv, [.tmp 6], (some 12), none, [], false⟩,
   ⟨1, .q (.bin .shr), [.tmp 12, .const (.int .u64 32)], (some 13), none, [], false⟩,
   ⟨2, .q (.cvi .u32), [.tmp 13], (some 14), none, [], false⟩,
   ⟨3, .q .mv, [.tmp 6], (some 15), none, [], false⟩,
   ⟨4, .q (.cvi .u32), [.tmp 15], (some 16), none, [], false⟩,
   ⟨5, .q .mv, [.tmp 14], (some 4), none, [], false⟩,
   ⟨6, .q .mv, [.tmp 16], (some 5), none, [], false⟩])
 .ret)))⟩
theorem low78 : lowFn Tryd.prog Tryd.f78 = some L78 := by kernel_rfl
theorem call78 {args : List Value} {H : Heap} {S : Ending → Heap → Prop} (hn : args.length ≤ L78.n) (h : awpC Tryd.prog L78.body (retQ L78.results S) (fun ch H => S (.panicked ch) H) (env0 args) H) : ACalls Tryd.prog 78 args.toArray H S := acalls mixed Tryd.func78 low78 hn h
/-- math/bits.Mul64 -/
def L79 : LFn :=
 ⟨51, [.t 4, .t 5],
 (.seq
 (.reg [⟨0, .q .mv, [.const (.int .u64 0)], (some 4), none, [], false⟩,
   ⟨1, .q .mv, [.const (.int .u64 0)], (some 5), none, [], false⟩])
 (.seq
 (.reg [⟨0, .q .mv, [.tmp 0], (some 14), none, [], false⟩,
   ⟨1, .q (.bin .and), [.tmp 14, .const (.int .u64 4294967295)], (some 15), none, [], false⟩,
   ⟨2, .q .mv, [.tmp 15], (some 6), none, [], false⟩])
 (.seq
 (.reg [⟨0, .q .mv, [.tmp 0], (some 16), none, [], false⟩,
   ⟨1, .q (.bin .shr), [.tmp 16, .const (.int .u64 32)], (some 17), none, [], false⟩,
   ⟨2, .q .mv, [.tmp 17], (some 7), none, [], false⟩])
 (.seq
 (.reg [⟨0, .q .mv, [.tmp 1], (some 18), none, [], false⟩,
   ⟨1, .q (.bin .and), [.tmp 18, .const (.int .u64 4294967295)], (some 19), none, [], false⟩,
   ⟨2, .q .mv, [.tmp 19], (some 8), none, [], false⟩])
 (.seq
 (.reg [⟨0, .q .mv, [.tmp 1], (some 20), none, [], false⟩,
   ⟨1, .q (.bin .shr), [.tmp 20, .const (.int .u64 32)], (some 21), none, [], false⟩,
   ⟨2, .q .mv, [.tmp 21], (some 9), none, [], false⟩])
 (.seq
 (.reg [⟨0, .q .mv, [.tmp 6], (some 22), none, [], false⟩,
   ⟨1, .q .mv, [.tmp 8], (some 23), none, [], false⟩,
   ⟨2, .q (.bin .mul), [.tmp 22, .tmp 23], (some 24), none, [], false⟩,
   ⟨3, .q .mv, [.tmp 24], (some 10), none, [], false⟩])
 (.seq
 (.reg [⟨0, .q .mv, [.tmp 7], (some 25), none, [], false⟩,
   ⟨1, .q .mv, [.tmp 8], (some 26), none, [], false⟩,
   ⟨2, .q (.bin .mul), [.tmp 25, .tmp 26], (some 27), none, [], false⟩,
   ⟨3, .q .mv, [.tmp 10], (some 28), none, [], false⟩,
   ⟨4, .q (.bin .shr), [.tmp 28, .const (.int .u64 32)], (some 29), none, [], false⟩,
   ⟨5, .q (.bin .add), [.tmp 27, .tmp 29], (some 30), none, [], false⟩,
   ⟨6, .q .mv, [.tmp 30], (some 11), none, [], false⟩])
 (.seq
 (.reg [⟨0, .q .mv, [.tmp 11], (some 31), none, [], false⟩,
   ⟨1, .q (.bin .and), [.tmp 31, .const (.int .u64 4294967295)], (some 32), none, [], false⟩,
   ⟨2, .q .mv, [.tmp 32], (some 12), none, [], false⟩])
 (.seq
 (.reg [⟨0, .q .mv, [.tmp 11], (some 33), none, [], false⟩,
   ⟨1, .q (.bin .shr), [.tmp 33, .const (.int .u64 32)], (some 34), none, [], false⟩,
   ⟨2, .q .mv, [.tmp 34], (some 13), none, [], false⟩])
 (.seq
 (.reg [⟨0, .q .mv, [.tmp 12], (some 35), none, [], false⟩,
   ⟨1, .q .mv, [.tmp 6], (some 36), none, [], false⟩,
   ⟨2, .q .mv, [.tmp 9], (some 37), none, [], false⟩,
   ⟨3, .q (.bin .mul), [.tmp 36, .tmp 37], (some 38), none, [], false⟩,
   ⟨4, .q (.bin .add), [.tmp 35, .tmp 38], (some 39), none, [], false⟩,
   ⟨5, .q .mv, [.tmp 39], (some 12), none, [], false⟩])
 (.seq
 (.reg [⟨0, .q .mv, [.tmp 7], (some 40), none, [], false⟩,
   ⟨1, .q .mv, [.tmp 9], (some 41), none, [], false⟩,
   ⟨2, .q (.bin .mul), [.tmp 40, .tmp 41], (some 42), none, [], false⟩,
   ⟨3, .q .mv, [.tmp 13], (some 43), none, [], false⟩,
   ⟨4, .q (.bin .add), [.tmp 42, .tmp 43], (some 44), none, [], false⟩,
   ⟨5, .q .mv, [.tmp 12], (some 45), none, [], false⟩,
   ⟨6, .q (.bin .shr), [.tmp 45, .const (.int .u64 32)], (some 46), none, [], false⟩,
   ⟨7, .q (.bin .add), [.tmp 44, .tmp 46], (some 47), none, [], false⟩,
   ⟨8, .q .mv, [.tmp 47], (some 4), none, [], false⟩])
 (.seq
 (.reg [⟨0, .q .mv, [.tmp 0], (some 48), none, [], false⟩,
   ⟨1, .q .mv, [.tmp 1], (some 49), none, [], false⟩,
   ⟨2, .q (.bin .mul), [.tmp 48, .tmp 49], (some 50), none, [], false⟩,
   ⟨3, .q .mv, [.tmp 50], (some 5), none, [], false⟩])
 .ret))))))))))))⟩
theorem low79 : lowFn Tryd.prog Tryd.f79 = some L79 := by kernel_rfl
theorem call79 {args : List Value} {H : Heap} {S : Ending → Heap → Prop} (hn : args.length ≤ L79.n) (h : awpC Tryd.prog L79.body (retQ L79.results S) (fun ch H => S (.panicked ch) H) (env0 args) H) : ACalls Tryd.prog 79 args.toArray H S := acalls mixed Tryd.func79 low79 hn h
/-- slices.IndexFunc[[]int,int] -/
def L80_0 : LCode :=
 (.seq
 (.reg [⟨0, .q (.bin .lss), [.tmp 8, .tmp 7], (some 9), none, [], false⟩])
 (.seq
 (.cond (.tmp 9)
  .skip
  (.exit 0))
 (.seq
 (.block 1
  (.seq
  (.reg [⟨0, .q .mv, [.tmp 8], (some 10), none, [], false⟩,
    ⟨1, .q .mv, [.tmp 10], (some 5), none, [], false⟩])
  (.seq
  (.reg [⟨0, .q .mv, [.tmp 1], (some 11), none, [], false⟩,
    ⟨1, .q .mv, [.tmp 0], (some 12), none, [], false⟩,
    ⟨2, .q .mv, [.tmp 5], (some 13), none, [], false⟩,
    ⟨3, .q (.iad 1), [.tmp 12, .tmp 13], (some 14), none, [], false⟩,
    ⟨4, .q .ld, [.tmp 14], (some 15), none, [], false⟩,
    ⟨5, .e .callv, [.tmp 11, .tmp 15], (some 16), none, [], false⟩])
  (.cond (.tmp 16)
   (.seq
   (.reg [⟨0, .q .mv, [.tmp 5], (some 17), none, [], false⟩,
     ⟨1, .q .mv, [.tmp 17], (some 4), none, [], false⟩])
   .ret)
   .skip))))
 (.reg [⟨0, .q (.bin .add), [.tmp 8, .const (.int .i64 1)], (some 18), none, [], false⟩,
   ⟨1, .q .mv, [.tmp 18], (some 8), none, [], false⟩]))))
def L80 : LFn :=
 ⟨19, [.t 4],
 (.seq
 (.reg [⟨0, .q .mv, [.const (.int .i64 0)], (some 4), none, [], false⟩])
 (.seq
 (.seq
 (.reg [⟨0, .q .mv, [.tmp 0], (some 6), none, [], false⟩,
   ⟨1, .q .len, [.tmp 6], (some 7), none, [], false⟩,
   ⟨2, .q .mv, [.const (.int .i64 0)], (some 8), none, [], false⟩])
 (.block 0
  (.loop L80_0)))
 (.seq
 (.reg [⟨0, .q .mv, [.const (.int .i64 (-1))], (some 4), none, [], false⟩])
 .ret)))⟩
theorem low80 : lowFn Tryd.prog Tryd.f80 = some L80 := by kernel_rfl
theorem call80 {args : List Value} {H : Heap} {S : Ending → Heap → Prop} (hn : args.length ≤ L80.n) (h : awpC Tryd.prog L80.body (retQ L80.results S) (fun ch H => S (.panicked ch) H) (env0 args) H) : ACalls Tryd.prog 80 args.toArray H S := acalls mixed Tryd.func80 low80 hn h
end Go.Proofs.YtphojebganlbnaaDoor.Low
