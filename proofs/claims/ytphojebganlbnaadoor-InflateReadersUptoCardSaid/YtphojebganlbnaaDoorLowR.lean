/-
  Functions in short (out of the program's form in Lean, by the kernel).
-/
import Derived.Test.YtphojebganlbnaaDoorSepDfr
import Derived.Test.YtphojebganlbnaaDoorProg
namespace Go.Proofs.YtphojebganlbnaaDoor.Low
open Go Go.Proofs.YtphojebganlbnaaDoor.Sep
theorem mixed : Tryd.prog.follows .mixedOrders = true := by kernel_rfl
/-- satchel/satchelref06.Decode -/
def L11 : LFn :=
 ⟨28, [.t 4, .t 5, .t 6],
 (.seq
 (.reg [⟨0, .q .mv, [.const (.slice none 0 0)], (some 4), none, [], false⟩,
   ⟨1, .q .mv, [.const (.int .i64 0)], (some 5), none, [], false⟩,
   ⟨2, .q .mv, [.const (.int .i64 0)], (some 6), none, [], false⟩])
 (.seq
 (.seq
 (.reg [⟨0, .q .mv, [.tmp 1], (some 8), none, [], false⟩,
   ⟨1, .q (.bin .lss), [.tmp 8, .const (.int .i64 0)], (some 9), none, [], false⟩,
   ⟨2, .q .mv, [.tmp 9], (some 10), none, [], false⟩,
   ⟨3, .q .mv, [.tmp 1], (some 11), (some (10, false)), [], false⟩,
   ⟨4, .q (.bin .gtr), [.tmp 11, .const (.int .i64 4194304)], (some 12), (some (10, false)), [], false⟩,
   ⟨5, .q .pick, [.tmp 10, .const (.bool true), .tmp 12], (some 13), none, [], false⟩])
 (.cond (.tmp 13)
  (.seq
  (.reg [⟨0, .q .mv, [.const (.slice none 0 0)], (some 4), none, [], false⟩,
    ⟨1, .q .mv, [.const (.int .i64 0)], (some 5), none, [], false⟩,
    ⟨2, .q .mv, [.const (.int .i64 1)], (some 6), none, [], false⟩])
  .ret)
  .skip))
 (.seq
 (.reg [⟨0, .q .mv, [.tmp 0], (some 14), none, [], false⟩,
   ⟨1, .q .mv, [.tmp 1], (some 15), none, [], false⟩,
   ⟨2, .e (.call 25), [.tmp 14, .tmp 15], (some 16), none, [], false⟩,
   ⟨3, .e (.new #[(.slice none 0 0), (.int .i64 0), (.int .i64 0)] 56), [], (some 7), none, [], false⟩,
   ⟨4, .e (.st 3), [.tmp 7, .tmp 16], none, none, [], false⟩])
 (.seq
 (.seq
 (.reg [⟨0, .q (.fad 2), [.tmp 7], (some 17), none, [], false⟩,
   ⟨1, .q .ld, [.tmp 17], (some 18), none, [], false⟩,
   ⟨2, .q (.bin .neq), [.tmp 18, .const (.int .i64 0)], (some 19), none, [], false⟩])
 (.cond (.tmp 19)
  (.seq
  (.reg [⟨0, .q (.fad 2), [.tmp 7], (some 20), none, [], false⟩,
    ⟨1, .q .ld, [.tmp 20], (some 21), none, [], false⟩,
    ⟨2, .q .mv, [.const (.slice none 0 0)], (some 4), none, [], false⟩,
    ⟨3, .q .mv, [.const (.int .i64 0)], (some 5), none, [], false⟩,
    ⟨4, .q .mv, [.tmp 21], (some 6), none, [], false⟩])
  .ret)
  .skip))
 (.seq
 (.reg [⟨0, .q (.fad 0), [.tmp 7], (some 22), none, [], false⟩,
   ⟨1, .q .ld, [.tmp 22], (some 23), none, [], false⟩,
   ⟨2, .q (.fad 1), [.tmp 7], (some 24), none, [], false⟩,
   ⟨3, .q .ld, [.tmp 24], (some 25), none, [], false⟩,
   ⟨4, .q (.bin .add), [.tmp 25, .const (.int .i64 7)], (some 26), none, [], false⟩,
   ⟨5, .q (.bin .quo), [.tmp 26, .const (.int .i64 8)], (some 27), none, [], false⟩,
   ⟨6, .q .mv, [.tmp 23], (some 4), none, [], false⟩,
   ⟨7, .q .mv, [.tmp 27], (some 5), none, [], false⟩,
   ⟨8, .q .mv, [.const (.int .i64 0)], (some 6), none, [], false⟩])
 .ret)))))⟩
theorem low11 : lowFn Tryd.prog Tryd.f11 = some L11 := by kernel_rfl
theorem call11 {args : List Value} {H : Heap} {S : Ending → Heap → Prop} (hn : args.length ≤ L11.n) (h : awpC Tryd.prog L11.body (retQ L11.results S) (fun ch H => S (.panicked ch) H) (env0 args) H) : ACalls Tryd.prog 11 args.toArray H S := acalls mixed Tryd.func11 low11 hn h
/-- satchel/satchelref06.Read -/
def L25_0 : LCode :=
 (.seq
 (.seq
 (.reg [⟨0, .q .mv, [.tmp 5], (some 15), none, [], false⟩,
   ⟨1, .q .nilc, [.tmp 15], (some 16), none, [], false⟩,
   ⟨2, .q (.fad 4), [.tmp 16], (some 17), none, [], false⟩,
   ⟨3, .q .ld, [.tmp 17], (some 18), none, [], false⟩,
   ⟨4, .q (.bin .eql), [.tmp 18, .const (.int .i64 0)], (some 19), none, [], false⟩,
   ⟨5, .q .mv, [.tmp 19], (some 20), none, [], false⟩,
   ⟨6, .q .mv, [.tmp 6], (some 21), (some (20, true)), [], false⟩,
   ⟨7, .q (.bin .eql), [.tmp 21, .const (.int .i64 0)], (some 22), (some (20, true)), [], false⟩,
   ⟨8, .q .pick, [.tmp 20, .tmp 22, .const (.bool false)], (some 23), none, [], false⟩])
 (.cond (.tmp 23)
  .skip
  (.exit 0)))
 (.block 1
  (.seq
  (.reg [⟨0, .q .mv, [.tmp 5], (some 24), none, [], false⟩,
    ⟨1, .e (.call 41), [.tmp 24, .const (.int .i64 1)], (some 25), none, [], false⟩,
    ⟨2, .q .mv, [.tmp 25], (some 6), none, [], false⟩])
  (.seq
  (.reg [⟨0, .q .mv, [.tmp 5], (some 26), none, [], false⟩,
    ⟨1, .e (.call 41), [.tmp 26, .const (.int .i64 2)], (some 27), none, [], false⟩,
    ⟨2, .q .mv, [.tmp 27], (some 7), none, [], false⟩])
  (.block 2
   (.seq
   (.reg [⟨0, .q .mv, [.tmp 5], (some 32), none, [], false⟩,
     ⟨1, .q .nilc, [.tmp 32], (some 33), none, [], false⟩,
     ⟨2, .q (.fad 4), [.tmp 33], (some 34), none, [], false⟩,
     ⟨3, .q .ld, [.tmp 34], (some 35), none, [], false⟩,
     ⟨4, .q (.bin .neq), [.tmp 35, .const (.int .i64 0)], (some 36), none, [], false⟩,
     ⟨5, .q .mv, [.tmp 36], (some 31), none, [], false⟩])
   (.cond (.tmp 31)
    .skip
    (.seq
    (.reg [⟨0, .q .mv, [.tmp 7], (some 38), none, [], false⟩,
      ⟨1, .q (.bin .eql), [.tmp 38, .const (.int .i64 0)], (some 39), none, [], false⟩,
      ⟨2, .q .mv, [.tmp 39], (some 37), none, [], false⟩])
    (.cond (.tmp 37)
     (.reg [⟨0, .q .mv, [.tmp 5], (some 40), none, [], false⟩,
       ⟨1, .e (.call 42), [.tmp 40], (some 41), none, [], false⟩])
     (.seq
     (.reg [⟨0, .q .mv, [.tmp 7], (some 43), none, [], false⟩,
       ⟨1, .q (.bin .eql), [.tmp 43, .const (.int .i64 1)], (some 44), none, [], false⟩,
       ⟨2, .q .mv, [.tmp 44], (some 42), none, [], false⟩])
     (.cond (.tmp 42)
      (.reg [⟨0, .q .mv, [.tmp 5], (some 45), none, [], false⟩,
        ⟨1, .e (.call 44), [], (some 46), none, [], false⟩,
        ⟨2, .q (.ext 0), [.tmp 46], (some 47), none, [], false⟩,
        ⟨3, .q (.ext 1), [.tmp 46], (some 48), none, [], false⟩,
        ⟨4, .e (.call 43), [.tmp 45, .tmp 47, .tmp 48], (some 49), none, [], false⟩])
      (.seq
      (.reg [⟨0, .q .mv, [.tmp 7], (some 51), none, [], false⟩,
        ⟨1, .q (.bin .eql), [.tmp 51, .const (.int .i64 2)], (some 52), none, [], false⟩,
        ⟨2, .q .mv, [.tmp 52], (some 50), none, [], false⟩])
      (.cond (.tmp 50)
       (.seq
       (.reg [⟨0, .q .mv, [.tmp 5], (some 54), none, [], false⟩,
         ⟨1, .e (.call 45), [.tmp 54], (some 55), none, [], false⟩,
         ⟨2, .q .mv, [.tmp 55], (some 53), none, [], false⟩,
         ⟨3, .q (.ext 0), [.tmp 53], (some 56), none, [], false⟩,
         ⟨4, .q (.ext 1), [.tmp 53], (some 57), none, [], false⟩,
         ⟨5, .q .mv, [.tmp 56], (some 8), none, [], false⟩,
         ⟨6, .q .mv, [.tmp 57], (some 9), none, [], false⟩])
       (.reg [⟨0, .q .mv, [.tmp 5], (some 58), none, [], false⟩,
         ⟨1, .q .mv, [.tmp 8], (some 59), none, [], false⟩,
         ⟨2, .q .mv, [.tmp 9], (some 60), none, [], false⟩,
         ⟨3, .e (.call 43), [.tmp 58, .tmp 59, .tmp 60], (some 61), none, [], false⟩]))
       (.reg [⟨0, .q .mv, [.tmp 5], (some 28), none, [], false⟩,
         ⟨1, .q .nilc, [.tmp 28], (some 29), none, [], false⟩,
         ⟨2, .q (.fad 4), [.tmp 29], (some 30), none, [], false⟩,
         ⟨3, .e (.st 1), [.tmp 30, .const (.int .i64 60)], none, none, [], false⟩]))))))))))))))
def L25 : LFn :=
 ⟨75, [.c 4 (some 3)],
 (.seq
 (.reg [⟨0, .e (.new #[(.slice none 0 0), (.int .i64 0), (.int .i64 0)] 56), [], (some 4), none, [], false⟩])
 (.seq
 (.reg [⟨0, .q .mv, [.tmp 0], (some 10), none, [], false⟩,
   ⟨1, .e (.call 40), [.tmp 10], (some 11), none, [], false⟩,
   ⟨2, .q .mv, [.tmp 1], (some 12), none, [], false⟩,
   ⟨3, .q (.build #[(.slice none 0 0), (.int .i64 0), (.slice none 0 0), (.int .i64 0), (.int .i64 0)] [(0, 1), (3, 1)]), [.tmp 11, .tmp 12], (some 13), none, [], false⟩,
   ⟨4, .e (.box 76), [.tmp 13], (some 14), none, [], false⟩,
   ⟨5, .q .mv, [.tmp 14], (some 5), none, [], false⟩])
 (.seq
 (.reg [⟨0, .q .mv, [.const (.int .i64 0)], (some 6), none, [], false⟩])
 (.seq
 (.block 0
  (.loop L25_0))
 (.seq
 (.reg [⟨0, .q .mv, [.tmp 5], (some 62), none, [], false⟩,
   ⟨1, .q .nilc, [.tmp 62], (some 63), none, [], false⟩,
   ⟨2, .q (.fad 2), [.tmp 63], (some 64), none, [], false⟩,
   ⟨3, .q .ld, [.tmp 64], (some 65), none, [], false⟩,
   ⟨4, .q .mv, [.tmp 5], (some 66), none, [], false⟩,
   ⟨5, .q .nilc, [.tmp 66], (some 67), none, [], false⟩,
   ⟨6, .q (.fad 1), [.tmp 67], (some 68), none, [], false⟩,
   ⟨7, .q .ld, [.tmp 68], (some 69), none, [], false⟩,
   ⟨8, .q .mv, [.tmp 5], (some 70), none, [], false⟩,
   ⟨9, .q .nilc, [.tmp 70], (some 71), none, [], false⟩,
   ⟨10, .q (.fad 4), [.tmp 71], (some 72), none, [], false⟩,
   ⟨11, .q .ld, [.tmp 72], (some 73), none, [], false⟩,
   ⟨12, .q (.build #[(.slice none 0 0), (.int .i64 0), (.int .i64 0)] [(0, 1), (1, 1), (2, 1)]), [.tmp 65, .tmp 69, .tmp 73], (some 74), none, [], false⟩,
   ⟨13, .e (.st 3), [.tmp 4, .tmp 74], none, none, [], false⟩])
 .ret)))))⟩
theorem low25 : lowFn Tryd.prog Tryd.f25 = some L25 := by kernel_rfl
theorem call25 {args : List Value} {H : Heap} {S : Ending → Heap → Prop} (hn : args.length ≤ L25.n) (h : awpC Tryd.prog L25.body (retQ L25.results S) (fun ch H => S (.panicked ch) H) (env0 args) H) : ACalls Tryd.prog 25 args.toArray H S := acalls mixed Tryd.func25 low25 hn h
/-- (*satchel/satchelref06.Reader).Done -/
def L27 : LFn :=
 ⟨21, [.t 2],
 (.seq
 (.reg [⟨0, .q .mv, [.const (.bool false)], (some 2), none, [], false⟩])
 (.seq
 (.reg [⟨0, .q .mv, [.tmp 0], (some 3), none, [], false⟩,
   ⟨1, .q .nilc, [.tmp 3], (some 4), none, [], false⟩,
   ⟨2, .q (.fad 3), [.tmp 4], (some 5), none, [], false⟩,
   ⟨3, .q .ld, [.tmp 5], (some 6), none, [], false⟩,
   ⟨4, .q (.bin .eql), [.tmp 6, .const (.int .i64 0)], (some 7), none, [], false⟩,
   ⟨5, .q .mv, [.tmp 7], (some 8), none, [], false⟩,
   ⟨6, .q .mv, [.tmp 0], (some 9), (some (8, true)), [], false⟩,
   ⟨7, .q .nilc, [.tmp 9], (some 10), (some (8, true)), [], false⟩,
   ⟨8, .q (.fad 2), [.tmp 10], (some 11), (some (8, true)), [], false⟩,
   ⟨9, .q .ld, [.tmp 11], (some 12), (some (8, true)), [], false⟩,
   ⟨10, .q .mv, [.tmp 0], (some 13), (some (8, true)), [], false⟩,
   ⟨11, .q .nilc, [.tmp 13], (some 14), (some (8, true)), [], false⟩,
   ⟨12, .q (.fad 0), [.tmp 14], (some 15), (some (8, true)), [], false⟩,
   ⟨13, .q .ld, [.tmp 15], (some 16), (some (8, true)), [], false⟩,
   ⟨14, .e (.call 25), [.tmp 12, .tmp 16], (some 17), (some (8, true)), [], false⟩,
   ⟨15, .q (.fld 2), [.tmp 17], (some 18), (some (8, true)), [], false⟩,
   ⟨16, .q (.bin .eql), [.tmp 18, .const (.int .i64 0)], (some 19), (some (8, true)), [], false⟩,
   ⟨17, .q .pick, [.tmp 8, .tmp 19, .const (.bool false)], (some 20), none, [], false⟩,
   ⟨18, .q .mv, [.tmp 20], (some 2), none, [], false⟩])
 .ret))⟩
theorem low27 : lowFn Tryd.prog Tryd.f27 = some L27 := by kernel_rfl
theorem call27 {args : List Value} {H : Heap} {S : Ending → Heap → Prop} (hn : args.length ≤ L27.n) (h : awpC Tryd.prog L27.body (retQ L27.results S) (fun ch H => S (.panicked ch) H) (env0 args) H) : ACalls Tryd.prog 27 args.toArray H S := acalls mixed Tryd.func27 low27 hn h
/-- (*satchel/satchelref06.Reader).Size -/
def L28 : LFn :=
 ⟨23, [.t 2],
 (.seq
 (.reg [⟨0, .q .mv, [.const (.int .i64 0)], (some 2), none, [], false⟩])
 (.seq
 (.seq
 (.reg [⟨0, .q .mv, [.tmp 0], (some 3), none, [], false⟩,
   ⟨1, .e (.call 27), [.tmp 3], (some 4), none, [], false⟩,
   ⟨2, .q (.un .not), [.tmp 4], (some 5), none, [], false⟩])
 (.cond (.tmp 5)
  (.seq
  (.reg [⟨0, .q .mv, [.tmp 0], (some 6), none, [], false⟩,
    ⟨1, .q .nilc, [.tmp 6], (some 7), none, [], false⟩,
    ⟨2, .q (.fad 2), [.tmp 7], (some 8), none, [], false⟩,
    ⟨3, .q .ld, [.tmp 8], (some 9), none, [], false⟩,
    ⟨4, .q .len, [.tmp 9], (some 10), none, [], false⟩,
    ⟨5, .q .mv, [.tmp 10], (some 2), none, [], false⟩])
  .ret)
  .skip))
 (.seq
 (.reg [⟨0, .q .mv, [.tmp 0], (some 11), none, [], false⟩,
   ⟨1, .q .nilc, [.tmp 11], (some 12), none, [], false⟩,
   ⟨2, .q (.fad 2), [.tmp 12], (some 13), none, [], false⟩,
   ⟨3, .q .ld, [.tmp 13], (some 14), none, [], false⟩,
   ⟨4, .q .mv, [.tmp 0], (some 15), none, [], false⟩,
   ⟨5, .q .nilc, [.tmp 15], (some 16), none, [], false⟩,
   ⟨6, .q (.fad 0), [.tmp 16], (some 17), none, [], false⟩,
   ⟨7, .q .ld, [.tmp 17], (some 18), none, [], false⟩,
   ⟨8, .e (.call 25), [.tmp 14, .tmp 18], (some 19), none, [], false⟩,
   ⟨9, .q (.fld 1), [.tmp 19], (some 20), none, [], false⟩,
   ⟨10, .q (.bin .add), [.tmp 20, .const (.int .i64 7)], (some 21), none, [], false⟩,
   ⟨11, .q (.bin .quo), [.tmp 21, .const (.int .i64 8)], (some 22), none, [], false⟩,
   ⟨12, .q .mv, [.tmp 22], (some 2), none, [], false⟩])
 .ret)))⟩
theorem low28 : lowFn Tryd.prog Tryd.f28 = some L28 := by kernel_rfl
theorem call28 {args : List Value} {H : Heap} {S : Ending → Heap → Prop} (hn : args.length ≤ L28.n) (h : awpC Tryd.prog L28.body (retQ L28.results S) (fun ch H => S (.panicked ch) H) (env0 args) H) : ACalls Tryd.prog 28 args.toArray H S := acalls mixed Tryd.func28 low28 hn h
/-- (*satchel/satchelref06.Reader).Rest -/
def L29 : LFn :=
 ⟨13, [.t 2],
 (.seq
 (.reg [⟨0, .q .mv, [.const (.slice none 0 0)], (some 2), none, [], false⟩])
 (.seq
 (.seq
 (.reg [⟨0, .q .mv, [.tmp 0], (some 3), none, [], false⟩,
   ⟨1, .e (.call 27), [.tmp 3], (some 4), none, [], false⟩,
   ⟨2, .q (.un .not), [.tmp 4], (some 5), none, [], false⟩])
 (.cond (.tmp 5)
  (.seq
  (.reg [⟨0, .q .mv, [.const (.slice none 0 0)], (some 2), none, [], false⟩])
  .ret)
  .skip))
 (.seq
 (.reg [⟨0, .q .mv, [.tmp 0], (some 6), none, [], false⟩,
   ⟨1, .q .nilc, [.tmp 6], (some 7), none, [], false⟩,
   ⟨2, .q (.fad 2), [.tmp 7], (some 8), none, [], false⟩,
   ⟨3, .q .ld, [.tmp 8], (some 9), none, [], true⟩,
   ⟨4, .q .mv, [.tmp 0], (some 10), none, [], false⟩,
   ⟨5, .e (.call 28), [.tmp 10], (some 11), none, [3], false⟩,
   ⟨6, .q (.slc 1 true false false), [.tmp 9, .tmp 11], (some 12), none, [], false⟩,
   ⟨7, .q .mv, [.tmp 12], (some 2), none, [], false⟩])
 .ret)))⟩
theorem low29 : lowFn Tryd.prog Tryd.f29 = some L29 := by kernel_rfl
theorem call29 {args : List Value} {H : Heap} {S : Ending → Heap → Prop} (hn : args.length ≤ L29.n) (h : awpC Tryd.prog L29.body (retQ L29.results S) (fun ch H => S (.panicked ch) H) (env0 args) H) : ACalls Tryd.prog 29 args.toArray H S := acalls mixed Tryd.func29 low29 hn h
/-- (*satchel/satchelref06.Reader).Feed -/
def L30_0 : LCode :=
 (.seq
 (.reg [⟨1, .q .mv, [.tmp 7], (some 64), none, [], false⟩,
   ⟨3, .q .mv, [.tmp 0], (some 66), none, [], false⟩,
   ⟨4, .q .nilc, [.tmp 66], (some 67), none, [], false⟩,
   ⟨5, .q (.fad 3), [.tmp 67], (some 68), none, [], false⟩,
   ⟨6, .q .ld, [.tmp 68], (some 69), none, [], true⟩,
   ⟨0, .e (.lits 5 #[] 0 []), [], (some 63), none, [6], false⟩,
   ⟨2, .e (.app 5 1 1 #[(.int .u8 0)]), [.tmp 63, .tmp 64], (some 65), none, [6], false⟩,
   ⟨7, .q .mv, [.tmp 65], (some 4), none, [], false⟩,
   ⟨8, .q .mv, [.tmp 69], (some 5), none, [], false⟩])
 .ret)
def L30 : LFn :=
 ⟨70, [.t 4, .t 5],
 (.seq
 (.reg [⟨0, .q .mv, [.const (.slice none 0 0)], (some 4), none, [], false⟩,
   ⟨1, .q .mv, [.const (.int .i64 0)], (some 5), none, [], false⟩])
 (.seq
 (.seq
 (.reg [⟨0, .q .mv, [.tmp 0], (some 8), none, [], false⟩,
   ⟨1, .q .nilc, [.tmp 8], (some 9), none, [], false⟩,
   ⟨2, .q (.fad 3), [.tmp 9], (some 10), none, [], false⟩,
   ⟨3, .q .ld, [.tmp 10], (some 11), none, [], false⟩,
   ⟨4, .q (.bin .neq), [.tmp 11, .const (.int .i64 0)], (some 12), none, [], false⟩])
 (.cond (.tmp 12)
  (.seq
  (.reg [⟨0, .q .mv, [.tmp 0], (some 13), none, [], false⟩,
    ⟨1, .q .nilc, [.tmp 13], (some 14), none, [], false⟩,
    ⟨2, .q (.fad 3), [.tmp 14], (some 15), none, [], false⟩,
    ⟨3, .q .ld, [.tmp 15], (some 16), none, [], false⟩,
    ⟨4, .q .mv, [.const (.slice none 0 0)], (some 4), none, [], false⟩,
    ⟨5, .q .mv, [.tmp 16], (some 5), none, [], false⟩])
  .ret)
  .skip))
 (.seq
 (.reg [⟨0, .q .mv, [.tmp 0], (some 17), none, [], false⟩,
   ⟨1, .e (.lits 5 #[] 0 []), [], (some 18), none, [], false⟩,
   ⟨2, .q .mv, [.tmp 0], (some 19), none, [], false⟩,
   ⟨3, .q .nilc, [.tmp 19], (some 20), none, [], false⟩,
   ⟨4, .q (.fad 2), [.tmp 20], (some 21), none, [], false⟩,
   ⟨5, .q .ld, [.tmp 21], (some 22), none, [], false⟩,
   ⟨6, .e (.app 5 1 1 #[(.int .u8 0)]), [.tmp 18, .tmp 22], (some 23), none, [], false⟩,
   ⟨7, .q .mv, [.tmp 1], (some 24), none, [], false⟩,
   ⟨8, .e (.app 5 1 1 #[(.int .u8 0)]), [.tmp 23, .tmp 24], (some 25), none, [], false⟩,
   ⟨9, .q .nilc, [.tmp 17], (some 26), none, [], false⟩,
   ⟨10, .q (.fad 2), [.tmp 26], (some 27), none, [], false⟩,
   ⟨11, .e (.st 1), [.tmp 27, .tmp 25], none, none, [], false⟩])
 (.seq
 (.reg [⟨0, .q .mv, [.tmp 0], (some 28), none, [], false⟩,
   ⟨1, .q .nilc, [.tmp 28], (some 29), none, [], false⟩,
   ⟨2, .q (.fad 2), [.tmp 29], (some 30), none, [], false⟩,
   ⟨3, .q .ld, [.tmp 30], (some 31), none, [], false⟩,
   ⟨4, .q .mv, [.tmp 0], (some 32), none, [], false⟩,
   ⟨5, .q .nilc, [.tmp 32], (some 33), none, [], false⟩,
   ⟨6, .q (.fad 0), [.tmp 33], (some 34), none, [], false⟩,
   ⟨7, .q .ld, [.tmp 34], (some 35), none, [], false⟩,
   ⟨8, .e (.call 25), [.tmp 31, .tmp 35], (some 36), none, [], false⟩,
   ⟨9, .e (.new #[(.slice none 0 0), (.int .i64 0), (.int .i64 0)] 56), [], (some 6), none, [], false⟩,
   ⟨10, .e (.st 3), [.tmp 6, .tmp 36], none, none, [], false⟩])
 (.seq
 (.reg [⟨0, .q (.fad 0), [.tmp 6], (some 37), none, [], false⟩,
   ⟨1, .q .ld, [.tmp 37], (some 38), none, [], false⟩,
   ⟨2, .q .mv, [.tmp 0], (some 39), none, [], false⟩,
   ⟨3, .q .nilc, [.tmp 39], (some 40), none, [], false⟩,
   ⟨4, .q (.fad 1), [.tmp 40], (some 41), none, [], false⟩,
   ⟨5, .q .ld, [.tmp 41], (some 42), none, [], false⟩,
   ⟨6, .q (.slc 1 true false false), [.tmp 38, .tmp 42], (some 43), none, [], false⟩,
   ⟨7, .q .mv, [.tmp 43], (some 7), none, [], false⟩])
 (.seq
 (.reg [⟨0, .q .mv, [.tmp 0], (some 44), none, [], false⟩,
   ⟨1, .q (.fad 0), [.tmp 6], (some 45), none, [], false⟩,
   ⟨2, .q .ld, [.tmp 45], (some 46), none, [], false⟩,
   ⟨3, .q .len, [.tmp 46], (some 47), none, [], false⟩,
   ⟨4, .q .nilc, [.tmp 44], (some 48), none, [], false⟩,
   ⟨5, .q (.fad 1), [.tmp 48], (some 49), none, [], false⟩,
   ⟨6, .e (.st 1), [.tmp 49, .tmp 47], none, none, [], false⟩])
 (.seq
 (.seq
 (.reg [⟨0, .q (.fad 2), [.tmp 6], (some 50), none, [], false⟩,
   ⟨1, .q .ld, [.tmp 50], (some 51), none, [], false⟩,
   ⟨2, .q (.bin .neq), [.tmp 51, .const (.int .i64 0)], (some 52), none, [], false⟩,
   ⟨3, .q .mv, [.tmp 52], (some 53), none, [], false⟩,
   ⟨4, .q (.fad 2), [.tmp 6], (some 54), (some (53, true)), [], false⟩,
   ⟨5, .q .ld, [.tmp 54], (some 55), (some (53, true)), [], false⟩,
   ⟨6, .q (.bin .neq), [.tmp 55, .const (.int .i64 4)], (some 56), (some (53, true)), [], false⟩,
   ⟨7, .q .pick, [.tmp 53, .tmp 56, .const (.bool false)], (some 57), none, [], false⟩])
 (.cond (.tmp 57)
  (.reg [⟨0, .q .mv, [.tmp 0], (some 58), none, [], false⟩,
    ⟨1, .q (.fad 2), [.tmp 6], (some 59), none, [], false⟩,
    ⟨2, .q .ld, [.tmp 59], (some 60), none, [], false⟩,
    ⟨3, .q .nilc, [.tmp 58], (some 61), none, [], false⟩,
    ⟨4, .q (.fad 3), [.tmp 61], (some 62), none, [], false⟩,
    ⟨5, .e (.st 1), [.tmp 62, .tmp 60], none, none, [], false⟩])
  .skip))
 L30_0)))))))⟩
theorem low30 : lowFn Tryd.prog Tryd.f30 = some L30 := by kernel_rfl
theorem call30 {args : List Value} {H : Heap} {S : Ending → Heap → Prop} (hn : args.length ≤ L30.n) (h : awpC Tryd.prog L30.body (retQ L30.results S) (fun ch H => S (.panicked ch) H) (env0 args) H) : ACalls Tryd.prog 30 args.toArray H S := acalls mixed Tryd.func30 low30 hn h
/-- (*satchel/satchelref06.state).bits -/
def L41_0 : LCode :=
 (.seq
 (.seq
 (.reg [⟨0, .q .mv, [.tmp 6], (some 27), none, [], false⟩,
   ⟨1, .q .mv, [.tmp 1], (some 28), none, [], false⟩,
   ⟨2, .q (.bin .lss), [.tmp 27, .tmp 28], (some 29), none, [], false⟩])
 (.cond (.tmp 29)
  .skip
  (.exit 0)))
 (.seq
 (.block 1
  (.reg [⟨0, .q .mv, [.tmp 5], (some 32), none, [], false⟩,
    ⟨1, .q .mv, [.tmp 0], (some 33), none, [], false⟩,
    ⟨2, .q .nilc, [.tmp 33], (some 34), none, [], false⟩,
    ⟨3, .q (.fad 0), [.tmp 34], (some 35), none, [], false⟩,
    ⟨4, .q .ld, [.tmp 35], (some 36), none, [], false⟩,
    ⟨5, .q .mv, [.tmp 0], (some 37), none, [], false⟩,
    ⟨6, .q .nilc, [.tmp 37], (some 38), none, [], false⟩,
    ⟨7, .q (.fad 1), [.tmp 38], (some 39), none, [], false⟩,
    ⟨8, .q .ld, [.tmp 39], (some 40), none, [], false⟩,
    ⟨9, .q .mv, [.tmp 6], (some 41), none, [], false⟩,
    ⟨10, .q (.bin .add), [.tmp 40, .tmp 41], (some 42), none, [], false⟩,
    ⟨11, .q (.iad 1), [.tmp 36, .tmp 42], (some 43), none, [], false⟩,
    ⟨12, .q .ld, [.tmp 43], (some 44), none, [], false⟩,
    ⟨13, .q (.cvi .i64), [.tmp 44], (some 45), none, [], false⟩,
    ⟨14, .q .mv, [.tmp 6], (some 46), none, [], false⟩,
    ⟨15, .q (.bin .shl), [.tmp 45, .tmp 46], (some 47), none, [], false⟩,
    ⟨16, .q (.bin .add), [.tmp 32, .tmp 47], (some 48), none, [], false⟩,
    ⟨17, .q .mv, [.tmp 48], (some 5), none, [], false⟩]))
 (.reg [⟨0, .q .mv, [.tmp 6], (some 30), none, [], false⟩,
   ⟨1, .q (.bin .add), [.tmp 30, .const (.int .i64 1)], (some 31), none, [], false⟩,
   ⟨2, .q .mv, [.tmp 31], (some 6), none, [], false⟩])))
def L41 : LFn :=
 ⟨59, [.t 4],
 (.seq
 (.reg [⟨0, .q .mv, [.const (.int .i64 0)], (some 4), none, [], false⟩])
 (.seq
 (.seq
 (.reg [⟨0, .q .mv, [.tmp 0], (some 7), none, [], false⟩,
   ⟨1, .q .nilc, [.tmp 7], (some 8), none, [], false⟩,
   ⟨2, .q (.fad 4), [.tmp 8], (some 9), none, [], false⟩,
   ⟨3, .q .ld, [.tmp 9], (some 10), none, [], false⟩,
   ⟨4, .q (.bin .neq), [.tmp 10, .const (.int .i64 0)], (some 11), none, [], false⟩])
 (.cond (.tmp 11)
  (.seq
  (.reg [⟨0, .q .mv, [.const (.int .i64 0)], (some 4), none, [], false⟩])
  .ret)
  .skip))
 (.seq
 (.seq
 (.reg [⟨0, .q .mv, [.tmp 0], (some 12), none, [], false⟩,
   ⟨1, .q .nilc, [.tmp 12], (some 13), none, [], false⟩,
   ⟨2, .q (.fad 0), [.tmp 13], (some 14), none, [], false⟩,
   ⟨3, .q .ld, [.tmp 14], (some 15), none, [], false⟩,
   ⟨4, .q .len, [.tmp 15], (some 16), none, [], false⟩,
   ⟨5, .q .mv, [.tmp 0], (some 17), none, [], false⟩,
   ⟨6, .q .nilc, [.tmp 17], (some 18), none, [], false⟩,
   ⟨7, .q (.fad 1), [.tmp 18], (some 19), none, [], false⟩,
   ⟨8, .q .ld, [.tmp 19], (some 20), none, [], false⟩,
   ⟨9, .q (.bin .sub), [.tmp 16, .tmp 20], (some 21), none, [], false⟩,
   ⟨10, .q .mv, [.tmp 1], (some 22), none, [], false⟩,
   ⟨11, .q (.bin .lss), [.tmp 21, .tmp 22], (some 23), none, [], false⟩])
 (.cond (.tmp 23)
  (.seq
  (.reg [⟨0, .q .mv, [.tmp 0], (some 24), none, [], false⟩,
    ⟨1, .q .nilc, [.tmp 24], (some 25), none, [], false⟩,
    ⟨2, .q (.fad 4), [.tmp 25], (some 26), none, [], false⟩,
    ⟨3, .e (.st 1), [.tmp 26, .const (.int .i64 4)], none, none, [], false⟩])
  (.seq
  (.reg [⟨0, .q .mv, [.const (.int .i64 0)], (some 4), none, [], false⟩])
  .ret))
  .skip))
 (.seq
 (.reg [⟨0, .q .mv, [.const (.int .i64 0)], (some 5), none, [], false⟩])
 (.seq
 (.seq
 (.reg [⟨0, .q .mv, [.const (.int .i64 0)], (some 6), none, [], false⟩])
 (.block 0
  (.loop L41_0)))
 (.seq
 (.reg [⟨0, .q .mv, [.tmp 0], (some 49), none, [], false⟩,
   ⟨1, .q .mv, [.tmp 0], (some 50), none, [], false⟩,
   ⟨2, .q .nilc, [.tmp 50], (some 51), none, [], false⟩,
   ⟨3, .q (.fad 1), [.tmp 51], (some 52), none, [], false⟩,
   ⟨4, .q .ld, [.tmp 52], (some 53), none, [], false⟩,
   ⟨5, .q .mv, [.tmp 1], (some 54), none, [], false⟩,
   ⟨6, .q (.bin .add), [.tmp 53, .tmp 54], (some 55), none, [], false⟩,
   ⟨7, .q .nilc, [.tmp 49], (some 56), none, [], false⟩,
   ⟨8, .q (.fad 1), [.tmp 56], (some 57), none, [], false⟩,
   ⟨9, .e (.st 1), [.tmp 57, .tmp 55], none, none, [], false⟩])
 (.seq
 (.reg [⟨0, .q .mv, [.tmp 5], (some 58), none, [], false⟩,
   ⟨1, .q .mv, [.tmp 58], (some 4), none, [], false⟩])
 .ret)))))))⟩
theorem low41 : lowFn Tryd.prog Tryd.f41 = some L41 := by kernel_rfl
theorem call41 {args : List Value} {H : Heap} {S : Ending → Heap → Prop} (hn : args.length ≤ L41.n) (h : awpC Tryd.prog L41.body (retQ L41.results S) (fun ch H => S (.panicked ch) H) (env0 args) H) : ACalls Tryd.prog 41 args.toArray H S := acalls mixed Tryd.func41 low41 hn h
/-- (*satchel/satchelref06.state).stored -/
def L42_0 : LCode :=
 (.seq
 (.seq
 (.reg [⟨0, .q .mv, [.tmp 0], (some 6), none, [], false⟩,
   ⟨1, .q .nilc, [.tmp 6], (some 7), none, [], false⟩,
   ⟨2, .q (.fad 1), [.tmp 7], (some 8), none, [], false⟩,
   ⟨3, .q .ld, [.tmp 8], (some 9), none, [], false⟩,
   ⟨4, .q (.bin .rem), [.tmp 9, .const (.int .i64 8)], (some 10), none, [], false⟩,
   ⟨5, .q (.bin .neq), [.tmp 10, .const (.int .i64 0)], (some 11), none, [], false⟩])
 (.cond (.tmp 11)
  .skip
  (.exit 0)))
 (.block 1
  (.reg [⟨0, .q .mv, [.tmp 0], (some 12), none, [], false⟩,
    ⟨1, .q .nilc, [.tmp 12], (some 13), none, [], false⟩,
    ⟨2, .q (.fad 1), [.tmp 13], (some 14), none, [], false⟩,
    ⟨3, .q .ld, [.tmp 14], (some 15), none, [], false⟩,
    ⟨4, .q (.bin .add), [.tmp 15, .const (.int .i64 1)], (some 16), none, [], false⟩,
    ⟨5, .q .nilc, [.tmp 12], (some 17), none, [], false⟩,
    ⟨6, .q (.fad 1), [.tmp 17], (some 18), none, [], false⟩,
    ⟨7, .e (.st 1), [.tmp 18, .tmp 16], none, none, [], false⟩])))
def L42_1 : LCode :=
 (.seq
 (.seq
 (.reg [⟨0, .q .mv, [.tmp 4], (some 59), none, [], false⟩,
   ⟨1, .q .mv, [.tmp 2], (some 60), none, [], false⟩,
   ⟨2, .q (.bin .lss), [.tmp 59, .tmp 60], (some 61), none, [], false⟩,
   ⟨3, .q .mv, [.tmp 61], (some 62), none, [], false⟩,
   ⟨4, .q .mv, [.tmp 0], (some 63), (some (62, true)), [], false⟩,
   ⟨5, .q .nilc, [.tmp 63], (some 64), (some (62, true)), [], false⟩,
   ⟨6, .q (.fad 4), [.tmp 64], (some 65), (some (62, true)), [], false⟩,
   ⟨7, .q .ld, [.tmp 65], (some 66), (some (62, true)), [], false⟩,
   ⟨8, .q (.bin .eql), [.tmp 66, .const (.int .i64 0)], (some 67), (some (62, true)), [], false⟩,
   ⟨9, .q .pick, [.tmp 62, .tmp 67, .const (.bool false)], (some 68), none, [], false⟩])
 (.cond (.tmp 68)
  .skip
  (.exit 2)))
 (.seq
 (.block 3
  (.seq
  (.reg [⟨0, .q .mv, [.tmp 0], (some 71), none, [], false⟩,
    ⟨1, .e (.call 41), [.tmp 71, .const (.int .i64 8)], (some 72), none, [], false⟩,
    ⟨2, .q .mv, [.tmp 72], (some 5), none, [], false⟩])
  (.reg [⟨0, .q .mv, [.tmp 0], (some 73), none, [], false⟩,
    ⟨1, .q .mv, [.tmp 5], (some 74), none, [], false⟩,
    ⟨2, .q (.cvi .u8), [.tmp 74], (some 75), none, [], false⟩,
    ⟨3, .e (.lits 5 #[(.int .u8 0)] 1 [(0, 1)]), [.tmp 75], (some 76), none, [], false⟩,
    ⟨4, .e (.call 60), [.tmp 73, .tmp 76], (some 77), none, [], false⟩])))
 (.reg [⟨0, .q .mv, [.tmp 4], (some 69), none, [], false⟩,
   ⟨1, .q (.bin .add), [.tmp 69, .const (.int .i64 1)], (some 70), none, [], false⟩,
   ⟨2, .q .mv, [.tmp 70], (some 4), none, [], false⟩])))
def L42_2 : LCode :=
 (.seq
 (.reg [⟨0, .q .mv, [.const (.int .i64 0)], (some 4), none, [], false⟩])
 (.block 2
  (.loop L42_1)))
def L42_3 : LCode :=
 (.seq
 (.seq
 (.reg [⟨0, .q .mv, [.tmp 0], (some 37), none, [], false⟩,
   ⟨1, .q .nilc, [.tmp 37], (some 38), none, [], false⟩,
   ⟨2, .q (.fad 4), [.tmp 38], (some 39), none, [], false⟩,
   ⟨3, .q .ld, [.tmp 39], (some 40), none, [], false⟩,
   ⟨4, .q (.bin .eql), [.tmp 40, .const (.int .i64 0)], (some 41), none, [], false⟩,
   ⟨5, .q .mv, [.tmp 41], (some 42), none, [], false⟩,
   ⟨6, .q .mv, [.tmp 2], (some 43), (some (42, true)), [], false⟩,
   ⟨7, .q .mv, [.tmp 0], (some 44), (some (42, true)), [], false⟩,
   ⟨8, .q .nilc, [.tmp 44], (some 45), (some (42, true)), [], false⟩,
   ⟨9, .q (.fad 3), [.tmp 45], (some 46), (some (42, true)), [], false⟩,
   ⟨10, .q .ld, [.tmp 46], (some 47), (some (42, true)), [], false⟩,
   ⟨11, .q .mv, [.tmp 0], (some 48), (some (42, true)), [], false⟩,
   ⟨12, .q .nilc, [.tmp 48], (some 49), (some (42, true)), [], false⟩,
   ⟨13, .q (.fad 2), [.tmp 49], (some 50), (some (42, true)), [], false⟩,
   ⟨14, .q .ld, [.tmp 50], (some 51), (some (42, true)), [], false⟩,
   ⟨15, .q .len, [.tmp 51], (some 52), (some (42, true)), [], false⟩,
   ⟨16, .q (.bin .sub), [.tmp 47, .tmp 52], (some 53), (some (42, true)), [], false⟩,
   ⟨17, .q (.bin .gtr), [.tmp 43, .tmp 53], (some 54), (some (42, true)), [], false⟩,
   ⟨18, .q .pick, [.tmp 42, .tmp 54, .const (.bool false)], (some 55), none, [], false⟩])
 (.cond (.tmp 55)
  (.reg [⟨0, .q .mv, [.tmp 0], (some 56), none, [], false⟩,
    ⟨1, .q .nilc, [.tmp 56], (some 57), none, [], false⟩,
    ⟨2, .q (.fad 4), [.tmp 57], (some 58), none, [], false⟩,
    ⟨3, .e (.st 1), [.tmp 58, .const (.int .i64 32)], none, none, [], false⟩])
  .skip))
 L42_2)
def L42 : LFn :=
 ⟨78, [],
 (.seq
 (.block 0
  (.loop L42_0))
 (.seq
 (.reg [⟨0, .q .mv, [.tmp 0], (some 19), none, [], false⟩,
   ⟨1, .e (.call 41), [.tmp 19, .const (.int .i64 16)], (some 20), none, [], false⟩,
   ⟨2, .q .mv, [.tmp 0], (some 21), none, [], false⟩,
   ⟨3, .e (.call 41), [.tmp 21, .const (.int .i64 16)], (some 22), none, [], false⟩,
   ⟨4, .q .mv, [.tmp 20], (some 2), none, [], false⟩,
   ⟨5, .q .mv, [.tmp 22], (some 3), none, [], false⟩])
 (.seq
 (.seq
 (.reg [⟨0, .q .mv, [.tmp 0], (some 23), none, [], false⟩,
   ⟨1, .q .nilc, [.tmp 23], (some 24), none, [], false⟩,
   ⟨2, .q (.fad 4), [.tmp 24], (some 25), none, [], false⟩,
   ⟨3, .q .ld, [.tmp 25], (some 26), none, [], false⟩,
   ⟨4, .q (.bin .eql), [.tmp 26, .const (.int .i64 0)], (some 27), none, [], false⟩,
   ⟨5, .q .mv, [.tmp 27], (some 28), none, [], false⟩,
   ⟨6, .q .mv, [.tmp 2], (some 29), (some (28, true)), [], false⟩,
   ⟨7, .q .mv, [.tmp 3], (some 30), (some (28, true)), [], false⟩,
   ⟨8, .q (.bin .add), [.tmp 29, .tmp 30], (some 31), (some (28, true)), [], false⟩,
   ⟨9, .q (.bin .neq), [.tmp 31, .const (.int .i64 65535)], (some 32), (some (28, true)), [], false⟩,
   ⟨10, .q .pick, [.tmp 28, .tmp 32, .const (.bool false)], (some 33), none, [], false⟩])
 (.cond (.tmp 33)
  (.reg [⟨0, .q .mv, [.tmp 0], (some 34), none, [], false⟩,
    ⟨1, .q .nilc, [.tmp 34], (some 35), none, [], false⟩,
    ⟨2, .q (.fad 4), [.tmp 35], (some 36), none, [], false⟩,
    ⟨3, .e (.st 1), [.tmp 36, .const (.int .i64 61)], none, none, [], false⟩])
  .skip))
 L42_3)))⟩
theorem low42 : lowFn Tryd.prog Tryd.f42 = some L42 := by kernel_rfl
theorem call42 {args : List Value} {H : Heap} {S : Ending → Heap → Prop} (hn : args.length ≤ L42.n) (h : awpC Tryd.prog L42.body (retQ L42.results S) (fun ch H => S (.panicked ch) H) (env0 args) H) : ACalls Tryd.prog 42 args.toArray H S := acalls mixed Tryd.func42 low42 hn h
/-- (*satchel/satchelref06.state).symbols -/
def L43_0 : LCode :=
 (.seq
 (.seq
 (.reg [⟨0, .q .mv, [.tmp 0], (some 7), none, [], false⟩,
   ⟨1, .q .nilc, [.tmp 7], (some 8), none, [], false⟩,
   ⟨2, .q (.fad 4), [.tmp 8], (some 9), none, [], false⟩,
   ⟨3, .q .ld, [.tmp 9], (some 10), none, [], false⟩,
   ⟨4, .q (.bin .eql), [.tmp 10, .const (.int .i64 0)], (some 11), none, [], false⟩])
 (.cond (.tmp 11)
  .skip
  (.exit 0)))
 (.block 1
  (.seq
  (.reg [⟨0, .q .mv, [.tmp 0], (some 12), none, [], false⟩,
    ⟨1, .q .mv, [.tmp 1], (some 13), none, [], false⟩,
    ⟨2, .e (.call 61), [.tmp 12, .tmp 13], (some 14), none, [], false⟩,
    ⟨3, .q .mv, [.tmp 14], (some 6), none, [], false⟩])
  (.block 2
   (.seq
   (.reg [⟨0, .q .mv, [.tmp 0], (some 20), none, [], false⟩,
     ⟨1, .q .nilc, [.tmp 20], (some 21), none, [], false⟩,
     ⟨2, .q (.fad 4), [.tmp 21], (some 22), none, [], false⟩,
     ⟨3, .q .ld, [.tmp 22], (some 23), none, [], false⟩,
     ⟨4, .q (.bin .neq), [.tmp 23, .const (.int .i64 0)], (some 24), none, [], false⟩,
     ⟨5, .q .mv, [.tmp 24], (some 19), none, [], false⟩])
   (.cond (.tmp 19)
    .skip
    (.seq
    (.reg [⟨0, .q .mv, [.tmp 6], (some 26), none, [], false⟩,
      ⟨1, .q (.bin .lss), [.tmp 26, .const (.int .i64 256)], (some 27), none, [], false⟩,
      ⟨2, .q .mv, [.tmp 27], (some 25), none, [], false⟩])
    (.cond (.tmp 25)
     (.reg [⟨0, .q .mv, [.tmp 0], (some 28), none, [], false⟩,
       ⟨1, .q .mv, [.tmp 6], (some 29), none, [], false⟩,
       ⟨2, .q (.cvi .u8), [.tmp 29], (some 30), none, [], false⟩,
       ⟨3, .e (.lits 5 #[(.int .u8 0)] 1 [(0, 1)]), [.tmp 30], (some 31), none, [], false⟩,
       ⟨4, .e (.call 60), [.tmp 28, .tmp 31], (some 32), none, [], false⟩])
     (.seq
     (.reg [⟨0, .q .mv, [.tmp 6], (some 34), none, [], false⟩,
       ⟨1, .q (.bin .eql), [.tmp 34, .const (.int .i64 256)], (some 35), none, [], false⟩,
       ⟨2, .q .mv, [.tmp 35], (some 33), none, [], false⟩])
     (.cond (.tmp 33)
      .ret
      (.reg [⟨0, .q .mv, [.tmp 0], (some 15), none, [], false⟩,
        ⟨1, .q .mv, [.tmp 6], (some 16), none, [], false⟩,
        ⟨2, .q .mv, [.tmp 2], (some 17), none, [], false⟩,
        ⟨3, .e (.call 62), [.tmp 15, .tmp 16, .tmp 17], (some 18), none, [], false⟩])))))))))))
def L43 : LFn :=
 ⟨36, [],
 (.block 0
  (.loop L43_0))⟩
theorem low43 : lowFn Tryd.prog Tryd.f43 = some L43 := by kernel_rfl
theorem call43 {args : List Value} {H : Heap} {S : Ending → Heap → Prop} (hn : args.length ≤ L43.n) (h : awpC Tryd.prog L43.body (retQ L43.results S) (fun ch H => S (.panicked ch) H) (env0 args) H) : ACalls Tryd.prog 43 args.toArray H S := acalls mixed Tryd.func43 low43 hn h
/-- satchel/satchelref06.Fixed -/
def L44_0 : LCode :=
 (.reg [⟨0, .q .mv, [.tmp 2], (some 23), none, [], false⟩,
   ⟨1, .q .mv, [.tmp 5], (some 24), none, [], false⟩,
   ⟨2, .e (.lits 3 #[(.int .i64 0)] 1 [(0, 1)]), [.tmp 24], (some 25), none, [], false⟩,
   ⟨3, .e (.app 3 1 8 #[(.int .i64 0)]), [.tmp 23, .tmp 25], (some 26), none, [], false⟩,
   ⟨4, .q .mv, [.tmp 26], (some 2), none, [], false⟩])
def L44_1 : LCode :=
 (.seq
 (.seq
 (.reg [⟨0, .q .mv, [.tmp 4], (some 17), none, [], false⟩,
   ⟨1, .q (.bin .geq), [.tmp 17, .const (.int .i64 256)], (some 18), none, [], false⟩,
   ⟨2, .q .mv, [.tmp 18], (some 19), none, [], false⟩,
   ⟨3, .q .mv, [.tmp 4], (some 20), (some (19, true)), [], false⟩,
   ⟨4, .q (.bin .lss), [.tmp 20, .const (.int .i64 280)], (some 21), (some (19, true)), [], false⟩,
   ⟨5, .q .pick, [.tmp 19, .tmp 21, .const (.bool false)], (some 22), none, [], false⟩])
 (.cond (.tmp 22)
  (.reg [⟨0, .q .mv, [.const (.int .i64 7)], (some 5), none, [], false⟩])
  .skip))
 L44_0)
def L44_2 : LCode :=
 (.reg [⟨0, .q .mv, [.tmp 4], (some 9), none, [], false⟩,
   ⟨1, .q (.bin .add), [.tmp 9, .const (.int .i64 1)], (some 10), none, [], false⟩,
   ⟨2, .q .mv, [.tmp 10], (some 4), none, [], false⟩])
def L44_3 : LCode :=
 (.seq
 (.seq
 (.reg [⟨0, .q .mv, [.tmp 4], (some 7), none, [], false⟩,
   ⟨1, .q (.bin .lss), [.tmp 7, .const (.int .i64 288)], (some 8), none, [], false⟩])
 (.cond (.tmp 8)
  .skip
  (.exit 0)))
 (.seq
 (.block 1
  (.seq
  (.reg [⟨0, .q .mv, [.const (.int .i64 8)], (some 5), none, [], false⟩])
  (.seq
  (.seq
  (.reg [⟨0, .q .mv, [.tmp 4], (some 11), none, [], false⟩,
    ⟨1, .q (.bin .geq), [.tmp 11, .const (.int .i64 144)], (some 12), none, [], false⟩,
    ⟨2, .q .mv, [.tmp 12], (some 13), none, [], false⟩,
    ⟨3, .q .mv, [.tmp 4], (some 14), (some (13, true)), [], false⟩,
    ⟨4, .q (.bin .lss), [.tmp 14, .const (.int .i64 256)], (some 15), (some (13, true)), [], false⟩,
    ⟨5, .q .pick, [.tmp 13, .tmp 15, .const (.bool false)], (some 16), none, [], false⟩])
  (.cond (.tmp 16)
   (.reg [⟨0, .q .mv, [.const (.int .i64 9)], (some 5), none, [], false⟩])
   .skip))
  L44_1)))
 L44_2))
def L44_4 : LCode :=
 (.seq
 (.seq
 (.reg [⟨0, .q .mv, [.tmp 6], (some 27), none, [], false⟩,
   ⟨1, .q (.bin .lss), [.tmp 27, .const (.int .i64 32)], (some 28), none, [], false⟩])
 (.cond (.tmp 28)
  .skip
  (.exit 2)))
 (.seq
 (.block 3
  (.reg [⟨0, .q .mv, [.tmp 3], (some 31), none, [], false⟩,
    ⟨1, .e (.lits 3 #[(.int .i64 0)] 1 [(0, 1)]), [.const (.int .i64 5)], (some 32), none, [], false⟩,
    ⟨2, .e (.app 3 1 8 #[(.int .i64 0)]), [.tmp 31, .tmp 32], (some 33), none, [], false⟩,
    ⟨3, .q .mv, [.tmp 33], (some 3), none, [], false⟩]))
 (.reg [⟨0, .q .mv, [.tmp 6], (some 29), none, [], false⟩,
   ⟨1, .q (.bin .add), [.tmp 29, .const (.int .i64 1)], (some 30), none, [], false⟩,
   ⟨2, .q .mv, [.tmp 30], (some 6), none, [], false⟩])))
def L44 : LFn :=
 ⟨36, [.t 0, .t 1],
 (.seq
 (.reg [⟨0, .q .mv, [.const (.slice none 0 0)], (some 0), none, [], false⟩,
   ⟨1, .q .mv, [.const (.slice none 0 0)], (some 1), none, [], false⟩])
 (.seq
 (.reg [⟨0, .q .mv, [.const (.slice none 0 0)], (some 2), none, [], false⟩,
   ⟨1, .q .mv, [.const (.slice none 0 0)], (some 3), none, [], false⟩])
 (.seq
 (.seq
 (.reg [⟨0, .q .mv, [.const (.int .i64 0)], (some 4), none, [], false⟩])
 (.block 0
  (.loop L44_3)))
 (.seq
 (.seq
 (.reg [⟨0, .q .mv, [.const (.int .i64 0)], (some 6), none, [], false⟩])
 (.block 2
  (.loop L44_4)))
 (.seq
 (.reg [⟨0, .q .mv, [.tmp 2], (some 34), none, [], false⟩,
   ⟨1, .q .mv, [.tmp 3], (some 35), none, [], false⟩,
   ⟨2, .q .mv, [.tmp 34], (some 0), none, [], false⟩,
   ⟨3, .q .mv, [.tmp 35], (some 1), none, [], false⟩])
 .ret)))))⟩
theorem low44 : lowFn Tryd.prog Tryd.f44 = some L44 := by kernel_rfl
theorem call44 {args : List Value} {H : Heap} {S : Ending → Heap → Prop} (hn : args.length ≤ L44.n) (h : awpC Tryd.prog L44.body (retQ L44.results S) (fun ch H => S (.panicked ch) H) (env0 args) H) : ACalls Tryd.prog 44 args.toArray H S := acalls mixed Tryd.func44 low44 hn h
/-- (*satchel/satchelref06.state).own -/
def L45_0 : LCode :=
 (.seq
 (.seq
 (.reg [⟨0, .q .mv, [.tmp 9], (some 44), none, [], false⟩,
   ⟨1, .q .mv, [.tmp 6], (some 45), none, [], false⟩,
   ⟨2, .q (.bin .lss), [.tmp 44, .tmp 45], (some 46), none, [], false⟩])
 (.cond (.tmp 46)
  .skip
  (.exit 0)))
 (.seq
 (.block 1
  (.reg [⟨0, .q .mv, [.tmp 8], (some 49), none, [], false⟩,
    ⟨1, .q .mv, [.tmp 9], (some 50), none, [], false⟩,
    ⟨2, .q (.iada 19 1), [.tmp 7, .tmp 50], (some 51), none, [], false⟩,
    ⟨3, .q .ld, [.tmp 51], (some 52), none, [], true⟩,
    ⟨4, .q .mv, [.tmp 0], (some 53), none, [], false⟩,
    ⟨5, .e (.call 41), [.tmp 53, .const (.int .i64 3)], (some 54), none, [3], false⟩,
    ⟨6, .q (.iad 1), [.tmp 49, .tmp 52], (some 55), none, [], false⟩,
    ⟨7, .e (.st 1), [.tmp 55, .tmp 54], none, none, [], false⟩]))
 (.reg [⟨0, .q .mv, [.tmp 9], (some 47), none, [], false⟩,
   ⟨1, .q (.bin .add), [.tmp 47, .const (.int .i64 1)], (some 48), none, [], false⟩,
   ⟨2, .q .mv, [.tmp 48], (some 9), none, [], false⟩])))
def L45_1 : LCode :=
 (.seq
 (.seq
 (.reg [⟨0, .q .mv, [.tmp 14], (some 146), none, [], false⟩,
   ⟨1, .q .mv, [.tmp 12], (some 147), none, [], false⟩,
   ⟨2, .q (.bin .lss), [.tmp 146, .tmp 147], (some 148), none, [], false⟩])
 (.cond (.tmp 148)
  .skip
  (.exit 5)))
 (.seq
 (.block 6
  (.reg [⟨0, .q .mv, [.tmp 10], (some 151), none, [], false⟩,
    ⟨1, .q .mv, [.tmp 13], (some 152), none, [], false⟩,
    ⟨2, .e (.lits 3 #[(.int .i64 0)] 1 [(0, 1)]), [.tmp 152], (some 153), none, [], false⟩,
    ⟨3, .e (.app 3 1 8 #[(.int .i64 0)]), [.tmp 151, .tmp 153], (some 154), none, [], false⟩,
    ⟨4, .q .mv, [.tmp 154], (some 10), none, [], false⟩]))
 (.reg [⟨0, .q .mv, [.tmp 14], (some 149), none, [], false⟩,
   ⟨1, .q (.bin .add), [.tmp 149, .const (.int .i64 1)], (some 150), none, [], false⟩,
   ⟨2, .q .mv, [.tmp 150], (some 14), none, [], false⟩])))
def L45_2 : LCode :=
 (.seq
 (.reg [⟨0, .q .mv, [.const (.int .i64 0)], (some 14), none, [], false⟩])
 (.block 5
  (.loop L45_1)))
def L45_3 : LCode :=
 (.seq
 (.seq
 (.reg [⟨0, .q .mv, [.tmp 0], (some 128), none, [], false⟩,
   ⟨1, .q .nilc, [.tmp 128], (some 129), none, [], false⟩,
   ⟨2, .q (.fad 4), [.tmp 129], (some 130), none, [], false⟩,
   ⟨3, .q .ld, [.tmp 130], (some 131), none, [], false⟩,
   ⟨4, .q (.bin .eql), [.tmp 131, .const (.int .i64 0)], (some 132), none, [], false⟩,
   ⟨5, .q .mv, [.tmp 132], (some 133), none, [], false⟩,
   ⟨6, .q .mv, [.tmp 10], (some 134), (some (133, true)), [], false⟩,
   ⟨7, .q .len, [.tmp 134], (some 135), (some (133, true)), [], false⟩,
   ⟨8, .q .mv, [.tmp 12], (some 136), (some (133, true)), [], false⟩,
   ⟨9, .q (.bin .add), [.tmp 135, .tmp 136], (some 137), (some (133, true)), [], false⟩,
   ⟨10, .q .mv, [.tmp 4], (some 138), (some (133, true)), [], false⟩,
   ⟨11, .q .mv, [.tmp 5], (some 139), (some (133, true)), [], false⟩,
   ⟨12, .q (.bin .add), [.tmp 138, .tmp 139], (some 140), (some (133, true)), [], false⟩,
   ⟨13, .q (.bin .gtr), [.tmp 137, .tmp 140], (some 141), (some (133, true)), [], false⟩,
   ⟨14, .q .pick, [.tmp 133, .tmp 141, .const (.bool false)], (some 142), none, [], false⟩])
 (.cond (.tmp 142)
  (.reg [⟨0, .q .mv, [.tmp 0], (some 143), none, [], false⟩,
    ⟨1, .q .nilc, [.tmp 143], (some 144), none, [], false⟩,
    ⟨2, .q (.fad 4), [.tmp 144], (some 145), none, [], false⟩,
    ⟨3, .e (.st 1), [.tmp 145, .const (.int .i64 62)], none, none, [], false⟩])
  .skip))
 L45_2)
def L45_4 : LCode :=
 (.seq
 (.reg [⟨0, .q .mv, [.tmp 11], (some 102), none, [], false⟩,
   ⟨1, .q .mv, [.const (.int .i64 1)], (some 12), none, [], false⟩,
   ⟨2, .q .mv, [.tmp 102], (some 13), none, [], false⟩])
 (.seq
 (.seq
 (.reg [⟨0, .q .mv, [.tmp 11], (some 103), none, [], false⟩])
 (.block 4
  (.seq
  (.reg [⟨0, .q (.bin .eql), [.tmp 103, .const (.int .i64 16)], (some 105), none, [], false⟩,
    ⟨1, .q .mv, [.tmp 105], (some 104), none, [], false⟩])
  (.cond (.tmp 104)
   (.seq
   (.reg [⟨0, .q .mv, [.tmp 0], (some 106), none, [], false⟩,
     ⟨1, .e (.call 41), [.tmp 106, .const (.int .i64 2)], (some 107), none, [], false⟩,
     ⟨2, .q (.bin .add), [.tmp 107, .const (.int .i64 3)], (some 108), none, [], false⟩,
     ⟨3, .q .mv, [.tmp 108], (some 12), none, [], false⟩])
   (.seq
   (.reg [⟨0, .q .mv, [.tmp 10], (some 109), none, [], false⟩,
     ⟨1, .q .len, [.tmp 109], (some 110), none, [], false⟩,
     ⟨2, .q (.bin .gtr), [.tmp 110, .const (.int .i64 0)], (some 111), none, [], false⟩])
   (.cond (.tmp 111)
    (.reg [⟨0, .q .mv, [.tmp 10], (some 112), none, [], false⟩,
      ⟨1, .q .mv, [.tmp 10], (some 113), none, [], false⟩,
      ⟨2, .q .len, [.tmp 113], (some 114), none, [], false⟩,
      ⟨3, .q (.bin .sub), [.tmp 114, .const (.int .i64 1)], (some 115), none, [], false⟩,
      ⟨4, .q (.iad 1), [.tmp 112, .tmp 115], (some 116), none, [], false⟩,
      ⟨5, .q .ld, [.tmp 116], (some 117), none, [], false⟩,
      ⟨6, .q .mv, [.tmp 117], (some 13), none, [], false⟩])
    .skip)))
   (.seq
   (.reg [⟨0, .q (.bin .eql), [.tmp 103, .const (.int .i64 17)], (some 119), none, [], false⟩,
     ⟨1, .q .mv, [.tmp 119], (some 118), none, [], false⟩])
   (.cond (.tmp 118)
    (.seq
    (.reg [⟨0, .q .mv, [.tmp 0], (some 120), none, [], false⟩,
      ⟨1, .e (.call 41), [.tmp 120, .const (.int .i64 3)], (some 121), none, [], false⟩,
      ⟨2, .q (.bin .add), [.tmp 121, .const (.int .i64 3)], (some 122), none, [], false⟩,
      ⟨3, .q .mv, [.tmp 122], (some 12), none, [], false⟩])
    (.reg [⟨0, .q .mv, [.const (.int .i64 0)], (some 13), none, [], false⟩]))
    (.seq
    (.reg [⟨0, .q (.bin .eql), [.tmp 103, .const (.int .i64 18)], (some 124), none, [], false⟩,
      ⟨1, .q .mv, [.tmp 124], (some 123), none, [], false⟩])
    (.cond (.tmp 123)
     (.seq
     (.reg [⟨0, .q .mv, [.tmp 0], (some 125), none, [], false⟩,
       ⟨1, .e (.call 41), [.tmp 125, .const (.int .i64 7)], (some 126), none, [], false⟩,
       ⟨2, .q (.bin .add), [.tmp 126, .const (.int .i64 11)], (some 127), none, [], false⟩,
       ⟨3, .q .mv, [.tmp 127], (some 12), none, [], false⟩])
     (.reg [⟨0, .q .mv, [.const (.int .i64 0)], (some 13), none, [], false⟩]))
     .skip))))))))
 L45_3))
def L45_5 : LCode :=
 (.seq
 (.seq
 (.reg [⟨0, .q .mv, [.tmp 0], (some 69), none, [], false⟩,
   ⟨1, .q .nilc, [.tmp 69], (some 70), none, [], false⟩,
   ⟨2, .q (.fad 4), [.tmp 70], (some 71), none, [], false⟩,
   ⟨3, .q .ld, [.tmp 71], (some 72), none, [], false⟩,
   ⟨4, .q (.bin .eql), [.tmp 72, .const (.int .i64 0)], (some 73), none, [], false⟩,
   ⟨5, .q .mv, [.tmp 73], (some 74), none, [], false⟩,
   ⟨6, .q .mv, [.tmp 10], (some 75), (some (74, true)), [], false⟩,
   ⟨7, .q .len, [.tmp 75], (some 76), (some (74, true)), [], false⟩,
   ⟨8, .q .mv, [.tmp 4], (some 77), (some (74, true)), [], false⟩,
   ⟨9, .q .mv, [.tmp 5], (some 78), (some (74, true)), [], false⟩,
   ⟨10, .q (.bin .add), [.tmp 77, .tmp 78], (some 79), (some (74, true)), [], false⟩,
   ⟨11, .q (.bin .lss), [.tmp 76, .tmp 79], (some 80), (some (74, true)), [], false⟩,
   ⟨12, .q .pick, [.tmp 74, .tmp 80, .const (.bool false)], (some 81), none, [], false⟩])
 (.cond (.tmp 81)
  .skip
  (.exit 2)))
 (.block 3
  (.seq
  (.reg [⟨0, .q .mv, [.tmp 0], (some 82), none, [], false⟩,
    ⟨1, .q .mv, [.tmp 8], (some 83), none, [], false⟩,
    ⟨2, .e (.call 61), [.tmp 82, .tmp 83], (some 84), none, [], false⟩,
    ⟨3, .q .mv, [.tmp 84], (some 11), none, [], false⟩])
  (.seq
  (.seq
  (.reg [⟨0, .q .mv, [.tmp 0], (some 85), none, [], false⟩,
    ⟨1, .q .nilc, [.tmp 85], (some 86), none, [], false⟩,
    ⟨2, .q (.fad 4), [.tmp 86], (some 87), none, [], false⟩,
    ⟨3, .q .ld, [.tmp 87], (some 88), none, [], false⟩,
    ⟨4, .q (.bin .eql), [.tmp 88, .const (.int .i64 0)], (some 89), none, [], false⟩,
    ⟨5, .q .mv, [.tmp 89], (some 90), none, [], false⟩,
    ⟨6, .q .mv, [.tmp 11], (some 91), (some (90, true)), [], false⟩,
    ⟨7, .q (.bin .eql), [.tmp 91, .const (.int .i64 16)], (some 92), (some (90, true)), [], false⟩,
    ⟨8, .q .pick, [.tmp 90, .tmp 92, .const (.bool false)], (some 93), none, [], false⟩,
    ⟨9, .q .mv, [.tmp 93], (some 94), none, [], false⟩,
    ⟨10, .q .mv, [.tmp 10], (some 95), (some (94, true)), [], false⟩,
    ⟨11, .q .len, [.tmp 95], (some 96), (some (94, true)), [], false⟩,
    ⟨12, .q (.bin .eql), [.tmp 96, .const (.int .i64 0)], (some 97), (some (94, true)), [], false⟩,
    ⟨13, .q .pick, [.tmp 94, .tmp 97, .const (.bool false)], (some 98), none, [], false⟩])
  (.cond (.tmp 98)
   (.reg [⟨0, .q .mv, [.tmp 0], (some 99), none, [], false⟩,
     ⟨1, .q .nilc, [.tmp 99], (some 100), none, [], false⟩,
     ⟨2, .q (.fad 4), [.tmp 100], (some 101), none, [], false⟩,
     ⟨3, .e (.st 1), [.tmp 101, .const (.int .i64 62)], none, none, [], false⟩])
   .skip))
  L45_4))))
def L45_6 : LCode :=
 (.seq
 (.reg [⟨0, .q .mv, [.tmp 15], (some 188), none, [], false⟩,
   ⟨1, .q .mv, [.tmp 16], (some 189), none, [], false⟩,
   ⟨2, .q .mv, [.tmp 188], (some 2), none, [], false⟩,
   ⟨3, .q .mv, [.tmp 189], (some 3), none, [], false⟩])
 .ret)
def L45_7 : LCode :=
 (.seq
 (.seq
 (.reg [⟨0, .q .mv, [.tmp 0], (some 155), none, [], false⟩,
   ⟨1, .q .nilc, [.tmp 155], (some 156), none, [], false⟩,
   ⟨2, .q (.fad 4), [.tmp 156], (some 157), none, [], false⟩,
   ⟨3, .q .ld, [.tmp 157], (some 158), none, [], false⟩,
   ⟨4, .q (.bin .neq), [.tmp 158, .const (.int .i64 0)], (some 159), none, [], false⟩])
 (.cond (.tmp 159)
  (.seq
  (.reg [⟨0, .q .mv, [.const (.slice none 0 0)], (some 2), none, [], false⟩,
    ⟨1, .q .mv, [.const (.slice none 0 0)], (some 3), none, [], false⟩])
  .ret)
  .skip))
 (.seq
 (.reg [⟨0, .q .mv, [.tmp 10], (some 160), none, [], false⟩,
   ⟨1, .q .mv, [.tmp 4], (some 161), none, [], false⟩,
   ⟨2, .q (.slc 1 false true false), [.tmp 160, .tmp 161], (some 162), none, [], false⟩,
   ⟨3, .q .mv, [.tmp 10], (some 163), none, [], false⟩,
   ⟨4, .q .mv, [.tmp 4], (some 164), none, [], false⟩,
   ⟨5, .q (.slc 1 true false false), [.tmp 163, .tmp 164], (some 165), none, [], false⟩,
   ⟨6, .q .mv, [.tmp 162], (some 15), none, [], false⟩,
   ⟨7, .q .mv, [.tmp 165], (some 16), none, [], false⟩])
 (.seq
 (.seq
 (.reg [⟨0, .q .mv, [.tmp 15], (some 166), none, [], false⟩,
   ⟨1, .q (.iad 1), [.tmp 166, .const (.int .i64 256)], (some 167), none, [], false⟩,
   ⟨2, .q .ld, [.tmp 167], (some 168), none, [], false⟩,
   ⟨3, .q (.bin .eql), [.tmp 168, .const (.int .i64 0)], (some 169), none, [], false⟩,
   ⟨4, .q .mv, [.tmp 169], (some 170), none, [], false⟩,
   ⟨5, .q .mv, [.tmp 15], (some 171), (some (170, false)), [], false⟩,
   ⟨6, .e (.call 63), [.tmp 171, .const (.bool true)], (some 172), (some (170, false)), [], false⟩,
   ⟨7, .q (.un .not), [.tmp 172], (some 173), (some (170, false)), [], false⟩,
   ⟨8, .q .pick, [.tmp 170, .const (.bool true), .tmp 173], (some 174), none, [], false⟩,
   ⟨9, .q .mv, [.tmp 174], (some 175), none, [], false⟩,
   ⟨10, .q .mv, [.tmp 16], (some 176), (some (175, false)), [], false⟩,
   ⟨11, .e (.call 64), [.tmp 176], (some 177), (some (175, false)), [], false⟩,
   ⟨12, .q (.un .not), [.tmp 177], (some 178), (some (175, false)), [], false⟩,
   ⟨13, .q .mv, [.tmp 178], (some 179), (some (175, false)), [], false⟩,
   ⟨14, .q .mv, [.tmp 16], (some 180), (some (179, true)), [], false⟩,
   ⟨15, .e (.call 63), [.tmp 180, .const (.bool true)], (some 181), (some (179, true)), [], false⟩,
   ⟨16, .q (.un .not), [.tmp 181], (some 182), (some (179, true)), [], false⟩,
   ⟨17, .q .pick, [.tmp 179, .tmp 182, .const (.bool false)], (some 183), (some (175, false)), [], false⟩,
   ⟨18, .q .pick, [.tmp 175, .const (.bool true), .tmp 183], (some 184), none, [], false⟩])
 (.cond (.tmp 184)
  (.reg [⟨0, .q .mv, [.tmp 0], (some 185), none, [], false⟩,
    ⟨1, .q .nilc, [.tmp 185], (some 186), none, [], false⟩,
    ⟨2, .q (.fad 4), [.tmp 186], (some 187), none, [], false⟩,
    ⟨3, .e (.st 1), [.tmp 187, .const (.int .i64 62)], none, none, [], false⟩])
  .skip))
 L45_6)))
def L45_8 : LCode :=
 (.seq
 (.reg [⟨0, .q .mv, [.const (.slice none 0 0)], (some 10), none, [], false⟩])
 (.seq
 (.block 2
  (.loop L45_5))
 L45_7))
def L45_9 : LCode :=
 (.seq
 (.reg [⟨0, .q (.build (Array.replicate 19 (.int .i64 0)) [(0, 1), (1, 1), (2, 1), (3, 1), (4, 1), (5, 1), (6, 1), (7, 1), (8, 1), (9, 1), (10, 1), (11, 1), (12, 1), (13, 1), (14, 1), (15, 1), (16, 1), (17, 1), (18, 1)]), [.const (.int .i64 16), .const (.int .i64 17), .const (.int .i64 18), .const (.int .i64 0), .const (.int .i64 8), .const (.int .i64 7), .const (.int .i64 9), .const (.int .i64 6), .const (.int .i64 10), .const (.int .i64 5), .const (.int .i64 11), .const (.int .i64 4), .const (.int .i64 12), .const (.int .i64 3), .const (.int .i64 13), .const (.int .i64 2), .const (.int .i64 14), .const (.int .i64 1), .const (.int .i64 15)], (some 42), none, [], false⟩,
   ⟨1, .e (.new (Array.replicate 19 (.int .i64 0)) 92), [], (some 7), none, [], false⟩,
   ⟨2, .e (.st 19), [.tmp 7, .tmp 42], none, none, [], false⟩])
 (.seq
 (.reg [⟨0, .e (.mks 3 1 8 #[(.int .i64 0)]), [.const (.int .i64 19), .const (.int .i64 19)], (some 43), none, [], false⟩,
   ⟨1, .q .mv, [.tmp 43], (some 8), none, [], false⟩])
 (.seq
 (.seq
 (.reg [⟨0, .q .mv, [.const (.int .i64 0)], (some 9), none, [], false⟩])
 (.block 0
  (.loop L45_0)))
 (.seq
 (.seq
 (.reg [⟨0, .q .mv, [.tmp 0], (some 56), none, [], false⟩,
   ⟨1, .q .nilc, [.tmp 56], (some 57), none, [], false⟩,
   ⟨2, .q (.fad 4), [.tmp 57], (some 58), none, [], false⟩,
   ⟨3, .q .ld, [.tmp 58], (some 59), none, [], false⟩,
   ⟨4, .q (.bin .eql), [.tmp 59, .const (.int .i64 0)], (some 60), none, [], false⟩,
   ⟨5, .q .mv, [.tmp 60], (some 61), none, [], false⟩,
   ⟨6, .q .mv, [.tmp 8], (some 62), (some (61, true)), [], false⟩,
   ⟨7, .e (.call 63), [.tmp 62, .const (.bool false)], (some 63), (some (61, true)), [], false⟩,
   ⟨8, .q (.un .not), [.tmp 63], (some 64), (some (61, true)), [], false⟩,
   ⟨9, .q .pick, [.tmp 61, .tmp 64, .const (.bool false)], (some 65), none, [], false⟩])
 (.cond (.tmp 65)
  (.reg [⟨0, .q .mv, [.tmp 0], (some 66), none, [], false⟩,
    ⟨1, .q .nilc, [.tmp 66], (some 67), none, [], false⟩,
    ⟨2, .q (.fad 4), [.tmp 67], (some 68), none, [], false⟩,
    ⟨3, .e (.st 1), [.tmp 68, .const (.int .i64 62)], none, none, [], false⟩])
  .skip))
 L45_8))))
def L45 : LFn :=
 ⟨190, [.t 2, .t 3],
 (.seq
 (.reg [⟨0, .q .mv, [.const (.slice none 0 0)], (some 2), none, [], false⟩,
   ⟨1, .q .mv, [.const (.slice none 0 0)], (some 3), none, [], false⟩])
 (.seq
 (.reg [⟨0, .q .mv, [.tmp 0], (some 17), none, [], false⟩,
   ⟨1, .e (.call 41), [.tmp 17, .const (.int .i64 5)], (some 18), none, [], false⟩,
   ⟨2, .q (.bin .add), [.tmp 18, .const (.int .i64 257)], (some 19), none, [], false⟩,
   ⟨3, .q .mv, [.tmp 0], (some 20), none, [], false⟩,
   ⟨4, .e (.call 41), [.tmp 20, .const (.int .i64 5)], (some 21), none, [], false⟩,
   ⟨5, .q (.bin .add), [.tmp 21, .const (.int .i64 1)], (some 22), none, [], false⟩,
   ⟨6, .q .mv, [.tmp 0], (some 23), none, [], false⟩,
   ⟨7, .e (.call 41), [.tmp 23, .const (.int .i64 4)], (some 24), none, [], false⟩,
   ⟨8, .q (.bin .add), [.tmp 24, .const (.int .i64 4)], (some 25), none, [], false⟩,
   ⟨9, .q .mv, [.tmp 19], (some 4), none, [], false⟩,
   ⟨10, .q .mv, [.tmp 22], (some 5), none, [], false⟩,
   ⟨11, .q .mv, [.tmp 25], (some 6), none, [], false⟩])
 (.seq
 (.seq
 (.reg [⟨0, .q .mv, [.tmp 0], (some 26), none, [], false⟩,
   ⟨1, .q .nilc, [.tmp 26], (some 27), none, [], false⟩,
   ⟨2, .q (.fad 4), [.tmp 27], (some 28), none, [], false⟩,
   ⟨3, .q .ld, [.tmp 28], (some 29), none, [], false⟩,
   ⟨4, .q (.bin .eql), [.tmp 29, .const (.int .i64 0)], (some 30), none, [], false⟩,
   ⟨5, .q .mv, [.tmp 30], (some 31), none, [], false⟩,
   ⟨6, .q .mv, [.tmp 4], (some 32), (some (31, true)), [], false⟩,
   ⟨7, .q (.bin .gtr), [.tmp 32, .const (.int .i64 286)], (some 33), (some (31, true)), [], false⟩,
   ⟨8, .q .mv, [.tmp 33], (some 34), (some (31, true)), [], false⟩,
   ⟨9, .q .mv, [.tmp 5], (some 35), (some (34, false)), [], false⟩,
   ⟨10, .q (.bin .gtr), [.tmp 35, .const (.int .i64 30)], (some 36), (some (34, false)), [], false⟩,
   ⟨11, .q .pick, [.tmp 34, .const (.bool true), .tmp 36], (some 37), (some (31, true)), [], false⟩,
   ⟨12, .q .pick, [.tmp 31, .tmp 37, .const (.bool false)], (some 38), none, [], false⟩])
 (.cond (.tmp 38)
  (.reg [⟨0, .q .mv, [.tmp 0], (some 39), none, [], false⟩,
    ⟨1, .q .nilc, [.tmp 39], (some 40), none, [], false⟩,
    ⟨2, .q (.fad 4), [.tmp 40], (some 41), none, [], false⟩,
    ⟨3, .e (.st 1), [.tmp 41, .const (.int .i64 62)], none, none, [], false⟩])
  .skip))
 L45_9)))⟩
theorem low45 : lowFn Tryd.prog Tryd.f45 = some L45 := by kernel_rfl
theorem call45 {args : List Value} {H : Heap} {S : Ending → Heap → Prop} (hn : args.length ≤ L45.n) (h : awpC Tryd.prog L45.body (retQ L45.results S) (fun ch H => S (.panicked ch) H) (env0 args) H) : ACalls Tryd.prog 45 args.toArray H S := acalls mixed Tryd.func45 low45 hn h
/-- (*satchel/satchelref06.state).put -/
def L60 : LFn :=
 ⟨34, [],
 (.seq
 (.seq
 (.reg [⟨0, .q .mv, [.tmp 0], (some 4), none, [], false⟩,
   ⟨1, .q .nilc, [.tmp 4], (some 5), none, [], false⟩,
   ⟨2, .q (.fad 4), [.tmp 5], (some 6), none, [], false⟩,
   ⟨3, .q .ld, [.tmp 6], (some 7), none, [], false⟩,
   ⟨4, .q (.bin .neq), [.tmp 7, .const (.int .i64 0)], (some 8), none, [], false⟩])
 (.cond (.tmp 8)
  .ret
  .skip))
 (.seq
 (.seq
 (.reg [⟨0, .q .mv, [.tmp 1], (some 9), none, [], false⟩,
   ⟨1, .q .len, [.tmp 9], (some 10), none, [], false⟩,
   ⟨2, .q .mv, [.tmp 0], (some 11), none, [], false⟩,
   ⟨3, .q .nilc, [.tmp 11], (some 12), none, [], false⟩,
   ⟨4, .q (.fad 3), [.tmp 12], (some 13), none, [], false⟩,
   ⟨5, .q .ld, [.tmp 13], (some 14), none, [], false⟩,
   ⟨6, .q .mv, [.tmp 0], (some 15), none, [], false⟩,
   ⟨7, .q .nilc, [.tmp 15], (some 16), none, [], false⟩,
   ⟨8, .q (.fad 2), [.tmp 16], (some 17), none, [], false⟩,
   ⟨9, .q .ld, [.tmp 17], (some 18), none, [], false⟩,
   ⟨10, .q .len, [.tmp 18], (some 19), none, [], false⟩,
   ⟨11, .q (.bin .sub), [.tmp 14, .tmp 19], (some 20), none, [], false⟩,
   ⟨12, .q (.bin .gtr), [.tmp 10, .tmp 20], (some 21), none, [], false⟩])
 (.cond (.tmp 21)
  (.seq
  (.reg [⟨0, .q .mv, [.tmp 0], (some 22), none, [], false⟩,
    ⟨1, .q .nilc, [.tmp 22], (some 23), none, [], false⟩,
    ⟨2, .q (.fad 4), [.tmp 23], (some 24), none, [], false⟩,
    ⟨3, .e (.st 1), [.tmp 24, .const (.int .i64 32)], none, none, [], false⟩])
  .ret)
  .skip))
 (.reg [⟨0, .q .mv, [.tmp 0], (some 25), none, [], false⟩,
   ⟨1, .q .mv, [.tmp 0], (some 26), none, [], false⟩,
   ⟨2, .q .nilc, [.tmp 26], (some 27), none, [], false⟩,
   ⟨3, .q (.fad 2), [.tmp 27], (some 28), none, [], false⟩,
   ⟨4, .q .ld, [.tmp 28], (some 29), none, [], false⟩,
   ⟨5, .q .mv, [.tmp 1], (some 30), none, [], false⟩,
   ⟨6, .e (.app 5 1 1 #[(.int .u8 0)]), [.tmp 29, .tmp 30], (some 31), none, [], false⟩,
   ⟨7, .q .nilc, [.tmp 25], (some 32), none, [], false⟩,
   ⟨8, .q (.fad 2), [.tmp 32], (some 33), none, [], false⟩,
   ⟨9, .e (.st 1), [.tmp 33, .tmp 31], none, none, [], false⟩])))⟩
theorem low60 : lowFn Tryd.prog Tryd.f60 = some L60 := by kernel_rfl
theorem call60 {args : List Value} {H : Heap} {S : Ending → Heap → Prop} (hn : args.length ≤ L60.n) (h : awpC Tryd.prog L60.body (retQ L60.results S) (fun ch H => S (.panicked ch) H) (env0 args) H) : ACalls Tryd.prog 60 args.toArray H S := acalls mixed Tryd.func60 low60 hn h
/-- (*satchel/satchelref06.state).symbol -/
def L61 : LFn :=
 ⟨49, [.t 4],
 (.seq
 (.reg [⟨0, .q .mv, [.const (.int .i64 0)], (some 4), none, [], false⟩])
 (.seq
 (.seq
 (.reg [⟨0, .q .mv, [.tmp 0], (some 8), none, [], false⟩,
   ⟨1, .q .nilc, [.tmp 8], (some 9), none, [], false⟩,
   ⟨2, .q (.fad 4), [.tmp 9], (some 10), none, [], false⟩,
   ⟨3, .q .ld, [.tmp 10], (some 11), none, [], false⟩,
   ⟨4, .q (.bin .neq), [.tmp 11, .const (.int .i64 0)], (some 12), none, [], false⟩])
 (.cond (.tmp 12)
  (.seq
  (.reg [⟨0, .q .mv, [.const (.int .i64 0)], (some 4), none, [], false⟩])
  .ret)
  .skip))
 (.seq
 (.reg [⟨0, .q .mv, [.tmp 1], (some 14), none, [], false⟩,
   ⟨1, .q .mv, [.tmp 0], (some 15), none, [], false⟩,
   ⟨2, .q .nilc, [.tmp 15], (some 16), none, [], false⟩,
   ⟨3, .q (.fad 0), [.tmp 16], (some 17), none, [], false⟩,
   ⟨4, .q .ld, [.tmp 17], (some 18), none, [], false⟩,
   ⟨5, .q .mv, [.tmp 0], (some 19), none, [], false⟩,
   ⟨6, .q .nilc, [.tmp 19], (some 20), none, [], false⟩,
   ⟨7, .q (.fad 1), [.tmp 20], (some 21), none, [], false⟩,
   ⟨8, .q .ld, [.tmp 21], (some 22), none, [], false⟩,
   ⟨9, .q (.slc 1 true false false), [.tmp 18, .tmp 22], (some 23), none, [], false⟩,
   ⟨10, .e (.call 73), [.tmp 14, .tmp 23], (some 24), none, [], false⟩,
   ⟨11, .q .mv, [.tmp 24], (some 13), none, [], false⟩,
   ⟨12, .q (.ext 0), [.tmp 13], (some 25), none, [], false⟩,
   ⟨13, .q (.ext 1), [.tmp 13], (some 26), none, [], false⟩,
   ⟨14, .q (.ext 2), [.tmp 13], (some 27), none, [], false⟩,
   ⟨15, .q .mv, [.tmp 25], (some 5), none, [], false⟩,
   ⟨16, .q .mv, [.tmp 26], (some 6), none, [], false⟩,
   ⟨17, .q .mv, [.tmp 27], (some 7), none, [], false⟩])
 (.seq
 (.seq
 (.reg [⟨0, .q .mv, [.tmp 7], (some 28), none, [], false⟩])
 (.block 0
  (.seq
  (.reg [⟨0, .q (.bin .eql), [.tmp 28, .const (.int .i64 0)], (some 33), none, [], false⟩,
    ⟨1, .q .mv, [.tmp 33], (some 32), none, [], false⟩])
  (.cond (.tmp 32)
   (.seq
   (.reg [⟨0, .q .mv, [.tmp 0], (some 34), none, [], false⟩,
     ⟨1, .q .mv, [.tmp 0], (some 35), none, [], false⟩,
     ⟨2, .q .nilc, [.tmp 35], (some 36), none, [], false⟩,
     ⟨3, .q (.fad 1), [.tmp 36], (some 37), none, [], false⟩,
     ⟨4, .q .ld, [.tmp 37], (some 38), none, [], false⟩,
     ⟨5, .q .mv, [.tmp 6], (some 39), none, [], false⟩,
     ⟨6, .q (.bin .add), [.tmp 38, .tmp 39], (some 40), none, [], false⟩,
     ⟨7, .q .nilc, [.tmp 34], (some 41), none, [], false⟩,
     ⟨8, .q (.fad 1), [.tmp 41], (some 42), none, [], false⟩,
     ⟨9, .e (.st 1), [.tmp 42, .tmp 40], none, none, [], false⟩])
   (.seq
   (.reg [⟨0, .q .mv, [.tmp 5], (some 43), none, [], false⟩,
     ⟨1, .q .mv, [.tmp 43], (some 4), none, [], false⟩])
   .ret))
   (.seq
   (.reg [⟨0, .q (.bin .eql), [.tmp 28, .const (.int .i64 50)], (some 45), none, [], false⟩,
     ⟨1, .q .mv, [.tmp 45], (some 44), none, [], false⟩])
   (.cond (.tmp 44)
    (.reg [⟨0, .q .mv, [.tmp 0], (some 46), none, [], false⟩,
      ⟨1, .q .nilc, [.tmp 46], (some 47), none, [], false⟩,
      ⟨2, .q (.fad 4), [.tmp 47], (some 48), none, [], false⟩,
      ⟨3, .e (.st 1), [.tmp 48, .const (.int .i64 4)], none, none, [], false⟩])
    (.reg [⟨0, .q .mv, [.tmp 0], (some 29), none, [], false⟩,
      ⟨1, .q .nilc, [.tmp 29], (some 30), none, [], false⟩,
      ⟨2, .q (.fad 4), [.tmp 30], (some 31), none, [], false⟩,
      ⟨3, .e (.st 1), [.tmp 31, .const (.int .i64 63)], none, none, [], false⟩])))))))
 (.seq
 (.reg [⟨0, .q .mv, [.const (.int .i64 0)], (some 4), none, [], false⟩])
 .ret)))))⟩
theorem low61 : lowFn Tryd.prog Tryd.f61 = some L61 := by kernel_rfl
theorem call61 {args : List Value} {H : Heap} {S : Ending → Heap → Prop} (hn : args.length ≤ L61.n) (h : awpC Tryd.prog L61.body (retQ L61.results S) (fun ch H => S (.panicked ch) H) (env0 args) H) : ACalls Tryd.prog 61 args.toArray H S := acalls mixed Tryd.func61 low61 hn h
/-- (*satchel/satchelref06.state).match -/
def L62_0 : LCode :=
 (.seq
 (.seq
 (.reg [⟨0, .q .mv, [.tmp 11], (some 102), none, [], false⟩,
   ⟨1, .q .mv, [.tmp 8], (some 103), none, [], false⟩,
   ⟨2, .q (.bin .lss), [.tmp 102, .tmp 103], (some 104), none, [], false⟩])
 (.cond (.tmp 104)
  .skip
  (.exit 1)))
 (.seq
 (.block 2
  (.reg [⟨0, .q .mv, [.tmp 0], (some 107), none, [], false⟩,
    ⟨1, .q .mv, [.tmp 0], (some 108), none, [], false⟩,
    ⟨2, .q .nilc, [.tmp 108], (some 109), none, [], false⟩,
    ⟨3, .q (.fad 2), [.tmp 109], (some 110), none, [], false⟩,
    ⟨4, .q .ld, [.tmp 110], (some 111), none, [], true⟩,
    ⟨5, .q .mv, [.tmp 0], (some 112), none, [], false⟩,
    ⟨6, .q .nilc, [.tmp 112], (some 113), none, [], false⟩,
    ⟨7, .q (.fad 2), [.tmp 113], (some 114), none, [], false⟩,
    ⟨8, .q .ld, [.tmp 114], (some 115), none, [], false⟩,
    ⟨9, .q .mv, [.tmp 0], (some 116), none, [], false⟩,
    ⟨10, .q .nilc, [.tmp 116], (some 117), none, [], false⟩,
    ⟨11, .q (.fad 2), [.tmp 117], (some 118), none, [], false⟩,
    ⟨12, .q .ld, [.tmp 118], (some 119), none, [], false⟩,
    ⟨13, .q .len, [.tmp 119], (some 120), none, [], false⟩,
    ⟨14, .q .mv, [.tmp 10], (some 121), none, [], false⟩,
    ⟨15, .q (.bin .sub), [.tmp 120, .tmp 121], (some 122), none, [], false⟩,
    ⟨16, .q (.iad 1), [.tmp 115, .tmp 122], (some 123), none, [], false⟩,
    ⟨17, .q .ld, [.tmp 123], (some 124), none, [], false⟩,
    ⟨18, .e (.lits 5 #[(.int .u8 0)] 1 [(0, 1)]), [.tmp 124], (some 125), none, [4], false⟩,
    ⟨19, .e (.app 5 1 1 #[(.int .u8 0)]), [.tmp 111, .tmp 125], (some 126), none, [], false⟩,
    ⟨20, .q .nilc, [.tmp 107], (some 127), none, [], false⟩,
    ⟨21, .q (.fad 2), [.tmp 127], (some 128), none, [], false⟩,
    ⟨22, .e (.st 1), [.tmp 128, .tmp 126], none, none, [], false⟩]))
 (.reg [⟨0, .q .mv, [.tmp 11], (some 105), none, [], false⟩,
   ⟨1, .q (.bin .add), [.tmp 105, .const (.int .i64 1)], (some 106), none, [], false⟩,
   ⟨2, .q .mv, [.tmp 106], (some 11), none, [], false⟩])))
def L62_1 : LCode :=
 (.seq
 (.seq
 (.reg [⟨0, .q .mv, [.tmp 0], (some 54), none, [], false⟩,
   ⟨1, .q .nilc, [.tmp 54], (some 55), none, [], false⟩,
   ⟨2, .q (.fad 4), [.tmp 55], (some 56), none, [], false⟩,
   ⟨3, .q .ld, [.tmp 56], (some 57), none, [], false⟩,
   ⟨4, .q (.bin .neq), [.tmp 57, .const (.int .i64 0)], (some 58), none, [], false⟩])
 (.cond (.tmp 58)
  .ret
  .skip))
 (.seq
 (.reg [⟨0, .q .mv, [.tmp 9], (some 60), none, [], false⟩,
   ⟨1, .e (.call 75), [.tmp 60], (some 61), none, [], false⟩,
   ⟨2, .q .mv, [.tmp 61], (some 59), none, [], false⟩,
   ⟨3, .q (.ext 0), [.tmp 59], (some 62), none, [], false⟩,
   ⟨4, .q (.ext 1), [.tmp 59], (some 63), none, [], false⟩,
   ⟨5, .q .mv, [.tmp 62], (some 6), none, [], false⟩,
   ⟨6, .q .mv, [.tmp 63], (some 7), none, [], false⟩])
 (.seq
 (.reg [⟨0, .q .mv, [.tmp 6], (some 64), none, [], false⟩,
   ⟨1, .q .mv, [.tmp 0], (some 65), none, [], false⟩,
   ⟨2, .q .mv, [.tmp 7], (some 66), none, [], false⟩,
   ⟨3, .e (.call 41), [.tmp 65, .tmp 66], (some 67), none, [], false⟩,
   ⟨4, .q (.bin .add), [.tmp 64, .tmp 67], (some 68), none, [], false⟩,
   ⟨5, .q .mv, [.tmp 68], (some 10), none, [], false⟩])
 (.seq
 (.block 0
  (.seq
  (.reg [⟨0, .q .mv, [.tmp 0], (some 70), none, [], false⟩,
    ⟨1, .q .nilc, [.tmp 70], (some 71), none, [], false⟩,
    ⟨2, .q (.fad 4), [.tmp 71], (some 72), none, [], false⟩,
    ⟨3, .q .ld, [.tmp 72], (some 73), none, [], false⟩,
    ⟨4, .q (.bin .neq), [.tmp 73, .const (.int .i64 0)], (some 74), none, [], false⟩,
    ⟨5, .q .mv, [.tmp 74], (some 69), none, [], false⟩])
  (.cond (.tmp 69)
   .ret
   (.seq
   (.reg [⟨0, .q .mv, [.tmp 10], (some 76), none, [], false⟩,
     ⟨1, .q .mv, [.tmp 0], (some 77), none, [], false⟩,
     ⟨2, .q .nilc, [.tmp 77], (some 78), none, [], false⟩,
     ⟨3, .q (.fad 2), [.tmp 78], (some 79), none, [], false⟩,
     ⟨4, .q .ld, [.tmp 79], (some 80), none, [], false⟩,
     ⟨5, .q .len, [.tmp 80], (some 81), none, [], false⟩,
     ⟨6, .q (.bin .gtr), [.tmp 76, .tmp 81], (some 82), none, [], false⟩,
     ⟨7, .q .mv, [.tmp 82], (some 75), none, [], false⟩])
   (.cond (.tmp 75)
    (.seq
    (.reg [⟨0, .q .mv, [.tmp 0], (some 83), none, [], false⟩,
      ⟨1, .q .nilc, [.tmp 83], (some 84), none, [], false⟩,
      ⟨2, .q (.fad 4), [.tmp 84], (some 85), none, [], false⟩,
      ⟨3, .e (.st 1), [.tmp 85, .const (.int .i64 64)], none, none, [], false⟩])
    .ret)
    (.seq
    (.reg [⟨0, .q .mv, [.tmp 8], (some 87), none, [], false⟩,
      ⟨1, .q .mv, [.tmp 0], (some 88), none, [], false⟩,
      ⟨2, .q .nilc, [.tmp 88], (some 89), none, [], false⟩,
      ⟨3, .q (.fad 3), [.tmp 89], (some 90), none, [], false⟩,
      ⟨4, .q .ld, [.tmp 90], (some 91), none, [], false⟩,
      ⟨5, .q .mv, [.tmp 0], (some 92), none, [], false⟩,
      ⟨6, .q .nilc, [.tmp 92], (some 93), none, [], false⟩,
      ⟨7, .q (.fad 2), [.tmp 93], (some 94), none, [], false⟩,
      ⟨8, .q .ld, [.tmp 94], (some 95), none, [], false⟩,
      ⟨9, .q .len, [.tmp 95], (some 96), none, [], false⟩,
      ⟨10, .q (.bin .sub), [.tmp 91, .tmp 96], (some 97), none, [], false⟩,
      ⟨11, .q (.bin .gtr), [.tmp 87, .tmp 97], (some 98), none, [], false⟩,
      ⟨12, .q .mv, [.tmp 98], (some 86), none, [], false⟩])
    (.cond (.tmp 86)
     (.seq
     (.reg [⟨0, .q .mv, [.tmp 0], (some 99), none, [], false⟩,
       ⟨1, .q .nilc, [.tmp 99], (some 100), none, [], false⟩,
       ⟨2, .q (.fad 4), [.tmp 100], (some 101), none, [], false⟩,
       ⟨3, .e (.st 1), [.tmp 101, .const (.int .i64 32)], none, none, [], false⟩])
     .ret)
     .skip)))))))
 (.seq
 (.reg [⟨0, .q .mv, [.const (.int .i64 0)], (some 11), none, [], false⟩])
 (.block 1
  (.loop L62_0)))))))
def L62_2 : LCode :=
 (.seq
 (.reg [⟨0, .q .mv, [.tmp 0], (some 39), none, [], false⟩,
   ⟨1, .q .mv, [.tmp 2], (some 40), none, [], false⟩,
   ⟨2, .e (.call 61), [.tmp 39, .tmp 40], (some 41), none, [], false⟩,
   ⟨3, .q .mv, [.tmp 41], (some 9), none, [], false⟩])
 (.seq
 (.seq
 (.reg [⟨0, .q .mv, [.tmp 0], (some 42), none, [], false⟩,
   ⟨1, .q .nilc, [.tmp 42], (some 43), none, [], false⟩,
   ⟨2, .q (.fad 4), [.tmp 43], (some 44), none, [], false⟩,
   ⟨3, .q .ld, [.tmp 44], (some 45), none, [], false⟩,
   ⟨4, .q (.bin .eql), [.tmp 45, .const (.int .i64 0)], (some 46), none, [], false⟩,
   ⟨5, .q .mv, [.tmp 46], (some 47), none, [], false⟩,
   ⟨6, .q .mv, [.tmp 9], (some 48), (some (47, true)), [], false⟩,
   ⟨7, .q (.bin .gtr), [.tmp 48, .const (.int .i64 29)], (some 49), (some (47, true)), [], false⟩,
   ⟨8, .q .pick, [.tmp 47, .tmp 49, .const (.bool false)], (some 50), none, [], false⟩])
 (.cond (.tmp 50)
  (.reg [⟨0, .q .mv, [.tmp 0], (some 51), none, [], false⟩,
    ⟨1, .q .nilc, [.tmp 51], (some 52), none, [], false⟩,
    ⟨2, .q (.fad 4), [.tmp 52], (some 53), none, [], false⟩,
    ⟨3, .e (.st 1), [.tmp 53, .const (.int .i64 63)], none, none, [], false⟩])
  .skip))
 L62_1))
def L62 : LFn :=
 ⟨129, [],
 (.seq
 (.seq
 (.reg [⟨0, .q .mv, [.tmp 1], (some 12), none, [], false⟩,
   ⟨1, .q (.bin .gtr), [.tmp 12, .const (.int .i64 285)], (some 13), none, [], false⟩])
 (.cond (.tmp 13)
  (.seq
  (.reg [⟨0, .q .mv, [.tmp 0], (some 14), none, [], false⟩,
    ⟨1, .q .nilc, [.tmp 14], (some 15), none, [], false⟩,
    ⟨2, .q (.fad 4), [.tmp 15], (some 16), none, [], false⟩,
    ⟨3, .e (.st 1), [.tmp 16, .const (.int .i64 63)], none, none, [], false⟩])
  .ret)
  .skip))
 (.seq
 (.reg [⟨0, .q .mv, [.tmp 1], (some 18), none, [], false⟩,
   ⟨1, .e (.call 74), [.tmp 18], (some 19), none, [], false⟩,
   ⟨2, .q .mv, [.tmp 19], (some 17), none, [], false⟩,
   ⟨3, .q (.ext 0), [.tmp 17], (some 20), none, [], false⟩,
   ⟨4, .q (.ext 1), [.tmp 17], (some 21), none, [], false⟩,
   ⟨5, .q .mv, [.tmp 20], (some 6), none, [], false⟩,
   ⟨6, .q .mv, [.tmp 21], (some 7), none, [], false⟩])
 (.seq
 (.reg [⟨0, .q .mv, [.tmp 6], (some 22), none, [], false⟩,
   ⟨1, .q .mv, [.tmp 0], (some 23), none, [], false⟩,
   ⟨2, .q .mv, [.tmp 7], (some 24), none, [], false⟩,
   ⟨3, .e (.call 41), [.tmp 23, .tmp 24], (some 25), none, [], false⟩,
   ⟨4, .q (.bin .add), [.tmp 22, .tmp 25], (some 26), none, [], false⟩,
   ⟨5, .q .mv, [.tmp 26], (some 8), none, [], false⟩])
 (.seq
 (.seq
 (.reg [⟨0, .q .mv, [.tmp 0], (some 27), none, [], false⟩,
   ⟨1, .q .nilc, [.tmp 27], (some 28), none, [], false⟩,
   ⟨2, .q (.fad 4), [.tmp 28], (some 29), none, [], false⟩,
   ⟨3, .q .ld, [.tmp 29], (some 30), none, [], false⟩,
   ⟨4, .q (.bin .eql), [.tmp 30, .const (.int .i64 0)], (some 31), none, [], false⟩,
   ⟨5, .q .mv, [.tmp 31], (some 32), none, [], false⟩,
   ⟨6, .q .mv, [.tmp 2], (some 33), (some (32, true)), [], false⟩,
   ⟨7, .e (.call 64), [.tmp 33], (some 34), (some (32, true)), [], false⟩,
   ⟨8, .q .pick, [.tmp 32, .tmp 34, .const (.bool false)], (some 35), none, [], false⟩])
 (.cond (.tmp 35)
  (.reg [⟨0, .q .mv, [.tmp 0], (some 36), none, [], false⟩,
    ⟨1, .q .nilc, [.tmp 36], (some 37), none, [], false⟩,
    ⟨2, .q (.fad 4), [.tmp 37], (some 38), none, [], false⟩,
    ⟨3, .e (.st 1), [.tmp 38, .const (.int .i64 63)], none, none, [], false⟩])
  .skip))
 L62_2))))⟩
theorem low62 : lowFn Tryd.prog Tryd.f62 = some L62 := by kernel_rfl
theorem call62 {args : List Value} {H : Heap} {S : Ending → Heap → Prop} (hn : args.length ≤ L62.n) (h : awpC Tryd.prog L62.body (retQ L62.results S) (fun ch H => S (.panicked ch) H) (env0 args) H) : ACalls Tryd.prog 62 args.toArray H S := acalls mixed Tryd.func62 low62 hn h
/-- satchel/satchelref06.good -/
def L63_0 : LCode :=
 (.reg [⟨0, .q .mv, [.tmp 9], (some 25), none, [], false⟩,
   ⟨1, .q (.bin .add), [.tmp 25, .const (.int .i64 1)], (some 26), none, [], false⟩,
   ⟨2, .q .mv, [.tmp 26], (some 9), none, [], false⟩])
def L63_1 : LCode :=
 (.seq
 (.seq
 (.reg [⟨0, .q .mv, [.tmp 9], (some 21), none, [], false⟩,
   ⟨1, .q .mv, [.tmp 0], (some 22), none, [], false⟩,
   ⟨2, .q .len, [.tmp 22], (some 23), none, [], false⟩,
   ⟨3, .q (.bin .lss), [.tmp 21, .tmp 23], (some 24), none, [], false⟩])
 (.cond (.tmp 24)
  .skip
  (.exit 0)))
 (.seq
 (.block 1
  (.seq
  (.reg [⟨0, .q .mv, [.tmp 0], (some 27), none, [], false⟩,
    ⟨1, .q .mv, [.tmp 9], (some 28), none, [], false⟩,
    ⟨2, .q (.iad 1), [.tmp 27, .tmp 28], (some 29), none, [], false⟩,
    ⟨3, .q .ld, [.tmp 29], (some 30), none, [], false⟩,
    ⟨4, .q (.bin .gtr), [.tmp 30, .const (.int .i64 0)], (some 31), none, [], false⟩])
  (.cond (.tmp 31)
   (.seq
   (.reg [⟨0, .q .mv, [.tmp 7], (some 32), none, [], false⟩,
     ⟨1, .q (.bin .add), [.tmp 32, .const (.int .i64 1)], (some 33), none, [], false⟩,
     ⟨2, .q .mv, [.tmp 33], (some 7), none, [], false⟩])
   (.reg [⟨0, .q .mv, [.tmp 8], (some 34), none, [], false⟩,
     ⟨1, .q .mv, [.tmp 0], (some 35), none, [], false⟩,
     ⟨2, .q .mv, [.tmp 9], (some 36), none, [], false⟩,
     ⟨3, .q (.iad 1), [.tmp 35, .tmp 36], (some 37), none, [], false⟩,
     ⟨4, .q .ld, [.tmp 37], (some 38), none, [], false⟩,
     ⟨5, .q (.bin .add), [.tmp 34, .tmp 38], (some 39), none, [], false⟩,
     ⟨6, .q .mv, [.tmp 39], (some 8), none, [], false⟩]))
   .skip)))
 L63_0))
def L63 : LFn :=
 ⟨49, [.t 4],
 (.seq
 (.reg [⟨0, .q .mv, [.const (.bool false)], (some 4), none, [], false⟩])
 (.seq
 (.reg [⟨0, .q .mv, [.tmp 0], (some 11), none, [], false⟩,
   ⟨1, .e (.call 76), [.tmp 11], (some 12), none, [], false⟩,
   ⟨2, .q .mv, [.tmp 12], (some 10), none, [], false⟩,
   ⟨3, .q (.ext 0), [.tmp 10], (some 13), none, [], false⟩,
   ⟨4, .q (.ext 1), [.tmp 10], (some 14), none, [], false⟩,
   ⟨5, .q .mv, [.tmp 13], (some 5), none, [], false⟩,
   ⟨6, .q .mv, [.tmp 14], (some 6), none, [], false⟩])
 (.seq
 (.seq
 (.reg [⟨0, .q .mv, [.tmp 5], (some 15), none, [], false⟩,
   ⟨1, .q (.un .not), [.tmp 15], (some 16), none, [], false⟩,
   ⟨2, .q .mv, [.tmp 16], (some 17), none, [], false⟩,
   ⟨3, .q .mv, [.tmp 6], (some 18), (some (17, false)), [], false⟩,
   ⟨4, .q .pick, [.tmp 17, .const (.bool true), .tmp 18], (some 19), none, [], false⟩])
 (.cond (.tmp 19)
  (.seq
  (.reg [⟨0, .q .mv, [.tmp 5], (some 20), none, [], false⟩,
    ⟨1, .q .mv, [.tmp 20], (some 4), none, [], false⟩])
  .ret)
  .skip))
 (.seq
 (.reg [⟨0, .q .mv, [.const (.int .i64 0)], (some 7), none, [], false⟩,
   ⟨1, .q .mv, [.const (.int .i64 0)], (some 8), none, [], false⟩])
 (.seq
 (.seq
 (.reg [⟨0, .q .mv, [.const (.int .i64 0)], (some 9), none, [], false⟩])
 (.block 0
  (.loop L63_1)))
 (.seq
 (.reg [⟨0, .q .mv, [.tmp 1], (some 40), none, [], false⟩,
   ⟨1, .q .mv, [.tmp 40], (some 41), none, [], false⟩,
   ⟨2, .q .mv, [.tmp 7], (some 42), (some (41, true)), [], false⟩,
   ⟨3, .q (.bin .eql), [.tmp 42, .const (.int .i64 1)], (some 43), (some (41, true)), [], false⟩,
   ⟨4, .q .pick, [.tmp 41, .tmp 43, .const (.bool false)], (some 44), none, [], false⟩,
   ⟨5, .q .mv, [.tmp 44], (some 45), none, [], false⟩,
   ⟨6, .q .mv, [.tmp 8], (some 46), (some (45, true)), [], false⟩,
   ⟨7, .q (.bin .eql), [.tmp 46, .const (.int .i64 1)], (some 47), (some (45, true)), [], false⟩,
   ⟨8, .q .pick, [.tmp 45, .tmp 47, .const (.bool false)], (some 48), none, [], false⟩,
   ⟨9, .q .mv, [.tmp 48], (some 4), none, [], false⟩])
 .ret))))))⟩
theorem low63 : lowFn Tryd.prog Tryd.f63 = some L63 := by kernel_rfl
theorem call63 {args : List Value} {H : Heap} {S : Ending → Heap → Prop} (hn : args.length ≤ L63.n) (h : awpC Tryd.prog L63.body (retQ L63.results S) (fun ch H => S (.panicked ch) H) (env0 args) H) : ACalls Tryd.prog 63 args.toArray H S := acalls mixed Tryd.func63 low63 hn h
/-- satchel/satchelref06.none -/
def L64_0 : LCode :=
 (.seq
 (.seq
 (.reg [⟨0, .q .mv, [.tmp 3], (some 4), none, [], false⟩,
   ⟨1, .q .mv, [.tmp 0], (some 5), none, [], false⟩,
   ⟨2, .q .len, [.tmp 5], (some 6), none, [], false⟩,
   ⟨3, .q (.bin .lss), [.tmp 4, .tmp 6], (some 7), none, [], false⟩])
 (.cond (.tmp 7)
  .skip
  (.exit 0)))
 (.seq
 (.block 1
  (.seq
  (.reg [⟨0, .q .mv, [.tmp 0], (some 10), none, [], false⟩,
    ⟨1, .q .mv, [.tmp 3], (some 11), none, [], false⟩,
    ⟨2, .q (.iad 1), [.tmp 10, .tmp 11], (some 12), none, [], false⟩,
    ⟨3, .q .ld, [.tmp 12], (some 13), none, [], false⟩,
    ⟨4, .q (.bin .gtr), [.tmp 13, .const (.int .i64 0)], (some 14), none, [], false⟩])
  (.cond (.tmp 14)
   (.seq
   (.reg [⟨0, .q .mv, [.const (.bool false)], (some 2), none, [], false⟩])
   .ret)
   .skip)))
 (.reg [⟨0, .q .mv, [.tmp 3], (some 8), none, [], false⟩,
   ⟨1, .q (.bin .add), [.tmp 8, .const (.int .i64 1)], (some 9), none, [], false⟩,
   ⟨2, .q .mv, [.tmp 9], (some 3), none, [], false⟩])))
def L64 : LFn :=
 ⟨15, [.t 2],
 (.seq
 (.reg [⟨0, .q .mv, [.const (.bool false)], (some 2), none, [], false⟩])
 (.seq
 (.seq
 (.reg [⟨0, .q .mv, [.const (.int .i64 0)], (some 3), none, [], false⟩])
 (.block 0
  (.loop L64_0)))
 (.seq
 (.reg [⟨0, .q .mv, [.const (.bool true)], (some 2), none, [], false⟩])
 .ret)))⟩
theorem low64 : lowFn Tryd.prog Tryd.f64 = some L64 := by kernel_rfl
theorem call64 {args : List Value} {H : Heap} {S : Ending → Heap → Prop} (hn : args.length ≤ L64.n) (h : awpC Tryd.prog L64.body (retQ L64.results S) (fun ch H => S (.panicked ch) H) (env0 args) H) : ACalls Tryd.prog 64 args.toArray H S := acalls mixed Tryd.func64 low64 hn h
/-- satchel/satchelref06.Length -/
def L74_0 : LCode :=
 (.seq
 (.seq
 (.reg [⟨0, .q .mv, [.tmp 6], (some 9), none, [], false⟩,
   ⟨1, .q .mv, [.tmp 0], (some 10), none, [], false⟩,
   ⟨2, .q (.bin .lss), [.tmp 9, .tmp 10], (some 11), none, [], false⟩])
 (.cond (.tmp 11)
  .skip
  (.exit 0)))
 (.seq
 (.block 1
  (.seq
  (.seq
  (.reg [⟨0, .q .mv, [.tmp 6], (some 14), none, [], false⟩,
    ⟨1, .q (.bin .geq), [.tmp 14, .const (.int .i64 264)], (some 15), none, [], false⟩,
    ⟨2, .q .mv, [.tmp 15], (some 16), none, [], false⟩,
    ⟨3, .q .mv, [.tmp 6], (some 17), (some (16, true)), [], false⟩,
    ⟨4, .q (.bin .sub), [.tmp 17, .const (.int .i64 264)], (some 18), (some (16, true)), [], false⟩,
    ⟨5, .q (.bin .rem), [.tmp 18, .const (.int .i64 4)], (some 19), (some (16, true)), [], false⟩,
    ⟨6, .q (.bin .eql), [.tmp 19, .const (.int .i64 0)], (some 20), (some (16, true)), [], false⟩,
    ⟨7, .q .pick, [.tmp 16, .tmp 20, .const (.bool false)], (some 21), none, [], false⟩])
  (.cond (.tmp 21)
   (.seq
   (.reg [⟨0, .q .mv, [.tmp 4], (some 22), none, [], false⟩,
     ⟨1, .q .mv, [.tmp 5], (some 23), none, [], false⟩,
     ⟨2, .q (.bin .shl), [.const (.int .i64 1), .tmp 23], (some 24), none, [], false⟩,
     ⟨3, .q (.bin .add), [.tmp 22, .tmp 24], (some 25), none, [], false⟩,
     ⟨4, .q .mv, [.tmp 25], (some 4), none, [], false⟩])
   (.seq
   (.reg [⟨0, .q .mv, [.tmp 6], (some 26), none, [], false⟩,
     ⟨1, .q (.bin .sub), [.tmp 26, .const (.int .i64 264)], (some 27), none, [], false⟩,
     ⟨2, .q (.bin .quo), [.tmp 27, .const (.int .i64 4)], (some 28), none, [], false⟩,
     ⟨3, .q (.bin .add), [.tmp 28, .const (.int .i64 1)], (some 29), none, [], false⟩,
     ⟨4, .q .mv, [.tmp 29], (some 5), none, [], false⟩])
   (.exit 1)))
   .skip))
  (.reg [⟨0, .q .mv, [.tmp 4], (some 30), none, [], false⟩,
    ⟨1, .q .mv, [.tmp 5], (some 31), none, [], false⟩,
    ⟨2, .q (.bin .shl), [.const (.int .i64 1), .tmp 31], (some 32), none, [], false⟩,
    ⟨3, .q (.bin .add), [.tmp 30, .tmp 32], (some 33), none, [], false⟩,
    ⟨4, .q .mv, [.tmp 33], (some 4), none, [], false⟩])))
 (.reg [⟨0, .q .mv, [.tmp 6], (some 12), none, [], false⟩,
   ⟨1, .q (.bin .add), [.tmp 12, .const (.int .i64 1)], (some 13), none, [], false⟩,
   ⟨2, .q .mv, [.tmp 13], (some 6), none, [], false⟩])))
def L74_1 : LCode :=
 (.seq
 (.reg [⟨0, .q .mv, [.tmp 4], (some 34), none, [], false⟩,
   ⟨1, .q .mv, [.tmp 5], (some 35), none, [], false⟩,
   ⟨2, .q .mv, [.tmp 34], (some 2), none, [], false⟩,
   ⟨3, .q .mv, [.tmp 35], (some 3), none, [], false⟩])
 .ret)
def L74 : LFn :=
 ⟨36, [.t 2, .t 3],
 (.seq
 (.reg [⟨0, .q .mv, [.const (.int .i64 0)], (some 2), none, [], false⟩,
   ⟨1, .q .mv, [.const (.int .i64 0)], (some 3), none, [], false⟩])
 (.seq
 (.seq
 (.reg [⟨0, .q .mv, [.tmp 0], (some 7), none, [], false⟩,
   ⟨1, .q (.bin .eql), [.tmp 7, .const (.int .i64 285)], (some 8), none, [], false⟩])
 (.cond (.tmp 8)
  (.seq
  (.reg [⟨0, .q .mv, [.const (.int .i64 258)], (some 2), none, [], false⟩,
    ⟨1, .q .mv, [.const (.int .i64 0)], (some 3), none, [], false⟩])
  .ret)
  .skip))
 (.seq
 (.reg [⟨0, .q .mv, [.const (.int .i64 3)], (some 4), none, [], false⟩,
   ⟨1, .q .mv, [.const (.int .i64 0)], (some 5), none, [], false⟩])
 (.seq
 (.seq
 (.reg [⟨0, .q .mv, [.const (.int .i64 257)], (some 6), none, [], false⟩])
 (.block 0
  (.loop L74_0)))
 L74_1))))⟩
theorem low74 : lowFn Tryd.prog Tryd.f74 = some L74 := by kernel_rfl
theorem call74 {args : List Value} {H : Heap} {S : Ending → Heap → Prop} (hn : args.length ≤ L74.n) (h : awpC Tryd.prog L74.body (retQ L74.results S) (fun ch H => S (.panicked ch) H) (env0 args) H) : ACalls Tryd.prog 74 args.toArray H S := acalls mixed Tryd.func74 low74 hn h
/-- satchel/satchelref06.Distance -/
def L75_0 : LCode :=
 (.reg [⟨0, .q .mv, [.tmp 6], (some 10), none, [], false⟩,
   ⟨1, .q (.bin .add), [.tmp 10, .const (.int .i64 1)], (some 11), none, [], false⟩,
   ⟨2, .q .mv, [.tmp 11], (some 6), none, [], false⟩])
def L75_1 : LCode :=
 (.seq
 (.seq
 (.reg [⟨0, .q .mv, [.tmp 6], (some 7), none, [], false⟩,
   ⟨1, .q .mv, [.tmp 0], (some 8), none, [], false⟩,
   ⟨2, .q (.bin .lss), [.tmp 7, .tmp 8], (some 9), none, [], false⟩])
 (.cond (.tmp 9)
  .skip
  (.exit 0)))
 (.seq
 (.block 1
  (.seq
  (.reg [⟨0, .q .mv, [.tmp 4], (some 12), none, [], false⟩,
    ⟨1, .q .mv, [.tmp 5], (some 13), none, [], false⟩,
    ⟨2, .q (.bin .shl), [.const (.int .i64 1), .tmp 13], (some 14), none, [], false⟩,
    ⟨3, .q (.bin .add), [.tmp 12, .tmp 14], (some 15), none, [], false⟩,
    ⟨4, .q .mv, [.tmp 15], (some 4), none, [], false⟩])
  (.seq
  (.reg [⟨0, .q .mv, [.tmp 6], (some 16), none, [], false⟩,
    ⟨1, .q (.bin .geq), [.tmp 16, .const (.int .i64 3)], (some 17), none, [], false⟩,
    ⟨2, .q .mv, [.tmp 17], (some 18), none, [], false⟩,
    ⟨3, .q .mv, [.tmp 6], (some 19), (some (18, true)), [], false⟩,
    ⟨4, .q (.bin .rem), [.tmp 19, .const (.int .i64 2)], (some 20), (some (18, true)), [], false⟩,
    ⟨5, .q (.bin .eql), [.tmp 20, .const (.int .i64 1)], (some 21), (some (18, true)), [], false⟩,
    ⟨6, .q .pick, [.tmp 18, .tmp 21, .const (.bool false)], (some 22), none, [], false⟩])
  (.cond (.tmp 22)
   (.reg [⟨0, .q .mv, [.tmp 5], (some 23), none, [], false⟩,
     ⟨1, .q (.bin .add), [.tmp 23, .const (.int .i64 1)], (some 24), none, [], false⟩,
     ⟨2, .q .mv, [.tmp 24], (some 5), none, [], false⟩])
   .skip))))
 L75_0))
def L75 : LFn :=
 ⟨27, [.t 2, .t 3],
 (.seq
 (.reg [⟨0, .q .mv, [.const (.int .i64 0)], (some 2), none, [], false⟩,
   ⟨1, .q .mv, [.const (.int .i64 0)], (some 3), none, [], false⟩])
 (.seq
 (.reg [⟨0, .q .mv, [.const (.int .i64 1)], (some 4), none, [], false⟩,
   ⟨1, .q .mv, [.const (.int .i64 0)], (some 5), none, [], false⟩])
 (.seq
 (.seq
 (.reg [⟨0, .q .mv, [.const (.int .i64 0)], (some 6), none, [], false⟩])
 (.block 0
  (.loop L75_1)))
 (.seq
 (.reg [⟨0, .q .mv, [.tmp 4], (some 25), none, [], false⟩,
   ⟨1, .q .mv, [.tmp 5], (some 26), none, [], false⟩,
   ⟨2, .q .mv, [.tmp 25], (some 2), none, [], false⟩,
   ⟨3, .q .mv, [.tmp 26], (some 3), none, [], false⟩])
 .ret))))⟩
theorem low75 : lowFn Tryd.prog Tryd.f75 = some L75 := by kernel_rfl
theorem call75 {args : List Value} {H : Heap} {S : Ending → Heap → Prop} (hn : args.length ≤ L75.n) (h : awpC Tryd.prog L75.body (retQ L75.results S) (fun ch H => S (.panicked ch) H) (env0 args) H) : ACalls Tryd.prog 75 args.toArray H S := acalls mixed Tryd.func75 low75 hn h
end Go.Proofs.YtphojebganlbnaaDoor.Low
