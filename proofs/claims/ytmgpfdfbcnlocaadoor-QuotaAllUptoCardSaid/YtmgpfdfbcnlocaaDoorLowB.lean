/-
  Functions in short (out of the program's form in Lean, by the kernel).
-/
import Derived.Test.YtmgpfdfbcnlocaaDoorSepDfr
import Derived.Test.YtmgpfdfbcnlocaaDoorProg
namespace Go.Proofs.YtmgpfdfbcnlocaaDoor.Low
open Go Go.Proofs.YtmgpfdfbcnlocaaDoor.Sep
theorem mixed : Tryd.prog.follows .mixedOrders = true := by kernel_rfl
/-- satchel/path.parts -/
def L32_0 : LCode :=
 (.cond (.tmp 18)
  .skip
  (.seq
  (.reg [⟨0, .q (.bin .eql), [.tmp 13, .const (.string ⟨#[46, 46]⟩)], (some 22), none, [], false⟩,
    ⟨1, .q .mv, [.tmp 22], (some 21), none, [], false⟩])
  (.cond (.tmp 21)
   (.reg [⟨0, .q .mv, [.const (.bool true)], (some 3), none, [], false⟩])
   (.reg [⟨0, .q .mv, [.tmp 2], (some 14), none, [], false⟩,
     ⟨1, .q .mv, [.tmp 5], (some 15), none, [], false⟩,
     ⟨2, .e (.lits 9 #[(.string ⟨#[]⟩)] 1 [(0, 1)]), [.tmp 15], (some 16), none, [], false⟩,
     ⟨3, .e (.app 9 1 16 #[(.string ⟨#[]⟩)]), [.tmp 14, .tmp 16], (some 17), none, [], false⟩,
     ⟨4, .q .mv, [.tmp 17], (some 2), none, [], false⟩]))))
def L32_1 : LCode :=
 (.reg [⟨0, .q (.bin .add), [.tmp 9, .const (.int .i64 1)], (some 23), none, [], false⟩,
   ⟨1, .q .mv, [.tmp 23], (some 9), none, [], false⟩])
def L32_2 : LCode :=
 (.seq
 (.reg [⟨0, .q (.bin .lss), [.tmp 9, .tmp 8], (some 10), none, [], false⟩])
 (.seq
 (.cond (.tmp 10)
  .skip
  (.exit 0))
 (.seq
 (.block 1
  (.seq
  (.reg [⟨0, .q (.iad 1), [.tmp 7, .tmp 9], (some 11), none, [], false⟩,
    ⟨1, .q .ld, [.tmp 11], (some 12), none, [], false⟩,
    ⟨2, .q .mv, [.tmp 12], (some 5), none, [], false⟩])
  (.seq
  (.reg [⟨0, .q .mv, [.tmp 5], (some 13), none, [], false⟩])
  (.block 2
   (.seq
   (.seq
   (.reg [⟨0, .q (.bin .eql), [.tmp 13, .const (.string ⟨#[]⟩)], (some 19), none, [], false⟩,
     ⟨1, .q .mv, [.tmp 19], (some 18), none, [], false⟩])
   (.cond (.tmp 18)
    .skip
    (.reg [⟨0, .q (.bin .eql), [.tmp 13, .const (.string ⟨#[46]⟩)], (some 20), none, [], false⟩,
      ⟨1, .q .mv, [.tmp 20], (some 18), none, [], false⟩])))
   L32_0)))))
 L32_1)))
def L32 : LFn :=
 ⟨26, [.t 2, .t 3],
 (.seq
 (.reg [⟨0, .q .mv, [.const (.slice none 0 0)], (some 2), none, [], false⟩,
   ⟨1, .q .mv, [.const (.bool false)], (some 3), none, [], false⟩])
 (.seq
 (.seq
 (.reg [⟨0, .q .mv, [.tmp 0], (some 6), none, [], false⟩,
   ⟨1, .e (.call 47), [.tmp 6, .const (.string ⟨#[47]⟩)], (some 7), none, [], false⟩,
   ⟨2, .q .len, [.tmp 7], (some 8), none, [], false⟩,
   ⟨3, .q .mv, [.const (.int .i64 0)], (some 9), none, [], false⟩])
 (.block 0
  (.loop L32_2)))
 (.seq
 (.reg [⟨0, .q .mv, [.tmp 2], (some 24), none, [], false⟩,
   ⟨1, .q .mv, [.tmp 3], (some 25), none, [], false⟩,
   ⟨2, .q .mv, [.tmp 24], (some 2), none, [], false⟩,
   ⟨3, .q .mv, [.tmp 25], (some 3), none, [], false⟩])
 .ret)))⟩
theorem low32 : lowFn Tryd.prog Tryd.f32 = some L32 := by kernel_rfl
theorem call32 {args : List Value} {H : Heap} {S : Ending → Heap → Prop} (hn : args.length ≤ L32.n) (h : awpC Tryd.prog L32.body (retQ L32.results S) (fun ch H => S (.panicked ch) H) (env0 args) H) : ACalls Tryd.prog 32 args.toArray H S := acalls mixed Tryd.func32 low32 hn h
/-- satchel/path.Split -/
def L22 : LFn :=
 ⟨36, [.t 2, .t 3],
 (.seq
 (.reg [⟨0, .q .mv, [.const (.slice none 0 0)], (some 2), none, [], false⟩,
   ⟨1, .q .mv, [.const (.int .i64 0)], (some 3), none, [], false⟩])
 (.seq
 (.reg [⟨0, .q .mv, [.tmp 0], (some 7), none, [], false⟩,
   ⟨1, .e (.call 32), [.tmp 7], (some 8), none, [], false⟩,
   ⟨2, .q .mv, [.tmp 8], (some 6), none, [], false⟩,
   ⟨3, .q (.ext 0), [.tmp 6], (some 9), none, [], false⟩,
   ⟨4, .q (.ext 1), [.tmp 6], (some 10), none, [], false⟩,
   ⟨5, .q .mv, [.tmp 9], (some 4), none, [], false⟩,
   ⟨6, .q .mv, [.tmp 10], (some 5), none, [], false⟩])
 (.seq
 (.block 0
  (.seq
  (.reg [⟨0, .q .mv, [.tmp 0], (some 12), none, [], false⟩,
    ⟨1, .q .lens, [.tmp 12], (some 13), none, [], false⟩,
    ⟨2, .q (.bin .gtr), [.tmp 13, .const (.int .i64 4096)], (some 14), none, [], false⟩,
    ⟨3, .q .mv, [.tmp 14], (some 11), none, [], false⟩])
  (.cond (.tmp 11)
   (.seq
   (.reg [⟨0, .q .mv, [.const (.slice none 0 0)], (some 2), none, [], false⟩,
     ⟨1, .q .mv, [.const (.int .i64 2)], (some 3), none, [], false⟩])
   .ret)
   (.seq
   (.reg [⟨0, .q .mv, [.tmp 0], (some 16), none, [], false⟩,
     ⟨1, .e (.call 33), [.tmp 16, .const (.int .u8 0)], (some 17), none, [], false⟩,
     ⟨2, .q (.bin .geq), [.tmp 17, .const (.int .i64 0)], (some 18), none, [], false⟩,
     ⟨3, .q .mv, [.tmp 18], (some 15), none, [], false⟩])
   (.cond (.tmp 15)
    (.seq
    (.reg [⟨0, .q .mv, [.const (.slice none 0 0)], (some 2), none, [], false⟩,
      ⟨1, .q .mv, [.const (.int .i64 93)], (some 3), none, [], false⟩])
    .ret)
    (.seq
    (.reg [⟨0, .q .mv, [.tmp 0], (some 20), none, [], false⟩,
      ⟨1, .e (.call 34), [.tmp 20, .const (.string ⟨#[47]⟩)], (some 21), none, [], false⟩,
      ⟨2, .q .mv, [.tmp 21], (some 19), none, [], false⟩])
    (.cond (.tmp 19)
     (.seq
     (.reg [⟨0, .q .mv, [.const (.slice none 0 0)], (some 2), none, [], false⟩,
       ⟨1, .q .mv, [.const (.int .i64 91)], (some 3), none, [], false⟩])
     .ret)
     (.seq
     (.reg [⟨0, .q .mv, [.tmp 5], (some 23), none, [], false⟩,
       ⟨1, .q .mv, [.tmp 23], (some 22), none, [], false⟩])
     (.cond (.tmp 22)
      (.seq
      (.reg [⟨0, .q .mv, [.const (.slice none 0 0)], (some 2), none, [], false⟩,
        ⟨1, .q .mv, [.const (.int .i64 92)], (some 3), none, [], false⟩])
      .ret)
      (.seq
      (.reg [⟨0, .q .mv, [.tmp 4], (some 25), none, [], false⟩,
        ⟨1, .q .len, [.tmp 25], (some 26), none, [], false⟩,
        ⟨2, .q (.bin .eql), [.tmp 26, .const (.int .i64 0)], (some 27), none, [], false⟩,
        ⟨3, .q .mv, [.tmp 27], (some 24), none, [], false⟩])
      (.cond (.tmp 24)
       (.seq
       (.reg [⟨0, .q .mv, [.const (.slice none 0 0)], (some 2), none, [], false⟩,
         ⟨1, .q .mv, [.const (.int .i64 90)], (some 3), none, [], false⟩])
       .ret)
       (.seq
       (.reg [⟨0, .q .mv, [.tmp 4], (some 29), none, [], false⟩,
         ⟨1, .e (.call 35), [.tmp 29, .func 36], (some 30), none, [], false⟩,
         ⟨2, .q .mv, [.tmp 30], (some 28), none, [], false⟩])
       (.cond (.tmp 28)
        (.seq
        (.reg [⟨0, .q .mv, [.const (.slice none 0 0)], (some 2), none, [], false⟩,
          ⟨1, .q .mv, [.const (.int .i64 94)], (some 3), none, [], false⟩])
        .ret)
        (.seq
        (.reg [⟨0, .q .mv, [.tmp 4], (some 32), none, [], false⟩,
          ⟨1, .q .len, [.tmp 32], (some 33), none, [], false⟩,
          ⟨2, .q (.bin .gtr), [.tmp 33, .const (.int .i64 256)], (some 34), none, [], false⟩,
          ⟨3, .q .mv, [.tmp 34], (some 31), none, [], false⟩])
        (.cond (.tmp 31)
         (.seq
         (.reg [⟨0, .q .mv, [.const (.slice none 0 0)], (some 2), none, [], false⟩,
           ⟨1, .q .mv, [.const (.int .i64 95)], (some 3), none, [], false⟩])
         .ret)
         .skip)))))))))))))))
 (.seq
 (.reg [⟨0, .q .mv, [.tmp 4], (some 35), none, [], false⟩,
   ⟨1, .q .mv, [.tmp 35], (some 2), none, [], false⟩,
   ⟨2, .q .mv, [.const (.int .i64 0)], (some 3), none, [], false⟩])
 .ret))))⟩
theorem low22 : lowFn Tryd.prog Tryd.f22 = some L22 := by kernel_rfl
theorem call22 {args : List Value} {H : Heap} {S : Ending → Heap → Prop} (hn : args.length ≤ L22.n) (h : awpC Tryd.prog L22.body (retQ L22.results S) (fun ch H => S (.panicked ch) H) (env0 args) H) : ACalls Tryd.prog 22 args.toArray H S := acalls mixed Tryd.func22 low22 hn h
/-- satchel/path.Split$1 -/
def L36 : LFn :=
 ⟨6, [.t 2],
 (.seq
 (.reg [⟨0, .q .mv, [.const (.bool false)], (some 2), none, [], false⟩])
 (.seq
 (.reg [⟨0, .q .mv, [.tmp 0], (some 3), none, [], false⟩,
   ⟨1, .q .lens, [.tmp 3], (some 4), none, [], false⟩,
   ⟨2, .q (.bin .gtr), [.tmp 4, .const (.int .i64 255)], (some 5), none, [], false⟩,
   ⟨3, .q .mv, [.tmp 5], (some 2), none, [], false⟩])
 .ret))⟩
theorem low36 : lowFn Tryd.prog Tryd.f36 = some L36 := by kernel_rfl
theorem call36 {args : List Value} {H : Heap} {S : Ending → Heap → Prop} (hn : args.length ≤ L36.n) (h : awpC Tryd.prog L36.body (retQ L36.results S) (fun ch H => S (.panicked ch) H) (env0 args) H) : ACalls Tryd.prog 36 args.toArray H S := acalls mixed Tryd.func36 low36 hn h
/-- slices.IndexFunc[[]string,string] -/
def L50_0 : LCode :=
 (.seq
 (.reg [⟨0, .q (.bin .lss), [.tmp 8, .tmp 7], (some 9), none, [], false⟩])
 (.seq
 (.cond (.tmp 9)
  .skip
  (.exit 0))
 (.seq
 (.block 1
  (.seq
  (.reg [⟨0, .q .mv, [.tmp 8], (some 10), none, [], false⟩,
    ⟨1, .q .mv, [.tmp 10], (some 5), none, [], false⟩])
  (.seq
  (.reg [⟨0, .q .mv, [.tmp 1], (some 11), none, [], false⟩,
    ⟨1, .q .mv, [.tmp 0], (some 12), none, [], false⟩,
    ⟨2, .q .mv, [.tmp 5], (some 13), none, [], false⟩,
    ⟨3, .q (.iad 1), [.tmp 12, .tmp 13], (some 14), none, [], false⟩,
    ⟨4, .q .ld, [.tmp 14], (some 15), none, [], false⟩,
    ⟨5, .e .callv, [.tmp 11, .tmp 15], (some 16), none, [], false⟩])
  (.cond (.tmp 16)
   (.seq
   (.reg [⟨0, .q .mv, [.tmp 5], (some 17), none, [], false⟩,
     ⟨1, .q .mv, [.tmp 17], (some 4), none, [], false⟩])
   .ret)
   .skip))))
 (.reg [⟨0, .q (.bin .add), [.tmp 8, .const (.int .i64 1)], (some 18), none, [], false⟩,
   ⟨1, .q .mv, [.tmp 18], (some 8), none, [], false⟩]))))
def L50 : LFn :=
 ⟨19, [.t 4],
 (.seq
 (.reg [⟨0, .q .mv, [.const (.int .i64 0)], (some 4), none, [], false⟩])
 (.seq
 (.seq
 (.reg [⟨0, .q .mv, [.tmp 0], (some 6), none, [], false⟩,
   ⟨1, .q .len, [.tmp 6], (some 7), none, [], false⟩,
   ⟨2, .q .mv, [.const (.int .i64 0)], (some 8), none, [], false⟩])
 (.block 0
  (.loop L50_0)))
 (.seq
 (.reg [⟨0, .q .mv, [.const (.int .i64 (-1))], (some 4), none, [], false⟩])
 .ret)))⟩
theorem low50 : lowFn Tryd.prog Tryd.f50 = some L50 := by kernel_rfl
theorem call50 {args : List Value} {H : Heap} {S : Ending → Heap → Prop} (hn : args.length ≤ L50.n) (h : awpC Tryd.prog L50.body (retQ L50.results S) (fun ch H => S (.panicked ch) H) (env0 args) H) : ACalls Tryd.prog 50 args.toArray H S := acalls mixed Tryd.func50 low50 hn h
/-- slices.ContainsFunc[[]string,string] -/
def L35 : LFn :=
 ⟨9, [.t 4],
 (.seq
 (.reg [⟨0, .q .mv, [.const (.bool false)], (some 4), none, [], false⟩])
 (.seq
 (.reg [⟨0, .q .mv, [.tmp 0], (some 5), none, [], false⟩,
   ⟨1, .q .mv, [.tmp 1], (some 6), none, [], false⟩,
   ⟨2, .e (.call 50), [.tmp 5, .tmp 6], (some 7), none, [], false⟩,
   ⟨3, .q (.bin .geq), [.tmp 7, .const (.int .i64 0)], (some 8), none, [], false⟩,
   ⟨4, .q .mv, [.tmp 8], (some 4), none, [], false⟩])
 .ret))⟩
theorem low35 : lowFn Tryd.prog Tryd.f35 = some L35 := by kernel_rfl
theorem call35 {args : List Value} {H : Heap} {S : Ending → Heap → Prop} (hn : args.length ≤ L35.n) (h : awpC Tryd.prog L35.body (retQ L35.results S) (fun ch H => S (.panicked ch) H) (env0 args) H) : ACalls Tryd.prog 35 args.toArray H S := acalls mixed Tryd.func35 low35 hn h
end Go.Proofs.YtmgpfdfbcnlocaaDoor.Low
