/-
 Functions in short (out of the program's form in Lean, by the kernel).
-/
import Derived.Test.YtgbhdpeibiglfaaDoorSepRec
import Derived.Test.YtgbhdpeibiglfaaDoorProg
namespace Go.Proofs.YtgbhdpeibiglfaaDoor.Low
open Go Go.Proofs.YtgbhdpeibiglfaaDoor.Sep
theorem mixed : Tryd.prog.follows .mixedOrders = true := by kernel_rfl
/-- satchel/bits.NewReader -/
def L50 : LFn :=
 ⟨7, [.t 2],
 (.seq
 (.reg [.q 0 .mv [.const (.pointer none)] 2])
 (.seq
 (.reg [.q 0 .mv [.tmp 0] 3, .e 1 (.call 38) [.tmp 3] 4, .q 2 (.build #[(.slice none 0 0), (.int .i64 0)] [(0, 1)]) [.tmp 4] 5, .e 3 (.box 90) [.tmp 5] 6, .q 4 .mv [.tmp 6] 2])
 .ret))⟩
theorem low50 : lowFn Tryd.prog Tryd.f50 = some L50 := by kernel_rfl
theorem call50 {args : List Value} {H : Heap} {S : Ending → Heap → Prop} (hn : args.length ≤ L50.n) (h : awpC Tryd.prog L50.body (retQ L50.results S) (fun ch H => S (.panicked ch) H) (env0 args) H) : ACalls Tryd.prog 50 args.toArray H S := acalls mixed Tryd.func50 low50 hn h
/-- (*satchel/bits.Reader).Left -/
def L57 : LFn :=
 ⟨14, [.t 2],
 (.seq
 (.reg [.q 0 .mv [.const (.int .i64 0)] 2])
 (.seq
 (.reg [.q 0 .mv [.tmp 0] 3, .q 1 .nilc [.tmp 3] 4, .q 2 (.fad 0) [.tmp 4] 5, .q 3 .ld [.tmp 5] 6, .q 4 .len [.tmp 6] 7, .q 5 (.bin .mul) [.const (.int .i64 8), .tmp 7] 8, .q 6 .mv [.tmp 0] 9, .q 7 .nilc [.tmp 9] 10, .q 8 (.fad 1) [.tmp 10] 11, .q 9 .ld [.tmp 11] 12, .q 10 (.bin .sub) [.tmp 8, .tmp 12] 13, .q 11 .mv [.tmp 13] 2])
 .ret))⟩
theorem low57 : lowFn Tryd.prog Tryd.f57 = some L57 := by kernel_rfl
theorem call57 {args : List Value} {H : Heap} {S : Ending → Heap → Prop} (hn : args.length ≤ L57.n) (h : awpC Tryd.prog L57.body (retQ L57.results S) (fun ch H => S (.panicked ch) H) (env0 args) H) : ACalls Tryd.prog 57 args.toArray H S := acalls mixed Tryd.func57 low57 hn h
/-- (*satchel/bits.Reader).Take -/
def L64_0 : LCode :=
 (.seq
 (.reg [.q 0 (.bin .lss) [.tmp 21, .tmp 20] 22])
 (.seq
 (.cond (.tmp 22)
 .skip
 (.exit 1))
 (.seq
 (.block 2
 (.seq
 (.reg [.q 0 .mv [.tmp 21] 23, .q 1 .mv [.tmp 23] 7])
 (.reg [.q 0 .mv [.tmp 6] 24, .q 1 .mv [.tmp 0] 25, .q 2 .mv [.tmp 7] 26, .e 3 (.call 83) [.tmp 25, .tmp 26] 27, .q 4 .mv [.tmp 7] 28, .q 5 (.bin .shl) [.tmp 27, .tmp 28] 29, .q 6 (.bin .or) [.tmp 24, .tmp 29] 30, .q 7 .mv [.tmp 30] 6])))
 (.reg [.q 0 (.bin .add) [.tmp 21, .const (.int .i64 1)] 31, .q 1 .mv [.tmp 31] 21]))))
def L64 : LFn :=
 ⟨41, [.t 4, .t 5],
 (.seq
 (.reg [.q 0 .mv [.const (.int .u32 0)] 4, .q 1 .mv [.const (.int .i64 0)] 5])
 (.seq
 (.block 0
 (.seq
 (.reg [.q 0 .mv [.tmp 1] 9, .q 1 (.bin .lss) [.tmp 9, .const (.int .i64 0)] 10, .q 2 .mv [.tmp 10] 11, .g 3 .mv [.tmp 1] 12 11 false, .g 4 (.bin .gtr) [.tmp 12, .const (.int .i64 32)] 13 11 false, .q 5 .pick [.tmp 11, .const (.bool true), .tmp 13] 14, .q 6 .mv [.tmp 14] 8])
 (.cond (.tmp 8)
 (.seq
 (.reg [.q 0 .mv [.const (.int .u32 0)] 4, .q 1 .mv [.const (.int .i64 1)] 5])
 .ret)
 (.seq
 (.reg [.q 0 .mv [.tmp 1] 16, .q 1 .mv [.tmp 0] 17, .e 2 (.call 82) [.tmp 17] 18, .q 3 (.bin .gtr) [.tmp 16, .tmp 18] 19, .q 4 .mv [.tmp 19] 15])
 (.cond (.tmp 15)
 (.seq
 (.reg [.q 0 .mv [.const (.int .u32 0)] 4, .q 1 .mv [.const (.int .i64 50)] 5])
 .ret)
 .skip)))))
 (.seq
 (.reg [.q 0 .mv [.const (.int .u32 0)] 6])
 (.seq
 (.seq
 (.reg [.q 0 .mv [.tmp 1] 20, .q 1 .mv [.const (.int .i64 0)] 21])
 (.block 1
 (.loop L64_0)))
 (.seq
 (.reg [.q 0 .mv [.tmp 0] 32, .q 1 .nilc [.tmp 32] 33, .q 2 (.fad 1) [.tmp 33] 34, .q 3 .ld [.tmp 34] 35, .q 4 .mv [.tmp 1] 36, .q 5 (.bin .add) [.tmp 35, .tmp 36] 37, .q 6 .nilc [.tmp 32] 38, .q 7 (.fad 1) [.tmp 38] 39, .n 8 (.st 1) [.tmp 39, .tmp 37]])
 (.seq
 (.reg [.q 0 .mv [.tmp 6] 40, .q 1 .mv [.tmp 40] 4, .q 2 .mv [.const (.int .i64 0)] 5])
 .ret))))))⟩
theorem low64 : lowFn Tryd.prog Tryd.f64 = some L64 := by kernel_rfl
theorem call64 {args : List Value} {H : Heap} {S : Ending → Heap → Prop} (hn : args.length ≤ L64.n) (h : awpC Tryd.prog L64.body (retQ L64.results S) (fun ch H => S (.panicked ch) H) (env0 args) H) : ACalls Tryd.prog 64 args.toArray H S := acalls mixed Tryd.func64 low64 hn h
/-- (*satchel/bits.Reader).Align -/
def L65 : LFn :=
 ⟨12, [],
 (.reg [.q 0 .mv [.tmp 0] 2, .q 1 .mv [.tmp 0] 3, .q 2 .nilc [.tmp 3] 4, .q 3 (.fad 1) [.tmp 4] 5, .q 4 .ld [.tmp 5] 6, .q 5 (.bin .add) [.tmp 6, .const (.int .i64 7)] 7, .q 6 (.bin .quo) [.tmp 7, .const (.int .i64 8)] 8, .q 7 (.bin .mul) [.tmp 8, .const (.int .i64 8)] 9, .q 8 .nilc [.tmp 2] 10, .q 9 (.fad 1) [.tmp 10] 11, .n 10 (.st 1) [.tmp 11, .tmp 9]])⟩
theorem low65 : lowFn Tryd.prog Tryd.f65 = some L65 := by kernel_rfl
theorem call65 {args : List Value} {H : Heap} {S : Ending → Heap → Prop} (hn : args.length ≤ L65.n) (h : awpC Tryd.prog L65.body (retQ L65.results S) (fun ch H => S (.panicked ch) H) (env0 args) H) : ACalls Tryd.prog 65 args.toArray H S := acalls mixed Tryd.func65 low65 hn h
/-- (*satchel/bits.Reader).Bytes -/
def L67 : LFn :=
 ⟨50, [.t 4, .t 5],
 (.seq
 (.reg [.q 0 .mv [.const (.slice none 0 0)] 4, .q 1 .mv [.const (.int .i64 0)] 5])
 (.seq
 (.reg [.q 0 .mv [.tmp 0] 7, .q 1 .mv [.tmp 0] 8, .q 2 .nilc [.tmp 8] 9, .q 3 (.fad 1) [.tmp 9] 10, .q 4 .ld [.tmp 10] 11, .q 5 (.bin .add) [.tmp 11, .const (.int .i64 7)] 12, .q 6 (.bin .quo) [.tmp 12, .const (.int .i64 8)] 13, .q 7 (.bin .mul) [.tmp 13, .const (.int .i64 8)] 14, .q 8 .nilc [.tmp 7] 15, .q 9 (.fad 1) [.tmp 15] 16, .n 10 (.st 1) [.tmp 16, .tmp 14]])
 (.seq
 (.block 0
 (.seq
 (.reg [.q 0 .mv [.tmp 1] 18, .q 1 (.bin .lss) [.tmp 18, .const (.int .i64 0)] 19, .q 2 .mv [.tmp 19] 17])
 (.cond (.tmp 17)
 (.seq
 (.reg [.q 0 .mv [.const (.slice none 0 0)] 4, .q 1 .mv [.const (.int .i64 1)] 5])
 .ret)
 (.seq
 (.reg [.q 0 .mv [.tmp 1] 21, .q 1 .mv [.tmp 0] 22, .e 2 (.call 82) [.tmp 22] 23, .q 3 (.bin .quo) [.tmp 23, .const (.int .i64 8)] 24, .q 4 (.bin .gtr) [.tmp 21, .tmp 24] 25, .q 5 .mv [.tmp 25] 20])
 (.cond (.tmp 20)
 (.seq
 (.reg [.q 0 .mv [.const (.slice none 0 0)] 4, .q 1 .mv [.const (.int .i64 50)] 5])
 .ret)
 .skip)))))
 (.seq
 (.reg [.q 0 .mv [.tmp 0] 26, .q 1 .nilc [.tmp 26] 27, .q 2 (.fad 1) [.tmp 27] 28, .q 3 .ld [.tmp 28] 29, .q 4 (.bin .quo) [.tmp 29, .const (.int .i64 8)] 30, .q 5 .mv [.tmp 30] 6])
 (.seq
 (.reg [.q 0 .mv [.tmp 0] 31, .q 1 .nilc [.tmp 31] 32, .q 2 (.fad 1) [.tmp 32] 33, .q 3 .ld [.tmp 33] 34, .q 4 .mv [.tmp 1] 35, .q 5 (.bin .mul) [.const (.int .i64 8), .tmp 35] 36, .q 6 (.bin .add) [.tmp 34, .tmp 36] 37, .q 7 .nilc [.tmp 31] 38, .q 8 (.fad 1) [.tmp 38] 39, .n 9 (.st 1) [.tmp 39, .tmp 37]])
 (.seq
 (.reg [.q 0 .mv [.tmp 0] 40, .q 1 .nilc [.tmp 40] 41, .q 2 (.fad 0) [.tmp 41] 42, .q 3 .ld [.tmp 42] 43, .q 4 .mv [.tmp 6] 44, .q 5 .mv [.tmp 6] 45, .q 6 .mv [.tmp 1] 46, .q 7 (.bin .add) [.tmp 45, .tmp 46] 47, .q 8 (.slc 1 true true false) [.tmp 43, .tmp 44, .tmp 47] 48, .e 9 (.call 38) [.tmp 48] 49, .q 10 .mv [.tmp 49] 4, .q 11 .mv [.const (.int .i64 0)] 5])
 .ret))))))⟩
theorem low67 : lowFn Tryd.prog Tryd.f67 = some L67 := by kernel_rfl
theorem call67 {args : List Value} {H : Heap} {S : Ending → Heap → Prop} (hn : args.length ≤ L67.n) (h : awpC Tryd.prog L67.body (retQ L67.results S) (fun ch H => S (.panicked ch) H) (env0 args) H) : ACalls Tryd.prog 67 args.toArray H S := acalls mixed Tryd.func67 low67 hn h
/-- (*satchel/bits.Reader).left -/
def L82 : LFn :=
 ⟨14, [.t 2],
 (.seq
 (.reg [.q 0 .mv [.const (.int .i64 0)] 2])
 (.seq
 (.reg [.q 0 .mv [.tmp 0] 3, .q 1 .nilc [.tmp 3] 4, .q 2 (.fad 0) [.tmp 4] 5, .q 3 .ld [.tmp 5] 6, .q 4 .len [.tmp 6] 7, .q 5 (.bin .mul) [.const (.int .i64 8), .tmp 7] 8, .q 6 .mv [.tmp 0] 9, .q 7 .nilc [.tmp 9] 10, .q 8 (.fad 1) [.tmp 10] 11, .q 9 .ld [.tmp 11] 12, .q 10 (.bin .sub) [.tmp 8, .tmp 12] 13, .q 11 .mv [.tmp 13] 2])
 .ret))⟩
theorem low82 : lowFn Tryd.prog Tryd.f82 = some L82 := by kernel_rfl
theorem call82 {args : List Value} {H : Heap} {S : Ending → Heap → Prop} (hn : args.length ≤ L82.n) (h : awpC Tryd.prog L82.body (retQ L82.results S) (fun ch H => S (.panicked ch) H) (env0 args) H) : ACalls Tryd.prog 82 args.toArray H S := acalls mixed Tryd.func82 low82 hn h
/-- (*satchel/bits.Reader).bit -/
def L83 : LFn :=
 ⟨24, [.t 4],
 (.seq
 (.reg [.q 0 .mv [.const (.int .u32 0)] 4])
 (.seq
 (.reg [.q 0 .mv [.tmp 1] 5, .q 1 .mv [.tmp 0] 6, .q 2 .nilc [.tmp 6] 7, .q 3 (.fad 1) [.tmp 7] 8, .q 4 .ld [.tmp 8] 9, .q 5 (.bin .add) [.tmp 5, .tmp 9] 10, .q 6 .mv [.tmp 10] 1])
 (.seq
 (.reg [.q 0 .mv [.tmp 0] 11, .q 1 .nilc [.tmp 11] 12, .q 2 (.fad 0) [.tmp 12] 13, .q 3 .ld [.tmp 13] 14, .q 4 .mv [.tmp 1] 15, .q 5 (.bin .quo) [.tmp 15, .const (.int .i64 8)] 16, .q 6 (.iad 1) [.tmp 14, .tmp 16] 17, .q 7 .ld [.tmp 17] 18, .q 8 .mv [.tmp 1] 19, .q 9 (.bin .rem) [.tmp 19, .const (.int .i64 8)] 20, .q 10 (.bin .shr) [.tmp 18, .tmp 20] 21, .q 11 (.cvi .u32) [.tmp 21] 22, .q 12 (.bin .and) [.tmp 22, .const (.int .u32 1)] 23, .q 13 .mv [.tmp 23] 4])
 .ret)))⟩
theorem low83 : lowFn Tryd.prog Tryd.f83 = some L83 := by kernel_rfl
theorem call83 {args : List Value} {H : Heap} {S : Ending → Heap → Prop} (hn : args.length ≤ L83.n) (h : awpC Tryd.prog L83.body (retQ L83.results S) (fun ch H => S (.panicked ch) H) (env0 args) H) : ACalls Tryd.prog 83 args.toArray H S := acalls mixed Tryd.func83 low83 hn h
end Go.Proofs.YtgbhdpeibiglfaaDoor.Low
