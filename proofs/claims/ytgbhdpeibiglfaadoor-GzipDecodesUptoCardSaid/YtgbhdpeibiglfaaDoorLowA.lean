/-
 Functions in short (out of the program's form in Lean, by the kernel).
-/
import Derived.Test.YtgbhdpeibiglfaaDoorSepRec
import Derived.Test.YtgbhdpeibiglfaaDoorProg
namespace Go.Proofs.YtgbhdpeibiglfaaDoor.Low
open Go Go.Proofs.YtgbhdpeibiglfaaDoor.Sep
theorem mixed : Tryd.prog.follows .mixedOrders = true := by kernel_rfl
/-- slices.Clone[[]byte,byte] -/
def L38 : LFn :=
 ⟨8, [.t 2],
 (.seq
 (.reg [.q 0 .mv [.const (.slice none 0 0)] 2])
 (.seq
 (.seq
 (.reg [.q 0 .mv [.tmp 0] 3, .q 1 (.eqs false) [.tmp 3, .const (.slice none 0 0)] 4])
 (.cond (.tmp 4)
 (.seq
 (.reg [.q 0 .mv [.const (.slice none 0 0)] 2])
 .ret)
 .skip))
 (.seq
 (.reg [.e 0 (.lits 5 #[] 0 []) [] 5, .q 1 .mv [.tmp 0] 6, .e 2 (.app 5 1 1 #[(.int .u8 0)]) [.tmp 5, .tmp 6] 7, .q 3 .mv [.tmp 7] 2])
 .ret)))⟩
theorem low38 : lowFn Tryd.prog Tryd.f38 = some L38 := by kernel_rfl
theorem call38 {args : List Value} {H : Heap} {S : Ending → Heap → Prop} (hn : args.length ≤ L38.n) (h : awpC Tryd.prog L38.body (retQ L38.results S) (fun ch H => S (.panicked ch) H) (env0 args) H) : ACalls Tryd.prog 38 args.toArray H S := acalls mixed Tryd.func38 low38 hn h
/-- satchel/satchellaw08.hand -/
def L4 : LFn :=
 ⟨10, [.t 2],
 (.seq
 (.reg [.q 0 .mv [.const (.slice none 0 0)] 2])
 (.seq
 (.reg [.e 0 (.lits 5 #[] 0 []) [] 4, .q 1 .mv [.tmp 0] 5, .e 2 (.app 5 1 1 #[(.int .u8 0)]) [.tmp 4, .tmp 5] 6, .q 3 .mv [.tmp 6] 3])
 (.seq
 (.reg [.q 0 .mv [.tmp 3] 7, .e 1 (.lits 5 #[(.int .u8 0), (.int .u8 0), (.int .u8 0), (.int .u8 0), (.int .u8 0)] 5 [(0, 1), (1, 1), (2, 1), (3, 1), (4, 1)]) [.const (.int .u8 1), .const (.int .u8 2), .const (.int .u8 3), .const (.int .u8 4), .const (.int .u8 5)] 8, .e 2 (.app 5 1 1 #[(.int .u8 0)]) [.tmp 7, .tmp 8] 9, .q 3 .mv [.tmp 9] 2])
 .ret)))⟩
theorem low4 : lowFn Tryd.prog Tryd.f4 = some L4 := by kernel_rfl
theorem call4 {args : List Value} {H : Heap} {S : Ending → Heap → Prop} (hn : args.length ≤ L4.n) (h : awpC Tryd.prog L4.body (retQ L4.results S) (fun ch H => S (.panicked ch) H) (env0 args) H) : ACalls Tryd.prog 4 args.toArray H S := acalls mixed Tryd.func4 low4 hn h
/-- satchel/satchellaw08.left -/
def L8_0 : LCode :=
 (.seq
 (.seq
 (.reg [.q 0 .mv [.tmp 6] 13, .q 1 .mv [.tmp 0] 14, .q 2 .len [.tmp 14] 15, .q 3 (.bin .lss) [.tmp 13, .tmp 15] 16])
 (.cond (.tmp 16)
 .skip
 (.exit 0)))
 (.seq
 (.block 1
 (.reg [.q 0 .mv [.tmp 0] 19, .q 1 .mv [.tmp 6] 20, .q 2 (.iad 1) [.tmp 19, .tmp 20] 21, .n 3 (.st 1) [.tmp 21, .const (.int .u8 238)]]))
 (.reg [.q 0 .mv [.tmp 6] 17, .q 1 (.bin .add) [.tmp 17, .const (.int .i64 1)] 18, .q 2 .mv [.tmp 18] 6])))
def L8 : LFn :=
 ⟨23, [.t 4],
 (.seq
 (.reg [.q 0 .mv [.const (.bool false)] 4])
 (.seq
 (.reg [.q 0 .mv [.tmp 0] 7, .q 1 .b2s [.tmp 7] 8, .q 2 .mv [.tmp 1] 9, .q 3 .b2s [.tmp 9] 10, .q 4 (.bin .add) [.tmp 10, .const (.string ⟨#[1, 2, 3, 4, 5]⟩)] 11, .q 5 (.bin .eql) [.tmp 8, .tmp 11] 12, .q 6 .mv [.tmp 12] 5])
 (.seq
 (.seq
 (.reg [.q 0 .mv [.const (.int .i64 0)] 6])
 (.block 0
 (.loop L8_0)))
 (.seq
 (.reg [.q 0 .mv [.tmp 5] 22, .q 1 .mv [.tmp 22] 4])
 .ret))))⟩
theorem low8 : lowFn Tryd.prog Tryd.f8 = some L8 := by kernel_rfl
theorem call8 {args : List Value} {H : Heap} {S : Ending → Heap → Prop} (hn : args.length ≤ L8.n) (h : awpC Tryd.prog L8.body (retQ L8.results S) (fun ch H => S (.panicked ch) H) (env0 args) H) : ACalls Tryd.prog 8 args.toArray H S := acalls mixed Tryd.func8 low8 hn h
/-- satchel/satchellaw08.wiped -/
def L12_0 : LCode :=
 (.seq
 (.seq
 (.reg [.q 0 .mv [.tmp 6] 12, .q 1 .mv [.tmp 0] 13, .q 2 .len [.tmp 13] 14, .q 3 (.bin .lss) [.tmp 12, .tmp 14] 15])
 (.cond (.tmp 15)
 .skip
 (.exit 0)))
 (.seq
 (.block 1
 (.reg [.q 0 .mv [.tmp 0] 18, .q 1 .mv [.tmp 6] 19, .q 2 (.iad 1) [.tmp 18, .tmp 19] 20, .n 3 (.st 1) [.tmp 20, .const (.int .u8 238)]]))
 (.reg [.q 0 .mv [.tmp 6] 16, .q 1 (.bin .add) [.tmp 16, .const (.int .i64 1)] 17, .q 2 .mv [.tmp 17] 6])))
def L12 : LFn :=
 ⟨25, [.t 4],
 (.seq
 (.reg [.q 0 .mv [.const (.bool false)] 4])
 (.seq
 (.reg [.q 0 .mv [.tmp 0] 7, .q 1 .b2s [.tmp 7] 8, .q 2 .mv [.tmp 1] 9, .q 3 .b2s [.tmp 9] 10, .q 4 (.bin .eql) [.tmp 8, .tmp 10] 11, .q 5 .mv [.tmp 11] 5])
 (.seq
 (.seq
 (.reg [.q 0 .mv [.const (.int .i64 0)] 6])
 (.block 0
 (.loop L12_0)))
 (.seq
 (.reg [.q 0 .mv [.tmp 0] 21, .e 1 (.lits 5 #[(.int .u8 0), (.int .u8 0)] 2 [(0, 1), (1, 1)]) [.const (.int .u8 221), .const (.int .u8 221)] 22, .e 2 (.app 5 1 1 #[(.int .u8 0)]) [.tmp 21, .tmp 22] 23])
 (.seq
 (.reg [.q 0 .mv [.tmp 5] 24, .q 1 .mv [.tmp 24] 4])
 .ret)))))⟩
theorem low12 : lowFn Tryd.prog Tryd.f12 = some L12 := by kernel_rfl
theorem call12 {args : List Value} {H : Heap} {S : Ending → Heap → Prop} (hn : args.length ≤ L12.n) (h : awpC Tryd.prog L12.body (retQ L12.results S) (fun ch H => S (.panicked ch) H) (env0 args) H) : ACalls Tryd.prog 12 args.toArray H S := acalls mixed Tryd.func12 low12 hn h
end Go.Proofs.YtgbhdpeibiglfaaDoor.Low
