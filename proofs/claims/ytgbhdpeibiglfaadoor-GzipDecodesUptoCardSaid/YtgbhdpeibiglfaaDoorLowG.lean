/-
 Functions in short (out of the program's form in Lean, by the kernel).
-/
import Derived.Test.YtgbhdpeibiglfaaDoorSepRec
import Derived.Test.YtgbhdpeibiglfaaDoorProg
namespace Go.Proofs.YtgbhdpeibiglfaaDoor.Low
open Go Go.Proofs.YtgbhdpeibiglfaaDoor.Sep
theorem mixed : Tryd.prog.follows .mixedOrders = true := by kernel_rfl
/-- satchel/gzip.One -/
def L5 : LFn :=
 ⟨15, [.t 4, .c 5 (some 8), .t 6, .t 7],
 (.seq
 (.reg [.q 0 .mv [.const (.slice none 0 0)] 4, .e 1 (.new #[(.string ⟨#[]⟩), (.string ⟨#[]⟩), (.slice none 0 0), (.int .u32 0), (.int .u8 0), (.int .u8 0), (.bool false), (.bool false)] 26) [] 5, .q 2 .mv [.const (.int .i64 0)] 6, .q 3 .mv [.const (.int .i64 0)] 7])
 (.seq
 (.reg [.q 0 .mv [.tmp 0] 8, .q 1 .mv [.tmp 1] 9, .e 2 (.call 14) [.tmp 8, .tmp 9] 10, .q 3 (.ext 0) [.tmp 10] 11, .q 4 (.ext 1) [.tmp 10] 12, .q 5 (.ext 2) [.tmp 10] 13, .q 6 (.ext 3) [.tmp 10] 14, .q 7 .mv [.tmp 11] 4, .n 8 (.st 8) [.tmp 5, .tmp 12], .q 9 .mv [.tmp 13] 6, .q 10 .mv [.tmp 14] 7])
 .ret))⟩
theorem low5 : lowFn Tryd.prog Tryd.f5 = some L5 := by kernel_rfl
theorem call5 {args : List Value} {H : Heap} {S : Ending → Heap → Prop} (hn : args.length ≤ L5.n) (h : awpC Tryd.prog L5.body (retQ L5.results S) (fun ch H => S (.panicked ch) H) (env0 args) H) : ACalls Tryd.prog 5 args.toArray H S := acalls mixed Tryd.func5 low5 hn h
/-- satchel/gzip.Decode -/
def L6_0 : LCode :=
 (.seq
 (.seq
 (.reg [.q 0 .mv [.tmp 12] 35, .q 1 (.bin .neq) [.tmp 35, .const (.int .i64 0)] 36])
 (.cond (.tmp 36)
 (.seq
 (.reg [.q 0 .mv [.tmp 12] 37, .q 1 .mv [.const (.slice none 0 0)] 4, .q 2 .mv [.const (.slice none 0 0)] 5, .q 3 .mv [.tmp 37] 6])
 .ret)
 .skip))
 (.seq
 (.reg [.q 0 .mv [.tmp 7] 38, .q 1 .mv [.tmp 9] 39, .e 2 (.app 5 1 1 #[(.int .u8 0)]) [.tmp 38, .tmp 39] 40, .q 3 .mv [.tmp 40] 7])
 (.seq
 (.reg [.q 0 .mv [.tmp 8] 41, .q 1 (.ldn 8) [.tmp 10] 42, .e 2 (.lits 26 #[(.string ⟨#[]⟩), (.string ⟨#[]⟩), (.slice none 0 0), (.int .u32 0), (.int .u8 0), (.int .u8 0), (.bool false), (.bool false)] 1 [(0, 8)]) [.tmp 42] 43, .e 3 (.app 26 8 64 #[(.string ⟨#[]⟩), (.string ⟨#[]⟩), (.slice none 0 0), (.int .u32 0), (.int .u8 0), (.int .u8 0), (.bool false), (.bool false)]) [.tmp 41, .tmp 43] 44, .q 4 .mv [.tmp 44] 8])
 (.seq
 (.reg [.q 0 .mv [.tmp 1] 45, .q 1 .mv [.tmp 9] 46, .q 2 .len [.tmp 46] 47, .q 3 (.bin .sub) [.tmp 45, .tmp 47] 48, .q 4 .mv [.tmp 48] 1])
 (.reg [.q 0 .mv [.tmp 0] 49, .q 1 .mv [.tmp 11] 50, .q 2 (.slc 1 true false false) [.tmp 49, .tmp 50] 51, .q 3 .mv [.tmp 51] 0])))))
def L6_21 : LCode :=
 (.seq
 (.reg [.q 0 .mv [.tmp 0] 21, .q 1 .mv [.tmp 1] 22, .e 2 (.call 14) [.tmp 21, .tmp 22] 23, .q 3 .mv [.tmp 23] 20, .q 4 (.ext 0) [.tmp 20] 24, .q 5 (.ext 1) [.tmp 20] 25, .q 6 (.ext 2) [.tmp 20] 26, .q 7 (.ext 3) [.tmp 20] 27, .e 8 (.new #[(.string ⟨#[]⟩), (.string ⟨#[]⟩), (.slice none 0 0), (.int .u32 0), (.int .u8 0), (.int .u8 0), (.bool false), (.bool false)] 26) [] 10, .q 9 .mv [.tmp 24] 9, .n 10 (.st 8) [.tmp 10, .tmp 25], .q 11 .mv [.tmp 26] 11, .q 12 .mv [.tmp 27] 12])
 (.seq
 (.seq
 (.reg [.q 0 .mv [.tmp 12] 28, .q 1 (.bin .eql) [.tmp 28, .const (.int .i64 130)] 29, .q 2 .mv [.tmp 29] 30, .g 3 .mv [.tmp 8] 31 30 true, .g 4 .len [.tmp 31] 32 30 true, .g 5 (.bin .gtr) [.tmp 32, .const (.int .i64 0)] 33 30 true, .q 6 .pick [.tmp 30, .tmp 33, .const (.bool false)] 34])
 (.cond (.tmp 34)
 (.reg [.q 0 .mv [.const (.int .i64 5)] 12])
 .skip))
 L6_0))
def L6_1 : LCode :=
 (.seq
 (.seq
 (.reg [.q 0 .mv [.tmp 8] 13, .q 1 .len [.tmp 13] 14, .q 2 (.bin .eql) [.tmp 14, .const (.int .i64 0)] 15, .q 3 .mv [.tmp 15] 16, .g 4 .mv [.tmp 0] 17 16 false, ⟨5, .e (.call 15), [.tmp 17, .func 16], (some 18), (some (16, false)), [], false⟩, .q 6 .pick [.tmp 16, .const (.bool true), .tmp 18] 19])
 (.cond (.tmp 19)
 .skip
 (.exit 0)))
 (.block 1
 L6_21))
def L6 : LFn :=
 ⟨54, [.t 4, .t 5, .t 6],
 (.seq
 (.reg [.q 0 .mv [.const (.slice none 0 0)] 4, .q 1 .mv [.const (.slice none 0 0)] 5, .q 2 .mv [.const (.int .i64 0)] 6])
 (.seq
 (.reg [.q 0 .mv [.const (.slice none 0 0)] 7])
 (.seq
 (.reg [.q 0 .mv [.const (.slice none 0 0)] 8])
 (.seq
 (.block 0
 (.loop L6_1))
 (.seq
 (.reg [.q 0 .mv [.tmp 7] 52, .q 1 .mv [.tmp 8] 53, .q 2 .mv [.tmp 52] 4, .q 3 .mv [.tmp 53] 5, .q 4 .mv [.const (.int .i64 0)] 6])
 .ret)))))⟩
theorem low6 : lowFn Tryd.prog Tryd.f6 = some L6 := by kernel_rfl
theorem call6 {args : List Value} {H : Heap} {S : Ending → Heap → Prop} (hn : args.length ≤ L6.n) (h : awpC Tryd.prog L6.body (retQ L6.results S) (fun ch H => S (.panicked ch) H) (env0 args) H) : ACalls Tryd.prog 6 args.toArray H S := acalls mixed Tryd.func6 low6 hn h
/-- satchel/gzip.Is -/
def L7 : LFn :=
 ⟨18, [.t 2],
 (.seq
 (.reg [.q 0 .mv [.const (.bool false)] 2])
 (.seq
 (.reg [.q 0 .mv [.tmp 0] 3, .q 1 .len [.tmp 3] 4, .q 2 (.bin .geq) [.tmp 4, .const (.int .i64 2)] 5, .q 3 .mv [.tmp 5] 6, .g 4 .mv [.tmp 0] 7 6 true, .g 5 (.iad 1) [.tmp 7, .const (.int .i64 0)] 8 6 true, .g 6 .ld [.tmp 8] 9 6 true, .g 7 (.bin .eql) [.tmp 9, .const (.int .u8 31)] 10 6 true, .q 8 .pick [.tmp 6, .tmp 10, .const (.bool false)] 11, .q 9 .mv [.tmp 11] 12, .g 10 .mv [.tmp 0] 13 12 true, .g 11 (.iad 1) [.tmp 13, .const (.int .i64 1)] 14 12 true, .g 12 .ld [.tmp 14] 15 12 true, .g 13 (.bin .eql) [.tmp 15, .const (.int .u8 139)] 16 12 true, .q 14 .pick [.tmp 12, .tmp 16, .const (.bool false)] 17, .q 15 .mv [.tmp 17] 2])
 .ret))⟩
theorem low7 : lowFn Tryd.prog Tryd.f7 = some L7 := by kernel_rfl
theorem call7 {args : List Value} {H : Heap} {S : Ending → Heap → Prop} (hn : args.length ≤ L7.n) (h : awpC Tryd.prog L7.body (retQ L7.results S) (fun ch H => S (.panicked ch) H) (env0 args) H) : ACalls Tryd.prog 7 args.toArray H S := acalls mixed Tryd.func7 low7 hn h
/-- satchel/gzip.one -/
def L14 : DFn :=
 ⟨66, [.c 4 none, .c 5 (some 8), .c 6 none, .c 7 none],
 (.reg [.e 0 (.new #[(.slice none 0 0)] 22) [] 4, .e 1 (.new #[(.string ⟨#[]⟩), (.string ⟨#[]⟩), (.slice none 0 0), (.int .u32 0), (.int .u8 0), (.int .u8 0), (.bool false), (.bool false)] 26) [] 5, .e 2 (.new #[(.int .i64 0)] 3) [] 6, .e 3 (.new #[(.int .i64 0)] 27) [] 7]),
 (.seq
 (.seq
 (.reg [.q 0 .mv [.tmp 1] 12, .q 1 (.bin .lss) [.tmp 12, .const (.int .i64 0)] 13, .q 2 .mv [.tmp 13] 14, .g 3 .mv [.tmp 1] 15 14 false, .g 4 (.bin .gtr) [.tmp 15, .const (.int .i64 4194304)] 16 14 false, .q 5 .pick [.tmp 14, .const (.bool true), .tmp 16] 17])
 (.cond (.tmp 17)
 (.seq
 (.reg [.q 0 (.build #[(.string ⟨#[]⟩), (.string ⟨#[]⟩), (.slice none 0 0), (.int .u32 0), (.int .u8 0), (.int .u8 0), (.bool false), (.bool false)] []) [] 18, .n 1 (.st 1) [.tmp 4, .const (.slice none 0 0)], .n 2 (.st 8) [.tmp 5, .tmp 18], .n 3 (.st 1) [.tmp 6, .const (.int .i64 0)], .n 4 (.st 1) [.tmp 7, .const (.int .i64 1)]])
 .ret)
 .skip))
 (.dfr [.q 0 (.mkf (.func 21) 0) [.tmp 4, .tmp 5, .tmp 6, .tmp 7] 19] (.tmp 19) []
 (.seq
 (.reg [.q 0 .mv [.tmp 0] 20, .q 1 (.build #[(.slice none 0 0), (.int .i64 0)] [(0, 1)]) [.tmp 20] 21, .e 2 (.box 45) [.tmp 21] 22, .q 3 .mv [.tmp 22] 8])
 (.seq
 (.reg [.q 0 .mv [.tmp 8] 23, .e 1 (.call 22) [.tmp 23] 24, .n 2 (.st 8) [.tmp 5, .tmp 24]])
 (.seq
 (.reg [.q 0 .mv [.tmp 0] 26, .q 1 .mv [.tmp 8] 27, .q 2 .nilc [.tmp 27] 28, .q 3 (.fad 1) [.tmp 28] 29, .q 4 .ld [.tmp 29] 30, .q 5 (.slc 1 true false false) [.tmp 26, .tmp 30] 31, .q 6 .mv [.tmp 1] 32, .e 7 (.call 23) [.tmp 31, .tmp 32] 33, .q 8 .mv [.tmp 33] 25, .q 9 (.ext 0) [.tmp 25] 34, .q 10 (.ext 1) [.tmp 25] 35, .q 11 (.ext 2) [.tmp 25] 36, .n 12 (.st 1) [.tmp 4, .tmp 34], .q 13 .mv [.tmp 35] 9, .q 14 .mv [.tmp 36] 10])
 (.seq
 (.seq
 (.reg [.q 0 .mv [.tmp 10] 37, .q 1 (.bin .neq) [.tmp 37, .const (.int .i64 0)] 38])
 (.cond (.tmp 38)
 (.reg [.q 0 .mv [.tmp 10] 39, .q 1 (.mki 27) [.tmp 39] 40, .n 2 .pan [.tmp 40]])
 .skip))
 (.seq
 (.reg [.q 0 .mv [.tmp 8] 41, .q 1 .mv [.tmp 9] 42, .e 2 (.call 24) [.tmp 41, .tmp 42] 43])
 (.seq
 (.reg [.q 0 .mv [.tmp 8] 44, .e 1 (.call 24) [.tmp 44, .const (.int .i64 8)] 45, .q 2 .mv [.tmp 45] 11])
 (.seq
 (.seq
 (.reg [.q 0 .mv [.tmp 11] 46, ⟨2, .q .ld, [.tmp 4], (some 48), none, [], true⟩, ⟨1, .e (.call 25), [.tmp 46], (some 47), none, [2], false⟩, .e 3 (.call 26) [.tmp 48] 49, .q 4 (.bin .neq) [.tmp 47, .tmp 49] 50])
 (.cond (.tmp 50)
 (.reg [.q 0 (.mki 27) [.const (.int .i64 83)] 51, .n 1 .pan [.tmp 51]])
 .skip))
 (.seq
 (.seq
 (.reg [.q 0 .mv [.tmp 11] 52, .q 1 (.slc 1 true false false) [.tmp 52, .const (.int .i64 4)] 53, ⟨3, .q .ld, [.tmp 4], (some 55), none, [], true⟩, .q 4 .len [.tmp 55] 56, .q 5 (.cvi .u32) [.tmp 56] 57, ⟨2, .e (.call 25), [.tmp 53], (some 54), none, [3], false⟩, .q 6 (.bin .neq) [.tmp 54, .tmp 57] 58])
 (.cond (.tmp 58)
 (.reg [.q 0 (.mki 27) [.const (.int .i64 84)] 59, .n 1 .pan [.tmp 59]])
 .skip))
 (.seq
 (.reg [.q 0 .ld [.tmp 4] 60, ⟨1, .q (.ldn 8), [.tmp 5], (some 61), none, [], true⟩, .q 2 .mv [.tmp 8] 62, .q 3 .nilc [.tmp 62] 63, .q 4 (.fad 1) [.tmp 63] 64, ⟨5, .q .ld, [.tmp 64], (some 65), none, [], true⟩, ⟨6, .e (.st 1), [.tmp 4, .tmp 60], none, none, [5, 1], false⟩, ⟨7, .e (.st 8), [.tmp 5, .tmp 61], none, none, [5], false⟩, .n 8 (.st 1) [.tmp 6, .tmp 65], .n 9 (.st 1) [.tmp 7, .const (.int .i64 0)]])
 (.code
 .ret))))))))))))⟩
theorem low14 : lowDFn Tryd.prog Tryd.f14 = some L14 := by kernel_rfl
theorem call14 {args : List Value} {H : Heap} {S : Ending → Heap → Prop} (hn : args.length ≤ L14.n) (h : awpC Tryd.prog L14.pre (preDQ Tryd.prog L14 S) (fun ch H => S (.panicked ch) H) (env0 args) H) : ACalls Tryd.prog 14 args.toArray H S := acalls_dq mixed Tryd.func14 low14 hn h
/-- slices.ContainsFunc[[]byte,byte] -/
def L15 : LFn :=
 ⟨9, [.t 4],
 (.seq
 (.reg [.q 0 .mv [.const (.bool false)] 4])
 (.seq
 (.reg [.q 0 .mv [.tmp 0] 5, .q 1 .mv [.tmp 1] 6, .e 2 (.call 27) [.tmp 5, .tmp 6] 7, .q 3 (.bin .geq) [.tmp 7, .const (.int .i64 0)] 8, .q 4 .mv [.tmp 8] 4])
 .ret))⟩
theorem low15 : lowFn Tryd.prog Tryd.f15 = some L15 := by kernel_rfl
theorem call15 {args : List Value} {H : Heap} {S : Ending → Heap → Prop} (hn : args.length ≤ L15.n) (h : awpC Tryd.prog L15.body (retQ L15.results S) (fun ch H => S (.panicked ch) H) (env0 args) H) : ACalls Tryd.prog 15 args.toArray H S := acalls mixed Tryd.func15 low15 hn h
/-- satchel/gzip.Decode$1 -/
def L16 : LFn :=
 ⟨5, [.t 2],
 (.seq
 (.reg [.q 0 .mv [.const (.bool false)] 2])
 (.seq
 (.reg [.q 0 .mv [.tmp 0] 3, .q 1 (.bin .neq) [.tmp 3, .const (.int .u8 0)] 4, .q 2 .mv [.tmp 4] 2])
 .ret))⟩
theorem low16 : lowFn Tryd.prog Tryd.f16 = some L16 := by kernel_rfl
theorem call16 {args : List Value} {H : Heap} {S : Ending → Heap → Prop} (hn : args.length ≤ L16.n) (h : awpC Tryd.prog L16.body (retQ L16.results S) (fun ch H => S (.panicked ch) H) (env0 args) H) : ACalls Tryd.prog 16 args.toArray H S := acalls mixed Tryd.func16 low16 hn h
/-- (*satchel/gzip.reader).head -/
def L22_0 : LCode :=
 (.seq
 (.reg [.q 0 (.ldn 8) [.tmp 4] 77, .n 1 (.st 8) [.tmp 2, .tmp 77]])
 .ret)
def L22_1 : LCode :=
 (.seq
 (.seq
 (.reg [.q 0 (.fad 7) [.tmp 4] 58, .q 1 .ld [.tmp 58] 59])
 (.cond (.tmp 59)
 (.seq
 (.reg [.q 0 .mv [.tmp 0] 60, .q 1 .nilc [.tmp 60] 61, .q 2 (.fad 0) [.tmp 61] 62, .q 3 .ld [.tmp 62] 63, .q 4 .mv [.tmp 0] 64, .q 5 .nilc [.tmp 64] 65, .q 6 (.fad 1) [.tmp 65] 66, .q 7 .ld [.tmp 66] 67, .q 8 (.slc 1 false true false) [.tmp 63, .tmp 67] 68, .e 9 (.call 26) [.tmp 68] 69, .q 10 (.cvi .u16) [.tmp 69] 70, .q 11 .mv [.tmp 70] 5])
 (.seq
 (.reg [.q 0 .mv [.tmp 0] 71, .e 1 (.call 24) [.tmp 71, .const (.int .i64 2)] 72, .e 2 (.call 39) [.tmp 72] 73, .q 3 .mv [.tmp 5] 74, .q 4 (.bin .neq) [.tmp 73, .tmp 74] 75])
 (.cond (.tmp 75)
 (.reg [.q 0 (.mki 27) [.const (.int .i64 82)] 76, .n 1 .pan [.tmp 76]])
 .skip)))
 .skip))
 L22_0)
def L22_2 : LCode :=
 (.seq
 (.seq
 (.reg [.q 0 .mv [.tmp 3] 52, .q 1 (.bin .and) [.tmp 52, .const (.int .u8 16)] 53, .q 2 (.bin .neq) [.tmp 53, .const (.int .u8 0)] 54])
 (.cond (.tmp 54)
 (.reg [.q 0 .mv [.tmp 0] 55, .e 1 (.call 40) [.tmp 55] 56, .q 2 (.fad 1) [.tmp 4] 57, .n 3 (.st 1) [.tmp 57, .tmp 56]])
 .skip))
 L22_1)
def L22_3 : LCode :=
 (.seq
 (.seq
 (.reg [.q 0 .mv [.tmp 3] 46, .q 1 (.bin .and) [.tmp 46, .const (.int .u8 8)] 47, .q 2 (.bin .neq) [.tmp 47, .const (.int .u8 0)] 48])
 (.cond (.tmp 48)
 (.reg [.q 0 .mv [.tmp 0] 49, .e 1 (.call 40) [.tmp 49] 50, .q 2 (.fad 0) [.tmp 4] 51, .n 3 (.st 1) [.tmp 51, .tmp 50]])
 .skip))
 L22_2)
def L22 : LFn :=
 ⟨78, [.c 2 (some 8)],
 (.seq
 (.reg [.e 0 (.new #[(.string ⟨#[]⟩), (.string ⟨#[]⟩), (.slice none 0 0), (.int .u32 0), (.int .u8 0), (.int .u8 0), (.bool false), (.bool false)] 26) [] 2])
 (.seq
 (.reg [.q 0 .mv [.tmp 0] 6, .e 1 (.call 33) [.tmp 6, .func 34, .const (.int .i64 130)] 7])
 (.seq
 (.reg [.q 0 .mv [.tmp 0] 8, .e 1 (.call 33) [.tmp 8, .func 35, .const (.int .i64 130)] 9])
 (.seq
 (.reg [.q 0 .mv [.tmp 0] 10, .e 1 (.call 33) [.tmp 10, .func 36, .const (.int .i64 80)] 11])
 (.seq
 (.reg [.q 0 .mv [.tmp 0] 12, .e 1 (.call 33) [.tmp 12, .func 37, .const (.int .i64 81)] 13, .q 2 .mv [.tmp 13] 3])
 (.seq
 (.reg [.q 0 .mv [.tmp 3] 14, .q 1 (.bin .and) [.tmp 14, .const (.int .u8 1)] 15, .q 2 (.bin .neq) [.tmp 15, .const (.int .u8 0)] 16, .q 3 .mv [.tmp 3] 17, .q 4 (.bin .and) [.tmp 17, .const (.int .u8 2)] 18, .q 5 (.bin .neq) [.tmp 18, .const (.int .u8 0)] 19, .q 6 (.build #[(.string ⟨#[]⟩), (.string ⟨#[]⟩), (.slice none 0 0), (.int .u32 0), (.int .u8 0), (.int .u8 0), (.bool false), (.bool false)] [(6, 1), (7, 1)]) [.tmp 16, .tmp 19] 20, .e 7 (.new #[(.string ⟨#[]⟩), (.string ⟨#[]⟩), (.slice none 0 0), (.int .u32 0), (.int .u8 0), (.int .u8 0), (.bool false), (.bool false)] 26) [] 4, .n 8 (.st 8) [.tmp 4, .tmp 20]])
 (.seq
 (.reg [.q 0 .mv [.tmp 0] 21, .e 1 (.call 24) [.tmp 21, .const (.int .i64 4)] 22, .e 2 (.call 25) [.tmp 22] 23, .q 3 (.fad 3) [.tmp 4] 24, .n 4 (.st 1) [.tmp 24, .tmp 23]])
 (.seq
 (.reg [.q 0 .mv [.tmp 0] 25, .q 4 .mv [.tmp 0] 29, .e 1 (.call 24) [.tmp 25, .const (.int .i64 1)] 26, .q 2 (.iad 1) [.tmp 26, .const (.int .i64 0)] 27, ⟨3, .q .ld, [.tmp 27], (some 28), none, [], true⟩, .q 8 (.fad 4) [.tmp 4] 33, ⟨5, .e (.call 24), [.tmp 29, .const (.int .i64 1)], (some 30), none, [3], false⟩, .q 6 (.iad 1) [.tmp 30, .const (.int .i64 0)] 31, ⟨7, .q .ld, [.tmp 31], (some 32), none, [], true⟩, ⟨9, .e (.st 1), [.tmp 33, .tmp 28], none, none, [7], false⟩, .q 10 (.fad 5) [.tmp 4] 34, .n 11 (.st 1) [.tmp 34, .tmp 32]])
 (.seq
 (.seq
 (.reg [.q 0 .mv [.tmp 3] 35, .q 1 (.bin .and) [.tmp 35, .const (.int .u8 4)] 36, .q 2 (.bin .neq) [.tmp 36, .const (.int .u8 0)] 37])
 (.cond (.tmp 37)
 (.reg [.q 0 .mv [.tmp 0] 38, .q 1 .mv [.tmp 0] 39, .e 2 (.call 24) [.tmp 39, .const (.int .i64 2)] 40, .e 3 (.call 39) [.tmp 40] 41, .q 4 (.cvi .i64) [.tmp 41] 42, .e 5 (.call 24) [.tmp 38, .tmp 42] 43, .e 6 (.call 38) [.tmp 43] 44, .q 7 (.fad 2) [.tmp 4] 45, .n 8 (.st 1) [.tmp 45, .tmp 44]])
 .skip))
 L22_3)))))))))⟩
theorem low22 : lowFn Tryd.prog Tryd.f22 = some L22 := by kernel_rfl
theorem call22 {args : List Value} {H : Heap} {S : Ending → Heap → Prop} (hn : args.length ≤ L22.n) (h : awpC Tryd.prog L22.body (retQ L22.results S) (fun ch H => S (.panicked ch) H) (env0 args) H) : ACalls Tryd.prog 22 args.toArray H S := acalls mixed Tryd.func22 low22 hn h
/-- (*satchel/gzip.reader).take -/
def L24_0 : LCode :=
 (.seq
 (.reg [.q 0 .mv [.tmp 0] 18, .q 1 .nilc [.tmp 18] 19, .q 2 (.fad 1) [.tmp 19] 20, .q 3 .ld [.tmp 20] 21, .q 4 .mv [.tmp 1] 22, .q 5 (.bin .add) [.tmp 21, .tmp 22] 23, .q 6 .nilc [.tmp 18] 24, .q 7 (.fad 1) [.tmp 24] 25, .n 8 (.st 1) [.tmp 25, .tmp 23]])
 (.seq
 (.reg [.q 0 .mv [.tmp 0] 26, .q 1 .nilc [.tmp 26] 27, .q 2 (.fad 0) [.tmp 27] 28, .q 3 .ld [.tmp 28] 29, .q 4 .mv [.tmp 0] 30, .q 5 .nilc [.tmp 30] 31, .q 6 (.fad 1) [.tmp 31] 32, .q 7 .ld [.tmp 32] 33, .q 8 .mv [.tmp 1] 34, .q 9 (.bin .sub) [.tmp 33, .tmp 34] 35, .q 10 .mv [.tmp 0] 36, .q 11 .nilc [.tmp 36] 37, .q 12 (.fad 1) [.tmp 37] 38, .q 13 .ld [.tmp 38] 39, .q 14 (.slc 1 true true false) [.tmp 29, .tmp 35, .tmp 39] 40, .q 15 .mv [.tmp 40] 4])
 .ret))
def L24 : LFn :=
 ⟨41, [.t 4],
 (.seq
 (.reg [.q 0 .mv [.const (.slice none 0 0)] 4])
 (.seq
 (.seq
 (.reg [.q 0 .mv [.tmp 1] 5, .q 1 .mv [.tmp 0] 6, .q 2 .nilc [.tmp 6] 7, .q 3 (.fad 0) [.tmp 7] 8, .q 4 .ld [.tmp 8] 9, .q 5 .len [.tmp 9] 10, .q 6 .mv [.tmp 0] 11, .q 7 .nilc [.tmp 11] 12, .q 8 (.fad 1) [.tmp 12] 13, .q 9 .ld [.tmp 13] 14, .q 10 (.bin .sub) [.tmp 10, .tmp 14] 15, .q 11 (.bin .gtr) [.tmp 5, .tmp 15] 16])
 (.cond (.tmp 16)
 (.reg [.q 0 (.mki 27) [.const (.int .i64 4)] 17, .n 1 .pan [.tmp 17]])
 .skip))
 L24_0))⟩
theorem low24 : lowFn Tryd.prog Tryd.f24 = some L24 := by kernel_rfl
theorem call24 {args : List Value} {H : Heap} {S : Ending → Heap → Prop} (hn : args.length ≤ L24.n) (h : awpC Tryd.prog L24.body (retQ L24.results S) (fun ch H => S (.panicked ch) H) (env0 args) H) : ACalls Tryd.prog 24 args.toArray H S := acalls mixed Tryd.func24 low24 hn h
/-- satchel/gzip.get32 -/
def L25 : LFn :=
 ⟨25, [.t 2],
 (.seq
 (.reg [.q 0 .mv [.const (.int .u32 0)] 2])
 (.seq
 (.reg [.q 0 .mv [.tmp 0] 3, .q 1 (.iad 1) [.tmp 3, .const (.int .i64 0)] 4, .q 2 .ld [.tmp 4] 5, .q 3 (.cvi .u32) [.tmp 5] 6, .q 4 .mv [.tmp 0] 7, .q 5 (.iad 1) [.tmp 7, .const (.int .i64 1)] 8, .q 6 .ld [.tmp 8] 9, .q 7 (.cvi .u32) [.tmp 9] 10, .q 8 (.bin .shl) [.tmp 10, .const (.int .u64 8)] 11, .q 9 (.bin .or) [.tmp 6, .tmp 11] 12, .q 10 .mv [.tmp 0] 13, .q 11 (.iad 1) [.tmp 13, .const (.int .i64 2)] 14, .q 12 .ld [.tmp 14] 15, .q 13 (.cvi .u32) [.tmp 15] 16, .q 14 (.bin .shl) [.tmp 16, .const (.int .u64 16)] 17, .q 15 (.bin .or) [.tmp 12, .tmp 17] 18, .q 16 .mv [.tmp 0] 19, .q 17 (.iad 1) [.tmp 19, .const (.int .i64 3)] 20, .q 18 .ld [.tmp 20] 21, .q 19 (.cvi .u32) [.tmp 21] 22, .q 20 (.bin .shl) [.tmp 22, .const (.int .u64 24)] 23, .q 21 (.bin .or) [.tmp 18, .tmp 23] 24, .q 22 .mv [.tmp 24] 2])
 .ret))⟩
theorem low25 : lowFn Tryd.prog Tryd.f25 = some L25 := by kernel_rfl
theorem call25 {args : List Value} {H : Heap} {S : Ending → Heap → Prop} (hn : args.length ≤ L25.n) (h : awpC Tryd.prog L25.body (retQ L25.results S) (fun ch H => S (.panicked ch) H) (env0 args) H) : ACalls Tryd.prog 25 args.toArray H S := acalls mixed Tryd.func25 low25 hn h
/-- satchel/gzip.Sum -/
def L26_0 : LCode :=
 (.reg [.q 0 (.bin .add) [.tmp 17, .const (.int .i64 1)] 27, .q 1 .mv [.tmp 27] 17])
def L26_1 : LCode :=
 (.seq
 (.reg [.q 0 (.bin .lss) [.tmp 17, .const (.int .i64 8)] 18])
 (.seq
 (.cond (.tmp 18)
 .skip
 (.exit 2))
 (.seq
 (.block 3
 (.seq
 (.reg [.q 0 .mv [.tmp 3] 19, .q 1 (.bin .and) [.tmp 19, .const (.int .u32 1)] 20, .q 2 .mv [.tmp 20] 6])
 (.seq
 (.reg [.q 0 .mv [.tmp 3] 21, .q 1 (.bin .shr) [.tmp 21, .const (.int .u64 1)] 22, .q 2 .mv [.tmp 22] 3])
 (.seq
 (.reg [.q 0 .mv [.tmp 6] 23, .q 1 (.bin .eql) [.tmp 23, .const (.int .u32 1)] 24])
 (.cond (.tmp 24)
 (.reg [.q 0 .mv [.tmp 3] 25, .q 1 (.bin .xor) [.tmp 25, .const (.int .u32 3988292384)] 26, .q 2 .mv [.tmp 26] 3])
 .skip)))))
 L26_0)))
def L26_2 : LCode :=
 (.seq
 (.reg [.q 0 (.bin .lss) [.tmp 9, .tmp 8] 10])
 (.seq
 (.cond (.tmp 10)
 .skip
 (.exit 0))
 (.seq
 (.block 1
 (.seq
 (.reg [.q 0 (.iad 1) [.tmp 7, .tmp 9] 11, .q 1 .ld [.tmp 11] 12, .q 2 .mv [.tmp 12] 5])
 (.seq
 (.reg [.q 0 .mv [.tmp 3] 13, .q 1 .mv [.tmp 5] 14, .q 2 (.cvi .u32) [.tmp 14] 15, .q 3 (.bin .xor) [.tmp 13, .tmp 15] 16, .q 4 .mv [.tmp 16] 3])
 (.seq
 (.reg [.q 0 .mv [.const (.int .i64 0)] 17])
 (.block 2
 (.loop L26_1))))))
 (.reg [.q 0 (.bin .add) [.tmp 9, .const (.int .i64 1)] 28, .q 1 .mv [.tmp 28] 9]))))
def L26_3 : LCode :=
 (.seq
 (.reg [.q 0 .mv [.tmp 3] 29, .q 1 (.un .xor) [.tmp 29] 30, .q 2 .mv [.tmp 30] 2])
 .ret)
def L26 : LFn :=
 ⟨31, [.t 2],
 (.seq
 (.reg [.q 0 .mv [.const (.int .u32 0)] 2])
 (.seq
 (.reg [.q 0 .mv [.const (.int .u32 4294967295)] 3])
 (.seq
 (.seq
 (.reg [.q 0 .mv [.tmp 0] 7, .q 1 .len [.tmp 7] 8, .q 2 .mv [.const (.int .i64 0)] 9])
 (.block 0
 (.loop L26_2)))
 L26_3)))⟩
theorem low26 : lowFn Tryd.prog Tryd.f26 = some L26 := by kernel_rfl
theorem call26 {args : List Value} {H : Heap} {S : Ending → Heap → Prop} (hn : args.length ≤ L26.n) (h : awpC Tryd.prog L26.body (retQ L26.results S) (fun ch H => S (.panicked ch) H) (env0 args) H) : ACalls Tryd.prog 26 args.toArray H S := acalls mixed Tryd.func26 low26 hn h
/-- slices.IndexFunc[[]byte,byte] -/
def L27_0 : LCode :=
 (.seq
 (.reg [.q 0 (.bin .lss) [.tmp 8, .tmp 7] 9])
 (.seq
 (.cond (.tmp 9)
 .skip
 (.exit 0))
 (.seq
 (.block 1
 (.seq
 (.reg [.q 0 .mv [.tmp 8] 10, .q 1 .mv [.tmp 10] 5])
 (.seq
 (.reg [.q 0 .mv [.tmp 1] 11, .q 1 .mv [.tmp 0] 12, .q 2 .mv [.tmp 5] 13, .q 3 (.iad 1) [.tmp 12, .tmp 13] 14, .q 4 .ld [.tmp 14] 15, .e 5 .callv [.tmp 11, .tmp 15] 16])
 (.cond (.tmp 16)
 (.seq
 (.reg [.q 0 .mv [.tmp 5] 17, .q 1 .mv [.tmp 17] 4])
 .ret)
 .skip))))
 (.reg [.q 0 (.bin .add) [.tmp 8, .const (.int .i64 1)] 18, .q 1 .mv [.tmp 18] 8]))))
def L27 : LFn :=
 ⟨19, [.t 4],
 (.seq
 (.reg [.q 0 .mv [.const (.int .i64 0)] 4])
 (.seq
 (.seq
 (.reg [.q 0 .mv [.tmp 0] 6, .q 1 .len [.tmp 6] 7, .q 2 .mv [.const (.int .i64 0)] 8])
 (.block 0
 (.loop L27_0)))
 (.seq
 (.reg [.q 0 .mv [.const (.int .i64 (-1))] 4])
 .ret)))⟩
theorem low27 : lowFn Tryd.prog Tryd.f27 = some L27 := by kernel_rfl
theorem call27 {args : List Value} {H : Heap} {S : Ending → Heap → Prop} (hn : args.length ≤ L27.n) (h : awpC Tryd.prog L27.body (retQ L27.results S) (fun ch H => S (.panicked ch) H) (env0 args) H) : ACalls Tryd.prog 27 args.toArray H S := acalls mixed Tryd.func27 low27 hn h
/-- (*satchel/gzip.reader).must -/
def L33_0 : LCode :=
 (.seq
 (.reg [.q 0 .mv [.tmp 7] 18, .q 1 .mv [.tmp 18] 6])
 .ret)
def L33 : LFn :=
 ⟨19, [.t 6],
 (.seq
 (.reg [.q 0 .mv [.const (.int .u8 0)] 6])
 (.seq
 (.reg [.q 0 .mv [.tmp 0] 8, .e 1 (.call 24) [.tmp 8, .const (.int .i64 1)] 9, .q 2 (.iad 1) [.tmp 9, .const (.int .i64 0)] 10, .q 3 .ld [.tmp 10] 11, .q 4 .mv [.tmp 11] 7])
 (.seq
 (.seq
 (.reg [.q 0 .mv [.tmp 1] 12, .q 1 .mv [.tmp 7] 13, .e 2 .callv [.tmp 12, .tmp 13] 14, .q 3 (.un .not) [.tmp 14] 15])
 (.cond (.tmp 15)
 (.reg [.q 0 .mv [.tmp 2] 16, .q 1 (.mki 27) [.tmp 16] 17, .n 2 .pan [.tmp 17]])
 .skip))
 L33_0)))⟩
theorem low33 : lowFn Tryd.prog Tryd.f33 = some L33 := by kernel_rfl
theorem call33 {args : List Value} {H : Heap} {S : Ending → Heap → Prop} (hn : args.length ≤ L33.n) (h : awpC Tryd.prog L33.body (retQ L33.results S) (fun ch H => S (.panicked ch) H) (env0 args) H) : ACalls Tryd.prog 33 args.toArray H S := acalls mixed Tryd.func33 low33 hn h
/-- (*satchel/gzip.reader).head$1 -/
def L34 : LFn :=
 ⟨5, [.t 2],
 (.seq
 (.reg [.q 0 .mv [.const (.bool false)] 2])
 (.seq
 (.reg [.q 0 .mv [.tmp 0] 3, .q 1 (.bin .eql) [.tmp 3, .const (.int .u8 31)] 4, .q 2 .mv [.tmp 4] 2])
 .ret))⟩
theorem low34 : lowFn Tryd.prog Tryd.f34 = some L34 := by kernel_rfl
theorem call34 {args : List Value} {H : Heap} {S : Ending → Heap → Prop} (hn : args.length ≤ L34.n) (h : awpC Tryd.prog L34.body (retQ L34.results S) (fun ch H => S (.panicked ch) H) (env0 args) H) : ACalls Tryd.prog 34 args.toArray H S := acalls mixed Tryd.func34 low34 hn h
/-- (*satchel/gzip.reader).head$2 -/
def L35 : LFn :=
 ⟨5, [.t 2],
 (.seq
 (.reg [.q 0 .mv [.const (.bool false)] 2])
 (.seq
 (.reg [.q 0 .mv [.tmp 0] 3, .q 1 (.bin .eql) [.tmp 3, .const (.int .u8 139)] 4, .q 2 .mv [.tmp 4] 2])
 .ret))⟩
theorem low35 : lowFn Tryd.prog Tryd.f35 = some L35 := by kernel_rfl
theorem call35 {args : List Value} {H : Heap} {S : Ending → Heap → Prop} (hn : args.length ≤ L35.n) (h : awpC Tryd.prog L35.body (retQ L35.results S) (fun ch H => S (.panicked ch) H) (env0 args) H) : ACalls Tryd.prog 35 args.toArray H S := acalls mixed Tryd.func35 low35 hn h
/-- (*satchel/gzip.reader).head$3 -/
def L36 : LFn :=
 ⟨5, [.t 2],
 (.seq
 (.reg [.q 0 .mv [.const (.bool false)] 2])
 (.seq
 (.reg [.q 0 .mv [.tmp 0] 3, .q 1 (.bin .eql) [.tmp 3, .const (.int .u8 8)] 4, .q 2 .mv [.tmp 4] 2])
 .ret))⟩
theorem low36 : lowFn Tryd.prog Tryd.f36 = some L36 := by kernel_rfl
theorem call36 {args : List Value} {H : Heap} {S : Ending → Heap → Prop} (hn : args.length ≤ L36.n) (h : awpC Tryd.prog L36.body (retQ L36.results S) (fun ch H => S (.panicked ch) H) (env0 args) H) : ACalls Tryd.prog 36 args.toArray H S := acalls mixed Tryd.func36 low36 hn h
/-- (*satchel/gzip.reader).head$4 -/
def L37 : LFn :=
 ⟨5, [.t 2],
 (.seq
 (.reg [.q 0 .mv [.const (.bool false)] 2])
 (.seq
 (.reg [.q 0 .mv [.tmp 0] 3, .q 1 (.bin .leq) [.tmp 3, .const (.int .u8 31)] 4, .q 2 .mv [.tmp 4] 2])
 .ret))⟩
theorem low37 : lowFn Tryd.prog Tryd.f37 = some L37 := by kernel_rfl
theorem call37 {args : List Value} {H : Heap} {S : Ending → Heap → Prop} (hn : args.length ≤ L37.n) (h : awpC Tryd.prog L37.body (retQ L37.results S) (fun ch H => S (.panicked ch) H) (env0 args) H) : ACalls Tryd.prog 37 args.toArray H S := acalls mixed Tryd.func37 low37 hn h
/-- satchel/gzip.get16 -/
def L39 : LFn :=
 ⟨13, [.t 2],
 (.seq
 (.reg [.q 0 .mv [.const (.int .u16 0)] 2])
 (.seq
 (.reg [.q 0 .mv [.tmp 0] 3, .q 1 (.iad 1) [.tmp 3, .const (.int .i64 0)] 4, .q 2 .ld [.tmp 4] 5, .q 3 (.cvi .u16) [.tmp 5] 6, .q 4 .mv [.tmp 0] 7, .q 5 (.iad 1) [.tmp 7, .const (.int .i64 1)] 8, .q 6 .ld [.tmp 8] 9, .q 7 (.cvi .u16) [.tmp 9] 10, .q 8 (.bin .shl) [.tmp 10, .const (.int .u64 8)] 11, .q 9 (.bin .or) [.tmp 6, .tmp 11] 12, .q 10 .mv [.tmp 12] 2])
 .ret))⟩
theorem low39 : lowFn Tryd.prog Tryd.f39 = some L39 := by kernel_rfl
theorem call39 {args : List Value} {H : Heap} {S : Ending → Heap → Prop} (hn : args.length ≤ L39.n) (h : awpC Tryd.prog L39.body (retQ L39.results S) (fun ch H => S (.panicked ch) H) (env0 args) H) : ACalls Tryd.prog 39 args.toArray H S := acalls mixed Tryd.func39 low39 hn h
/-- (*satchel/gzip.reader).text -/
def L40_0 : LCode :=
 (.seq
 (.reg [.q 0 .mv [.tmp 0] 33, .q 1 .nilc [.tmp 33] 34, .q 2 (.fad 1) [.tmp 34] 35, .q 3 .ld [.tmp 35] 36, .q 4 .mv [.tmp 4] 37, .q 5 (.bin .add) [.tmp 37, .const (.int .i64 1)] 38, .q 6 (.bin .add) [.tmp 36, .tmp 38] 39, .q 7 .nilc [.tmp 33] 40, .q 8 (.fad 1) [.tmp 40] 41, .n 9 (.st 1) [.tmp 41, .tmp 39]])
 (.seq
 (.reg [.q 0 .mv [.tmp 3] 42, .q 1 .mv [.tmp 4] 43, .q 2 (.slc 1 false true false) [.tmp 42, .tmp 43] 44, .q 3 .b2s [.tmp 44] 45, .q 4 .mv [.tmp 45] 2])
 .ret))
def L40 : LFn :=
 ⟨46, [.t 2],
 (.seq
 (.reg [.q 0 .mv [.const (.string ⟨#[]⟩)] 2])
 (.seq
 (.reg [.q 0 .mv [.tmp 0] 5, .q 1 .nilc [.tmp 5] 6, .q 2 (.fad 0) [.tmp 6] 7, .q 3 .ld [.tmp 7] 8, .q 4 .mv [.tmp 0] 9, .q 5 .nilc [.tmp 9] 10, .q 6 (.fad 1) [.tmp 10] 11, .q 7 .ld [.tmp 11] 12, .q 8 (.slc 1 true false false) [.tmp 8, .tmp 12] 13, .q 9 .mv [.tmp 13] 3])
 (.seq
 (.reg [.q 0 .mv [.tmp 3] 14, .e 1 (.call 49) [.tmp 14, .const (.int .u8 0)] 15, .q 2 .mv [.tmp 15] 4])
 (.seq
 (.block 0
 (.seq
 (.reg [.q 0 .mv [.tmp 4] 17, .q 1 (.bin .gtr) [.tmp 17, .const (.int .i64 65535)] 18, .q 2 .mv [.tmp 18] 19, .g 3 .mv [.tmp 4] 20 19 false, .g 4 (.bin .lss) [.tmp 20, .const (.int .i64 0)] 21 19 false, .g 5 .mv [.tmp 21] 22 19 false, .g 6 .mv [.tmp 3] 23 22 true, .g 7 .len [.tmp 23] 24 22 true, .g 8 (.bin .gtr) [.tmp 24, .const (.int .i64 65535)] 25 22 true, .g 9 .pick [.tmp 22, .tmp 25, .const (.bool false)] 26 19 false, .q 10 .pick [.tmp 19, .const (.bool true), .tmp 26] 27, .q 11 .mv [.tmp 27] 16])
 (.cond (.tmp 16)
 (.reg [.q 0 (.mki 27) [.const (.int .i64 2)] 28, .n 1 .pan [.tmp 28]])
 (.seq
 (.reg [.q 0 .mv [.tmp 4] 30, .q 1 (.bin .lss) [.tmp 30, .const (.int .i64 0)] 31, .q 2 .mv [.tmp 31] 29])
 (.cond (.tmp 29)
 (.reg [.q 0 (.mki 27) [.const (.int .i64 4)] 32, .n 1 .pan [.tmp 32]])
 .skip)))))
 L40_0))))⟩
theorem low40 : lowFn Tryd.prog Tryd.f40 = some L40 := by kernel_rfl
theorem call40 {args : List Value} {H : Heap} {S : Ending → Heap → Prop} (hn : args.length ≤ L40.n) (h : awpC Tryd.prog L40.body (retQ L40.results S) (fun ch H => S (.panicked ch) H) (env0 args) H) : ACalls Tryd.prog 40 args.toArray H S := acalls mixed Tryd.func40 low40 hn h
end Go.Proofs.YtgbhdpeibiglfaaDoor.Low
