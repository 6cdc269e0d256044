/-
 Functions in short (out of the program's form in Lean, by the kernel).
-/
import Derived.Test.YtgbhdpeibiglfaaDoorSepRec
import Derived.Test.YtgbhdpeibiglfaaDoorProg
namespace Go.Proofs.YtgbhdpeibiglfaaDoor.Low
open Go Go.Proofs.YtgbhdpeibiglfaaDoor.Sep
theorem mixed : Tryd.prog.follows .mixedOrders = true := by kernel_rfl
/-- satchel/satchelref06.Decode -/
def L18 : LFn :=
 ⟨28, [.t 4, .t 5, .t 6],
 (.seq
 (.reg [.q 0 .mv [.const (.slice none 0 0)] 4, .q 1 .mv [.const (.int .i64 0)] 5, .q 2 .mv [.const (.int .i64 0)] 6])
 (.seq
 (.seq
 (.reg [.q 0 .mv [.tmp 1] 8, .q 1 (.bin .lss) [.tmp 8, .const (.int .i64 0)] 9, .q 2 .mv [.tmp 9] 10, .g 3 .mv [.tmp 1] 11 10 false, .g 4 (.bin .gtr) [.tmp 11, .const (.int .i64 4194304)] 12 10 false, .q 5 .pick [.tmp 10, .const (.bool true), .tmp 12] 13])
 (.cond (.tmp 13)
 (.seq
 (.reg [.q 0 .mv [.const (.slice none 0 0)] 4, .q 1 .mv [.const (.int .i64 0)] 5, .q 2 .mv [.const (.int .i64 1)] 6])
 .ret)
 .skip))
 (.seq
 (.reg [.q 0 .mv [.tmp 0] 14, .q 1 .mv [.tmp 1] 15, .e 2 (.call 31) [.tmp 14, .tmp 15] 16, .e 3 (.new #[(.slice none 0 0), (.int .i64 0), (.int .i64 0)] 54) [] 7, .n 4 (.st 3) [.tmp 7, .tmp 16]])
 (.seq
 (.seq
 (.reg [.q 0 (.fad 2) [.tmp 7] 17, .q 1 .ld [.tmp 17] 18, .q 2 (.bin .neq) [.tmp 18, .const (.int .i64 0)] 19])
 (.cond (.tmp 19)
 (.seq
 (.reg [.q 0 (.fad 2) [.tmp 7] 20, .q 1 .ld [.tmp 20] 21, .q 2 .mv [.const (.slice none 0 0)] 4, .q 3 .mv [.const (.int .i64 0)] 5, .q 4 .mv [.tmp 21] 6])
 .ret)
 .skip))
 (.seq
 (.reg [.q 0 (.fad 0) [.tmp 7] 22, .q 1 .ld [.tmp 22] 23, .q 2 (.fad 1) [.tmp 7] 24, .q 3 .ld [.tmp 24] 25, .q 4 (.bin .add) [.tmp 25, .const (.int .i64 7)] 26, .q 5 (.bin .quo) [.tmp 26, .const (.int .i64 8)] 27, .q 6 .mv [.tmp 23] 4, .q 7 .mv [.tmp 27] 5, .q 8 .mv [.const (.int .i64 0)] 6])
 .ret)))))⟩
theorem low18 : lowFn Tryd.prog Tryd.f18 = some L18 := by kernel_rfl
theorem call18 {args : List Value} {H : Heap} {S : Ending → Heap → Prop} (hn : args.length ≤ L18.n) (h : awpC Tryd.prog L18.body (retQ L18.results S) (fun ch H => S (.panicked ch) H) (env0 args) H) : ACalls Tryd.prog 18 args.toArray H S := acalls mixed Tryd.func18 low18 hn h
/-- satchel/satchelref06.Read -/
def L31_0 : LCode :=
 (.seq
 (.seq
 (.reg [.q 0 .mv [.tmp 5] 15, .q 1 .nilc [.tmp 15] 16, .q 2 (.fad 4) [.tmp 16] 17, .q 3 .ld [.tmp 17] 18, .q 4 (.bin .eql) [.tmp 18, .const (.int .i64 0)] 19, .q 5 .mv [.tmp 19] 20, .g 6 .mv [.tmp 6] 21 20 true, .g 7 (.bin .eql) [.tmp 21, .const (.int .i64 0)] 22 20 true, .q 8 .pick [.tmp 20, .tmp 22, .const (.bool false)] 23])
 (.cond (.tmp 23)
 .skip
 (.exit 0)))
 (.block 1
 (.seq
 (.reg [.q 0 .mv [.tmp 5] 24, .e 1 (.call 44) [.tmp 24, .const (.int .i64 1)] 25, .q 2 .mv [.tmp 25] 6])
 (.seq
 (.reg [.q 0 .mv [.tmp 5] 26, .e 1 (.call 44) [.tmp 26, .const (.int .i64 2)] 27, .q 2 .mv [.tmp 27] 7])
 (.block 2
 (.seq
 (.reg [.q 0 .mv [.tmp 5] 32, .q 1 .nilc [.tmp 32] 33, .q 2 (.fad 4) [.tmp 33] 34, .q 3 .ld [.tmp 34] 35, .q 4 (.bin .neq) [.tmp 35, .const (.int .i64 0)] 36, .q 5 .mv [.tmp 36] 31])
 (.cond (.tmp 31)
 .skip
 (.seq
 (.reg [.q 0 .mv [.tmp 7] 38, .q 1 (.bin .eql) [.tmp 38, .const (.int .i64 0)] 39, .q 2 .mv [.tmp 39] 37])
 (.cond (.tmp 37)
 (.reg [.q 0 .mv [.tmp 5] 40, .e 1 (.call 45) [.tmp 40] 41])
 (.seq
 (.reg [.q 0 .mv [.tmp 7] 43, .q 1 (.bin .eql) [.tmp 43, .const (.int .i64 1)] 44, .q 2 .mv [.tmp 44] 42])
 (.cond (.tmp 42)
 (.reg [.q 0 .mv [.tmp 5] 45, .e 1 (.call 47) [] 46, .q 2 (.ext 0) [.tmp 46] 47, .q 3 (.ext 1) [.tmp 46] 48, .e 4 (.call 46) [.tmp 45, .tmp 47, .tmp 48] 49])
 (.seq
 (.reg [.q 0 .mv [.tmp 7] 51, .q 1 (.bin .eql) [.tmp 51, .const (.int .i64 2)] 52, .q 2 .mv [.tmp 52] 50])
 (.cond (.tmp 50)
 (.seq
 (.reg [.q 0 .mv [.tmp 5] 54, .e 1 (.call 48) [.tmp 54] 55, .q 2 .mv [.tmp 55] 53, .q 3 (.ext 0) [.tmp 53] 56, .q 4 (.ext 1) [.tmp 53] 57, .q 5 .mv [.tmp 56] 8, .q 6 .mv [.tmp 57] 9])
 (.reg [.q 0 .mv [.tmp 5] 58, .q 1 .mv [.tmp 8] 59, .q 2 .mv [.tmp 9] 60, .e 3 (.call 46) [.tmp 58, .tmp 59, .tmp 60] 61]))
 (.reg [.q 0 .mv [.tmp 5] 28, .q 1 .nilc [.tmp 28] 29, .q 2 (.fad 4) [.tmp 29] 30, .n 3 (.st 1) [.tmp 30, .const (.int .i64 60)]]))))))))))))))
def L31 : LFn :=
 ⟨75, [.c 4 (some 3)],
 (.seq
 (.reg [.e 0 (.new #[(.slice none 0 0), (.int .i64 0), (.int .i64 0)] 54) [] 4])
 (.seq
 (.reg [.q 0 .mv [.tmp 0] 10, .e 1 (.call 43) [.tmp 10] 11, .q 2 .mv [.tmp 1] 12, .q 3 (.build #[(.slice none 0 0), (.int .i64 0), (.slice none 0 0), (.int .i64 0), (.int .i64 0)] [(0, 1), (3, 1)]) [.tmp 11, .tmp 12] 13, .e 4 (.box 66) [.tmp 13] 14, .q 5 .mv [.tmp 14] 5])
 (.seq
 (.reg [.q 0 .mv [.const (.int .i64 0)] 6])
 (.seq
 (.block 0
 (.loop L31_0))
 (.seq
 (.reg [.q 0 .mv [.tmp 5] 62, .q 1 .nilc [.tmp 62] 63, .q 2 (.fad 2) [.tmp 63] 64, .q 3 .ld [.tmp 64] 65, .q 4 .mv [.tmp 5] 66, .q 5 .nilc [.tmp 66] 67, .q 6 (.fad 1) [.tmp 67] 68, .q 7 .ld [.tmp 68] 69, .q 8 .mv [.tmp 5] 70, .q 9 .nilc [.tmp 70] 71, .q 10 (.fad 4) [.tmp 71] 72, .q 11 .ld [.tmp 72] 73, .q 12 (.build #[(.slice none 0 0), (.int .i64 0), (.int .i64 0)] [(0, 1), (1, 1), (2, 1)]) [.tmp 65, .tmp 69, .tmp 73] 74, .n 13 (.st 3) [.tmp 4, .tmp 74]])
 .ret)))))⟩
theorem low31 : lowFn Tryd.prog Tryd.f31 = some L31 := by kernel_rfl
theorem call31 {args : List Value} {H : Heap} {S : Ending → Heap → Prop} (hn : args.length ≤ L31.n) (h : awpC Tryd.prog L31.body (retQ L31.results S) (fun ch H => S (.panicked ch) H) (env0 args) H) : ACalls Tryd.prog 31 args.toArray H S := acalls mixed Tryd.func31 low31 hn h
/-- (*satchel/satchelref06.state).bits -/
def L44_0 : LCode :=
 (.seq
 (.seq
 (.reg [.q 0 .mv [.tmp 6] 27, .q 1 .mv [.tmp 1] 28, .q 2 (.bin .lss) [.tmp 27, .tmp 28] 29])
 (.cond (.tmp 29)
 .skip
 (.exit 0)))
 (.seq
 (.block 1
 (.reg [.q 0 .mv [.tmp 5] 32, .q 1 .mv [.tmp 0] 33, .q 2 .nilc [.tmp 33] 34, .q 3 (.fad 0) [.tmp 34] 35, .q 4 .ld [.tmp 35] 36, .q 5 .mv [.tmp 0] 37, .q 6 .nilc [.tmp 37] 38, .q 7 (.fad 1) [.tmp 38] 39, .q 8 .ld [.tmp 39] 40, .q 9 .mv [.tmp 6] 41, .q 10 (.bin .add) [.tmp 40, .tmp 41] 42, .q 11 (.iad 1) [.tmp 36, .tmp 42] 43, .q 12 .ld [.tmp 43] 44, .q 13 (.cvi .i64) [.tmp 44] 45, .q 14 .mv [.tmp 6] 46, .q 15 (.bin .shl) [.tmp 45, .tmp 46] 47, .q 16 (.bin .add) [.tmp 32, .tmp 47] 48, .q 17 .mv [.tmp 48] 5]))
 (.reg [.q 0 .mv [.tmp 6] 30, .q 1 (.bin .add) [.tmp 30, .const (.int .i64 1)] 31, .q 2 .mv [.tmp 31] 6])))
def L44 : LFn :=
 ⟨59, [.t 4],
 (.seq
 (.reg [.q 0 .mv [.const (.int .i64 0)] 4])
 (.seq
 (.seq
 (.reg [.q 0 .mv [.tmp 0] 7, .q 1 .nilc [.tmp 7] 8, .q 2 (.fad 4) [.tmp 8] 9, .q 3 .ld [.tmp 9] 10, .q 4 (.bin .neq) [.tmp 10, .const (.int .i64 0)] 11])
 (.cond (.tmp 11)
 (.seq
 (.reg [.q 0 .mv [.const (.int .i64 0)] 4])
 .ret)
 .skip))
 (.seq
 (.seq
 (.reg [.q 0 .mv [.tmp 0] 12, .q 1 .nilc [.tmp 12] 13, .q 2 (.fad 0) [.tmp 13] 14, .q 3 .ld [.tmp 14] 15, .q 4 .len [.tmp 15] 16, .q 5 .mv [.tmp 0] 17, .q 6 .nilc [.tmp 17] 18, .q 7 (.fad 1) [.tmp 18] 19, .q 8 .ld [.tmp 19] 20, .q 9 (.bin .sub) [.tmp 16, .tmp 20] 21, .q 10 .mv [.tmp 1] 22, .q 11 (.bin .lss) [.tmp 21, .tmp 22] 23])
 (.cond (.tmp 23)
 (.seq
 (.reg [.q 0 .mv [.tmp 0] 24, .q 1 .nilc [.tmp 24] 25, .q 2 (.fad 4) [.tmp 25] 26, .n 3 (.st 1) [.tmp 26, .const (.int .i64 4)]])
 (.seq
 (.reg [.q 0 .mv [.const (.int .i64 0)] 4])
 .ret))
 .skip))
 (.seq
 (.reg [.q 0 .mv [.const (.int .i64 0)] 5])
 (.seq
 (.seq
 (.reg [.q 0 .mv [.const (.int .i64 0)] 6])
 (.block 0
 (.loop L44_0)))
 (.seq
 (.reg [.q 0 .mv [.tmp 0] 49, .q 1 .mv [.tmp 0] 50, .q 2 .nilc [.tmp 50] 51, .q 3 (.fad 1) [.tmp 51] 52, .q 4 .ld [.tmp 52] 53, .q 5 .mv [.tmp 1] 54, .q 6 (.bin .add) [.tmp 53, .tmp 54] 55, .q 7 .nilc [.tmp 49] 56, .q 8 (.fad 1) [.tmp 56] 57, .n 9 (.st 1) [.tmp 57, .tmp 55]])
 (.seq
 (.reg [.q 0 .mv [.tmp 5] 58, .q 1 .mv [.tmp 58] 4])
 .ret)))))))⟩
theorem low44 : lowFn Tryd.prog Tryd.f44 = some L44 := by kernel_rfl
theorem call44 {args : List Value} {H : Heap} {S : Ending → Heap → Prop} (hn : args.length ≤ L44.n) (h : awpC Tryd.prog L44.body (retQ L44.results S) (fun ch H => S (.panicked ch) H) (env0 args) H) : ACalls Tryd.prog 44 args.toArray H S := acalls mixed Tryd.func44 low44 hn h
/-- (*satchel/satchelref06.state).stored -/
def L45_0 : LCode :=
 (.seq
 (.seq
 (.reg [.q 0 .mv [.tmp 0] 6, .q 1 .nilc [.tmp 6] 7, .q 2 (.fad 1) [.tmp 7] 8, .q 3 .ld [.tmp 8] 9, .q 4 (.bin .rem) [.tmp 9, .const (.int .i64 8)] 10, .q 5 (.bin .neq) [.tmp 10, .const (.int .i64 0)] 11])
 (.cond (.tmp 11)
 .skip
 (.exit 0)))
 (.block 1
 (.reg [.q 0 .mv [.tmp 0] 12, .q 1 .nilc [.tmp 12] 13, .q 2 (.fad 1) [.tmp 13] 14, .q 3 .ld [.tmp 14] 15, .q 4 (.bin .add) [.tmp 15, .const (.int .i64 1)] 16, .q 5 .nilc [.tmp 12] 17, .q 6 (.fad 1) [.tmp 17] 18, .n 7 (.st 1) [.tmp 18, .tmp 16]])))
def L45_1 : LCode :=
 (.seq
 (.seq
 (.reg [.q 0 .mv [.tmp 4] 59, .q 1 .mv [.tmp 2] 60, .q 2 (.bin .lss) [.tmp 59, .tmp 60] 61, .q 3 .mv [.tmp 61] 62, .g 4 .mv [.tmp 0] 63 62 true, .g 5 .nilc [.tmp 63] 64 62 true, .g 6 (.fad 4) [.tmp 64] 65 62 true, .g 7 .ld [.tmp 65] 66 62 true, .g 8 (.bin .eql) [.tmp 66, .const (.int .i64 0)] 67 62 true, .q 9 .pick [.tmp 62, .tmp 67, .const (.bool false)] 68])
 (.cond (.tmp 68)
 .skip
 (.exit 2)))
 (.seq
 (.block 3
 (.seq
 (.reg [.q 0 .mv [.tmp 0] 71, .e 1 (.call 44) [.tmp 71, .const (.int .i64 8)] 72, .q 2 .mv [.tmp 72] 5])
 (.reg [.q 0 .mv [.tmp 0] 73, .q 1 .mv [.tmp 5] 74, .q 2 (.cvi .u8) [.tmp 74] 75, .e 3 (.lits 5 #[(.int .u8 0)] 1 [(0, 1)]) [.tmp 75] 76, .e 4 (.call 58) [.tmp 73, .tmp 76] 77])))
 (.reg [.q 0 .mv [.tmp 4] 69, .q 1 (.bin .add) [.tmp 69, .const (.int .i64 1)] 70, .q 2 .mv [.tmp 70] 4])))
def L45_2 : LCode :=
 (.seq
 (.reg [.q 0 .mv [.const (.int .i64 0)] 4])
 (.block 2
 (.loop L45_1)))
def L45_3 : LCode :=
 (.seq
 (.seq
 (.reg [.q 0 .mv [.tmp 0] 37, .q 1 .nilc [.tmp 37] 38, .q 2 (.fad 4) [.tmp 38] 39, .q 3 .ld [.tmp 39] 40, .q 4 (.bin .eql) [.tmp 40, .const (.int .i64 0)] 41, .q 5 .mv [.tmp 41] 42, .g 6 .mv [.tmp 2] 43 42 true, .g 7 .mv [.tmp 0] 44 42 true, .g 8 .nilc [.tmp 44] 45 42 true, .g 9 (.fad 3) [.tmp 45] 46 42 true, .g 10 .ld [.tmp 46] 47 42 true, .g 11 .mv [.tmp 0] 48 42 true, .g 12 .nilc [.tmp 48] 49 42 true, .g 13 (.fad 2) [.tmp 49] 50 42 true, .g 14 .ld [.tmp 50] 51 42 true, .g 15 .len [.tmp 51] 52 42 true, .g 16 (.bin .sub) [.tmp 47, .tmp 52] 53 42 true, .g 17 (.bin .gtr) [.tmp 43, .tmp 53] 54 42 true, .q 18 .pick [.tmp 42, .tmp 54, .const (.bool false)] 55])
 (.cond (.tmp 55)
 (.reg [.q 0 .mv [.tmp 0] 56, .q 1 .nilc [.tmp 56] 57, .q 2 (.fad 4) [.tmp 57] 58, .n 3 (.st 1) [.tmp 58, .const (.int .i64 32)]])
 .skip))
 L45_2)
def L45 : LFn :=
 ⟨78, [],
 (.seq
 (.block 0
 (.loop L45_0))
 (.seq
 (.reg [.q 0 .mv [.tmp 0] 19, .e 1 (.call 44) [.tmp 19, .const (.int .i64 16)] 20, .q 2 .mv [.tmp 0] 21, .e 3 (.call 44) [.tmp 21, .const (.int .i64 16)] 22, .q 4 .mv [.tmp 20] 2, .q 5 .mv [.tmp 22] 3])
 (.seq
 (.seq
 (.reg [.q 0 .mv [.tmp 0] 23, .q 1 .nilc [.tmp 23] 24, .q 2 (.fad 4) [.tmp 24] 25, .q 3 .ld [.tmp 25] 26, .q 4 (.bin .eql) [.tmp 26, .const (.int .i64 0)] 27, .q 5 .mv [.tmp 27] 28, .g 6 .mv [.tmp 2] 29 28 true, .g 7 .mv [.tmp 3] 30 28 true, .g 8 (.bin .add) [.tmp 29, .tmp 30] 31 28 true, .g 9 (.bin .neq) [.tmp 31, .const (.int .i64 65535)] 32 28 true, .q 10 .pick [.tmp 28, .tmp 32, .const (.bool false)] 33])
 (.cond (.tmp 33)
 (.reg [.q 0 .mv [.tmp 0] 34, .q 1 .nilc [.tmp 34] 35, .q 2 (.fad 4) [.tmp 35] 36, .n 3 (.st 1) [.tmp 36, .const (.int .i64 61)]])
 .skip))
 L45_3)))⟩
theorem low45 : lowFn Tryd.prog Tryd.f45 = some L45 := by kernel_rfl
theorem call45 {args : List Value} {H : Heap} {S : Ending → Heap → Prop} (hn : args.length ≤ L45.n) (h : awpC Tryd.prog L45.body (retQ L45.results S) (fun ch H => S (.panicked ch) H) (env0 args) H) : ACalls Tryd.prog 45 args.toArray H S := acalls mixed Tryd.func45 low45 hn h
/-- (*satchel/satchelref06.state).symbols -/
def L46_0 : LCode :=
 (.seq
 (.seq
 (.reg [.q 0 .mv [.tmp 0] 7, .q 1 .nilc [.tmp 7] 8, .q 2 (.fad 4) [.tmp 8] 9, .q 3 .ld [.tmp 9] 10, .q 4 (.bin .eql) [.tmp 10, .const (.int .i64 0)] 11])
 (.cond (.tmp 11)
 .skip
 (.exit 0)))
 (.block 1
 (.seq
 (.reg [.q 0 .mv [.tmp 0] 12, .q 1 .mv [.tmp 1] 13, .e 2 (.call 59) [.tmp 12, .tmp 13] 14, .q 3 .mv [.tmp 14] 6])
 (.block 2
 (.seq
 (.reg [.q 0 .mv [.tmp 0] 20, .q 1 .nilc [.tmp 20] 21, .q 2 (.fad 4) [.tmp 21] 22, .q 3 .ld [.tmp 22] 23, .q 4 (.bin .neq) [.tmp 23, .const (.int .i64 0)] 24, .q 5 .mv [.tmp 24] 19])
 (.cond (.tmp 19)
 .skip
 (.seq
 (.reg [.q 0 .mv [.tmp 6] 26, .q 1 (.bin .lss) [.tmp 26, .const (.int .i64 256)] 27, .q 2 .mv [.tmp 27] 25])
 (.cond (.tmp 25)
 (.reg [.q 0 .mv [.tmp 0] 28, .q 1 .mv [.tmp 6] 29, .q 2 (.cvi .u8) [.tmp 29] 30, .e 3 (.lits 5 #[(.int .u8 0)] 1 [(0, 1)]) [.tmp 30] 31, .e 4 (.call 58) [.tmp 28, .tmp 31] 32])
 (.seq
 (.reg [.q 0 .mv [.tmp 6] 34, .q 1 (.bin .eql) [.tmp 34, .const (.int .i64 256)] 35, .q 2 .mv [.tmp 35] 33])
 (.cond (.tmp 33)
 .ret
 (.reg [.q 0 .mv [.tmp 0] 15, .q 1 .mv [.tmp 6] 16, .q 2 .mv [.tmp 2] 17, .e 3 (.call 60) [.tmp 15, .tmp 16, .tmp 17] 18])))))))))))
def L46 : LFn :=
 ⟨36, [],
 (.block 0
 (.loop L46_0))⟩
theorem low46 : lowFn Tryd.prog Tryd.f46 = some L46 := by kernel_rfl
theorem call46 {args : List Value} {H : Heap} {S : Ending → Heap → Prop} (hn : args.length ≤ L46.n) (h : awpC Tryd.prog L46.body (retQ L46.results S) (fun ch H => S (.panicked ch) H) (env0 args) H) : ACalls Tryd.prog 46 args.toArray H S := acalls mixed Tryd.func46 low46 hn h
/-- satchel/satchelref06.Fixed -/
def L47_0 : LCode :=
 (.reg [.q 0 .mv [.tmp 2] 23, .q 1 .mv [.tmp 5] 24, .e 2 (.lits 3 #[(.int .i64 0)] 1 [(0, 1)]) [.tmp 24] 25, .e 3 (.app 3 1 8 #[(.int .i64 0)]) [.tmp 23, .tmp 25] 26, .q 4 .mv [.tmp 26] 2])
def L47_1 : LCode :=
 (.seq
 (.seq
 (.reg [.q 0 .mv [.tmp 4] 17, .q 1 (.bin .geq) [.tmp 17, .const (.int .i64 256)] 18, .q 2 .mv [.tmp 18] 19, .g 3 .mv [.tmp 4] 20 19 true, .g 4 (.bin .lss) [.tmp 20, .const (.int .i64 280)] 21 19 true, .q 5 .pick [.tmp 19, .tmp 21, .const (.bool false)] 22])
 (.cond (.tmp 22)
 (.reg [.q 0 .mv [.const (.int .i64 7)] 5])
 .skip))
 L47_0)
def L47_2 : LCode :=
 (.reg [.q 0 .mv [.tmp 4] 9, .q 1 (.bin .add) [.tmp 9, .const (.int .i64 1)] 10, .q 2 .mv [.tmp 10] 4])
def L47_3 : LCode :=
 (.seq
 (.seq
 (.reg [.q 0 .mv [.tmp 4] 7, .q 1 (.bin .lss) [.tmp 7, .const (.int .i64 288)] 8])
 (.cond (.tmp 8)
 .skip
 (.exit 0)))
 (.seq
 (.block 1
 (.seq
 (.reg [.q 0 .mv [.const (.int .i64 8)] 5])
 (.seq
 (.seq
 (.reg [.q 0 .mv [.tmp 4] 11, .q 1 (.bin .geq) [.tmp 11, .const (.int .i64 144)] 12, .q 2 .mv [.tmp 12] 13, .g 3 .mv [.tmp 4] 14 13 true, .g 4 (.bin .lss) [.tmp 14, .const (.int .i64 256)] 15 13 true, .q 5 .pick [.tmp 13, .tmp 15, .const (.bool false)] 16])
 (.cond (.tmp 16)
 (.reg [.q 0 .mv [.const (.int .i64 9)] 5])
 .skip))
 L47_1)))
 L47_2))
def L47_4 : LCode :=
 (.seq
 (.seq
 (.reg [.q 0 .mv [.tmp 6] 27, .q 1 (.bin .lss) [.tmp 27, .const (.int .i64 32)] 28])
 (.cond (.tmp 28)
 .skip
 (.exit 2)))
 (.seq
 (.block 3
 (.reg [.q 0 .mv [.tmp 3] 31, .e 1 (.lits 3 #[(.int .i64 0)] 1 [(0, 1)]) [.const (.int .i64 5)] 32, .e 2 (.app 3 1 8 #[(.int .i64 0)]) [.tmp 31, .tmp 32] 33, .q 3 .mv [.tmp 33] 3]))
 (.reg [.q 0 .mv [.tmp 6] 29, .q 1 (.bin .add) [.tmp 29, .const (.int .i64 1)] 30, .q 2 .mv [.tmp 30] 6])))
def L47 : LFn :=
 ⟨36, [.t 0, .t 1],
 (.seq
 (.reg [.q 0 .mv [.const (.slice none 0 0)] 0, .q 1 .mv [.const (.slice none 0 0)] 1])
 (.seq
 (.reg [.q 0 .mv [.const (.slice none 0 0)] 2, .q 1 .mv [.const (.slice none 0 0)] 3])
 (.seq
 (.seq
 (.reg [.q 0 .mv [.const (.int .i64 0)] 4])
 (.block 0
 (.loop L47_3)))
 (.seq
 (.seq
 (.reg [.q 0 .mv [.const (.int .i64 0)] 6])
 (.block 2
 (.loop L47_4)))
 (.seq
 (.reg [.q 0 .mv [.tmp 2] 34, .q 1 .mv [.tmp 3] 35, .q 2 .mv [.tmp 34] 0, .q 3 .mv [.tmp 35] 1])
 .ret)))))⟩
theorem low47 : lowFn Tryd.prog Tryd.f47 = some L47 := by kernel_rfl
theorem call47 {args : List Value} {H : Heap} {S : Ending → Heap → Prop} (hn : args.length ≤ L47.n) (h : awpC Tryd.prog L47.body (retQ L47.results S) (fun ch H => S (.panicked ch) H) (env0 args) H) : ACalls Tryd.prog 47 args.toArray H S := acalls mixed Tryd.func47 low47 hn h
/-- (*satchel/satchelref06.state).own -/
def L48_0 : LCode :=
 (.seq
 (.seq
 (.reg [.q 0 .mv [.tmp 9] 44, .q 1 .mv [.tmp 6] 45, .q 2 (.bin .lss) [.tmp 44, .tmp 45] 46])
 (.cond (.tmp 46)
 .skip
 (.exit 0)))
 (.seq
 (.block 1
 (.reg [.q 0 .mv [.tmp 8] 49, .q 1 .mv [.tmp 9] 50, .q 2 (.iada 19 1) [.tmp 7, .tmp 50] 51, ⟨3, .q .ld, [.tmp 51], (some 52), none, [], true⟩, .q 4 .mv [.tmp 0] 53, ⟨5, .e (.call 44), [.tmp 53, .const (.int .i64 3)], (some 54), none, [3], false⟩, .q 6 (.iad 1) [.tmp 49, .tmp 52] 55, .n 7 (.st 1) [.tmp 55, .tmp 54]]))
 (.reg [.q 0 .mv [.tmp 9] 47, .q 1 (.bin .add) [.tmp 47, .const (.int .i64 1)] 48, .q 2 .mv [.tmp 48] 9])))
def L48_1 : LCode :=
 (.seq
 (.seq
 (.reg [.q 0 .mv [.tmp 14] 146, .q 1 .mv [.tmp 12] 147, .q 2 (.bin .lss) [.tmp 146, .tmp 147] 148])
 (.cond (.tmp 148)
 .skip
 (.exit 5)))
 (.seq
 (.block 6
 (.reg [.q 0 .mv [.tmp 10] 151, .q 1 .mv [.tmp 13] 152, .e 2 (.lits 3 #[(.int .i64 0)] 1 [(0, 1)]) [.tmp 152] 153, .e 3 (.app 3 1 8 #[(.int .i64 0)]) [.tmp 151, .tmp 153] 154, .q 4 .mv [.tmp 154] 10]))
 (.reg [.q 0 .mv [.tmp 14] 149, .q 1 (.bin .add) [.tmp 149, .const (.int .i64 1)] 150, .q 2 .mv [.tmp 150] 14])))
def L48_2 : LCode :=
 (.seq
 (.reg [.q 0 .mv [.const (.int .i64 0)] 14])
 (.block 5
 (.loop L48_1)))
def L48_3 : LCode :=
 (.seq
 (.seq
 (.reg [.q 0 .mv [.tmp 0] 128, .q 1 .nilc [.tmp 128] 129, .q 2 (.fad 4) [.tmp 129] 130, .q 3 .ld [.tmp 130] 131, .q 4 (.bin .eql) [.tmp 131, .const (.int .i64 0)] 132, .q 5 .mv [.tmp 132] 133, .g 6 .mv [.tmp 10] 134 133 true, .g 7 .len [.tmp 134] 135 133 true, .g 8 .mv [.tmp 12] 136 133 true, .g 9 (.bin .add) [.tmp 135, .tmp 136] 137 133 true, .g 10 .mv [.tmp 4] 138 133 true, .g 11 .mv [.tmp 5] 139 133 true, .g 12 (.bin .add) [.tmp 138, .tmp 139] 140 133 true, .g 13 (.bin .gtr) [.tmp 137, .tmp 140] 141 133 true, .q 14 .pick [.tmp 133, .tmp 141, .const (.bool false)] 142])
 (.cond (.tmp 142)
 (.reg [.q 0 .mv [.tmp 0] 143, .q 1 .nilc [.tmp 143] 144, .q 2 (.fad 4) [.tmp 144] 145, .n 3 (.st 1) [.tmp 145, .const (.int .i64 62)]])
 .skip))
 L48_2)
def L48_4 : LCode :=
 (.seq
 (.reg [.q 0 .mv [.tmp 11] 102, .q 1 .mv [.const (.int .i64 1)] 12, .q 2 .mv [.tmp 102] 13])
 (.seq
 (.seq
 (.reg [.q 0 .mv [.tmp 11] 103])
 (.block 4
 (.seq
 (.reg [.q 0 (.bin .eql) [.tmp 103, .const (.int .i64 16)] 105, .q 1 .mv [.tmp 105] 104])
 (.cond (.tmp 104)
 (.seq
 (.reg [.q 0 .mv [.tmp 0] 106, .e 1 (.call 44) [.tmp 106, .const (.int .i64 2)] 107, .q 2 (.bin .add) [.tmp 107, .const (.int .i64 3)] 108, .q 3 .mv [.tmp 108] 12])
 (.seq
 (.reg [.q 0 .mv [.tmp 10] 109, .q 1 .len [.tmp 109] 110, .q 2 (.bin .gtr) [.tmp 110, .const (.int .i64 0)] 111])
 (.cond (.tmp 111)
 (.reg [.q 0 .mv [.tmp 10] 112, .q 1 .mv [.tmp 10] 113, .q 2 .len [.tmp 113] 114, .q 3 (.bin .sub) [.tmp 114, .const (.int .i64 1)] 115, .q 4 (.iad 1) [.tmp 112, .tmp 115] 116, .q 5 .ld [.tmp 116] 117, .q 6 .mv [.tmp 117] 13])
 .skip)))
 (.seq
 (.reg [.q 0 (.bin .eql) [.tmp 103, .const (.int .i64 17)] 119, .q 1 .mv [.tmp 119] 118])
 (.cond (.tmp 118)
 (.seq
 (.reg [.q 0 .mv [.tmp 0] 120, .e 1 (.call 44) [.tmp 120, .const (.int .i64 3)] 121, .q 2 (.bin .add) [.tmp 121, .const (.int .i64 3)] 122, .q 3 .mv [.tmp 122] 12])
 (.reg [.q 0 .mv [.const (.int .i64 0)] 13]))
 (.seq
 (.reg [.q 0 (.bin .eql) [.tmp 103, .const (.int .i64 18)] 124, .q 1 .mv [.tmp 124] 123])
 (.cond (.tmp 123)
 (.seq
 (.reg [.q 0 .mv [.tmp 0] 125, .e 1 (.call 44) [.tmp 125, .const (.int .i64 7)] 126, .q 2 (.bin .add) [.tmp 126, .const (.int .i64 11)] 127, .q 3 .mv [.tmp 127] 12])
 (.reg [.q 0 .mv [.const (.int .i64 0)] 13]))
 .skip))))))))
 L48_3))
def L48_5 : LCode :=
 (.seq
 (.seq
 (.reg [.q 0 .mv [.tmp 0] 69, .q 1 .nilc [.tmp 69] 70, .q 2 (.fad 4) [.tmp 70] 71, .q 3 .ld [.tmp 71] 72, .q 4 (.bin .eql) [.tmp 72, .const (.int .i64 0)] 73, .q 5 .mv [.tmp 73] 74, .g 6 .mv [.tmp 10] 75 74 true, .g 7 .len [.tmp 75] 76 74 true, .g 8 .mv [.tmp 4] 77 74 true, .g 9 .mv [.tmp 5] 78 74 true, .g 10 (.bin .add) [.tmp 77, .tmp 78] 79 74 true, .g 11 (.bin .lss) [.tmp 76, .tmp 79] 80 74 true, .q 12 .pick [.tmp 74, .tmp 80, .const (.bool false)] 81])
 (.cond (.tmp 81)
 .skip
 (.exit 2)))
 (.block 3
 (.seq
 (.reg [.q 0 .mv [.tmp 0] 82, .q 1 .mv [.tmp 8] 83, .e 2 (.call 59) [.tmp 82, .tmp 83] 84, .q 3 .mv [.tmp 84] 11])
 (.seq
 (.seq
 (.reg [.q 0 .mv [.tmp 0] 85, .q 1 .nilc [.tmp 85] 86, .q 2 (.fad 4) [.tmp 86] 87, .q 3 .ld [.tmp 87] 88, .q 4 (.bin .eql) [.tmp 88, .const (.int .i64 0)] 89, .q 5 .mv [.tmp 89] 90, .g 6 .mv [.tmp 11] 91 90 true, .g 7 (.bin .eql) [.tmp 91, .const (.int .i64 16)] 92 90 true, .q 8 .pick [.tmp 90, .tmp 92, .const (.bool false)] 93, .q 9 .mv [.tmp 93] 94, .g 10 .mv [.tmp 10] 95 94 true, .g 11 .len [.tmp 95] 96 94 true, .g 12 (.bin .eql) [.tmp 96, .const (.int .i64 0)] 97 94 true, .q 13 .pick [.tmp 94, .tmp 97, .const (.bool false)] 98])
 (.cond (.tmp 98)
 (.reg [.q 0 .mv [.tmp 0] 99, .q 1 .nilc [.tmp 99] 100, .q 2 (.fad 4) [.tmp 100] 101, .n 3 (.st 1) [.tmp 101, .const (.int .i64 62)]])
 .skip))
 L48_4))))
def L48_6 : LCode :=
 (.seq
 (.reg [.q 0 .mv [.tmp 15] 188, .q 1 .mv [.tmp 16] 189, .q 2 .mv [.tmp 188] 2, .q 3 .mv [.tmp 189] 3])
 .ret)
def L48_7 : LCode :=
 (.seq
 (.seq
 (.reg [.q 0 .mv [.tmp 0] 155, .q 1 .nilc [.tmp 155] 156, .q 2 (.fad 4) [.tmp 156] 157, .q 3 .ld [.tmp 157] 158, .q 4 (.bin .neq) [.tmp 158, .const (.int .i64 0)] 159])
 (.cond (.tmp 159)
 (.seq
 (.reg [.q 0 .mv [.const (.slice none 0 0)] 2, .q 1 .mv [.const (.slice none 0 0)] 3])
 .ret)
 .skip))
 (.seq
 (.reg [.q 0 .mv [.tmp 10] 160, .q 1 .mv [.tmp 4] 161, .q 2 (.slc 1 false true false) [.tmp 160, .tmp 161] 162, .q 3 .mv [.tmp 10] 163, .q 4 .mv [.tmp 4] 164, .q 5 (.slc 1 true false false) [.tmp 163, .tmp 164] 165, .q 6 .mv [.tmp 162] 15, .q 7 .mv [.tmp 165] 16])
 (.seq
 (.seq
 (.reg [.q 0 .mv [.tmp 15] 166, .q 1 (.iad 1) [.tmp 166, .const (.int .i64 256)] 167, .q 2 .ld [.tmp 167] 168, .q 3 (.bin .eql) [.tmp 168, .const (.int .i64 0)] 169, .q 4 .mv [.tmp 169] 170, .g 5 .mv [.tmp 15] 171 170 false, ⟨6, .e (.call 61), [.tmp 171, .const (.bool true)], (some 172), (some (170, false)), [], false⟩, .g 7 (.un .not) [.tmp 172] 173 170 false, .q 8 .pick [.tmp 170, .const (.bool true), .tmp 173] 174, .q 9 .mv [.tmp 174] 175, .g 10 .mv [.tmp 16] 176 175 false, ⟨11, .e (.call 62), [.tmp 176], (some 177), (some (175, false)), [], false⟩, .g 12 (.un .not) [.tmp 177] 178 175 false, .g 13 .mv [.tmp 178] 179 175 false, .g 14 .mv [.tmp 16] 180 179 true, ⟨15, .e (.call 61), [.tmp 180, .const (.bool true)], (some 181), (some (179, true)), [], false⟩, .g 16 (.un .not) [.tmp 181] 182 179 true, .g 17 .pick [.tmp 179, .tmp 182, .const (.bool false)] 183 175 false, .q 18 .pick [.tmp 175, .const (.bool true), .tmp 183] 184])
 (.cond (.tmp 184)
 (.reg [.q 0 .mv [.tmp 0] 185, .q 1 .nilc [.tmp 185] 186, .q 2 (.fad 4) [.tmp 186] 187, .n 3 (.st 1) [.tmp 187, .const (.int .i64 62)]])
 .skip))
 L48_6)))
def L48_8 : LCode :=
 (.seq
 (.reg [.q 0 .mv [.const (.slice none 0 0)] 10])
 (.seq
 (.block 2
 (.loop L48_5))
 L48_7))
def L48_9 : LCode :=
 (.seq
 (.reg [.q 0 (.build (Array.replicate 19 (.int .i64 0)) [(0, 1), (1, 1), (2, 1), (3, 1), (4, 1), (5, 1), (6, 1), (7, 1), (8, 1), (9, 1), (10, 1), (11, 1), (12, 1), (13, 1), (14, 1), (15, 1), (16, 1), (17, 1), (18, 1)]) [.const (.int .i64 16), .const (.int .i64 17), .const (.int .i64 18), .const (.int .i64 0), .const (.int .i64 8), .const (.int .i64 7), .const (.int .i64 9), .const (.int .i64 6), .const (.int .i64 10), .const (.int .i64 5), .const (.int .i64 11), .const (.int .i64 4), .const (.int .i64 12), .const (.int .i64 3), .const (.int .i64 13), .const (.int .i64 2), .const (.int .i64 14), .const (.int .i64 1), .const (.int .i64 15)] 42, .e 1 (.new (Array.replicate 19 (.int .i64 0)) 86) [] 7, .n 2 (.st 19) [.tmp 7, .tmp 42]])
 (.seq
 (.reg [.e 0 (.mks 3 1 8 #[(.int .i64 0)]) [.const (.int .i64 19), .const (.int .i64 19)] 43, .q 1 .mv [.tmp 43] 8])
 (.seq
 (.seq
 (.reg [.q 0 .mv [.const (.int .i64 0)] 9])
 (.block 0
 (.loop L48_0)))
 (.seq
 (.seq
 (.reg [.q 0 .mv [.tmp 0] 56, .q 1 .nilc [.tmp 56] 57, .q 2 (.fad 4) [.tmp 57] 58, .q 3 .ld [.tmp 58] 59, .q 4 (.bin .eql) [.tmp 59, .const (.int .i64 0)] 60, .q 5 .mv [.tmp 60] 61, .g 6 .mv [.tmp 8] 62 61 true, ⟨7, .e (.call 61), [.tmp 62, .const (.bool false)], (some 63), (some (61, true)), [], false⟩, .g 8 (.un .not) [.tmp 63] 64 61 true, .q 9 .pick [.tmp 61, .tmp 64, .const (.bool false)] 65])
 (.cond (.tmp 65)
 (.reg [.q 0 .mv [.tmp 0] 66, .q 1 .nilc [.tmp 66] 67, .q 2 (.fad 4) [.tmp 67] 68, .n 3 (.st 1) [.tmp 68, .const (.int .i64 62)]])
 .skip))
 L48_8))))
def L48 : LFn :=
 ⟨190, [.t 2, .t 3],
 (.seq
 (.reg [.q 0 .mv [.const (.slice none 0 0)] 2, .q 1 .mv [.const (.slice none 0 0)] 3])
 (.seq
 (.reg [.q 0 .mv [.tmp 0] 17, .e 1 (.call 44) [.tmp 17, .const (.int .i64 5)] 18, .q 2 (.bin .add) [.tmp 18, .const (.int .i64 257)] 19, .q 3 .mv [.tmp 0] 20, .e 4 (.call 44) [.tmp 20, .const (.int .i64 5)] 21, .q 5 (.bin .add) [.tmp 21, .const (.int .i64 1)] 22, .q 6 .mv [.tmp 0] 23, .e 7 (.call 44) [.tmp 23, .const (.int .i64 4)] 24, .q 8 (.bin .add) [.tmp 24, .const (.int .i64 4)] 25, .q 9 .mv [.tmp 19] 4, .q 10 .mv [.tmp 22] 5, .q 11 .mv [.tmp 25] 6])
 (.seq
 (.seq
 (.reg [.q 0 .mv [.tmp 0] 26, .q 1 .nilc [.tmp 26] 27, .q 2 (.fad 4) [.tmp 27] 28, .q 3 .ld [.tmp 28] 29, .q 4 (.bin .eql) [.tmp 29, .const (.int .i64 0)] 30, .q 5 .mv [.tmp 30] 31, .g 6 .mv [.tmp 4] 32 31 true, .g 7 (.bin .gtr) [.tmp 32, .const (.int .i64 286)] 33 31 true, .g 8 .mv [.tmp 33] 34 31 true, .g 9 .mv [.tmp 5] 35 34 false, .g 10 (.bin .gtr) [.tmp 35, .const (.int .i64 30)] 36 34 false, .g 11 .pick [.tmp 34, .const (.bool true), .tmp 36] 37 31 true, .q 12 .pick [.tmp 31, .tmp 37, .const (.bool false)] 38])
 (.cond (.tmp 38)
 (.reg [.q 0 .mv [.tmp 0] 39, .q 1 .nilc [.tmp 39] 40, .q 2 (.fad 4) [.tmp 40] 41, .n 3 (.st 1) [.tmp 41, .const (.int .i64 62)]])
 .skip))
 L48_9)))⟩
theorem low48 : lowFn Tryd.prog Tryd.f48 = some L48 := by kernel_rfl
theorem call48 {args : List Value} {H : Heap} {S : Ending → Heap → Prop} (hn : args.length ≤ L48.n) (h : awpC Tryd.prog L48.body (retQ L48.results S) (fun ch H => S (.panicked ch) H) (env0 args) H) : ACalls Tryd.prog 48 args.toArray H S := acalls mixed Tryd.func48 low48 hn h
/-- (*satchel/satchelref06.state).put -/
def L58 : LFn :=
 ⟨34, [],
 (.seq
 (.seq
 (.reg [.q 0 .mv [.tmp 0] 4, .q 1 .nilc [.tmp 4] 5, .q 2 (.fad 4) [.tmp 5] 6, .q 3 .ld [.tmp 6] 7, .q 4 (.bin .neq) [.tmp 7, .const (.int .i64 0)] 8])
 (.cond (.tmp 8)
 .ret
 .skip))
 (.seq
 (.seq
 (.reg [.q 0 .mv [.tmp 1] 9, .q 1 .len [.tmp 9] 10, .q 2 .mv [.tmp 0] 11, .q 3 .nilc [.tmp 11] 12, .q 4 (.fad 3) [.tmp 12] 13, .q 5 .ld [.tmp 13] 14, .q 6 .mv [.tmp 0] 15, .q 7 .nilc [.tmp 15] 16, .q 8 (.fad 2) [.tmp 16] 17, .q 9 .ld [.tmp 17] 18, .q 10 .len [.tmp 18] 19, .q 11 (.bin .sub) [.tmp 14, .tmp 19] 20, .q 12 (.bin .gtr) [.tmp 10, .tmp 20] 21])
 (.cond (.tmp 21)
 (.seq
 (.reg [.q 0 .mv [.tmp 0] 22, .q 1 .nilc [.tmp 22] 23, .q 2 (.fad 4) [.tmp 23] 24, .n 3 (.st 1) [.tmp 24, .const (.int .i64 32)]])
 .ret)
 .skip))
 (.reg [.q 0 .mv [.tmp 0] 25, .q 1 .mv [.tmp 0] 26, .q 2 .nilc [.tmp 26] 27, .q 3 (.fad 2) [.tmp 27] 28, .q 4 .ld [.tmp 28] 29, .q 5 .mv [.tmp 1] 30, .e 6 (.app 5 1 1 #[(.int .u8 0)]) [.tmp 29, .tmp 30] 31, .q 7 .nilc [.tmp 25] 32, .q 8 (.fad 2) [.tmp 32] 33, .n 9 (.st 1) [.tmp 33, .tmp 31]])))⟩
theorem low58 : lowFn Tryd.prog Tryd.f58 = some L58 := by kernel_rfl
theorem call58 {args : List Value} {H : Heap} {S : Ending → Heap → Prop} (hn : args.length ≤ L58.n) (h : awpC Tryd.prog L58.body (retQ L58.results S) (fun ch H => S (.panicked ch) H) (env0 args) H) : ACalls Tryd.prog 58 args.toArray H S := acalls mixed Tryd.func58 low58 hn h
/-- (*satchel/satchelref06.state).symbol -/
def L59 : LFn :=
 ⟨49, [.t 4],
 (.seq
 (.reg [.q 0 .mv [.const (.int .i64 0)] 4])
 (.seq
 (.seq
 (.reg [.q 0 .mv [.tmp 0] 8, .q 1 .nilc [.tmp 8] 9, .q 2 (.fad 4) [.tmp 9] 10, .q 3 .ld [.tmp 10] 11, .q 4 (.bin .neq) [.tmp 11, .const (.int .i64 0)] 12])
 (.cond (.tmp 12)
 (.seq
 (.reg [.q 0 .mv [.const (.int .i64 0)] 4])
 .ret)
 .skip))
 (.seq
 (.reg [.q 0 .mv [.tmp 1] 14, .q 1 .mv [.tmp 0] 15, .q 2 .nilc [.tmp 15] 16, .q 3 (.fad 0) [.tmp 16] 17, .q 4 .ld [.tmp 17] 18, .q 5 .mv [.tmp 0] 19, .q 6 .nilc [.tmp 19] 20, .q 7 (.fad 1) [.tmp 20] 21, .q 8 .ld [.tmp 21] 22, .q 9 (.slc 1 true false false) [.tmp 18, .tmp 22] 23, .e 10 (.call 78) [.tmp 14, .tmp 23] 24, .q 11 .mv [.tmp 24] 13, .q 12 (.ext 0) [.tmp 13] 25, .q 13 (.ext 1) [.tmp 13] 26, .q 14 (.ext 2) [.tmp 13] 27, .q 15 .mv [.tmp 25] 5, .q 16 .mv [.tmp 26] 6, .q 17 .mv [.tmp 27] 7])
 (.seq
 (.seq
 (.reg [.q 0 .mv [.tmp 7] 28])
 (.block 0
 (.seq
 (.reg [.q 0 (.bin .eql) [.tmp 28, .const (.int .i64 0)] 33, .q 1 .mv [.tmp 33] 32])
 (.cond (.tmp 32)
 (.seq
 (.reg [.q 0 .mv [.tmp 0] 34, .q 1 .mv [.tmp 0] 35, .q 2 .nilc [.tmp 35] 36, .q 3 (.fad 1) [.tmp 36] 37, .q 4 .ld [.tmp 37] 38, .q 5 .mv [.tmp 6] 39, .q 6 (.bin .add) [.tmp 38, .tmp 39] 40, .q 7 .nilc [.tmp 34] 41, .q 8 (.fad 1) [.tmp 41] 42, .n 9 (.st 1) [.tmp 42, .tmp 40]])
 (.seq
 (.reg [.q 0 .mv [.tmp 5] 43, .q 1 .mv [.tmp 43] 4])
 .ret))
 (.seq
 (.reg [.q 0 (.bin .eql) [.tmp 28, .const (.int .i64 50)] 45, .q 1 .mv [.tmp 45] 44])
 (.cond (.tmp 44)
 (.reg [.q 0 .mv [.tmp 0] 46, .q 1 .nilc [.tmp 46] 47, .q 2 (.fad 4) [.tmp 47] 48, .n 3 (.st 1) [.tmp 48, .const (.int .i64 4)]])
 (.reg [.q 0 .mv [.tmp 0] 29, .q 1 .nilc [.tmp 29] 30, .q 2 (.fad 4) [.tmp 30] 31, .n 3 (.st 1) [.tmp 31, .const (.int .i64 63)]])))))))
 (.seq
 (.reg [.q 0 .mv [.const (.int .i64 0)] 4])
 .ret)))))⟩
theorem low59 : lowFn Tryd.prog Tryd.f59 = some L59 := by kernel_rfl
theorem call59 {args : List Value} {H : Heap} {S : Ending → Heap → Prop} (hn : args.length ≤ L59.n) (h : awpC Tryd.prog L59.body (retQ L59.results S) (fun ch H => S (.panicked ch) H) (env0 args) H) : ACalls Tryd.prog 59 args.toArray H S := acalls mixed Tryd.func59 low59 hn h
/-- (*satchel/satchelref06.state).match -/
def L60_0 : LCode :=
 (.seq
 (.seq
 (.reg [.q 0 .mv [.tmp 11] 102, .q 1 .mv [.tmp 8] 103, .q 2 (.bin .lss) [.tmp 102, .tmp 103] 104])
 (.cond (.tmp 104)
 .skip
 (.exit 1)))
 (.seq
 (.block 2
 (.reg [.q 0 .mv [.tmp 0] 107, .q 1 .mv [.tmp 0] 108, .q 2 .nilc [.tmp 108] 109, .q 3 (.fad 2) [.tmp 109] 110, ⟨4, .q .ld, [.tmp 110], (some 111), none, [], true⟩, .q 5 .mv [.tmp 0] 112, .q 6 .nilc [.tmp 112] 113, .q 7 (.fad 2) [.tmp 113] 114, .q 8 .ld [.tmp 114] 115, .q 9 .mv [.tmp 0] 116, .q 10 .nilc [.tmp 116] 117, .q 11 (.fad 2) [.tmp 117] 118, .q 12 .ld [.tmp 118] 119, .q 13 .len [.tmp 119] 120, .q 14 .mv [.tmp 10] 121, .q 15 (.bin .sub) [.tmp 120, .tmp 121] 122, .q 16 (.iad 1) [.tmp 115, .tmp 122] 123, .q 17 .ld [.tmp 123] 124, ⟨18, .e (.lits 5 #[(.int .u8 0)] 1 [(0, 1)]), [.tmp 124], (some 125), none, [4], false⟩, .e 19 (.app 5 1 1 #[(.int .u8 0)]) [.tmp 111, .tmp 125] 126, .q 20 .nilc [.tmp 107] 127, .q 21 (.fad 2) [.tmp 127] 128, .n 22 (.st 1) [.tmp 128, .tmp 126]]))
 (.reg [.q 0 .mv [.tmp 11] 105, .q 1 (.bin .add) [.tmp 105, .const (.int .i64 1)] 106, .q 2 .mv [.tmp 106] 11])))
def L60_1 : LCode :=
 (.seq
 (.seq
 (.reg [.q 0 .mv [.tmp 0] 54, .q 1 .nilc [.tmp 54] 55, .q 2 (.fad 4) [.tmp 55] 56, .q 3 .ld [.tmp 56] 57, .q 4 (.bin .neq) [.tmp 57, .const (.int .i64 0)] 58])
 (.cond (.tmp 58)
 .ret
 .skip))
 (.seq
 (.reg [.q 0 .mv [.tmp 9] 60, .e 1 (.call 80) [.tmp 60] 61, .q 2 .mv [.tmp 61] 59, .q 3 (.ext 0) [.tmp 59] 62, .q 4 (.ext 1) [.tmp 59] 63, .q 5 .mv [.tmp 62] 6, .q 6 .mv [.tmp 63] 7])
 (.seq
 (.reg [.q 0 .mv [.tmp 6] 64, .q 1 .mv [.tmp 0] 65, .q 2 .mv [.tmp 7] 66, .e 3 (.call 44) [.tmp 65, .tmp 66] 67, .q 4 (.bin .add) [.tmp 64, .tmp 67] 68, .q 5 .mv [.tmp 68] 10])
 (.seq
 (.block 0
 (.seq
 (.reg [.q 0 .mv [.tmp 0] 70, .q 1 .nilc [.tmp 70] 71, .q 2 (.fad 4) [.tmp 71] 72, .q 3 .ld [.tmp 72] 73, .q 4 (.bin .neq) [.tmp 73, .const (.int .i64 0)] 74, .q 5 .mv [.tmp 74] 69])
 (.cond (.tmp 69)
 .ret
 (.seq
 (.reg [.q 0 .mv [.tmp 10] 76, .q 1 .mv [.tmp 0] 77, .q 2 .nilc [.tmp 77] 78, .q 3 (.fad 2) [.tmp 78] 79, .q 4 .ld [.tmp 79] 80, .q 5 .len [.tmp 80] 81, .q 6 (.bin .gtr) [.tmp 76, .tmp 81] 82, .q 7 .mv [.tmp 82] 75])
 (.cond (.tmp 75)
 (.seq
 (.reg [.q 0 .mv [.tmp 0] 83, .q 1 .nilc [.tmp 83] 84, .q 2 (.fad 4) [.tmp 84] 85, .n 3 (.st 1) [.tmp 85, .const (.int .i64 64)]])
 .ret)
 (.seq
 (.reg [.q 0 .mv [.tmp 8] 87, .q 1 .mv [.tmp 0] 88, .q 2 .nilc [.tmp 88] 89, .q 3 (.fad 3) [.tmp 89] 90, .q 4 .ld [.tmp 90] 91, .q 5 .mv [.tmp 0] 92, .q 6 .nilc [.tmp 92] 93, .q 7 (.fad 2) [.tmp 93] 94, .q 8 .ld [.tmp 94] 95, .q 9 .len [.tmp 95] 96, .q 10 (.bin .sub) [.tmp 91, .tmp 96] 97, .q 11 (.bin .gtr) [.tmp 87, .tmp 97] 98, .q 12 .mv [.tmp 98] 86])
 (.cond (.tmp 86)
 (.seq
 (.reg [.q 0 .mv [.tmp 0] 99, .q 1 .nilc [.tmp 99] 100, .q 2 (.fad 4) [.tmp 100] 101, .n 3 (.st 1) [.tmp 101, .const (.int .i64 32)]])
 .ret)
 .skip)))))))
 (.seq
 (.reg [.q 0 .mv [.const (.int .i64 0)] 11])
 (.block 1
 (.loop L60_0)))))))
def L60_2 : LCode :=
 (.seq
 (.reg [.q 0 .mv [.tmp 0] 39, .q 1 .mv [.tmp 2] 40, .e 2 (.call 59) [.tmp 39, .tmp 40] 41, .q 3 .mv [.tmp 41] 9])
 (.seq
 (.seq
 (.reg [.q 0 .mv [.tmp 0] 42, .q 1 .nilc [.tmp 42] 43, .q 2 (.fad 4) [.tmp 43] 44, .q 3 .ld [.tmp 44] 45, .q 4 (.bin .eql) [.tmp 45, .const (.int .i64 0)] 46, .q 5 .mv [.tmp 46] 47, .g 6 .mv [.tmp 9] 48 47 true, .g 7 (.bin .gtr) [.tmp 48, .const (.int .i64 29)] 49 47 true, .q 8 .pick [.tmp 47, .tmp 49, .const (.bool false)] 50])
 (.cond (.tmp 50)
 (.reg [.q 0 .mv [.tmp 0] 51, .q 1 .nilc [.tmp 51] 52, .q 2 (.fad 4) [.tmp 52] 53, .n 3 (.st 1) [.tmp 53, .const (.int .i64 63)]])
 .skip))
 L60_1))
def L60 : LFn :=
 ⟨129, [],
 (.seq
 (.seq
 (.reg [.q 0 .mv [.tmp 1] 12, .q 1 (.bin .gtr) [.tmp 12, .const (.int .i64 285)] 13])
 (.cond (.tmp 13)
 (.seq
 (.reg [.q 0 .mv [.tmp 0] 14, .q 1 .nilc [.tmp 14] 15, .q 2 (.fad 4) [.tmp 15] 16, .n 3 (.st 1) [.tmp 16, .const (.int .i64 63)]])
 .ret)
 .skip))
 (.seq
 (.reg [.q 0 .mv [.tmp 1] 18, .e 1 (.call 79) [.tmp 18] 19, .q 2 .mv [.tmp 19] 17, .q 3 (.ext 0) [.tmp 17] 20, .q 4 (.ext 1) [.tmp 17] 21, .q 5 .mv [.tmp 20] 6, .q 6 .mv [.tmp 21] 7])
 (.seq
 (.reg [.q 0 .mv [.tmp 6] 22, .q 1 .mv [.tmp 0] 23, .q 2 .mv [.tmp 7] 24, .e 3 (.call 44) [.tmp 23, .tmp 24] 25, .q 4 (.bin .add) [.tmp 22, .tmp 25] 26, .q 5 .mv [.tmp 26] 8])
 (.seq
 (.seq
 (.reg [.q 0 .mv [.tmp 0] 27, .q 1 .nilc [.tmp 27] 28, .q 2 (.fad 4) [.tmp 28] 29, .q 3 .ld [.tmp 29] 30, .q 4 (.bin .eql) [.tmp 30, .const (.int .i64 0)] 31, .q 5 .mv [.tmp 31] 32, .g 6 .mv [.tmp 2] 33 32 true, ⟨7, .e (.call 62), [.tmp 33], (some 34), (some (32, true)), [], false⟩, .q 8 .pick [.tmp 32, .tmp 34, .const (.bool false)] 35])
 (.cond (.tmp 35)
 (.reg [.q 0 .mv [.tmp 0] 36, .q 1 .nilc [.tmp 36] 37, .q 2 (.fad 4) [.tmp 37] 38, .n 3 (.st 1) [.tmp 38, .const (.int .i64 63)]])
 .skip))
 L60_2))))⟩
theorem low60 : lowFn Tryd.prog Tryd.f60 = some L60 := by kernel_rfl
theorem call60 {args : List Value} {H : Heap} {S : Ending → Heap → Prop} (hn : args.length ≤ L60.n) (h : awpC Tryd.prog L60.body (retQ L60.results S) (fun ch H => S (.panicked ch) H) (env0 args) H) : ACalls Tryd.prog 60 args.toArray H S := acalls mixed Tryd.func60 low60 hn h
/-- satchel/satchelref06.good -/
def L61_0 : LCode :=
 (.reg [.q 0 .mv [.tmp 9] 25, .q 1 (.bin .add) [.tmp 25, .const (.int .i64 1)] 26, .q 2 .mv [.tmp 26] 9])
def L61_1 : LCode :=
 (.seq
 (.seq
 (.reg [.q 0 .mv [.tmp 9] 21, .q 1 .mv [.tmp 0] 22, .q 2 .len [.tmp 22] 23, .q 3 (.bin .lss) [.tmp 21, .tmp 23] 24])
 (.cond (.tmp 24)
 .skip
 (.exit 0)))
 (.seq
 (.block 1
 (.seq
 (.reg [.q 0 .mv [.tmp 0] 27, .q 1 .mv [.tmp 9] 28, .q 2 (.iad 1) [.tmp 27, .tmp 28] 29, .q 3 .ld [.tmp 29] 30, .q 4 (.bin .gtr) [.tmp 30, .const (.int .i64 0)] 31])
 (.cond (.tmp 31)
 (.seq
 (.reg [.q 0 .mv [.tmp 7] 32, .q 1 (.bin .add) [.tmp 32, .const (.int .i64 1)] 33, .q 2 .mv [.tmp 33] 7])
 (.reg [.q 0 .mv [.tmp 8] 34, .q 1 .mv [.tmp 0] 35, .q 2 .mv [.tmp 9] 36, .q 3 (.iad 1) [.tmp 35, .tmp 36] 37, .q 4 .ld [.tmp 37] 38, .q 5 (.bin .add) [.tmp 34, .tmp 38] 39, .q 6 .mv [.tmp 39] 8]))
 .skip)))
 L61_0))
def L61 : LFn :=
 ⟨49, [.t 4],
 (.seq
 (.reg [.q 0 .mv [.const (.bool false)] 4])
 (.seq
 (.reg [.q 0 .mv [.tmp 0] 11, .e 1 (.call 81) [.tmp 11] 12, .q 2 .mv [.tmp 12] 10, .q 3 (.ext 0) [.tmp 10] 13, .q 4 (.ext 1) [.tmp 10] 14, .q 5 .mv [.tmp 13] 5, .q 6 .mv [.tmp 14] 6])
 (.seq
 (.seq
 (.reg [.q 0 .mv [.tmp 5] 15, .q 1 (.un .not) [.tmp 15] 16, .q 2 .mv [.tmp 16] 17, .g 3 .mv [.tmp 6] 18 17 false, .q 4 .pick [.tmp 17, .const (.bool true), .tmp 18] 19])
 (.cond (.tmp 19)
 (.seq
 (.reg [.q 0 .mv [.tmp 5] 20, .q 1 .mv [.tmp 20] 4])
 .ret)
 .skip))
 (.seq
 (.reg [.q 0 .mv [.const (.int .i64 0)] 7, .q 1 .mv [.const (.int .i64 0)] 8])
 (.seq
 (.seq
 (.reg [.q 0 .mv [.const (.int .i64 0)] 9])
 (.block 0
 (.loop L61_1)))
 (.seq
 (.reg [.q 0 .mv [.tmp 1] 40, .q 1 .mv [.tmp 40] 41, .g 2 .mv [.tmp 7] 42 41 true, .g 3 (.bin .eql) [.tmp 42, .const (.int .i64 1)] 43 41 true, .q 4 .pick [.tmp 41, .tmp 43, .const (.bool false)] 44, .q 5 .mv [.tmp 44] 45, .g 6 .mv [.tmp 8] 46 45 true, .g 7 (.bin .eql) [.tmp 46, .const (.int .i64 1)] 47 45 true, .q 8 .pick [.tmp 45, .tmp 47, .const (.bool false)] 48, .q 9 .mv [.tmp 48] 4])
 .ret))))))⟩
theorem low61 : lowFn Tryd.prog Tryd.f61 = some L61 := by kernel_rfl
theorem call61 {args : List Value} {H : Heap} {S : Ending → Heap → Prop} (hn : args.length ≤ L61.n) (h : awpC Tryd.prog L61.body (retQ L61.results S) (fun ch H => S (.panicked ch) H) (env0 args) H) : ACalls Tryd.prog 61 args.toArray H S := acalls mixed Tryd.func61 low61 hn h
/-- satchel/satchelref06.none -/
def L62_0 : LCode :=
 (.seq
 (.seq
 (.reg [.q 0 .mv [.tmp 3] 4, .q 1 .mv [.tmp 0] 5, .q 2 .len [.tmp 5] 6, .q 3 (.bin .lss) [.tmp 4, .tmp 6] 7])
 (.cond (.tmp 7)
 .skip
 (.exit 0)))
 (.seq
 (.block 1
 (.seq
 (.reg [.q 0 .mv [.tmp 0] 10, .q 1 .mv [.tmp 3] 11, .q 2 (.iad 1) [.tmp 10, .tmp 11] 12, .q 3 .ld [.tmp 12] 13, .q 4 (.bin .gtr) [.tmp 13, .const (.int .i64 0)] 14])
 (.cond (.tmp 14)
 (.seq
 (.reg [.q 0 .mv [.const (.bool false)] 2])
 .ret)
 .skip)))
 (.reg [.q 0 .mv [.tmp 3] 8, .q 1 (.bin .add) [.tmp 8, .const (.int .i64 1)] 9, .q 2 .mv [.tmp 9] 3])))
def L62 : LFn :=
 ⟨15, [.t 2],
 (.seq
 (.reg [.q 0 .mv [.const (.bool false)] 2])
 (.seq
 (.seq
 (.reg [.q 0 .mv [.const (.int .i64 0)] 3])
 (.block 0
 (.loop L62_0)))
 (.seq
 (.reg [.q 0 .mv [.const (.bool true)] 2])
 .ret)))⟩
theorem low62 : lowFn Tryd.prog Tryd.f62 = some L62 := by kernel_rfl
theorem call62 {args : List Value} {H : Heap} {S : Ending → Heap → Prop} (hn : args.length ≤ L62.n) (h : awpC Tryd.prog L62.body (retQ L62.results S) (fun ch H => S (.panicked ch) H) (env0 args) H) : ACalls Tryd.prog 62 args.toArray H S := acalls mixed Tryd.func62 low62 hn h
/-- satchel/satchelref06.Length -/
def L79_0 : LCode :=
 (.seq
 (.seq
 (.reg [.q 0 .mv [.tmp 6] 9, .q 1 .mv [.tmp 0] 10, .q 2 (.bin .lss) [.tmp 9, .tmp 10] 11])
 (.cond (.tmp 11)
 .skip
 (.exit 0)))
 (.seq
 (.block 1
 (.seq
 (.seq
 (.reg [.q 0 .mv [.tmp 6] 14, .q 1 (.bin .geq) [.tmp 14, .const (.int .i64 264)] 15, .q 2 .mv [.tmp 15] 16, .g 3 .mv [.tmp 6] 17 16 true, .g 4 (.bin .sub) [.tmp 17, .const (.int .i64 264)] 18 16 true, .g 5 (.bin .rem) [.tmp 18, .const (.int .i64 4)] 19 16 true, .g 6 (.bin .eql) [.tmp 19, .const (.int .i64 0)] 20 16 true, .q 7 .pick [.tmp 16, .tmp 20, .const (.bool false)] 21])
 (.cond (.tmp 21)
 (.seq
 (.reg [.q 0 .mv [.tmp 4] 22, .q 1 .mv [.tmp 5] 23, .q 2 (.bin .shl) [.const (.int .i64 1), .tmp 23] 24, .q 3 (.bin .add) [.tmp 22, .tmp 24] 25, .q 4 .mv [.tmp 25] 4])
 (.seq
 (.reg [.q 0 .mv [.tmp 6] 26, .q 1 (.bin .sub) [.tmp 26, .const (.int .i64 264)] 27, .q 2 (.bin .quo) [.tmp 27, .const (.int .i64 4)] 28, .q 3 (.bin .add) [.tmp 28, .const (.int .i64 1)] 29, .q 4 .mv [.tmp 29] 5])
 (.exit 1)))
 .skip))
 (.reg [.q 0 .mv [.tmp 4] 30, .q 1 .mv [.tmp 5] 31, .q 2 (.bin .shl) [.const (.int .i64 1), .tmp 31] 32, .q 3 (.bin .add) [.tmp 30, .tmp 32] 33, .q 4 .mv [.tmp 33] 4])))
 (.reg [.q 0 .mv [.tmp 6] 12, .q 1 (.bin .add) [.tmp 12, .const (.int .i64 1)] 13, .q 2 .mv [.tmp 13] 6])))
def L79_1 : LCode :=
 (.seq
 (.reg [.q 0 .mv [.tmp 4] 34, .q 1 .mv [.tmp 5] 35, .q 2 .mv [.tmp 34] 2, .q 3 .mv [.tmp 35] 3])
 .ret)
def L79 : LFn :=
 ⟨36, [.t 2, .t 3],
 (.seq
 (.reg [.q 0 .mv [.const (.int .i64 0)] 2, .q 1 .mv [.const (.int .i64 0)] 3])
 (.seq
 (.seq
 (.reg [.q 0 .mv [.tmp 0] 7, .q 1 (.bin .eql) [.tmp 7, .const (.int .i64 285)] 8])
 (.cond (.tmp 8)
 (.seq
 (.reg [.q 0 .mv [.const (.int .i64 258)] 2, .q 1 .mv [.const (.int .i64 0)] 3])
 .ret)
 .skip))
 (.seq
 (.reg [.q 0 .mv [.const (.int .i64 3)] 4, .q 1 .mv [.const (.int .i64 0)] 5])
 (.seq
 (.seq
 (.reg [.q 0 .mv [.const (.int .i64 257)] 6])
 (.block 0
 (.loop L79_0)))
 L79_1))))⟩
theorem low79 : lowFn Tryd.prog Tryd.f79 = some L79 := by kernel_rfl
theorem call79 {args : List Value} {H : Heap} {S : Ending → Heap → Prop} (hn : args.length ≤ L79.n) (h : awpC Tryd.prog L79.body (retQ L79.results S) (fun ch H => S (.panicked ch) H) (env0 args) H) : ACalls Tryd.prog 79 args.toArray H S := acalls mixed Tryd.func79 low79 hn h
/-- satchel/satchelref06.Distance -/
def L80_0 : LCode :=
 (.reg [.q 0 .mv [.tmp 6] 10, .q 1 (.bin .add) [.tmp 10, .const (.int .i64 1)] 11, .q 2 .mv [.tmp 11] 6])
def L80_1 : LCode :=
 (.seq
 (.seq
 (.reg [.q 0 .mv [.tmp 6] 7, .q 1 .mv [.tmp 0] 8, .q 2 (.bin .lss) [.tmp 7, .tmp 8] 9])
 (.cond (.tmp 9)
 .skip
 (.exit 0)))
 (.seq
 (.block 1
 (.seq
 (.reg [.q 0 .mv [.tmp 4] 12, .q 1 .mv [.tmp 5] 13, .q 2 (.bin .shl) [.const (.int .i64 1), .tmp 13] 14, .q 3 (.bin .add) [.tmp 12, .tmp 14] 15, .q 4 .mv [.tmp 15] 4])
 (.seq
 (.reg [.q 0 .mv [.tmp 6] 16, .q 1 (.bin .geq) [.tmp 16, .const (.int .i64 3)] 17, .q 2 .mv [.tmp 17] 18, .g 3 .mv [.tmp 6] 19 18 true, .g 4 (.bin .rem) [.tmp 19, .const (.int .i64 2)] 20 18 true, .g 5 (.bin .eql) [.tmp 20, .const (.int .i64 1)] 21 18 true, .q 6 .pick [.tmp 18, .tmp 21, .const (.bool false)] 22])
 (.cond (.tmp 22)
 (.reg [.q 0 .mv [.tmp 5] 23, .q 1 (.bin .add) [.tmp 23, .const (.int .i64 1)] 24, .q 2 .mv [.tmp 24] 5])
 .skip))))
 L80_0))
def L80 : LFn :=
 ⟨27, [.t 2, .t 3],
 (.seq
 (.reg [.q 0 .mv [.const (.int .i64 0)] 2, .q 1 .mv [.const (.int .i64 0)] 3])
 (.seq
 (.reg [.q 0 .mv [.const (.int .i64 1)] 4, .q 1 .mv [.const (.int .i64 0)] 5])
 (.seq
 (.seq
 (.reg [.q 0 .mv [.const (.int .i64 0)] 6])
 (.block 0
 (.loop L80_1)))
 (.seq
 (.reg [.q 0 .mv [.tmp 4] 25, .q 1 .mv [.tmp 5] 26, .q 2 .mv [.tmp 25] 2, .q 3 .mv [.tmp 26] 3])
 .ret))))⟩
theorem low80 : lowFn Tryd.prog Tryd.f80 = some L80 := by kernel_rfl
theorem call80 {args : List Value} {H : Heap} {S : Ending → Heap → Prop} (hn : args.length ≤ L80.n) (h : awpC Tryd.prog L80.body (retQ L80.results S) (fun ch H => S (.panicked ch) H) (env0 args) H) : ACalls Tryd.prog 80 args.toArray H S := acalls mixed Tryd.func80 low80 hn h
end Go.Proofs.YtgbhdpeibiglfaaDoor.Low
