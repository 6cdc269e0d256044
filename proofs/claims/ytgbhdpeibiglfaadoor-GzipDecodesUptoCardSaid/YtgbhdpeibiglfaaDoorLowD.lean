/-
 Functions in short (out of the program's form in Lean, by the kernel).
-/
import Derived.Test.YtgbhdpeibiglfaaDoorSepRec
import Derived.Test.YtgbhdpeibiglfaaDoorProg
namespace Go.Proofs.YtgbhdpeibiglfaaDoor.Low
open Go Go.Proofs.YtgbhdpeibiglfaaDoor.Sep
theorem mixed : Tryd.prog.follows .mixedOrders = true := by kernel_rfl
/-- satchel/bits.turned -/
def L87_0 : LCode :=
 (.seq
 (.reg [.q 0 (.bin .lss) [.tmp 8, .tmp 7] 9])
 (.seq
 (.cond (.tmp 9)
 .skip
 (.exit 0))
 (.seq
 (.block 1
 (.seq
 (.reg [.q 0 .mv [.tmp 8] 10, .q 1 .mv [.tmp 10] 6])
 (.reg [.q 0 .mv [.tmp 5] 11, .q 1 .mv [.tmp 0] 12, .q 2 .mv [.tmp 6] 13, .q 3 (.bin .shr) [.tmp 12, .tmp 13] 14, .q 4 (.bin .and) [.tmp 14, .const (.int .i64 1)] 15, .q 5 (.cvi .u32) [.tmp 15] 16, .q 6 .mv [.tmp 1] 17, .q 7 (.bin .sub) [.tmp 17, .const (.int .i64 1)] 18, .q 8 .mv [.tmp 6] 19, .q 9 (.bin .sub) [.tmp 18, .tmp 19] 20, .q 10 (.bin .shl) [.tmp 16, .tmp 20] 21, .q 11 (.bin .or) [.tmp 11, .tmp 21] 22, .q 12 .mv [.tmp 22] 5])))
 (.reg [.q 0 (.bin .add) [.tmp 8, .const (.int .i64 1)] 23, .q 1 .mv [.tmp 23] 8]))))
def L87 : LFn :=
 ⟨25, [.t 4],
 (.seq
 (.reg [.q 0 .mv [.const (.int .u32 0)] 4])
 (.seq
 (.reg [.q 0 .mv [.const (.int .u32 0)] 5])
 (.seq
 (.seq
 (.reg [.q 0 .mv [.tmp 1] 7, .q 1 .mv [.const (.int .i64 0)] 8])
 (.block 0
 (.loop L87_0)))
 (.seq
 (.reg [.q 0 .mv [.tmp 5] 24, .q 1 .mv [.tmp 24] 4])
 .ret))))⟩
theorem low87 : lowFn Tryd.prog Tryd.f87 = some L87 := by kernel_rfl
theorem call87 {args : List Value} {H : Heap} {S : Ending → Heap → Prop} (hn : args.length ≤ L87.n) (h : awpC Tryd.prog L87.body (retQ L87.results S) (fun ch H => S (.panicked ch) H) (env0 args) H) : ACalls Tryd.prog 87 args.toArray H S := acalls mixed Tryd.func87 low87 hn h
/-- satchel/satchelref05.Code -/
def L81_0 : LCode :=
 (.seq
 (.seq
 (.reg [.q 0 .mv [.tmp 4] 14, .q 1 .mv [.tmp 0] 15, .q 2 .len [.tmp 15] 16, .q 3 (.bin .lss) [.tmp 14, .tmp 16] 17])
 (.cond (.tmp 17)
 .skip
 (.exit 0)))
 (.seq
 (.block 1
 (.seq
 (.reg [.q 0 .mv [.tmp 0] 20, .q 1 .mv [.tmp 4] 21, .q 2 (.iad 1) [.tmp 20, .tmp 21] 22, .q 3 .ld [.tmp 22] 23, .q 4 (.bin .lss) [.tmp 23, .const (.int .i64 0)] 24, .q 5 .mv [.tmp 24] 25, .g 6 .mv [.tmp 0] 26 25 false, .g 7 .mv [.tmp 4] 27 25 false, .g 8 (.iad 1) [.tmp 26, .tmp 27] 28 25 false, .g 9 .ld [.tmp 28] 29 25 false, .g 10 (.bin .gtr) [.tmp 29, .const (.int .i64 15)] 30 25 false, .q 11 .pick [.tmp 25, .const (.bool true), .tmp 30] 31])
 (.cond (.tmp 31)
 (.seq
 (.reg [.q 0 .mv [.const (.bool false)] 2, .q 1 .mv [.const (.bool false)] 3])
 .ret)
 .skip)))
 (.reg [.q 0 .mv [.tmp 4] 18, .q 1 (.bin .add) [.tmp 18, .const (.int .i64 1)] 19, .q 2 .mv [.tmp 19] 4])))
def L81 : LFn :=
 ⟨42, [.t 2, .t 3],
 (.seq
 (.reg [.q 0 .mv [.const (.bool false)] 2, .q 1 .mv [.const (.bool false)] 3])
 (.seq
 (.seq
 (.reg [.q 0 .mv [.tmp 0] 6, .q 1 .len [.tmp 6] 7, .q 2 (.bin .lss) [.tmp 7, .const (.int .i64 1)] 8, .q 3 .mv [.tmp 8] 9, .g 4 .mv [.tmp 0] 10 9 false, .g 5 .len [.tmp 10] 11 9 false, .g 6 (.bin .gtr) [.tmp 11, .const (.int .i64 320)] 12 9 false, .q 7 .pick [.tmp 9, .const (.bool true), .tmp 12] 13])
 (.cond (.tmp 13)
 (.seq
 (.reg [.q 0 .mv [.const (.bool false)] 2, .q 1 .mv [.const (.bool false)] 3])
 .ret)
 .skip))
 (.seq
 (.seq
 (.reg [.q 0 .mv [.const (.int .i64 0)] 4])
 (.block 0
 (.loop L81_0)))
 (.seq
 (.reg [.q 0 .mv [.tmp 0] 32, .e 1 (.call 92) [.tmp 32] 33, .q 2 .mv [.tmp 33] 5])
 (.seq
 (.reg [.q 0 .mv [.tmp 5] 34, .q 1 (.bin .gtr) [.tmp 34, .const (.int .i64 0)] 35, .q 2 .mv [.tmp 35] 36, .g 3 .mv [.tmp 5] 37 36 true, .g 4 (.bin .leq) [.tmp 37, .const (.int .i64 32768)] 38 36 true, .q 5 .pick [.tmp 36, .tmp 38, .const (.bool false)] 39, .q 6 .mv [.tmp 5] 40, .q 7 (.bin .eql) [.tmp 40, .const (.int .i64 32768)] 41, .q 8 .mv [.tmp 39] 2, .q 9 .mv [.tmp 41] 3])
 .ret)))))⟩
theorem low81 : lowFn Tryd.prog Tryd.f81 = some L81 := by kernel_rfl
theorem call81 {args : List Value} {H : Heap} {S : Ending → Heap → Prop} (hn : args.length ≤ L81.n) (h : awpC Tryd.prog L81.body (retQ L81.results S) (fun ch H => S (.panicked ch) H) (env0 args) H) : ACalls Tryd.prog 81 args.toArray H S := acalls mixed Tryd.func81 low81 hn h
/-- satchel/satchelref05.sum -/
def L92_0 : LCode :=
 (.reg [.q 0 .mv [.tmp 4] 9, .q 1 (.bin .add) [.tmp 9, .const (.int .i64 1)] 10, .q 2 .mv [.tmp 10] 4])
def L92_1 : LCode :=
 (.seq
 (.seq
 (.reg [.q 0 .mv [.tmp 4] 5, .q 1 .mv [.tmp 0] 6, .q 2 .len [.tmp 6] 7, .q 3 (.bin .lss) [.tmp 5, .tmp 7] 8])
 (.cond (.tmp 8)
 .skip
 (.exit 0)))
 (.seq
 (.block 1
 (.seq
 (.reg [.q 0 .mv [.tmp 0] 11, .q 1 .mv [.tmp 4] 12, .q 2 (.iad 1) [.tmp 11, .tmp 12] 13, .q 3 .ld [.tmp 13] 14, .q 4 (.bin .gtr) [.tmp 14, .const (.int .i64 0)] 15])
 (.cond (.tmp 15)
 (.reg [.q 0 .mv [.tmp 3] 16, .q 1 .mv [.tmp 0] 17, .q 2 .mv [.tmp 4] 18, .q 3 (.iad 1) [.tmp 17, .tmp 18] 19, .q 4 .ld [.tmp 19] 20, .q 5 (.bin .sub) [.const (.int .i64 15), .tmp 20] 21, .q 6 (.cvi .u64) [.tmp 21] 22, .q 7 (.bin .shl) [.const (.int .i64 1), .tmp 22] 23, .q 8 (.bin .add) [.tmp 16, .tmp 23] 24, .q 9 .mv [.tmp 24] 3])
 .skip)))
 L92_0))
def L92 : LFn :=
 ⟨26, [.t 2],
 (.seq
 (.reg [.q 0 .mv [.const (.int .i64 0)] 2])
 (.seq
 (.reg [.q 0 .mv [.const (.int .i64 0)] 3])
 (.seq
 (.seq
 (.reg [.q 0 .mv [.const (.int .i64 0)] 4])
 (.block 0
 (.loop L92_1)))
 (.seq
 (.reg [.q 0 .mv [.tmp 3] 25, .q 1 .mv [.tmp 25] 2])
 .ret))))⟩
theorem low92 : lowFn Tryd.prog Tryd.f92 = some L92 := by kernel_rfl
theorem call92 {args : List Value} {H : Heap} {S : Ending → Heap → Prop} (hn : args.length ≤ L92.n) (h : awpC Tryd.prog L92.body (retQ L92.results S) (fun ch H => S (.panicked ch) H) (env0 args) H) : ACalls Tryd.prog 92 args.toArray H S := acalls mixed Tryd.func92 low92 hn h
/-- satchel/bits.NewCode -/
def L73_0 : LCode :=
 (.reg [.q 0 (.bin .add) [.tmp 27, .const (.int .i64 1)] 54, .q 1 .mv [.tmp 54] 27])
def L73_1 : LCode :=
 (.seq
 (.reg [.q 0 (.bin .lss) [.tmp 27, .tmp 26] 28])
 (.seq
 (.cond (.tmp 28)
 .skip
 (.exit 0))
 (.seq
 (.block 1
 (.seq
 (.reg [.q 0 (.iad 1) [.tmp 25, .tmp 27] 29, .q 1 .ld [.tmp 29] 30, .q 2 .mv [.tmp 30] 7])
 (.seq
 (.seq
 (.reg [.q 0 .mv [.tmp 7] 31, .q 1 (.bin .lss) [.tmp 31, .const (.int .i64 0)] 32, .q 2 .mv [.tmp 32] 33, .g 3 .mv [.tmp 7] 34 33 false, .g 4 (.bin .gtr) [.tmp 34, .const (.int .i64 15)] 35 33 false, .q 5 .pick [.tmp 33, .const (.bool true), .tmp 35] 36])
 (.cond (.tmp 36)
 (.seq
 (.reg [.q 0 .mv [.const (.pointer none)] 2, .q 1 .mv [.const (.int .i64 51)] 3])
 .ret)
 .skip))
 (.seq
 (.reg [.q 0 .mv [.tmp 7] 37, .q 1 (.bin .gtr) [.tmp 37, .const (.int .i64 0)] 38])
 (.cond (.tmp 38)
 (.seq
 (.reg [.q 0 .mv [.tmp 4] 39, .q 1 .mv [.tmp 7] 40, .q 2 .nilc [.tmp 39] 41, .q 3 (.fad 2) [.tmp 41] 42, .q 4 (.iada 16 1) [.tmp 42, .tmp 40] 43, .q 5 .ld [.tmp 43] 44, .q 6 (.bin .add) [.tmp 44, .const (.int .i64 1)] 45, .q 7 .nilc [.tmp 39] 46, .q 8 (.fad 2) [.tmp 46] 47, .q 9 (.iada 16 1) [.tmp 47, .tmp 40] 48, .n 10 (.st 1) [.tmp 48, .tmp 45]])
 (.reg [.q 0 .mv [.tmp 5] 49, .q 1 .mv [.tmp 7] 50, .q 2 (.bin .sub) [.const (.int .i64 15), .tmp 50] 51, .q 3 (.bin .shl) [.const (.int .i64 1), .tmp 51] 52, .q 4 (.bin .add) [.tmp 49, .tmp 52] 53, .q 5 .mv [.tmp 53] 5]))
 .skip)))))
 L73_0)))
def L73_2 : LCode :=
 (.seq
 (.reg [.q 0 (.bin .lss) [.tmp 80, .tmp 79] 81])
 (.seq
 (.cond (.tmp 81)
 .skip
 (.exit 4))
 (.seq
 (.block 5
 (.seq
 (.reg [.q 0 .mv [.tmp 80] 82, .q 1 (.iad 1) [.tmp 78, .tmp 80] 83, .q 2 .ld [.tmp 83] 84, .q 3 .mv [.tmp 82] 10, .q 4 .mv [.tmp 84] 11])
 (.seq
 (.seq
 (.reg [.q 0 .mv [.tmp 11] 85, .q 1 .mv [.tmp 9] 86, .q 2 (.bin .neq) [.tmp 85, .tmp 86] 87])
 (.cond (.tmp 87)
 (.exit 5)
 .skip))
 (.seq
 (.reg [.q 0 .mv [.tmp 4] 88, .q 1 .nilc [.tmp 88] 89, .q 2 (.fad 0) [.tmp 89] 90, ⟨3, .q .ld, [.tmp 90], (some 91), none, [], true⟩, .q 4 .mv [.tmp 10] 92, .q 5 .mv [.tmp 8] 93, .q 6 .mv [.tmp 9] 94, .q 8 .mv [.tmp 9] 96, ⟨7, .e (.call 87), [.tmp 93, .tmp 94], (some 95), none, [3], false⟩, .q 9 (.build #[(.int .u32 0), (.int .i64 0)] [(0, 1), (1, 1)]) [.tmp 95, .tmp 96] 97, .q 10 (.iad 2) [.tmp 91, .tmp 92] 98, .n 11 (.st 2) [.tmp 98, .tmp 97]])
 (.seq
 (.reg [.q 0 .mv [.tmp 4] 99, .q 1 .mv [.tmp 4] 100, .q 2 .nilc [.tmp 100] 101, .q 3 (.fad 1) [.tmp 101] 102, .q 4 .ld [.tmp 102] 103, .q 5 .mv [.tmp 10] 104, .e 6 (.lits 3 #[(.int .i64 0)] 1 [(0, 1)]) [.tmp 104] 105, .e 7 (.app 3 1 8 #[(.int .i64 0)]) [.tmp 103, .tmp 105] 106, .q 8 .nilc [.tmp 99] 107, .q 9 (.fad 1) [.tmp 107] 108, .n 10 (.st 1) [.tmp 108, .tmp 106]])
 (.seq
 (.reg [.q 0 .mv [.tmp 4] 109, .q 1 .mv [.tmp 9] 110, .q 2 .nilc [.tmp 109] 111, .q 3 (.fad 35) [.tmp 111] 112, .n 4 (.st 1) [.tmp 112, .tmp 110]])
 (.reg [.q 0 .mv [.tmp 8] 113, .q 1 (.bin .add) [.tmp 113, .const (.int .i64 1)] 114, .q 2 .mv [.tmp 114] 8])))))))
 (.reg [.q 0 (.bin .add) [.tmp 80, .const (.int .i64 1)] 115, .q 1 .mv [.tmp 115] 80]))))
def L73_3 : LCode :=
 (.reg [.q 0 .mv [.tmp 9] 68, .q 1 (.bin .add) [.tmp 68, .const (.int .i64 1)] 69, .q 2 .mv [.tmp 69] 9])
def L73_4 : LCode :=
 (.seq
 (.seq
 (.reg [.q 0 .mv [.tmp 9] 66, .q 1 (.bin .leq) [.tmp 66, .const (.int .i64 15)] 67])
 (.cond (.tmp 67)
 .skip
 (.exit 2)))
 (.seq
 (.block 3
 (.seq
 (.reg [.q 0 .mv [.tmp 8] 70, .q 1 (.bin .mul) [.tmp 70, .const (.int .i64 2)] 71, .q 2 .mv [.tmp 71] 8])
 (.seq
 (.reg [.q 0 .mv [.tmp 4] 72, .q 1 .mv [.tmp 9] 73, .q 2 .mv [.tmp 8] 74, .q 3 .nilc [.tmp 72] 75, .q 4 (.fad 18) [.tmp 75] 76, .q 5 (.iada 16 1) [.tmp 76, .tmp 73] 77, .n 6 (.st 1) [.tmp 77, .tmp 74]])
 (.seq
 (.reg [.q 0 .mv [.tmp 0] 78, .q 1 .len [.tmp 78] 79, .q 2 .mv [.const (.int .i64 0)] 80])
 (.block 4
 (.loop L73_2))))))
 L73_3))
def L73_5 : LCode :=
 (.seq
 (.reg [.q 0 .mv [.tmp 4] 116, .q 1 .mv [.tmp 116] 2, .q 2 .mv [.const (.int .i64 0)] 3])
 .ret)
def L73 : LFn :=
 ⟨117, [.t 2, .t 3],
 (.seq
 (.reg [.q 0 .mv [.const (.pointer none)] 2, .q 1 .mv [.const (.int .i64 0)] 3])
 (.seq
 (.seq
 (.reg [.q 0 .mv [.tmp 0] 12, .q 1 .len [.tmp 12] 13, .q 2 (.bin .lss) [.tmp 13, .const (.int .i64 1)] 14, .q 3 .mv [.tmp 14] 15, .g 4 .mv [.tmp 0] 16 15 false, .g 5 .len [.tmp 16] 17 15 false, .g 6 (.bin .gtr) [.tmp 17, .const (.int .i64 320)] 18 15 false, .q 7 .pick [.tmp 15, .const (.bool true), .tmp 18] 19])
 (.cond (.tmp 19)
 (.seq
 (.reg [.q 0 .mv [.const (.pointer none)] 2, .q 1 .mv [.const (.int .i64 51)] 3])
 .ret)
 .skip))
 (.seq
 (.reg [.q 0 .mv [.tmp 0] 20, .q 1 .len [.tmp 20] 21, .e 2 (.mks 122 2 16 #[(.int .u32 0), (.int .i64 0)]) [.tmp 21, .tmp 21] 22, .q 3 (.build #[(.slice none 0 0), (.slice none 0 0), (.int .i64 0), (.int .i64 0), (.int .i64 0), (.int .i64 0), (.int .i64 0), (.int .i64 0), (.int .i64 0), (.int .i64 0), (.int .i64 0), (.int .i64 0), (.int .i64 0), (.int .i64 0), (.int .i64 0), (.int .i64 0), (.int .i64 0), (.int .i64 0), (.int .i64 0), (.int .i64 0), (.int .i64 0), (.int .i64 0), (.int .i64 0), (.int .i64 0), (.int .i64 0), (.int .i64 0), (.int .i64 0), (.int .i64 0), (.int .i64 0), (.int .i64 0), (.int .i64 0), (.int .i64 0), (.int .i64 0), (.int .i64 0), (.bool false), (.int .i64 0)] [(0, 1)]) [.tmp 22] 23, .e 4 (.box 119) [.tmp 23] 24, .q 5 .mv [.tmp 24] 4])
 (.seq
 (.reg [.q 0 .mv [.const (.int .i64 0)] 5])
 (.seq
 (.seq
 (.reg [.q 0 .mv [.tmp 0] 25, .q 1 .len [.tmp 25] 26, .q 2 .mv [.const (.int .i64 0)] 27])
 (.block 0
 (.loop L73_1)))
 (.seq
 (.seq
 (.reg [.q 0 .mv [.tmp 5] 55, .q 1 (.bin .eql) [.tmp 55, .const (.int .i64 0)] 56, .q 2 .mv [.tmp 56] 57, .g 3 .mv [.tmp 5] 58 57 false, .g 4 (.bin .gtr) [.tmp 58, .const (.int .i64 32768)] 59 57 false, .q 5 .pick [.tmp 57, .const (.bool true), .tmp 59] 60])
 (.cond (.tmp 60)
 (.seq
 (.reg [.q 0 .mv [.const (.pointer none)] 2, .q 1 .mv [.const (.int .i64 51)] 3])
 .ret)
 .skip))
 (.seq
 (.reg [.q 0 .mv [.tmp 4] 61, .q 1 .mv [.tmp 5] 62, .q 2 (.bin .eql) [.tmp 62, .const (.int .i64 32768)] 63, .q 3 .nilc [.tmp 61] 64, .q 4 (.fad 34) [.tmp 64] 65, .n 5 (.st 1) [.tmp 65, .tmp 63]])
 (.seq
 (.reg [.q 0 .mv [.const (.int .i64 0)] 8])
 (.seq
 (.seq
 (.reg [.q 0 .mv [.const (.int .i64 1)] 9])
 (.block 2
 (.loop L73_4)))
 L73_5)))))))))⟩
theorem low73 : lowFn Tryd.prog Tryd.f73 = some L73 := by kernel_rfl
theorem call73 {args : List Value} {H : Heap} {S : Ending → Heap → Prop} (hn : args.length ≤ L73.n) (h : awpC Tryd.prog L73.body (retQ L73.results S) (fun ch H => S (.panicked ch) H) (env0 args) H) : ACalls Tryd.prog 73 args.toArray H S := acalls mixed Tryd.func73 low73 hn h
/-- (*satchel/bits.Code).Whole -/
def L74 : LFn :=
 ⟨7, [.t 2],
 (.seq
 (.reg [.q 0 .mv [.const (.bool false)] 2])
 (.seq
 (.reg [.q 0 .mv [.tmp 0] 3, .q 1 .nilc [.tmp 3] 4, .q 2 (.fad 34) [.tmp 4] 5, .q 3 .ld [.tmp 5] 6, .q 4 .mv [.tmp 6] 2])
 .ret))⟩
theorem low74 : lowFn Tryd.prog Tryd.f74 = some L74 := by kernel_rfl
theorem call74 {args : List Value} {H : Heap} {S : Ending → Heap → Prop} (hn : args.length ≤ L74.n) (h : awpC Tryd.prog L74.body (retQ L74.results S) (fun ch H => S (.panicked ch) H) (env0 args) H) : ACalls Tryd.prog 74 args.toArray H S := acalls mixed Tryd.func74 low74 hn h
/-- (*satchel/bits.Code).Read -/
def L84_0 : LCode :=
 (.seq
 (.seq
 (.reg [.q 0 .mv [.tmp 8] 10, .q 1 .mv [.tmp 0] 11, .q 2 .nilc [.tmp 11] 12, .q 3 (.fad 35) [.tmp 12] 13, .q 4 .ld [.tmp 13] 14, .q 5 (.bin .leq) [.tmp 10, .tmp 14] 15])
 (.cond (.tmp 15)
 .skip
 (.exit 0)))
 (.seq
 (.block 1
 (.seq
 (.seq
 (.reg [.q 0 .mv [.tmp 1] 18, .e 1 (.call 82) [.tmp 18] 19, .q 2 .mv [.tmp 8] 20, .q 3 (.bin .lss) [.tmp 19, .tmp 20] 21])
 (.cond (.tmp 21)
 (.seq
 (.seq
 (.reg [.q 0 .mv [.tmp 0] 22, .q 1 .mv [.tmp 6] 23, .q 2 .mv [.tmp 8] 24, .q 3 (.bin .sub) [.tmp 24, .const (.int .i64 1)] 25, .e 4 (.call 93) [.tmp 22, .tmp 23, .tmp 25] 26])
 (.cond (.tmp 26)
 (.seq
 (.reg [.q 0 .mv [.const (.int .i64 0)] 4, .q 1 .mv [.const (.int .i64 50)] 5])
 .ret)
 .skip))
 (.seq
 (.reg [.q 0 .mv [.const (.int .i64 0)] 4, .q 1 .mv [.const (.int .i64 52)] 5])
 .ret))
 .skip))
 (.seq
 (.reg [.q 0 .mv [.tmp 6] 27, .q 1 (.bin .mul) [.const (.int .i64 2), .tmp 27] 28, .q 2 .mv [.tmp 1] 29, .q 3 .mv [.tmp 8] 30, .q 4 (.bin .sub) [.tmp 30, .const (.int .i64 1)] 31, .e 5 (.call 83) [.tmp 29, .tmp 31] 32, .q 6 (.cvi .i64) [.tmp 32] 33, .q 7 (.bin .add) [.tmp 28, .tmp 33] 34, .q 8 .mv [.tmp 34] 6])
 (.seq
 (.seq
 (.reg [.q 0 .mv [.tmp 6] 35, .q 1 .mv [.tmp 0] 36, .q 2 .mv [.tmp 8] 37, .q 3 .nilc [.tmp 36] 38, .q 4 (.fad 18) [.tmp 38] 39, .q 5 (.iada 16 1) [.tmp 39, .tmp 37] 40, .q 6 .ld [.tmp 40] 41, .q 7 (.bin .sub) [.tmp 35, .tmp 41] 42, .q 8 .mv [.tmp 42] 9])
 (.seq
 (.reg [.q 0 .mv [.tmp 9] 43, .q 1 (.bin .geq) [.tmp 43, .const (.int .i64 0)] 44, .q 2 .mv [.tmp 44] 45, .g 3 .mv [.tmp 9] 46 45 true, .g 4 .mv [.tmp 0] 47 45 true, .g 5 .mv [.tmp 8] 48 45 true, .g 6 .nilc [.tmp 47] 49 45 true, .g 7 (.fad 2) [.tmp 49] 50 45 true, .g 8 (.iada 16 1) [.tmp 50, .tmp 48] 51 45 true, .g 9 .ld [.tmp 51] 52 45 true, .g 10 (.bin .lss) [.tmp 46, .tmp 52] 53 45 true, .q 11 .pick [.tmp 45, .tmp 53, .const (.bool false)] 54])
 (.cond (.tmp 54)
 (.seq
 (.reg [.q 0 .mv [.tmp 1] 55, .q 1 .nilc [.tmp 55] 56, .q 2 (.fad 1) [.tmp 56] 57, .q 3 .ld [.tmp 57] 58, .q 4 .mv [.tmp 8] 59, .q 5 (.bin .add) [.tmp 58, .tmp 59] 60, .q 6 .nilc [.tmp 55] 61, .q 7 (.fad 1) [.tmp 61] 62, .n 8 (.st 1) [.tmp 62, .tmp 60]])
 (.seq
 (.reg [.q 0 .mv [.tmp 0] 63, .q 1 .nilc [.tmp 63] 64, .q 2 (.fad 1) [.tmp 64] 65, .q 3 .ld [.tmp 65] 66, .q 4 .mv [.tmp 7] 67, .q 5 .mv [.tmp 9] 68, .q 6 (.bin .add) [.tmp 67, .tmp 68] 69, .q 7 (.iad 1) [.tmp 66, .tmp 69] 70, .q 8 .ld [.tmp 70] 71, .q 9 .mv [.tmp 71] 4, .q 10 .mv [.const (.int .i64 0)] 5])
 .ret))
 .skip)))
 (.reg [.q 0 .mv [.tmp 7] 72, .q 1 .mv [.tmp 0] 73, .q 2 .mv [.tmp 8] 74, .q 3 .nilc [.tmp 73] 75, .q 4 (.fad 2) [.tmp 75] 76, .q 5 (.iada 16 1) [.tmp 76, .tmp 74] 77, .q 6 .ld [.tmp 77] 78, .q 7 (.bin .add) [.tmp 72, .tmp 78] 79, .q 8 .mv [.tmp 79] 7])))))
 (.reg [.q 0 .mv [.tmp 8] 16, .q 1 (.bin .add) [.tmp 16, .const (.int .i64 1)] 17, .q 2 .mv [.tmp 17] 8])))
def L84 : LFn :=
 ⟨80, [.t 4, .t 5],
 (.seq
 (.reg [.q 0 .mv [.const (.int .i64 0)] 4, .q 1 .mv [.const (.int .i64 0)] 5])
 (.seq
 (.reg [.q 0 .mv [.const (.int .i64 0)] 6, .q 1 .mv [.const (.int .i64 0)] 7])
 (.seq
 (.seq
 (.reg [.q 0 .mv [.const (.int .i64 1)] 8])
 (.block 0
 (.loop L84_0)))
 (.seq
 (.reg [.q 0 .mv [.const (.int .i64 0)] 4, .q 1 .mv [.const (.int .i64 52)] 5])
 .ret))))⟩
theorem low84 : lowFn Tryd.prog Tryd.f84 = some L84 := by kernel_rfl
theorem call84 {args : List Value} {H : Heap} {S : Ending → Heap → Prop} (hn : args.length ≤ L84.n) (h : awpC Tryd.prog L84.body (retQ L84.results S) (fun ch H => S (.panicked ch) H) (env0 args) H) : ACalls Tryd.prog 84 args.toArray H S := acalls mixed Tryd.func84 low84 hn h
/-- (*satchel/bits.Code).begins -/
def L93_0 : LCode :=
 (.seq
 (.seq
 (.reg [.q 0 .mv [.tmp 7] 12, .q 1 .mv [.tmp 0] 13, .q 2 .nilc [.tmp 13] 14, .q 3 (.fad 35) [.tmp 14] 15, .q 4 .ld [.tmp 15] 16, .q 5 (.bin .leq) [.tmp 12, .tmp 16] 17])
 (.cond (.tmp 17)
 .skip
 (.exit 0)))
 (.seq
 (.block 1
 (.seq
 (.reg [.q 0 .mv [.tmp 1] 20, .q 1 .mv [.tmp 7] 21, .q 2 .mv [.tmp 2] 22, .q 3 (.bin .sub) [.tmp 21, .tmp 22] 23, .q 4 (.bin .shl) [.tmp 20, .tmp 23] 24, .q 5 .mv [.tmp 24] 8])
 (.seq
 (.reg [.q 0 .mv [.tmp 8] 25, .q 1 .mv [.tmp 7] 26, .q 2 .mv [.tmp 2] 27, .q 3 (.bin .sub) [.tmp 26, .tmp 27] 28, .q 4 (.bin .shl) [.const (.int .i64 1), .tmp 28] 29, .q 5 (.bin .add) [.tmp 25, .tmp 29] 30, .q 6 .mv [.tmp 30] 9])
 (.seq
 (.reg [.q 0 .mv [.tmp 0] 31, .q 1 .mv [.tmp 7] 32, .q 2 .nilc [.tmp 31] 33, .q 3 (.fad 2) [.tmp 33] 34, .q 4 (.iada 16 1) [.tmp 34, .tmp 32] 35, .q 5 .ld [.tmp 35] 36, .q 6 (.bin .gtr) [.tmp 36, .const (.int .i64 0)] 37, .q 7 .mv [.tmp 37] 38, .g 8 .mv [.tmp 0] 39 38 true, .g 9 .mv [.tmp 7] 40 38 true, .g 10 .nilc [.tmp 39] 41 38 true, .g 11 (.fad 18) [.tmp 41] 42 38 true, .g 12 (.iada 16 1) [.tmp 42, .tmp 40] 43 38 true, .g 13 .ld [.tmp 43] 44 38 true, .g 14 .mv [.tmp 9] 45 38 true, .g 15 (.bin .lss) [.tmp 44, .tmp 45] 46 38 true, .q 16 .pick [.tmp 38, .tmp 46, .const (.bool false)] 47, .q 17 .mv [.tmp 47] 48, .g 18 .mv [.tmp 0] 49 48 true, .g 19 .mv [.tmp 7] 50 48 true, .g 20 .nilc [.tmp 49] 51 48 true, .g 21 (.fad 18) [.tmp 51] 52 48 true, .g 22 (.iada 16 1) [.tmp 52, .tmp 50] 53 48 true, .g 23 .ld [.tmp 53] 54 48 true, .g 24 .mv [.tmp 0] 55 48 true, .g 25 .mv [.tmp 7] 56 48 true, .g 26 .nilc [.tmp 55] 57 48 true, .g 27 (.fad 2) [.tmp 57] 58 48 true, .g 28 (.iada 16 1) [.tmp 58, .tmp 56] 59 48 true, .g 29 .ld [.tmp 59] 60 48 true, .g 30 (.bin .add) [.tmp 54, .tmp 60] 61 48 true, .g 31 .mv [.tmp 8] 62 48 true, .g 32 (.bin .gtr) [.tmp 61, .tmp 62] 63 48 true, .q 33 .pick [.tmp 48, .tmp 63, .const (.bool false)] 64])
 (.cond (.tmp 64)
 (.seq
 (.reg [.q 0 .mv [.const (.bool true)] 6])
 .ret)
 .skip)))))
 (.reg [.q 0 .mv [.tmp 7] 18, .q 1 (.bin .add) [.tmp 18, .const (.int .i64 1)] 19, .q 2 .mv [.tmp 19] 7])))
def L93 : LFn :=
 ⟨65, [.t 6],
 (.seq
 (.reg [.q 0 .mv [.const (.bool false)] 6])
 (.seq
 (.seq
 (.reg [.q 0 .mv [.tmp 2] 10, .q 1 (.bin .add) [.tmp 10, .const (.int .i64 1)] 11, .q 2 .mv [.tmp 11] 7])
 (.block 0
 (.loop L93_0)))
 (.seq
 (.reg [.q 0 .mv [.const (.bool false)] 6])
 .ret)))⟩
theorem low93 : lowFn Tryd.prog Tryd.f93 = some L93 := by kernel_rfl
theorem call93 {args : List Value} {H : Heap} {S : Ending → Heap → Prop} (hn : args.length ≤ L93.n) (h : awpC Tryd.prog L93.body (retQ L93.results S) (fun ch H => S (.panicked ch) H) (env0 args) H) : ACalls Tryd.prog 93 args.toArray H S := acalls mixed Tryd.func93 low93 hn h
/-- satchel/satchelref05.Bits -/
def L43_0 : LCode :=
 (.seq
 (.seq
 (.reg [.q 0 .mv [.tmp 6] 18, .q 1 (.bin .lss) [.tmp 18, .const (.int .i64 8)] 19])
 (.cond (.tmp 19)
 .skip
 (.exit 2)))
 (.seq
 (.block 3
 (.seq
 (.reg [.q 0 .mv [.tmp 3] 22, .q 1 .mv [.tmp 5] 23, .q 2 (.bin .rem) [.tmp 23, .const (.int .u8 2)] 24, .e 3 (.lits 5 #[(.int .u8 0)] 1 [(0, 1)]) [.tmp 24] 25, .e 4 (.app 5 1 1 #[(.int .u8 0)]) [.tmp 22, .tmp 25] 26, .q 5 .mv [.tmp 26] 3])
 (.reg [.q 0 .mv [.tmp 5] 27, .q 1 (.bin .quo) [.tmp 27, .const (.int .u8 2)] 28, .q 2 .mv [.tmp 28] 5])))
 (.reg [.q 0 .mv [.tmp 6] 20, .q 1 (.bin .add) [.tmp 20, .const (.int .i64 1)] 21, .q 2 .mv [.tmp 21] 6])))
def L43_1 : LCode :=
 (.seq
 (.seq
 (.reg [.q 0 .mv [.tmp 4] 8, .q 1 .mv [.tmp 0] 9, .q 2 .len [.tmp 9] 10, .q 3 (.bin .lss) [.tmp 8, .tmp 10] 11])
 (.cond (.tmp 11)
 .skip
 (.exit 0)))
 (.seq
 (.block 1
 (.seq
 (.reg [.q 0 .mv [.tmp 0] 14, .q 1 .mv [.tmp 4] 15, .q 2 (.iad 1) [.tmp 14, .tmp 15] 16, .q 3 .ld [.tmp 16] 17, .q 4 .mv [.tmp 17] 5])
 (.seq
 (.reg [.q 0 .mv [.const (.int .i64 0)] 6])
 (.block 2
 (.loop L43_0)))))
 (.reg [.q 0 .mv [.tmp 4] 12, .q 1 (.bin .add) [.tmp 12, .const (.int .i64 1)] 13, .q 2 .mv [.tmp 13] 4])))
def L43_2 : LCode :=
 (.seq
 (.reg [.q 0 .mv [.tmp 3] 29, .q 1 .mv [.tmp 29] 2])
 .ret)
def L43 : LFn :=
 ⟨30, [.t 2],
 (.seq
 (.reg [.q 0 .mv [.const (.slice none 0 0)] 2])
 (.seq
 (.reg [.e 0 (.lits 5 #[] 0 []) [] 7, .q 1 .mv [.tmp 7] 3])
 (.seq
 (.seq
 (.reg [.q 0 .mv [.const (.int .i64 0)] 4])
 (.block 0
 (.loop L43_1)))
 L43_2)))⟩
theorem low43 : lowFn Tryd.prog Tryd.f43 = some L43 := by kernel_rfl
theorem call43 {args : List Value} {H : Heap} {S : Ending → Heap → Prop} (hn : args.length ≤ L43.n) (h : awpC Tryd.prog L43.body (retQ L43.results S) (fun ch H => S (.panicked ch) H) (env0 args) H) : ACalls Tryd.prog 43 args.toArray H S := acalls mixed Tryd.func43 low43 hn h
/-- satchel/satchelref05.Words -/
def L90_0 : LCode :=
 (.seq
 (.seq
 (.reg [.q 0 .mv [.tmp 9] 39, .q 1 (.bin .geq) [.tmp 39, .const (.int .i64 0)] 40])
 (.cond (.tmp 40)
 .skip
 (.exit 4)))
 (.seq
 (.block 5
 (.reg [.q 0 .mv [.tmp 8] 43, .q 1 .mv [.tmp 4] 44, .q 2 .mv [.tmp 9] 45, .q 3 (.cvi .u64) [.tmp 45] 46, .q 4 (.bin .shr) [.tmp 44, .tmp 46] 47, .q 5 (.bin .rem) [.tmp 47, .const (.int .i64 2)] 48, .q 6 (.cvi .u8) [.tmp 48] 49, .e 7 (.lits 5 #[(.int .u8 0)] 1 [(0, 1)]) [.tmp 49] 50, .e 8 (.app 5 1 1 #[(.int .u8 0)]) [.tmp 43, .tmp 50] 51, .q 9 .mv [.tmp 51] 8]))
 (.reg [.q 0 .mv [.tmp 9] 41, .q 1 (.bin .sub) [.tmp 41, .const (.int .i64 1)] 42, .q 2 .mv [.tmp 42] 9])))
def L90_1 : LCode :=
 (.reg [.q 0 .mv [.tmp 7] 21, .q 1 (.bin .add) [.tmp 21, .const (.int .i64 1)] 22, .q 2 .mv [.tmp 22] 7])
def L90_2 : LCode :=
 (.seq
 (.seq
 (.reg [.q 0 .mv [.tmp 7] 17, .q 1 .mv [.tmp 0] 18, .q 2 .len [.tmp 18] 19, .q 3 (.bin .lss) [.tmp 17, .tmp 19] 20])
 (.cond (.tmp 20)
 .skip
 (.exit 2)))
 (.seq
 (.block 3
 (.seq
 (.seq
 (.reg [.q 0 .mv [.tmp 0] 23, .q 1 .mv [.tmp 7] 24, .q 2 (.iad 1) [.tmp 23, .tmp 24] 25, .q 3 .ld [.tmp 25] 26, .q 4 .mv [.tmp 6] 27, .q 5 (.bin .neq) [.tmp 26, .tmp 27] 28])
 (.cond (.tmp 28)
 (.exit 3)
 .skip))
 (.seq
 (.reg [.q 0 .mv [.tmp 4] 29, .q 1 .mv [.tmp 6] 30, .q 2 .mv [.tmp 5] 31, .q 3 (.bin .sub) [.tmp 30, .tmp 31] 32, .q 4 (.cvi .u64) [.tmp 32] 33, .q 5 (.bin .shl) [.tmp 29, .tmp 33] 34, .q 6 .mv [.tmp 34] 4])
 (.seq
 (.reg [.q 0 .mv [.tmp 6] 35, .q 1 .mv [.tmp 35] 5])
 (.seq
 (.reg [.e 0 (.lits 5 #[] 0 []) [] 36, .q 1 .mv [.tmp 36] 8])
 (.seq
 (.seq
 (.reg [.q 0 .mv [.tmp 6] 37, .q 1 (.bin .sub) [.tmp 37, .const (.int .i64 1)] 38, .q 2 .mv [.tmp 38] 9])
 (.block 4
 (.loop L90_0)))
 (.seq
 (.reg [.q 0 .mv [.tmp 3] 52, .q 1 .mv [.tmp 7] 53, .q 2 .mv [.tmp 8] 54, .q 3 (.iad 1) [.tmp 52, .tmp 53] 55, .n 4 (.st 1) [.tmp 55, .tmp 54]])
 (.reg [.q 0 .mv [.tmp 4] 56, .q 1 (.bin .add) [.tmp 56, .const (.int .i64 1)] 57, .q 2 .mv [.tmp 57] 4]))))))))
 L90_1))
def L90_3 : LCode :=
 (.reg [.q 0 .mv [.tmp 6] 15, .q 1 (.bin .add) [.tmp 15, .const (.int .i64 1)] 16, .q 2 .mv [.tmp 16] 6])
def L90_4 : LCode :=
 (.seq
 (.seq
 (.reg [.q 0 .mv [.tmp 6] 13, .q 1 (.bin .leq) [.tmp 13, .const (.int .i64 15)] 14])
 (.cond (.tmp 14)
 .skip
 (.exit 0)))
 (.seq
 (.block 1
 (.seq
 (.reg [.q 0 .mv [.const (.int .i64 0)] 7])
 (.block 2
 (.loop L90_2))))
 L90_3))
def L90_5 : LCode :=
 (.seq
 (.reg [.q 0 .mv [.tmp 3] 58, .q 1 .mv [.tmp 58] 2])
 .ret)
def L90 : LFn :=
 ⟨59, [.t 2],
 (.seq
 (.reg [.q 0 .mv [.const (.slice none 0 0)] 2])
 (.seq
 (.reg [.q 0 .mv [.tmp 0] 10, .q 1 .len [.tmp 10] 11, .e 2 (.mks 22 1 24 #[(.slice none 0 0)]) [.tmp 11, .tmp 11] 12, .q 3 .mv [.tmp 12] 3])
 (.seq
 (.reg [.q 0 .mv [.const (.int .i64 0)] 4, .q 1 .mv [.const (.int .i64 0)] 5])
 (.seq
 (.seq
 (.reg [.q 0 .mv [.const (.int .i64 1)] 6])
 (.block 0
 (.loop L90_4)))
 L90_5))))⟩
theorem low90 : lowFn Tryd.prog Tryd.f90 = some L90 := by kernel_rfl
theorem call90 {args : List Value} {H : Heap} {S : Ending → Heap → Prop} (hn : args.length ≤ L90.n) (h : awpC Tryd.prog L90.body (retQ L90.results S) (fun ch H => S (.panicked ch) H) (env0 args) H) : ACalls Tryd.prog 90 args.toArray H S := acalls mixed Tryd.func90 low90 hn h
/-- satchel/satchelref05.starts -/
def L91_0 : LCode :=
 (.seq
 (.seq
 (.reg [.q 0 .mv [.tmp 5] 11, .q 1 .mv [.tmp 1] 12, .q 2 .len [.tmp 12] 13, .q 3 (.bin .lss) [.tmp 11, .tmp 13] 14])
 (.cond (.tmp 14)
 .skip
 (.exit 0)))
 (.seq
 (.block 1
 (.seq
 (.reg [.q 0 .mv [.tmp 0] 17, .q 1 .mv [.tmp 5] 18, .q 2 (.iad 1) [.tmp 17, .tmp 18] 19, .q 3 .ld [.tmp 19] 20, .q 4 .mv [.tmp 1] 21, .q 5 .mv [.tmp 5] 22, .q 6 (.iad 1) [.tmp 21, .tmp 22] 23, .q 7 .ld [.tmp 23] 24, .q 8 (.bin .neq) [.tmp 20, .tmp 24] 25])
 (.cond (.tmp 25)
 (.seq
 (.reg [.q 0 .mv [.const (.bool false)] 4])
 .ret)
 .skip)))
 (.reg [.q 0 .mv [.tmp 5] 15, .q 1 (.bin .add) [.tmp 15, .const (.int .i64 1)] 16, .q 2 .mv [.tmp 16] 5])))
def L91 : LFn :=
 ⟨26, [.t 4],
 (.seq
 (.reg [.q 0 .mv [.const (.bool false)] 4])
 (.seq
 (.seq
 (.reg [.q 0 .mv [.tmp 1] 6, .q 1 .len [.tmp 6] 7, .q 2 .mv [.tmp 0] 8, .q 3 .len [.tmp 8] 9, .q 4 (.bin .gtr) [.tmp 7, .tmp 9] 10])
 (.cond (.tmp 10)
 (.seq
 (.reg [.q 0 .mv [.const (.bool false)] 4])
 .ret)
 .skip))
 (.seq
 (.seq
 (.reg [.q 0 .mv [.const (.int .i64 0)] 5])
 (.block 0
 (.loop L91_0)))
 (.seq
 (.reg [.q 0 .mv [.const (.bool true)] 4])
 .ret))))⟩
theorem low91 : lowFn Tryd.prog Tryd.f91 = some L91 := by kernel_rfl
theorem call91 {args : List Value} {H : Heap} {S : Ending → Heap → Prop} (hn : args.length ≤ L91.n) (h : awpC Tryd.prog L91.body (retQ L91.results S) (fun ch H => S (.panicked ch) H) (env0 args) H) : ACalls Tryd.prog 91 args.toArray H S := acalls mixed Tryd.func91 low91 hn h
/-- satchel/satchelref05.Read -/
def L78_0 : LCode :=
 (.seq
 (.seq
 (.reg [.q 0 .mv [.tmp 9] 12, .q 1 .mv [.tmp 7] 13, .q 2 .len [.tmp 13] 14, .q 3 (.bin .lss) [.tmp 12, .tmp 14] 15])
 (.cond (.tmp 15)
 .skip
 (.exit 0)))
 (.seq
 (.block 1
 (.seq
 (.seq
 (.reg [.q 0 .mv [.tmp 7] 18, .q 1 .mv [.tmp 9] 19, .q 2 (.iad 1) [.tmp 18, .tmp 19] 20, .q 3 .ld [.tmp 20] 21, .q 4 .len [.tmp 21] 22, .q 5 (.bin .eql) [.tmp 22, .const (.int .i64 0)] 23])
 (.cond (.tmp 23)
 (.exit 1)
 .skip))
 (.seq
 (.seq
 (.reg [.q 0 .mv [.tmp 1] 24, .q 1 .mv [.tmp 7] 25, .q 2 .mv [.tmp 9] 26, .q 3 (.iad 1) [.tmp 25, .tmp 26] 27, .q 4 .ld [.tmp 27] 28, .e 5 (.call 91) [.tmp 24, .tmp 28] 29])
 (.cond (.tmp 29)
 (.seq
 (.reg [.q 0 .mv [.tmp 9] 30, .q 1 .mv [.tmp 7] 31, .q 2 .mv [.tmp 9] 32, .q 3 (.iad 1) [.tmp 31, .tmp 32] 33, .q 4 .ld [.tmp 33] 34, .q 5 .len [.tmp 34] 35, .q 6 .mv [.tmp 30] 4, .q 7 .mv [.tmp 35] 5, .q 8 .mv [.const (.int .i64 0)] 6])
 .ret)
 .skip))
 (.reg [.q 0 .mv [.tmp 8] 36, .q 1 .mv [.tmp 36] 37, .g 2 .mv [.tmp 7] 38 37 false, .g 3 .mv [.tmp 9] 39 37 false, .g 4 (.iad 1) [.tmp 38, .tmp 39] 40 37 false, .g 5 .ld [.tmp 40] 41 37 false, .g 6 .mv [.tmp 1] 42 37 false, ⟨7, .e (.call 91), [.tmp 41, .tmp 42], (some 43), (some (37, false)), [], false⟩, .q 8 .pick [.tmp 37, .const (.bool true), .tmp 43] 44, .q 9 .mv [.tmp 44] 8]))))
 (.reg [.q 0 .mv [.tmp 9] 16, .q 1 (.bin .add) [.tmp 16, .const (.int .i64 1)] 17, .q 2 .mv [.tmp 17] 9])))
def L78_1 : LCode :=
 (.seq
 (.seq
 (.reg [.q 0 .mv [.tmp 8] 45])
 (.cond (.tmp 45)
 (.seq
 (.reg [.q 0 .mv [.const (.int .i64 0)] 4, .q 1 .mv [.const (.int .i64 0)] 5, .q 2 .mv [.const (.int .i64 50)] 6])
 .ret)
 .skip))
 (.seq
 (.reg [.q 0 .mv [.const (.int .i64 0)] 4, .q 1 .mv [.const (.int .i64 0)] 5, .q 2 .mv [.const (.int .i64 52)] 6])
 .ret))
def L78 : LFn :=
 ⟨46, [.t 4, .t 5, .t 6],
 (.seq
 (.reg [.q 0 .mv [.const (.int .i64 0)] 4, .q 1 .mv [.const (.int .i64 0)] 5, .q 2 .mv [.const (.int .i64 0)] 6])
 (.seq
 (.reg [.q 0 .mv [.tmp 0] 10, .e 1 (.call 90) [.tmp 10] 11, .q 2 .mv [.tmp 11] 7])
 (.seq
 (.reg [.q 0 .mv [.const (.bool false)] 8])
 (.seq
 (.seq
 (.reg [.q 0 .mv [.const (.int .i64 0)] 9])
 (.block 0
 (.loop L78_0)))
 L78_1))))⟩
theorem low78 : lowFn Tryd.prog Tryd.f78 = some L78 := by kernel_rfl
theorem call78 {args : List Value} {H : Heap} {S : Ending → Heap → Prop} (hn : args.length ≤ L78.n) (h : awpC Tryd.prog L78.body (retQ L78.results S) (fun ch H => S (.panicked ch) H) (env0 args) H) : ACalls Tryd.prog 78 args.toArray H S := acalls mixed Tryd.func78 low78 hn h
end Go.Proofs.YtgbhdpeibiglfaaDoor.Low
