/-
 Functions in short (out of the program's form in Lean, by the kernel).
-/
import Derived.Test.YtgbhdpeibiglfaaDoorSepRec
import Derived.Test.YtgbhdpeibiglfaaDoorProg
namespace Go.Proofs.YtgbhdpeibiglfaaDoor.Low
open Go Go.Proofs.YtgbhdpeibiglfaaDoor.Sep
theorem mixed : Tryd.prog.follows .mixedOrders = true := by kernel_rfl
/-- satchel/satchelref08.Is -/
def L9 : LFn :=
 ⟨18, [.t 2],
 (.seq
 (.reg [.q 0 .mv [.const (.bool false)] 2])
 (.seq
 (.reg [.q 0 .mv [.tmp 0] 3, .q 1 .len [.tmp 3] 4, .q 2 (.bin .geq) [.tmp 4, .const (.int .i64 2)] 5, .q 3 .mv [.tmp 5] 6, .g 4 .mv [.tmp 0] 7 6 true, .g 5 (.iad 1) [.tmp 7, .const (.int .i64 0)] 8 6 true, .g 6 .ld [.tmp 8] 9 6 true, .g 7 (.bin .eql) [.tmp 9, .const (.int .u8 31)] 10 6 true, .q 8 .pick [.tmp 6, .tmp 10, .const (.bool false)] 11, .q 9 .mv [.tmp 11] 12, .g 10 .mv [.tmp 0] 13 12 true, .g 11 (.iad 1) [.tmp 13, .const (.int .i64 1)] 14 12 true, .g 12 .ld [.tmp 14] 15 12 true, .g 13 (.bin .eql) [.tmp 15, .const (.int .u8 139)] 16 12 true, .q 14 .pick [.tmp 12, .tmp 16, .const (.bool false)] 17, .q 15 .mv [.tmp 17] 2])
 .ret))⟩
theorem low9 : lowFn Tryd.prog Tryd.f9 = some L9 := by kernel_rfl
theorem call9 {args : List Value} {H : Heap} {S : Ending → Heap → Prop} (hn : args.length ≤ L9.n) (h : awpC Tryd.prog L9.body (retQ L9.results S) (fun ch H => S (.panicked ch) H) (env0 args) H) : ACalls Tryd.prog 9 args.toArray H S := acalls mixed Tryd.func9 low9 hn h
/-- satchel/satchelref08.One -/
def L10 : LFn :=
 ⟨82, [.t 4, .c 5 (some 8), .t 6, .t 7],
 (.seq
 (.reg [.q 0 .mv [.const (.slice none 0 0)] 4, .e 1 (.new #[(.string ⟨#[]⟩), (.string ⟨#[]⟩), (.slice none 0 0), (.int .u32 0), (.int .u8 0), (.int .u8 0), (.bool false), (.bool false)] 26) [] 5, .q 2 .mv [.const (.int .i64 0)] 6, .q 3 .mv [.const (.int .i64 0)] 7])
 (.seq
 (.seq
 (.reg [.q 0 .mv [.tmp 1] 14, .q 1 (.bin .lss) [.tmp 14, .const (.int .i64 0)] 15, .q 2 .mv [.tmp 15] 16, .g 3 .mv [.tmp 1] 17 16 false, .g 4 (.bin .gtr) [.tmp 17, .const (.int .i64 4194304)] 18 16 false, .q 5 .pick [.tmp 16, .const (.bool true), .tmp 18] 19])
 (.cond (.tmp 19)
 (.seq
 (.reg [.q 0 (.build #[(.string ⟨#[]⟩), (.string ⟨#[]⟩), (.slice none 0 0), (.int .u32 0), (.int .u8 0), (.int .u8 0), (.bool false), (.bool false)] []) [] 20, .q 1 .mv [.const (.slice none 0 0)] 4, .n 2 (.st 8) [.tmp 5, .tmp 20], .q 3 .mv [.const (.int .i64 0)] 6, .q 4 .mv [.const (.int .i64 1)] 7])
 .ret)
 .skip))
 (.seq
 (.reg [.q 0 .mv [.tmp 0] 22, .e 1 (.call 17) [.tmp 22] 23, .q 2 .mv [.tmp 23] 21, .q 3 (.ext 0) [.tmp 21] 24, .q 4 (.ext 1) [.tmp 21] 25, .q 5 (.ext 2) [.tmp 21] 26, .e 6 (.new #[(.string ⟨#[]⟩), (.string ⟨#[]⟩), (.slice none 0 0), (.int .u32 0), (.int .u8 0), (.int .u8 0), (.bool false), (.bool false)] 26) [] 8, .n 7 (.st 8) [.tmp 8, .tmp 24], .q 8 .mv [.tmp 25] 9, .q 9 .mv [.tmp 26] 10])
 (.seq
 (.seq
 (.reg [.q 0 .mv [.tmp 10] 27, .q 1 (.bin .neq) [.tmp 27, .const (.int .i64 0)] 28])
 (.cond (.tmp 28)
 (.seq
 (.reg [.q 0 (.build #[(.string ⟨#[]⟩), (.string ⟨#[]⟩), (.slice none 0 0), (.int .u32 0), (.int .u8 0), (.int .u8 0), (.bool false), (.bool false)] []) [] 29, .q 1 .mv [.tmp 10] 30, .q 2 .mv [.const (.slice none 0 0)] 4, .n 3 (.st 8) [.tmp 5, .tmp 29], .q 4 .mv [.const (.int .i64 0)] 6, .q 5 .mv [.tmp 30] 7])
 .ret)
 .skip))
 (.seq
 (.reg [.q 0 .mv [.tmp 0] 32, .q 1 .mv [.tmp 9] 33, .q 2 (.slc 1 true false false) [.tmp 32, .tmp 33] 34, .q 3 .mv [.tmp 1] 35, .e 4 (.call 18) [.tmp 34, .tmp 35] 36, .q 5 .mv [.tmp 36] 31, .q 6 (.ext 0) [.tmp 31] 37, .q 7 (.ext 1) [.tmp 31] 38, .q 8 (.ext 2) [.tmp 31] 39, .q 9 .mv [.tmp 37] 11, .q 10 .mv [.tmp 38] 12, .q 11 .mv [.tmp 39] 10])
 (.seq
 (.seq
 (.reg [.q 0 .mv [.tmp 10] 40, .q 1 (.bin .neq) [.tmp 40, .const (.int .i64 0)] 41])
 (.cond (.tmp 41)
 (.seq
 (.reg [.q 0 (.build #[(.string ⟨#[]⟩), (.string ⟨#[]⟩), (.slice none 0 0), (.int .u32 0), (.int .u8 0), (.int .u8 0), (.bool false), (.bool false)] []) [] 42, .q 1 .mv [.tmp 10] 43, .q 2 .mv [.const (.slice none 0 0)] 4, .n 3 (.st 8) [.tmp 5, .tmp 42], .q 4 .mv [.const (.int .i64 0)] 6, .q 5 .mv [.tmp 43] 7])
 .ret)
 .skip))
 (.seq
 (.reg [.q 0 .mv [.tmp 9] 44, .q 1 .mv [.tmp 12] 45, .q 2 (.bin .add) [.tmp 44, .tmp 45] 46, .q 3 .mv [.tmp 46] 9])
 (.seq
 (.seq
 (.reg [.q 0 .mv [.tmp 0] 47, .q 1 .len [.tmp 47] 48, .q 2 .mv [.tmp 9] 49, .q 3 (.bin .add) [.tmp 49, .const (.int .i64 8)] 50, .q 4 (.bin .lss) [.tmp 48, .tmp 50] 51])
 (.cond (.tmp 51)
 (.seq
 (.reg [.q 0 (.build #[(.string ⟨#[]⟩), (.string ⟨#[]⟩), (.slice none 0 0), (.int .u32 0), (.int .u8 0), (.int .u8 0), (.bool false), (.bool false)] []) [] 52, .q 1 .mv [.const (.slice none 0 0)] 4, .n 2 (.st 8) [.tmp 5, .tmp 52], .q 3 .mv [.const (.int .i64 0)] 6, .q 4 .mv [.const (.int .i64 4)] 7])
 .ret)
 .skip))
 (.seq
 (.reg [.q 0 .mv [.tmp 11] 53, .e 1 (.call 19) [.tmp 53] 54, .q 2 .mv [.tmp 54] 13])
 (.seq
 (.seq
 (.reg [.q 0 .mv [.tmp 0] 55, .q 1 .mv [.tmp 9] 56, .q 2 .mv [.tmp 9] 57, .q 3 (.bin .add) [.tmp 57, .const (.int .i64 4)] 58, .q 4 (.slc 1 true true false) [.tmp 55, .tmp 56, .tmp 58] 59, .q 5 .b2s [.tmp 59] 60, .q 6 .mv [.tmp 13] 61, .q 7 (.slc 1 false true false) [.tmp 61, .const (.int .i64 4)] 62, .q 8 .b2s [.tmp 62] 63, .q 9 (.bin .neq) [.tmp 60, .tmp 63] 64])
 (.cond (.tmp 64)
 (.seq
 (.reg [.q 0 (.build #[(.string ⟨#[]⟩), (.string ⟨#[]⟩), (.slice none 0 0), (.int .u32 0), (.int .u8 0), (.int .u8 0), (.bool false), (.bool false)] []) [] 65, .q 1 .mv [.const (.slice none 0 0)] 4, .n 2 (.st 8) [.tmp 5, .tmp 65], .q 3 .mv [.const (.int .i64 0)] 6, .q 4 .mv [.const (.int .i64 83)] 7])
 .ret)
 .skip))
 (.seq
 (.seq
 (.reg [.q 0 .mv [.tmp 0] 66, .q 1 .mv [.tmp 9] 67, .q 2 (.bin .add) [.tmp 67, .const (.int .i64 4)] 68, .q 3 .mv [.tmp 9] 69, .q 4 (.bin .add) [.tmp 69, .const (.int .i64 8)] 70, .q 5 (.slc 1 true true false) [.tmp 66, .tmp 68, .tmp 70] 71, .q 6 .b2s [.tmp 71] 72, .q 7 .mv [.tmp 13] 73, .q 8 (.slc 1 true false false) [.tmp 73, .const (.int .i64 4)] 74, .q 9 .b2s [.tmp 74] 75, .q 10 (.bin .neq) [.tmp 72, .tmp 75] 76])
 (.cond (.tmp 76)
 (.seq
 (.reg [.q 0 (.build #[(.string ⟨#[]⟩), (.string ⟨#[]⟩), (.slice none 0 0), (.int .u32 0), (.int .u8 0), (.int .u8 0), (.bool false), (.bool false)] []) [] 77, .q 1 .mv [.const (.slice none 0 0)] 4, .n 2 (.st 8) [.tmp 5, .tmp 77], .q 3 .mv [.const (.int .i64 0)] 6, .q 4 .mv [.const (.int .i64 84)] 7])
 .ret)
 .skip))
 (.seq
 (.reg [.q 0 .mv [.tmp 11] 78, .q 1 (.ldn 8) [.tmp 8] 79, .q 2 .mv [.tmp 9] 80, .q 3 (.bin .add) [.tmp 80, .const (.int .i64 8)] 81, .q 4 .mv [.tmp 78] 4, .n 5 (.st 8) [.tmp 5, .tmp 79], .q 6 .mv [.tmp 81] 6, .q 7 .mv [.const (.int .i64 0)] 7])
 .ret))))))))))))⟩
theorem low10 : lowFn Tryd.prog Tryd.f10 = some L10 := by kernel_rfl
theorem call10 {args : List Value} {H : Heap} {S : Ending → Heap → Prop} (hn : args.length ≤ L10.n) (h : awpC Tryd.prog L10.body (retQ L10.results S) (fun ch H => S (.panicked ch) H) (env0 args) H) : ACalls Tryd.prog 10 args.toArray H S := acalls mixed Tryd.func10 low10 hn h
/-- satchel/satchelref08.Decode -/
def L11_0 : LCode :=
 (.seq
 (.seq
 (.reg [.q 0 .mv [.tmp 15] 48, .q 1 (.bin .neq) [.tmp 48, .const (.int .i64 0)] 49])
 (.cond (.tmp 49)
 (.seq
 (.reg [.q 0 .mv [.tmp 15] 50, .q 1 .mv [.const (.slice none 0 0)] 4, .q 2 .mv [.const (.slice none 0 0)] 5, .q 3 .mv [.tmp 50] 6])
 .ret)
 .skip))
 (.seq
 (.reg [.e 0 (.lits 5 #[] 0 []) [] 51, .q 1 .mv [.tmp 7] 52, .e 2 (.app 5 1 1 #[(.int .u8 0)]) [.tmp 51, .tmp 52] 53, .q 3 .mv [.tmp 12] 54, .e 4 (.app 5 1 1 #[(.int .u8 0)]) [.tmp 53, .tmp 54] 55, .q 5 .mv [.tmp 55] 7])
 (.seq
 (.reg [.q 0 .mv [.tmp 11] 56, .q 1 (.ldn 8) [.tmp 13] 57, .e 2 (.lits 26 #[(.string ⟨#[]⟩), (.string ⟨#[]⟩), (.slice none 0 0), (.int .u32 0), (.int .u8 0), (.int .u8 0), (.bool false), (.bool false)] 1 [(0, 8)]) [.tmp 57] 58, .e 3 (.app 26 8 64 #[(.string ⟨#[]⟩), (.string ⟨#[]⟩), (.slice none 0 0), (.int .u32 0), (.int .u8 0), (.int .u8 0), (.bool false), (.bool false)]) [.tmp 56, .tmp 58] 59, .q 4 .mv [.tmp 59] 11])
 (.reg [.q 0 .mv [.tmp 0] 60, .q 1 .mv [.tmp 14] 61, .q 2 (.slc 1 true false false) [.tmp 60, .tmp 61] 62, .q 3 .mv [.tmp 62] 0]))))
def L11_36 : LCode :=
 (.seq
 (.reg [.q 0 .mv [.tmp 0] 36, .q 1 .mv [.tmp 1] 37, .q 2 .mv [.tmp 7] 38, .q 3 .len [.tmp 38] 39, .q 4 (.bin .sub) [.tmp 37, .tmp 39] 40, .e 5 (.call 10) [.tmp 36, .tmp 40] 41, .q 6 .mv [.tmp 41] 35, .q 7 (.ext 0) [.tmp 35] 42, .q 8 (.ext 1) [.tmp 35] 43, .q 9 (.ext 2) [.tmp 35] 44, .q 10 (.ext 3) [.tmp 35] 45, .e 11 (.new #[(.string ⟨#[]⟩), (.string ⟨#[]⟩), (.slice none 0 0), (.int .u32 0), (.int .u8 0), (.int .u8 0), (.bool false), (.bool false)] 26) [] 13, .q 12 .mv [.tmp 42] 12, .n 13 (.st 8) [.tmp 13, .tmp 43], .q 14 .mv [.tmp 44] 14, .q 15 .mv [.tmp 45] 15])
 (.seq
 (.seq
 (.reg [.q 0 .mv [.tmp 15] 46, .q 1 (.bin .eql) [.tmp 46, .const (.int .i64 130)] 47])
 (.cond (.tmp 47)
 (.reg [.q 0 .mv [.const (.int .i64 5)] 15])
 .skip))
 L11_0))
def L11_1 : LCode :=
 (.seq
 (.seq
 (.reg [.q 0 .mv [.tmp 0] 32, .e 1 (.call 20) [.tmp 32] 33, .q 2 (.un .not) [.tmp 33] 34])
 (.cond (.tmp 34)
 .skip
 (.exit 0)))
 (.block 1
 L11_36))
def L11 : LFn :=
 ⟨65, [.t 4, .t 5, .t 6],
 (.seq
 (.reg [.q 0 .mv [.const (.slice none 0 0)] 4, .q 1 .mv [.const (.slice none 0 0)] 5, .q 2 .mv [.const (.int .i64 0)] 6])
 (.seq
 (.reg [.q 0 .mv [.tmp 0] 17, .q 1 .mv [.tmp 1] 18, .e 2 (.call 10) [.tmp 17, .tmp 18] 19, .q 3 .mv [.tmp 19] 16, .q 4 (.ext 0) [.tmp 16] 20, .q 5 (.ext 1) [.tmp 16] 21, .q 6 (.ext 2) [.tmp 16] 22, .q 7 (.ext 3) [.tmp 16] 23, .e 8 (.new #[(.string ⟨#[]⟩), (.string ⟨#[]⟩), (.slice none 0 0), (.int .u32 0), (.int .u8 0), (.int .u8 0), (.bool false), (.bool false)] 26) [] 8, .q 9 .mv [.tmp 20] 7, .n 10 (.st 8) [.tmp 8, .tmp 21], .q 11 .mv [.tmp 22] 9, .q 12 .mv [.tmp 23] 10])
 (.seq
 (.seq
 (.reg [.q 0 .mv [.tmp 10] 24, .q 1 (.bin .neq) [.tmp 24, .const (.int .i64 0)] 25])
 (.cond (.tmp 25)
 (.seq
 (.reg [.q 0 .mv [.tmp 10] 26, .q 1 .mv [.const (.slice none 0 0)] 4, .q 2 .mv [.const (.slice none 0 0)] 5, .q 3 .mv [.tmp 26] 6])
 .ret)
 .skip))
 (.seq
 (.reg [.q 0 (.ldn 8) [.tmp 8] 27, .e 1 (.lits 26 #[(.string ⟨#[]⟩), (.string ⟨#[]⟩), (.slice none 0 0), (.int .u32 0), (.int .u8 0), (.int .u8 0), (.bool false), (.bool false)] 1 [(0, 8)]) [.tmp 27] 28, .q 2 .mv [.tmp 28] 11])
 (.seq
 (.reg [.q 0 .mv [.tmp 0] 29, .q 1 .mv [.tmp 9] 30, .q 2 (.slc 1 true false false) [.tmp 29, .tmp 30] 31, .q 3 .mv [.tmp 31] 0])
 (.seq
 (.block 0
 (.loop L11_1))
 (.seq
 (.reg [.q 0 .mv [.tmp 7] 63, .q 1 .mv [.tmp 11] 64, .q 2 .mv [.tmp 63] 4, .q 3 .mv [.tmp 64] 5, .q 4 .mv [.const (.int .i64 0)] 6])
 .ret)))))))⟩
theorem low11 : lowFn Tryd.prog Tryd.f11 = some L11 := by kernel_rfl
theorem call11 {args : List Value} {H : Heap} {S : Ending → Heap → Prop} (hn : args.length ≤ L11.n) (h : awpC Tryd.prog L11.body (retQ L11.results S) (fun ch H => S (.panicked ch) H) (env0 args) H) : ACalls Tryd.prog 11 args.toArray H S := acalls mixed Tryd.func11 low11 hn h
/-- satchel/satchellaw08.sameMember -/
def L13 : LFn :=
 ⟨57, [.t 4],
 (.seq
 (.reg [.e 0 (.box 26) [.tmp 0] 2, .e 1 (.box 26) [.tmp 1] 3, .q 2 .mv [.const (.bool false)] 4])
 (.seq
 (.seq
 (.reg [.q 0 (.fad 0) [.tmp 2] 5, .q 1 .ld [.tmp 5] 6, .q 2 (.fad 0) [.tmp 3] 7, .q 3 .ld [.tmp 7] 8, .q 4 (.bin .neq) [.tmp 6, .tmp 8] 9, .q 5 .mv [.tmp 9] 10, .g 6 (.fad 1) [.tmp 2] 11 10 false, .g 7 .ld [.tmp 11] 12 10 false, .g 8 (.fad 1) [.tmp 3] 13 10 false, .g 9 .ld [.tmp 13] 14 10 false, .g 10 (.bin .neq) [.tmp 12, .tmp 14] 15 10 false, .q 11 .pick [.tmp 10, .const (.bool true), .tmp 15] 16, .q 12 .mv [.tmp 16] 17, .g 13 (.fad 3) [.tmp 2] 18 17 false, .g 14 .ld [.tmp 18] 19 17 false, .g 15 (.fad 3) [.tmp 3] 20 17 false, .g 16 .ld [.tmp 20] 21 17 false, .g 17 (.bin .neq) [.tmp 19, .tmp 21] 22 17 false, .q 18 .pick [.tmp 17, .const (.bool true), .tmp 22] 23, .q 19 .mv [.tmp 23] 24, .g 20 (.fad 4) [.tmp 2] 25 24 false, .g 21 .ld [.tmp 25] 26 24 false, .g 22 (.fad 4) [.tmp 3] 27 24 false, .g 23 .ld [.tmp 27] 28 24 false, .g 24 (.bin .neq) [.tmp 26, .tmp 28] 29 24 false, .q 25 .pick [.tmp 24, .const (.bool true), .tmp 29] 30, .q 26 .mv [.tmp 30] 31, .g 27 (.fad 5) [.tmp 2] 32 31 false, .g 28 .ld [.tmp 32] 33 31 false, .g 29 (.fad 5) [.tmp 3] 34 31 false, .g 30 .ld [.tmp 34] 35 31 false, .g 31 (.bin .neq) [.tmp 33, .tmp 35] 36 31 false, .q 32 .pick [.tmp 31, .const (.bool true), .tmp 36] 37, .q 33 .mv [.tmp 37] 38, .g 34 (.fad 6) [.tmp 2] 39 38 false, .g 35 .ld [.tmp 39] 40 38 false, .g 36 (.fad 6) [.tmp 3] 41 38 false, .g 37 .ld [.tmp 41] 42 38 false, .g 38 (.eqb true) [.tmp 40, .tmp 42] 43 38 false, .q 39 .pick [.tmp 38, .const (.bool true), .tmp 43] 44, .q 40 .mv [.tmp 44] 45, .g 41 (.fad 7) [.tmp 2] 46 45 false, .g 42 .ld [.tmp 46] 47 45 false, .g 43 (.fad 7) [.tmp 3] 48 45 false, .g 44 .ld [.tmp 48] 49 45 false, .g 45 (.eqb true) [.tmp 47, .tmp 49] 50 45 false, .q 46 .pick [.tmp 45, .const (.bool true), .tmp 50] 51])
 (.cond (.tmp 51)
 (.seq
 (.reg [.q 0 .mv [.const (.bool false)] 4])
 .ret)
 .skip))
 (.seq
 (.reg [.q 0 (.fad 2) [.tmp 2] 52, .q 1 .ld [.tmp 52] 53, .q 2 (.fad 2) [.tmp 3] 54, .q 3 .ld [.tmp 54] 55, .e 4 (.call 12) [.tmp 53, .tmp 55] 56, .q 5 .mv [.tmp 56] 4])
 .ret)))⟩
theorem low13 : lowFn Tryd.prog Tryd.f13 = some L13 := by kernel_rfl
theorem call13 {args : List Value} {H : Heap} {S : Ending → Heap → Prop} (hn : args.length ≤ L13.n) (h : awpC Tryd.prog L13.body (retQ L13.results S) (fun ch H => S (.panicked ch) H) (env0 args) H) : ACalls Tryd.prog 13 args.toArray H S := acalls mixed Tryd.func13 low13 hn h
/-- satchel/satchelref08.headed -/
def L17_0 : LCode :=
 (.seq
 (.seq
 (.reg [.q 0 .mv [.tmp 6] 10, .q 1 (.bin .lss) [.tmp 10, .const (.int .i64 3)] 11])
 (.cond (.tmp 11)
 .skip
 (.exit 0)))
 (.seq
 (.block 1
 (.seq
 (.seq
 (.reg [.q 0 .mv [.tmp 6] 14, .q 1 .mv [.tmp 0] 15, .q 2 .len [.tmp 15] 16, .q 3 (.bin .geq) [.tmp 14, .tmp 16] 17])
 (.cond (.tmp 17)
 (.seq
 (.reg [.q 0 (.ldn 8) [.tmp 2] 18, .n 1 (.st 8) [.tmp 2, .tmp 18], .q 2 .mv [.const (.int .i64 0)] 3, .q 3 .mv [.const (.int .i64 4)] 4])
 .ret)
 .skip))
 (.seq
 (.seq
 (.reg [.q 0 .mv [.tmp 0] 19, .q 1 .mv [.tmp 6] 20, .q 2 (.iad 1) [.tmp 19, .tmp 20] 21, .q 3 .ld [.tmp 21] 22, .q 4 .mv [.tmp 5] 23, .q 5 .mv [.tmp 6] 24, .q 6 (.iad 1) [.tmp 23, .tmp 24] 25, .q 7 .ld [.tmp 25] 26, .q 8 (.bin .neq) [.tmp 22, .tmp 26] 27, .q 9 .mv [.tmp 27] 28, .g 10 .mv [.tmp 6] 29 28 true, .g 11 (.bin .lss) [.tmp 29, .const (.int .i64 2)] 30 28 true, .q 12 .pick [.tmp 28, .tmp 30, .const (.bool false)] 31])
 (.cond (.tmp 31)
 (.seq
 (.reg [.q 0 (.ldn 8) [.tmp 2] 32, .n 1 (.st 8) [.tmp 2, .tmp 32], .q 2 .mv [.const (.int .i64 0)] 3, .q 3 .mv [.const (.int .i64 130)] 4])
 .ret)
 .skip))
 (.seq
 (.reg [.q 0 .mv [.tmp 0] 33, .q 1 .mv [.tmp 6] 34, .q 2 (.iad 1) [.tmp 33, .tmp 34] 35, .q 3 .ld [.tmp 35] 36, .q 4 .mv [.tmp 5] 37, .q 5 .mv [.tmp 6] 38, .q 6 (.iad 1) [.tmp 37, .tmp 38] 39, .q 7 .ld [.tmp 39] 40, .q 8 (.bin .neq) [.tmp 36, .tmp 40] 41])
 (.cond (.tmp 41)
 (.seq
 (.reg [.q 0 (.ldn 8) [.tmp 2] 42, .n 1 (.st 8) [.tmp 2, .tmp 42], .q 2 .mv [.const (.int .i64 0)] 3, .q 3 .mv [.const (.int .i64 80)] 4])
 .ret)
 .skip)))))
 (.reg [.q 0 .mv [.tmp 6] 12, .q 1 (.bin .add) [.tmp 12, .const (.int .i64 1)] 13, .q 2 .mv [.tmp 13] 6])))
def L17_1 : LCode :=
 (.seq
 (.seq
 (.reg [.q 0 .mv [.tmp 4] 138, .q 1 (.bin .neq) [.tmp 138, .const (.int .i64 0)] 139, .q 2 .mv [.tmp 139] 140, .g 3 .mv [.tmp 7] 141 140 false, .g 4 (.bin .and) [.tmp 141, .const (.int .u8 2)] 142 140 false, .g 5 (.bin .eql) [.tmp 142, .const (.int .u8 0)] 143 140 false, .q 6 .pick [.tmp 140, .const (.bool true), .tmp 143] 144])
 (.cond (.tmp 144)
 (.seq
 (.reg [.q 0 (.ldn 8) [.tmp 2] 145, .q 1 .mv [.tmp 3] 146, .q 2 .mv [.tmp 4] 147, .n 3 (.st 8) [.tmp 2, .tmp 145], .q 4 .mv [.tmp 146] 3, .q 5 .mv [.tmp 147] 4])
 .ret)
 .skip))
 (.seq
 (.seq
 (.reg [.q 0 .mv [.tmp 0] 148, .q 1 .len [.tmp 148] 149, .q 2 .mv [.tmp 3] 150, .q 3 (.bin .add) [.tmp 150, .const (.int .i64 2)] 151, .q 4 (.bin .lss) [.tmp 149, .tmp 151] 152])
 (.cond (.tmp 152)
 (.seq
 (.reg [.q 0 (.ldn 8) [.tmp 2] 153, .n 1 (.st 8) [.tmp 2, .tmp 153], .q 2 .mv [.const (.int .i64 0)] 3, .q 3 .mv [.const (.int .i64 4)] 4])
 .ret)
 .skip))
 (.seq
 (.seq
 (.reg [.q 0 .mv [.tmp 0] 154, .q 1 .mv [.tmp 3] 155, .q 2 .mv [.tmp 3] 156, .q 3 (.bin .add) [.tmp 156, .const (.int .i64 2)] 157, .q 4 (.slc 1 true true false) [.tmp 154, .tmp 155, .tmp 157] 158, .q 6 .mv [.tmp 0] 160, .q 7 .mv [.tmp 3] 161, .q 8 (.slc 1 false true false) [.tmp 160, .tmp 161] 162, .e 5 (.call 28) [.tmp 158] 159, .e 9 (.call 30) [.tmp 162] 163, .q 10 (.bin .rem) [.tmp 163, .const (.int .u32 65536)] 164, .q 11 (.cvi .i64) [.tmp 164] 165, .q 12 (.bin .neq) [.tmp 159, .tmp 165] 166])
 (.cond (.tmp 166)
 (.seq
 (.reg [.q 0 (.ldn 8) [.tmp 2] 167, .n 1 (.st 8) [.tmp 2, .tmp 167], .q 2 .mv [.const (.int .i64 0)] 3, .q 3 .mv [.const (.int .i64 82)] 4])
 .ret)
 .skip))
 (.seq
 (.reg [.q 0 (.ldn 8) [.tmp 2] 168, .q 1 .mv [.tmp 3] 169, .q 2 (.bin .add) [.tmp 169, .const (.int .i64 2)] 170, .n 3 (.st 8) [.tmp 2, .tmp 168], .q 4 .mv [.tmp 170] 3, .q 5 .mv [.const (.int .i64 0)] 4])
 .ret))))
def L17_2 : LCode :=
 (.seq
 (.seq
 (.reg [.q 0 .mv [.tmp 4] 123, .q 1 (.bin .eql) [.tmp 123, .const (.int .i64 0)] 124, .q 2 .mv [.tmp 124] 125, .g 3 .mv [.tmp 7] 126 125 true, .g 4 (.bin .and) [.tmp 126, .const (.int .u8 16)] 127 125 true, .g 5 (.bin .neq) [.tmp 127, .const (.int .u8 0)] 128 125 true, .q 6 .pick [.tmp 125, .tmp 128, .const (.bool false)] 129])
 (.cond (.tmp 129)
 (.reg [.q 0 .mv [.tmp 0] 131, .q 1 .mv [.tmp 3] 132, .e 2 (.call 29) [.tmp 131, .tmp 132] 133, .q 3 .mv [.tmp 133] 130, .q 4 (.ext 0) [.tmp 130] 134, .q 5 (.ext 1) [.tmp 130] 135, .q 6 (.ext 2) [.tmp 130] 136, .q 7 (.fad 1) [.tmp 2] 137, .n 8 (.st 1) [.tmp 137, .tmp 134], .q 9 .mv [.tmp 135] 3, .q 10 .mv [.tmp 136] 4])
 .skip))
 L17_1)
def L17_3 : LCode :=
 (.seq
 (.seq
 (.reg [.q 0 .mv [.tmp 7] 112, .q 1 (.bin .and) [.tmp 112, .const (.int .u8 8)] 113, .q 2 (.bin .neq) [.tmp 113, .const (.int .u8 0)] 114])
 (.cond (.tmp 114)
 (.reg [.q 0 .mv [.tmp 0] 116, .q 1 .mv [.tmp 3] 117, .e 2 (.call 29) [.tmp 116, .tmp 117] 118, .q 3 .mv [.tmp 118] 115, .q 4 (.ext 0) [.tmp 115] 119, .q 5 (.ext 1) [.tmp 115] 120, .q 6 (.ext 2) [.tmp 115] 121, .q 7 (.fad 0) [.tmp 2] 122, .n 8 (.st 1) [.tmp 122, .tmp 119], .q 9 .mv [.tmp 120] 3, .q 10 .mv [.tmp 121] 4])
 .skip))
 L17_2)
def L17 : LFn :=
 ⟨171, [.c 2 (some 8), .t 3, .t 4],
 (.seq
 (.reg [.e 0 (.new #[(.string ⟨#[]⟩), (.string ⟨#[]⟩), (.slice none 0 0), (.int .u32 0), (.int .u8 0), (.int .u8 0), (.bool false), (.bool false)] 26) [] 2, .q 1 .mv [.const (.int .i64 0)] 3, .q 2 .mv [.const (.int .i64 0)] 4])
 (.seq
 (.reg [.e 0 (.lits 5 #[(.int .u8 0), (.int .u8 0), (.int .u8 0)] 3 [(0, 1), (1, 1), (2, 1)]) [.const (.int .u8 31), .const (.int .u8 139), .const (.int .u8 8)] 9, .q 1 .mv [.tmp 9] 5])
 (.seq
 (.seq
 (.reg [.q 0 .mv [.const (.int .i64 0)] 6])
 (.block 0
 (.loop L17_0)))
 (.seq
 (.seq
 (.reg [.q 0 .mv [.tmp 0] 43, .q 1 .len [.tmp 43] 44, .q 2 (.bin .lss) [.tmp 44, .const (.int .i64 4)] 45])
 (.cond (.tmp 45)
 (.seq
 (.reg [.q 0 (.ldn 8) [.tmp 2] 46, .n 1 (.st 8) [.tmp 2, .tmp 46], .q 2 .mv [.const (.int .i64 0)] 3, .q 3 .mv [.const (.int .i64 4)] 4])
 .ret)
 .skip))
 (.seq
 (.reg [.q 0 .mv [.tmp 0] 47, .q 1 (.iad 1) [.tmp 47, .const (.int .i64 3)] 48, .q 2 .ld [.tmp 48] 49, .q 3 .mv [.tmp 49] 7])
 (.seq
 (.seq
 (.reg [.q 0 .mv [.tmp 7] 50, .q 1 (.bin .geq) [.tmp 50, .const (.int .u8 32)] 51])
 (.cond (.tmp 51)
 (.seq
 (.reg [.q 0 (.ldn 8) [.tmp 2] 52, .n 1 (.st 8) [.tmp 2, .tmp 52], .q 2 .mv [.const (.int .i64 0)] 3, .q 3 .mv [.const (.int .i64 81)] 4])
 .ret)
 .skip))
 (.seq
 (.seq
 (.reg [.q 0 .mv [.tmp 0] 53, .q 1 .len [.tmp 53] 54, .q 2 (.bin .lss) [.tmp 54, .const (.int .i64 10)] 55])
 (.cond (.tmp 55)
 (.seq
 (.reg [.q 0 (.ldn 8) [.tmp 2] 56, .n 1 (.st 8) [.tmp 2, .tmp 56], .q 2 .mv [.const (.int .i64 0)] 3, .q 3 .mv [.const (.int .i64 4)] 4])
 .ret)
 .skip))
 (.seq
 (.reg [.q 0 .mv [.tmp 0] 57, .q 1 (.slc 1 true true false) [.tmp 57, .const (.int .i64 4), .const (.int .i64 8)] 58, .q 4 .mv [.tmp 0] 61, .q 5 (.iad 1) [.tmp 61, .const (.int .i64 8)] 62, ⟨6, .q .ld, [.tmp 62], (some 63), none, [], true⟩, .q 7 .mv [.tmp 0] 64, .q 8 (.iad 1) [.tmp 64, .const (.int .i64 9)] 65, ⟨9, .q .ld, [.tmp 65], (some 66), none, [], true⟩, .q 10 .mv [.tmp 7] 67, .q 11 (.bin .and) [.tmp 67, .const (.int .u8 1)] 68, .q 12 (.bin .neq) [.tmp 68, .const (.int .u8 0)] 69, .q 13 .mv [.tmp 7] 70, .q 14 (.bin .and) [.tmp 70, .const (.int .u8 2)] 71, .q 15 (.bin .neq) [.tmp 71, .const (.int .u8 0)] 72, ⟨2, .e (.call 28), [.tmp 58], (some 59), none, [9, 6], false⟩, .q 3 (.cvi .u32) [.tmp 59] 60, .q 16 (.build #[(.string ⟨#[]⟩), (.string ⟨#[]⟩), (.slice none 0 0), (.int .u32 0), (.int .u8 0), (.int .u8 0), (.bool false), (.bool false)] [(3, 1), (4, 1), (5, 1), (6, 1), (7, 1)]) [.tmp 60, .tmp 63, .tmp 66, .tmp 69, .tmp 72] 73, .n 17 (.st 8) [.tmp 2, .tmp 73]])
 (.seq
 (.reg [.q 0 .mv [.const (.int .i64 10)] 3])
 (.seq
 (.seq
 (.reg [.q 0 .mv [.tmp 7] 74, .q 1 (.bin .and) [.tmp 74, .const (.int .u8 4)] 75, .q 2 (.bin .neq) [.tmp 75, .const (.int .u8 0)] 76])
 (.cond (.tmp 76)
 (.seq
 (.seq
 (.reg [.q 0 .mv [.tmp 0] 77, .q 1 .len [.tmp 77] 78, .q 2 .mv [.tmp 3] 79, .q 3 (.bin .add) [.tmp 79, .const (.int .i64 2)] 80, .q 4 (.bin .lss) [.tmp 78, .tmp 80] 81])
 (.cond (.tmp 81)
 (.seq
 (.reg [.q 0 (.ldn 8) [.tmp 2] 82, .n 1 (.st 8) [.tmp 2, .tmp 82], .q 2 .mv [.const (.int .i64 0)] 3, .q 3 .mv [.const (.int .i64 4)] 4])
 .ret)
 .skip))
 (.seq
 (.reg [.q 0 .mv [.tmp 0] 83, .q 1 .mv [.tmp 3] 84, .q 2 .mv [.tmp 3] 85, .q 3 (.bin .add) [.tmp 85, .const (.int .i64 2)] 86, .q 4 (.slc 1 true true false) [.tmp 83, .tmp 84, .tmp 86] 87, .e 5 (.call 28) [.tmp 87] 88, .q 6 .mv [.tmp 88] 8])
 (.seq
 (.seq
 (.reg [.q 0 .mv [.tmp 0] 89, .q 1 .len [.tmp 89] 90, .q 2 .mv [.tmp 3] 91, .q 3 (.bin .add) [.tmp 91, .const (.int .i64 2)] 92, .q 4 .mv [.tmp 8] 93, .q 5 (.bin .add) [.tmp 92, .tmp 93] 94, .q 6 (.bin .lss) [.tmp 90, .tmp 94] 95])
 (.cond (.tmp 95)
 (.seq
 (.reg [.q 0 (.ldn 8) [.tmp 2] 96, .n 1 (.st 8) [.tmp 2, .tmp 96], .q 2 .mv [.const (.int .i64 0)] 3, .q 3 .mv [.const (.int .i64 4)] 4])
 .ret)
 .skip))
 (.seq
 (.reg [.e 0 (.lits 5 #[] 0 []) [] 97, .q 1 .mv [.tmp 0] 98, .q 2 .mv [.tmp 3] 99, .q 3 (.bin .add) [.tmp 99, .const (.int .i64 2)] 100, .q 4 .mv [.tmp 3] 101, .q 5 (.bin .add) [.tmp 101, .const (.int .i64 2)] 102, .q 6 .mv [.tmp 8] 103, .q 7 (.bin .add) [.tmp 102, .tmp 103] 104, .q 8 (.slc 1 true true false) [.tmp 98, .tmp 100, .tmp 104] 105, .e 9 (.app 5 1 1 #[(.int .u8 0)]) [.tmp 97, .tmp 105] 106, .q 10 (.fad 2) [.tmp 2] 107, .n 11 (.st 1) [.tmp 107, .tmp 106]])
 (.reg [.q 0 .mv [.tmp 3] 108, .q 1 (.bin .add) [.tmp 108, .const (.int .i64 2)] 109, .q 2 .mv [.tmp 8] 110, .q 3 (.bin .add) [.tmp 109, .tmp 110] 111, .q 4 .mv [.tmp 111] 3])))))
 .skip))
 L17_3))))))))))⟩
theorem low17 : lowFn Tryd.prog Tryd.f17 = some L17 := by kernel_rfl
theorem call17 {args : List Value} {H : Heap} {S : Ending → Heap → Prop} (hn : args.length ≤ L17.n) (h : awpC Tryd.prog L17.body (retQ L17.results S) (fun ch H => S (.panicked ch) H) (env0 args) H) : ACalls Tryd.prog 17 args.toArray H S := acalls mixed Tryd.func17 low17 hn h
/-- satchel/satchelref08.Tail -/
def L19 : LFn :=
 ⟨12, [.t 2],
 (.seq
 (.reg [.q 0 .mv [.const (.slice none 0 0)] 2])
 (.seq
 (.reg [.q 0 .mv [.tmp 0] 3, .e 1 (.call 30) [.tmp 3] 4, .q 2 (.cvi .u64) [.tmp 4] 5, .e 3 (.call 32) [.tmp 5, .const (.int .i64 4)] 6, .q 4 .mv [.tmp 0] 7, .q 5 .len [.tmp 7] 8, .q 6 (.cvi .u64) [.tmp 8] 9, .e 7 (.call 32) [.tmp 9, .const (.int .i64 4)] 10, .e 8 (.app 5 1 1 #[(.int .u8 0)]) [.tmp 6, .tmp 10] 11, .q 9 .mv [.tmp 11] 2])
 .ret))⟩
theorem low19 : lowFn Tryd.prog Tryd.f19 = some L19 := by kernel_rfl
theorem call19 {args : List Value} {H : Heap} {S : Ending → Heap → Prop} (hn : args.length ≤ L19.n) (h : awpC Tryd.prog L19.body (retQ L19.results S) (fun ch H => S (.panicked ch) H) (env0 args) H) : ACalls Tryd.prog 19 args.toArray H S := acalls mixed Tryd.func19 low19 hn h
/-- satchel/satchelref08.zeros -/
def L20_0 : LCode :=
 (.seq
 (.seq
 (.reg [.q 0 .mv [.tmp 3] 4, .q 1 .mv [.tmp 0] 5, .q 2 .len [.tmp 5] 6, .q 3 (.bin .lss) [.tmp 4, .tmp 6] 7])
 (.cond (.tmp 7)
 .skip
 (.exit 0)))
 (.seq
 (.block 1
 (.seq
 (.reg [.q 0 .mv [.tmp 0] 10, .q 1 .mv [.tmp 3] 11, .q 2 (.iad 1) [.tmp 10, .tmp 11] 12, .q 3 .ld [.tmp 12] 13, .q 4 (.bin .neq) [.tmp 13, .const (.int .u8 0)] 14])
 (.cond (.tmp 14)
 (.seq
 (.reg [.q 0 .mv [.const (.bool false)] 2])
 .ret)
 .skip)))
 (.reg [.q 0 .mv [.tmp 3] 8, .q 1 (.bin .add) [.tmp 8, .const (.int .i64 1)] 9, .q 2 .mv [.tmp 9] 3])))
def L20 : LFn :=
 ⟨15, [.t 2],
 (.seq
 (.reg [.q 0 .mv [.const (.bool false)] 2])
 (.seq
 (.seq
 (.reg [.q 0 .mv [.const (.int .i64 0)] 3])
 (.block 0
 (.loop L20_0)))
 (.seq
 (.reg [.q 0 .mv [.const (.bool true)] 2])
 .ret)))⟩
theorem low20 : lowFn Tryd.prog Tryd.f20 = some L20 := by kernel_rfl
theorem call20 {args : List Value} {H : Heap} {S : Ending → Heap → Prop} (hn : args.length ≤ L20.n) (h : awpC Tryd.prog L20.body (retQ L20.results S) (fun ch H => S (.panicked ch) H) (env0 args) H) : ACalls Tryd.prog 20 args.toArray H S := acalls mixed Tryd.func20 low20 hn h
/-- satchel/satchelref08.number -/
def L28_0 : LCode :=
 (.seq
 (.seq
 (.reg [.q 0 .mv [.tmp 4] 8, .q 1 (.bin .geq) [.tmp 8, .const (.int .i64 0)] 9])
 (.cond (.tmp 9)
 .skip
 (.exit 0)))
 (.seq
 (.block 1
 (.reg [.q 0 .mv [.tmp 3] 12, .q 1 (.bin .mul) [.tmp 12, .const (.int .i64 256)] 13, .q 2 .mv [.tmp 0] 14, .q 3 .mv [.tmp 4] 15, .q 4 (.iad 1) [.tmp 14, .tmp 15] 16, .q 5 .ld [.tmp 16] 17, .q 6 (.cvi .i64) [.tmp 17] 18, .q 7 (.bin .add) [.tmp 13, .tmp 18] 19, .q 8 .mv [.tmp 19] 3]))
 (.reg [.q 0 .mv [.tmp 4] 10, .q 1 (.bin .sub) [.tmp 10, .const (.int .i64 1)] 11, .q 2 .mv [.tmp 11] 4])))
def L28 : LFn :=
 ⟨21, [.t 2],
 (.seq
 (.reg [.q 0 .mv [.const (.int .i64 0)] 2])
 (.seq
 (.reg [.q 0 .mv [.const (.int .i64 0)] 3])
 (.seq
 (.seq
 (.reg [.q 0 .mv [.tmp 0] 5, .q 1 .len [.tmp 5] 6, .q 2 (.bin .sub) [.tmp 6, .const (.int .i64 1)] 7, .q 3 .mv [.tmp 7] 4])
 (.block 0
 (.loop L28_0)))
 (.seq
 (.reg [.q 0 .mv [.tmp 3] 20, .q 1 .mv [.tmp 20] 2])
 .ret))))⟩
theorem low28 : lowFn Tryd.prog Tryd.f28 = some L28 := by kernel_rfl
theorem call28 {args : List Value} {H : Heap} {S : Ending → Heap → Prop} (hn : args.length ≤ L28.n) (h : awpC Tryd.prog L28.body (retQ L28.results S) (fun ch H => S (.panicked ch) H) (env0 args) H) : ACalls Tryd.prog 28 args.toArray H S := acalls mixed Tryd.func28 low28 hn h
/-- satchel/satchelref08.text -/
def L29_0 : LCode :=
 (.seq
 (.seq
 (.reg [.q 0 .mv [.tmp 7] 9, .q 1 .mv [.tmp 0] 10, .q 2 .len [.tmp 10] 11, .q 3 (.bin .lss) [.tmp 9, .tmp 11] 12])
 (.cond (.tmp 12)
 .skip
 (.exit 0)))
 (.seq
 (.block 1
 (.seq
 (.seq
 (.reg [.q 0 .mv [.tmp 0] 15, .q 1 .mv [.tmp 7] 16, .q 2 (.iad 1) [.tmp 15, .tmp 16] 17, .q 3 .ld [.tmp 17] 18, .q 4 (.bin .eql) [.tmp 18, .const (.int .u8 0)] 19])
 (.cond (.tmp 19)
 (.seq
 (.reg [.q 0 .mv [.tmp 0] 20, .q 1 .mv [.tmp 1] 21, .q 2 .mv [.tmp 7] 22, .q 3 (.slc 1 true true false) [.tmp 20, .tmp 21, .tmp 22] 23, .q 4 .b2s [.tmp 23] 24, .q 5 .mv [.tmp 7] 25, .q 6 (.bin .add) [.tmp 25, .const (.int .i64 1)] 26, .q 7 .mv [.tmp 24] 4, .q 8 .mv [.tmp 26] 5, .q 9 .mv [.const (.int .i64 0)] 6])
 .ret)
 .skip))
 (.seq
 (.reg [.q 0 .mv [.tmp 7] 27, .q 1 .mv [.tmp 1] 28, .q 2 (.bin .sub) [.tmp 27, .tmp 28] 29, .q 3 (.bin .geq) [.tmp 29, .const (.int .i64 65535)] 30])
 (.cond (.tmp 30)
 (.seq
 (.reg [.q 0 .mv [.const (.string ⟨#[]⟩)] 4, .q 1 .mv [.const (.int .i64 0)] 5, .q 2 .mv [.const (.int .i64 2)] 6])
 .ret)
 .skip))))
 (.reg [.q 0 .mv [.tmp 7] 13, .q 1 (.bin .add) [.tmp 13, .const (.int .i64 1)] 14, .q 2 .mv [.tmp 14] 7])))
def L29 : LFn :=
 ⟨31, [.t 4, .t 5, .t 6],
 (.seq
 (.reg [.q 0 .mv [.const (.string ⟨#[]⟩)] 4, .q 1 .mv [.const (.int .i64 0)] 5, .q 2 .mv [.const (.int .i64 0)] 6])
 (.seq
 (.seq
 (.reg [.q 0 .mv [.tmp 1] 8, .q 1 .mv [.tmp 8] 7])
 (.block 0
 (.loop L29_0)))
 (.seq
 (.reg [.q 0 .mv [.const (.string ⟨#[]⟩)] 4, .q 1 .mv [.const (.int .i64 0)] 5, .q 2 .mv [.const (.int .i64 4)] 6])
 .ret)))⟩
theorem low29 : lowFn Tryd.prog Tryd.f29 = some L29 := by kernel_rfl
theorem call29 {args : List Value} {H : Heap} {S : Ending → Heap → Prop} (hn : args.length ≤ L29.n) (h : awpC Tryd.prog L29.body (retQ L29.results S) (fun ch H => S (.panicked ch) H) (env0 args) H) : ACalls Tryd.prog 29 args.toArray H S := acalls mixed Tryd.func29 low29 hn h
/-- satchel/satchelref08.Sum -/
def L30_0 : LCode :=
 (.reg [.q 0 .mv [.tmp 5] 21, .q 1 (.bin .add) [.tmp 21, .const (.int .i64 1)] 22, .q 2 .mv [.tmp 22] 5])
def L30_1 : LCode :=
 (.seq
 (.seq
 (.reg [.q 0 .mv [.tmp 5] 19, .q 1 (.bin .lss) [.tmp 19, .const (.int .i64 8)] 20])
 (.cond (.tmp 20)
 .skip
 (.exit 2)))
 (.seq
 (.block 3
 (.seq
 (.reg [.q 0 .mv [.tmp 3] 23, .q 1 (.bin .rem) [.tmp 23, .const (.int .u32 2)] 24, .q 2 (.bin .eql) [.tmp 24, .const (.int .u32 1)] 25])
 (.cond (.tmp 25)
 (.reg [.q 0 .mv [.tmp 3] 26, .q 1 (.bin .shr) [.tmp 26, .const (.int .u64 1)] 27, .q 2 (.bin .xor) [.tmp 27, .const (.int .u32 3988292384)] 28, .q 3 .mv [.tmp 28] 3])
 (.reg [.q 0 .mv [.tmp 3] 29, .q 1 (.bin .shr) [.tmp 29, .const (.int .u64 1)] 30, .q 2 .mv [.tmp 30] 3]))))
 L30_0))
def L30_2 : LCode :=
 (.seq
 (.seq
 (.reg [.q 0 .mv [.tmp 4] 6, .q 1 .mv [.tmp 0] 7, .q 2 .len [.tmp 7] 8, .q 3 (.bin .lss) [.tmp 6, .tmp 8] 9])
 (.cond (.tmp 9)
 .skip
 (.exit 0)))
 (.seq
 (.block 1
 (.seq
 (.reg [.q 0 .mv [.tmp 3] 12, .q 1 .mv [.tmp 0] 13, .q 2 .mv [.tmp 4] 14, .q 3 (.iad 1) [.tmp 13, .tmp 14] 15, .q 4 .ld [.tmp 15] 16, .q 5 (.cvi .u32) [.tmp 16] 17, .q 6 (.bin .xor) [.tmp 12, .tmp 17] 18, .q 7 .mv [.tmp 18] 3])
 (.seq
 (.reg [.q 0 .mv [.const (.int .i64 0)] 5])
 (.block 2
 (.loop L30_1)))))
 (.reg [.q 0 .mv [.tmp 4] 10, .q 1 (.bin .add) [.tmp 10, .const (.int .i64 1)] 11, .q 2 .mv [.tmp 11] 4])))
def L30_3 : LCode :=
 (.seq
 (.reg [.q 0 .mv [.tmp 3] 31, .q 1 (.bin .xor) [.tmp 31, .const (.int .u32 4294967295)] 32, .q 2 .mv [.tmp 32] 2])
 .ret)
def L30 : LFn :=
 ⟨33, [.t 2],
 (.seq
 (.reg [.q 0 .mv [.const (.int .u32 0)] 2])
 (.seq
 (.reg [.q 0 .mv [.const (.int .u32 4294967295)] 3])
 (.seq
 (.seq
 (.reg [.q 0 .mv [.const (.int .i64 0)] 4])
 (.block 0
 (.loop L30_2)))
 L30_3)))⟩
theorem low30 : lowFn Tryd.prog Tryd.f30 = some L30 := by kernel_rfl
theorem call30 {args : List Value} {H : Heap} {S : Ending → Heap → Prop} (hn : args.length ≤ L30.n) (h : awpC Tryd.prog L30.body (retQ L30.results S) (fun ch H => S (.panicked ch) H) (env0 args) H) : ACalls Tryd.prog 30 args.toArray H S := acalls mixed Tryd.func30 low30 hn h
/-- satchel/satchelref08.low -/
def L32_0 : LCode :=
 (.seq
 (.seq
 (.reg [.q 0 .mv [.tmp 6] 7, .q 1 .mv [.tmp 1] 8, .q 2 (.bin .lss) [.tmp 7, .tmp 8] 9])
 (.cond (.tmp 9)
 .skip
 (.exit 0)))
 (.seq
 (.block 1
 (.reg [.q 0 .mv [.tmp 5] 12, .q 1 .mv [.tmp 0] 13, .q 2 .mv [.tmp 6] 14, .q 3 (.bin .mul) [.const (.int .i64 8), .tmp 14] 15, .q 4 (.bin .shr) [.tmp 13, .tmp 15] 16, .q 5 (.cvi .u8) [.tmp 16] 17, .e 6 (.lits 5 #[(.int .u8 0)] 1 [(0, 1)]) [.tmp 17] 18, .e 7 (.app 5 1 1 #[(.int .u8 0)]) [.tmp 12, .tmp 18] 19, .q 8 .mv [.tmp 19] 5]))
 (.reg [.q 0 .mv [.tmp 6] 10, .q 1 (.bin .add) [.tmp 10, .const (.int .i64 1)] 11, .q 2 .mv [.tmp 11] 6])))
def L32 : LFn :=
 ⟨21, [.t 4],
 (.seq
 (.reg [.q 0 .mv [.const (.slice none 0 0)] 4])
 (.seq
 (.reg [.q 0 .mv [.const (.slice none 0 0)] 5])
 (.seq
 (.seq
 (.reg [.q 0 .mv [.const (.int .i64 0)] 6])
 (.block 0
 (.loop L32_0)))
 (.seq
 (.reg [.q 0 .mv [.tmp 5] 20, .q 1 .mv [.tmp 20] 4])
 .ret))))⟩
theorem low32 : lowFn Tryd.prog Tryd.f32 = some L32 := by kernel_rfl
theorem call32 {args : List Value} {H : Heap} {S : Ending → Heap → Prop} (hn : args.length ≤ L32.n) (h : awpC Tryd.prog L32.body (retQ L32.results S) (fun ch H => S (.panicked ch) H) (env0 args) H) : ACalls Tryd.prog 32 args.toArray H S := acalls mixed Tryd.func32 low32 hn h
end Go.Proofs.YtgbhdpeibiglfaaDoor.Low
