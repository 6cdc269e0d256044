/-
 Functions in short (out of the program's form in Lean, by the kernel).
-/
import Derived.Test.YtgbhdpeibiglfaaDoorSepRec
import Derived.Test.YtgbhdpeibiglfaaDoorProg
namespace Go.Proofs.YtgbhdpeibiglfaaDoor.Low
open Go Go.Proofs.YtgbhdpeibiglfaaDoor.Sep
theorem mixed : Tryd.prog.follows .mixedOrders = true := by kernel_rfl
/-- satchel/inflate.Decode -/
def L23 : LFn :=
 ⟨25, [.t 4, .t 5, .t 6],
 (.seq
 (.reg [.q 0 .mv [.const (.slice none 0 0)] 4, .q 1 .mv [.const (.int .i64 0)] 5, .q 2 .mv [.const (.int .i64 0)] 6])
 (.seq
 (.seq
 (.reg [.q 0 .mv [.tmp 1] 10, .e 1 (.call 41) [.tmp 10] 11, .q 2 (.un .not) [.tmp 11] 12])
 (.cond (.tmp 12)
 (.seq
 (.reg [.q 0 .mv [.const (.slice none 0 0)] 4, .q 1 .mv [.const (.int .i64 0)] 5, .q 2 .mv [.const (.int .i64 1)] 6])
 .ret)
 .skip))
 (.seq
 (.reg [.q 0 .mv [.tmp 0] 14, .q 1 .mv [.tmp 1] 15, .e 2 (.call 42) [.tmp 14, .tmp 15] 16, .q 3 .mv [.tmp 16] 13, .q 4 (.ext 0) [.tmp 13] 17, .q 5 (.ext 1) [.tmp 13] 18, .q 6 (.ext 2) [.tmp 13] 19, .q 7 .mv [.tmp 17] 7, .q 8 .mv [.tmp 18] 8, .q 9 .mv [.tmp 19] 9])
 (.seq
 (.seq
 (.reg [.q 0 .mv [.tmp 9] 20, .q 1 (.bin .neq) [.tmp 20, .const (.int .i64 0)] 21])
 (.cond (.tmp 21)
 (.seq
 (.reg [.q 0 .mv [.tmp 9] 22, .q 1 .mv [.const (.slice none 0 0)] 4, .q 2 .mv [.const (.int .i64 0)] 5, .q 3 .mv [.tmp 22] 6])
 .ret)
 .skip))
 (.seq
 (.reg [.q 0 .mv [.tmp 7] 23, .q 1 .mv [.tmp 8] 24, .q 2 .mv [.tmp 23] 4, .q 3 .mv [.tmp 24] 5, .q 4 .mv [.const (.int .i64 0)] 6])
 .ret)))))⟩
theorem low23 : lowFn Tryd.prog Tryd.f23 = some L23 := by kernel_rfl
theorem call23 {args : List Value} {H : Heap} {S : Ending → Heap → Prop} (hn : args.length ≤ L23.n) (h : awpC Tryd.prog L23.body (retQ L23.results S) (fun ch H => S (.panicked ch) H) (env0 args) H) : ACalls Tryd.prog 23 args.toArray H S := acalls mixed Tryd.func23 low23 hn h
/-- satchel/inflate.fits -/
def L41 : LFn :=
 ⟨9, [.t 2],
 (.seq
 (.reg [.q 0 .mv [.const (.bool false)] 2])
 (.seq
 (.reg [.q 0 .mv [.tmp 0] 3, .q 1 (.bin .geq) [.tmp 3, .const (.int .i64 0)] 4, .q 2 .mv [.tmp 4] 5, .g 3 .mv [.tmp 0] 6 5 true, .g 4 (.bin .leq) [.tmp 6, .const (.int .i64 4194304)] 7 5 true, .q 5 .pick [.tmp 5, .tmp 7, .const (.bool false)] 8, .q 6 .mv [.tmp 8] 2])
 .ret))⟩
theorem low41 : lowFn Tryd.prog Tryd.f41 = some L41 := by kernel_rfl
theorem call41 {args : List Value} {H : Heap} {S : Ending → Heap → Prop} (hn : args.length ≤ L41.n) (h : awpC Tryd.prog L41.body (retQ L41.results S) (fun ch H => S (.panicked ch) H) (env0 args) H) : ACalls Tryd.prog 41 args.toArray H S := acalls mixed Tryd.func41 low41 hn h
/-- satchel/inflate.read -/
def L42_0 : LCode :=
 (.seq
 (.seq
 (.reg [.q 0 .mv [.tmp 8] 15, .q 1 (.bin .eql) [.tmp 15, .const (.int .i64 0)] 16])
 (.cond (.tmp 16)
 .skip
 (.exit 0)))
 (.block 1
 (.seq
 (.reg [.q 0 .ld [.tmp 7] 17, .e 1 (.call 52) [.tmp 17, .const (.int .i64 1)] 18, .q 2 .mv [.tmp 18] 8])
 (.seq
 (.reg [.q 0 .ld [.tmp 7] 19, .e 1 (.call 52) [.tmp 19, .const (.int .i64 2)] 20])
 (.block 2
 (.seq
 (.reg [.q 0 (.bin .eql) [.tmp 20, .const (.int .i64 0)] 23, .q 1 .mv [.tmp 23] 22])
 (.cond (.tmp 22)
 (.reg [.q 0 .ld [.tmp 7] 24, .e 1 (.call 53) [.tmp 24] 25])
 (.seq
 (.reg [.q 0 (.bin .eql) [.tmp 20, .const (.int .i64 1)] 27, .q 1 .mv [.tmp 27] 26])
 (.cond (.tmp 26)
 (.reg [⟨0, .q .ld, [.tmp 7], (some 28), none, [], true⟩, ⟨1, .e (.call 55), [], (some 29), none, [0], false⟩, .q 2 (.ext 0) [.tmp 29] 30, .q 3 (.ext 1) [.tmp 29] 31, .e 4 (.call 54) [.tmp 28, .tmp 30, .tmp 31] 32])
 (.seq
 (.reg [.q 0 (.bin .eql) [.tmp 20, .const (.int .i64 2)] 34, .q 1 .mv [.tmp 34] 33])
 (.cond (.tmp 33)
 (.reg [⟨0, .q .ld, [.tmp 7], (some 35), none, [], true⟩, .q 1 .ld [.tmp 7] 36, ⟨2, .e (.call 56), [.tmp 36], (some 37), none, [0], false⟩, .q 3 (.ext 0) [.tmp 37] 38, .q 4 (.ext 1) [.tmp 37] 39, .e 5 (.call 54) [.tmp 35, .tmp 38, .tmp 39] 40])
 (.reg [.q 0 (.mki 27) [.const (.int .i64 60)] 21, .n 1 .pan [.tmp 21]]))))))))))))
def L42 : DFn :=
 ⟨54, [.c 4 none, .t 5, .c 6 none],
 (.reg [.e 0 (.new #[(.slice none 0 0)] 22) [] 4, .q 1 .mv [.const (.int .i64 0)] 5, .e 2 (.new #[(.int .i64 0)] 27) [] 6]),
 (.seq
 (.reg [.q 0 .mv [.tmp 0] 9, .e 1 (.call 50) [.tmp 9] 10, .q 2 .mv [.tmp 1] 11, .q 3 (.build #[(.pointer none), (.slice none 0 0), (.int .i64 0)] [(0, 1), (2, 1)]) [.tmp 10, .tmp 11] 12, .e 4 (.box 77) [.tmp 12] 13, .e 5 (.new #[(.pointer none)] 73) [] 7, .n 6 (.st 1) [.tmp 7, .tmp 13]])
 (.dfr [.q 0 (.mkf (.func 51) 0) [.tmp 7, .tmp 4, .tmp 6] 14] (.tmp 14) []
 (.seq
 (.seq
 (.reg [.q 0 .mv [.const (.int .i64 0)] 8])
 (.block 0
 (.loop L42_0)))
 (.seq
 (.reg [⟨0, .q .ld, [.tmp 7], (some 41), none, [], true⟩, .q 1 .nilc [.tmp 41] 42, .q 2 (.fad 1) [.tmp 42] 43, ⟨3, .q .ld, [.tmp 43], (some 44), none, [], true⟩, .q 4 .mv [.tmp 0] 45, .q 5 .len [.tmp 45] 46, .q 6 .ld [.tmp 7] 47, .q 7 .nilc [.tmp 47] 48, .q 8 (.fad 0) [.tmp 48] 49, .q 9 .ld [.tmp 49] 50, ⟨10, .e (.call 57), [.tmp 50], (some 51), none, [3, 0], false⟩, .q 11 (.bin .quo) [.tmp 51, .const (.int .i64 8)] 52, .q 12 (.bin .sub) [.tmp 46, .tmp 52] 53, .n 13 (.st 1) [.tmp 4, .tmp 44], .q 14 .mv [.tmp 53] 5, .n 15 (.st 1) [.tmp 6, .const (.int .i64 0)]])
 (.code
 .ret)))))⟩
theorem low42 : lowDFn Tryd.prog Tryd.f42 = some L42 := by kernel_rfl
theorem call42 {args : List Value} {H : Heap} {S : Ending → Heap → Prop} (hn : args.length ≤ L42.n) (h : awpC Tryd.prog L42.pre (preDQ Tryd.prog L42 S) (fun ch H => S (.panicked ch) H) (env0 args) H) : ACalls Tryd.prog 42 args.toArray H S := acalls_dq mixed Tryd.func42 low42 hn h
/-- satchel/inflate.read$1 -/
def L51 : RFn :=
 ⟨13, [],
 (.reg [.q 0 .ld [.tmp 0] 4, .q 1 .nilc [.tmp 4] 5, .q 2 (.fad 1) [.tmp 5] 6, .q 3 .ld [.tmp 6] 7, .n 4 (.st 1) [.tmp 1, .tmp 7]]),
 8, [.q 1 .mv [.tmp 8] 3],
 (.seq
 (.reg [.q 0 .mv [.tmp 3] 9, .q 1 (.ein true) [.tmp 9, .const .nilIface] 10])
 (.cond (.tmp 10)
 (.reg [.q 0 .mv [.tmp 3] 11, .q 1 (.tas 27) [.tmp 11] 12, .n 2 (.st 1) [.tmp 2, .tmp 12]])
 .skip))⟩
theorem low51 : lowRFn Tryd.prog Tryd.f51 = some L51 := by kernel_rfl
theorem call51 {args captured : List Value} {u : FrameMode} {H : Heap} {S : Ending → FrameMode → Heap → Prop} (hn : (args ++ captured).length ≤ L51.n) (h : awpC Tryd.prog L51.pre (recQ Tryd.prog L51 u S) (fun ch H => S (.panicked ch) u H) (env0 (args ++ captured)) H) : ADef Tryd.prog ⟨.fn (.func 51) captured.toArray, args.toArray⟩ u H S := adef_rq mixed Tryd.func51 low51 (by kernel_rfl) hn h
/-- (*satchel/inflate.stream).take -/
def L52_0 : LCode :=
 (.seq
 (.reg [.q 0 .mv [.tmp 5] 19, .q 1 (.cvi .i64) [.tmp 19] 20, .q 2 .mv [.tmp 20] 4])
 .ret)
def L52 : LFn :=
 ⟨21, [.t 4],
 (.seq
 (.reg [.q 0 .mv [.const (.int .i64 0)] 4])
 (.seq
 (.reg [.q 0 .mv [.tmp 0] 8, .q 1 .nilc [.tmp 8] 9, .q 2 (.fad 0) [.tmp 9] 10, .q 3 .ld [.tmp 10] 11, .q 4 .mv [.tmp 1] 12, .e 5 (.call 64) [.tmp 11, .tmp 12] 13, .q 6 .mv [.tmp 13] 7, .q 7 (.ext 0) [.tmp 7] 14, .q 8 (.ext 1) [.tmp 7] 15, .q 9 .mv [.tmp 14] 5, .q 10 .mv [.tmp 15] 6])
 (.seq
 (.seq
 (.reg [.q 0 .mv [.tmp 6] 16, .q 1 (.bin .neq) [.tmp 16, .const (.int .i64 0)] 17])
 (.cond (.tmp 17)
 (.reg [.q 0 (.mki 27) [.const (.int .i64 4)] 18, .n 1 .pan [.tmp 18]])
 .skip))
 L52_0)))⟩
theorem low52 : lowFn Tryd.prog Tryd.f52 = some L52 := by kernel_rfl
theorem call52 {args : List Value} {H : Heap} {S : Ending → Heap → Prop} (hn : args.length ≤ L52.n) (h : awpC Tryd.prog L52.body (retQ L52.results S) (fun ch H => S (.panicked ch) H) (env0 args) H) : ACalls Tryd.prog 52 args.toArray H S := acalls mixed Tryd.func52 low52 hn h
/-- (*satchel/inflate.stream).stored -/
def L53_0 : LCode :=
 (.seq
 (.reg [.q 0 .mv [.tmp 0] 18, .q 1 .mv [.tmp 2] 19, .e 2 (.call 66) [.tmp 18, .tmp 19] 20])
 (.seq
 (.reg [.q 0 .mv [.tmp 0] 22, .q 1 .nilc [.tmp 22] 23, .q 2 (.fad 0) [.tmp 23] 24, ⟨3, .q .ld, [.tmp 24], (some 25), none, [], true⟩, .q 4 .mv [.tmp 2] 26, .q 5 .mv [.tmp 0] 27, .q 6 .nilc [.tmp 27] 28, .q 7 (.fad 0) [.tmp 28] 29, .q 8 .ld [.tmp 29] 30, ⟨9, .e (.call 57), [.tmp 30], (some 31), none, [3], false⟩, .q 10 (.bin .quo) [.tmp 31, .const (.int .i64 8)] 32, .q 11 .min2 [.tmp 26, .tmp 32] 33, .e 12 (.call 67) [.tmp 25, .tmp 33] 34, .q 13 .mv [.tmp 34] 21, .q 14 (.ext 0) [.tmp 21] 35, .q 15 (.ext 1) [.tmp 21] 36, .q 16 .mv [.tmp 35] 3, .q 17 .mv [.tmp 36] 4])
 (.seq
 (.reg [.q 0 .mv [.tmp 0] 37, .q 1 .mv [.tmp 0] 38, .q 2 .nilc [.tmp 38] 39, .q 3 (.fad 1) [.tmp 39] 40, .q 4 .ld [.tmp 40] 41, .q 5 .mv [.tmp 3] 42, .e 6 (.app 5 1 1 #[(.int .u8 0)]) [.tmp 41, .tmp 42] 43, .q 7 .nilc [.tmp 37] 44, .q 8 (.fad 1) [.tmp 44] 45, .n 9 (.st 1) [.tmp 45, .tmp 43]])
 (.seq
 (.reg [.q 0 .mv [.tmp 3] 46, .q 1 .len [.tmp 46] 47, .q 2 .mv [.tmp 2] 48, .q 3 (.bin .lss) [.tmp 47, .tmp 48] 49])
 (.cond (.tmp 49)
 (.reg [.q 0 (.mki 27) [.const (.int .i64 4)] 50, .n 1 .pan [.tmp 50]])
 .skip)))))
def L53 : LFn :=
 ⟨51, [],
 (.seq
 (.reg [.q 0 .mv [.tmp 0] 5, .q 1 .nilc [.tmp 5] 6, .q 2 (.fad 0) [.tmp 6] 7, .q 3 .ld [.tmp 7] 8, .e 4 (.call 65) [.tmp 8] 9])
 (.seq
 (.reg [.q 0 .mv [.tmp 0] 10, .e 1 (.call 52) [.tmp 10, .const (.int .i64 16)] 11, .q 2 .mv [.tmp 11] 2])
 (.seq
 (.seq
 (.reg [.q 0 .mv [.tmp 0] 12, .e 1 (.call 52) [.tmp 12, .const (.int .i64 16)] 13, .q 2 .mv [.tmp 2] 14, .q 3 (.bin .xor) [.tmp 14, .const (.int .i64 65535)] 15, .q 4 (.bin .neq) [.tmp 13, .tmp 15] 16])
 (.cond (.tmp 16)
 (.reg [.q 0 (.mki 27) [.const (.int .i64 61)] 17, .n 1 .pan [.tmp 17]])
 .skip))
 L53_0)))⟩
theorem low53 : lowFn Tryd.prog Tryd.f53 = some L53 := by kernel_rfl
theorem call53 {args : List Value} {H : Heap} {S : Ending → Heap → Prop} (hn : args.length ≤ L53.n) (h : awpC Tryd.prog L53.body (retQ L53.results S) (fun ch H => S (.panicked ch) H) (env0 args) H) : ACalls Tryd.prog 53 args.toArray H S := acalls mixed Tryd.func53 low53 hn h
/-- (*satchel/inflate.stream).coded -/
def L54_0 : LCode :=
 (.seq
 (.reg [.q 0 (.bin .lss) [.tmp 63, .tmp 62] 64])
 (.seq
 (.cond (.tmp 64)
 .skip
 (.exit 3))
 (.seq
 (.block 4
 (.reg [.q 0 .mv [.tmp 0] 65, .q 1 .mv [.tmp 0] 66, .q 2 .nilc [.tmp 66] 67, .q 3 (.fad 1) [.tmp 67] 68, ⟨4, .q .ld, [.tmp 68], (some 69), none, [], true⟩, .q 5 .mv [.tmp 0] 70, .q 6 .nilc [.tmp 70] 71, .q 7 (.fad 1) [.tmp 71] 72, .q 8 .ld [.tmp 72] 73, .q 9 .mv [.tmp 0] 74, .q 10 .nilc [.tmp 74] 75, .q 11 (.fad 1) [.tmp 75] 76, .q 12 .ld [.tmp 76] 77, .q 13 .len [.tmp 77] 78, .q 14 .mv [.tmp 9] 79, .q 15 (.bin .sub) [.tmp 78, .tmp 79] 80, .q 16 (.iad 1) [.tmp 73, .tmp 80] 81, .q 17 .ld [.tmp 81] 82, ⟨18, .e (.lits 5 #[(.int .u8 0)] 1 [(0, 1)]), [.tmp 82], (some 83), none, [4], false⟩, .e 19 (.app 5 1 1 #[(.int .u8 0)]) [.tmp 69, .tmp 83] 84, .q 20 .nilc [.tmp 65] 85, .q 21 (.fad 1) [.tmp 85] 86, .n 22 (.st 1) [.tmp 86, .tmp 84]]))
 (.reg [.q 0 (.bin .add) [.tmp 63, .const (.int .i64 1)] 87, .q 1 .mv [.tmp 87] 63]))))
def L54_1 : LCode :=
 (.seq
 (.reg [.q 0 .mv [.tmp 0] 59, .q 1 .mv [.tmp 7] 60, .e 2 (.call 66) [.tmp 59, .tmp 60] 61])
 (.seq
 (.reg [.q 0 .mv [.tmp 7] 62, .q 1 .mv [.const (.int .i64 0)] 63])
 (.block 3
 (.loop L54_0))))
def L54_2 : LCode :=
 (.seq
 (.reg [.q 0 .mv [.tmp 0] 48, .q 1 .mv [.tmp 8] 49, .e 2 (.call 70) [.tmp 48, .tmp 49] 50, .q 3 .mv [.tmp 50] 9])
 (.seq
 (.seq
 (.reg [.q 0 .mv [.tmp 9] 51, .q 1 .mv [.tmp 0] 52, .q 2 .nilc [.tmp 52] 53, .q 3 (.fad 1) [.tmp 53] 54, .q 4 .ld [.tmp 54] 55, .q 5 .len [.tmp 55] 56, .q 6 (.bin .gtr) [.tmp 51, .tmp 56] 57])
 (.cond (.tmp 57)
 (.reg [.q 0 (.mki 27) [.const (.int .i64 64)] 58, .n 1 .pan [.tmp 58]])
 .skip))
 L54_1))
def L54_3 : LCode :=
 (.seq
 (.reg [.q 0 .mv [.tmp 0] 42, .q 1 .mv [.tmp 2] 43, .e 2 (.call 68) [.tmp 42, .tmp 43] 44, .q 3 .mv [.tmp 44] 8])
 (.seq
 (.seq
 (.reg [.q 0 .mv [.tmp 8] 45, .q 1 (.bin .geq) [.tmp 45, .const (.int .i64 30)] 46])
 (.cond (.tmp 46)
 (.reg [.q 0 (.mki 27) [.const (.int .i64 63)] 47, .n 1 .pan [.tmp 47]])
 .skip))
 L54_2))
def L54_4 : LCode :=
 (.block 1
 (.seq
 (.reg [.q 0 .mv [.tmp 0] 10, .q 1 .mv [.tmp 1] 11, .e 2 (.call 68) [.tmp 10, .tmp 11] 12, .q 3 .mv [.tmp 12] 6])
 (.seq
 (.block 2
 (.seq
 (.reg [.q 0 .mv [.tmp 6] 14, .q 1 (.bin .eql) [.tmp 14, .const (.int .i64 256)] 15, .q 2 .mv [.tmp 15] 13])
 (.cond (.tmp 13)
 .ret
 (.seq
 (.reg [.q 0 .mv [.tmp 6] 17, .q 1 (.bin .lss) [.tmp 17, .const (.int .i64 256)] 18, .q 2 .mv [.tmp 18] 16])
 (.cond (.tmp 16)
 (.seq
 (.reg [.q 0 .mv [.tmp 0] 19, .e 1 (.call 66) [.tmp 19, .const (.int .i64 1)] 20])
 (.seq
 (.reg [.q 0 .mv [.tmp 0] 21, .q 1 .mv [.tmp 0] 22, .q 2 .nilc [.tmp 22] 23, .q 3 (.fad 1) [.tmp 23] 24, .q 4 .ld [.tmp 24] 25, .q 5 .mv [.tmp 6] 26, .q 6 (.cvi .u8) [.tmp 26] 27, .e 7 (.lits 5 #[(.int .u8 0)] 1 [(0, 1)]) [.tmp 27] 28, .e 8 (.app 5 1 1 #[(.int .u8 0)]) [.tmp 25, .tmp 28] 29, .q 9 .nilc [.tmp 21] 30, .q 10 (.fad 1) [.tmp 30] 31, .n 11 (.st 1) [.tmp 31, .tmp 29]])
 (.exit 1)))
 (.seq
 (.reg [.q 0 .mv [.tmp 6] 33, .q 1 (.bin .geq) [.tmp 33, .const (.int .i64 286)] 34, .q 2 .mv [.tmp 34] 32])
 (.cond (.tmp 32)
 (.reg [.q 0 (.mki 27) [.const (.int .i64 63)] 35, .n 1 .pan [.tmp 35]])
 .skip)))))))
 (.seq
 (.reg [.q 0 .mv [.tmp 0] 36, .q 1 .mv [.tmp 6] 37, .e 2 (.call 69) [.tmp 36, .tmp 37] 38, .q 3 .mv [.tmp 38] 7])
 (.seq
 (.seq
 (.reg [.q 0 .mv [.tmp 2] 39, .q 1 (.eqp false) [.tmp 39, .const (.pointer none)] 40])
 (.cond (.tmp 40)
 (.reg [.q 0 (.mki 27) [.const (.int .i64 63)] 41, .n 1 .pan [.tmp 41]])
 .skip))
 L54_3)))))
def L54 : LFn :=
 ⟨88, [],
 (.block 0
 (.loop L54_4))⟩
theorem low54 : lowFn Tryd.prog Tryd.f54 = some L54 := by kernel_rfl
theorem call54 {args : List Value} {H : Heap} {S : Ending → Heap → Prop} (hn : args.length ≤ L54.n) (h : awpC Tryd.prog L54.body (retQ L54.results S) (fun ch H => S (.panicked ch) H) (env0 args) H) : ACalls Tryd.prog 54 args.toArray H S := acalls mixed Tryd.func54 low54 hn h
/-- satchel/inflate.fixed -/
def L55 : LFn :=
 ⟨30, [.t 0, .t 1],
 (.seq
 (.reg [.q 0 .mv [.const (.pointer none)] 0, .q 1 .mv [.const (.pointer none)] 1])
 (.seq
 (.reg [.e 0 (.lits 3 #[(.int .i64 0)] 1 [(0, 1)]) [.const (.int .i64 8)] 7, .e 1 (.call 72) [.tmp 7, .const (.int .i64 144)] 8, .e 2 (.lits 3 #[(.int .i64 0)] 1 [(0, 1)]) [.const (.int .i64 9)] 9, .e 3 (.call 72) [.tmp 9, .const (.int .i64 112)] 10, .e 4 (.lits 3 #[(.int .i64 0)] 1 [(0, 1)]) [.const (.int .i64 7)] 11, .e 5 (.call 72) [.tmp 11, .const (.int .i64 24)] 12, .e 6 (.lits 3 #[(.int .i64 0)] 1 [(0, 1)]) [.const (.int .i64 8)] 13, .e 7 (.call 72) [.tmp 13, .const (.int .i64 8)] 14, .e 8 (.lits 69 #[(.slice none 0 0), (.slice none 0 0), (.slice none 0 0), (.slice none 0 0)] 4 [(0, 1), (1, 1), (2, 1), (3, 1)]) [.tmp 8, .tmp 10, .tmp 12, .tmp 14] 15, .e 9 (.call 71) [.tmp 15] 16, .q 10 .mv [.tmp 16] 2])
 (.seq
 (.reg [.q 0 .mv [.tmp 2] 18, .e 1 (.call 73) [.tmp 18] 19, .q 2 .mv [.tmp 19] 17, .q 3 (.ext 0) [.tmp 17] 20, .q 4 (.ext 1) [.tmp 17] 21, .q 5 .mv [.tmp 20] 3, .q 6 .mv [.tmp 21] 4])
 (.seq
 (.reg [.e 0 (.lits 3 #[(.int .i64 0)] 1 [(0, 1)]) [.const (.int .i64 5)] 23, .e 1 (.call 72) [.tmp 23, .const (.int .i64 32)] 24, .e 2 (.call 73) [.tmp 24] 25, .q 3 .mv [.tmp 25] 22, .q 4 (.ext 0) [.tmp 22] 26, .q 5 (.ext 1) [.tmp 22] 27, .q 6 .mv [.tmp 26] 5, .q 7 .mv [.tmp 27] 6])
 (.seq
 (.reg [.q 0 .mv [.tmp 3] 28, .q 1 .mv [.tmp 5] 29, .q 2 .mv [.tmp 28] 0, .q 3 .mv [.tmp 29] 1])
 .ret)))))⟩
theorem low55 : lowFn Tryd.prog Tryd.f55 = some L55 := by kernel_rfl
theorem call55 {args : List Value} {H : Heap} {S : Ending → Heap → Prop} (hn : args.length ≤ L55.n) (h : awpC Tryd.prog L55.body (retQ L55.results S) (fun ch H => S (.panicked ch) H) (env0 args) H) : ACalls Tryd.prog 55 args.toArray H S := acalls mixed Tryd.func55 low55 hn h
/-- (*satchel/inflate.stream).own -/
def L56_0 : LCode :=
 (.seq
 (.reg [.q 0 (.bin .lss) [.tmp 32, .tmp 31] 33])
 (.seq
 (.cond (.tmp 33)
 .skip
 (.exit 0))
 (.seq
 (.block 1
 (.seq
 (.reg [.q 0 (.iad 1) [.tmp 30, .tmp 32] 34, .q 1 .ld [.tmp 34] 35, .q 2 .mv [.tmp 35] 9])
 (.reg [.q 0 .mv [.tmp 9] 36, .q 1 .mv [.tmp 0] 37, .e 2 (.call 52) [.tmp 37, .const (.int .i64 3)] 38, .q 3 (.iada 19 1) [.tmp 7, .tmp 36] 39, .n 4 (.st 1) [.tmp 39, .tmp 38]])))
 (.reg [.q 0 (.bin .add) [.tmp 32, .const (.int .i64 1)] 40, .q 1 .mv [.tmp 40] 32]))))
def L56_1 : LCode :=
 (.seq
 (.reg [.q 0 .mv [.tmp 12] 65, .q 1 .mv [.tmp 4] 66, .q 2 (.slc 1 false true false) [.tmp 65, .tmp 66] 67, .q 4 .mv [.tmp 12] 69, .q 5 .mv [.tmp 4] 70, .q 6 (.slc 1 true false false) [.tmp 69, .tmp 70] 71, .e 3 (.call 76) [.tmp 67] 68, .e 7 (.call 77) [.tmp 71] 72, .q 8 .mv [.tmp 68] 2, .q 9 .mv [.tmp 72] 3])
 .ret)
def L56_2 : LCode :=
 (.seq
 (.reg [.q 0 .mv [.tmp 0] 54, .q 1 .mv [.tmp 10] 55, .q 2 .mv [.tmp 4] 56, .q 3 .mv [.tmp 5] 57, .q 4 (.bin .add) [.tmp 56, .tmp 57] 58, .e 5 (.call 75) [.tmp 54, .tmp 55, .tmp 58] 59, .q 6 .mv [.tmp 59] 12])
 (.seq
 (.seq
 (.reg [.q 0 .mv [.tmp 12] 60, .q 1 (.iad 1) [.tmp 60, .const (.int .i64 256)] 61, .q 2 .ld [.tmp 61] 62, .q 3 (.bin .eql) [.tmp 62, .const (.int .i64 0)] 63])
 (.cond (.tmp 63)
 (.reg [.q 0 (.mki 27) [.const (.int .i64 62)] 64, .n 1 .pan [.tmp 64]])
 .skip))
 L56_1))
def L56_3 : LCode :=
 (.seq
 (.reg [.e 0 (.new (Array.replicate 19 (.int .i64 0)) 86) [] 7])
 (.seq
 (.seq
 (.reg [.q 0 .mv [.tmp 6] 29, .q 1 (.sla 19 1 false true) [.global 0, .tmp 29] 30, .q 2 .len [.tmp 30] 31, .q 3 .mv [.const (.int .i64 0)] 32])
 (.block 0
 (.loop L56_0)))
 (.seq
 (.reg [.q 0 (.sla 19 1 false false) [.tmp 7] 42, .e 1 (.call 73) [.tmp 42] 43, .q 2 .mv [.tmp 43] 41, .q 3 (.ext 0) [.tmp 41] 44, .q 4 (.ext 1) [.tmp 41] 45, .q 5 .mv [.tmp 44] 10, .q 6 .mv [.tmp 45] 11])
 (.seq
 (.seq
 (.reg [.q 0 .mv [.tmp 11] 46, .q 1 (.bin .neq) [.tmp 46, .const (.int .i64 0)] 47, .q 2 .mv [.tmp 47] 48, .g 3 .mv [.tmp 10] 49 48 false, ⟨4, .e (.call 74), [.tmp 49], (some 50), (some (48, false)), [], false⟩, .g 5 (.un .not) [.tmp 50] 51 48 false, .q 6 .pick [.tmp 48, .const (.bool true), .tmp 51] 52])
 (.cond (.tmp 52)
 (.reg [.q 0 (.mki 27) [.const (.int .i64 62)] 53, .n 1 .pan [.tmp 53]])
 .skip))
 L56_2))))
def L56 : LFn :=
 ⟨73, [.t 2, .t 3],
 (.seq
 (.reg [.q 0 .mv [.const (.pointer none)] 2, .q 1 .mv [.const (.pointer none)] 3])
 (.seq
 (.reg [.q 0 .mv [.tmp 0] 13, .e 1 (.call 52) [.tmp 13, .const (.int .i64 5)] 14, .q 2 (.bin .add) [.tmp 14, .const (.int .i64 257)] 15, .q 3 .mv [.tmp 0] 16, .e 4 (.call 52) [.tmp 16, .const (.int .i64 5)] 17, .q 5 (.bin .add) [.tmp 17, .const (.int .i64 1)] 18, .q 6 .mv [.tmp 0] 19, .e 7 (.call 52) [.tmp 19, .const (.int .i64 4)] 20, .q 8 (.bin .add) [.tmp 20, .const (.int .i64 4)] 21, .q 9 .mv [.tmp 15] 4, .q 10 .mv [.tmp 18] 5, .q 11 .mv [.tmp 21] 6])
 (.seq
 (.seq
 (.reg [.q 0 .mv [.tmp 4] 22, .q 1 (.bin .gtr) [.tmp 22, .const (.int .i64 286)] 23, .q 2 .mv [.tmp 23] 24, .g 3 .mv [.tmp 5] 25 24 false, .g 4 (.bin .gtr) [.tmp 25, .const (.int .i64 30)] 26 24 false, .q 5 .pick [.tmp 24, .const (.bool true), .tmp 26] 27])
 (.cond (.tmp 27)
 (.reg [.q 0 (.mki 27) [.const (.int .i64 62)] 28, .n 1 .pan [.tmp 28]])
 .skip))
 L56_3)))⟩
theorem low56 : lowFn Tryd.prog Tryd.f56 = some L56 := by kernel_rfl
theorem call56 {args : List Value} {H : Heap} {S : Ending → Heap → Prop} (hn : args.length ≤ L56.n) (h : awpC Tryd.prog L56.body (retQ L56.results S) (fun ch H => S (.panicked ch) H) (env0 args) H) : ACalls Tryd.prog 56 args.toArray H S := acalls mixed Tryd.func56 low56 hn h
/-- (*satchel/inflate.stream).room -/
def L66 : LFn :=
 ⟨17, [],
 (.seq
 (.reg [.q 0 .mv [.tmp 1] 4, .q 1 .mv [.tmp 0] 5, .q 2 .nilc [.tmp 5] 6, .q 3 (.fad 2) [.tmp 6] 7, .q 4 .ld [.tmp 7] 8, .q 5 .mv [.tmp 0] 9, .q 6 .nilc [.tmp 9] 10, .q 7 (.fad 1) [.tmp 10] 11, .q 8 .ld [.tmp 11] 12, .q 9 .len [.tmp 12] 13, .q 10 (.bin .sub) [.tmp 8, .tmp 13] 14, .q 11 (.bin .gtr) [.tmp 4, .tmp 14] 15])
 (.cond (.tmp 15)
 (.reg [.q 0 (.mki 27) [.const (.int .i64 32)] 16, .n 1 .pan [.tmp 16]])
 .skip))⟩
theorem low66 : lowFn Tryd.prog Tryd.f66 = some L66 := by kernel_rfl
theorem call66 {args : List Value} {H : Heap} {S : Ending → Heap → Prop} (hn : args.length ≤ L66.n) (h : awpC Tryd.prog L66.body (retQ L66.results S) (fun ch H => S (.panicked ch) H) (env0 args) H) : ACalls Tryd.prog 66 args.toArray H S := acalls mixed Tryd.func66 low66 hn h
/-- (*satchel/inflate.stream).symbol -/
def L68 : LFn :=
 ⟨24, [.t 4],
 (.seq
 (.reg [.q 0 .mv [.const (.int .i64 0)] 4])
 (.seq
 (.reg [.q 0 .mv [.tmp 1] 8, .q 1 .mv [.tmp 0] 9, .q 2 .nilc [.tmp 9] 10, .q 3 (.fad 0) [.tmp 10] 11, .q 4 .ld [.tmp 11] 12, .e 5 (.call 84) [.tmp 8, .tmp 12] 13, .q 6 .mv [.tmp 13] 7, .q 7 (.ext 0) [.tmp 7] 14, .q 8 (.ext 1) [.tmp 7] 15, .q 9 .mv [.tmp 14] 5, .q 10 .mv [.tmp 15] 6])
 (.seq
 (.seq
 (.reg [.q 0 .mv [.tmp 6] 16])
 (.block 0
 (.seq
 (.reg [.q 0 (.bin .eql) [.tmp 16, .const (.int .i64 0)] 18, .q 1 .mv [.tmp 18] 17])
 (.cond (.tmp 17)
 (.seq
 (.reg [.q 0 .mv [.tmp 5] 19, .q 1 .mv [.tmp 19] 4])
 .ret)
 (.seq
 (.reg [.q 0 (.bin .eql) [.tmp 16, .const (.int .i64 50)] 21, .q 1 .mv [.tmp 21] 20])
 (.cond (.tmp 20)
 (.reg [.q 0 (.mki 27) [.const (.int .i64 4)] 22, .n 1 .pan [.tmp 22]])
 .skip))))))
 (.reg [.q 0 (.mki 27) [.const (.int .i64 63)] 23, .n 1 .pan [.tmp 23]]))))⟩
theorem low68 : lowFn Tryd.prog Tryd.f68 = some L68 := by kernel_rfl
theorem call68 {args : List Value} {H : Heap} {S : Ending → Heap → Prop} (hn : args.length ≤ L68.n) (h : awpC Tryd.prog L68.body (retQ L68.results S) (fun ch H => S (.panicked ch) H) (env0 args) H) : ACalls Tryd.prog 68 args.toArray H S := acalls mixed Tryd.func68 low68 hn h
/-- (*satchel/inflate.stream).length -/
def L69 : LFn :=
 ⟨29, [.t 4],
 (.seq
 (.reg [.q 0 .mv [.const (.int .i64 0)] 4])
 (.seq
 (.reg [.q 0 .mv [.tmp 1] 6, .q 1 (.bin .sub) [.tmp 6, .const (.int .i64 257)] 7, .q 2 .mv [.tmp 7] 1])
 (.seq
 (.block 0
 (.seq
 (.reg [.q 0 .mv [.tmp 1] 9, .q 1 (.bin .lss) [.tmp 9, .const (.int .i64 8)] 10, .q 2 .mv [.tmp 10] 8])
 (.cond (.tmp 8)
 (.seq
 (.reg [.q 0 .mv [.tmp 1] 11, .q 1 (.bin .add) [.const (.int .i64 3), .tmp 11] 12, .q 2 .mv [.tmp 12] 4])
 .ret)
 (.seq
 (.reg [.q 0 .mv [.tmp 1] 14, .q 1 (.bin .eql) [.tmp 14, .const (.int .i64 28)] 15, .q 2 .mv [.tmp 15] 13])
 (.cond (.tmp 13)
 (.seq
 (.reg [.q 0 .mv [.const (.int .i64 258)] 4])
 .ret)
 .skip)))))
 (.seq
 (.reg [.q 0 .mv [.tmp 1] 16, .q 1 (.bin .quo) [.tmp 16, .const (.int .i64 4)] 17, .q 2 (.bin .sub) [.tmp 17, .const (.int .i64 1)] 18, .q 3 .mv [.tmp 18] 5])
 (.seq
 (.reg [.q 0 .mv [.tmp 1] 19, .q 1 (.bin .rem) [.tmp 19, .const (.int .i64 4)] 20, .q 2 (.bin .add) [.const (.int .i64 4), .tmp 20] 21, .q 3 .mv [.tmp 5] 22, .q 4 (.bin .shl) [.tmp 21, .tmp 22] 23, .q 5 (.bin .add) [.const (.int .i64 3), .tmp 23] 24, .q 6 .mv [.tmp 0] 25, .q 7 .mv [.tmp 5] 26, .e 8 (.call 52) [.tmp 25, .tmp 26] 27, .q 9 (.bin .add) [.tmp 24, .tmp 27] 28, .q 10 .mv [.tmp 28] 4])
 .ret)))))⟩
theorem low69 : lowFn Tryd.prog Tryd.f69 = some L69 := by kernel_rfl
theorem call69 {args : List Value} {H : Heap} {S : Ending → Heap → Prop} (hn : args.length ≤ L69.n) (h : awpC Tryd.prog L69.body (retQ L69.results S) (fun ch H => S (.panicked ch) H) (env0 args) H) : ACalls Tryd.prog 69 args.toArray H S := acalls mixed Tryd.func69 low69 hn h
/-- (*satchel/inflate.stream).distance -/
def L70 : LFn :=
 ⟨23, [.t 4],
 (.seq
 (.reg [.q 0 .mv [.const (.int .i64 0)] 4])
 (.seq
 (.seq
 (.reg [.q 0 .mv [.tmp 1] 6, .q 1 (.bin .lss) [.tmp 6, .const (.int .i64 4)] 7])
 (.cond (.tmp 7)
 (.seq
 (.reg [.q 0 .mv [.tmp 1] 8, .q 1 (.bin .add) [.const (.int .i64 1), .tmp 8] 9, .q 2 .mv [.tmp 9] 4])
 .ret)
 .skip))
 (.seq
 (.reg [.q 0 .mv [.tmp 1] 10, .q 1 (.bin .quo) [.tmp 10, .const (.int .i64 2)] 11, .q 2 (.bin .sub) [.tmp 11, .const (.int .i64 1)] 12, .q 3 .mv [.tmp 12] 5])
 (.seq
 (.reg [.q 0 .mv [.tmp 1] 13, .q 1 (.bin .rem) [.tmp 13, .const (.int .i64 2)] 14, .q 2 (.bin .add) [.const (.int .i64 2), .tmp 14] 15, .q 3 .mv [.tmp 5] 16, .q 4 (.bin .shl) [.tmp 15, .tmp 16] 17, .q 5 (.bin .add) [.const (.int .i64 1), .tmp 17] 18, .q 6 .mv [.tmp 0] 19, .q 7 .mv [.tmp 5] 20, .e 8 (.call 52) [.tmp 19, .tmp 20] 21, .q 9 (.bin .add) [.tmp 18, .tmp 21] 22, .q 10 .mv [.tmp 22] 4])
 .ret))))⟩
theorem low70 : lowFn Tryd.prog Tryd.f70 = some L70 := by kernel_rfl
theorem call70 {args : List Value} {H : Heap} {S : Ending → Heap → Prop} (hn : args.length ≤ L70.n) (h : awpC Tryd.prog L70.body (retQ L70.results S) (fun ch H => S (.panicked ch) H) (env0 args) H) : ACalls Tryd.prog 70 args.toArray H S := acalls mixed Tryd.func70 low70 hn h
/-- slices.Concat[[]int,int] -/
def L71_0 : LCode :=
 (.reg [.q 0 (.bin .add) [.tmp 11, .const (.int .i64 1)] 22, .q 1 .mv [.tmp 22] 11])
def L71_1 : LCode :=
 (.seq
 (.reg [.q 0 (.bin .lss) [.tmp 11, .tmp 10] 12])
 (.seq
 (.cond (.tmp 12)
 .skip
 (.exit 0))
 (.seq
 (.block 1
 (.seq
 (.reg [.q 0 (.iad 1) [.tmp 9, .tmp 11] 13, .q 1 .ld [.tmp 13] 14, .q 2 .mv [.tmp 14] 5])
 (.seq
 (.reg [.q 0 .mv [.tmp 3] 15, .q 1 .mv [.tmp 5] 16, .q 2 .len [.tmp 16] 17, .q 3 (.bin .add) [.tmp 15, .tmp 17] 18, .q 4 .mv [.tmp 18] 3])
 (.seq
 (.reg [.q 0 .mv [.tmp 3] 19, .q 1 (.bin .lss) [.tmp 19, .const (.int .i64 0)] 20])
 (.cond (.tmp 20)
 (.reg [.q 0 (.mki 9) [.const (.string ⟨#[108, 101, 110, 32, 111, 117, 116, 32, 111, 102, 32, 114, 97, 110, 103, 101]⟩)] 21, .n 1 .pan [.tmp 21]])
 .skip)))))
 L71_0)))
def L71_2 : LCode :=
 (.seq
 (.reg [.q 0 (.bin .lss) [.tmp 27, .tmp 26] 28])
 (.seq
 (.cond (.tmp 28)
 .skip
 (.exit 2))
 (.seq
 (.block 3
 (.seq
 (.reg [.q 0 (.iad 1) [.tmp 25, .tmp 27] 29, .q 1 .ld [.tmp 29] 30, .q 2 .mv [.tmp 30] 8])
 (.reg [.q 0 .mv [.tmp 6] 31, .q 1 .mv [.tmp 8] 32, .e 2 (.app 3 1 8 #[(.int .i64 0)]) [.tmp 31, .tmp 32] 33, .q 3 .mv [.tmp 33] 6])))
 (.reg [.q 0 (.bin .add) [.tmp 27, .const (.int .i64 1)] 34, .q 1 .mv [.tmp 34] 27]))))
def L71 : LFn :=
 ⟨36, [.t 2],
 (.seq
 (.reg [.q 0 .mv [.const (.slice none 0 0)] 2])
 (.seq
 (.reg [.q 0 .mv [.const (.int .i64 0)] 3])
 (.seq
 (.seq
 (.reg [.q 0 .mv [.tmp 0] 9, .q 1 .len [.tmp 9] 10, .q 2 .mv [.const (.int .i64 0)] 11])
 (.block 0
 (.loop L71_1)))
 (.seq
 (.reg [.q 0 .mv [.tmp 3] 23, .e 1 (.call 85) [.const (.slice none 0 0), .tmp 23] 24, .q 2 .mv [.tmp 24] 6])
 (.seq
 (.seq
 (.reg [.q 0 .mv [.tmp 0] 25, .q 1 .len [.tmp 25] 26, .q 2 .mv [.const (.int .i64 0)] 27])
 (.block 2
 (.loop L71_2)))
 (.seq
 (.reg [.q 0 .mv [.tmp 6] 35, .q 1 .mv [.tmp 35] 2])
 .ret))))))⟩
theorem low71 : lowFn Tryd.prog Tryd.f71 = some L71 := by kernel_rfl
theorem call71 {args : List Value} {H : Heap} {S : Ending → Heap → Prop} (hn : args.length ≤ L71.n) (h : awpC Tryd.prog L71.body (retQ L71.results S) (fun ch H => S (.panicked ch) H) (env0 args) H) : ACalls Tryd.prog 71 args.toArray H S := acalls mixed Tryd.func71 low71 hn h
/-- slices.Repeat[[]int,int] -/
def L72_0 : LCode :=
 (.seq
 (.seq
 (.reg [.q 0 .mv [.tmp 8] 34, .q 1 .mv [.tmp 7] 35, .q 2 .len [.tmp 35] 36, .q 3 (.bin .lss) [.tmp 34, .tmp 36] 37])
 (.cond (.tmp 37)
 .skip
 (.exit 0)))
 (.block 1
 (.reg [.q 0 .mv [.tmp 8] 38, .q 1 .mv [.tmp 7] 39, .q 2 .mv [.tmp 8] 40, .q 3 (.slc 1 true false false) [.tmp 39, .tmp 40] 41, .q 4 .mv [.tmp 7] 42, .q 5 .mv [.tmp 8] 43, .q 6 (.slc 1 false true false) [.tmp 42, .tmp 43] 44, .e 7 (.copy 1) [.tmp 41, .tmp 44] 45, .q 8 (.bin .add) [.tmp 38, .tmp 45] 46, .q 9 .mv [.tmp 46] 8])))
def L72_1 : LCode :=
 (.seq
 (.reg [.q 0 .mv [.tmp 6] 28, .q 1 (.cvi .i64) [.tmp 28] 29, .e 2 (.mks 3 1 8 #[(.int .i64 0)]) [.tmp 29, .tmp 29] 30, .q 3 .mv [.tmp 30] 7])
 (.seq
 (.reg [.q 0 .mv [.tmp 7] 31, .q 1 .mv [.tmp 0] 32, .e 2 (.copy 1) [.tmp 31, .tmp 32] 33, .q 3 .mv [.tmp 33] 8])
 (.seq
 (.block 0
 (.loop L72_0))
 (.seq
 (.reg [.q 0 .mv [.tmp 7] 47, .q 1 .mv [.tmp 47] 4])
 .ret))))
def L72_2 : LCode :=
 (.seq
 (.reg [.q 0 .mv [.tmp 0] 13, .q 1 .len [.tmp 13] 14, .q 2 (.cvi .u64) [.tmp 14] 15, .q 3 .mv [.tmp 1] 16, .q 4 (.cvi .u64) [.tmp 16] 17, .e 5 (.call 86) [.tmp 15, .tmp 17] 18, .q 6 .mv [.tmp 18] 12, .q 7 (.ext 0) [.tmp 12] 19, .q 8 (.ext 1) [.tmp 12] 20, .q 9 .mv [.tmp 19] 5, .q 10 .mv [.tmp 20] 6])
 (.seq
 (.seq
 (.reg [.q 0 .mv [.tmp 5] 21, .q 1 (.bin .gtr) [.tmp 21, .const (.int .u64 0)] 22, .q 2 .mv [.tmp 22] 23, .g 3 .mv [.tmp 6] 24 23 false, .g 4 (.bin .gtr) [.tmp 24, .const (.int .u64 9223372036854775807)] 25 23 false, .q 5 .pick [.tmp 23, .const (.bool true), .tmp 25] 26])
 (.cond (.tmp 26)
 (.reg [.q 0 (.mki 9) [.const (.string ⟨#[116, 104, 101, 32, 114, 101, 115, 117, 108, 116, 32, 111, 102, 32, 40, 108, 101, 110, 40, 120, 41, 32, 42, 32, 99, 111, 117, 110, 116, 41, 32, 111, 118, 101, 114, 102, 108, 111, 119, 115]⟩)] 27, .n 1 .pan [.tmp 27]])
 .skip))
 L72_1))
def L72 : LFn :=
 ⟨48, [.t 4],
 (.seq
 (.reg [.q 0 .mv [.const (.slice none 0 0)] 4])
 (.seq
 (.seq
 (.reg [.q 0 .mv [.tmp 1] 9, .q 1 (.bin .lss) [.tmp 9, .const (.int .i64 0)] 10])
 (.cond (.tmp 10)
 (.reg [.q 0 (.mki 9) [.const (.string ⟨#[99, 97, 110, 110, 111, 116, 32, 98, 101, 32, 110, 101, 103, 97, 116, 105, 118, 101]⟩)] 11, .n 1 .pan [.tmp 11]])
 .skip))
 L72_2))⟩
theorem low72 : lowFn Tryd.prog Tryd.f72 = some L72 := by kernel_rfl
theorem call72 {args : List Value} {H : Heap} {S : Ending → Heap → Prop} (hn : args.length ≤ L72.n) (h : awpC Tryd.prog L72.body (retQ L72.results S) (fun ch H => S (.panicked ch) H) (env0 args) H) : ACalls Tryd.prog 72 args.toArray H S := acalls mixed Tryd.func72 low72 hn h
/-- (*satchel/inflate.stream).lengths -/
def L75_0 : LCode :=
 (.reg [.q 0 .mv [.tmp 0] 26, .q 3 .mv [.tmp 7] 29, .q 4 .mv [.tmp 7] 30, .q 5 .len [.tmp 30] 31, .q 6 (.bin .sub) [.tmp 31, .const (.int .i64 1)] 32, .q 7 (.iad 1) [.tmp 29, .tmp 32] 33, ⟨8, .q .ld, [.tmp 33], (some 34), none, [], true⟩, ⟨1, .e (.call 52), [.tmp 26, .const (.int .i64 2)], (some 27), none, [8], false⟩, .q 2 (.bin .add) [.const (.int .i64 3), .tmp 27] 28, .q 9 .mv [.tmp 28] 9, .q 10 .mv [.tmp 34] 10])
def L75_1 : LCode :=
 (.reg [.q 0 .mv [.tmp 7] 52, .q 1 .mv [.tmp 10] 53, .e 2 (.lits 3 #[(.int .i64 0)] 1 [(0, 1)]) [.tmp 53] 54, .q 3 .mv [.tmp 9] 55, .e 4 (.call 72) [.tmp 54, .tmp 55] 56, .e 5 (.app 3 1 8 #[(.int .i64 0)]) [.tmp 52, .tmp 56] 57, .q 6 .mv [.tmp 57] 7])
def L75_2 : LCode :=
 (.seq
 (.seq
 (.reg [.q 0 .mv [.tmp 9] 45, .q 1 .mv [.tmp 2] 46, .q 2 .mv [.tmp 7] 47, .q 3 .len [.tmp 47] 48, .q 4 (.bin .sub) [.tmp 46, .tmp 48] 49, .q 5 (.bin .gtr) [.tmp 45, .tmp 49] 50])
 (.cond (.tmp 50)
 (.reg [.q 0 (.mki 27) [.const (.int .i64 62)] 51, .n 1 .pan [.tmp 51]])
 .skip))
 L75_1)
def L75_3 : LCode :=
 (.seq
 (.seq
 (.reg [.q 0 .mv [.tmp 7] 11, .q 1 .len [.tmp 11] 12, .q 2 .mv [.tmp 2] 13, .q 3 (.bin .lss) [.tmp 12, .tmp 13] 14])
 (.cond (.tmp 14)
 .skip
 (.exit 0)))
 (.block 1
 (.seq
 (.reg [.q 0 .mv [.tmp 0] 15, .q 1 .mv [.tmp 1] 16, .e 2 (.call 68) [.tmp 15, .tmp 16] 17, .q 3 .mv [.tmp 17] 8])
 (.seq
 (.reg [.q 0 .mv [.tmp 8] 18, .q 1 .mv [.const (.int .i64 1)] 9, .q 2 .mv [.tmp 18] 10])
 (.seq
 (.seq
 (.reg [.q 0 .mv [.tmp 8] 19])
 (.block 2
 (.seq
 (.reg [.q 0 (.bin .eql) [.tmp 19, .const (.int .i64 16)] 21, .q 1 .mv [.tmp 21] 20])
 (.cond (.tmp 20)
 (.seq
 (.seq
 (.reg [.q 0 .mv [.tmp 7] 22, .q 1 .len [.tmp 22] 23, .q 2 (.bin .eql) [.tmp 23, .const (.int .i64 0)] 24])
 (.cond (.tmp 24)
 (.reg [.q 0 (.mki 27) [.const (.int .i64 62)] 25, .n 1 .pan [.tmp 25]])
 .skip))
 L75_0)
 (.seq
 (.reg [.q 0 (.bin .eql) [.tmp 19, .const (.int .i64 17)] 36, .q 1 .mv [.tmp 36] 35])
 (.cond (.tmp 35)
 (.reg [.q 0 .mv [.tmp 0] 37, .e 1 (.call 52) [.tmp 37, .const (.int .i64 3)] 38, .q 2 (.bin .add) [.const (.int .i64 3), .tmp 38] 39, .q 3 .mv [.tmp 39] 9, .q 4 .mv [.const (.int .i64 0)] 10])
 (.seq
 (.reg [.q 0 (.bin .eql) [.tmp 19, .const (.int .i64 18)] 41, .q 1 .mv [.tmp 41] 40])
 (.cond (.tmp 40)
 (.reg [.q 0 .mv [.tmp 0] 42, .e 1 (.call 52) [.tmp 42, .const (.int .i64 7)] 43, .q 2 (.bin .add) [.const (.int .i64 11), .tmp 43] 44, .q 3 .mv [.tmp 44] 9, .q 4 .mv [.const (.int .i64 0)] 10])
 .skip))))))))
 L75_2)))))
def L75 : LFn :=
 ⟨59, [.t 6],
 (.seq
 (.reg [.q 0 .mv [.const (.slice none 0 0)] 6])
 (.seq
 (.reg [.q 0 .mv [.const (.slice none 0 0)] 7])
 (.seq
 (.block 0
 (.loop L75_3))
 (.seq
 (.reg [.q 0 .mv [.tmp 7] 58, .q 1 .mv [.tmp 58] 6])
 .ret))))⟩
theorem low75 : lowFn Tryd.prog Tryd.f75 = some L75 := by kernel_rfl
theorem call75 {args : List Value} {H : Heap} {S : Ending → Heap → Prop} (hn : args.length ≤ L75.n) (h : awpC Tryd.prog L75.body (retQ L75.results S) (fun ch H => S (.panicked ch) H) (env0 args) H) : ACalls Tryd.prog 75 args.toArray H S := acalls mixed Tryd.func75 low75 hn h
/-- satchel/inflate.code -/
def L76_0 : LCode :=
 (.seq
 (.reg [.q 0 .mv [.tmp 8] 27, .q 1 (.bin .eql) [.tmp 27, .const (.int .i64 1)] 28])
 (.cond (.tmp 28)
 (.reg [.q 0 .mv [.tmp 6] 29, .q 1 (.bin .add) [.tmp 29, .const (.int .i64 1)] 30, .q 2 .mv [.tmp 30] 6])
 .skip))
def L76_1 : LCode :=
 (.reg [.q 0 (.bin .add) [.tmp 19, .const (.int .i64 1)] 31, .q 1 .mv [.tmp 31] 19])
def L76_2 : LCode :=
 (.seq
 (.reg [.q 0 (.bin .lss) [.tmp 19, .tmp 18] 20])
 (.seq
 (.cond (.tmp 20)
 .skip
 (.exit 0))
 (.seq
 (.block 1
 (.seq
 (.reg [.q 0 (.iad 1) [.tmp 17, .tmp 19] 21, .q 1 .ld [.tmp 21] 22, .q 2 .mv [.tmp 22] 8])
 (.seq
 (.seq
 (.reg [.q 0 .mv [.tmp 8] 23, .q 1 (.bin .gtr) [.tmp 23, .const (.int .i64 0)] 24])
 (.cond (.tmp 24)
 (.reg [.q 0 .mv [.tmp 5] 25, .q 1 (.bin .add) [.tmp 25, .const (.int .i64 1)] 26, .q 2 .mv [.tmp 26] 5])
 .skip))
 L76_0)))
 L76_1)))
def L76_3 : LCode :=
 (.seq
 (.reg [.q 0 .mv [.tmp 3] 44, .q 1 .mv [.tmp 44] 2])
 .ret)
def L76_4 : LCode :=
 (.seq
 (.reg [.q 0 .mv [.const (.int .i64 0)] 5, .q 1 .mv [.const (.int .i64 0)] 6])
 (.seq
 (.seq
 (.reg [.q 0 .mv [.tmp 0] 17, .q 1 .len [.tmp 17] 18, .q 2 .mv [.const (.int .i64 0)] 19])
 (.block 0
 (.loop L76_2)))
 (.seq
 (.seq
 (.reg [.q 0 .mv [.tmp 3] 32, .e 1 (.call 74) [.tmp 32] 33, .q 2 (.un .not) [.tmp 33] 34, .q 3 .mv [.tmp 34] 35, .g 4 .mv [.tmp 5] 36 35 true, .g 5 (.bin .neq) [.tmp 36, .const (.int .i64 1)] 37 35 true, .g 6 .mv [.tmp 37] 38 35 true, .g 7 .mv [.tmp 6] 39 38 false, .g 8 (.bin .neq) [.tmp 39, .const (.int .i64 1)] 40 38 false, .g 9 .pick [.tmp 38, .const (.bool true), .tmp 40] 41 35 true, .q 10 .pick [.tmp 35, .tmp 41, .const (.bool false)] 42])
 (.cond (.tmp 42)
 (.reg [.q 0 (.mki 27) [.const (.int .i64 62)] 43, .n 1 .pan [.tmp 43]])
 .skip))
 L76_3)))
def L76 : LFn :=
 ⟨45, [.t 2],
 (.seq
 (.reg [.q 0 .mv [.const (.pointer none)] 2])
 (.seq
 (.reg [.q 0 .mv [.tmp 0] 10, .e 1 (.call 73) [.tmp 10] 11, .q 2 .mv [.tmp 11] 9, .q 3 (.ext 0) [.tmp 9] 12, .q 4 (.ext 1) [.tmp 9] 13, .q 5 .mv [.tmp 12] 3, .q 6 .mv [.tmp 13] 4])
 (.seq
 (.seq
 (.reg [.q 0 .mv [.tmp 4] 14, .q 1 (.bin .neq) [.tmp 14, .const (.int .i64 0)] 15])
 (.cond (.tmp 15)
 (.reg [.q 0 (.mki 27) [.const (.int .i64 62)] 16, .n 1 .pan [.tmp 16]])
 .skip))
 L76_4)))⟩
theorem low76 : lowFn Tryd.prog Tryd.f76 = some L76 := by kernel_rfl
theorem call76 {args : List Value} {H : Heap} {S : Ending → Heap → Prop} (hn : args.length ≤ L76.n) (h : awpC Tryd.prog L76.body (retQ L76.results S) (fun ch H => S (.panicked ch) H) (env0 args) H) : ACalls Tryd.prog 76 args.toArray H S := acalls mixed Tryd.func76 low76 hn h
/-- satchel/inflate.distances -/
def L77 : LFn :=
 ⟨8, [.t 2],
 (.seq
 (.reg [.q 0 .mv [.const (.pointer none)] 2])
 (.seq
 (.seq
 (.reg [.q 0 .mv [.tmp 0] 3, .e 1 (.call 88) [.tmp 3, .func 89] 4, .q 2 (.un .not) [.tmp 4] 5])
 (.cond (.tmp 5)
 (.seq
 (.reg [.q 0 .mv [.const (.pointer none)] 2])
 .ret)
 .skip))
 (.seq
 (.reg [.q 0 .mv [.tmp 0] 6, .e 1 (.call 76) [.tmp 6] 7, .q 2 .mv [.tmp 7] 2])
 .ret)))⟩
theorem low77 : lowFn Tryd.prog Tryd.f77 = some L77 := by kernel_rfl
theorem call77 {args : List Value} {H : Heap} {S : Ending → Heap → Prop} (hn : args.length ≤ L77.n) (h : awpC Tryd.prog L77.body (retQ L77.results S) (fun ch H => S (.panicked ch) H) (env0 args) H) : ACalls Tryd.prog 77 args.toArray H S := acalls mixed Tryd.func77 low77 hn h
/-- slices.Grow[[]int,int] -/
def L85_0 : LCode :=
 (.seq
 (.reg [.q 0 .mv [.tmp 0] 26, .q 1 .mv [.tmp 26] 4])
 .ret)
def L85_1 : LCode :=
 (.seq
 (.seq
 (.reg [.q 0 .mv [.tmp 1] 8, .q 1 .mv [.tmp 0] 9, .q 2 .cap [.tmp 9] 10, .q 3 .mv [.tmp 0] 11, .q 4 .len [.tmp 11] 12, .q 5 (.bin .sub) [.tmp 10, .tmp 12] 13, .q 6 (.bin .sub) [.tmp 8, .tmp 13] 14, .q 7 .mv [.tmp 14] 1])
 (.seq
 (.reg [.q 0 .mv [.tmp 1] 15, .q 1 (.bin .gtr) [.tmp 15, .const (.int .i64 0)] 16])
 (.cond (.tmp 16)
 (.reg [.q 0 .mv [.tmp 0] 17, .q 1 .mv [.tmp 0] 18, .q 2 .cap [.tmp 18] 19, .q 3 (.slc 1 false true false) [.tmp 17, .tmp 19] 20, .q 4 .mv [.tmp 1] 21, .e 5 (.appz 3 1 8 #[(.int .i64 0)]) [.tmp 20, .tmp 21] 22, .q 6 .mv [.tmp 0] 23, .q 7 .len [.tmp 23] 24, .q 8 (.slc 1 false true false) [.tmp 22, .tmp 24] 25, .q 9 .mv [.tmp 25] 0])
 .skip)))
 L85_0)
def L85 : LFn :=
 ⟨27, [.t 4],
 (.seq
 (.reg [.q 0 .mv [.const (.slice none 0 0)] 4])
 (.seq
 (.seq
 (.reg [.q 0 .mv [.tmp 1] 5, .q 1 (.bin .lss) [.tmp 5, .const (.int .i64 0)] 6])
 (.cond (.tmp 6)
 (.reg [.q 0 (.mki 9) [.const (.string ⟨#[99, 97, 110, 110, 111, 116, 32, 98, 101, 32, 110, 101, 103, 97, 116, 105, 118, 101]⟩)] 7, .n 1 .pan [.tmp 7]])
 .skip))
 L85_1))⟩
theorem low85 : lowFn Tryd.prog Tryd.f85 = some L85 := by kernel_rfl
theorem call85 {args : List Value} {H : Heap} {S : Ending → Heap → Prop} (hn : args.length ≤ L85.n) (h : awpC Tryd.prog L85.body (retQ L85.results S) (fun ch H => S (.panicked ch) H) (env0 args) H) : ACalls Tryd.prog 85 args.toArray H S := acalls mixed Tryd.func85 low85 hn h
/-- math/bits.Mul -/
def L86 : LFn :=
 ⟨30, [.t 4, .t 5],
 (.seq
 (.reg [.q 0 .mv [.const (.int .u64 0)] 4, .q 1 .mv [.const (.int .u64 0)] 5])
 (.seq
 (.cond (.const (.bool false))
 (.seq
 (.reg [.q 0 .mv [.tmp 0] 11, .q 1 (.cvi .u32) [.tmp 11] 12, .q 2 .mv [.tmp 1] 13, .q 3 (.cvi .u32) [.tmp 13] 14, .e 4 (.call 94) [.tmp 12, .tmp 14] 15, .q 5 .mv [.tmp 15] 10, .q 6 (.ext 0) [.tmp 10] 16, .q 7 (.ext 1) [.tmp 10] 17, .q 8 .mv [.tmp 16] 6, .q 9 .mv [.tmp 17] 7])
 (.seq
 (.reg [.q 0 .mv [.tmp 6] 18, .q 1 (.cvi .u64) [.tmp 18] 19, .q 2 .mv [.tmp 7] 20, .q 3 (.cvi .u64) [.tmp 20] 21, .q 4 .mv [.tmp 19] 4, .q 5 .mv [.tmp 21] 5])
 .ret))
 .skip)
 (.seq
 (.reg [.q 0 .mv [.tmp 0] 23, .q 1 .mv [.tmp 1] 24, .e 2 (.call 95) [.tmp 23, .tmp 24] 25, .q 3 .mv [.tmp 25] 22, .q 4 (.ext 0) [.tmp 22] 26, .q 5 (.ext 1) [.tmp 22] 27, .q 6 .mv [.tmp 26] 8, .q 7 .mv [.tmp 27] 9])
 (.seq
 (.reg [.q 0 .mv [.tmp 8] 28, .q 1 .mv [.tmp 9] 29, .q 2 .mv [.tmp 28] 4, .q 3 .mv [.tmp 29] 5])
 .ret))))⟩
theorem low86 : lowFn Tryd.prog Tryd.f86 = some L86 := by kernel_rfl
theorem call86 {args : List Value} {H : Heap} {S : Ending → Heap → Prop} (hn : args.length ≤ L86.n) (h : awpC Tryd.prog L86.body (retQ L86.results S) (fun ch H => S (.panicked ch) H) (env0 args) H) : ACalls Tryd.prog 86 args.toArray H S := acalls mixed Tryd.func86 low86 hn h
/-- slices.ContainsFunc[[]int,int] -/
def L88 : LFn :=
 ⟨9, [.t 4],
 (.seq
 (.reg [.q 0 .mv [.const (.bool false)] 4])
 (.seq
 (.reg [.q 0 .mv [.tmp 0] 5, .q 1 .mv [.tmp 1] 6, .e 2 (.call 96) [.tmp 5, .tmp 6] 7, .q 3 (.bin .geq) [.tmp 7, .const (.int .i64 0)] 8, .q 4 .mv [.tmp 8] 4])
 .ret))⟩
theorem low88 : lowFn Tryd.prog Tryd.f88 = some L88 := by kernel_rfl
theorem call88 {args : List Value} {H : Heap} {S : Ending → Heap → Prop} (hn : args.length ≤ L88.n) (h : awpC Tryd.prog L88.body (retQ L88.results S) (fun ch H => S (.panicked ch) H) (env0 args) H) : ACalls Tryd.prog 88 args.toArray H S := acalls mixed Tryd.func88 low88 hn h
/-- satchel/inflate.distances$1 -/
def L89 : LFn :=
 ⟨5, [.t 2],
 (.seq
 (.reg [.q 0 .mv [.const (.bool false)] 2])
 (.seq
 (.reg [.q 0 .mv [.tmp 0] 3, .q 1 (.bin .gtr) [.tmp 3, .const (.int .i64 0)] 4, .q 2 .mv [.tmp 4] 2])
 .ret))⟩
theorem low89 : lowFn Tryd.prog Tryd.f89 = some L89 := by kernel_rfl
theorem call89 {args : List Value} {H : Heap} {S : Ending → Heap → Prop} (hn : args.length ≤ L89.n) (h : awpC Tryd.prog L89.body (retQ L89.results S) (fun ch H => S (.panicked ch) H) (env0 args) H) : ACalls Tryd.prog 89 args.toArray H S := acalls mixed Tryd.func89 low89 hn h
/-- math/bits.Mul64 -/
def L95 : LFn :=
 ⟨51, [.t 4, .t 5],
 (.seq
 (.reg [.q 0 .mv [.const (.int .u64 0)] 4, .q 1 .mv [.const (.int .u64 0)] 5])
 (.seq
 (.reg [.q 0 .mv [.tmp 0] 14, .q 1 (.bin .and) [.tmp 14, .const (.int .u64 4294967295)] 15, .q 2 .mv [.tmp 15] 6])
 (.seq
 (.reg [.q 0 .mv [.tmp 0] 16, .q 1 (.bin .shr) [.tmp 16, .const (.int .u64 32)] 17, .q 2 .mv [.tmp 17] 7])
 (.seq
 (.reg [.q 0 .mv [.tmp 1] 18, .q 1 (.bin .and) [.tmp 18, .const (.int .u64 4294967295)] 19, .q 2 .mv [.tmp 19] 8])
 (.seq
 (.reg [.q 0 .mv [.tmp 1] 20, .q 1 (.bin .shr) [.tmp 20, .const (.int .u64 32)] 21, .q 2 .mv [.tmp 21] 9])
 (.seq
 (.reg [.q 0 .mv [.tmp 6] 22, .q 1 .mv [.tmp 8] 23, .q 2 (.bin .mul) [.tmp 22, .tmp 23] 24, .q 3 .mv [.tmp 24] 10])
 (.seq
 (.reg [.q 0 .mv [.tmp 7] 25, .q 1 .mv [.tmp 8] 26, .q 2 (.bin .mul) [.tmp 25, .tmp 26] 27, .q 3 .mv [.tmp 10] 28, .q 4 (.bin .shr) [.tmp 28, .const (.int .u64 32)] 29, .q 5 (.bin .add) [.tmp 27, .tmp 29] 30, .q 6 .mv [.tmp 30] 11])
 (.seq
 (.reg [.q 0 .mv [.tmp 11] 31, .q 1 (.bin .and) [.tmp 31, .const (.int .u64 4294967295)] 32, .q 2 .mv [.tmp 32] 12])
 (.seq
 (.reg [.q 0 .mv [.tmp 11] 33, .q 1 (.bin .shr) [.tmp 33, .const (.int .u64 32)] 34, .q 2 .mv [.tmp 34] 13])
 (.seq
 (.reg [.q 0 .mv [.tmp 12] 35, .q 1 .mv [.tmp 6] 36, .q 2 .mv [.tmp 9] 37, .q 3 (.bin .mul) [.tmp 36, .tmp 37] 38, .q 4 (.bin .add) [.tmp 35, .tmp 38] 39, .q 5 .mv [.tmp 39] 12])
 (.seq
 (.reg [.q 0 .mv [.tmp 7] 40, .q 1 .mv [.tmp 9] 41, .q 2 (.bin .mul) [.tmp 40, .tmp 41] 42, .q 3 .mv [.tmp 13] 43, .q 4 (.bin .add) [.tmp 42, .tmp 43] 44, .q 5 .mv [.tmp 12] 45, .q 6 (.bin .shr) [.tmp 45, .const (.int .u64 32)] 46, .q 7 (.bin .add) [.tmp 44, .tmp 46] 47, .q 8 .mv [.tmp 47] 4])
 (.seq
 (.reg [.q 0 .mv [.tmp 0] 48, .q 1 .mv [.tmp 1] 49, .q 2 (.bin .mul) [.tmp 48, .tmp 49] 50, .q 3 .mv [.tmp 50] 5])
 .ret))))))))))))⟩
theorem low95 : lowFn Tryd.prog Tryd.f95 = some L95 := by kernel_rfl
theorem call95 {args : List Value} {H : Heap} {S : Ending → Heap → Prop} (hn : args.length ≤ L95.n) (h : awpC Tryd.prog L95.body (retQ L95.results S) (fun ch H => S (.panicked ch) H) (env0 args) H) : ACalls Tryd.prog 95 args.toArray H S := acalls mixed Tryd.func95 low95 hn h
/-- slices.IndexFunc[[]int,int] -/
def L96_0 : LCode :=
 (.seq
 (.reg [.q 0 (.bin .lss) [.tmp 8, .tmp 7] 9])
 (.seq
 (.cond (.tmp 9)
 .skip
 (.exit 0))
 (.seq
 (.block 1
 (.seq
 (.reg [.q 0 .mv [.tmp 8] 10, .q 1 .mv [.tmp 10] 5])
 (.seq
 (.reg [.q 0 .mv [.tmp 1] 11, .q 1 .mv [.tmp 0] 12, .q 2 .mv [.tmp 5] 13, .q 3 (.iad 1) [.tmp 12, .tmp 13] 14, .q 4 .ld [.tmp 14] 15, .e 5 .callv [.tmp 11, .tmp 15] 16])
 (.cond (.tmp 16)
 (.seq
 (.reg [.q 0 .mv [.tmp 5] 17, .q 1 .mv [.tmp 17] 4])
 .ret)
 .skip))))
 (.reg [.q 0 (.bin .add) [.tmp 8, .const (.int .i64 1)] 18, .q 1 .mv [.tmp 18] 8]))))
def L96 : LFn :=
 ⟨19, [.t 4],
 (.seq
 (.reg [.q 0 .mv [.const (.int .i64 0)] 4])
 (.seq
 (.seq
 (.reg [.q 0 .mv [.tmp 0] 6, .q 1 .len [.tmp 6] 7, .q 2 .mv [.const (.int .i64 0)] 8])
 (.block 0
 (.loop L96_0)))
 (.seq
 (.reg [.q 0 .mv [.const (.int .i64 (-1))] 4])
 .ret)))⟩
theorem low96 : lowFn Tryd.prog Tryd.f96 = some L96 := by kernel_rfl
theorem call96 {args : List Value} {H : Heap} {S : Ending → Heap → Prop} (hn : args.length ≤ L96.n) (h : awpC Tryd.prog L96.body (retQ L96.results S) (fun ch H => S (.panicked ch) H) (env0 args) H) : ACalls Tryd.prog 96 args.toArray H S := acalls mixed Tryd.func96 low96 hn h
end Go.Proofs.YtgbhdpeibiglfaaDoor.Low
