/-
 Functions in short (out of the program's form in Lean, by the kernel).
-/
import Derived.Test.YtgbhdpeibiglfaaDoorSepRec
import Derived.Test.YtgbhdpeibiglfaaDoorProg
namespace Go.Proofs.YtgbhdpeibiglfaaDoor.Low
open Go Go.Proofs.YtgbhdpeibiglfaaDoor.Sep
theorem mixed : Tryd.prog.follows .mixedOrders = true := by kernel_rfl
/-- satchel/satchellaw08.GzipDecodes -/
def L3_0 : LCode :=
 (.seq
 (.seq
 (.reg [.q 0 .mv [.tmp 21] 113, .q 1 .mv [.tmp 11] 114, .q 2 .len [.tmp 114] 115, .q 3 (.bin .lss) [.tmp 113, .tmp 115] 116])
 (.cond (.tmp 116)
 .skip
 (.exit 0)))
 (.seq
 (.block 1
 (.seq
 (.reg [.q 0 .mv [.tmp 11] 119, .q 1 .mv [.tmp 21] 120, .q 2 (.iad 8) [.tmp 119, .tmp 120] 121, .q 3 (.ldn 8) [.tmp 121] 122, .q 4 .mv [.tmp 19] 123, .q 5 .mv [.tmp 21] 124, .q 6 (.iad 8) [.tmp 123, .tmp 124] 125, .q 7 (.ldn 8) [.tmp 125] 126, .e 8 (.call 13) [.tmp 122, .tmp 126] 127, .q 9 (.un .not) [.tmp 127] 128])
 (.cond (.tmp 128)
 (.seq
 (.reg [.q 0 .mv [.const (.bool false)] 4])
 .ret)
 .skip)))
 (.reg [.q 0 .mv [.tmp 21] 117, .q 1 (.bin .add) [.tmp 117, .const (.int .i64 1)] 118, .q 2 .mv [.tmp 118] 21])))
def L3_21 : LCode :=
 (.seq
 (.seq
 (.reg [.q 0 .mv [.const (.int .i64 0)] 21])
 (.block 0
 (.loop L3_0)))
 (.seq
 (.reg [.q 0 .mv [.const (.bool true)] 4])
 .ret))
def L3_75 : LCode :=
 (.seq
 (.seq
 (.reg [.q 0 .mv [.tmp 9] 75, .q 1 .mv [.tmp 17] 76, .q 2 (.bin .neq) [.tmp 75, .tmp 76] 77, .q 3 .mv [.tmp 77] 78, .g 4 .mv [.tmp 8] 79 78 false, .g 5 .mv [.tmp 16] 80 78 false, .g 6 (.bin .neq) [.tmp 79, .tmp 80] 81 78 false, .q 7 .pick [.tmp 78, .const (.bool true), .tmp 81] 82, .q 8 .mv [.tmp 82] 83, .g 9 .mv [.tmp 6] 84 83 false, .g 10 .mv [.tmp 14] 85 83 false, ⟨11, .e (.call 12), [.tmp 84, .tmp 85], (some 86), (some (83, false)), [], false⟩, .g 12 (.un .not) [.tmp 86] 87 83 false, .q 13 .pick [.tmp 83, .const (.bool true), .tmp 87] 88, .q 14 .mv [.tmp 88] 89, .g 15 (.ldn 8) [.tmp 7] 90 89 false, .g 16 (.ldn 8) [.tmp 15] 91 89 false, ⟨17, .e (.call 13), [.tmp 90, .tmp 91], (some 92), (some (89, false)), [], false⟩, .g 18 (.un .not) [.tmp 92] 93 89 false, .q 19 .pick [.tmp 89, .const (.bool true), .tmp 93] 94, .q 20 .mv [.tmp 94] 95, .g 21 .mv [.tmp 12] 96 95 false, .g 22 .mv [.tmp 20] 97 95 false, .g 23 (.bin .neq) [.tmp 96, .tmp 97] 98 95 false, .q 24 .pick [.tmp 95, .const (.bool true), .tmp 98] 99, .q 25 .mv [.tmp 99] 100, .g 26 .mv [.tmp 10] 101 100 false, .g 27 .mv [.tmp 18] 102 100 false, ⟨28, .e (.call 12), [.tmp 101, .tmp 102], (some 103), (some (100, false)), [], false⟩, .g 29 (.un .not) [.tmp 103] 104 100 false, .q 30 .pick [.tmp 100, .const (.bool true), .tmp 104] 105, .q 31 .mv [.tmp 105] 106, .g 32 .mv [.tmp 11] 107 106 false, .g 33 .len [.tmp 107] 108 106 false, .g 34 .mv [.tmp 19] 109 106 false, .g 35 .len [.tmp 109] 110 106 false, .g 36 (.bin .neq) [.tmp 108, .tmp 110] 111 106 false, .q 37 .pick [.tmp 106, .const (.bool true), .tmp 111] 112])
 (.cond (.tmp 112)
 (.seq
 (.reg [.q 0 .mv [.const (.bool false)] 4])
 .ret)
 .skip))
 L3_21)
def L3_61 : LCode :=
 (.seq
 (.reg [.q 0 .mv [.tmp 0] 61, .q 1 .mv [.tmp 1] 62, .e 2 (.call 10) [.tmp 61, .tmp 62] 63, .q 3 .mv [.tmp 63] 60, .q 4 (.ext 0) [.tmp 60] 64, .q 5 (.ext 1) [.tmp 60] 65, .q 6 (.ext 2) [.tmp 60] 66, .q 7 (.ext 3) [.tmp 60] 67, .e 8 (.new #[(.string ⟨#[]⟩), (.string ⟨#[]⟩), (.slice none 0 0), (.int .u32 0), (.int .u8 0), (.int .u8 0), (.bool false), (.bool false)] 26) [] 15, .q 9 .mv [.tmp 64] 14, .n 10 (.st 8) [.tmp 15, .tmp 65], .q 11 .mv [.tmp 66] 16, .q 12 .mv [.tmp 67] 17])
 (.seq
 (.reg [.q 0 .mv [.tmp 0] 69, .q 1 .mv [.tmp 1] 70, .e 2 (.call 11) [.tmp 69, .tmp 70] 71, .q 3 .mv [.tmp 71] 68, .q 4 (.ext 0) [.tmp 68] 72, .q 5 (.ext 1) [.tmp 68] 73, .q 6 (.ext 2) [.tmp 68] 74, .q 7 .mv [.tmp 72] 18, .q 8 .mv [.tmp 73] 19, .q 9 .mv [.tmp 74] 20])
 L3_75))
def L3 : LFn :=
 ⟨129, [.t 4],
 (.seq
 (.reg [.q 0 .mv [.const (.bool false)] 4])
 (.seq
 (.reg [.q 0 .mv [.tmp 0] 22, .e 1 (.call 4) [.tmp 22] 23, .q 2 .mv [.tmp 23] 5])
 (.seq
 (.reg [.q 0 .mv [.tmp 5] 25, .q 1 .mv [.tmp 0] 26, .q 2 .len [.tmp 26] 27, .q 3 (.slc 1 false true false) [.tmp 25, .tmp 27] 28, .q 4 .mv [.tmp 1] 29, .e 5 (.call 5) [.tmp 28, .tmp 29] 30, .q 6 .mv [.tmp 30] 24, .q 7 (.ext 0) [.tmp 24] 31, .q 8 (.ext 1) [.tmp 24] 32, .q 9 (.ext 2) [.tmp 24] 33, .q 10 (.ext 3) [.tmp 24] 34, .e 11 (.new #[(.string ⟨#[]⟩), (.string ⟨#[]⟩), (.slice none 0 0), (.int .u32 0), (.int .u8 0), (.int .u8 0), (.bool false), (.bool false)] 26) [] 7, .q 12 .mv [.tmp 31] 6, .n 13 (.st 8) [.tmp 7, .tmp 32], .q 14 .mv [.tmp 33] 8, .q 15 .mv [.tmp 34] 9])
 (.seq
 (.reg [.q 0 .mv [.tmp 5] 36, .q 1 .mv [.tmp 0] 37, .q 2 .len [.tmp 37] 38, .q 3 (.slc 1 false true false) [.tmp 36, .tmp 38] 39, .q 4 .mv [.tmp 1] 40, .e 5 (.call 6) [.tmp 39, .tmp 40] 41, .q 6 .mv [.tmp 41] 35, .q 7 (.ext 0) [.tmp 35] 42, .q 8 (.ext 1) [.tmp 35] 43, .q 9 (.ext 2) [.tmp 35] 44, .q 10 .mv [.tmp 42] 10, .q 11 .mv [.tmp 43] 11, .q 12 .mv [.tmp 44] 12])
 (.seq
 (.reg [.q 0 .mv [.tmp 5] 45, .q 1 .mv [.tmp 0] 46, .q 2 .len [.tmp 46] 47, .q 3 (.slc 1 false true false) [.tmp 45, .tmp 47] 48, .e 4 (.call 7) [.tmp 48] 49, .q 5 .mv [.tmp 49] 13])
 (.seq
 (.seq
 (.reg [.q 0 .mv [.tmp 5] 50, .q 1 .mv [.tmp 0] 51, .e 2 (.call 8) [.tmp 50, .tmp 51] 52, .q 3 (.un .not) [.tmp 52] 53, .q 4 .mv [.tmp 53] 54, .g 5 .mv [.tmp 13] 55 54 false, .g 6 .mv [.tmp 0] 56 54 false, ⟨7, .e (.call 9), [.tmp 56], (some 57), (some (54, false)), [], false⟩, .g 8 (.eqb true) [.tmp 55, .tmp 57] 58 54 false, .q 9 .pick [.tmp 54, .const (.bool true), .tmp 58] 59])
 (.cond (.tmp 59)
 (.seq
 (.reg [.q 0 .mv [.const (.bool false)] 4])
 .ret)
 .skip))
 L3_61))))))⟩
theorem low3 : lowFn Tryd.prog Tryd.f3 = some L3 := by kernel_rfl
theorem call3 {args : List Value} {H : Heap} {S : Ending → Heap → Prop} (hn : args.length ≤ L3.n) (h : awpC Tryd.prog L3.body (retQ L3.results S) (fun ch H => S (.panicked ch) H) (env0 args) H) : ACalls Tryd.prog 3 args.toArray H S := acalls mixed Tryd.func3 low3 hn h
end Go.Proofs.YtgbhdpeibiglfaaDoor.Low
