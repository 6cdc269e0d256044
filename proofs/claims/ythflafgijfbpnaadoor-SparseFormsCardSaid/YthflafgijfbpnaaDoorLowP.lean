/-
  Functions in short (out of the program's form in Lean, by the kernel).
-/
import Derived.Test.YthflafgijfbpnaaDoorSepDfr
import Derived.Test.YthflafgijfbpnaaDoorProg
namespace Go.Proofs.YthflafgijfbpnaaDoor.Low
open Go Go.Proofs.YthflafgijfbpnaaDoor.Sep
theorem mixed : Tryd.prog.follows .mixedOrders = true := by kernel_rfl
/-- the first n cells, each a number -/
def eqI (n : Nat) : List (Nat × Leaf) := (List.range n).map fun i => (i, .i)
/-- satchel/satchellaw15.SparseOlds -/
def L4_0 : LCode :=
 (.seq
 (.seq
 (.reg [⟨0, .q .mv, [.tmp 14], (some 68), none, [], false⟩,
   ⟨1, .q .mv, [.tmp 9], (some 69), none, [], false⟩,
   ⟨2, .q .len, [.tmp 69], (some 70), none, [], false⟩,
   ⟨3, .q (.bin .lss), [.tmp 68, .tmp 70], (some 71), none, [], false⟩])
 (.cond (.tmp 71)
  .skip
  (.exit 0)))
 (.seq
 (.block 1
  (.seq
  (.reg [⟨0, .q .mv, [.tmp 9], (some 74), none, [], false⟩,
    ⟨1, .q .mv, [.tmp 14], (some 75), none, [], false⟩,
    ⟨2, .q (.iad 512), [.tmp 74, .tmp 75], (some 76), none, [], false⟩,
    ⟨3, .q (.ldn 512), [.tmp 76], (some 77), none, [], false⟩,
    ⟨4, .q .mv, [.tmp 12], (some 78), none, [], false⟩,
    ⟨5, .q .mv, [.tmp 14], (some 79), none, [], false⟩,
    ⟨6, .q (.iad 512), [.tmp 78, .tmp 79], (some 80), none, [], false⟩,
    ⟨7, .q (.ldn 512), [.tmp 80], (some 81), none, [], false⟩,
    ⟨8, .q (.eqa (eqI 512) true), [.tmp 77, .tmp 81], (some 82), none, [], false⟩])
  (.cond (.tmp 82)
   (.seq
   (.reg [⟨0, .q .mv, [.const (.bool false)], (some 6), none, [], false⟩])
   .ret)
   .skip)))
 (.reg [⟨0, .q .mv, [.tmp 14], (some 72), none, [], false⟩,
   ⟨1, .q (.bin .add), [.tmp 72, .const (.int .i64 1)], (some 73), none, [], false⟩,
   ⟨2, .q .mv, [.tmp 73], (some 14), none, [], false⟩])))
def L4 : LFn :=
 ⟨159, [.t 6],
 (.seq
 (.reg [⟨0, .q .mv, [.const (.bool false)], (some 6), none, [], false⟩])
 (.seq
 (.reg [⟨0, .e (.lits 51 #[] 0 []), [], (some 26), none, [], false⟩,
   ⟨1, .q .mv, [.tmp 1], (some 27), none, [], false⟩,
   ⟨2, .e (.app 51 2 16 #[(.int .i64 0), (.int .i64 0)]), [.tmp 26, .tmp 27], (some 28), none, [], false⟩,
   ⟨3, .q .mv, [.tmp 28], (some 7), none, [], false⟩])
 (.seq
 (.reg [⟨0, .q .mv, [.tmp 0], (some 30), none, [], false⟩,
   ⟨1, .e (.call 17), [.tmp 30], (some 31), none, [], false⟩,
   ⟨2, .q .mv, [.tmp 7], (some 32), none, [], false⟩,
   ⟨3, .q .mv, [.tmp 2], (some 33), none, [], false⟩,
   ⟨4, .e (.call 16), [.tmp 31, .tmp 32, .tmp 33], (some 34), none, [], false⟩,
   ⟨5, .q .mv, [.tmp 34], (some 29), none, [], false⟩,
   ⟨6, .q (.ext 0), [.tmp 29], (some 35), none, [], false⟩,
   ⟨7, .q (.ext 1), [.tmp 29], (some 36), none, [], false⟩,
   ⟨8, .q (.ext 2), [.tmp 29], (some 37), none, [], false⟩,
   ⟨9, .e (.new (Array.replicate 512 (.int .u8 0)) 36), [], (some 8), none, [], false⟩,
   ⟨10, .e (.st 512), [.tmp 8, .tmp 35], none, none, [], false⟩,
   ⟨11, .q .mv, [.tmp 36], (some 9), none, [], false⟩,
   ⟨12, .q .mv, [.tmp 37], (some 10), none, [], false⟩])
 (.seq
 (.reg [⟨0, .q .mv, [.tmp 0], (some 39), none, [], false⟩,
   ⟨1, .e (.call 17), [.tmp 39], (some 40), none, [], false⟩,
   ⟨2, .q .mv, [.tmp 1], (some 41), none, [], false⟩,
   ⟨3, .q .mv, [.tmp 2], (some 42), none, [], false⟩,
   ⟨4, .e (.call 18), [.tmp 40, .tmp 41, .tmp 42], (some 43), none, [], false⟩,
   ⟨5, .q .mv, [.tmp 43], (some 38), none, [], false⟩,
   ⟨6, .q (.ext 0), [.tmp 38], (some 44), none, [], false⟩,
   ⟨7, .q (.ext 1), [.tmp 38], (some 45), none, [], false⟩,
   ⟨8, .q (.ext 2), [.tmp 38], (some 46), none, [], false⟩,
   ⟨9, .e (.new (Array.replicate 512 (.int .u8 0)) 36), [], (some 11), none, [], false⟩,
   ⟨10, .e (.st 512), [.tmp 11, .tmp 44], none, none, [], false⟩,
   ⟨11, .q .mv, [.tmp 45], (some 12), none, [], false⟩,
   ⟨12, .q .mv, [.tmp 46], (some 13), none, [], false⟩])
 (.seq
 (.seq
 (.reg [⟨0, .q (.ldn 512), [.tmp 8], (some 47), none, [], false⟩,
   ⟨1, .q (.ldn 512), [.tmp 11], (some 48), none, [], false⟩,
   ⟨2, .q (.eqa (eqI 512) true), [.tmp 47, .tmp 48], (some 49), none, [], false⟩,
   ⟨3, .q .mv, [.tmp 49], (some 50), none, [], false⟩,
   ⟨4, .q .mv, [.tmp 10], (some 51), (some (50, false)), [], false⟩,
   ⟨5, .q .mv, [.tmp 13], (some 52), (some (50, false)), [], false⟩,
   ⟨6, .q (.bin .neq), [.tmp 51, .tmp 52], (some 53), (some (50, false)), [], false⟩,
   ⟨7, .q .pick, [.tmp 50, .const (.bool true), .tmp 53], (some 54), none, [], false⟩,
   ⟨8, .q .mv, [.tmp 54], (some 55), none, [], false⟩,
   ⟨9, .q .mv, [.tmp 9], (some 56), (some (55, false)), [], false⟩,
   ⟨10, .q .len, [.tmp 56], (some 57), (some (55, false)), [], false⟩,
   ⟨11, .q .mv, [.tmp 12], (some 58), (some (55, false)), [], false⟩,
   ⟨12, .q .len, [.tmp 58], (some 59), (some (55, false)), [], false⟩,
   ⟨13, .q (.bin .neq), [.tmp 57, .tmp 59], (some 60), (some (55, false)), [], false⟩,
   ⟨14, .q .pick, [.tmp 55, .const (.bool true), .tmp 60], (some 61), none, [], false⟩,
   ⟨15, .q .mv, [.tmp 61], (some 62), none, [], false⟩,
   ⟨16, .q .mv, [.tmp 7], (some 63), (some (62, false)), [], false⟩,
   ⟨17, .q .mv, [.tmp 1], (some 64), (some (62, false)), [], false⟩,
   ⟨18, .e (.call 12), [.tmp 63, .tmp 64], (some 65), (some (62, false)), [], false⟩,
   ⟨19, .q (.un .not), [.tmp 65], (some 66), (some (62, false)), [], false⟩,
   ⟨20, .q .pick, [.tmp 62, .const (.bool true), .tmp 66], (some 67), none, [], false⟩])
 (.cond (.tmp 67)
  (.seq
  (.reg [⟨0, .q .mv, [.const (.bool false)], (some 6), none, [], false⟩])
  .ret)
  .skip))
 (.seq
 (.seq
 (.reg [⟨0, .q .mv, [.const (.int .i64 0)], (some 14), none, [], false⟩])
 (.block 0
  (.loop L4_0)))
 (.seq
 (.reg [⟨0, .q .mv, [.tmp 0], (some 84), none, [], false⟩,
   ⟨1, .e (.call 17), [.tmp 84], (some 85), none, [], false⟩,
   ⟨2, .e (.call 19), [.tmp 85], (some 86), none, [], false⟩,
   ⟨3, .q .mv, [.tmp 86], (some 83), none, [], false⟩,
   ⟨4, .q (.ext 0), [.tmp 83], (some 87), none, [], false⟩,
   ⟨5, .q (.ext 1), [.tmp 83], (some 88), none, [], false⟩,
   ⟨6, .q (.ext 2), [.tmp 83], (some 89), none, [], false⟩,
   ⟨7, .q (.ext 3), [.tmp 83], (some 90), none, [], false⟩,
   ⟨8, .q .mv, [.tmp 87], (some 15), none, [], false⟩,
   ⟨9, .q .mv, [.tmp 88], (some 16), none, [], false⟩,
   ⟨10, .q .mv, [.tmp 89], (some 17), none, [], false⟩,
   ⟨11, .q .mv, [.tmp 90], (some 18), none, [], false⟩])
 (.seq
 (.reg [⟨0, .q .mv, [.tmp 0], (some 92), none, [], false⟩,
   ⟨1, .e (.call 17), [.tmp 92], (some 93), none, [], false⟩,
   ⟨2, .e (.call 20), [.tmp 93], (some 94), none, [], false⟩,
   ⟨3, .q .mv, [.tmp 94], (some 91), none, [], false⟩,
   ⟨4, .q (.ext 0), [.tmp 91], (some 95), none, [], false⟩,
   ⟨5, .q (.ext 1), [.tmp 91], (some 96), none, [], false⟩,
   ⟨6, .q (.ext 2), [.tmp 91], (some 97), none, [], false⟩,
   ⟨7, .q (.ext 3), [.tmp 91], (some 98), none, [], false⟩,
   ⟨8, .q .mv, [.tmp 95], (some 19), none, [], false⟩,
   ⟨9, .q .mv, [.tmp 96], (some 20), none, [], false⟩,
   ⟨10, .q .mv, [.tmp 97], (some 21), none, [], false⟩,
   ⟨11, .q .mv, [.tmp 98], (some 22), none, [], false⟩])
 (.seq
 (.seq
 (.reg [⟨0, .q .mv, [.tmp 15], (some 99), none, [], false⟩,
   ⟨1, .q .mv, [.tmp 19], (some 100), none, [], false⟩,
   ⟨2, .e (.call 12), [.tmp 99, .tmp 100], (some 101), none, [], false⟩,
   ⟨3, .q (.un .not), [.tmp 101], (some 102), none, [], false⟩,
   ⟨4, .q .mv, [.tmp 102], (some 103), none, [], false⟩,
   ⟨5, .q .mv, [.tmp 16], (some 104), (some (103, false)), [], false⟩,
   ⟨6, .q .mv, [.tmp 20], (some 105), (some (103, false)), [], false⟩,
   ⟨7, .q (.bin .neq), [.tmp 104, .tmp 105], (some 106), (some (103, false)), [], false⟩,
   ⟨8, .q .pick, [.tmp 103, .const (.bool true), .tmp 106], (some 107), none, [], false⟩,
   ⟨9, .q .mv, [.tmp 107], (some 108), none, [], false⟩,
   ⟨10, .q .mv, [.tmp 17], (some 109), (some (108, false)), [], false⟩,
   ⟨11, .q .mv, [.tmp 21], (some 110), (some (108, false)), [], false⟩,
   ⟨12, .q (.eqb true), [.tmp 109, .tmp 110], (some 111), (some (108, false)), [], false⟩,
   ⟨13, .q .pick, [.tmp 108, .const (.bool true), .tmp 111], (some 112), none, [], false⟩,
   ⟨14, .q .mv, [.tmp 112], (some 113), none, [], false⟩,
   ⟨15, .q .mv, [.tmp 18], (some 114), (some (113, false)), [], false⟩,
   ⟨16, .q .mv, [.tmp 22], (some 115), (some (113, false)), [], false⟩,
   ⟨17, .q (.bin .neq), [.tmp 114, .tmp 115], (some 116), (some (113, false)), [], false⟩,
   ⟨18, .q .pick, [.tmp 113, .const (.bool true), .tmp 116], (some 117), none, [], false⟩])
 (.cond (.tmp 117)
  (.seq
  (.reg [⟨0, .q .mv, [.const (.bool false)], (some 6), none, [], false⟩])
  .ret)
  .skip))
 (.seq
 (.reg [⟨0, .q .mv, [.tmp 0], (some 119), none, [], false⟩,
   ⟨1, .e (.call 17), [.tmp 119], (some 120), none, [], false⟩,
   ⟨2, .e (.call 21), [.tmp 120], (some 121), none, [], false⟩,
   ⟨3, .q .mv, [.tmp 121], (some 118), none, [], false⟩,
   ⟨4, .q (.ext 0), [.tmp 118], (some 122), none, [], false⟩,
   ⟨5, .q (.ext 1), [.tmp 118], (some 123), none, [], false⟩,
   ⟨6, .q (.ext 2), [.tmp 118], (some 124), none, [], false⟩,
   ⟨7, .q .mv, [.tmp 122], (some 15), none, [], false⟩,
   ⟨8, .q .mv, [.tmp 123], (some 17), none, [], false⟩,
   ⟨9, .q .mv, [.tmp 124], (some 18), none, [], false⟩])
 (.seq
 (.reg [⟨0, .q .mv, [.tmp 0], (some 126), none, [], false⟩,
   ⟨1, .e (.call 17), [.tmp 126], (some 127), none, [], false⟩,
   ⟨2, .e (.call 22), [.tmp 127], (some 128), none, [], false⟩,
   ⟨3, .q .mv, [.tmp 128], (some 125), none, [], false⟩,
   ⟨4, .q (.ext 0), [.tmp 125], (some 129), none, [], false⟩,
   ⟨5, .q (.ext 1), [.tmp 125], (some 130), none, [], false⟩,
   ⟨6, .q (.ext 2), [.tmp 125], (some 131), none, [], false⟩,
   ⟨7, .q .mv, [.tmp 129], (some 19), none, [], false⟩,
   ⟨8, .q .mv, [.tmp 130], (some 21), none, [], false⟩,
   ⟨9, .q .mv, [.tmp 131], (some 22), none, [], false⟩])
 (.seq
 (.seq
 (.reg [⟨0, .q .mv, [.tmp 15], (some 132), none, [], false⟩,
   ⟨1, .q .mv, [.tmp 19], (some 133), none, [], false⟩,
   ⟨2, .e (.call 12), [.tmp 132, .tmp 133], (some 134), none, [], false⟩,
   ⟨3, .q (.un .not), [.tmp 134], (some 135), none, [], false⟩,
   ⟨4, .q .mv, [.tmp 135], (some 136), none, [], false⟩,
   ⟨5, .q .mv, [.tmp 17], (some 137), (some (136, false)), [], false⟩,
   ⟨6, .q .mv, [.tmp 21], (some 138), (some (136, false)), [], false⟩,
   ⟨7, .q (.eqb true), [.tmp 137, .tmp 138], (some 139), (some (136, false)), [], false⟩,
   ⟨8, .q .pick, [.tmp 136, .const (.bool true), .tmp 139], (some 140), none, [], false⟩,
   ⟨9, .q .mv, [.tmp 140], (some 141), none, [], false⟩,
   ⟨10, .q .mv, [.tmp 18], (some 142), (some (141, false)), [], false⟩,
   ⟨11, .q .mv, [.tmp 22], (some 143), (some (141, false)), [], false⟩,
   ⟨12, .q (.bin .neq), [.tmp 142, .tmp 143], (some 144), (some (141, false)), [], false⟩,
   ⟨13, .q .pick, [.tmp 141, .const (.bool true), .tmp 144], (some 145), none, [], false⟩])
 (.cond (.tmp 145)
  (.seq
  (.reg [⟨0, .q .mv, [.const (.bool false)], (some 6), none, [], false⟩])
  .ret)
  .skip))
 (.seq
 (.reg [⟨0, .q (.build (Array.replicate 512 (.int .u8 0)) []), [], (some 147), none, [], false⟩,
   ⟨1, .e (.call 16), [.tmp 147, .const (.slice none 0 0), .const (.int .i64 1)], (some 148), none, [], false⟩,
   ⟨2, .q .mv, [.tmp 148], (some 146), none, [], false⟩,
   ⟨3, .q (.ext 0), [.tmp 146], (some 149), none, [], false⟩,
   ⟨4, .q (.ext 1), [.tmp 146], (some 150), none, [], false⟩,
   ⟨5, .q (.ext 2), [.tmp 146], (some 151), none, [], false⟩,
   ⟨6, .e (.new (Array.replicate 512 (.int .u8 0)) 36), [], (some 23), none, [], false⟩,
   ⟨7, .e (.st 512), [.tmp 23, .tmp 149], none, none, [], false⟩,
   ⟨8, .q .mv, [.tmp 150], (some 24), none, [], false⟩,
   ⟨9, .q .mv, [.tmp 151], (some 25), none, [], false⟩])
 (.seq
 (.reg [⟨0, .q .mv, [.tmp 25], (some 152), none, [], false⟩,
   ⟨1, .q (.bin .eql), [.tmp 152, .const (.int .i64 0)], (some 153), none, [], false⟩,
   ⟨2, .q .mv, [.tmp 153], (some 154), none, [], false⟩,
   ⟨3, .q (.iada 512 1), [.tmp 23, .const (.int .i64 493)], (some 155), (some (154, true)), [], false⟩,
   ⟨4, .q .ld, [.tmp 155], (some 156), (some (154, true)), [], false⟩,
   ⟨5, .q (.bin .eql), [.tmp 156, .const (.int .u8 49)], (some 157), (some (154, true)), [], false⟩,
   ⟨6, .q .pick, [.tmp 154, .tmp 157, .const (.bool false)], (some 158), none, [], false⟩,
   ⟨7, .q .mv, [.tmp 158], (some 6), none, [], false⟩])
 .ret))))))))))))))⟩
theorem low4 : lowFn Tryd.prog Tryd.f4 = some L4 := by kernel_rfl
theorem call4 {args : List Value} {H : Heap} {S : Ending → Heap → Prop} (hn : args.length ≤ L4.n) (h : awpC Tryd.prog L4.body (retQ L4.results S) (fun ch H => S (.panicked ch) H) (env0 args) H) : ACalls Tryd.prog 4 args.toArray H S := acalls mixed Tryd.func4 low4 hn h
/-- satchel/satchellaw15.SparseForms -/
def L5_0 : LCode :=
 (.seq
 (.seq
 (.reg [⟨0, .q .mv, [.tmp 27], (some 141), none, [], false⟩,
   ⟨1, .q .mv, [.tmp 18], (some 142), none, [], false⟩,
   ⟨2, .q .len, [.tmp 142], (some 143), none, [], false⟩,
   ⟨3, .q (.bin .lss), [.tmp 141, .tmp 143], (some 144), none, [], false⟩])
 (.cond (.tmp 144)
  .skip
  (.exit 0)))
 (.seq
 (.block 1
  (.seq
  (.reg [⟨0, .q .mv, [.tmp 18], (some 148), none, [], false⟩,
    ⟨1, .q .mv, [.tmp 27], (some 149), none, [], false⟩,
    ⟨2, .q (.iad 512), [.tmp 148, .tmp 149], (some 150), none, [], false⟩,
    ⟨3, .q (.ldn 512), [.tmp 150], (some 151), none, [], false⟩,
    ⟨4, .e (.call 21), [.tmp 151], (some 152), none, [], false⟩,
    ⟨5, .q .mv, [.tmp 152], (some 147), none, [], false⟩,
    ⟨6, .q (.ext 0), [.tmp 147], (some 153), none, [], false⟩,
    ⟨7, .q (.ext 1), [.tmp 147], (some 154), none, [], false⟩,
    ⟨8, .q (.ext 2), [.tmp 147], (some 155), none, [], false⟩,
    ⟨9, .q .mv, [.tmp 153], (some 28), none, [], false⟩,
    ⟨10, .q .mv, [.tmp 154], (some 29), none, [], false⟩,
    ⟨11, .q .mv, [.tmp 155], (some 30), none, [], false⟩])
  (.seq
  (.seq
  (.reg [⟨0, .q .mv, [.tmp 30], (some 156), none, [], false⟩,
    ⟨1, .q (.bin .neq), [.tmp 156, .const (.int .i64 0)], (some 157), none, [], false⟩,
    ⟨2, .q .mv, [.tmp 157], (some 158), none, [], false⟩,
    ⟨3, .q .mv, [.tmp 29], (some 159), (some (158, false)), [], false⟩,
    ⟨4, .q .mv, [.tmp 27], (some 160), (some (158, false)), [], false⟩,
    ⟨5, .q .mv, [.tmp 18], (some 161), (some (158, false)), [], false⟩,
    ⟨6, .q .len, [.tmp 161], (some 162), (some (158, false)), [], false⟩,
    ⟨7, .q (.bin .sub), [.tmp 162, .const (.int .i64 1)], (some 163), (some (158, false)), [], false⟩,
    ⟨8, .q (.bin .lss), [.tmp 160, .tmp 163], (some 164), (some (158, false)), [], false⟩,
    ⟨9, .q (.eqb true), [.tmp 159, .tmp 164], (some 165), (some (158, false)), [], false⟩,
    ⟨10, .q .pick, [.tmp 158, .const (.bool true), .tmp 165], (some 166), none, [], false⟩])
  (.cond (.tmp 166)
   (.seq
   (.reg [⟨0, .q .mv, [.const (.bool false)], (some 6), none, [], false⟩])
   .ret)
   .skip))
  (.reg [⟨0, .q .mv, [.tmp 23], (some 167), none, [], false⟩,
    ⟨1, .q .mv, [.tmp 28], (some 168), none, [], false⟩,
    ⟨2, .e (.app 51 2 16 #[(.int .i64 0), (.int .i64 0)]), [.tmp 167, .tmp 168], (some 169), none, [], false⟩,
    ⟨3, .q .mv, [.tmp 169], (some 23), none, [], false⟩]))))
 (.reg [⟨0, .q .mv, [.tmp 27], (some 145), none, [], false⟩,
   ⟨1, .q (.bin .add), [.tmp 145, .const (.int .i64 1)], (some 146), none, [], false⟩,
   ⟨2, .q .mv, [.tmp 146], (some 27), none, [], false⟩])))
def L5_1 : LCode :=
 (.seq
 (.reg [⟨0, .q (.build (Array.replicate 512 (.int .u8 0)) []), [], (some 96), none, [], false⟩,
   ⟨1, .e (.lits 51 #[] 0 []), [], (some 97), none, [], false⟩,
   ⟨2, .q .mv, [.tmp 0], (some 98), none, [], false⟩,
   ⟨3, .e (.app 51 2 16 #[(.int .i64 0), (.int .i64 0)]), [.tmp 97, .tmp 98], (some 99), none, [], false⟩,
   ⟨4, .q .mv, [.tmp 1], (some 100), none, [], false⟩,
   ⟨5, .e (.call 16), [.tmp 96, .tmp 99, .tmp 100], (some 101), none, [], false⟩,
   ⟨6, .q .mv, [.tmp 101], (some 95), none, [], false⟩,
   ⟨7, .q (.ext 0), [.tmp 95], (some 102), none, [], false⟩,
   ⟨8, .q (.ext 1), [.tmp 95], (some 103), none, [], false⟩,
   ⟨9, .q (.ext 2), [.tmp 95], (some 104), none, [], false⟩,
   ⟨10, .e (.new (Array.replicate 512 (.int .u8 0)) 36), [], (some 17), none, [], false⟩,
   ⟨11, .e (.st 512), [.tmp 17, .tmp 102], none, none, [], false⟩,
   ⟨12, .q .mv, [.tmp 103], (some 18), none, [], false⟩,
   ⟨13, .q .mv, [.tmp 104], (some 19), none, [], false⟩])
 (.seq
 (.seq
 (.reg [⟨0, .q .mv, [.tmp 19], (some 105), none, [], false⟩,
   ⟨1, .q (.bin .neq), [.tmp 105, .const (.int .i64 0)], (some 106), none, [], false⟩])
 (.cond (.tmp 106)
  (.seq
  (.reg [⟨0, .q (.build (Array.replicate 512 (.int .u8 0)) []), [], (some 108), none, [], false⟩,
    ⟨1, .e (.call 16), [.tmp 108, .const (.slice none 0 0), .const (.int .i64 0)], (some 109), none, [], false⟩,
    ⟨2, .q .mv, [.tmp 109], (some 107), none, [], false⟩,
    ⟨3, .q (.ext 0), [.tmp 107], (some 110), none, [], false⟩,
    ⟨4, .q (.ext 1), [.tmp 107], (some 111), none, [], false⟩,
    ⟨5, .q (.ext 2), [.tmp 107], (some 112), none, [], false⟩,
    ⟨6, .e (.new (Array.replicate 512 (.int .u8 0)) 36), [], (some 20), none, [], false⟩,
    ⟨7, .e (.st 512), [.tmp 20, .tmp 110], none, none, [], false⟩,
    ⟨8, .q .mv, [.tmp 111], (some 21), none, [], false⟩,
    ⟨9, .q .mv, [.tmp 112], (some 22), none, [], false⟩])
  (.seq
  (.reg [⟨0, .q .mv, [.tmp 22], (some 113), none, [], false⟩,
    ⟨1, .q (.bin .eql), [.tmp 113, .const (.int .i64 0)], (some 114), none, [], false⟩,
    ⟨2, .q .mv, [.tmp 114], (some 115), none, [], false⟩,
    ⟨3, .q (.iada 512 1), [.tmp 20, .const (.int .i64 494)], (some 116), (some (115, true)), [], false⟩,
    ⟨4, .q .ld, [.tmp 116], (some 117), (some (115, true)), [], false⟩,
    ⟨5, .q (.bin .eql), [.tmp 117, .const (.int .u8 0)], (some 118), (some (115, true)), [], false⟩,
    ⟨6, .q .pick, [.tmp 115, .tmp 118, .const (.bool false)], (some 119), none, [], false⟩,
    ⟨7, .q .mv, [.tmp 119], (some 6), none, [], false⟩])
  .ret))
  .skip))
 (.seq
 (.reg [⟨0, .q (.ldn 512), [.tmp 17], (some 121), none, [], false⟩,
   ⟨1, .e (.call 19), [.tmp 121], (some 122), none, [], false⟩,
   ⟨2, .q .mv, [.tmp 122], (some 120), none, [], false⟩,
   ⟨3, .q (.ext 0), [.tmp 120], (some 123), none, [], false⟩,
   ⟨4, .q (.ext 1), [.tmp 120], (some 124), none, [], false⟩,
   ⟨5, .q (.ext 2), [.tmp 120], (some 125), none, [], false⟩,
   ⟨6, .q (.ext 3), [.tmp 120], (some 126), none, [], false⟩,
   ⟨7, .q .mv, [.tmp 123], (some 23), none, [], false⟩,
   ⟨8, .q .mv, [.tmp 124], (some 24), none, [], false⟩,
   ⟨9, .q .mv, [.tmp 125], (some 25), none, [], false⟩,
   ⟨10, .q .mv, [.tmp 126], (some 26), none, [], false⟩])
 (.seq
 (.seq
 (.reg [⟨0, .q .mv, [.tmp 26], (some 127), none, [], false⟩,
   ⟨1, .q (.bin .neq), [.tmp 127, .const (.int .i64 0)], (some 128), none, [], false⟩,
   ⟨2, .q .mv, [.tmp 128], (some 129), none, [], false⟩,
   ⟨3, .q .mv, [.tmp 24], (some 130), (some (129, false)), [], false⟩,
   ⟨4, .q .mv, [.tmp 1], (some 131), (some (129, false)), [], false⟩,
   ⟨5, .q (.bin .neq), [.tmp 130, .tmp 131], (some 132), (some (129, false)), [], false⟩,
   ⟨6, .q .pick, [.tmp 129, .const (.bool true), .tmp 132], (some 133), none, [], false⟩,
   ⟨7, .q .mv, [.tmp 133], (some 134), none, [], false⟩,
   ⟨8, .q .mv, [.tmp 25], (some 135), (some (134, false)), [], false⟩,
   ⟨9, .q .mv, [.tmp 18], (some 136), (some (134, false)), [], false⟩,
   ⟨10, .q .len, [.tmp 136], (some 137), (some (134, false)), [], false⟩,
   ⟨11, .q (.bin .gtr), [.tmp 137, .const (.int .i64 0)], (some 138), (some (134, false)), [], false⟩,
   ⟨12, .q (.eqb true), [.tmp 135, .tmp 138], (some 139), (some (134, false)), [], false⟩,
   ⟨13, .q .pick, [.tmp 134, .const (.bool true), .tmp 139], (some 140), none, [], false⟩])
 (.cond (.tmp 140)
  (.seq
  (.reg [⟨0, .q .mv, [.const (.bool false)], (some 6), none, [], false⟩])
  .ret)
  .skip))
 (.seq
 (.seq
 (.reg [⟨0, .q .mv, [.const (.int .i64 0)], (some 27), none, [], false⟩])
 (.block 0
  (.loop L5_0)))
 (.seq
 (.reg [⟨0, .q .mv, [.tmp 23], (some 170), none, [], false⟩,
   ⟨1, .q .mv, [.tmp 0], (some 171), none, [], false⟩,
   ⟨2, .e (.call 12), [.tmp 170, .tmp 171], (some 172), none, [], false⟩,
   ⟨3, .q .mv, [.tmp 172], (some 6), none, [], false⟩])
 .ret))))))
def L5_2 : LCode :=
 (.seq
 (.reg [⟨0, .e (.lits 5 #[] 0 []), [], (some 65), none, [], false⟩,
   ⟨1, .q .mv, [.tmp 2], (some 66), none, [], false⟩,
   ⟨2, .e (.app 5 1 1 #[(.int .u8 0)]), [.tmp 65, .tmp 66], (some 67), none, [], false⟩,
   ⟨3, .e (.call 9), [.tmp 67], (some 68), none, [], false⟩,
   ⟨4, .q .mv, [.tmp 68], (some 64), none, [], false⟩,
   ⟨5, .q (.ext 0), [.tmp 64], (some 69), none, [], false⟩,
   ⟨6, .q (.ext 1), [.tmp 64], (some 70), none, [], false⟩,
   ⟨7, .q (.ext 2), [.tmp 64], (some 71), none, [], false⟩,
   ⟨8, .q .mv, [.tmp 69], (some 12), none, [], false⟩,
   ⟨9, .q .mv, [.tmp 70], (some 13), none, [], false⟩,
   ⟨10, .q .mv, [.tmp 71], (some 14), none, [], false⟩])
 (.seq
 (.seq
 (.reg [⟨0, .q .mv, [.tmp 14], (some 72), none, [], false⟩,
   ⟨1, .q (.bin .eql), [.tmp 72, .const (.int .i64 0)], (some 73), none, [], false⟩])
 (.cond (.tmp 73)
  (.seq
  (.reg [⟨0, .q .mv, [.tmp 12], (some 75), none, [], false⟩,
    ⟨1, .e (.call 6), [.tmp 75], (some 76), none, [], false⟩,
    ⟨2, .q .mv, [.tmp 76], (some 74), none, [], false⟩,
    ⟨3, .q (.ext 0), [.tmp 74], (some 77), none, [], false⟩,
    ⟨4, .q (.ext 1), [.tmp 74], (some 78), none, [], false⟩,
    ⟨5, .q .mv, [.tmp 77], (some 15), none, [], false⟩,
    ⟨6, .q .mv, [.tmp 78], (some 16), none, [], false⟩])
  (.seq
  (.reg [⟨0, .q .mv, [.tmp 16], (some 79), none, [], false⟩,
    ⟨1, .q (.bin .neq), [.tmp 79, .const (.int .i64 0)], (some 80), none, [], false⟩,
    ⟨2, .q .mv, [.tmp 80], (some 81), none, [], false⟩,
    ⟨3, .q .mv, [.tmp 13], (some 82), (some (81, false)), [], false⟩,
    ⟨4, .q .mv, [.tmp 2], (some 83), (some (81, false)), [], false⟩,
    ⟨5, .q .len, [.tmp 83], (some 84), (some (81, false)), [], false⟩,
    ⟨6, .q (.bin .gtr), [.tmp 82, .tmp 84], (some 85), (some (81, false)), [], false⟩,
    ⟨7, .q .pick, [.tmp 81, .const (.bool true), .tmp 85], (some 86), none, [], false⟩,
    ⟨8, .q .mv, [.tmp 86], (some 87), none, [], false⟩,
    ⟨9, .q .mv, [.tmp 15], (some 88), (some (87, false)), [], false⟩,
    ⟨10, .q .mv, [.tmp 2], (some 89), (some (87, false)), [], false⟩,
    ⟨11, .q .mv, [.tmp 13], (some 90), (some (87, false)), [], false⟩,
    ⟨12, .q (.slc 1 false true false), [.tmp 89, .tmp 90], (some 91), (some (87, false)), [], false⟩,
    ⟨13, .e (.call 11), [.tmp 88, .tmp 91], (some 92), (some (87, false)), [], false⟩,
    ⟨14, .q (.un .not), [.tmp 92], (some 93), (some (87, false)), [], false⟩,
    ⟨15, .q .pick, [.tmp 87, .const (.bool true), .tmp 93], (some 94), none, [], false⟩])
  (.cond (.tmp 94)
   (.seq
   (.reg [⟨0, .q .mv, [.const (.bool false)], (some 6), none, [], false⟩])
   .ret)
   .skip)))
  .skip))
 L5_1))
def L5 : LFn :=
 ⟨173, [.t 6],
 (.seq
 (.reg [⟨0, .q .mv, [.const (.bool false)], (some 6), none, [], false⟩])
 (.seq
 (.reg [⟨0, .e (.lits 51 #[] 0 []), [], (some 32), none, [], false⟩,
   ⟨1, .q .mv, [.tmp 0], (some 33), none, [], false⟩,
   ⟨2, .e (.app 51 2 16 #[(.int .i64 0), (.int .i64 0)]), [.tmp 32, .tmp 33], (some 34), none, [], false⟩,
   ⟨3, .e (.call 6), [.tmp 34], (some 35), none, [], false⟩,
   ⟨4, .q .mv, [.tmp 35], (some 31), none, [], false⟩,
   ⟨5, .q (.ext 0), [.tmp 31], (some 36), none, [], false⟩,
   ⟨6, .q (.ext 1), [.tmp 31], (some 37), none, [], false⟩,
   ⟨7, .q .mv, [.tmp 36], (some 7), none, [], false⟩,
   ⟨8, .q .mv, [.tmp 37], (some 8), none, [], false⟩])
 (.seq
 (.seq
 (.reg [⟨0, .q .mv, [.tmp 8], (some 38), none, [], false⟩,
   ⟨1, .q (.bin .eql), [.tmp 38, .const (.int .i64 0)], (some 39), none, [], false⟩])
 (.cond (.tmp 39)
  (.seq
  (.reg [⟨0, .e (.lits 5 #[] 0 []), [], (some 41), none, [], false⟩,
    ⟨1, .q .mv, [.tmp 7], (some 42), none, [], false⟩,
    ⟨2, .e (.app 5 1 1 #[(.int .u8 0)]), [.tmp 41, .tmp 42], (some 43), none, [], false⟩,
    ⟨3, .e (.lits 5 #[(.int .u8 0)] 1 [(0, 1)]), [.const (.int .u8 7)], (some 44), none, [], false⟩,
    ⟨4, .e (.app 5 1 1 #[(.int .u8 0)]), [.tmp 43, .tmp 44], (some 45), none, [], false⟩,
    ⟨5, .e (.call 9), [.tmp 45], (some 46), none, [], false⟩,
    ⟨6, .q .mv, [.tmp 46], (some 40), none, [], false⟩,
    ⟨7, .q (.ext 0), [.tmp 40], (some 47), none, [], false⟩,
    ⟨8, .q (.ext 1), [.tmp 40], (some 48), none, [], false⟩,
    ⟨9, .q (.ext 2), [.tmp 40], (some 49), none, [], false⟩,
    ⟨10, .q .mv, [.tmp 47], (some 9), none, [], false⟩,
    ⟨11, .q .mv, [.tmp 48], (some 10), none, [], false⟩,
    ⟨12, .q .mv, [.tmp 49], (some 11), none, [], false⟩])
  (.seq
  (.reg [⟨0, .q .mv, [.tmp 11], (some 50), none, [], false⟩,
    ⟨1, .q (.bin .neq), [.tmp 50, .const (.int .i64 0)], (some 51), none, [], false⟩,
    ⟨2, .q .mv, [.tmp 51], (some 52), none, [], false⟩,
    ⟨3, .q .mv, [.tmp 10], (some 53), (some (52, false)), [], false⟩,
    ⟨4, .q .mv, [.tmp 7], (some 54), (some (52, false)), [], false⟩,
    ⟨5, .q .len, [.tmp 54], (some 55), (some (52, false)), [], false⟩,
    ⟨6, .q (.bin .neq), [.tmp 53, .tmp 55], (some 56), (some (52, false)), [], false⟩,
    ⟨7, .q .pick, [.tmp 52, .const (.bool true), .tmp 56], (some 57), none, [], false⟩,
    ⟨8, .q .mv, [.tmp 57], (some 58), none, [], false⟩,
    ⟨9, .q .mv, [.tmp 9], (some 59), (some (58, false)), [], false⟩,
    ⟨10, .q .mv, [.tmp 0], (some 60), (some (58, false)), [], false⟩,
    ⟨11, .e (.call 12), [.tmp 59, .tmp 60], (some 61), (some (58, false)), [], false⟩,
    ⟨12, .q (.un .not), [.tmp 61], (some 62), (some (58, false)), [], false⟩,
    ⟨13, .q .pick, [.tmp 58, .const (.bool true), .tmp 62], (some 63), none, [], false⟩])
  (.cond (.tmp 63)
   (.seq
   (.reg [⟨0, .q .mv, [.const (.bool false)], (some 6), none, [], false⟩])
   .ret)
   .skip)))
  .skip))
 L5_2)))⟩
theorem low5 : lowFn Tryd.prog Tryd.f5 = some L5 := by kernel_rfl
theorem call5 {args : List Value} {H : Heap} {S : Ending → Heap → Prop} (hn : args.length ≤ L5.n) (h : awpC Tryd.prog L5.body (retQ L5.results S) (fun ch H => S (.panicked ch) H) (env0 args) H) : ACalls Tryd.prog 5 args.toArray H S := acalls mixed Tryd.func5 low5 hn h
end Go.Proofs.YthflafgijfbpnaaDoor.Low
