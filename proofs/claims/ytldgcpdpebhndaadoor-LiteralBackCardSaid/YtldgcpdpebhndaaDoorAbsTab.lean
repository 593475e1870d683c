/-
  The types of this translation as the calculus reads them. Written by a program.
-/
import Derived.Test.YtldgcpdpebhndaaDoorAbsU
import Derived.Test.YtldgcpdpebhndaaDoorProg
import Derived.KernelRfl
namespace Go.Proofs
open Go.Abs

def Tryd.ti1 : TI := { desc := .func, size := 1, bytes := 8, zero := [.nilFunc], eq := false }
def Tryd.ti2 : TI := { desc := .int .i64, size := 1, bytes := 8, zero := [.int .i64 0], eq := false }
def Tryd.ti3 : TI := { desc := .int .i64, size := 1, bytes := 8, zero := [.int .i64 0], eq := false }
def Tryd.ti4 : TI := { desc := .bool, size := 1, bytes := 1, zero := [.bool false], eq := false }
def Tryd.ti5 : TI := { desc := .int .u8, size := 1, bytes := 1, zero := [.int .u8 0], eq := false }
def Tryd.ti9 : TI := { desc := .string, size := 1, bytes := 16, zero := [.string ByteArray.empty], eq := false }
def Tryd.ti12 : TI := { desc := .int .u64, size := 1, bytes := 8, zero := [.int .u64 0], eq := false }
def Tryd.ti21 : TI := { desc := .int .i32, size := 1, bytes := 4, zero := [.int .i32 0], eq := false }
def Tryd.ti22 : TI := { desc := .func, size := 1, bytes := 8, zero := [.nilFunc], eq := false }
def Tryd.ti23 : TI := { desc := .func, size := 1, bytes := 8, zero := [.nilFunc], eq := false }
def Tryd.ti24 : TI := { desc := .func, size := 1, bytes := 8, zero := [.nilFunc], eq := false }
def Tryd.ti25 : TI := { desc := .func, size := 1, bytes := 8, zero := [.nilFunc], eq := false }
def Tryd.ti26 : TI := { desc := .func, size := 1, bytes := 8, zero := [.nilFunc], eq := false }
def Tryd.ti27 : TI := { desc := .int .i64, size := 1, bytes := 8, zero := [.int .i64 0], eq := false }
def Tryd.ti29 : TI := { desc := .func, size := 1, bytes := 8, zero := [.nilFunc], eq := false }
def Tryd.ti30 : TI := { desc := .func, size := 1, bytes := 8, zero := [.nilFunc], eq := false }
def Tryd.ti31 : TI := { desc := .slice 21, size := 1, bytes := 24, zero := [.slice none 0 0], eq := false }
def Tryd.ti32 : TI := { desc := .func, size := 1, bytes := 8, zero := [.nilFunc], eq := false }
def Tryd.ti34 : TI := { desc := .func, size := 1, bytes := 8, zero := [.nilFunc], eq := false }
def Tryd.ti35 : TI := { desc := .func, size := 1, bytes := 8, zero := [.nilFunc], eq := false }
def Tryd.ti37 : TI := { desc := .slice 5, size := 1, bytes := 24, zero := [.slice none 0 0], eq := false }
def Tryd.ti38 : TI := { desc := .struct [(0, 1, false), (1, 1, false)], size := 2, bytes := 32, zero := [.pointer none, .slice none 0 0], eq := false }
def Tryd.ti39 : TI := { desc := .struct [(0, 1, false), (1, 1, false)], size := 2, bytes := 32, zero := [.pointer none, .slice none 0 0], eq := false }
def Tryd.ti42 : TI := { desc := .func, size := 1, bytes := 8, zero := [.nilFunc], eq := false }
def Tryd.ti44 : TI := { desc := .func, size := 1, bytes := 8, zero := [.nilFunc], eq := false }
def Tryd.ti45 : TI := { desc := .func, size := 1, bytes := 8, zero := [.nilFunc], eq := false }
def Tryd.ti46 : TI := { desc := .func, size := 1, bytes := 8, zero := [.nilFunc], eq := false }
def Tryd.ti48 : TI := { desc := .func, size := 1, bytes := 8, zero := [.nilFunc], eq := false }
def Tryd.ti49 : TI := { desc := .func, size := 1, bytes := 8, zero := [.nilFunc], eq := false }
def Tryd.ti50 : TI := { desc := .func, size := 1, bytes := 8, zero := [.nilFunc], eq := false }
def Tryd.ti51 : TI := { desc := .func, size := 1, bytes := 8, zero := [.nilFunc], eq := false }
def Tryd.ti52 : TI := { desc := .func, size := 1, bytes := 8, zero := [.nilFunc], eq := false }
def Tryd.ti53 : TI := { desc := .func, size := 1, bytes := 8, zero := [.nilFunc], eq := false }
def Tryd.ti56 : TI := { desc := .func, size := 1, bytes := 8, zero := [.nilFunc], eq := false }
def Tryd.ti57 : TI := { desc := .func, size := 1, bytes := 8, zero := [.nilFunc], eq := false }
def Tryd.ti59 : TI := { desc := .func, size := 1, bytes := 8, zero := [.nilFunc], eq := false }
def Tryd.ti60 : TI := { desc := .func, size := 1, bytes := 8, zero := [.nilFunc], eq := false }
def Tryd.ti61 : TI := { desc := .int .u32, size := 1, bytes := 4, zero := [.int .u32 0], eq := false }
def Tryd.ti62 : TI := { desc := .array 24 5, size := 24, bytes := 24, zero := [.int .u8 0, .int .u8 0, .int .u8 0, .int .u8 0, .int .u8 0, .int .u8 0, .int .u8 0, .int .u8 0, .int .u8 0, .int .u8 0, .int .u8 0, .int .u8 0, .int .u8 0, .int .u8 0, .int .u8 0, .int .u8 0, .int .u8 0, .int .u8 0, .int .u8 0, .int .u8 0, .int .u8 0, .int .u8 0, .int .u8 0, .int .u8 0], eq := true }
def Tryd.ti63 : TI := { desc := .int .u64, size := 1, bytes := 8, zero := [.int .u64 0], eq := false }
def Tryd.ti64 : TI := { desc := .func, size := 1, bytes := 8, zero := [.nilFunc], eq := false }
def Tryd.ti65 : TI := { desc := .func, size := 1, bytes := 8, zero := [.nilFunc], eq := false }
def Tryd.ti67 : TI := { desc := .func, size := 1, bytes := 8, zero := [.nilFunc], eq := false }
def Tryd.ti68 : TI := { desc := .func, size := 1, bytes := 8, zero := [.nilFunc], eq := false }
def Tryd.ti70 : TI := { desc := .int .u64, size := 1, bytes := 8, zero := [.int .u64 0], eq := false }
def Tryd.ti71 : TI := { desc := .struct [(0, 1, false), (1, 1, false)], size := 2, bytes := 2, zero := [.int .u8 0, .int .u8 0], eq := true }
def Tryd.ti72 : TI := { desc := .struct [(0, 1, false), (1, 1, false)], size := 2, bytes := 2, zero := [.int .u8 0, .int .u8 0], eq := true }
def Tryd.ti73 : TI := { desc := .array 16 72, size := 32, bytes := 32, zero := [.int .u8 0, .int .u8 0, .int .u8 0, .int .u8 0, .int .u8 0, .int .u8 0, .int .u8 0, .int .u8 0, .int .u8 0, .int .u8 0, .int .u8 0, .int .u8 0, .int .u8 0, .int .u8 0, .int .u8 0, .int .u8 0, .int .u8 0, .int .u8 0, .int .u8 0, .int .u8 0, .int .u8 0, .int .u8 0, .int .u8 0, .int .u8 0, .int .u8 0, .int .u8 0, .int .u8 0, .int .u8 0, .int .u8 0, .int .u8 0, .int .u8 0, .int .u8 0], eq := false }
def Tryd.ti74 : TI := { desc := .func, size := 1, bytes := 8, zero := [.nilFunc], eq := false }
def Tryd.ti75 : TI := { desc := .func, size := 1, bytes := 8, zero := [.nilFunc], eq := false }
def Tryd.ti76 : TI := { desc := .array 20 63, size := 20, bytes := 160, zero := [.int .u64 0, .int .u64 0, .int .u64 0, .int .u64 0, .int .u64 0, .int .u64 0, .int .u64 0, .int .u64 0, .int .u64 0, .int .u64 0, .int .u64 0, .int .u64 0, .int .u64 0, .int .u64 0, .int .u64 0, .int .u64 0, .int .u64 0, .int .u64 0, .int .u64 0, .int .u64 0], eq := true }
def Tryd.ti77 : TI := { desc := .array 65 5, size := 65, bytes := 65, zero := [.int .u8 0, .int .u8 0, .int .u8 0, .int .u8 0, .int .u8 0, .int .u8 0, .int .u8 0, .int .u8 0, .int .u8 0, .int .u8 0, .int .u8 0, .int .u8 0, .int .u8 0, .int .u8 0, .int .u8 0, .int .u8 0, .int .u8 0, .int .u8 0, .int .u8 0, .int .u8 0, .int .u8 0, .int .u8 0, .int .u8 0, .int .u8 0, .int .u8 0, .int .u8 0, .int .u8 0, .int .u8 0, .int .u8 0, .int .u8 0, .int .u8 0, .int .u8 0, .int .u8 0, .int .u8 0, .int .u8 0, .int .u8 0, .int .u8 0, .int .u8 0, .int .u8 0, .int .u8 0, .int .u8 0, .int .u8 0, .int .u8 0, .int .u8 0, .int .u8 0, .int .u8 0, .int .u8 0, .int .u8 0, .int .u8 0, .int .u8 0, .int .u8 0, .int .u8 0, .int .u8 0, .int .u8 0, .int .u8 0, .int .u8 0, .int .u8 0, .int .u8 0, .int .u8 0, .int .u8 0, .int .u8 0, .int .u8 0, .int .u8 0, .int .u8 0, .int .u8 0], eq := true }
def Tryd.ti78 : TI := { desc := .func, size := 1, bytes := 8, zero := [.nilFunc], eq := false }
def Tryd.ti79 : TI := { desc := .func, size := 1, bytes := 8, zero := [.nilFunc], eq := false }
def Tryd.ti80 : TI := { desc := .array 32 5, size := 32, bytes := 32, zero := [.int .u8 0, .int .u8 0, .int .u8 0, .int .u8 0, .int .u8 0, .int .u8 0, .int .u8 0, .int .u8 0, .int .u8 0, .int .u8 0, .int .u8 0, .int .u8 0, .int .u8 0, .int .u8 0, .int .u8 0, .int .u8 0, .int .u8 0, .int .u8 0, .int .u8 0, .int .u8 0, .int .u8 0, .int .u8 0, .int .u8 0, .int .u8 0, .int .u8 0, .int .u8 0, .int .u8 0, .int .u8 0, .int .u8 0, .int .u8 0, .int .u8 0, .int .u8 0], eq := true }
def Tryd.ti81 : TI := { desc := .array 64 5, size := 64, bytes := 64, zero := [.int .u8 0, .int .u8 0, .int .u8 0, .int .u8 0, .int .u8 0, .int .u8 0, .int .u8 0, .int .u8 0, .int .u8 0, .int .u8 0, .int .u8 0, .int .u8 0, .int .u8 0, .int .u8 0, .int .u8 0, .int .u8 0, .int .u8 0, .int .u8 0, .int .u8 0, .int .u8 0, .int .u8 0, .int .u8 0, .int .u8 0, .int .u8 0, .int .u8 0, .int .u8 0, .int .u8 0, .int .u8 0, .int .u8 0, .int .u8 0, .int .u8 0, .int .u8 0, .int .u8 0, .int .u8 0, .int .u8 0, .int .u8 0, .int .u8 0, .int .u8 0, .int .u8 0, .int .u8 0, .int .u8 0, .int .u8 0, .int .u8 0, .int .u8 0, .int .u8 0, .int .u8 0, .int .u8 0, .int .u8 0, .int .u8 0, .int .u8 0, .int .u8 0, .int .u8 0, .int .u8 0, .int .u8 0, .int .u8 0, .int .u8 0, .int .u8 0, .int .u8 0, .int .u8 0, .int .u8 0, .int .u8 0, .int .u8 0, .int .u8 0, .int .u8 0], eq := true }
def Tryd.ti87 : TI := { desc := .func, size := 1, bytes := 8, zero := [.nilFunc], eq := false }
def Tryd.ti90 : TI := { desc := .func, size := 1, bytes := 8, zero := [.nilFunc], eq := false }
def Tryd.tyL : List (Nat × TI) := [(1, Tryd.ti1), (2, Tryd.ti2), (3, Tryd.ti3), (4, Tryd.ti4), (5, Tryd.ti5), (9, Tryd.ti9), (12, Tryd.ti12), (21, Tryd.ti21), (22, Tryd.ti22), (23, Tryd.ti23), (24, Tryd.ti24), (25, Tryd.ti25), (26, Tryd.ti26), (27, Tryd.ti27), (29, Tryd.ti29), (30, Tryd.ti30), (31, Tryd.ti31), (32, Tryd.ti32), (34, Tryd.ti34), (35, Tryd.ti35), (37, Tryd.ti37), (38, Tryd.ti38), (39, Tryd.ti39), (42, Tryd.ti42), (44, Tryd.ti44), (45, Tryd.ti45), (46, Tryd.ti46), (48, Tryd.ti48), (49, Tryd.ti49), (50, Tryd.ti50), (51, Tryd.ti51), (52, Tryd.ti52), (53, Tryd.ti53), (56, Tryd.ti56), (57, Tryd.ti57), (59, Tryd.ti59), (60, Tryd.ti60), (61, Tryd.ti61), (62, Tryd.ti62), (63, Tryd.ti63), (64, Tryd.ti64), (65, Tryd.ti65), (67, Tryd.ti67), (68, Tryd.ti68), (70, Tryd.ti70), (71, Tryd.ti71), (72, Tryd.ti72), (73, Tryd.ti73), (74, Tryd.ti74), (75, Tryd.ti75), (76, Tryd.ti76), (77, Tryd.ti77), (78, Tryd.ti78), (79, Tryd.ti79), (80, Tryd.ti80), (81, Tryd.ti81), (87, Tryd.ti87), (90, Tryd.ti90)]
def Tryd.ty : Tab := find Tryd.tyL
theorem Tryd.ty1 : Tryd.ty 1 = some Tryd.ti1 := rfl
theorem Tryd.ty2 : Tryd.ty 2 = some Tryd.ti2 := rfl
theorem Tryd.ty3 : Tryd.ty 3 = some Tryd.ti3 := rfl
theorem Tryd.ty4 : Tryd.ty 4 = some Tryd.ti4 := rfl
theorem Tryd.ty5 : Tryd.ty 5 = some Tryd.ti5 := rfl
theorem Tryd.ty9 : Tryd.ty 9 = some Tryd.ti9 := rfl
theorem Tryd.ty12 : Tryd.ty 12 = some Tryd.ti12 := rfl
theorem Tryd.ty21 : Tryd.ty 21 = some Tryd.ti21 := rfl
theorem Tryd.ty22 : Tryd.ty 22 = some Tryd.ti22 := rfl
theorem Tryd.ty23 : Tryd.ty 23 = some Tryd.ti23 := rfl
theorem Tryd.ty24 : Tryd.ty 24 = some Tryd.ti24 := rfl
theorem Tryd.ty25 : Tryd.ty 25 = some Tryd.ti25 := rfl
theorem Tryd.ty26 : Tryd.ty 26 = some Tryd.ti26 := rfl
theorem Tryd.ty27 : Tryd.ty 27 = some Tryd.ti27 := rfl
theorem Tryd.ty29 : Tryd.ty 29 = some Tryd.ti29 := rfl
theorem Tryd.ty30 : Tryd.ty 30 = some Tryd.ti30 := rfl
theorem Tryd.ty31 : Tryd.ty 31 = some Tryd.ti31 := rfl
theorem Tryd.ty32 : Tryd.ty 32 = some Tryd.ti32 := rfl
theorem Tryd.ty34 : Tryd.ty 34 = some Tryd.ti34 := rfl
theorem Tryd.ty35 : Tryd.ty 35 = some Tryd.ti35 := rfl
theorem Tryd.ty37 : Tryd.ty 37 = some Tryd.ti37 := rfl
theorem Tryd.ty38 : Tryd.ty 38 = some Tryd.ti38 := rfl
theorem Tryd.ty39 : Tryd.ty 39 = some Tryd.ti39 := rfl
theorem Tryd.ty42 : Tryd.ty 42 = some Tryd.ti42 := rfl
theorem Tryd.ty44 : Tryd.ty 44 = some Tryd.ti44 := rfl
theorem Tryd.ty45 : Tryd.ty 45 = some Tryd.ti45 := rfl
theorem Tryd.ty46 : Tryd.ty 46 = some Tryd.ti46 := rfl
theorem Tryd.ty48 : Tryd.ty 48 = some Tryd.ti48 := rfl
theorem Tryd.ty49 : Tryd.ty 49 = some Tryd.ti49 := rfl
theorem Tryd.ty50 : Tryd.ty 50 = some Tryd.ti50 := rfl
theorem Tryd.ty51 : Tryd.ty 51 = some Tryd.ti51 := rfl
theorem Tryd.ty52 : Tryd.ty 52 = some Tryd.ti52 := rfl
theorem Tryd.ty53 : Tryd.ty 53 = some Tryd.ti53 := rfl
theorem Tryd.ty56 : Tryd.ty 56 = some Tryd.ti56 := rfl
theorem Tryd.ty57 : Tryd.ty 57 = some Tryd.ti57 := rfl
theorem Tryd.ty59 : Tryd.ty 59 = some Tryd.ti59 := rfl
theorem Tryd.ty60 : Tryd.ty 60 = some Tryd.ti60 := rfl
theorem Tryd.ty61 : Tryd.ty 61 = some Tryd.ti61 := rfl
theorem Tryd.ty62 : Tryd.ty 62 = some Tryd.ti62 := rfl
theorem Tryd.ty63 : Tryd.ty 63 = some Tryd.ti63 := rfl
theorem Tryd.ty64 : Tryd.ty 64 = some Tryd.ti64 := rfl
theorem Tryd.ty65 : Tryd.ty 65 = some Tryd.ti65 := rfl
theorem Tryd.ty67 : Tryd.ty 67 = some Tryd.ti67 := rfl
theorem Tryd.ty68 : Tryd.ty 68 = some Tryd.ti68 := rfl
theorem Tryd.ty70 : Tryd.ty 70 = some Tryd.ti70 := rfl
theorem Tryd.ty71 : Tryd.ty 71 = some Tryd.ti71 := rfl
theorem Tryd.ty72 : Tryd.ty 72 = some Tryd.ti72 := rfl
theorem Tryd.ty73 : Tryd.ty 73 = some Tryd.ti73 := rfl
theorem Tryd.ty74 : Tryd.ty 74 = some Tryd.ti74 := rfl
theorem Tryd.ty75 : Tryd.ty 75 = some Tryd.ti75 := rfl
theorem Tryd.ty76 : Tryd.ty 76 = some Tryd.ti76 := rfl
theorem Tryd.ty77 : Tryd.ty 77 = some Tryd.ti77 := rfl
theorem Tryd.ty78 : Tryd.ty 78 = some Tryd.ti78 := rfl
theorem Tryd.ty79 : Tryd.ty 79 = some Tryd.ti79 := rfl
theorem Tryd.ty80 : Tryd.ty 80 = some Tryd.ti80 := rfl
theorem Tryd.ty81 : Tryd.ty 81 = some Tryd.ti81 := rfl
theorem Tryd.ty87 : Tryd.ty 87 = some Tryd.ti87 := rfl
theorem Tryd.ty90 : Tryd.ty 90 = some Tryd.ti90 := rfl
theorem Tryd.tiok1 : TIok Tryd.prog 1 Tryd.ti1 := ⟨by kernel_rfl, (by show funcB Tryd.prog 1 = some true; kernel_rfl), by kernel_rfl, by kernel_rfl, by kernel_rfl⟩
theorem Tryd.tiok2 : TIok Tryd.prog 2 Tryd.ti2 := ⟨by kernel_rfl, (by show Tryd.prog.underlying 2 = some (.int .i64); kernel_rfl), by kernel_rfl, by kernel_rfl, by kernel_rfl⟩
theorem Tryd.tiok3 : TIok Tryd.prog 3 Tryd.ti3 := ⟨by kernel_rfl, (by show Tryd.prog.underlying 3 = some (.int .i64); kernel_rfl), by kernel_rfl, by kernel_rfl, by kernel_rfl⟩
theorem Tryd.tiok4 : TIok Tryd.prog 4 Tryd.ti4 := ⟨by kernel_rfl, (by show Tryd.prog.underlying 4 = some (.bool); kernel_rfl), by kernel_rfl, by kernel_rfl, by kernel_rfl⟩
theorem Tryd.tiok5 : TIok Tryd.prog 5 Tryd.ti5 := ⟨by kernel_rfl, (by show Tryd.prog.underlying 5 = some (.int .u8); kernel_rfl), by kernel_rfl, by kernel_rfl, by kernel_rfl⟩
theorem Tryd.tiok9 : TIok Tryd.prog 9 Tryd.ti9 := ⟨by kernel_rfl, (by show Tryd.prog.underlying 9 = some (.string); kernel_rfl), by kernel_rfl, by kernel_rfl, by kernel_rfl⟩
theorem Tryd.tiok12 : TIok Tryd.prog 12 Tryd.ti12 := ⟨by kernel_rfl, (by show Tryd.prog.underlying 12 = some (.int .u64); kernel_rfl), by kernel_rfl, by kernel_rfl, by kernel_rfl⟩
theorem Tryd.tiok21 : TIok Tryd.prog 21 Tryd.ti21 := ⟨by kernel_rfl, (by show Tryd.prog.underlying 21 = some (.int .i32); kernel_rfl), by kernel_rfl, by kernel_rfl, by kernel_rfl⟩
theorem Tryd.tiok22 : TIok Tryd.prog 22 Tryd.ti22 := ⟨by kernel_rfl, (by show funcB Tryd.prog 22 = some true; kernel_rfl), by kernel_rfl, by kernel_rfl, by kernel_rfl⟩
theorem Tryd.tiok23 : TIok Tryd.prog 23 Tryd.ti23 := ⟨by kernel_rfl, (by show funcB Tryd.prog 23 = some true; kernel_rfl), by kernel_rfl, by kernel_rfl, by kernel_rfl⟩
theorem Tryd.tiok24 : TIok Tryd.prog 24 Tryd.ti24 := ⟨by kernel_rfl, (by show funcB Tryd.prog 24 = some true; kernel_rfl), by kernel_rfl, by kernel_rfl, by kernel_rfl⟩
theorem Tryd.tiok25 : TIok Tryd.prog 25 Tryd.ti25 := ⟨by kernel_rfl, (by show funcB Tryd.prog 25 = some true; kernel_rfl), by kernel_rfl, by kernel_rfl, by kernel_rfl⟩
theorem Tryd.tiok26 : TIok Tryd.prog 26 Tryd.ti26 := ⟨by kernel_rfl, (by show funcB Tryd.prog 26 = some true; kernel_rfl), by kernel_rfl, by kernel_rfl, by kernel_rfl⟩
theorem Tryd.tiok27 : TIok Tryd.prog 27 Tryd.ti27 := ⟨by kernel_rfl, (by show Tryd.prog.underlying 27 = some (.int .i64); kernel_rfl), by kernel_rfl, by kernel_rfl, by kernel_rfl⟩
theorem Tryd.tiok29 : TIok Tryd.prog 29 Tryd.ti29 := ⟨by kernel_rfl, (by show funcB Tryd.prog 29 = some true; kernel_rfl), by kernel_rfl, by kernel_rfl, by kernel_rfl⟩
theorem Tryd.tiok30 : TIok Tryd.prog 30 Tryd.ti30 := ⟨by kernel_rfl, (by show funcB Tryd.prog 30 = some true; kernel_rfl), by kernel_rfl, by kernel_rfl, by kernel_rfl⟩
theorem Tryd.tiok31 : TIok Tryd.prog 31 Tryd.ti31 := ⟨by kernel_rfl, (by show Tryd.prog.underlying 31 = some (.slice 21); kernel_rfl), by kernel_rfl, by kernel_rfl, by kernel_rfl⟩
theorem Tryd.tiok32 : TIok Tryd.prog 32 Tryd.ti32 := ⟨by kernel_rfl, (by show funcB Tryd.prog 32 = some true; kernel_rfl), by kernel_rfl, by kernel_rfl, by kernel_rfl⟩
theorem Tryd.tiok34 : TIok Tryd.prog 34 Tryd.ti34 := ⟨by kernel_rfl, (by show funcB Tryd.prog 34 = some true; kernel_rfl), by kernel_rfl, by kernel_rfl, by kernel_rfl⟩
theorem Tryd.tiok35 : TIok Tryd.prog 35 Tryd.ti35 := ⟨by kernel_rfl, (by show funcB Tryd.prog 35 = some true; kernel_rfl), by kernel_rfl, by kernel_rfl, by kernel_rfl⟩
theorem Tryd.tiok37 : TIok Tryd.prog 37 Tryd.ti37 := ⟨by kernel_rfl, (by show Tryd.prog.underlying 37 = some (.slice 5); kernel_rfl), by kernel_rfl, by kernel_rfl, by kernel_rfl⟩
theorem Tryd.tiok38 : TIok Tryd.prog 38 Tryd.ti38 := ⟨by kernel_rfl, (by show structFs Tryd.prog 38 = some (some [(0, 1, false), (1, 1, false)]); kernel_rfl), by kernel_rfl, by kernel_rfl, by kernel_rfl⟩
theorem Tryd.tiok39 : TIok Tryd.prog 39 Tryd.ti39 := ⟨by kernel_rfl, (by show structFs Tryd.prog 39 = some (some [(0, 1, false), (1, 1, false)]); kernel_rfl), by kernel_rfl, by kernel_rfl, by kernel_rfl⟩
theorem Tryd.tiok42 : TIok Tryd.prog 42 Tryd.ti42 := ⟨by kernel_rfl, (by show funcB Tryd.prog 42 = some true; kernel_rfl), by kernel_rfl, by kernel_rfl, by kernel_rfl⟩
theorem Tryd.tiok44 : TIok Tryd.prog 44 Tryd.ti44 := ⟨by kernel_rfl, (by show funcB Tryd.prog 44 = some true; kernel_rfl), by kernel_rfl, by kernel_rfl, by kernel_rfl⟩
theorem Tryd.tiok45 : TIok Tryd.prog 45 Tryd.ti45 := ⟨by kernel_rfl, (by show funcB Tryd.prog 45 = some true; kernel_rfl), by kernel_rfl, by kernel_rfl, by kernel_rfl⟩
theorem Tryd.tiok46 : TIok Tryd.prog 46 Tryd.ti46 := ⟨by kernel_rfl, (by show funcB Tryd.prog 46 = some true; kernel_rfl), by kernel_rfl, by kernel_rfl, by kernel_rfl⟩
theorem Tryd.tiok48 : TIok Tryd.prog 48 Tryd.ti48 := ⟨by kernel_rfl, (by show funcB Tryd.prog 48 = some true; kernel_rfl), by kernel_rfl, by kernel_rfl, by kernel_rfl⟩
theorem Tryd.tiok49 : TIok Tryd.prog 49 Tryd.ti49 := ⟨by kernel_rfl, (by show funcB Tryd.prog 49 = some true; kernel_rfl), by kernel_rfl, by kernel_rfl, by kernel_rfl⟩
theorem Tryd.tiok50 : TIok Tryd.prog 50 Tryd.ti50 := ⟨by kernel_rfl, (by show funcB Tryd.prog 50 = some true; kernel_rfl), by kernel_rfl, by kernel_rfl, by kernel_rfl⟩
theorem Tryd.tiok51 : TIok Tryd.prog 51 Tryd.ti51 := ⟨by kernel_rfl, (by show funcB Tryd.prog 51 = some true; kernel_rfl), by kernel_rfl, by kernel_rfl, by kernel_rfl⟩
theorem Tryd.tiok52 : TIok Tryd.prog 52 Tryd.ti52 := ⟨by kernel_rfl, (by show funcB Tryd.prog 52 = some true; kernel_rfl), by kernel_rfl, by kernel_rfl, by kernel_rfl⟩
theorem Tryd.tiok53 : TIok Tryd.prog 53 Tryd.ti53 := ⟨by kernel_rfl, (by show funcB Tryd.prog 53 = some true; kernel_rfl), by kernel_rfl, by kernel_rfl, by kernel_rfl⟩
theorem Tryd.tiok56 : TIok Tryd.prog 56 Tryd.ti56 := ⟨by kernel_rfl, (by show funcB Tryd.prog 56 = some true; kernel_rfl), by kernel_rfl, by kernel_rfl, by kernel_rfl⟩
theorem Tryd.tiok57 : TIok Tryd.prog 57 Tryd.ti57 := ⟨by kernel_rfl, (by show funcB Tryd.prog 57 = some true; kernel_rfl), by kernel_rfl, by kernel_rfl, by kernel_rfl⟩
theorem Tryd.tiok59 : TIok Tryd.prog 59 Tryd.ti59 := ⟨by kernel_rfl, (by show funcB Tryd.prog 59 = some true; kernel_rfl), by kernel_rfl, by kernel_rfl, by kernel_rfl⟩
theorem Tryd.tiok60 : TIok Tryd.prog 60 Tryd.ti60 := ⟨by kernel_rfl, (by show funcB Tryd.prog 60 = some true; kernel_rfl), by kernel_rfl, by kernel_rfl, by kernel_rfl⟩
theorem Tryd.tiok61 : TIok Tryd.prog 61 Tryd.ti61 := ⟨by kernel_rfl, (by show Tryd.prog.underlying 61 = some (.int .u32); kernel_rfl), by kernel_rfl, by kernel_rfl, by kernel_rfl⟩
theorem Tryd.tiok62 : TIok Tryd.prog 62 Tryd.ti62 := ⟨by kernel_rfl, (by show Tryd.prog.underlying 62 = some (.array 24 5); kernel_rfl), by kernel_rfl, by kernel_rfl, by kernel_rfl⟩
theorem Tryd.tiok63 : TIok Tryd.prog 63 Tryd.ti63 := ⟨by kernel_rfl, (by show Tryd.prog.underlying 63 = some (.int .u64); kernel_rfl), by kernel_rfl, by kernel_rfl, by kernel_rfl⟩
theorem Tryd.tiok64 : TIok Tryd.prog 64 Tryd.ti64 := ⟨by kernel_rfl, (by show funcB Tryd.prog 64 = some true; kernel_rfl), by kernel_rfl, by kernel_rfl, by kernel_rfl⟩
theorem Tryd.tiok65 : TIok Tryd.prog 65 Tryd.ti65 := ⟨by kernel_rfl, (by show funcB Tryd.prog 65 = some true; kernel_rfl), by kernel_rfl, by kernel_rfl, by kernel_rfl⟩
theorem Tryd.tiok67 : TIok Tryd.prog 67 Tryd.ti67 := ⟨by kernel_rfl, (by show funcB Tryd.prog 67 = some true; kernel_rfl), by kernel_rfl, by kernel_rfl, by kernel_rfl⟩
theorem Tryd.tiok68 : TIok Tryd.prog 68 Tryd.ti68 := ⟨by kernel_rfl, (by show funcB Tryd.prog 68 = some true; kernel_rfl), by kernel_rfl, by kernel_rfl, by kernel_rfl⟩
theorem Tryd.tiok70 : TIok Tryd.prog 70 Tryd.ti70 := ⟨by kernel_rfl, (by show Tryd.prog.underlying 70 = some (.int .u64); kernel_rfl), by kernel_rfl, by kernel_rfl, by kernel_rfl⟩
theorem Tryd.tiok71 : TIok Tryd.prog 71 Tryd.ti71 := ⟨by kernel_rfl, (by show structFs Tryd.prog 71 = some (some [(0, 1, false), (1, 1, false)]); kernel_rfl), by kernel_rfl, by kernel_rfl, by kernel_rfl⟩
theorem Tryd.tiok72 : TIok Tryd.prog 72 Tryd.ti72 := ⟨by kernel_rfl, (by show structFs Tryd.prog 72 = some (some [(0, 1, false), (1, 1, false)]); kernel_rfl), by kernel_rfl, by kernel_rfl, by kernel_rfl⟩
theorem Tryd.tiok73 : TIok Tryd.prog 73 Tryd.ti73 := ⟨by kernel_rfl, (by show Tryd.prog.underlying 73 = some (.array 16 72); kernel_rfl), by kernel_rfl, by kernel_rfl, by kernel_rfl⟩
theorem Tryd.tiok74 : TIok Tryd.prog 74 Tryd.ti74 := ⟨by kernel_rfl, (by show funcB Tryd.prog 74 = some true; kernel_rfl), by kernel_rfl, by kernel_rfl, by kernel_rfl⟩
theorem Tryd.tiok75 : TIok Tryd.prog 75 Tryd.ti75 := ⟨by kernel_rfl, (by show funcB Tryd.prog 75 = some true; kernel_rfl), by kernel_rfl, by kernel_rfl, by kernel_rfl⟩
theorem Tryd.tiok76 : TIok Tryd.prog 76 Tryd.ti76 := ⟨by kernel_rfl, (by show Tryd.prog.underlying 76 = some (.array 20 63); kernel_rfl), by kernel_rfl, by kernel_rfl, by kernel_rfl⟩
theorem Tryd.tiok77 : TIok Tryd.prog 77 Tryd.ti77 := ⟨by kernel_rfl, (by show Tryd.prog.underlying 77 = some (.array 65 5); kernel_rfl), by kernel_rfl, by kernel_rfl, by kernel_rfl⟩
theorem Tryd.tiok78 : TIok Tryd.prog 78 Tryd.ti78 := ⟨by kernel_rfl, (by show funcB Tryd.prog 78 = some true; kernel_rfl), by kernel_rfl, by kernel_rfl, by kernel_rfl⟩
theorem Tryd.tiok79 : TIok Tryd.prog 79 Tryd.ti79 := ⟨by kernel_rfl, (by show funcB Tryd.prog 79 = some true; kernel_rfl), by kernel_rfl, by kernel_rfl, by kernel_rfl⟩
theorem Tryd.tiok80 : TIok Tryd.prog 80 Tryd.ti80 := ⟨by kernel_rfl, (by show Tryd.prog.underlying 80 = some (.array 32 5); kernel_rfl), by kernel_rfl, by kernel_rfl, by kernel_rfl⟩
theorem Tryd.tiok81 : TIok Tryd.prog 81 Tryd.ti81 := ⟨by kernel_rfl, (by show Tryd.prog.underlying 81 = some (.array 64 5); kernel_rfl), by kernel_rfl, by kernel_rfl, by kernel_rfl⟩
theorem Tryd.tiok87 : TIok Tryd.prog 87 Tryd.ti87 := ⟨by kernel_rfl, (by show funcB Tryd.prog 87 = some true; kernel_rfl), by kernel_rfl, by kernel_rfl, by kernel_rfl⟩
theorem Tryd.tiok90 : TIok Tryd.prog 90 Tryd.ti90 := ⟨by kernel_rfl, (by show funcB Tryd.prog 90 = some true; kernel_rfl), by kernel_rfl, by kernel_rfl, by kernel_rfl⟩
theorem Tryd.tyOk : TabOk Tryd.prog Tryd.ty := tabOk_of ⟨Tryd.tiok1, Tryd.tiok2, Tryd.tiok3, Tryd.tiok4, Tryd.tiok5, Tryd.tiok9, Tryd.tiok12, Tryd.tiok21, Tryd.tiok22, Tryd.tiok23, Tryd.tiok24, Tryd.tiok25, Tryd.tiok26, Tryd.tiok27, Tryd.tiok29, Tryd.tiok30, Tryd.tiok31, Tryd.tiok32, Tryd.tiok34, Tryd.tiok35, Tryd.tiok37, Tryd.tiok38, Tryd.tiok39, Tryd.tiok42, Tryd.tiok44, Tryd.tiok45, Tryd.tiok46, Tryd.tiok48, Tryd.tiok49, Tryd.tiok50, Tryd.tiok51, Tryd.tiok52, Tryd.tiok53, Tryd.tiok56, Tryd.tiok57, Tryd.tiok59, Tryd.tiok60, Tryd.tiok61, Tryd.tiok62, Tryd.tiok63, Tryd.tiok64, Tryd.tiok65, Tryd.tiok67, Tryd.tiok68, Tryd.tiok70, Tryd.tiok71, Tryd.tiok72, Tryd.tiok73, Tryd.tiok74, Tryd.tiok75, Tryd.tiok76, Tryd.tiok77, Tryd.tiok78, Tryd.tiok79, Tryd.tiok80, Tryd.tiok81, Tryd.tiok87, Tryd.tiok90, trivial⟩
attribute [go_sem] Tryd.ty1 Tryd.ti1 Tryd.ty2 Tryd.ti2 Tryd.ty3 Tryd.ti3 Tryd.ty4 Tryd.ti4 Tryd.ty5 Tryd.ti5 Tryd.ty9 Tryd.ti9 Tryd.ty12 Tryd.ti12 Tryd.ty21 Tryd.ti21 Tryd.ty22 Tryd.ti22 Tryd.ty23 Tryd.ti23 Tryd.ty24 Tryd.ti24 Tryd.ty25 Tryd.ti25 Tryd.ty26 Tryd.ti26 Tryd.ty27 Tryd.ti27 Tryd.ty29 Tryd.ti29 Tryd.ty30 Tryd.ti30 Tryd.ty31 Tryd.ti31 Tryd.ty32 Tryd.ti32 Tryd.ty34 Tryd.ti34 Tryd.ty35 Tryd.ti35 Tryd.ty37 Tryd.ti37 Tryd.ty38 Tryd.ti38 Tryd.ty39 Tryd.ti39 Tryd.ty42 Tryd.ti42 Tryd.ty44 Tryd.ti44 Tryd.ty45 Tryd.ti45 Tryd.ty46 Tryd.ti46 Tryd.ty48 Tryd.ti48 Tryd.ty49 Tryd.ti49 Tryd.ty50 Tryd.ti50 Tryd.ty51 Tryd.ti51 Tryd.ty52 Tryd.ti52 Tryd.ty53 Tryd.ti53 Tryd.ty56 Tryd.ti56 Tryd.ty57 Tryd.ti57 Tryd.ty59 Tryd.ti59 Tryd.ty60 Tryd.ti60 Tryd.ty61 Tryd.ti61 Tryd.ty62 Tryd.ti62 Tryd.ty63 Tryd.ti63 Tryd.ty64 Tryd.ti64 Tryd.ty65 Tryd.ti65 Tryd.ty67 Tryd.ti67 Tryd.ty68 Tryd.ti68 Tryd.ty70 Tryd.ti70 Tryd.ty71 Tryd.ti71 Tryd.ty72 Tryd.ti72 Tryd.ty73 Tryd.ti73 Tryd.ty74 Tryd.ti74 Tryd.ty75 Tryd.ti75 Tryd.ty76 Tryd.ti76 Tryd.ty77 Tryd.ti77 Tryd.ty78 Tryd.ti78 Tryd.ty79 Tryd.ti79 Tryd.ty80 Tryd.ti80 Tryd.ty81 Tryd.ti81 Tryd.ty87 Tryd.ti87 Tryd.ty90 Tryd.ti90
end Go.Proofs
