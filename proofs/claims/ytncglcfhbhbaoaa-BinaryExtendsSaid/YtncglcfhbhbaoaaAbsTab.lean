/-
  The types of this translation as the calculus reads them. Written by a program.
-/
import Derived.Test.YtncglcfhbhbaoaaAbsU
import Derived.Test.YtncglcfhbhbaoaaProg
import Derived.KernelRfl
namespace Go.Proofs
open Go.Abs

def Try.ti1 : TI := { desc := .func, size := 1, bytes := 8, zero := [.nilFunc], eq := false }
def Try.ti2 : TI := { desc := .int .i64, size := 1, bytes := 8, zero := [.int .i64 0], eq := false }
def Try.ti3 : TI := { desc := .int .i64, size := 1, bytes := 8, zero := [.int .i64 0], eq := false }
def Try.ti4 : TI := { desc := .bool, size := 1, bytes := 1, zero := [.bool false], eq := false }
def Try.ti5 : TI := { desc := .int .u8, size := 1, bytes := 1, zero := [.int .u8 0], eq := false }
def Try.ti9 : TI := { desc := .string, size := 1, bytes := 16, zero := [.string ByteArray.empty], eq := false }
def Try.ti12 : TI := { desc := .int .u64, size := 1, bytes := 8, zero := [.int .u64 0], eq := false }
def Try.ti21 : TI := { desc := .int .i32, size := 1, bytes := 4, zero := [.int .i32 0], eq := false }
def Try.ti22 : TI := { desc := .int .i64, size := 1, bytes := 8, zero := [.int .i64 0], eq := false }
def Try.ti23 : TI := { desc := .int .i64, size := 1, bytes := 8, zero := [.int .i64 0], eq := false }
def Try.ti25 : TI := { desc := .func, size := 1, bytes := 8, zero := [.nilFunc], eq := false }
def Try.ti26 : TI := { desc := .func, size := 1, bytes := 8, zero := [.nilFunc], eq := false }
def Try.ti27 : TI := { desc := .func, size := 1, bytes := 8, zero := [.nilFunc], eq := false }
def Try.ti28 : TI := { desc := .func, size := 1, bytes := 8, zero := [.nilFunc], eq := false }
def Try.ti29 : TI := { desc := .int .i64, size := 1, bytes := 8, zero := [.int .i64 0], eq := false }
def Try.ti30 : TI := { desc := .slice 3, size := 1, bytes := 24, zero := [.slice none 0 0], eq := false }
def Try.ti31 : TI := { desc := .slice 33, size := 1, bytes := 24, zero := [.slice none 0 0], eq := false }
def Try.ti32 : TI := { desc := .struct [(0, 1, false), (1, 1, false), (2, 1, false), (3, 1, false)], size := 4, bytes := 80, zero := [.int .i64 0, .slice none 0 0, .slice none 0 0, .slice none 0 0], eq := false }
def Try.ti33 : TI := { desc := .struct [(0, 1, false), (1, 1, false), (2, 1, false), (3, 1, false)], size := 4, bytes := 80, zero := [.int .i64 0, .slice none 0 0, .slice none 0 0, .slice none 0 0], eq := false }
def Try.ti34 : TI := { desc := .func, size := 1, bytes := 8, zero := [.nilFunc], eq := false }
def Try.ti36 : TI := { desc := .func, size := 1, bytes := 8, zero := [.nilFunc], eq := false }
def Try.ti37 : TI := { desc := .func, size := 1, bytes := 8, zero := [.nilFunc], eq := false }
def Try.ti38 : TI := { desc := .func, size := 1, bytes := 8, zero := [.nilFunc], eq := false }
def Try.ti39 : TI := { desc := .func, size := 1, bytes := 8, zero := [.nilFunc], eq := false }
def Try.ti40 : TI := { desc := .func, size := 1, bytes := 8, zero := [.nilFunc], eq := false }
def Try.ti41 : TI := { desc := .func, size := 1, bytes := 8, zero := [.nilFunc], eq := false }
def Try.ti42 : TI := { desc := .func, size := 1, bytes := 8, zero := [.nilFunc], eq := false }
def Try.ti43 : TI := { desc := .func, size := 1, bytes := 8, zero := [.nilFunc], eq := false }
def Try.ti44 : TI := { desc := .func, size := 1, bytes := 8, zero := [.nilFunc], eq := false }
def Try.ti45 : TI := { desc := .func, size := 1, bytes := 8, zero := [.nilFunc], eq := false }
def Try.ti46 : TI := { desc := .func, size := 1, bytes := 8, zero := [.nilFunc], eq := false }
def Try.ti47 : TI := { desc := .func, size := 1, bytes := 8, zero := [.nilFunc], eq := false }
def Try.ti49 : TI := { desc := .func, size := 1, bytes := 8, zero := [.nilFunc], eq := false }
def Try.ti50 : TI := { desc := .func, size := 1, bytes := 8, zero := [.nilFunc], eq := false }
def Try.ti51 : TI := { desc := .func, size := 1, bytes := 8, zero := [.nilFunc], eq := false }
def Try.ti52 : TI := { desc := .func, size := 1, bytes := 8, zero := [.nilFunc], eq := false }
def Try.ti53 : TI := { desc := .func, size := 1, bytes := 8, zero := [.nilFunc], eq := false }
def Try.ti54 : TI := { desc := .func, size := 1, bytes := 8, zero := [.nilFunc], eq := false }
def Try.ti56 : TI := { desc := .func, size := 1, bytes := 8, zero := [.nilFunc], eq := false }
def Try.ti57 : TI := { desc := .func, size := 1, bytes := 8, zero := [.nilFunc], eq := false }
def Try.ti58 : TI := { desc := .func, size := 1, bytes := 8, zero := [.nilFunc], eq := false }
def Try.ti59 : TI := { desc := .func, size := 1, bytes := 8, zero := [.nilFunc], eq := false }
def Try.ti60 : TI := { desc := .func, size := 1, bytes := 8, zero := [.nilFunc], eq := false }
def Try.ti61 : TI := { desc := .func, size := 1, bytes := 8, zero := [.nilFunc], eq := false }
def Try.ti63 : TI := { desc := .func, size := 1, bytes := 8, zero := [.nilFunc], eq := false }
def Try.ti64 : TI := { desc := .func, size := 1, bytes := 8, zero := [.nilFunc], eq := false }
def Try.ti65 : TI := { desc := .func, size := 1, bytes := 8, zero := [.nilFunc], eq := false }
def Try.ti66 : TI := { desc := .func, size := 1, bytes := 8, zero := [.nilFunc], eq := false }
def Try.ti67 : TI := { desc := .func, size := 1, bytes := 8, zero := [.nilFunc], eq := false }
def Try.ti69 : TI := { desc := .func, size := 1, bytes := 8, zero := [.nilFunc], eq := false }
def Try.ti70 : TI := { desc := .func, size := 1, bytes := 8, zero := [.nilFunc], eq := false }
def Try.ti71 : TI := { desc := .func, size := 1, bytes := 8, zero := [.nilFunc], eq := false }
def Try.ti72 : TI := { desc := .func, size := 1, bytes := 8, zero := [.nilFunc], eq := false }
def Try.ti73 : TI := { desc := .func, size := 1, bytes := 8, zero := [.nilFunc], eq := false }
def Try.ti74 : TI := { desc := .func, size := 1, bytes := 8, zero := [.nilFunc], eq := false }
def Try.ti80 : TI := { desc := .func, size := 1, bytes := 8, zero := [.nilFunc], eq := false }
def Try.ti81 : TI := { desc := .int .u32, size := 1, bytes := 4, zero := [.int .u32 0], eq := false }
def Try.ti84 : TI := { desc := .func, size := 1, bytes := 8, zero := [.nilFunc], eq := false }
def Try.tyL : List (Nat × TI) := [(1, Try.ti1), (2, Try.ti2), (3, Try.ti3), (4, Try.ti4), (5, Try.ti5), (9, Try.ti9), (12, Try.ti12), (21, Try.ti21), (22, Try.ti22), (23, Try.ti23), (25, Try.ti25), (26, Try.ti26), (27, Try.ti27), (28, Try.ti28), (29, Try.ti29), (30, Try.ti30), (31, Try.ti31), (32, Try.ti32), (33, Try.ti33), (34, Try.ti34), (36, Try.ti36), (37, Try.ti37), (38, Try.ti38), (39, Try.ti39), (40, Try.ti40), (41, Try.ti41), (42, Try.ti42), (43, Try.ti43), (44, Try.ti44), (45, Try.ti45), (46, Try.ti46), (47, Try.ti47), (49, Try.ti49), (50, Try.ti50), (51, Try.ti51), (52, Try.ti52), (53, Try.ti53), (54, Try.ti54), (56, Try.ti56), (57, Try.ti57), (58, Try.ti58), (59, Try.ti59), (60, Try.ti60), (61, Try.ti61), (63, Try.ti63), (64, Try.ti64), (65, Try.ti65), (66, Try.ti66), (67, Try.ti67), (69, Try.ti69), (70, Try.ti70), (71, Try.ti71), (72, Try.ti72), (73, Try.ti73), (74, Try.ti74), (80, Try.ti80), (81, Try.ti81), (84, Try.ti84)]
def Try.ty : Tab := find Try.tyL
theorem Try.ty1 : Try.ty 1 = some Try.ti1 := rfl
theorem Try.ty2 : Try.ty 2 = some Try.ti2 := rfl
theorem Try.ty3 : Try.ty 3 = some Try.ti3 := rfl
theorem Try.ty4 : Try.ty 4 = some Try.ti4 := rfl
theorem Try.ty5 : Try.ty 5 = some Try.ti5 := rfl
theorem Try.ty9 : Try.ty 9 = some Try.ti9 := rfl
theorem Try.ty12 : Try.ty 12 = some Try.ti12 := rfl
theorem Try.ty21 : Try.ty 21 = some Try.ti21 := rfl
theorem Try.ty22 : Try.ty 22 = some Try.ti22 := rfl
theorem Try.ty23 : Try.ty 23 = some Try.ti23 := rfl
theorem Try.ty25 : Try.ty 25 = some Try.ti25 := rfl
theorem Try.ty26 : Try.ty 26 = some Try.ti26 := rfl
theorem Try.ty27 : Try.ty 27 = some Try.ti27 := rfl
theorem Try.ty28 : Try.ty 28 = some Try.ti28 := rfl
theorem Try.ty29 : Try.ty 29 = some Try.ti29 := rfl
theorem Try.ty30 : Try.ty 30 = some Try.ti30 := rfl
theorem Try.ty31 : Try.ty 31 = some Try.ti31 := rfl
theorem Try.ty32 : Try.ty 32 = some Try.ti32 := rfl
theorem Try.ty33 : Try.ty 33 = some Try.ti33 := rfl
theorem Try.ty34 : Try.ty 34 = some Try.ti34 := rfl
theorem Try.ty36 : Try.ty 36 = some Try.ti36 := rfl
theorem Try.ty37 : Try.ty 37 = some Try.ti37 := rfl
theorem Try.ty38 : Try.ty 38 = some Try.ti38 := rfl
theorem Try.ty39 : Try.ty 39 = some Try.ti39 := rfl
theorem Try.ty40 : Try.ty 40 = some Try.ti40 := rfl
theorem Try.ty41 : Try.ty 41 = some Try.ti41 := rfl
theorem Try.ty42 : Try.ty 42 = some Try.ti42 := rfl
theorem Try.ty43 : Try.ty 43 = some Try.ti43 := rfl
theorem Try.ty44 : Try.ty 44 = some Try.ti44 := rfl
theorem Try.ty45 : Try.ty 45 = some Try.ti45 := rfl
theorem Try.ty46 : Try.ty 46 = some Try.ti46 := rfl
theorem Try.ty47 : Try.ty 47 = some Try.ti47 := rfl
theorem Try.ty49 : Try.ty 49 = some Try.ti49 := rfl
theorem Try.ty50 : Try.ty 50 = some Try.ti50 := rfl
theorem Try.ty51 : Try.ty 51 = some Try.ti51 := rfl
theorem Try.ty52 : Try.ty 52 = some Try.ti52 := rfl
theorem Try.ty53 : Try.ty 53 = some Try.ti53 := rfl
theorem Try.ty54 : Try.ty 54 = some Try.ti54 := rfl
theorem Try.ty56 : Try.ty 56 = some Try.ti56 := rfl
theorem Try.ty57 : Try.ty 57 = some Try.ti57 := rfl
theorem Try.ty58 : Try.ty 58 = some Try.ti58 := rfl
theorem Try.ty59 : Try.ty 59 = some Try.ti59 := rfl
theorem Try.ty60 : Try.ty 60 = some Try.ti60 := rfl
theorem Try.ty61 : Try.ty 61 = some Try.ti61 := rfl
theorem Try.ty63 : Try.ty 63 = some Try.ti63 := rfl
theorem Try.ty64 : Try.ty 64 = some Try.ti64 := rfl
theorem Try.ty65 : Try.ty 65 = some Try.ti65 := rfl
theorem Try.ty66 : Try.ty 66 = some Try.ti66 := rfl
theorem Try.ty67 : Try.ty 67 = some Try.ti67 := rfl
theorem Try.ty69 : Try.ty 69 = some Try.ti69 := rfl
theorem Try.ty70 : Try.ty 70 = some Try.ti70 := rfl
theorem Try.ty71 : Try.ty 71 = some Try.ti71 := rfl
theorem Try.ty72 : Try.ty 72 = some Try.ti72 := rfl
theorem Try.ty73 : Try.ty 73 = some Try.ti73 := rfl
theorem Try.ty74 : Try.ty 74 = some Try.ti74 := rfl
theorem Try.ty80 : Try.ty 80 = some Try.ti80 := rfl
theorem Try.ty81 : Try.ty 81 = some Try.ti81 := rfl
theorem Try.ty84 : Try.ty 84 = some Try.ti84 := rfl
theorem Try.tiok1 : TIok Try.prog 1 Try.ti1 := ⟨by kernel_rfl, (by show funcB Try.prog 1 = some true; kernel_rfl), by kernel_rfl, by kernel_rfl, by kernel_rfl⟩
theorem Try.tiok2 : TIok Try.prog 2 Try.ti2 := ⟨by kernel_rfl, (by show Try.prog.underlying 2 = some (.int .i64); kernel_rfl), by kernel_rfl, by kernel_rfl, by kernel_rfl⟩
theorem Try.tiok3 : TIok Try.prog 3 Try.ti3 := ⟨by kernel_rfl, (by show Try.prog.underlying 3 = some (.int .i64); kernel_rfl), by kernel_rfl, by kernel_rfl, by kernel_rfl⟩
theorem Try.tiok4 : TIok Try.prog 4 Try.ti4 := ⟨by kernel_rfl, (by show Try.prog.underlying 4 = some (.bool); kernel_rfl), by kernel_rfl, by kernel_rfl, by kernel_rfl⟩
theorem Try.tiok5 : TIok Try.prog 5 Try.ti5 := ⟨by kernel_rfl, (by show Try.prog.underlying 5 = some (.int .u8); kernel_rfl), by kernel_rfl, by kernel_rfl, by kernel_rfl⟩
theorem Try.tiok9 : TIok Try.prog 9 Try.ti9 := ⟨by kernel_rfl, (by show Try.prog.underlying 9 = some (.string); kernel_rfl), by kernel_rfl, by kernel_rfl, by kernel_rfl⟩
theorem Try.tiok12 : TIok Try.prog 12 Try.ti12 := ⟨by kernel_rfl, (by show Try.prog.underlying 12 = some (.int .u64); kernel_rfl), by kernel_rfl, by kernel_rfl, by kernel_rfl⟩
theorem Try.tiok21 : TIok Try.prog 21 Try.ti21 := ⟨by kernel_rfl, (by show Try.prog.underlying 21 = some (.int .i32); kernel_rfl), by kernel_rfl, by kernel_rfl, by kernel_rfl⟩
theorem Try.tiok22 : TIok Try.prog 22 Try.ti22 := ⟨by kernel_rfl, (by show Try.prog.underlying 22 = some (.int .i64); kernel_rfl), by kernel_rfl, by kernel_rfl, by kernel_rfl⟩
theorem Try.tiok23 : TIok Try.prog 23 Try.ti23 := ⟨by kernel_rfl, (by show Try.prog.underlying 23 = some (.int .i64); kernel_rfl), by kernel_rfl, by kernel_rfl, by kernel_rfl⟩
theorem Try.tiok25 : TIok Try.prog 25 Try.ti25 := ⟨by kernel_rfl, (by show funcB Try.prog 25 = some true; kernel_rfl), by kernel_rfl, by kernel_rfl, by kernel_rfl⟩
theorem Try.tiok26 : TIok Try.prog 26 Try.ti26 := ⟨by kernel_rfl, (by show funcB Try.prog 26 = some true; kernel_rfl), by kernel_rfl, by kernel_rfl, by kernel_rfl⟩
theorem Try.tiok27 : TIok Try.prog 27 Try.ti27 := ⟨by kernel_rfl, (by show funcB Try.prog 27 = some true; kernel_rfl), by kernel_rfl, by kernel_rfl, by kernel_rfl⟩
theorem Try.tiok28 : TIok Try.prog 28 Try.ti28 := ⟨by kernel_rfl, (by show funcB Try.prog 28 = some true; kernel_rfl), by kernel_rfl, by kernel_rfl, by kernel_rfl⟩
theorem Try.tiok29 : TIok Try.prog 29 Try.ti29 := ⟨by kernel_rfl, (by show Try.prog.underlying 29 = some (.int .i64); kernel_rfl), by kernel_rfl, by kernel_rfl, by kernel_rfl⟩
theorem Try.tiok30 : TIok Try.prog 30 Try.ti30 := ⟨by kernel_rfl, (by show Try.prog.underlying 30 = some (.slice 3); kernel_rfl), by kernel_rfl, by kernel_rfl, by kernel_rfl⟩
theorem Try.tiok31 : TIok Try.prog 31 Try.ti31 := ⟨by kernel_rfl, (by show Try.prog.underlying 31 = some (.slice 33); kernel_rfl), by kernel_rfl, by kernel_rfl, by kernel_rfl⟩
theorem Try.tiok32 : TIok Try.prog 32 Try.ti32 := ⟨by kernel_rfl, (by show structFs Try.prog 32 = some (some [(0, 1, false), (1, 1, false), (2, 1, false), (3, 1, false)]); kernel_rfl), by kernel_rfl, by kernel_rfl, by kernel_rfl⟩
theorem Try.tiok33 : TIok Try.prog 33 Try.ti33 := ⟨by kernel_rfl, (by show structFs Try.prog 33 = some (some [(0, 1, false), (1, 1, false), (2, 1, false), (3, 1, false)]); kernel_rfl), by kernel_rfl, by kernel_rfl, by kernel_rfl⟩
theorem Try.tiok34 : TIok Try.prog 34 Try.ti34 := ⟨by kernel_rfl, (by show funcB Try.prog 34 = some true; kernel_rfl), by kernel_rfl, by kernel_rfl, by kernel_rfl⟩
theorem Try.tiok36 : TIok Try.prog 36 Try.ti36 := ⟨by kernel_rfl, (by show funcB Try.prog 36 = some true; kernel_rfl), by kernel_rfl, by kernel_rfl, by kernel_rfl⟩
theorem Try.tiok37 : TIok Try.prog 37 Try.ti37 := ⟨by kernel_rfl, (by show funcB Try.prog 37 = some true; kernel_rfl), by kernel_rfl, by kernel_rfl, by kernel_rfl⟩
theorem Try.tiok38 : TIok Try.prog 38 Try.ti38 := ⟨by kernel_rfl, (by show funcB Try.prog 38 = some true; kernel_rfl), by kernel_rfl, by kernel_rfl, by kernel_rfl⟩
theorem Try.tiok39 : TIok Try.prog 39 Try.ti39 := ⟨by kernel_rfl, (by show funcB Try.prog 39 = some true; kernel_rfl), by kernel_rfl, by kernel_rfl, by kernel_rfl⟩
theorem Try.tiok40 : TIok Try.prog 40 Try.ti40 := ⟨by kernel_rfl, (by show funcB Try.prog 40 = some true; kernel_rfl), by kernel_rfl, by kernel_rfl, by kernel_rfl⟩
theorem Try.tiok41 : TIok Try.prog 41 Try.ti41 := ⟨by kernel_rfl, (by show funcB Try.prog 41 = some true; kernel_rfl), by kernel_rfl, by kernel_rfl, by kernel_rfl⟩
theorem Try.tiok42 : TIok Try.prog 42 Try.ti42 := ⟨by kernel_rfl, (by show funcB Try.prog 42 = some true; kernel_rfl), by kernel_rfl, by kernel_rfl, by kernel_rfl⟩
theorem Try.tiok43 : TIok Try.prog 43 Try.ti43 := ⟨by kernel_rfl, (by show funcB Try.prog 43 = some true; kernel_rfl), by kernel_rfl, by kernel_rfl, by kernel_rfl⟩
theorem Try.tiok44 : TIok Try.prog 44 Try.ti44 := ⟨by kernel_rfl, (by show funcB Try.prog 44 = some true; kernel_rfl), by kernel_rfl, by kernel_rfl, by kernel_rfl⟩
theorem Try.tiok45 : TIok Try.prog 45 Try.ti45 := ⟨by kernel_rfl, (by show funcB Try.prog 45 = some true; kernel_rfl), by kernel_rfl, by kernel_rfl, by kernel_rfl⟩
theorem Try.tiok46 : TIok Try.prog 46 Try.ti46 := ⟨by kernel_rfl, (by show funcB Try.prog 46 = some true; kernel_rfl), by kernel_rfl, by kernel_rfl, by kernel_rfl⟩
theorem Try.tiok47 : TIok Try.prog 47 Try.ti47 := ⟨by kernel_rfl, (by show funcB Try.prog 47 = some true; kernel_rfl), by kernel_rfl, by kernel_rfl, by kernel_rfl⟩
theorem Try.tiok49 : TIok Try.prog 49 Try.ti49 := ⟨by kernel_rfl, (by show funcB Try.prog 49 = some true; kernel_rfl), by kernel_rfl, by kernel_rfl, by kernel_rfl⟩
theorem Try.tiok50 : TIok Try.prog 50 Try.ti50 := ⟨by kernel_rfl, (by show funcB Try.prog 50 = some true; kernel_rfl), by kernel_rfl, by kernel_rfl, by kernel_rfl⟩
theorem Try.tiok51 : TIok Try.prog 51 Try.ti51 := ⟨by kernel_rfl, (by show funcB Try.prog 51 = some true; kernel_rfl), by kernel_rfl, by kernel_rfl, by kernel_rfl⟩
theorem Try.tiok52 : TIok Try.prog 52 Try.ti52 := ⟨by kernel_rfl, (by show funcB Try.prog 52 = some true; kernel_rfl), by kernel_rfl, by kernel_rfl, by kernel_rfl⟩
theorem Try.tiok53 : TIok Try.prog 53 Try.ti53 := ⟨by kernel_rfl, (by show funcB Try.prog 53 = some true; kernel_rfl), by kernel_rfl, by kernel_rfl, by kernel_rfl⟩
theorem Try.tiok54 : TIok Try.prog 54 Try.ti54 := ⟨by kernel_rfl, (by show funcB Try.prog 54 = some true; kernel_rfl), by kernel_rfl, by kernel_rfl, by kernel_rfl⟩
theorem Try.tiok56 : TIok Try.prog 56 Try.ti56 := ⟨by kernel_rfl, (by show funcB Try.prog 56 = some true; kernel_rfl), by kernel_rfl, by kernel_rfl, by kernel_rfl⟩
theorem Try.tiok57 : TIok Try.prog 57 Try.ti57 := ⟨by kernel_rfl, (by show funcB Try.prog 57 = some true; kernel_rfl), by kernel_rfl, by kernel_rfl, by kernel_rfl⟩
theorem Try.tiok58 : TIok Try.prog 58 Try.ti58 := ⟨by kernel_rfl, (by show funcB Try.prog 58 = some true; kernel_rfl), by kernel_rfl, by kernel_rfl, by kernel_rfl⟩
theorem Try.tiok59 : TIok Try.prog 59 Try.ti59 := ⟨by kernel_rfl, (by show funcB Try.prog 59 = some true; kernel_rfl), by kernel_rfl, by kernel_rfl, by kernel_rfl⟩
theorem Try.tiok60 : TIok Try.prog 60 Try.ti60 := ⟨by kernel_rfl, (by show funcB Try.prog 60 = some true; kernel_rfl), by kernel_rfl, by kernel_rfl, by kernel_rfl⟩
theorem Try.tiok61 : TIok Try.prog 61 Try.ti61 := ⟨by kernel_rfl, (by show funcB Try.prog 61 = some true; kernel_rfl), by kernel_rfl, by kernel_rfl, by kernel_rfl⟩
theorem Try.tiok63 : TIok Try.prog 63 Try.ti63 := ⟨by kernel_rfl, (by show funcB Try.prog 63 = some true; kernel_rfl), by kernel_rfl, by kernel_rfl, by kernel_rfl⟩
theorem Try.tiok64 : TIok Try.prog 64 Try.ti64 := ⟨by kernel_rfl, (by show funcB Try.prog 64 = some true; kernel_rfl), by kernel_rfl, by kernel_rfl, by kernel_rfl⟩
theorem Try.tiok65 : TIok Try.prog 65 Try.ti65 := ⟨by kernel_rfl, (by show funcB Try.prog 65 = some true; kernel_rfl), by kernel_rfl, by kernel_rfl, by kernel_rfl⟩
theorem Try.tiok66 : TIok Try.prog 66 Try.ti66 := ⟨by kernel_rfl, (by show funcB Try.prog 66 = some true; kernel_rfl), by kernel_rfl, by kernel_rfl, by kernel_rfl⟩
theorem Try.tiok67 : TIok Try.prog 67 Try.ti67 := ⟨by kernel_rfl, (by show funcB Try.prog 67 = some true; kernel_rfl), by kernel_rfl, by kernel_rfl, by kernel_rfl⟩
theorem Try.tiok69 : TIok Try.prog 69 Try.ti69 := ⟨by kernel_rfl, (by show funcB Try.prog 69 = some true; kernel_rfl), by kernel_rfl, by kernel_rfl, by kernel_rfl⟩
theorem Try.tiok70 : TIok Try.prog 70 Try.ti70 := ⟨by kernel_rfl, (by show funcB Try.prog 70 = some true; kernel_rfl), by kernel_rfl, by kernel_rfl, by kernel_rfl⟩
theorem Try.tiok71 : TIok Try.prog 71 Try.ti71 := ⟨by kernel_rfl, (by show funcB Try.prog 71 = some true; kernel_rfl), by kernel_rfl, by kernel_rfl, by kernel_rfl⟩
theorem Try.tiok72 : TIok Try.prog 72 Try.ti72 := ⟨by kernel_rfl, (by show funcB Try.prog 72 = some true; kernel_rfl), by kernel_rfl, by kernel_rfl, by kernel_rfl⟩
theorem Try.tiok73 : TIok Try.prog 73 Try.ti73 := ⟨by kernel_rfl, (by show funcB Try.prog 73 = some true; kernel_rfl), by kernel_rfl, by kernel_rfl, by kernel_rfl⟩
theorem Try.tiok74 : TIok Try.prog 74 Try.ti74 := ⟨by kernel_rfl, (by show funcB Try.prog 74 = some true; kernel_rfl), by kernel_rfl, by kernel_rfl, by kernel_rfl⟩
theorem Try.tiok80 : TIok Try.prog 80 Try.ti80 := ⟨by kernel_rfl, (by show funcB Try.prog 80 = some true; kernel_rfl), by kernel_rfl, by kernel_rfl, by kernel_rfl⟩
theorem Try.tiok81 : TIok Try.prog 81 Try.ti81 := ⟨by kernel_rfl, (by show Try.prog.underlying 81 = some (.int .u32); kernel_rfl), by kernel_rfl, by kernel_rfl, by kernel_rfl⟩
theorem Try.tiok84 : TIok Try.prog 84 Try.ti84 := ⟨by kernel_rfl, (by show funcB Try.prog 84 = some true; kernel_rfl), by kernel_rfl, by kernel_rfl, by kernel_rfl⟩
theorem Try.tyOk : TabOk Try.prog Try.ty := tabOk_of ⟨Try.tiok1, Try.tiok2, Try.tiok3, Try.tiok4, Try.tiok5, Try.tiok9, Try.tiok12, Try.tiok21, Try.tiok22, Try.tiok23, Try.tiok25, Try.tiok26, Try.tiok27, Try.tiok28, Try.tiok29, Try.tiok30, Try.tiok31, Try.tiok32, Try.tiok33, Try.tiok34, Try.tiok36, Try.tiok37, Try.tiok38, Try.tiok39, Try.tiok40, Try.tiok41, Try.tiok42, Try.tiok43, Try.tiok44, Try.tiok45, Try.tiok46, Try.tiok47, Try.tiok49, Try.tiok50, Try.tiok51, Try.tiok52, Try.tiok53, Try.tiok54, Try.tiok56, Try.tiok57, Try.tiok58, Try.tiok59, Try.tiok60, Try.tiok61, Try.tiok63, Try.tiok64, Try.tiok65, Try.tiok66, Try.tiok67, Try.tiok69, Try.tiok70, Try.tiok71, Try.tiok72, Try.tiok73, Try.tiok74, Try.tiok80, Try.tiok81, Try.tiok84, trivial⟩
attribute [go_sem] Try.ty1 Try.ti1 Try.ty2 Try.ti2 Try.ty3 Try.ti3 Try.ty4 Try.ti4 Try.ty5 Try.ti5 Try.ty9 Try.ti9 Try.ty12 Try.ti12 Try.ty21 Try.ti21 Try.ty22 Try.ti22 Try.ty23 Try.ti23 Try.ty25 Try.ti25 Try.ty26 Try.ti26 Try.ty27 Try.ti27 Try.ty28 Try.ti28 Try.ty29 Try.ti29 Try.ty30 Try.ti30 Try.ty31 Try.ti31 Try.ty32 Try.ti32 Try.ty33 Try.ti33 Try.ty34 Try.ti34 Try.ty36 Try.ti36 Try.ty37 Try.ti37 Try.ty38 Try.ti38 Try.ty39 Try.ti39 Try.ty40 Try.ti40 Try.ty41 Try.ti41 Try.ty42 Try.ti42 Try.ty43 Try.ti43 Try.ty44 Try.ti44 Try.ty45 Try.ti45 Try.ty46 Try.ti46 Try.ty47 Try.ti47 Try.ty49 Try.ti49 Try.ty50 Try.ti50 Try.ty51 Try.ti51 Try.ty52 Try.ti52 Try.ty53 Try.ti53 Try.ty54 Try.ti54 Try.ty56 Try.ti56 Try.ty57 Try.ti57 Try.ty58 Try.ti58 Try.ty59 Try.ti59 Try.ty60 Try.ti60 Try.ty61 Try.ti61 Try.ty63 Try.ti63 Try.ty64 Try.ti64 Try.ty65 Try.ti65 Try.ty66 Try.ti66 Try.ty67 Try.ti67 Try.ty69 Try.ti69 Try.ty70 Try.ti70 Try.ty71 Try.ti71 Try.ty72 Try.ti72 Try.ty73 Try.ti73 Try.ty74 Try.ti74 Try.ty80 Try.ti80 Try.ty81 Try.ti81 Try.ty84 Try.ti84
end Go.Proofs
