/-
  The types of this translation as the calculus reads them. Written by a program.
-/
import Derived.Test.YtamohkabkjfakaaRRAbsU
import Derived.Test.YtamohkabkjfakaaRRProg
import Derived.KernelRfl
namespace Go.Proofs
open Go.Abs

def Try.ti1 : TI := { desc := .func, size := 1, bytes := 8, zero := [.nilFunc], eq := false }
def Try.ti2 : TI := { desc := .int .i64, size := 1, bytes := 8, zero := [.int .i64 0], eq := false }
def Try.ti3 : TI := { desc := .int .i64, size := 1, bytes := 8, zero := [.int .i64 0], eq := false }
def Try.ti4 : TI := { desc := .bool, size := 1, bytes := 1, zero := [.bool false], eq := false }
def Try.ti5 : TI := { desc := .int .u8, size := 1, bytes := 1, zero := [.int .u8 0], eq := false }
def Try.ti9 : TI := { desc := .string, size := 1, bytes := 16, zero := [.string ByteArray.empty], eq := false }
def Try.ti12 : TI := { desc := .int .u64, size := 1, bytes := 8, zero := [.int .u64 0], eq := false }
def Try.ti21 : TI := { desc := .int .i32, size := 1, bytes := 4, zero := [.int .i32 0], eq := false }
def Try.ti22 : TI := { desc := .slice 3, size := 1, bytes := 24, zero := [.slice none 0 0], eq := false }
def Try.ti23 : TI := { desc := .func, size := 1, bytes := 8, zero := [.nilFunc], eq := false }
def Try.ti24 : TI := { desc := .array 4 3, size := 4, bytes := 32, zero := [.int .i64 0, .int .i64 0, .int .i64 0, .int .i64 0], eq := true }
def Try.ti25 : TI := { desc := .array 4 3, size := 4, bytes := 32, zero := [.int .i64 0, .int .i64 0, .int .i64 0, .int .i64 0], eq := true }
def Try.ti26 : TI := { desc := .int .u8, size := 1, bytes := 1, zero := [.int .u8 0], eq := false }
def Try.ti28 : TI := { desc := .func, size := 1, bytes := 8, zero := [.nilFunc], eq := false }
def Try.ti29 : TI := { desc := .func, size := 1, bytes := 8, zero := [.nilFunc], eq := false }
def Try.ti30 : TI := { desc := .func, size := 1, bytes := 8, zero := [.nilFunc], eq := false }
def Try.ti31 : TI := { desc := .int .u64, size := 1, bytes := 8, zero := [.int .u64 0], eq := false }
def Try.ti32 : TI := { desc := .func, size := 1, bytes := 8, zero := [.nilFunc], eq := false }
def Try.ti34 : TI := { desc := .func, size := 1, bytes := 8, zero := [.nilFunc], eq := false }
def Try.ti35 : TI := { desc := .func, size := 1, bytes := 8, zero := [.nilFunc], eq := false }
def Try.ti36 : TI := { desc := .func, size := 1, bytes := 8, zero := [.nilFunc], eq := false }
def Try.ti37 : TI := { desc := .func, size := 1, bytes := 8, zero := [.nilFunc], eq := false }
def Try.ti38 : TI := { desc := .func, size := 1, bytes := 8, zero := [.nilFunc], eq := false }
def Try.ti39 : TI := { desc := .func, size := 1, bytes := 8, zero := [.nilFunc], eq := false }
def Try.ti40 : TI := { desc := .int .i64, size := 1, bytes := 8, zero := [.int .i64 0], eq := false }
def Try.ti42 : TI := { desc := .func, size := 1, bytes := 8, zero := [.nilFunc], eq := false }
def Try.ti43 : TI := { desc := .func, size := 1, bytes := 8, zero := [.nilFunc], eq := false }
def Try.ti44 : TI := { desc := .func, size := 1, bytes := 8, zero := [.nilFunc], eq := false }
def Try.ti45 : TI := { desc := .func, size := 1, bytes := 8, zero := [.nilFunc], eq := false }
def Try.ti46 : TI := { desc := .func, size := 1, bytes := 8, zero := [.nilFunc], eq := false }
def Try.ti47 : TI := { desc := .func, size := 1, bytes := 8, zero := [.nilFunc], eq := false }
def Try.ti48 : TI := { desc := .func, size := 1, bytes := 8, zero := [.nilFunc], eq := false }
def Try.ti49 : TI := { desc := .int .i64, size := 1, bytes := 8, zero := [.int .i64 0], eq := false }
def Try.ti51 : TI := { desc := .func, size := 1, bytes := 8, zero := [.nilFunc], eq := false }
def Try.ti52 : TI := { desc := .func, size := 1, bytes := 8, zero := [.nilFunc], eq := false }
def Try.ti53 : TI := { desc := .func, size := 1, bytes := 8, zero := [.nilFunc], eq := false }
def Try.ti54 : TI := { desc := .func, size := 1, bytes := 8, zero := [.nilFunc], eq := false }
def Try.ti55 : TI := { desc := .func, size := 1, bytes := 8, zero := [.nilFunc], eq := false }
def Try.ti56 : TI := { desc := .func, size := 1, bytes := 8, zero := [.nilFunc], eq := false }
def Try.ti57 : TI := { desc := .func, size := 1, bytes := 8, zero := [.nilFunc], eq := false }
def Try.ti58 : TI := { desc := .func, size := 1, bytes := 8, zero := [.nilFunc], eq := false }
def Try.ti59 : TI := { desc := .func, size := 1, bytes := 8, zero := [.nilFunc], eq := false }
def Try.ti60 : TI := { desc := .func, size := 1, bytes := 8, zero := [.nilFunc], eq := false }
def Try.ti62 : TI := { desc := .func, size := 1, bytes := 8, zero := [.nilFunc], eq := false }
def Try.ti63 : TI := { desc := .func, size := 1, bytes := 8, zero := [.nilFunc], eq := false }
def Try.ti64 : TI := { desc := .func, size := 1, bytes := 8, zero := [.nilFunc], eq := false }
def Try.ti65 : TI := { desc := .func, size := 1, bytes := 8, zero := [.nilFunc], eq := false }
def Try.ti71 : TI := { desc := .func, size := 1, bytes := 8, zero := [.nilFunc], eq := false }
def Try.ti72 : TI := { desc := .int .u32, size := 1, bytes := 4, zero := [.int .u32 0], eq := false }
def Try.ti75 : TI := { desc := .func, size := 1, bytes := 8, zero := [.nilFunc], eq := false }
def Try.tyL : List (Nat × TI) := [(1, Try.ti1), (2, Try.ti2), (3, Try.ti3), (4, Try.ti4), (5, Try.ti5), (9, Try.ti9), (12, Try.ti12), (21, Try.ti21), (22, Try.ti22), (23, Try.ti23), (24, Try.ti24), (25, Try.ti25), (26, Try.ti26), (28, Try.ti28), (29, Try.ti29), (30, Try.ti30), (31, Try.ti31), (32, Try.ti32), (34, Try.ti34), (35, Try.ti35), (36, Try.ti36), (37, Try.ti37), (38, Try.ti38), (39, Try.ti39), (40, Try.ti40), (42, Try.ti42), (43, Try.ti43), (44, Try.ti44), (45, Try.ti45), (46, Try.ti46), (47, Try.ti47), (48, Try.ti48), (49, Try.ti49), (51, Try.ti51), (52, Try.ti52), (53, Try.ti53), (54, Try.ti54), (55, Try.ti55), (56, Try.ti56), (57, Try.ti57), (58, Try.ti58), (59, Try.ti59), (60, Try.ti60), (62, Try.ti62), (63, Try.ti63), (64, Try.ti64), (65, Try.ti65), (71, Try.ti71), (72, Try.ti72), (75, Try.ti75)]
def Try.ty : Tab := find Try.tyL
theorem Try.ty1 : Try.ty 1 = some Try.ti1 := rfl
theorem Try.ty2 : Try.ty 2 = some Try.ti2 := rfl
theorem Try.ty3 : Try.ty 3 = some Try.ti3 := rfl
theorem Try.ty4 : Try.ty 4 = some Try.ti4 := rfl
theorem Try.ty5 : Try.ty 5 = some Try.ti5 := rfl
theorem Try.ty9 : Try.ty 9 = some Try.ti9 := rfl
theorem Try.ty12 : Try.ty 12 = some Try.ti12 := rfl
theorem Try.ty21 : Try.ty 21 = some Try.ti21 := rfl
theorem Try.ty22 : Try.ty 22 = some Try.ti22 := rfl
theorem Try.ty23 : Try.ty 23 = some Try.ti23 := rfl
theorem Try.ty24 : Try.ty 24 = some Try.ti24 := rfl
theorem Try.ty25 : Try.ty 25 = some Try.ti25 := rfl
theorem Try.ty26 : Try.ty 26 = some Try.ti26 := rfl
theorem Try.ty28 : Try.ty 28 = some Try.ti28 := rfl
theorem Try.ty29 : Try.ty 29 = some Try.ti29 := rfl
theorem Try.ty30 : Try.ty 30 = some Try.ti30 := rfl
theorem Try.ty31 : Try.ty 31 = some Try.ti31 := rfl
theorem Try.ty32 : Try.ty 32 = some Try.ti32 := rfl
theorem Try.ty34 : Try.ty 34 = some Try.ti34 := rfl
theorem Try.ty35 : Try.ty 35 = some Try.ti35 := rfl
theorem Try.ty36 : Try.ty 36 = some Try.ti36 := rfl
theorem Try.ty37 : Try.ty 37 = some Try.ti37 := rfl
theorem Try.ty38 : Try.ty 38 = some Try.ti38 := rfl
theorem Try.ty39 : Try.ty 39 = some Try.ti39 := rfl
theorem Try.ty40 : Try.ty 40 = some Try.ti40 := rfl
theorem Try.ty42 : Try.ty 42 = some Try.ti42 := rfl
theorem Try.ty43 : Try.ty 43 = some Try.ti43 := rfl
theorem Try.ty44 : Try.ty 44 = some Try.ti44 := rfl
theorem Try.ty45 : Try.ty 45 = some Try.ti45 := rfl
theorem Try.ty46 : Try.ty 46 = some Try.ti46 := rfl
theorem Try.ty47 : Try.ty 47 = some Try.ti47 := rfl
theorem Try.ty48 : Try.ty 48 = some Try.ti48 := rfl
theorem Try.ty49 : Try.ty 49 = some Try.ti49 := rfl
theorem Try.ty51 : Try.ty 51 = some Try.ti51 := rfl
theorem Try.ty52 : Try.ty 52 = some Try.ti52 := rfl
theorem Try.ty53 : Try.ty 53 = some Try.ti53 := rfl
theorem Try.ty54 : Try.ty 54 = some Try.ti54 := rfl
theorem Try.ty55 : Try.ty 55 = some Try.ti55 := rfl
theorem Try.ty56 : Try.ty 56 = some Try.ti56 := rfl
theorem Try.ty57 : Try.ty 57 = some Try.ti57 := rfl
theorem Try.ty58 : Try.ty 58 = some Try.ti58 := rfl
theorem Try.ty59 : Try.ty 59 = some Try.ti59 := rfl
theorem Try.ty60 : Try.ty 60 = some Try.ti60 := rfl
theorem Try.ty62 : Try.ty 62 = some Try.ti62 := rfl
theorem Try.ty63 : Try.ty 63 = some Try.ti63 := rfl
theorem Try.ty64 : Try.ty 64 = some Try.ti64 := rfl
theorem Try.ty65 : Try.ty 65 = some Try.ti65 := rfl
theorem Try.ty71 : Try.ty 71 = some Try.ti71 := rfl
theorem Try.ty72 : Try.ty 72 = some Try.ti72 := rfl
theorem Try.ty75 : Try.ty 75 = some Try.ti75 := rfl
theorem Try.tiok1 : TIok Try.prog 1 Try.ti1 := ⟨by kernel_rfl, (by show funcB Try.prog 1 = some true; kernel_rfl), by kernel_rfl, by kernel_rfl, by kernel_rfl⟩
theorem Try.tiok2 : TIok Try.prog 2 Try.ti2 := ⟨by kernel_rfl, (by show Try.prog.underlying 2 = some (.int .i64); kernel_rfl), by kernel_rfl, by kernel_rfl, by kernel_rfl⟩
theorem Try.tiok3 : TIok Try.prog 3 Try.ti3 := ⟨by kernel_rfl, (by show Try.prog.underlying 3 = some (.int .i64); kernel_rfl), by kernel_rfl, by kernel_rfl, by kernel_rfl⟩
theorem Try.tiok4 : TIok Try.prog 4 Try.ti4 := ⟨by kernel_rfl, (by show Try.prog.underlying 4 = some (.bool); kernel_rfl), by kernel_rfl, by kernel_rfl, by kernel_rfl⟩
theorem Try.tiok5 : TIok Try.prog 5 Try.ti5 := ⟨by kernel_rfl, (by show Try.prog.underlying 5 = some (.int .u8); kernel_rfl), by kernel_rfl, by kernel_rfl, by kernel_rfl⟩
theorem Try.tiok9 : TIok Try.prog 9 Try.ti9 := ⟨by kernel_rfl, (by show Try.prog.underlying 9 = some (.string); kernel_rfl), by kernel_rfl, by kernel_rfl, by kernel_rfl⟩
theorem Try.tiok12 : TIok Try.prog 12 Try.ti12 := ⟨by kernel_rfl, (by show Try.prog.underlying 12 = some (.int .u64); kernel_rfl), by kernel_rfl, by kernel_rfl, by kernel_rfl⟩
theorem Try.tiok21 : TIok Try.prog 21 Try.ti21 := ⟨by kernel_rfl, (by show Try.prog.underlying 21 = some (.int .i32); kernel_rfl), by kernel_rfl, by kernel_rfl, by kernel_rfl⟩
theorem Try.tiok22 : TIok Try.prog 22 Try.ti22 := ⟨by kernel_rfl, (by show Try.prog.underlying 22 = some (.slice 3); kernel_rfl), by kernel_rfl, by kernel_rfl, by kernel_rfl⟩
theorem Try.tiok23 : TIok Try.prog 23 Try.ti23 := ⟨by kernel_rfl, (by show funcB Try.prog 23 = some true; kernel_rfl), by kernel_rfl, by kernel_rfl, by kernel_rfl⟩
theorem Try.tiok24 : TIok Try.prog 24 Try.ti24 := ⟨by kernel_rfl, (by show Try.prog.underlying 24 = some (.array 4 3); kernel_rfl), by kernel_rfl, by kernel_rfl, by kernel_rfl⟩
theorem Try.tiok25 : TIok Try.prog 25 Try.ti25 := ⟨by kernel_rfl, (by show Try.prog.underlying 25 = some (.array 4 3); kernel_rfl), by kernel_rfl, by kernel_rfl, by kernel_rfl⟩
theorem Try.tiok26 : TIok Try.prog 26 Try.ti26 := ⟨by kernel_rfl, (by show Try.prog.underlying 26 = some (.int .u8); kernel_rfl), by kernel_rfl, by kernel_rfl, by kernel_rfl⟩
theorem Try.tiok28 : TIok Try.prog 28 Try.ti28 := ⟨by kernel_rfl, (by show funcB Try.prog 28 = some true; kernel_rfl), by kernel_rfl, by kernel_rfl, by kernel_rfl⟩
theorem Try.tiok29 : TIok Try.prog 29 Try.ti29 := ⟨by kernel_rfl, (by show funcB Try.prog 29 = some true; kernel_rfl), by kernel_rfl, by kernel_rfl, by kernel_rfl⟩
theorem Try.tiok30 : TIok Try.prog 30 Try.ti30 := ⟨by kernel_rfl, (by show funcB Try.prog 30 = some true; kernel_rfl), by kernel_rfl, by kernel_rfl, by kernel_rfl⟩
theorem Try.tiok31 : TIok Try.prog 31 Try.ti31 := ⟨by kernel_rfl, (by show Try.prog.underlying 31 = some (.int .u64); kernel_rfl), by kernel_rfl, by kernel_rfl, by kernel_rfl⟩
theorem Try.tiok32 : TIok Try.prog 32 Try.ti32 := ⟨by kernel_rfl, (by show funcB Try.prog 32 = some true; kernel_rfl), by kernel_rfl, by kernel_rfl, by kernel_rfl⟩
theorem Try.tiok34 : TIok Try.prog 34 Try.ti34 := ⟨by kernel_rfl, (by show funcB Try.prog 34 = some true; kernel_rfl), by kernel_rfl, by kernel_rfl, by kernel_rfl⟩
theorem Try.tiok35 : TIok Try.prog 35 Try.ti35 := ⟨by kernel_rfl, (by show funcB Try.prog 35 = some true; kernel_rfl), by kernel_rfl, by kernel_rfl, by kernel_rfl⟩
theorem Try.tiok36 : TIok Try.prog 36 Try.ti36 := ⟨by kernel_rfl, (by show funcB Try.prog 36 = some true; kernel_rfl), by kernel_rfl, by kernel_rfl, by kernel_rfl⟩
theorem Try.tiok37 : TIok Try.prog 37 Try.ti37 := ⟨by kernel_rfl, (by show funcB Try.prog 37 = some true; kernel_rfl), by kernel_rfl, by kernel_rfl, by kernel_rfl⟩
theorem Try.tiok38 : TIok Try.prog 38 Try.ti38 := ⟨by kernel_rfl, (by show funcB Try.prog 38 = some true; kernel_rfl), by kernel_rfl, by kernel_rfl, by kernel_rfl⟩
theorem Try.tiok39 : TIok Try.prog 39 Try.ti39 := ⟨by kernel_rfl, (by show funcB Try.prog 39 = some true; kernel_rfl), by kernel_rfl, by kernel_rfl, by kernel_rfl⟩
theorem Try.tiok40 : TIok Try.prog 40 Try.ti40 := ⟨by kernel_rfl, (by show Try.prog.underlying 40 = some (.int .i64); kernel_rfl), by kernel_rfl, by kernel_rfl, by kernel_rfl⟩
theorem Try.tiok42 : TIok Try.prog 42 Try.ti42 := ⟨by kernel_rfl, (by show funcB Try.prog 42 = some true; kernel_rfl), by kernel_rfl, by kernel_rfl, by kernel_rfl⟩
theorem Try.tiok43 : TIok Try.prog 43 Try.ti43 := ⟨by kernel_rfl, (by show funcB Try.prog 43 = some true; kernel_rfl), by kernel_rfl, by kernel_rfl, by kernel_rfl⟩
theorem Try.tiok44 : TIok Try.prog 44 Try.ti44 := ⟨by kernel_rfl, (by show funcB Try.prog 44 = some true; kernel_rfl), by kernel_rfl, by kernel_rfl, by kernel_rfl⟩
theorem Try.tiok45 : TIok Try.prog 45 Try.ti45 := ⟨by kernel_rfl, (by show funcB Try.prog 45 = some true; kernel_rfl), by kernel_rfl, by kernel_rfl, by kernel_rfl⟩
theorem Try.tiok46 : TIok Try.prog 46 Try.ti46 := ⟨by kernel_rfl, (by show funcB Try.prog 46 = some true; kernel_rfl), by kernel_rfl, by kernel_rfl, by kernel_rfl⟩
theorem Try.tiok47 : TIok Try.prog 47 Try.ti47 := ⟨by kernel_rfl, (by show funcB Try.prog 47 = some true; kernel_rfl), by kernel_rfl, by kernel_rfl, by kernel_rfl⟩
theorem Try.tiok48 : TIok Try.prog 48 Try.ti48 := ⟨by kernel_rfl, (by show funcB Try.prog 48 = some true; kernel_rfl), by kernel_rfl, by kernel_rfl, by kernel_rfl⟩
theorem Try.tiok49 : TIok Try.prog 49 Try.ti49 := ⟨by kernel_rfl, (by show Try.prog.underlying 49 = some (.int .i64); kernel_rfl), by kernel_rfl, by kernel_rfl, by kernel_rfl⟩
theorem Try.tiok51 : TIok Try.prog 51 Try.ti51 := ⟨by kernel_rfl, (by show funcB Try.prog 51 = some true; kernel_rfl), by kernel_rfl, by kernel_rfl, by kernel_rfl⟩
theorem Try.tiok52 : TIok Try.prog 52 Try.ti52 := ⟨by kernel_rfl, (by show funcB Try.prog 52 = some true; kernel_rfl), by kernel_rfl, by kernel_rfl, by kernel_rfl⟩
theorem Try.tiok53 : TIok Try.prog 53 Try.ti53 := ⟨by kernel_rfl, (by show funcB Try.prog 53 = some true; kernel_rfl), by kernel_rfl, by kernel_rfl, by kernel_rfl⟩
theorem Try.tiok54 : TIok Try.prog 54 Try.ti54 := ⟨by kernel_rfl, (by show funcB Try.prog 54 = some true; kernel_rfl), by kernel_rfl, by kernel_rfl, by kernel_rfl⟩
theorem Try.tiok55 : TIok Try.prog 55 Try.ti55 := ⟨by kernel_rfl, (by show funcB Try.prog 55 = some true; kernel_rfl), by kernel_rfl, by kernel_rfl, by kernel_rfl⟩
theorem Try.tiok56 : TIok Try.prog 56 Try.ti56 := ⟨by kernel_rfl, (by show funcB Try.prog 56 = some true; kernel_rfl), by kernel_rfl, by kernel_rfl, by kernel_rfl⟩
theorem Try.tiok57 : TIok Try.prog 57 Try.ti57 := ⟨by kernel_rfl, (by show funcB Try.prog 57 = some true; kernel_rfl), by kernel_rfl, by kernel_rfl, by kernel_rfl⟩
theorem Try.tiok58 : TIok Try.prog 58 Try.ti58 := ⟨by kernel_rfl, (by show funcB Try.prog 58 = some true; kernel_rfl), by kernel_rfl, by kernel_rfl, by kernel_rfl⟩
theorem Try.tiok59 : TIok Try.prog 59 Try.ti59 := ⟨by kernel_rfl, (by show funcB Try.prog 59 = some true; kernel_rfl), by kernel_rfl, by kernel_rfl, by kernel_rfl⟩
theorem Try.tiok60 : TIok Try.prog 60 Try.ti60 := ⟨by kernel_rfl, (by show funcB Try.prog 60 = some true; kernel_rfl), by kernel_rfl, by kernel_rfl, by kernel_rfl⟩
theorem Try.tiok62 : TIok Try.prog 62 Try.ti62 := ⟨by kernel_rfl, (by show funcB Try.prog 62 = some true; kernel_rfl), by kernel_rfl, by kernel_rfl, by kernel_rfl⟩
theorem Try.tiok63 : TIok Try.prog 63 Try.ti63 := ⟨by kernel_rfl, (by show funcB Try.prog 63 = some true; kernel_rfl), by kernel_rfl, by kernel_rfl, by kernel_rfl⟩
theorem Try.tiok64 : TIok Try.prog 64 Try.ti64 := ⟨by kernel_rfl, (by show funcB Try.prog 64 = some true; kernel_rfl), by kernel_rfl, by kernel_rfl, by kernel_rfl⟩
theorem Try.tiok65 : TIok Try.prog 65 Try.ti65 := ⟨by kernel_rfl, (by show funcB Try.prog 65 = some true; kernel_rfl), by kernel_rfl, by kernel_rfl, by kernel_rfl⟩
theorem Try.tiok71 : TIok Try.prog 71 Try.ti71 := ⟨by kernel_rfl, (by show funcB Try.prog 71 = some true; kernel_rfl), by kernel_rfl, by kernel_rfl, by kernel_rfl⟩
theorem Try.tiok72 : TIok Try.prog 72 Try.ti72 := ⟨by kernel_rfl, (by show Try.prog.underlying 72 = some (.int .u32); kernel_rfl), by kernel_rfl, by kernel_rfl, by kernel_rfl⟩
theorem Try.tiok75 : TIok Try.prog 75 Try.ti75 := ⟨by kernel_rfl, (by show funcB Try.prog 75 = some true; kernel_rfl), by kernel_rfl, by kernel_rfl, by kernel_rfl⟩
theorem Try.tyOk : TabOk Try.prog Try.ty := tabOk_of ⟨Try.tiok1, Try.tiok2, Try.tiok3, Try.tiok4, Try.tiok5, Try.tiok9, Try.tiok12, Try.tiok21, Try.tiok22, Try.tiok23, Try.tiok24, Try.tiok25, Try.tiok26, Try.tiok28, Try.tiok29, Try.tiok30, Try.tiok31, Try.tiok32, Try.tiok34, Try.tiok35, Try.tiok36, Try.tiok37, Try.tiok38, Try.tiok39, Try.tiok40, Try.tiok42, Try.tiok43, Try.tiok44, Try.tiok45, Try.tiok46, Try.tiok47, Try.tiok48, Try.tiok49, Try.tiok51, Try.tiok52, Try.tiok53, Try.tiok54, Try.tiok55, Try.tiok56, Try.tiok57, Try.tiok58, Try.tiok59, Try.tiok60, Try.tiok62, Try.tiok63, Try.tiok64, Try.tiok65, Try.tiok71, Try.tiok72, Try.tiok75, trivial⟩
attribute [go_sem] Try.ty1 Try.ti1 Try.ty2 Try.ti2 Try.ty3 Try.ti3 Try.ty4 Try.ti4 Try.ty5 Try.ti5 Try.ty9 Try.ti9 Try.ty12 Try.ti12 Try.ty21 Try.ti21 Try.ty22 Try.ti22 Try.ty23 Try.ti23 Try.ty24 Try.ti24 Try.ty25 Try.ti25 Try.ty26 Try.ti26 Try.ty28 Try.ti28 Try.ty29 Try.ti29 Try.ty30 Try.ti30 Try.ty31 Try.ti31 Try.ty32 Try.ti32 Try.ty34 Try.ti34 Try.ty35 Try.ti35 Try.ty36 Try.ti36 Try.ty37 Try.ti37 Try.ty38 Try.ti38 Try.ty39 Try.ti39 Try.ty40 Try.ti40 Try.ty42 Try.ti42 Try.ty43 Try.ti43 Try.ty44 Try.ti44 Try.ty45 Try.ti45 Try.ty46 Try.ti46 Try.ty47 Try.ti47 Try.ty48 Try.ti48 Try.ty49 Try.ti49 Try.ty51 Try.ti51 Try.ty52 Try.ti52 Try.ty53 Try.ti53 Try.ty54 Try.ti54 Try.ty55 Try.ti55 Try.ty56 Try.ti56 Try.ty57 Try.ti57 Try.ty58 Try.ti58 Try.ty59 Try.ti59 Try.ty60 Try.ti60 Try.ty62 Try.ti62 Try.ty63 Try.ti63 Try.ty64 Try.ti64 Try.ty65 Try.ti65 Try.ty71 Try.ti71 Try.ty72 Try.ti72 Try.ty75 Try.ti75
end Go.Proofs
