/-
  The types of this translation as the calculus reads them. Written by a program.
-/
import Derived.Test.YtnefdkncinkmfaaDoorAbsU
import Derived.Test.YtnefdkncinkmfaaDoorProg
import Derived.KernelRfl
namespace Go.Proofs
open Go.Abs

def Tryd.ti1 : TI := { desc := .func, size := 1, bytes := 8, zero := [.nilFunc], eq := false }
def Tryd.ti2 : TI := { desc := .int .i64, size := 1, bytes := 8, zero := [.int .i64 0], eq := false }
def Tryd.ti3 : TI := { desc := .int .i64, size := 1, bytes := 8, zero := [.int .i64 0], eq := false }
def Tryd.ti4 : TI := { desc := .bool, size := 1, bytes := 1, zero := [.bool false], eq := false }
def Tryd.ti5 : TI := { desc := .int .u8, size := 1, bytes := 1, zero := [.int .u8 0], eq := false }
def Tryd.ti9 : TI := { desc := .string, size := 1, bytes := 16, zero := [.string ByteArray.empty], eq := false }
def Tryd.ti12 : TI := { desc := .int .u64, size := 1, bytes := 8, zero := [.int .u64 0], eq := false }
def Tryd.ti21 : TI := { desc := .int .i32, size := 1, bytes := 4, zero := [.int .i32 0], eq := false }
def Tryd.ti22 : TI := { desc := .func, size := 1, bytes := 8, zero := [.nilFunc], eq := false }
def Tryd.ti23 : TI := { desc := .int .i64, size := 1, bytes := 8, zero := [.int .i64 0], eq := false }
def Tryd.ti25 : TI := { desc := .func, size := 1, bytes := 8, zero := [.nilFunc], eq := false }
def Tryd.ti26 : TI := { desc := .func, size := 1, bytes := 8, zero := [.nilFunc], eq := false }
def Tryd.ti27 : TI := { desc := .func, size := 1, bytes := 8, zero := [.nilFunc], eq := false }
def Tryd.ti28 : TI := { desc := .func, size := 1, bytes := 8, zero := [.nilFunc], eq := false }
def Tryd.ti29 : TI := { desc := .func, size := 1, bytes := 8, zero := [.nilFunc], eq := false }
def Tryd.ti30 : TI := { desc := .func, size := 1, bytes := 8, zero := [.nilFunc], eq := false }
def Tryd.ti31 : TI := { desc := .func, size := 1, bytes := 8, zero := [.nilFunc], eq := false }
def Tryd.ti32 : TI := { desc := .int .i16, size := 1, bytes := 2, zero := [.int .i16 0], eq := false }
def Tryd.ti33 : TI := { desc := .func, size := 1, bytes := 8, zero := [.nilFunc], eq := false }
def Tryd.ti34 : TI := { desc := .func, size := 1, bytes := 8, zero := [.nilFunc], eq := false }
def Tryd.ti35 : TI := { desc := .func, size := 1, bytes := 8, zero := [.nilFunc], eq := false }
def Tryd.ti37 : TI := { desc := .func, size := 1, bytes := 8, zero := [.nilFunc], eq := false }
def Tryd.ti38 : TI := { desc := .func, size := 1, bytes := 8, zero := [.nilFunc], eq := false }
def Tryd.ti39 : TI := { desc := .func, size := 1, bytes := 8, zero := [.nilFunc], eq := false }
def Tryd.ti40 : TI := { desc := .func, size := 1, bytes := 8, zero := [.nilFunc], eq := false }
def Tryd.ti42 : TI := { desc := .int .u64, size := 1, bytes := 8, zero := [.int .u64 0], eq := false }
def Tryd.ti43 : TI := { desc := .func, size := 1, bytes := 8, zero := [.nilFunc], eq := false }
def Tryd.ti44 : TI := { desc := .func, size := 1, bytes := 8, zero := [.nilFunc], eq := false }
def Tryd.ti45 : TI := { desc := .slice 5, size := 1, bytes := 24, zero := [.slice none 0 0], eq := false }
def Tryd.ti47 : TI := { desc := .func, size := 1, bytes := 8, zero := [.nilFunc], eq := false }
def Tryd.ti48 : TI := { desc := .func, size := 1, bytes := 8, zero := [.nilFunc], eq := false }
def Tryd.ti50 : TI := { desc := .int .u32, size := 1, bytes := 4, zero := [.int .u32 0], eq := false }
def Tryd.ti52 : TI := { desc := .int .u64, size := 1, bytes := 8, zero := [.int .u64 0], eq := false }
def Tryd.ti53 : TI := { desc := .func, size := 1, bytes := 8, zero := [.nilFunc], eq := false }
def Tryd.ti54 : TI := { desc := .func, size := 1, bytes := 8, zero := [.nilFunc], eq := false }
def Tryd.ti57 : TI := { desc := .func, size := 1, bytes := 8, zero := [.nilFunc], eq := false }
def Tryd.ti63 : TI := { desc := .func, size := 1, bytes := 8, zero := [.nilFunc], eq := false }
def Tryd.ti66 : TI := { desc := .func, size := 1, bytes := 8, zero := [.nilFunc], eq := false }
def Tryd.tyL : List (Nat × TI) := [(1, Tryd.ti1), (2, Tryd.ti2), (3, Tryd.ti3), (4, Tryd.ti4), (5, Tryd.ti5), (9, Tryd.ti9), (12, Tryd.ti12), (21, Tryd.ti21), (22, Tryd.ti22), (23, Tryd.ti23), (25, Tryd.ti25), (26, Tryd.ti26), (27, Tryd.ti27), (28, Tryd.ti28), (29, Tryd.ti29), (30, Tryd.ti30), (31, Tryd.ti31), (32, Tryd.ti32), (33, Tryd.ti33), (34, Tryd.ti34), (35, Tryd.ti35), (37, Tryd.ti37), (38, Tryd.ti38), (39, Tryd.ti39), (40, Tryd.ti40), (42, Tryd.ti42), (43, Tryd.ti43), (44, Tryd.ti44), (45, Tryd.ti45), (47, Tryd.ti47), (48, Tryd.ti48), (50, Tryd.ti50), (52, Tryd.ti52), (53, Tryd.ti53), (54, Tryd.ti54), (57, Tryd.ti57), (63, Tryd.ti63), (66, Tryd.ti66)]
def Tryd.ty : Tab := find Tryd.tyL
theorem Tryd.ty1 : Tryd.ty 1 = some Tryd.ti1 := rfl
theorem Tryd.ty2 : Tryd.ty 2 = some Tryd.ti2 := rfl
theorem Tryd.ty3 : Tryd.ty 3 = some Tryd.ti3 := rfl
theorem Tryd.ty4 : Tryd.ty 4 = some Tryd.ti4 := rfl
theorem Tryd.ty5 : Tryd.ty 5 = some Tryd.ti5 := rfl
theorem Tryd.ty9 : Tryd.ty 9 = some Tryd.ti9 := rfl
theorem Tryd.ty12 : Tryd.ty 12 = some Tryd.ti12 := rfl
theorem Tryd.ty21 : Tryd.ty 21 = some Tryd.ti21 := rfl
theorem Tryd.ty22 : Tryd.ty 22 = some Tryd.ti22 := rfl
theorem Tryd.ty23 : Tryd.ty 23 = some Tryd.ti23 := rfl
theorem Tryd.ty25 : Tryd.ty 25 = some Tryd.ti25 := rfl
theorem Tryd.ty26 : Tryd.ty 26 = some Tryd.ti26 := rfl
theorem Tryd.ty27 : Tryd.ty 27 = some Tryd.ti27 := rfl
theorem Tryd.ty28 : Tryd.ty 28 = some Tryd.ti28 := rfl
theorem Tryd.ty29 : Tryd.ty 29 = some Tryd.ti29 := rfl
theorem Tryd.ty30 : Tryd.ty 30 = some Tryd.ti30 := rfl
theorem Tryd.ty31 : Tryd.ty 31 = some Tryd.ti31 := rfl
theorem Tryd.ty32 : Tryd.ty 32 = some Tryd.ti32 := rfl
theorem Tryd.ty33 : Tryd.ty 33 = some Tryd.ti33 := rfl
theorem Tryd.ty34 : Tryd.ty 34 = some Tryd.ti34 := rfl
theorem Tryd.ty35 : Tryd.ty 35 = some Tryd.ti35 := rfl
theorem Tryd.ty37 : Tryd.ty 37 = some Tryd.ti37 := rfl
theorem Tryd.ty38 : Tryd.ty 38 = some Tryd.ti38 := rfl
theorem Tryd.ty39 : Tryd.ty 39 = some Tryd.ti39 := rfl
theorem Tryd.ty40 : Tryd.ty 40 = some Tryd.ti40 := rfl
theorem Tryd.ty42 : Tryd.ty 42 = some Tryd.ti42 := rfl
theorem Tryd.ty43 : Tryd.ty 43 = some Tryd.ti43 := rfl
theorem Tryd.ty44 : Tryd.ty 44 = some Tryd.ti44 := rfl
theorem Tryd.ty45 : Tryd.ty 45 = some Tryd.ti45 := rfl
theorem Tryd.ty47 : Tryd.ty 47 = some Tryd.ti47 := rfl
theorem Tryd.ty48 : Tryd.ty 48 = some Tryd.ti48 := rfl
theorem Tryd.ty50 : Tryd.ty 50 = some Tryd.ti50 := rfl
theorem Tryd.ty52 : Tryd.ty 52 = some Tryd.ti52 := rfl
theorem Tryd.ty53 : Tryd.ty 53 = some Tryd.ti53 := rfl
theorem Tryd.ty54 : Tryd.ty 54 = some Tryd.ti54 := rfl
theorem Tryd.ty57 : Tryd.ty 57 = some Tryd.ti57 := rfl
theorem Tryd.ty63 : Tryd.ty 63 = some Tryd.ti63 := rfl
theorem Tryd.ty66 : Tryd.ty 66 = some Tryd.ti66 := rfl
theorem Tryd.tiok1 : TIok Tryd.prog 1 Tryd.ti1 := ⟨by kernel_rfl, (by show funcB Tryd.prog 1 = some true; kernel_rfl), by kernel_rfl, by kernel_rfl, by kernel_rfl⟩
theorem Tryd.tiok2 : TIok Tryd.prog 2 Tryd.ti2 := ⟨by kernel_rfl, (by show Tryd.prog.underlying 2 = some (.int .i64); kernel_rfl), by kernel_rfl, by kernel_rfl, by kernel_rfl⟩
theorem Tryd.tiok3 : TIok Tryd.prog 3 Tryd.ti3 := ⟨by kernel_rfl, (by show Tryd.prog.underlying 3 = some (.int .i64); kernel_rfl), by kernel_rfl, by kernel_rfl, by kernel_rfl⟩
theorem Tryd.tiok4 : TIok Tryd.prog 4 Tryd.ti4 := ⟨by kernel_rfl, (by show Tryd.prog.underlying 4 = some (.bool); kernel_rfl), by kernel_rfl, by kernel_rfl, by kernel_rfl⟩
theorem Tryd.tiok5 : TIok Tryd.prog 5 Tryd.ti5 := ⟨by kernel_rfl, (by show Tryd.prog.underlying 5 = some (.int .u8); kernel_rfl), by kernel_rfl, by kernel_rfl, by kernel_rfl⟩
theorem Tryd.tiok9 : TIok Tryd.prog 9 Tryd.ti9 := ⟨by kernel_rfl, (by show Tryd.prog.underlying 9 = some (.string); kernel_rfl), by kernel_rfl, by kernel_rfl, by kernel_rfl⟩
theorem Tryd.tiok12 : TIok Tryd.prog 12 Tryd.ti12 := ⟨by kernel_rfl, (by show Tryd.prog.underlying 12 = some (.int .u64); kernel_rfl), by kernel_rfl, by kernel_rfl, by kernel_rfl⟩
theorem Tryd.tiok21 : TIok Tryd.prog 21 Tryd.ti21 := ⟨by kernel_rfl, (by show Tryd.prog.underlying 21 = some (.int .i32); kernel_rfl), by kernel_rfl, by kernel_rfl, by kernel_rfl⟩
theorem Tryd.tiok22 : TIok Tryd.prog 22 Tryd.ti22 := ⟨by kernel_rfl, (by show funcB Tryd.prog 22 = some true; kernel_rfl), by kernel_rfl, by kernel_rfl, by kernel_rfl⟩
theorem Tryd.tiok23 : TIok Tryd.prog 23 Tryd.ti23 := ⟨by kernel_rfl, (by show Tryd.prog.underlying 23 = some (.int .i64); kernel_rfl), by kernel_rfl, by kernel_rfl, by kernel_rfl⟩
theorem Tryd.tiok25 : TIok Tryd.prog 25 Tryd.ti25 := ⟨by kernel_rfl, (by show funcB Tryd.prog 25 = some true; kernel_rfl), by kernel_rfl, by kernel_rfl, by kernel_rfl⟩
theorem Tryd.tiok26 : TIok Tryd.prog 26 Tryd.ti26 := ⟨by kernel_rfl, (by show funcB Tryd.prog 26 = some true; kernel_rfl), by kernel_rfl, by kernel_rfl, by kernel_rfl⟩
theorem Tryd.tiok27 : TIok Tryd.prog 27 Tryd.ti27 := ⟨by kernel_rfl, (by show funcB Tryd.prog 27 = some true; kernel_rfl), by kernel_rfl, by kernel_rfl, by kernel_rfl⟩
theorem Tryd.tiok28 : TIok Tryd.prog 28 Tryd.ti28 := ⟨by kernel_rfl, (by show funcB Tryd.prog 28 = some true; kernel_rfl), by kernel_rfl, by kernel_rfl, by kernel_rfl⟩
theorem Tryd.tiok29 : TIok Tryd.prog 29 Tryd.ti29 := ⟨by kernel_rfl, (by show funcB Tryd.prog 29 = some true; kernel_rfl), by kernel_rfl, by kernel_rfl, by kernel_rfl⟩
theorem Tryd.tiok30 : TIok Tryd.prog 30 Tryd.ti30 := ⟨by kernel_rfl, (by show funcB Tryd.prog 30 = some true; kernel_rfl), by kernel_rfl, by kernel_rfl, by kernel_rfl⟩
theorem Tryd.tiok31 : TIok Tryd.prog 31 Tryd.ti31 := ⟨by kernel_rfl, (by show funcB Tryd.prog 31 = some true; kernel_rfl), by kernel_rfl, by kernel_rfl, by kernel_rfl⟩
theorem Tryd.tiok32 : TIok Tryd.prog 32 Tryd.ti32 := ⟨by kernel_rfl, (by show Tryd.prog.underlying 32 = some (.int .i16); kernel_rfl), by kernel_rfl, by kernel_rfl, by kernel_rfl⟩
theorem Tryd.tiok33 : TIok Tryd.prog 33 Tryd.ti33 := ⟨by kernel_rfl, (by show funcB Tryd.prog 33 = some true; kernel_rfl), by kernel_rfl, by kernel_rfl, by kernel_rfl⟩
theorem Tryd.tiok34 : TIok Tryd.prog 34 Tryd.ti34 := ⟨by kernel_rfl, (by show funcB Tryd.prog 34 = some true; kernel_rfl), by kernel_rfl, by kernel_rfl, by kernel_rfl⟩
theorem Tryd.tiok35 : TIok Tryd.prog 35 Tryd.ti35 := ⟨by kernel_rfl, (by show funcB Tryd.prog 35 = some true; kernel_rfl), by kernel_rfl, by kernel_rfl, by kernel_rfl⟩
theorem Tryd.tiok37 : TIok Tryd.prog 37 Tryd.ti37 := ⟨by kernel_rfl, (by show funcB Tryd.prog 37 = some true; kernel_rfl), by kernel_rfl, by kernel_rfl, by kernel_rfl⟩
theorem Tryd.tiok38 : TIok Tryd.prog 38 Tryd.ti38 := ⟨by kernel_rfl, (by show funcB Tryd.prog 38 = some true; kernel_rfl), by kernel_rfl, by kernel_rfl, by kernel_rfl⟩
theorem Tryd.tiok39 : TIok Tryd.prog 39 Tryd.ti39 := ⟨by kernel_rfl, (by show funcB Tryd.prog 39 = some true; kernel_rfl), by kernel_rfl, by kernel_rfl, by kernel_rfl⟩
theorem Tryd.tiok40 : TIok Tryd.prog 40 Tryd.ti40 := ⟨by kernel_rfl, (by show funcB Tryd.prog 40 = some true; kernel_rfl), by kernel_rfl, by kernel_rfl, by kernel_rfl⟩
theorem Tryd.tiok42 : TIok Tryd.prog 42 Tryd.ti42 := ⟨by kernel_rfl, (by show Tryd.prog.underlying 42 = some (.int .u64); kernel_rfl), by kernel_rfl, by kernel_rfl, by kernel_rfl⟩
theorem Tryd.tiok43 : TIok Tryd.prog 43 Tryd.ti43 := ⟨by kernel_rfl, (by show funcB Tryd.prog 43 = some true; kernel_rfl), by kernel_rfl, by kernel_rfl, by kernel_rfl⟩
theorem Tryd.tiok44 : TIok Tryd.prog 44 Tryd.ti44 := ⟨by kernel_rfl, (by show funcB Tryd.prog 44 = some true; kernel_rfl), by kernel_rfl, by kernel_rfl, by kernel_rfl⟩
theorem Tryd.tiok45 : TIok Tryd.prog 45 Tryd.ti45 := ⟨by kernel_rfl, (by show Tryd.prog.underlying 45 = some (.slice 5); kernel_rfl), by kernel_rfl, by kernel_rfl, by kernel_rfl⟩
theorem Tryd.tiok47 : TIok Tryd.prog 47 Tryd.ti47 := ⟨by kernel_rfl, (by show funcB Tryd.prog 47 = some true; kernel_rfl), by kernel_rfl, by kernel_rfl, by kernel_rfl⟩
theorem Tryd.tiok48 : TIok Tryd.prog 48 Tryd.ti48 := ⟨by kernel_rfl, (by show funcB Tryd.prog 48 = some true; kernel_rfl), by kernel_rfl, by kernel_rfl, by kernel_rfl⟩
theorem Tryd.tiok50 : TIok Tryd.prog 50 Tryd.ti50 := ⟨by kernel_rfl, (by show Tryd.prog.underlying 50 = some (.int .u32); kernel_rfl), by kernel_rfl, by kernel_rfl, by kernel_rfl⟩
theorem Tryd.tiok52 : TIok Tryd.prog 52 Tryd.ti52 := ⟨by kernel_rfl, (by show Tryd.prog.underlying 52 = some (.int .u64); kernel_rfl), by kernel_rfl, by kernel_rfl, by kernel_rfl⟩
theorem Tryd.tiok53 : TIok Tryd.prog 53 Tryd.ti53 := ⟨by kernel_rfl, (by show funcB Tryd.prog 53 = some true; kernel_rfl), by kernel_rfl, by kernel_rfl, by kernel_rfl⟩
theorem Tryd.tiok54 : TIok Tryd.prog 54 Tryd.ti54 := ⟨by kernel_rfl, (by show funcB Tryd.prog 54 = some true; kernel_rfl), by kernel_rfl, by kernel_rfl, by kernel_rfl⟩
theorem Tryd.tiok57 : TIok Tryd.prog 57 Tryd.ti57 := ⟨by kernel_rfl, (by show funcB Tryd.prog 57 = some true; kernel_rfl), by kernel_rfl, by kernel_rfl, by kernel_rfl⟩
theorem Tryd.tiok63 : TIok Tryd.prog 63 Tryd.ti63 := ⟨by kernel_rfl, (by show funcB Tryd.prog 63 = some true; kernel_rfl), by kernel_rfl, by kernel_rfl, by kernel_rfl⟩
theorem Tryd.tiok66 : TIok Tryd.prog 66 Tryd.ti66 := ⟨by kernel_rfl, (by show funcB Tryd.prog 66 = some true; kernel_rfl), by kernel_rfl, by kernel_rfl, by kernel_rfl⟩
theorem Tryd.tyOk : TabOk Tryd.prog Tryd.ty := tabOk_of ⟨Tryd.tiok1, Tryd.tiok2, Tryd.tiok3, Tryd.tiok4, Tryd.tiok5, Tryd.tiok9, Tryd.tiok12, Tryd.tiok21, Tryd.tiok22, Tryd.tiok23, Tryd.tiok25, Tryd.tiok26, Tryd.tiok27, Tryd.tiok28, Tryd.tiok29, Tryd.tiok30, Tryd.tiok31, Tryd.tiok32, Tryd.tiok33, Tryd.tiok34, Tryd.tiok35, Tryd.tiok37, Tryd.tiok38, Tryd.tiok39, Tryd.tiok40, Tryd.tiok42, Tryd.tiok43, Tryd.tiok44, Tryd.tiok45, Tryd.tiok47, Tryd.tiok48, Tryd.tiok50, Tryd.tiok52, Tryd.tiok53, Tryd.tiok54, Tryd.tiok57, Tryd.tiok63, Tryd.tiok66, trivial⟩
attribute [go_sem] Tryd.ty1 Tryd.ti1 Tryd.ty2 Tryd.ti2 Tryd.ty3 Tryd.ti3 Tryd.ty4 Tryd.ti4 Tryd.ty5 Tryd.ti5 Tryd.ty9 Tryd.ti9 Tryd.ty12 Tryd.ti12 Tryd.ty21 Tryd.ti21 Tryd.ty22 Tryd.ti22 Tryd.ty23 Tryd.ti23 Tryd.ty25 Tryd.ti25 Tryd.ty26 Tryd.ti26 Tryd.ty27 Tryd.ti27 Tryd.ty28 Tryd.ti28 Tryd.ty29 Tryd.ti29 Tryd.ty30 Tryd.ti30 Tryd.ty31 Tryd.ti31 Tryd.ty32 Tryd.ti32 Tryd.ty33 Tryd.ti33 Tryd.ty34 Tryd.ti34 Tryd.ty35 Tryd.ti35 Tryd.ty37 Tryd.ti37 Tryd.ty38 Tryd.ti38 Tryd.ty39 Tryd.ti39 Tryd.ty40 Tryd.ti40 Tryd.ty42 Tryd.ti42 Tryd.ty43 Tryd.ti43 Tryd.ty44 Tryd.ti44 Tryd.ty45 Tryd.ti45 Tryd.ty47 Tryd.ti47 Tryd.ty48 Tryd.ti48 Tryd.ty50 Tryd.ti50 Tryd.ty52 Tryd.ti52 Tryd.ty53 Tryd.ti53 Tryd.ty54 Tryd.ti54 Tryd.ty57 Tryd.ti57 Tryd.ty63 Tryd.ti63 Tryd.ty66 Tryd.ti66
end Go.Proofs
