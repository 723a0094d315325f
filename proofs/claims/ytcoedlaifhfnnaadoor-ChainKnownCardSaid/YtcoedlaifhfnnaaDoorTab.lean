/-
  The table of types of this seat's program, as the engine takes it; that it is the program's. Written by a program (wip/tools/gen_tab.py). No condition.
-/
import Derived.Test.YtcoedlaifhfnnaaDoorVA
import Derived.Test.YtcoedlaifhfnnaaDoorProg
set_option linter.unusedSimpArgs false
set_option linter.unusedVariables false
namespace Go.Proofs.YtcoedlaifhfnnaaDoor
open Go Go.Dm
set_option maxRecDepth 100000

def tabL : List TI := [
  ⟨.no, 0, 0, []⟩,
  ⟨.func, 1, 8, [.o .nilFunc]⟩,
  ⟨.int .i64, 1, 8, [.i .i64 0]⟩,
  ⟨.int .i64, 1, 8, [.i .i64 0]⟩,
  ⟨.bool, 1, 1, [.b false]⟩,
  ⟨.int .u8, 1, 1, [.i .u8 0]⟩,
  ⟨.int .u8, 1, 1, [.i .u8 0]⟩,
  ⟨.struct [(2, 0), (3, 1), (4, 2), (6, 3)], 4, 24, [.i .i64 0, .i .i64 0, .b false, .i .u8 0]⟩,
  ⟨.struct [(2, 0), (3, 1), (4, 2), (6, 3)], 4, 24, [.i .i64 0, .i .i64 0, .b false, .i .u8 0]⟩,
  ⟨.str, 1, 16, [.s []]⟩,
  ⟨.str, 1, 16, [.s []]⟩,
  ⟨.str, 1, 16, [.s []]⟩,
  ⟨.int .u64, 1, 8, [.i .u64 0]⟩,
  ⟨.struct [(9, 0), (12, 1)], 2, 24, [.s [], .i .u64 0]⟩,
  ⟨.struct [(9, 0), (12, 1)], 2, 24, [.s [], .i .u64 0]⟩,
  ⟨.ptr 119, 1, 8, [.o (.pointer none)]⟩,
  ⟨.ptr 122, 1, 8, [.o (.pointer none)]⟩,
  ⟨.ptr 131, 1, 8, [.o (.pointer none)]⟩,
  ⟨.struct [(17, 0)], 1, 8, [.o (.pointer none)]⟩,
  ⟨.struct [(17, 0)], 1, 8, [.o (.pointer none)]⟩,
  ⟨.iface, 1, 16, [.o .nilIface]⟩,
  ⟨.int .i32, 1, 4, [.i .i32 0]⟩,
  ⟨.float, 1, 8, [.f 0]⟩,
  ⟨.slice 5, 1, 24, [.nil]⟩,
  ⟨.struct [(3, 0), (3, 1), (22, 2), (23, 3)], 4, 48, [.i .i64 0, .i .i64 0, .f 0, .nil]⟩,
  ⟨.struct [(3, 0), (3, 1), (22, 2), (23, 3)], 4, 48, [.i .i64 0, .i .i64 0, .f 0, .nil]⟩,
  ⟨.struct [(9, 0), (3, 1), (4, 2), (25, 3)], 7, 80, [.s [], .i .i64 0, .b false, .i .i64 0, .i .i64 0, .f 0, .nil]⟩,
  ⟨.struct [(9, 0), (3, 1), (4, 2), (25, 3)], 7, 80, [.s [], .i .i64 0, .b false, .i .i64 0, .i .i64 0, .f 0, .nil]⟩,
  ⟨.func, 1, 8, [.o .nilFunc]⟩,
  ⟨.slice 27, 1, 24, [.nil]⟩,
  ⟨.slice 29, 1, 24, [.nil]⟩,
  ⟨.slice 9, 1, 24, [.nil]⟩,
  ⟨.no, 0, 0, []⟩,
  ⟨.func, 1, 8, [.o .nilFunc]⟩,
  ⟨.no, 0, 0, []⟩,
  ⟨.func, 1, 8, [.o .nilFunc]⟩,
  ⟨.slice 63, 1, 24, [.nil]⟩,
  ⟨.no, 0, 0, []⟩,
  ⟨.func, 1, 8, [.o .nilFunc]⟩,
  ⟨.func, 1, 8, [.o .nilFunc]⟩,
  ⟨.func, 1, 8, [.o .nilFunc]⟩,
  ⟨.func, 1, 8, [.o .nilFunc]⟩,
  ⟨.func, 1, 8, [.o .nilFunc]⟩,
  ⟨.func, 1, 8, [.o .nilFunc]⟩,
  ⟨.no, 0, 0, []⟩,
  ⟨.func, 1, 8, [.o .nilFunc]⟩,
  ⟨.func, 1, 8, [.o .nilFunc]⟩,
  ⟨.func, 1, 8, [.o .nilFunc]⟩,
  ⟨.func, 1, 8, [.o .nilFunc]⟩,
  ⟨.func, 1, 8, [.o .nilFunc]⟩,
  ⟨.func, 1, 8, [.o .nilFunc]⟩,
  ⟨.func, 1, 8, [.o .nilFunc]⟩,
  ⟨.func, 1, 8, [.o .nilFunc]⟩,
  ⟨.int .u64, 1, 8, [.i .u64 0]⟩,
  ⟨.no, 0, 0, []⟩,
  ⟨.func, 1, 8, [.o .nilFunc]⟩,
  ⟨.func, 1, 8, [.o .nilFunc]⟩,
  ⟨.func, 1, 8, [.o .nilFunc]⟩,
  ⟨.func, 1, 8, [.o .nilFunc]⟩,
  ⟨.func, 1, 8, [.o .nilFunc]⟩,
  ⟨.func, 1, 8, [.o .nilFunc]⟩,
  ⟨.func, 1, 8, [.o .nilFunc]⟩,
  ⟨.struct [(9, 0), (25, 1)], 5, 64, [.s [], .i .i64 0, .i .i64 0, .f 0, .nil]⟩,
  ⟨.struct [(9, 0), (25, 1)], 5, 64, [.s [], .i .i64 0, .i .i64 0, .f 0, .nil]⟩,
  ⟨.func, 1, 8, [.o .nilFunc]⟩,
  ⟨.int .i64, 1, 8, [.i .i64 0]⟩,
  ⟨.no, 0, 0, []⟩,
  ⟨.func, 1, 8, [.o .nilFunc]⟩,
  ⟨.func, 1, 8, [.o .nilFunc]⟩,
  ⟨.func, 1, 8, [.o .nilFunc]⟩,
  ⟨.func, 1, 8, [.o .nilFunc]⟩,
  ⟨.func, 1, 8, [.o .nilFunc]⟩,
  ⟨.func, 1, 8, [.o .nilFunc]⟩,
  ⟨.int .u32, 1, 4, [.i .u32 0]⟩,
  ⟨.func, 1, 8, [.o .nilFunc]⟩,
  ⟨.int .u64, 1, 8, [.i .u64 0]⟩,
  ⟨.func, 1, 8, [.o .nilFunc]⟩,
  ⟨.func, 1, 8, [.o .nilFunc]⟩,
  ⟨.func, 1, 8, [.o .nilFunc]⟩,
  ⟨.func, 1, 8, [.o .nilFunc]⟩,
  ⟨.func, 1, 8, [.o .nilFunc]⟩,
  ⟨.func, 1, 8, [.o .nilFunc]⟩,
  ⟨.func, 1, 8, [.o .nilFunc]⟩,
  ⟨.func, 1, 8, [.o .nilFunc]⟩,
  ⟨.func, 1, 8, [.o .nilFunc]⟩,
  ⟨.int .u64, 1, 8, [.i .u64 0]⟩,
  ⟨.func, 1, 8, [.o .nilFunc]⟩,
  ⟨.func, 1, 8, [.o .nilFunc]⟩,
  ⟨.func, 1, 8, [.o .nilFunc]⟩,
  ⟨.ptr 3, 1, 8, [.o (.pointer none)]⟩,
  ⟨.func, 1, 8, [.o .nilFunc]⟩,
  ⟨.func, 1, 8, [.o .nilFunc]⟩,
  ⟨.func, 1, 8, [.o .nilFunc]⟩,
  ⟨.func, 1, 8, [.o .nilFunc]⟩,
  ⟨.func, 1, 8, [.o .nilFunc]⟩,
  ⟨.func, 1, 8, [.o .nilFunc]⟩,
  ⟨.func, 1, 8, [.o .nilFunc]⟩,
  ⟨.func, 1, 8, [.o .nilFunc]⟩,
  ⟨.ptr 85, 1, 8, [.o (.pointer none)]⟩,
  ⟨.no, 0, 0, []⟩,
  ⟨.func, 1, 8, [.o .nilFunc]⟩,
  ⟨.func, 1, 8, [.o .nilFunc]⟩,
  ⟨.func, 1, 8, [.o .nilFunc]⟩,
  ⟨.func, 1, 8, [.o .nilFunc]⟩,
  ⟨.func, 1, 8, [.o .nilFunc]⟩,
  ⟨.func, 1, 8, [.o .nilFunc]⟩,
  ⟨.func, 1, 8, [.o .nilFunc]⟩,
  ⟨.func, 1, 8, [.o .nilFunc]⟩,
  ⟨.no, 0, 0, []⟩,
  ⟨.func, 1, 8, [.o .nilFunc]⟩,
  ⟨.func, 1, 8, [.o .nilFunc]⟩,
  ⟨.array 256 5, 256, 256, [.i .u8 0, .i .u8 0, .i .u8 0, .i .u8 0, .i .u8 0, .i .u8 0, .i .u8 0, .i .u8 0, .i .u8 0, .i .u8 0, .i .u8 0, .i .u8 0, .i .u8 0, .i .u8 0, .i .u8 0, .i .u8 0, .i .u8 0, .i .u8 0, .i .u8 0, .i .u8 0, .i .u8 0, .i .u8 0, .i .u8 0, .i .u8 0, .i .u8 0, .i .u8 0, .i .u8 0, .i .u8 0, .i .u8 0, .i .u8 0, .i .u8 0, .i .u8 0, .i .u8 0, .i .u8 0, .i .u8 0, .i .u8 0, .i .u8 0, .i .u8 0, .i .u8 0, .i .u8 0, .i .u8 0, .i .u8 0, .i .u8 0, .i .u8 0, .i .u8 0, .i .u8 0, .i .u8 0, .i .u8 0, .i .u8 0, .i .u8 0, .i .u8 0, .i .u8 0, .i .u8 0, .i .u8 0, .i .u8 0, .i .u8 0, .i .u8 0, .i .u8 0, .i .u8 0, .i .u8 0, .i .u8 0, .i .u8 0, .i .u8 0, .i .u8 0, .i .u8 0, .i .u8 0, .i .u8 0, .i .u8 0, .i .u8 0, .i .u8 0, .i .u8 0, .i .u8 0, .i .u8 0, .i .u8 0, .i .u8 0, .i .u8 0, .i .u8 0, .i .u8 0, .i .u8 0, .i .u8 0, .i .u8 0, .i .u8 0, .i .u8 0, .i .u8 0, .i .u8 0, .i .u8 0, .i .u8 0, .i .u8 0, .i .u8 0, .i .u8 0, .i .u8 0, .i .u8 0, .i .u8 0, .i .u8 0, .i .u8 0, .i .u8 0, .i .u8 0, .i .u8 0, .i .u8 0, .i .u8 0, .i .u8 0, .i .u8 0, .i .u8 0, .i .u8 0, .i .u8 0, .i .u8 0, .i .u8 0, .i .u8 0, .i .u8 0, .i .u8 0, .i .u8 0, .i .u8 0, .i .u8 0, .i .u8 0, .i .u8 0, .i .u8 0, .i .u8 0, .i .u8 0, .i .u8 0, .i .u8 0, .i .u8 0, .i .u8 0, .i .u8 0, .i .u8 0, .i .u8 0, .i .u8 0, .i .u8 0, .i .u8 0, .i .u8 0, .i .u8 0, .i .u8 0, .i .u8 0, .i .u8 0, .i .u8 0, .i .u8 0, .i .u8 0, .i .u8 0, .i .u8 0, .i .u8 0, .i .u8 0, .i .u8 0, .i .u8 0, .i .u8 0, .i .u8 0, .i .u8 0, .i .u8 0, .i .u8 0, .i .u8 0, .i .u8 0, .i .u8 0, .i .u8 0, .i .u8 0, .i .u8 0, .i .u8 0, .i .u8 0, .i .u8 0, .i .u8 0, .i .u8 0, .i .u8 0, .i .u8 0, .i .u8 0, .i .u8 0, .i .u8 0, .i .u8 0, .i .u8 0, .i .u8 0, .i .u8 0, .i .u8 0, .i .u8 0, .i .u8 0, .i .u8 0, .i .u8 0, .i .u8 0, .i .u8 0, .i .u8 0, .i .u8 0, .i .u8 0, .i .u8 0, .i .u8 0, .i .u8 0, .i .u8 0, .i .u8 0, .i .u8 0, .i .u8 0, .i .u8 0, .i .u8 0, .i .u8 0, .i .u8 0, .i .u8 0, .i .u8 0, .i .u8 0, .i .u8 0, .i .u8 0, .i .u8 0, .i .u8 0, .i .u8 0, .i .u8 0, .i .u8 0, .i .u8 0, .i .u8 0, .i .u8 0, .i .u8 0, .i .u8 0, .i .u8 0, .i .u8 0, .i .u8 0, .i .u8 0, .i .u8 0, .i .u8 0, .i .u8 0, .i .u8 0, .i .u8 0, .i .u8 0, .i .u8 0, .i .u8 0, .i .u8 0, .i .u8 0, .i .u8 0, .i .u8 0, .i .u8 0, .i .u8 0, .i .u8 0, .i .u8 0, .i .u8 0, .i .u8 0, .i .u8 0, .i .u8 0, .i .u8 0, .i .u8 0, .i .u8 0, .i .u8 0, .i .u8 0, .i .u8 0, .i .u8 0, .i .u8 0, .i .u8 0, .i .u8 0, .i .u8 0, .i .u8 0, .i .u8 0, .i .u8 0, .i .u8 0, .i .u8 0, .i .u8 0, .i .u8 0, .i .u8 0, .i .u8 0, .i .u8 0, .i .u8 0, .i .u8 0, .i .u8 0, .i .u8 0, .i .u8 0, .i .u8 0, .i .u8 0, .i .u8 0]⟩,
  ⟨.struct [(5, 0), (5, 1)], 2, 2, [.i .u8 0, .i .u8 0]⟩,
  ⟨.struct [(5, 0), (5, 1)], 2, 2, [.i .u8 0, .i .u8 0]⟩,
  ⟨.array 16 113, 32, 32, [.i .u8 0, .i .u8 0, .i .u8 0, .i .u8 0, .i .u8 0, .i .u8 0, .i .u8 0, .i .u8 0, .i .u8 0, .i .u8 0, .i .u8 0, .i .u8 0, .i .u8 0, .i .u8 0, .i .u8 0, .i .u8 0, .i .u8 0, .i .u8 0, .i .u8 0, .i .u8 0, .i .u8 0, .i .u8 0, .i .u8 0, .i .u8 0, .i .u8 0, .i .u8 0, .i .u8 0, .i .u8 0, .i .u8 0, .i .u8 0, .i .u8 0, .i .u8 0]⟩,
  ⟨.no, 0, 0, []⟩,
  ⟨.func, 1, 8, [.o .nilFunc]⟩,
  ⟨.func, 1, 8, [.o .nilFunc]⟩,
  ⟨.struct [(17, 0), (17, 1), (17, 2), (9, 3)], 4, 40, [.o (.pointer none), .o (.pointer none), .o (.pointer none), .s []]⟩,
  ⟨.struct [(17, 0), (17, 1), (17, 2), (9, 3)], 4, 40, [.o (.pointer none), .o (.pointer none), .o (.pointer none), .s []]⟩,
  ⟨.no, 0, 0, []⟩,
  ⟨.no, 0, 0, []⟩,
  ⟨.no, 0, 0, []⟩,
  ⟨.func, 1, 8, [.o .nilFunc]⟩,
  ⟨.int .u8, 1, 1, [.i .u8 0]⟩,
  ⟨.int .u8, 1, 1, [.i .u8 0]⟩,
  ⟨.func, 1, 8, [.o .nilFunc]⟩,
  ⟨.ptr 5, 1, 8, [.o (.pointer none)]⟩,
  ⟨.int .i32, 1, 4, [.i .i32 0]⟩,
  ⟨.int .i32, 1, 4, [.i .i32 0]⟩,
  ⟨.struct [(12, 0), (12, 1), (73, 2), (124, 3), (5, 4), (5, 5), (125, 6), (126, 7), (127, 8), (128, 9), (129, 10)], 11, 48, [.i .u64 0, .i .u64 0, .i .u32 0, .i .u8 0, .i .u8 0, .i .u8 0, .i .u8 0, .o .nilFunc, .o (.pointer none), .i .i32 0, .i .i32 0]⟩,
  ⟨.struct [(12, 0), (12, 1), (73, 2), (124, 3), (5, 4), (5, 5), (125, 6), (126, 7), (127, 8), (128, 9), (129, 10)], 11, 48, [.i .u64 0, .i .u64 0, .i .u32 0, .i .u8 0, .i .u8 0, .i .u8 0, .i .u8 0, .o .nilFunc, .o (.pointer none), .i .i32 0, .i .i32 0]⟩,
  ⟨.no, 0, 0, []⟩]
def tab : Tab := fun t => tabL.getD t ⟨.no, 0, 0, []⟩
abbrev OkF (t : Nat) : Prop := OkTI Tryd.prog t ⟨.func, 1, 8, [.o .nilFunc]⟩
theorem okF {t : Nat} (i : _) (hu : DescOK (Tryd.prog.underlying t) .func) (hi : Tryd.prog.info? t = some i) (h1 : i.size = 1) (h2 : i.bytes = 8) (h3 : i.zero = some .nilFunc) : OkF t :=
  ⟨hu, i, .nilFunc, hi, h1, h2, h3, rfl, rfl, (fun h => by cases h), fun _ => ⟨rfl, rfl⟩⟩
theorem tab1 : tab 1 = ⟨.func, 1, 8, [.o .nilFunc]⟩ := rfl
theorem okT1 : OkF 1 := okF Tryd.t1 (by rw [Tryd.underlying1]; trivial) (by kernel_rfl) rfl rfl rfl
theorem tab2 : tab 2 = ⟨.int .i64, 1, 8, [.i .i64 0]⟩ := rfl
theorem okT2 : OkTI Tryd.prog 2 ⟨.int .i64, 1, 8, [.i .i64 0]⟩ := ⟨by rw [Tryd.underlying2]; first | trivial | rfl | exact ⟨rfl, rfl⟩, Tryd.t2, .int .i64 0, by kernel_rfl, rfl, rfl, rfl, rfl, rfl, (fun h => by cases h), fun _ => ⟨rfl, rfl⟩⟩
theorem tab3 : tab 3 = ⟨.int .i64, 1, 8, [.i .i64 0]⟩ := rfl
theorem okT3 : OkTI Tryd.prog 3 ⟨.int .i64, 1, 8, [.i .i64 0]⟩ := ⟨by rw [Tryd.underlying3]; first | trivial | rfl | exact ⟨rfl, rfl⟩, Tryd.t3, .int .i64 0, by kernel_rfl, rfl, rfl, rfl, rfl, rfl, (fun h => by cases h), fun _ => ⟨rfl, rfl⟩⟩
theorem tab4 : tab 4 = ⟨.bool, 1, 1, [.b false]⟩ := rfl
theorem okT4 : OkTI Tryd.prog 4 ⟨.bool, 1, 1, [.b false]⟩ := ⟨by rw [Tryd.underlying4]; first | trivial | rfl | exact ⟨rfl, rfl⟩, Tryd.t4, .bool false, by kernel_rfl, rfl, rfl, rfl, rfl, rfl, (fun h => by cases h), fun _ => ⟨rfl, rfl⟩⟩
theorem tab5 : tab 5 = ⟨.int .u8, 1, 1, [.i .u8 0]⟩ := rfl
theorem okT5 : OkTI Tryd.prog 5 ⟨.int .u8, 1, 1, [.i .u8 0]⟩ := ⟨by rw [Tryd.underlying5]; first | trivial | rfl | exact ⟨rfl, rfl⟩, Tryd.t5, .int .u8 0, by kernel_rfl, rfl, rfl, rfl, rfl, rfl, (fun h => by cases h), fun _ => ⟨rfl, rfl⟩⟩
theorem tab6 : tab 6 = ⟨.int .u8, 1, 1, [.i .u8 0]⟩ := rfl
theorem okT6 : OkTI Tryd.prog 6 ⟨.int .u8, 1, 1, [.i .u8 0]⟩ := ⟨by rw [Tryd.underlying6]; first | trivial | rfl | exact ⟨rfl, rfl⟩, Tryd.t6, .int .u8 0, by kernel_rfl, rfl, rfl, rfl, rfl, rfl, (fun h => by cases h), fun _ => ⟨rfl, rfl⟩⟩
theorem tab7 : tab 7 = ⟨.struct [(2, 0), (3, 1), (4, 2), (6, 3)], 4, 24, [.i .i64 0, .i .i64 0, .b false, .i .u8 0]⟩ := rfl
theorem okT7 : OkTI Tryd.prog 7 ⟨.struct [(2, 0), (3, 1), (4, 2), (6, 3)], 4, 24, [.i .i64 0, .i .i64 0, .b false, .i .u8 0]⟩ := ⟨by rw [Tryd.underlying7]; first | trivial | rfl | exact ⟨rfl, rfl⟩, Tryd.t7, .agg #[.int .i64 0, .int .i64 0, .bool false, .int .u8 0], by kernel_rfl, rfl, rfl, rfl, rfl, rfl, fun _ => ⟨_, rfl⟩, (fun h => by cases h)⟩
theorem tab8 : tab 8 = ⟨.struct [(2, 0), (3, 1), (4, 2), (6, 3)], 4, 24, [.i .i64 0, .i .i64 0, .b false, .i .u8 0]⟩ := rfl
theorem okT8 : OkTI Tryd.prog 8 ⟨.struct [(2, 0), (3, 1), (4, 2), (6, 3)], 4, 24, [.i .i64 0, .i .i64 0, .b false, .i .u8 0]⟩ := ⟨by rw [Tryd.underlying8]; first | trivial | rfl | exact ⟨rfl, rfl⟩, Tryd.t8, .agg #[.int .i64 0, .int .i64 0, .bool false, .int .u8 0], by kernel_rfl, rfl, rfl, rfl, rfl, rfl, fun _ => ⟨_, rfl⟩, (fun h => by cases h)⟩
theorem tab9 : tab 9 = ⟨.str, 1, 16, [.s []]⟩ := rfl
theorem okT9 : OkTI Tryd.prog 9 ⟨.str, 1, 16, [.s []]⟩ := ⟨by rw [Tryd.underlying9]; first | trivial | rfl | exact ⟨rfl, rfl⟩, Tryd.t9, .string ⟨#[]⟩, by kernel_rfl, rfl, rfl, rfl, rfl, rfl, (fun h => by cases h), fun _ => ⟨rfl, rfl⟩⟩
theorem tab10 : tab 10 = ⟨.str, 1, 16, [.s []]⟩ := rfl
theorem okT10 : OkTI Tryd.prog 10 ⟨.str, 1, 16, [.s []]⟩ := ⟨by rw [Tryd.underlying10]; first | trivial | rfl | exact ⟨rfl, rfl⟩, Tryd.t10, .string ⟨#[]⟩, by kernel_rfl, rfl, rfl, rfl, rfl, rfl, (fun h => by cases h), fun _ => ⟨rfl, rfl⟩⟩
theorem tab11 : tab 11 = ⟨.str, 1, 16, [.s []]⟩ := rfl
theorem okT11 : OkTI Tryd.prog 11 ⟨.str, 1, 16, [.s []]⟩ := ⟨by rw [Tryd.underlying11]; first | trivial | rfl | exact ⟨rfl, rfl⟩, Tryd.t11, .string ⟨#[]⟩, by kernel_rfl, rfl, rfl, rfl, rfl, rfl, (fun h => by cases h), fun _ => ⟨rfl, rfl⟩⟩
theorem tab12 : tab 12 = ⟨.int .u64, 1, 8, [.i .u64 0]⟩ := rfl
theorem okT12 : OkTI Tryd.prog 12 ⟨.int .u64, 1, 8, [.i .u64 0]⟩ := ⟨by rw [Tryd.underlying12]; first | trivial | rfl | exact ⟨rfl, rfl⟩, Tryd.t12, .int .u64 0, by kernel_rfl, rfl, rfl, rfl, rfl, rfl, (fun h => by cases h), fun _ => ⟨rfl, rfl⟩⟩
theorem tab13 : tab 13 = ⟨.struct [(9, 0), (12, 1)], 2, 24, [.s [], .i .u64 0]⟩ := rfl
theorem okT13 : OkTI Tryd.prog 13 ⟨.struct [(9, 0), (12, 1)], 2, 24, [.s [], .i .u64 0]⟩ := ⟨by rw [Tryd.underlying13]; first | trivial | rfl | exact ⟨rfl, rfl⟩, Tryd.t13, .agg #[.string ⟨#[]⟩, .int .u64 0], by kernel_rfl, rfl, rfl, rfl, rfl, rfl, fun _ => ⟨_, rfl⟩, (fun h => by cases h)⟩
theorem tab14 : tab 14 = ⟨.struct [(9, 0), (12, 1)], 2, 24, [.s [], .i .u64 0]⟩ := rfl
theorem okT14 : OkTI Tryd.prog 14 ⟨.struct [(9, 0), (12, 1)], 2, 24, [.s [], .i .u64 0]⟩ := ⟨by rw [Tryd.underlying14]; first | trivial | rfl | exact ⟨rfl, rfl⟩, Tryd.t14, .agg #[.string ⟨#[]⟩, .int .u64 0], by kernel_rfl, rfl, rfl, rfl, rfl, rfl, fun _ => ⟨_, rfl⟩, (fun h => by cases h)⟩
theorem tab15 : tab 15 = ⟨.ptr 119, 1, 8, [.o (.pointer none)]⟩ := rfl
theorem okT15 : OkTI Tryd.prog 15 ⟨.ptr 119, 1, 8, [.o (.pointer none)]⟩ := ⟨by rw [Tryd.underlying15]; first | trivial | rfl | exact ⟨rfl, rfl⟩, Tryd.t15, .pointer none, by kernel_rfl, rfl, rfl, rfl, rfl, rfl, (fun h => by cases h), fun _ => ⟨rfl, rfl⟩⟩
theorem tab16 : tab 16 = ⟨.ptr 122, 1, 8, [.o (.pointer none)]⟩ := rfl
theorem okT16 : OkTI Tryd.prog 16 ⟨.ptr 122, 1, 8, [.o (.pointer none)]⟩ := ⟨by rw [Tryd.underlying16]; first | trivial | rfl | exact ⟨rfl, rfl⟩, Tryd.t16, .pointer none, by kernel_rfl, rfl, rfl, rfl, rfl, rfl, (fun h => by cases h), fun _ => ⟨rfl, rfl⟩⟩
theorem tab17 : tab 17 = ⟨.ptr 131, 1, 8, [.o (.pointer none)]⟩ := rfl
theorem okT17 : OkTI Tryd.prog 17 ⟨.ptr 131, 1, 8, [.o (.pointer none)]⟩ := ⟨by rw [Tryd.underlying17]; first | trivial | rfl | exact ⟨rfl, rfl⟩, Tryd.t17, .pointer none, by kernel_rfl, rfl, rfl, rfl, rfl, rfl, (fun h => by cases h), fun _ => ⟨rfl, rfl⟩⟩
theorem tab18 : tab 18 = ⟨.struct [(17, 0)], 1, 8, [.o (.pointer none)]⟩ := rfl
theorem okT18 : OkTI Tryd.prog 18 ⟨.struct [(17, 0)], 1, 8, [.o (.pointer none)]⟩ := ⟨by rw [Tryd.underlying18]; first | trivial | rfl | exact ⟨rfl, rfl⟩, Tryd.t18, .agg #[.pointer none], by kernel_rfl, rfl, rfl, rfl, rfl, rfl, fun _ => ⟨_, rfl⟩, (fun h => by cases h)⟩
theorem tab19 : tab 19 = ⟨.struct [(17, 0)], 1, 8, [.o (.pointer none)]⟩ := rfl
theorem okT19 : OkTI Tryd.prog 19 ⟨.struct [(17, 0)], 1, 8, [.o (.pointer none)]⟩ := ⟨by rw [Tryd.underlying19]; first | trivial | rfl | exact ⟨rfl, rfl⟩, Tryd.t19, .agg #[.pointer none], by kernel_rfl, rfl, rfl, rfl, rfl, rfl, fun _ => ⟨_, rfl⟩, (fun h => by cases h)⟩
theorem tab20 : tab 20 = ⟨.iface, 1, 16, [.o .nilIface]⟩ := rfl
theorem okT20 : OkTI Tryd.prog 20 ⟨.iface, 1, 16, [.o .nilIface]⟩ := ⟨by rw [Tryd.underlying20]; first | trivial | rfl | exact ⟨rfl, rfl⟩, Tryd.t20, .nilIface, by kernel_rfl, rfl, rfl, rfl, rfl, rfl, (fun h => by cases h), fun _ => ⟨rfl, rfl⟩⟩
theorem tab21 : tab 21 = ⟨.int .i32, 1, 4, [.i .i32 0]⟩ := rfl
theorem okT21 : OkTI Tryd.prog 21 ⟨.int .i32, 1, 4, [.i .i32 0]⟩ := ⟨by rw [Tryd.underlying21]; first | trivial | rfl | exact ⟨rfl, rfl⟩, Tryd.t21, .int .i32 0, by kernel_rfl, rfl, rfl, rfl, rfl, rfl, (fun h => by cases h), fun _ => ⟨rfl, rfl⟩⟩
theorem tab22 : tab 22 = ⟨.float, 1, 8, [.f 0]⟩ := rfl
theorem okT22 : OkTI Tryd.prog 22 ⟨.float, 1, 8, [.f 0]⟩ := ⟨by rw [Tryd.underlying22]; first | trivial | rfl | exact ⟨rfl, rfl⟩, Tryd.t22, .float .f64 0, by kernel_rfl, rfl, rfl, rfl, rfl, rfl, (fun h => by cases h), fun _ => ⟨rfl, rfl⟩⟩
theorem tab23 : tab 23 = ⟨.slice 5, 1, 24, [.nil]⟩ := rfl
theorem okT23 : OkTI Tryd.prog 23 ⟨.slice 5, 1, 24, [.nil]⟩ := ⟨by rw [Tryd.underlying23]; first | trivial | rfl | exact ⟨rfl, rfl⟩, Tryd.t23, .slice none 0 0, by kernel_rfl, rfl, rfl, rfl, rfl, rfl, (fun h => by cases h), fun _ => ⟨rfl, rfl⟩⟩
theorem tab24 : tab 24 = ⟨.struct [(3, 0), (3, 1), (22, 2), (23, 3)], 4, 48, [.i .i64 0, .i .i64 0, .f 0, .nil]⟩ := rfl
theorem okT24 : OkTI Tryd.prog 24 ⟨.struct [(3, 0), (3, 1), (22, 2), (23, 3)], 4, 48, [.i .i64 0, .i .i64 0, .f 0, .nil]⟩ := ⟨by rw [Tryd.underlying24]; first | trivial | rfl | exact ⟨rfl, rfl⟩, Tryd.t24, .agg #[.int .i64 0, .int .i64 0, .float .f64 0, .slice none 0 0], by kernel_rfl, rfl, rfl, rfl, rfl, rfl, fun _ => ⟨_, rfl⟩, (fun h => by cases h)⟩
theorem tab25 : tab 25 = ⟨.struct [(3, 0), (3, 1), (22, 2), (23, 3)], 4, 48, [.i .i64 0, .i .i64 0, .f 0, .nil]⟩ := rfl
theorem okT25 : OkTI Tryd.prog 25 ⟨.struct [(3, 0), (3, 1), (22, 2), (23, 3)], 4, 48, [.i .i64 0, .i .i64 0, .f 0, .nil]⟩ := ⟨by rw [Tryd.underlying25]; first | trivial | rfl | exact ⟨rfl, rfl⟩, Tryd.t25, .agg #[.int .i64 0, .int .i64 0, .float .f64 0, .slice none 0 0], by kernel_rfl, rfl, rfl, rfl, rfl, rfl, fun _ => ⟨_, rfl⟩, (fun h => by cases h)⟩
theorem tab26 : tab 26 = ⟨.struct [(9, 0), (3, 1), (4, 2), (25, 3)], 7, 80, [.s [], .i .i64 0, .b false, .i .i64 0, .i .i64 0, .f 0, .nil]⟩ := rfl
theorem okT26 : OkTI Tryd.prog 26 ⟨.struct [(9, 0), (3, 1), (4, 2), (25, 3)], 7, 80, [.s [], .i .i64 0, .b false, .i .i64 0, .i .i64 0, .f 0, .nil]⟩ := ⟨by rw [Tryd.underlying26]; first | trivial | rfl | exact ⟨rfl, rfl⟩, Tryd.t26, .agg #[.string ⟨#[]⟩, .int .i64 0, .bool false, .int .i64 0, .int .i64 0, .float .f64 0, .slice none 0 0], by kernel_rfl, rfl, rfl, rfl, rfl, rfl, fun _ => ⟨_, rfl⟩, (fun h => by cases h)⟩
theorem tab27 : tab 27 = ⟨.struct [(9, 0), (3, 1), (4, 2), (25, 3)], 7, 80, [.s [], .i .i64 0, .b false, .i .i64 0, .i .i64 0, .f 0, .nil]⟩ := rfl
theorem okT27 : OkTI Tryd.prog 27 ⟨.struct [(9, 0), (3, 1), (4, 2), (25, 3)], 7, 80, [.s [], .i .i64 0, .b false, .i .i64 0, .i .i64 0, .f 0, .nil]⟩ := ⟨by rw [Tryd.underlying27]; first | trivial | rfl | exact ⟨rfl, rfl⟩, Tryd.t27, .agg #[.string ⟨#[]⟩, .int .i64 0, .bool false, .int .i64 0, .int .i64 0, .float .f64 0, .slice none 0 0], by kernel_rfl, rfl, rfl, rfl, rfl, rfl, fun _ => ⟨_, rfl⟩, (fun h => by cases h)⟩
theorem tab28 : tab 28 = ⟨.func, 1, 8, [.o .nilFunc]⟩ := rfl
theorem okT28 : OkF 28 := okF Tryd.t28 (by rw [Tryd.underlying28]; trivial) (by kernel_rfl) rfl rfl rfl
theorem tab29 : tab 29 = ⟨.slice 27, 1, 24, [.nil]⟩ := rfl
theorem okT29 : OkTI Tryd.prog 29 ⟨.slice 27, 1, 24, [.nil]⟩ := ⟨by rw [Tryd.underlying29]; first | trivial | rfl | exact ⟨rfl, rfl⟩, Tryd.t29, .slice none 0 0, by kernel_rfl, rfl, rfl, rfl, rfl, rfl, (fun h => by cases h), fun _ => ⟨rfl, rfl⟩⟩
theorem tab30 : tab 30 = ⟨.slice 29, 1, 24, [.nil]⟩ := rfl
theorem okT30 : OkTI Tryd.prog 30 ⟨.slice 29, 1, 24, [.nil]⟩ := ⟨by rw [Tryd.underlying30]; first | trivial | rfl | exact ⟨rfl, rfl⟩, Tryd.t30, .slice none 0 0, by kernel_rfl, rfl, rfl, rfl, rfl, rfl, (fun h => by cases h), fun _ => ⟨rfl, rfl⟩⟩
theorem tab31 : tab 31 = ⟨.slice 9, 1, 24, [.nil]⟩ := rfl
theorem okT31 : OkTI Tryd.prog 31 ⟨.slice 9, 1, 24, [.nil]⟩ := ⟨by rw [Tryd.underlying31]; first | trivial | rfl | exact ⟨rfl, rfl⟩, Tryd.t31, .slice none 0 0, by kernel_rfl, rfl, rfl, rfl, rfl, rfl, (fun h => by cases h), fun _ => ⟨rfl, rfl⟩⟩
theorem tab33 : tab 33 = ⟨.func, 1, 8, [.o .nilFunc]⟩ := rfl
theorem okT33 : OkF 33 := okF Tryd.t33 (by rw [Tryd.underlying33]; trivial) (by kernel_rfl) rfl rfl rfl
theorem tab35 : tab 35 = ⟨.func, 1, 8, [.o .nilFunc]⟩ := rfl
theorem okT35 : OkF 35 := okF Tryd.t35 (by rw [Tryd.underlying35]; trivial) (by kernel_rfl) rfl rfl rfl
theorem tab36 : tab 36 = ⟨.slice 63, 1, 24, [.nil]⟩ := rfl
theorem okT36 : OkTI Tryd.prog 36 ⟨.slice 63, 1, 24, [.nil]⟩ := ⟨by rw [Tryd.underlying36]; first | trivial | rfl | exact ⟨rfl, rfl⟩, Tryd.t36, .slice none 0 0, by kernel_rfl, rfl, rfl, rfl, rfl, rfl, (fun h => by cases h), fun _ => ⟨rfl, rfl⟩⟩
theorem tab38 : tab 38 = ⟨.func, 1, 8, [.o .nilFunc]⟩ := rfl
theorem okT38 : OkF 38 := okF Tryd.t38 (by rw [Tryd.underlying38]; trivial) (by kernel_rfl) rfl rfl rfl
theorem tab39 : tab 39 = ⟨.func, 1, 8, [.o .nilFunc]⟩ := rfl
theorem okT39 : OkF 39 := okF Tryd.t39 (by rw [Tryd.underlying39]; trivial) (by kernel_rfl) rfl rfl rfl
theorem tab40 : tab 40 = ⟨.func, 1, 8, [.o .nilFunc]⟩ := rfl
theorem okT40 : OkF 40 := okF Tryd.t40 (by rw [Tryd.underlying40]; trivial) (by kernel_rfl) rfl rfl rfl
theorem tab41 : tab 41 = ⟨.func, 1, 8, [.o .nilFunc]⟩ := rfl
theorem okT41 : OkF 41 := okF Tryd.t41 (by rw [Tryd.underlying41]; trivial) (by kernel_rfl) rfl rfl rfl
theorem tab42 : tab 42 = ⟨.func, 1, 8, [.o .nilFunc]⟩ := rfl
theorem okT42 : OkF 42 := okF Tryd.t42 (by rw [Tryd.underlying42]; trivial) (by kernel_rfl) rfl rfl rfl
theorem tab43 : tab 43 = ⟨.func, 1, 8, [.o .nilFunc]⟩ := rfl
theorem okT43 : OkF 43 := okF Tryd.t43 (by rw [Tryd.underlying43]; trivial) (by kernel_rfl) rfl rfl rfl
theorem tab45 : tab 45 = ⟨.func, 1, 8, [.o .nilFunc]⟩ := rfl
theorem okT45 : OkF 45 := okF Tryd.t45 (by rw [Tryd.underlying45]; trivial) (by kernel_rfl) rfl rfl rfl
theorem tab46 : tab 46 = ⟨.func, 1, 8, [.o .nilFunc]⟩ := rfl
theorem okT46 : OkF 46 := okF Tryd.t46 (by rw [Tryd.underlying46]; trivial) (by kernel_rfl) rfl rfl rfl
theorem tab47 : tab 47 = ⟨.func, 1, 8, [.o .nilFunc]⟩ := rfl
theorem okT47 : OkF 47 := okF Tryd.t47 (by rw [Tryd.underlying47]; trivial) (by kernel_rfl) rfl rfl rfl
theorem tab48 : tab 48 = ⟨.func, 1, 8, [.o .nilFunc]⟩ := rfl
theorem okT48 : OkF 48 := okF Tryd.t48 (by rw [Tryd.underlying48]; trivial) (by kernel_rfl) rfl rfl rfl
theorem tab49 : tab 49 = ⟨.func, 1, 8, [.o .nilFunc]⟩ := rfl
theorem okT49 : OkF 49 := okF Tryd.t49 (by rw [Tryd.underlying49]; trivial) (by kernel_rfl) rfl rfl rfl
theorem tab50 : tab 50 = ⟨.func, 1, 8, [.o .nilFunc]⟩ := rfl
theorem okT50 : OkF 50 := okF Tryd.t50 (by rw [Tryd.underlying50]; trivial) (by kernel_rfl) rfl rfl rfl
theorem tab51 : tab 51 = ⟨.func, 1, 8, [.o .nilFunc]⟩ := rfl
theorem okT51 : OkF 51 := okF Tryd.t51 (by rw [Tryd.underlying51]; trivial) (by kernel_rfl) rfl rfl rfl
theorem tab52 : tab 52 = ⟨.func, 1, 8, [.o .nilFunc]⟩ := rfl
theorem okT52 : OkF 52 := okF Tryd.t52 (by rw [Tryd.underlying52]; trivial) (by kernel_rfl) rfl rfl rfl
theorem tab53 : tab 53 = ⟨.int .u64, 1, 8, [.i .u64 0]⟩ := rfl
theorem okT53 : OkTI Tryd.prog 53 ⟨.int .u64, 1, 8, [.i .u64 0]⟩ := ⟨by rw [Tryd.underlying53]; first | trivial | rfl | exact ⟨rfl, rfl⟩, Tryd.t53, .int .u64 0, by kernel_rfl, rfl, rfl, rfl, rfl, rfl, (fun h => by cases h), fun _ => ⟨rfl, rfl⟩⟩
theorem tab55 : tab 55 = ⟨.func, 1, 8, [.o .nilFunc]⟩ := rfl
theorem okT55 : OkF 55 := okF Tryd.t55 (by rw [Tryd.underlying55]; trivial) (by kernel_rfl) rfl rfl rfl
theorem tab56 : tab 56 = ⟨.func, 1, 8, [.o .nilFunc]⟩ := rfl
theorem okT56 : OkF 56 := okF Tryd.t56 (by rw [Tryd.underlying56]; trivial) (by kernel_rfl) rfl rfl rfl
theorem tab57 : tab 57 = ⟨.func, 1, 8, [.o .nilFunc]⟩ := rfl
theorem okT57 : OkF 57 := okF Tryd.t57 (by rw [Tryd.underlying57]; trivial) (by kernel_rfl) rfl rfl rfl
theorem tab58 : tab 58 = ⟨.func, 1, 8, [.o .nilFunc]⟩ := rfl
theorem okT58 : OkF 58 := okF Tryd.t58 (by rw [Tryd.underlying58]; trivial) (by kernel_rfl) rfl rfl rfl
theorem tab59 : tab 59 = ⟨.func, 1, 8, [.o .nilFunc]⟩ := rfl
theorem okT59 : OkF 59 := okF Tryd.t59 (by rw [Tryd.underlying59]; trivial) (by kernel_rfl) rfl rfl rfl
theorem tab60 : tab 60 = ⟨.func, 1, 8, [.o .nilFunc]⟩ := rfl
theorem okT60 : OkF 60 := okF Tryd.t60 (by rw [Tryd.underlying60]; trivial) (by kernel_rfl) rfl rfl rfl
theorem tab61 : tab 61 = ⟨.func, 1, 8, [.o .nilFunc]⟩ := rfl
theorem okT61 : OkF 61 := okF Tryd.t61 (by rw [Tryd.underlying61]; trivial) (by kernel_rfl) rfl rfl rfl
theorem tab62 : tab 62 = ⟨.struct [(9, 0), (25, 1)], 5, 64, [.s [], .i .i64 0, .i .i64 0, .f 0, .nil]⟩ := rfl
theorem okT62 : OkTI Tryd.prog 62 ⟨.struct [(9, 0), (25, 1)], 5, 64, [.s [], .i .i64 0, .i .i64 0, .f 0, .nil]⟩ := ⟨by rw [Tryd.underlying62]; first | trivial | rfl | exact ⟨rfl, rfl⟩, Tryd.t62, .agg #[.string ⟨#[]⟩, .int .i64 0, .int .i64 0, .float .f64 0, .slice none 0 0], by kernel_rfl, rfl, rfl, rfl, rfl, rfl, fun _ => ⟨_, rfl⟩, (fun h => by cases h)⟩
theorem tab63 : tab 63 = ⟨.struct [(9, 0), (25, 1)], 5, 64, [.s [], .i .i64 0, .i .i64 0, .f 0, .nil]⟩ := rfl
theorem okT63 : OkTI Tryd.prog 63 ⟨.struct [(9, 0), (25, 1)], 5, 64, [.s [], .i .i64 0, .i .i64 0, .f 0, .nil]⟩ := ⟨by rw [Tryd.underlying63]; first | trivial | rfl | exact ⟨rfl, rfl⟩, Tryd.t63, .agg #[.string ⟨#[]⟩, .int .i64 0, .int .i64 0, .float .f64 0, .slice none 0 0], by kernel_rfl, rfl, rfl, rfl, rfl, rfl, fun _ => ⟨_, rfl⟩, (fun h => by cases h)⟩
theorem tab64 : tab 64 = ⟨.func, 1, 8, [.o .nilFunc]⟩ := rfl
theorem okT64 : OkF 64 := okF Tryd.t64 (by rw [Tryd.underlying64]; trivial) (by kernel_rfl) rfl rfl rfl
theorem tab65 : tab 65 = ⟨.int .i64, 1, 8, [.i .i64 0]⟩ := rfl
theorem okT65 : OkTI Tryd.prog 65 ⟨.int .i64, 1, 8, [.i .i64 0]⟩ := ⟨by rw [Tryd.underlying65]; first | trivial | rfl | exact ⟨rfl, rfl⟩, Tryd.t65, .int .i64 0, by kernel_rfl, rfl, rfl, rfl, rfl, rfl, (fun h => by cases h), fun _ => ⟨rfl, rfl⟩⟩
theorem tab67 : tab 67 = ⟨.func, 1, 8, [.o .nilFunc]⟩ := rfl
theorem okT67 : OkF 67 := okF Tryd.t67 (by rw [Tryd.underlying67]; trivial) (by kernel_rfl) rfl rfl rfl
theorem tab68 : tab 68 = ⟨.func, 1, 8, [.o .nilFunc]⟩ := rfl
theorem okT68 : OkF 68 := okF Tryd.t68 (by rw [Tryd.underlying68]; trivial) (by kernel_rfl) rfl rfl rfl
theorem tab69 : tab 69 = ⟨.func, 1, 8, [.o .nilFunc]⟩ := rfl
theorem okT69 : OkF 69 := okF Tryd.t69 (by rw [Tryd.underlying69]; trivial) (by kernel_rfl) rfl rfl rfl
theorem tab70 : tab 70 = ⟨.func, 1, 8, [.o .nilFunc]⟩ := rfl
theorem okT70 : OkF 70 := okF Tryd.t70 (by rw [Tryd.underlying70]; trivial) (by kernel_rfl) rfl rfl rfl
theorem tab71 : tab 71 = ⟨.func, 1, 8, [.o .nilFunc]⟩ := rfl
theorem okT71 : OkF 71 := okF Tryd.t71 (by rw [Tryd.underlying71]; trivial) (by kernel_rfl) rfl rfl rfl
theorem tab72 : tab 72 = ⟨.func, 1, 8, [.o .nilFunc]⟩ := rfl
theorem okT72 : OkF 72 := okF Tryd.t72 (by rw [Tryd.underlying72]; trivial) (by kernel_rfl) rfl rfl rfl
theorem tab73 : tab 73 = ⟨.int .u32, 1, 4, [.i .u32 0]⟩ := rfl
theorem okT73 : OkTI Tryd.prog 73 ⟨.int .u32, 1, 4, [.i .u32 0]⟩ := ⟨by rw [Tryd.underlying73]; first | trivial | rfl | exact ⟨rfl, rfl⟩, Tryd.t73, .int .u32 0, by kernel_rfl, rfl, rfl, rfl, rfl, rfl, (fun h => by cases h), fun _ => ⟨rfl, rfl⟩⟩
theorem tab74 : tab 74 = ⟨.func, 1, 8, [.o .nilFunc]⟩ := rfl
theorem okT74 : OkF 74 := okF Tryd.t74 (by rw [Tryd.underlying74]; trivial) (by kernel_rfl) rfl rfl rfl
theorem tab75 : tab 75 = ⟨.int .u64, 1, 8, [.i .u64 0]⟩ := rfl
theorem okT75 : OkTI Tryd.prog 75 ⟨.int .u64, 1, 8, [.i .u64 0]⟩ := ⟨by rw [Tryd.underlying75]; first | trivial | rfl | exact ⟨rfl, rfl⟩, Tryd.t75, .int .u64 0, by kernel_rfl, rfl, rfl, rfl, rfl, rfl, (fun h => by cases h), fun _ => ⟨rfl, rfl⟩⟩
theorem tab76 : tab 76 = ⟨.func, 1, 8, [.o .nilFunc]⟩ := rfl
theorem okT76 : OkF 76 := okF Tryd.t76 (by rw [Tryd.underlying76]; trivial) (by kernel_rfl) rfl rfl rfl
theorem tab77 : tab 77 = ⟨.func, 1, 8, [.o .nilFunc]⟩ := rfl
theorem okT77 : OkF 77 := okF Tryd.t77 (by rw [Tryd.underlying77]; trivial) (by kernel_rfl) rfl rfl rfl
theorem tab78 : tab 78 = ⟨.func, 1, 8, [.o .nilFunc]⟩ := rfl
theorem okT78 : OkF 78 := okF Tryd.t78 (by rw [Tryd.underlying78]; trivial) (by kernel_rfl) rfl rfl rfl
theorem tab79 : tab 79 = ⟨.func, 1, 8, [.o .nilFunc]⟩ := rfl
theorem okT79 : OkF 79 := okF Tryd.t79 (by rw [Tryd.underlying79]; trivial) (by kernel_rfl) rfl rfl rfl
theorem tab80 : tab 80 = ⟨.func, 1, 8, [.o .nilFunc]⟩ := rfl
theorem okT80 : OkF 80 := okF Tryd.t80 (by rw [Tryd.underlying80]; trivial) (by kernel_rfl) rfl rfl rfl
theorem tab81 : tab 81 = ⟨.func, 1, 8, [.o .nilFunc]⟩ := rfl
theorem okT81 : OkF 81 := okF Tryd.t81 (by rw [Tryd.underlying81]; trivial) (by kernel_rfl) rfl rfl rfl
theorem tab82 : tab 82 = ⟨.func, 1, 8, [.o .nilFunc]⟩ := rfl
theorem okT82 : OkF 82 := okF Tryd.t82 (by rw [Tryd.underlying82]; trivial) (by kernel_rfl) rfl rfl rfl
theorem tab83 : tab 83 = ⟨.func, 1, 8, [.o .nilFunc]⟩ := rfl
theorem okT83 : OkF 83 := okF Tryd.t83 (by rw [Tryd.underlying83]; trivial) (by kernel_rfl) rfl rfl rfl
theorem tab84 : tab 84 = ⟨.func, 1, 8, [.o .nilFunc]⟩ := rfl
theorem okT84 : OkF 84 := okF Tryd.t84 (by rw [Tryd.underlying84]; trivial) (by kernel_rfl) rfl rfl rfl
theorem tab85 : tab 85 = ⟨.int .u64, 1, 8, [.i .u64 0]⟩ := rfl
theorem okT85 : OkTI Tryd.prog 85 ⟨.int .u64, 1, 8, [.i .u64 0]⟩ := ⟨by rw [Tryd.underlying85]; first | trivial | rfl | exact ⟨rfl, rfl⟩, Tryd.t85, .int .u64 0, by kernel_rfl, rfl, rfl, rfl, rfl, rfl, (fun h => by cases h), fun _ => ⟨rfl, rfl⟩⟩
theorem tab86 : tab 86 = ⟨.func, 1, 8, [.o .nilFunc]⟩ := rfl
theorem okT86 : OkF 86 := okF Tryd.t86 (by rw [Tryd.underlying86]; trivial) (by kernel_rfl) rfl rfl rfl
theorem tab87 : tab 87 = ⟨.func, 1, 8, [.o .nilFunc]⟩ := rfl
theorem okT87 : OkF 87 := okF Tryd.t87 (by rw [Tryd.underlying87]; trivial) (by kernel_rfl) rfl rfl rfl
theorem tab88 : tab 88 = ⟨.func, 1, 8, [.o .nilFunc]⟩ := rfl
theorem okT88 : OkF 88 := okF Tryd.t88 (by rw [Tryd.underlying88]; trivial) (by kernel_rfl) rfl rfl rfl
theorem tab89 : tab 89 = ⟨.ptr 3, 1, 8, [.o (.pointer none)]⟩ := rfl
theorem okT89 : OkTI Tryd.prog 89 ⟨.ptr 3, 1, 8, [.o (.pointer none)]⟩ := ⟨by rw [Tryd.underlying89]; first | trivial | rfl | exact ⟨rfl, rfl⟩, Tryd.t89, .pointer none, by kernel_rfl, rfl, rfl, rfl, rfl, rfl, (fun h => by cases h), fun _ => ⟨rfl, rfl⟩⟩
theorem tab90 : tab 90 = ⟨.func, 1, 8, [.o .nilFunc]⟩ := rfl
theorem okT90 : OkF 90 := okF Tryd.t90 (by rw [Tryd.underlying90]; trivial) (by kernel_rfl) rfl rfl rfl
theorem tab91 : tab 91 = ⟨.func, 1, 8, [.o .nilFunc]⟩ := rfl
theorem okT91 : OkF 91 := okF Tryd.t91 (by rw [Tryd.underlying91]; trivial) (by kernel_rfl) rfl rfl rfl
theorem tab92 : tab 92 = ⟨.func, 1, 8, [.o .nilFunc]⟩ := rfl
theorem okT92 : OkF 92 := okF Tryd.t92 (by rw [Tryd.underlying92]; trivial) (by kernel_rfl) rfl rfl rfl
theorem tab93 : tab 93 = ⟨.func, 1, 8, [.o .nilFunc]⟩ := rfl
theorem okT93 : OkF 93 := okF Tryd.t93 (by rw [Tryd.underlying93]; trivial) (by kernel_rfl) rfl rfl rfl
theorem tab94 : tab 94 = ⟨.func, 1, 8, [.o .nilFunc]⟩ := rfl
theorem okT94 : OkF 94 := okF Tryd.t94 (by rw [Tryd.underlying94]; trivial) (by kernel_rfl) rfl rfl rfl
theorem tab95 : tab 95 = ⟨.func, 1, 8, [.o .nilFunc]⟩ := rfl
theorem okT95 : OkF 95 := okF Tryd.t95 (by rw [Tryd.underlying95]; trivial) (by kernel_rfl) rfl rfl rfl
theorem tab96 : tab 96 = ⟨.func, 1, 8, [.o .nilFunc]⟩ := rfl
theorem okT96 : OkF 96 := okF Tryd.t96 (by rw [Tryd.underlying96]; trivial) (by kernel_rfl) rfl rfl rfl
theorem tab97 : tab 97 = ⟨.func, 1, 8, [.o .nilFunc]⟩ := rfl
theorem okT97 : OkF 97 := okF Tryd.t97 (by rw [Tryd.underlying97]; trivial) (by kernel_rfl) rfl rfl rfl
theorem tab98 : tab 98 = ⟨.ptr 85, 1, 8, [.o (.pointer none)]⟩ := rfl
theorem okT98 : OkTI Tryd.prog 98 ⟨.ptr 85, 1, 8, [.o (.pointer none)]⟩ := ⟨by rw [Tryd.underlying98]; first | trivial | rfl | exact ⟨rfl, rfl⟩, Tryd.t98, .pointer none, by kernel_rfl, rfl, rfl, rfl, rfl, rfl, (fun h => by cases h), fun _ => ⟨rfl, rfl⟩⟩
theorem tab100 : tab 100 = ⟨.func, 1, 8, [.o .nilFunc]⟩ := rfl
theorem okT100 : OkF 100 := okF Tryd.t100 (by rw [Tryd.underlying100]; trivial) (by kernel_rfl) rfl rfl rfl
theorem tab101 : tab 101 = ⟨.func, 1, 8, [.o .nilFunc]⟩ := rfl
theorem okT101 : OkF 101 := okF Tryd.t101 (by rw [Tryd.underlying101]; trivial) (by kernel_rfl) rfl rfl rfl
theorem tab102 : tab 102 = ⟨.func, 1, 8, [.o .nilFunc]⟩ := rfl
theorem okT102 : OkF 102 := okF Tryd.t102 (by rw [Tryd.underlying102]; trivial) (by kernel_rfl) rfl rfl rfl
theorem tab103 : tab 103 = ⟨.func, 1, 8, [.o .nilFunc]⟩ := rfl
theorem okT103 : OkF 103 := okF Tryd.t103 (by rw [Tryd.underlying103]; trivial) (by kernel_rfl) rfl rfl rfl
theorem tab104 : tab 104 = ⟨.func, 1, 8, [.o .nilFunc]⟩ := rfl
theorem okT104 : OkF 104 := okF Tryd.t104 (by rw [Tryd.underlying104]; trivial) (by kernel_rfl) rfl rfl rfl
theorem tab105 : tab 105 = ⟨.func, 1, 8, [.o .nilFunc]⟩ := rfl
theorem okT105 : OkF 105 := okF Tryd.t105 (by rw [Tryd.underlying105]; trivial) (by kernel_rfl) rfl rfl rfl
theorem tab106 : tab 106 = ⟨.func, 1, 8, [.o .nilFunc]⟩ := rfl
theorem okT106 : OkF 106 := okF Tryd.t106 (by rw [Tryd.underlying106]; trivial) (by kernel_rfl) rfl rfl rfl
theorem tab107 : tab 107 = ⟨.func, 1, 8, [.o .nilFunc]⟩ := rfl
theorem okT107 : OkF 107 := okF Tryd.t107 (by rw [Tryd.underlying107]; trivial) (by kernel_rfl) rfl rfl rfl
theorem tab109 : tab 109 = ⟨.func, 1, 8, [.o .nilFunc]⟩ := rfl
theorem okT109 : OkF 109 := okF Tryd.t109 (by rw [Tryd.underlying109]; trivial) (by kernel_rfl) rfl rfl rfl
theorem tab110 : tab 110 = ⟨.func, 1, 8, [.o .nilFunc]⟩ := rfl
theorem okT110 : OkF 110 := okF Tryd.t110 (by rw [Tryd.underlying110]; trivial) (by kernel_rfl) rfl rfl rfl
theorem tab111 : tab 111 = ⟨.array 256 5, 256, 256, [.i .u8 0, .i .u8 0, .i .u8 0, .i .u8 0, .i .u8 0, .i .u8 0, .i .u8 0, .i .u8 0, .i .u8 0, .i .u8 0, .i .u8 0, .i .u8 0, .i .u8 0, .i .u8 0, .i .u8 0, .i .u8 0, .i .u8 0, .i .u8 0, .i .u8 0, .i .u8 0, .i .u8 0, .i .u8 0, .i .u8 0, .i .u8 0, .i .u8 0, .i .u8 0, .i .u8 0, .i .u8 0, .i .u8 0, .i .u8 0, .i .u8 0, .i .u8 0, .i .u8 0, .i .u8 0, .i .u8 0, .i .u8 0, .i .u8 0, .i .u8 0, .i .u8 0, .i .u8 0, .i .u8 0, .i .u8 0, .i .u8 0, .i .u8 0, .i .u8 0, .i .u8 0, .i .u8 0, .i .u8 0, .i .u8 0, .i .u8 0, .i .u8 0, .i .u8 0, .i .u8 0, .i .u8 0, .i .u8 0, .i .u8 0, .i .u8 0, .i .u8 0, .i .u8 0, .i .u8 0, .i .u8 0, .i .u8 0, .i .u8 0, .i .u8 0, .i .u8 0, .i .u8 0, .i .u8 0, .i .u8 0, .i .u8 0, .i .u8 0, .i .u8 0, .i .u8 0, .i .u8 0, .i .u8 0, .i .u8 0, .i .u8 0, .i .u8 0, .i .u8 0, .i .u8 0, .i .u8 0, .i .u8 0, .i .u8 0, .i .u8 0, .i .u8 0, .i .u8 0, .i .u8 0, .i .u8 0, .i .u8 0, .i .u8 0, .i .u8 0, .i .u8 0, .i .u8 0, .i .u8 0, .i .u8 0, .i .u8 0, .i .u8 0, .i .u8 0, .i .u8 0, .i .u8 0, .i .u8 0, .i .u8 0, .i .u8 0, .i .u8 0, .i .u8 0, .i .u8 0, .i .u8 0, .i .u8 0, .i .u8 0, .i .u8 0, .i .u8 0, .i .u8 0, .i .u8 0, .i .u8 0, .i .u8 0, .i .u8 0, .i .u8 0, .i .u8 0, .i .u8 0, .i .u8 0, .i .u8 0, .i .u8 0, .i .u8 0, .i .u8 0, .i .u8 0, .i .u8 0, .i .u8 0, .i .u8 0, .i .u8 0, .i .u8 0, .i .u8 0, .i .u8 0, .i .u8 0, .i .u8 0, .i .u8 0, .i .u8 0, .i .u8 0, .i .u8 0, .i .u8 0, .i .u8 0, .i .u8 0, .i .u8 0, .i .u8 0, .i .u8 0, .i .u8 0, .i .u8 0, .i .u8 0, .i .u8 0, .i .u8 0, .i .u8 0, .i .u8 0, .i .u8 0, .i .u8 0, .i .u8 0, .i .u8 0, .i .u8 0, .i .u8 0, .i .u8 0, .i .u8 0, .i .u8 0, .i .u8 0, .i .u8 0, .i .u8 0, .i .u8 0, .i .u8 0, .i .u8 0, .i .u8 0, .i .u8 0, .i .u8 0, .i .u8 0, .i .u8 0, .i .u8 0, .i .u8 0, .i .u8 0, .i .u8 0, .i .u8 0, .i .u8 0, .i .u8 0, .i .u8 0, .i .u8 0, .i .u8 0, .i .u8 0, .i .u8 0, .i .u8 0, .i .u8 0, .i .u8 0, .i .u8 0, .i .u8 0, .i .u8 0, .i .u8 0, .i .u8 0, .i .u8 0, .i .u8 0, .i .u8 0, .i .u8 0, .i .u8 0, .i .u8 0, .i .u8 0, .i .u8 0, .i .u8 0, .i .u8 0, .i .u8 0, .i .u8 0, .i .u8 0, .i .u8 0, .i .u8 0, .i .u8 0, .i .u8 0, .i .u8 0, .i .u8 0, .i .u8 0, .i .u8 0, .i .u8 0, .i .u8 0, .i .u8 0, .i .u8 0, .i .u8 0, .i .u8 0, .i .u8 0, .i .u8 0, .i .u8 0, .i .u8 0, .i .u8 0, .i .u8 0, .i .u8 0, .i .u8 0, .i .u8 0, .i .u8 0, .i .u8 0, .i .u8 0, .i .u8 0, .i .u8 0, .i .u8 0, .i .u8 0, .i .u8 0, .i .u8 0, .i .u8 0, .i .u8 0, .i .u8 0, .i .u8 0, .i .u8 0, .i .u8 0, .i .u8 0, .i .u8 0, .i .u8 0, .i .u8 0, .i .u8 0, .i .u8 0, .i .u8 0, .i .u8 0, .i .u8 0, .i .u8 0, .i .u8 0, .i .u8 0, .i .u8 0, .i .u8 0, .i .u8 0]⟩ := rfl
theorem okT111 : OkTI Tryd.prog 111 ⟨.array 256 5, 256, 256, [.i .u8 0, .i .u8 0, .i .u8 0, .i .u8 0, .i .u8 0, .i .u8 0, .i .u8 0, .i .u8 0, .i .u8 0, .i .u8 0, .i .u8 0, .i .u8 0, .i .u8 0, .i .u8 0, .i .u8 0, .i .u8 0, .i .u8 0, .i .u8 0, .i .u8 0, .i .u8 0, .i .u8 0, .i .u8 0, .i .u8 0, .i .u8 0, .i .u8 0, .i .u8 0, .i .u8 0, .i .u8 0, .i .u8 0, .i .u8 0, .i .u8 0, .i .u8 0, .i .u8 0, .i .u8 0, .i .u8 0, .i .u8 0, .i .u8 0, .i .u8 0, .i .u8 0, .i .u8 0, .i .u8 0, .i .u8 0, .i .u8 0, .i .u8 0, .i .u8 0, .i .u8 0, .i .u8 0, .i .u8 0, .i .u8 0, .i .u8 0, .i .u8 0, .i .u8 0, .i .u8 0, .i .u8 0, .i .u8 0, .i .u8 0, .i .u8 0, .i .u8 0, .i .u8 0, .i .u8 0, .i .u8 0, .i .u8 0, .i .u8 0, .i .u8 0, .i .u8 0, .i .u8 0, .i .u8 0, .i .u8 0, .i .u8 0, .i .u8 0, .i .u8 0, .i .u8 0, .i .u8 0, .i .u8 0, .i .u8 0, .i .u8 0, .i .u8 0, .i .u8 0, .i .u8 0, .i .u8 0, .i .u8 0, .i .u8 0, .i .u8 0, .i .u8 0, .i .u8 0, .i .u8 0, .i .u8 0, .i .u8 0, .i .u8 0, .i .u8 0, .i .u8 0, .i .u8 0, .i .u8 0, .i .u8 0, .i .u8 0, .i .u8 0, .i .u8 0, .i .u8 0, .i .u8 0, .i .u8 0, .i .u8 0, .i .u8 0, .i .u8 0, .i .u8 0, .i .u8 0, .i .u8 0, .i .u8 0, .i .u8 0, .i .u8 0, .i .u8 0, .i .u8 0, .i .u8 0, .i .u8 0, .i .u8 0, .i .u8 0, .i .u8 0, .i .u8 0, .i .u8 0, .i .u8 0, .i .u8 0, .i .u8 0, .i .u8 0, .i .u8 0, .i .u8 0, .i .u8 0, .i .u8 0, .i .u8 0, .i .u8 0, .i .u8 0, .i .u8 0, .i .u8 0, .i .u8 0, .i .u8 0, .i .u8 0, .i .u8 0, .i .u8 0, .i .u8 0, .i .u8 0, .i .u8 0, .i .u8 0, .i .u8 0, .i .u8 0, .i .u8 0, .i .u8 0, .i .u8 0, .i .u8 0, .i .u8 0, .i .u8 0, .i .u8 0, .i .u8 0, .i .u8 0, .i .u8 0, .i .u8 0, .i .u8 0, .i .u8 0, .i .u8 0, .i .u8 0, .i .u8 0, .i .u8 0, .i .u8 0, .i .u8 0, .i .u8 0, .i .u8 0, .i .u8 0, .i .u8 0, .i .u8 0, .i .u8 0, .i .u8 0, .i .u8 0, .i .u8 0, .i .u8 0, .i .u8 0, .i .u8 0, .i .u8 0, .i .u8 0, .i .u8 0, .i .u8 0, .i .u8 0, .i .u8 0, .i .u8 0, .i .u8 0, .i .u8 0, .i .u8 0, .i .u8 0, .i .u8 0, .i .u8 0, .i .u8 0, .i .u8 0, .i .u8 0, .i .u8 0, .i .u8 0, .i .u8 0, .i .u8 0, .i .u8 0, .i .u8 0, .i .u8 0, .i .u8 0, .i .u8 0, .i .u8 0, .i .u8 0, .i .u8 0, .i .u8 0, .i .u8 0, .i .u8 0, .i .u8 0, .i .u8 0, .i .u8 0, .i .u8 0, .i .u8 0, .i .u8 0, .i .u8 0, .i .u8 0, .i .u8 0, .i .u8 0, .i .u8 0, .i .u8 0, .i .u8 0, .i .u8 0, .i .u8 0, .i .u8 0, .i .u8 0, .i .u8 0, .i .u8 0, .i .u8 0, .i .u8 0, .i .u8 0, .i .u8 0, .i .u8 0, .i .u8 0, .i .u8 0, .i .u8 0, .i .u8 0, .i .u8 0, .i .u8 0, .i .u8 0, .i .u8 0, .i .u8 0, .i .u8 0, .i .u8 0, .i .u8 0, .i .u8 0, .i .u8 0, .i .u8 0, .i .u8 0, .i .u8 0, .i .u8 0, .i .u8 0, .i .u8 0, .i .u8 0, .i .u8 0, .i .u8 0, .i .u8 0, .i .u8 0, .i .u8 0, .i .u8 0, .i .u8 0]⟩ := ⟨by rw [Tryd.underlying111]; first | trivial | rfl | exact ⟨rfl, rfl⟩, Tryd.t111, .agg #[.int .u8 0, .int .u8 0, .int .u8 0, .int .u8 0, .int .u8 0, .int .u8 0, .int .u8 0, .int .u8 0, .int .u8 0, .int .u8 0, .int .u8 0, .int .u8 0, .int .u8 0, .int .u8 0, .int .u8 0, .int .u8 0, .int .u8 0, .int .u8 0, .int .u8 0, .int .u8 0, .int .u8 0, .int .u8 0, .int .u8 0, .int .u8 0, .int .u8 0, .int .u8 0, .int .u8 0, .int .u8 0, .int .u8 0, .int .u8 0, .int .u8 0, .int .u8 0, .int .u8 0, .int .u8 0, .int .u8 0, .int .u8 0, .int .u8 0, .int .u8 0, .int .u8 0, .int .u8 0, .int .u8 0, .int .u8 0, .int .u8 0, .int .u8 0, .int .u8 0, .int .u8 0, .int .u8 0, .int .u8 0, .int .u8 0, .int .u8 0, .int .u8 0, .int .u8 0, .int .u8 0, .int .u8 0, .int .u8 0, .int .u8 0, .int .u8 0, .int .u8 0, .int .u8 0, .int .u8 0, .int .u8 0, .int .u8 0, .int .u8 0, .int .u8 0, .int .u8 0, .int .u8 0, .int .u8 0, .int .u8 0, .int .u8 0, .int .u8 0, .int .u8 0, .int .u8 0, .int .u8 0, .int .u8 0, .int .u8 0, .int .u8 0, .int .u8 0, .int .u8 0, .int .u8 0, .int .u8 0, .int .u8 0, .int .u8 0, .int .u8 0, .int .u8 0, .int .u8 0, .int .u8 0, .int .u8 0, .int .u8 0, .int .u8 0, .int .u8 0, .int .u8 0, .int .u8 0, .int .u8 0, .int .u8 0, .int .u8 0, .int .u8 0, .int .u8 0, .int .u8 0, .int .u8 0, .int .u8 0, .int .u8 0, .int .u8 0, .int .u8 0, .int .u8 0, .int .u8 0, .int .u8 0, .int .u8 0, .int .u8 0, .int .u8 0, .int .u8 0, .int .u8 0, .int .u8 0, .int .u8 0, .int .u8 0, .int .u8 0, .int .u8 0, .int .u8 0, .int .u8 0, .int .u8 0, .int .u8 0, .int .u8 0, .int .u8 0, .int .u8 0, .int .u8 0, .int .u8 0, .int .u8 0, .int .u8 0, .int .u8 0, .int .u8 0, .int .u8 0, .int .u8 0, .int .u8 0, .int .u8 0, .int .u8 0, .int .u8 0, .int .u8 0, .int .u8 0, .int .u8 0, .int .u8 0, .int .u8 0, .int .u8 0, .int .u8 0, .int .u8 0, .int .u8 0, .int .u8 0, .int .u8 0, .int .u8 0, .int .u8 0, .int .u8 0, .int .u8 0, .int .u8 0, .int .u8 0, .int .u8 0, .int .u8 0, .int .u8 0, .int .u8 0, .int .u8 0, .int .u8 0, .int .u8 0, .int .u8 0, .int .u8 0, .int .u8 0, .int .u8 0, .int .u8 0, .int .u8 0, .int .u8 0, .int .u8 0, .int .u8 0, .int .u8 0, .int .u8 0, .int .u8 0, .int .u8 0, .int .u8 0, .int .u8 0, .int .u8 0, .int .u8 0, .int .u8 0, .int .u8 0, .int .u8 0, .int .u8 0, .int .u8 0, .int .u8 0, .int .u8 0, .int .u8 0, .int .u8 0, .int .u8 0, .int .u8 0, .int .u8 0, .int .u8 0, .int .u8 0, .int .u8 0, .int .u8 0, .int .u8 0, .int .u8 0, .int .u8 0, .int .u8 0, .int .u8 0, .int .u8 0, .int .u8 0, .int .u8 0, .int .u8 0, .int .u8 0, .int .u8 0, .int .u8 0, .int .u8 0, .int .u8 0, .int .u8 0, .int .u8 0, .int .u8 0, .int .u8 0, .int .u8 0, .int .u8 0, .int .u8 0, .int .u8 0, .int .u8 0, .int .u8 0, .int .u8 0, .int .u8 0, .int .u8 0, .int .u8 0, .int .u8 0, .int .u8 0, .int .u8 0, .int .u8 0, .int .u8 0, .int .u8 0, .int .u8 0, .int .u8 0, .int .u8 0, .int .u8 0, .int .u8 0, .int .u8 0, .int .u8 0, .int .u8 0, .int .u8 0, .int .u8 0, .int .u8 0, .int .u8 0, .int .u8 0, .int .u8 0, .int .u8 0, .int .u8 0, .int .u8 0, .int .u8 0, .int .u8 0, .int .u8 0, .int .u8 0, .int .u8 0, .int .u8 0, .int .u8 0, .int .u8 0, .int .u8 0, .int .u8 0, .int .u8 0, .int .u8 0, .int .u8 0], by kernel_rfl, rfl, rfl, rfl, rfl, rfl, fun _ => ⟨_, rfl⟩, (fun h => by cases h)⟩
theorem tab112 : tab 112 = ⟨.struct [(5, 0), (5, 1)], 2, 2, [.i .u8 0, .i .u8 0]⟩ := rfl
theorem okT112 : OkTI Tryd.prog 112 ⟨.struct [(5, 0), (5, 1)], 2, 2, [.i .u8 0, .i .u8 0]⟩ := ⟨by rw [Tryd.underlying112]; first | trivial | rfl | exact ⟨rfl, rfl⟩, Tryd.t112, .agg #[.int .u8 0, .int .u8 0], by kernel_rfl, rfl, rfl, rfl, rfl, rfl, fun _ => ⟨_, rfl⟩, (fun h => by cases h)⟩
theorem tab113 : tab 113 = ⟨.struct [(5, 0), (5, 1)], 2, 2, [.i .u8 0, .i .u8 0]⟩ := rfl
theorem okT113 : OkTI Tryd.prog 113 ⟨.struct [(5, 0), (5, 1)], 2, 2, [.i .u8 0, .i .u8 0]⟩ := ⟨by rw [Tryd.underlying113]; first | trivial | rfl | exact ⟨rfl, rfl⟩, Tryd.t113, .agg #[.int .u8 0, .int .u8 0], by kernel_rfl, rfl, rfl, rfl, rfl, rfl, fun _ => ⟨_, rfl⟩, (fun h => by cases h)⟩
theorem tab114 : tab 114 = ⟨.array 16 113, 32, 32, [.i .u8 0, .i .u8 0, .i .u8 0, .i .u8 0, .i .u8 0, .i .u8 0, .i .u8 0, .i .u8 0, .i .u8 0, .i .u8 0, .i .u8 0, .i .u8 0, .i .u8 0, .i .u8 0, .i .u8 0, .i .u8 0, .i .u8 0, .i .u8 0, .i .u8 0, .i .u8 0, .i .u8 0, .i .u8 0, .i .u8 0, .i .u8 0, .i .u8 0, .i .u8 0, .i .u8 0, .i .u8 0, .i .u8 0, .i .u8 0, .i .u8 0, .i .u8 0]⟩ := rfl
theorem okT114 : OkTI Tryd.prog 114 ⟨.array 16 113, 32, 32, [.i .u8 0, .i .u8 0, .i .u8 0, .i .u8 0, .i .u8 0, .i .u8 0, .i .u8 0, .i .u8 0, .i .u8 0, .i .u8 0, .i .u8 0, .i .u8 0, .i .u8 0, .i .u8 0, .i .u8 0, .i .u8 0, .i .u8 0, .i .u8 0, .i .u8 0, .i .u8 0, .i .u8 0, .i .u8 0, .i .u8 0, .i .u8 0, .i .u8 0, .i .u8 0, .i .u8 0, .i .u8 0, .i .u8 0, .i .u8 0, .i .u8 0, .i .u8 0]⟩ := ⟨by rw [Tryd.underlying114]; first | trivial | rfl | exact ⟨rfl, rfl⟩, Tryd.t114, .agg #[.int .u8 0, .int .u8 0, .int .u8 0, .int .u8 0, .int .u8 0, .int .u8 0, .int .u8 0, .int .u8 0, .int .u8 0, .int .u8 0, .int .u8 0, .int .u8 0, .int .u8 0, .int .u8 0, .int .u8 0, .int .u8 0, .int .u8 0, .int .u8 0, .int .u8 0, .int .u8 0, .int .u8 0, .int .u8 0, .int .u8 0, .int .u8 0, .int .u8 0, .int .u8 0, .int .u8 0, .int .u8 0, .int .u8 0, .int .u8 0, .int .u8 0, .int .u8 0], by kernel_rfl, rfl, rfl, rfl, rfl, rfl, fun _ => ⟨_, rfl⟩, (fun h => by cases h)⟩
theorem tab116 : tab 116 = ⟨.func, 1, 8, [.o .nilFunc]⟩ := rfl
theorem okT116 : OkF 116 := okF Tryd.t116 (by rw [Tryd.underlying116]; trivial) (by kernel_rfl) rfl rfl rfl
theorem tab117 : tab 117 = ⟨.func, 1, 8, [.o .nilFunc]⟩ := rfl
theorem okT117 : OkF 117 := okF Tryd.t117 (by rw [Tryd.underlying117]; trivial) (by kernel_rfl) rfl rfl rfl
theorem tab118 : tab 118 = ⟨.struct [(17, 0), (17, 1), (17, 2), (9, 3)], 4, 40, [.o (.pointer none), .o (.pointer none), .o (.pointer none), .s []]⟩ := rfl
theorem okT118 : OkTI Tryd.prog 118 ⟨.struct [(17, 0), (17, 1), (17, 2), (9, 3)], 4, 40, [.o (.pointer none), .o (.pointer none), .o (.pointer none), .s []]⟩ := ⟨by rw [Tryd.underlying118]; first | trivial | rfl | exact ⟨rfl, rfl⟩, Tryd.t118, .agg #[.pointer none, .pointer none, .pointer none, .string ⟨#[]⟩], by kernel_rfl, rfl, rfl, rfl, rfl, rfl, fun _ => ⟨_, rfl⟩, (fun h => by cases h)⟩
theorem tab119 : tab 119 = ⟨.struct [(17, 0), (17, 1), (17, 2), (9, 3)], 4, 40, [.o (.pointer none), .o (.pointer none), .o (.pointer none), .s []]⟩ := rfl
theorem okT119 : OkTI Tryd.prog 119 ⟨.struct [(17, 0), (17, 1), (17, 2), (9, 3)], 4, 40, [.o (.pointer none), .o (.pointer none), .o (.pointer none), .s []]⟩ := ⟨by rw [Tryd.underlying119]; first | trivial | rfl | exact ⟨rfl, rfl⟩, Tryd.t119, .agg #[.pointer none, .pointer none, .pointer none, .string ⟨#[]⟩], by kernel_rfl, rfl, rfl, rfl, rfl, rfl, fun _ => ⟨_, rfl⟩, (fun h => by cases h)⟩
theorem tab123 : tab 123 = ⟨.func, 1, 8, [.o .nilFunc]⟩ := rfl
theorem okT123 : OkF 123 := okF Tryd.t123 (by rw [Tryd.underlying123]; trivial) (by kernel_rfl) rfl rfl rfl
theorem tab124 : tab 124 = ⟨.int .u8, 1, 1, [.i .u8 0]⟩ := rfl
theorem okT124 : OkTI Tryd.prog 124 ⟨.int .u8, 1, 1, [.i .u8 0]⟩ := ⟨by rw [Tryd.underlying124]; first | trivial | rfl | exact ⟨rfl, rfl⟩, Tryd.t124, .int .u8 0, by kernel_rfl, rfl, rfl, rfl, rfl, rfl, (fun h => by cases h), fun _ => ⟨rfl, rfl⟩⟩
theorem tab125 : tab 125 = ⟨.int .u8, 1, 1, [.i .u8 0]⟩ := rfl
theorem okT125 : OkTI Tryd.prog 125 ⟨.int .u8, 1, 1, [.i .u8 0]⟩ := ⟨by rw [Tryd.underlying125]; first | trivial | rfl | exact ⟨rfl, rfl⟩, Tryd.t125, .int .u8 0, by kernel_rfl, rfl, rfl, rfl, rfl, rfl, (fun h => by cases h), fun _ => ⟨rfl, rfl⟩⟩
theorem tab126 : tab 126 = ⟨.func, 1, 8, [.o .nilFunc]⟩ := rfl
theorem okT126 : OkF 126 := okF Tryd.t126 (by rw [Tryd.underlying126]; trivial) (by kernel_rfl) rfl rfl rfl
theorem tab127 : tab 127 = ⟨.ptr 5, 1, 8, [.o (.pointer none)]⟩ := rfl
theorem okT127 : OkTI Tryd.prog 127 ⟨.ptr 5, 1, 8, [.o (.pointer none)]⟩ := ⟨by rw [Tryd.underlying127]; first | trivial | rfl | exact ⟨rfl, rfl⟩, Tryd.t127, .pointer none, by kernel_rfl, rfl, rfl, rfl, rfl, rfl, (fun h => by cases h), fun _ => ⟨rfl, rfl⟩⟩
theorem tab128 : tab 128 = ⟨.int .i32, 1, 4, [.i .i32 0]⟩ := rfl
theorem okT128 : OkTI Tryd.prog 128 ⟨.int .i32, 1, 4, [.i .i32 0]⟩ := ⟨by rw [Tryd.underlying128]; first | trivial | rfl | exact ⟨rfl, rfl⟩, Tryd.t128, .int .i32 0, by kernel_rfl, rfl, rfl, rfl, rfl, rfl, (fun h => by cases h), fun _ => ⟨rfl, rfl⟩⟩
theorem tab129 : tab 129 = ⟨.int .i32, 1, 4, [.i .i32 0]⟩ := rfl
theorem okT129 : OkTI Tryd.prog 129 ⟨.int .i32, 1, 4, [.i .i32 0]⟩ := ⟨by rw [Tryd.underlying129]; first | trivial | rfl | exact ⟨rfl, rfl⟩, Tryd.t129, .int .i32 0, by kernel_rfl, rfl, rfl, rfl, rfl, rfl, (fun h => by cases h), fun _ => ⟨rfl, rfl⟩⟩
theorem tab130 : tab 130 = ⟨.struct [(12, 0), (12, 1), (73, 2), (124, 3), (5, 4), (5, 5), (125, 6), (126, 7), (127, 8), (128, 9), (129, 10)], 11, 48, [.i .u64 0, .i .u64 0, .i .u32 0, .i .u8 0, .i .u8 0, .i .u8 0, .i .u8 0, .o .nilFunc, .o (.pointer none), .i .i32 0, .i .i32 0]⟩ := rfl
theorem okT130 : OkTI Tryd.prog 130 ⟨.struct [(12, 0), (12, 1), (73, 2), (124, 3), (5, 4), (5, 5), (125, 6), (126, 7), (127, 8), (128, 9), (129, 10)], 11, 48, [.i .u64 0, .i .u64 0, .i .u32 0, .i .u8 0, .i .u8 0, .i .u8 0, .i .u8 0, .o .nilFunc, .o (.pointer none), .i .i32 0, .i .i32 0]⟩ := ⟨by rw [Tryd.underlying130]; first | trivial | rfl | exact ⟨rfl, rfl⟩, Tryd.t130, .agg #[.int .u64 0, .int .u64 0, .int .u32 0, .int .u8 0, .int .u8 0, .int .u8 0, .int .u8 0, .nilFunc, .pointer none, .int .i32 0, .int .i32 0], by kernel_rfl, rfl, rfl, rfl, rfl, rfl, fun _ => ⟨_, rfl⟩, (fun h => by cases h)⟩
theorem tab131 : tab 131 = ⟨.struct [(12, 0), (12, 1), (73, 2), (124, 3), (5, 4), (5, 5), (125, 6), (126, 7), (127, 8), (128, 9), (129, 10)], 11, 48, [.i .u64 0, .i .u64 0, .i .u32 0, .i .u8 0, .i .u8 0, .i .u8 0, .i .u8 0, .o .nilFunc, .o (.pointer none), .i .i32 0, .i .i32 0]⟩ := rfl
theorem okT131 : OkTI Tryd.prog 131 ⟨.struct [(12, 0), (12, 1), (73, 2), (124, 3), (5, 4), (5, 5), (125, 6), (126, 7), (127, 8), (128, 9), (129, 10)], 11, 48, [.i .u64 0, .i .u64 0, .i .u32 0, .i .u8 0, .i .u8 0, .i .u8 0, .i .u8 0, .o .nilFunc, .o (.pointer none), .i .i32 0, .i .i32 0]⟩ := ⟨by rw [Tryd.underlying131]; first | trivial | rfl | exact ⟨rfl, rfl⟩, Tryd.t131, .agg #[.int .u64 0, .int .u64 0, .int .u32 0, .int .u8 0, .int .u8 0, .int .u8 0, .int .u8 0, .nilFunc, .pointer none, .int .i32 0, .int .i32 0], by kernel_rfl, rfl, rfl, rfl, rfl, rfl, fun _ => ⟨_, rfl⟩, (fun h => by cases h)⟩
def AllOK (P : Program) : Nat → List TI → Prop
  | _, [] => True
  | i, t :: l => OkTI P i t ∧ AllOK P (i + 1) l
theorem AllOK.at_ {P : Program} : ∀ {l : List TI} {i j : Nat}, AllOK P i l → OkTI P (i + j) (l.getD j ⟨.no, 0, 0, []⟩)
  | [], _, _, _ => rfl
  | t :: l, i, 0, h => h.1
  | t :: l, i, j + 1, h => by
    have := AllOK.at_ (j := j) h.2
    rw [show i + (j + 1) = i + 1 + j by omega]
    exact this
set_option maxRecDepth 100000 in
theorem allOK : AllOK Tryd.prog 0 tabL := ⟨rfl, okT1, okT2, okT3, okT4, okT5, okT6, okT7, okT8, okT9, okT10, okT11, okT12, okT13, okT14, okT15, okT16, okT17, okT18, okT19, okT20, okT21, okT22, okT23, okT24, okT25, okT26, okT27, okT28, okT29, okT30, okT31, rfl, okT33, rfl, okT35, okT36, rfl, okT38, okT39, okT40, okT41, okT42, okT43, rfl, okT45, okT46, okT47, okT48, okT49, okT50, okT51, okT52, okT53, rfl, okT55, okT56, okT57, okT58, okT59, okT60, okT61, okT62, okT63, okT64, okT65, rfl, okT67, okT68, okT69, okT70, okT71, okT72, okT73, okT74, okT75, okT76, okT77, okT78, okT79, okT80, okT81, okT82, okT83, okT84, okT85, okT86, okT87, okT88, okT89, okT90, okT91, okT92, okT93, okT94, okT95, okT96, okT97, okT98, rfl, okT100, okT101, okT102, okT103, okT104, okT105, okT106, okT107, rfl, okT109, okT110, okT111, okT112, okT113, okT114, rfl, okT116, okT117, okT118, okT119, rfl, rfl, rfl, okT123, okT124, okT125, okT126, okT127, okT128, okT129, okT130, okT131, rfl, trivial⟩
theorem tabOK : TabOK Tryd.prog tab := fun t => by
  have := AllOK.at_ (j := t) allOK
  rwa [Nat.zero_add] at this
theorem hmix : Tryd.prog.follows .mixedOrders = true := by kernel_rfl
attribute [go_sem] tab1 tab2 tab3 tab4 tab5 tab6 tab7 tab8 tab9 tab10 tab11 tab12 tab13 tab14 tab15 tab16 tab17 tab18 tab19 tab20 tab21 tab22 tab23 tab24 tab25 tab26 tab27 tab28 tab29 tab30 tab31 tab33 tab35 tab36 tab38 tab39 tab40 tab41 tab42 tab43 tab45 tab46 tab47 tab48 tab49 tab50 tab51 tab52 tab53 tab55 tab56 tab57 tab58 tab59 tab60 tab61 tab62 tab63 tab64 tab65 tab67 tab68 tab69 tab70 tab71 tab72 tab73 tab74 tab75 tab76 tab77 tab78 tab79 tab80 tab81 tab82 tab83 tab84 tab85 tab86 tab87 tab88 tab89 tab90 tab91 tab92 tab93 tab94 tab95 tab96 tab97 tab98 tab100 tab101 tab102 tab103 tab104 tab105 tab106 tab107 tab109 tab110 tab111 tab112 tab113 tab114 tab116 tab117 tab118 tab119 tab123 tab124 tab125 tab126 tab127 tab128 tab129 tab130 tab131

end Go.Proofs.YtcoedlaifhfnnaaDoor
