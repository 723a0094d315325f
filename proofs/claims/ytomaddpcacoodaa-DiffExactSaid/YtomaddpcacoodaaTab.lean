/-
  The table of types of this seat's program, as the engine takes it; that it is the program's. Written by a program (wip/tools/gen_tab.py). No condition.
-/
import Derived.Test.YtomaddpcacoodaaVA
import Derived.Test.YtomaddpcacoodaaProg
set_option linter.unusedSimpArgs false
set_option linter.unusedVariables false
namespace Go.Proofs.Ytomaddpcacoodaa
open Go Go.Dm

def tabL : List TI := [
  ⟨.no, 0, 0, []⟩,
  ⟨.func, 1, 8, [.o .nilFunc]⟩,
  ⟨.int .i64, 1, 8, [.i .i64 0]⟩,
  ⟨.int .i64, 1, 8, [.i .i64 0]⟩,
  ⟨.bool, 1, 1, [.b false]⟩,
  ⟨.int .u8, 1, 1, [.i .u8 0]⟩,
  ⟨.int .u8, 1, 1, [.i .u8 0]⟩,
  ⟨.struct [(2, 0), (3, 1), (4, 2), (6, 3)], 4, 24, [.i .i64 0, .i .i64 0, .b false, .i .u8 0]⟩,
  ⟨.struct [(2, 0), (3, 1), (4, 2), (6, 3)], 4, 24, [.i .i64 0, .i .i64 0, .b false, .i .u8 0]⟩,
  ⟨.str, 1, 16, [.s []]⟩,
  ⟨.str, 1, 16, [.s []]⟩,
  ⟨.str, 1, 16, [.s []]⟩,
  ⟨.int .u64, 1, 8, [.i .u64 0]⟩,
  ⟨.struct [(9, 0), (12, 1)], 2, 24, [.s [], .i .u64 0]⟩,
  ⟨.struct [(9, 0), (12, 1)], 2, 24, [.s [], .i .u64 0]⟩,
  ⟨.ptr 141, 1, 8, [.o (.pointer none)]⟩,
  ⟨.ptr 144, 1, 8, [.o (.pointer none)]⟩,
  ⟨.ptr 153, 1, 8, [.o (.pointer none)]⟩,
  ⟨.struct [(17, 0)], 1, 8, [.o (.pointer none)]⟩,
  ⟨.struct [(17, 0)], 1, 8, [.o (.pointer none)]⟩,
  ⟨.iface, 1, 16, [.o .nilIface]⟩,
  ⟨.int .i32, 1, 4, [.i .i32 0]⟩,
  ⟨.float, 1, 8, [.f 0]⟩,
  ⟨.slice 5, 1, 24, [.nil]⟩,
  ⟨.struct [(3, 0), (3, 1), (3, 2), (22, 3), (23, 4)], 5, 56, [.i .i64 0, .i .i64 0, .i .i64 0, .f 0, .nil]⟩,
  ⟨.struct [(3, 0), (3, 1), (3, 2), (22, 3), (23, 4)], 5, 56, [.i .i64 0, .i .i64 0, .i .i64 0, .f 0, .nil]⟩,
  ⟨.struct [(3, 0), (3, 1), (22, 2), (23, 3)], 4, 48, [.i .i64 0, .i .i64 0, .f 0, .nil]⟩,
  ⟨.struct [(3, 0), (3, 1), (22, 2), (23, 3)], 4, 48, [.i .i64 0, .i .i64 0, .f 0, .nil]⟩,
  ⟨.func, 1, 8, [.o .nilFunc]⟩,
  ⟨.func, 1, 8, [.o .nilFunc]⟩,
  ⟨.no, 0, 0, []⟩,
  ⟨.func, 1, 8, [.o .nilFunc]⟩,
  ⟨.func, 1, 8, [.o .nilFunc]⟩,
  ⟨.func, 1, 8, [.o .nilFunc]⟩,
  ⟨.func, 1, 8, [.o .nilFunc]⟩,
  ⟨.func, 1, 8, [.o .nilFunc]⟩,
  ⟨.func, 1, 8, [.o .nilFunc]⟩,
  ⟨.func, 1, 8, [.o .nilFunc]⟩,
  ⟨.func, 1, 8, [.o .nilFunc]⟩,
  ⟨.func, 1, 8, [.o .nilFunc]⟩,
  ⟨.slice 71, 1, 24, [.nil]⟩,
  ⟨.slice 77, 1, 24, [.nil]⟩,
  ⟨.slice 55, 1, 24, [.nil]⟩,
  ⟨.func, 1, 8, [.o .nilFunc]⟩,
  ⟨.func, 1, 8, [.o .nilFunc]⟩,
  ⟨.slice 50, 1, 24, [.nil]⟩,
  ⟨.func, 1, 8, [.o .nilFunc]⟩,
  ⟨.no, 0, 0, []⟩,
  ⟨.func, 1, 8, [.o .nilFunc]⟩,
  ⟨.struct [(9, 0), (3, 1), (27, 2), (27, 6)], 10, 120, [.s [], .i .i64 0, .i .i64 0, .i .i64 0, .f 0, .nil, .i .i64 0, .i .i64 0, .f 0, .nil]⟩,
  ⟨.struct [(9, 0), (3, 1), (27, 2), (27, 6)], 10, 120, [.s [], .i .i64 0, .i .i64 0, .i .i64 0, .f 0, .nil, .i .i64 0, .i .i64 0, .f 0, .nil]⟩,
  ⟨.func, 1, 8, [.o .nilFunc]⟩,
  ⟨.func, 1, 8, [.o .nilFunc]⟩,
  ⟨.func, 1, 8, [.o .nilFunc]⟩,
  ⟨.struct [(9, 0), (27, 1)], 5, 64, [.s [], .i .i64 0, .i .i64 0, .f 0, .nil]⟩,
  ⟨.struct [(9, 0), (27, 1)], 5, 64, [.s [], .i .i64 0, .i .i64 0, .f 0, .nil]⟩,
  ⟨.func, 1, 8, [.o .nilFunc]⟩,
  ⟨.func, 1, 8, [.o .nilFunc]⟩,
  ⟨.func, 1, 8, [.o .nilFunc]⟩,
  ⟨.func, 1, 8, [.o .nilFunc]⟩,
  ⟨.func, 1, 8, [.o .nilFunc]⟩,
  ⟨.func, 1, 8, [.o .nilFunc]⟩,
  ⟨.func, 1, 8, [.o .nilFunc]⟩,
  ⟨.func, 1, 8, [.o .nilFunc]⟩,
  ⟨.func, 1, 8, [.o .nilFunc]⟩,
  ⟨.func, 1, 8, [.o .nilFunc]⟩,
  ⟨.int .u64, 1, 8, [.i .u64 0]⟩,
  ⟨.func, 1, 8, [.o .nilFunc]⟩,
  ⟨.array 12 22, 12, 96, [.f 0, .f 0, .f 0, .f 0, .f 0, .f 0, .f 0, .f 0, .f 0, .f 0, .f 0, .f 0]⟩,
  ⟨.func, 1, 8, [.o .nilFunc]⟩,
  ⟨.struct [(3, 0), (25, 1)], 6, 64, [.i .i64 0, .i .i64 0, .i .i64 0, .i .i64 0, .f 0, .nil]⟩,
  ⟨.struct [(3, 0), (25, 1)], 6, 64, [.i .i64 0, .i .i64 0, .i .i64 0, .i .i64 0, .f 0, .nil]⟩,
  ⟨.func, 1, 8, [.o .nilFunc]⟩,
  ⟨.int .i64, 1, 8, [.i .i64 0]⟩,
  ⟨.no, 0, 0, []⟩,
  ⟨.func, 1, 8, [.o .nilFunc]⟩,
  ⟨.struct [(3, 0), (3, 1), (3, 2), (25, 3)], 8, 80, [.i .i64 0, .i .i64 0, .i .i64 0, .i .i64 0, .i .i64 0, .i .i64 0, .f 0, .nil]⟩,
  ⟨.struct [(3, 0), (3, 1), (3, 2), (25, 3)], 8, 80, [.i .i64 0, .i .i64 0, .i .i64 0, .i .i64 0, .i .i64 0, .i .i64 0, .f 0, .nil]⟩,
  ⟨.func, 1, 8, [.o .nilFunc]⟩,
  ⟨.func, 1, 8, [.o .nilFunc]⟩,
  ⟨.slice 9, 1, 24, [.nil]⟩,
  ⟨.func, 1, 8, [.o .nilFunc]⟩,
  ⟨.func, 1, 8, [.o .nilFunc]⟩,
  ⟨.func, 1, 8, [.o .nilFunc]⟩,
  ⟨.func, 1, 8, [.o .nilFunc]⟩,
  ⟨.func, 1, 8, [.o .nilFunc]⟩,
  ⟨.func, 1, 8, [.o .nilFunc]⟩,
  ⟨.func, 1, 8, [.o .nilFunc]⟩,
  ⟨.func, 1, 8, [.o .nilFunc]⟩,
  ⟨.func, 1, 8, [.o .nilFunc]⟩,
  ⟨.func, 1, 8, [.o .nilFunc]⟩,
  ⟨.no, 0, 0, []⟩,
  ⟨.func, 1, 8, [.o .nilFunc]⟩,
  ⟨.func, 1, 8, [.o .nilFunc]⟩,
  ⟨.func, 1, 8, [.o .nilFunc]⟩,
  ⟨.func, 1, 8, [.o .nilFunc]⟩,
  ⟨.func, 1, 8, [.o .nilFunc]⟩,
  ⟨.func, 1, 8, [.o .nilFunc]⟩,
  ⟨.func, 1, 8, [.o .nilFunc]⟩,
  ⟨.slice 42, 1, 24, [.nil]⟩,
  ⟨.func, 1, 8, [.o .nilFunc]⟩,
  ⟨.func, 1, 8, [.o .nilFunc]⟩,
  ⟨.func, 1, 8, [.o .nilFunc]⟩,
  ⟨.int .u64, 1, 8, [.i .u64 0]⟩,
  ⟨.no, 0, 0, []⟩,
  ⟨.func, 1, 8, [.o .nilFunc]⟩,
  ⟨.func, 1, 8, [.o .nilFunc]⟩,
  ⟨.func, 1, 8, [.o .nilFunc]⟩,
  ⟨.array 6 9, 6, 96, [.s [], .s [], .s [], .s [], .s [], .s []]⟩,
  ⟨.func, 1, 8, [.o .nilFunc]⟩,
  ⟨.slice 3, 1, 24, [.nil]⟩,
  ⟨.func, 1, 8, [.o .nilFunc]⟩,
  ⟨.func, 1, 8, [.o .nilFunc]⟩,
  ⟨.func, 1, 8, [.o .nilFunc]⟩,
  ⟨.int .i64, 1, 8, [.i .i64 0]⟩,
  ⟨.no, 0, 0, []⟩,
  ⟨.func, 1, 8, [.o .nilFunc]⟩,
  ⟨.func, 1, 8, [.o .nilFunc]⟩,
  ⟨.func, 1, 8, [.o .nilFunc]⟩,
  ⟨.func, 1, 8, [.o .nilFunc]⟩,
  ⟨.func, 1, 8, [.o .nilFunc]⟩,
  ⟨.int .u32, 1, 4, [.i .u32 0]⟩,
  ⟨.func, 1, 8, [.o .nilFunc]⟩,
  ⟨.func, 1, 8, [.o .nilFunc]⟩,
  ⟨.func, 1, 8, [.o .nilFunc]⟩,
  ⟨.func, 1, 8, [.o .nilFunc]⟩,
  ⟨.ptr 128, 1, 8, [.o (.pointer none)]⟩,
  ⟨.struct [(23, 0)], 1, 24, [.nil]⟩,
  ⟨.struct [(23, 0)], 1, 24, [.nil]⟩,
  ⟨.func, 1, 8, [.o .nilFunc]⟩,
  ⟨.int .u64, 1, 8, [.i .u64 0]⟩,
  ⟨.func, 1, 8, [.o .nilFunc]⟩,
  ⟨.func, 1, 8, [.o .nilFunc]⟩,
  ⟨.func, 1, 8, [.o .nilFunc]⟩,
  ⟨.ptr 3, 1, 8, [.o (.pointer none)]⟩,
  ⟨.func, 1, 8, [.o .nilFunc]⟩,
  ⟨.func, 1, 8, [.o .nilFunc]⟩,
  ⟨.ptr 130, 1, 8, [.o (.pointer none)]⟩,
  ⟨.func, 1, 8, [.o .nilFunc]⟩,
  ⟨.func, 1, 8, [.o .nilFunc]⟩,
  ⟨.struct [(17, 0), (17, 1), (17, 2), (9, 3)], 4, 40, [.o (.pointer none), .o (.pointer none), .o (.pointer none), .s []]⟩,
  ⟨.struct [(17, 0), (17, 1), (17, 2), (9, 3)], 4, 40, [.o (.pointer none), .o (.pointer none), .o (.pointer none), .s []]⟩,
  ⟨.no, 0, 0, []⟩,
  ⟨.no, 0, 0, []⟩,
  ⟨.no, 0, 0, []⟩,
  ⟨.func, 1, 8, [.o .nilFunc]⟩,
  ⟨.int .u8, 1, 1, [.i .u8 0]⟩,
  ⟨.int .u8, 1, 1, [.i .u8 0]⟩,
  ⟨.func, 1, 8, [.o .nilFunc]⟩,
  ⟨.ptr 5, 1, 8, [.o (.pointer none)]⟩,
  ⟨.int .i32, 1, 4, [.i .i32 0]⟩,
  ⟨.int .i32, 1, 4, [.i .i32 0]⟩,
  ⟨.struct [(12, 0), (12, 1), (121, 2), (146, 3), (5, 4), (5, 5), (147, 6), (148, 7), (149, 8), (150, 9), (151, 10)], 11, 48, [.i .u64 0, .i .u64 0, .i .u32 0, .i .u8 0, .i .u8 0, .i .u8 0, .i .u8 0, .o .nilFunc, .o (.pointer none), .i .i32 0, .i .i32 0]⟩,
  ⟨.struct [(12, 0), (12, 1), (121, 2), (146, 3), (5, 4), (5, 5), (147, 6), (148, 7), (149, 8), (150, 9), (151, 10)], 11, 48, [.i .u64 0, .i .u64 0, .i .u32 0, .i .u8 0, .i .u8 0, .i .u8 0, .i .u8 0, .o .nilFunc, .o (.pointer none), .i .i32 0, .i .i32 0]⟩,
  ⟨.no, 0, 0, []⟩]
def tab : Tab := fun t => tabL.getD t ⟨.no, 0, 0, []⟩
theorem tab1 : tab 1 = ⟨.func, 1, 8, [.o .nilFunc]⟩ := rfl
theorem okT1 : OkTI Try.prog 1 ⟨.func, 1, 8, [.o .nilFunc]⟩ := ⟨by rw [Try.underlying1]; first | trivial | rfl | exact ⟨rfl, rfl⟩, Try.t1, .nilFunc, by kernel_rfl, rfl, rfl, rfl, rfl, rfl, (fun h => by cases h), fun _ => ⟨rfl, rfl⟩⟩
theorem tab2 : tab 2 = ⟨.int .i64, 1, 8, [.i .i64 0]⟩ := rfl
theorem okT2 : OkTI Try.prog 2 ⟨.int .i64, 1, 8, [.i .i64 0]⟩ := ⟨by rw [Try.underlying2]; first | trivial | rfl | exact ⟨rfl, rfl⟩, Try.t2, .int .i64 0, by kernel_rfl, rfl, rfl, rfl, rfl, rfl, (fun h => by cases h), fun _ => ⟨rfl, rfl⟩⟩
theorem tab3 : tab 3 = ⟨.int .i64, 1, 8, [.i .i64 0]⟩ := rfl
theorem okT3 : OkTI Try.prog 3 ⟨.int .i64, 1, 8, [.i .i64 0]⟩ := ⟨by rw [Try.underlying3]; first | trivial | rfl | exact ⟨rfl, rfl⟩, Try.t3, .int .i64 0, by kernel_rfl, rfl, rfl, rfl, rfl, rfl, (fun h => by cases h), fun _ => ⟨rfl, rfl⟩⟩
theorem tab4 : tab 4 = ⟨.bool, 1, 1, [.b false]⟩ := rfl
theorem okT4 : OkTI Try.prog 4 ⟨.bool, 1, 1, [.b false]⟩ := ⟨by rw [Try.underlying4]; first | trivial | rfl | exact ⟨rfl, rfl⟩, Try.t4, .bool false, by kernel_rfl, rfl, rfl, rfl, rfl, rfl, (fun h => by cases h), fun _ => ⟨rfl, rfl⟩⟩
theorem tab5 : tab 5 = ⟨.int .u8, 1, 1, [.i .u8 0]⟩ := rfl
theorem okT5 : OkTI Try.prog 5 ⟨.int .u8, 1, 1, [.i .u8 0]⟩ := ⟨by rw [Try.underlying5]; first | trivial | rfl | exact ⟨rfl, rfl⟩, Try.t5, .int .u8 0, by kernel_rfl, rfl, rfl, rfl, rfl, rfl, (fun h => by cases h), fun _ => ⟨rfl, rfl⟩⟩
theorem tab6 : tab 6 = ⟨.int .u8, 1, 1, [.i .u8 0]⟩ := rfl
theorem okT6 : OkTI Try.prog 6 ⟨.int .u8, 1, 1, [.i .u8 0]⟩ := ⟨by rw [Try.underlying6]; first | trivial | rfl | exact ⟨rfl, rfl⟩, Try.t6, .int .u8 0, by kernel_rfl, rfl, rfl, rfl, rfl, rfl, (fun h => by cases h), fun _ => ⟨rfl, rfl⟩⟩
theorem tab7 : tab 7 = ⟨.struct [(2, 0), (3, 1), (4, 2), (6, 3)], 4, 24, [.i .i64 0, .i .i64 0, .b false, .i .u8 0]⟩ := rfl
theorem okT7 : OkTI Try.prog 7 ⟨.struct [(2, 0), (3, 1), (4, 2), (6, 3)], 4, 24, [.i .i64 0, .i .i64 0, .b false, .i .u8 0]⟩ := ⟨by rw [Try.underlying7]; first | trivial | rfl | exact ⟨rfl, rfl⟩, Try.t7, .agg #[.int .i64 0, .int .i64 0, .bool false, .int .u8 0], by kernel_rfl, rfl, rfl, rfl, rfl, rfl, fun _ => ⟨_, rfl⟩, (fun h => by cases h)⟩
theorem tab8 : tab 8 = ⟨.struct [(2, 0), (3, 1), (4, 2), (6, 3)], 4, 24, [.i .i64 0, .i .i64 0, .b false, .i .u8 0]⟩ := rfl
theorem okT8 : OkTI Try.prog 8 ⟨.struct [(2, 0), (3, 1), (4, 2), (6, 3)], 4, 24, [.i .i64 0, .i .i64 0, .b false, .i .u8 0]⟩ := ⟨by rw [Try.underlying8]; first | trivial | rfl | exact ⟨rfl, rfl⟩, Try.t8, .agg #[.int .i64 0, .int .i64 0, .bool false, .int .u8 0], by kernel_rfl, rfl, rfl, rfl, rfl, rfl, fun _ => ⟨_, rfl⟩, (fun h => by cases h)⟩
theorem tab9 : tab 9 = ⟨.str, 1, 16, [.s []]⟩ := rfl
theorem okT9 : OkTI Try.prog 9 ⟨.str, 1, 16, [.s []]⟩ := ⟨by rw [Try.underlying9]; first | trivial | rfl | exact ⟨rfl, rfl⟩, Try.t9, .string ⟨#[]⟩, by kernel_rfl, rfl, rfl, rfl, rfl, rfl, (fun h => by cases h), fun _ => ⟨rfl, rfl⟩⟩
theorem tab10 : tab 10 = ⟨.str, 1, 16, [.s []]⟩ := rfl
theorem okT10 : OkTI Try.prog 10 ⟨.str, 1, 16, [.s []]⟩ := ⟨by rw [Try.underlying10]; first | trivial | rfl | exact ⟨rfl, rfl⟩, Try.t10, .string ⟨#[]⟩, by kernel_rfl, rfl, rfl, rfl, rfl, rfl, (fun h => by cases h), fun _ => ⟨rfl, rfl⟩⟩
theorem tab11 : tab 11 = ⟨.str, 1, 16, [.s []]⟩ := rfl
theorem okT11 : OkTI Try.prog 11 ⟨.str, 1, 16, [.s []]⟩ := ⟨by rw [Try.underlying11]; first | trivial | rfl | exact ⟨rfl, rfl⟩, Try.t11, .string ⟨#[]⟩, by kernel_rfl, rfl, rfl, rfl, rfl, rfl, (fun h => by cases h), fun _ => ⟨rfl, rfl⟩⟩
theorem tab12 : tab 12 = ⟨.int .u64, 1, 8, [.i .u64 0]⟩ := rfl
theorem okT12 : OkTI Try.prog 12 ⟨.int .u64, 1, 8, [.i .u64 0]⟩ := ⟨by rw [Try.underlying12]; first | trivial | rfl | exact ⟨rfl, rfl⟩, Try.t12, .int .u64 0, by kernel_rfl, rfl, rfl, rfl, rfl, rfl, (fun h => by cases h), fun _ => ⟨rfl, rfl⟩⟩
theorem tab13 : tab 13 = ⟨.struct [(9, 0), (12, 1)], 2, 24, [.s [], .i .u64 0]⟩ := rfl
theorem okT13 : OkTI Try.prog 13 ⟨.struct [(9, 0), (12, 1)], 2, 24, [.s [], .i .u64 0]⟩ := ⟨by rw [Try.underlying13]; first | trivial | rfl | exact ⟨rfl, rfl⟩, Try.t13, .agg #[.string ⟨#[]⟩, .int .u64 0], by kernel_rfl, rfl, rfl, rfl, rfl, rfl, fun _ => ⟨_, rfl⟩, (fun h => by cases h)⟩
theorem tab14 : tab 14 = ⟨.struct [(9, 0), (12, 1)], 2, 24, [.s [], .i .u64 0]⟩ := rfl
theorem okT14 : OkTI Try.prog 14 ⟨.struct [(9, 0), (12, 1)], 2, 24, [.s [], .i .u64 0]⟩ := ⟨by rw [Try.underlying14]; first | trivial | rfl | exact ⟨rfl, rfl⟩, Try.t14, .agg #[.string ⟨#[]⟩, .int .u64 0], by kernel_rfl, rfl, rfl, rfl, rfl, rfl, fun _ => ⟨_, rfl⟩, (fun h => by cases h)⟩
theorem tab15 : tab 15 = ⟨.ptr 141, 1, 8, [.o (.pointer none)]⟩ := rfl
theorem okT15 : OkTI Try.prog 15 ⟨.ptr 141, 1, 8, [.o (.pointer none)]⟩ := ⟨by rw [Try.underlying15]; first | trivial | rfl | exact ⟨rfl, rfl⟩, Try.t15, .pointer none, by kernel_rfl, rfl, rfl, rfl, rfl, rfl, (fun h => by cases h), fun _ => ⟨rfl, rfl⟩⟩
theorem tab16 : tab 16 = ⟨.ptr 144, 1, 8, [.o (.pointer none)]⟩ := rfl
theorem okT16 : OkTI Try.prog 16 ⟨.ptr 144, 1, 8, [.o (.pointer none)]⟩ := ⟨by rw [Try.underlying16]; first | trivial | rfl | exact ⟨rfl, rfl⟩, Try.t16, .pointer none, by kernel_rfl, rfl, rfl, rfl, rfl, rfl, (fun h => by cases h), fun _ => ⟨rfl, rfl⟩⟩
theorem tab17 : tab 17 = ⟨.ptr 153, 1, 8, [.o (.pointer none)]⟩ := rfl
theorem okT17 : OkTI Try.prog 17 ⟨.ptr 153, 1, 8, [.o (.pointer none)]⟩ := ⟨by rw [Try.underlying17]; first | trivial | rfl | exact ⟨rfl, rfl⟩, Try.t17, .pointer none, by kernel_rfl, rfl, rfl, rfl, rfl, rfl, (fun h => by cases h), fun _ => ⟨rfl, rfl⟩⟩
theorem tab18 : tab 18 = ⟨.struct [(17, 0)], 1, 8, [.o (.pointer none)]⟩ := rfl
theorem okT18 : OkTI Try.prog 18 ⟨.struct [(17, 0)], 1, 8, [.o (.pointer none)]⟩ := ⟨by rw [Try.underlying18]; first | trivial | rfl | exact ⟨rfl, rfl⟩, Try.t18, .agg #[.pointer none], by kernel_rfl, rfl, rfl, rfl, rfl, rfl, fun _ => ⟨_, rfl⟩, (fun h => by cases h)⟩
theorem tab19 : tab 19 = ⟨.struct [(17, 0)], 1, 8, [.o (.pointer none)]⟩ := rfl
theorem okT19 : OkTI Try.prog 19 ⟨.struct [(17, 0)], 1, 8, [.o (.pointer none)]⟩ := ⟨by rw [Try.underlying19]; first | trivial | rfl | exact ⟨rfl, rfl⟩, Try.t19, .agg #[.pointer none], by kernel_rfl, rfl, rfl, rfl, rfl, rfl, fun _ => ⟨_, rfl⟩, (fun h => by cases h)⟩
theorem tab20 : tab 20 = ⟨.iface, 1, 16, [.o .nilIface]⟩ := rfl
theorem okT20 : OkTI Try.prog 20 ⟨.iface, 1, 16, [.o .nilIface]⟩ := ⟨by rw [Try.underlying20]; first | trivial | rfl | exact ⟨rfl, rfl⟩, Try.t20, .nilIface, by kernel_rfl, rfl, rfl, rfl, rfl, rfl, (fun h => by cases h), fun _ => ⟨rfl, rfl⟩⟩
theorem tab21 : tab 21 = ⟨.int .i32, 1, 4, [.i .i32 0]⟩ := rfl
theorem okT21 : OkTI Try.prog 21 ⟨.int .i32, 1, 4, [.i .i32 0]⟩ := ⟨by rw [Try.underlying21]; first | trivial | rfl | exact ⟨rfl, rfl⟩, Try.t21, .int .i32 0, by kernel_rfl, rfl, rfl, rfl, rfl, rfl, (fun h => by cases h), fun _ => ⟨rfl, rfl⟩⟩
theorem tab22 : tab 22 = ⟨.float, 1, 8, [.f 0]⟩ := rfl
theorem okT22 : OkTI Try.prog 22 ⟨.float, 1, 8, [.f 0]⟩ := ⟨by rw [Try.underlying22]; first | trivial | rfl | exact ⟨rfl, rfl⟩, Try.t22, .float .f64 0, by kernel_rfl, rfl, rfl, rfl, rfl, rfl, (fun h => by cases h), fun _ => ⟨rfl, rfl⟩⟩
theorem tab23 : tab 23 = ⟨.slice 5, 1, 24, [.nil]⟩ := rfl
theorem okT23 : OkTI Try.prog 23 ⟨.slice 5, 1, 24, [.nil]⟩ := ⟨by rw [Try.underlying23]; first | trivial | rfl | exact ⟨rfl, rfl⟩, Try.t23, .slice none 0 0, by kernel_rfl, rfl, rfl, rfl, rfl, rfl, (fun h => by cases h), fun _ => ⟨rfl, rfl⟩⟩
theorem tab24 : tab 24 = ⟨.struct [(3, 0), (3, 1), (3, 2), (22, 3), (23, 4)], 5, 56, [.i .i64 0, .i .i64 0, .i .i64 0, .f 0, .nil]⟩ := rfl
theorem okT24 : OkTI Try.prog 24 ⟨.struct [(3, 0), (3, 1), (3, 2), (22, 3), (23, 4)], 5, 56, [.i .i64 0, .i .i64 0, .i .i64 0, .f 0, .nil]⟩ := ⟨by rw [Try.underlying24]; first | trivial | rfl | exact ⟨rfl, rfl⟩, Try.t24, .agg #[.int .i64 0, .int .i64 0, .int .i64 0, .float .f64 0, .slice none 0 0], by kernel_rfl, rfl, rfl, rfl, rfl, rfl, fun _ => ⟨_, rfl⟩, (fun h => by cases h)⟩
theorem tab25 : tab 25 = ⟨.struct [(3, 0), (3, 1), (3, 2), (22, 3), (23, 4)], 5, 56, [.i .i64 0, .i .i64 0, .i .i64 0, .f 0, .nil]⟩ := rfl
theorem okT25 : OkTI Try.prog 25 ⟨.struct [(3, 0), (3, 1), (3, 2), (22, 3), (23, 4)], 5, 56, [.i .i64 0, .i .i64 0, .i .i64 0, .f 0, .nil]⟩ := ⟨by rw [Try.underlying25]; first | trivial | rfl | exact ⟨rfl, rfl⟩, Try.t25, .agg #[.int .i64 0, .int .i64 0, .int .i64 0, .float .f64 0, .slice none 0 0], by kernel_rfl, rfl, rfl, rfl, rfl, rfl, fun _ => ⟨_, rfl⟩, (fun h => by cases h)⟩
theorem tab26 : tab 26 = ⟨.struct [(3, 0), (3, 1), (22, 2), (23, 3)], 4, 48, [.i .i64 0, .i .i64 0, .f 0, .nil]⟩ := rfl
theorem okT26 : OkTI Try.prog 26 ⟨.struct [(3, 0), (3, 1), (22, 2), (23, 3)], 4, 48, [.i .i64 0, .i .i64 0, .f 0, .nil]⟩ := ⟨by rw [Try.underlying26]; first | trivial | rfl | exact ⟨rfl, rfl⟩, Try.t26, .agg #[.int .i64 0, .int .i64 0, .float .f64 0, .slice none 0 0], by kernel_rfl, rfl, rfl, rfl, rfl, rfl, fun _ => ⟨_, rfl⟩, (fun h => by cases h)⟩
theorem tab27 : tab 27 = ⟨.struct [(3, 0), (3, 1), (22, 2), (23, 3)], 4, 48, [.i .i64 0, .i .i64 0, .f 0, .nil]⟩ := rfl
theorem okT27 : OkTI Try.prog 27 ⟨.struct [(3, 0), (3, 1), (22, 2), (23, 3)], 4, 48, [.i .i64 0, .i .i64 0, .f 0, .nil]⟩ := ⟨by rw [Try.underlying27]; first | trivial | rfl | exact ⟨rfl, rfl⟩, Try.t27, .agg #[.int .i64 0, .int .i64 0, .float .f64 0, .slice none 0 0], by kernel_rfl, rfl, rfl, rfl, rfl, rfl, fun _ => ⟨_, rfl⟩, (fun h => by cases h)⟩
theorem tab28 : tab 28 = ⟨.func, 1, 8, [.o .nilFunc]⟩ := rfl
theorem okT28 : OkTI Try.prog 28 ⟨.func, 1, 8, [.o .nilFunc]⟩ := ⟨by rw [Try.underlying28]; first | trivial | rfl | exact ⟨rfl, rfl⟩, Try.t28, .nilFunc, by kernel_rfl, rfl, rfl, rfl, rfl, rfl, (fun h => by cases h), fun _ => ⟨rfl, rfl⟩⟩
theorem tab29 : tab 29 = ⟨.func, 1, 8, [.o .nilFunc]⟩ := rfl
theorem okT29 : OkTI Try.prog 29 ⟨.func, 1, 8, [.o .nilFunc]⟩ := ⟨by rw [Try.underlying29]; first | trivial | rfl | exact ⟨rfl, rfl⟩, Try.t29, .nilFunc, by kernel_rfl, rfl, rfl, rfl, rfl, rfl, (fun h => by cases h), fun _ => ⟨rfl, rfl⟩⟩
theorem tab31 : tab 31 = ⟨.func, 1, 8, [.o .nilFunc]⟩ := rfl
theorem okT31 : OkTI Try.prog 31 ⟨.func, 1, 8, [.o .nilFunc]⟩ := ⟨by rw [Try.underlying31]; first | trivial | rfl | exact ⟨rfl, rfl⟩, Try.t31, .nilFunc, by kernel_rfl, rfl, rfl, rfl, rfl, rfl, (fun h => by cases h), fun _ => ⟨rfl, rfl⟩⟩
theorem tab32 : tab 32 = ⟨.func, 1, 8, [.o .nilFunc]⟩ := rfl
theorem okT32 : OkTI Try.prog 32 ⟨.func, 1, 8, [.o .nilFunc]⟩ := ⟨by rw [Try.underlying32]; first | trivial | rfl | exact ⟨rfl, rfl⟩, Try.t32, .nilFunc, by kernel_rfl, rfl, rfl, rfl, rfl, rfl, (fun h => by cases h), fun _ => ⟨rfl, rfl⟩⟩
theorem tab33 : tab 33 = ⟨.func, 1, 8, [.o .nilFunc]⟩ := rfl
theorem okT33 : OkTI Try.prog 33 ⟨.func, 1, 8, [.o .nilFunc]⟩ := ⟨by rw [Try.underlying33]; first | trivial | rfl | exact ⟨rfl, rfl⟩, Try.t33, .nilFunc, by kernel_rfl, rfl, rfl, rfl, rfl, rfl, (fun h => by cases h), fun _ => ⟨rfl, rfl⟩⟩
theorem tab34 : tab 34 = ⟨.func, 1, 8, [.o .nilFunc]⟩ := rfl
theorem okT34 : OkTI Try.prog 34 ⟨.func, 1, 8, [.o .nilFunc]⟩ := ⟨by rw [Try.underlying34]; first | trivial | rfl | exact ⟨rfl, rfl⟩, Try.t34, .nilFunc, by kernel_rfl, rfl, rfl, rfl, rfl, rfl, (fun h => by cases h), fun _ => ⟨rfl, rfl⟩⟩
theorem tab35 : tab 35 = ⟨.func, 1, 8, [.o .nilFunc]⟩ := rfl
theorem okT35 : OkTI Try.prog 35 ⟨.func, 1, 8, [.o .nilFunc]⟩ := ⟨by rw [Try.underlying35]; first | trivial | rfl | exact ⟨rfl, rfl⟩, Try.t35, .nilFunc, by kernel_rfl, rfl, rfl, rfl, rfl, rfl, (fun h => by cases h), fun _ => ⟨rfl, rfl⟩⟩
theorem tab36 : tab 36 = ⟨.func, 1, 8, [.o .nilFunc]⟩ := rfl
theorem okT36 : OkTI Try.prog 36 ⟨.func, 1, 8, [.o .nilFunc]⟩ := ⟨by rw [Try.underlying36]; first | trivial | rfl | exact ⟨rfl, rfl⟩, Try.t36, .nilFunc, by kernel_rfl, rfl, rfl, rfl, rfl, rfl, (fun h => by cases h), fun _ => ⟨rfl, rfl⟩⟩
theorem tab37 : tab 37 = ⟨.func, 1, 8, [.o .nilFunc]⟩ := rfl
theorem okT37 : OkTI Try.prog 37 ⟨.func, 1, 8, [.o .nilFunc]⟩ := ⟨by rw [Try.underlying37]; first | trivial | rfl | exact ⟨rfl, rfl⟩, Try.t37, .nilFunc, by kernel_rfl, rfl, rfl, rfl, rfl, rfl, (fun h => by cases h), fun _ => ⟨rfl, rfl⟩⟩
theorem tab38 : tab 38 = ⟨.func, 1, 8, [.o .nilFunc]⟩ := rfl
theorem okT38 : OkTI Try.prog 38 ⟨.func, 1, 8, [.o .nilFunc]⟩ := ⟨by rw [Try.underlying38]; first | trivial | rfl | exact ⟨rfl, rfl⟩, Try.t38, .nilFunc, by kernel_rfl, rfl, rfl, rfl, rfl, rfl, (fun h => by cases h), fun _ => ⟨rfl, rfl⟩⟩
theorem tab39 : tab 39 = ⟨.func, 1, 8, [.o .nilFunc]⟩ := rfl
theorem okT39 : OkTI Try.prog 39 ⟨.func, 1, 8, [.o .nilFunc]⟩ := ⟨by rw [Try.underlying39]; first | trivial | rfl | exact ⟨rfl, rfl⟩, Try.t39, .nilFunc, by kernel_rfl, rfl, rfl, rfl, rfl, rfl, (fun h => by cases h), fun _ => ⟨rfl, rfl⟩⟩
theorem tab40 : tab 40 = ⟨.slice 71, 1, 24, [.nil]⟩ := rfl
theorem okT40 : OkTI Try.prog 40 ⟨.slice 71, 1, 24, [.nil]⟩ := ⟨by rw [Try.underlying40]; first | trivial | rfl | exact ⟨rfl, rfl⟩, Try.t40, .slice none 0 0, by kernel_rfl, rfl, rfl, rfl, rfl, rfl, (fun h => by cases h), fun _ => ⟨rfl, rfl⟩⟩
theorem tab41 : tab 41 = ⟨.slice 77, 1, 24, [.nil]⟩ := rfl
theorem okT41 : OkTI Try.prog 41 ⟨.slice 77, 1, 24, [.nil]⟩ := ⟨by rw [Try.underlying41]; first | trivial | rfl | exact ⟨rfl, rfl⟩, Try.t41, .slice none 0 0, by kernel_rfl, rfl, rfl, rfl, rfl, rfl, (fun h => by cases h), fun _ => ⟨rfl, rfl⟩⟩
theorem tab42 : tab 42 = ⟨.slice 55, 1, 24, [.nil]⟩ := rfl
theorem okT42 : OkTI Try.prog 42 ⟨.slice 55, 1, 24, [.nil]⟩ := ⟨by rw [Try.underlying42]; first | trivial | rfl | exact ⟨rfl, rfl⟩, Try.t42, .slice none 0 0, by kernel_rfl, rfl, rfl, rfl, rfl, rfl, (fun h => by cases h), fun _ => ⟨rfl, rfl⟩⟩
theorem tab43 : tab 43 = ⟨.func, 1, 8, [.o .nilFunc]⟩ := rfl
theorem okT43 : OkTI Try.prog 43 ⟨.func, 1, 8, [.o .nilFunc]⟩ := ⟨by rw [Try.underlying43]; first | trivial | rfl | exact ⟨rfl, rfl⟩, Try.t43, .nilFunc, by kernel_rfl, rfl, rfl, rfl, rfl, rfl, (fun h => by cases h), fun _ => ⟨rfl, rfl⟩⟩
theorem tab44 : tab 44 = ⟨.func, 1, 8, [.o .nilFunc]⟩ := rfl
theorem okT44 : OkTI Try.prog 44 ⟨.func, 1, 8, [.o .nilFunc]⟩ := ⟨by rw [Try.underlying44]; first | trivial | rfl | exact ⟨rfl, rfl⟩, Try.t44, .nilFunc, by kernel_rfl, rfl, rfl, rfl, rfl, rfl, (fun h => by cases h), fun _ => ⟨rfl, rfl⟩⟩
theorem tab45 : tab 45 = ⟨.slice 50, 1, 24, [.nil]⟩ := rfl
theorem okT45 : OkTI Try.prog 45 ⟨.slice 50, 1, 24, [.nil]⟩ := ⟨by rw [Try.underlying45]; first | trivial | rfl | exact ⟨rfl, rfl⟩, Try.t45, .slice none 0 0, by kernel_rfl, rfl, rfl, rfl, rfl, rfl, (fun h => by cases h), fun _ => ⟨rfl, rfl⟩⟩
theorem tab46 : tab 46 = ⟨.func, 1, 8, [.o .nilFunc]⟩ := rfl
theorem okT46 : OkTI Try.prog 46 ⟨.func, 1, 8, [.o .nilFunc]⟩ := ⟨by rw [Try.underlying46]; first | trivial | rfl | exact ⟨rfl, rfl⟩, Try.t46, .nilFunc, by kernel_rfl, rfl, rfl, rfl, rfl, rfl, (fun h => by cases h), fun _ => ⟨rfl, rfl⟩⟩
theorem tab48 : tab 48 = ⟨.func, 1, 8, [.o .nilFunc]⟩ := rfl
theorem okT48 : OkTI Try.prog 48 ⟨.func, 1, 8, [.o .nilFunc]⟩ := ⟨by rw [Try.underlying48]; first | trivial | rfl | exact ⟨rfl, rfl⟩, Try.t48, .nilFunc, by kernel_rfl, rfl, rfl, rfl, rfl, rfl, (fun h => by cases h), fun _ => ⟨rfl, rfl⟩⟩
theorem tab49 : tab 49 = ⟨.struct [(9, 0), (3, 1), (27, 2), (27, 6)], 10, 120, [.s [], .i .i64 0, .i .i64 0, .i .i64 0, .f 0, .nil, .i .i64 0, .i .i64 0, .f 0, .nil]⟩ := rfl
theorem okT49 : OkTI Try.prog 49 ⟨.struct [(9, 0), (3, 1), (27, 2), (27, 6)], 10, 120, [.s [], .i .i64 0, .i .i64 0, .i .i64 0, .f 0, .nil, .i .i64 0, .i .i64 0, .f 0, .nil]⟩ := ⟨by rw [Try.underlying49]; first | trivial | rfl | exact ⟨rfl, rfl⟩, Try.t49, .agg #[.string ⟨#[]⟩, .int .i64 0, .int .i64 0, .int .i64 0, .float .f64 0, .slice none 0 0, .int .i64 0, .int .i64 0, .float .f64 0, .slice none 0 0], by kernel_rfl, rfl, rfl, rfl, rfl, rfl, fun _ => ⟨_, rfl⟩, (fun h => by cases h)⟩
theorem tab50 : tab 50 = ⟨.struct [(9, 0), (3, 1), (27, 2), (27, 6)], 10, 120, [.s [], .i .i64 0, .i .i64 0, .i .i64 0, .f 0, .nil, .i .i64 0, .i .i64 0, .f 0, .nil]⟩ := rfl
theorem okT50 : OkTI Try.prog 50 ⟨.struct [(9, 0), (3, 1), (27, 2), (27, 6)], 10, 120, [.s [], .i .i64 0, .i .i64 0, .i .i64 0, .f 0, .nil, .i .i64 0, .i .i64 0, .f 0, .nil]⟩ := ⟨by rw [Try.underlying50]; first | trivial | rfl | exact ⟨rfl, rfl⟩, Try.t50, .agg #[.string ⟨#[]⟩, .int .i64 0, .int .i64 0, .int .i64 0, .float .f64 0, .slice none 0 0, .int .i64 0, .int .i64 0, .float .f64 0, .slice none 0 0], by kernel_rfl, rfl, rfl, rfl, rfl, rfl, fun _ => ⟨_, rfl⟩, (fun h => by cases h)⟩
theorem tab51 : tab 51 = ⟨.func, 1, 8, [.o .nilFunc]⟩ := rfl
theorem okT51 : OkTI Try.prog 51 ⟨.func, 1, 8, [.o .nilFunc]⟩ := ⟨by rw [Try.underlying51]; first | trivial | rfl | exact ⟨rfl, rfl⟩, Try.t51, .nilFunc, by kernel_rfl, rfl, rfl, rfl, rfl, rfl, (fun h => by cases h), fun _ => ⟨rfl, rfl⟩⟩
theorem tab52 : tab 52 = ⟨.func, 1, 8, [.o .nilFunc]⟩ := rfl
theorem okT52 : OkTI Try.prog 52 ⟨.func, 1, 8, [.o .nilFunc]⟩ := ⟨by rw [Try.underlying52]; first | trivial | rfl | exact ⟨rfl, rfl⟩, Try.t52, .nilFunc, by kernel_rfl, rfl, rfl, rfl, rfl, rfl, (fun h => by cases h), fun _ => ⟨rfl, rfl⟩⟩
theorem tab53 : tab 53 = ⟨.func, 1, 8, [.o .nilFunc]⟩ := rfl
theorem okT53 : OkTI Try.prog 53 ⟨.func, 1, 8, [.o .nilFunc]⟩ := ⟨by rw [Try.underlying53]; first | trivial | rfl | exact ⟨rfl, rfl⟩, Try.t53, .nilFunc, by kernel_rfl, rfl, rfl, rfl, rfl, rfl, (fun h => by cases h), fun _ => ⟨rfl, rfl⟩⟩
theorem tab54 : tab 54 = ⟨.struct [(9, 0), (27, 1)], 5, 64, [.s [], .i .i64 0, .i .i64 0, .f 0, .nil]⟩ := rfl
theorem okT54 : OkTI Try.prog 54 ⟨.struct [(9, 0), (27, 1)], 5, 64, [.s [], .i .i64 0, .i .i64 0, .f 0, .nil]⟩ := ⟨by rw [Try.underlying54]; first | trivial | rfl | exact ⟨rfl, rfl⟩, Try.t54, .agg #[.string ⟨#[]⟩, .int .i64 0, .int .i64 0, .float .f64 0, .slice none 0 0], by kernel_rfl, rfl, rfl, rfl, rfl, rfl, fun _ => ⟨_, rfl⟩, (fun h => by cases h)⟩
theorem tab55 : tab 55 = ⟨.struct [(9, 0), (27, 1)], 5, 64, [.s [], .i .i64 0, .i .i64 0, .f 0, .nil]⟩ := rfl
theorem okT55 : OkTI Try.prog 55 ⟨.struct [(9, 0), (27, 1)], 5, 64, [.s [], .i .i64 0, .i .i64 0, .f 0, .nil]⟩ := ⟨by rw [Try.underlying55]; first | trivial | rfl | exact ⟨rfl, rfl⟩, Try.t55, .agg #[.string ⟨#[]⟩, .int .i64 0, .int .i64 0, .float .f64 0, .slice none 0 0], by kernel_rfl, rfl, rfl, rfl, rfl, rfl, fun _ => ⟨_, rfl⟩, (fun h => by cases h)⟩
theorem tab56 : tab 56 = ⟨.func, 1, 8, [.o .nilFunc]⟩ := rfl
theorem okT56 : OkTI Try.prog 56 ⟨.func, 1, 8, [.o .nilFunc]⟩ := ⟨by rw [Try.underlying56]; first | trivial | rfl | exact ⟨rfl, rfl⟩, Try.t56, .nilFunc, by kernel_rfl, rfl, rfl, rfl, rfl, rfl, (fun h => by cases h), fun _ => ⟨rfl, rfl⟩⟩
theorem tab57 : tab 57 = ⟨.func, 1, 8, [.o .nilFunc]⟩ := rfl
theorem okT57 : OkTI Try.prog 57 ⟨.func, 1, 8, [.o .nilFunc]⟩ := ⟨by rw [Try.underlying57]; first | trivial | rfl | exact ⟨rfl, rfl⟩, Try.t57, .nilFunc, by kernel_rfl, rfl, rfl, rfl, rfl, rfl, (fun h => by cases h), fun _ => ⟨rfl, rfl⟩⟩
theorem tab58 : tab 58 = ⟨.func, 1, 8, [.o .nilFunc]⟩ := rfl
theorem okT58 : OkTI Try.prog 58 ⟨.func, 1, 8, [.o .nilFunc]⟩ := ⟨by rw [Try.underlying58]; first | trivial | rfl | exact ⟨rfl, rfl⟩, Try.t58, .nilFunc, by kernel_rfl, rfl, rfl, rfl, rfl, rfl, (fun h => by cases h), fun _ => ⟨rfl, rfl⟩⟩
theorem tab59 : tab 59 = ⟨.func, 1, 8, [.o .nilFunc]⟩ := rfl
theorem okT59 : OkTI Try.prog 59 ⟨.func, 1, 8, [.o .nilFunc]⟩ := ⟨by rw [Try.underlying59]; first | trivial | rfl | exact ⟨rfl, rfl⟩, Try.t59, .nilFunc, by kernel_rfl, rfl, rfl, rfl, rfl, rfl, (fun h => by cases h), fun _ => ⟨rfl, rfl⟩⟩
theorem tab60 : tab 60 = ⟨.func, 1, 8, [.o .nilFunc]⟩ := rfl
theorem okT60 : OkTI Try.prog 60 ⟨.func, 1, 8, [.o .nilFunc]⟩ := ⟨by rw [Try.underlying60]; first | trivial | rfl | exact ⟨rfl, rfl⟩, Try.t60, .nilFunc, by kernel_rfl, rfl, rfl, rfl, rfl, rfl, (fun h => by cases h), fun _ => ⟨rfl, rfl⟩⟩
theorem tab61 : tab 61 = ⟨.func, 1, 8, [.o .nilFunc]⟩ := rfl
theorem okT61 : OkTI Try.prog 61 ⟨.func, 1, 8, [.o .nilFunc]⟩ := ⟨by rw [Try.underlying61]; first | trivial | rfl | exact ⟨rfl, rfl⟩, Try.t61, .nilFunc, by kernel_rfl, rfl, rfl, rfl, rfl, rfl, (fun h => by cases h), fun _ => ⟨rfl, rfl⟩⟩
theorem tab62 : tab 62 = ⟨.func, 1, 8, [.o .nilFunc]⟩ := rfl
theorem okT62 : OkTI Try.prog 62 ⟨.func, 1, 8, [.o .nilFunc]⟩ := ⟨by rw [Try.underlying62]; first | trivial | rfl | exact ⟨rfl, rfl⟩, Try.t62, .nilFunc, by kernel_rfl, rfl, rfl, rfl, rfl, rfl, (fun h => by cases h), fun _ => ⟨rfl, rfl⟩⟩
theorem tab63 : tab 63 = ⟨.func, 1, 8, [.o .nilFunc]⟩ := rfl
theorem okT63 : OkTI Try.prog 63 ⟨.func, 1, 8, [.o .nilFunc]⟩ := ⟨by rw [Try.underlying63]; first | trivial | rfl | exact ⟨rfl, rfl⟩, Try.t63, .nilFunc, by kernel_rfl, rfl, rfl, rfl, rfl, rfl, (fun h => by cases h), fun _ => ⟨rfl, rfl⟩⟩
theorem tab64 : tab 64 = ⟨.func, 1, 8, [.o .nilFunc]⟩ := rfl
theorem okT64 : OkTI Try.prog 64 ⟨.func, 1, 8, [.o .nilFunc]⟩ := ⟨by rw [Try.underlying64]; first | trivial | rfl | exact ⟨rfl, rfl⟩, Try.t64, .nilFunc, by kernel_rfl, rfl, rfl, rfl, rfl, rfl, (fun h => by cases h), fun _ => ⟨rfl, rfl⟩⟩
theorem tab65 : tab 65 = ⟨.func, 1, 8, [.o .nilFunc]⟩ := rfl
theorem okT65 : OkTI Try.prog 65 ⟨.func, 1, 8, [.o .nilFunc]⟩ := ⟨by rw [Try.underlying65]; first | trivial | rfl | exact ⟨rfl, rfl⟩, Try.t65, .nilFunc, by kernel_rfl, rfl, rfl, rfl, rfl, rfl, (fun h => by cases h), fun _ => ⟨rfl, rfl⟩⟩
theorem tab66 : tab 66 = ⟨.int .u64, 1, 8, [.i .u64 0]⟩ := rfl
theorem okT66 : OkTI Try.prog 66 ⟨.int .u64, 1, 8, [.i .u64 0]⟩ := ⟨by rw [Try.underlying66]; first | trivial | rfl | exact ⟨rfl, rfl⟩, Try.t66, .int .u64 0, by kernel_rfl, rfl, rfl, rfl, rfl, rfl, (fun h => by cases h), fun _ => ⟨rfl, rfl⟩⟩
theorem tab67 : tab 67 = ⟨.func, 1, 8, [.o .nilFunc]⟩ := rfl
theorem okT67 : OkTI Try.prog 67 ⟨.func, 1, 8, [.o .nilFunc]⟩ := ⟨by rw [Try.underlying67]; first | trivial | rfl | exact ⟨rfl, rfl⟩, Try.t67, .nilFunc, by kernel_rfl, rfl, rfl, rfl, rfl, rfl, (fun h => by cases h), fun _ => ⟨rfl, rfl⟩⟩
theorem tab68 : tab 68 = ⟨.array 12 22, 12, 96, [.f 0, .f 0, .f 0, .f 0, .f 0, .f 0, .f 0, .f 0, .f 0, .f 0, .f 0, .f 0]⟩ := rfl
theorem okT68 : OkTI Try.prog 68 ⟨.array 12 22, 12, 96, [.f 0, .f 0, .f 0, .f 0, .f 0, .f 0, .f 0, .f 0, .f 0, .f 0, .f 0, .f 0]⟩ := ⟨by rw [Try.underlying68]; first | trivial | rfl | exact ⟨rfl, rfl⟩, Try.t68, .agg #[.float .f64 0, .float .f64 0, .float .f64 0, .float .f64 0, .float .f64 0, .float .f64 0, .float .f64 0, .float .f64 0, .float .f64 0, .float .f64 0, .float .f64 0, .float .f64 0], by kernel_rfl, rfl, rfl, rfl, rfl, rfl, fun _ => ⟨_, rfl⟩, (fun h => by cases h)⟩
theorem tab69 : tab 69 = ⟨.func, 1, 8, [.o .nilFunc]⟩ := rfl
theorem okT69 : OkTI Try.prog 69 ⟨.func, 1, 8, [.o .nilFunc]⟩ := ⟨by rw [Try.underlying69]; first | trivial | rfl | exact ⟨rfl, rfl⟩, Try.t69, .nilFunc, by kernel_rfl, rfl, rfl, rfl, rfl, rfl, (fun h => by cases h), fun _ => ⟨rfl, rfl⟩⟩
theorem tab70 : tab 70 = ⟨.struct [(3, 0), (25, 1)], 6, 64, [.i .i64 0, .i .i64 0, .i .i64 0, .i .i64 0, .f 0, .nil]⟩ := rfl
theorem okT70 : OkTI Try.prog 70 ⟨.struct [(3, 0), (25, 1)], 6, 64, [.i .i64 0, .i .i64 0, .i .i64 0, .i .i64 0, .f 0, .nil]⟩ := ⟨by rw [Try.underlying70]; first | trivial | rfl | exact ⟨rfl, rfl⟩, Try.t70, .agg #[.int .i64 0, .int .i64 0, .int .i64 0, .int .i64 0, .float .f64 0, .slice none 0 0], by kernel_rfl, rfl, rfl, rfl, rfl, rfl, fun _ => ⟨_, rfl⟩, (fun h => by cases h)⟩
theorem tab71 : tab 71 = ⟨.struct [(3, 0), (25, 1)], 6, 64, [.i .i64 0, .i .i64 0, .i .i64 0, .i .i64 0, .f 0, .nil]⟩ := rfl
theorem okT71 : OkTI Try.prog 71 ⟨.struct [(3, 0), (25, 1)], 6, 64, [.i .i64 0, .i .i64 0, .i .i64 0, .i .i64 0, .f 0, .nil]⟩ := ⟨by rw [Try.underlying71]; first | trivial | rfl | exact ⟨rfl, rfl⟩, Try.t71, .agg #[.int .i64 0, .int .i64 0, .int .i64 0, .int .i64 0, .float .f64 0, .slice none 0 0], by kernel_rfl, rfl, rfl, rfl, rfl, rfl, fun _ => ⟨_, rfl⟩, (fun h => by cases h)⟩
theorem tab72 : tab 72 = ⟨.func, 1, 8, [.o .nilFunc]⟩ := rfl
theorem okT72 : OkTI Try.prog 72 ⟨.func, 1, 8, [.o .nilFunc]⟩ := ⟨by rw [Try.underlying72]; first | trivial | rfl | exact ⟨rfl, rfl⟩, Try.t72, .nilFunc, by kernel_rfl, rfl, rfl, rfl, rfl, rfl, (fun h => by cases h), fun _ => ⟨rfl, rfl⟩⟩
theorem tab73 : tab 73 = ⟨.int .i64, 1, 8, [.i .i64 0]⟩ := rfl
theorem okT73 : OkTI Try.prog 73 ⟨.int .i64, 1, 8, [.i .i64 0]⟩ := ⟨by rw [Try.underlying73]; first | trivial | rfl | exact ⟨rfl, rfl⟩, Try.t73, .int .i64 0, by kernel_rfl, rfl, rfl, rfl, rfl, rfl, (fun h => by cases h), fun _ => ⟨rfl, rfl⟩⟩
theorem tab75 : tab 75 = ⟨.func, 1, 8, [.o .nilFunc]⟩ := rfl
theorem okT75 : OkTI Try.prog 75 ⟨.func, 1, 8, [.o .nilFunc]⟩ := ⟨by rw [Try.underlying75]; first | trivial | rfl | exact ⟨rfl, rfl⟩, Try.t75, .nilFunc, by kernel_rfl, rfl, rfl, rfl, rfl, rfl, (fun h => by cases h), fun _ => ⟨rfl, rfl⟩⟩
theorem tab76 : tab 76 = ⟨.struct [(3, 0), (3, 1), (3, 2), (25, 3)], 8, 80, [.i .i64 0, .i .i64 0, .i .i64 0, .i .i64 0, .i .i64 0, .i .i64 0, .f 0, .nil]⟩ := rfl
theorem okT76 : OkTI Try.prog 76 ⟨.struct [(3, 0), (3, 1), (3, 2), (25, 3)], 8, 80, [.i .i64 0, .i .i64 0, .i .i64 0, .i .i64 0, .i .i64 0, .i .i64 0, .f 0, .nil]⟩ := ⟨by rw [Try.underlying76]; first | trivial | rfl | exact ⟨rfl, rfl⟩, Try.t76, .agg #[.int .i64 0, .int .i64 0, .int .i64 0, .int .i64 0, .int .i64 0, .int .i64 0, .float .f64 0, .slice none 0 0], by kernel_rfl, rfl, rfl, rfl, rfl, rfl, fun _ => ⟨_, rfl⟩, (fun h => by cases h)⟩
theorem tab77 : tab 77 = ⟨.struct [(3, 0), (3, 1), (3, 2), (25, 3)], 8, 80, [.i .i64 0, .i .i64 0, .i .i64 0, .i .i64 0, .i .i64 0, .i .i64 0, .f 0, .nil]⟩ := rfl
theorem okT77 : OkTI Try.prog 77 ⟨.struct [(3, 0), (3, 1), (3, 2), (25, 3)], 8, 80, [.i .i64 0, .i .i64 0, .i .i64 0, .i .i64 0, .i .i64 0, .i .i64 0, .f 0, .nil]⟩ := ⟨by rw [Try.underlying77]; first | trivial | rfl | exact ⟨rfl, rfl⟩, Try.t77, .agg #[.int .i64 0, .int .i64 0, .int .i64 0, .int .i64 0, .int .i64 0, .int .i64 0, .float .f64 0, .slice none 0 0], by kernel_rfl, rfl, rfl, rfl, rfl, rfl, fun _ => ⟨_, rfl⟩, (fun h => by cases h)⟩
theorem tab78 : tab 78 = ⟨.func, 1, 8, [.o .nilFunc]⟩ := rfl
theorem okT78 : OkTI Try.prog 78 ⟨.func, 1, 8, [.o .nilFunc]⟩ := ⟨by rw [Try.underlying78]; first | trivial | rfl | exact ⟨rfl, rfl⟩, Try.t78, .nilFunc, by kernel_rfl, rfl, rfl, rfl, rfl, rfl, (fun h => by cases h), fun _ => ⟨rfl, rfl⟩⟩
theorem tab79 : tab 79 = ⟨.func, 1, 8, [.o .nilFunc]⟩ := rfl
theorem okT79 : OkTI Try.prog 79 ⟨.func, 1, 8, [.o .nilFunc]⟩ := ⟨by rw [Try.underlying79]; first | trivial | rfl | exact ⟨rfl, rfl⟩, Try.t79, .nilFunc, by kernel_rfl, rfl, rfl, rfl, rfl, rfl, (fun h => by cases h), fun _ => ⟨rfl, rfl⟩⟩
theorem tab80 : tab 80 = ⟨.slice 9, 1, 24, [.nil]⟩ := rfl
theorem okT80 : OkTI Try.prog 80 ⟨.slice 9, 1, 24, [.nil]⟩ := ⟨by rw [Try.underlying80]; first | trivial | rfl | exact ⟨rfl, rfl⟩, Try.t80, .slice none 0 0, by kernel_rfl, rfl, rfl, rfl, rfl, rfl, (fun h => by cases h), fun _ => ⟨rfl, rfl⟩⟩
theorem tab81 : tab 81 = ⟨.func, 1, 8, [.o .nilFunc]⟩ := rfl
theorem okT81 : OkTI Try.prog 81 ⟨.func, 1, 8, [.o .nilFunc]⟩ := ⟨by rw [Try.underlying81]; first | trivial | rfl | exact ⟨rfl, rfl⟩, Try.t81, .nilFunc, by kernel_rfl, rfl, rfl, rfl, rfl, rfl, (fun h => by cases h), fun _ => ⟨rfl, rfl⟩⟩
theorem tab82 : tab 82 = ⟨.func, 1, 8, [.o .nilFunc]⟩ := rfl
theorem okT82 : OkTI Try.prog 82 ⟨.func, 1, 8, [.o .nilFunc]⟩ := ⟨by rw [Try.underlying82]; first | trivial | rfl | exact ⟨rfl, rfl⟩, Try.t82, .nilFunc, by kernel_rfl, rfl, rfl, rfl, rfl, rfl, (fun h => by cases h), fun _ => ⟨rfl, rfl⟩⟩
theorem tab83 : tab 83 = ⟨.func, 1, 8, [.o .nilFunc]⟩ := rfl
theorem okT83 : OkTI Try.prog 83 ⟨.func, 1, 8, [.o .nilFunc]⟩ := ⟨by rw [Try.underlying83]; first | trivial | rfl | exact ⟨rfl, rfl⟩, Try.t83, .nilFunc, by kernel_rfl, rfl, rfl, rfl, rfl, rfl, (fun h => by cases h), fun _ => ⟨rfl, rfl⟩⟩
theorem tab84 : tab 84 = ⟨.func, 1, 8, [.o .nilFunc]⟩ := rfl
theorem okT84 : OkTI Try.prog 84 ⟨.func, 1, 8, [.o .nilFunc]⟩ := ⟨by rw [Try.underlying84]; first | trivial | rfl | exact ⟨rfl, rfl⟩, Try.t84, .nilFunc, by kernel_rfl, rfl, rfl, rfl, rfl, rfl, (fun h => by cases h), fun _ => ⟨rfl, rfl⟩⟩
theorem tab85 : tab 85 = ⟨.func, 1, 8, [.o .nilFunc]⟩ := rfl
theorem okT85 : OkTI Try.prog 85 ⟨.func, 1, 8, [.o .nilFunc]⟩ := ⟨by rw [Try.underlying85]; first | trivial | rfl | exact ⟨rfl, rfl⟩, Try.t85, .nilFunc, by kernel_rfl, rfl, rfl, rfl, rfl, rfl, (fun h => by cases h), fun _ => ⟨rfl, rfl⟩⟩
theorem tab86 : tab 86 = ⟨.func, 1, 8, [.o .nilFunc]⟩ := rfl
theorem okT86 : OkTI Try.prog 86 ⟨.func, 1, 8, [.o .nilFunc]⟩ := ⟨by rw [Try.underlying86]; first | trivial | rfl | exact ⟨rfl, rfl⟩, Try.t86, .nilFunc, by kernel_rfl, rfl, rfl, rfl, rfl, rfl, (fun h => by cases h), fun _ => ⟨rfl, rfl⟩⟩
theorem tab87 : tab 87 = ⟨.func, 1, 8, [.o .nilFunc]⟩ := rfl
theorem okT87 : OkTI Try.prog 87 ⟨.func, 1, 8, [.o .nilFunc]⟩ := ⟨by rw [Try.underlying87]; first | trivial | rfl | exact ⟨rfl, rfl⟩, Try.t87, .nilFunc, by kernel_rfl, rfl, rfl, rfl, rfl, rfl, (fun h => by cases h), fun _ => ⟨rfl, rfl⟩⟩
theorem tab88 : tab 88 = ⟨.func, 1, 8, [.o .nilFunc]⟩ := rfl
theorem okT88 : OkTI Try.prog 88 ⟨.func, 1, 8, [.o .nilFunc]⟩ := ⟨by rw [Try.underlying88]; first | trivial | rfl | exact ⟨rfl, rfl⟩, Try.t88, .nilFunc, by kernel_rfl, rfl, rfl, rfl, rfl, rfl, (fun h => by cases h), fun _ => ⟨rfl, rfl⟩⟩
theorem tab89 : tab 89 = ⟨.func, 1, 8, [.o .nilFunc]⟩ := rfl
theorem okT89 : OkTI Try.prog 89 ⟨.func, 1, 8, [.o .nilFunc]⟩ := ⟨by rw [Try.underlying89]; first | trivial | rfl | exact ⟨rfl, rfl⟩, Try.t89, .nilFunc, by kernel_rfl, rfl, rfl, rfl, rfl, rfl, (fun h => by cases h), fun _ => ⟨rfl, rfl⟩⟩
theorem tab90 : tab 90 = ⟨.func, 1, 8, [.o .nilFunc]⟩ := rfl
theorem okT90 : OkTI Try.prog 90 ⟨.func, 1, 8, [.o .nilFunc]⟩ := ⟨by rw [Try.underlying90]; first | trivial | rfl | exact ⟨rfl, rfl⟩, Try.t90, .nilFunc, by kernel_rfl, rfl, rfl, rfl, rfl, rfl, (fun h => by cases h), fun _ => ⟨rfl, rfl⟩⟩
theorem tab92 : tab 92 = ⟨.func, 1, 8, [.o .nilFunc]⟩ := rfl
theorem okT92 : OkTI Try.prog 92 ⟨.func, 1, 8, [.o .nilFunc]⟩ := ⟨by rw [Try.underlying92]; first | trivial | rfl | exact ⟨rfl, rfl⟩, Try.t92, .nilFunc, by kernel_rfl, rfl, rfl, rfl, rfl, rfl, (fun h => by cases h), fun _ => ⟨rfl, rfl⟩⟩
theorem tab93 : tab 93 = ⟨.func, 1, 8, [.o .nilFunc]⟩ := rfl
theorem okT93 : OkTI Try.prog 93 ⟨.func, 1, 8, [.o .nilFunc]⟩ := ⟨by rw [Try.underlying93]; first | trivial | rfl | exact ⟨rfl, rfl⟩, Try.t93, .nilFunc, by kernel_rfl, rfl, rfl, rfl, rfl, rfl, (fun h => by cases h), fun _ => ⟨rfl, rfl⟩⟩
theorem tab94 : tab 94 = ⟨.func, 1, 8, [.o .nilFunc]⟩ := rfl
theorem okT94 : OkTI Try.prog 94 ⟨.func, 1, 8, [.o .nilFunc]⟩ := ⟨by rw [Try.underlying94]; first | trivial | rfl | exact ⟨rfl, rfl⟩, Try.t94, .nilFunc, by kernel_rfl, rfl, rfl, rfl, rfl, rfl, (fun h => by cases h), fun _ => ⟨rfl, rfl⟩⟩
theorem tab95 : tab 95 = ⟨.func, 1, 8, [.o .nilFunc]⟩ := rfl
theorem okT95 : OkTI Try.prog 95 ⟨.func, 1, 8, [.o .nilFunc]⟩ := ⟨by rw [Try.underlying95]; first | trivial | rfl | exact ⟨rfl, rfl⟩, Try.t95, .nilFunc, by kernel_rfl, rfl, rfl, rfl, rfl, rfl, (fun h => by cases h), fun _ => ⟨rfl, rfl⟩⟩
theorem tab96 : tab 96 = ⟨.func, 1, 8, [.o .nilFunc]⟩ := rfl
theorem okT96 : OkTI Try.prog 96 ⟨.func, 1, 8, [.o .nilFunc]⟩ := ⟨by rw [Try.underlying96]; first | trivial | rfl | exact ⟨rfl, rfl⟩, Try.t96, .nilFunc, by kernel_rfl, rfl, rfl, rfl, rfl, rfl, (fun h => by cases h), fun _ => ⟨rfl, rfl⟩⟩
theorem tab97 : tab 97 = ⟨.func, 1, 8, [.o .nilFunc]⟩ := rfl
theorem okT97 : OkTI Try.prog 97 ⟨.func, 1, 8, [.o .nilFunc]⟩ := ⟨by rw [Try.underlying97]; first | trivial | rfl | exact ⟨rfl, rfl⟩, Try.t97, .nilFunc, by kernel_rfl, rfl, rfl, rfl, rfl, rfl, (fun h => by cases h), fun _ => ⟨rfl, rfl⟩⟩
theorem tab98 : tab 98 = ⟨.func, 1, 8, [.o .nilFunc]⟩ := rfl
theorem okT98 : OkTI Try.prog 98 ⟨.func, 1, 8, [.o .nilFunc]⟩ := ⟨by rw [Try.underlying98]; first | trivial | rfl | exact ⟨rfl, rfl⟩, Try.t98, .nilFunc, by kernel_rfl, rfl, rfl, rfl, rfl, rfl, (fun h => by cases h), fun _ => ⟨rfl, rfl⟩⟩
theorem tab99 : tab 99 = ⟨.slice 42, 1, 24, [.nil]⟩ := rfl
theorem okT99 : OkTI Try.prog 99 ⟨.slice 42, 1, 24, [.nil]⟩ := ⟨by rw [Try.underlying99]; first | trivial | rfl | exact ⟨rfl, rfl⟩, Try.t99, .slice none 0 0, by kernel_rfl, rfl, rfl, rfl, rfl, rfl, (fun h => by cases h), fun _ => ⟨rfl, rfl⟩⟩
theorem tab100 : tab 100 = ⟨.func, 1, 8, [.o .nilFunc]⟩ := rfl
theorem okT100 : OkTI Try.prog 100 ⟨.func, 1, 8, [.o .nilFunc]⟩ := ⟨by rw [Try.underlying100]; first | trivial | rfl | exact ⟨rfl, rfl⟩, Try.t100, .nilFunc, by kernel_rfl, rfl, rfl, rfl, rfl, rfl, (fun h => by cases h), fun _ => ⟨rfl, rfl⟩⟩
theorem tab101 : tab 101 = ⟨.func, 1, 8, [.o .nilFunc]⟩ := rfl
theorem okT101 : OkTI Try.prog 101 ⟨.func, 1, 8, [.o .nilFunc]⟩ := ⟨by rw [Try.underlying101]; first | trivial | rfl | exact ⟨rfl, rfl⟩, Try.t101, .nilFunc, by kernel_rfl, rfl, rfl, rfl, rfl, rfl, (fun h => by cases h), fun _ => ⟨rfl, rfl⟩⟩
theorem tab102 : tab 102 = ⟨.func, 1, 8, [.o .nilFunc]⟩ := rfl
theorem okT102 : OkTI Try.prog 102 ⟨.func, 1, 8, [.o .nilFunc]⟩ := ⟨by rw [Try.underlying102]; first | trivial | rfl | exact ⟨rfl, rfl⟩, Try.t102, .nilFunc, by kernel_rfl, rfl, rfl, rfl, rfl, rfl, (fun h => by cases h), fun _ => ⟨rfl, rfl⟩⟩
theorem tab103 : tab 103 = ⟨.int .u64, 1, 8, [.i .u64 0]⟩ := rfl
theorem okT103 : OkTI Try.prog 103 ⟨.int .u64, 1, 8, [.i .u64 0]⟩ := ⟨by rw [Try.underlying103]; first | trivial | rfl | exact ⟨rfl, rfl⟩, Try.t103, .int .u64 0, by kernel_rfl, rfl, rfl, rfl, rfl, rfl, (fun h => by cases h), fun _ => ⟨rfl, rfl⟩⟩
theorem tab105 : tab 105 = ⟨.func, 1, 8, [.o .nilFunc]⟩ := rfl
theorem okT105 : OkTI Try.prog 105 ⟨.func, 1, 8, [.o .nilFunc]⟩ := ⟨by rw [Try.underlying105]; first | trivial | rfl | exact ⟨rfl, rfl⟩, Try.t105, .nilFunc, by kernel_rfl, rfl, rfl, rfl, rfl, rfl, (fun h => by cases h), fun _ => ⟨rfl, rfl⟩⟩
theorem tab106 : tab 106 = ⟨.func, 1, 8, [.o .nilFunc]⟩ := rfl
theorem okT106 : OkTI Try.prog 106 ⟨.func, 1, 8, [.o .nilFunc]⟩ := ⟨by rw [Try.underlying106]; first | trivial | rfl | exact ⟨rfl, rfl⟩, Try.t106, .nilFunc, by kernel_rfl, rfl, rfl, rfl, rfl, rfl, (fun h => by cases h), fun _ => ⟨rfl, rfl⟩⟩
theorem tab107 : tab 107 = ⟨.func, 1, 8, [.o .nilFunc]⟩ := rfl
theorem okT107 : OkTI Try.prog 107 ⟨.func, 1, 8, [.o .nilFunc]⟩ := ⟨by rw [Try.underlying107]; first | trivial | rfl | exact ⟨rfl, rfl⟩, Try.t107, .nilFunc, by kernel_rfl, rfl, rfl, rfl, rfl, rfl, (fun h => by cases h), fun _ => ⟨rfl, rfl⟩⟩
theorem tab108 : tab 108 = ⟨.array 6 9, 6, 96, [.s [], .s [], .s [], .s [], .s [], .s []]⟩ := rfl
theorem okT108 : OkTI Try.prog 108 ⟨.array 6 9, 6, 96, [.s [], .s [], .s [], .s [], .s [], .s []]⟩ := ⟨by rw [Try.underlying108]; first | trivial | rfl | exact ⟨rfl, rfl⟩, Try.t108, .agg #[.string ⟨#[]⟩, .string ⟨#[]⟩, .string ⟨#[]⟩, .string ⟨#[]⟩, .string ⟨#[]⟩, .string ⟨#[]⟩], by kernel_rfl, rfl, rfl, rfl, rfl, rfl, fun _ => ⟨_, rfl⟩, (fun h => by cases h)⟩
theorem tab109 : tab 109 = ⟨.func, 1, 8, [.o .nilFunc]⟩ := rfl
theorem okT109 : OkTI Try.prog 109 ⟨.func, 1, 8, [.o .nilFunc]⟩ := ⟨by rw [Try.underlying109]; first | trivial | rfl | exact ⟨rfl, rfl⟩, Try.t109, .nilFunc, by kernel_rfl, rfl, rfl, rfl, rfl, rfl, (fun h => by cases h), fun _ => ⟨rfl, rfl⟩⟩
theorem tab110 : tab 110 = ⟨.slice 3, 1, 24, [.nil]⟩ := rfl
theorem okT110 : OkTI Try.prog 110 ⟨.slice 3, 1, 24, [.nil]⟩ := ⟨by rw [Try.underlying110]; first | trivial | rfl | exact ⟨rfl, rfl⟩, Try.t110, .slice none 0 0, by kernel_rfl, rfl, rfl, rfl, rfl, rfl, (fun h => by cases h), fun _ => ⟨rfl, rfl⟩⟩
theorem tab111 : tab 111 = ⟨.func, 1, 8, [.o .nilFunc]⟩ := rfl
theorem okT111 : OkTI Try.prog 111 ⟨.func, 1, 8, [.o .nilFunc]⟩ := ⟨by rw [Try.underlying111]; first | trivial | rfl | exact ⟨rfl, rfl⟩, Try.t111, .nilFunc, by kernel_rfl, rfl, rfl, rfl, rfl, rfl, (fun h => by cases h), fun _ => ⟨rfl, rfl⟩⟩
theorem tab112 : tab 112 = ⟨.func, 1, 8, [.o .nilFunc]⟩ := rfl
theorem okT112 : OkTI Try.prog 112 ⟨.func, 1, 8, [.o .nilFunc]⟩ := ⟨by rw [Try.underlying112]; first | trivial | rfl | exact ⟨rfl, rfl⟩, Try.t112, .nilFunc, by kernel_rfl, rfl, rfl, rfl, rfl, rfl, (fun h => by cases h), fun _ => ⟨rfl, rfl⟩⟩
theorem tab113 : tab 113 = ⟨.func, 1, 8, [.o .nilFunc]⟩ := rfl
theorem okT113 : OkTI Try.prog 113 ⟨.func, 1, 8, [.o .nilFunc]⟩ := ⟨by rw [Try.underlying113]; first | trivial | rfl | exact ⟨rfl, rfl⟩, Try.t113, .nilFunc, by kernel_rfl, rfl, rfl, rfl, rfl, rfl, (fun h => by cases h), fun _ => ⟨rfl, rfl⟩⟩
theorem tab114 : tab 114 = ⟨.int .i64, 1, 8, [.i .i64 0]⟩ := rfl
theorem okT114 : OkTI Try.prog 114 ⟨.int .i64, 1, 8, [.i .i64 0]⟩ := ⟨by rw [Try.underlying114]; first | trivial | rfl | exact ⟨rfl, rfl⟩, Try.t114, .int .i64 0, by kernel_rfl, rfl, rfl, rfl, rfl, rfl, (fun h => by cases h), fun _ => ⟨rfl, rfl⟩⟩
theorem tab116 : tab 116 = ⟨.func, 1, 8, [.o .nilFunc]⟩ := rfl
theorem okT116 : OkTI Try.prog 116 ⟨.func, 1, 8, [.o .nilFunc]⟩ := ⟨by rw [Try.underlying116]; first | trivial | rfl | exact ⟨rfl, rfl⟩, Try.t116, .nilFunc, by kernel_rfl, rfl, rfl, rfl, rfl, rfl, (fun h => by cases h), fun _ => ⟨rfl, rfl⟩⟩
theorem tab117 : tab 117 = ⟨.func, 1, 8, [.o .nilFunc]⟩ := rfl
theorem okT117 : OkTI Try.prog 117 ⟨.func, 1, 8, [.o .nilFunc]⟩ := ⟨by rw [Try.underlying117]; first | trivial | rfl | exact ⟨rfl, rfl⟩, Try.t117, .nilFunc, by kernel_rfl, rfl, rfl, rfl, rfl, rfl, (fun h => by cases h), fun _ => ⟨rfl, rfl⟩⟩
theorem tab118 : tab 118 = ⟨.func, 1, 8, [.o .nilFunc]⟩ := rfl
theorem okT118 : OkTI Try.prog 118 ⟨.func, 1, 8, [.o .nilFunc]⟩ := ⟨by rw [Try.underlying118]; first | trivial | rfl | exact ⟨rfl, rfl⟩, Try.t118, .nilFunc, by kernel_rfl, rfl, rfl, rfl, rfl, rfl, (fun h => by cases h), fun _ => ⟨rfl, rfl⟩⟩
theorem tab119 : tab 119 = ⟨.func, 1, 8, [.o .nilFunc]⟩ := rfl
theorem okT119 : OkTI Try.prog 119 ⟨.func, 1, 8, [.o .nilFunc]⟩ := ⟨by rw [Try.underlying119]; first | trivial | rfl | exact ⟨rfl, rfl⟩, Try.t119, .nilFunc, by kernel_rfl, rfl, rfl, rfl, rfl, rfl, (fun h => by cases h), fun _ => ⟨rfl, rfl⟩⟩
theorem tab120 : tab 120 = ⟨.func, 1, 8, [.o .nilFunc]⟩ := rfl
theorem okT120 : OkTI Try.prog 120 ⟨.func, 1, 8, [.o .nilFunc]⟩ := ⟨by rw [Try.underlying120]; first | trivial | rfl | exact ⟨rfl, rfl⟩, Try.t120, .nilFunc, by kernel_rfl, rfl, rfl, rfl, rfl, rfl, (fun h => by cases h), fun _ => ⟨rfl, rfl⟩⟩
theorem tab121 : tab 121 = ⟨.int .u32, 1, 4, [.i .u32 0]⟩ := rfl
theorem okT121 : OkTI Try.prog 121 ⟨.int .u32, 1, 4, [.i .u32 0]⟩ := ⟨by rw [Try.underlying121]; first | trivial | rfl | exact ⟨rfl, rfl⟩, Try.t121, .int .u32 0, by kernel_rfl, rfl, rfl, rfl, rfl, rfl, (fun h => by cases h), fun _ => ⟨rfl, rfl⟩⟩
theorem tab122 : tab 122 = ⟨.func, 1, 8, [.o .nilFunc]⟩ := rfl
theorem okT122 : OkTI Try.prog 122 ⟨.func, 1, 8, [.o .nilFunc]⟩ := ⟨by rw [Try.underlying122]; first | trivial | rfl | exact ⟨rfl, rfl⟩, Try.t122, .nilFunc, by kernel_rfl, rfl, rfl, rfl, rfl, rfl, (fun h => by cases h), fun _ => ⟨rfl, rfl⟩⟩
theorem tab123 : tab 123 = ⟨.func, 1, 8, [.o .nilFunc]⟩ := rfl
theorem okT123 : OkTI Try.prog 123 ⟨.func, 1, 8, [.o .nilFunc]⟩ := ⟨by rw [Try.underlying123]; first | trivial | rfl | exact ⟨rfl, rfl⟩, Try.t123, .nilFunc, by kernel_rfl, rfl, rfl, rfl, rfl, rfl, (fun h => by cases h), fun _ => ⟨rfl, rfl⟩⟩
theorem tab124 : tab 124 = ⟨.func, 1, 8, [.o .nilFunc]⟩ := rfl
theorem okT124 : OkTI Try.prog 124 ⟨.func, 1, 8, [.o .nilFunc]⟩ := ⟨by rw [Try.underlying124]; first | trivial | rfl | exact ⟨rfl, rfl⟩, Try.t124, .nilFunc, by kernel_rfl, rfl, rfl, rfl, rfl, rfl, (fun h => by cases h), fun _ => ⟨rfl, rfl⟩⟩
theorem tab125 : tab 125 = ⟨.func, 1, 8, [.o .nilFunc]⟩ := rfl
theorem okT125 : OkTI Try.prog 125 ⟨.func, 1, 8, [.o .nilFunc]⟩ := ⟨by rw [Try.underlying125]; first | trivial | rfl | exact ⟨rfl, rfl⟩, Try.t125, .nilFunc, by kernel_rfl, rfl, rfl, rfl, rfl, rfl, (fun h => by cases h), fun _ => ⟨rfl, rfl⟩⟩
theorem tab126 : tab 126 = ⟨.ptr 128, 1, 8, [.o (.pointer none)]⟩ := rfl
theorem okT126 : OkTI Try.prog 126 ⟨.ptr 128, 1, 8, [.o (.pointer none)]⟩ := ⟨by rw [Try.underlying126]; first | trivial | rfl | exact ⟨rfl, rfl⟩, Try.t126, .pointer none, by kernel_rfl, rfl, rfl, rfl, rfl, rfl, (fun h => by cases h), fun _ => ⟨rfl, rfl⟩⟩
theorem tab127 : tab 127 = ⟨.struct [(23, 0)], 1, 24, [.nil]⟩ := rfl
theorem okT127 : OkTI Try.prog 127 ⟨.struct [(23, 0)], 1, 24, [.nil]⟩ := ⟨by rw [Try.underlying127]; first | trivial | rfl | exact ⟨rfl, rfl⟩, Try.t127, .agg #[.slice none 0 0], by kernel_rfl, rfl, rfl, rfl, rfl, rfl, fun _ => ⟨_, rfl⟩, (fun h => by cases h)⟩
theorem tab128 : tab 128 = ⟨.struct [(23, 0)], 1, 24, [.nil]⟩ := rfl
theorem okT128 : OkTI Try.prog 128 ⟨.struct [(23, 0)], 1, 24, [.nil]⟩ := ⟨by rw [Try.underlying128]; first | trivial | rfl | exact ⟨rfl, rfl⟩, Try.t128, .agg #[.slice none 0 0], by kernel_rfl, rfl, rfl, rfl, rfl, rfl, fun _ => ⟨_, rfl⟩, (fun h => by cases h)⟩
theorem tab129 : tab 129 = ⟨.func, 1, 8, [.o .nilFunc]⟩ := rfl
theorem okT129 : OkTI Try.prog 129 ⟨.func, 1, 8, [.o .nilFunc]⟩ := ⟨by rw [Try.underlying129]; first | trivial | rfl | exact ⟨rfl, rfl⟩, Try.t129, .nilFunc, by kernel_rfl, rfl, rfl, rfl, rfl, rfl, (fun h => by cases h), fun _ => ⟨rfl, rfl⟩⟩
theorem tab130 : tab 130 = ⟨.int .u64, 1, 8, [.i .u64 0]⟩ := rfl
theorem okT130 : OkTI Try.prog 130 ⟨.int .u64, 1, 8, [.i .u64 0]⟩ := ⟨by rw [Try.underlying130]; first | trivial | rfl | exact ⟨rfl, rfl⟩, Try.t130, .int .u64 0, by kernel_rfl, rfl, rfl, rfl, rfl, rfl, (fun h => by cases h), fun _ => ⟨rfl, rfl⟩⟩
theorem tab131 : tab 131 = ⟨.func, 1, 8, [.o .nilFunc]⟩ := rfl
theorem okT131 : OkTI Try.prog 131 ⟨.func, 1, 8, [.o .nilFunc]⟩ := ⟨by rw [Try.underlying131]; first | trivial | rfl | exact ⟨rfl, rfl⟩, Try.t131, .nilFunc, by kernel_rfl, rfl, rfl, rfl, rfl, rfl, (fun h => by cases h), fun _ => ⟨rfl, rfl⟩⟩
theorem tab132 : tab 132 = ⟨.func, 1, 8, [.o .nilFunc]⟩ := rfl
theorem okT132 : OkTI Try.prog 132 ⟨.func, 1, 8, [.o .nilFunc]⟩ := ⟨by rw [Try.underlying132]; first | trivial | rfl | exact ⟨rfl, rfl⟩, Try.t132, .nilFunc, by kernel_rfl, rfl, rfl, rfl, rfl, rfl, (fun h => by cases h), fun _ => ⟨rfl, rfl⟩⟩
theorem tab133 : tab 133 = ⟨.func, 1, 8, [.o .nilFunc]⟩ := rfl
theorem okT133 : OkTI Try.prog 133 ⟨.func, 1, 8, [.o .nilFunc]⟩ := ⟨by rw [Try.underlying133]; first | trivial | rfl | exact ⟨rfl, rfl⟩, Try.t133, .nilFunc, by kernel_rfl, rfl, rfl, rfl, rfl, rfl, (fun h => by cases h), fun _ => ⟨rfl, rfl⟩⟩
theorem tab134 : tab 134 = ⟨.ptr 3, 1, 8, [.o (.pointer none)]⟩ := rfl
theorem okT134 : OkTI Try.prog 134 ⟨.ptr 3, 1, 8, [.o (.pointer none)]⟩ := ⟨by rw [Try.underlying134]; first | trivial | rfl | exact ⟨rfl, rfl⟩, Try.t134, .pointer none, by kernel_rfl, rfl, rfl, rfl, rfl, rfl, (fun h => by cases h), fun _ => ⟨rfl, rfl⟩⟩
theorem tab135 : tab 135 = ⟨.func, 1, 8, [.o .nilFunc]⟩ := rfl
theorem okT135 : OkTI Try.prog 135 ⟨.func, 1, 8, [.o .nilFunc]⟩ := ⟨by rw [Try.underlying135]; first | trivial | rfl | exact ⟨rfl, rfl⟩, Try.t135, .nilFunc, by kernel_rfl, rfl, rfl, rfl, rfl, rfl, (fun h => by cases h), fun _ => ⟨rfl, rfl⟩⟩
theorem tab136 : tab 136 = ⟨.func, 1, 8, [.o .nilFunc]⟩ := rfl
theorem okT136 : OkTI Try.prog 136 ⟨.func, 1, 8, [.o .nilFunc]⟩ := ⟨by rw [Try.underlying136]; first | trivial | rfl | exact ⟨rfl, rfl⟩, Try.t136, .nilFunc, by kernel_rfl, rfl, rfl, rfl, rfl, rfl, (fun h => by cases h), fun _ => ⟨rfl, rfl⟩⟩
theorem tab137 : tab 137 = ⟨.ptr 130, 1, 8, [.o (.pointer none)]⟩ := rfl
theorem okT137 : OkTI Try.prog 137 ⟨.ptr 130, 1, 8, [.o (.pointer none)]⟩ := ⟨by rw [Try.underlying137]; first | trivial | rfl | exact ⟨rfl, rfl⟩, Try.t137, .pointer none, by kernel_rfl, rfl, rfl, rfl, rfl, rfl, (fun h => by cases h), fun _ => ⟨rfl, rfl⟩⟩
theorem tab138 : tab 138 = ⟨.func, 1, 8, [.o .nilFunc]⟩ := rfl
theorem okT138 : OkTI Try.prog 138 ⟨.func, 1, 8, [.o .nilFunc]⟩ := ⟨by rw [Try.underlying138]; first | trivial | rfl | exact ⟨rfl, rfl⟩, Try.t138, .nilFunc, by kernel_rfl, rfl, rfl, rfl, rfl, rfl, (fun h => by cases h), fun _ => ⟨rfl, rfl⟩⟩
theorem tab139 : tab 139 = ⟨.func, 1, 8, [.o .nilFunc]⟩ := rfl
theorem okT139 : OkTI Try.prog 139 ⟨.func, 1, 8, [.o .nilFunc]⟩ := ⟨by rw [Try.underlying139]; first | trivial | rfl | exact ⟨rfl, rfl⟩, Try.t139, .nilFunc, by kernel_rfl, rfl, rfl, rfl, rfl, rfl, (fun h => by cases h), fun _ => ⟨rfl, rfl⟩⟩
theorem tab140 : tab 140 = ⟨.struct [(17, 0), (17, 1), (17, 2), (9, 3)], 4, 40, [.o (.pointer none), .o (.pointer none), .o (.pointer none), .s []]⟩ := rfl
theorem okT140 : OkTI Try.prog 140 ⟨.struct [(17, 0), (17, 1), (17, 2), (9, 3)], 4, 40, [.o (.pointer none), .o (.pointer none), .o (.pointer none), .s []]⟩ := ⟨by rw [Try.underlying140]; first | trivial | rfl | exact ⟨rfl, rfl⟩, Try.t140, .agg #[.pointer none, .pointer none, .pointer none, .string ⟨#[]⟩], by kernel_rfl, rfl, rfl, rfl, rfl, rfl, fun _ => ⟨_, rfl⟩, (fun h => by cases h)⟩
theorem tab141 : tab 141 = ⟨.struct [(17, 0), (17, 1), (17, 2), (9, 3)], 4, 40, [.o (.pointer none), .o (.pointer none), .o (.pointer none), .s []]⟩ := rfl
theorem okT141 : OkTI Try.prog 141 ⟨.struct [(17, 0), (17, 1), (17, 2), (9, 3)], 4, 40, [.o (.pointer none), .o (.pointer none), .o (.pointer none), .s []]⟩ := ⟨by rw [Try.underlying141]; first | trivial | rfl | exact ⟨rfl, rfl⟩, Try.t141, .agg #[.pointer none, .pointer none, .pointer none, .string ⟨#[]⟩], by kernel_rfl, rfl, rfl, rfl, rfl, rfl, fun _ => ⟨_, rfl⟩, (fun h => by cases h)⟩
theorem tab145 : tab 145 = ⟨.func, 1, 8, [.o .nilFunc]⟩ := rfl
theorem okT145 : OkTI Try.prog 145 ⟨.func, 1, 8, [.o .nilFunc]⟩ := ⟨by rw [Try.underlying145]; first | trivial | rfl | exact ⟨rfl, rfl⟩, Try.t145, .nilFunc, by kernel_rfl, rfl, rfl, rfl, rfl, rfl, (fun h => by cases h), fun _ => ⟨rfl, rfl⟩⟩
theorem tab146 : tab 146 = ⟨.int .u8, 1, 1, [.i .u8 0]⟩ := rfl
theorem okT146 : OkTI Try.prog 146 ⟨.int .u8, 1, 1, [.i .u8 0]⟩ := ⟨by rw [Try.underlying146]; first | trivial | rfl | exact ⟨rfl, rfl⟩, Try.t146, .int .u8 0, by kernel_rfl, rfl, rfl, rfl, rfl, rfl, (fun h => by cases h), fun _ => ⟨rfl, rfl⟩⟩
theorem tab147 : tab 147 = ⟨.int .u8, 1, 1, [.i .u8 0]⟩ := rfl
theorem okT147 : OkTI Try.prog 147 ⟨.int .u8, 1, 1, [.i .u8 0]⟩ := ⟨by rw [Try.underlying147]; first | trivial | rfl | exact ⟨rfl, rfl⟩, Try.t147, .int .u8 0, by kernel_rfl, rfl, rfl, rfl, rfl, rfl, (fun h => by cases h), fun _ => ⟨rfl, rfl⟩⟩
theorem tab148 : tab 148 = ⟨.func, 1, 8, [.o .nilFunc]⟩ := rfl
theorem okT148 : OkTI Try.prog 148 ⟨.func, 1, 8, [.o .nilFunc]⟩ := ⟨by rw [Try.underlying148]; first | trivial | rfl | exact ⟨rfl, rfl⟩, Try.t148, .nilFunc, by kernel_rfl, rfl, rfl, rfl, rfl, rfl, (fun h => by cases h), fun _ => ⟨rfl, rfl⟩⟩
theorem tab149 : tab 149 = ⟨.ptr 5, 1, 8, [.o (.pointer none)]⟩ := rfl
theorem okT149 : OkTI Try.prog 149 ⟨.ptr 5, 1, 8, [.o (.pointer none)]⟩ := ⟨by rw [Try.underlying149]; first | trivial | rfl | exact ⟨rfl, rfl⟩, Try.t149, .pointer none, by kernel_rfl, rfl, rfl, rfl, rfl, rfl, (fun h => by cases h), fun _ => ⟨rfl, rfl⟩⟩
theorem tab150 : tab 150 = ⟨.int .i32, 1, 4, [.i .i32 0]⟩ := rfl
theorem okT150 : OkTI Try.prog 150 ⟨.int .i32, 1, 4, [.i .i32 0]⟩ := ⟨by rw [Try.underlying150]; first | trivial | rfl | exact ⟨rfl, rfl⟩, Try.t150, .int .i32 0, by kernel_rfl, rfl, rfl, rfl, rfl, rfl, (fun h => by cases h), fun _ => ⟨rfl, rfl⟩⟩
theorem tab151 : tab 151 = ⟨.int .i32, 1, 4, [.i .i32 0]⟩ := rfl
theorem okT151 : OkTI Try.prog 151 ⟨.int .i32, 1, 4, [.i .i32 0]⟩ := ⟨by rw [Try.underlying151]; first | trivial | rfl | exact ⟨rfl, rfl⟩, Try.t151, .int .i32 0, by kernel_rfl, rfl, rfl, rfl, rfl, rfl, (fun h => by cases h), fun _ => ⟨rfl, rfl⟩⟩
theorem tab152 : tab 152 = ⟨.struct [(12, 0), (12, 1), (121, 2), (146, 3), (5, 4), (5, 5), (147, 6), (148, 7), (149, 8), (150, 9), (151, 10)], 11, 48, [.i .u64 0, .i .u64 0, .i .u32 0, .i .u8 0, .i .u8 0, .i .u8 0, .i .u8 0, .o .nilFunc, .o (.pointer none), .i .i32 0, .i .i32 0]⟩ := rfl
theorem okT152 : OkTI Try.prog 152 ⟨.struct [(12, 0), (12, 1), (121, 2), (146, 3), (5, 4), (5, 5), (147, 6), (148, 7), (149, 8), (150, 9), (151, 10)], 11, 48, [.i .u64 0, .i .u64 0, .i .u32 0, .i .u8 0, .i .u8 0, .i .u8 0, .i .u8 0, .o .nilFunc, .o (.pointer none), .i .i32 0, .i .i32 0]⟩ := ⟨by rw [Try.underlying152]; first | trivial | rfl | exact ⟨rfl, rfl⟩, Try.t152, .agg #[.int .u64 0, .int .u64 0, .int .u32 0, .int .u8 0, .int .u8 0, .int .u8 0, .int .u8 0, .nilFunc, .pointer none, .int .i32 0, .int .i32 0], by kernel_rfl, rfl, rfl, rfl, rfl, rfl, fun _ => ⟨_, rfl⟩, (fun h => by cases h)⟩
theorem tab153 : tab 153 = ⟨.struct [(12, 0), (12, 1), (121, 2), (146, 3), (5, 4), (5, 5), (147, 6), (148, 7), (149, 8), (150, 9), (151, 10)], 11, 48, [.i .u64 0, .i .u64 0, .i .u32 0, .i .u8 0, .i .u8 0, .i .u8 0, .i .u8 0, .o .nilFunc, .o (.pointer none), .i .i32 0, .i .i32 0]⟩ := rfl
theorem okT153 : OkTI Try.prog 153 ⟨.struct [(12, 0), (12, 1), (121, 2), (146, 3), (5, 4), (5, 5), (147, 6), (148, 7), (149, 8), (150, 9), (151, 10)], 11, 48, [.i .u64 0, .i .u64 0, .i .u32 0, .i .u8 0, .i .u8 0, .i .u8 0, .i .u8 0, .o .nilFunc, .o (.pointer none), .i .i32 0, .i .i32 0]⟩ := ⟨by rw [Try.underlying153]; first | trivial | rfl | exact ⟨rfl, rfl⟩, Try.t153, .agg #[.int .u64 0, .int .u64 0, .int .u32 0, .int .u8 0, .int .u8 0, .int .u8 0, .int .u8 0, .nilFunc, .pointer none, .int .i32 0, .int .i32 0], by kernel_rfl, rfl, rfl, rfl, rfl, rfl, fun _ => ⟨_, rfl⟩, (fun h => by cases h)⟩
def AllOK (P : Program) : Nat → List TI → Prop
  | _, [] => True
  | i, t :: l => OkTI P i t ∧ AllOK P (i + 1) l
theorem AllOK.at_ {P : Program} : ∀ {l : List TI} {i j : Nat}, AllOK P i l → OkTI P (i + j) (l.getD j ⟨.no, 0, 0, []⟩)
  | [], _, _, _ => rfl
  | t :: l, i, 0, h => h.1
  | t :: l, i, j + 1, h => by
    have := AllOK.at_ (j := j) h.2
    rw [show i + (j + 1) = i + 1 + j by omega]
    exact this
set_option maxRecDepth 100000 in
theorem allOK : AllOK Try.prog 0 tabL := ⟨rfl, okT1, okT2, okT3, okT4, okT5, okT6, okT7, okT8, okT9, okT10, okT11, okT12, okT13, okT14, okT15, okT16, okT17, okT18, okT19, okT20, okT21, okT22, okT23, okT24, okT25, okT26, okT27, okT28, okT29, rfl, okT31, okT32, okT33, okT34, okT35, okT36, okT37, okT38, okT39, okT40, okT41, okT42, okT43, okT44, okT45, okT46, rfl, okT48, okT49, okT50, okT51, okT52, okT53, okT54, okT55, okT56, okT57, okT58, okT59, okT60, okT61, okT62, okT63, okT64, okT65, okT66, okT67, okT68, okT69, okT70, okT71, okT72, okT73, rfl, okT75, okT76, okT77, okT78, okT79, okT80, okT81, okT82, okT83, okT84, okT85, okT86, okT87, okT88, okT89, okT90, rfl, okT92, okT93, okT94, okT95, okT96, okT97, okT98, okT99, okT100, okT101, okT102, okT103, rfl, okT105, okT106, okT107, okT108, okT109, okT110, okT111, okT112, okT113, okT114, rfl, okT116, okT117, okT118, okT119, okT120, okT121, okT122, okT123, okT124, okT125, okT126, okT127, okT128, okT129, okT130, okT131, okT132, okT133, okT134, okT135, okT136, okT137, okT138, okT139, okT140, okT141, rfl, rfl, rfl, okT145, okT146, okT147, okT148, okT149, okT150, okT151, okT152, okT153, rfl, trivial⟩
theorem tabOK : TabOK Try.prog tab := fun t => by
  have := AllOK.at_ (j := t) allOK
  rwa [Nat.zero_add] at this
theorem hmix : Try.prog.follows .mixedOrders = true := by kernel_rfl
attribute [go_sem] tab1 tab2 tab3 tab4 tab5 tab6 tab7 tab8 tab9 tab10 tab11 tab12 tab13 tab14 tab15 tab16 tab17 tab18 tab19 tab20 tab21 tab22 tab23 tab24 tab25 tab26 tab27 tab28 tab29 tab31 tab32 tab33 tab34 tab35 tab36 tab37 tab38 tab39 tab40 tab41 tab42 tab43 tab44 tab45 tab46 tab48 tab49 tab50 tab51 tab52 tab53 tab54 tab55 tab56 tab57 tab58 tab59 tab60 tab61 tab62 tab63 tab64 tab65 tab66 tab67 tab68 tab69 tab70 tab71 tab72 tab73 tab75 tab76 tab77 tab78 tab79 tab80 tab81 tab82 tab83 tab84 tab85 tab86 tab87 tab88 tab89 tab90 tab92 tab93 tab94 tab95 tab96 tab97 tab98 tab99 tab100 tab101 tab102 tab103 tab105 tab106 tab107 tab108 tab109 tab110 tab111 tab112 tab113 tab114 tab116 tab117 tab118 tab119 tab120 tab121 tab122 tab123 tab124 tab125 tab126 tab127 tab128 tab129 tab130 tab131 tab132 tab133 tab134 tab135 tab136 tab137 tab138 tab139 tab140 tab141 tab145 tab146 tab147 tab148 tab149 tab150 tab151 tab152 tab153

end Go.Proofs.Ytomaddpcacoodaa
